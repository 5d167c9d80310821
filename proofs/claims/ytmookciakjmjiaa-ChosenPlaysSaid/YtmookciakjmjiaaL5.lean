/-
  Part 5 of the library that the proof leans on.
-/
import Derived.Shelf.SlIterI.Nil
import Derived.KernelRfl
import Derived.Test.YtmookciakjmjiaaProg
import Derived.Shelf.SortM.Plain
import Derived.Shelf.SortM.SortNone
import Derived.Test.YtmookciakjmjiaaL4
namespace Go.M
open Go
section
variable {P : Program} {E : Env} {μ : Emb} {f : AF} {a : Act} {base B : Nat} {h : AHeap} {w : World}
theorem ERels.get' {l l' : List MapEntry} (hs : ERels μ l l') : ∀ (i : Nat) (e' : MapEntry), l'[i]? = some e' → ∃ e, l[i]? = some e ∧ VRel μ e.key e'.key ∧ VRel μ e.val e'.val ∧ e.born = e'.born := by
 induction hs with
 | nil => intro i e' h; simp at h
 | cons q1 q2 q3 _ ih =>
  intro i e' h
  cases i with
  | zero => simp at h; subst h; exact ⟨_, rfl, q1, q2, q3⟩
  | succ i => simpa using ih i e' (by simpa using h)
theorem run_choose_lt (n : Nat) (hn : 0 < n) (w : World) : ∃ i d, i < n ∧ (choose (.mapNext n)).run P w = .ok i { w with drawn := d } := by
 rw [run_choose]
 by_cases hf : (Question.mapNext n).forced = true
 ·rw [if_pos hf]; exact ⟨0, w.drawn, hn, rfl⟩
 ·rw [if_neg hf]
  exact ⟨_, w.drawn + 1, Nat.mod_lt _ hn, rfl⟩
theorem meet_some {l : List (Option Out)} {o : Out} (h : meet l = some o) : ∀ x ∈ l, x = some o := by
 cases l with
 | nil => intro x hx; simp at hx
 | cons y ys =>
  simp only [meet, Option.bind_eq_some_iff, grd_some, Option.some.injEq, List.all_eq_true] at h
  obtain ⟨o', rfl, h2, rfl⟩ := h
  intro x hx
  rcases List.mem_cons.1 hx with rfl | hx
  ·rfl
  ·have := h2 x hx
   cases x with
   | none => simp at this
   | some o2 => simp only at this; rw [eqLs_eq this]
theorem nextK_sim (H : HRel E base B μ h w) {r : Nat} {m : MT} {K : KV} {out : Out} (ty : TypeId) (hk : nextK h r base K = some out) (hb : μ r = some m) :
 ∃ v h' v' w', K v h' = some out ∧ (Instr.next (.pointer (some ⟨m.r, 0, none⟩)) false ty).run P w = .ok v' w' ∧ VRel μ v v' ∧ Step E base B μ h w μ h' w' := by
 unfold nextK at hk
 simp only [grd_some, ble_iff] at hk
 obtain ⟨hbase, hk⟩ := hk
 obtain ⟨o1, o2, k1, k2, k3⟩ := H.obj r m hb
 split at hk
 ·rename_i since seen last hg
  rw [hg] at k1; cases k1
  cases k3 with
  | miter0 hms =>
   have hgo := run_getObj_map (P := P) k2 (fun _ _ _ => by simp)
   refine ⟨_, _, _, w, hk, ?_, .tuple_of (by simpa using VRels.cons (.bool μ false) .nil), .refl H⟩
   unfold Instr.next
   simp only [Sem.run_bind, hgo, Result.andThen_ok]
   rfl
 ·rename_i mm since seen last hg
  rw [hg] at k1; cases k1
  cases k3 with
  | miter hkm hms =>
   rename_i mk
   have hgo := run_getObj_map (P := P) k2 (fun _ _ _ => by simp)
   split at hk
   ·rename_i es clock hgm
    obtain ⟨p1, p2, j1, j2, j3⟩ := H.obj mm mk hkm
    rw [hgm] at j1; cases j1
    cases j3 with
    | map hs =>
     rename_i es'
     have hgom := run_getObj_map (P := P) j2 (fun _ _ _ => by simp)
     simp only [grd_some] at hk
     obtain ⟨hc1, hk⟩ := hk
     have hlen := hs.length
     have hemp : es'.isEmpty = es.isEmpty := by
      cases es <;> cases h9 : es'.toList <;> rw [h9] at hlen <;> simp at hlen
      ·have : es' = #[] := by apply Array.ext'; simp [h9]
       simp [this]
      ·have : es'.size ≠ 0 := by have := congrArg List.length h9; simp at this; omega
       simp [Array.isEmpty, this]
     have hall : (es'.all fun e => decide (e.born ≥ last)) = es.all (fun e => Nat.ble last e.born) := by
      rw [← Array.all_toList, ← hs.all_born (fun n => decide (n ≥ last))]
      congr 1
      funext e
      rw [Bool.eq_iff_iff, ble_iff]; simp
     have hcond : (!seen.toArray.isEmpty && !es'.isEmpty && es'.all fun e => decide (e.born ≥ last)) = false := by
      rw [hemp, hall]
      have : seen.toArray.isEmpty = seen.isEmpty := by cases seen <;> simp
      rw [this]
      simpa only [Bool.not_eq_true'] using hc1
     have hfil := hs.filter (fun n => !seen.contains n)
     have hleft : (es'.filter fun e => !seen.toArray.contains e.born).toList = es'.toList.filter (fun e => !seen.contains e.born) := by
      simp
     generalize hL : (es'.filter fun e => !seen.toArray.contains e.born) = left at hleft
     split at hk
     ·rename_i hf
      rw [hf] at hfil
      have hl0 : left = #[] := by
       apply Array.ext'
       rw [hleft]
       cases hfil' : es'.toList.filter (fun e => !seen.contains e.born) with
       | nil => rfl
       | cons x y => rw [hfil'] at hfil; cases hfil
      refine ⟨_, _, _, w, hk, ?_, .tuple_of (by simpa using VRels.cons (.bool μ false) .nil), .refl H⟩
      unfold Instr.next
      simp only [Sem.run_bind, hgo, hgom, Result.andThen_ok, hcond, Bool.false_eq_true, if_false, hL, hl0]
      simp [Question.forced]
     ·rename_i e0 l0 hf
      rw [← hf] at hk
      rw [← hleft] at hfil
      have hk0 := meet_some hk
      have hk : ∀ e ∈ es.filter (fun e => !seen.contains e.born), e.born < since ∧ K (.tuple #[.bool true, e.key, e.val]) (h.put r (.miter (some mm) since (seen ++ [e.born]) clock)) = some out := fun e he => by
       have := hk0 _ (List.mem_map_of_mem he)
       simp only [grd_some, blt_iff] at this
       exact this
      have hsz : 0 < left.size := by
       have := hfil.length
       rw [hf] at this
       simp at this; omega
      have hold : ∀ x ∈ left, x.born < since := by
       intro x hx
       obtain ⟨i, hi⟩ := List.mem_iff_getElem?.1 (by simpa using hx : x ∈ left.toList)
       obtain ⟨e, h1, _, _, h4⟩ := hfil.get' i x hi
       rw [← h4]
       exact (hk e (List.mem_of_getElem? h1)).1
      have f1 : (left.filter fun x => decide (x.born < since)) = left := by
       apply Array.filter_eq_self.2
       intro x hx; simpa using hold x hx
      have f2 : (left.filter fun x => decide (x.born ≥ since)) = #[] := by
       apply Array.filter_eq_empty_iff.2
       intro x hx
       have := hold x hx
       simp; omega
      have f3 : left.isEmpty = false := by
       cases hle : left.isEmpty with
       | false => rfl
       | true =>
        have : left = #[] := by simpa using hle
        rw [this] at hsz; simp at hsz
      obtain ⟨i, d, hi, hch⟩ := run_choose_lt (P := P) left.size hsz w
      have hgi := Array.getElem?_eq_getElem hi
      obtain ⟨e, h1, h2, h3, h4⟩ := hfil.get' i left[i] (by rw [Array.getElem?_toList]; exact hgi)
      obtain ⟨hbe, hKe⟩ := hk e (List.mem_of_getElem? h1)
      have Hd := H.congr (w' := { w with drawn := d }) rfl
      have hso := fun o => run_setObj' (P := P) (w := { w with drawn := d }) (o := o) k2 (fun _ _ _ => by simp)
      have st := Step.put (o := .miter (some mm) since (seen ++ [e.born]) clock) Hd hb hbase hg rfl rfl (Upd.set { w with drawn := d } m.r (.mapIter (some mk.r) since (seen.toArray.push left[i].born) clock) (Hd.lt hb)) (by
       have := ORel.miter (μ := μ) (h := h.put r (.miter (some mm) since (seen ++ [e.born]) clock)) (base := base) (b := r) (m := m) (since := since) (last := clock) (seen := seen ++ [e.born]) hkm hms
       rw [h4] at this ⊢
       simpa using this)
      refine ⟨_, _, _, _, hKe, ?_, .tuple_of (by simpa using VRels.cons (.bool μ true) (.cons h2 (.cons h3 .nil))), (Step.drawn H d).trans st⟩
      unfold Instr.next
      simp only [Sem.run_bind, hgo, hgom, Result.andThen_ok, hcond, Bool.false_eq_true, if_false, hL, f1, f2, f3]
      have f4 : (#[] ++ (left ++ #[]).map some : Array (Option MapEntry)) = left.map some := by simp
      rw [f4]
      simp only [Array.size_map, hch, Result.andThen_ok, Array.getElem?_map, hgi, Option.map_some, Sem.run_bind, hso, Sem.run_pure]
   ·cases hk
 ·cases hk
end
end Go.M
namespace Go.M
open Go
def RetK (E : Env) (base B : Nat) (μ : Emb) (h : AHeap) (w : World) (K : KV) (out : Out) : Ending → World → Prop :=
 fun e w' => ∃ v v' h' μ', K v h' = some out ∧ e = .returned v' ∧ VRel μ' v v' ∧ Step E base B μ h w μ' h' w'
def CallOkK (P : Program) (E : Env) (base B : Nat) (cK : CallK) : Prop :=
 ∀ (μ : Emb) (h : AHeap) (w : World) (g : FuncId) (args : List Value) (args' : Array Value) (K : KV) (out : Out), cK g args h K = some out → VRels μ args args'.toList → HRel E base B μ h w →
  ∀ (F : Fence) (n : Nat), Wide F → CallsIn F n P g args' w (RetK E base B μ h w K out)
def RoundOkK (P : Program) (E : Env) (base B : Nat) (rK : RoundK) : Prop :=
 ∀ (μ : Emb) (h : AHeap) (w : World) (l : Nat) (args : List Value) (K : KV) (out : Out) (m : MT) (f0 : AF) (ps : List Tmp) (asg body : Code) (st : LoopState) (p : Option Code) (fn : FuncId) (tmps : Array Value),
  rK l args h K = some out → h.get l = some (.loop st p f0 ps asg body) → μ l = some m → HRel E base B μ h w → FRel μ (AF.setAll (ps.zip args) f0) tmps →
  ∀ (F : Fence) (n : Nat), Wide F → RoundIn F n P m.r fn tmps asg body w (RetK E base B μ h w K out)
def CallFunK (E : Env) (cK : CallK) : Prop := ∀ g args h K out, cK g args h K = some out → (E.func g).isSome = true
def RoundFunK (rK : RoundK) : Prop := ∀ l args h K out, rK l args h K = some out → ∃ st p f0 ps asg body, h.get l = some (.loop st p f0 ps asg body) ∧ ps.length = args.length
section
variable {P : Program} {E : Env} {μ : Emb} {f : AF} {a : Act} {base B : Nat} {h : AHeap} {w : World} {cK : CallK} {rK : RoundK}
theorem noDeferK {o : Oper} {K : KV} {out : Out} {k : AHeap} (h : opK E base cK rK o f k K = some out) : ∀ c, o.op ≠ .defer c := by
 intro c hc
 unfold opK at h
 simp only [apure, aread, aalloc, aeff, hc] at h
 cases h
theorem opK_sim (hE : EnvOk P E) (hcf : CallOkK P E base B cK) (hrf : RoundOkK P E base B rK) (hcF : CallFunK E cK) (hrF : RoundFunK rK) {F : Fence} (hF : Wide F) {n : Nat} (hf : FRel μ f a.tmps) (H : HRel E base B μ h w) {o : Oper} {K : KV} {out : Out} (hr : opK E base cK rK o f h K = some out)
 {next : Act → World → Prop} {Q : Exit → Act → World → Prop} (hn : ∀ μ' v v' h' w', K v h' = some out → VRel μ' v v' → Step E base B μ h w μ' h' w' → next (a.put o.dst v') w') : o.wpIn F n P a w next Q := by
 have hg : GlobOk E μ := H.glob
 refine ⟨fun _ _ => hF.fn _, ?_⟩
 rw [Oper.semAt_eq _ _ _ (noDeferK hr)]
 unfold opK at hr
 split at hr
 ·rename_i it hop
  split at hr
  ·rename_i r hit
   simp only [Option.bind_eq_some_iff] at hit
   obtain ⟨v1, h1, h2⟩ := hit
   have e := asIter_some h2; subst e
   obtain ⟨m, hb, ex⟩ := (ev_rel hg hf h1).inv_ptr
   have hms : m.s = 0 := by
    obtain ⟨o1, o2, k1, k2, k3⟩ := H.obj r m hb
    unfold nextK at hr
    simp only [grd_some] at hr
    have hr2 := hr.2
    cases k3 with
    | siter hs => exact hs
    | miter0 hs => exact hs
    | miter _ hs => exact hs
    | _ => rw [k1] at hr2; simp at hr2
   obtain ⟨v, h', v', w', q0, q1, q2, q3⟩ := nextK_sim (P := P) H o.type hr hb
   rw [hms] at ex
   have he : (execOp a.eval o).run P w = .ok (.value v') w' := by
    unfold execOp
    rw [hop]
    simp only [ex, Nat.add_zero, Sem.run_bind]
    rw [q1]
    simp
   rw [he]
   exact hn μ v v' h' w' q0 q2 q3
  ·cases hr
 ·split at hr
  ·rename_i v hp
   obtain ⟨v', q1, q2⟩ := apure_sim hE hg hf hp
   rw [q2 w]
   exact hn μ _ v' _ w hr q1 (.refl H)
  ·split at hr
   ·rename_i q hq
    split at hr
    ·rename_i v hv
     obtain ⟨v', q1, q2⟩ := aread_sim hE hf H hq hv
     rw [q2]
     exact hn μ _ v' _ w hr q1 (.refl H)
    ·cases hr
   ·split at hr
    ·rename_i md hd hal
     obtain ⟨o', k, hv, S⟩ := aalloc_sim hE hg hf hal
     rw [S.run w]
     have st := Step.alloc (o := md.obj h.size) H (Alc.mk' w o') k (fun cs f tip thr hh => by cases md <;> simp [Made.obj] at hh; exact ⟨hh.2.1.symm, hh.2.2.1.symm⟩) (S.obj _ _ _ _ _ (upd_le H.fresh))
     exact hn _ _ _ _ _ hr (S.val _ _ _ (upd_self _ _ _)) st
    ·split at hr
     ·rename_i v h' he
      obtain ⟨μ', nx, v', w', q1, q2, q3, q4⟩ := aeff_val hE hf H he
      rw [q1]
      rcases q2 with rfl | ⟨rfl, rfl⟩
      ·exact hn μ' _ v' _ w' hr q3 q4
      ·exact hn μ' _ undef _ w' hr q3 q4
     ·rename_i g args h' he
      have hfun := hcF _ _ _ _ _ hr
      obtain ⟨args', e, q1, q2⟩ := aeff_enter hE hf H he hfun
      subst e
      rw [q2]
      refine ⟨hF.ok n, (hcf μ h' w g args args' K out hr q1 H F (n - 1) hF).mono ?_⟩
      rintro e w' ⟨v, v', h2, μ', k0, rfl, k1, k2⟩
      exact hn μ' v v' h2 w' k0 k1 k2
     ·rename_i l args h' he
      obtain ⟨st, p, f0, ps, asg, body, hl, hlen⟩ := hrF _ _ _ _ _ hr
      have hh : h' = h := by
       obtain ⟨dst, op, type, pos, after, guard⟩ := o
       cases op <;> simp only [aeff] at he <;> first | cases he | skip
       all_goals simp only [Option.bind_eq_some_iff, Option.some.injEq, Prod.mk.injEq, grd_some, reduceCtorEq, false_and, and_false, exists_false] at he
       ·obtain ⟨_, _, _, _, he⟩ := he
        split at he
        ·split at he <;> simp at he
        ·cases he
       ·obtain ⟨_, _, he⟩ := he
        split at he
        ·first | (simp at he; done) | (obtain ⟨_, _, he⟩ := he; simp at he; done) | (simp only [Option.bind_eq_some_iff] at he; obtain ⟨_, _, he⟩ := he; cases he)
        ·try simp only [Option.bind_eq_some_iff] at he
         obtain ⟨_, _, he⟩ := he
         split at he
         ·simp at he
         ·simp only [Option.some.injEq, Prod.mk.injEq] at he; exact he.2.symm
         ·cases he
        ·cases he
      subst hh
      obtain ⟨m, args', lo, _, hb, hw, q1, q2, q3⟩ := aeff_round (P := P) hf H he hl hlen
      rw [q2]
      refine ⟨hF.ok n, (hrf μ h' w l args K out m f0 ps asg body st p lo.fn _ hr hl hb H (setAll_rel q3 q1) F (n - 1) hF).mono ?_⟩
      rintro e w' ⟨v, v', h2, μ', k0, rfl, k1, k2⟩
      exact hn μ' v v' h2 w' k0 k1 k2
     ·cases hr
theorem opsK_sim (hE : EnvOk P E) (hcf : CallOkK P E base B cK) (hrf : RoundOkK P E base B rK) (hcF : CallFunK E cK) (hrF : RoundFunK rK) {F : Fence} (hF : Wide F) {n : Nat} {ops : Array Oper} {Q : Exit → Act → World → Prop} {K : AF → AHeap → Option Out} {out : Out} : ∀ (rest : List Oper) (k : Nat) (μ : Emb) (f : AF) (h : AHeap) (a : Act) (w : World),
 (∀ j, rest[j]? = ops[k + j]?) → opsK E base cK rK ops.toList rest f h K = some out → FRel μ f a.tmps → HRel E base B μ h w →
 (∀ f' h' μ' a' w', K f' h' = some out → FRel μ' f' a'.tmps → a'.defers = a.defers → Step E base B μ h w μ' h' w' → Q .normal a' w') → wpOpsIn F n P ops Q (List.range' k rest.length) a w
 | [], k, μ, f, h, a, w, _, ha, hf, H, hQ => hQ _ _ μ a w ha hf rfl (.refl H)
 | o :: rest, k, μ, f, h, a, w, hk, ha, hf, H, hQ => by
  have h0 : ops[k]? = some o := by simpa using (hk 0).symm
  have hk' : ∀ j, rest[j]? = ops[k + 1 + j]? := fun j => by have := hk (j + 1); simpa [Nat.add_assoc, Nat.add_comm 1 j] using this
  simp only [List.length_cons, List.range'_succ, wpOpsIn, h0, wanted_rel hf]
  simp only [opsK] at ha
  split at ha
  ·rename_i hw
   rw [if_pos hw]
   refine opK_sim hE hcf hrf hcF hrF hF hf H ha fun μ' v v' h' w' q0 q1 q2 => ?_
   refine opsK_sim hE hcf hrf hcF hrF hF rest (k + 1) μ' (f.put o.dst v) h' _ w' hk' q0 ((hf.mono q2.le).put q1 o.dst) q2.rel fun f2 h2 μ2 a2 w2 p0 p1 p2 p3 => ?_
   exact hQ f2 h2 μ2 a2 w2 p0 p1 (by rw [p2]; cases o.dst <;> rfl) (q2.trans p3)
  ·rename_i hw
   rw [if_neg (by rw [hw]; simp)]
   refine ⟨fun _ _ => hF.fn _, ?_⟩
   refine opsK_sim hE hcf hrf hcF hrF hF rest (k + 1) μ (f.put o.dst undef) h _ w hk' ha (hf.put (.undef μ) o.dst) H fun f2 h2 μ2 a2 w2 p0 p1 p2 p3 => ?_
   exact hQ f2 h2 μ2 a2 w2 p0 p1 (by rw [p2]; cases o.dst <;> rfl) p3
def CodeOkK (P : Program) (E : Env) (base B k : Nat) : Prop :=
 ∀ (c : Code) (f : AF) (h : AHeap) (K : KC) (out : Out), evalK E base k c f h K = some out →
  ∀ (μ : Emb) (a : Act) (w : World) (W0 : Nat) (rs : List Nat), FRel μ f a.tmps → HRel E base B μ h w → MarksOk W0 μ w a.defers rs → W0 ≤ w.heap.size →
  ∀ (F : Fence) (n : Nat) (Q : Exit → Act → World → Prop), Wide F → (F.round = none ∨ noRange c = true) →
  (∀ ex f' h' μ' a' w' rs', K ex f' h' = some out → FRel μ' f' a'.tmps → MarksOk W0 μ' w' a'.defers rs' → Step E base B μ h w μ' h' w' → Q (toExit ex) a' w') → c.wpIn F n P Q a w
theorem callFunK (run : RunK) : CallFunK E (callKB E run) := by
 intro g args h K out hr
 unfold callKB at hr
 split at hr
 ·cases hr
 ·rename_i fn hfn; rw [hfn]; rfl
theorem roundFunK (run : RunK) : RoundFunK (roundKB base run) := by
 intro l args h K out hr
 unfold roundKB at hr
 simp only [grd_some] at hr
 obtain ⟨_, hr⟩ := hr
 split at hr
 ·rename_i p f ps asg body hg
  simp only [grd_some, Bool.and_eq_true, beq_iff] at hr
  exact ⟨_, _, _, _, _, _, hg, hr.1.1.1⟩
 ·cases hr
theorem callOkK (hE : EnvOk P E) (hO : OrcOk P E base B) {k : Nat} (hk : CodeOkK P E base B k) : CallOkK P E base B (callKB E (evalK E base k)) := by
 intro μ h w g args args' K out hc hr H F n hF
 unfold callKB at hc
 split at hc
 ·cases hc
 rename_i fn h1
 split at hc
 ·rename_i r ho
  refine (hO μ h w g args args' r.1 r.2 ho hr H F n hF).mono ?_
  rintro e w' ⟨v', μ', rfl, k1, k2⟩
  exact ⟨_, v', _, μ', hc, rfl, k1, k2⟩
 ·split at hc
  ·cases hc
  rename_i c h2
  simp only [grd_some, ble_iff] at hc
  obtain ⟨hn, hc⟩ := hc
  obtain ⟨f1, f2, f3⟩ := hE.func _ _ h1
  have fin : CallsIn F.plain n P g args' w (RetK E base B μ h w K out) := by
   refine callsIn_of_wp_marks f1 h2 (hF.fn _) ?_ rfl
   refine hk c _ h _ out hc μ _ w w.heap.size [] (enter_rel hr hn) H .nil (Nat.le_refl _) F.plain n _ hF.plain (.inl rfl) ?_
   intro ex fe he μ' a' w' rs' q0 q1 q2 q3
   have lv : ∀ vs, aresults E he fe fn.results.toList = some vs → K (oneOrTuple vs) he = some out → LeavesInM F.plain n P fn a'.tmps (RetK E base B μ h w K out) a'.defers .returning w' := fun vs h3 h4 =>
    leaves_marks a'.defers rs' w' q2 q3 fun w2 s2 => by
     obtain ⟨v', p1, p2⟩ := results_sim (P := P) hE q1 s2.rel h3
     exact ⟨v', p1, _, v', _, μ', h4, rfl, p2, s2⟩
   cases ex with
   | exit id => simp at q0
   | normal =>
    simp only at q0
    split at q0
    ·rename_i vs h3; exact lv vs h3 q0
    ·cases q0
   | ret =>
    simp only at q0
    split at q0
    ·rename_i vs h3; exact lv vs h3 q0
    ·cases q0
  exact fin
end
end Go.M
namespace Go.M
open Go
section
variable {P : Program} {E : Env} {base B : Nat}
theorem roundOkK {k : Nat} (hk : CodeOkK P E base B k) : RoundOkK P E base B (roundKB base (evalK E base k)) := by
 intro μ h w l args K out m f0 ps asg body st p fn tmps hr hl hb H hf F n hF
 unfold roundKB at hr
 simp only [grd_some, ble_iff] at hr
 obtain ⟨hbase, hr⟩ := hr
 rw [hl] at hr
 cases st with
 | ready =>
  simp only [grd_some, Bool.and_eq_true, beq_iff] at hr
  obtain ⟨⟨⟨hlen, hna⟩, hnb⟩, hr⟩ := hr
  refine roundIn_of_wpIn (hF.fn _) ?_
  refine hk asg _ h _ out hr μ _ w w.heap.size [] hf H .nil (Nat.le_refl _) (F.inRound m.r) n _ (hF.inRound _) (.inr hna) ?_
  intro ex1 f1 h1 μ1 a1 w1 rs1 q0 q1 q2 s1
  cases ex1 with
  | exit id => simp at q0
  | ret => simp at q0
  | normal =>
   simp only at q0
   split at q0
   ·rename_i p1 f01 ps1 asg1 body1 hl1
    have hb1 := s1.le _ _ hb
    obtain ⟨lo1, e1, e2, e3, s2⟩ := loop_put s1.rel hb1 hbase hl1 .busy p1
    have s2' : Step E base B μ1 h1 w1 μ1 (h1.put l (.loop .busy p1 f01 ps1 asg1 body1)) { w1 with heap := w1.heap.setIfInBounds m.r (.loop { lo1 with state := .busy }) } := by
     rw [← e3] at s2 ⊢
     exact s2
    refine ⟨{ w1 with heap := w1.heap.setIfInBounds m.r (.loop { lo1 with state := .busy }) }, ?_, ?_⟩
    ·unfold Instr.beginRound
     simp only [Sem.run_bind, run_getLoop (P := P) e1, Result.andThen_ok, run_setObj' (P := P) e1 (fun _ _ _ => by simp), e2, Sem.run_pure]
    refine hk body f1 _ _ out q0 μ1 a1 _ w.heap.size rs1 q1 s2'.rel (q2.step s2') (by rw [Array.size_setIfInBounds]; exact s1.grow.size) (F.inRound m.r) n _ (hF.inRound _) (.inr hnb) ?_
    intro ex f2 h2 μ3 a3 w3 rs3 q0 q3 q4 s3
    have sall := (s1.trans s2')
    have hb3 := s3.le _ _ hb1
    split at q0
    ·rename_i st2 p2 f02 ps2 asg2 body2 hl2
     have key : ∀ (st' : LoopState) (jump : Option Code), (jump.isNone = true → st' = .ready) → (jump.isNone = false → st' = .done) → ∃ w4, (Instr.endRound m.r jump).run P w3 = .ok (.bool jump.isNone) w4 ∧ Step E base B μ3 h2 w3 μ3 (h2.put l (.loop st' jump f02 ps2 asg2 body2)) w4 := by
      intro st' jump hj1 hj2
      obtain ⟨lo3, d1, d2, d3, s4⟩ := loop_put s3.rel hb3 hbase hl2 st' jump
      refine ⟨_, ?_, s4⟩
      unfold Instr.endRound
      simp only [Sem.run_bind, run_getLoop (P := P) d1, Result.andThen_ok, run_setObj' (P := P) d1 (fun _ _ _ => by simp), Sem.run_pure]
      cases hj : jump.isNone with
      | true => rw [hj1 hj]; simp
      | false => rw [hj2 hj]; simp
     cases ex with
     | normal =>
      obtain ⟨w4, k1, k2⟩ := key .ready none (fun _ => rfl) (fun h => by simp at h)
      exact ⟨_, w4, k1, _, _, _, μ3, q0, rfl, .bool _ _, (sall.trans s3).trans k2⟩
     | ret =>
      obtain ⟨w4, k1, k2⟩ := key .done (some .ret) (fun h => by simp at h) (fun _ => rfl)
      exact ⟨_, w4, k1, _, _, _, μ3, q0, rfl, .bool _ _, (sall.trans s3).trans k2⟩
     | exit id =>
      obtain ⟨w4, k1, k2⟩ := key .done (some (.exit id)) (fun h => by simp at h) (fun _ => rfl)
      exact ⟨_, w4, k1, _, _, _, μ3, q0, rfl, .bool _ _, (sall.trans s3).trans k2⟩
    ·cases q0
   ·cases q0
 | busy => cases hr
 | done => cases hr
 | exhausted => cases hr
theorem codeOkK (hE : EnvOk P E) (hO : OrcOk P E base B) (hD : DrawSim P E base B) : ∀ k, CodeOkK P E base B k ∧
 (∀ (b : Code) (f : AF) (h : AHeap) (K : KC) (out : Out), evalK E base k (.loop b) f h K = some out →
  ∀ (μ : Emb) (a : Act) (w : World) (W0 : Nat) (rs : List Nat), FRel μ f a.tmps → HRel E base B μ h w → MarksOk W0 μ w a.defers rs → W0 ≤ w.heap.size →
  ∀ (F : Fence) (n : Nat) (Q : Exit → Act → World → Prop), Wide F → (F.round = none ∨ noRange b = true) →
  (∀ ex f' h' μ' a' w' rs', K ex f' h' = some out → FRel μ' f' a'.tmps → MarksOk W0 μ' w' a'.defers rs' → Step E base B μ h w μ' h' w' → Q (toExit ex) a' w') → Code.roundsIn F n P b Q k a w) := by
 intro k
 induction k with
 | zero => exact ⟨fun c f h K out hr => by simp [evalK] at hr, fun b f h K out hr => by simp [evalK] at hr⟩
 | succ k ih =>
  obtain ⟨hk, hloop⟩ := ih
  have hcall := callOkK hE hO hk
  have hround := roundOkK hk
  have loopk : ∀ (b : Code) (f : AF) (h : AHeap) (K : KC) (out : Out), evalK E base (k + 1) (.loop b) f h K = some out →
   ∀ (μ : Emb) (a : Act) (w : World) (W0 : Nat) (rs : List Nat), FRel μ f a.tmps → HRel E base B μ h w → MarksOk W0 μ w a.defers rs → W0 ≤ w.heap.size →
   ∀ (F : Fence) (n : Nat) (Q : Exit → Act → World → Prop), Wide F → (F.round = none ∨ noRange b = true) →
   (∀ ex f' h' μ' a' w' rs', K ex f' h' = some out → FRel μ' f' a'.tmps → MarksOk W0 μ' w' a'.defers rs' → Step E base B μ h w μ' h' w' → Q (toExit ex) a' w') → Code.roundsIn F n P b Q (k + 1) a w := by
   intro b f h K out hr μ a w W0 rs hf H hm hW F n Q hF hrg hQ
   simp only [evalK] at hr
   rw [roundsIn_succ]
   refine hk b f h _ out hr μ a w W0 rs hf H hm hW F n _ hF hrg fun ex f1 h1 μ1 a1 w1 rs1 q0 q1 q2 s1 => ?_
   cases ex with
   | normal => exact hloop b f1 h1 K out q0 μ1 a1 w1 W0 rs1 q1 s1.rel q2 (Nat.le_trans hW s1.grow.size) F n Q hF hrg fun ex f2 h2 μ2 a2 w2 rs2 p0 p1 p2 s2 => hQ ex f2 h2 μ2 a2 w2 rs2 p0 p1 p2 (s1.trans s2)
   | exit id => exact hQ _ f1 h1 μ1 a1 w1 rs1 q0 q1 q2 s1
   | ret => exact hQ _ f1 h1 μ1 a1 w1 rs1 q0 q1 q2 s1
  refine ⟨?_, loopk⟩
  intro c f h K out hr μ a w W0 rs hf H hm hW F n Q hF hrg hQ
  cases c with
  | skip => exact wpIn_skip (hQ .normal f h μ a w rs (by simpa [evalK] using hr) hf hm (.refl H))
  | exit id => exact wpIn_exit (hQ (.exit id) f h μ a w rs (by simpa [evalK] using hr) hf hm (.refl H))
  | ret => exact wpIn_ret (hQ .ret f h μ a w rs (by simpa [evalK] using hr) hf hm (.refl H))
  | seq x y =>
   simp only [evalK] at hr
   have hx : F.round = none ∨ noRange x = true := hrg.imp (fun h => h) fun h => by simp [noRange] at h; exact h.1
   have hy : F.round = none ∨ noRange y = true := hrg.imp (fun h => h) fun h => by simp [noRange] at h; exact h.2
   refine wpIn_seq ?_
   refine hk x f h _ out hr μ a w W0 rs hf H hm hW F n _ hF hx fun ex f1 h1 μ1 a1 w1 rs1 q0 q1 q2 s1 => ?_
   cases ex with
   | normal => exact hk y f1 h1 K out q0 μ1 a1 w1 W0 rs1 q1 s1.rel q2 (Nat.le_trans hW s1.grow.size) F n Q hF hy fun ex f2 h2 μ2 a2 w2 rs2 p0 p1 p2 s2 => hQ ex f2 h2 μ2 a2 w2 rs2 p0 p1 p2 (s1.trans s2)
   | exit id => exact hQ _ f1 h1 μ1 a1 w1 rs1 q0 q1 q2 s1
   | ret => exact hQ _ f1 h1 μ1 a1 w1 rs1 q0 q1 q2 s1
  | cond cx x y =>
   simp only [evalK] at hr
   have hx : F.round = none ∨ noRange x = true := hrg.imp (fun h => h) fun h => by simp [noRange] at h; exact h.1
   have hy : F.round = none ∨ noRange y = true := hrg.imp (fun h => h) fun h => by simp [noRange] at h; exact h.2
   cases hb : (ev E f cx).bind asB with
   | none => rw [hb] at hr; cases hr
   | some b =>
    simp only [Option.bind_eq_some_iff] at hb
    obtain ⟨v, h1, h2⟩ := hb
    have hb : (ev E f cx).bind asB = some b := by simp [h1, h2]
    rw [hb] at hr
    have e := asB_some h2; subst e
    have hc := (ev_rel H.glob hf h1).inv_scalar rfl
    cases b with
    | true => exact wpIn_cond_true hc (hk x f h K out hr μ a w W0 rs hf H hm hW F n Q hF hx hQ)
    | false => exact wpIn_cond_false hc (hk y f h K out hr μ a w W0 rs hf H hm hW F n Q hF hy hQ)
  | block id b =>
   simp only [evalK] at hr
   have hb' : F.round = none ∨ noRange b = true := hrg.imp (fun h => h) fun h => by simpa [noRange] using h
   refine wpIn_block ?_
   refine hk b f h _ out hr μ a w W0 rs hf H hm hW F n _ hF hb' fun ex f1 h1 μ1 a1 w1 rs1 q0 q1 q2 s1 => ?_
   cases ex with
   | normal => exact hQ _ f1 h1 μ1 a1 w1 rs1 q0 q1 q2 s1
   | ret => exact hQ _ f1 h1 μ1 a1 w1 rs1 q0 q1 q2 s1
   | exit id' =>
    simp only [bif_eq] at q0
    show (if id' = id then Q .normal a1 w1 else Q (.exit id') a1 w1)
    by_cases e : id' = id
    ·rw [if_pos (beq_iff.2 e)] at q0
     rw [if_pos e]; exact hQ _ f1 h1 μ1 a1 w1 rs1 q0 q1 q2 s1
    ·rw [if_neg (fun hh => e (beq_iff.1 hh))] at q0
     rw [if_neg e]; exact hQ _ f1 h1 μ1 a1 w1 rs1 q0 q1 q2 s1
  | loop b =>
   exact wpIn_loop_rounds (k + 1) (loopk b f h K out hr μ a w W0 rs hf H hm hW F n Q hF (hrg.imp (fun h => h) fun h => by simpa [noRange] using h) hQ)
  | region id ops draw =>
   simp only [evalK] at hr
   cases draw with
   | false =>
    refine wpIn_region ?_
    have := opsK_sim hE hcall hround (callFunK _) (roundFunK _) hF (n := n) (ops := ops) (Q := Q) ops.toList 0 μ f h a w (fun j => by simp) hr hf H fun f' h' μ1 a1 w1 q0 q1 q2 s1 => hQ _ f' h' μ1 a1 w1 rs q0 q1 (by rw [q2]; exact hm.step s1) s1
    rw [List.range_eq_range', ← Array.length_toList]
    exact this
   | true =>
    simp only at hr
    split at hr
    ·rename_i ex f' h' hreg
     have hreg2 : aeval E base (k + 1) (.region id ops true) f h = some (ex, f', h') := by simpa only [aeval] using hreg
     exact (codeOk hE hO hD (k + 1)).1 _ f h ex f' h' hreg2 μ a w W0 rs hf H hm hW F n Q hF hrg fun μ' a' w' rs' q1 q2 s1 => hQ ex f' h' μ' a' w' rs' hr q1 q2 s1
    ·cases hr
  | rangeFunc g ps asg body =>
   have hro : F.round = none := hrg.resolve_right (by simp [noRange])
   simp only [evalK] at hr
   split at hr
   ·rename_i gid first captured h1
    simp only [grd_some, ble_iff] at hr
    obtain ⟨hbase, hc⟩ := hr
    have hgr := ev_rel H.glob hf h1
    generalize hq : a.eval g = q at hgr
    cases hgr with
    | lit hh => simp [plain1] at hh
    | func t1 t2 t3 t4 =>
     rename_i first' captured'
     refine wpIn_rangeFunc fun fn _ => ?_
     let wA : World := { w with heap := w.heap.push (.deferred (some [])) }
     let lo : Loop := { state := .ready, pending := none, fn := fn, tmps := a.tmps, params := ps, assign := asg, body := body, defers := w.heap.size }
     let wB : World := { wA with heap := wA.heap.push (.loop lo) }
     have sA : Step E base B μ h w μ h wA := Step.alcW H (Alc.mk' w _)
     have hszA : wA.heap.size = w.heap.size + 1 := by simp [wA]
     have sB := Step.alloc (o := .loop .ready none f ps.toList asg body) sA.rel (Alc.mk' wA (.loop lo)) 0 (fun _ _ _ _ hh => by cases hh) (by
      have := ORel.loop (μ := upd μ h.size ⟨wA.heap.size, 0, 0⟩) (h := h.push (.loop .ready none f ps.toList asg body)) (base := base) (b := h.size) (m := ⟨wA.heap.size, 0, 0⟩) (st := .ready) (p := none) (ps := ps.toList) (asg := asg) (body := body) (fn := fn) (d := w.heap.size) (hf.mono (upd_le H.fresh))
      simpa using this)
     let mk : Deferred := { target := .collected w.heap.size, args := #[] }
     have hmk : MarkOk W0 μ wA mk w.heap.size := ⟨rfl, by simp [wA], fun b m hb he => by have := H.lt hb; omega, hW⟩
     have hnr : w.heap.size ∉ rs := by
      have : ∀ {ds : List Deferred} {rs : List Nat}, MarksOk W0 μ w ds rs → ∀ r ∈ rs, r < w.heap.size := by
       intro ds rs k
       induction k with
       | nil => intro r hr; simp at hr
       | cons h1 _ _ ih => intro r hr; rcases List.mem_cons.1 hr with rfl | hr
                           ·exact (Array.getElem?_eq_some_iff.1 h1.obj).1
                           ·exact ih r hr
      intro hmem
      have := this hm _ hmem
      omega
     have hmarks : MarksOk W0 μ wA (mk :: a.defers) (w.heap.size :: rs) := .cons hmk hnr (hm.step sA)
     let args' : Array Value := first' ++ #[.func (.yield wA.heap.size) #[] #[]] ++ captured'
     have hfun := callFunK (E := E) _ _ _ _ _ _ hc
     obtain ⟨fnr, hfnr⟩ := Option.isSome_iff_exists.1 hfun
     obtain ⟨g1, g2, g3⟩ := hE.func _ _ hfnr
     have hbn : fnr.body.isNone = false := by cases hx : fnr.body <;> simp_all
     have hargs : VRels (upd μ h.size ⟨wA.heap.size, 0, 0⟩) (first.toList ++ [.func (.yield h.size) #[] #[]] ++ captured.toList) args'.toList := by
      have hle : μ.le (upd μ h.size ⟨wA.heap.size, 0, 0⟩) := upd_le H.fresh
      have v1 := (VRels.of_arr t1 t2).mono hle
      have v3 := (VRels.of_arr t3 t4).mono hle
      have v2 := VRels.cons (VRel.yield (upd_self μ h.size ⟨wA.heap.size, 0, 0⟩)) .nil
      simpa [args'] using (v1.append v2).append v3
     refine ⟨wA.heap.size, [mk], wB, { target := .fn (.func gid) captured', args := first' ++ #[.func (.yield wA.heap.size) #[] #[]] }, wB, gid, args', wB, ?_, ?_, fun _ _ => hF.fn _, ?_, hF.ok n, ?_⟩
     ·rw [hro]
      unfold Instr.enterLoop
      simp only [Sem.run_bind, run_newObj, Result.andThen_ok, Sem.run_pure]
      rfl
     ·have hcv : ∀ v : Value, a.eval (.const v) = v := fun _ => rfl
      simp [resolve, rangeCall, hq, Deferred.ofValue, Sem.run_pure, hcv]
     ·simp only [invoke, callFunc, Sem.run_bind, run_program, Result.andThen_ok, g1, g3, hbn, Bool.false_eq_true, if_false, Sem.run_pure]
      rfl
     ·refine (hcall _ _ wB gid _ args' _ out hc hargs sB.rel F (n - 1) hF).mono ?_
      rintro e w3 ⟨rv, v', h2, μ3, q0, rfl, k1, s3⟩
      have hb3 : μ3 h.size = some ⟨wA.heap.size, 0, 0⟩ := s3.le _ _ (upd_self _ _ _)
      simp only at q0
      split at q0
      ·rename_i st p f0 ps0 asg0 body0 hl
       simp only [grd_some] at q0
       obtain ⟨hst, q0⟩ := q0
       obtain ⟨lo3, d1, d2, d3, s4⟩ := loop_put s3.rel hb3 hbase hl .exhausted p
       have s4' : Step E base B μ3 h2 w3 μ3 (h2.put h.size (.loop .exhausted p f0 ps0 asg0 body0)) { w3 with heap := w3.heap.setIfInBounds wA.heap.size (.loop { lo3 with state := .exhausted }) } := by
        rw [← d3] at s4 ⊢
        exact s4
       have sall := ((sA.trans sB).trans s3).trans s4'
       have hm4 : MarksOk W0 μ3 { w3 with heap := w3.heap.setIfInBounds wA.heap.size (.loop { lo3 with state := .exhausted }) } (mk :: a.defers) (w.heap.size :: rs) := ((hmarks.step sB).step s3).step s4'
       refine ⟨p, { w3 with heap := w3.heap.setIfInBounds wA.heap.size (.loop { lo3 with state := .exhausted }) }, ?_, ?_⟩
       ·unfold Instr.endLoop
        simp only [Sem.run_bind, run_getLoop (P := P) d1, Result.andThen_ok]
        rw [if_neg (by rw [d2]; intro hh; rw [bne_iff_ne] at hst; exact hst (eq_of_beq hh))]
        simp only [Sem.run_bind, run_setObj' (P := P) d1 (fun _ _ _ => by simp), Result.andThen_ok, Sem.run_pure, d3]
       ·cases p with
        | none => exact hQ _ f _ μ3 _ _ _ q0 (hf.mono sall.le) hm4 sall
        | some cj =>
         exact hk cj f _ K out q0 μ3 { a with defers := mk :: a.defers } _ W0 _ (hf.mono sall.le) s4'.rel hm4 (Nat.le_trans hW sall.grow.size) F n Q hF (.inl hro) fun ex f5 h5 μ5 a5 w5 rs5 p0 p1 p2 s5 => hQ ex f5 h5 μ5 a5 w5 rs5 p0 p1 p2 (sall.trans s5)
      ·cases q0
   ·cases hr
  | scope b => simp only [evalK] at hr; cases hr
  | label l => simp only [evalK] at hr; cases hr
  | goto l => simp only [evalK] at hr; cases hr
  | refuse s => simp only [evalK] at hr; cases hr
theorem callK_ok (hE : EnvOk P E) (hO : OrcOk P E base B) (hm : P.follows .mixedOrders = true) (n : Nat) : CallOkK P E base B (callK E base n) :=
 callOkK hE hO (codeOkK hE hO (drawSim hE hm) n).1
end
end Go.M
namespace Go.M
open Go
def outK (base : Nat) : KV := fun v h' => match v with
 | .slice (some ⟨b, o, some z⟩) len _ => (readCells h' b o (len * z)).bind fun cs => grd (Nat.ble base b && Nat.blt 0 len && cs.all scalar) (some (.bool false :: goInt len :: goInt z :: cs))
 | v => grd (plain1 v) (some [.bool true, v])
def ansOf (h : AHeap) : Out → Option (Value × AHeap)
 | [.bool true, v] => grd (plain1 v) (some (v, h))
 | .bool false :: .int _ (.ofNat len) :: .int _ (.ofNat z) :: cs => some (.slice (some ⟨h.size, 0, some z⟩) len (len + 1), h.push (.cells cs h.size (h.size + 1) 0))
 | _ => none
noncomputable def confl (E : Env) (n : Nat) : CallF := fun g args h => (callK E h.size n g args h (outK h.size)).bind (ansOf h)
theorem HRel.ext {E : Env} {base B : Nat} {μ : Emb} {h : AHeap} {w w' : World} (H : HRel E base B μ h w) (hs : w.heap.size ≤ w'.heap.size) (hk : ∀ r, r < w.heap.size → w'.heap[r]? = w.heap[r]?) : HRel E base B μ h w' :=
 ⟨H.dom, H.high, fun b m hb => by
  obtain ⟨p, p', k1, k2, k3⟩ := H.obj b m hb
  exact ⟨p, p', k1, by rw [hk _ (H.lt hb)]; exact k2, k3⟩, H.own, H.alias, H.fam, H.glob, Nat.le_trans H.low hs, H.bsz, H.wf, H.root⟩
theorem HRel.rebase {E E0 : Env} {base B : Nat} {μ : Emb} {h : AHeap} {w : World} (H : HRel E base B μ h w) (hg : ∀ g, E0.glob g = true → E.glob g = true) : HRel E0 h.size w.heap.size μ h w :=
 ⟨H.dom, H.high, fun b m hb => by
  obtain ⟨p, p', k1, k2, k3⟩ := H.obj b m hb
  have hd := H.dom b m hb
  refine ⟨p, p', k1, k2, ?_⟩
  cases k3 with
  | cells hn hl hf hc => exact .cells hn hl (fun h => by omega) hc
  | map hs => exact .map hs
  | siter hs => exact .siter hs
  | miter0 hs => exact .miter0 hs
  | miter hk hs => exact .miter hk hs
  | loop hf => exact .loop hf
  | bag hp hs hc hn => exact .bag hp hs hc hn, fun b m hb hbb => by have := H.dom b m hb; omega, fun b1 b2 m1 m2 h1 h2 _ _ hbb => by have := H.dom b1 m1 h1; have := H.dom b2 m2 h2; omega, H.fam, fun g hgl => H.glob g (hg g hgl), Nat.le_refl _, Nat.le_refl _, H.wf, H.root⟩
section
variable {P : Program} {E E0 : Env} {base B : Nat}
theorem confl_post {μ : Emb} {h hX : AHeap} {w : World} (H : HRel E base B μ h w) (hX0 : hX.size = h.size) {out : Out} {v : Value} {h' : AHeap} (hans : ansOf h out = some (v, h')) {u u' : Value} {h1 : AHeap} {μ1 : Emb} {w' : World}
 (hK : outK h.size u h1 = some out) (hv : VRel μ1 u u') (S : Step E0 h.size w.heap.size μ hX w μ1 h1 w') : RetPost E base B μ h w v h' (.returned u') w' := by
 have hold : ∀ r, r < w.heap.size → w'.heap[r]? = w.heap[r]? := fun r hr' => S.grow.keep r hr' fun b m hb _ => H.dom b m hb
 have Hx := H.ext S.grow.size hold
 have gr : Grow base μ w w' := ⟨S.grow.tape, S.grow.os, S.grow.output, S.grow.size, fun r hr' _ => hold r hr'⟩
 have plain : ∀ v : Value, plain1 v = true → ansOf h [.bool true, v] = some (v, h) := fun v hp => by simp [ansOf, grd, hp]
 unfold outK at hK
 split at hK
 ·rename_i b o z len cap
  simp only [Option.bind_eq_some_iff, grd_some, Bool.and_eq_true, ble_iff, blt_iff, Option.some.injEq] at hK
  obtain ⟨cs, hrd, ⟨⟨hbb, hlen⟩, hsc⟩, rfl⟩ := hK
  simp only [ansOf, goInt, Option.some.injEq, Prod.mk.injEq] at hans
  obtain ⟨rfl, rfl⟩ := hans
  cases hv with
  | lit hh => simp [plain1] at hh
  | slice0 hb => omega
  | slice hb q1 q2 q3 q4 =>
   rename_i cap' m
   obtain ⟨o1, o2, k1, k2, k3⟩ := S.rel.obj b m hb
   obtain ⟨rc1, rc2⟩ := S.rel.readCells hb hrd
   have hfresh : w.heap.size ≤ m.r := by
    have hn : μ b = none := by
     cases hx : μ b with
     | none => rfl
     | some mx => have := H.dom b mx hx; omega
    rcases (S.new b m hn hb).2.2 with h5 | ⟨b0, m0, r1, r2, _⟩
    ·exact h5
    ·have := H.dom b0 m0 r2; omega
   let m2 : MT := ⟨m.r, m.s + o, m.n⟩
   have Hp := Hx.pushA (o := .cells cs h.size (h.size + 1) 0) (fun _ _ _ _ hh => by cases hh; rfl)
   have hget : (h.push (.cells cs h.size (h.size + 1) 0)).get h.size = some (.cells cs h.size (h.size + 1) 0) := by rw [AHeap.get_push, if_pos rfl]
   obtain ⟨c0, e0, fr0, hobj, hcn, hcf, hcr⟩ : ∃ c e fr, w'.heap[m.r]? = some (.cells c e fr) ∧ c.size = m.n ∧ NoFr fr m.n ∧ (∀ (i : Nat) v, cs[i]? = some v → ∃ v', c[m.s + o + i]? = some v' ∧ VRel μ1 v v') := by
    have hrd2 := hrd
    unfold M.readCells at hrd2
    simp only [Option.bind_eq_some_iff] at hrd2
    obtain ⟨cs0, hr0, _⟩ := hrd2
    obtain ⟨c, e, fr, t1, t2, t3, t4, t5⟩ := S.rel.read hb hr0
    refine ⟨c, e, fr, t1, t2, t4 hbb, fun i v hv => ?_⟩
    obtain ⟨v', s1, s2⟩ := rc2 i v hv
    refine ⟨v', ?_, s2⟩
    simpa [World.cell?, t1] using s1
   have hle : m.s + o + cs.length ≤ m.n := by
    rw [rc1]
    have : len * z ≤ cap' * z := Nat.mul_le_mul_right z q2
    omega
   have hscal : ∀ (i : Nat) v, cs[i]? = some v → scalar v = true := fun i v hv => List.all_eq_true.1 hsc v (List.mem_of_getElem? hv)
   have ho : ORel (upd μ h.size m2) (h.push (.cells cs h.size (h.size + 1) 0)) base h.size m2 (.cells cs h.size (h.size + 1) 0) (.cells c0 e0 fr0) := by
    refine .cells hcn hle (fun _ => hcf) fun _ i v hv => ?_
    obtain ⟨v', s1, s2⟩ := hcr i v hv
    have := s2.inv_scalar (hscal i v hv)
    subst this
    exact ⟨v', s1, .of_scalar _ (hscal i v' hv)⟩
   have Ht := Hp.track (b := h.size) (m := m2) (by simp [AHeap.size_push]) hget H.fresh H.bsz (by have := H.low; show B ≤ m.r; omega) hobj
    (fun d md hd he => by have := H.lt hd; simp only [m2] at he; omega) (fun _ _ _ _ hh => by cases hh; exact ⟨rfl, by omega⟩) (fun _ _ hh => by simp at hh) ho
   refine ⟨_, upd μ h.size m2, rfl, ?_, Ht, gr, upd_le H.fresh, fun d md h0 hd => ?_, fun d hd _ => by rw [AHeap.get_push, if_neg (by omega)], by simp [AHeap.size_push]⟩
   ·have := VRel.slice (μ := upd μ h.size m2) (b := h.size) (o := 0) (z := z) (len := len) (cap := len + 1) (cap' := cap') (m := m2) (upd_self _ _ _) (by omega) q2 (fun h => by omega) (by simpa [m2] using q4)
    simpa [m2] using this
   ·by_cases ed : d = h.size
    ·subst ed
     rw [upd_self] at hd; cases hd
     exact ⟨Nat.le_refl _, H.bsz, .inl hfresh⟩
    ·rw [upd_ne _ _ ed, h0] at hd; cases hd
 ·simp only [grd_some, Option.some.injEq] at hK
  obtain ⟨hp, rfl⟩ := hK
  rw [plain _ hp] at hans
  simp only [Option.some.injEq, Prod.mk.injEq] at hans
  obtain ⟨rfl, rfl⟩ := hans
  have : u' = u := by cases u <;> simp [plain1] at hp <;> cases hv <;> first | rfl | simp_all
  subst this
  exact ⟨u', μ, rfl, .lit hp, Hx, gr, μ.le_refl, fun b m h0 h1 => (by rw [h0] at h1; cases h1), fun _ _ _ => rfl, Nat.le_refl _⟩
theorem confl_ok (hE0 : EnvOk P E0) (hO : ∀ base B, OrcOk P E0 base B) (hm : P.follows .mixedOrders = true) (hg : ∀ g, E0.glob g = true → E.glob g = true) (k : Nat) : CallOk P E base B (confl E0 k) := by
 intro μ h w g args args' v h' hc hr H F n hF
 unfold confl at hc
 simp only [Option.bind_eq_some_iff] at hc
 obtain ⟨out, hrun, hans⟩ := hc
 have H2 := H.rebase hg
 refine (callK_ok hE0 (hO _ _) hm k μ h w g args args' _ out hrun hr H2 F n hF).mono ?_
 rintro e w' ⟨u, u', h1, μ1, hK, rfl, hv, S⟩
 exact confl_post H rfl hans hK hv S
end
end Go.M
namespace Go.M
open Go
noncomputable def orcOf (P : Program) (fs : List Nat) (n : Nat) : FuncId → List Value → AHeap → Option (Value × AHeap) := fun g args h =>
 match fs.contains g with
 | true => confl (envOf P noOrc) n g args h
 | false => none
end Go.M
namespace Go.M
open Go
def insI (x : Int) : List Int → List Int
 | [] => [x]
 | y :: l => bif Int.blt' x y then x :: y :: l else y :: insI x l
where Int.blt' (x y : Int) : Bool := decide (x < y)
def sortI : List Int → List Int
 | [] => []
 | x :: l => insI x (sortI l)
theorem insI_perm (x : Int) : ∀ l, (insI x l).Perm (x :: l)
 | [] => .refl _
 | y :: l => by
  unfold insI
  rw [bif_eq]
  split
  ·exact .refl _
  ·exact ((insI_perm x l).cons y).trans (.swap x y l)
theorem sortI_perm : ∀ l, (sortI l).Perm l
 | [] => .refl _
 | x :: l => (insI_perm x _).trans ((sortI_perm l).cons x)
def intsV : List Value → Option (List Int)
 | [] => some []
 | .int .i64 x :: l => (intsV l).bind fun r => some (x :: r)
 | _ => none
theorem intsV_some : ∀ {l : List Value} {r : List Int}, intsV l = some r → l = r.map (.int .i64)
 | [], r, h => by simp [intsV] at h; subst h; rfl
 | .int .i64 x :: l, r, h => by
  simp only [intsV, Option.bind_eq_some_iff, Option.some.injEq] at h
  obtain ⟨r', h1, rfl⟩ := h
  rw [intsV_some h1]; rfl
def outB (base : Nat) : KV := fun v h' => match v with
 | .slice (some ⟨b, o, some 1⟩) len _ => (readCells h' b o len).bind fun cs => (intsV cs).bind fun xs => grd (Nat.ble base b && Nat.blt 0 len) (some (.bool false :: goInt len :: (sortI xs).map (.int .i64)))
 | v => grd (plain1 v) (some [.bool true, v])
def ansB (h : AHeap) : Out → Option (Value × AHeap)
 | [.bool true, v] => grd (plain1 v) (some (v, h))
 | .bool false :: .int _ (.ofNat len) :: cs => (intsV cs).bind fun xs => some (.slice (some ⟨h.size, 0, some 1⟩) len (len + 1), h.push (.bag xs))
 | _ => none
noncomputable def conflB (E : Env) (n : Nat) : CallF := fun g args h => (callK E h.size n g args h (outB h.size)).bind (ansB h)
theorem intsV_map : ∀ l : List Int, intsV (l.map (.int .i64)) = some l
 | [] => rfl
 | x :: l => by simp [intsV, intsV_map l]
section
variable {P : Program} {E E0 : Env} {base B : Nat}
theorem conflB_ok (hE0 : EnvOk P E0) (hO : ∀ base B, OrcOk P E0 base B) (hm : P.follows .mixedOrders = true) (hg : ∀ g, E0.glob g = true → E.glob g = true) (k : Nat) : CallOk P E base B (conflB E0 k) := by
 intro μ h w g args args' v h' hc hr H F n hF
 unfold conflB at hc
 simp only [Option.bind_eq_some_iff] at hc
 obtain ⟨out, hrun, hans⟩ := hc
 have H2 := H.rebase hg
 refine (callK_ok hE0 (hO _ _) hm k μ h w g args args' _ out hrun hr H2 F n hF).mono ?_
 rintro e w' ⟨u, u', h1, μ1, hK, rfl, hv, S⟩
 have hold : ∀ r, r < w.heap.size → w'.heap[r]? = w.heap[r]? := fun r hr' => S.grow.keep r hr' fun b m hb _ => H.dom b m hb
 have Hx := H.ext S.grow.size hold
 have gr : Grow base μ w w' := ⟨S.grow.tape, S.grow.os, S.grow.output, S.grow.size, fun r hr' _ => hold r hr'⟩
 have plain : ∀ v : Value, plain1 v = true → ansB h [.bool true, v] = some (v, h) := fun v hp => by simp [ansB, grd, hp]
 unfold outB at hK
 split at hK
 ·rename_i b o len cap
  simp only [Option.bind_eq_some_iff, grd_some, Bool.and_eq_true, ble_iff, blt_iff, Option.some.injEq] at hK
  obtain ⟨cs, hrd, xs, hxs, ⟨hbb, hlen⟩, rfl⟩ := hK
  have hcs := intsV_some hxs
  simp only [ansB, goInt, intsV_map, Option.bind_some, Option.some.injEq, Prod.mk.injEq] at hans
  obtain ⟨rfl, rfl⟩ := hans
  cases hv with
  | lit hh => simp [plain1] at hh
  | slice0 hb => omega
  | slice hb q1 q2 q3 q4 =>
   rename_i cap' m
   obtain ⟨rc1, rc2⟩ := S.rel.readCells hb hrd
   have hfresh : w.heap.size ≤ m.r := by
    have hn : μ b = none := by
     cases hx : μ b with
     | none => rfl
     | some mx => have := H.dom b mx hx; omega
    rcases (S.new b m hn hb).2.2 with h5 | ⟨b0, m0, r1, r2, _⟩
    ·exact h5
    ·have := H.dom b0 m0 r2; omega
   let m2 : MT := ⟨m.r, m.s + o, m.n⟩
   have Hp := Hx.pushA (o := .bag (sortI xs)) (fun _ _ _ _ hh => by cases hh)
   have hget : (h.push (.bag (sortI xs))).get h.size = some (.bag (sortI xs)) := by rw [AHeap.get_push, if_pos rfl]
   obtain ⟨c0, e0, fr0, hobj, hcn, hcr⟩ : ∃ c e fr, w'.heap[m.r]? = some (.cells c e fr) ∧ c.size = m.n ∧ (∀ (i : Nat) v, cs[i]? = some v → ∃ v', c[m.s + o + i]? = some v' ∧ VRel μ1 v v') := by
    have hrd2 := hrd
    unfold M.readCells at hrd2
    simp only [Option.bind_eq_some_iff] at hrd2
    obtain ⟨cs0, hr0, _⟩ := hrd2
    obtain ⟨c, e, fr, t1, t2, t3, t4, t5⟩ := S.rel.read hb hr0
    refine ⟨c, e, fr, t1, t2, fun i v hv => ?_⟩
    obtain ⟨v', s1, s2⟩ := rc2 i v hv
    refine ⟨v', ?_, s2⟩
    simpa [World.cell?, t1] using s1
   have hxl : xs.length = len := by rw [← rc1, hcs]; simp
   have ho : ORel (upd μ h.size m2) (h.push (.bag (sortI xs))) base h.size m2 (.bag (sortI xs)) (.cells c0 e0 fr0) := by
    refine .bag (l := xs) (sortI_perm xs).symm (by show m.s + o + xs.length ≤ m.n; omega) (fun i x hx => ?_) hcn
    obtain ⟨v', s1, s2⟩ := hcr i (.int .i64 x) (by rw [hcs]; simp [hx])
    have := s2.inv_scalar rfl
    subst this
    exact s1
   have Ht := Hp.track (b := h.size) (m := m2) (by simp [AHeap.size_push]) hget H.fresh H.bsz (by have := H.low; show B ≤ m.r; omega) hobj
    (fun d md hd he => by have := H.lt hd; simp only [m2] at he; omega) (fun _ _ _ _ hh => by cases hh) (fun _ _ hh => by cases hh) ho
   refine ⟨_, upd μ h.size m2, rfl, ?_, Ht, gr, upd_le H.fresh, fun d md h0 hd => ?_, fun d hd _ => by rw [AHeap.get_push, if_neg (by omega)], by simp [AHeap.size_push]⟩
   ·have := VRel.slice (μ := upd μ h.size m2) (b := h.size) (o := 0) (z := 1) (len := len) (cap := len + 1) (cap' := cap') (m := m2) (upd_self _ _ _) (by omega) q2 (fun h => by omega) (by simpa [m2] using q4)
    simpa [m2] using this
   ·by_cases ed : d = h.size
    ·subst ed
     rw [upd_self] at hd; cases hd
     exact ⟨Nat.le_refl _, H.bsz, .inl hfresh⟩
    ·rw [upd_ne _ _ ed, h0] at hd; cases hd
 ·simp only [grd_some, Option.some.injEq] at hK
  obtain ⟨hp, rfl⟩ := hK
  rw [plain _ hp] at hans
  simp only [Option.some.injEq, Prod.mk.injEq] at hans
  obtain ⟨rfl, rfl⟩ := hans
  have : u' = u := by cases u <;> simp [plain1] at hp <;> cases hv <;> first | rfl | simp_all
  subst this
  exact ⟨u', μ, rfl, .lit hp, Hx, gr, μ.le_refl, fun b m h0 h1 => (by rw [h0] at h1; cases h1), fun _ _ _ => rfl, Nat.le_refl _⟩
end
end Go.M
namespace Go.M
open Go
def insAll (x : Int) : List Int → List (List Int)
 | [] => [[x]]
 | y :: l => (x :: y :: l) :: (insAll x l).map (y :: ·)
def perms : List Int → List (List Int)
 | [] => [[]]
 | x :: l => (perms l).flatMap (insAll x)
theorem mem_insAll (x : Int) : ∀ a b : List Int, a ++ x :: b ∈ insAll x (a ++ b)
 | [], [] => by simp [insAll]
 | [], y :: b => by simp [insAll]
 | y :: a, b => by
  simp only [List.cons_append, insAll, List.mem_cons, List.mem_map]
  exact .inr ⟨_, mem_insAll x a b, rfl⟩
theorem mem_perms : ∀ {cs l : List Int}, l.Perm cs → l ∈ perms cs
 | [], l, h => by simp [perms, h.eq_nil]
 | x :: cs, l, h => by
  have hx : x ∈ l := h.mem_iff.2 List.mem_cons_self
  obtain ⟨a, b, rfl⟩ := List.append_of_mem hx
  have hp : (a ++ b).Perm cs := (List.perm_middle.symm.trans h).cons_inv
  simp only [perms, List.mem_flatMap]
  exact ⟨a ++ b, mem_perms hp, mem_insAll x a b⟩
def bagOf (h : AHeap) : List Value → Option (Nat × List Int)
 | [] => none
 | .slice (some ⟨b, _, some _⟩) _ cap :: l => (match Nat.beq cap 0, h.get b with
  | false, some (.bag cs) => some (b, cs)
  | _, _ => bagOf h l)
 | _ :: l => bagOf h l
def noRoot (h : AHeap) (b : Nat) : Bool := (List.range h.size).all fun c => match h.get c with
 | some (.cells _ f _ _) => !Nat.beq f b
 | _ => true
noncomputable def conflP (E : Env) (n : Nat) : CallF := fun g args h => (bagOf h args).bind fun r => grd (Nat.blt r.1 h.size && noRoot h r.1) <|
 (meet ((perms r.2).map fun l => callK E h.size n g args (h.put r.1 (.cells (l.map (.int .i64)) r.1 h.size 0)) (outK h.size))).bind (ansOf h)
theorem bagOf_get {h : AHeap} {args : List Value} {r : Nat × List Int} (hr : bagOf h args = some r) : h.get r.1 = some (.bag r.2) := by
 induction args with
 | nil => simp [bagOf] at hr
 | cons v l ih =>
  unfold bagOf at hr
  split at hr
  ·cases hr
  ·rename_i b o z len cap l' heq
   simp only [List.cons.injEq] at heq
   obtain ⟨_, rfl⟩ := heq
   split at hr
   ·rename_i cs hg; simp only [Option.some.injEq] at hr; subst hr; exact hg
   ·exact ih hr
  ·rename_i v' l' _ heq
   simp only [List.cons.injEq] at heq
   obtain ⟨_, rfl⟩ := heq
   exact ih hr
section
variable {P : Program} {E E0 : Env} {base B : Nat}
theorem HRel.unbag {μ : Emb} {h : AHeap} {w : World} (H : HRel E base B μ h w) (hlow : ∀ b, b < h.size → b < base) {b : Nat} {m : MT} (hb : μ b = some m) {cs : List Int} (hg : h.get b = some (.bag cs)) (hn : noRoot h b = true) :
 ∃ l : List Int, l.Perm cs ∧ HRel E base B μ (h.put b (.cells (l.map (.int .i64)) b h.size 0)) w := by
 obtain ⟨p, p', k1, k2, k3⟩ := H.obj b m hb
 rw [hg] at k1; cases k1
 have hbs := H.dom b m hb
 cases k3 with
 | bag hp hl hc hcn =>
  rename_i c e fr l
  refine ⟨l, hp, ?_⟩
  have hroot : ∀ c cs' f t th, h.get c = some (.cells cs' f t th) → f ≠ b := by
   intro c cs' f t th hgc hfb
   have hcs : c < h.size := by
    rcases Nat.lt_or_ge c h.size with h1 | h1
    ·exact h1
    ·rw [H.high c h1] at hgc; cases hgc
   unfold noRoot at hn
   have := List.all_eq_true.1 hn c (List.mem_range.2 hcs)
   rw [hgc] at this
   simp [hfb] at this
  have hgne : ∀ c, c ≠ b → (h.put b (.cells (l.map (.int .i64)) b h.size 0)).get c = h.get c := fun c hc => by rw [AHeap.get_put, if_neg hc]
  have hgb : (h.put b (.cells (l.map (.int .i64)) b h.size 0)).get b = some (.cells (l.map (.int .i64)) b h.size 0) := by rw [AHeap.get_put, if_pos rfl]
  have hfam : ∀ c, c ≠ b → (h.put b (.cells (l.map (.int .i64)) b h.size 0)).fam c = h.fam c := by
   intro c hc
   apply opt_ext
   intro r
   obtain ⟨f, tip, thr⟩ := r
   rw [fam_iff, fam_iff]
   constructor
   ·rintro ⟨cs', t0, th0, c0, q1, q2⟩
    rw [hgne c hc] at q1
    have hfb := hroot _ _ _ _ _ q1
    rw [hgne f hfb] at q2
    exact ⟨cs', t0, th0, c0, q1, q2⟩
   ·rintro ⟨cs', t0, th0, c0, q1, q2⟩
    have hfb := hroot _ _ _ _ _ q1
    exact ⟨cs', t0, th0, c0, by rw [hgne c hc]; exact q1, by rw [hgne f hfb]; exact q2⟩
  have hfamb : h.fam b = none := by
   cases hf : h.fam b with
   | none => rfl
   | some r => obtain ⟨cs', t, th, q⟩ := fam_cells hf; rw [hg] at q; cases q
  have hfamb' : (h.put b (.cells (l.map (.int .i64)) b h.size 0)).fam b = some (b, h.size, 0) := fam_of hgb hgb
  have hcells : ∀ c, c ≠ b → (h.put b (.cells (l.map (.int .i64)) b h.size 0)).cellsOf c = h.cellsOf c := fun c hc => by unfold AHeap.cellsOf; rw [hgne c hc]
  have hrd : ∀ c, c ≠ b → (h.put b (.cells (l.map (.int .i64)) b h.size 0)).rd c = h.rd c := fun c hc => by unfold AHeap.rd; rw [hfam c hc, hcells c hc]
  have hlen : ∀ c, c ≠ b → lenOf (h.put b (.cells (l.map (.int .i64)) b h.size 0)) c = lenOf h c := fun c hc => by unfold lenOf; rw [hcells c hc]
  refine ⟨H.dom, fun c hc => by rw [hgne c (by simp only [AHeap.size_put] at hc; omega)]; exact H.high c hc, fun c mc hc => ?_, H.own, fun b1 b2 m1 m2 h1 h2 hr hne hbb => ?_, fun c mc r hc hr => ?_, H.glob, H.low, H.bsz, fun c cs' f t th hgc => ?_, fun c mc cs' th hc hgc => ?_⟩
  ·by_cases ec : c = b
   ·subst ec
    rw [hb] at hc; cases hc
    refine ⟨_, _, hgb, k2, .cells hcn (by simpa using hl) (fun h9 => ?_) fun _ i v hv => ?_⟩
    ·have := hlow c hbs; omega
    ·rw [List.getElem?_map, Option.map_eq_some_iff] at hv
     obtain ⟨x, hx, rfl⟩ := hv
     exact ⟨_, hc i x hx, .int μ _ _⟩
   ·obtain ⟨q, q', j1, j2, j3⟩ := H.obj c mc hc
    exact ⟨q, q', by rw [hgne c ec]; exact j1, j2, j3.mono μ.le_refl (by rw [hrd c ec]; exact id)⟩
  ·obtain ⟨r, q1, q2, q3⟩ := H.alias b1 b2 m1 m2 h1 h2 hr hne hbb
   have e1 : b1 ≠ b := fun e => by subst e; rw [hfamb] at q1; cases q1
   have e2 : b2 ≠ b := fun e => by subst e; rw [hfamb] at q2; cases q2
   exact ⟨r, by rw [hfam b1 e1]; exact q1, by rw [hfam b2 e2]; exact q2, by rw [hlen b1 e1, hlen b2 e2]; exact q3⟩
  ·by_cases ec : c = b
   ·subst ec
    rw [hfamb'] at hr; cases hr
    exact ⟨Nat.le_of_lt hbs, Nat.le_refl _, m, hb⟩
   ·rw [hfam c ec] at hr
    exact H.fam c mc r hc hr
  ·by_cases ec : c = b
   ·subst ec
    rw [hgb] at hgc; cases hgc; exact Nat.le_refl _
   ·rw [hgne c ec] at hgc
    exact H.wf _ _ _ _ _ hgc
  ·by_cases ec : c = b
   ·subst ec
    rw [hgb] at hgc
    simp only [Option.some.injEq, AObj.cells.injEq] at hgc
    omega
   ·rw [hgne c ec] at hgc
    exact H.root _ _ _ _ hc hgc
theorem bagOf_map {μ : Emb} {h : AHeap} {args args' : List Value} (hr : VRels μ args args') {b : Nat} {cs : List Int} (hb : bagOf h args = some (b, cs)) : ∃ m, μ b = some m := by
 induction hr with
 | nil => simp [bagOf] at hb
 | cons hv _ ih =>
  unfold bagOf at hb
  split at hb
  ·cases hb
  ·rename_i b0 o z len cap l' heq
   simp only [List.cons.injEq] at heq
   obtain ⟨rfl, rfl⟩ := heq
   split at hb
   ·rename_i cs' hz hg
    simp only [Option.some.injEq, Prod.mk.injEq] at hb
    obtain ⟨rfl, rfl⟩ := hb
    cases hv with
    | lit hh => simp [plain1] at hh
    | slice h1 => exact ⟨_, h1⟩
    | slice0 h1 => exact h1 (by rintro rfl; simp at hz)
   ·exact ih hb
  ·rename_i v' l' _ heq
   simp only [List.cons.injEq] at heq
   obtain ⟨_, rfl⟩ := heq
   exact ih hb
theorem conflP_ok (hE0 : EnvOk P E0) (hO : ∀ base B, OrcOk P E0 base B) (hm : P.follows .mixedOrders = true) (hg : ∀ g, E0.glob g = true → E.glob g = true) (k : Nat) : CallOk P E base B (conflP E0 k) := by
 intro μ h w g args args' v h' hc hr H F n hF
 unfold conflP at hc
 simp only [Option.bind_eq_some_iff, grd_some, Bool.and_eq_true, blt_iff] at hc
 obtain ⟨⟨b, cs⟩, hbag, ⟨hlt, hnr⟩, out, hmeet, hans⟩ := hc
 obtain ⟨m, hb⟩ := bagOf_map hr hbag
 have hget := bagOf_get hbag
 have H2 := H.rebase hg
 obtain ⟨l, hl, H3⟩ := H2.unbag (fun _ h => h) hb hget hnr
 have hrun := meet_some hmeet _ (List.mem_map_of_mem (mem_perms hl))
 refine (callK_ok hE0 (hO _ _) hm k μ _ w g args args' _ out hrun hr H3 F n hF).mono ?_
 rintro e w' ⟨u, u', h1, μ1, hK, rfl, hv, S⟩
 exact confl_post (hX := h.put b (.cells (l.map (.int .i64)) b h.size 0)) H rfl hans hK hv S
end
end Go.M
namespace Go.M
open Go
noncomputable def orcAll (P : Program) (fs bs ps : List Nat) (n : Nat) : FuncId → List Value → AHeap → Option (Value × AHeap) := fun g args h =>
 match fs.contains g with
 | true => confl (envOf P noOrc) n g args h
 | false => match bs.contains g with
  | true => conflB (envOf P noOrc) n g args h
  | false => match ps.contains g with
   | true => conflP (envOf P noOrc) n g args h
   | false => none
theorem orcAll_ok {P : Program} (hm : P.follows .mixedOrders = true) (fs bs ps : List Nat) (n base B : Nat) : OrcOk P (envOf P (orcAll P fs bs ps n)) base B := by
 intro μ h w g args args' v h' hc hr H F k hF
 have hc' : orcAll P fs bs ps n g args h = some (v, h') := hc
 unfold orcAll at hc'
 split at hc'
 ·exact confl_ok (E := envOf P (orcAll P fs bs ps n)) (envOk P noOrc) (fun _ _ => noOrc_ok) hm (fun _ hg => hg) n μ h w g args args' v h' hc' hr H F k hF
 ·split at hc'
  ·exact conflB_ok (E := envOf P (orcAll P fs bs ps n)) (envOk P noOrc) (fun _ _ => noOrc_ok) hm (fun _ hg => hg) n μ h w g args args' v h' hc' hr H F k hF
  ·split at hc'
   ·exact conflP_ok (E := envOf P (orcAll P fs bs ps n)) (envOk P noOrc) (fun _ _ => noOrc_ok) hm (fun _ hg => hg) n μ h w g args args' v h' hc' hr H F k hF
   ·cases hc'
end Go.M
namespace Go.M
open Go
def orcT (l : List Nat) : FuncId → List Value → AHeap → Option (Value × AHeap) := fun g args h => match memN g l, args with
 | true, [] => some (.bool true, h)
 | _, _ => none
def Awake (P : Program) (g : FuncId) : Prop := ∀ (W : World) (F : Fence) (n : Nat), Wide F → CallsIn F n P g #[] W fun e W' => e = .returned (.bool true) ∧ Go.RowKit.Below W.heap.size W W'
theorem awake_of {P : Program} (hm : P.follows .mixedOrders = true) {fs bs ps : List Nat} {m n : Nat} {g : FuncId}
 (hr : gaveTrue (acall (envOf P (orcAll P fs bs ps m)) 0 n g [] h00) = true) : Awake P g := by
 intro W F k hF
 obtain ⟨h', hr⟩ := gaveTrue_some hr
 have := acall_ok (envOk P _) (orcAll_ok hm fs bs ps m 0 W.heap.size) hm n μ00 h00 W g [] #[] (.bool true) h' hr .nil (rel00 (fun _ => rfl) W) F k hF
 refine this.mono ?_
 rintro e W' ⟨v', μ', rfl, hv, S⟩
 have e := hv.inv_scalar rfl
 subst e
 exact ⟨rfl, below_of_step S⟩
theorem orcT_ok {P : Program} {l : List Nat} (hl : ∀ g ∈ l, Awake P g) (base B : Nat) : OrcOk P (envOf P (orcT l)) base B := by
 intro μ h w g args args' v h' hc hr H F n hF
 have hc' : orcT l g args h = some (v, h') := hc
 unfold orcT at hc'
 split at hc'
 ·rename_i hg
  cases hc'
  have : args' = #[] := by
   have := hr.length
   simpa using this.symm
  subst this
  refine (hl g (memN_mem hg) w F n hF).mono ?_
  rintro e W' ⟨rfl, hb⟩
  exact ⟨_, μ, rfl, .lit rfl, ⟨H.ext hb.size fun r hr => hb.block r hr, ⟨hb.tape, hb.os, hb.output, hb.size, fun r hr _ => hb.block r hr⟩, μ.le_refl, fun b m h0 h1 => (by rw [h0] at h1; cases h1), fun _ _ _ => rfl, Nat.le_refl _⟩⟩
 ·cases hc'
end Go.M
namespace Go.M
open Go Go.RowKit Go.Maps Go.Sort Go.Shelf Go.Proofs
def SortsKeys (P : Program) (g k : FuncId) : Prop := ∀ (W : World) (Bm : Nat) (mb : Option Nat) (ks : List Int), W.cell? ⟨Bm, 0, none⟩ = some (.map mb) → ks.length ≤ 1099511627776 → (∀ x ∈ ks, IntKind.i64.min ≤ x ∧ x ≤ IntKind.i64.max) → ks.Nodup →
 (mb = none ∧ ks = [] ∨ ∃ (r : Nat) (es : Array MapEntry) (clock : Nat), mb = some r ∧ W.heap[r]? = some (.map es clock) ∧ StL es.toList clock ∧ es.toList.map (·.key) = ks.map (.int .i64)) →
 Calls P g #[.func (.func k) #[] #[.pointer (some ⟨Bm, 0, none⟩)]] W fun e w' => ∃ (v : Value) (t : TypeId), e = .returned v ∧ w'.ownsRow W.heap.size t 1 v ks.length ((ks.mergeSort fun x y => decide (x ≤ y)).map (.int .i64)) ∧ (v = .slice none 0 0 ↔ ks = []) ∧ Below W.heap.size W w'
theorem mergeSort_perm {l l' : List Int} (h : l.Perm l') : l.mergeSort (fun x y => decide (x ≤ y)) = l'.mergeSort (fun x y => decide (x ≤ y)) := by
 have tr : ∀ a b c : Int, decide (a ≤ b) = true → decide (b ≤ c) = true → decide (a ≤ c) = true := fun a b c h1 h2 => by simp only [decide_eq_true_eq] at *; omega
 have to : ∀ a b : Int, (decide (a ≤ b) || decide (b ≤ a)) = true := fun a b => by simp only [Bool.or_eq_true, decide_eq_true_eq]; omega
 refine List.Perm.eq_of_pairwise (le := fun a b => decide (a ≤ b) = true) (fun a b _ _ h1 h2 => ?_) (List.pairwise_mergeSort tr to l) (List.pairwise_mergeSort tr to l') (((List.mergeSort_perm l _).trans h).trans (List.mergeSort_perm l' _).symm)
 simp only [decide_eq_true_eq] at h1 h2
 omega
theorem sortsKeys_of {P : Program} {ρ σ : Ren} (L6 : SlLaysZI.n6 P ρ) (L10 : SlLaysZI.n10 P σ) (hsort : ∀ m, AnyZI.SortsIn P ρ Fence.wide m) (e9 : ∀ args w, (callFunc (ρ.f 9) args).run P w = .ok (.enter (ρ.f 9) args) w)
 (e10 : ∀ args w, (callFunc (σ.f 10) args).run P w = .ok (.enter (σ.f 10) args) w) : SortsKeys P (ρ.f 6) (σ.f 10) := by
 intro W Bm mb ks hm hlen hrg hnd hmap
 have hBm : Bm < W.heap.size := by
  unfold World.cell? at hm
  split at hm
  ·rename_i hh; exact (Array.getElem?_eq_some_iff.1 hh).1
  ·cases hm
 have key : ∃ (S : List Int → Prop), (∀ ss, S ss → ss.Perm ks) ∧ SeqGives Fence.wide (10 - 1 - 1 - 1) P (σ.f 10) #[.pointer (some ⟨Bm, 0, none⟩)] encZ S ks.length W := by
  rcases hmap with ⟨rfl, rfl⟩ | ⟨r, es, clock, rfl, hr, hst, hk⟩
  ·exact ⟨_, fun ss h => by rw [h], AnyZI.keys_gives_nil L10 Fence.wide _ trivial rfl Bm W hBm hm⟩
  ·have hkeyed : Keyed P (σ.t 26) := int_keyed L10.t26
   have hreads : ∀ x ∈ es.toList, ∃ n, n ∈ ks ∧ x.key = .int .i64 n ∧ WideElems.rd (H := Unit) P (σ.t 26) (fun _ => some (.nil, [])) x = some ((.int .i64 n), .nil) := by
    intro x hx
    have : x.key ∈ es.toList.map (·.key) := List.mem_map.2 ⟨x, hx, rfl⟩
    rw [hk] at this
    obtain ⟨n, hn, e⟩ := List.mem_map.1 this
    refine ⟨n, hn, e.symm, ?_⟩
    obtain ⟨h1, h2⟩ := hrg n hn
    unfold WideElems.rd
    rw [← e, keyOf_int_mk L10.t26 (by simp only [Lit.wf, Bool.and_eq_true, decide_eq_true_eq]; exact ⟨h1, h2⟩)]
    rfl
   have hkl : (es.toList.map fun x => intOf (WideElems.rg (H := Unit) P (σ.t 26) (fun _ => some (.nil, [])) x).1) = ks := by
    have h1 : es.toList.map (fun x => intOf (WideElems.rg (H := Unit) P (σ.t 26) (fun _ => some (.nil, [])) x).1) = (es.toList.map (·.key)).map (fun v => match v with | .int _ n => n | _ => 0) := by
     rw [List.map_map]
     refine List.map_congr_left fun x hx => ?_
     obtain ⟨n, _, e, h⟩ := hreads x hx
     rw [WideElems.rg_of h, Function.comp_apply, e]
     rfl
    rw [h1, hk, List.map_map]
    exact (List.map_congr_left fun x _ => rfl).trans (List.map_id ks)
   have hsz : es.size = ks.length := by
    have := congrArg List.length hk
    simpa using this
   have hown : W.ownsMap (H := Unit) P (σ.t 26) (fun _ => some (.nil, [])) r ks.length (.map ((es.toList.map (WideElems.rg P (σ.t 26) (fun _ => some (.nil, [])))).foldr DataW.insert [])) := by
    refine ⟨es, clock, hr, ⟨by rw [hsz]; unfold Go.maxLen; omega, ⟨hst.1, hst.2, ?_⟩, fun x hx => ?_⟩, Nat.le_of_eq hsz, rfl⟩
    ·rw [hk]
     exact List.pairwise_map.2 (hnd.imp fun h e => h (by simpa using e))
    ·obtain ⟨n, _, _, h⟩ := hreads x hx
     exact ⟨_, h⟩
   have hp : (intKeys (H := Unit) (.map ((es.toList.map (WideElems.rg P (σ.t 26) (fun _ => some (.nil, [])))).foldr DataW.insert []))).Perm ks := by
    have := (WideShapes.sorted_perm (es.toList.map (WideElems.rg (H := Unit) P (σ.t 26) (fun _ => some (.nil, []))))).map (fun p => intOf p.1)
    rw [List.map_map] at this
    have h2 : (es.toList.map ((fun p => intOf p.1) ∘ WideElems.rg (H := Unit) P (σ.t 26) (fun _ => some (.nil, [])))) = ks := hkl
    rw [h2] at this
    exact this
   have hs := AnyZI.keys_gives L10 Fence.wide (10 - 1 - 1 - 1) trivial rfl (by omega) Bm r ks.length _ W hBm hm hown
   have e : Maps.size (H := Unit) (.map ((es.toList.map (WideElems.rg P (σ.t 26) (fun _ => some (.nil, [])))).foldr DataW.insert [])) = ks.length := by
    have := (WideShapes.sorted_perm (es.toList.map (WideElems.rg (H := Unit) P (σ.t 26) (fun _ => some (.nil, []))))).length_eq
    rw [size_eq, this, List.length_map]
    simpa using hsz
   rw [e] at hs
   exact ⟨_, fun ss h => h.trans hp, hs⟩
 obtain ⟨S, hS, hseq⟩ := key
 have := AnyZI.sorted_in L6 Fence.wide 10 trivial trivial trivial trivial rfl (by omega) (hsort _) e9 (σ.f 10) #[.pointer (some ⟨Bm, 0, none⟩)] trivial e10 S ks.length (by unfold Go.maxLen; omega) (by omega) W hseq
 refine callsIn_wide.1 (this.mono ?_)
 rintro e w' ⟨v, ss, rfl, hs, hrow, hnil, hb⟩
 have hp := hS ss hs
 rw [mergeSort_perm hp, hp.length_eq] at hrow
 refine ⟨v, _, rfl, hrow, hnil.trans ⟨fun h => ?_, fun h => ?_⟩, hb⟩
 ·subst h; exact List.Perm.nil_eq hp |>.symm ▸ rfl
 ·subst h; exact List.Perm.eq_nil hp
end Go.M
namespace Go.M
open Go Go.RowKit
theorem calls_any {P : Program} {F : Fence} (hF : Wide F) {n : Nat} {f : FuncId} {args : Array Value} {w : World} {R : Ending → World → Prop} (h : Calls P f args w R) : CallsIn F n P f args w R := by
 have e : Machine.fenced P F = Machine.fenced P Fence.wide := funext fun m => propext ⟨fun _ => fenced_wide P m, fun _ g hg => ⟨fun ha => (by rw [hF.dead] at ha; cases ha), Or.inl (hF.fn _), fun f _ => hF.fn f, fun d hd => (by rw [hF.depth] at hd; cases hd)⟩⟩
 have h2 := callsIn_wide (n := n).2 h
 refine ⟨hF.fn f, fun cs _ => ?_⟩
 rw [e]
 exact h2.2 cs (room_wide _)
def intKs : List MapEntry → Option (List Int)
 | [] => some []
 | e :: l => match e.key, intKs l with
  | .int .i64 n, some ks => some (n :: ks)
  | _, _ => none
def boxMap (h : AHeap) (b : Nat) : Option (Option Nat) := match h.get b with
 | some (.cells [.map mb] f tip thr) => grd (Nat.beq f b && Nat.beq tip b && Nat.ble thr b) (some mb)
 | _ => none
instance (ev : List MapEntry) (clock : Nat) : Decidable (StL ev clock) := inferInstanceAs (Decidable (_ ∧ _))
def ksOk (ks : List Int) : Prop := ks.length ≤ 1099511627776 ∧ (∀ x ∈ ks, IntKind.i64.min ≤ x ∧ x ≤ IntKind.i64.max) ∧ ks.Nodup
instance (ks : List Int) : Decidable (ksOk ks) := inferInstanceAs (Decidable (_ ∧ _ ∧ _))
def keysAt (h : AHeap) : Option Nat → Option (List Int)
 | none => some []
 | some r => match h.get r with
  | some (.map ev clock) => (intKs ev).bind fun ks => grd (decide (StL ev clock) && decide (ksOk ks)) (some ks)
  | _ => none
def sortZ (ks : List Int) : List Int := ks.mergeSort fun x y => decide (x ≤ y)
def ansKs (h : AHeap) (ks : List Int) : Value × AHeap := match ks with
 | [] => (.slice none 0 0, h)
 | _ :: _ => (.slice (some ⟨h.size, 0, some 1⟩) ks.length (ks.length + 1), h.push (.cells ((sortZ ks).map (.int .i64)) h.size h.size 0))
def sortedK (its : List Nat) (args : List Value) (h : AHeap) : Option (Value × AHeap) := match args with
 | [.func (.func k) a c] => (match a.toList, c.toList with
  | [], [.pointer (some ⟨b, 0, none⟩)] => grd (memN k its) ((boxMap h b).bind fun mb => (keysAt h mb).bind fun ks => some (ansKs h ks))
  | _, _ => none)
 | _ => none
theorem boxMap_some {h : AHeap} {b : Nat} {mb : Option Nat} (hb : boxMap h b = some mb) : ∃ thr, h.get b = some (.cells [.map mb] b b thr) ∧ thr ≤ b := by
 unfold boxMap at hb
 split at hb
 ·rename_i mb' f tip thr hg
  simp only [grd_some, Bool.and_eq_true, beq_iff, ble_iff, Option.some.injEq] at hb
  obtain ⟨⟨⟨rfl, rfl⟩, ht⟩, rfl⟩ := hb
  exact ⟨thr, hg, ht⟩
 ·cases hb
theorem keysAt_some {h : AHeap} {r : Nat} {ks : List Int} (hk : keysAt h (some r) = some ks) : ∃ ev clock, h.get r = some (.map ev clock) ∧ intKs ev = some ks ∧ StL ev clock ∧ ksOk ks := by
 simp only [keysAt] at hk
 split at hk
 ·rename_i ev clock hg
  simp only [Option.bind_eq_some_iff, grd_some, Bool.and_eq_true, decide_eq_true_eq, Option.some.injEq] at hk
  obtain ⟨ks', hks, ⟨hst, hok⟩, rfl⟩ := hk
  exact ⟨ev, clock, hg, hks, hst, hok⟩
 ·cases hk
theorem ERels.born {μ : Emb} {ev ev' : List MapEntry} (h : ERels μ ev ev') : ev'.map (·.born) = ev.map (·.born) := by
 induction h with
 | nil => rfl
 | cons _ _ hb _ ih => simp [hb, ih]
theorem StL.iff {ev : List MapEntry} {clock : Nat} : StL ev clock ↔ (∀ b ∈ ev.map (·.born), b < clock) ∧ (ev.map (·.born)).Nodup := by
 unfold StL; simp
theorem ERels.ints {μ : Emb} {ev ev' : List MapEntry} (h : ERels μ ev ev') : ∀ {ks : List Int}, intKs ev = some ks → ev'.map (·.key) = ks.map (.int .i64) := by
 induction h with
 | nil => intro ks hk; simp [intKs] at hk; subst hk; rfl
 | cons hkey _ _ _ ih =>
  intro ks hk
  unfold intKs at hk
  split at hk
  ·rename_i n ks' h1 h2
   cases hk
   rw [h1] at hkey
   have := hkey.inv_scalar rfl
   simp [this, ih h2]
  ·cases hk
theorem sortedK_ok {P : Program} {E : Env} {base B : Nat} {its : List Nat} {g : FuncId} (hS : ∀ k ∈ its, SortsKeys P g k) {μ : Emb} {h h' : AHeap} {w : World} {args : List Value} {args' : Array Value} {v : Value}
 (hc : sortedK its args h = some (v, h')) (hr : VRels μ args args'.toList) (H : HRel E base B μ h w) : Calls P g args' w (RetPost E base B μ h w v h') := by
 unfold sortedK at hc
 split at hc
 ·rename_i k a c
  split at hc
  ·rename_i b ha hcc
   simp only [grd_some, Option.bind_eq_some_iff, Option.some.injEq] at hc
   obtain ⟨hk, mb, hbox, ks, hkeys, hans⟩ := hc
   obtain ⟨thr, hg, hthr⟩ := boxMap_some hbox
   -- the arguments in the world
   obtain ⟨v1, hv1, e1⟩ : ∃ v1, VRel μ (.func (.func k) a c) v1 ∧ args' = #[v1] := by
    obtain ⟨l⟩ := args'
    cases hr with
    | cons h1 h2 => cases h2; exact ⟨_, h1, rfl⟩
   subst e1
   cases hv1 with
   | lit hh => simp [plain1] at hh
   | func hs1 ha1 hs2 ha2 =>
    rename_i a' c'
    have ea : a' = #[] := by
     have h0 : a'.size = 0 := by rw [← hs1]; have := congrArg List.length ha; simpa using this
     exact Array.eq_empty_of_size_eq_zero h0
    subst ea
    have hc1 : c.size = 1 := by have := congrArg List.length hcc; simpa using this
    obtain ⟨p', ec⟩ : ∃ p', c' = #[p'] := by
     obtain ⟨l⟩ := c'
     rw [hc1] at hs2
     match l, hs2 with
     | [x], _ => exact ⟨x, rfl⟩
     | [], hs2 => simp at hs2
     | _ :: _ :: _, hs2 => simp at hs2
    subst ec
    have hp := ha2 0 (.pointer (some ⟨b, 0, none⟩)) p' (by rw [← Array.getElem?_toList, hcc]; rfl) rfl
    obtain ⟨m, hm, rfl⟩ := hp.inv_ptr
    have hs0 := H.root b m _ _ hm hg
    have hrd : h.rd b = some [.map mb] := rd_of (fam_of hg hg) hthr (by unfold AHeap.cellsOf; rw [hg])
    obtain ⟨cc, e, fr, q1, q2, q3, q4, q5⟩ := H.read hm hrd
    obtain ⟨vm, q6, q7⟩ := q5 0 (.map mb) rfl
    rw [hs0] at q6 ⊢
    obtain ⟨mb', rfl, hmap⟩ : ∃ mb', vm = .map mb' ∧ (mb' = none ∧ ks = [] ∨ ∃ (r : Nat) (es : Array MapEntry) (clock : Nat), mb' = some r ∧ w.heap[r]? = some (.map es clock) ∧ StL es.toList clock ∧ es.toList.map (·.key) = ks.map (.int .i64)) := by
     cases mb with
     | none =>
      cases q7 with
      | lit _ => exact ⟨none, rfl, .inl ⟨rfl, by simpa [keysAt] using hkeys.symm⟩⟩
     | some r =>
      obtain ⟨mr, w1, rfl⟩ := q7.inv_map
      refine ⟨_, rfl, .inr ?_⟩
      obtain ⟨ev, clock, hgr, hks, hst, hok⟩ := keysAt_some hkeys
      obtain ⟨o, o', k1, k2, k3⟩ := H.obj r mr w1
      rw [hgr] at k1; cases k1
      cases k3 with
      | map hs =>
       rename_i es'
       refine ⟨_, es', clock, rfl, k2, ?_, hs.ints hks⟩
       rw [StL.iff, hs.born, ← StL.iff]; exact hst
    have hok : ksOk ks := by
     cases mb with
     | none => simp [keysAt] at hkeys; subst hkeys; exact ⟨by simp, by simp, by simp⟩
     | some r =>
      obtain ⟨ev, clock, hgr, hks, hst, hok⟩ := keysAt_some hkeys
      exact hok
    have hcell : w.cell? ⟨m.r, 0, none⟩ = some (.map mb') := by
     unfold World.cell?
     simp only [q1, Option.isSome_none, Bool.false_eq_true, if_false]
     simpa using q6
    have := hS k (memN_mem hk) w m.r mb' ks hcell hok.1 hok.2.1 hok.2.2 hmap
    simp only [Nat.add_zero]
    refine this.mono ?_
    rintro en w' ⟨v', t, rfl, hrow, hnil, hb⟩
    have Hx := H.ext hb.size fun r hr => hb.block r hr
    have gr : Grow base μ w w' := ⟨hb.tape, hb.os, hb.output, hb.size, fun r hr _ => hb.block r hr⟩
    cases ks with
    | nil =>
     simp only [ansKs, Prod.mk.injEq] at hans
     obtain ⟨rfl, rfl⟩ := hans
     have := hnil.2 rfl
     subst this
     exact ⟨_, μ, rfl, .lit rfl, ⟨Hx, gr, μ.le_refl, fun b m h0 h1 => (by rw [h0] at h1; cases h1), fun _ _ _ => rfl, Nat.le_refl _⟩⟩
    | cons x0 l0 =>
     generalize hks0 : x0 :: l0 = ks at *
     have hlen : 0 < ks.length := by rw [← hks0]; simp
     have hans' : ansKs h ks = (.slice (some ⟨h.size, 0, some 1⟩) ks.length (ks.length + 1), h.push (.cells ((sortZ ks).map (.int .i64)) h.size h.size 0)) := by rw [← hks0]; rfl
     rw [hans'] at hans
     simp only [Prod.mk.injEq] at hans
     obtain ⟨rfl, rfl⟩ := hans
     obtain ⟨r1, ⟨_, r2⟩ | ⟨gb, cap, cur, rfl, r3, r4, r5, r6, r7, r8⟩⟩ := hrow
     ·omega
     ·let cs := (sortZ ks).map (Value.int .i64)
      have hcl : cs.length = ks.length := by simp [cs, sortZ]
      let m2 : MT := ⟨gb, 0, cur.size⟩
      have Hp := Hx.pushA (o := .cells cs h.size h.size 0) (fun _ _ _ _ hh => by cases hh; rfl)
      have hget : (h.push (.cells cs h.size h.size 0)).get h.size = some (.cells cs h.size h.size 0) := by rw [AHeap.get_push, if_pos rfl]
      have ho : ORel (upd μ h.size m2) (h.push (.cells cs h.size h.size 0)) base h.size m2 (.cells cs h.size h.size 0) (.cells cur t (0, 0)) := by
       refine .cells rfl (by show 0 + cs.length ≤ cur.size; omega) (fun _ => noFr0 _) fun _ i v hv => ?_
       have hi := (List.getElem?_eq_some_iff.1 hv).1
       have : cur.toList[i]? = some v := by
        have h5 : (cur.toList.take (ks.length * 1))[i]? = some v := by rw [r8]; exact hv
        rw [List.getElem?_take] at h5
        rwa [if_pos (by omega)] at h5
       refine ⟨v, by show cur[0 + i]? = some v; rw [Nat.zero_add]; simpa using this, ?_⟩
       obtain ⟨n, _, rfl⟩ := List.mem_map.1 (List.mem_of_getElem? hv)
       exact .int _ _ _
      have Ht := Hp.track (b := h.size) (m := m2) (by simp [AHeap.size_push]) hget H.fresh H.bsz (by have := H.low; show B ≤ gb; omega) r4
       (fun d md hd he => by have := H.lt hd; simp only [m2] at he; omega) (fun _ _ _ _ hh => by cases hh; exact ⟨rfl, Nat.le_refl _⟩) (fun _ _ _ => rfl) ho
      refine ⟨_, upd μ h.size m2, rfl, ?_, Ht, gr, upd_le H.fresh, fun d md h0 hd => ?_, fun d hd _ => by rw [AHeap.get_push, if_neg (by omega)], by simp [AHeap.size_push]⟩
      ·have := VRel.slice (μ := upd μ h.size m2) (b := h.size) (o := 0) (z := 1) (len := ks.length) (cap := ks.length + 1) (cap' := cap) (m := m2) (upd_self _ _ _) (by omega) r5 (fun h => by omega) (by show 0 + 0 + cap * 1 ≤ cur.size; omega)
       simpa [m2] using this
      ·by_cases ed : d = h.size
       ·subst ed
        rw [upd_self] at hd; cases hd
        exact ⟨Nat.le_refl _, H.bsz, .inl r3⟩
       ·rw [upd_ne _ _ ed, h0] at hd; cases hd
  ·cases hc
 ·cases hc
end Go.M
namespace Go.M
open Go Go.RowKit
def orcV (l : List Nat) (gs : List (Nat × List Nat)) : FuncId → List Value → AHeap → Option (Value × AHeap) := fun g args h => match memN g l with
 | true => (match args with | [] => some (.bool true, h) | _ => none)
 | false => match look gs g with
  | some its => sortedK its args h
  | none => none
theorem orcV_ok {P : Program} {l : List Nat} {gs : List (Nat × List Nat)} (hl : ∀ g ∈ l, Awake P g) (hs : ∀ g its, look gs g = some its → ∀ k ∈ its, SortsKeys P g k) (base B : Nat) : OrcOk P (envOf P (orcV l gs)) base B := by
 intro μ h w g args args' v h' hc hr H F n hF
 have hc' : orcV l gs g args h = some (v, h') := hc
 unfold orcV at hc'
 split at hc'
 ·rename_i hg
  split at hc'
  ·exact orcT_ok hl base B μ h w g [] args' v h' (by show orcT l g [] h = _; unfold orcT; rw [hg]; exact hc') hr ⟨H.dom, H.high, H.obj, H.own, H.alias, H.fam, H.glob, H.low, H.bsz, H.wf, H.root⟩ F n hF |>.mono fun e w' ⟨v', μ', h1, h2, h3⟩ =>
    ⟨v', μ', h1, h2, ⟨h3.rel.dom, h3.rel.high, h3.rel.obj, h3.rel.own, h3.rel.alias, h3.rel.fam, h3.rel.glob, h3.rel.low, h3.rel.bsz, h3.rel.wf, h3.rel.root⟩, h3.grow, h3.le, h3.new, h3.unt, h3.hsz⟩
  ·cases hc'
 ·split at hc'
  ·rename_i its hi
   exact calls_any hF (sortedK_ok (hs g its hi) hc' hr H)
  ·cases hc'
section
variable {E : Env}
def KeysO (ks : List Int) : TO → Prop
 | .map _ es => es.map (·.1) = ks.map (.int .i64)
 | .maq _ es op => op = [] ∧ es.map (·.1) = ks.map (.int .i64)
 | _ => False
end
end Go.M
namespace Go.M
open Go Go.RowKit
def OnInts (P : Program) (g : FuncId) (pre : List Value) (val : List Int → Value) (ok : List Int → Prop) : Prop :=
 ∀ (W : World) (l : List Int) (r o cap : Nat) (c : Array Value) (e : TypeId) (fr : Nat × Nat),
  W.heap[r]? = some (.cells c e fr) → l.length ≤ cap → o + cap ≤ c.size → (∀ (i : Nat) (x : Int), l[i]? = some x → c[o + i]? = some (.int .i64 x)) → ok l →
  Calls P g (List.toArray (pre ++ [Value.slice (some ⟨r, o, none⟩) l.length cap])) W fun en W' => en = .returned (val l) ∧ Below W.heap.size W W'
theorem vrels_plain {μ : Emb} : ∀ {l : List Value}, (∀ v ∈ l, plain1 v = true) → VRels μ l l
 | [], _ => .nil
 | v :: l, h => .cons (.lit (h v List.mem_cons_self)) (vrels_plain fun u hu => h u (List.mem_cons_of_mem _ hu))
theorem vrels_app {μ : Emb} : ∀ {a a' b b' : List Value}, VRels μ a a' → VRels μ b b' → VRels μ (a ++ b) (a' ++ b')
 | _, _, _, _, .nil, h => h
 | _, _, _, _, .cons h1 h2, h => .cons h1 (vrels_app h2 h)
theorem vrs_plain {c : Nat} {ρ : Gh} {F : Nat → Prop} {h : AHeap} {t : TV} {v : Value} (hl : VR c ρ F h t v) : ∀ {l : List Value}, (∀ v ∈ l, plain1 v = true) → VRs c ρ F h (l.map .s ++ [t]) (l ++ [v])
 | [], _ => .cons hl .nil
 | v :: l, hp => .cons (.s (hp v List.mem_cons_self)) (vrs_plain hl fun u hu => hp u (List.mem_cons_of_mem _ hu))
theorem onInts_of {P : Program} {E : Env} {g : FuncId} (hE : EnvOk P E) (hO : ∀ base B, OrcOk P E base B) (hm : P.follows .mixedOrders = true) (hg : ∀ g, E.glob g = false) {pre : List Value} (hpre : ∀ v ∈ pre, plain1 v = true) {val : List Int → Value} {ok : List Int → Prop}
 (hval : ∀ l, ok l → scalar (val l) = true) (hV : ∀ l, ok l → VC E g 0 (pre.map .s ++ [.sl 1 (l.map fun n => [.s (.int .i64 n)]) false]) [] fun r _ _ => r = .s (val l)) : OnInts P g pre val ok := by
 intro W l r o cap c e fr hr hcap hsz hc hok
 have hcl : ∀ (i : Nat) v, (l.map (Value.int .i64))[i]? = some v → c[o + i]? = some v := fun i v hi => by
  rw [List.getElem?_map, Option.map_eq_some_iff] at hi
  obtain ⟨x, hx, rfl⟩ := hi
  exact hc i x hx
 obtain ⟨A, _⟩ := (ar0 W).push (vs := l.map (Value.int .i64)) (cs := l.map (Value.int .i64)) (vrels_plain (by simp [plain1])) hr (by simp; omega) hcl
 generalize hμ : (fun b => if b = h00.size then some (⟨r, o, c.size⟩ : MT) else μ00 b) = μ at A
 generalize hh : h00.push (.cells (l.map (Value.int .i64)) h00.size (h00.size + 1) 0) = h at A
 have hget : h.get 0 = some (.cells (l.map (Value.int .i64)) 0 1 0) := by rw [← hh, AHeap.get_push]; rfl
 have hsz1 : h.size = 1 := by rw [← hh]; rfl
 have hμ0 : μ 0 = some ⟨r, o, c.size⟩ := by rw [← hμ]; rfl
 have hv1 : VR 0 noG (· < h.size) h (.sl 1 (l.map fun n => [.s (.int .i64 n)]) false) (.slice (some ⟨0, 0, some 1⟩) l.length cap) := by
  refine .sl (by omega) (A.rd hget) (by omega) (by simp) hcap (by simp) (by simp) (by simp) (by simp [fz, plainE]) fun i j e t v q1 q2 q3 => ?_
  rw [List.getElem?_map] at q1
  obtain ⟨n, hn, rfl⟩ := Option.map_eq_some_iff.1 q1
  have : j = 0 := by
   have := (List.getElem?_eq_some_iff.1 q2).1
   simpa using this
  subst this
  simp at q2; subst q2
  rw [Nat.mul_one, Nat.add_zero, Nat.zero_add, List.getElem?_map, hn] at q3
  simp at q3; subst q3
  exact .s rfl
 obtain ⟨n, v, h', ρ', F', r', o', c', h1, rfl, h3, h4⟩ := hV l hok h.size noG _ h _ _ (fun g cs hx => by have := hg g; simp [Env.glob, hx] at this) A.mem (AR.mo (μ := μ)) (vrs_plain hv1 hpre)
 obtain ⟨rfl, _⟩ := h4.inv_s
 have x : VRels μ (pre ++ [.slice (some ⟨0, 0, some 1⟩) l.length cap]) (pre ++ [Value.slice (some ⟨r, o, none⟩) l.length cap]) := by
  refine vrels_app (vrels_plain hpre) (.cons ?_ .nil)
  have := VRel.slice (b := 0) (o := 0) (z := 1) (len := l.length) (cap := cap) (cap' := cap) hμ0 hcap hcap (fun h => h) (by show o + 0 + cap * 1 ≤ c.size; omega)
  simpa using this
 have := acall_ok hE (hO h.size W.heap.size) hm n μ h W g _ (List.toArray (pre ++ [Value.slice (some ⟨r, o, none⟩) l.length cap])) _ h' h1 (by simpa using x) (A.hrel hg) Fence.wide 0 Wide.wide
 refine (callsIn_wide.1 (this.mono ?_))
 rintro e W' ⟨v', μ', rfl, hv, S⟩
 have e := hv.inv_scalar (hval l hok)
 subst e
 exact ⟨rfl, S.grow.os, S.grow.tape, S.grow.output, S.grow.size, fun k hk => S.grow.keep k hk fun b m hb _ => A.dom b m hb⟩
theorem scalar_plain1 {v : Value} (h : scalar v = true) : plain1 v = true := by
 cases v <;> simp_all [scalar, plain1]
theorem vrels_snoc {μ : Emb} : ∀ {a b : List Value} {x : Value}, (∀ v ∈ a, scalar v = true) → VRels μ (a ++ [x]) b → ∃ x', b = a ++ [x'] ∧ VRel μ x x'
 | [], b, x, _, h => by
  cases h with
  | cons h1 h2 => cases h2; exact ⟨_, rfl, h1⟩
 | v :: a, b, x, hs, h => by
  cases h with
  | cons h1 h2 =>
   obtain ⟨x', rfl, h3⟩ := vrels_snoc (fun u hu => hs u (List.mem_cons_of_mem _ hu)) h2
   obtain rfl := h1.inv_scalar (hs v List.mem_cons_self)
   exact ⟨x', rfl, h3⟩
def bagK (val : List Value → List Int → Option Value) (args : List Value) (h : AHeap) : Option (Value × AHeap) := match args.reverse with
 | .slice (some ⟨b, 0, some 1⟩) len cap :: rp => (match h.get b with
  | some (.bag cs) => grd (Nat.beq len cs.length && Nat.ble len cap && Nat.blt 0 len && rp.all scalar) ((val rp.reverse cs).bind fun v => some (v, h))
  | _ => none)
 | _ => none
def BagOk (P : Program) (g : FuncId) (val : List Value → List Int → Option Value) : Prop :=
 ∀ pre cs v, (∀ u ∈ pre, scalar u = true) → val pre cs = some v → scalar v = true ∧ ∀ l : List Int, l.Perm cs → ∃ vf ok, OnInts P g pre vf ok ∧ ok l ∧ vf l = v
theorem bagK_ok {P : Program} {E : Env} {base B : Nat} {g : FuncId} {val : List Value → List Int → Option Value} (hB : BagOk P g val) {μ : Emb} {h h' : AHeap} {w : World} {args : List Value} {args' : Array Value} {v : Value}
 (hc : bagK val args h = some (v, h')) (hr : VRels μ args args'.toList) (H : HRel E base B μ h w) : Calls P g args' w (RetPost E base B μ h w v h') := by
 unfold bagK at hc
 split at hc
 ·rename_i b len cap rp hrev
  split at hc
  ·rename_i cs hg
   simp only [grd_some, Bool.and_eq_true, beq_iff, ble_iff, blt_iff, List.all_eq_true, Option.bind_eq_some_iff, Option.some.injEq, Prod.mk.injEq] at hc
   obtain ⟨⟨⟨⟨hlen, hcap⟩, hpos⟩, hsc⟩, v1, hv, rfl, rfl⟩ := hc
   have ea : args = rp.reverse ++ [.slice (some ⟨b, 0, some 1⟩) len cap] := by
    have := congrArg List.reverse hrev
    simpa using this
   subst ea
   obtain ⟨x', e1, hx⟩ := vrels_snoc (fun u hu => hsc u (List.mem_reverse.1 hu)) hr
   obtain ⟨hsv, hP⟩ := hB rp.reverse cs v1 (fun u hu => hsc u (List.mem_reverse.1 hu)) hv
   cases hx with
   | lit hh => simp [plain1] at hh
   | slice0 hb => omega
   | slice hb q1 q2 q3 q4 =>
    rename_i cap' m
    obtain ⟨p, p', k1, k2, k3⟩ := H.obj b m hb
    rw [hg] at k1; cases k1
    cases k3 with
    | bag hp hl hcc hcn =>
     rename_i c e fr l
     obtain ⟨vf, ok, hO, hok, rfl⟩ := hP l hp
     have hll : l.length = len := by rw [hp.length_eq, hlen]
     have := hO w l m.r m.s cap' c e fr k2 (by omega) (by rw [hcn]; omega) hcc hok
     have e2 : args' = List.toArray (rp.reverse ++ [Value.slice (some ⟨m.r, m.s, none⟩) l.length cap']) := by
      rw [← Array.toList_inj, e1, hll]; simp
     rw [e2]
     refine this.mono ?_
     rintro en w' ⟨rfl, hbl⟩
     have Hx := H.ext hbl.size fun r hr => hbl.block r hr
     have gr : Grow base μ w w' := ⟨hbl.tape, hbl.os, hbl.output, hbl.size, fun r hr _ => hbl.block r hr⟩
     exact ⟨_, μ, rfl, .lit (scalar_plain1 hsv), ⟨Hx, gr, μ.le_refl, fun b m h0 h1 => (by rw [h0] at h1; cases h1), fun _ _ _ => rfl, Nat.le_refl _⟩⟩
  ·cases hc
 ·cases hc
section
variable {E : Env}
end
end Go.M
namespace Go.M
open Go Go.RowKit Go.Maps Go.Sort Go.Shelf Go.Proofs
def CollectsKeys (P : Program) (g k : FuncId) : Prop := ∀ (W : World) (Bm : Nat) (mb : Option Nat) (ks : List Int), W.cell? ⟨Bm, 0, none⟩ = some (.map mb) → ks.length ≤ 1099511627776 → (∀ x ∈ ks, IntKind.i64.min ≤ x ∧ x ≤ IntKind.i64.max) → ks.Nodup →
 (mb = none ∧ ks = [] ∨ ∃ (r : Nat) (es : Array MapEntry) (clock : Nat), mb = some r ∧ W.heap[r]? = some (.map es clock) ∧ StL es.toList clock ∧ es.toList.map (·.key) = ks.map (.int .i64)) →
 Calls P g #[.func (.func k) #[] #[.pointer (some ⟨Bm, 0, none⟩)]] W fun e w' => ∃ (v : Value) (t : TypeId) (l : List Int), e = .returned v ∧ l.Perm ks ∧ w'.ownsRow W.heap.size t 1 v ks.length (l.map (.int .i64)) ∧ (v = .slice none 0 0 ↔ ks = []) ∧ Below W.heap.size W w'
theorem collectsKeys_of {P : Program} {ρ σ : Ren} (L8 : SlLaysZI.n8 P ρ) (L10 : SlLaysZI.n10 P σ) (e10 : ∀ args w, (callFunc (σ.f 10) args).run P w = .ok (.enter (σ.f 10) args) w) : CollectsKeys P (ρ.f 8) (σ.f 10) := by
 intro W Bm mb ks hm hlen hrg hnd hmap
 have hBm : Bm < W.heap.size := by
  unfold World.cell? at hm
  split at hm
  ·rename_i hh; exact (Array.getElem?_eq_some_iff.1 hh).1
  ·cases hm
 have key : ∃ (S : List Int → Prop), (∀ ss, S ss → ss.Perm ks) ∧ SeqGives Fence.wide (9 - 1 - 1) P (σ.f 10) #[.pointer (some ⟨Bm, 0, none⟩)] encZ S ks.length W := by
  rcases hmap with ⟨rfl, rfl⟩ | ⟨r, es, clock, rfl, hr, hst, hk⟩
  ·exact ⟨_, fun ss h => by rw [h], AnyZI.keys_gives_nil L10 Fence.wide _ trivial rfl Bm W hBm hm⟩
  ·have hkeyed : Keyed P (σ.t 26) := int_keyed L10.t26
   have hreads : ∀ x ∈ es.toList, ∃ n, n ∈ ks ∧ x.key = .int .i64 n ∧ WideElems.rd (H := Unit) P (σ.t 26) (fun _ => some (.nil, [])) x = some ((.int .i64 n), .nil) := by
    intro x hx
    have : x.key ∈ es.toList.map (·.key) := List.mem_map.2 ⟨x, hx, rfl⟩
    rw [hk] at this
    obtain ⟨n, hn, e⟩ := List.mem_map.1 this
    refine ⟨n, hn, e.symm, ?_⟩
    obtain ⟨h1, h2⟩ := hrg n hn
    unfold WideElems.rd
    rw [← e, keyOf_int_mk L10.t26 (by simp only [Lit.wf, Bool.and_eq_true, decide_eq_true_eq]; exact ⟨h1, h2⟩)]
    rfl
   have hkl : (es.toList.map fun x => intOf (WideElems.rg (H := Unit) P (σ.t 26) (fun _ => some (.nil, [])) x).1) = ks := by
    have h1 : es.toList.map (fun x => intOf (WideElems.rg (H := Unit) P (σ.t 26) (fun _ => some (.nil, [])) x).1) = (es.toList.map (·.key)).map (fun v => match v with | .int _ n => n | _ => 0) := by
     rw [List.map_map]
     refine List.map_congr_left fun x hx => ?_
     obtain ⟨n, _, e, h⟩ := hreads x hx
     rw [WideElems.rg_of h, Function.comp_apply, e]
     rfl
    rw [h1, hk, List.map_map]
    exact (List.map_congr_left fun x _ => rfl).trans (List.map_id ks)
   have hsz : es.size = ks.length := by
    have := congrArg List.length hk
    simpa using this
   have hown : W.ownsMap (H := Unit) P (σ.t 26) (fun _ => some (.nil, [])) r ks.length (.map ((es.toList.map (WideElems.rg P (σ.t 26) (fun _ => some (.nil, [])))).foldr DataW.insert [])) := by
    refine ⟨es, clock, hr, ⟨by rw [hsz]; unfold Go.maxLen; omega, ⟨hst.1, hst.2, ?_⟩, fun x hx => ?_⟩, Nat.le_of_eq hsz, rfl⟩
    ·rw [hk]
     exact List.pairwise_map.2 (hnd.imp fun h e => h (by simpa using e))
    ·obtain ⟨n, _, _, h⟩ := hreads x hx
     exact ⟨_, h⟩
   have hp : (intKeys (H := Unit) (.map ((es.toList.map (WideElems.rg P (σ.t 26) (fun _ => some (.nil, [])))).foldr DataW.insert []))).Perm ks := by
    have := (WideShapes.sorted_perm (es.toList.map (WideElems.rg (H := Unit) P (σ.t 26) (fun _ => some (.nil, []))))).map (fun p => intOf p.1)
    rw [List.map_map] at this
    have h2 : (es.toList.map ((fun p => intOf p.1) ∘ WideElems.rg (H := Unit) P (σ.t 26) (fun _ => some (.nil, [])))) = ks := hkl
    rw [h2] at this
    exact this
   have hs := AnyZI.keys_gives L10 Fence.wide (9 - 1 - 1) trivial rfl (by omega) Bm r ks.length _ W hBm hm hown
   have e : Maps.size (H := Unit) (.map ((es.toList.map (WideElems.rg P (σ.t 26) (fun _ => some (.nil, [])))).foldr DataW.insert [])) = ks.length := by
    have := (WideShapes.sorted_perm (es.toList.map (WideElems.rg (H := Unit) P (σ.t 26) (fun _ => some (.nil, []))))).length_eq
    rw [size_eq, this, List.length_map]
    simpa using hsz
   rw [e] at hs
   exact ⟨_, fun ss h => h.trans hp, hs⟩
 obtain ⟨S, hS, hseq⟩ := key
 have := AnyZI.collect_in L8 Fence.wide 9 trivial trivial rfl (by omega) (σ.f 10) #[.pointer (some ⟨Bm, 0, none⟩)] trivial e10 S ks.length (by unfold Go.maxLen; omega) (by omega) W hseq
 refine callsIn_wide.1 (this.mono ?_)
 rintro e w' ⟨v, ss, rfl, hs, hrow, hnil, hb⟩
 have hp := hS ss hs
 rw [hp.length_eq] at hrow
 refine ⟨v, _, ss, rfl, hp, hrow, hnil.trans ⟨fun h => ?_, fun h => ?_⟩, hb⟩
 ·subst h; exact List.Perm.nil_eq hp |>.symm ▸ rfl
 ·subst h; exact List.Perm.eq_nil hp
def ansC (h : AHeap) (ks : List Int) : Value × AHeap := match ks with
 | [] => (.slice none 0 0, h)
 | _ :: _ => (.slice (some ⟨h.size, 0, some 1⟩) ks.length (ks.length + 1), h.push (.bag ks))
def collectK (its : List Nat) (args : List Value) (h : AHeap) : Option (Value × AHeap) := match args with
 | [.func (.func k) a c] => (match a.toList, c.toList with
  | [], [.pointer (some ⟨b, 0, none⟩)] => grd (memN k its) ((boxMap h b).bind fun mb => (keysAt h mb).bind fun ks => some (ansC h ks))
  | _, _ => none)
 | _ => none
theorem collectK_ok {P : Program} {E : Env} {base B : Nat} {its : List Nat} {g : FuncId} (hS : ∀ k ∈ its, CollectsKeys P g k) {μ : Emb} {h h' : AHeap} {w : World} {args : List Value} {args' : Array Value} {v : Value}
 (hc : collectK its args h = some (v, h')) (hr : VRels μ args args'.toList) (H : HRel E base B μ h w) : Calls P g args' w (RetPost E base B μ h w v h') := by
 unfold collectK at hc
 split at hc
 ·rename_i k a c
  split at hc
  ·rename_i b ha hcc
   simp only [grd_some, Option.bind_eq_some_iff, Option.some.injEq] at hc
   obtain ⟨hk, mb, hbox, ks, hkeys, hans⟩ := hc
   obtain ⟨thr, hg, hthr⟩ := boxMap_some hbox
   -- the arguments in the world
   obtain ⟨v1, hv1, e1⟩ : ∃ v1, VRel μ (.func (.func k) a c) v1 ∧ args' = #[v1] := by
    obtain ⟨l⟩ := args'
    cases hr with
    | cons h1 h2 => cases h2; exact ⟨_, h1, rfl⟩
   subst e1
   cases hv1 with
   | lit hh => simp [plain1] at hh
   | func hs1 ha1 hs2 ha2 =>
    rename_i a' c'
    have ea : a' = #[] := by
     have h0 : a'.size = 0 := by rw [← hs1]; have := congrArg List.length ha; simpa using this
     exact Array.eq_empty_of_size_eq_zero h0
    subst ea
    have hc1 : c.size = 1 := by have := congrArg List.length hcc; simpa using this
    obtain ⟨p', ec⟩ : ∃ p', c' = #[p'] := by
     obtain ⟨l⟩ := c'
     rw [hc1] at hs2
     match l, hs2 with
     | [x], _ => exact ⟨x, rfl⟩
     | [], hs2 => simp at hs2
     | _ :: _ :: _, hs2 => simp at hs2
    subst ec
    have hp := ha2 0 (.pointer (some ⟨b, 0, none⟩)) p' (by rw [← Array.getElem?_toList, hcc]; rfl) rfl
    obtain ⟨m, hm, rfl⟩ := hp.inv_ptr
    have hs0 := H.root b m _ _ hm hg
    have hrd : h.rd b = some [.map mb] := rd_of (fam_of hg hg) hthr (by unfold AHeap.cellsOf; rw [hg])
    obtain ⟨cc, e, fr, q1, q2, q3, q4, q5⟩ := H.read hm hrd
    obtain ⟨vm, q6, q7⟩ := q5 0 (.map mb) rfl
    rw [hs0] at q6 ⊢
    obtain ⟨mb', rfl, hmap⟩ : ∃ mb', vm = .map mb' ∧ (mb' = none ∧ ks = [] ∨ ∃ (r : Nat) (es : Array MapEntry) (clock : Nat), mb' = some r ∧ w.heap[r]? = some (.map es clock) ∧ StL es.toList clock ∧ es.toList.map (·.key) = ks.map (.int .i64)) := by
     cases mb with
     | none =>
      cases q7 with
      | lit _ => exact ⟨none, rfl, .inl ⟨rfl, by simpa [keysAt] using hkeys.symm⟩⟩
     | some r =>
      obtain ⟨mr, w1, rfl⟩ := q7.inv_map
      refine ⟨_, rfl, .inr ?_⟩
      obtain ⟨ev, clock, hgr, hks, hst, hok⟩ := keysAt_some hkeys
      obtain ⟨o, o', k1, k2, k3⟩ := H.obj r mr w1
      rw [hgr] at k1; cases k1
      cases k3 with
      | map hs =>
       rename_i es'
       refine ⟨_, es', clock, rfl, k2, ?_, hs.ints hks⟩
       rw [StL.iff, hs.born, ← StL.iff]; exact hst
    have hok : ksOk ks := by
     cases mb with
     | none => simp [keysAt] at hkeys; subst hkeys; exact ⟨by simp, by simp, by simp⟩
     | some r =>
      obtain ⟨ev, clock, hgr, hks, hst, hok⟩ := keysAt_some hkeys
      exact hok
    have hcell : w.cell? ⟨m.r, 0, none⟩ = some (.map mb') := by
     unfold World.cell?
     simp only [q1, Option.isSome_none, Bool.false_eq_true, if_false]
     simpa using q6
    have := hS k (memN_mem hk) w m.r mb' ks hcell hok.1 hok.2.1 hok.2.2 hmap
    simp only [Nat.add_zero]
    refine this.mono ?_
    rintro en w' ⟨v', t, l, rfl, hpl, hrow, hnil, hb⟩
    have Hx := H.ext hb.size fun r hr => hb.block r hr
    have gr : Grow base μ w w' := ⟨hb.tape, hb.os, hb.output, hb.size, fun r hr _ => hb.block r hr⟩
    cases ks with
    | nil =>
     simp only [ansC, Prod.mk.injEq] at hans
     obtain ⟨rfl, rfl⟩ := hans
     have := hnil.2 rfl
     subst this
     exact ⟨_, μ, rfl, .lit rfl, ⟨Hx, gr, μ.le_refl, fun b m h0 h1 => (by rw [h0] at h1; cases h1), fun _ _ _ => rfl, Nat.le_refl _⟩⟩
    | cons x0 l0 =>
     generalize hks0 : x0 :: l0 = ks at *
     have hlen : 0 < ks.length := by rw [← hks0]; simp
     have hans' : ansC h ks = (.slice (some ⟨h.size, 0, some 1⟩) ks.length (ks.length + 1), h.push (.bag ks)) := by rw [← hks0]; rfl
     rw [hans'] at hans
     simp only [Prod.mk.injEq] at hans
     obtain ⟨rfl, rfl⟩ := hans
     obtain ⟨r1, ⟨_, r2⟩ | ⟨gb, cap, cur, rfl, r3, r4, r5, r6, r7, r8⟩⟩ := hrow
     ·omega
     ·let m2 : MT := ⟨gb, 0, cur.size⟩
      have hll : l.length = ks.length := hpl.length_eq
      have Hp := Hx.pushA (o := .bag ks) (fun _ _ _ _ hh => by cases hh)
      have hget : (h.push (.bag ks)).get h.size = some (.bag ks) := by rw [AHeap.get_push, if_pos rfl]
      have ho : ORel (upd μ h.size m2) (h.push (.bag ks)) base h.size m2 (.bag ks) (.cells cur t (0, 0)) := by
       refine .bag (l := l) hpl (by show 0 + l.length ≤ cur.size; omega) (fun i x hx => ?_) rfl
       have hi := (List.getElem?_eq_some_iff.1 hx).1
       have : cur.toList[i]? = some (.int .i64 x) := by
        have h5 : (cur.toList.take (ks.length * 1))[i]? = some (.int .i64 x) := by rw [r8]; simp [hx]
        rw [List.getElem?_take] at h5
        rwa [if_pos (by omega)] at h5
       show cur[0 + i]? = some _
       rw [Nat.zero_add]; simpa using this
      have Ht := Hp.track (b := h.size) (m := m2) (by simp [AHeap.size_push]) hget H.fresh H.bsz (by have := H.low; show B ≤ gb; omega) r4
       (fun d md hd he => by have := H.lt hd; simp only [m2] at he; omega) (fun _ _ _ _ hh => by cases hh) (fun _ _ _ => rfl) ho
      refine ⟨_, upd μ h.size m2, rfl, ?_, Ht, gr, upd_le H.fresh, fun d md h0 hd => ?_, fun d hd _ => by rw [AHeap.get_push, if_neg (by omega)], by simp [AHeap.size_push]⟩
      ·have := VRel.slice (μ := upd μ h.size m2) (b := h.size) (o := 0) (z := 1) (len := ks.length) (cap := ks.length + 1) (cap' := cap) (m := m2) (upd_self _ _ _) (by omega) r5 (fun h => by omega) (by show 0 + 0 + cap * 1 ≤ cur.size; omega)
       simpa [m2] using this
      ·by_cases ed : d = h.size
       ·subst ed
        rw [upd_self] at hd; cases hd
        exact ⟨Nat.le_refl _, H.bsz, .inl r3⟩
       ·rw [upd_ne _ _ ed, h0] at hd; cases hd
  ·cases hc
 ·cases hc
end Go.M
namespace Go.M
open Go Go.RowKit
section
variable {X : Cx} {ρ : Gh} {F : Nat → Prop} {o : Ob} {c : Nat} {h : AHeap}
end
section
variable {E : Env}
end
abbrev BagF := List Value → List Int → Option Value
def orcW (l : List Nat) (gs cs : List (Nat × List Nat)) (bs : List (Nat × BagF)) : FuncId → List Value → AHeap → Option (Value × AHeap) := fun g args h => match look cs g with
 | some its => collectK its args h
 | none => match look bs g with
  | some val => bagK val args h
  | none => orcV l gs g args h
theorem orcW_ok {P : Program} {l : List Nat} {gs cs : List (Nat × List Nat)} {bs : List (Nat × BagF)} (hl : ∀ g ∈ l, Awake P g) (hs : ∀ g its, look gs g = some its → ∀ k ∈ its, SortsKeys P g k) (hc : ∀ g its, look cs g = some its → ∀ k ∈ its, CollectsKeys P g k)
 (hb : ∀ g val, look bs g = some val → BagOk P g val) (base B : Nat) : OrcOk P (envOf P (orcW l gs cs bs)) base B := by
 intro μ h w g args args' v h' hcc hr H F n hF
 have hc' : orcW l gs cs bs g args h = some (v, h') := hcc
 unfold orcW at hc'
 split at hc'
 ·rename_i its hi
  exact calls_any hF (collectK_ok (hc g its hi) hc' hr H)
 ·split at hc'
  ·rename_i val hv
   exact calls_any hF (bagK_ok (hb g val hv) hc' hr H)
  ·have H2 : HRel (envOf P (orcV l gs)) base B μ h w := ⟨H.dom, H.high, H.obj, H.own, H.alias, H.fam, H.glob, H.low, H.bsz, H.wf, H.root⟩
   exact (orcV_ok hl hs base B μ h w g args args' v h' hc' hr H2 F n hF).mono fun e w' ⟨v', μ', h1, h2, h3⟩ =>
    ⟨v', μ', h1, h2, ⟨h3.rel.dom, h3.rel.high, h3.rel.obj, h3.rel.own, h3.rel.alias, h3.rel.fam, h3.rel.glob, h3.rel.low, h3.rel.bsz, h3.rel.wf, h3.rel.root⟩, h3.grow, h3.le, h3.new, h3.unt, h3.hsz⟩
end Go.M
namespace Go.M
open Go
theorem bsplit {b : Bool} {A B : Prop} (hA : b = true → A) (hB : b = false → B) : (match (generalizing := false) b with | true => A | false => B) := by
 cases b with
 | true => exact hA rfl
 | false => exact hB rfl
theorem nsplit {b : Bool} {A B : Prop} (hA : b = false → A) (hB : b = true → B) : (match (generalizing := false) !b with | true => A | false => B) := by
 cases b with
 | true => exact hB rfl
 | false => exact hA rfl
@[reducible] def RR (r0 : TV) (c0 : Nat) (o0 : Ob) : TV → Ob → Nat → Prop := fun r o c => r = r0 ∧ c = c0 ∧ o = o0
theorem bool_eq {a b : Bool} (h : a = b) : Value.bool a = Value.bool b := congrArg _ h
theorem idxI {α : Type} {enc : α → List TV} {l : List α} {n : Nat} {K : List TV → Prop} (h : n < l.length) (hK : K (enc l[n])) : ∃ e, (0 ≤ (n : Int) ∧ (l.map enc)[(n : Int).toNat]? = some e) ∧ K e :=
 ⟨enc l[n], ⟨by omega, by simp [h]⟩, hK⟩
theorem idxI' {α : Type} {enc : α → List TV} {l : List α} {n : Int} {K : List TV → Prop} (h0 : 0 ≤ n) (h : n.toNat < l.length) (hK : K (enc l[n.toNat])) : ∃ e, (0 ≤ n ∧ (l.map enc)[n.toNat]? = some e) ∧ K e :=
 ⟨enc l[n.toNat], ⟨h0, by simp [h]⟩, hK⟩
theorem wrap_small (n : Nat) (h : n ≤ 1099511627776) : IntKind.i64.wrap ((n : Int) + 1) = ((n + 1 : Nat) : Int) := by
 rw [IntWalk.i64_in _ (by omega)]; rfl
theorem lenlt {α : Type} {f : α → List TV} {l : List α} {i : Nat} : ((i : Int) < (((l.map f).length : Nat) : Int)) ↔ i < l.length := by simp
theorem flx : ∀ b : Bool, (!b || b) = true
 | true => rfl
 | false => rfl
theorem Lz.int {k : IntKind} {a b : Int} (h : a = b) : Lz (Value.int k a) (Value.int k b) := .of (congrArg _ h)
theorem Lz.wrap {n : Nat} (h : n ≤ 1099511627776) : Lz (Value.int .i64 (IntKind.i64.wrap ((n : Int) + 1))) (Value.int .i64 ((n + 1 : Nat) : Int)) := .of (congrArg _ (wrap_small n h))
def smalls : List Nat := [0, 1, 2, 3, 4, 5, 6, 7, 8, 9, 10, 11, 12, 13, 14, 15, 16, 17, 18, 19, 20, 21, 22, 23, 24, 25, 26, 27, 28, 29, 30, 31, 32, 33, 34, 35, 36, 37, 38, 39, 40]
def forceNL (n : Nat) (K : Nat → Prop) (l : List Nat) : Prop := @List.rec Nat (fun _ => Prop) (K n) (fun k _ ih => match Nat.beq n k with | true => K k | false => ih) l
theorem forceNL_eq (n : Nat) (K : Nat → Prop) : ∀ l, forceNL n K l = K n
 | [] => rfl
 | k :: l => by
  show (match Nat.beq n k with | true => K k | false => forceNL n K l) = K n
  cases h : Nat.beq n k with
  | true => rw [beq_iff.1 h]
  | false => exact forceNL_eq n K l
def forceN (n : Nat) (K : Nat → Prop) : Prop := forceNL n K smalls
theorem forceN_eq (n : Nat) : forceN n = fun K => K n := by funext K; exact forceNL_eq n K _
def forceC (v : TV) (K : TV → Prop) : Prop := match v with
 | .j => K .j
 | .s v => K (.s v)
 | .sl z es fl => forceN z fun z => K (.sl z es fl)
 | .tk n => forceN n fun n => K (.tk n)
 | .ptr n o => forceN n fun n => forceN o fun o => K (.ptr n o)
 | .ep e o => forceN o fun o => K (.ep e o)
 | .wp n i o => forceN n fun n => forceN o fun o => K (.wp n i o)
 | .mp n => forceN n fun n => K (.mp n)
 | .bg n len => forceN n fun n => K (.bg n len)
 | .sv n i => forceN n fun n => K (.sv n i)
 | .agg cs => K (.agg cs)
 | .tup cs => K (.tup cs)
 | .ifc t v => K (.ifc t v)
 | .clo g a c => K (.clo g a c)
 | .own y => K (.own y)
theorem forceC_eq (v : TV) : forceC v = fun K => K v := by funext K; cases v <;> simp [forceC, forceN_eq]
def forceL (F : TV → (TV → Prop) → Prop) (l : List TV) : (List TV → Prop) → Prop := @List.rec TV (fun _ => (List TV → Prop) → Prop) (fun K => K []) (fun v _ ih K => F v fun v => ih fun l => K (v :: l)) l
theorem forceL_eq {F : TV → (TV → Prop) → Prop} (hF : ∀ v, F v = fun K => K v) : ∀ l, forceL F l = fun K => K l
 | [] => rfl
 | v :: l => by
  have ih := forceL_eq hF l
  funext K
  show F v (fun v => forceL F l fun l => K (v :: l)) = K (v :: l)
  rw [hF, ih]
def forceA (v : TV) (K : TV → Prop) : Prop := match v with
 | .j => K .j
 | .s v => K (.s v)
 | .sl z es fl => forceN z fun z => K (.sl z es fl)
 | .tk n => forceN n fun n => K (.tk n)
 | .ptr n o => forceN n fun n => forceN o fun o => K (.ptr n o)
 | .ep e o => forceN o fun o => K (.ep e o)
 | .wp n i o => forceN n fun n => forceN o fun o => K (.wp n i o)
 | .mp n => forceN n fun n => K (.mp n)
 | .bg n len => forceN n fun n => K (.bg n len)
 | .sv n i => forceN n fun n => K (.sv n i)
 | .agg cs => forceL forceC cs fun cs => K (.agg cs)
 | .tup cs => K (.tup cs)
 | .ifc t v => K (.ifc t v)
 | .clo g a c => forceL forceC a fun a => forceL forceC c fun c => K (.clo g a c)
 | .own y => K (.own y)
theorem forceA_eq (v : TV) : forceA v = fun K => K v := by funext K; cases v <;> simp [forceA, forceN_eq, forceL_eq forceC_eq]
def forceV (v : TV) (K : TV → Prop) : Prop := match v with
 | .j => K .j
 | .s v => K (.s v)
 | .sl z es fl => forceN z fun z => K (.sl z es fl)
 | .tk n => forceN n fun n => K (.tk n)
 | .ptr n o => forceN n fun n => forceN o fun o => K (.ptr n o)
 | .ep e o => forceN o fun o => K (.ep e o)
 | .wp n i o => forceN n fun n => forceN o fun o => K (.wp n i o)
 | .mp n => forceN n fun n => K (.mp n)
 | .bg n len => forceN n fun n => K (.bg n len)
 | .sv n i => forceN n fun n => K (.sv n i)
 | .agg cs => forceL forceC cs fun cs => K (.agg cs)
 | .tup cs => forceL forceA cs fun cs => K (.tup cs)
 | .ifc t v => forceA v fun v => K (.ifc t v)
 | .clo g a c => forceL forceC a fun a => forceL forceC c fun c => K (.clo g a c)
 | .own y => K (.own y)
theorem forceV_eq (v : TV) : forceV v = fun K => K v := by funext K; cases v <;> simp [forceV, forceN_eq, forceL_eq forceC_eq, forceL_eq forceA_eq, forceA_eq]
def forceQ (q : List (Nat × List TV)) : (List (Nat × List TV) → Prop) → Prop := @List.rec (Nat × List TV) (fun _ => (List (Nat × List TV) → Prop) → Prop) (fun K => K []) (fun p _ ih K => forceL forceC p.2 fun x => ih fun l => K ((p.1, x) :: l)) q
theorem forceQ_eq : ∀ q, forceQ q = fun K => K q
 | [] => rfl
 | p :: q => by
  have ih := forceQ_eq q
  funext K
  show forceL forceC p.2 (fun x => forceQ q fun l => K ((p.1, x) :: l)) = K (p :: q)
  rw [forceL_eq forceC_eq, ih]
def forceM (q : List (Value × TV)) : (List (Value × TV) → Prop) → Prop := @List.rec (Value × TV) (fun _ => (List (Value × TV) → Prop) → Prop) (fun K => K []) (fun p _ ih K => forceA p.2 fun x => ih fun l => K ((p.1, x) :: l)) q
theorem forceM_eq : ∀ q, forceM q = fun K => K q
 | [] => rfl
 | p :: q => by
  have ih := forceM_eq q
  funext K
  show forceA p.2 (fun x => forceM q fun l => K ((p.1, x) :: l)) = K (p :: q)
  rw [forceA_eq, ih]
def forceT (x : TO) (K : TO → Prop) : Prop := match x with
 | .cells cs => forceL forceC cs fun cs => K (.cells cs)
 | .map kd es => forceN kd fun kd => K (.map kd es)
 | .arr z w es => forceN z fun z => match w with | true => K (.arr z true es) | false => K (.arr z false es)
 | .arq z es op => forceN z fun z => forceQ op fun op => K (.arq z es op)
 | .maq kd es op => forceN kd fun kd => forceM op fun op => K (.maq kd es op)
 | .bag ks => K (.bag ks)
theorem forceT_eq (x : TO) : forceT x = fun K => K x := by
 funext K
 cases x with
 | cells cs => simp [forceT, forceL_eq forceC_eq]
 | map kd es => simp [forceT, forceN_eq]
 | arr z w es => cases w <;> simp [forceT, forceN_eq]
 | arq z es op => simp [forceT, forceN_eq, forceQ_eq]
 | maq kd es op => simp [forceT, forceN_eq, forceM_eq]
 | bag ks => rfl
def forceO (o : Ob) : (Ob → Prop) → Prop := @List.rec (Nat × TO) (fun _ => (Ob → Prop) → Prop) (fun K => K []) (fun p _ ih K => forceN p.1 fun n => forceT p.2 fun x => ih fun l => K ((n, x) :: l)) o
theorem forceO_eq : ∀ o, forceO o = fun K => K o
 | [] => rfl
 | p :: o => by
  have ih := forceO_eq o
  funext K
  show forceN p.1 (fun n => forceT p.2 fun x => forceO o fun l => K ((n, x) :: l)) = K (p :: o)
  rw [forceN_eq, forceT_eq, ih]
def strict (l : VL) (v : TV) (o : Ob) (c : Nat) (K : TV → Ob → Nat → Prop) : Prop := match l with
 | .pure => forceV v fun v => K v o c
 | .alloc => forceV v fun v => forceO o fun o => forceN c fun c => K v o c
 | .rdF => forceV v fun v => K v o c
 | .rdO _ => forceV v fun v => forceO o fun o => forceN c fun c => K v o c
 | .rdN _ _ _ => forceV v fun v => forceO o fun o => forceN c fun c => K v o c
 | .eff _ => forceV v fun v => forceO o fun o => forceN c fun c => K v o c
 | .effI _ => forceV v fun v => forceO o fun o => forceN c fun c => K v o c
 | .effG => forceV v fun v => forceO o fun o => forceN c fun c => K v o c
 | .bad => forceV v fun v => K v o c
theorem strict_eq (l : VL) (v : TV) (o : Ob) (c : Nat) : strict l v o c = fun K => K v o c := by
 funext K; cases l <;> simp [strict, forceV_eq, forceO_eq, forceN_eq]
def wopsR (E : Env) (vc : VCs) (n : Nat) (ops : List Oper) (l : List Oper) : Fr → Ob → Nat → RK → Prop :=
 @List.rec Oper (fun _ => Fr → Ob → Nat → RK → Prop) (fun f o c K => K f o c)
  (fun p _ ih f o c K => wguard ops p f
   (wop E vc p.op f o c fun v o' c' l => strict l v o' c' fun v o' c' => wput p.dst n v f fun f' => ih f' o' c' K)
   (wput p.dst n (.tup []) f fun f' => ih f' o c K)) l
theorem wopsR_eq (E : Env) (vc : VCs) (n : Nat) (ops : List Oper) : ∀ (l : List Oper) f o c K, wopsR E vc n ops l f o c K = wops E vc n ops l f o c K := by
 intro l
 induction l with
 | nil => intro f o c K; rfl
 | cons p rest ih =>
  intro f o c K
  have e : (fun f' o' c' (K : RK) => wopsR E vc n ops rest f' o' c' K) = fun f' o' c' K => wops E vc n ops rest f' o' c' K := by funext a b d e; exact ih a b d e
  show wguard ops p f (wop E vc p.op f o c fun v o' c' l => strict l v o' c' fun v o' c' => wput p.dst n v f fun f' => (fun f' o' c' (K : RK) => wopsR E vc n ops rest f' o' c' K) f' o' c' K) (wput p.dst n (.tup []) f fun f' => (fun f' o' c' (K : RK) => wopsR E vc n ops rest f' o' c' K) f' o c K) = _
  rw [e]
  simp only [strict_eq]
  rfl
def wopsLR (E : Env) (vc : VCs) (n : Nat) (ops : List Oper) (l : List Oper) : Fr → Ob → Nat → List VN → (List VN → RK) → Prop :=
 @List.rec Oper (fun _ => Fr → Ob → Nat → List VN → (List VN → RK) → Prop) (fun f o c lg K => K lg f o c)
  (fun p _ ih f o c lg K => wguard ops p f
   (wop E vc p.op f o c fun v o' c' l => strict l v o' c' fun v o' c' => wput p.dst n v f fun f' => ih f' o' c' (lg ++ [(l, o)]) K)
   (wput p.dst n (.tup []) f fun f' => ih f' o c (lg ++ [(.pure, o)]) K)) l
theorem wopsLR_eq (E : Env) (vc : VCs) (n : Nat) (ops : List Oper) : ∀ (l : List Oper) f o c lg K, wopsLR E vc n ops l f o c lg K = wopsL E vc n ops l f o c lg K := by
 intro l
 induction l with
 | nil => intro f o c lg K; rfl
 | cons p rest ih =>
  intro f o c lg K
  have e : (fun f' o' c' lg (K : List VN → RK) => wopsLR E vc n ops rest f' o' c' lg K) = fun f' o' c' lg K => wopsL E vc n ops rest f' o' c' lg K := by funext a b d g e; exact ih a b d g e
  show wguard ops p f (wop E vc p.op f o c fun v o' c' l => strict l v o' c' fun v o' c' => wput p.dst n v f fun f' => (fun f' o' c' lg (K : List VN → RK) => wopsLR E vc n ops rest f' o' c' lg K) f' o' c' (lg ++ [(l, o)]) K) (wput p.dst n (.tup []) f fun f' => (fun f' o' c' lg (K : List VN → RK) => wopsLR E vc n ops rest f' o' c' lg K) f' o c (lg ++ [(.pure, o)]) K) = _
  rw [e]
  simp only [strict_eq]
  rfl
structure Drawn (b : Bool) (K : Prop) : Prop where
 ok : b = true
 go : K
theorem drawn_eq (b : Bool) (K : Prop) : Drawn b K = (match (generalizing := false) b with | true => K | false => False) := by
 cases b with
 | true => exact propext ⟨fun h => h.go, fun h => ⟨rfl, h⟩⟩
 | false => exact propext (Iff.intro (fun h => by cases h.ok) (fun h => False.elim h))
abbrev WP := Fr → Ob → Nat → CK → Prop
def wpR (E : Env) (vc : VCs) (n c0 : Nat) (cuts : List Nat) (code : Code) : WP :=
 @Code.rec (fun _ => WP)
  (fun f o c Q => Q .normal f o c)
  (fun _ ops draw f o c Q => (match draw with
  | false => wopsR E vc n ops.toList ops.toList f o c fun f' o' c' => Q .normal f' o' c'
  | true => Drawn (staticOk ops.toList && dstsIn n ops.toList) (wopsLR E vc n ops.toList ops.toList f o c [] fun lg f' o' c' => Drawn (drawOk (befores ops.toList []) o' 0 lg) (Q .normal f' o' c'))))
  (fun _ _ iha ihb f o c Q => iha f o c fun ex f' o' c' => (match ex with
  | .normal => ihb f' o' c' Q
  | .exit id => Q (.exit id) f' o' c'
  | .ret => Q .ret f' o' c'))
  (fun q _ _ iht ihe f o c Q => (match evOk E q with
  | false => False
  | true => (match evT E f q with
   | .s (.bool b) => (match b with
    | true => iht f o c Q
    | false => ihe f o c Q)
   | _ => False)))
  (fun id _ ih f o c Q => (match memN id cuts with
  | false => ih f o c fun ex f' o' c' => (match ex with
   | .exit id' => (match Nat.beq id' id with
    | true => Q .normal f' o' c'
    | false => Q (.exit id') f' o' c')
   | .normal => Q .normal f' o' c'
   | .ret => Q .ret f' o' c')
  | true => ∃ Mid : RK, (ih f o c fun ex f' o' c' => (match ex with
   | .exit id' => (match Nat.beq id' id with
    | true => toldAs c0 f' o' c' Mid
    | false => Q (.exit id') f' o' c')
   | .normal => toldAs c0 f' o' c' Mid
   | .ret => Q .ret f' o' c')) ∧ ∀ f' o' c', Mid f' o' c' → Q .normal f' o' c'))
  (fun _ ih f o c Q => ∃ Inv : Nat → Fr → Ob → Nat → Prop, (∃ k, toldAs c0 f o c (Inv k)) ∧
   ∀ k f1 o1 c1, Inv k f1 o1 c1 → ih f1 o1 c1 fun ex f' o' c' => (match ex with
    | .normal => ∃ k', toldAs c0 f' o' c' (Inv k') ∧ k' < k
    | .exit id => Q (.exit id) f' o' c'
    | .ret => Q .ret f' o' c'))
  (fun _ _ _ _ _ _ _ _ _ _ => False)
  (fun id f o c Q => Q (.exit id) f o c)
  (fun _ _ _ _ _ _ => False)
  (fun _ _ _ _ _ => False)
  (fun _ _ _ _ _ => False)
  (fun f o c Q => Q .ret f o c)
  (fun _ _ _ _ _ => False) code
theorem wpR_eq (E : Env) (vc : VCs) (n c0 : Nat) (cuts : List Nat) : ∀ (code : Code) f o c Q, wpR E vc n c0 cuts code f o c Q = wp E vc n c0 cuts code f o c Q := by
 intro code
 induction code with
 | region id ops draw =>
  intro f o c Q
  have e1 : (fun K => wopsR E vc n ops.toList ops.toList f o c K) = fun K => wops E vc n ops.toList ops.toList f o c K := by funext K; exact wopsR_eq ..
  have e2 : (fun lg K => wopsLR E vc n ops.toList ops.toList f o c lg K) = fun lg K => wopsL E vc n ops.toList ops.toList f o c lg K := by funext lg K; exact wopsLR_eq ..
  show (match draw with
  | false => (fun K => wopsR E vc n ops.toList ops.toList f o c K) fun f' o' c' => Q .normal f' o' c'
  | true => Drawn (staticOk ops.toList && dstsIn n ops.toList) ((fun lg K => wopsLR E vc n ops.toList ops.toList f o c lg K) [] fun lg f' o' c' => Drawn (drawOk (befores ops.toList []) o' 0 lg) (Q .normal f' o' c'))) = _
  rw [e1, e2]
  simp only [drawn_eq]
  cases draw <;> rfl
 | seq a b iha ihb =>
  intro f o c Q
  have e1 : (fun f o c Q => wpR E vc n c0 cuts a f o c Q) = fun f o c Q => wp E vc n c0 cuts a f o c Q := by funext f o c Q; exact iha ..
  have e2 : (fun f o c Q => wpR E vc n c0 cuts b f o c Q) = fun f o c Q => wp E vc n c0 cuts b f o c Q := by funext f o c Q; exact ihb ..
  show ((fun f o c Q => wpR E vc n c0 cuts a f o c Q) f o c fun ex f' o' c' => (match ex with
  | .normal => (fun f o c Q => wpR E vc n c0 cuts b f o c Q) f' o' c' Q
  | .exit id => Q (.exit id) f' o' c'
  | .ret => Q .ret f' o' c')) = _
  rw [e1, e2]
  rfl
 | cond q t e iht ihe =>
  intro f o c Q
  have e1 : (fun f o c Q => wpR E vc n c0 cuts t f o c Q) = fun f o c Q => wp E vc n c0 cuts t f o c Q := by funext f o c Q; exact iht ..
  have e2 : (fun f o c Q => wpR E vc n c0 cuts e f o c Q) = fun f o c Q => wp E vc n c0 cuts e f o c Q := by funext f o c Q; exact ihe ..
  show (match evOk E q with
  | false => False
  | true => (match evT E f q with
   | .s (.bool b) => (match b with
    | true => (fun f o c Q => wpR E vc n c0 cuts t f o c Q) f o c Q
    | false => (fun f o c Q => wpR E vc n c0 cuts e f o c Q) f o c Q)
   | _ => False)) = _
  rw [e1, e2]
  rfl
 | block id b ih =>
  intro f o c Q
  have e1 : (fun f o c Q => wpR E vc n c0 cuts b f o c Q) = fun f o c Q => wp E vc n c0 cuts b f o c Q := by funext f o c Q; exact ih ..
  show (match memN id cuts with
  | false => (fun f o c Q => wpR E vc n c0 cuts b f o c Q) f o c fun ex f' o' c' => (match ex with
   | .exit id' => (match Nat.beq id' id with
    | true => Q .normal f' o' c'
    | false => Q (.exit id') f' o' c')
   | .normal => Q .normal f' o' c'
   | .ret => Q .ret f' o' c')
  | true => ∃ Mid : RK, ((fun f o c Q => wpR E vc n c0 cuts b f o c Q) f o c fun ex f' o' c' => (match ex with
   | .exit id' => (match Nat.beq id' id with
    | true => toldAs c0 f' o' c' Mid
    | false => Q (.exit id') f' o' c')
   | .normal => toldAs c0 f' o' c' Mid
   | .ret => Q .ret f' o' c')) ∧ ∀ f' o' c', Mid f' o' c' → Q .normal f' o' c') = _
  rw [e1]
  rfl
 | loop b ih =>
  intro f o c Q
  have e1 : (fun f o c Q => wpR E vc n c0 cuts b f o c Q) = fun f o c Q => wp E vc n c0 cuts b f o c Q := by funext f o c Q; exact ih ..
  show (∃ Inv : Nat → Fr → Ob → Nat → Prop, (∃ k, toldAs c0 f o c (Inv k)) ∧
   ∀ k f1 o1 c1, Inv k f1 o1 c1 → (fun f o c Q => wpR E vc n c0 cuts b f o c Q) f1 o1 c1 fun ex f' o' c' => (match ex with
    | .normal => ∃ k', toldAs c0 f' o' c' (Inv k') ∧ k' < k
    | .exit id => Q (.exit id) f' o' c'
    | .ret => Q .ret f' o' c')) = _
  rw [e1]
  rfl
 | _ => intros; rfl
theorem VC.enterR {E T : Env} (L : EnvLe T E) {g : FuncId} {fn : Func} {code : Code} {c0 : Nat} {args : List TV} {o0 : Ob} {R : TV → Ob → Nat → Prop} (hf : E.func g = some fn) (ho : ∀ a h, E.orc g a h = none) (hb : fn.body = some code) (hlen : Nat.ble args.length fn.ntmps = true)
 (cuts : List Nat) (hw : wpR T (VC E) fn.ntmps c0 cuts code (argsF 0 args) o0 c0 (wret T c0 fn.results.toList R)) : VC E g c0 args o0 R :=
 VC.enter L hf ho hb hlen cuts (by rw [← wpR_eq]; exact hw)
theorem D1 {b : Bool} {K : Prop} (k : K) (h : b = true := by kernel_rfl) : Drawn b K := ⟨h, k⟩
theorem t3 {a b c : Prop} (h1 : a := by (repeat' first|with_reducible exact Lz.rfl|exact Lw.rfl|exact Lz.wrap (by omega)|(unfold goInt;with_reducible exact Lz.rfl)|exact flx _|constructor)) (h2 : b := by (repeat' first|with_reducible exact Lz.rfl|exact Lw.rfl|exact Lz.wrap (by omega)|(unfold goInt;with_reducible exact Lz.rfl)|exact flx _|constructor)) (h3 : c := by rfl) : a ∧ b ∧ c := ⟨h1, h2, h3⟩
end Go.M
namespace Go.M.Small
open Go Go.Proofs Go.M
set_option maxRecDepth 100000
noncomputable def E0 := envOf Try.prog (orcV [] [])
noncomputable def T0 := tE E0 []
theorem rows0 : [].all (eqRow E0) = true := by kernel_rfl
theorem L0 : EnvLe T0 E0 := tE_le (fun t z h => by
 simp only [E0, envOf, Option.bind_eq_some_iff, grd_some, Option.some.injEq] at h
 obtain ⟨i, h1, z', h2, h3, rfl⟩ := h
 exact h3) rows0
@[reducible] def encI (n : Int) : List TV := [.s (.int .i64 n)]
def least : List Int → Int → Int
 | [], m => m
 | x :: l, m => least l (if x < m then x else m)
def leastN (L : List Int) (i : Nat) : Int := least ((L.take i).drop 1) (L.headD 0)
theorem least_snoc : ∀ (l : List Int) (m y : Int), least (l ++ [y]) m = if y < least l m then y else least l m
 | [], _, _ => rfl
 | _ :: l, _, y => least_snoc l _ y
theorem leastN_succ (L : List Int) (i : Nat) (h1 : 1 ≤ i) (h : i < L.length) : leastN L (i + 1) = if L[i] < leastN L i then L[i] else leastN L i := by
 unfold leastN
 rw [List.take_succ_eq_append_getElem h, List.drop_append_of_le_length (by simp; omega), least_snoc]
theorem min_ok (L : List Int) (h0 : 0 < L.length) (hl : L.length ≤ 1000000) : VC E0 86 0 [.sl 1 (L.map encI) false] [] (fun r _ _ => r = .s (.int .i64 (leastN L L.length))) := by
 refine VC.enterR L0 (show E0.func 86 = some Try.f86 by kernel_rfl) (fun _ _ => rfl) rfl rfl [] ?_
 ((conv=>whnf)<;>repeat(with_reducible refine D1 ?_)<;>conv=>whnf)
 (first|refine ⟨?_,?_⟩|refine nsplit ?_ ?_|refine bsplit ?_ ?_)<;>intro h<;>have hz_:=True.intro<;>clear hz_
 ·exact absurd h (by simp; omega)
 ·((conv=>whnf)<;>repeat(with_reducible refine D1 ?_)<;>conv=>whnf)
  refine idxI h0 ?_
  ((conv=>whnf)<;>repeat(with_reducible refine D1 ?_)<;>conv=>whnf)
  refine ⟨fun k f o c => ∃ i : Nat, 1 ≤ i ∧ i ≤ L.length ∧ k = L.length - i ∧ c = 0 ∧ f = [(0, .sl 1 (L.map encI) false), (3, .s (.int .i64 (leastN L i))), (4, .s (.int .i64 i))] ∧ o = [], ⟨L.length - 1, ?_⟩, ?_⟩
  ·refine ⟨[], [], ?_⟩
   iterate 3 constructor
   refine ⟨⟨?_, ?_, ?_⟩, ⟨1, Nat.le_refl _, h0, rfl, rfl, rfl, rfl⟩⟩
   all_goals (repeat' first|with_reducible exact Lz.rfl|exact Lw.rfl|exact Lz.wrap (by omega)|(unfold goInt;with_reducible exact Lz.rfl)|exact flx _|constructor)
   all_goals (refine Lz.int ?_; cases L with
    | nil => simp at h0
    | cons x l => rfl)
  ·rintro k f1 o1 c1 ⟨i, h1, hi, rfl, rfl, rfl, rfl⟩
   ((conv=>whnf)<;>repeat(with_reducible refine D1 ?_)<;>conv=>whnf)
   (first|refine ⟨?_,?_⟩|refine nsplit ?_ ?_|refine bsplit ?_ ?_)<;>intro h<;>have hz_:=True.intro<;>clear hz_
   ·have h := lenlt.1 h
    ((conv=>whnf)<;>repeat(with_reducible refine D1 ?_)<;>conv=>whnf)
    refine idxI h ?_
    ((conv=>whnf)<;>repeat(with_reducible refine D1 ?_)<;>conv=>whnf)
    refine ⟨L.length - (i + 1), ?_, by omega⟩
    refine ⟨[], [], ?_⟩
    iterate 3 constructor
    refine ⟨⟨?_, ?_, ?_⟩, ⟨i + 1, by omega, h, rfl, rfl, rfl, rfl⟩⟩
    all_goals (repeat' first|with_reducible exact Lz.rfl|exact Lw.rfl|exact Lz.wrap (by omega)|(unfold goInt;with_reducible exact Lz.rfl)|exact flx _|constructor)
    all_goals (refine Lz.int ?_; rw [leastN_succ L i h1 h])
   ·have h := mt lenlt.2 h
    ((conv=>whnf)<;>repeat(with_reducible refine D1 ?_)<;>conv=>whnf)
    have e : i = L.length := by omega
    subst e
    exact ⟨[], [], _, _, _, t3, rfl⟩
theorem least_le : ∀ (l : List Int) (m : Int), least l m ≤ m ∧ (∀ x ∈ l, least l m ≤ x) ∧ (least l m = m ∨ least l m ∈ l)
 | [], m => ⟨Int.le_refl _, by simp, .inl rfl⟩
 | x :: l, m => by
  obtain ⟨h1, h2, h3⟩ := least_le l (if x < m then x else m)
  have e : least (x :: l) m = least l (if x < m then x else m) := rfl
  refine ⟨?_, fun y hy => ?_, ?_⟩
  ·rw [e]; by_cases hx : x < m
   ·rw [if_pos hx] at h1 ⊢; omega
   ·rw [if_neg hx] at h1 ⊢; omega
  ·rw [e]
   rcases List.mem_cons.1 hy with rfl | hy
   ·by_cases hx : y < m
    ·rw [if_pos hx] at h1 ⊢; omega
    ·rw [if_neg hx] at h1 ⊢; omega
   ·exact h2 y hy
  ·rw [e]
   rcases h3 with h3 | h3
   ·by_cases hx : x < m
    ·rw [if_pos hx] at h3 ⊢; rw [h3]; exact .inr List.mem_cons_self
    ·rw [if_neg hx] at h3 ⊢; exact .inl h3
   ·exact .inr (List.mem_cons_of_mem _ h3)
def minZ (L : List Int) : Int := leastN L L.length
theorem minZ_spec {L : List Int} (h : 0 < L.length) : minZ L ∈ L ∧ ∀ x ∈ L, minZ L ≤ x := by
 cases L with
 | nil => simp at h
 | cons a l =>
  have e : minZ (a :: l) = least l a := by simp [minZ, leastN]
  rw [e]
  obtain ⟨h1, h2, h3⟩ := least_le l a
  refine ⟨?_, fun x hx => ?_⟩
  ·rcases h3 with h3 | h3
   ·rw [h3]; exact List.mem_cons_self
   ·exact List.mem_cons_of_mem _ h3
  ·rcases List.mem_cons.1 hx with rfl | hx
   ·exact h1
   ·exact h2 x hx
theorem minZ_perm {L M : List Int} (h : 0 < L.length) (p : L.Perm M) : minZ L = minZ M := by
 obtain ⟨a1, a2⟩ := minZ_spec h
 obtain ⟨b1, b2⟩ := minZ_spec (L := M) (by rw [← p.length_eq]; exact h)
 have := a2 _ (p.mem_iff.2 b1)
 have := b2 _ (p.mem_iff.1 a1)
 omega
end Go.M.Small
namespace Go.M
open Go Go.Proofs Go.RowKit Go.Maps Go.Sort Go.Shelf
set_option maxRecDepth 100000
def keys87_ren : Go.Shelf.Ren := ⟨fun | 7 => 87 | 10 => 123 | n => n, fun | 23 => 133 | 26 => 3 | 3 => 39 | 28 => 131 | 0 => 0 | 27 => 130 | 33 => 149 | 4 => 4 | n => n, fun | n => n⟩
theorem keys87 : Go.Proofs.SlLaysZI.n7 Try.prog keys87_ren where
 mixed := by kernel_rfl
 f7 := ⟨Try.f87.name, by kernel_rfl, Try.func87.trans (congrArg some (by kernel_rfl))⟩
 f10 := ⟨Try.f123.name, by kernel_rfl, Try.func123.trans (congrArg some (by kernel_rfl))⟩
 t0 := Try.underlying0
 a0 := Try.isAgg0
 z0 := Try.sizeOf0
 v0 := Try.zeroValue0
 t4 := Try.underlying4
 a4 := Try.isAgg4
 z4 := Try.sizeOf4
 v4 := Try.zeroValue4
 t23 := Try.underlying133
 a23 := Try.isAgg133
 z23 := Try.sizeOf133
 v23 := Try.zeroValue133
 t26 := Try.underlying3
 a26 := Try.isAgg3
 z26 := Try.sizeOf3
 v26 := Try.zeroValue3
 t27 := Try.underlying130
 a27 := Try.isAgg130
 z27 := Try.sizeOf130
 v27 := Try.zeroValue130
 t28 := Try.underlying131
 a28 := Try.isAgg131
 z28 := Try.sizeOf131
 v28 := Try.zeroValue131
 t33 := Try.underlying149
 a33 := Try.isAgg149
 z33 := Try.sizeOf149
 v33 := Try.zeroValue149
def sorted101_ren : Go.Shelf.Ren := ⟨fun | 6 => 101 | 8 => 80 | 9 => 133 | 11 => 119 | 13 => 153 | 12 => 152 | 23 => 174 | 24 => 175 | 14 => 165 | 15 => 166 | 16 => 167 | 17 => 168 | 18 => 169 | 19 => 170 | 20 => 171 | 21 => 172 | 22 => 173 | 25 => 181 | 26 => 182 | 27 => 183 | 28 => 184 | 29 => 185 | 30 => 186 | 31 => 188 | n => n, fun | 26 => 3 | 28 => 131 | 24 => 41 | 0 => 0 | 3 => 3 | 37 => 193 | 48 => 208 | 50 => 35 | 4 => 4 | 40 => 201 | 39 => 200 | 45 => 205 | 5 => 5 | 9 => 9 | 51 => 211 | 55 => 214 | 57 => 217 | 58 => 218 | 33 => 149 | n => n, fun | n => n⟩
theorem sorted101 : Go.Proofs.SlLaysZI.n6 Try.prog sorted101_ren where
 mixed := by kernel_rfl
 f6 := ⟨Try.f101.name, by kernel_rfl, Try.func101.trans (congrArg some (by kernel_rfl))⟩
 f8 := ⟨Try.f80.name, by kernel_rfl, Try.func80.trans (congrArg some (by kernel_rfl))⟩
 f11 := ⟨Try.f119.name, by kernel_rfl, Try.func119.trans (congrArg some (by kernel_rfl))⟩
 t0 := Try.underlying0
 a0 := Try.isAgg0
 z0 := Try.sizeOf0
 v0 := Try.zeroValue0
 t24 := Try.underlying41
 a24 := Try.isAgg41
 z24 := Try.sizeOf41
 v24 := Try.zeroValue41
 t26 := Try.underlying3
 a26 := Try.isAgg3
 z26 := Try.sizeOf3
 v26 := Try.zeroValue3
 t28 := Try.underlying131
 a28 := Try.isAgg131
 z28 := Try.sizeOf131
 v28 := Try.zeroValue131
 i26 := by kernel_rfl
def sort133_ren : Go.Shelf.Ren := ⟨fun | 5 => 133 | 8 => 153 | 7 => 152 | 19 => 174 | 20 => 175 | 10 => 165 | 11 => 166 | 12 => 167 | 13 => 168 | 14 => 169 | 15 => 170 | 16 => 171 | 17 => 172 | 18 => 173 | 30 => 181 | 31 => 182 | 32 => 183 | 33 => 184 | 34 => 185 | 35 => 186 | 40 => 188 | n => n, fun | 23 => 41 | 25 => 3 | 3 => 3 | 32 => 193 | 22 => 41 | 0 => 0 | 44 => 208 | 46 => 35 | 4 => 4 | 36 => 201 | 35 => 200 | 41 => 205 | 5 => 5 | 9 => 9 | 53 => 211 | 57 => 214 | 63 => 217 | 64 => 218 | n => n, fun | n => n⟩
theorem sort133 : Go.Proofs.SlLaysM.n5 Try.prog sort133_ren where
 mixed := by kernel_rfl
 f5 := ⟨Try.f133.name, by kernel_rfl, Try.func133.trans (congrArg some (by kernel_rfl))⟩
 f7 := ⟨Try.f152.name, by kernel_rfl, Try.func152.trans (congrArg some (by kernel_rfl))⟩
 f8 := Try.func153.trans (congrArg some (by kernel_rfl))
 f10 := ⟨Try.f165.name, by kernel_rfl, Try.func165.trans (congrArg some (by kernel_rfl))⟩
 f11 := ⟨Try.f166.name, by kernel_rfl, Try.func166.trans (congrArg some (by kernel_rfl))⟩
 f12 := ⟨Try.f167.name, by kernel_rfl, Try.func167.trans (congrArg some (by kernel_rfl))⟩
 f13 := ⟨Try.f168.name, by kernel_rfl, Try.func168.trans (congrArg some (by kernel_rfl))⟩
 f14 := ⟨Try.f169.name, by kernel_rfl, Try.func169.trans (congrArg some (by kernel_rfl))⟩
 f15 := ⟨Try.f170.name, by kernel_rfl, Try.func170.trans (congrArg some (by kernel_rfl))⟩
 f16 := ⟨Try.f171.name, by kernel_rfl, Try.func171.trans (congrArg some (by kernel_rfl))⟩
 f17 := ⟨Try.f172.name, by kernel_rfl, Try.func172.trans (congrArg some (by kernel_rfl))⟩
 f18 := ⟨Try.f173.name, by kernel_rfl, Try.func173.trans (congrArg some (by kernel_rfl))⟩
 f19 := Try.func174.trans (congrArg some (by kernel_rfl))
 f20 := Try.func175.trans (congrArg some (by kernel_rfl))
 f30 := ⟨Try.f181.name, by kernel_rfl, Try.func181.trans (congrArg some (by kernel_rfl))⟩
 f31 := Try.func182.trans (congrArg some (by kernel_rfl))
 f32 := Try.func183.trans (congrArg some (by kernel_rfl))
 f33 := ⟨Try.f184.name, by kernel_rfl, Try.func184.trans (congrArg some (by kernel_rfl))⟩
 f34 := ⟨Try.f185.name, by kernel_rfl, Try.func185.trans (congrArg some (by kernel_rfl))⟩
 f35 := ⟨Try.f186.name, by kernel_rfl, Try.func186.trans (congrArg some (by kernel_rfl))⟩
 f40 := ⟨Try.f188.name, by kernel_rfl, Try.func188.trans (congrArg some (by kernel_rfl))⟩
 t0 := Try.underlying0
 a0 := Try.isAgg0
 z0 := Try.sizeOf0
 v0 := Try.zeroValue0
 t3 := Try.underlying3
 a3 := Try.isAgg3
 z3 := Try.sizeOf3
 v3 := Try.zeroValue3
 t4 := Try.underlying4
 a4 := Try.isAgg4
 z4 := Try.sizeOf4
 v4 := Try.zeroValue4
 t5 := Try.underlying5
 a5 := Try.isAgg5
 z5 := Try.sizeOf5
 v5 := Try.zeroValue5
 t9 := Try.underlying9
 a9 := Try.isAgg9
 z9 := Try.sizeOf9
 v9 := Try.zeroValue9
 t22 := Try.underlying41
 a22 := Try.isAgg41
 z22 := Try.sizeOf41
 v22 := Try.zeroValue41
 t23 := Try.underlying41
 a23 := Try.isAgg41
 z23 := Try.sizeOf41
 v23 := Try.zeroValue41
 t25 := Try.underlying3
 a25 := Try.isAgg3
 z25 := Try.sizeOf3
 v25 := Try.zeroValue3
 t32 := Try.underlying193
 a32 := Try.isAgg193
 z32 := Try.sizeOf193
 v32 := Try.zeroValue193
 t35 := Try.underlying200
 a35 := Try.isAgg200
 z35 := Try.sizeOf200
 v35 := Try.zeroValue200
 t36 := Try.underlying201
 a36 := Try.isAgg201
 z36 := Try.sizeOf201
 v36 := Try.zeroValue201
 t41 := Try.underlying205
 a41 := Try.isAgg205
 z41 := Try.sizeOf205
 v41 := Try.zeroValue205
 t44 := Try.underlying208
 a44 := Try.isAgg208
 z44 := Try.sizeOf208
 v44 := Try.zeroValue208
 t46 := Try.underlying35
 a46 := Try.isAgg35
 z46 := Try.sizeOf35
 v46 := Try.zeroValue35
 t53 := Try.underlying211
 a53 := Try.isAgg211
 z53 := Try.sizeOf211
 v53 := Try.zeroValue211
 t57 := Try.underlying214
 a57 := Try.isAgg214
 z57 := Try.sizeOf214
 v57 := Try.zeroValue214
 t63 := Try.underlying217
 a63 := Try.isAgg217
 z63 := Try.sizeOf217
 v63 := Try.zeroValue217
 t64 := Try.underlying218
 a64 := Try.isAgg218
 z64 := Try.sizeOf218
 v64 := Try.zeroValue218
theorem sortsIn101 (m : Nat) : AnyZI.SortsIn Try.prog sorted101_ren Fence.wide m :=
 ⟨fun blk off cap ss W hH hblk hsz => callsIn_wide.2 (AnyM.slices_Sort_int sort133 blk off cap ss W hH hblk hsz), fun p cap W => callsIn_wide.2 (AnyM.slices_Sort_int_none sort133 p cap W)⟩
theorem sorts101_123 : SortsKeys Try.prog 101 123 :=
 sortsKeys_of (ρ := sorted101_ren) (σ := keys87_ren) sorted101 { keys87 with } sortsIn101 (enters_of Try.func133 (by kernel_rfl) rfl) (enters_of Try.func123 (by kernel_rfl) rfl)
end Go.M
namespace Go.M
open Go Go.Proofs Go.RowKit Go.Maps Go.Sort Go.Shelf
set_option maxRecDepth 1000000
theorem collects80_123 : CollectsKeys Try.prog 80 123 :=
 collectsKeys_of (ρ := sorted101_ren) (σ := keys87_ren) { sorted101 with } { keys87 with } (enters_of Try.func123 (by kernel_rfl) rfl)
def minVal : BagF := fun pre cs => match pre, cs with
 | [], _ :: _ => grd (Nat.ble cs.length 1000000) (some (.int .i64 (Small.minZ cs)))
 | _, _ => none
theorem follows0 : Try.prog.follows .mixedOrders = true := by kernel_rfl
theorem orcNone (base B : Nat) : OrcOk Try.prog Small.E0 base B :=
 orcV_ok (fun g hg => by simp at hg) (fun g its hi => by simp [look] at hi) base B
theorem minBag : BagOk Try.prog 86 minVal := by
 intro pre cs v _ hv
 unfold minVal at hv
 split at hv
 ·rename_i a l
  simp only [grd_some, ble_iff, Option.some.injEq] at hv
  obtain ⟨hl, rfl⟩ := hv
  refine ⟨rfl, fun m hp => ⟨fun m => .int .i64 (Small.minZ m), fun m => 0 < m.length ∧ m.length ≤ 1000000, ?_, ?_, ?_⟩⟩
  ·exact onInts_of (E := Small.E0) (envOk _ _) orcNone follows0 (fun _ => rfl) (by simp) (fun _ _ => rfl) fun m hm => Small.min_ok m hm.1 hm.2
  ·have := hp.length_eq
   simp only [List.length_cons] at this hl ⊢
   exact ⟨by omega, by omega⟩
  ·exact congrArg _ (Small.minZ_perm (by rw [hp.length_eq]; simp) hp)
 ·cases hv
end Go.M
namespace Go.M
open Go
def popN (s : Nat) : Nat := s % 2 + s / 2 % 2 + s / 4 % 2 + s / 8 % 2 + s / 16 % 2 + s / 32 % 2
def withN (s : Nat) (L : List Int) : Nat := L.foldl (fun s i => s ||| 2 ^ i.toNat) s
def m5 (x : Int) : Prop := 1 ≤ x ∧ x ≤ 5
theorem m5_cases {x : Int} (h : m5 x) : x = 1 ∨ x = 2 ∨ x = 3 ∨ x = 4 ∨ x = 5 := by unfold m5 at h; omega
def ev64 (s : Nat) : Prop := s < 64 ∧ s % 2 = 0
instance (s : Nat) : Decidable (ev64 s) := inferInstanceAs (Decidable (s < 64 ∧ s % 2 = 0))
theorem or_ev {s : Nat} (h : ev64 s) {x : Int} (hx : m5 x) : ev64 (s ||| 2 ^ x.toNat) := by
 have : ∀ s < 64, s % 2 = 0 → ∀ k < 6, 0 < k → (s ||| 2 ^ k) < 64 ∧ (s ||| 2 ^ k) % 2 = 0 := by decide +kernel
 unfold m5 at hx
 exact this s h.1 h.2 x.toNat (by omega) (by omega)
theorem withN_ev : ∀ {L : List Int} {s : Nat}, ev64 s → (∀ x ∈ L, m5 x) → ev64 (withN s L)
 | [], s, h, _ => h
 | x :: L, s, h, hL => withN_ev (L := L) (or_ev h (hL x List.mem_cons_self)) fun y hy => hL y (List.mem_cons_of_mem _ hy)
theorem withN_snoc (s : Nat) (L : List Int) (x : Int) : withN s (L ++ [x]) = withN s L ||| 2 ^ x.toNat := by simp [withN]
theorem withN_perm {L M : List Int} (p : L.Perm M) : ∀ s, withN s L = withN s M := by
 induction p with
 | nil => intro s; rfl
 | cons x _ ih => intro s; exact ih _
 | swap x y l => intro s; simp only [withN, List.foldl_cons]; rw [Nat.or_assoc, Nat.or_comm (2 ^ y.toNat), ← Nat.or_assoc]
 | trans _ _ ih1 ih2 => intro s; rw [ih1, ih2]
theorem andNot1 : ∀ s : Nat, s < 64 → IntKind.u64.wrap ((BitVec.ofInt IntKind.u64.bits (s : Int) &&& ~~~ BitVec.ofInt IntKind.u64.bits 1).toNat : Int) = ((s / 2 * 2 : Nat) : Int) := by decide +kernel
theorem orBit : ∀ s : Nat, s < 64 → ∀ k : Nat, k < 6 → IntKind.u64.wrap ((BitVec.ofInt IntKind.u64.bits (s : Int) ||| BitVec.ofInt IntKind.u64.bits (IntKind.u64.wrap (1 * 2 ^ k))).toNat : Int) = ((s ||| 2 ^ k : Nat) : Int) := by decide +kernel
def enoughN (s : Nat) (n : Int) : Bool := decide (n.toNat / 2 + 1 ≤ popN ((s &&& (2 ^ (n.toNat + 1) - 1)) / 2 * 2))
end Go.M
namespace Go.M.Small
open Go Go.Proofs Go.M
set_option maxRecDepth 100000
set_option maxHeartbeats 2000000
@[reducible] def encI1 (n : Int) : List TV := [.s (.int .i64 n)]
def isMember (n : Int) : Bool := decide (n ≥ 1 ∧ n ≤ 63)
theorem member_ok (n : Int) : VC E0 126 0 [.s (.int .i64 n)] [] (RR (.s (.bool (isMember n))) 0 []) := by
 refine VC.enterR L0 (show E0.func 126 = some Try.f126 by kernel_rfl) (fun _ _ => rfl) rfl rfl [] ?_
 ((conv=>whnf)<;>repeat(with_reducible refine D1 ?_)<;>conv=>whnf)
 repeat' (first | ((first | (refine ⟨fun h => ?_, fun h => ?_⟩) | (refine nsplit (fun h => ?_) (fun h => ?_)) | (refine bsplit (fun h => ?_) (fun h => ?_))) <;> ((conv=>whnf)<;>repeat(with_reducible refine D1 ?_)<;>conv=>whnf)))
 all_goals (refine ⟨[], [], [], _, _, ⟨?_, .nil, rfl⟩, rfl, rfl, rfl⟩)
 all_goals (refine .s (Lz.of (bool_eq ?_)); simp [isMember, *]; try omega)
theorem with_ok (s : Nat) (L : List Int) (hs : ev64 s) (hL : ∀ x ∈ L, m5 x) (hl : L.length < 1000000) : VC E0 94 0 [.s (.int .u64 s), .sl 1 (L.map encI1) false] [] (RR (.s (.int .u64 (withN s L))) 0 []) := by
 refine VC.enterR L0 (show E0.func 94 = some Try.f94 by kernel_rfl) (fun _ _ => rfl) rfl rfl [] ?_
 ((conv=>whnf)<;>repeat(with_reducible refine D1 ?_)<;>conv=>whnf)
 refine ⟨fun k f o c => ∃ j : Nat, j ≤ L.length ∧ k = L.length - j ∧ c = 0 ∧ f = [(0, .s (.int .u64 (withN s (L.take j)))), (9, .sl 1 (L.map encI1) false), (10, .s (.int .i64 L.length)), (11, .s (.int .i64 j))] ∧ o = [], ⟨L.length, ?_⟩, ?_⟩
 ·refine ⟨[], [], ?_⟩
  iterate 3 constructor
  refine ⟨⟨?_, ?_, ?_⟩, ⟨0, Nat.zero_le _, rfl, rfl, rfl, rfl⟩⟩
  all_goals (repeat' first|with_reducible exact Lz.rfl|exact Lw.rfl|exact Lz.wrap (by omega)|(unfold goInt;with_reducible exact Lz.rfl)|exact flx _|constructor)
  ·refine Lz.int ?_
   have := andNot1 s hs.1
   have h2 := hs.2
   rw [show s / 2 * 2 = s by omega] at this
   exact this
  all_goals exact Lz.of (by simp [goInt])
 ·rintro k f1 o1 c1 ⟨j, hj, rfl, rfl, rfl, rfl⟩
  ((conv=>whnf)<;>repeat(with_reducible refine D1 ?_)<;>conv=>whnf)
  (first|refine ⟨?_,?_⟩|refine nsplit ?_ ?_|refine bsplit ?_ ?_)<;>intro h<;>have hz_:=True.intro<;>clear hz_
  ·have h : j < L.length := by simpa using h
   have hw := withN_ev hs (fun x hx => hL x (List.mem_of_mem_take hx)) (L := L.take j)
   have hsn : withN s (L.take (j + 1)) = withN s (L.take j) ||| 2 ^ L[j].toNat := by rw [List.take_succ_eq_append_getElem h, withN_snoc]
   have hx := m5_cases (hL _ (List.getElem_mem h))
   generalize hwe : withN s (L.take j) = w at *
   ((conv=>whnf)<;>repeat(with_reducible refine D1 ?_)<;>conv=>whnf)
   refine idxI h ?_
   generalize hxe : L[j] = x at *
   rcases hx with rfl | rfl | rfl | rfl | rfl
   all_goals
    ((conv=>whnf)<;>repeat(with_reducible refine D1 ?_)<;>conv=>whnf)
    refine ⟨[], [], _, _, _, _, member_ok _, t3, ?_⟩
    rintro r o' c' ⟨rfl, rfl, rfl⟩
    ((conv=>whnf)<;>repeat(with_reducible refine D1 ?_)<;>conv=>whnf)
    refine ⟨L.length - (j + 1), ?_, by omega⟩
    refine ⟨[], [], ?_⟩
    iterate 3 constructor
    refine ⟨⟨?_, ?_, ?_⟩, ⟨j + 1, h, rfl, rfl, rfl, rfl⟩⟩
    all_goals (repeat' first|with_reducible exact Lz.rfl|exact Lw.rfl|exact Lz.wrap (by omega)|(unfold goInt;with_reducible exact Lz.rfl)|exact flx _|constructor)
    refine Lz.int ?_
    rw [hsn]
    exact orBit w hw.1 _ (by decide)
  ·have h' : j = L.length := by have : ¬ j < L.length := by simpa using h
                                omega
   subst h'
   ((conv=>whnf)<;>repeat(with_reducible refine D1 ?_)<;>conv=>whnf)
   rw [List.take_length]
   exact ⟨[], [], _, _, _, t3, rfl, rfl, rfl⟩
end Go.M.Small
namespace Go.M
open Go Go.Proofs
set_option maxRecDepth 1000000
instance (x : Int) : Decidable (m5 x) := inferInstanceAs (Decidable (1 ≤ x ∧ x ≤ 5))
def withVal : BagF := fun pre cs => match pre with
 | [.int .u64 s] => grd (decide (s = 0) && cs.all (fun x => decide (m5 x)) && Nat.blt cs.length 1000000) (some (.int .u64 (withN 0 cs)))
 | _ => none
theorem withBag : BagOk Try.prog 94 withVal := by
 intro pre cs v _ hv
 unfold withVal at hv
 split at hv
 ·rename_i s
  simp only [grd_some, Bool.and_eq_true, decide_eq_true_iff, List.all_eq_true, blt_iff, Option.some.injEq] at hv
  obtain ⟨⟨⟨rfl, h5⟩, hl⟩, rfl⟩ := hv
  refine ⟨rfl, fun m hp => ⟨fun m => .int .u64 (withN 0 m), fun m => (∀ x ∈ m, m5 x) ∧ m.length < 1000000, ?_, ?_, ?_⟩⟩
  ·exact onInts_of (E := Small.E0) (envOk _ _) orcNone follows0 (fun _ => rfl) (by simp [plain1]) (fun _ _ => rfl) fun m hm => (Small.with_ok 0 m (by decide) hm.1 hm.2).mono fun r o c h => h.1
  ·exact ⟨fun x hx => h5 x (hp.mem_iff.1 hx), by rw [hp.length_eq]; exact hl⟩
  ·exact congrArg (fun n : Nat => Value.int .u64 n) (withN_perm hp 0)
 ·cases hv
end Go.M
namespace Go.M
open Go Go.RowKit
def gapsOf (es : List MapEntry) : Nat → Int → Option (List Int)
 | 0, _ => some []
 | n + 1, next => match Instr.findNow (.int .i64) (.int .i64 next) es 0, gapsOf es n (next + 1) with
  | some none, some l => some (next :: l)
  | some (some _), some l => some l
  | _, _ => none
def intV : Value → Bool | .int _ _ => true | _ => false
theorem scalar_intV {v : Value} (h : intV v = true) : scalar v = true := by cases v <;> first | rfl | cases h
def agg4 (v : Value) : Bool := match v with | .agg a => Nat.beq a.size 4 && a.toList.all intV | _ => false
def aggs4 (es : List MapEntry) : Bool := es.all fun e => agg4 e.val
def GapsIn (P : Program) (g : FuncId) : Prop := ∀ (w : World) (r s m : Nat) (cells : Array Value) (e : TypeId) (fr : Nat × Nat) (es : Array MapEntry) (clock : Nat) (next top : Int) (ss : List Int),
 w.heap[r]? = some (.cells cells e fr) → cells[s]? = some (.map (some m)) → cells[s + 1]? = some (.int .i64 next) → cells[s + 2]? = some (.int .i64 top) → w.heap[m]? = some (.map es clock) →
 -1000000 ≤ next → top ≤ 1000000 → gapsOf es.toList (top - next).toNat next = some ss → aggs4 es.toList = true →
 Calls P g #[.pointer (some ⟨r, s, none⟩)] w fun en w' => ∃ (v : Value) (t : TypeId), en = .returned v ∧ w'.ownsRow w.heap.size t 1 v ss.length (ss.map (.int .i64)) ∧ (v = .slice none 0 0 ↔ ss = []) ∧ Below w.heap.size w w'
def ansG (h : AHeap) (ss : List Int) : Value × AHeap := match ss with
 | [] => (.slice none 0 0, h)
 | _ :: _ => (.slice (some ⟨h.size, 0, some 1⟩) ss.length (ss.length + 1), h.push (.cells (ss.map (.int .i64)) h.size h.size 0))
theorem gapsOf_rel {μ : Emb} {es es' : List MapEntry} (hs : ERels μ es es') : ∀ {n : Nat} {next : Int} {ss : List Int}, gapsOf es n next = some ss → gapsOf es' n next = some ss
 | 0, _, _, h => h
 | n + 1, next, ss, h => by
  unfold gapsOf at h ⊢
  split at h
  ·rename_i l h1 h2
   obtain ⟨r', q1, q2, q3⟩ := findNow_rel hs h1
   rw [q1, q2 rfl, gapsOf_rel hs h2]
   exact h
  ·rename_i p l h1 h2
   obtain ⟨r', q1, q2, q3⟩ := findNow_rel hs h1
   obtain ⟨v', e, _⟩ := q3 p.1 p.2 rfl
   rw [q1, e, gapsOf_rel hs h2]
   exact h
  ·cases h
theorem agg4_rel {μ : Emb} {v v' : Value} (hv : VRel μ v v') (h1 : agg4 v = true) : agg4 v' = true := by
 cases hv with
 | lit q => exact h1
 | agg hsz hag =>
  rename_i a a'
  simp only [agg4, Bool.and_eq_true, beq_iff] at h1 ⊢
  refine ⟨by omega, ?_⟩
  rw [List.all_eq_true]
  intro x hx
  obtain ⟨i, hi⟩ := List.mem_iff_getElem?.1 hx
  have hlt := (List.getElem?_eq_some_iff.1 hi).1
  rw [Array.length_toList] at hlt
  have hia : i < a.size := by omega
  have h2 := hag i a[i] x (Array.getElem?_eq_getElem hia) (by simpa using hi)
  have h3 := List.all_eq_true.1 h1.2 a[i] (List.mem_of_getElem? (i := i) (by rw [Array.getElem?_toList]; exact Array.getElem?_eq_getElem hia))
  rw [h2.inv_scalar (scalar_intV h3)]
  exact h3
 | _ => simp [agg4] at h1
theorem aggs4_rel {μ : Emb} {es es' : List MapEntry} (hs : ERels μ es es') : aggs4 es = true → aggs4 es' = true := by
 induction hs with
 | nil => exact id
 | cons hk hv hb ht ih =>
  intro h
  simp only [aggs4, List.all_cons, Bool.and_eq_true] at h ⊢
  exact ⟨agg4_rel hv h.1, ih h.2⟩
def gapsK (args : List Value) (h : AHeap) : Option (Value × AHeap) := match args with
 | [.pointer (some ⟨b, o, none⟩)] => (h.rd b).bind fun cs => (match cs[o]?, cs[o + 1]?, cs[o + 2]? with
  | some (.map (some mb)), some (.int .i64 next), some (.int .i64 top) => (match h.get mb with
   | some (.map es _) => grd (decide (-1000000 ≤ next) && decide (top ≤ 1000000) && aggs4 es) ((gapsOf es (top - next).toNat next).bind fun ss => some (ansG h ss))
   | _ => none)
  | _, _, _ => none)
 | _ => none
theorem rowPost {E : Env} {base B : Nat} {μ : Emb} {h : AHeap} {w w' : World} {t : TypeId} {v' : Value} {ss : List Int} (H : HRel E base B μ h w) (hb : Below w.heap.size w w') (hrow : w'.ownsRow w.heap.size t 1 v' ss.length (ss.map (.int .i64))) (hnil : v' = .slice none 0 0 ↔ ss = []) :
 RetPost E base B μ h w (ansG h ss).1 (ansG h ss).2 (.returned v') w' := by
 have Hx := H.ext hb.size fun r hr => hb.block r hr
 have gr : Grow base μ w w' := ⟨hb.tape, hb.os, hb.output, hb.size, fun r hr _ => hb.block r hr⟩
 cases ss with
 | nil =>
  have := hnil.2 rfl
  subst this
  exact ⟨_, μ, rfl, .lit rfl, ⟨Hx, gr, μ.le_refl, fun b m h0 h1 => (by rw [h0] at h1; cases h1), fun _ _ _ => rfl, Nat.le_refl _⟩⟩
 | cons x0 l0 =>
  generalize hks0 : x0 :: l0 = ks at *
  have hlen : 0 < ks.length := by rw [← hks0]; simp
  have hans' : ansG h ks = (.slice (some ⟨h.size, 0, some 1⟩) ks.length (ks.length + 1), h.push (.cells (ks.map (.int .i64)) h.size h.size 0)) := by rw [← hks0]; rfl
  rw [hans']
  obtain ⟨r1, ⟨_, r2⟩ | ⟨gb, cap, cur, rfl, r3, r4, r5, r6, r7, r8⟩⟩ := hrow
  ·omega
  ·let cs := ks.map (Value.int .i64)
   have hcl : cs.length = ks.length := by simp [cs]
   let m2 : MT := ⟨gb, 0, cur.size⟩
   have Hp := Hx.pushA (o := .cells cs h.size h.size 0) (fun _ _ _ _ hh => by cases hh; rfl)
   have hget : (h.push (.cells cs h.size h.size 0)).get h.size = some (.cells cs h.size h.size 0) := by rw [AHeap.get_push, if_pos rfl]
   have ho : ORel (upd μ h.size m2) (h.push (.cells cs h.size h.size 0)) base h.size m2 (.cells cs h.size h.size 0) (.cells cur t (0, 0)) := by
    refine .cells rfl (by show 0 + cs.length ≤ cur.size; omega) (fun _ => noFr0 _) fun _ i v hv => ?_
    have hi := (List.getElem?_eq_some_iff.1 hv).1
    have : cur.toList[i]? = some v := by
     have h5 : (cur.toList.take (ks.length * 1))[i]? = some v := by rw [r8]; exact hv
     rw [List.getElem?_take] at h5
     rwa [if_pos (by omega)] at h5
    refine ⟨v, by show cur[0 + i]? = some v; rw [Nat.zero_add]; simpa using this, ?_⟩
    obtain ⟨n, _, rfl⟩ := List.mem_map.1 (List.mem_of_getElem? hv)
    exact .int _ _ _
   have Ht := Hp.track (b := h.size) (m := m2) (by simp [AHeap.size_push]) hget H.fresh H.bsz (by have := H.low; show B ≤ gb; omega) r4
    (fun d md hd he => by have := H.lt hd; simp only [m2] at he; omega) (fun _ _ _ _ hh => by cases hh; exact ⟨rfl, Nat.le_refl _⟩) (fun _ _ _ => rfl) ho
   refine ⟨_, upd μ h.size m2, rfl, ?_, Ht, gr, upd_le H.fresh, fun d md h0 hd => ?_, fun d hd _ => by rw [AHeap.get_push, if_neg (by omega)], by simp [AHeap.size_push]⟩
   ·have := VRel.slice (μ := upd μ h.size m2) (b := h.size) (o := 0) (z := 1) (len := ks.length) (cap := ks.length + 1) (cap' := cap) (m := m2) (upd_self _ _ _) (by omega) r5 (fun h => by omega) (by show 0 + 0 + cap * 1 ≤ cur.size; omega)
    simpa [m2] using this
   ·by_cases ed : d = h.size
    ·subst ed
     rw [upd_self] at hd; cases hd
     exact ⟨Nat.le_refl _, H.bsz, .inl r3⟩
    ·rw [upd_ne _ _ ed, h0] at hd; cases hd
theorem gapsK_ok {P : Program} {E : Env} {base B : Nat} {g : FuncId} (hS : GapsIn P g) {μ : Emb} {h h' : AHeap} {w : World} {args : List Value} {args' : Array Value} {v : Value}
 (hc : gapsK args h = some (v, h')) (hr : VRels μ args args'.toList) (H : HRel E base B μ h w) : Calls P g args' w (RetPost E base B μ h w v h') := by
 unfold gapsK at hc
 split at hc
 ·rename_i b o
  simp only [Option.bind_eq_some_iff] at hc
  obtain ⟨cs, hrd, hc⟩ := hc
  split at hc
  ·rename_i mb next top c0 c1 c2
   split at hc
   ·rename_i es clock hgm
    simp only [grd_some, Option.bind_eq_some_iff, Option.some.injEq, Bool.and_eq_true, decide_eq_true_eq] at hc
    obtain ⟨⟨⟨hn, ht⟩, hag⟩, ss, hgap, hans⟩ := hc
    obtain ⟨v1, hv1, e1⟩ : ∃ v1, VRel μ (.pointer (some ⟨b, o, none⟩)) v1 ∧ args' = #[v1] := by
     obtain ⟨l⟩ := args'
     cases hr with
     | cons h1 h2 => cases h2; exact ⟨_, h1, rfl⟩
    subst e1
    obtain ⟨m, hm, rfl⟩ := hv1.inv_ptr
    obtain ⟨cc, e, fr, q1, q2, q3, q4, q5⟩ := H.read hm hrd
    obtain ⟨w0, p0, r0⟩ := q5 o _ c0
    obtain ⟨w1, p1, r1⟩ := q5 (o + 1) _ c1
    obtain ⟨w2, p2, r2⟩ := q5 (o + 2) _ c2
    obtain ⟨mr, hmr, rfl⟩ := r0.inv_map
    obtain rfl := r1.inv_scalar rfl
    obtain rfl := r2.inv_scalar rfl
    obtain ⟨ob, ob', k1, k2, k3⟩ := H.obj mb mr hmr
    rw [hgm] at k1; cases k1
    cases k3 with
    | map hs =>
     rename_i es'
     have hcall := hS w m.r (m.s + o) mr.r cc e fr es' clock next top ss q1 p0 (by rw [Nat.add_assoc]; exact p1) (by rw [Nat.add_assoc]; exact p2) k2 hn ht (gapsOf_rel hs hgap) (aggs4_rel hs hag)
     refine hcall.mono ?_
     rintro en w' ⟨v', t, rfl, hrow, hnil, hb⟩
     have := rowPost H hb hrow hnil
     rw [hans] at this
     exact this
   ·cases hc
  ·cases hc
 ·cases hc
end Go.M
namespace Go.M
open Go
section
variable {α : Type}
def encA (k : IntKind) (f : α → TV) (e : Int × α) : Value × TV := (.int k e.1, f e.2)
def lookA : List (Int × α) → Int → Option α
 | [], _ => none
 | e :: es, n => if n = e.1 then some e.2 else lookA es n
def putA : List (Int × α) → Int → α → List (Int × α)
 | [], n, v => [(n, v)]
 | e :: es, n, v => if n = e.1 then (n, v) :: es else e :: putA es n v
def delA : List (Int × α) → Int → List (Int × α)
 | [], _ => []
 | e :: es, n => if n = e.1 then es else e :: delA es n
@[reducible] def keysA (es : List (Int × α)) : List Int := es.map (·.1)
theorem keq_A {k k' : IntKind} {f : α → TV} {e : Int × α} {n : Int} : keq (.int k' n) (encA k f e).1 = decide (n = e.1) := by
 rw [Bool.eq_iff_iff]; simp [keq, encA]
theorem lookM_A (k k' : IntKind) (f : α → TV) (n : Int) : ∀ es : List (Int × α), lookM (es.map (encA k f)) (.int k' n) = (lookA es n).map f
 | [] => rfl
 | e :: es => by
  rw [List.map_cons]
  unfold lookM lookA
  rw [keq_A]
  by_cases he : n = e.1
  ·simp [he, encA]
  ·simp [he, lookM_A k k' f n es]
theorem putM_A (k : IntKind) (f : α → TV) (n : Int) (v : α) : ∀ es : List (Int × α), putM (es.map (encA k f)) (.int k n) (f v) = (putA es n v).map (encA k f)
 | [] => rfl
 | e :: es => by
  rw [List.map_cons]
  unfold putM putA
  rw [keq_A]
  by_cases he : n = e.1
  ·simp [he, encA]
  ·simp [he, putM_A k f n v es]
theorem lookA_put {n m : Int} {v : α} : ∀ {es : List (Int × α)}, lookA (putA es n v) m = if m = n then some v else lookA es m
 | [] => by simp [putA, lookA]
 | e :: es => by
  have ih := lookA_put (n := n) (m := m) (v := v) (es := es)
  unfold putA
  by_cases he : n = e.1
  ·simp only [he, if_true, lookA]
   by_cases hm : m = e.1 <;> simp [hm]
  ·simp only [he, if_false, lookA, ih]
   by_cases hm : m = e.1
   ·rw [if_pos hm, if_pos hm, if_neg]; rintro rfl; exact he hm
   ·rw [if_neg hm, if_neg hm]
end
end Go.M
namespace Go.M
open Go Go.RowKit
section
variable {α : Type}
def gapsA (es : List (Int × α)) : Nat → Int → List Int
 | 0, _ => []
 | n + 1, next => if (lookA es next).isSome = true then gapsA es n (next + 1) else next :: gapsA es n (next + 1)
theorem gapsOf_A {c : Nat} {ρ : Gh} {F : Nat → Prop} {h : AHeap} {f : α → TV} {es : List (Int × α)} {es' : List MapEntry} (H : ERs c ρ F h (kIdx .i64) (es.map (encA .i64 f)) es') : ∀ (n : Nat) (next : Int), gapsOf es' n next = some (gapsA es n next)
 | 0, _ => rfl
 | n + 1, next => by
  have hk := vfindNow_rel (kd := .int .i64) (k := .int .i64 next) (n := kIdx .i64) rfl 0 H
  rw [lookM_A] at hk
  unfold gapsOf gapsA
  rw [gapsOf_A H n (next + 1)]
  cases hl : lookA es next with
  | none =>
   rw [hl] at hk
   have hk : Instr.findNow (.int .i64) (.int .i64 next) es' 0 = some none := hk
   rw [hk]
   rfl
  | some a =>
   rw [hl] at hk
   obtain ⟨j, x, q1, _⟩ : ∃ j x, Instr.findNow (.int .i64) (.int .i64 next) es' 0 = some (some (0 + j, x)) ∧ _ := hk
   rw [q1]
   rfl
end
def orcG (js : List Nat) (rest : FuncId → List Value → AHeap → Option (Value × AHeap)) : FuncId → List Value → AHeap → Option (Value × AHeap) := fun g args h =>
 match memN g js, gapsK args h with
 | true, some r => some r
 | _, _ => rest g args h
theorem orcG_ok {P : Program} {js : List Nat} {rest : FuncId → List Value → AHeap → Option (Value × AHeap)} (hj : ∀ g ∈ js, GapsIn P g) (hr : ∀ base B, OrcOk P (envOf P rest) base B) (base B : Nat) : OrcOk P (envOf P (orcG js rest)) base B := by
 intro μ h w g args args' v h' hc hv H F k hF
 have hc' : orcG js rest g args h = some (v, h') := hc
 unfold orcG at hc'
 split at hc'
 ·rename_i r h1 h2
  cases hc'
  exact calls_any hF (gapsK_ok (E := envOf P (orcG js rest)) (hj g (memN_mem h1)) h2 hv H)
 ·have H2 : HRel (envOf P rest) base B μ h w := ⟨H.dom, H.high, H.obj, H.own, H.alias, H.fam, H.glob, H.low, H.bsz, H.wf, H.root⟩
  exact (hr base B μ h w g _ args' v h' hc' hv H2 F k hF).mono fun e w' ⟨v', μ', h1, h2, h3⟩ =>
   ⟨v', μ', h1, h2, ⟨⟨h3.rel.dom, h3.rel.high, h3.rel.obj, h3.rel.own, h3.rel.alias, h3.rel.fam, h3.rel.glob, h3.rel.low, h3.rel.bsz, h3.rel.wf, h3.rel.root⟩, h3.grow, h3.le, h3.new, h3.unt, h3.hsz⟩⟩
section
variable {E : Env} {α : Type}
theorem agg4_of {c : Nat} {ρ : Gh} {F : Nat → Prop} {h : AHeap} {a b d e v : Value} (H : VR c ρ F h (.agg [.s a, .s b, .s d, .s e]) v) (ha : intV a = true) (hb : intV b = true) (hd : intV d = true) (he : intV e = true) : agg4 v = true := by
 obtain ⟨ar, rfl, hs⟩ := H.inv_agg
 obtain ⟨v1, m1, e1, q1, hs⟩ := hs.inv_cons
 obtain ⟨v2, m2, rfl, q2, hs⟩ := hs.inv_cons
 obtain ⟨v3, m3, rfl, q3, hs⟩ := hs.inv_cons
 obtain ⟨v4, m4, rfl, q4, hs⟩ := hs.inv_cons
 obtain rfl := hs.inv_nil
 obtain rfl := q1.inv_s.1
 obtain rfl := q2.inv_s.1
 obtain rfl := q3.inv_s.1
 obtain rfl := q4.inv_s.1
 have hsz : ar.size = 4 := by have := congrArg List.length e1; simpa using this
 simp only [agg4, hsz, e1, List.all_cons, List.all_nil, ha, hb, hd, he, Bool.and_self]
 rfl
theorem VC.gapsO {g : FuncId} {js : List Nat} {f : α → TV} {es : List (Int × α)} {next top done : Int} {zc : Nat} {cf : List (List TV)} (hf : (E.func g).isSome = true) (ho : ∀ a h r, gapsK a h = some r → E.orc g a h = some r)
 (hv : ∀ x : α, ∃ a b d e : Value, f x = .agg [.s a, .s b, .s d, .s e] ∧ intV a = true ∧ intV b = true ∧ intV d = true ∧ intV e = true) (hn : -1000000 ≤ next) (ht : top ≤ 1000000) :
 VC E g 2 [.ptr 0 0] [(0, .cells [.mp 1, .s (.int .i64 next), .s (.int .i64 top), .s (.int .i64 done), .sl zc cf false]), (1, .map (kIdx .i64) (es.map (encA .i64 f)))] fun r o c => r = .tk 2 ∧ c = 3 ∧
  o = [(2, .arr 1 true ((gapsA es (top - next).toNat next).map fun n => [.s (.int .i64 n)])), (0, .cells [.mp 1, .s (.int .i64 next), .s (.int .i64 top), .s (.int .i64 done), .sl zc cf false]), (1, .map (kIdx .i64) (es.map (encA .i64 f)))] := by
 intro base ρ F h S vargs hN hM hO hA
 obtain ⟨fn, hf⟩ := Option.isSome_iff_exists.1 hf
 obtain ⟨v1, m1, rfl, h1, h2⟩ := hA.inv_cons
 obtain rfl := h2.inv_nil
 obtain ⟨_, hb⟩ := hM.objs (m := 0) rfl
 obtain ⟨_, hm⟩ := hM.objs (m := 1) rfl
 generalize hss : gapsA es (top - next).toNat next = ss
 cases hb with
 | cells hb1 hg1 ht1 hc1 =>
  rename_i b1 thr cs'
  have hc1 := (hc1.vrs (fun t v hv hf => hv.fzmono hf) rfl).1
  obtain ⟨x0, l0, rfl, y0, hc1⟩ := hc1.inv_cons
  obtain ⟨x1, l1, rfl, y1, hc1⟩ := hc1.inv_cons
  obtain ⟨x2, l2, rfl, y2, hc1⟩ := hc1.inv_cons
  obtain rfl := y1.inv_s.1
  obtain rfl := y2.inv_s.1
  cases hm with
  | map hb0 hg0 hl0 hc0 hst0 =>
   rename_i b0 clock ev
   cases y0 with
   | mp hbm =>
    rw [hb0] at hbm; cases hbm
    cases h1 with
    | ptr hbp =>
     rw [hb1] at hbp; cases hbp
     have hrd : h.rd b1 = some (.map (some b0) :: .int .i64 next :: .int .i64 top :: l2) := rd_of (fam_of hg1 hg1) ht1 (by unfold AHeap.cellsOf; rw [hg1])
     have hERs : ERs 2 ρ F h (kIdx .i64) (es.map (encA .i64 f)) ev := ⟨hl0, hc0⟩
     have hag : aggs4 ev = true := by
      unfold aggs4
      rw [List.all_eq_true]
      intro x hx
      obtain ⟨i, hi⟩ := List.mem_iff_getElem?.1 hx
      have hlt := (List.getElem?_eq_some_iff.1 hi).1
      have hlt2 : i < (es.map (encA .i64 f)).length := by rw [hl0]; exact hlt
      obtain ⟨_, _, _, q4⟩ := hc0 i _ x (List.getElem?_eq_getElem hlt2) hi
      obtain ⟨a, b, d, e, e1, s1, s2, s3, s4⟩ := hv (es[i]'(by simpa using hlt2)).2
      rw [List.getElem_map] at q4
      unfold encA at q4
      rw [e1] at q4
      exact agg4_of q4 s1 s2 s3 s4
     have horc : E.orc g [.pointer (some ⟨b1, 0, none⟩)] h = some (ansG h ss) := by
      refine ho _ _ _ ?_
      show (h.rd b1).bind _ = _
      rw [hrd]
      show (match h.get b0 with | some (.map es _) => _ | _ => none) = _
      rw [hg0]
      show grd _ _ = _
      rw [decide_eq_true hn, decide_eq_true ht, hag, gapsOf_A hERs, hss]
      rfl
     have hcall : ∀ r, E.orc g [.pointer (some ⟨b1, 0, none⟩)] h = some r → acall E base 0 g [.pointer (some ⟨b1, 0, none⟩)] h = some r := by
      intro r hr
      unfold acall acallB
      rw [hf]
      simp only [Option.bind_some, hr]
     cases hes : ss with
     | nil =>
      subst hes
      obtain ⟨M, hk2⟩ := hM.newNil (z := 1) (by omega)
      refine ⟨0, _, _, _, F, .tk 2, _, 3, hcall _ horc, ⟨rfl, rfl, rfl⟩, M, ?_⟩
      exact .tk (by omega) rfl (fun b z len hx => by rw [updG_self] at hx; cases hx) (fun z _ => .inl rfl)
     | cons e0 l0 =>
      rw [← hes]
      have hlen : 0 < ss.length := by rw [hes]; simp
      have hans : ansG h ss = (.slice (some ⟨h.size, 0, some 1⟩) ss.length (ss.length + 1), h.push (.cells (ss.map (.int .i64)) h.size h.size 0)) := by
       rw [hes]; rfl
      rw [hans] at horc
      have hER : ER 2 ρ F h 1 (ss.map fun n => [.s (.int .i64 n)]) (ss.map (Value.int .i64)) := by
       refine ⟨by simp, by simp, by simp [fz, plainE], fun i j e t v q1 q2 q3 => ?_⟩
       rw [List.getElem?_map] at q1
       obtain ⟨n, hn, rfl⟩ := Option.map_eq_some_iff.1 q1
       have : j = 0 := by
        have := (List.getElem?_eq_some_iff.1 q2).1
        simpa using this
       subst this
       simp at q2; subst q2
       rw [Nat.mul_one, Nat.add_zero, List.getElem?_map, hn] at q3
       simp at q3; subst q3
       exact .s rfl
      obtain ⟨M, hk2⟩ := hM.newArr hER (by omega)
      refine ⟨0, _, _, _, F, .tk 2, _, 3, hcall _ horc, ⟨rfl, rfl, rfl⟩, M, ?_⟩
      refine .tk (by omega) rfl (fun b z len hx => ?_) (fun z hx => by rw [updG_self] at hx; cases hx)
      rw [updG_self] at hx; cases hx
      exact ⟨ss.length + 1, by simp, by simp⟩
end
end Go.M
namespace Go.M
open Go
def opStill (o : Oper) : Bool := match o.op with
 | .move _ | .assign _ | .pick _ _ _ | .build _ _ | .nilCheck _ | .binOp _ _ _ _ _ | .unOp _ _ _ | .makeInterface _ _ | .makeFunc _ _ _ | .slice _ _ _ _ _ | .fieldAddr _ _ _ | .field _ _ _ | .indexAddr _ _ _ | .index _ _ _ | .lookup _ _ _ _ | .extract _ _ | .load _ _ => true
 | .call c => (match c.callee with
  | .builtin .len => true
  | _ => false)
 | _ => false
def codeStill : Code → Bool
 | .skip | .exit _ | .ret => true
 | .region _ ops _ => ops.toList.all opStill
 | .seq a b => codeStill a && codeStill b
 | .cond _ a b => codeStill a && codeStill b
 | .block _ b => codeStill b
 | .loop b => codeStill b
 | _ => false
section
variable {E : Env} {base : Nat}
theorem runOp_still {cf : CallF} {rf : RoundF} {o : Oper} {f : AF} {h : AHeap} {r : OpR} (hs : opStill o = true) (hr : runOp E base cf rf o f h = some r) : r.h = h := by
 have h1 : aalloc E f o = none := by
  obtain ⟨dst, op, ty, pos, after, guard⟩ := o
  cases op <;> first | rfl | (simp [opStill] at hs; done)
 have h2 : aeff E base f o h = none := by
  obtain ⟨dst, op, ty, pos, after, guard⟩ := o
  cases op with
  | call c =>
   obtain ⟨callee, args, ts⟩ := c
   cases callee with
   | builtin b =>
    cases b <;> first | (simp [opStill] at hs; done) | skip
    simp only [aeff]
    cases evs E f args.toList with
    | none => rfl
    | some vs => simp [abuiltE]
   | _ => simp [opStill] at hs
  | _ => first | rfl | (simp [opStill] at hs; done)
 unfold runOp at hr
 split at hr
 ·cases hr; rfl
 ·split at hr
  ·rename_i q _
   simp only [Option.bind_eq_some_iff, Option.some.injEq] at hr
   obtain ⟨v, _, rfl⟩ := hr
   rfl
  ·rw [h1, h2] at hr; cases hr
theorem aops_still {cf : CallF} {rf : RoundF} {ops : List Oper} : ∀ {rest : List Oper} {f f' : AF} {h h' : AHeap}, rest.all opStill = true → aops E base cf rf ops rest f h = some (f', h') → h' = h
 | [], f, f', h, h', _, hr => by simp [aops] at hr; exact hr.2.symm
 | o :: rest, f, f', h, h', hs, hr => by
  simp only [List.all_cons, Bool.and_eq_true] at hs
  unfold aops at hr
  split at hr
  ·simp only [Option.bind_eq_some_iff] at hr
   obtain ⟨r, h1, h2⟩ := hr
   rw [aops_still hs.2 h2, runOp_still hs.1 h1]
  ·exact aops_still hs.2 hr
theorem aopsL_still {cf : CallF} {rf : RoundF} {ops : List Oper} : ∀ {rest : List Oper} {f f' : AF} {h h' : AHeap} {l : List LogE}, rest.all opStill = true → aopsL E base cf rf ops rest f h = some (f', h', l) → h' = h
 | [], f, f', h, h', l, _, hr => by simp [aopsL] at hr; exact hr.2.1.symm
 | o :: rest, f, f', h, h', l, hs, hr => by
  simp only [List.all_cons, Bool.and_eq_true] at hs
  unfold aopsL at hr
  split at hr
  ·simp only [Option.bind_eq_some_iff, Option.some.injEq, Prod.mk.injEq] at hr
   obtain ⟨r, h1, ⟨f1, h1', l1⟩, h2, rfl, rfl, rfl⟩ := hr
   rw [aopsL_still hs.2 h2, runOp_still hs.1 h1]
  ·simp only [Option.bind_eq_some_iff, Option.some.injEq, Prod.mk.injEq] at hr
   obtain ⟨⟨f1, h1', l1⟩, h2, rfl, rfl, rfl⟩ := hr
   exact aopsL_still hs.2 h2
theorem aeval_still : ∀ (n : Nat) {c : Code} {f f' : AF} {h h' : AHeap} {ex : Ex}, codeStill c = true → aeval E base n c f h = some (ex, f', h') → h' = h
 | 0, c, f, f', h, h', ex, _, hr => by simp [aeval] at hr
 | n + 1, c, f, f', h, h', ex, hs, hr => by
  cases c with
  | skip => simp [aeval] at hr; exact hr.2.2.symm
  | exit id => simp [aeval] at hr; exact hr.2.2.symm
  | ret => simp [aeval] at hr; exact hr.2.2.symm
  | region id ops draw =>
   simp only [aeval, aregion] at hr
   simp only [codeStill] at hs
   cases draw with
   | false =>
    simp only [Option.bind_eq_some_iff, Option.some.injEq, Prod.mk.injEq] at hr
    obtain ⟨⟨f1, h1⟩, h2, rfl, rfl, rfl⟩ := hr
    exact aops_still hs h2
   | true =>
    simp only [grd_some, Option.bind_eq_some_iff, Option.some.injEq, Prod.mk.injEq] at hr
    obtain ⟨_, ⟨f1, h1, l1⟩, h2, _, rfl, rfl, rfl⟩ := hr
    exact aopsL_still hs h2
  | seq a b =>
   simp only [codeStill, Bool.and_eq_true] at hs
   simp only [aeval] at hr
   split at hr
   ·rename_i f1 h1 hb
    rw [aeval_still n hs.2 hr, aeval_still n hs.1 hb]
   ·exact aeval_still n hs.1 hr
  | cond q a b =>
   simp only [codeStill, Bool.and_eq_true] at hs
   simp only [aeval, Option.bind_eq_some_iff] at hr
   obtain ⟨v, _, w, _, hr⟩ := hr
   cases w with
   | true => exact aeval_still n hs.1 hr
   | false => exact aeval_still n hs.2 hr
  | block id b =>
   simp only [codeStill] at hs
   simp only [aeval] at hr
   split at hr
   ·rename_i id' f1 h1 hb
    have := aeval_still n hs hb
    rw [bif_eq] at hr
    split at hr <;> (cases hr; exact this)
   ·exact aeval_still n hs hr
  | loop b =>
   simp only [codeStill] at hs
   simp only [aeval] at hr
   split at hr
   ·rename_i f1 h1 hb
    rw [aeval_still n (c := .loop b) hs hr, aeval_still n hs hb]
   ·exact aeval_still n hs hr
  | _ => simp [codeStill] at hs
theorem still_of {g : FuncId} {fn : Func} {code : Code} (hf : E.func g = some fn) (ho : ∀ a h, E.orc g a h = none) (hb : fn.body = some code) (hc : codeStill code = true) : StillF E g := by
 intro base n args h v h' hr
 unfold acall acallB at hr
 simp only [hf, Option.bind_some, ho, hb, grd_some] at hr
 obtain ⟨_, hr⟩ := hr
 split at hr
 ·rename_i f1 h1 he
  simp only [Option.bind_eq_some_iff, Option.some.injEq, Prod.mk.injEq] at hr
  obtain ⟨vs, _, rfl, rfl⟩ := hr
  exact aeval_still n hc he
 ·rename_i f1 h1 he
  simp only [Option.bind_eq_some_iff, Option.some.injEq, Prod.mk.injEq] at hr
  obtain ⟨vs, _, rfl, rfl⟩ := hr
  exact aeval_still n hc he
 ·cases hr
end
end Go.M
namespace Go.M
open Go Go.Proofs
noncomputable def E0 := envOf Try.prog (orcG [31] (orcW [14, 43, 49] [(101, [123, 134, 127])] [(80, [123, 127])] [(86, minVal), (94, withVal)]))
noncomputable def T0 := tES E0 [37, 39] [20]
set_option maxRecDepth 100000
theorem rows0 : [37, 39].all (eqRow E0) = true := by kernel_rfl
theorem still0 (g : FuncId) (h : memN g [20] = true) : StillF E0 g := by
 have := memN_mem h
 simp only [List.mem_cons, List.not_mem_nil, or_false] at this
 subst this
 exact still_of (show E0.func 20 = some Try.f20 by kernel_rfl) (fun _ _ => rfl) rfl (by kernel_rfl)
theorem L0 : EnvLe T0 E0 := tE_leS (fun t z h => by
 simp only [E0, envOf, Option.bind_eq_some_iff, grd_some, Option.some.injEq] at h
 obtain ⟨i, h1, z', h2, h3, rfl⟩ := h
 exact h3) rows0 still0
theorem VC.awakeH {E : Env} {g : FuncId} {c0 : Nat} {o0 : Ob} (hf : (E.func g).isSome = true) (ho : ∀ h, E.orc g [] h = some (.bool true, h)) : VC E g c0 [] o0 (fun r o c => r = .s (.bool true) ∧ o = o0 ∧ c = c0) :=
 VC.orc hf (fun a h ha => by
  have : a = [] := by simpa using ha
  subst this
  exact ho h) rfl
end Go.M
namespace Go.M
open Go Go.Proofs
set_option maxRecDepth 100000
set_option maxHeartbeats 2000000
@[reducible] def encI1 (n : Int) : List TV := [.s (.int .i64 n)]
def isMember (n : Int) : Bool := decide (n ≥ 1 ∧ n ≤ 63)
end Go.M
namespace Go.M
open Go Go.Proofs
set_option maxRecDepth 100000
structure Vote where
 slot : Int
 ballot : Int
 kind : Int
 chain : Int
 epoch : Int
 node : Int
def encV (v : Vote) : List TV := [.s (.int .i64 v.slot), .s (.int .u64 v.ballot), .s (.int .i64 v.kind), .s (.int .i64 v.chain), .s (.int .u64 v.epoch), .s (.int .i64 v.node)]
def encE (e : Int × Vote) : Value × TV := (.int .i64 e.1, .agg (encV e.2))
def getE (es : List (Int × Vote)) (n : Int) : Vote := match es.find? (fun e => e.1 == n) with | some e => e.2 | none => ⟨0, 0, 0, 0, 0, 0⟩
def rising (es : List (Int × Vote)) (frm : Int) (ks : List Int) : List Vote := (ks.filter fun n => decide (frm ≤ n)).map (getE es)
@[reducible] def RisF (frm : Int) (n i : Nat) : Fr := [(0, .mp 0), (1, .s (.int .i64 frm)), (5, .tk 1), (10, .tk 2), (11, .s (.int .i64 n)), (12, .s (.int .i64 i))]
@[reducible] def RisO (kd : Nat) (es : List (Int × Vote)) (frm : Int) (ks : List Int) (i : Nat) : Ob := [(0, .map kd (es.map encE)), (1, .arr 6 true ((rising es frm (ks.take i)).map encV)), (2, .arr 1 true (ks.map fun n => [.s (.int .i64 n)]))]
def RisInv (kd : Nat) (es : List (Int × Vote)) (frm : Int) (ks : List Int) (k : Nat) (f : Fr) (o : Ob) (c : Nat) : Prop :=
 ∃ i : Nat, i ≤ ks.length ∧ k = ks.length - i ∧ c = 3 ∧ f = RisF frm ks.length i ∧ o = RisO kd es frm ks i
end Go.M
namespace Go.M
open Go Go.Proofs
set_option maxRecDepth 100000
@[reducible] def mapO (es : List (Int × Vote)) : TO := .map (kIdx .i64) (es.map encE)
@[reducible] def arV (l : List Vote) : TO := .arr 6 true (l.map encV)
@[reducible] def accO (p : Int) (m : Nat) : TO := .cells [.s (.int .u64 p), .mp m]
def votesOf (es : List (Int × Vote)) (frm : Int) : List Vote := rising es frm (sortZ (es.map (·.1)))
end Go.M
namespace Go.M
open Go Go.Proofs
set_option maxRecDepth 100000
def isMaster (n : Int) : Bool := decide (n ≥ 1 ∧ n ≤ 5)
def isBallot (b : Int) : Bool := decide (IntKind.u64.wrap (b.tdiv 8) ≥ 1) && decide (IntKind.u64.wrap (b.tdiv 8) < 1152921504606846976) && isMaster (IntKind.i64.wrap (b.tmod 8))
end Go.M
namespace Go.M
open Go Go.Proofs
set_option maxRecDepth 100000
def prepS (p b : Int) (es : List (Int × Vote)) (frm : Int) : Int × List Vote × Int :=
 if isBallot b = false ∨ frm < 0 ∨ frm > 512 then (p, [], 1) else if b < p then (p, [], 10) else (b, votesOf es frm, 0)
def PrepR (es : List (Int × Vote)) (q : Int × List Vote × Int) (r : TV) (o : Ob) (c : Nat) : Prop :=
 r = .tup [.tk 2, .s (.int .i64 q.2.2)] ∧ c = 3 ∧ o = [(2, arV q.2.1), (0, accO q.1 1), (1, mapO es)]
end Go.M
namespace Go.M
open Go Go.Proofs
set_option maxRecDepth 100000
def lookE : List (Int × Vote) → Int → Option Vote
 | [], _ => none
 | e :: es, n => if n = e.1 then some e.2 else lookE es n
def noVote : Vote := ⟨0, 0, 0, 0, 0, 0⟩
end Go.M
namespace Go.M
open Go Go.Proofs
def putE : List (Int × Vote) → Int → Vote → List (Int × Vote)
 | [], n, v => [(n, v)]
 | e :: es, n, v => if n = e.1 then (n, v) :: es else e :: putE es n v
theorem putE_mem {n : Int} {v : Vote} {x : Int × Vote} : ∀ {es : List (Int × Vote)}, (es.map (·.1)).Nodup → (x ∈ putE es n v ↔ x = (n, v) ∨ x.1 ≠ n ∧ x ∈ es)
 | [], _ => by simp [putE]
 | e :: es, h => by
  simp only [List.map_cons, List.nodup_cons] at h
  unfold putE
  split
  ·rename_i he
   have : ∀ y ∈ es, y.1 ≠ n := fun y hy e1 => h.1 (by rw [← he, ← e1]; exact List.mem_map_of_mem hy)
   grind
  ·have := putE_mem (n := n) (v := v) (x := x) h.2
   grind
theorem putE_keys {n : Int} {v : Vote} : ∀ {es : List (Int × Vote)}, (putE es n v).map (·.1) = if n ∈ es.map (·.1) then es.map (·.1) else es.map (·.1) ++ [n]
 | [] => by simp [putE]
 | e :: es => by
  have := putE_keys (n := n) (v := v) (es := es)
  unfold putE
  split
  ·rename_i he; subst he; simp
  ·rename_i he
   simp only [List.map_cons, this, List.mem_cons, he, false_or]
   split <;> simp
theorem putE_nodup {n : Int} {v : Vote} {es : List (Int × Vote)} (h : (es.map (·.1)).Nodup) : ((putE es n v).map (·.1)).Nodup := by
 rw [putE_keys]
 split
 ·exact h
 ·rename_i hn
  rw [List.nodup_append]
  refine ⟨h, by simp, fun a ha b hb => ?_⟩
  simp only [List.mem_singleton] at hb
  subst hb
  intro e; subst e; exact hn ha
def SS (l : List Vote) : Prop := l.Pairwise fun a b => a.slot < b.slot
def put : List Vote → Vote → List Vote
 | [], v => [v]
 | x :: l, v => if x.slot < v.slot then x :: put l v else if x.slot = v.slot then v :: l else v :: x :: l
theorem put_mem {v x : Vote} : ∀ {l : List Vote}, SS l → (x ∈ put l v ↔ x = v ∨ x.slot ≠ v.slot ∧ x ∈ l)
 | [], _ => by simp [put]
 | y :: l, h => by
  unfold SS at h
  rw [List.pairwise_cons] at h
  have ih := put_mem (v := v) (x := x) (l := l) h.2
  unfold put
  split
  ·have := h.1; grind
  ·split
   ·have := h.1; grind
   ·have := h.1; grind
theorem put_SS {v : Vote} : ∀ {l : List Vote}, SS l → SS (put l v)
 | [], _ => by simp [put, SS]
 | y :: l, h => by
  have h0 := h
  unfold SS at h
  rw [List.pairwise_cons] at h
  unfold put
  split
  ·unfold SS
   rw [List.pairwise_cons]
   refine ⟨fun a ha => ?_, put_SS h.2⟩
   rw [put_mem h.2] at ha
   rcases ha with rfl | ⟨_, ha⟩
   ·assumption
   ·exact h.1 a ha
  ·split
   ·unfold SS
    rw [List.pairwise_cons]
    exact ⟨fun a ha => by have := h.1 a ha; omega, h.2⟩
   ·unfold SS
    rw [List.pairwise_cons]
    refine ⟨fun a ha => ?_, h0⟩
    rcases List.mem_cons.1 ha with rfl | ha
    ·omega
    ·have := h.1 a ha; omega
structure MV (es : List (Int × Vote)) : Prop where
 nd : (es.map (·.1)).Nodup
 key : ∀ e ∈ es, e.2.slot = e.1
def allV (es : List (Int × Vote)) : List Vote := (sortZ (es.map (·.1))).map (getE es)
theorem MV.put {es : List (Int × Vote)} (h : MV es) (v : Vote) : MV (putE es v.slot v) := by
 refine ⟨putE_nodup h.nd, fun e he => ?_⟩
 rw [putE_mem h.nd] at he
 rcases he with rfl | ⟨_, he⟩
 ·rfl
 ·exact h.key e he
def atS (l : List Vote) (slot : Int) : Option Vote := l.find? fun v => v.slot == slot
theorem atS_some {l : List Vote} (h : SS l) {n : Int} {v : Vote} : atS l n = some v ↔ v ∈ l ∧ v.slot = n := by
 unfold atS
 induction l with
 | nil => simp
 | cons y l ih =>
  unfold SS at h
  rw [List.pairwise_cons] at h
  have := ih h.2
  have h1 := h.1
  rw [List.find?_cons]
  split <;> grind
end Go.M
namespace Go.M
open Go Go.Proofs
set_option maxRecDepth 100000
def checkS (k ch ep nd : Int) : Int := if k < 0 ∨ k ≥ 5 then 1 else if k = 0 then (if ch ≠ 0 ∨ ep ≠ 0 ∨ nd ≠ 0 then 4 else 0) else if ch < 0 ∨ ch ≥ 4 ∨ ep < 1 ∨ nd < 1 ∨ nd > 24 then 4 else 0
@[reducible] def cmdT (k ch ep nd : Int) : TV := .agg [.s (.int .i64 k), .s (.int .i64 ch), .s (.int .u64 ep), .s (.int .i64 nd)]
theorem check_ok (k ch ep nd : Int) : VC E0 70 0 [cmdT k ch ep nd] [] (RR (.s (.int .i64 (checkS k ch ep nd))) 0 []) := by
 refine VC.enterR L0 (show E0.func 70 = some Try.f70 by kernel_rfl) (fun _ _ => rfl) rfl rfl [] ?_
 ((conv=>whnf)<;>repeat(with_reducible refine D1 ?_)<;>conv=>whnf)
 repeat' (first | ((first | (refine ⟨fun h => ?_, fun h => ?_⟩) | (refine nsplit (fun h => ?_) (fun h => ?_)) | (refine bsplit (fun h => ?_) (fun h => ?_))) <;> ((conv=>whnf)<;>repeat(with_reducible refine D1 ?_)<;>conv=>whnf)))
 all_goals (refine ⟨[], [], [], _, _, ⟨?_, .nil, rfl⟩, rfl, rfl, rfl⟩)
 all_goals (refine .s (Lz.int ?_); simp [veq1, checkS] at *; grind)
theorem refCheck_ok (k ch ep nd : Int) (he : 0 ≤ ep) : VC E0 66 0 [cmdT k ch ep nd] [] (RR (.s (.int .i64 (checkS k ch ep nd))) 0 []) := by
 refine VC.enterR L0 (show E0.func 66 = some Try.f66 by kernel_rfl) (fun _ _ => rfl) rfl rfl [] ?_
 ((conv=>whnf)<;>repeat(with_reducible refine D1 ?_)<;>conv=>whnf)
 repeat' (first | ((first | (refine ⟨fun h => ?_, fun h => ?_⟩) | (refine nsplit (fun h => ?_) (fun h => ?_)) | (refine bsplit (fun h => ?_) (fun h => ?_))) <;> ((conv=>whnf)<;>repeat(with_reducible refine D1 ?_)<;>conv=>whnf)))
 all_goals (refine ⟨[], [], [], _, _, ⟨?_, .nil, rfl⟩, rfl, rfl, rfl⟩)
 all_goals (refine .s (Lz.int ?_); simp [checkS] at *; grind)
end Go.M
namespace Go.M
open Go Go.Proofs
set_option maxRecDepth 100000
noncomputable def eqB {α : Type} (a b : α) : Bool := @decide (a = b) (Classical.propDecidable _)
theorem eqB_iff {α : Type} {a b : α} : eqB a b = true ↔ a = b := by unfold eqB; simp
theorem eqB_false {α : Type} {a b : α} : eqB a b = false ↔ a ≠ b := by unfold eqB; simp
def refOfS (r w : Int) : Int × Int := if r < 1 ∨ r > 1152921504606846975 ∨ isMaster w = false then (0, 1) else (IntKind.u64.wrap (IntKind.u64.wrap (r * 8) + IntKind.u64.wrap w), 0)
theorem refAt_ok (l : List Vote) (n : Int) (hl : l.length < 1000000) : VC E0 37 0 [.sl 6 (l.map encV) false, .s (.int .i64 n)] [] (RR (.tup [.agg (encV ((atS l n).getD noVote)), .s (.bool (atS l n).isSome)]) 0 []) := by
 refine VC.enterR L0 (show E0.func 37 = some Try.f37 by kernel_rfl) (fun _ _ => rfl) rfl rfl [] ?_
 ((conv=>whnf)<;>repeat(with_reducible refine D1 ?_)<;>conv=>whnf)
 refine ⟨fun k f o c => ∃ i : Nat, i ≤ l.length ∧ k = l.length - i ∧ atS l n = atS (l.drop i) n ∧ c = 1 ∧ f = [(0, .sl 6 (l.map encV) false), (1, .s (.int .i64 n)), (4, .ptr 0 0), (6, .s (.int .i64 i))] ∧ o = [(0, .cells (encV noVote))], ⟨l.length, ?_⟩, ?_⟩
 ·exact ⟨[], [some 0], _, _, _, t3, ⟨0, Nat.zero_le _, rfl, rfl, rfl, rfl, rfl⟩⟩
 ·rintro k f1 o1 c1 ⟨i, hi, rfl, ha, rfl, rfl, rfl⟩
  ((conv=>whnf)<;>repeat(with_reducible refine D1 ?_)<;>conv=>whnf)
  (first|refine ⟨?_,?_⟩|refine nsplit ?_ ?_|refine bsplit ?_ ?_)<;>intro h<;>have hz_:=True.intro<;>clear hz_
  ·have h := lenlt.1 h
   have hd : l.drop i = l[i] :: l.drop (i + 1) := List.drop_eq_getElem_cons h
   ((conv=>whnf)<;>repeat(with_reducible refine D1 ?_)<;>conv=>whnf)
   refine idxI h ?_
   ((conv=>whnf)<;>repeat(with_reducible refine D1 ?_)<;>conv=>whnf)
   (first|refine ⟨?_,?_⟩|refine nsplit ?_ ?_|refine bsplit ?_ ?_)<;>intro hs<;>have hz_:=True.intro<;>clear hz_
   ·((conv=>whnf)<;>repeat(with_reducible refine D1 ?_)<;>conv=>whnf)
    refine idxI h ?_
    ((conv=>whnf)<;>repeat(with_reducible refine D1 ?_)<;>conv=>whnf)
    have : atS l n = some l[i] := by rw [ha, hd, atS, List.find?_cons]; simp [hs, atS]
    rw [this]
    exact ⟨[], [], _, _, _, t3, rfl, rfl, rfl⟩
   ·((conv=>whnf)<;>repeat(with_reducible refine D1 ?_)<;>conv=>whnf)
    refine ⟨l.length - (i + 1), ?_, by omega⟩
    exact ⟨[], [some 0], _, _, _, t3, ⟨i + 1, h, rfl, by rw [ha, hd, atS, List.find?_cons]; simp [hs, atS]; rw [show (l[i].slot == n) = false by simp [hs]], rfl, rfl, rfl⟩⟩
  ·have h := mt lenlt.2 h
   ((conv=>whnf)<;>repeat(with_reducible refine D1 ?_)<;>conv=>whnf)
   have : atS l n = none := by rw [ha, List.drop_eq_nil_of_le (by omega)]; rfl
   rw [this]
   exact ⟨[], [], _, _, _, t3, rfl, rfl, rfl⟩
def frmS (l : List Vote) (frm : Int) : List Vote := l.filter fun v => decide (frm ≤ v.slot)
theorem take_snoc {α : Type} (l : List α) (i : Nat) (h : i < l.length) : l.take (i + 1) = l.take i ++ [l[i]] := by rw [List.take_succ_eq_append_getElem h]
end Go.M
namespace Go.M
open Go Go.Proofs
set_option maxRecDepth 100000
def restP (v : Vote) : List Vote → List Vote
 | [] => []
 | x :: r => if x.slot = v.slot then r else x :: r
theorem put_at (v : Vote) : ∀ (l : List Vote) (i : Nat), i ≤ l.length → (∀ x ∈ l.take i, x.slot < v.slot) → (∀ x, l[i]? = some x → ¬ x.slot < v.slot) → put l v = l.take i ++ v :: restP v (l.drop i)
 | [], i, hi, _, _ => by simp at hi; subst hi; simp [put, restP]
 | y :: l, 0, _, _, hx => by
  have := hx y rfl
  unfold put restP
  simp only [List.take_zero, List.nil_append, List.drop_zero]
  split
  ·exact absurd ‹_› this
  ·split <;> rfl
 | y :: l, i + 1, hi, hlt, hx => by
  have h1 := hlt y (by simp)
  have := put_at v l i (by simpa using hi) (fun x hx' => hlt x (by simp [hx'])) (fun x hx' => hx x (by simpa using hx'))
  unfold put
  rw [if_pos h1, this]
  simp
theorem refPut_ok (l : List Vote) (v : Vote) (hl : l.length < 1000) : VC E0 69 0 [.sl 6 (l.map encV) false, .agg (encV v)] [] (RR (.sl 6 ((put l v).map encV) false) 0 []) := by
 refine VC.enterR L0 (show E0.func 69 = some Try.f69 by kernel_rfl) (fun _ _ => rfl) rfl rfl [0] ?_
 ((conv=>whnf)<;>repeat(with_reducible refine D1 ?_)<;>conv=>whnf)
 refine ⟨fun f o c => ∃ i : Nat, i ≤ l.length ∧ (∀ x ∈ l.take i, x.slot < v.slot) ∧ (∀ x, l[i]? = some x → ¬ x.slot < v.slot) ∧ c = 2 ∧ f = [(0, .sl 6 (l.map encV) false), (3, .ptr 0 0), (5, .tk 1), (6, .s (.int .i64 i))] ∧ o = [(0, .cells (encV v)), (1, .arr 6 true ((l.take i).map encV))], ?_, ?_⟩
 ·((conv=>whnf)<;>repeat(with_reducible refine D1 ?_)<;>conv=>whnf)
  refine ⟨fun k f o c => ∃ i : Nat, i ≤ l.length ∧ (∀ x ∈ l.take i, x.slot < v.slot) ∧ k = l.length - i ∧ c = 2 ∧ f = [(0, .sl 6 (l.map encV) false), (3, .ptr 0 0), (5, .tk 1), (6, .s (.int .i64 i))] ∧ o = [(0, .cells (encV v)), (1, .arr 6 true ((l.take i).map encV))], ⟨l.length, ?_⟩, ?_⟩
  ·exact ⟨[], [some 0, none], _, _, _, t3, ⟨0, Nat.zero_le _, by simp, rfl, rfl, rfl, rfl⟩⟩
  ·rintro k f1 o1 c1 ⟨i, hi, hlt, rfl, rfl, rfl, rfl⟩
   ((conv=>whnf)<;>repeat(with_reducible refine D1 ?_)<;>conv=>whnf)
   (first|refine ⟨?_,?_⟩|refine nsplit ?_ ?_|refine bsplit ?_ ?_)<;>intro h<;>have hz_:=True.intro<;>clear hz_
   ·have h := lenlt.1 h
    have hd := take_snoc l i h
    ((conv=>whnf)<;>repeat(with_reducible refine D1 ?_)<;>conv=>whnf)
    refine idxI h ?_
    ((conv=>whnf)<;>repeat(with_reducible refine D1 ?_)<;>conv=>whnf)
    (first|refine ⟨?_,?_⟩|refine nsplit ?_ ?_|refine bsplit ?_ ?_)<;>intro hs<;>have hz_:=True.intro<;>clear hz_
    ·((conv=>whnf)<;>repeat(with_reducible refine D1 ?_)<;>conv=>whnf)
     refine idxI h ?_
     ((conv=>whnf)<;>repeat(with_reducible refine D1 ?_)<;>conv=>whnf)
     refine ⟨by simp; omega, ?_⟩
     ((conv=>whnf)<;>repeat(with_reducible refine D1 ?_)<;>conv=>whnf)
     refine ⟨l.length - (i + 1), ?_, by omega⟩
     refine ⟨[], [some 0, some 3], ?_⟩
     iterate 3 constructor
     refine ⟨⟨?_, ?_, ?_⟩, ⟨i + 1, h, by intro x hx; rw [hd] at hx; rcases List.mem_append.1 hx with h1 | h1; exact hlt x h1; simp at h1; subst h1; exact hs, rfl, rfl, rfl, rfl⟩⟩
     all_goals (repeat' first|with_reducible exact Lz.rfl|exact Lw.rfl|exact Lz.wrap (by omega)|(unfold goInt;with_reducible exact Lz.rfl)|exact flx _|constructor)
     rw [hd, List.map_append]; exact Lz.rfl
    ·((conv=>whnf)<;>repeat(with_reducible refine D1 ?_)<;>conv=>whnf)
     exact ⟨[], [some 0, some 1], _, _, _, t3, ⟨i, hi, hlt, fun x hx => by rw [List.getElem?_eq_getElem h] at hx; cases hx; exact hs, rfl, rfl, rfl⟩⟩
   ·have h := mt lenlt.2 h
    ((conv=>whnf)<;>repeat(with_reducible refine D1 ?_)<;>conv=>whnf)
    exact ⟨[], [some 0, some 1], _, _, _, t3, ⟨i, hi, hlt, fun x hx => (by rw [List.getElem?_eq_none (by omega)] at hx; cases hx), rfl, rfl, rfl⟩⟩
 ·rintro f1 o1 c1 ⟨i, hi, hlt, hx, rfl, rfl, rfl⟩
  have hp := put_at v l i hi hlt hx
  ((conv=>whnf)<;>repeat(with_reducible refine D1 ?_)<;>conv=>whnf)
  refine ⟨by simp; omega, ?_⟩
  ((conv=>whnf)<;>repeat(with_reducible refine D1 ?_)<;>conv=>whnf)
  (first|refine ⟨?_,?_⟩|refine nsplit ?_ ?_|refine bsplit ?_ ?_)<;>intro h<;>have hz_:=True.intro<;>clear hz_
  ·have h := lenlt.1 h
   have hdr : l.drop i = l[i] :: l.drop (i + 1) := List.drop_eq_getElem_cons h
   ((conv=>whnf)<;>repeat(with_reducible refine D1 ?_)<;>conv=>whnf)
   refine idxI h ?_
   ((conv=>whnf)<;>repeat(with_reducible refine D1 ?_)<;>conv=>whnf)
   (first|refine ⟨?_,?_⟩|refine nsplit ?_ ?_|refine bsplit ?_ ?_)<;>intro hs<;>have hz_:=True.intro<;>clear hz_
   ·((conv=>whnf)<;>repeat(with_reducible refine D1 ?_)<;>conv=>whnf)
    rw [wrap_small i (by omega)]
    refine ⟨⟨by omega, by simp; omega, by simp⟩, ?_⟩
    ((conv=>whnf)<;>repeat(with_reducible refine D1 ?_)<;>conv=>whnf)
    refine ⟨by simp; omega, ?_⟩
    ((conv=>whnf)<;>repeat(with_reducible refine D1 ?_)<;>conv=>whnf)
    refine ⟨[4], [], ?_⟩
    iterate 3 constructor
    refine ⟨⟨?_, ?_, ?_⟩, rfl, rfl, rfl⟩
    all_goals (repeat' first|with_reducible exact Lz.rfl|exact Lw.rfl|exact Lz.wrap (by omega)|(unfold goInt;with_reducible exact Lz.rfl)|exact flx _|constructor)
    refine Lz.of ?_; rw [hp, hdr]; simp [restP, hs]; exact ⟨rfl, by rw [List.take_of_length_le (by simp)]⟩
   ·((conv=>whnf)<;>repeat(with_reducible refine D1 ?_)<;>conv=>whnf)
    refine ⟨⟨by omega, by simp; omega, by simp⟩, ?_⟩
    ((conv=>whnf)<;>repeat(with_reducible refine D1 ?_)<;>conv=>whnf)
    refine ⟨by simp; omega, ?_⟩
    ((conv=>whnf)<;>repeat(with_reducible refine D1 ?_)<;>conv=>whnf)
    refine ⟨[4], [], ?_⟩
    iterate 3 constructor
    refine ⟨⟨?_, ?_, ?_⟩, rfl, rfl, rfl⟩
    all_goals (repeat' first|with_reducible exact Lz.rfl|exact Lw.rfl|exact Lz.wrap (by omega)|(unfold goInt;with_reducible exact Lz.rfl)|exact flx _|constructor)
    refine Lz.of ?_; rw [hp, hdr]; simp [restP, hs]; exact ⟨rfl, by rw [List.take_of_length_le (by simp)]⟩
  ·have h := mt lenlt.2 h
   ((conv=>whnf)<;>repeat(with_reducible refine D1 ?_)<;>conv=>whnf)
   refine ⟨⟨by omega, by simp; omega, by simp⟩, ?_⟩
   ((conv=>whnf)<;>repeat(with_reducible refine D1 ?_)<;>conv=>whnf)
   refine ⟨by simp; omega, ?_⟩
   ((conv=>whnf)<;>repeat(with_reducible refine D1 ?_)<;>conv=>whnf)
   refine ⟨[4], [], ?_⟩
   iterate 3 constructor
   refine ⟨⟨?_, ?_, ?_⟩, rfl, rfl, rfl⟩
   all_goals (repeat' first|with_reducible exact Lz.rfl|exact Lw.rfl|exact Lz.wrap (by omega)|(unfold goInt;with_reducible exact Lz.rfl)|exact flx _|constructor)
   have hd0 : l.drop i = [] := List.drop_eq_nil_of_le (by omega)
   refine Lz.of ?_; rw [hp, hd0]; simp [restP]; exact ⟨rfl, by omega⟩
end Go.M
namespace Go.M
open Go Go.Proofs
set_option maxRecDepth 100000
structure Cmd where
 kind : Int
 chain : Int
 epoch : Int
 node : Int
@[reducible] def cT4 (c : Cmd) : TV := cmdT c.kind c.chain c.epoch c.node
def Cmd.check (c : Cmd) : Int := checkS c.kind c.chain c.epoch c.node
def Vote.of (n b : Int) (c : Cmd) : Vote := ⟨n, b, c.kind, c.chain, c.epoch, c.node⟩
@[reducible] def refA (p : Int) (l : List Vote) : TV := .agg [.s (.int .u64 p), .sl 6 (l.map encV) false]
def prepL (p b : Int) (l : List Vote) (frm : Int) : Int × List Vote × Int :=
 if isBallot b = false ∨ frm < 0 ∨ frm > 512 then (p, [], 1) else if b < p then (p, [], 10) else (b, frmS l frm, 0)
def accL (p : Int) (l : List Vote) (b n : Int) (c : Cmd) : Int × List Vote × Int :=
 if isBallot b = false ∨ n < 0 ∨ n ≥ 512 then (p, l, 1) else if c.check ≠ 0 then (p, l, c.check) else if b < p then (p, l, 10) else (b, put l (.of n b c), 0)
end Go.M
namespace Go.M
open Go Go.Proofs
set_option maxRecDepth 100000
def accS (p : Int) (es : List (Int × Vote)) (b n : Int) (c : Cmd) : Int × List (Int × Vote) × Int :=
 if isBallot b = false ∨ n < 0 ∨ n ≥ 512 then (p, es, 1) else if c.check ≠ 0 then (p, es, c.check) else if b < p then (p, es, 10) else (b, putE es n (.of n b c), 0)
end Go.M
namespace Go.M
open Go Go.Proofs
set_option maxRecDepth 100000
structure Op11 where
 kind : Int
 ballot : Int
 slot : Int
 cmd : Cmd
def encOp (o : Op11) : List TV := [.s (.int .i64 o.kind), .s (.int .u64 o.ballot), .s (.int .i64 o.slot), .s (.int .i64 o.cmd.kind), .s (.int .i64 o.cmd.chain), .s (.int .u64 o.cmd.epoch), .s (.int .i64 o.cmd.node)]
structure KVo (p : Int) (es : List (Int × Vote)) : Prop where
 mv : MV es
 rng : ∀ e ∈ es, 0 ≤ e.1 ∧ e.1 < 512
 bal : ∀ e ∈ es, e.2.ballot ≤ p
theorem KVo.ok {p : Int} {es : List (Int × Vote)} (h : KVo p es) (hl : es.length < 1000) : ksOk (es.map (·.1)) := by
 refine ⟨by simp; omega, fun x hx => ?_, h.mv.nd⟩
 obtain ⟨e, he, rfl⟩ := List.mem_map.1 hx
 have := h.rng e he
 have h1 : IntKind.i64.min = -9223372036854775808 := rfl
 have h2 : IntKind.i64.max = 9223372036854775807 := rfl
 omega
def opS (p : Int) (es : List (Int × Vote)) (o : Op11) : Int × List (Int × Vote) := if o.kind = 0 then ((prepL p o.ballot (allV es) o.slot).1, es) else ((accS p es o.ballot o.slot o.cmd).1, (accS p es o.ballot o.slot o.cmd).2.1)
end Go.M
namespace Go.M
open Go Go.Proofs
set_option maxRecDepth 100000
set_option maxHeartbeats 2000000
end Go.M
namespace Go.M
open Go Go.Proofs
set_option maxRecDepth 100000
set_option maxHeartbeats 2000000
def inI (n : Int) : Prop := IntKind.i64.min ≤ n ∧ n ≤ IntKind.i64.max
def bestE1 (es : List (Int × Vote)) (v : Vote) : List (Int × Vote) := match lookE es v.slot with
 | none => putE es v.slot v
 | some w => if v.ballot > w.ballot then putE es v.slot v else es
def bestE (l : List Vote) : List (Int × Vote) := l.foldl bestE1 []
def bestR1 (out : List Vote) (v : Vote) : List Vote := match atS out v.slot with
 | none => put out v
 | some w => if v.ballot > w.ballot then put out v else out
structure KB (es : List (Int × Vote)) : Prop where
 mv : MV es
 rng : ∀ e ∈ es, inI e.1
theorem KB.ok {es : List (Int × Vote)} (h : KB es) (hl : es.length < 1000) : ksOk (es.map (·.1)) := by
 refine ⟨by simp; omega, fun x hx => ?_, h.mv.nd⟩
 obtain ⟨e, he, rfl⟩ := List.mem_map.1 hx
 exact h.rng e he
theorem KB.put {es : List (Int × Vote)} (h : KB es) {v : Vote} (hv : inI v.slot) : KB (putE es v.slot v) :=
 ⟨h.mv.put v, fun e he => by
  rw [putE_mem h.mv.nd] at he
  rcases he with rfl | ⟨_, he⟩
  ·exact hv
  ·exact h.rng e he⟩
def encL (l : List Vote) : List TV := [.sl 6 (l.map encV) false]
def bestV (l : List (List Vote)) : List Vote := allV (bestE l.flatten)
end Go.M
namespace Go.M
open Go Go.Proofs
set_option maxRecDepth 100000
set_option maxHeartbeats 2000000
end Go.M
namespace Go.M
open Go Go.Proofs
set_option maxRecDepth 100000
set_option maxHeartbeats 2000000
structure LeadS where
 me : Int
 masters : Int
 st : Int
 b : Int
 frm : Int
 nxt : Int
 came : List (Int × List Vote)
 opn : List (Int × Cmd × Nat)
def encVs (l : List Vote) : TV := .sl 6 (l.map encV) false
def encP (p : Cmd × Nat) : TV := .agg [.s (.int .i64 p.1.kind), .s (.int .i64 p.1.chain), .s (.int .u64 p.1.epoch), .s (.int .i64 p.1.node), .s (.int .u64 p.2)]
@[reducible] def leadO (x : LeadS) (i j : Nat) : TO := .cells [.s (.int .i64 x.me), .s (.int .i64 x.masters), .s (.int .i64 x.st), .s (.int .u64 x.b), .s (.int .i64 x.frm), .s (.int .i64 x.nxt), .mp i, .mp j]
@[reducible] def cameO (x : LeadS) : TO := .map (kIdx .i64) (x.came.map (encA .i64 encVs))
@[reducible] def openO (x : LeadS) : TO := .map (kIdx .i64) (x.opn.map (encA .i64 encP))
@[reducible] def stL (x : LeadS) : Ob := [(0, leadO x 1 2), (1, cameO x), (2, openO x)]
@[reducible] def lead0 (me masters : Int) : TO := .cells [.s (.int .i64 me), .s (.int .i64 masters), .s (.int .i64 0), .s (.int .u64 0), .s (.int .i64 0), .s (.int .i64 0), .s (.map none), .s (.map none)]
def isRight (me masters : Int) : Bool := decide (m5 masters ∧ 1 ≤ me ∧ me ≤ masters)
def layS (x : LeadS) (c : Cmd) : LeadS := { x with opn := putA x.opn x.nxt (c, 0), nxt := x.nxt + 1 }
def noCmd : Cmd := ⟨0, 0, 0, 0⟩
def voteS (x : LeadS) (n : Int) : Vote := .of n x.b ((lookA x.opn n).getD (noCmd, 0)).1
end Go.M
namespace Go.M
open Go Go.Proofs
set_option maxRecDepth 100000
set_option maxHeartbeats 2000000
def badV (frm : Int) (v : Vote) : Bool := decide (v.slot < frm ∨ v.slot ≥ 512)
def delV (frm : Int) (vs : List Vote) : List Vote := vs.filter fun v => !(badV frm v)
@[reducible] def stC (x : LeadS) : Ob := [(0, .cells [.ptr 1 0]), (1, leadO x 2 3), (2, cameO x), (3, openO x)]
@[reducible] def stD (x : LeadS) (vs : List Vote) : Ob := [(0, .arr 6 true (vs.map encV)), (1, .cells [.ptr 2 0]), (2, leadO x 3 4), (3, cameO x), (4, openO x)]
end Go.M
namespace Go.M
open Go Go.Proofs
set_option maxRecDepth 100000
set_option maxHeartbeats 2000000
def openV (x : LeadS) : List Vote := (sortZ (keysA x.opn)).map (voteS x)
def allL (x : LeadS) : List (List Vote) := (sortZ (keysA x.came)).map fun w => (lookA x.came w).getD []
end Go.M
namespace Go.M
open Go Go.Proofs
set_option maxRecDepth 100000
set_option maxHeartbeats 4000000
def cmdOf (v : Vote) : Cmd := ⟨v.kind, v.chain, v.epoch, v.node⟩
def layN (x : LeadS) : Nat → LeadS
 | 0 => x
 | m + 1 => layS (layN x m) noCmd
def layUp (x : LeadS) (s : Int) : LeadS := layN x (s - x.nxt).toNat
def fillL (x : LeadS) (l : List Vote) : LeadS := l.foldl (fun x v => layS (layUp x v.slot) (cmdOf v)) x
structure CameOk (x : LeadS) : Prop where
 nd : (keysA x.came).Nodup
 k5 : ∀ w ∈ keysA x.came, m5 w
 l40 : ∀ e ∈ x.came, e.2.length ≤ 40 ∧ ∀ v ∈ e.2, inI v.slot ∧ v.slot < 512
theorem nodup_le : ∀ (n : Nat) (l : List Int), l.Nodup → (∀ w ∈ l, 1 ≤ w ∧ w ≤ n) → l.length ≤ n
 | 0, l, _, h => by
  cases l with
  | nil => simp
  | cons a _ => have := h a (by simp); omega
 | n + 1, l, hn, h => by
  have h1 := nodup_le n (l.erase ((n + 1 : Nat) : Int)) (hn.erase _) fun w hw => by
   obtain ⟨q1, q2⟩ := hn.mem_erase_iff.1 hw
   have := h w q2; omega
  rw [List.length_erase] at h1
  split at h1 <;> omega
theorem nodup5 {l : List Int} (h : l.Nodup) (h5 : ∀ w ∈ l, m5 w) : l.length ≤ 5 := nodup_le 5 l h fun w hw => by have := h5 w hw; unfold m5 at this; omega
theorem CameOk.len {x : LeadS} (h : CameOk x) : x.came.length ≤ 5 := by have := nodup5 h.nd h.k5; simpa using this
@[reducible] def promC (x : LeadS) (who : Int) (vs : List Vote) : LeadS := { x with came := if who ∈ keysA x.came then x.came else x.came ++ [(who, delV x.frm vs)] }
def promS (x : LeadS) (b who : Int) (vs : List Vote) : LeadS × List Vote × Bool :=
 if (x.st = 1 ∧ x.b = b) ∧ 1 ≤ who ∧ who ≤ x.masters then
  (if enoughN (withN 0 (keysA (promC x who vs).came)) x.masters = true then
   (let y := fillL { promC x who vs with st := 2 } (bestV (allL { promC x who vs with st := 2 })); (y, openV y, true))
  else (promC x who vs, [], false))
 else (x, [], false)
end Go.M
namespace Go.M
open Go Go.Proofs
set_option maxRecDepth 100000
set_option maxHeartbeats 4000000
structure OpnOk (x : LeadS) : Prop where
 nd : (keysA x.opn).Nodup
 rng : ∀ n ∈ keysA x.opn, 0 ≤ n ∧ n < x.nxt
theorem OpnOk.len {x : LeadS} (h : OpnOk x) (hn : x.nxt ≤ 100000) : x.opn.length ≤ 100000 := by
 have h2 : ((keysA x.opn).map (· + 1)).Nodup := by
  refine List.Pairwise.map _ ?_ h.nd
  intro a b hab e; exact hab (by omega)
 have := nodup_le 100000 ((keysA x.opn).map (· + 1)) h2 fun w hw => by
  obtain ⟨n, hn', rfl⟩ := List.mem_map.1 hw
  have := h.rng n hn'; omega
 simpa using this
end Go.M
namespace Go.M
open Go Go.Proofs
set_option maxRecDepth 100000
set_option maxHeartbeats 4000000
def nextS (b who : Int) : Int × Int :=
 let r0 := if 1 > b / 8 then 1 else b / 8
 let r1 := if 8 * r0 + who ≤ b then r0 + 1 else r0
 if r1 ≥ 1152921504606846976 then (0, 9) else (8 * r1 + who, 0)
@[reducible] def startS (me masters b frm : Int) : LeadS := ⟨me, masters, 1, b, frm, frm, [], []⟩
end Go.M
namespace Go.M
open Go Go.Proofs
set_option maxRecDepth 100000
set_option maxHeartbeats 4000000
def sameC (a b : Cmd) : Bool := decide (a.kind = b.kind ∧ a.chain = b.chain ∧ a.epoch = b.epoch ∧ a.node = b.node)
theorem sameC_iff {a b : Cmd} : sameC a b = true ↔ a = b := by
 obtain ⟨a1, a2, a3, a4⟩ := a
 obtain ⟨b1, b2, b3, b4⟩ := b
 simp [sameC]
theorem veq_cmd (a b : Cmd) : (veq1 (.int .i64 a.kind) (.int .i64 b.kind) && (veq1 (.int .i64 a.chain) (.int .i64 b.chain) && (veq1 (.int .u64 a.epoch) (.int .u64 b.epoch) && (veq1 (.int .i64 a.node) (.int .i64 b.node) && true)))) = sameC a b := by
 rw [Bool.eq_iff_iff]; simp [veq1, sameC]
@[reducible] def stP (c : Cmd) : Ob := [(0, .cells [.s (.int .i64 c.kind), .s (.int .i64 c.chain), .s (.int .u64 c.epoch), .s (.int .i64 c.node)])]
def hasCmd (c : Cmd) (vs : List Vote) : Bool := vs.any fun v => sameC (cmdOf v) c
def proposeS (x : LeadS) (c : Cmd) : LeadS × Vote × Int :=
 if x.st ≠ 2 then (x, noVote, 12) else if c.check ≠ 0 then (x, noVote, c.check) else if c.kind ≠ 0 ∧ hasCmd c (openV x) = true then (x, noVote, 8)
 else if x.opn.length ≥ 8 ∨ x.nxt ≥ 512 then (x, noVote, 9) else (layS x c, voteS (layS x c) x.nxt, 0)
def acceptedS (x : LeadS) (b slot who : Int) : LeadS × Vote × Bool :=
 if (x.st = 2 ∧ x.b = b) ∧ 1 ≤ who ∧ who ≤ x.masters then
  (match lookA x.opn slot with
  | none => (x, noVote, false)
  | some p => if enoughN (withN p.2 [who]) x.masters = true then ({ x with opn := delA (putA x.opn slot (p.1, withN p.2 [who])) slot }, .of slot x.b p.1, true) else ({ x with opn := putA x.opn slot (p.1, withN p.2 [who]) }, noVote, false))
 else (x, noVote, false)
def refuseS (x : LeadS) (b : Int) : LeadS × Bool := if x.st = 0 ∨ b ≤ x.b then (x, false) else ({ x with st := 0, opn := [], came := [] }, true)
end Go.M
namespace Go.M
open Go
def maskB (P : Nat → Bool) : Nat := (if P 1 then 2 else 0) + (if P 2 then 4 else 0) + (if P 3 then 8 else 0) + (if P 4 then 16 else 0) + (if P 5 then 32 else 0)
def hasN (s i : Nat) : Bool := decide (s / 2 ^ i % 2 = 1)
def cntN (s : Nat) : Nat → Nat
 | 0 => 0
 | i + 1 => cntN s i + (if hasN s (i + 1) then 1 else 0)
end Go.M
namespace Go.M
open Go Go.Proofs
set_option maxRecDepth 100000
set_option maxHeartbeats 4000000
theorem has04_ok (l : List Int) (x : Int) (hl : l.length < 1000000) : VC E0 115 0 [.sl 1 (l.map encI1) false, .s (.int .i64 x)] [] (RR (.s (.bool (decide (x ∈ l)))) 0 []) := by
 refine VC.enterR L0 (show E0.func 115 = some Try.f115 by kernel_rfl) (fun _ _ => rfl) rfl rfl [] ?_
 ((conv=>whnf)<;>repeat(with_reducible refine D1 ?_)<;>conv=>whnf)
 refine ⟨fun k f o c => ∃ j : Nat, j ≤ l.length ∧ k = l.length - j ∧ x ∉ l.take j ∧ c = 0 ∧ f = [(0, .sl 1 (l.map encI1) false), (1, .s (.int .i64 x)), (5, .s (.int .i64 j))] ∧ o = [], ⟨l.length, ?_⟩, ?_⟩
 ·exact ⟨[], [], _, _, _, t3, ⟨0, Nat.zero_le _, rfl, by simp, rfl, rfl, rfl⟩⟩
 ·rintro k f1 o1 c1 ⟨j, hj, rfl, hn, rfl, rfl, rfl⟩
  ((conv=>whnf)<;>repeat(with_reducible refine D1 ?_)<;>conv=>whnf)
  (first|refine ⟨?_,?_⟩|refine nsplit ?_ ?_|refine bsplit ?_ ?_)<;>intro h<;>have hz_:=True.intro<;>clear hz_
  ·have h : j < l.length := lenlt.1 h
   ((conv=>whnf)<;>repeat(with_reducible refine D1 ?_)<;>conv=>whnf)
   refine idxI h ?_
   ((conv=>whnf)<;>repeat(with_reducible refine D1 ?_)<;>conv=>whnf)
   (first|refine ⟨?_,?_⟩|refine nsplit ?_ ?_|refine bsplit ?_ ?_)<;>intro he<;>have hz_:=True.intro<;>clear hz_
   ·have he : l[j] = x := he
    ((conv=>whnf)<;>repeat(with_reducible refine D1 ?_)<;>conv=>whnf)
    refine ⟨[], [], ?_⟩
    iterate 3 constructor
    refine ⟨⟨?_, ?_, ?_⟩, rfl, rfl, rfl⟩
    all_goals (repeat' first|with_reducible exact Lz.rfl|exact Lw.rfl|exact Lz.wrap (by omega)|(unfold goInt;with_reducible exact Lz.rfl)|exact flx _|constructor)
    exact Lz.of (bool_eq (Eq.symm (decide_eq_true (he ▸ List.getElem_mem h))))
   ·have he : ¬ l[j] = x := he
    ((conv=>whnf)<;>repeat(with_reducible refine D1 ?_)<;>conv=>whnf)
    refine ⟨l.length - (j + 1), ?_, by omega⟩
    exact ⟨[], [], _, _, _, t3, ⟨j + 1, h, rfl, (by rw [List.take_succ_eq_append_getElem h]; simp only [List.mem_append, List.mem_singleton, not_or]; exact ⟨hn, fun e => he e.symm⟩), rfl, rfl, rfl⟩⟩
  ·have hj' : j = l.length := by have := mt lenlt.2 h
                                 omega
   subst hj'
   rw [List.take_length] at hn
   ((conv=>whnf)<;>repeat(with_reducible refine D1 ?_)<;>conv=>whnf)
   refine ⟨[], [], ?_⟩
   iterate 3 constructor
   refine ⟨⟨?_, ?_, ?_⟩, rfl, rfl, rfl⟩
   all_goals (repeat' first|with_reducible exact Lz.rfl|exact Lw.rfl|exact Lz.wrap (by omega)|(unfold goInt;with_reducible exact Lz.rfl)|exact flx _|constructor)
   exact Lz.of (bool_eq (Eq.symm (decide_eq_false hn)))
end Go.M
namespace Go.M
open Go Go.Proofs
set_option maxRecDepth 100000
set_option maxHeartbeats 2000000
structure CF where
 chain : Int
 epoch : Int
 nodes : List Int
 fresh : Bool
 join : Int
def encCF (c : CF) : List TV := [.s (.int .i64 c.chain), .s (.int .u64 c.epoch), .sl 1 (c.nodes.map encI1) false, .s (.bool c.fresh), .s (.int .i64 c.join)]
theorem indexI_ok (l : List Int) (x : Int) (hl : l.length < 1000000) : VC E0 157 0 [.sl 1 (l.map encI1) false, .s (.int .i64 x)] []
 (fun r o c => ∃ i : Int, r = .s (.int .i64 i) ∧ (0 ≤ i ↔ x ∈ l) ∧ c = 0 ∧ o = []) := by
 refine VC.enterR L0 (show E0.func 157 = some Try.f157 by kernel_rfl) (fun _ _ => rfl) rfl rfl [] ?_
 ((conv=>whnf)<;>repeat(with_reducible refine D1 ?_)<;>conv=>whnf)
 refine ⟨fun k f o c => ∃ j : Nat, j ≤ l.length ∧ k = l.length - j ∧ x ∉ l.take j ∧ c = 0 ∧ f = [(0, .sl 1 (l.map encI1) false), (1, .s (.int .i64 x)), (7, .s (.int .i64 l.length)), (8, .s (.int .i64 j))] ∧ o = [], ⟨l.length, ?_⟩, ?_⟩
 ·refine ⟨[], [], ?_⟩
  iterate 3 constructor
  refine ⟨⟨?_, ?_, ?_⟩, ⟨0, Nat.zero_le _, rfl, by simp, rfl, rfl, rfl⟩⟩
  all_goals (repeat' first|with_reducible exact Lz.rfl|exact Lw.rfl|exact Lz.wrap (by omega)|(unfold goInt;with_reducible exact Lz.rfl)|exact flx _|constructor)
  exact Lz.int (by rw [List.length_map])
 ·rintro k f1 o1 c1 ⟨j, hj, rfl, hn, rfl, rfl, rfl⟩
  ((conv=>whnf)<;>repeat(with_reducible refine D1 ?_)<;>conv=>whnf)
  (first|refine ⟨?_,?_⟩|refine nsplit ?_ ?_|refine bsplit ?_ ?_)<;>intro h<;>have hz_:=True.intro<;>clear hz_
  ·have h : j < l.length := by have : (j : Int) < (l.length : Nat) := h
                               omega
   ((conv=>whnf)<;>repeat(with_reducible refine D1 ?_)<;>conv=>whnf)
   refine idxI h ?_
   ((conv=>whnf)<;>repeat(with_reducible refine D1 ?_)<;>conv=>whnf)
   (first|refine ⟨?_,?_⟩|refine nsplit ?_ ?_|refine bsplit ?_ ?_)<;>intro he<;>have hz_:=True.intro<;>clear hz_
   ·have he : x = l[j] := he
    ((conv=>whnf)<;>repeat(with_reducible refine D1 ?_)<;>conv=>whnf)
    exact ⟨[], [], _, _, _, t3, _, rfl, ⟨fun _ => he ▸ List.getElem_mem h, fun _ => Int.natCast_nonneg j⟩, rfl, rfl⟩
   ·have he : ¬ x = l[j] := he
    ((conv=>whnf)<;>repeat(with_reducible refine D1 ?_)<;>conv=>whnf)
    refine ⟨l.length - (j + 1), ?_, by omega⟩
    exact ⟨[], [], _, _, _, t3, ⟨j + 1, h, rfl, (by rw [List.take_succ_eq_append_getElem h]; simp only [List.mem_append, List.mem_singleton, not_or]; exact ⟨hn, he⟩), rfl, rfl, rfl⟩⟩
  ·have hj' : j = l.length := by have : ¬ (j : Int) < (l.length : Nat) := h
                                 omega
   subst hj'
   rw [List.take_length] at hn
   ((conv=>whnf)<;>repeat(with_reducible refine D1 ?_)<;>conv=>whnf)
   exact ⟨[], [], _, _, _, t3, _, rfl, ⟨fun h => absurd h (by decide), fun h => absurd h hn⟩, rfl, rfl⟩
theorem containsI_ok (l : List Int) (x : Int) (hl : l.length < 1000000) : VC E0 141 0 [.sl 1 (l.map encI1) false, .s (.int .i64 x)] [] (RR (.s (.bool (decide (x ∈ l)))) 0 []) := by
 refine VC.enterR L0 (show E0.func 141 = some Try.f141 by kernel_rfl) (fun _ _ => rfl) rfl rfl [] ?_
 ((conv=>whnf)<;>repeat(with_reducible refine D1 ?_)<;>conv=>whnf)
 refine ⟨[], [], _, _, _, _, indexI_ok l x hl, t3, ?_⟩
 rintro r o' c' ⟨i, rfl, hi, rfl, rfl⟩
 ((conv=>whnf)<;>repeat(with_reducible refine D1 ?_)<;>conv=>whnf)
 (first|refine ⟨?_,?_⟩|refine nsplit ?_ ?_|refine bsplit ?_ ?_)<;>intro hge<;>have hz_:=True.intro<;>clear hz_
 ·have hge : i ≥ 0 := hge
  ((conv=>whnf)<;>repeat(with_reducible refine D1 ?_)<;>conv=>whnf)
  refine ⟨[], [], ?_⟩
  iterate 3 constructor
  refine ⟨⟨?_, ?_, ?_⟩, rfl, rfl, rfl⟩
  all_goals (repeat' first|with_reducible exact Lz.rfl|exact Lw.rfl|exact Lz.wrap (by omega)|(unfold goInt;with_reducible exact Lz.rfl)|exact flx _|constructor)
  exact Lz.of (bool_eq (Eq.symm (decide_eq_true (hi.1 hge))))
 ·have hge : ¬ i ≥ 0 := hge
  ((conv=>whnf)<;>repeat(with_reducible refine D1 ?_)<;>conv=>whnf)
  refine ⟨[], [], ?_⟩
  iterate 3 constructor
  refine ⟨⟨?_, ?_, ?_⟩, rfl, rfl, rfl⟩
  all_goals (repeat' first|with_reducible exact Lz.rfl|exact Lw.rfl|exact Lz.wrap (by omega)|(unfold goInt;with_reducible exact Lz.rfl)|exact flx _|constructor)
  exact Lz.of (bool_eq (Eq.symm (decide_eq_false (mt hi.2 hge))))
theorem cloneI_ok (l : List Int) (hl : l.length < 1000000) : VC E0 139 0 [.sl 1 (l.map encI1) false] [] (RR (.tk 0) 1 [(0, .arr 1 true (l.map encI1))]) := by
 refine VC.enterR L0 (show E0.func 139 = some Try.f139 by kernel_rfl) (fun _ _ => rfl) rfl rfl [] ?_
 ((conv=>whnf)<;>repeat(with_reducible refine D1 ?_)<;>conv=>whnf)
 refine ⟨fun h => ?_, ?_⟩
 ·have h : l = [] := by simpa using h
  subst h
  ((conv=>whnf)<;>repeat(with_reducible refine D1 ?_)<;>conv=>whnf)
  exact ⟨[], [none], _, _, _, t3, rfl, rfl, rfl⟩
 ·((conv=>whnf)<;>repeat(with_reducible refine D1 ?_)<;>conv=>whnf)
  refine ⟨by simp; omega, ?_⟩
  ((conv=>whnf)<;>repeat(with_reducible refine D1 ?_)<;>conv=>whnf)
  exact ⟨[], [some 1], _, _, _, t3, rfl, rfl, rfl⟩
def nodeB (n : Int) : Bool := decide (1 ≤ n ∧ n ≤ 24)
theorem node_ok (n : Int) : VC E0 140 0 [.s (.int .i64 n)] [] (RR (.s (.bool (nodeB n))) 0 []) := by
 refine VC.enterR L0 (show E0.func 140 = some Try.f140 by kernel_rfl) (fun _ _ => rfl) rfl rfl [] ?_
 ((conv=>whnf)<;>repeat(with_reducible refine D1 ?_)<;>conv=>whnf)
 (first|refine ⟨?_,?_⟩|refine nsplit ?_ ?_|refine bsplit ?_ ?_)<;>intro h1<;>have hz_:=True.intro<;>clear hz_
 ·have h1 : n ≥ 1 := h1
  ((conv=>whnf)<;>repeat(with_reducible refine D1 ?_)<;>conv=>whnf)
  (first|refine ⟨?_,?_⟩|refine nsplit ?_ ?_|refine bsplit ?_ ?_)<;>intro h2<;>have hz_:=True.intro<;>clear hz_
  ·have h2 : n ≤ 24 := h2
   ((conv=>whnf)<;>repeat(with_reducible refine D1 ?_)<;>conv=>whnf)
   refine ⟨[], [], ?_⟩
   iterate 3 constructor
   refine ⟨⟨?_, ?_, ?_⟩, rfl, rfl, rfl⟩
   all_goals (repeat' first|with_reducible exact Lz.rfl|exact Lw.rfl|exact Lz.wrap (by omega)|(unfold goInt;with_reducible exact Lz.rfl)|exact flx _|constructor)
   exact Lz.of (bool_eq (Eq.symm (decide_eq_true ⟨h1, h2⟩)))
  ·have h2 : ¬ n ≤ 24 := h2
   ((conv=>whnf)<;>repeat(with_reducible refine D1 ?_)<;>conv=>whnf)
   refine ⟨[], [], ?_⟩
   iterate 3 constructor
   refine ⟨⟨?_, ?_, ?_⟩, rfl, rfl, rfl⟩
   all_goals (repeat' first|with_reducible exact Lz.rfl|exact Lw.rfl|exact Lz.wrap (by omega)|(unfold goInt;with_reducible exact Lz.rfl)|exact flx _|constructor)
   exact Lz.of (bool_eq (Eq.symm (decide_eq_false fun h => h2 h.2)))
 ·have h1 : ¬ n ≥ 1 := h1
  ((conv=>whnf)<;>repeat(with_reducible refine D1 ?_)<;>conv=>whnf)
  refine ⟨[], [], ?_⟩
  iterate 3 constructor
  refine ⟨⟨?_, ?_, ?_⟩, rfl, rfl, rfl⟩
  all_goals (repeat' first|with_reducible exact Lz.rfl|exact Lw.rfl|exact Lz.wrap (by omega)|(unfold goInt;with_reducible exact Lz.rfl)|exact flx _|constructor)
  exact Lz.of (bool_eq (Eq.symm (decide_eq_false fun h => h1 h.1)))
def unlikeP (l : List Int) : Prop := l.Nodup ∧ ∀ n ∈ l, 1 ≤ n ∧ n ≤ 24
instance (l : List Int) : Decidable (unlikeP l) := inferInstanceAs (Decidable (_ ∧ _))
theorem unlike_snoc (l : List Int) (n : Int) : unlikeP (l ++ [n]) ↔ unlikeP l ∧ (1 ≤ n ∧ n ≤ 24) ∧ n ∉ l := by
 unfold unlikeP
 rw [List.nodup_append]
 constructor
 ·rintro ⟨⟨h1, _, h2⟩, h3⟩
  exact ⟨⟨h1, fun m hm => h3 m (List.mem_append_left _ hm)⟩, h3 n (by simp), fun hm => h2 n hm n (by simp) rfl⟩
 ·rintro ⟨⟨h1, h2⟩, h3, h4⟩
  refine ⟨⟨h1, by simp, fun a ha b hb => ?_⟩, fun m hm => ?_⟩
  ·simp at hb; subst hb; rintro rfl; exact h4 ha
  ·rcases List.mem_append.1 hm with q | q
   ·exact h2 m q
   ·simp at q; subst q; exact h3
theorem unlike_take {l : List Int} {i : Nat} (h : unlikeP l) : unlikeP (l.take i) := ⟨(List.take_sublist i l).nodup h.1, fun n hn => h.2 n (List.mem_of_mem_take hn)⟩
theorem unlikeC (l : List Int) (hl : l.length < 1000000) : VC E0 111 0 [.sl 1 (l.map encI1) false] [] (RR (.s (.bool (decide (unlikeP l)))) 0 []) := by
 refine VC.enterR L0 (show E0.func 111 = some Try.f111 by kernel_rfl) (fun _ _ => rfl) rfl rfl [] ?_
 ((conv=>whnf)<;>repeat(with_reducible refine D1 ?_)<;>conv=>whnf)
 refine ⟨fun k f o c => ∃ j : Nat, j ≤ l.length ∧ k = l.length - j ∧ unlikeP (l.take j) ∧ c = 0 ∧ f = [(0, .sl 1 (l.map encI1) false), (5, .sl 1 (l.map encI1) false), (6, .s (.int .i64 l.length)), (7, .s (.int .i64 j))] ∧ o = [], ⟨l.length, ?_⟩, ?_⟩
 ·refine ⟨[], [], ?_⟩
  iterate 3 constructor
  refine ⟨⟨?_, ?_, ?_⟩, ⟨0, Nat.zero_le _, rfl, ⟨by simp, by simp⟩, rfl, rfl, rfl⟩⟩
  all_goals (repeat' first|with_reducible exact Lz.rfl|exact Lw.rfl|exact Lz.wrap (by omega)|(unfold goInt;with_reducible exact Lz.rfl)|exact flx _|constructor)
  exact Lz.int (by rw [List.length_map])
 ·rintro k f1 o1 c1 ⟨j, hj, rfl, hn, rfl, rfl, rfl⟩
  ((conv=>whnf)<;>repeat(with_reducible refine D1 ?_)<;>conv=>whnf)
  (first|refine ⟨?_,?_⟩|refine nsplit ?_ ?_|refine bsplit ?_ ?_)<;>intro h<;>have hz_:=True.intro<;>clear hz_
  ·have h : j < l.length := by have : (j : Int) < (l.length : Nat) := h
                               omega
   ((conv=>whnf)<;>repeat(with_reducible refine D1 ?_)<;>conv=>whnf)
   refine idxI h ?_
   ((conv=>whnf)<;>repeat(with_reducible refine D1 ?_)<;>conv=>whnf)
   have hs := unlike_snoc (l.take j) l[j]
   rw [← List.take_succ_eq_append_getElem h] at hs
   refine ⟨[], [], _, _, _, _, node_ok l[j], t3, ?_⟩
   rintro r o' c' ⟨rfl, rfl, rfl⟩
   have hz_ := True.intro
   clear hz_
   cases hb : nodeB l[j]
   ·have hb : ¬ (1 ≤ l[j] ∧ l[j] ≤ 24) := of_decide_eq_false hb
    ((conv=>whnf)<;>repeat(with_reducible refine D1 ?_)<;>conv=>whnf)
    refine ⟨[], [], ?_⟩
    iterate 3 constructor
    refine ⟨⟨?_, ?_, ?_⟩, rfl, rfl, rfl⟩
    all_goals (repeat' first|with_reducible exact Lz.rfl|exact Lw.rfl|exact Lz.wrap (by omega)|(unfold goInt;with_reducible exact Lz.rfl)|exact flx _|constructor)
    exact Lz.of (bool_eq (Eq.symm (decide_eq_false fun q => hb (hs.1 (unlike_take q)).2.1)))
   ·have hb : 1 ≤ l[j] ∧ l[j] ≤ 24 := of_decide_eq_true hb
    ((conv=>whnf)<;>repeat(with_reducible refine D1 ?_)<;>conv=>whnf)
    refine ⟨⟨by omega, by omega, by simp; omega⟩, ?_⟩
    ((conv=>whnf)<;>repeat(with_reducible refine D1 ?_)<;>conv=>whnf)
    refine ⟨[], [], _, _, _, _, containsI_ok (l.take j) l[j] (by simp; omega), ⟨by ((repeat' first|with_reducible exact Lz.rfl|exact Lw.rfl|exact Lz.wrap (by omega)|(unfold goInt;with_reducible exact Lz.rfl)|exact flx _|constructor); all_goals (exact Lz.of (by simp [List.map_take]))), by ((repeat' first|with_reducible exact Lz.rfl|exact Lw.rfl|exact Lz.wrap (by omega)|(unfold goInt;with_reducible exact Lz.rfl)|exact flx _|constructor); all_goals (exact Lz.of (by simp [List.map_take]))), by rfl⟩, ?_⟩
    rintro r o' c' ⟨rfl, rfl, rfl⟩
    ((conv=>whnf)<;>repeat(with_reducible refine D1 ?_)<;>conv=>whnf)
    by_cases hm : l[j] ∈ l.take j
    ·rw [decide_eq_true hm]
     ((conv=>whnf)<;>repeat(with_reducible refine D1 ?_)<;>conv=>whnf)
     refine ⟨[], [], ?_⟩
     iterate 3 constructor
     refine ⟨⟨?_, ?_, ?_⟩, rfl, rfl, rfl⟩
     all_goals (repeat' first|with_reducible exact Lz.rfl|exact Lw.rfl|exact Lz.wrap (by omega)|(unfold goInt;with_reducible exact Lz.rfl)|exact flx _|constructor)
     exact Lz.of (bool_eq (Eq.symm (decide_eq_false fun q => (hs.1 (unlike_take q)).2.2 hm)))
    ·rw [decide_eq_false hm]
     ((conv=>whnf)<;>repeat(with_reducible refine D1 ?_)<;>conv=>whnf)
     refine ⟨l.length - (j + 1), ?_, by omega⟩
     exact ⟨[], [], _, _, _, t3, ⟨j + 1, h, rfl, hs.2 ⟨hn, hb, hm⟩, rfl, rfl, rfl⟩⟩
  ·have hj' : j = l.length := by have : ¬ (j : Int) < (l.length : Nat) := h
                                 omega
   subst hj'
   rw [List.take_length] at hn
   ((conv=>whnf)<;>repeat(with_reducible refine D1 ?_)<;>conv=>whnf)
   refine ⟨[], [], ?_⟩
   iterate 3 constructor
   refine ⟨⟨?_, ?_, ?_⟩, rfl, rfl, rfl⟩
   all_goals (repeat' first|with_reducible exact Lz.rfl|exact Lw.rfl|exact Lz.wrap (by omega)|(unfold goInt;with_reducible exact Lz.rfl)|exact flx _|constructor)
   exact Lz.of (bool_eq (Eq.symm (decide_eq_true hn)))
end Go.M
namespace Go.M
open Go Go.Proofs
set_option maxRecDepth 100000
set_option maxHeartbeats 2000000
def standL (c : CF) : List Int := c.nodes ++ (if c.join = 0 then [] else [c.join])
theorem standL_len (c : CF) : (standL c).length ≤ c.nodes.length + 1 := by unfold standL; split <;> simp
theorem everybodyC (c : CF) (hl : c.nodes.length < 100000) : VC E0 110 0 [.agg (encCF c)] [] (RR (.tk 0) 1 [(0, .arr 1 true ((standL c).map encI1))]) := by
 refine VC.enterR L0 (show E0.func 110 = some Try.f110 by kernel_rfl) (fun _ _ => rfl) rfl rfl [] ?_
 ((conv=>whnf)<;>repeat(with_reducible refine D1 ?_)<;>conv=>whnf)
 (first|refine ⟨?_,?_⟩|refine nsplit ?_ ?_|refine bsplit ?_ ?_)<;>intro hj<;>have hz_:=True.intro<;>clear hz_
 ·have hj : c.join = 0 := hj
  ((conv=>whnf)<;>repeat(with_reducible refine D1 ?_)<;>conv=>whnf)
  refine ⟨[], [], _, _, _, _, cloneI_ok c.nodes (by omega), t3, ?_⟩
  rintro r o' c' ⟨rfl, rfl, rfl⟩
  ((conv=>whnf)<;>repeat(with_reducible refine D1 ?_)<;>conv=>whnf)
  refine ⟨[], [some 1], ?_⟩
  iterate 3 constructor
  refine ⟨⟨?_, ?_, ?_⟩, rfl, rfl, rfl⟩
  all_goals (repeat' first|with_reducible exact Lz.rfl|exact Lw.rfl|exact Lz.wrap (by omega)|(unfold goInt;with_reducible exact Lz.rfl)|exact flx _|constructor)
  exact Lz.of (by unfold standL; simp [hj])
 ·have hj : ¬ c.join = 0 := hj
  ((conv=>whnf)<;>repeat(with_reducible refine D1 ?_)<;>conv=>whnf)
  refine ⟨[], [], _, _, _, _, cloneI_ok c.nodes (by omega), t3, ?_⟩
  rintro r o' c' ⟨rfl, rfl, rfl⟩
  ((conv=>whnf)<;>repeat(with_reducible refine D1 ?_)<;>conv=>whnf)
  refine ⟨by simp; omega, ?_⟩
  ((conv=>whnf)<;>repeat(with_reducible refine D1 ?_)<;>conv=>whnf)
  refine ⟨[], [some 3], ?_⟩
  iterate 3 constructor
  refine ⟨⟨?_, ?_, ?_⟩, rfl, rfl, rfl⟩
  all_goals (repeat' first|with_reducible exact Lz.rfl|exact Lw.rfl|exact Lz.wrap (by omega)|(unfold goInt;with_reducible exact Lz.rfl)|exact flx _|constructor)
  exact Lz.of (by unfold standL; simp [hj])
theorem refUnlikeC (l : List Int) (hl : l.length < 1000000) : VC E0 75 0 [.sl 1 (l.map encI1) false] [] (RR (.s (.bool (decide (unlikeP l)))) 0 []) := by
 refine VC.enterR L0 (show E0.func 75 = some Try.f75 by kernel_rfl) (fun _ _ => rfl) rfl rfl [] ?_
 ((conv=>whnf)<;>repeat(with_reducible refine D1 ?_)<;>conv=>whnf)
 refine ⟨fun k f o c => ∃ j : Nat, j ≤ l.length ∧ k = l.length - j ∧ unlikeP (l.take j) ∧ c = 0 ∧ f = [(0, .sl 1 (l.map encI1) false), (3, .s (.int .i64 j))] ∧ o = [], ⟨l.length, ?_⟩, ?_⟩
 ·exact ⟨[], [], _, _, _, t3, ⟨0, Nat.zero_le _, rfl, ⟨by simp, by simp⟩, rfl, rfl, rfl⟩⟩
 ·rintro k f1 o1 c1 ⟨j, hj, rfl, hn, rfl, rfl, rfl⟩
  ((conv=>whnf)<;>repeat(with_reducible refine D1 ?_)<;>conv=>whnf)
  (first|refine ⟨?_,?_⟩|refine nsplit ?_ ?_|refine bsplit ?_ ?_)<;>intro h<;>have hz_:=True.intro<;>clear hz_
  ·have h : j < l.length := lenlt.1 h
   have hs := unlike_snoc (l.take j) l[j]
   rw [← List.take_succ_eq_append_getElem h] at hs
   ((conv=>whnf)<;>repeat(with_reducible refine D1 ?_)<;>conv=>whnf)
   refine idxI h ?_
   ((conv=>whnf)<;>repeat(with_reducible refine D1 ?_)<;>conv=>whnf)
   (first|refine ⟨?_,?_⟩|refine nsplit ?_ ?_|refine bsplit ?_ ?_)<;>intro h1<;>have hz_:=True.intro<;>clear hz_
   ·have h1 : l[j] < 1 := h1
    ((conv=>whnf)<;>repeat(with_reducible refine D1 ?_)<;>conv=>whnf)
    refine ⟨[], [], ?_⟩
    iterate 3 constructor
    refine ⟨⟨?_, ?_, ?_⟩, rfl, rfl, rfl⟩
    all_goals (repeat' first|with_reducible exact Lz.rfl|exact Lw.rfl|exact Lz.wrap (by omega)|(unfold goInt;with_reducible exact Lz.rfl)|exact flx _|constructor)
    exact Lz.of (bool_eq (Eq.symm (decide_eq_false fun q => by have := (hs.1 (unlike_take q)).2.1; omega)))
   ·have h1 : ¬ l[j] < 1 := h1
    ((conv=>whnf)<;>repeat(with_reducible refine D1 ?_)<;>conv=>whnf)
    refine idxI h ?_
    ((conv=>whnf)<;>repeat(with_reducible refine D1 ?_)<;>conv=>whnf)
    (first|refine ⟨?_,?_⟩|refine nsplit ?_ ?_|refine bsplit ?_ ?_)<;>intro h2<;>have hz_:=True.intro<;>clear hz_
    ·have h2 : l[j] > 24 := h2
     ((conv=>whnf)<;>repeat(with_reducible refine D1 ?_)<;>conv=>whnf)
     refine ⟨[], [], ?_⟩
     iterate 3 constructor
     refine ⟨⟨?_, ?_, ?_⟩, rfl, rfl, rfl⟩
     all_goals (repeat' first|with_reducible exact Lz.rfl|exact Lw.rfl|exact Lz.wrap (by omega)|(unfold goInt;with_reducible exact Lz.rfl)|exact flx _|constructor)
     exact Lz.of (bool_eq (Eq.symm (decide_eq_false fun q => by have := (hs.1 (unlike_take q)).2.1; omega)))
    ·have h2 : ¬ l[j] > 24 := h2
     ((conv=>whnf)<;>repeat(with_reducible refine D1 ?_)<;>conv=>whnf)
     refine ⟨⟨by omega, by omega, by simp; omega⟩, ?_⟩
     ((conv=>whnf)<;>repeat(with_reducible refine D1 ?_)<;>conv=>whnf)
     refine idxI h ?_
     ((conv=>whnf)<;>repeat(with_reducible refine D1 ?_)<;>conv=>whnf)
     refine ⟨[], [], _, _, _, _, has04_ok (l.take j) l[j] (by simp; omega), ⟨by ((repeat' first|with_reducible exact Lz.rfl|exact Lw.rfl|exact Lz.wrap (by omega)|(unfold goInt;with_reducible exact Lz.rfl)|exact flx _|constructor); all_goals (exact Lz.of (by simp [List.map_take]))), by ((repeat' first|with_reducible exact Lz.rfl|exact Lw.rfl|exact Lz.wrap (by omega)|(unfold goInt;with_reducible exact Lz.rfl)|exact flx _|constructor); all_goals (exact Lz.of (by simp [List.map_take]))), by rfl⟩, ?_⟩
     rintro r o' c' ⟨rfl, rfl, rfl⟩
     ((conv=>whnf)<;>repeat(with_reducible refine D1 ?_)<;>conv=>whnf)
     by_cases hm : l[j] ∈ l.take j
     ·rw [decide_eq_true hm]
      ((conv=>whnf)<;>repeat(with_reducible refine D1 ?_)<;>conv=>whnf)
      refine ⟨[], [], ?_⟩
      iterate 3 constructor
      refine ⟨⟨?_, ?_, ?_⟩, rfl, rfl, rfl⟩
      all_goals (repeat' first|with_reducible exact Lz.rfl|exact Lw.rfl|exact Lz.wrap (by omega)|(unfold goInt;with_reducible exact Lz.rfl)|exact flx _|constructor)
      exact Lz.of (bool_eq (Eq.symm (decide_eq_false fun q => (hs.1 (unlike_take q)).2.2 hm)))
     ·rw [decide_eq_false hm]
      ((conv=>whnf)<;>repeat(with_reducible refine D1 ?_)<;>conv=>whnf)
      refine ⟨l.length - (j + 1), ?_, by omega⟩
      exact ⟨[], [], _, _, _, t3, ⟨j + 1, h, rfl, hs.2 ⟨hn, by omega, hm⟩, rfl, rfl, rfl⟩⟩
  ·have hj' : j = l.length := by have := mt lenlt.2 h
                                 omega
   subst hj'
   rw [List.take_length] at hn
   ((conv=>whnf)<;>repeat(with_reducible refine D1 ?_)<;>conv=>whnf)
   refine ⟨[], [], ?_⟩
   iterate 3 constructor
   refine ⟨⟨?_, ?_, ?_⟩, rfl, rfl, rfl⟩
   all_goals (repeat' first|with_reducible exact Lz.rfl|exact Lw.rfl|exact Lz.wrap (by omega)|(unfold goInt;with_reducible exact Lz.rfl)|exact flx _|constructor)
   exact Lz.of (bool_eq (Eq.symm (decide_eq_true hn)))
theorem standsC (c : CF) (hl : c.nodes.length < 100000) : VC E0 74 0 [.agg (encCF c)] [] (RR (.tk 0) 1 [(0, .arr 1 true ((standL c).map encI1))]) := by
 refine VC.enterR L0 (show E0.func 74 = some Try.f74 by kernel_rfl) (fun _ _ => rfl) rfl rfl [] ?_
 ((conv=>whnf)<;>repeat(with_reducible refine D1 ?_)<;>conv=>whnf)
 refine ⟨by simp; omega, ?_⟩
 ((conv=>whnf)<;>repeat(with_reducible refine D1 ?_)<;>conv=>whnf)
 (first|refine ⟨?_,?_⟩|refine nsplit ?_ ?_|refine bsplit ?_ ?_)<;>intro hj<;>have hz_:=True.intro<;>clear hz_
 ·have hj : ¬ c.join = 0 := hj
  ((conv=>whnf)<;>repeat(with_reducible refine D1 ?_)<;>conv=>whnf)
  refine ⟨by simp; omega, ?_⟩
  ((conv=>whnf)<;>repeat(with_reducible refine D1 ?_)<;>conv=>whnf)
  refine ⟨[], [some 3], ?_⟩
  iterate 3 constructor
  refine ⟨⟨?_, ?_, ?_⟩, rfl, rfl, rfl⟩
  all_goals (repeat' first|with_reducible exact Lz.rfl|exact Lw.rfl|exact Lz.wrap (by omega)|(unfold goInt;with_reducible exact Lz.rfl)|exact flx _|constructor)
  exact Lz.of (by unfold standL; simp [hj])
 ·have hj : c.join = 0 := Classical.not_not.1 hj
  ((conv=>whnf)<;>repeat(with_reducible refine D1 ?_)<;>conv=>whnf)
  refine ⟨[], [some 1], ?_⟩
  iterate 3 constructor
  refine ⟨⟨?_, ?_, ?_⟩, rfl, rfl, rfl⟩
  all_goals (repeat' first|with_reducible exact Lz.rfl|exact Lw.rfl|exact Lz.wrap (by omega)|(unfold goInt;with_reducible exact Lz.rfl)|exact flx _|constructor)
  exact Lz.of (by unfold standL; simp [hj])
def rightP (c : CF) : Prop := (0 ≤ c.chain ∧ c.chain < 4) ∧ 1 ≤ c.epoch ∧ (1 ≤ c.nodes.length ∧ c.nodes.length ≤ 5) ∧ (c.fresh = true → 2 ≤ c.nodes.length ∧ c.join = 0) ∧ unlikeP (standL c)
instance (c : CF) : Decidable (rightP c) := inferInstanceAs (Decidable (_ ∧ _))
theorem right_ok (c : CF) : VC E0 109 0 [.agg (encCF c)] [] (RR (.s (.bool (decide (rightP c)))) 0 []) := by
 have hsl := standL_len c
 refine VC.enterR L0 (show E0.func 109 = some Try.f109 by kernel_rfl) (fun _ _ => rfl) rfl rfl [] ?_
 ((conv=>whnf)<;>repeat(with_reducible refine D1 ?_)<;>conv=>whnf)
 (first|refine ⟨?_,?_⟩|refine nsplit ?_ ?_|refine bsplit ?_ ?_)<;>intro h1<;>have hz_:=True.intro<;>clear hz_
 ·have h1 : c.chain < 0 := h1
  ((conv=>whnf)<;>repeat(with_reducible refine D1 ?_)<;>conv=>whnf)
  refine ⟨[], [], ?_⟩
  iterate 3 constructor
  refine ⟨⟨?_, ?_, ?_⟩, rfl, rfl, rfl⟩
  all_goals (repeat' first|with_reducible exact Lz.rfl|exact Lw.rfl|exact Lz.wrap (by omega)|(unfold goInt;with_reducible exact Lz.rfl)|exact flx _|constructor)
  exact Lz.of (bool_eq (Eq.symm (decide_eq_false fun q => by obtain ⟨⟨_, _⟩, _, ⟨_, _⟩, _, _⟩ := q; omega)))
 have h1 : ¬ c.chain < 0 := h1
 ((conv=>whnf)<;>repeat(with_reducible refine D1 ?_)<;>conv=>whnf)
 (first|refine ⟨?_,?_⟩|refine nsplit ?_ ?_|refine bsplit ?_ ?_)<;>intro h2<;>have hz_:=True.intro<;>clear hz_
 ·have h2 : c.chain ≥ 4 := h2
  ((conv=>whnf)<;>repeat(with_reducible refine D1 ?_)<;>conv=>whnf)
  refine ⟨[], [], ?_⟩
  iterate 3 constructor
  refine ⟨⟨?_, ?_, ?_⟩, rfl, rfl, rfl⟩
  all_goals (repeat' first|with_reducible exact Lz.rfl|exact Lw.rfl|exact Lz.wrap (by omega)|(unfold goInt;with_reducible exact Lz.rfl)|exact flx _|constructor)
  exact Lz.of (bool_eq (Eq.symm (decide_eq_false fun q => by obtain ⟨⟨_, _⟩, _, ⟨_, _⟩, _, _⟩ := q; omega)))
 have h2 : ¬ c.chain ≥ 4 := h2
 ((conv=>whnf)<;>repeat(with_reducible refine D1 ?_)<;>conv=>whnf)
 (first|refine ⟨?_,?_⟩|refine nsplit ?_ ?_|refine bsplit ?_ ?_)<;>intro h3<;>have hz_:=True.intro<;>clear hz_
 ·have h3 : c.epoch < 1 := h3
  ((conv=>whnf)<;>repeat(with_reducible refine D1 ?_)<;>conv=>whnf)
  refine ⟨[], [], ?_⟩
  iterate 3 constructor
  refine ⟨⟨?_, ?_, ?_⟩, rfl, rfl, rfl⟩
  all_goals (repeat' first|with_reducible exact Lz.rfl|exact Lw.rfl|exact Lz.wrap (by omega)|(unfold goInt;with_reducible exact Lz.rfl)|exact flx _|constructor)
  exact Lz.of (bool_eq (Eq.symm (decide_eq_false fun q => by obtain ⟨⟨_, _⟩, _, ⟨_, _⟩, _, _⟩ := q; omega)))
 have h3 : ¬ c.epoch < 1 := h3
 ((conv=>whnf)<;>repeat(with_reducible refine D1 ?_)<;>conv=>whnf)
 (first|refine ⟨?_,?_⟩|refine nsplit ?_ ?_|refine bsplit ?_ ?_)<;>intro h4<;>have hz_:=True.intro<;>clear hz_
 ·have h4 : (((c.nodes.map encI1).length : Nat) : Int) < 1 := h4
  rw [List.length_map] at h4
  ((conv=>whnf)<;>repeat(with_reducible refine D1 ?_)<;>conv=>whnf)
  refine ⟨[], [], ?_⟩
  iterate 3 constructor
  refine ⟨⟨?_, ?_, ?_⟩, rfl, rfl, rfl⟩
  all_goals (repeat' first|with_reducible exact Lz.rfl|exact Lw.rfl|exact Lz.wrap (by omega)|(unfold goInt;with_reducible exact Lz.rfl)|exact flx _|constructor)
  exact Lz.of (bool_eq (Eq.symm (decide_eq_false fun q => by obtain ⟨⟨_, _⟩, _, ⟨_, _⟩, _, _⟩ := q; omega)))
 have h4 : ¬ (((c.nodes.map encI1).length : Nat) : Int) < 1 := h4
 rw [List.length_map] at h4
 ((conv=>whnf)<;>repeat(with_reducible refine D1 ?_)<;>conv=>whnf)
 (first|refine ⟨?_,?_⟩|refine nsplit ?_ ?_|refine bsplit ?_ ?_)<;>intro h5<;>have hz_:=True.intro<;>clear hz_
 ·have h5 : (((c.nodes.map encI1).length : Nat) : Int) > 5 := h5
  rw [List.length_map] at h5
  ((conv=>whnf)<;>repeat(with_reducible refine D1 ?_)<;>conv=>whnf)
  refine ⟨[], [], ?_⟩
  iterate 3 constructor
  refine ⟨⟨?_, ?_, ?_⟩, rfl, rfl, rfl⟩
  all_goals (repeat' first|with_reducible exact Lz.rfl|exact Lw.rfl|exact Lz.wrap (by omega)|(unfold goInt;with_reducible exact Lz.rfl)|exact flx _|constructor)
  exact Lz.of (bool_eq (Eq.symm (decide_eq_false fun q => by obtain ⟨⟨_, _⟩, _, ⟨_, _⟩, _, _⟩ := q; omega)))
 have h5 : ¬ (((c.nodes.map encI1).length : Nat) : Int) > 5 := h5
 rw [List.length_map] at h5
 ((conv=>whnf)<;>repeat(with_reducible refine D1 ?_)<;>conv=>whnf)
 cases hf : c.fresh
 ·((conv=>whnf)<;>repeat(with_reducible refine D1 ?_)<;>conv=>whnf)
  refine ⟨[], [], _, _, _, _, everybodyC c (by omega), ⟨by ((repeat' first|with_reducible exact Lz.rfl|exact Lw.rfl|exact Lz.wrap (by omega)|(unfold goInt;with_reducible exact Lz.rfl)|exact flx _|constructor); all_goals (exact Lz.of (bool_eq hf.symm))), by ((repeat' first|with_reducible exact Lz.rfl|exact Lw.rfl|exact Lz.wrap (by omega)|(unfold goInt;with_reducible exact Lz.rfl)|exact flx _|constructor); all_goals (exact Lz.of (bool_eq hf.symm))), by rfl⟩, ?_⟩
  rintro r o' c' ⟨rfl, rfl, rfl⟩
  ((conv=>whnf)<;>repeat(with_reducible refine D1 ?_)<;>conv=>whnf)
  refine ⟨[1], [], _, _, _, _, unlikeC (standL c) (by omega), t3, ?_⟩
  rintro r o' c' ⟨rfl, rfl, rfl⟩
  ((conv=>whnf)<;>repeat(with_reducible refine D1 ?_)<;>conv=>whnf)
  refine ⟨[], [], ?_⟩
  iterate 3 constructor
  refine ⟨⟨?_, ?_, ?_⟩, rfl, rfl, rfl⟩
  all_goals (repeat' first|with_reducible exact Lz.rfl|exact Lw.rfl|exact Lz.wrap (by omega)|(unfold goInt;with_reducible exact Lz.rfl)|exact flx _|constructor)
  exact Lz.of (bool_eq (decide_eq_decide.2 ⟨fun q => ⟨⟨by omega, by omega⟩, by omega, ⟨by omega, by omega⟩, (fun e => absurd (hf.symm.trans e) (by decide)), q⟩, fun q => q.2.2.2.2⟩))
 ·((conv=>whnf)<;>repeat(with_reducible refine D1 ?_)<;>conv=>whnf)
  (first|refine ⟨?_,?_⟩|refine nsplit ?_ ?_|refine bsplit ?_ ?_)<;>intro h6<;>have hz_:=True.intro<;>clear hz_
  ·have h6 : (((c.nodes.map encI1).length : Nat) : Int) < 2 := h6
   rw [List.length_map] at h6
   ((conv=>whnf)<;>repeat(with_reducible refine D1 ?_)<;>conv=>whnf)
   refine ⟨[], [], ?_⟩
   iterate 3 constructor
   refine ⟨⟨?_, ?_, ?_⟩, rfl, rfl, rfl⟩
   all_goals (repeat' first|with_reducible exact Lz.rfl|exact Lw.rfl|exact Lz.wrap (by omega)|(unfold goInt;with_reducible exact Lz.rfl)|exact flx _|constructor)
   exact Lz.of (bool_eq (Eq.symm (decide_eq_false fun q => by have := q.2.2.2.1 hf; omega)))
  have h6 : ¬ (((c.nodes.map encI1).length : Nat) : Int) < 2 := h6
  rw [List.length_map] at h6
  ((conv=>whnf)<;>repeat(with_reducible refine D1 ?_)<;>conv=>whnf)
  (first|refine ⟨?_,?_⟩|refine nsplit ?_ ?_|refine bsplit ?_ ?_)<;>intro h7<;>have hz_:=True.intro<;>clear hz_
  ·have h7 : c.join ≠ 0 := h7
   ((conv=>whnf)<;>repeat(with_reducible refine D1 ?_)<;>conv=>whnf)
   refine ⟨[], [], ?_⟩
   iterate 3 constructor
   refine ⟨⟨?_, ?_, ?_⟩, rfl, rfl, rfl⟩
   all_goals (repeat' first|with_reducible exact Lz.rfl|exact Lw.rfl|exact Lz.wrap (by omega)|(unfold goInt;with_reducible exact Lz.rfl)|exact flx _|constructor)
   exact Lz.of (bool_eq (Eq.symm (decide_eq_false fun q => by have := q.2.2.2.1 hf; omega)))
  have h7 : c.join = 0 := Classical.not_not.1 h7
  ((conv=>whnf)<;>repeat(with_reducible refine D1 ?_)<;>conv=>whnf)
  refine ⟨[], [], _, _, _, _, everybodyC c (by omega), ⟨by ((repeat' first|with_reducible exact Lz.rfl|exact Lw.rfl|exact Lz.wrap (by omega)|(unfold goInt;with_reducible exact Lz.rfl)|exact flx _|constructor); all_goals (exact Lz.of (bool_eq hf.symm))), by ((repeat' first|with_reducible exact Lz.rfl|exact Lw.rfl|exact Lz.wrap (by omega)|(unfold goInt;with_reducible exact Lz.rfl)|exact flx _|constructor); all_goals (exact Lz.of (bool_eq hf.symm))), by rfl⟩, ?_⟩
  rintro r o' c' ⟨rfl, rfl, rfl⟩
  ((conv=>whnf)<;>repeat(with_reducible refine D1 ?_)<;>conv=>whnf)
  refine ⟨[1], [], _, _, _, _, unlikeC (standL c) (by omega), t3, ?_⟩
  rintro r o' c' ⟨rfl, rfl, rfl⟩
  ((conv=>whnf)<;>repeat(with_reducible refine D1 ?_)<;>conv=>whnf)
  refine ⟨[], [], ?_⟩
  iterate 3 constructor
  refine ⟨⟨?_, ?_, ?_⟩, rfl, rfl, rfl⟩
  all_goals (repeat' first|with_reducible exact Lz.rfl|exact Lw.rfl|exact Lz.wrap (by omega)|(unfold goInt;with_reducible exact Lz.rfl)|exact flx _|constructor)
  exact Lz.of (bool_eq (decide_eq_decide.2 ⟨fun q => ⟨⟨by omega, by omega⟩, by omega, ⟨by omega, by omega⟩, (fun e => ⟨by omega, h7⟩), q⟩, fun q => q.2.2.2.2⟩))
theorem refRight_ok (c : CF) (he : 0 ≤ c.epoch) : VC E0 73 0 [.agg (encCF c)] [] (RR (.s (.bool (decide (rightP c)))) 0 []) := by
 have hsl := standL_len c
 refine VC.enterR L0 (show E0.func 73 = some Try.f73 by kernel_rfl) (fun _ _ => rfl) rfl rfl [] ?_
 ((conv=>whnf)<;>repeat(with_reducible refine D1 ?_)<;>conv=>whnf)
 (first|refine ⟨?_,?_⟩|refine nsplit ?_ ?_|refine bsplit ?_ ?_)<;>intro h1<;>have hz_:=True.intro<;>clear hz_
 ·have h1 : c.chain < 0 := h1
  ((conv=>whnf)<;>repeat(with_reducible refine D1 ?_)<;>conv=>whnf)
  refine ⟨[], [], ?_⟩
  iterate 3 constructor
  refine ⟨⟨?_, ?_, ?_⟩, rfl, rfl, rfl⟩
  all_goals (repeat' first|with_reducible exact Lz.rfl|exact Lw.rfl|exact Lz.wrap (by omega)|(unfold goInt;with_reducible exact Lz.rfl)|exact flx _|constructor)
  exact Lz.of (bool_eq (Eq.symm (decide_eq_false fun q => by obtain ⟨⟨_, _⟩, _, ⟨_, _⟩, _, _⟩ := q; omega)))
 have h1 : ¬ c.chain < 0 := h1
 ((conv=>whnf)<;>repeat(with_reducible refine D1 ?_)<;>conv=>whnf)
 (first|refine ⟨?_,?_⟩|refine nsplit ?_ ?_|refine bsplit ?_ ?_)<;>intro h2<;>have hz_:=True.intro<;>clear hz_
 ·have h2 : c.chain > 3 := h2
  ((conv=>whnf)<;>repeat(with_reducible refine D1 ?_)<;>conv=>whnf)
  refine ⟨[], [], ?_⟩
  iterate 3 constructor
  refine ⟨⟨?_, ?_, ?_⟩, rfl, rfl, rfl⟩
  all_goals (repeat' first|with_reducible exact Lz.rfl|exact Lw.rfl|exact Lz.wrap (by omega)|(unfold goInt;with_reducible exact Lz.rfl)|exact flx _|constructor)
  exact Lz.of (bool_eq (Eq.symm (decide_eq_false fun q => by obtain ⟨⟨_, _⟩, _, ⟨_, _⟩, _, _⟩ := q; omega)))
 have h2 : ¬ c.chain > 3 := h2
 ((conv=>whnf)<;>repeat(with_reducible refine D1 ?_)<;>conv=>whnf)
 (first|refine ⟨?_,?_⟩|refine nsplit ?_ ?_|refine bsplit ?_ ?_)<;>intro h3<;>have hz_:=True.intro<;>clear hz_
 ·have h3 : c.epoch = 0 := h3
  ((conv=>whnf)<;>repeat(with_reducible refine D1 ?_)<;>conv=>whnf)
  refine ⟨[], [], ?_⟩
  iterate 3 constructor
  refine ⟨⟨?_, ?_, ?_⟩, rfl, rfl, rfl⟩
  all_goals (repeat' first|with_reducible exact Lz.rfl|exact Lw.rfl|exact Lz.wrap (by omega)|(unfold goInt;with_reducible exact Lz.rfl)|exact flx _|constructor)
  exact Lz.of (bool_eq (Eq.symm (decide_eq_false fun q => by obtain ⟨⟨_, _⟩, _, ⟨_, _⟩, _, _⟩ := q; omega)))
 have h3 : ¬ c.epoch = 0 := h3
 ((conv=>whnf)<;>repeat(with_reducible refine D1 ?_)<;>conv=>whnf)
 (first|refine ⟨?_,?_⟩|refine nsplit ?_ ?_|refine bsplit ?_ ?_)<;>intro h4<;>have hz_:=True.intro<;>clear hz_
 ·have h4 : (((c.nodes.map encI1).length : Nat) : Int) = 0 := h4
  rw [List.length_map] at h4
  ((conv=>whnf)<;>repeat(with_reducible refine D1 ?_)<;>conv=>whnf)
  refine ⟨[], [], ?_⟩
  iterate 3 constructor
  refine ⟨⟨?_, ?_, ?_⟩, rfl, rfl, rfl⟩
  all_goals (repeat' first|with_reducible exact Lz.rfl|exact Lw.rfl|exact Lz.wrap (by omega)|(unfold goInt;with_reducible exact Lz.rfl)|exact flx _|constructor)
  exact Lz.of (bool_eq (Eq.symm (decide_eq_false fun q => by obtain ⟨⟨_, _⟩, _, ⟨_, _⟩, _, _⟩ := q; omega)))
 have h4 : ¬ (((c.nodes.map encI1).length : Nat) : Int) = 0 := h4
 rw [List.length_map] at h4
 ((conv=>whnf)<;>repeat(with_reducible refine D1 ?_)<;>conv=>whnf)
 (first|refine ⟨?_,?_⟩|refine nsplit ?_ ?_|refine bsplit ?_ ?_)<;>intro h5<;>have hz_:=True.intro<;>clear hz_
 ·have h5 : (((c.nodes.map encI1).length : Nat) : Int) > 5 := h5
  rw [List.length_map] at h5
  ((conv=>whnf)<;>repeat(with_reducible refine D1 ?_)<;>conv=>whnf)
  refine ⟨[], [], ?_⟩
  iterate 3 constructor
  refine ⟨⟨?_, ?_, ?_⟩, rfl, rfl, rfl⟩
  all_goals (repeat' first|with_reducible exact Lz.rfl|exact Lw.rfl|exact Lz.wrap (by omega)|(unfold goInt;with_reducible exact Lz.rfl)|exact flx _|constructor)
  exact Lz.of (bool_eq (Eq.symm (decide_eq_false fun q => by obtain ⟨⟨_, _⟩, _, ⟨_, _⟩, _, _⟩ := q; omega)))
 have h5 : ¬ (((c.nodes.map encI1).length : Nat) : Int) > 5 := h5
 rw [List.length_map] at h5
 ((conv=>whnf)<;>repeat(with_reducible refine D1 ?_)<;>conv=>whnf)
 cases hf : c.fresh
 ·((conv=>whnf)<;>repeat(with_reducible refine D1 ?_)<;>conv=>whnf)
  refine ⟨[], [], _, _, _, _, standsC c (by omega), ⟨by ((repeat' first|with_reducible exact Lz.rfl|exact Lw.rfl|exact Lz.wrap (by omega)|(unfold goInt;with_reducible exact Lz.rfl)|exact flx _|constructor); all_goals (exact Lz.of (bool_eq hf.symm))), by ((repeat' first|with_reducible exact Lz.rfl|exact Lw.rfl|exact Lz.wrap (by omega)|(unfold goInt;with_reducible exact Lz.rfl)|exact flx _|constructor); all_goals (exact Lz.of (bool_eq hf.symm))), by rfl⟩, ?_⟩
  rintro r o' c' ⟨rfl, rfl, rfl⟩
  ((conv=>whnf)<;>repeat(with_reducible refine D1 ?_)<;>conv=>whnf)
  refine ⟨[1], [], _, _, _, _, refUnlikeC (standL c) (by omega), t3, ?_⟩
  rintro r o' c' ⟨rfl, rfl, rfl⟩
  ((conv=>whnf)<;>repeat(with_reducible refine D1 ?_)<;>conv=>whnf)
  refine ⟨[], [], ?_⟩
  iterate 3 constructor
  refine ⟨⟨?_, ?_, ?_⟩, rfl, rfl, rfl⟩
  all_goals (repeat' first|with_reducible exact Lz.rfl|exact Lw.rfl|exact Lz.wrap (by omega)|(unfold goInt;with_reducible exact Lz.rfl)|exact flx _|constructor)
  exact Lz.of (bool_eq (decide_eq_decide.2 ⟨fun q => ⟨⟨by omega, by omega⟩, by omega, ⟨by omega, by omega⟩, (fun e => absurd (hf.symm.trans e) (by decide)), q⟩, fun q => q.2.2.2.2⟩))
 ·((conv=>whnf)<;>repeat(with_reducible refine D1 ?_)<;>conv=>whnf)
  (first|refine ⟨?_,?_⟩|refine nsplit ?_ ?_|refine bsplit ?_ ?_)<;>intro h6<;>have hz_:=True.intro<;>clear hz_
  ·have h6 : (((c.nodes.map encI1).length : Nat) : Int) = 1 := h6
   rw [List.length_map] at h6
   ((conv=>whnf)<;>repeat(with_reducible refine D1 ?_)<;>conv=>whnf)
   refine ⟨[], [], ?_⟩
   iterate 3 constructor
   refine ⟨⟨?_, ?_, ?_⟩, rfl, rfl, rfl⟩
   all_goals (repeat' first|with_reducible exact Lz.rfl|exact Lw.rfl|exact Lz.wrap (by omega)|(unfold goInt;with_reducible exact Lz.rfl)|exact flx _|constructor)
   exact Lz.of (bool_eq (Eq.symm (decide_eq_false fun q => by have := q.2.2.2.1 hf; omega)))
  have h6 : ¬ (((c.nodes.map encI1).length : Nat) : Int) = 1 := h6
  rw [List.length_map] at h6
  ((conv=>whnf)<;>repeat(with_reducible refine D1 ?_)<;>conv=>whnf)
  (first|refine ⟨?_,?_⟩|refine nsplit ?_ ?_|refine bsplit ?_ ?_)<;>intro h7<;>have hz_:=True.intro<;>clear hz_
  ·have h7 : c.join ≠ 0 := h7
   ((conv=>whnf)<;>repeat(with_reducible refine D1 ?_)<;>conv=>whnf)
   refine ⟨[], [], ?_⟩
   iterate 3 constructor
   refine ⟨⟨?_, ?_, ?_⟩, rfl, rfl, rfl⟩
   all_goals (repeat' first|with_reducible exact Lz.rfl|exact Lw.rfl|exact Lz.wrap (by omega)|(unfold goInt;with_reducible exact Lz.rfl)|exact flx _|constructor)
   exact Lz.of (bool_eq (Eq.symm (decide_eq_false fun q => by have := q.2.2.2.1 hf; omega)))
  have h7 : c.join = 0 := Classical.not_not.1 h7
  ((conv=>whnf)<;>repeat(with_reducible refine D1 ?_)<;>conv=>whnf)
  refine ⟨[], [], _, _, _, _, standsC c (by omega), ⟨by ((repeat' first|with_reducible exact Lz.rfl|exact Lw.rfl|exact Lz.wrap (by omega)|(unfold goInt;with_reducible exact Lz.rfl)|exact flx _|constructor); all_goals (exact Lz.of (bool_eq hf.symm))), by ((repeat' first|with_reducible exact Lz.rfl|exact Lw.rfl|exact Lz.wrap (by omega)|(unfold goInt;with_reducible exact Lz.rfl)|exact flx _|constructor); all_goals (exact Lz.of (bool_eq hf.symm))), by rfl⟩, ?_⟩
  rintro r o' c' ⟨rfl, rfl, rfl⟩
  ((conv=>whnf)<;>repeat(with_reducible refine D1 ?_)<;>conv=>whnf)
  refine ⟨[1], [], _, _, _, _, refUnlikeC (standL c) (by omega), t3, ?_⟩
  rintro r o' c' ⟨rfl, rfl, rfl⟩
  ((conv=>whnf)<;>repeat(with_reducible refine D1 ?_)<;>conv=>whnf)
  refine ⟨[], [], ?_⟩
  iterate 3 constructor
  refine ⟨⟨?_, ?_, ?_⟩, rfl, rfl, rfl⟩
  all_goals (repeat' first|with_reducible exact Lz.rfl|exact Lw.rfl|exact Lz.wrap (by omega)|(unfold goInt;with_reducible exact Lz.rfl)|exact flx _|constructor)
  exact Lz.of (bool_eq (decide_eq_decide.2 ⟨fun q => ⟨⟨by omega, by omega⟩, by omega, ⟨by omega, by omega⟩, (fun e => ⟨by omega, h7⟩), q⟩, fun q => q.2.2.2.2⟩))
end Go.M
