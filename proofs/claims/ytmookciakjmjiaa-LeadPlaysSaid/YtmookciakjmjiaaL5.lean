/-
  Part 5 of the library that the proof leans on.
-/
import Derived.Shelf.SlIterI.Nil
import Derived.KernelRfl
import Derived.Test.YtmookciakjmjiaaProg
import Derived.Shelf.SortM.Plain
import Derived.Shelf.SortM.SortNone
import Derived.Test.YtmookciakjmjiaaL4
namespace Go.M
open Go
def insI (x : Int) : List Int → List Int
 | [] => [x]
 | y :: l => bif Int.blt' x y then x :: y :: l else y :: insI x l
where Int.blt' (x y : Int) : Bool := decide (x < y)
def sortI : List Int → List Int
 | [] => []
 | x :: l => insI x (sortI l)
theorem insI_perm (x : Int) : ∀ l, (insI x l).Perm (x :: l)
 | [] => .refl _
 | y :: l => by
  unfold insI
  rw [bif_eq]
  split
  ·exact .refl _
  ·exact ((insI_perm x l).cons y).trans (.swap x y l)
theorem sortI_perm : ∀ l, (sortI l).Perm l
 | [] => .refl _
 | x :: l => (insI_perm x _).trans ((sortI_perm l).cons x)
def intsV : List Value → Option (List Int)
 | [] => some []
 | .int .i64 x :: l => (intsV l).bind fun r => some (x :: r)
 | _ => none
theorem intsV_some : ∀ {l : List Value} {r : List Int}, intsV l = some r → l = r.map (.int .i64)
 | [], r, h => by simp [intsV] at h; subst h; rfl
 | .int .i64 x :: l, r, h => by
  simp only [intsV, Option.bind_eq_some_iff, Option.some.injEq] at h
  obtain ⟨r', h1, rfl⟩ := h
  rw [intsV_some h1]; rfl
def outB (base : Nat) : KV := fun v h' => match v with
 | .slice (some ⟨b, o, some 1⟩) len _ => (readCells h' b o len).bind fun cs => (intsV cs).bind fun xs => grd (Nat.ble base b && Nat.blt 0 len) (some (.bool false :: goInt len :: (sortI xs).map (.int .i64)))
 | v => grd (plain1 v) (some [.bool true, v])
def ansB (h : AHeap) : Out → Option (Value × AHeap)
 | [.bool true, v] => grd (plain1 v) (some (v, h))
 | .bool false :: .int _ (.ofNat len) :: cs => (intsV cs).bind fun xs => some (.slice (some ⟨h.size, 0, some 1⟩) len (len + 1), h.push (.bag xs))
 | _ => none
def conflB (E : Env) (n : Nat) : CallF := fun g args h => (callK E h.size n g args h (outB h.size)).bind (ansB h)
theorem intsV_map : ∀ l : List Int, intsV (l.map (.int .i64)) = some l
 | [] => rfl
 | x :: l => by simp [intsV, intsV_map l]
section
variable {P : Program} {E E0 : Env} {base B : Nat}
theorem conflB_ok (hE0 : EnvOk P E0) (hO : ∀ base B, OrcOk P E0 base B) (hm : P.follows .mixedOrders = true) (hg : ∀ g, E0.glob g = true → E.glob g = true) (k : Nat) : CallOk P E base B (conflB E0 k) := by
 intro μ h w g args args' v h' hc hr H F n hF
 unfold conflB at hc
 simp only [Option.bind_eq_some_iff] at hc
 obtain ⟨out, hrun, hans⟩ := hc
 have H2 := H.rebase hg
 refine (callK_ok hE0 (hO _ _) hm k μ h w g args args' _ out hrun hr H2 F n hF).mono ?_
 rintro e w' ⟨u, u', h1, μ1, hK, rfl, hv, S⟩
 have hold : ∀ r, r < w.heap.size → w'.heap[r]? = w.heap[r]? := fun r hr' => S.grow.keep r hr' fun b m hb _ => H.dom b m hb
 have Hx := H.ext S.grow.size hold
 have gr : Grow base μ w w' := ⟨S.grow.tape, S.grow.os, S.grow.output, S.grow.size, fun r hr' _ => hold r hr'⟩
 have plain : ∀ v : Value, plain1 v = true → ansB h [.bool true, v] = some (v, h) := fun v hp => by simp [ansB, grd, hp]
 unfold outB at hK
 split at hK
 ·rename_i b o len cap
  simp only [Option.bind_eq_some_iff, grd_some, Bool.and_eq_true, ble_iff, blt_iff, Option.some.injEq] at hK
  obtain ⟨cs, hrd, xs, hxs, ⟨hbb, hlen⟩, rfl⟩ := hK
  have hcs := intsV_some hxs
  simp only [ansB, goInt, intsV_map, Option.bind_some, Option.some.injEq, Prod.mk.injEq] at hans
  obtain ⟨rfl, rfl⟩ := hans
  cases hv with
  | lit hh => simp [plain1] at hh
  | slice0 hb => omega
  | slice hb q1 q2 q3 q4 =>
   rename_i cap' m
   obtain ⟨rc1, rc2⟩ := S.rel.readCells hb hrd
   have hfresh : w.heap.size ≤ m.r := by
    have hn : μ b = none := by
     cases hx : μ b with
     | none => rfl
     | some mx => have := H.dom b mx hx; omega
    rcases (S.new b m hn hb).2.2 with h5 | ⟨b0, m0, r1, r2, _⟩
    ·exact h5
    ·have := H.dom b0 m0 r2; omega
   let m2 : MT := ⟨m.r, m.s + o, m.n⟩
   have Hp := Hx.pushA (o := .bag (sortI xs)) (fun _ _ _ _ hh => by cases hh)
   have hget : (h.push (.bag (sortI xs))).get h.size = some (.bag (sortI xs)) := by rw [AHeap.get_push, if_pos rfl]
   obtain ⟨c0, e0, fr0, hobj, hcn, hcr⟩ : ∃ c e fr, w'.heap[m.r]? = some (.cells c e fr) ∧ c.size = m.n ∧ (∀ (i : Nat) v, cs[i]? = some v → ∃ v', c[m.s + o + i]? = some v' ∧ VRel μ1 v v') := by
    have hrd2 := hrd
    unfold M.readCells at hrd2
    simp only [Option.bind_eq_some_iff] at hrd2
    obtain ⟨cs0, hr0, _⟩ := hrd2
    obtain ⟨c, e, fr, t1, t2, t3, t4, t5⟩ := S.rel.read hb hr0
    refine ⟨c, e, fr, t1, t2, fun i v hv => ?_⟩
    obtain ⟨v', s1, s2⟩ := rc2 i v hv
    refine ⟨v', ?_, s2⟩
    simpa [World.cell?, t1] using s1
   have hxl : xs.length = len := by rw [← rc1, hcs]; simp
   have ho : ORel (upd μ h.size m2) (h.push (.bag (sortI xs))) base h.size m2 (.bag (sortI xs)) (.cells c0 e0 fr0) := by
    refine .bag (l := xs) (sortI_perm xs).symm (by show m.s + o + xs.length ≤ m.n; omega) (fun i x hx => ?_) hcn
    obtain ⟨v', s1, s2⟩ := hcr i (.int .i64 x) (by rw [hcs]; simp [hx])
    have := s2.inv_scalar rfl
    subst this
    exact s1
   have Ht := Hp.track (b := h.size) (m := m2) (by simp [AHeap.size_push]) hget H.fresh H.bsz (by have := H.low; show B ≤ m.r; omega) hobj
    (fun d md hd he => by have := H.lt hd; simp only [m2] at he; omega) (fun _ _ _ _ hh => by cases hh) (fun _ _ hh => by cases hh) ho
   refine ⟨_, upd μ h.size m2, rfl, ?_, Ht, gr, upd_le H.fresh, fun d md h0 hd => ?_, fun d hd _ => by rw [AHeap.get_push, if_neg (by omega)], by simp [AHeap.size_push]⟩
   ·have := VRel.slice (μ := upd μ h.size m2) (b := h.size) (o := 0) (z := 1) (len := len) (cap := len + 1) (cap' := cap') (m := m2) (upd_self _ _ _) (by omega) q2 (fun h => by omega) (by simpa [m2] using q4)
    simpa [m2] using this
   ·by_cases ed : d = h.size
    ·subst ed
     rw [upd_self] at hd; cases hd
     exact ⟨Nat.le_refl _, H.bsz, .inl hfresh⟩
    ·rw [upd_ne _ _ ed, h0] at hd; cases hd
 ·simp only [grd_some, Option.some.injEq] at hK
  obtain ⟨hp, rfl⟩ := hK
  rw [plain _ hp] at hans
  simp only [Option.some.injEq, Prod.mk.injEq] at hans
  obtain ⟨rfl, rfl⟩ := hans
  have : u' = u := by cases u <;> simp [plain1] at hp <;> cases hv <;> first | rfl | simp_all
  subst this
  exact ⟨u', μ, rfl, .lit hp, Hx, gr, μ.le_refl, fun b m h0 h1 => (by rw [h0] at h1; cases h1), fun _ _ _ => rfl, Nat.le_refl _⟩
end
end Go.M
namespace Go.M
open Go
def insAll (x : Int) : List Int → List (List Int)
 | [] => [[x]]
 | y :: l => (x :: y :: l) :: (insAll x l).map (y :: ·)
def perms : List Int → List (List Int)
 | [] => [[]]
 | x :: l => (perms l).flatMap (insAll x)
theorem mem_insAll (x : Int) : ∀ a b : List Int, a ++ x :: b ∈ insAll x (a ++ b)
 | [], [] => by simp [insAll]
 | [], y :: b => by simp [insAll]
 | y :: a, b => by
  simp only [List.cons_append, insAll, List.mem_cons, List.mem_map]
  exact .inr ⟨_, mem_insAll x a b, rfl⟩
theorem mem_perms : ∀ {cs l : List Int}, l.Perm cs → l ∈ perms cs
 | [], l, h => by simp [perms, h.eq_nil]
 | x :: cs, l, h => by
  have hx : x ∈ l := h.mem_iff.2 List.mem_cons_self
  obtain ⟨a, b, rfl⟩ := List.append_of_mem hx
  have hp : (a ++ b).Perm cs := (List.perm_middle.symm.trans h).cons_inv
  simp only [perms, List.mem_flatMap]
  exact ⟨a ++ b, mem_perms hp, mem_insAll x a b⟩
def bagOf (h : AHeap) : List Value → Option (Nat × List Int)
 | [] => none
 | .slice (some ⟨b, _, some _⟩) _ cap :: l => (match Nat.beq cap 0, h.get b with
  | false, some (.bag cs) => some (b, cs)
  | _, _ => bagOf h l)
 | _ :: l => bagOf h l
def noRoot (h : AHeap) (b : Nat) : Bool := (List.range h.size).all fun c => match h.get c with
 | some (.cells _ f _ _) => !Nat.beq f b
 | _ => true
def conflP (E : Env) (n : Nat) : CallF := fun g args h => (bagOf h args).bind fun r => grd (Nat.blt r.1 h.size && noRoot h r.1) <|
 (meet ((perms r.2).map fun l => callK E h.size n g args (h.put r.1 (.cells (l.map (.int .i64)) r.1 h.size 0)) (outK h.size))).bind (ansOf h)
theorem bagOf_get {h : AHeap} {args : List Value} {r : Nat × List Int} (hr : bagOf h args = some r) : h.get r.1 = some (.bag r.2) := by
 induction args with
 | nil => simp [bagOf] at hr
 | cons v l ih =>
  unfold bagOf at hr
  split at hr
  ·cases hr
  ·rename_i b o z len cap l' heq
   simp only [List.cons.injEq] at heq
   obtain ⟨_, rfl⟩ := heq
   split at hr
   ·rename_i cs hg; simp only [Option.some.injEq] at hr; subst hr; exact hg
   ·exact ih hr
  ·rename_i v' l' _ heq
   simp only [List.cons.injEq] at heq
   obtain ⟨_, rfl⟩ := heq
   exact ih hr
section
variable {P : Program} {E E0 : Env} {base B : Nat}
theorem HRel.unbag {μ : Emb} {h : AHeap} {w : World} (H : HRel E base B μ h w) (hlow : ∀ b, b < h.size → b < base) {b : Nat} {m : MT} (hb : μ b = some m) {cs : List Int} (hg : h.get b = some (.bag cs)) (hn : noRoot h b = true) :
 ∃ l : List Int, l.Perm cs ∧ HRel E base B μ (h.put b (.cells (l.map (.int .i64)) b h.size 0)) w := by
 obtain ⟨p, p', k1, k2, k3⟩ := H.obj b m hb
 rw [hg] at k1; cases k1
 have hbs := H.dom b m hb
 cases k3 with
 | bag hp hl hc hcn =>
  rename_i c e fr l
  refine ⟨l, hp, ?_⟩
  have hroot : ∀ c cs' f t th, h.get c = some (.cells cs' f t th) → f ≠ b := by
   intro c cs' f t th hgc hfb
   have hcs : c < h.size := by
    rcases Nat.lt_or_ge c h.size with h1 | h1
    ·exact h1
    ·rw [H.high c h1] at hgc; cases hgc
   unfold noRoot at hn
   have := List.all_eq_true.1 hn c (List.mem_range.2 hcs)
   rw [hgc] at this
   simp [hfb] at this
  have hgne : ∀ c, c ≠ b → (h.put b (.cells (l.map (.int .i64)) b h.size 0)).get c = h.get c := fun c hc => by rw [AHeap.get_put, if_neg hc]
  have hgb : (h.put b (.cells (l.map (.int .i64)) b h.size 0)).get b = some (.cells (l.map (.int .i64)) b h.size 0) := by rw [AHeap.get_put, if_pos rfl]
  have hfam : ∀ c, c ≠ b → (h.put b (.cells (l.map (.int .i64)) b h.size 0)).fam c = h.fam c := by
   intro c hc
   apply opt_ext
   intro r
   obtain ⟨f, tip, thr⟩ := r
   rw [fam_iff, fam_iff]
   constructor
   ·rintro ⟨cs', t0, th0, c0, q1, q2⟩
    rw [hgne c hc] at q1
    have hfb := hroot _ _ _ _ _ q1
    rw [hgne f hfb] at q2
    exact ⟨cs', t0, th0, c0, q1, q2⟩
   ·rintro ⟨cs', t0, th0, c0, q1, q2⟩
    have hfb := hroot _ _ _ _ _ q1
    exact ⟨cs', t0, th0, c0, by rw [hgne c hc]; exact q1, by rw [hgne f hfb]; exact q2⟩
  have hfamb : h.fam b = none := by
   cases hf : h.fam b with
   | none => rfl
   | some r => obtain ⟨cs', t, th, q⟩ := fam_cells hf; rw [hg] at q; cases q
  have hfamb' : (h.put b (.cells (l.map (.int .i64)) b h.size 0)).fam b = some (b, h.size, 0) := fam_of hgb hgb
  have hcells : ∀ c, c ≠ b → (h.put b (.cells (l.map (.int .i64)) b h.size 0)).cellsOf c = h.cellsOf c := fun c hc => by unfold AHeap.cellsOf; rw [hgne c hc]
  have hrd : ∀ c, c ≠ b → (h.put b (.cells (l.map (.int .i64)) b h.size 0)).rd c = h.rd c := fun c hc => by unfold AHeap.rd; rw [hfam c hc, hcells c hc]
  have hlen : ∀ c, c ≠ b → lenOf (h.put b (.cells (l.map (.int .i64)) b h.size 0)) c = lenOf h c := fun c hc => by unfold lenOf; rw [hcells c hc]
  refine ⟨H.dom, fun c hc => by rw [hgne c (by simp only [AHeap.size_put] at hc; omega)]; exact H.high c hc, fun c mc hc => ?_, H.own, fun b1 b2 m1 m2 h1 h2 hr hne hbb => ?_, fun c mc r hc hr => ?_, H.glob, H.low, H.bsz, fun c cs' f t th hgc => ?_, fun c mc cs' th hc hgc => ?_⟩
  ·by_cases ec : c = b
   ·subst ec
    rw [hb] at hc; cases hc
    refine ⟨_, _, hgb, k2, .cells hcn (by simpa using hl) (fun h9 => ?_) fun _ i v hv => ?_⟩
    ·have := hlow c hbs; omega
    ·rw [List.getElem?_map, Option.map_eq_some_iff] at hv
     obtain ⟨x, hx, rfl⟩ := hv
     exact ⟨_, hc i x hx, .int μ _ _⟩
   ·obtain ⟨q, q', j1, j2, j3⟩ := H.obj c mc hc
    exact ⟨q, q', by rw [hgne c ec]; exact j1, j2, j3.mono μ.le_refl (by rw [hrd c ec]; exact id)⟩
  ·obtain ⟨r, q1, q2, q3⟩ := H.alias b1 b2 m1 m2 h1 h2 hr hne hbb
   have e1 : b1 ≠ b := fun e => by subst e; rw [hfamb] at q1; cases q1
   have e2 : b2 ≠ b := fun e => by subst e; rw [hfamb] at q2; cases q2
   exact ⟨r, by rw [hfam b1 e1]; exact q1, by rw [hfam b2 e2]; exact q2, by rw [hlen b1 e1, hlen b2 e2]; exact q3⟩
  ·by_cases ec : c = b
   ·subst ec
    rw [hfamb'] at hr; cases hr
    exact ⟨Nat.le_of_lt hbs, Nat.le_refl _, m, hb⟩
   ·rw [hfam c ec] at hr
    exact H.fam c mc r hc hr
  ·by_cases ec : c = b
   ·subst ec
    rw [hgb] at hgc; cases hgc; exact Nat.le_refl _
   ·rw [hgne c ec] at hgc
    exact H.wf _ _ _ _ _ hgc
  ·by_cases ec : c = b
   ·subst ec
    rw [hgb] at hgc
    simp only [Option.some.injEq, AObj.cells.injEq] at hgc
    omega
   ·rw [hgne c ec] at hgc
    exact H.root _ _ _ _ hc hgc
theorem bagOf_map {μ : Emb} {h : AHeap} {args args' : List Value} (hr : VRels μ args args') {b : Nat} {cs : List Int} (hb : bagOf h args = some (b, cs)) : ∃ m, μ b = some m := by
 induction hr with
 | nil => simp [bagOf] at hb
 | cons hv _ ih =>
  unfold bagOf at hb
  split at hb
  ·cases hb
  ·rename_i b0 o z len cap l' heq
   simp only [List.cons.injEq] at heq
   obtain ⟨rfl, rfl⟩ := heq
   split at hb
   ·rename_i cs' hz hg
    simp only [Option.some.injEq, Prod.mk.injEq] at hb
    obtain ⟨rfl, rfl⟩ := hb
    cases hv with
    | lit hh => simp [plain1] at hh
    | slice h1 => exact ⟨_, h1⟩
    | slice0 h1 => exact h1 (by rintro rfl; simp at hz)
   ·exact ih hb
  ·rename_i v' l' _ heq
   simp only [List.cons.injEq] at heq
   obtain ⟨_, rfl⟩ := heq
   exact ih hb
theorem conflP_ok (hE0 : EnvOk P E0) (hO : ∀ base B, OrcOk P E0 base B) (hm : P.follows .mixedOrders = true) (hg : ∀ g, E0.glob g = true → E.glob g = true) (k : Nat) : CallOk P E base B (conflP E0 k) := by
 intro μ h w g args args' v h' hc hr H F n hF
 unfold conflP at hc
 simp only [Option.bind_eq_some_iff, grd_some, Bool.and_eq_true, blt_iff] at hc
 obtain ⟨⟨b, cs⟩, hbag, ⟨hlt, hnr⟩, out, hmeet, hans⟩ := hc
 obtain ⟨m, hb⟩ := bagOf_map hr hbag
 have hget := bagOf_get hbag
 have H2 := H.rebase hg
 obtain ⟨l, hl, H3⟩ := H2.unbag (fun _ h => h) hb hget hnr
 have hrun := meet_some hmeet _ (List.mem_map_of_mem (mem_perms hl))
 refine (callK_ok hE0 (hO _ _) hm k μ _ w g args args' _ out hrun hr H3 F n hF).mono ?_
 rintro e w' ⟨u, u', h1, μ1, hK, rfl, hv, S⟩
 exact confl_post (hX := h.put b (.cells (l.map (.int .i64)) b h.size 0)) H rfl hans hK hv S
end
end Go.M
namespace Go.M
open Go
def orcAll (P : Program) (fs bs ps : List Nat) (n : Nat) : FuncId → List Value → AHeap → Option (Value × AHeap) := fun g args h =>
 match fs.contains g with
 | true => confl (envOf P noOrc) n g args h
 | false => match bs.contains g with
  | true => conflB (envOf P noOrc) n g args h
  | false => match ps.contains g with
   | true => conflP (envOf P noOrc) n g args h
   | false => none
theorem orcAll_ok {P : Program} (hm : P.follows .mixedOrders = true) (fs bs ps : List Nat) (n base B : Nat) : OrcOk P (envOf P (orcAll P fs bs ps n)) base B := by
 intro μ h w g args args' v h' hc hr H F k hF
 have hc' : orcAll P fs bs ps n g args h = some (v, h') := hc
 unfold orcAll at hc'
 split at hc'
 ·exact confl_ok (E := envOf P (orcAll P fs bs ps n)) (envOk P noOrc) (fun _ _ => noOrc_ok) hm (fun _ hg => hg) n μ h w g args args' v h' hc' hr H F k hF
 ·split at hc'
  ·exact conflB_ok (E := envOf P (orcAll P fs bs ps n)) (envOk P noOrc) (fun _ _ => noOrc_ok) hm (fun _ hg => hg) n μ h w g args args' v h' hc' hr H F k hF
  ·split at hc'
   ·exact conflP_ok (E := envOf P (orcAll P fs bs ps n)) (envOk P noOrc) (fun _ _ => noOrc_ok) hm (fun _ hg => hg) n μ h w g args args' v h' hc' hr H F k hF
   ·cases hc'
end Go.M
namespace Go.M
open Go
def orcT (l : List Nat) : FuncId → List Value → AHeap → Option (Value × AHeap) := fun g args h => match memN g l, args with
 | true, [] => some (.bool true, h)
 | _, _ => none
def Awake (P : Program) (g : FuncId) : Prop := ∀ (W : World) (F : Fence) (n : Nat), Wide F → CallsIn F n P g #[] W fun e W' => e = .returned (.bool true) ∧ Go.RowKit.Below W.heap.size W W'
theorem awake_of {P : Program} (hm : P.follows .mixedOrders = true) {fs bs ps : List Nat} {m n : Nat} {g : FuncId}
 (hr : gaveTrue (acall (envOf P (orcAll P fs bs ps m)) 0 n g [] h00) = true) : Awake P g := by
 intro W F k hF
 obtain ⟨h', hr⟩ := gaveTrue_some hr
 have := acall_ok (envOk P _) (orcAll_ok hm fs bs ps m 0 W.heap.size) hm n μ00 h00 W g [] #[] (.bool true) h' hr .nil (rel00 (fun _ => rfl) W) F k hF
 refine this.mono ?_
 rintro e W' ⟨v', μ', rfl, hv, S⟩
 have e := hv.inv_scalar rfl
 subst e
 exact ⟨rfl, below_of_step S⟩
theorem orcT_ok {P : Program} {l : List Nat} (hl : ∀ g ∈ l, Awake P g) (base B : Nat) : OrcOk P (envOf P (orcT l)) base B := by
 intro μ h w g args args' v h' hc hr H F n hF
 have hc' : orcT l g args h = some (v, h') := hc
 unfold orcT at hc'
 split at hc'
 ·rename_i hg
  cases hc'
  have : args' = #[] := by
   have := hr.length
   simpa using this.symm
  subst this
  refine (hl g (memN_mem hg) w F n hF).mono ?_
  rintro e W' ⟨rfl, hb⟩
  exact ⟨_, μ, rfl, .lit rfl, ⟨H.ext hb.size fun r hr => hb.block r hr, ⟨hb.tape, hb.os, hb.output, hb.size, fun r hr _ => hb.block r hr⟩, μ.le_refl, fun b m h0 h1 => (by rw [h0] at h1; cases h1), fun _ _ _ => rfl, Nat.le_refl _⟩⟩
 ·cases hc'
end Go.M
namespace Go.M
open Go Go.RowKit Go.Maps Go.Sort Go.Shelf Go.Proofs
def SortsKeys (P : Program) (g k : FuncId) : Prop := ∀ (W : World) (Bm : Nat) (mb : Option Nat) (ks : List Int), W.cell? ⟨Bm, 0, none⟩ = some (.map mb) → ks.length ≤ 1099511627776 → (∀ x ∈ ks, IntKind.i64.min ≤ x ∧ x ≤ IntKind.i64.max) → ks.Nodup →
 (mb = none ∧ ks = [] ∨ ∃ (r : Nat) (es : Array MapEntry) (clock : Nat), mb = some r ∧ W.heap[r]? = some (.map es clock) ∧ StL es.toList clock ∧ es.toList.map (·.key) = ks.map (.int .i64)) →
 Calls P g #[.func (.func k) #[] #[.pointer (some ⟨Bm, 0, none⟩)]] W fun e w' => ∃ (v : Value) (t : TypeId), e = .returned v ∧ w'.ownsRow W.heap.size t 1 v ks.length ((ks.mergeSort fun x y => decide (x ≤ y)).map (.int .i64)) ∧ (v = .slice none 0 0 ↔ ks = []) ∧ Below W.heap.size W w'
theorem mergeSort_perm {l l' : List Int} (h : l.Perm l') : l.mergeSort (fun x y => decide (x ≤ y)) = l'.mergeSort (fun x y => decide (x ≤ y)) := by
 have tr : ∀ a b c : Int, decide (a ≤ b) = true → decide (b ≤ c) = true → decide (a ≤ c) = true := fun a b c h1 h2 => by simp only [decide_eq_true_eq] at *; omega
 have to : ∀ a b : Int, (decide (a ≤ b) || decide (b ≤ a)) = true := fun a b => by simp only [Bool.or_eq_true, decide_eq_true_eq]; omega
 refine List.Perm.eq_of_pairwise (le := fun a b => decide (a ≤ b) = true) (fun a b _ _ h1 h2 => ?_) (List.pairwise_mergeSort tr to l) (List.pairwise_mergeSort tr to l') (((List.mergeSort_perm l _).trans h).trans (List.mergeSort_perm l' _).symm)
 simp only [decide_eq_true_eq] at h1 h2
 omega
theorem sortsKeys_of {P : Program} {ρ σ : Ren} (L6 : SlLaysZI.n6 P ρ) (L10 : SlLaysZI.n10 P σ) (hsort : ∀ m, AnyZI.SortsIn P ρ Fence.wide m) (e9 : ∀ args w, (callFunc (ρ.f 9) args).run P w = .ok (.enter (ρ.f 9) args) w)
 (e10 : ∀ args w, (callFunc (σ.f 10) args).run P w = .ok (.enter (σ.f 10) args) w) : SortsKeys P (ρ.f 6) (σ.f 10) := by
 intro W Bm mb ks hm hlen hrg hnd hmap
 have hBm : Bm < W.heap.size := by
  unfold World.cell? at hm
  split at hm
  ·rename_i hh; exact (Array.getElem?_eq_some_iff.1 hh).1
  ·cases hm
 have key : ∃ (S : List Int → Prop), (∀ ss, S ss → ss.Perm ks) ∧ SeqGives Fence.wide (10 - 1 - 1 - 1) P (σ.f 10) #[.pointer (some ⟨Bm, 0, none⟩)] encZ S ks.length W := by
  rcases hmap with ⟨rfl, rfl⟩ | ⟨r, es, clock, rfl, hr, hst, hk⟩
  ·exact ⟨_, fun ss h => by rw [h], AnyZI.keys_gives_nil L10 Fence.wide _ trivial rfl Bm W hBm hm⟩
  ·have hkeyed : Keyed P (σ.t 26) := int_keyed L10.t26
   have hreads : ∀ x ∈ es.toList, ∃ n, n ∈ ks ∧ x.key = .int .i64 n ∧ WideElems.rd (H := Unit) P (σ.t 26) (fun _ => some (.nil, [])) x = some ((.int .i64 n), .nil) := by
    intro x hx
    have : x.key ∈ es.toList.map (·.key) := List.mem_map.2 ⟨x, hx, rfl⟩
    rw [hk] at this
    obtain ⟨n, hn, e⟩ := List.mem_map.1 this
    refine ⟨n, hn, e.symm, ?_⟩
    obtain ⟨h1, h2⟩ := hrg n hn
    unfold WideElems.rd
    rw [← e, keyOf_int_mk L10.t26 (by simp only [Lit.wf, Bool.and_eq_true, decide_eq_true_eq]; exact ⟨h1, h2⟩)]
    rfl
   have hkl : (es.toList.map fun x => intOf (WideElems.rg (H := Unit) P (σ.t 26) (fun _ => some (.nil, [])) x).1) = ks := by
    have h1 : es.toList.map (fun x => intOf (WideElems.rg (H := Unit) P (σ.t 26) (fun _ => some (.nil, [])) x).1) = (es.toList.map (·.key)).map (fun v => match v with | .int _ n => n | _ => 0) := by
     rw [List.map_map]
     refine List.map_congr_left fun x hx => ?_
     obtain ⟨n, _, e, h⟩ := hreads x hx
     rw [WideElems.rg_of h, Function.comp_apply, e]
     rfl
    rw [h1, hk, List.map_map]
    exact (List.map_congr_left fun x _ => rfl).trans (List.map_id ks)
   have hsz : es.size = ks.length := by
    have := congrArg List.length hk
    simpa using this
   have hown : W.ownsMap (H := Unit) P (σ.t 26) (fun _ => some (.nil, [])) r ks.length (.map ((es.toList.map (WideElems.rg P (σ.t 26) (fun _ => some (.nil, [])))).foldr DataW.insert [])) := by
    refine ⟨es, clock, hr, ⟨by rw [hsz]; unfold Go.maxLen; omega, ⟨hst.1, hst.2, ?_⟩, fun x hx => ?_⟩, Nat.le_of_eq hsz, rfl⟩
    ·rw [hk]
     exact List.pairwise_map.2 (hnd.imp fun h e => h (by simpa using e))
    ·obtain ⟨n, _, _, h⟩ := hreads x hx
     exact ⟨_, h⟩
   have hp : (intKeys (H := Unit) (.map ((es.toList.map (WideElems.rg P (σ.t 26) (fun _ => some (.nil, [])))).foldr DataW.insert []))).Perm ks := by
    have := (WideShapes.sorted_perm (es.toList.map (WideElems.rg (H := Unit) P (σ.t 26) (fun _ => some (.nil, []))))).map (fun p => intOf p.1)
    rw [List.map_map] at this
    have h2 : (es.toList.map ((fun p => intOf p.1) ∘ WideElems.rg (H := Unit) P (σ.t 26) (fun _ => some (.nil, [])))) = ks := hkl
    rw [h2] at this
    exact this
   have hs := AnyZI.keys_gives L10 Fence.wide (10 - 1 - 1 - 1) trivial rfl (by omega) Bm r ks.length _ W hBm hm hown
   have e : Maps.size (H := Unit) (.map ((es.toList.map (WideElems.rg P (σ.t 26) (fun _ => some (.nil, [])))).foldr DataW.insert [])) = ks.length := by
    have := (WideShapes.sorted_perm (es.toList.map (WideElems.rg (H := Unit) P (σ.t 26) (fun _ => some (.nil, []))))).length_eq
    rw [size_eq, this, List.length_map]
    simpa using hsz
   rw [e] at hs
   exact ⟨_, fun ss h => h.trans hp, hs⟩
 obtain ⟨S, hS, hseq⟩ := key
 have := AnyZI.sorted_in L6 Fence.wide 10 trivial trivial trivial trivial rfl (by omega) (hsort _) e9 (σ.f 10) #[.pointer (some ⟨Bm, 0, none⟩)] trivial e10 S ks.length (by unfold Go.maxLen; omega) (by omega) W hseq
 refine callsIn_wide.1 (this.mono ?_)
 rintro e w' ⟨v, ss, rfl, hs, hrow, hnil, hb⟩
 have hp := hS ss hs
 rw [mergeSort_perm hp, hp.length_eq] at hrow
 refine ⟨v, _, rfl, hrow, hnil.trans ⟨fun h => ?_, fun h => ?_⟩, hb⟩
 ·subst h; exact List.Perm.nil_eq hp |>.symm ▸ rfl
 ·subst h; exact List.Perm.eq_nil hp
end Go.M
namespace Go.M
open Go Go.RowKit
theorem calls_any {P : Program} {F : Fence} (hF : Wide F) {n : Nat} {f : FuncId} {args : Array Value} {w : World} {R : Ending → World → Prop} (h : Calls P f args w R) : CallsIn F n P f args w R := by
 have e : Machine.fenced P F = Machine.fenced P Fence.wide := funext fun m => propext ⟨fun _ => fenced_wide P m, fun _ g hg => ⟨fun ha => (by rw [hF.dead] at ha; cases ha), Or.inl (hF.fn _), fun f _ => hF.fn f, fun d hd => (by rw [hF.depth] at hd; cases hd)⟩⟩
 have h2 := callsIn_wide (n := n).2 h
 refine ⟨hF.fn f, fun cs _ => ?_⟩
 rw [e]
 exact h2.2 cs (room_wide _)
def intKs : List MapEntry → Option (List Int)
 | [] => some []
 | e :: l => match e.key, intKs l with
  | .int .i64 n, some ks => some (n :: ks)
  | _, _ => none
def boxMap (h : AHeap) (b : Nat) : Option (Option Nat) := match h.get b with
 | some (.cells [.map mb] f tip thr) => grd (Nat.beq f b && Nat.beq tip b && Nat.ble thr b) (some mb)
 | _ => none
instance (ev : List MapEntry) (clock : Nat) : Decidable (StL ev clock) := inferInstanceAs (Decidable (_ ∧ _))
def ksOk (ks : List Int) : Prop := ks.length ≤ 1099511627776 ∧ (∀ x ∈ ks, IntKind.i64.min ≤ x ∧ x ≤ IntKind.i64.max) ∧ ks.Nodup
instance (ks : List Int) : Decidable (ksOk ks) := inferInstanceAs (Decidable (_ ∧ _ ∧ _))
def keysAt (h : AHeap) : Option Nat → Option (List Int)
 | none => some []
 | some r => match h.get r with
  | some (.map ev clock) => (intKs ev).bind fun ks => grd (decide (StL ev clock) && decide (ksOk ks)) (some ks)
  | _ => none
def sortZ (ks : List Int) : List Int := ks.mergeSort fun x y => decide (x ≤ y)
def ansKs (h : AHeap) (ks : List Int) : Value × AHeap := match ks with
 | [] => (.slice none 0 0, h)
 | _ :: _ => (.slice (some ⟨h.size, 0, some 1⟩) ks.length (ks.length + 1), h.push (.cells ((sortZ ks).map (.int .i64)) h.size h.size 0))
def sortedK (its : List Nat) (args : List Value) (h : AHeap) : Option (Value × AHeap) := match args with
 | [.func (.func k) a c] => (match a.toList, c.toList with
  | [], [.pointer (some ⟨b, 0, none⟩)] => grd (memN k its) ((boxMap h b).bind fun mb => (keysAt h mb).bind fun ks => some (ansKs h ks))
  | _, _ => none)
 | _ => none
theorem boxMap_some {h : AHeap} {b : Nat} {mb : Option Nat} (hb : boxMap h b = some mb) : ∃ thr, h.get b = some (.cells [.map mb] b b thr) ∧ thr ≤ b := by
 unfold boxMap at hb
 split at hb
 ·rename_i mb' f tip thr hg
  simp only [grd_some, Bool.and_eq_true, beq_iff, ble_iff, Option.some.injEq] at hb
  obtain ⟨⟨⟨rfl, rfl⟩, ht⟩, rfl⟩ := hb
  exact ⟨thr, hg, ht⟩
 ·cases hb
theorem keysAt_some {h : AHeap} {r : Nat} {ks : List Int} (hk : keysAt h (some r) = some ks) : ∃ ev clock, h.get r = some (.map ev clock) ∧ intKs ev = some ks ∧ StL ev clock ∧ ksOk ks := by
 simp only [keysAt] at hk
 split at hk
 ·rename_i ev clock hg
  simp only [Option.bind_eq_some_iff, grd_some, Bool.and_eq_true, decide_eq_true_eq, Option.some.injEq] at hk
  obtain ⟨ks', hks, ⟨hst, hok⟩, rfl⟩ := hk
  exact ⟨ev, clock, hg, hks, hst, hok⟩
 ·cases hk
theorem ERels.born {μ : Emb} {ev ev' : List MapEntry} (h : ERels μ ev ev') : ev'.map (·.born) = ev.map (·.born) := by
 induction h with
 | nil => rfl
 | cons _ _ hb _ ih => simp [hb, ih]
theorem StL.iff {ev : List MapEntry} {clock : Nat} : StL ev clock ↔ (∀ b ∈ ev.map (·.born), b < clock) ∧ (ev.map (·.born)).Nodup := by
 unfold StL; simp
theorem ERels.ints {μ : Emb} {ev ev' : List MapEntry} (h : ERels μ ev ev') : ∀ {ks : List Int}, intKs ev = some ks → ev'.map (·.key) = ks.map (.int .i64) := by
 induction h with
 | nil => intro ks hk; simp [intKs] at hk; subst hk; rfl
 | cons hkey _ _ _ ih =>
  intro ks hk
  unfold intKs at hk
  split at hk
  ·rename_i n ks' h1 h2
   cases hk
   rw [h1] at hkey
   have := hkey.inv_scalar rfl
   simp [this, ih h2]
  ·cases hk
theorem sortedK_ok {P : Program} {E : Env} {base B : Nat} {its : List Nat} {g : FuncId} (hS : ∀ k ∈ its, SortsKeys P g k) {μ : Emb} {h h' : AHeap} {w : World} {args : List Value} {args' : Array Value} {v : Value}
 (hc : sortedK its args h = some (v, h')) (hr : VRels μ args args'.toList) (H : HRel E base B μ h w) : Calls P g args' w (RetPost E base B μ h w v h') := by
 unfold sortedK at hc
 split at hc
 ·rename_i k a c
  split at hc
  ·rename_i b ha hcc
   simp only [grd_some, Option.bind_eq_some_iff, Option.some.injEq] at hc
   obtain ⟨hk, mb, hbox, ks, hkeys, hans⟩ := hc
   obtain ⟨thr, hg, hthr⟩ := boxMap_some hbox
   -- the arguments in the world
   obtain ⟨v1, hv1, e1⟩ : ∃ v1, VRel μ (.func (.func k) a c) v1 ∧ args' = #[v1] := by
    obtain ⟨l⟩ := args'
    cases hr with
    | cons h1 h2 => cases h2; exact ⟨_, h1, rfl⟩
   subst e1
   cases hv1 with
   | lit hh => simp [plain1] at hh
   | func hs1 ha1 hs2 ha2 =>
    rename_i a' c'
    have ea : a' = #[] := by
     have h0 : a'.size = 0 := by rw [← hs1]; have := congrArg List.length ha; simpa using this
     exact Array.eq_empty_of_size_eq_zero h0
    subst ea
    have hc1 : c.size = 1 := by have := congrArg List.length hcc; simpa using this
    obtain ⟨p', ec⟩ : ∃ p', c' = #[p'] := by
     obtain ⟨l⟩ := c'
     rw [hc1] at hs2
     match l, hs2 with
     | [x], _ => exact ⟨x, rfl⟩
     | [], hs2 => simp at hs2
     | _ :: _ :: _, hs2 => simp at hs2
    subst ec
    have hp := ha2 0 (.pointer (some ⟨b, 0, none⟩)) p' (by rw [← Array.getElem?_toList, hcc]; rfl) rfl
    obtain ⟨m, hm, rfl⟩ := hp.inv_ptr
    have hs0 := H.root b m _ _ hm hg
    have hrd : h.rd b = some [.map mb] := rd_of (fam_of hg hg) hthr (by unfold AHeap.cellsOf; rw [hg])
    obtain ⟨cc, e, fr, q1, q2, q3, q4, q5⟩ := H.read hm hrd
    obtain ⟨vm, q6, q7⟩ := q5 0 (.map mb) rfl
    rw [hs0] at q6 ⊢
    obtain ⟨mb', rfl, hmap⟩ : ∃ mb', vm = .map mb' ∧ (mb' = none ∧ ks = [] ∨ ∃ (r : Nat) (es : Array MapEntry) (clock : Nat), mb' = some r ∧ w.heap[r]? = some (.map es clock) ∧ StL es.toList clock ∧ es.toList.map (·.key) = ks.map (.int .i64)) := by
     cases mb with
     | none =>
      cases q7 with
      | lit _ => exact ⟨none, rfl, .inl ⟨rfl, by simpa [keysAt] using hkeys.symm⟩⟩
     | some r =>
      obtain ⟨mr, w1, rfl⟩ := q7.inv_map
      refine ⟨_, rfl, .inr ?_⟩
      obtain ⟨ev, clock, hgr, hks, hst, hok⟩ := keysAt_some hkeys
      obtain ⟨o, o', k1, k2, k3⟩ := H.obj r mr w1
      rw [hgr] at k1; cases k1
      cases k3 with
      | map hs =>
       rename_i es'
       refine ⟨_, es', clock, rfl, k2, ?_, hs.ints hks⟩
       rw [StL.iff, hs.born, ← StL.iff]; exact hst
    have hok : ksOk ks := by
     cases mb with
     | none => simp [keysAt] at hkeys; subst hkeys; exact ⟨by simp, by simp, by simp⟩
     | some r =>
      obtain ⟨ev, clock, hgr, hks, hst, hok⟩ := keysAt_some hkeys
      exact hok
    have hcell : w.cell? ⟨m.r, 0, none⟩ = some (.map mb') := by
     unfold World.cell?
     simp only [q1, Option.isSome_none, Bool.false_eq_true, if_false]
     simpa using q6
    have := hS k (memN_mem hk) w m.r mb' ks hcell hok.1 hok.2.1 hok.2.2 hmap
    simp only [Nat.add_zero]
    refine this.mono ?_
    rintro en w' ⟨v', t, rfl, hrow, hnil, hb⟩
    have Hx := H.ext hb.size fun r hr => hb.block r hr
    have gr : Grow base μ w w' := ⟨hb.tape, hb.os, hb.output, hb.size, fun r hr _ => hb.block r hr⟩
    cases ks with
    | nil =>
     simp only [ansKs, Prod.mk.injEq] at hans
     obtain ⟨rfl, rfl⟩ := hans
     have := hnil.2 rfl
     subst this
     exact ⟨_, μ, rfl, .lit rfl, ⟨Hx, gr, μ.le_refl, fun b m h0 h1 => (by rw [h0] at h1; cases h1), fun _ _ _ => rfl, Nat.le_refl _⟩⟩
    | cons x0 l0 =>
     generalize hks0 : x0 :: l0 = ks at *
     have hlen : 0 < ks.length := by rw [← hks0]; simp
     have hans' : ansKs h ks = (.slice (some ⟨h.size, 0, some 1⟩) ks.length (ks.length + 1), h.push (.cells ((sortZ ks).map (.int .i64)) h.size h.size 0)) := by rw [← hks0]; rfl
     rw [hans'] at hans
     simp only [Prod.mk.injEq] at hans
     obtain ⟨rfl, rfl⟩ := hans
     obtain ⟨r1, ⟨_, r2⟩ | ⟨gb, cap, cur, rfl, r3, r4, r5, r6, r7, r8⟩⟩ := hrow
     ·omega
     ·let cs := (sortZ ks).map (Value.int .i64)
      have hcl : cs.length = ks.length := by simp [cs, sortZ]
      let m2 : MT := ⟨gb, 0, cur.size⟩
      have Hp := Hx.pushA (o := .cells cs h.size h.size 0) (fun _ _ _ _ hh => by cases hh; rfl)
      have hget : (h.push (.cells cs h.size h.size 0)).get h.size = some (.cells cs h.size h.size 0) := by rw [AHeap.get_push, if_pos rfl]
      have ho : ORel (upd μ h.size m2) (h.push (.cells cs h.size h.size 0)) base h.size m2 (.cells cs h.size h.size 0) (.cells cur t (0, 0)) := by
       refine .cells rfl (by show 0 + cs.length ≤ cur.size; omega) (fun _ => rfl) fun _ i v hv => ?_
       have hi := (List.getElem?_eq_some_iff.1 hv).1
       have : cur.toList[i]? = some v := by
        have h5 : (cur.toList.take (ks.length * 1))[i]? = some v := by rw [r8]; exact hv
        rw [List.getElem?_take] at h5
        rwa [if_pos (by omega)] at h5
       refine ⟨v, by show cur[0 + i]? = some v; rw [Nat.zero_add]; simpa using this, ?_⟩
       obtain ⟨n, _, rfl⟩ := List.mem_map.1 (List.mem_of_getElem? hv)
       exact .int _ _ _
      have Ht := Hp.track (b := h.size) (m := m2) (by simp [AHeap.size_push]) hget H.fresh H.bsz (by have := H.low; show B ≤ gb; omega) r4
       (fun d md hd he => by have := H.lt hd; simp only [m2] at he; omega) (fun _ _ _ _ hh => by cases hh; exact ⟨rfl, Nat.le_refl _⟩) (fun _ _ _ => rfl) ho
      refine ⟨_, upd μ h.size m2, rfl, ?_, Ht, gr, upd_le H.fresh, fun d md h0 hd => ?_, fun d hd _ => by rw [AHeap.get_push, if_neg (by omega)], by simp [AHeap.size_push]⟩
      ·have := VRel.slice (μ := upd μ h.size m2) (b := h.size) (o := 0) (z := 1) (len := ks.length) (cap := ks.length + 1) (cap' := cap) (m := m2) (upd_self _ _ _) (by omega) r5 (fun h => by omega) (by show 0 + 0 + cap * 1 ≤ cur.size; omega)
       simpa [m2] using this
      ·by_cases ed : d = h.size
       ·subst ed
        rw [upd_self] at hd; cases hd
        exact ⟨Nat.le_refl _, H.bsz, .inl r3⟩
       ·rw [upd_ne _ _ ed, h0] at hd; cases hd
  ·cases hc
 ·cases hc
end Go.M
namespace Go.M
open Go Go.RowKit
def orcV (l : List Nat) (gs : List (Nat × List Nat)) : FuncId → List Value → AHeap → Option (Value × AHeap) := fun g args h => match memN g l with
 | true => (match args with | [] => some (.bool true, h) | _ => none)
 | false => match look gs g with
  | some its => sortedK its args h
  | none => none
theorem orcV_ok {P : Program} {l : List Nat} {gs : List (Nat × List Nat)} (hl : ∀ g ∈ l, Awake P g) (hs : ∀ g its, look gs g = some its → ∀ k ∈ its, SortsKeys P g k) (base B : Nat) : OrcOk P (envOf P (orcV l gs)) base B := by
 intro μ h w g args args' v h' hc hr H F n hF
 have hc' : orcV l gs g args h = some (v, h') := hc
 unfold orcV at hc'
 split at hc'
 ·rename_i hg
  split at hc'
  ·exact orcT_ok hl base B μ h w g [] args' v h' (by show orcT l g [] h = _; unfold orcT; rw [hg]; exact hc') hr ⟨H.dom, H.high, H.obj, H.own, H.alias, H.fam, H.glob, H.low, H.bsz, H.wf, H.root⟩ F n hF |>.mono fun e w' ⟨v', μ', h1, h2, h3⟩ =>
    ⟨v', μ', h1, h2, ⟨h3.rel.dom, h3.rel.high, h3.rel.obj, h3.rel.own, h3.rel.alias, h3.rel.fam, h3.rel.glob, h3.rel.low, h3.rel.bsz, h3.rel.wf, h3.rel.root⟩, h3.grow, h3.le, h3.new, h3.unt, h3.hsz⟩
  ·cases hc'
 ·split at hc'
  ·rename_i its hi
   exact calls_any hF (sortedK_ok (hs g its hi) hc' hr H)
  ·cases hc'
section
variable {E : Env}
theorem intKs_of {ev : List MapEntry} : ∀ {ks : List Int}, ev.map (·.key) = ks.map (.int .i64) → intKs ev = some ks := by
 induction ev with
 | nil => intro ks h; cases ks with
  | nil => rfl
  | cons _ _ => simp at h
 | cons e l ih => intro ks h; cases ks with
  | nil => simp at h
  | cons n ks =>
   simp only [List.map_cons, List.cons.injEq] at h
   unfold intKs
   rw [h.1, ih h.2]
theorem sortZ_len (ks : List Int) : (sortZ ks).length = ks.length := by simp [sortZ]
def KeysO (ks : List Int) : TO → Prop
 | .map _ es => es.map (·.1) = ks.map (.int .i64)
 | .maq _ es op => op = [] ∧ es.map (·.1) = ks.map (.int .i64)
 | _ => False
theorem OR.keys {c : Nat} {ρ : Gh} {F : Nat → Prop} {h : AHeap} {base n : Nat} {S : Ft} {y : TO} {ks : List Int} (H : OR c ρ F h base n S y) (hk : KeysO ks y) : ∃ b ev clock, ρ n = some (.blk b) ∧ h.get b = some (.map ev clock) ∧ StL ev clock ∧ ev.map (·.key) = ks.map (.int .i64) := by
 cases H with
 | map hb hg hl hc hst =>
  rename_i kd es b clock ev
  refine ⟨_, _, _, hb, hg, hst, ?_⟩
  rw [← show es.map (·.1) = ks.map (.int .i64) from hk]
  refine List.ext_getElem? fun i => ?_
  rw [List.getElem?_map, List.getElem?_map]
  cases he : es[i]? with
  | none =>
   have : es.length ≤ i := by simpa using he
   rw [List.getElem?_eq_none (by omega)]; rfl
  | some e =>
   have hi := (List.getElem?_eq_some_iff.1 he).1
   obtain ⟨q1, _⟩ := hc i e ev[i] he (List.getElem?_eq_getElem (by omega))
   rw [List.getElem?_eq_getElem (by omega)]
   simp [q1]
 | maq hb hg hcl hc hst =>
  obtain ⟨rfl, hk⟩ := hk
  refine ⟨_, _, _, hb, hg, hst, ?_⟩
  rw [← hk]
  have key : ∀ {S : Ft} {kd : Nat} {l : List (Value × TV)} {m : List MapEntry}, ENs c ρ F h base kd S l m → m.map (·.key) = l.map (·.1) := by
   intro S kd l m hE
   induction hE with
   | nil => rfl
   | cons h1 _ _ _ _ ih => simp [h1, ih]
  exact key hc
 | _ => exact hk.elim
theorem VC.sortedO {g : FuncId} {its : List Nat} {k : FuncId} (hf : (E.func g).isSome = true) (ho : ∀ a h, E.orc g a h = sortedK its a h) (hk : memN k its = true) {y : TO} {ks : List Int} (hy : KeysO ks y) (hok : ksOk ks) :
 VC E g 2 [.clo k [] [.ptr 1 0]] [(0, y), (1, .cells [.mp 0])] fun r o c => r = .tk 2 ∧ c = 3 ∧
  o = [(2, .arr 1 true ((sortZ ks).map fun n => [.s (.int .i64 n)])), (0, y), (1, .cells [.mp 0])] := by
 intro base ρ F h S vargs hM hO hA
 obtain ⟨fn, hf⟩ := Option.isSome_iff_exists.1 hf
 obtain ⟨v1, m1, rfl, h1, h2⟩ := hA.inv_cons
 obtain rfl := h2.inv_nil
 obtain ⟨_, hm⟩ := hM.objs (m := 0) rfl
 obtain ⟨_, hb⟩ := hM.objs (m := 1) rfl
 obtain ⟨b0, ev, clock, hb0, hg0, hst, hkeys⟩ := hm.keys hy
 cases hb with
 | cells hb1 hg1 ht1 hc1 =>
  rename_i b1 thr cs'
  have hc1 := (hc1.vrs (fun t v hv hf => hv.fzmono hf) rfl).1
  obtain ⟨x1, l1, rfl, y1, y2⟩ := hc1.inv_cons
  obtain rfl := y2.inv_nil
  cases y1 with
  | mp hbm =>
   rw [hb0] at hbm; cases hbm
   cases h1 with
   | clo hs1 ha1 hs2 ha2 =>
    rename_i a kk
    have ea : a = #[] := Array.eq_empty_of_size_eq_zero (by simpa using hs1.symm)
    subst ea
    obtain ⟨p', ec⟩ : ∃ p', kk = #[p'] := by
     obtain ⟨l⟩ := kk
     match l, hs2 with
     | [x], _ => exact ⟨x, rfl⟩
     | [], hs2 => simp at hs2
     | _ :: _ :: _, hs2 => simp at hs2
    subst ec
    have hp := ha2 0 (.ptr 1 0) p' rfl rfl
    cases hp with
    | ptr hb2 =>
     rw [hb1] at hb2; cases hb2
     have horc : E.orc g [.func (.func k) #[] #[.pointer (some ⟨b1, 0, none⟩)]] h = some (ansKs h ks) := by
      rw [ho]
      show grd (memN k its) ((boxMap h b1).bind fun mb => (keysAt h mb).bind fun ks => some (ansKs h ks)) = _
      have hbx : boxMap h b1 = some (some b0) := by
       unfold boxMap; rw [hg1]; simp [grd, Nat.ble_eq_true_of_le ht1]
      rw [hk, hbx]
      simp only [grd, Option.bind_some, keysAt, hg0, intKs_of hkeys, hst, hok, decide_true, Bool.and_self]
     have hcall : ∀ r, E.orc g [.func (.func k) #[] #[.pointer (some ⟨b1, 0, none⟩)]] h = some r → acall E base 0 g [.func (.func k) #[] #[.pointer (some ⟨b1, 0, none⟩)]] h = some r := by
      intro r hr
      unfold acall acallB
      rw [hf]
      simp only [Option.bind_some, hr]
     cases hes : ks with
     | nil =>
      subst hes
      obtain ⟨M, hk2⟩ := hM.newNil (z := 1) (by omega)
      have e0 : sortZ [] = [] := by simp [sortZ]
      refine ⟨0, _, _, _, F, .tk 2, _, 3, hcall _ horc, ⟨rfl, rfl, rfl⟩, by rw [e0]; exact M, ?_⟩
      exact .tk (by omega) rfl (fun b z len hx => by rw [updG_self] at hx; cases hx) (fun z _ => .inl rfl)
     | cons e0 l0 =>
      rw [← hes]
      have hlen : 0 < ks.length := by rw [hes]; simp
      have hans : ansKs h ks = (.slice (some ⟨h.size, 0, some 1⟩) ks.length (ks.length + 1), h.push (.cells ((sortZ ks).map (.int .i64)) h.size h.size 0)) := by
       rw [hes]; simp [ansKs]
      rw [hans] at horc
      have hER : ER 2 ρ F h 1 ((sortZ ks).map fun n => [.s (.int .i64 n)]) ((sortZ ks).map (Value.int .i64)) := by
       refine ⟨by simp, by simp, by simp [fz, plainE], fun i j e t v q1 q2 q3 => ?_⟩
       rw [List.getElem?_map] at q1
       obtain ⟨n, hn, rfl⟩ := Option.map_eq_some_iff.1 q1
       have : j = 0 := by
        have := (List.getElem?_eq_some_iff.1 q2).1
        simpa using this
       subst this
       simp at q2; subst q2
       rw [Nat.mul_one, Nat.add_zero, List.getElem?_map, hn] at q3
       simp at q3; subst q3
       exact .s rfl
      obtain ⟨M, hk2⟩ := hM.newArr hER (by omega)
      refine ⟨0, _, _, _, F, .tk 2, _, 3, hcall _ horc, ⟨rfl, rfl, rfl⟩, M, ?_⟩
      refine .tk (by omega) rfl (fun b z len hx => ?_) (fun z hx => by rw [updG_self] at hx; cases hx)
      rw [updG_self] at hx; cases hx
      exact ⟨ks.length + 1, by simp [sortZ_len], by simp [sortZ_len]⟩
theorem VC.sorted {g : FuncId} {its : List Nat} {k : FuncId} (hf : (E.func g).isSome = true) (ho : ∀ a h, E.orc g a h = sortedK its a h) (hk : memN k its = true) {kd : Nat} {es : List (Int × TV)} (hok : ksOk (es.map (·.1))) :
 VC E g 2 [.clo k [] [.ptr 1 0]] [(0, .map kd (es.map fun p => (.int .i64 p.1, p.2))), (1, .cells [.mp 0])] fun r o c => r = .tk 2 ∧ c = 3 ∧
  o = [(2, .arr 1 true ((sortZ (es.map (·.1))).map fun n => [.s (.int .i64 n)])), (0, .map kd (es.map fun p => (.int .i64 p.1, p.2))), (1, .cells [.mp 0])] :=
 VC.sortedO hf ho hk (by simp [KeysO, Function.comp_def]) hok
theorem VC.sortedNil {g : FuncId} {its : List Nat} {k : FuncId} (hf : (E.func g).isSome = true) (ho : ∀ a h, E.orc g a h = sortedK its a h) (hk : memN k its = true) :
 VC E g 1 [.clo k [] [.ptr 0 0]] [(0, .cells [.s (.map none)])] fun r o c => r = .sl 0 [] true ∧ c = 1 ∧ o = [(0, .cells [.s (.map none)])] := by
 intro base ρ F h S vargs hM hO hA
 obtain ⟨fn, hf⟩ := Option.isSome_iff_exists.1 hf
 obtain ⟨v1, m1, rfl, h1, h2⟩ := hA.inv_cons
 obtain rfl := h2.inv_nil
 obtain ⟨_, hb⟩ := hM.objs (m := 0) rfl
 cases hb with
 | cells hb1 hg1 ht1 hc1 =>
  rename_i b1 thr cs'
  have hc1 := (hc1.vrs (fun t v hv hf => hv.fzmono hf) rfl).1
  obtain ⟨x1, l1, rfl, y1, y2⟩ := hc1.inv_cons
  obtain rfl := y2.inv_nil
  obtain rfl := y1.inv_s.1
  cases h1 with
  | clo hs1 ha1 hs2 ha2 =>
   rename_i a kk
   have ea : a = #[] := Array.eq_empty_of_size_eq_zero (by simpa using hs1.symm)
   subst ea
   obtain ⟨p', ec⟩ : ∃ p', kk = #[p'] := by
    obtain ⟨l⟩ := kk
    match l, hs2 with
    | [x], _ => exact ⟨x, rfl⟩
    | [], hs2 => simp at hs2
    | _ :: _ :: _, hs2 => simp at hs2
   subst ec
   have hp := ha2 0 (.ptr 0 0) p' rfl rfl
   cases hp with
   | ptr hb2 =>
    rw [hb1] at hb2; cases hb2
    have horc : E.orc g [.func (.func k) #[] #[.pointer (some ⟨b1, 0, none⟩)]] h = some (.slice none 0 0, h) := by
     rw [ho]
     show grd (memN k its) ((boxMap h b1).bind fun mb => (keysAt h mb).bind fun ks => some (ansKs h ks)) = _
     have hbx : boxMap h b1 = some none := by
      unfold boxMap; rw [hg1]; simp [grd, Nat.ble_eq_true_of_le ht1]
     rw [hk, hbx]
     rfl
    refine ⟨0, .slice none 0 0, h, ρ, F, .sl 0 [] true, _, 1, ?_, ⟨rfl, rfl, rfl⟩, hM, .nil rfl⟩
    unfold acall acallB
    rw [hf]
    simp only [Option.bind_some, horc]
end
end Go.M
namespace Go.M
open Go Go.RowKit
def OnInts (P : Program) (g : FuncId) (pre : List Value) (val : List Int → Value) (ok : List Int → Prop) : Prop :=
 ∀ (W : World) (l : List Int) (r o cap : Nat) (c : Array Value) (e : TypeId) (fr : Nat × Nat),
  W.heap[r]? = some (.cells c e fr) → l.length ≤ cap → o + cap ≤ c.size → (∀ (i : Nat) (x : Int), l[i]? = some x → c[o + i]? = some (.int .i64 x)) → ok l →
  Calls P g (List.toArray (pre ++ [Value.slice (some ⟨r, o, none⟩) l.length cap])) W fun en W' => en = .returned (val l) ∧ Below W.heap.size W W'
theorem vrels_plain {μ : Emb} : ∀ {l : List Value}, (∀ v ∈ l, plain1 v = true) → VRels μ l l
 | [], _ => .nil
 | v :: l, h => .cons (.lit (h v List.mem_cons_self)) (vrels_plain fun u hu => h u (List.mem_cons_of_mem _ hu))
theorem vrels_app {μ : Emb} : ∀ {a a' b b' : List Value}, VRels μ a a' → VRels μ b b' → VRels μ (a ++ b) (a' ++ b')
 | _, _, _, _, .nil, h => h
 | _, _, _, _, .cons h1 h2, h => .cons h1 (vrels_app h2 h)
theorem vrs_plain {c : Nat} {ρ : Gh} {F : Nat → Prop} {h : AHeap} {t : TV} {v : Value} (hl : VR c ρ F h t v) : ∀ {l : List Value}, (∀ v ∈ l, plain1 v = true) → VRs c ρ F h (l.map .s ++ [t]) (l ++ [v])
 | [], _ => .cons hl .nil
 | v :: l, hp => .cons (.s (hp v List.mem_cons_self)) (vrs_plain hl fun u hu => hp u (List.mem_cons_of_mem _ hu))
theorem onInts_of {P : Program} {E : Env} {g : FuncId} (hE : EnvOk P E) (hO : ∀ base B, OrcOk P E base B) (hm : P.follows .mixedOrders = true) (hg : ∀ g, E.glob g = false) {pre : List Value} (hpre : ∀ v ∈ pre, plain1 v = true) {val : List Int → Value} {ok : List Int → Prop}
 (hval : ∀ l, ok l → scalar (val l) = true) (hV : ∀ l, ok l → VC E g 0 (pre.map .s ++ [.sl 1 (l.map fun n => [.s (.int .i64 n)]) false]) [] fun r _ _ => r = .s (val l)) : OnInts P g pre val ok := by
 intro W l r o cap c e fr hr hcap hsz hc hok
 have hcl : ∀ (i : Nat) v, (l.map (Value.int .i64))[i]? = some v → c[o + i]? = some v := fun i v hi => by
  rw [List.getElem?_map, Option.map_eq_some_iff] at hi
  obtain ⟨x, hx, rfl⟩ := hi
  exact hc i x hx
 obtain ⟨A, _⟩ := (ar0 W).push (vs := l.map (Value.int .i64)) (cs := l.map (Value.int .i64)) (vrels_plain (by simp [plain1])) hr (by simp; omega) hcl
 generalize hμ : (fun b => if b = h00.size then some (⟨r, o, c.size⟩ : MT) else μ00 b) = μ at A
 generalize hh : h00.push (.cells (l.map (Value.int .i64)) h00.size (h00.size + 1) 0) = h at A
 have hget : h.get 0 = some (.cells (l.map (Value.int .i64)) 0 1 0) := by rw [← hh, AHeap.get_push]; rfl
 have hsz1 : h.size = 1 := by rw [← hh]; rfl
 have hμ0 : μ 0 = some ⟨r, o, c.size⟩ := by rw [← hμ]; rfl
 have hv1 : VR 0 noG (· < h.size) h (.sl 1 (l.map fun n => [.s (.int .i64 n)]) false) (.slice (some ⟨0, 0, some 1⟩) l.length cap) := by
  refine .sl (by omega) (A.rd hget) (by omega) (by simp) hcap (by simp) (by simp) (by simp) (by simp [fz, plainE]) fun i j e t v q1 q2 q3 => ?_
  rw [List.getElem?_map] at q1
  obtain ⟨n, hn, rfl⟩ := Option.map_eq_some_iff.1 q1
  have : j = 0 := by
   have := (List.getElem?_eq_some_iff.1 q2).1
   simpa using this
  subst this
  simp at q2; subst q2
  rw [Nat.mul_one, Nat.add_zero, Nat.zero_add, List.getElem?_map, hn] at q3
  simp at q3; subst q3
  exact .s rfl
 obtain ⟨n, v, h', ρ', F', r', o', c', h1, rfl, h3, h4⟩ := hV l hok h.size noG _ h _ _ A.mem (AR.mo (μ := μ)) (vrs_plain hv1 hpre)
 obtain ⟨rfl, _⟩ := h4.inv_s
 have x : VRels μ (pre ++ [.slice (some ⟨0, 0, some 1⟩) l.length cap]) (pre ++ [Value.slice (some ⟨r, o, none⟩) l.length cap]) := by
  refine vrels_app (vrels_plain hpre) (.cons ?_ .nil)
  have := VRel.slice (b := 0) (o := 0) (z := 1) (len := l.length) (cap := cap) (cap' := cap) hμ0 hcap hcap (fun h => h) (by show o + 0 + cap * 1 ≤ c.size; omega)
  simpa using this
 have := acall_ok hE (hO h.size W.heap.size) hm n μ h W g _ (List.toArray (pre ++ [Value.slice (some ⟨r, o, none⟩) l.length cap])) _ h' h1 (by simpa using x) (A.hrel hg) Fence.wide 0 Wide.wide
 refine (callsIn_wide.1 (this.mono ?_))
 rintro e W' ⟨v', μ', rfl, hv, S⟩
 have e := hv.inv_scalar (hval l hok)
 subst e
 exact ⟨rfl, S.grow.os, S.grow.tape, S.grow.output, S.grow.size, fun k hk => S.grow.keep k hk fun b m hb _ => A.dom b m hb⟩
theorem scalar_plain1 {v : Value} (h : scalar v = true) : plain1 v = true := by
 cases v <;> simp_all [scalar, plain1]
theorem vrels_snoc {μ : Emb} : ∀ {a b : List Value} {x : Value}, (∀ v ∈ a, scalar v = true) → VRels μ (a ++ [x]) b → ∃ x', b = a ++ [x'] ∧ VRel μ x x'
 | [], b, x, _, h => by
  cases h with
  | cons h1 h2 => cases h2; exact ⟨_, rfl, h1⟩
 | v :: a, b, x, hs, h => by
  cases h with
  | cons h1 h2 =>
   obtain ⟨x', rfl, h3⟩ := vrels_snoc (fun u hu => hs u (List.mem_cons_of_mem _ hu)) h2
   obtain rfl := h1.inv_scalar (hs v List.mem_cons_self)
   exact ⟨x', rfl, h3⟩
def bagK (val : List Value → List Int → Option Value) (args : List Value) (h : AHeap) : Option (Value × AHeap) := match args.reverse with
 | .slice (some ⟨b, 0, some 1⟩) len cap :: rp => (match h.get b with
  | some (.bag cs) => grd (Nat.beq len cs.length && Nat.ble len cap && Nat.blt 0 len && rp.all scalar) ((val rp.reverse cs).bind fun v => some (v, h))
  | _ => none)
 | _ => none
def BagOk (P : Program) (g : FuncId) (val : List Value → List Int → Option Value) : Prop :=
 ∀ pre cs v, (∀ u ∈ pre, scalar u = true) → val pre cs = some v → scalar v = true ∧ ∀ l : List Int, l.Perm cs → ∃ vf ok, OnInts P g pre vf ok ∧ ok l ∧ vf l = v
theorem bagK_ok {P : Program} {E : Env} {base B : Nat} {g : FuncId} {val : List Value → List Int → Option Value} (hB : BagOk P g val) {μ : Emb} {h h' : AHeap} {w : World} {args : List Value} {args' : Array Value} {v : Value}
 (hc : bagK val args h = some (v, h')) (hr : VRels μ args args'.toList) (H : HRel E base B μ h w) : Calls P g args' w (RetPost E base B μ h w v h') := by
 unfold bagK at hc
 split at hc
 ·rename_i b len cap rp hrev
  split at hc
  ·rename_i cs hg
   simp only [grd_some, Bool.and_eq_true, beq_iff, ble_iff, blt_iff, List.all_eq_true, Option.bind_eq_some_iff, Option.some.injEq, Prod.mk.injEq] at hc
   obtain ⟨⟨⟨⟨hlen, hcap⟩, hpos⟩, hsc⟩, v1, hv, rfl, rfl⟩ := hc
   have ea : args = rp.reverse ++ [.slice (some ⟨b, 0, some 1⟩) len cap] := by
    have := congrArg List.reverse hrev
    simpa using this
   subst ea
   obtain ⟨x', e1, hx⟩ := vrels_snoc (fun u hu => hsc u (List.mem_reverse.1 hu)) hr
   obtain ⟨hsv, hP⟩ := hB rp.reverse cs v1 (fun u hu => hsc u (List.mem_reverse.1 hu)) hv
   cases hx with
   | lit hh => simp [plain1] at hh
   | slice0 hb => omega
   | slice hb q1 q2 q3 q4 =>
    rename_i cap' m
    obtain ⟨p, p', k1, k2, k3⟩ := H.obj b m hb
    rw [hg] at k1; cases k1
    cases k3 with
    | bag hp hl hcc hcn =>
     rename_i c e fr l
     obtain ⟨vf, ok, hO, hok, rfl⟩ := hP l hp
     have hll : l.length = len := by rw [hp.length_eq, hlen]
     have := hO w l m.r m.s cap' c e fr k2 (by omega) (by rw [hcn]; omega) hcc hok
     have e2 : args' = List.toArray (rp.reverse ++ [Value.slice (some ⟨m.r, m.s, none⟩) l.length cap']) := by
      rw [← Array.toList_inj, e1, hll]; simp
     rw [e2]
     refine this.mono ?_
     rintro en w' ⟨rfl, hbl⟩
     have Hx := H.ext hbl.size fun r hr => hbl.block r hr
     have gr : Grow base μ w w' := ⟨hbl.tape, hbl.os, hbl.output, hbl.size, fun r hr _ => hbl.block r hr⟩
     exact ⟨_, μ, rfl, .lit (scalar_plain1 hsv), ⟨Hx, gr, μ.le_refl, fun b m h0 h1 => (by rw [h0] at h1; cases h1), fun _ _ _ => rfl, Nat.le_refl _⟩⟩
  ·cases hc
 ·cases hc
section
variable {E : Env}
theorem VC.bagged {g : FuncId} {val : List Value → List Int → Option Value} {pre : List Value} (hf : (E.func g).isSome = true) (ho : ∀ a h, E.orc g a h = bagK val a h) {ks : List Int} {v : Value} (hpre : ∀ u ∈ pre, scalar u = true) (hk : 0 < ks.length) (hv : val pre ks = some v) (hsv : scalar v = true) :
 VC E g 1 (pre.map .s ++ [.bg 0 ks.length]) [(0, .bag ks)] fun r o c => r = .s v ∧ c = 1 ∧ o = [(0, .bag ks)] := by
 intro base ρ F h S vargs hM hO hA
 obtain ⟨fn, hf⟩ := Option.isSome_iff_exists.1 hf
 obtain ⟨_, hm⟩ := hM.objs (m := 0) rfl
 cases hm with
 | bag hb hg =>
  rename_i b
  have hargs : vargs = pre ++ [.slice (some ⟨b, 0, some 1⟩) ks.length (ks.length + 1)] := by
   clear hv hM hO
   induction pre generalizing vargs with
   | nil =>
    obtain ⟨v1, m1, rfl, h1, h2⟩ := hA.inv_cons
    obtain rfl := h2.inv_nil
    cases h1 with
    | bg hb2 => rw [hb] at hb2; cases hb2; rfl
   | cons u pre ih =>
    obtain ⟨v1, m1, rfl, h1, h2⟩ := hA.inv_cons
    rw [ih (fun x hx => hpre x (List.mem_cons_of_mem _ hx)) _ h2]
    obtain ⟨rfl, _⟩ := h1.inv_s
    rfl
  subst hargs
  have horc : E.orc g (pre ++ [.slice (some ⟨b, 0, some 1⟩) ks.length (ks.length + 1)]) h = some (v, h) := by
   rw [ho]
   unfold bagK
   simp only [List.reverse_append, List.reverse_cons, List.reverse_nil, List.nil_append, List.singleton_append, hg]
   have h1 : pre.reverse.all scalar = true := List.all_eq_true.2 fun u hu => hpre u (List.mem_reverse.1 hu)
   have h2 : Nat.ble ks.length (ks.length + 1) = true := Nat.ble_eq_true_of_le (by omega)
   have h3 : Nat.blt 0 ks.length = true := blt_iff.2 hk
   simp [grd, h1, h2, h3, hv]
  refine ⟨0, v, h, ρ, F, .s v, _, 1, ?_, ⟨rfl, rfl, rfl⟩, hM, .s (scalar_plain1 hsv)⟩
  unfold acall acallB
  rw [hf]
  simp only [Option.bind_some, horc]
end
end Go.M
namespace Go.M
open Go Go.RowKit Go.Maps Go.Sort Go.Shelf Go.Proofs
def CollectsKeys (P : Program) (g k : FuncId) : Prop := ∀ (W : World) (Bm : Nat) (mb : Option Nat) (ks : List Int), W.cell? ⟨Bm, 0, none⟩ = some (.map mb) → ks.length ≤ 1099511627776 → (∀ x ∈ ks, IntKind.i64.min ≤ x ∧ x ≤ IntKind.i64.max) → ks.Nodup →
 (mb = none ∧ ks = [] ∨ ∃ (r : Nat) (es : Array MapEntry) (clock : Nat), mb = some r ∧ W.heap[r]? = some (.map es clock) ∧ StL es.toList clock ∧ es.toList.map (·.key) = ks.map (.int .i64)) →
 Calls P g #[.func (.func k) #[] #[.pointer (some ⟨Bm, 0, none⟩)]] W fun e w' => ∃ (v : Value) (t : TypeId) (l : List Int), e = .returned v ∧ l.Perm ks ∧ w'.ownsRow W.heap.size t 1 v ks.length (l.map (.int .i64)) ∧ (v = .slice none 0 0 ↔ ks = []) ∧ Below W.heap.size W w'
theorem collectsKeys_of {P : Program} {ρ σ : Ren} (L8 : SlLaysZI.n8 P ρ) (L10 : SlLaysZI.n10 P σ) (e10 : ∀ args w, (callFunc (σ.f 10) args).run P w = .ok (.enter (σ.f 10) args) w) : CollectsKeys P (ρ.f 8) (σ.f 10) := by
 intro W Bm mb ks hm hlen hrg hnd hmap
 have hBm : Bm < W.heap.size := by
  unfold World.cell? at hm
  split at hm
  ·rename_i hh; exact (Array.getElem?_eq_some_iff.1 hh).1
  ·cases hm
 have key : ∃ (S : List Int → Prop), (∀ ss, S ss → ss.Perm ks) ∧ SeqGives Fence.wide (9 - 1 - 1) P (σ.f 10) #[.pointer (some ⟨Bm, 0, none⟩)] encZ S ks.length W := by
  rcases hmap with ⟨rfl, rfl⟩ | ⟨r, es, clock, rfl, hr, hst, hk⟩
  ·exact ⟨_, fun ss h => by rw [h], AnyZI.keys_gives_nil L10 Fence.wide _ trivial rfl Bm W hBm hm⟩
  ·have hkeyed : Keyed P (σ.t 26) := int_keyed L10.t26
   have hreads : ∀ x ∈ es.toList, ∃ n, n ∈ ks ∧ x.key = .int .i64 n ∧ WideElems.rd (H := Unit) P (σ.t 26) (fun _ => some (.nil, [])) x = some ((.int .i64 n), .nil) := by
    intro x hx
    have : x.key ∈ es.toList.map (·.key) := List.mem_map.2 ⟨x, hx, rfl⟩
    rw [hk] at this
    obtain ⟨n, hn, e⟩ := List.mem_map.1 this
    refine ⟨n, hn, e.symm, ?_⟩
    obtain ⟨h1, h2⟩ := hrg n hn
    unfold WideElems.rd
    rw [← e, keyOf_int_mk L10.t26 (by simp only [Lit.wf, Bool.and_eq_true, decide_eq_true_eq]; exact ⟨h1, h2⟩)]
    rfl
   have hkl : (es.toList.map fun x => intOf (WideElems.rg (H := Unit) P (σ.t 26) (fun _ => some (.nil, [])) x).1) = ks := by
    have h1 : es.toList.map (fun x => intOf (WideElems.rg (H := Unit) P (σ.t 26) (fun _ => some (.nil, [])) x).1) = (es.toList.map (·.key)).map (fun v => match v with | .int _ n => n | _ => 0) := by
     rw [List.map_map]
     refine List.map_congr_left fun x hx => ?_
     obtain ⟨n, _, e, h⟩ := hreads x hx
     rw [WideElems.rg_of h, Function.comp_apply, e]
     rfl
    rw [h1, hk, List.map_map]
    exact (List.map_congr_left fun x _ => rfl).trans (List.map_id ks)
   have hsz : es.size = ks.length := by
    have := congrArg List.length hk
    simpa using this
   have hown : W.ownsMap (H := Unit) P (σ.t 26) (fun _ => some (.nil, [])) r ks.length (.map ((es.toList.map (WideElems.rg P (σ.t 26) (fun _ => some (.nil, [])))).foldr DataW.insert [])) := by
    refine ⟨es, clock, hr, ⟨by rw [hsz]; unfold Go.maxLen; omega, ⟨hst.1, hst.2, ?_⟩, fun x hx => ?_⟩, Nat.le_of_eq hsz, rfl⟩
    ·rw [hk]
     exact List.pairwise_map.2 (hnd.imp fun h e => h (by simpa using e))
    ·obtain ⟨n, _, _, h⟩ := hreads x hx
     exact ⟨_, h⟩
   have hp : (intKeys (H := Unit) (.map ((es.toList.map (WideElems.rg P (σ.t 26) (fun _ => some (.nil, [])))).foldr DataW.insert []))).Perm ks := by
    have := (WideShapes.sorted_perm (es.toList.map (WideElems.rg (H := Unit) P (σ.t 26) (fun _ => some (.nil, []))))).map (fun p => intOf p.1)
    rw [List.map_map] at this
    have h2 : (es.toList.map ((fun p => intOf p.1) ∘ WideElems.rg (H := Unit) P (σ.t 26) (fun _ => some (.nil, [])))) = ks := hkl
    rw [h2] at this
    exact this
   have hs := AnyZI.keys_gives L10 Fence.wide (9 - 1 - 1) trivial rfl (by omega) Bm r ks.length _ W hBm hm hown
   have e : Maps.size (H := Unit) (.map ((es.toList.map (WideElems.rg P (σ.t 26) (fun _ => some (.nil, [])))).foldr DataW.insert [])) = ks.length := by
    have := (WideShapes.sorted_perm (es.toList.map (WideElems.rg (H := Unit) P (σ.t 26) (fun _ => some (.nil, []))))).length_eq
    rw [size_eq, this, List.length_map]
    simpa using hsz
   rw [e] at hs
   exact ⟨_, fun ss h => h.trans hp, hs⟩
 obtain ⟨S, hS, hseq⟩ := key
 have := AnyZI.collect_in L8 Fence.wide 9 trivial trivial rfl (by omega) (σ.f 10) #[.pointer (some ⟨Bm, 0, none⟩)] trivial e10 S ks.length (by unfold Go.maxLen; omega) (by omega) W hseq
 refine callsIn_wide.1 (this.mono ?_)
 rintro e w' ⟨v, ss, rfl, hs, hrow, hnil, hb⟩
 have hp := hS ss hs
 rw [hp.length_eq] at hrow
 refine ⟨v, _, ss, rfl, hp, hrow, hnil.trans ⟨fun h => ?_, fun h => ?_⟩, hb⟩
 ·subst h; exact List.Perm.nil_eq hp |>.symm ▸ rfl
 ·subst h; exact List.Perm.eq_nil hp
def ansC (h : AHeap) (ks : List Int) : Value × AHeap := match ks with
 | [] => (.slice none 0 0, h)
 | _ :: _ => (.slice (some ⟨h.size, 0, some 1⟩) ks.length (ks.length + 1), h.push (.bag ks))
def collectK (its : List Nat) (args : List Value) (h : AHeap) : Option (Value × AHeap) := match args with
 | [.func (.func k) a c] => (match a.toList, c.toList with
  | [], [.pointer (some ⟨b, 0, none⟩)] => grd (memN k its) ((boxMap h b).bind fun mb => (keysAt h mb).bind fun ks => some (ansC h ks))
  | _, _ => none)
 | _ => none
theorem collectK_ok {P : Program} {E : Env} {base B : Nat} {its : List Nat} {g : FuncId} (hS : ∀ k ∈ its, CollectsKeys P g k) {μ : Emb} {h h' : AHeap} {w : World} {args : List Value} {args' : Array Value} {v : Value}
 (hc : collectK its args h = some (v, h')) (hr : VRels μ args args'.toList) (H : HRel E base B μ h w) : Calls P g args' w (RetPost E base B μ h w v h') := by
 unfold collectK at hc
 split at hc
 ·rename_i k a c
  split at hc
  ·rename_i b ha hcc
   simp only [grd_some, Option.bind_eq_some_iff, Option.some.injEq] at hc
   obtain ⟨hk, mb, hbox, ks, hkeys, hans⟩ := hc
   obtain ⟨thr, hg, hthr⟩ := boxMap_some hbox
   -- the arguments in the world
   obtain ⟨v1, hv1, e1⟩ : ∃ v1, VRel μ (.func (.func k) a c) v1 ∧ args' = #[v1] := by
    obtain ⟨l⟩ := args'
    cases hr with
    | cons h1 h2 => cases h2; exact ⟨_, h1, rfl⟩
   subst e1
   cases hv1 with
   | lit hh => simp [plain1] at hh
   | func hs1 ha1 hs2 ha2 =>
    rename_i a' c'
    have ea : a' = #[] := by
     have h0 : a'.size = 0 := by rw [← hs1]; have := congrArg List.length ha; simpa using this
     exact Array.eq_empty_of_size_eq_zero h0
    subst ea
    have hc1 : c.size = 1 := by have := congrArg List.length hcc; simpa using this
    obtain ⟨p', ec⟩ : ∃ p', c' = #[p'] := by
     obtain ⟨l⟩ := c'
     rw [hc1] at hs2
     match l, hs2 with
     | [x], _ => exact ⟨x, rfl⟩
     | [], hs2 => simp at hs2
     | _ :: _ :: _, hs2 => simp at hs2
    subst ec
    have hp := ha2 0 (.pointer (some ⟨b, 0, none⟩)) p' (by rw [← Array.getElem?_toList, hcc]; rfl) rfl
    obtain ⟨m, hm, rfl⟩ := hp.inv_ptr
    have hs0 := H.root b m _ _ hm hg
    have hrd : h.rd b = some [.map mb] := rd_of (fam_of hg hg) hthr (by unfold AHeap.cellsOf; rw [hg])
    obtain ⟨cc, e, fr, q1, q2, q3, q4, q5⟩ := H.read hm hrd
    obtain ⟨vm, q6, q7⟩ := q5 0 (.map mb) rfl
    rw [hs0] at q6 ⊢
    obtain ⟨mb', rfl, hmap⟩ : ∃ mb', vm = .map mb' ∧ (mb' = none ∧ ks = [] ∨ ∃ (r : Nat) (es : Array MapEntry) (clock : Nat), mb' = some r ∧ w.heap[r]? = some (.map es clock) ∧ StL es.toList clock ∧ es.toList.map (·.key) = ks.map (.int .i64)) := by
     cases mb with
     | none =>
      cases q7 with
      | lit _ => exact ⟨none, rfl, .inl ⟨rfl, by simpa [keysAt] using hkeys.symm⟩⟩
     | some r =>
      obtain ⟨mr, w1, rfl⟩ := q7.inv_map
      refine ⟨_, rfl, .inr ?_⟩
      obtain ⟨ev, clock, hgr, hks, hst, hok⟩ := keysAt_some hkeys
      obtain ⟨o, o', k1, k2, k3⟩ := H.obj r mr w1
      rw [hgr] at k1; cases k1
      cases k3 with
      | map hs =>
       rename_i es'
       refine ⟨_, es', clock, rfl, k2, ?_, hs.ints hks⟩
       rw [StL.iff, hs.born, ← StL.iff]; exact hst
    have hok : ksOk ks := by
     cases mb with
     | none => simp [keysAt] at hkeys; subst hkeys; exact ⟨by simp, by simp, by simp⟩
     | some r =>
      obtain ⟨ev, clock, hgr, hks, hst, hok⟩ := keysAt_some hkeys
      exact hok
    have hcell : w.cell? ⟨m.r, 0, none⟩ = some (.map mb') := by
     unfold World.cell?
     simp only [q1, Option.isSome_none, Bool.false_eq_true, if_false]
     simpa using q6
    have := hS k (memN_mem hk) w m.r mb' ks hcell hok.1 hok.2.1 hok.2.2 hmap
    simp only [Nat.add_zero]
    refine this.mono ?_
    rintro en w' ⟨v', t, l, rfl, hpl, hrow, hnil, hb⟩
    have Hx := H.ext hb.size fun r hr => hb.block r hr
    have gr : Grow base μ w w' := ⟨hb.tape, hb.os, hb.output, hb.size, fun r hr _ => hb.block r hr⟩
    cases ks with
    | nil =>
     simp only [ansC, Prod.mk.injEq] at hans
     obtain ⟨rfl, rfl⟩ := hans
     have := hnil.2 rfl
     subst this
     exact ⟨_, μ, rfl, .lit rfl, ⟨Hx, gr, μ.le_refl, fun b m h0 h1 => (by rw [h0] at h1; cases h1), fun _ _ _ => rfl, Nat.le_refl _⟩⟩
    | cons x0 l0 =>
     generalize hks0 : x0 :: l0 = ks at *
     have hlen : 0 < ks.length := by rw [← hks0]; simp
     have hans' : ansC h ks = (.slice (some ⟨h.size, 0, some 1⟩) ks.length (ks.length + 1), h.push (.bag ks)) := by rw [← hks0]; rfl
     rw [hans'] at hans
     simp only [Prod.mk.injEq] at hans
     obtain ⟨rfl, rfl⟩ := hans
     obtain ⟨r1, ⟨_, r2⟩ | ⟨gb, cap, cur, rfl, r3, r4, r5, r6, r7, r8⟩⟩ := hrow
     ·omega
     ·let m2 : MT := ⟨gb, 0, cur.size⟩
      have hll : l.length = ks.length := hpl.length_eq
      have Hp := Hx.pushA (o := .bag ks) (fun _ _ _ _ hh => by cases hh)
      have hget : (h.push (.bag ks)).get h.size = some (.bag ks) := by rw [AHeap.get_push, if_pos rfl]
      have ho : ORel (upd μ h.size m2) (h.push (.bag ks)) base h.size m2 (.bag ks) (.cells cur t (0, 0)) := by
       refine .bag (l := l) hpl (by show 0 + l.length ≤ cur.size; omega) (fun i x hx => ?_) rfl
       have hi := (List.getElem?_eq_some_iff.1 hx).1
       have : cur.toList[i]? = some (.int .i64 x) := by
        have h5 : (cur.toList.take (ks.length * 1))[i]? = some (.int .i64 x) := by rw [r8]; simp [hx]
        rw [List.getElem?_take] at h5
        rwa [if_pos (by omega)] at h5
       show cur[0 + i]? = some _
       rw [Nat.zero_add]; simpa using this
      have Ht := Hp.track (b := h.size) (m := m2) (by simp [AHeap.size_push]) hget H.fresh H.bsz (by have := H.low; show B ≤ gb; omega) r4
       (fun d md hd he => by have := H.lt hd; simp only [m2] at he; omega) (fun _ _ _ _ hh => by cases hh) (fun _ _ _ => rfl) ho
      refine ⟨_, upd μ h.size m2, rfl, ?_, Ht, gr, upd_le H.fresh, fun d md h0 hd => ?_, fun d hd _ => by rw [AHeap.get_push, if_neg (by omega)], by simp [AHeap.size_push]⟩
      ·have := VRel.slice (μ := upd μ h.size m2) (b := h.size) (o := 0) (z := 1) (len := ks.length) (cap := ks.length + 1) (cap' := cap) (m := m2) (upd_self _ _ _) (by omega) r5 (fun h => by omega) (by show 0 + 0 + cap * 1 ≤ cur.size; omega)
       simpa [m2] using this
      ·by_cases ed : d = h.size
       ·subst ed
        rw [upd_self] at hd; cases hd
        exact ⟨Nat.le_refl _, H.bsz, .inl r3⟩
       ·rw [upd_ne _ _ ed, h0] at hd; cases hd
  ·cases hc
 ·cases hc
end Go.M
namespace Go.M
open Go Go.RowKit
section
variable {X : Cx} {ρ : Gh} {F : Nat → Prop} {o : Ob} {c : Nat} {h : AHeap}
theorem Mem.newBag (H : Mem X ρ F o c h) (ks : List Int) :
 let h' := h.push (.bag ks)
 Mem X (updG ρ c (some (.blk h.size))) F ((c, .bag ks) :: o) (c + 1) h' ∧ ∀ t v, VR c ρ F h t v → VR (c + 1) (updG ρ c (some (.blk h.size))) F h' t v := by
 intro h'
 refine H.pushG (S0 := [(h.size, true)]) (fun cs f tip thr e => by cases e) (H.upd_A _) (H.upd_B _) (H.upd_N _) (fun n hn => updG_ne _ _ (by omega)) (fun hm => ?_) rfl
 exact .bag (updG_self _ _ _) (by rw [AHeap.get_push, if_pos rfl])
end
section
variable {E : Env}
theorem VC.collect {g : FuncId} {its : List Nat} {k : FuncId} (hf : (E.func g).isSome = true) (ho : ∀ a h, E.orc g a h = collectK its a h) (hk : memN k its = true) {y : TO} {ks : List Int} (hy : KeysO ks y) (hok : ksOk ks) (hne : ks ≠ []) :
 VC E g 2 [.clo k [] [.ptr 1 0]] [(0, y), (1, .cells [.mp 0])] fun r o c => r = .bg 2 ks.length ∧ c = 3 ∧
  o = [(2, .bag ks), (0, y), (1, .cells [.mp 0])] := by
 intro base ρ F h S vargs hM hO hA
 obtain ⟨fn, hf⟩ := Option.isSome_iff_exists.1 hf
 obtain ⟨v1, m1, rfl, h1, h2⟩ := hA.inv_cons
 obtain rfl := h2.inv_nil
 obtain ⟨_, hm⟩ := hM.objs (m := 0) rfl
 obtain ⟨_, hb⟩ := hM.objs (m := 1) rfl
 obtain ⟨b0, ev, clock, hb0, hg0, hst, hkeys⟩ := hm.keys hy
 cases hb with
 | cells hb1 hg1 ht1 hc1 =>
  rename_i b1 thr cs'
  have hc1 := (hc1.vrs (fun t v hv hf => hv.fzmono hf) rfl).1
  obtain ⟨x1, l1, rfl, y1, y2⟩ := hc1.inv_cons
  obtain rfl := y2.inv_nil
  cases y1 with
  | mp hbm =>
   rw [hb0] at hbm; cases hbm
   cases h1 with
   | clo hs1 ha1 hs2 ha2 =>
    rename_i a kk
    have ea : a = #[] := Array.eq_empty_of_size_eq_zero (by simpa using hs1.symm)
    subst ea
    obtain ⟨p', ec⟩ : ∃ p', kk = #[p'] := by
     obtain ⟨l⟩ := kk
     match l, hs2 with
     | [x], _ => exact ⟨x, rfl⟩
     | [], hs2 => simp at hs2
     | _ :: _ :: _, hs2 => simp at hs2
    subst ec
    have hp := ha2 0 (.ptr 1 0) p' rfl rfl
    cases hp with
    | ptr hb2 =>
     rw [hb1] at hb2; cases hb2
     have horc : E.orc g [.func (.func k) #[] #[.pointer (some ⟨b1, 0, none⟩)]] h = some (ansC h ks) := by
      rw [ho]
      show grd (memN k its) ((boxMap h b1).bind fun mb => (keysAt h mb).bind fun ks => some (ansC h ks)) = _
      have hbx : boxMap h b1 = some (some b0) := by
       unfold boxMap; rw [hg1]; simp [grd, Nat.ble_eq_true_of_le ht1]
      rw [hk, hbx]
      simp only [grd, Option.bind_some, keysAt, hg0, intKs_of hkeys, hst, hok, decide_true, Bool.and_self]
     have hans : ansC h ks = (.slice (some ⟨h.size, 0, some 1⟩) ks.length (ks.length + 1), h.push (.bag ks)) := by
      cases ks with
      | nil => exact absurd rfl hne
      | cons _ _ => rfl
     rw [hans] at horc
     obtain ⟨M, hk2⟩ := hM.newBag ks
     refine ⟨0, _, _, _, F, .bg 2 ks.length, _, 3, ?_, ⟨rfl, rfl, rfl⟩, M, .bg (updG_self _ _ _)⟩
     unfold acall acallB
     rw [hf]
     simp only [Option.bind_some, horc]
end
theorem bagK_sl {c : Nat} {ρ : Gh} {F : Nat → Prop} {h : AHeap} {val : List Value → List Int → Option Value} {z : Nat} {es : List (List TV)} {fl : Bool} : ∀ {pre : List TV} {vargs : List Value}, VRs c ρ F h (pre ++ [.sl z es fl]) vargs → bagK val vargs h = none := by
 intro pre vargs H
 obtain ⟨pv, x, rfl, hx⟩ : ∃ pv x, vargs = pv ++ [x] ∧ VR c ρ F h (.sl z es fl) x := by
  induction pre generalizing vargs with
  | nil =>
   obtain ⟨v, m, rfl, h1, h2⟩ := H.inv_cons
   obtain rfl := h2.inv_nil
   exact ⟨[], v, rfl, h1⟩
  | cons t pre ih =>
   obtain ⟨v, m, rfl, h1, h2⟩ := H.inv_cons
   obtain ⟨pv, x, rfl, hx⟩ := ih h2
   exact ⟨v :: pv, x, rfl, hx⟩
 unfold bagK
 rw [List.reverse_append]
 cases hx with
 | nil => rfl
 | sl hF hr hz hl hcap hfl hle he hfz hc =>
  rename_i b o len cap cs
  show (match (.slice (some ⟨b, o, some z⟩) len cap :: pv.reverse : List Value) with
   | .slice (some ⟨b, 0, some 1⟩) len cap :: rp => (match h.get b with
    | some (.bag cs) => grd (Nat.beq len cs.length && Nat.ble len cap && Nat.blt 0 len && rp.all scalar) ((val rp.reverse cs).bind fun v => some (v, h))
    | _ => none)
   | _ => none) = none
  split
  ·rename_i heq
   cases heq
   split
   ·rename_i hg
    unfold AHeap.rd AHeap.fam at hr
    simp [hg] at hr
   ·rfl
  ·rfl
abbrev BagF := List Value → List Int → Option Value
def orcW (l : List Nat) (gs cs : List (Nat × List Nat)) (bs : List (Nat × BagF)) : FuncId → List Value → AHeap → Option (Value × AHeap) := fun g args h => match look cs g with
 | some its => collectK its args h
 | none => match look bs g with
  | some val => bagK val args h
  | none => orcV l gs g args h
theorem orcW_ok {P : Program} {l : List Nat} {gs cs : List (Nat × List Nat)} {bs : List (Nat × BagF)} (hl : ∀ g ∈ l, Awake P g) (hs : ∀ g its, look gs g = some its → ∀ k ∈ its, SortsKeys P g k) (hc : ∀ g its, look cs g = some its → ∀ k ∈ its, CollectsKeys P g k)
 (hb : ∀ g val, look bs g = some val → BagOk P g val) (base B : Nat) : OrcOk P (envOf P (orcW l gs cs bs)) base B := by
 intro μ h w g args args' v h' hcc hr H F n hF
 have hc' : orcW l gs cs bs g args h = some (v, h') := hcc
 unfold orcW at hc'
 split at hc'
 ·rename_i its hi
  exact calls_any hF (collectK_ok (hc g its hi) hc' hr H)
 ·split at hc'
  ·rename_i val hv
   exact calls_any hF (bagK_ok (hb g val hv) hc' hr H)
  ·have H2 : HRel (envOf P (orcV l gs)) base B μ h w := ⟨H.dom, H.high, H.obj, H.own, H.alias, H.fam, H.glob, H.low, H.bsz, H.wf, H.root⟩
   exact (orcV_ok hl hs base B μ h w g args args' v h' hc' hr H2 F n hF).mono fun e w' ⟨v', μ', h1, h2, h3⟩ =>
    ⟨v', μ', h1, h2, ⟨h3.rel.dom, h3.rel.high, h3.rel.obj, h3.rel.own, h3.rel.alias, h3.rel.fam, h3.rel.glob, h3.rel.low, h3.rel.bsz, h3.rel.wf, h3.rel.root⟩, h3.grow, h3.le, h3.new, h3.unt, h3.hsz⟩
theorem VC.awakeW {P : Program} {l : List Nat} {gs cs : List (Nat × List Nat)} {bs : List (Nat × BagF)} {g : FuncId} {c0 : Nat} {o0 : Ob} (hf : ((envOf P (orcW l gs cs bs)).func g).isSome = true) (hg : memN g l = true) (h1 : look cs g = none) (h2 : look bs g = none) :
 VC (envOf P (orcW l gs cs bs)) g c0 [] o0 (fun r o c => r = .s (.bool true) ∧ o = o0 ∧ c = c0) :=
 VC.orc hf (fun a h ha => by
  have : a = [] := by simpa using ha
  subst this
  show orcW l gs cs bs g [] h = _
  unfold orcW orcV; rw [h1, h2, hg]) rfl
end Go.M
namespace Go.M
open Go
theorem bsplit {b : Bool} {A B : Prop} (hA : b = true → A) (hB : b = false → B) : (match (generalizing := false) b with | true => A | false => B) := by
 cases b with
 | true => exact hA rfl
 | false => exact hB rfl
theorem nsplit {b : Bool} {A B : Prop} (hA : b = false → A) (hB : b = true → B) : (match (generalizing := false) !b with | true => A | false => B) := by
 cases b with
 | true => exact hB rfl
 | false => exact hA rfl
@[reducible] def RR (r0 : TV) (c0 : Nat) (o0 : Ob) : TV → Ob → Nat → Prop := fun r o c => r = r0 ∧ c = c0 ∧ o = o0
theorem bool_eq {a b : Bool} (h : a = b) : Value.bool a = Value.bool b := congrArg _ h
theorem idxI {α : Type} {enc : α → List TV} {l : List α} {n : Nat} {K : List TV → Prop} (h : n < l.length) (hK : K (enc l[n])) : ∃ e, (0 ≤ (n : Int) ∧ (l.map enc)[(n : Int).toNat]? = some e) ∧ K e :=
 ⟨enc l[n], ⟨by omega, by simp [h]⟩, hK⟩
theorem wrap_small (n : Nat) (h : n ≤ 1099511627776) : IntKind.i64.wrap ((n : Int) + 1) = ((n + 1 : Nat) : Int) := by
 rw [IntWalk.i64_in _ (by omega)]; rfl
theorem lenlt {α : Type} {f : α → List TV} {l : List α} {i : Nat} : ((i : Int) < (((l.map f).length : Nat) : Int)) ↔ i < l.length := by simp
theorem flx : ∀ b : Bool, (!b || b) = true
 | true => rfl
 | false => rfl
theorem Lz.int {k : IntKind} {a b : Int} (h : a = b) : Lz (Value.int k a) (Value.int k b) := .of (congrArg _ h)
theorem Lz.wrap {n : Nat} (h : n ≤ 1099511627776) : Lz (Value.int .i64 (IntKind.i64.wrap ((n : Int) + 1))) (Value.int .i64 ((n + 1 : Nat) : Int)) := .of (congrArg _ (wrap_small n h))
def smalls : List Nat := [0, 1, 2, 3, 4, 5, 6, 7, 8, 9, 10, 11, 12, 13, 14, 15, 16, 17, 18, 19, 20, 21, 22, 23, 24, 25, 26, 27, 28, 29, 30, 31, 32, 33, 34, 35, 36, 37, 38, 39, 40]
def forceNL (n : Nat) (K : Nat → Prop) (l : List Nat) : Prop := @List.rec Nat (fun _ => Prop) (K n) (fun k _ ih => match Nat.beq n k with | true => K k | false => ih) l
theorem forceNL_eq (n : Nat) (K : Nat → Prop) : ∀ l, forceNL n K l = K n
 | [] => rfl
 | k :: l => by
  show (match Nat.beq n k with | true => K k | false => forceNL n K l) = K n
  cases h : Nat.beq n k with
  | true => rw [beq_iff.1 h]
  | false => exact forceNL_eq n K l
def forceN (n : Nat) (K : Nat → Prop) : Prop := forceNL n K smalls
theorem forceN_eq (n : Nat) : forceN n = fun K => K n := by funext K; exact forceNL_eq n K _
def forceC (v : TV) (K : TV → Prop) : Prop := match v with
 | .j => K .j
 | .s v => K (.s v)
 | .sl z es fl => forceN z fun z => K (.sl z es fl)
 | .tk n => forceN n fun n => K (.tk n)
 | .ptr n o => forceN n fun n => forceN o fun o => K (.ptr n o)
 | .ep e o => forceN o fun o => K (.ep e o)
 | .wp n i o => forceN n fun n => forceN o fun o => K (.wp n i o)
 | .mp n => forceN n fun n => K (.mp n)
 | .bg n len => forceN n fun n => K (.bg n len)
 | .sv n i => forceN n fun n => K (.sv n i)
 | .agg cs => K (.agg cs)
 | .tup cs => K (.tup cs)
 | .ifc t v => K (.ifc t v)
 | .clo g a c => K (.clo g a c)
 | .own y => K (.own y)
theorem forceC_eq (v : TV) : forceC v = fun K => K v := by funext K; cases v <;> simp [forceC, forceN_eq]
def forceL (F : TV → (TV → Prop) → Prop) (l : List TV) : (List TV → Prop) → Prop := @List.rec TV (fun _ => (List TV → Prop) → Prop) (fun K => K []) (fun v _ ih K => F v fun v => ih fun l => K (v :: l)) l
theorem forceL_eq {F : TV → (TV → Prop) → Prop} (hF : ∀ v, F v = fun K => K v) : ∀ l, forceL F l = fun K => K l
 | [] => rfl
 | v :: l => by
  have ih := forceL_eq hF l
  funext K
  show F v (fun v => forceL F l fun l => K (v :: l)) = K (v :: l)
  rw [hF, ih]
def forceA (v : TV) (K : TV → Prop) : Prop := match v with
 | .j => K .j
 | .s v => K (.s v)
 | .sl z es fl => forceN z fun z => K (.sl z es fl)
 | .tk n => forceN n fun n => K (.tk n)
 | .ptr n o => forceN n fun n => forceN o fun o => K (.ptr n o)
 | .ep e o => forceN o fun o => K (.ep e o)
 | .wp n i o => forceN n fun n => forceN o fun o => K (.wp n i o)
 | .mp n => forceN n fun n => K (.mp n)
 | .bg n len => forceN n fun n => K (.bg n len)
 | .sv n i => forceN n fun n => K (.sv n i)
 | .agg cs => forceL forceC cs fun cs => K (.agg cs)
 | .tup cs => K (.tup cs)
 | .ifc t v => K (.ifc t v)
 | .clo g a c => forceL forceC a fun a => forceL forceC c fun c => K (.clo g a c)
 | .own y => K (.own y)
theorem forceA_eq (v : TV) : forceA v = fun K => K v := by funext K; cases v <;> simp [forceA, forceN_eq, forceL_eq forceC_eq]
def forceV (v : TV) (K : TV → Prop) : Prop := match v with
 | .j => K .j
 | .s v => K (.s v)
 | .sl z es fl => forceN z fun z => K (.sl z es fl)
 | .tk n => forceN n fun n => K (.tk n)
 | .ptr n o => forceN n fun n => forceN o fun o => K (.ptr n o)
 | .ep e o => forceN o fun o => K (.ep e o)
 | .wp n i o => forceN n fun n => forceN o fun o => K (.wp n i o)
 | .mp n => forceN n fun n => K (.mp n)
 | .bg n len => forceN n fun n => K (.bg n len)
 | .sv n i => forceN n fun n => K (.sv n i)
 | .agg cs => forceL forceC cs fun cs => K (.agg cs)
 | .tup cs => forceL forceA cs fun cs => K (.tup cs)
 | .ifc t v => forceA v fun v => K (.ifc t v)
 | .clo g a c => forceL forceC a fun a => forceL forceC c fun c => K (.clo g a c)
 | .own y => K (.own y)
theorem forceV_eq (v : TV) : forceV v = fun K => K v := by funext K; cases v <;> simp [forceV, forceN_eq, forceL_eq forceC_eq, forceL_eq forceA_eq, forceA_eq]
def forceQ (q : List (Nat × List TV)) : (List (Nat × List TV) → Prop) → Prop := @List.rec (Nat × List TV) (fun _ => (List (Nat × List TV) → Prop) → Prop) (fun K => K []) (fun p _ ih K => forceL forceC p.2 fun x => ih fun l => K ((p.1, x) :: l)) q
theorem forceQ_eq : ∀ q, forceQ q = fun K => K q
 | [] => rfl
 | p :: q => by
  have ih := forceQ_eq q
  funext K
  show forceL forceC p.2 (fun x => forceQ q fun l => K ((p.1, x) :: l)) = K (p :: q)
  rw [forceL_eq forceC_eq, ih]
def forceM (q : List (Value × TV)) : (List (Value × TV) → Prop) → Prop := @List.rec (Value × TV) (fun _ => (List (Value × TV) → Prop) → Prop) (fun K => K []) (fun p _ ih K => forceA p.2 fun x => ih fun l => K ((p.1, x) :: l)) q
theorem forceM_eq : ∀ q, forceM q = fun K => K q
 | [] => rfl
 | p :: q => by
  have ih := forceM_eq q
  funext K
  show forceA p.2 (fun x => forceM q fun l => K ((p.1, x) :: l)) = K (p :: q)
  rw [forceA_eq, ih]
def forceT (x : TO) (K : TO → Prop) : Prop := match x with
 | .cells cs => forceL forceC cs fun cs => K (.cells cs)
 | .map kd es => forceN kd fun kd => K (.map kd es)
 | .arr z w es => forceN z fun z => match w with | true => K (.arr z true es) | false => K (.arr z false es)
 | .arq z es op => forceN z fun z => forceQ op fun op => K (.arq z es op)
 | .maq kd es op => forceN kd fun kd => forceM op fun op => K (.maq kd es op)
 | .bag ks => K (.bag ks)
theorem forceT_eq (x : TO) : forceT x = fun K => K x := by
 funext K
 cases x with
 | cells cs => simp [forceT, forceL_eq forceC_eq]
 | map kd es => simp [forceT, forceN_eq]
 | arr z w es => cases w <;> simp [forceT, forceN_eq]
 | arq z es op => simp [forceT, forceN_eq, forceQ_eq]
 | maq kd es op => simp [forceT, forceN_eq, forceM_eq]
 | bag ks => rfl
def forceO (o : Ob) : (Ob → Prop) → Prop := @List.rec (Nat × TO) (fun _ => (Ob → Prop) → Prop) (fun K => K []) (fun p _ ih K => forceN p.1 fun n => forceT p.2 fun x => ih fun l => K ((n, x) :: l)) o
theorem forceO_eq : ∀ o, forceO o = fun K => K o
 | [] => rfl
 | p :: o => by
  have ih := forceO_eq o
  funext K
  show forceN p.1 (fun n => forceT p.2 fun x => forceO o fun l => K ((n, x) :: l)) = K (p :: o)
  rw [forceN_eq, forceT_eq, ih]
def strict (l : VL) (v : TV) (o : Ob) (c : Nat) (K : TV → Ob → Nat → Prop) : Prop := match l with
 | .pure => forceV v fun v => K v o c
 | .alloc => forceV v fun v => forceO o fun o => forceN c fun c => K v o c
 | .rdF => forceV v fun v => K v o c
 | .rdO _ => forceV v fun v => forceO o fun o => forceN c fun c => K v o c
 | .rdN _ _ _ => forceV v fun v => forceO o fun o => forceN c fun c => K v o c
 | .eff _ => forceV v fun v => forceO o fun o => forceN c fun c => K v o c
 | .bad => forceV v fun v => K v o c
theorem strict_eq (l : VL) (v : TV) (o : Ob) (c : Nat) : strict l v o c = fun K => K v o c := by
 funext K; cases l <;> simp [strict, forceV_eq, forceO_eq, forceN_eq]
def wopsR (E : Env) (vc : VCs) (n : Nat) (ops : List Oper) (l : List Oper) : Fr → Ob → Nat → RK → Prop :=
 @List.rec Oper (fun _ => Fr → Ob → Nat → RK → Prop) (fun f o c K => K f o c)
  (fun p _ ih f o c K => wguard ops p f
   (wop E vc p.op f o c fun v o' c' l => strict l v o' c' fun v o' c' => wput p.dst n v f fun f' => ih f' o' c' K)
   (wput p.dst n (.tup []) f fun f' => ih f' o c K)) l
theorem wopsR_eq (E : Env) (vc : VCs) (n : Nat) (ops : List Oper) : ∀ (l : List Oper) f o c K, wopsR E vc n ops l f o c K = wops E vc n ops l f o c K := by
 intro l
 induction l with
 | nil => intro f o c K; rfl
 | cons p rest ih =>
  intro f o c K
  have e : (fun f' o' c' (K : RK) => wopsR E vc n ops rest f' o' c' K) = fun f' o' c' K => wops E vc n ops rest f' o' c' K := by funext a b d e; exact ih a b d e
  show wguard ops p f (wop E vc p.op f o c fun v o' c' l => strict l v o' c' fun v o' c' => wput p.dst n v f fun f' => (fun f' o' c' (K : RK) => wopsR E vc n ops rest f' o' c' K) f' o' c' K) (wput p.dst n (.tup []) f fun f' => (fun f' o' c' (K : RK) => wopsR E vc n ops rest f' o' c' K) f' o c K) = _
  rw [e]
  simp only [strict_eq]
  rfl
def wopsLR (E : Env) (vc : VCs) (n : Nat) (ops : List Oper) (l : List Oper) : Fr → Ob → Nat → List VN → (List VN → RK) → Prop :=
 @List.rec Oper (fun _ => Fr → Ob → Nat → List VN → (List VN → RK) → Prop) (fun f o c lg K => K lg f o c)
  (fun p _ ih f o c lg K => wguard ops p f
   (wop E vc p.op f o c fun v o' c' l => strict l v o' c' fun v o' c' => wput p.dst n v f fun f' => ih f' o' c' (lg ++ [(l, o)]) K)
   (wput p.dst n (.tup []) f fun f' => ih f' o c (lg ++ [(.pure, o)]) K)) l
theorem wopsLR_eq (E : Env) (vc : VCs) (n : Nat) (ops : List Oper) : ∀ (l : List Oper) f o c lg K, wopsLR E vc n ops l f o c lg K = wopsL E vc n ops l f o c lg K := by
 intro l
 induction l with
 | nil => intro f o c lg K; rfl
 | cons p rest ih =>
  intro f o c lg K
  have e : (fun f' o' c' lg (K : List VN → RK) => wopsLR E vc n ops rest f' o' c' lg K) = fun f' o' c' lg K => wopsL E vc n ops rest f' o' c' lg K := by funext a b d g e; exact ih a b d g e
  show wguard ops p f (wop E vc p.op f o c fun v o' c' l => strict l v o' c' fun v o' c' => wput p.dst n v f fun f' => (fun f' o' c' lg (K : List VN → RK) => wopsLR E vc n ops rest f' o' c' lg K) f' o' c' (lg ++ [(l, o)]) K) (wput p.dst n (.tup []) f fun f' => (fun f' o' c' lg (K : List VN → RK) => wopsLR E vc n ops rest f' o' c' lg K) f' o c (lg ++ [(.pure, o)]) K) = _
  rw [e]
  simp only [strict_eq]
  rfl
structure Drawn (b : Bool) (K : Prop) : Prop where
 ok : b = true
 go : K
theorem drawn_eq (b : Bool) (K : Prop) : Drawn b K = (match (generalizing := false) b with | true => K | false => False) := by
 cases b with
 | true => exact propext ⟨fun h => h.go, fun h => ⟨rfl, h⟩⟩
 | false => exact propext (Iff.intro (fun h => by cases h.ok) (fun h => False.elim h))
abbrev WP := Fr → Ob → Nat → CK → Prop
def wpR (E : Env) (vc : VCs) (n c0 : Nat) (cuts : List Nat) (code : Code) : WP :=
 @Code.rec (fun _ => WP)
  (fun f o c Q => Q .normal f o c)
  (fun _ ops draw f o c Q => (match draw with
  | false => wopsR E vc n ops.toList ops.toList f o c fun f' o' c' => Q .normal f' o' c'
  | true => Drawn (staticOk ops.toList && dstsIn n ops.toList) (wopsLR E vc n ops.toList ops.toList f o c [] fun lg f' o' c' => Drawn (drawOk (befores ops.toList []) o' 0 lg) (Q .normal f' o' c'))))
  (fun _ _ iha ihb f o c Q => iha f o c fun ex f' o' c' => (match ex with
  | .normal => ihb f' o' c' Q
  | .exit id => Q (.exit id) f' o' c'
  | .ret => Q .ret f' o' c'))
  (fun q _ _ iht ihe f o c Q => (match evOk q with
  | false => False
  | true => (match evT f q with
   | .s (.bool b) => (match b with
    | true => iht f o c Q
    | false => ihe f o c Q)
   | _ => False)))
  (fun id _ ih f o c Q => (match memN id cuts with
  | false => ih f o c fun ex f' o' c' => (match ex with
   | .exit id' => (match Nat.beq id' id with
    | true => Q .normal f' o' c'
    | false => Q (.exit id') f' o' c')
   | .normal => Q .normal f' o' c'
   | .ret => Q .ret f' o' c')
  | true => ∃ Mid : RK, (ih f o c fun ex f' o' c' => (match ex with
   | .exit id' => (match Nat.beq id' id with
    | true => toldAs c0 f' o' c' Mid
    | false => Q (.exit id') f' o' c')
   | .normal => toldAs c0 f' o' c' Mid
   | .ret => Q .ret f' o' c')) ∧ ∀ f' o' c', Mid f' o' c' → Q .normal f' o' c'))
  (fun _ ih f o c Q => ∃ Inv : Nat → Fr → Ob → Nat → Prop, (∃ k, toldAs c0 f o c (Inv k)) ∧
   ∀ k f1 o1 c1, Inv k f1 o1 c1 → ih f1 o1 c1 fun ex f' o' c' => (match ex with
    | .normal => ∃ k', toldAs c0 f' o' c' (Inv k') ∧ k' < k
    | .exit id => Q (.exit id) f' o' c'
    | .ret => Q .ret f' o' c'))
  (fun _ _ _ _ _ _ _ _ _ _ => False)
  (fun id f o c Q => Q (.exit id) f o c)
  (fun _ _ _ _ _ _ => False)
  (fun _ _ _ _ _ => False)
  (fun _ _ _ _ _ => False)
  (fun f o c Q => Q .ret f o c)
  (fun _ _ _ _ _ => False) code
theorem wpR_eq (E : Env) (vc : VCs) (n c0 : Nat) (cuts : List Nat) : ∀ (code : Code) f o c Q, wpR E vc n c0 cuts code f o c Q = wp E vc n c0 cuts code f o c Q := by
 intro code
 induction code with
 | region id ops draw =>
  intro f o c Q
  have e1 : (fun K => wopsR E vc n ops.toList ops.toList f o c K) = fun K => wops E vc n ops.toList ops.toList f o c K := by funext K; exact wopsR_eq ..
  have e2 : (fun lg K => wopsLR E vc n ops.toList ops.toList f o c lg K) = fun lg K => wopsL E vc n ops.toList ops.toList f o c lg K := by funext lg K; exact wopsLR_eq ..
  show (match draw with
  | false => (fun K => wopsR E vc n ops.toList ops.toList f o c K) fun f' o' c' => Q .normal f' o' c'
  | true => Drawn (staticOk ops.toList && dstsIn n ops.toList) ((fun lg K => wopsLR E vc n ops.toList ops.toList f o c lg K) [] fun lg f' o' c' => Drawn (drawOk (befores ops.toList []) o' 0 lg) (Q .normal f' o' c'))) = _
  rw [e1, e2]
  simp only [drawn_eq]
  cases draw <;> rfl
 | seq a b iha ihb =>
  intro f o c Q
  have e1 : (fun f o c Q => wpR E vc n c0 cuts a f o c Q) = fun f o c Q => wp E vc n c0 cuts a f o c Q := by funext f o c Q; exact iha ..
  have e2 : (fun f o c Q => wpR E vc n c0 cuts b f o c Q) = fun f o c Q => wp E vc n c0 cuts b f o c Q := by funext f o c Q; exact ihb ..
  show ((fun f o c Q => wpR E vc n c0 cuts a f o c Q) f o c fun ex f' o' c' => (match ex with
  | .normal => (fun f o c Q => wpR E vc n c0 cuts b f o c Q) f' o' c' Q
  | .exit id => Q (.exit id) f' o' c'
  | .ret => Q .ret f' o' c')) = _
  rw [e1, e2]
  rfl
 | cond q t e iht ihe =>
  intro f o c Q
  have e1 : (fun f o c Q => wpR E vc n c0 cuts t f o c Q) = fun f o c Q => wp E vc n c0 cuts t f o c Q := by funext f o c Q; exact iht ..
  have e2 : (fun f o c Q => wpR E vc n c0 cuts e f o c Q) = fun f o c Q => wp E vc n c0 cuts e f o c Q := by funext f o c Q; exact ihe ..
  show (match evOk q with
  | false => False
  | true => (match evT f q with
   | .s (.bool b) => (match b with
    | true => (fun f o c Q => wpR E vc n c0 cuts t f o c Q) f o c Q
    | false => (fun f o c Q => wpR E vc n c0 cuts e f o c Q) f o c Q)
   | _ => False)) = _
  rw [e1, e2]
  rfl
 | block id b ih =>
  intro f o c Q
  have e1 : (fun f o c Q => wpR E vc n c0 cuts b f o c Q) = fun f o c Q => wp E vc n c0 cuts b f o c Q := by funext f o c Q; exact ih ..
  show (match memN id cuts with
  | false => (fun f o c Q => wpR E vc n c0 cuts b f o c Q) f o c fun ex f' o' c' => (match ex with
   | .exit id' => (match Nat.beq id' id with
    | true => Q .normal f' o' c'
    | false => Q (.exit id') f' o' c')
   | .normal => Q .normal f' o' c'
   | .ret => Q .ret f' o' c')
  | true => ∃ Mid : RK, ((fun f o c Q => wpR E vc n c0 cuts b f o c Q) f o c fun ex f' o' c' => (match ex with
   | .exit id' => (match Nat.beq id' id with
    | true => toldAs c0 f' o' c' Mid
    | false => Q (.exit id') f' o' c')
   | .normal => toldAs c0 f' o' c' Mid
   | .ret => Q .ret f' o' c')) ∧ ∀ f' o' c', Mid f' o' c' → Q .normal f' o' c') = _
  rw [e1]
  rfl
 | loop b ih =>
  intro f o c Q
  have e1 : (fun f o c Q => wpR E vc n c0 cuts b f o c Q) = fun f o c Q => wp E vc n c0 cuts b f o c Q := by funext f o c Q; exact ih ..
  show (∃ Inv : Nat → Fr → Ob → Nat → Prop, (∃ k, toldAs c0 f o c (Inv k)) ∧
   ∀ k f1 o1 c1, Inv k f1 o1 c1 → (fun f o c Q => wpR E vc n c0 cuts b f o c Q) f1 o1 c1 fun ex f' o' c' => (match ex with
    | .normal => ∃ k', toldAs c0 f' o' c' (Inv k') ∧ k' < k
    | .exit id => Q (.exit id) f' o' c'
    | .ret => Q .ret f' o' c')) = _
  rw [e1]
  rfl
 | _ => intros; rfl
theorem VC.enterR {E T : Env} (L : EnvLe T E) {g : FuncId} {fn : Func} {code : Code} {c0 : Nat} {args : List TV} {o0 : Ob} {R : TV → Ob → Nat → Prop} (hf : E.func g = some fn) (ho : ∀ a h, E.orc g a h = none) (hb : fn.body = some code) (hlen : Nat.ble args.length fn.ntmps = true)
 (cuts : List Nat) (hw : wpR T (VC E) fn.ntmps c0 cuts code (argsF 0 args) o0 c0 (wret T c0 fn.results.toList R)) : VC E g c0 args o0 R :=
 VC.enter L hf ho hb hlen cuts (by rw [← wpR_eq]; exact hw)
theorem VC.enterRO {E T : Env} (L : EnvLe T E) {g : FuncId} {fn : Func} {code : Code} {c0 : Nat} {args : List TV} {o0 : Ob} {R : TV → Ob → Nat → Prop} (hf : E.func g = some fn)
 (ho : ∀ base ρ F h S vargs, Mem (cx0 base ρ F o0 c0 h S) ρ F o0 c0 h → VRs c0 ρ F h args vargs → E.orc g vargs h = none) (hb : fn.body = some code) (hlen : Nat.ble args.length fn.ntmps = true)
 (cuts : List Nat) (hw : wpR T (VC E) fn.ntmps c0 cuts code (argsF 0 args) o0 c0 (wret T c0 fn.results.toList R)) : VC E g c0 args o0 R :=
 VC.enterO L hf ho hb hlen cuts (by rw [← wpR_eq]; exact hw)
theorem D1 {b : Bool} {K : Prop} (k : K) (h : b = true := by kernel_rfl) : Drawn b K := ⟨h, k⟩
theorem t3 {a b c : Prop} (h1 : a := by (repeat' first|with_reducible exact Lz.rfl|exact Lw.rfl|exact Lz.wrap (by omega)|(unfold goInt;with_reducible exact Lz.rfl)|exact flx _|constructor)) (h2 : b := by (repeat' first|with_reducible exact Lz.rfl|exact Lw.rfl|exact Lz.wrap (by omega)|(unfold goInt;with_reducible exact Lz.rfl)|exact flx _|constructor)) (h3 : c := by rfl) : a ∧ b ∧ c := ⟨h1, h2, h3⟩
end Go.M
namespace Go.M.Small
open Go Go.Proofs Go.M
set_option maxRecDepth 100000
noncomputable def E0 := envOf Try.prog (orcV [] [])
noncomputable def T0 := tE E0 []
theorem rows0 : [].all (eqRow E0) = true := by kernel_rfl
theorem L0 : EnvLe T0 E0 := tE_le (fun t z h => by
 simp only [E0, envOf, Option.bind_eq_some_iff, grd_some, Option.some.injEq] at h
 obtain ⟨i, h1, z', h2, h3, rfl⟩ := h
 exact h3) rows0
@[reducible] def encI (n : Int) : List TV := [.s (.int .i64 n)]
def least : List Int → Int → Int
 | [], m => m
 | x :: l, m => least l (if x < m then x else m)
def leastN (L : List Int) (i : Nat) : Int := least ((L.take i).drop 1) (L.headD 0)
theorem least_snoc : ∀ (l : List Int) (m y : Int), least (l ++ [y]) m = if y < least l m then y else least l m
 | [], _, _ => rfl
 | _ :: l, _, y => least_snoc l _ y
theorem leastN_succ (L : List Int) (i : Nat) (h1 : 1 ≤ i) (h : i < L.length) : leastN L (i + 1) = if L[i] < leastN L i then L[i] else leastN L i := by
 unfold leastN
 rw [List.take_succ_eq_append_getElem h, List.drop_append_of_le_length (by simp; omega), least_snoc]
theorem min_ok (L : List Int) (h0 : 0 < L.length) (hl : L.length ≤ 1000000) : VC E0 86 0 [.sl 1 (L.map encI) false] [] (fun r _ _ => r = .s (.int .i64 (leastN L L.length))) := by
 refine VC.enterR L0 (show E0.func 86 = some Try.f86 by kernel_rfl) (fun _ _ => rfl) rfl rfl [] ?_
 ((conv=>whnf)<;>repeat(with_reducible refine D1 ?_)<;>conv=>whnf)
 (first|refine ⟨?_,?_⟩|refine nsplit ?_ ?_|refine bsplit ?_ ?_)<;>intro h<;>have hz_:=True.intro<;>clear hz_
 ·exact absurd h (by simp; omega)
 ·((conv=>whnf)<;>repeat(with_reducible refine D1 ?_)<;>conv=>whnf)
  refine idxI h0 ?_
  ((conv=>whnf)<;>repeat(with_reducible refine D1 ?_)<;>conv=>whnf)
  refine ⟨fun k f o c => ∃ i : Nat, 1 ≤ i ∧ i ≤ L.length ∧ k = L.length - i ∧ c = 0 ∧ f = [(0, .sl 1 (L.map encI) false), (3, .s (.int .i64 (leastN L i))), (4, .s (.int .i64 i))] ∧ o = [], ⟨L.length - 1, ?_⟩, ?_⟩
  ·refine ⟨[], [], ?_⟩
   iterate 3 constructor
   refine ⟨⟨?_, ?_, ?_⟩, ⟨1, Nat.le_refl _, h0, rfl, rfl, rfl, rfl⟩⟩
   all_goals (repeat' first|with_reducible exact Lz.rfl|exact Lw.rfl|exact Lz.wrap (by omega)|(unfold goInt;with_reducible exact Lz.rfl)|exact flx _|constructor)
   all_goals (refine Lz.int ?_; cases L with
    | nil => simp at h0
    | cons x l => rfl)
  ·rintro k f1 o1 c1 ⟨i, h1, hi, rfl, rfl, rfl, rfl⟩
   ((conv=>whnf)<;>repeat(with_reducible refine D1 ?_)<;>conv=>whnf)
   (first|refine ⟨?_,?_⟩|refine nsplit ?_ ?_|refine bsplit ?_ ?_)<;>intro h<;>have hz_:=True.intro<;>clear hz_
   ·have h := lenlt.1 h
    ((conv=>whnf)<;>repeat(with_reducible refine D1 ?_)<;>conv=>whnf)
    refine idxI h ?_
    ((conv=>whnf)<;>repeat(with_reducible refine D1 ?_)<;>conv=>whnf)
    refine ⟨L.length - (i + 1), ?_, by omega⟩
    refine ⟨[], [], ?_⟩
    iterate 3 constructor
    refine ⟨⟨?_, ?_, ?_⟩, ⟨i + 1, by omega, h, rfl, rfl, rfl, rfl⟩⟩
    all_goals (repeat' first|with_reducible exact Lz.rfl|exact Lw.rfl|exact Lz.wrap (by omega)|(unfold goInt;with_reducible exact Lz.rfl)|exact flx _|constructor)
    all_goals (refine Lz.int ?_; rw [leastN_succ L i h1 h])
   ·have h := mt lenlt.2 h
    ((conv=>whnf)<;>repeat(with_reducible refine D1 ?_)<;>conv=>whnf)
    have e : i = L.length := by omega
    subst e
    exact ⟨[], [], _, _, _, t3, rfl⟩
theorem least_le : ∀ (l : List Int) (m : Int), least l m ≤ m ∧ (∀ x ∈ l, least l m ≤ x) ∧ (least l m = m ∨ least l m ∈ l)
 | [], m => ⟨Int.le_refl _, by simp, .inl rfl⟩
 | x :: l, m => by
  obtain ⟨h1, h2, h3⟩ := least_le l (if x < m then x else m)
  have e : least (x :: l) m = least l (if x < m then x else m) := rfl
  refine ⟨?_, fun y hy => ?_, ?_⟩
  ·rw [e]; by_cases hx : x < m
   ·rw [if_pos hx] at h1 ⊢; omega
   ·rw [if_neg hx] at h1 ⊢; omega
  ·rw [e]
   rcases List.mem_cons.1 hy with rfl | hy
   ·by_cases hx : y < m
    ·rw [if_pos hx] at h1 ⊢; omega
    ·rw [if_neg hx] at h1 ⊢; omega
   ·exact h2 y hy
  ·rw [e]
   rcases h3 with h3 | h3
   ·by_cases hx : x < m
    ·rw [if_pos hx] at h3 ⊢; rw [h3]; exact .inr List.mem_cons_self
    ·rw [if_neg hx] at h3 ⊢; exact .inl h3
   ·exact .inr (List.mem_cons_of_mem _ h3)
def minZ (L : List Int) : Int := leastN L L.length
theorem minZ_spec {L : List Int} (h : 0 < L.length) : minZ L ∈ L ∧ ∀ x ∈ L, minZ L ≤ x := by
 cases L with
 | nil => simp at h
 | cons a l =>
  have e : minZ (a :: l) = least l a := by simp [minZ, leastN]
  rw [e]
  obtain ⟨h1, h2, h3⟩ := least_le l a
  refine ⟨?_, fun x hx => ?_⟩
  ·rcases h3 with h3 | h3
   ·rw [h3]; exact List.mem_cons_self
   ·exact List.mem_cons_of_mem _ h3
  ·rcases List.mem_cons.1 hx with rfl | hx
   ·exact h1
   ·exact h2 x hx
theorem minZ_perm {L M : List Int} (h : 0 < L.length) (p : L.Perm M) : minZ L = minZ M := by
 obtain ⟨a1, a2⟩ := minZ_spec h
 obtain ⟨b1, b2⟩ := minZ_spec (L := M) (by rw [← p.length_eq]; exact h)
 have := a2 _ (p.mem_iff.2 b1)
 have := b2 _ (p.mem_iff.1 a1)
 omega
end Go.M.Small
namespace Go.M
open Go Go.Proofs Go.RowKit Go.Maps Go.Sort Go.Shelf
set_option maxRecDepth 100000
def keys87_ren : Go.Shelf.Ren := ⟨fun | 7 => 87 | 10 => 123 | n => n, fun | 23 => 133 | 26 => 3 | 3 => 39 | 28 => 131 | 0 => 0 | 27 => 130 | 33 => 149 | 4 => 4 | n => n, fun | n => n⟩
theorem keys87 : Go.Proofs.SlLaysZI.n7 Try.prog keys87_ren where
 mixed := by kernel_rfl
 f7 := ⟨Try.f87.name, by kernel_rfl, Try.func87.trans (congrArg some (by kernel_rfl))⟩
 f10 := ⟨Try.f123.name, by kernel_rfl, Try.func123.trans (congrArg some (by kernel_rfl))⟩
 t0 := Try.underlying0
 a0 := Try.isAgg0
 z0 := Try.sizeOf0
 v0 := Try.zeroValue0
 t4 := Try.underlying4
 a4 := Try.isAgg4
 z4 := Try.sizeOf4
 v4 := Try.zeroValue4
 t23 := Try.underlying133
 a23 := Try.isAgg133
 z23 := Try.sizeOf133
 v23 := Try.zeroValue133
 t26 := Try.underlying3
 a26 := Try.isAgg3
 z26 := Try.sizeOf3
 v26 := Try.zeroValue3
 t27 := Try.underlying130
 a27 := Try.isAgg130
 z27 := Try.sizeOf130
 v27 := Try.zeroValue130
 t28 := Try.underlying131
 a28 := Try.isAgg131
 z28 := Try.sizeOf131
 v28 := Try.zeroValue131
 t33 := Try.underlying149
 a33 := Try.isAgg149
 z33 := Try.sizeOf149
 v33 := Try.zeroValue149
def sorted101_ren : Go.Shelf.Ren := ⟨fun | 6 => 101 | 8 => 80 | 9 => 133 | 11 => 119 | 13 => 153 | 12 => 152 | 23 => 174 | 24 => 175 | 14 => 165 | 15 => 166 | 16 => 167 | 17 => 168 | 18 => 169 | 19 => 170 | 20 => 171 | 21 => 172 | 22 => 173 | 25 => 181 | 26 => 182 | 27 => 183 | 28 => 184 | 29 => 185 | 30 => 186 | 31 => 188 | n => n, fun | 26 => 3 | 28 => 131 | 24 => 41 | 0 => 0 | 3 => 3 | 37 => 193 | 48 => 208 | 50 => 35 | 4 => 4 | 40 => 201 | 39 => 200 | 45 => 205 | 5 => 5 | 9 => 9 | 51 => 211 | 55 => 214 | 57 => 217 | 58 => 218 | 33 => 149 | n => n, fun | n => n⟩
theorem sorted101 : Go.Proofs.SlLaysZI.n6 Try.prog sorted101_ren where
 mixed := by kernel_rfl
 f6 := ⟨Try.f101.name, by kernel_rfl, Try.func101.trans (congrArg some (by kernel_rfl))⟩
 f8 := ⟨Try.f80.name, by kernel_rfl, Try.func80.trans (congrArg some (by kernel_rfl))⟩
 f11 := ⟨Try.f119.name, by kernel_rfl, Try.func119.trans (congrArg some (by kernel_rfl))⟩
 t0 := Try.underlying0
 a0 := Try.isAgg0
 z0 := Try.sizeOf0
 v0 := Try.zeroValue0
 t24 := Try.underlying41
 a24 := Try.isAgg41
 z24 := Try.sizeOf41
 v24 := Try.zeroValue41
 t26 := Try.underlying3
 a26 := Try.isAgg3
 z26 := Try.sizeOf3
 v26 := Try.zeroValue3
 t28 := Try.underlying131
 a28 := Try.isAgg131
 z28 := Try.sizeOf131
 v28 := Try.zeroValue131
 i26 := by kernel_rfl
def sort133_ren : Go.Shelf.Ren := ⟨fun | 5 => 133 | 8 => 153 | 7 => 152 | 19 => 174 | 20 => 175 | 10 => 165 | 11 => 166 | 12 => 167 | 13 => 168 | 14 => 169 | 15 => 170 | 16 => 171 | 17 => 172 | 18 => 173 | 30 => 181 | 31 => 182 | 32 => 183 | 33 => 184 | 34 => 185 | 35 => 186 | 40 => 188 | n => n, fun | 23 => 41 | 25 => 3 | 3 => 3 | 32 => 193 | 22 => 41 | 0 => 0 | 44 => 208 | 46 => 35 | 4 => 4 | 36 => 201 | 35 => 200 | 41 => 205 | 5 => 5 | 9 => 9 | 53 => 211 | 57 => 214 | 63 => 217 | 64 => 218 | n => n, fun | n => n⟩
theorem sort133 : Go.Proofs.SlLaysM.n5 Try.prog sort133_ren where
 mixed := by kernel_rfl
 f5 := ⟨Try.f133.name, by kernel_rfl, Try.func133.trans (congrArg some (by kernel_rfl))⟩
 f7 := ⟨Try.f152.name, by kernel_rfl, Try.func152.trans (congrArg some (by kernel_rfl))⟩
 f8 := Try.func153.trans (congrArg some (by kernel_rfl))
 f10 := ⟨Try.f165.name, by kernel_rfl, Try.func165.trans (congrArg some (by kernel_rfl))⟩
 f11 := ⟨Try.f166.name, by kernel_rfl, Try.func166.trans (congrArg some (by kernel_rfl))⟩
 f12 := ⟨Try.f167.name, by kernel_rfl, Try.func167.trans (congrArg some (by kernel_rfl))⟩
 f13 := ⟨Try.f168.name, by kernel_rfl, Try.func168.trans (congrArg some (by kernel_rfl))⟩
 f14 := ⟨Try.f169.name, by kernel_rfl, Try.func169.trans (congrArg some (by kernel_rfl))⟩
 f15 := ⟨Try.f170.name, by kernel_rfl, Try.func170.trans (congrArg some (by kernel_rfl))⟩
 f16 := ⟨Try.f171.name, by kernel_rfl, Try.func171.trans (congrArg some (by kernel_rfl))⟩
 f17 := ⟨Try.f172.name, by kernel_rfl, Try.func172.trans (congrArg some (by kernel_rfl))⟩
 f18 := ⟨Try.f173.name, by kernel_rfl, Try.func173.trans (congrArg some (by kernel_rfl))⟩
 f19 := Try.func174.trans (congrArg some (by kernel_rfl))
 f20 := Try.func175.trans (congrArg some (by kernel_rfl))
 f30 := ⟨Try.f181.name, by kernel_rfl, Try.func181.trans (congrArg some (by kernel_rfl))⟩
 f31 := Try.func182.trans (congrArg some (by kernel_rfl))
 f32 := Try.func183.trans (congrArg some (by kernel_rfl))
 f33 := ⟨Try.f184.name, by kernel_rfl, Try.func184.trans (congrArg some (by kernel_rfl))⟩
 f34 := ⟨Try.f185.name, by kernel_rfl, Try.func185.trans (congrArg some (by kernel_rfl))⟩
 f35 := ⟨Try.f186.name, by kernel_rfl, Try.func186.trans (congrArg some (by kernel_rfl))⟩
 f40 := ⟨Try.f188.name, by kernel_rfl, Try.func188.trans (congrArg some (by kernel_rfl))⟩
 t0 := Try.underlying0
 a0 := Try.isAgg0
 z0 := Try.sizeOf0
 v0 := Try.zeroValue0
 t3 := Try.underlying3
 a3 := Try.isAgg3
 z3 := Try.sizeOf3
 v3 := Try.zeroValue3
 t4 := Try.underlying4
 a4 := Try.isAgg4
 z4 := Try.sizeOf4
 v4 := Try.zeroValue4
 t5 := Try.underlying5
 a5 := Try.isAgg5
 z5 := Try.sizeOf5
 v5 := Try.zeroValue5
 t9 := Try.underlying9
 a9 := Try.isAgg9
 z9 := Try.sizeOf9
 v9 := Try.zeroValue9
 t22 := Try.underlying41
 a22 := Try.isAgg41
 z22 := Try.sizeOf41
 v22 := Try.zeroValue41
 t23 := Try.underlying41
 a23 := Try.isAgg41
 z23 := Try.sizeOf41
 v23 := Try.zeroValue41
 t25 := Try.underlying3
 a25 := Try.isAgg3
 z25 := Try.sizeOf3
 v25 := Try.zeroValue3
 t32 := Try.underlying193
 a32 := Try.isAgg193
 z32 := Try.sizeOf193
 v32 := Try.zeroValue193
 t35 := Try.underlying200
 a35 := Try.isAgg200
 z35 := Try.sizeOf200
 v35 := Try.zeroValue200
 t36 := Try.underlying201
 a36 := Try.isAgg201
 z36 := Try.sizeOf201
 v36 := Try.zeroValue201
 t41 := Try.underlying205
 a41 := Try.isAgg205
 z41 := Try.sizeOf205
 v41 := Try.zeroValue205
 t44 := Try.underlying208
 a44 := Try.isAgg208
 z44 := Try.sizeOf208
 v44 := Try.zeroValue208
 t46 := Try.underlying35
 a46 := Try.isAgg35
 z46 := Try.sizeOf35
 v46 := Try.zeroValue35
 t53 := Try.underlying211
 a53 := Try.isAgg211
 z53 := Try.sizeOf211
 v53 := Try.zeroValue211
 t57 := Try.underlying214
 a57 := Try.isAgg214
 z57 := Try.sizeOf214
 v57 := Try.zeroValue214
 t63 := Try.underlying217
 a63 := Try.isAgg217
 z63 := Try.sizeOf217
 v63 := Try.zeroValue217
 t64 := Try.underlying218
 a64 := Try.isAgg218
 z64 := Try.sizeOf218
 v64 := Try.zeroValue218
theorem sortsIn101 (m : Nat) : AnyZI.SortsIn Try.prog sorted101_ren Fence.wide m :=
 ⟨fun blk off cap ss W hH hblk hsz => callsIn_wide.2 (AnyM.slices_Sort_int sort133 blk off cap ss W hH hblk hsz), fun p cap W => callsIn_wide.2 (AnyM.slices_Sort_int_none sort133 p cap W)⟩
theorem sorts101_123 : SortsKeys Try.prog 101 123 :=
 sortsKeys_of (ρ := sorted101_ren) (σ := keys87_ren) sorted101 { keys87 with } sortsIn101 (enters_of Try.func133 (by kernel_rfl) rfl) (enters_of Try.func123 (by kernel_rfl) rfl)
end Go.M
namespace Go.M
open Go Go.Proofs Go.RowKit Go.Maps Go.Sort Go.Shelf
set_option maxRecDepth 1000000
theorem collects80_123 : CollectsKeys Try.prog 80 123 :=
 collectsKeys_of (ρ := sorted101_ren) (σ := keys87_ren) { sorted101 with } { keys87 with } (enters_of Try.func123 (by kernel_rfl) rfl)
def minVal : BagF := fun pre cs => match pre, cs with
 | [], _ :: _ => grd (Nat.ble cs.length 1000000) (some (.int .i64 (Small.minZ cs)))
 | _, _ => none
theorem follows0 : Try.prog.follows .mixedOrders = true := by kernel_rfl
theorem orcNone (base B : Nat) : OrcOk Try.prog Small.E0 base B :=
 orcV_ok (fun g hg => by simp at hg) (fun g its hi => by simp [look] at hi) base B
theorem minBag : BagOk Try.prog 86 minVal := by
 intro pre cs v _ hv
 unfold minVal at hv
 split at hv
 ·rename_i a l
  simp only [grd_some, ble_iff, Option.some.injEq] at hv
  obtain ⟨hl, rfl⟩ := hv
  refine ⟨rfl, fun m hp => ⟨fun m => .int .i64 (Small.minZ m), fun m => 0 < m.length ∧ m.length ≤ 1000000, ?_, ?_, ?_⟩⟩
  ·exact onInts_of (E := Small.E0) (envOk _ _) orcNone follows0 (fun _ => rfl) (by simp) (fun _ _ => rfl) fun m hm => Small.min_ok m hm.1 hm.2
  ·have := hp.length_eq
   simp only [List.length_cons] at this hl ⊢
   exact ⟨by omega, by omega⟩
  ·exact congrArg _ (Small.minZ_perm (by rw [hp.length_eq]; simp) hp)
 ·cases hv
end Go.M
namespace Go.M
open Go
def popN (s : Nat) : Nat := s % 2 + s / 2 % 2 + s / 4 % 2 + s / 8 % 2 + s / 16 % 2 + s / 32 % 2
def withN (s : Nat) (L : List Int) : Nat := L.foldl (fun s i => s ||| 2 ^ i.toNat) s
def m5 (x : Int) : Prop := 1 ≤ x ∧ x ≤ 5
theorem m5_cases {x : Int} (h : m5 x) : x = 1 ∨ x = 2 ∨ x = 3 ∨ x = 4 ∨ x = 5 := by unfold m5 at h; omega
def ev64 (s : Nat) : Prop := s < 64 ∧ s % 2 = 0
instance (s : Nat) : Decidable (ev64 s) := inferInstanceAs (Decidable (s < 64 ∧ s % 2 = 0))
theorem or_ev {s : Nat} (h : ev64 s) {x : Int} (hx : m5 x) : ev64 (s ||| 2 ^ x.toNat) := by
 have : ∀ s < 64, s % 2 = 0 → ∀ k < 6, 0 < k → (s ||| 2 ^ k) < 64 ∧ (s ||| 2 ^ k) % 2 = 0 := by decide +kernel
 unfold m5 at hx
 exact this s h.1 h.2 x.toNat (by omega) (by omega)
theorem withN_ev : ∀ {L : List Int} {s : Nat}, ev64 s → (∀ x ∈ L, m5 x) → ev64 (withN s L)
 | [], s, h, _ => h
 | x :: L, s, h, hL => withN_ev (L := L) (or_ev h (hL x List.mem_cons_self)) fun y hy => hL y (List.mem_cons_of_mem _ hy)
theorem withN_snoc (s : Nat) (L : List Int) (x : Int) : withN s (L ++ [x]) = withN s L ||| 2 ^ x.toNat := by simp [withN]
theorem withN_perm {L M : List Int} (p : L.Perm M) : ∀ s, withN s L = withN s M := by
 induction p with
 | nil => intro s; rfl
 | cons x _ ih => intro s; exact ih _
 | swap x y l => intro s; simp only [withN, List.foldl_cons]; rw [Nat.or_assoc, Nat.or_comm (2 ^ y.toNat), ← Nat.or_assoc]
 | trans _ _ ih1 ih2 => intro s; rw [ih1, ih2]
theorem andNot1 : ∀ s : Nat, s < 64 → IntKind.u64.wrap ((BitVec.ofInt IntKind.u64.bits (s : Int) &&& ~~~ BitVec.ofInt IntKind.u64.bits 1).toNat : Int) = ((s / 2 * 2 : Nat) : Int) := by decide +kernel
theorem orBit : ∀ s : Nat, s < 64 → ∀ k : Nat, k < 6 → IntKind.u64.wrap ((BitVec.ofInt IntKind.u64.bits (s : Int) ||| BitVec.ofInt IntKind.u64.bits (IntKind.u64.wrap (1 * 2 ^ k))).toNat : Int) = ((s ||| 2 ^ k : Nat) : Int) := by decide +kernel
theorem andMask : ∀ s : Nat, s < 64 → ∀ k : Nat, k < 7 → IntKind.u64.wrap ((BitVec.ofInt IntKind.u64.bits (s : Int) &&& BitVec.ofInt IntKind.u64.bits (IntKind.u64.wrap (IntKind.u64.wrap (1 * 2 ^ k) - 1))).toNat : Int) = ((s &&& (2 ^ k - 1) : Nat) : Int) := by decide +kernel
def enoughN (s : Nat) (n : Int) : Bool := decide (n.toNat / 2 + 1 ≤ popN ((s &&& (2 ^ (n.toNat + 1) - 1)) / 2 * 2))
end Go.M
namespace Go.M.Small
open Go Go.Proofs Go.M
set_option maxRecDepth 100000
set_option maxHeartbeats 2000000
@[reducible] def encI1 (n : Int) : List TV := [.s (.int .i64 n)]
def isMember (n : Int) : Bool := decide (n ≥ 1 ∧ n ≤ 63)
theorem member_ok (n : Int) : VC E0 126 0 [.s (.int .i64 n)] [] (RR (.s (.bool (isMember n))) 0 []) := by
 refine VC.enterR L0 (show E0.func 126 = some Try.f126 by kernel_rfl) (fun _ _ => rfl) rfl rfl [] ?_
 ((conv=>whnf)<;>repeat(with_reducible refine D1 ?_)<;>conv=>whnf)
 repeat' (first | ((first | (refine ⟨fun h => ?_, fun h => ?_⟩) | (refine nsplit (fun h => ?_) (fun h => ?_)) | (refine bsplit (fun h => ?_) (fun h => ?_))) <;> ((conv=>whnf)<;>repeat(with_reducible refine D1 ?_)<;>conv=>whnf)))
 all_goals (refine ⟨[], [], [], _, _, ⟨?_, .nil, rfl⟩, rfl, rfl, rfl⟩)
 all_goals (refine .s (Lz.of (bool_eq ?_)); simp [isMember, *]; try omega)
theorem with_ok (s : Nat) (L : List Int) (hs : ev64 s) (hL : ∀ x ∈ L, m5 x) (hl : L.length < 1000000) : VC E0 94 0 [.s (.int .u64 s), .sl 1 (L.map encI1) false] [] (RR (.s (.int .u64 (withN s L))) 0 []) := by
 refine VC.enterR L0 (show E0.func 94 = some Try.f94 by kernel_rfl) (fun _ _ => rfl) rfl rfl [] ?_
 ((conv=>whnf)<;>repeat(with_reducible refine D1 ?_)<;>conv=>whnf)
 refine ⟨fun k f o c => ∃ j : Nat, j ≤ L.length ∧ k = L.length - j ∧ c = 0 ∧ f = [(0, .s (.int .u64 (withN s (L.take j)))), (9, .sl 1 (L.map encI1) false), (10, .s (.int .i64 L.length)), (11, .s (.int .i64 j))] ∧ o = [], ⟨L.length, ?_⟩, ?_⟩
 ·refine ⟨[], [], ?_⟩
  iterate 3 constructor
  refine ⟨⟨?_, ?_, ?_⟩, ⟨0, Nat.zero_le _, rfl, rfl, rfl, rfl⟩⟩
  all_goals (repeat' first|with_reducible exact Lz.rfl|exact Lw.rfl|exact Lz.wrap (by omega)|(unfold goInt;with_reducible exact Lz.rfl)|exact flx _|constructor)
  ·refine Lz.int ?_
   have := andNot1 s hs.1
   have h2 := hs.2
   rw [show s / 2 * 2 = s by omega] at this
   exact this
  all_goals exact Lz.of (by simp [goInt])
 ·rintro k f1 o1 c1 ⟨j, hj, rfl, rfl, rfl, rfl⟩
  ((conv=>whnf)<;>repeat(with_reducible refine D1 ?_)<;>conv=>whnf)
  (first|refine ⟨?_,?_⟩|refine nsplit ?_ ?_|refine bsplit ?_ ?_)<;>intro h<;>have hz_:=True.intro<;>clear hz_
  ·have h : j < L.length := by simpa using h
   have hw := withN_ev hs (fun x hx => hL x (List.mem_of_mem_take hx)) (L := L.take j)
   have hsn : withN s (L.take (j + 1)) = withN s (L.take j) ||| 2 ^ L[j].toNat := by rw [List.take_succ_eq_append_getElem h, withN_snoc]
   have hx := m5_cases (hL _ (List.getElem_mem h))
   generalize hwe : withN s (L.take j) = w at *
   ((conv=>whnf)<;>repeat(with_reducible refine D1 ?_)<;>conv=>whnf)
   refine idxI h ?_
   generalize hxe : L[j] = x at *
   rcases hx with rfl | rfl | rfl | rfl | rfl
   all_goals
    ((conv=>whnf)<;>repeat(with_reducible refine D1 ?_)<;>conv=>whnf)
    refine ⟨[], [], _, _, _, _, member_ok _, t3, ?_⟩
    rintro r o' c' ⟨rfl, rfl, rfl⟩
    ((conv=>whnf)<;>repeat(with_reducible refine D1 ?_)<;>conv=>whnf)
    refine ⟨L.length - (j + 1), ?_, by omega⟩
    refine ⟨[], [], ?_⟩
    iterate 3 constructor
    refine ⟨⟨?_, ?_, ?_⟩, ⟨j + 1, h, rfl, rfl, rfl, rfl⟩⟩
    all_goals (repeat' first|with_reducible exact Lz.rfl|exact Lw.rfl|exact Lz.wrap (by omega)|(unfold goInt;with_reducible exact Lz.rfl)|exact flx _|constructor)
    refine Lz.int ?_
    rw [hsn]
    exact orBit w hw.1 _ (by decide)
  ·have h' : j = L.length := by have : ¬ j < L.length := by simpa using h
                                omega
   subst h'
   ((conv=>whnf)<;>repeat(with_reducible refine D1 ?_)<;>conv=>whnf)
   rw [List.take_length]
   exact ⟨[], [], _, _, _, t3, rfl, rfl, rfl⟩
end Go.M.Small
namespace Go.M
open Go Go.Proofs
set_option maxRecDepth 1000000
instance (x : Int) : Decidable (m5 x) := inferInstanceAs (Decidable (1 ≤ x ∧ x ≤ 5))
def withVal : BagF := fun pre cs => match pre with
 | [.int .u64 s] => grd (decide (s = 0) && cs.all (fun x => decide (m5 x)) && Nat.blt cs.length 1000000) (some (.int .u64 (withN 0 cs)))
 | _ => none
theorem withVal_some {ks : List Int} (h5 : ∀ w ∈ ks, m5 w) (hl : ks.length < 1000000) : withVal [.int .u64 0] ks = some (.int .u64 (withN 0 ks)) := by
 have h1 : ks.all (fun x => decide (m5 x)) = true := List.all_eq_true.2 fun w hw => decide_eq_true (h5 w hw)
 simp only [withVal, h1, blt_iff.2 hl, grd]
 rfl
theorem withBag : BagOk Try.prog 94 withVal := by
 intro pre cs v _ hv
 unfold withVal at hv
 split at hv
 ·rename_i s
  simp only [grd_some, Bool.and_eq_true, decide_eq_true_iff, List.all_eq_true, blt_iff, Option.some.injEq] at hv
  obtain ⟨⟨⟨rfl, h5⟩, hl⟩, rfl⟩ := hv
  refine ⟨rfl, fun m hp => ⟨fun m => .int .u64 (withN 0 m), fun m => (∀ x ∈ m, m5 x) ∧ m.length < 1000000, ?_, ?_, ?_⟩⟩
  ·exact onInts_of (E := Small.E0) (envOk _ _) orcNone follows0 (fun _ => rfl) (by simp [plain1]) (fun _ _ => rfl) fun m hm => (Small.with_ok 0 m (by decide) hm.1 hm.2).mono fun r o c h => h.1
  ·exact ⟨fun x hx => h5 x (hp.mem_iff.1 hx), by rw [hp.length_eq]; exact hl⟩
  ·exact congrArg (fun n : Nat => Value.int .u64 n) (withN_perm hp 0)
 ·cases hv
end Go.M
namespace Go.M
open Go Go.Proofs
noncomputable def E0 := envOf Try.prog (orcW [14, 43, 49] [(101, [123, 134, 127])] [(80, [123, 127])] [(86, minVal), (94, withVal)])
noncomputable def T0 := tE E0 [37, 39]
set_option maxRecDepth 100000
theorem rows0 : [37, 39].all (eqRow E0) = true := by kernel_rfl
theorem L0 : EnvLe T0 E0 := tE_le (fun t z h => by
 simp only [E0, envOf, Option.bind_eq_some_iff, grd_some, Option.some.injEq] at h
 obtain ⟨i, h1, z', h2, h3, rfl⟩ := h
 exact h3) rows0
theorem keys_ok (es : List (Value × TV)) : VC E0 87 1 [.mp 0] [(0, .map (kIdx .i64) es)] (fun r o c => r = .clo 123 [] [.ptr 1 0] ∧ c = 2 ∧ o = [(1, .cells [.mp 0]), (0, .map (kIdx .i64) es)]) := by
 refine VC.enterR L0 (show E0.func 87 = some Try.f87 by kernel_rfl) (fun _ _ => rfl) rfl rfl [] ?_
 ((conv=>whnf)<;>repeat(with_reducible refine D1 ?_)<;>conv=>whnf)
 exact ⟨[], [some 0, some 1], _, _, _, t3, rfl, rfl, rfl⟩
end Go.M
namespace Go.M
open Go Go.Proofs
set_option maxRecDepth 100000
set_option maxHeartbeats 2000000
@[reducible] def encI1 (n : Int) : List TV := [.s (.int .i64 n)]
def isMember (n : Int) : Bool := decide (n ≥ 1 ∧ n ≤ 63)
theorem member_ok (n : Int) : VC E0 126 0 [.s (.int .i64 n)] [] (RR (.s (.bool (isMember n))) 0 []) := by
 refine VC.enterR L0 (show E0.func 126 = some Try.f126 by kernel_rfl) (fun _ _ => rfl) rfl rfl [] ?_
 ((conv=>whnf)<;>repeat(with_reducible refine D1 ?_)<;>conv=>whnf)
 repeat' (first | ((first | (refine ⟨fun h => ?_, fun h => ?_⟩) | (refine nsplit (fun h => ?_) (fun h => ?_)) | (refine bsplit (fun h => ?_) (fun h => ?_))) <;> ((conv=>whnf)<;>repeat(with_reducible refine D1 ?_)<;>conv=>whnf)))
 all_goals (refine ⟨[], [], [], _, _, ⟨?_, .nil, rfl⟩, rfl, rfl, rfl⟩)
 all_goals (refine .s (Lz.of (bool_eq ?_)); simp [isMember, *]; try omega)
theorem with_ok (s : Nat) (L : List Int) (hs : ev64 s) (hL : ∀ x ∈ L, m5 x) (hl : L.length < 1000000) : VC E0 94 0 [.s (.int .u64 s), .sl 1 (L.map encI1) false] [] (RR (.s (.int .u64 (withN s L))) 0 []) := by
 refine VC.enterRO L0 (show E0.func 94 = some Try.f94 by kernel_rfl) (fun base ρ F h S vargs _ H => (bagK_sl (pre := [.s (.int .u64 s)]) H : bagK withVal vargs h = none)) rfl rfl [] ?_
 ((conv=>whnf)<;>repeat(with_reducible refine D1 ?_)<;>conv=>whnf)
 refine ⟨fun k f o c => ∃ j : Nat, j ≤ L.length ∧ k = L.length - j ∧ c = 0 ∧ f = [(0, .s (.int .u64 (withN s (L.take j)))), (9, .sl 1 (L.map encI1) false), (10, .s (.int .i64 L.length)), (11, .s (.int .i64 j))] ∧ o = [], ⟨L.length, ?_⟩, ?_⟩
 ·refine ⟨[], [], ?_⟩
  iterate 3 constructor
  refine ⟨⟨?_, ?_, ?_⟩, ⟨0, Nat.zero_le _, rfl, rfl, rfl, rfl⟩⟩
  all_goals (repeat' first|with_reducible exact Lz.rfl|exact Lw.rfl|exact Lz.wrap (by omega)|(unfold goInt;with_reducible exact Lz.rfl)|exact flx _|constructor)
  ·refine Lz.int ?_
   have := andNot1 s hs.1
   have h2 := hs.2
   rw [show s / 2 * 2 = s by omega] at this
   exact this
  all_goals exact Lz.of (by simp [goInt])
 ·rintro k f1 o1 c1 ⟨j, hj, rfl, rfl, rfl, rfl⟩
  ((conv=>whnf)<;>repeat(with_reducible refine D1 ?_)<;>conv=>whnf)
  (first|refine ⟨?_,?_⟩|refine nsplit ?_ ?_|refine bsplit ?_ ?_)<;>intro h<;>have hz_:=True.intro<;>clear hz_
  ·have h : j < L.length := by simpa using h
   have hw := withN_ev hs (fun x hx => hL x (List.mem_of_mem_take hx)) (L := L.take j)
   have hsn : withN s (L.take (j + 1)) = withN s (L.take j) ||| 2 ^ L[j].toNat := by rw [List.take_succ_eq_append_getElem h, withN_snoc]
   have hx := m5_cases (hL _ (List.getElem_mem h))
   generalize hwe : withN s (L.take j) = w at *
   ((conv=>whnf)<;>repeat(with_reducible refine D1 ?_)<;>conv=>whnf)
   refine idxI h ?_
   generalize hxe : L[j] = x at *
   rcases hx with rfl | rfl | rfl | rfl | rfl
   all_goals
    ((conv=>whnf)<;>repeat(with_reducible refine D1 ?_)<;>conv=>whnf)
    refine ⟨[], [], _, _, _, _, member_ok _, t3, ?_⟩
    rintro r o' c' ⟨rfl, rfl, rfl⟩
    ((conv=>whnf)<;>repeat(with_reducible refine D1 ?_)<;>conv=>whnf)
    refine ⟨L.length - (j + 1), ?_, by omega⟩
    refine ⟨[], [], ?_⟩
    iterate 3 constructor
    refine ⟨⟨?_, ?_, ?_⟩, ⟨j + 1, h, rfl, rfl, rfl, rfl⟩⟩
    all_goals (repeat' first|with_reducible exact Lz.rfl|exact Lw.rfl|exact Lz.wrap (by omega)|(unfold goInt;with_reducible exact Lz.rfl)|exact flx _|constructor)
    refine Lz.int ?_
    rw [hsn]
    exact orBit w hw.1 _ (by decide)
  ·have h' : j = L.length := by have : ¬ j < L.length := by simpa using h
                                omega
   subst h'
   ((conv=>whnf)<;>repeat(with_reducible refine D1 ?_)<;>conv=>whnf)
   rw [List.take_length]
   exact ⟨[], [], _, _, _, t3, rfl, rfl, rfl⟩
theorem ones_ok (s : Nat) (hs : s < 64) : VC E0 151 0 [.s (.int .u64 s)] [] (RR (.s (.int .i64 (popN s))) 0 []) := by
 refine VC.enterR L0 (show E0.func 151 = some Try.f151 by kernel_rfl) (fun _ _ => rfl) rfl rfl [] ?_
 ((conv=>whnf)<;>repeat(with_reducible refine D1 ?_)<;>conv=>whnf)
 refine ⟨[], [], ?_⟩
 iterate 3 constructor
 refine ⟨⟨?_, ?_, ?_⟩, rfl, rfl, rfl⟩
 all_goals (repeat' first|with_reducible exact Lz.rfl|exact Lw.rfl|exact Lz.wrap (by omega)|(unfold goInt;with_reducible exact Lz.rfl)|exact flx _|constructor)
 refine Lz.int ?_
 revert s
 decide +kernel
theorem count_ok (s : Nat) (hs : s < 64) : VC E0 128 0 [.s (.int .u64 s)] [] (RR (.s (.int .i64 (popN (s / 2 * 2)))) 0 []) := by
 refine VC.enterR L0 (show E0.func 128 = some Try.f128 by kernel_rfl) (fun _ _ => rfl) rfl rfl [] ?_
 ((conv=>whnf)<;>repeat(with_reducible refine D1 ?_)<;>conv=>whnf)
 refine ⟨[], [], [], _, _, _, ones_ok (s / 2 * 2) (by omega), ⟨.cons (.s (Lz.int (andNot1 s hs))) .nil, .nil, by rfl⟩, ?_⟩
 rintro r o' c' ⟨rfl, rfl, rfl⟩
 ((conv=>whnf)<;>repeat(with_reducible refine D1 ?_)<;>conv=>whnf)
 exact ⟨[], [], _, _, _, t3, rfl, rfl, rfl⟩
theorem quorum_ok (n : Int) (h : 1 ≤ n) (h2 : n ≤ 1000) : VC E0 129 0 [.s (.int .i64 n)] [] (RR (.s (.int .i64 (n.toNat / 2 + 1 : Nat))) 0 []) := by
 refine VC.enterR L0 (show E0.func 129 = some Try.f129 by kernel_rfl) (fun _ _ => rfl) rfl rfl [] ?_
 ((conv=>whnf)<;>repeat(with_reducible refine D1 ?_)<;>conv=>whnf)
 (first|refine ⟨?_,?_⟩|refine nsplit ?_ ?_|refine bsplit ?_ ?_)<;>intro h0<;>have hz_:=True.intro<;>clear hz_
 ·omega
 ·((conv=>whnf)<;>repeat(with_reducible refine D1 ?_)<;>conv=>whnf)
  refine ⟨[], [], ?_⟩
  iterate 3 constructor
  refine ⟨⟨?_, ?_, ?_⟩, rfl, rfl, rfl⟩
  all_goals (repeat' first|with_reducible exact Lz.rfl|exact Lw.rfl|exact Lz.wrap (by omega)|(unfold goInt;with_reducible exact Lz.rfl)|exact flx _|constructor)
  refine Lz.int ?_
  rw [Int.tdiv_eq_ediv_of_nonneg (by omega), IntWalk.i64_in (n / 2) (by omega), IntWalk.i64_in (n / 2 + 1) (by omega)]
  omega
theorem enough_ok (s : Nat) (n : Int) (hs : s < 64) (hn : m5 n) : VC E0 96 0 [.s (.int .u64 s), .s (.int .i64 n)] [] (RR (.s (.bool (enoughN s n))) 0 []) := by
 rcases m5_cases hn with rfl | rfl | rfl | rfl | rfl
 ·refine VC.enterR L0 (show E0.func 96 = some Try.f96 by kernel_rfl) (fun _ _ => rfl) rfl rfl [] ?_
  ((conv=>whnf)<;>repeat(with_reducible refine D1 ?_)<;>conv=>whnf)
  repeat ((first | (refine ⟨fun h_ => ?_, fun h_ => ?_⟩) | (refine nsplit (fun h_ => ?_) (fun h_ => ?_)) | (refine bsplit (fun h_ => ?_) (fun h_ => ?_))) <;> first | (exfalso; revert h_; decide; done) | (exact absurd rfl h_) | (have hz_ := True.intro; clear hz_; ((conv=>whnf)<;>repeat(with_reducible refine D1 ?_)<;>conv=>whnf)))
  refine ⟨[], [], [], _, _, _, count_ok (s &&& (2 ^ 2 - 1)) (Nat.lt_of_le_of_lt (Nat.and_le_left (n := s)) hs), ⟨.cons (.s (Lz.int (andMask s hs 2 (by decide)))) .nil, .nil, by rfl⟩, ?_⟩
  rintro r o' c' ⟨rfl, rfl, rfl⟩
  ((conv=>whnf)<;>repeat(with_reducible refine D1 ?_)<;>conv=>whnf)
  refine ⟨[], [], _, _, _, _, quorum_ok 1 (by decide) (by decide), t3, ?_⟩
  rintro r o' c' ⟨rfl, rfl, rfl⟩
  ((conv=>whnf)<;>repeat(with_reducible refine D1 ?_)<;>conv=>whnf)
  (first|refine ⟨?_,?_⟩|refine nsplit ?_ ?_|refine bsplit ?_ ?_)<;>intro hq<;>have hz_:=True.intro<;>clear hz_
  ·have hq : (popN ((s &&& (2 ^ 2 - 1)) / 2 * 2) : Int) ≥ (((1 : Int).toNat / 2 + 1 : Nat) : Int) := hq
   ((conv=>whnf)<;>repeat(with_reducible refine D1 ?_)<;>conv=>whnf)
   refine ⟨[], [], ?_⟩
   iterate 3 constructor
   refine ⟨⟨?_, ?_, ?_⟩, rfl, rfl, rfl⟩
   all_goals (repeat' first|with_reducible exact Lz.rfl|exact Lw.rfl|exact Lz.wrap (by omega)|(unfold goInt;with_reducible exact Lz.rfl)|exact flx _|constructor)
   exact Lz.of (bool_eq (Eq.symm (decide_eq_true (Int.ofNat_le.1 hq))))
  ·have hq : ¬ (popN ((s &&& (2 ^ 2 - 1)) / 2 * 2) : Int) ≥ (((1 : Int).toNat / 2 + 1 : Nat) : Int) := hq
   ((conv=>whnf)<;>repeat(with_reducible refine D1 ?_)<;>conv=>whnf)
   refine ⟨[], [], ?_⟩
   iterate 3 constructor
   refine ⟨⟨?_, ?_, ?_⟩, rfl, rfl, rfl⟩
   all_goals (repeat' first|with_reducible exact Lz.rfl|exact Lw.rfl|exact Lz.wrap (by omega)|(unfold goInt;with_reducible exact Lz.rfl)|exact flx _|constructor)
   exact Lz.of (bool_eq (Eq.symm (decide_eq_false fun h => hq (Int.ofNat_le.2 h))))
 ·refine VC.enterR L0 (show E0.func 96 = some Try.f96 by kernel_rfl) (fun _ _ => rfl) rfl rfl [] ?_
  ((conv=>whnf)<;>repeat(with_reducible refine D1 ?_)<;>conv=>whnf)
  repeat ((first | (refine ⟨fun h_ => ?_, fun h_ => ?_⟩) | (refine nsplit (fun h_ => ?_) (fun h_ => ?_)) | (refine bsplit (fun h_ => ?_) (fun h_ => ?_))) <;> first | (exfalso; revert h_; decide; done) | (exact absurd rfl h_) | (have hz_ := True.intro; clear hz_; ((conv=>whnf)<;>repeat(with_reducible refine D1 ?_)<;>conv=>whnf)))
  refine ⟨[], [], [], _, _, _, count_ok (s &&& (2 ^ 3 - 1)) (Nat.lt_of_le_of_lt (Nat.and_le_left (n := s)) hs), ⟨.cons (.s (Lz.int (andMask s hs 3 (by decide)))) .nil, .nil, by rfl⟩, ?_⟩
  rintro r o' c' ⟨rfl, rfl, rfl⟩
  ((conv=>whnf)<;>repeat(with_reducible refine D1 ?_)<;>conv=>whnf)
  refine ⟨[], [], _, _, _, _, quorum_ok 2 (by decide) (by decide), t3, ?_⟩
  rintro r o' c' ⟨rfl, rfl, rfl⟩
  ((conv=>whnf)<;>repeat(with_reducible refine D1 ?_)<;>conv=>whnf)
  (first|refine ⟨?_,?_⟩|refine nsplit ?_ ?_|refine bsplit ?_ ?_)<;>intro hq<;>have hz_:=True.intro<;>clear hz_
  ·have hq : (popN ((s &&& (2 ^ 3 - 1)) / 2 * 2) : Int) ≥ (((2 : Int).toNat / 2 + 1 : Nat) : Int) := hq
   ((conv=>whnf)<;>repeat(with_reducible refine D1 ?_)<;>conv=>whnf)
   refine ⟨[], [], ?_⟩
   iterate 3 constructor
   refine ⟨⟨?_, ?_, ?_⟩, rfl, rfl, rfl⟩
   all_goals (repeat' first|with_reducible exact Lz.rfl|exact Lw.rfl|exact Lz.wrap (by omega)|(unfold goInt;with_reducible exact Lz.rfl)|exact flx _|constructor)
   exact Lz.of (bool_eq (Eq.symm (decide_eq_true (Int.ofNat_le.1 hq))))
  ·have hq : ¬ (popN ((s &&& (2 ^ 3 - 1)) / 2 * 2) : Int) ≥ (((2 : Int).toNat / 2 + 1 : Nat) : Int) := hq
   ((conv=>whnf)<;>repeat(with_reducible refine D1 ?_)<;>conv=>whnf)
   refine ⟨[], [], ?_⟩
   iterate 3 constructor
   refine ⟨⟨?_, ?_, ?_⟩, rfl, rfl, rfl⟩
   all_goals (repeat' first|with_reducible exact Lz.rfl|exact Lw.rfl|exact Lz.wrap (by omega)|(unfold goInt;with_reducible exact Lz.rfl)|exact flx _|constructor)
   exact Lz.of (bool_eq (Eq.symm (decide_eq_false fun h => hq (Int.ofNat_le.2 h))))
 ·refine VC.enterR L0 (show E0.func 96 = some Try.f96 by kernel_rfl) (fun _ _ => rfl) rfl rfl [] ?_
  ((conv=>whnf)<;>repeat(with_reducible refine D1 ?_)<;>conv=>whnf)
  repeat ((first | (refine ⟨fun h_ => ?_, fun h_ => ?_⟩) | (refine nsplit (fun h_ => ?_) (fun h_ => ?_)) | (refine bsplit (fun h_ => ?_) (fun h_ => ?_))) <;> first | (exfalso; revert h_; decide; done) | (exact absurd rfl h_) | (have hz_ := True.intro; clear hz_; ((conv=>whnf)<;>repeat(with_reducible refine D1 ?_)<;>conv=>whnf)))
  refine ⟨[], [], [], _, _, _, count_ok (s &&& (2 ^ 4 - 1)) (Nat.lt_of_le_of_lt (Nat.and_le_left (n := s)) hs), ⟨.cons (.s (Lz.int (andMask s hs 4 (by decide)))) .nil, .nil, by rfl⟩, ?_⟩
  rintro r o' c' ⟨rfl, rfl, rfl⟩
  ((conv=>whnf)<;>repeat(with_reducible refine D1 ?_)<;>conv=>whnf)
  refine ⟨[], [], _, _, _, _, quorum_ok 3 (by decide) (by decide), t3, ?_⟩
  rintro r o' c' ⟨rfl, rfl, rfl⟩
  ((conv=>whnf)<;>repeat(with_reducible refine D1 ?_)<;>conv=>whnf)
  (first|refine ⟨?_,?_⟩|refine nsplit ?_ ?_|refine bsplit ?_ ?_)<;>intro hq<;>have hz_:=True.intro<;>clear hz_
  ·have hq : (popN ((s &&& (2 ^ 4 - 1)) / 2 * 2) : Int) ≥ (((3 : Int).toNat / 2 + 1 : Nat) : Int) := hq
   ((conv=>whnf)<;>repeat(with_reducible refine D1 ?_)<;>conv=>whnf)
   refine ⟨[], [], ?_⟩
   iterate 3 constructor
   refine ⟨⟨?_, ?_, ?_⟩, rfl, rfl, rfl⟩
   all_goals (repeat' first|with_reducible exact Lz.rfl|exact Lw.rfl|exact Lz.wrap (by omega)|(unfold goInt;with_reducible exact Lz.rfl)|exact flx _|constructor)
   exact Lz.of (bool_eq (Eq.symm (decide_eq_true (Int.ofNat_le.1 hq))))
  ·have hq : ¬ (popN ((s &&& (2 ^ 4 - 1)) / 2 * 2) : Int) ≥ (((3 : Int).toNat / 2 + 1 : Nat) : Int) := hq
   ((conv=>whnf)<;>repeat(with_reducible refine D1 ?_)<;>conv=>whnf)
   refine ⟨[], [], ?_⟩
   iterate 3 constructor
   refine ⟨⟨?_, ?_, ?_⟩, rfl, rfl, rfl⟩
   all_goals (repeat' first|with_reducible exact Lz.rfl|exact Lw.rfl|exact Lz.wrap (by omega)|(unfold goInt;with_reducible exact Lz.rfl)|exact flx _|constructor)
   exact Lz.of (bool_eq (Eq.symm (decide_eq_false fun h => hq (Int.ofNat_le.2 h))))
 ·refine VC.enterR L0 (show E0.func 96 = some Try.f96 by kernel_rfl) (fun _ _ => rfl) rfl rfl [] ?_
  ((conv=>whnf)<;>repeat(with_reducible refine D1 ?_)<;>conv=>whnf)
  repeat ((first | (refine ⟨fun h_ => ?_, fun h_ => ?_⟩) | (refine nsplit (fun h_ => ?_) (fun h_ => ?_)) | (refine bsplit (fun h_ => ?_) (fun h_ => ?_))) <;> first | (exfalso; revert h_; decide; done) | (exact absurd rfl h_) | (have hz_ := True.intro; clear hz_; ((conv=>whnf)<;>repeat(with_reducible refine D1 ?_)<;>conv=>whnf)))
  refine ⟨[], [], [], _, _, _, count_ok (s &&& (2 ^ 5 - 1)) (Nat.lt_of_le_of_lt (Nat.and_le_left (n := s)) hs), ⟨.cons (.s (Lz.int (andMask s hs 5 (by decide)))) .nil, .nil, by rfl⟩, ?_⟩
  rintro r o' c' ⟨rfl, rfl, rfl⟩
  ((conv=>whnf)<;>repeat(with_reducible refine D1 ?_)<;>conv=>whnf)
  refine ⟨[], [], _, _, _, _, quorum_ok 4 (by decide) (by decide), t3, ?_⟩
  rintro r o' c' ⟨rfl, rfl, rfl⟩
  ((conv=>whnf)<;>repeat(with_reducible refine D1 ?_)<;>conv=>whnf)
  (first|refine ⟨?_,?_⟩|refine nsplit ?_ ?_|refine bsplit ?_ ?_)<;>intro hq<;>have hz_:=True.intro<;>clear hz_
  ·have hq : (popN ((s &&& (2 ^ 5 - 1)) / 2 * 2) : Int) ≥ (((4 : Int).toNat / 2 + 1 : Nat) : Int) := hq
   ((conv=>whnf)<;>repeat(with_reducible refine D1 ?_)<;>conv=>whnf)
   refine ⟨[], [], ?_⟩
   iterate 3 constructor
   refine ⟨⟨?_, ?_, ?_⟩, rfl, rfl, rfl⟩
   all_goals (repeat' first|with_reducible exact Lz.rfl|exact Lw.rfl|exact Lz.wrap (by omega)|(unfold goInt;with_reducible exact Lz.rfl)|exact flx _|constructor)
   exact Lz.of (bool_eq (Eq.symm (decide_eq_true (Int.ofNat_le.1 hq))))
  ·have hq : ¬ (popN ((s &&& (2 ^ 5 - 1)) / 2 * 2) : Int) ≥ (((4 : Int).toNat / 2 + 1 : Nat) : Int) := hq
   ((conv=>whnf)<;>repeat(with_reducible refine D1 ?_)<;>conv=>whnf)
   refine ⟨[], [], ?_⟩
   iterate 3 constructor
   refine ⟨⟨?_, ?_, ?_⟩, rfl, rfl, rfl⟩
   all_goals (repeat' first|with_reducible exact Lz.rfl|exact Lw.rfl|exact Lz.wrap (by omega)|(unfold goInt;with_reducible exact Lz.rfl)|exact flx _|constructor)
   exact Lz.of (bool_eq (Eq.symm (decide_eq_false fun h => hq (Int.ofNat_le.2 h))))
 ·refine VC.enterR L0 (show E0.func 96 = some Try.f96 by kernel_rfl) (fun _ _ => rfl) rfl rfl [] ?_
  ((conv=>whnf)<;>repeat(with_reducible refine D1 ?_)<;>conv=>whnf)
  repeat ((first | (refine ⟨fun h_ => ?_, fun h_ => ?_⟩) | (refine nsplit (fun h_ => ?_) (fun h_ => ?_)) | (refine bsplit (fun h_ => ?_) (fun h_ => ?_))) <;> first | (exfalso; revert h_; decide; done) | (exact absurd rfl h_) | (have hz_ := True.intro; clear hz_; ((conv=>whnf)<;>repeat(with_reducible refine D1 ?_)<;>conv=>whnf)))
  refine ⟨[], [], [], _, _, _, count_ok (s &&& (2 ^ 6 - 1)) (Nat.lt_of_le_of_lt (Nat.and_le_left (n := s)) hs), ⟨.cons (.s (Lz.int (andMask s hs 6 (by decide)))) .nil, .nil, by rfl⟩, ?_⟩
  rintro r o' c' ⟨rfl, rfl, rfl⟩
  ((conv=>whnf)<;>repeat(with_reducible refine D1 ?_)<;>conv=>whnf)
  refine ⟨[], [], _, _, _, _, quorum_ok 5 (by decide) (by decide), t3, ?_⟩
  rintro r o' c' ⟨rfl, rfl, rfl⟩
  ((conv=>whnf)<;>repeat(with_reducible refine D1 ?_)<;>conv=>whnf)
  (first|refine ⟨?_,?_⟩|refine nsplit ?_ ?_|refine bsplit ?_ ?_)<;>intro hq<;>have hz_:=True.intro<;>clear hz_
  ·have hq : (popN ((s &&& (2 ^ 6 - 1)) / 2 * 2) : Int) ≥ (((5 : Int).toNat / 2 + 1 : Nat) : Int) := hq
   ((conv=>whnf)<;>repeat(with_reducible refine D1 ?_)<;>conv=>whnf)
   refine ⟨[], [], ?_⟩
   iterate 3 constructor
   refine ⟨⟨?_, ?_, ?_⟩, rfl, rfl, rfl⟩
   all_goals (repeat' first|with_reducible exact Lz.rfl|exact Lw.rfl|exact Lz.wrap (by omega)|(unfold goInt;with_reducible exact Lz.rfl)|exact flx _|constructor)
   exact Lz.of (bool_eq (Eq.symm (decide_eq_true (Int.ofNat_le.1 hq))))
  ·have hq : ¬ (popN ((s &&& (2 ^ 6 - 1)) / 2 * 2) : Int) ≥ (((5 : Int).toNat / 2 + 1 : Nat) : Int) := hq
   ((conv=>whnf)<;>repeat(with_reducible refine D1 ?_)<;>conv=>whnf)
   refine ⟨[], [], ?_⟩
   iterate 3 constructor
   refine ⟨⟨?_, ?_, ?_⟩, rfl, rfl, rfl⟩
   all_goals (repeat' first|with_reducible exact Lz.rfl|exact Lw.rfl|exact Lz.wrap (by omega)|(unfold goInt;with_reducible exact Lz.rfl)|exact flx _|constructor)
   exact Lz.of (bool_eq (Eq.symm (decide_eq_false fun h => hq (Int.ofNat_le.2 h))))
end Go.M
namespace Go.M
open Go Go.Proofs
set_option maxRecDepth 100000
structure Vote where
 slot : Int
 ballot : Int
 kind : Int
 chain : Int
 epoch : Int
 node : Int
def encV (v : Vote) : List TV := [.s (.int .i64 v.slot), .s (.int .u64 v.ballot), .s (.int .i64 v.kind), .s (.int .i64 v.chain), .s (.int .u64 v.epoch), .s (.int .i64 v.node)]
def encE (e : Int × Vote) : Value × TV := (.int .i64 e.1, .agg (encV e.2))
theorem has101 : (E0.func 101).isSome = true := by kernel_rfl
theorem sorted_ok (kd : Nat) (es : List (Int × Vote)) (hok : ksOk (es.map (·.1))) : VC E0 101 2 [.clo 123 [] [.ptr 1 0]] [(0, .map kd (es.map encE)), (1, .cells [.mp 0])] (fun r o c => r = .tk 2 ∧ c = 3 ∧
      o = [(2, .arr 1 true ((sortZ (es.map (·.1))).map fun n => [.s (.int .i64 n)])), (0, .map kd (es.map encE)), (1, .cells [.mp 0])]) := by
 have := VC.sorted (E := E0) (g := 101) (its := [123, 134, 127]) (k := 123) has101 (fun _ _ => rfl) rfl (kd := kd) (es := es.map fun e => (e.1, TV.agg (encV e.2))) (by rw [List.map_map]; exact hok)
 rw [List.map_map, List.map_map] at this
 exact this
def getE (es : List (Int × Vote)) (n : Int) : Vote := match es.find? (fun e => e.1 == n) with | some e => e.2 | none => ⟨0, 0, 0, 0, 0, 0⟩
def rising (es : List (Int × Vote)) (frm : Int) (ks : List Int) : List Vote := (ks.filter fun n => decide (frm ≤ n)).map (getE es)
@[reducible] def RisF (frm : Int) (n i : Nat) : Fr := [(0, .mp 0), (1, .s (.int .i64 frm)), (5, .tk 1), (10, .tk 2), (11, .s (.int .i64 n)), (12, .s (.int .i64 i))]
@[reducible] def RisO (kd : Nat) (es : List (Int × Vote)) (frm : Int) (ks : List Int) (i : Nat) : Ob := [(0, .map kd (es.map encE)), (1, .arr 6 true ((rising es frm (ks.take i)).map encV)), (2, .arr 1 true (ks.map fun n => [.s (.int .i64 n)]))]
def RisInv (kd : Nat) (es : List (Int × Vote)) (frm : Int) (ks : List Int) (k : Nat) (f : Fr) (o : Ob) (c : Nat) : Prop :=
 ∃ i : Nat, i ≤ ks.length ∧ k = ks.length - i ∧ c = 3 ∧ f = RisF frm ks.length i ∧ o = RisO kd es frm ks i
theorem look_enc (es : List (Int × Vote)) (n : Int) (h : n ∈ es.map (·.1)) : lookM (es.map encE) (.int .i64 n) = some (.agg (encV (getE es n))) := by
 induction es with
 | nil => simp at h
 | cons e es ih =>
  rw [List.map_cons]
  unfold lookM
  by_cases he : e.1 = n
  ·have : keq (.int .i64 n) (encE e).1 = true := by simp [keq, encE, he]
   rw [this]
   simp [encE, getE, he]
  ·have : keq (.int .i64 n) (encE e).1 = false := by simp [keq, encE]; exact fun h => he h.symm
   rw [this]
   have := ih (by rw [List.map_cons] at h; rcases List.mem_cons.1 h with h | h; exact absurd h.symm he; exact h)
   simp only [this]
   simp [getE, he]
theorem rising_snoc (es : List (Int × Vote)) (frm : Int) (ks : List Int) (i : Nat) (h : i < ks.length) : rising es frm (ks.take (i + 1)) = rising es frm (ks.take i) ++ (if frm ≤ ks[i] then [getE es ks[i]] else []) := by
 unfold rising
 rw [List.take_succ_eq_append_getElem h, List.filter_append, List.map_append]
 by_cases hf : frm ≤ ks[i] <;> simp [hf]
theorem rising_ok (es : List (Int × Vote)) (frm : Int) (hok : ksOk (es.map (·.1))) (hes : es.length < 1000000) : VC E0 84 1 [.mp 0, .s (.int .i64 frm)] [(0, .map (kIdx .i64) (es.map encE))] (fun r o c => r = .tk 1 ∧ c = 2 ∧ o = [(1, .arr 6 true ((rising es frm (sortZ (es.map (·.1)))).map encV)), (0, .map (kIdx .i64) (es.map encE))]) := by
 refine VC.enterR L0 (show E0.func 84 = some Try.f84 by kernel_rfl) (fun _ _ => rfl) rfl rfl [] ?_
 ((conv=>whnf)<;>repeat(with_reducible refine D1 ?_)<;>conv=>whnf)
 refine ⟨[], [some 0], _, _, _, _, keys_ok (es.map encE), t3, ?_⟩
 rintro r o' c' ⟨rfl, rfl, rfl⟩
 ((conv=>whnf)<;>repeat(with_reducible refine D1 ?_)<;>conv=>whnf)
 refine ⟨[], [some 0, some 2], _, _, _, _, sorted_ok (kIdx .i64) es hok, t3, ?_⟩
 rintro r o' c' ⟨rfl, rfl, rfl⟩
 ((conv=>whnf)<;>repeat(with_reducible refine D1 ?_)<;>conv=>whnf)
 have hmem : ∀ x ∈ sortZ (es.map (·.1)), x ∈ es.map (·.1) := fun x hx => (List.mergeSort_perm _ _).mem_iff.1 hx
 have hl0 : (sortZ (es.map (·.1))).length ≤ 1099511627776 := by rw [sortZ_len]; exact hok.1
 have hl1 : (sortZ (es.map (·.1))).length < 1000000 := by rw [sortZ_len]; simpa using hes
 generalize hks : sortZ (es.map (·.1)) = ks at *
 refine ⟨RisInv (kIdx .i64) es frm ks, ⟨ks.length, ?_⟩, ?_⟩
 ·refine ⟨[], [some 0, none, some 5], ?_⟩
  iterate 3 constructor
  refine ⟨⟨?_, ?_, ?_⟩, ⟨0, Nat.zero_le _, rfl, rfl, rfl, rfl⟩⟩
  all_goals (repeat' first|with_reducible exact Lz.rfl|exact Lw.rfl|exact Lz.wrap (by omega)|(unfold goInt;with_reducible exact Lz.rfl)|exact flx _|constructor)
  exact Lz.of (by simp [goInt])
 ·rintro k f1 o1 c1 ⟨i, hi, rfl, rfl, rfl, rfl⟩
  ((conv=>whnf)<;>repeat(with_reducible refine D1 ?_)<;>conv=>whnf)
  (first|refine ⟨?_,?_⟩|refine nsplit ?_ ?_|refine bsplit ?_ ?_)<;>intro hil<;>have hz_:=True.intro<;>clear hz_
  ·have hil : i < ks.length := by simpa using hil
   ((conv=>whnf)<;>repeat(with_reducible refine D1 ?_)<;>conv=>whnf)
   refine ⟨⟨by omega, by simp; omega⟩, [.s (.int .i64 ks[i])], by simp [hil], ?_⟩
   ((conv=>whnf)<;>repeat(with_reducible refine D1 ?_)<;>conv=>whnf)
   (first|refine ⟨?_,?_⟩|refine nsplit ?_ ?_|refine bsplit ?_ ?_)<;>intro hf<;>have hz_:=True.intro<;>clear hz_
   ·have hf : frm ≤ ks[i] := hf
    ((conv=>whnf)<;>repeat(with_reducible refine D1 ?_)<;>conv=>whnf)
    refine ⟨_, look_enc es ks[i] (hmem _ (List.getElem_mem hil)), ?_⟩
    ((conv=>whnf)<;>repeat(with_reducible refine D1 ?_)<;>conv=>whnf)
    have hle : (rising es frm (ks.take i)).length ≤ ks.length := by
     unfold rising
     rw [List.length_map]
     exact Nat.le_trans (List.length_filter_le _ _) (by rw [List.length_take]; omega)
    refine ⟨by simp; omega, ?_⟩
    ((conv=>whnf)<;>repeat(with_reducible refine D1 ?_)<;>conv=>whnf)
    refine ⟨ks.length - (i + 1), ?_, by omega⟩
    refine ⟨[], [some 0, some 4, some 2], ?_⟩
    iterate 3 constructor
    refine ⟨⟨?_, ?_, ?_⟩, ⟨i + 1, hil, rfl, rfl, rfl, rfl⟩⟩
    all_goals (repeat' first|with_reducible exact Lz.rfl|exact Lw.rfl|exact Lz.wrap (by omega)|(unfold goInt;with_reducible exact Lz.rfl)|exact flx _|constructor)
    ·rw [rising_snoc _ _ _ _ hil, if_pos hf, List.map_append]; exact Lz.rfl
   ·have hf : ¬ frm ≤ ks[i] := hf
    ((conv=>whnf)<;>repeat(with_reducible refine D1 ?_)<;>conv=>whnf)
    refine ⟨ks.length - (i + 1), ?_, by omega⟩
    refine ⟨[], [some 0, some 1, some 2], ?_⟩
    iterate 3 constructor
    refine ⟨⟨?_, ?_, ?_⟩, ⟨i + 1, hil, rfl, rfl, rfl, rfl⟩⟩
    all_goals (repeat' first|with_reducible exact Lz.rfl|exact Lw.rfl|exact Lz.wrap (by omega)|(unfold goInt;with_reducible exact Lz.rfl)|exact flx _|constructor)
    ·rw [rising_snoc _ _ _ _ hil, if_neg hf, List.append_nil]; exact Lz.rfl
  ·have hil : ¬ i < ks.length := by simpa using hil
   ((conv=>whnf)<;>repeat(with_reducible refine D1 ?_)<;>conv=>whnf)
   refine ⟨[], [some 0, some 1], ?_⟩
   iterate 3 constructor
   refine ⟨⟨?_, ?_, ?_⟩, rfl, rfl, rfl⟩
   all_goals (repeat' first|with_reducible exact Lz.rfl|exact Lw.rfl|exact Lz.wrap (by omega)|(unfold goInt;with_reducible exact Lz.rfl)|exact flx _|constructor)
   rw [List.take_of_length_le (by omega)]; exact Lz.rfl
end Go.M
namespace Go.M
open Go Go.Proofs
set_option maxRecDepth 100000
@[reducible] def mapO (es : List (Int × Vote)) : TO := .map (kIdx .i64) (es.map encE)
@[reducible] def arV (l : List Vote) : TO := .arr 6 true (l.map encV)
@[reducible] def accO (p : Int) (m : Nat) : TO := .cells [.s (.int .u64 p), .mp m]
def votesOf (es : List (Int × Vote)) (frm : Int) : List Vote := rising es frm (sortZ (es.map (·.1)))
end Go.M
namespace Go.M
open Go Go.Proofs
set_option maxRecDepth 100000
def isMaster (n : Int) : Bool := decide (n ≥ 1 ∧ n ≤ 5)
theorem master_ok (n : Int) : VC E0 122 0 [.s (.int .i64 n)] [] (fun r o c => r = .s (.bool (isMaster n)) ∧ c = 0 ∧ o = []) := by
 refine VC.enterR L0 (show E0.func 122 = some Try.f122 by kernel_rfl) (fun _ _ => rfl) rfl rfl [] ?_
 ((conv=>whnf)<;>repeat(with_reducible refine D1 ?_)<;>conv=>whnf)
 repeat' (first | ((first | (refine ⟨fun h => ?_, fun h => ?_⟩) | (refine nsplit (fun h => ?_) (fun h => ?_)) | (refine bsplit (fun h => ?_) (fun h => ?_))) <;> ((conv=>whnf)<;>repeat(with_reducible refine D1 ?_)<;>conv=>whnf)))
 all_goals (refine ⟨[], [], [], _, _, ⟨?_, .nil, rfl⟩, rfl, rfl, rfl⟩)
 all_goals (refine .s (Lz.of (bool_eq ?_)); simp [isMaster, *]; try omega)
def isBallot (b : Int) : Bool := decide (IntKind.u64.wrap (b.tdiv 8) ≥ 1) && decide (IntKind.u64.wrap (b.tdiv 8) < 1152921504606846976) && isMaster (IntKind.i64.wrap (b.tmod 8))
end Go.M
namespace Go.M
open Go Go.Proofs
set_option maxRecDepth 100000
def prepS (p b : Int) (es : List (Int × Vote)) (frm : Int) : Int × List Vote × Int :=
 if isBallot b = false ∨ frm < 0 ∨ frm > 512 then (p, [], 1) else if b < p then (p, [], 10) else (b, votesOf es frm, 0)
def PrepR (es : List (Int × Vote)) (q : Int × List Vote × Int) (r : TV) (o : Ob) (c : Nat) : Prop :=
 r = .tup [.tk 2, .s (.int .i64 q.2.2)] ∧ c = 3 ∧ o = [(2, arV q.2.1), (0, accO q.1 1), (1, mapO es)]
end Go.M
namespace Go.M
open Go Go.Proofs
set_option maxRecDepth 100000
def lookE : List (Int × Vote) → Int → Option Vote
 | [], _ => none
 | e :: es, n => if n = e.1 then some e.2 else lookE es n
theorem lookM_enc (n : Int) : ∀ es : List (Int × Vote), lookM (es.map encE) (.int .i64 n) = (lookE es n).map fun w => .agg (encV w)
 | [] => rfl
 | e :: es => by
  rw [List.map_cons]
  unfold lookM lookE
  by_cases he : n = e.1
  ·have : keq (.int .i64 n) (encE e).1 = true := by simp [keq, encE, he]
   rw [this, if_pos he]; rfl
  ·have : keq (.int .i64 n) (encE e).1 = false := by simp [keq, encE, he]
   rw [this, if_neg he]; exact lookM_enc n es
def noVote : Vote := ⟨0, 0, 0, 0, 0, 0⟩
end Go.M
namespace Go.M
open Go Go.Proofs
def putE : List (Int × Vote) → Int → Vote → List (Int × Vote)
 | [], n, v => [(n, v)]
 | e :: es, n, v => if n = e.1 then (n, v) :: es else e :: putE es n v
theorem putM_enc (n : Int) (v : Vote) : ∀ es : List (Int × Vote), putM (es.map encE) (.int .i64 n) (.agg (encV v)) = (putE es n v).map encE
 | [] => rfl
 | e :: es => by
  rw [List.map_cons]
  unfold putM putE
  by_cases he : n = e.1
  ·have : keq (.int .i64 n) (encE e).1 = true := by simp [keq, encE, he]
   rw [this, if_pos he]; rfl
  ·have : keq (.int .i64 n) (encE e).1 = false := by simp [keq, encE, he]
   rw [this, if_neg he]; simp [putM_enc n v es]
theorem putE_mem {n : Int} {v : Vote} {x : Int × Vote} : ∀ {es : List (Int × Vote)}, (es.map (·.1)).Nodup → (x ∈ putE es n v ↔ x = (n, v) ∨ x.1 ≠ n ∧ x ∈ es)
 | [], _ => by simp [putE]
 | e :: es, h => by
  simp only [List.map_cons, List.nodup_cons] at h
  unfold putE
  split
  ·rename_i he
   have : ∀ y ∈ es, y.1 ≠ n := fun y hy e1 => h.1 (by rw [← he, ← e1]; exact List.mem_map_of_mem hy)
   grind
  ·have := putE_mem (n := n) (v := v) (x := x) h.2
   grind
theorem putE_keys {n : Int} {v : Vote} : ∀ {es : List (Int × Vote)}, (putE es n v).map (·.1) = if n ∈ es.map (·.1) then es.map (·.1) else es.map (·.1) ++ [n]
 | [] => by simp [putE]
 | e :: es => by
  have := putE_keys (n := n) (v := v) (es := es)
  unfold putE
  split
  ·rename_i he; subst he; simp
  ·rename_i he
   simp only [List.map_cons, this, List.mem_cons, he, false_or]
   split <;> simp
theorem putE_nodup {n : Int} {v : Vote} {es : List (Int × Vote)} (h : (es.map (·.1)).Nodup) : ((putE es n v).map (·.1)).Nodup := by
 rw [putE_keys]
 split
 ·exact h
 ·rename_i hn
  rw [List.nodup_append]
  refine ⟨h, by simp, fun a ha b hb => ?_⟩
  simp only [List.mem_singleton] at hb
  subst hb
  intro e; subst e; exact hn ha
def SS (l : List Vote) : Prop := l.Pairwise fun a b => a.slot < b.slot
theorem SS.ext {l l' : List Vote} (h : SS l) (h' : SS l') (hm : ∀ x, x ∈ l ↔ x ∈ l') : l = l' := by
 have nd : ∀ {l : List Vote}, SS l → l.Nodup := fun h => h.imp fun h e => by subst e; omega
 refine List.Perm.eq_of_pairwise (le := fun a b : Vote => a.slot < b.slot) (fun a b _ _ h1 h2 => by omega) h h' ?_
 exact (List.perm_ext_iff_of_nodup (nd h) (nd h')).2 hm
def put : List Vote → Vote → List Vote
 | [], v => [v]
 | x :: l, v => if x.slot < v.slot then x :: put l v else if x.slot = v.slot then v :: l else v :: x :: l
theorem put_mem {v x : Vote} : ∀ {l : List Vote}, SS l → (x ∈ put l v ↔ x = v ∨ x.slot ≠ v.slot ∧ x ∈ l)
 | [], _ => by simp [put]
 | y :: l, h => by
  unfold SS at h
  rw [List.pairwise_cons] at h
  have ih := put_mem (v := v) (x := x) (l := l) h.2
  unfold put
  split
  ·have := h.1; grind
  ·split
   ·have := h.1; grind
   ·have := h.1; grind
theorem put_SS {v : Vote} : ∀ {l : List Vote}, SS l → SS (put l v)
 | [], _ => by simp [put, SS]
 | y :: l, h => by
  have h0 := h
  unfold SS at h
  rw [List.pairwise_cons] at h
  unfold put
  split
  ·unfold SS
   rw [List.pairwise_cons]
   refine ⟨fun a ha => ?_, put_SS h.2⟩
   rw [put_mem h.2] at ha
   rcases ha with rfl | ⟨_, ha⟩
   ·assumption
   ·exact h.1 a ha
  ·split
   ·unfold SS
    rw [List.pairwise_cons]
    exact ⟨fun a ha => by have := h.1 a ha; omega, h.2⟩
   ·unfold SS
    rw [List.pairwise_cons]
    refine ⟨fun a ha => ?_, h0⟩
    rcases List.mem_cons.1 ha with rfl | ha
    ·omega
    ·have := h.1 a ha; omega
structure MV (es : List (Int × Vote)) : Prop where
 nd : (es.map (·.1)).Nodup
 key : ∀ e ∈ es, e.2.slot = e.1
def allV (es : List (Int × Vote)) : List Vote := (sortZ (es.map (·.1))).map (getE es)
theorem getE_mem {es : List (Int × Vote)} (h : MV es) {e : Int × Vote} (he : e ∈ es) : getE es e.1 = e.2 := by
 unfold getE
 have : es.find? (fun x => x.1 == e.1) = some e := by
  have nd := h.nd
  clear h
  induction es with
  | nil => simp at he
  | cons y es ih =>
   simp only [List.map_cons, List.nodup_cons] at nd
   rcases List.mem_cons.1 he with rfl | he
   ·simp
   ·have : y.1 ≠ e.1 := fun e1 => nd.1 (by rw [e1]; exact List.mem_map_of_mem he)
    simp [this, ih he nd.2]
 rw [this]
theorem mem_sortZ {ks : List Int} {x : Int} : x ∈ sortZ ks ↔ x ∈ ks := (List.mergeSort_perm ks _).mem_iff
theorem sortZ_pw (ks : List Int) : (sortZ ks).Pairwise (· ≤ ·) := by
 have tr : ∀ a b c : Int, decide (a ≤ b) = true → decide (b ≤ c) = true → decide (a ≤ c) = true := fun a b c h1 h2 => by simp only [decide_eq_true_eq] at *; omega
 have to : ∀ a b : Int, (decide (a ≤ b) || decide (b ≤ a)) = true := fun a b => by simp only [Bool.or_eq_true, decide_eq_true_eq]; omega
 exact (List.pairwise_mergeSort tr to ks).imp fun h => by simpa using h
theorem sortZ_lt {ks : List Int} (h : ks.Nodup) : (sortZ ks).Pairwise (· < ·) := by
 have h2 : (sortZ ks).Nodup := (List.mergeSort_perm ks _).nodup_iff.2 h
 exact ((sortZ_pw ks).and h2).imp fun h => by omega
theorem getE_slot {es : List (Int × Vote)} (h : MV es) {n : Int} (hn : n ∈ es.map (·.1)) : (getE es n).slot = n := by
 obtain ⟨e, he, rfl⟩ := List.mem_map.1 hn
 rw [getE_mem h he, h.key e he]
theorem allV_SS {es : List (Int × Vote)} (h : MV es) : SS (allV es) := by
 unfold SS allV
 rw [List.pairwise_map]
 refine (List.Pairwise.and_mem.1 (sortZ_lt h.nd)).imp fun {a b} hab => ?_
 rw [getE_slot h (mem_sortZ.1 hab.1), getE_slot h (mem_sortZ.1 hab.2.1)]
 exact hab.2.2
theorem mem_allV {es : List (Int × Vote)} (h : MV es) {x : Vote} : x ∈ allV es ↔ (x.slot, x) ∈ es := by
 unfold allV
 rw [List.mem_map]
 constructor
 ·rintro ⟨n, hn, rfl⟩
  rw [mem_sortZ] at hn
  obtain ⟨e, he, rfl⟩ := List.mem_map.1 hn
  rw [getE_mem h he, h.key e he]
  exact he
 ·intro hx
  exact ⟨x.slot, mem_sortZ.2 (List.mem_map.2 ⟨_, hx, rfl⟩), getE_mem h hx⟩
theorem allV_len (es : List (Int × Vote)) : (allV es).length = es.length := by simp [allV, sortZ]
theorem rising_all {es : List (Int × Vote)} (h : MV es) (frm : Int) : rising es frm (sortZ (es.map (·.1))) = (allV es).filter fun v => decide (frm ≤ v.slot) := by
 unfold rising allV
 rw [List.filter_map]
 congr 1
 refine List.filter_congr fun n hn => ?_
 simp only [Function.comp_apply]
 rw [getE_slot h (mem_sortZ.1 hn)]
theorem MV.put {es : List (Int × Vote)} (h : MV es) (v : Vote) : MV (putE es v.slot v) := by
 refine ⟨putE_nodup h.nd, fun e he => ?_⟩
 rw [putE_mem h.nd] at he
 rcases he with rfl | ⟨_, he⟩
 ·rfl
 ·exact h.key e he
theorem allV_put {es : List (Int × Vote)} (h : MV es) (v : Vote) : allV (putE es v.slot v) = put (allV es) v := by
 refine (allV_SS (h.put v)).ext (put_SS (allV_SS h)) fun x => ?_
 rw [mem_allV (h.put v), putE_mem h.nd, put_mem (allV_SS h), mem_allV h]
 constructor
 ·rintro (hx | ⟨h1, h2⟩)
  ·left; exact congrArg Prod.snd hx
  ·right; exact ⟨h1, h2⟩
 ·rintro (hx | ⟨h1, h2⟩)
  ·left; rw [hx]
  ·right; exact ⟨h1, h2⟩
def atS (l : List Vote) (slot : Int) : Option Vote := l.find? fun v => v.slot == slot
theorem lookE_some {n : Int} {v : Vote} : ∀ {es : List (Int × Vote)}, (es.map (·.1)).Nodup → (lookE es n = some v ↔ (n, v) ∈ es)
 | [], _ => by simp [lookE]
 | e :: es, h => by
  simp only [List.map_cons, List.nodup_cons] at h
  have ih := lookE_some (n := n) (v := v) h.2
  unfold lookE
  split
  ·rename_i he
   have : ∀ y ∈ es, y.1 ≠ n := fun y hy e1 => h.1 (by rw [← he, ← e1]; exact List.mem_map_of_mem hy)
   grind
  ·grind
theorem atS_some {l : List Vote} (h : SS l) {n : Int} {v : Vote} : atS l n = some v ↔ v ∈ l ∧ v.slot = n := by
 unfold atS
 induction l with
 | nil => simp
 | cons y l ih =>
  unfold SS at h
  rw [List.pairwise_cons] at h
  have := ih h.2
  have h1 := h.1
  rw [List.find?_cons]
  split <;> grind
theorem opt_eq {α : Type} {a b : Option α} (h : ∀ x, a = some x ↔ b = some x) : a = b := by
 cases a with
 | none => cases b with
  | none => rfl
  | some y => exact absurd ((h y).2 rfl) (by simp)
 | some x => exact ((h x).1 rfl).symm
theorem lookE_at {es : List (Int × Vote)} (h : MV es) (n : Int) : lookE es n = atS (allV es) n := by
 refine opt_eq fun x => ?_
 rw [lookE_some h.nd, atS_some (allV_SS h), mem_allV h]
 constructor
 ·intro hx
  have := h.key _ hx
  simp only at this
  subst this
  exact ⟨hx, rfl⟩
 ·rintro ⟨hx, rfl⟩; exact hx
end Go.M
namespace Go.M
open Go Go.Proofs
set_option maxRecDepth 100000
def checkS (k ch ep nd : Int) : Int := if k < 0 ∨ k ≥ 5 then 1 else if k = 0 then (if ch ≠ 0 ∨ ep ≠ 0 ∨ nd ≠ 0 then 4 else 0) else if ch < 0 ∨ ch ≥ 4 ∨ ep < 1 ∨ nd < 1 ∨ nd > 24 then 4 else 0
@[reducible] def cmdT (k ch ep nd : Int) : TV := .agg [.s (.int .i64 k), .s (.int .i64 ch), .s (.int .u64 ep), .s (.int .i64 nd)]
theorem check_ok (k ch ep nd : Int) : VC E0 70 0 [cmdT k ch ep nd] [] (RR (.s (.int .i64 (checkS k ch ep nd))) 0 []) := by
 refine VC.enterR L0 (show E0.func 70 = some Try.f70 by kernel_rfl) (fun _ _ => rfl) rfl rfl [] ?_
 ((conv=>whnf)<;>repeat(with_reducible refine D1 ?_)<;>conv=>whnf)
 repeat' (first | ((first | (refine ⟨fun h => ?_, fun h => ?_⟩) | (refine nsplit (fun h => ?_) (fun h => ?_)) | (refine bsplit (fun h => ?_) (fun h => ?_))) <;> ((conv=>whnf)<;>repeat(with_reducible refine D1 ?_)<;>conv=>whnf)))
 all_goals (refine ⟨[], [], [], _, _, ⟨?_, .nil, rfl⟩, rfl, rfl, rfl⟩)
 all_goals (refine .s (Lz.int ?_); simp [veq1, checkS] at *; grind)
theorem refCheck_ok (k ch ep nd : Int) (he : 0 ≤ ep) : VC E0 66 0 [cmdT k ch ep nd] [] (RR (.s (.int .i64 (checkS k ch ep nd))) 0 []) := by
 refine VC.enterR L0 (show E0.func 66 = some Try.f66 by kernel_rfl) (fun _ _ => rfl) rfl rfl [] ?_
 ((conv=>whnf)<;>repeat(with_reducible refine D1 ?_)<;>conv=>whnf)
 repeat' (first | ((first | (refine ⟨fun h => ?_, fun h => ?_⟩) | (refine nsplit (fun h => ?_) (fun h => ?_)) | (refine bsplit (fun h => ?_) (fun h => ?_))) <;> ((conv=>whnf)<;>repeat(with_reducible refine D1 ?_)<;>conv=>whnf)))
 all_goals (refine ⟨[], [], [], _, _, ⟨?_, .nil, rfl⟩, rfl, rfl, rfl⟩)
 all_goals (refine .s (Lz.int ?_); simp [checkS] at *; grind)
end Go.M
namespace Go.M
open Go Go.Proofs
set_option maxRecDepth 100000
noncomputable def eqB {α : Type} (a b : α) : Bool := @decide (a = b) (Classical.propDecidable _)
theorem eqB_iff {α : Type} {a b : α} : eqB a b = true ↔ a = b := by unfold eqB; simp
theorem eqB_false {α : Type} {a b : α} : eqB a b = false ↔ a ≠ b := by unfold eqB; simp
theorem refMaster_ok (n : Int) : VC E0 154 0 [.s (.int .i64 n)] [] (RR (.s (.bool (isMaster n))) 0 []) := by
 refine VC.enterR L0 (show E0.func 154 = some Try.f154 by kernel_rfl) (fun _ _ => rfl) rfl rfl [] ?_
 ((conv=>whnf)<;>repeat(with_reducible refine D1 ?_)<;>conv=>whnf)
 repeat' (first | ((first | (refine ⟨fun h => ?_, fun h => ?_⟩) | (refine nsplit (fun h => ?_) (fun h => ?_)) | (refine bsplit (fun h => ?_) (fun h => ?_))) <;> ((conv=>whnf)<;>repeat(with_reducible refine D1 ?_)<;>conv=>whnf)))
 all_goals (refine ⟨[], [], [], _, _, ⟨?_, .nil, rfl⟩, rfl, rfl, rfl⟩)
 all_goals (refine .s (Lz.of (bool_eq ?_)); simp [isMaster, *]; try omega)
def refOfS (r w : Int) : Int × Int := if r < 1 ∨ r > 1152921504606846975 ∨ isMaster w = false then (0, 1) else (IntKind.u64.wrap (IntKind.u64.wrap (r * 8) + IntKind.u64.wrap w), 0)
theorem refOf_ok (r w : Int) : VC E0 150 0 [.s (.int .u64 r), .s (.int .i64 w)] [] (RR (.tup [.s (.int .u64 (refOfS r w).1), .s (.int .i64 (refOfS r w).2)]) 0 []) := by
 refine VC.enterR L0 (show E0.func 150 = some Try.f150 by kernel_rfl) (fun _ _ => rfl) rfl rfl [] ?_
 ((conv=>whnf)<;>repeat(with_reducible refine D1 ?_)<;>conv=>whnf)
 (first|refine ⟨?_,?_⟩|refine nsplit ?_ ?_|refine bsplit ?_ ?_)<;>intro h1<;>have hz_:=True.intro<;>clear hz_
 ·((conv=>whnf)<;>repeat(with_reducible refine D1 ?_)<;>conv=>whnf)
  refine ⟨[], [], ?_⟩
  iterate 3 constructor
  refine ⟨⟨?_, ?_, ?_⟩, rfl, rfl, rfl⟩
  all_goals (repeat' first|with_reducible exact Lz.rfl|exact Lw.rfl|exact Lz.wrap (by omega)|(unfold goInt;with_reducible exact Lz.rfl)|exact flx _|constructor)
  all_goals (refine Lz.int ?_; unfold refOfS; grind)
 ·((conv=>whnf)<;>repeat(with_reducible refine D1 ?_)<;>conv=>whnf)
  (first|refine ⟨?_,?_⟩|refine nsplit ?_ ?_|refine bsplit ?_ ?_)<;>intro h2<;>have hz_:=True.intro<;>clear hz_
  ·((conv=>whnf)<;>repeat(with_reducible refine D1 ?_)<;>conv=>whnf)
   refine ⟨[], [], ?_⟩
   iterate 3 constructor
   refine ⟨⟨?_, ?_, ?_⟩, rfl, rfl, rfl⟩
   all_goals (repeat' first|with_reducible exact Lz.rfl|exact Lw.rfl|exact Lz.wrap (by omega)|(unfold goInt;with_reducible exact Lz.rfl)|exact flx _|constructor)
   all_goals (refine Lz.int ?_; unfold refOfS; grind)
  ·((conv=>whnf)<;>repeat(with_reducible refine D1 ?_)<;>conv=>whnf)
   refine ⟨[], [], _, _, _, _, refMaster_ok w, t3, ?_⟩
   rintro r o' c' ⟨rfl, rfl, rfl⟩
   ((conv=>whnf)<;>repeat(with_reducible refine D1 ?_)<;>conv=>whnf)
   (first|refine ⟨?_,?_⟩|refine nsplit ?_ ?_|refine bsplit ?_ ?_)<;>intro h3<;>have hz_:=True.intro<;>clear hz_
   ·((conv=>whnf)<;>repeat(with_reducible refine D1 ?_)<;>conv=>whnf)
    refine ⟨[], [], ?_⟩
    iterate 3 constructor
    refine ⟨⟨?_, ?_, ?_⟩, rfl, rfl, rfl⟩
    all_goals (repeat' first|with_reducible exact Lz.rfl|exact Lw.rfl|exact Lz.wrap (by omega)|(unfold goInt;with_reducible exact Lz.rfl)|exact flx _|constructor)
    all_goals (refine Lz.int ?_; unfold refOfS; grind)
   ·((conv=>whnf)<;>repeat(with_reducible refine D1 ?_)<;>conv=>whnf)
    refine ⟨[], [], ?_⟩
    iterate 3 constructor
    refine ⟨⟨?_, ?_, ?_⟩, rfl, rfl, rfl⟩
    all_goals (repeat' first|with_reducible exact Lz.rfl|exact Lw.rfl|exact Lz.wrap (by omega)|(unfold goInt;with_reducible exact Lz.rfl)|exact flx _|constructor)
    all_goals (refine Lz.int ?_; unfold refOfS; grind)
theorem refAt_ok (l : List Vote) (n : Int) (hl : l.length < 1000000) : VC E0 37 0 [.sl 6 (l.map encV) false, .s (.int .i64 n)] [] (RR (.tup [.agg (encV ((atS l n).getD noVote)), .s (.bool (atS l n).isSome)]) 0 []) := by
 refine VC.enterR L0 (show E0.func 37 = some Try.f37 by kernel_rfl) (fun _ _ => rfl) rfl rfl [] ?_
 ((conv=>whnf)<;>repeat(with_reducible refine D1 ?_)<;>conv=>whnf)
 refine ⟨fun k f o c => ∃ i : Nat, i ≤ l.length ∧ k = l.length - i ∧ atS l n = atS (l.drop i) n ∧ c = 1 ∧ f = [(0, .sl 6 (l.map encV) false), (1, .s (.int .i64 n)), (4, .ptr 0 0), (6, .s (.int .i64 i))] ∧ o = [(0, .cells (encV noVote))], ⟨l.length, ?_⟩, ?_⟩
 ·exact ⟨[], [some 0], _, _, _, t3, ⟨0, Nat.zero_le _, rfl, rfl, rfl, rfl, rfl⟩⟩
 ·rintro k f1 o1 c1 ⟨i, hi, rfl, ha, rfl, rfl, rfl⟩
  ((conv=>whnf)<;>repeat(with_reducible refine D1 ?_)<;>conv=>whnf)
  (first|refine ⟨?_,?_⟩|refine nsplit ?_ ?_|refine bsplit ?_ ?_)<;>intro h<;>have hz_:=True.intro<;>clear hz_
  ·have h := lenlt.1 h
   have hd : l.drop i = l[i] :: l.drop (i + 1) := List.drop_eq_getElem_cons h
   ((conv=>whnf)<;>repeat(with_reducible refine D1 ?_)<;>conv=>whnf)
   refine idxI h ?_
   ((conv=>whnf)<;>repeat(with_reducible refine D1 ?_)<;>conv=>whnf)
   (first|refine ⟨?_,?_⟩|refine nsplit ?_ ?_|refine bsplit ?_ ?_)<;>intro hs<;>have hz_:=True.intro<;>clear hz_
   ·((conv=>whnf)<;>repeat(with_reducible refine D1 ?_)<;>conv=>whnf)
    refine idxI h ?_
    ((conv=>whnf)<;>repeat(with_reducible refine D1 ?_)<;>conv=>whnf)
    have : atS l n = some l[i] := by rw [ha, hd, atS, List.find?_cons]; simp [hs, atS]
    rw [this]
    exact ⟨[], [], _, _, _, t3, rfl, rfl, rfl⟩
   ·((conv=>whnf)<;>repeat(with_reducible refine D1 ?_)<;>conv=>whnf)
    refine ⟨l.length - (i + 1), ?_, by omega⟩
    exact ⟨[], [some 0], _, _, _, t3, ⟨i + 1, h, rfl, by rw [ha, hd, atS, List.find?_cons]; simp [hs, atS]; rw [show (l[i].slot == n) = false by simp [hs]], rfl, rfl, rfl⟩⟩
  ·have h := mt lenlt.2 h
   ((conv=>whnf)<;>repeat(with_reducible refine D1 ?_)<;>conv=>whnf)
   have : atS l n = none := by rw [ha, List.drop_eq_nil_of_le (by omega)]; rfl
   rw [this]
   exact ⟨[], [], _, _, _, t3, rfl, rfl, rfl⟩
def frmS (l : List Vote) (frm : Int) : List Vote := l.filter fun v => decide (frm ≤ v.slot)
theorem take_snoc {α : Type} (l : List α) (i : Nat) (h : i < l.length) : l.take (i + 1) = l.take i ++ [l[i]] := by rw [List.take_succ_eq_append_getElem h]
end Go.M
namespace Go.M
open Go Go.Proofs
set_option maxRecDepth 100000
def restP (v : Vote) : List Vote → List Vote
 | [] => []
 | x :: r => if x.slot = v.slot then r else x :: r
theorem put_at (v : Vote) : ∀ (l : List Vote) (i : Nat), i ≤ l.length → (∀ x ∈ l.take i, x.slot < v.slot) → (∀ x, l[i]? = some x → ¬ x.slot < v.slot) → put l v = l.take i ++ v :: restP v (l.drop i)
 | [], i, hi, _, _ => by simp at hi; subst hi; simp [put, restP]
 | y :: l, 0, _, _, hx => by
  have := hx y rfl
  unfold put restP
  simp only [List.take_zero, List.nil_append, List.drop_zero]
  split
  ·exact absurd ‹_› this
  ·split <;> rfl
 | y :: l, i + 1, hi, hlt, hx => by
  have h1 := hlt y (by simp)
  have := put_at v l i (by simpa using hi) (fun x hx' => hlt x (by simp [hx'])) (fun x hx' => hx x (by simpa using hx'))
  unfold put
  rw [if_pos h1, this]
  simp
theorem refPut_ok (l : List Vote) (v : Vote) (hl : l.length < 1000) : VC E0 69 0 [.sl 6 (l.map encV) false, .agg (encV v)] [] (RR (.sl 6 ((put l v).map encV) false) 0 []) := by
 refine VC.enterR L0 (show E0.func 69 = some Try.f69 by kernel_rfl) (fun _ _ => rfl) rfl rfl [0] ?_
 ((conv=>whnf)<;>repeat(with_reducible refine D1 ?_)<;>conv=>whnf)
 refine ⟨fun f o c => ∃ i : Nat, i ≤ l.length ∧ (∀ x ∈ l.take i, x.slot < v.slot) ∧ (∀ x, l[i]? = some x → ¬ x.slot < v.slot) ∧ c = 2 ∧ f = [(0, .sl 6 (l.map encV) false), (3, .ptr 0 0), (5, .tk 1), (6, .s (.int .i64 i))] ∧ o = [(0, .cells (encV v)), (1, .arr 6 true ((l.take i).map encV))], ?_, ?_⟩
 ·((conv=>whnf)<;>repeat(with_reducible refine D1 ?_)<;>conv=>whnf)
  refine ⟨fun k f o c => ∃ i : Nat, i ≤ l.length ∧ (∀ x ∈ l.take i, x.slot < v.slot) ∧ k = l.length - i ∧ c = 2 ∧ f = [(0, .sl 6 (l.map encV) false), (3, .ptr 0 0), (5, .tk 1), (6, .s (.int .i64 i))] ∧ o = [(0, .cells (encV v)), (1, .arr 6 true ((l.take i).map encV))], ⟨l.length, ?_⟩, ?_⟩
  ·exact ⟨[], [some 0, none], _, _, _, t3, ⟨0, Nat.zero_le _, by simp, rfl, rfl, rfl, rfl⟩⟩
  ·rintro k f1 o1 c1 ⟨i, hi, hlt, rfl, rfl, rfl, rfl⟩
   ((conv=>whnf)<;>repeat(with_reducible refine D1 ?_)<;>conv=>whnf)
   (first|refine ⟨?_,?_⟩|refine nsplit ?_ ?_|refine bsplit ?_ ?_)<;>intro h<;>have hz_:=True.intro<;>clear hz_
   ·have h := lenlt.1 h
    have hd := take_snoc l i h
    ((conv=>whnf)<;>repeat(with_reducible refine D1 ?_)<;>conv=>whnf)
    refine idxI h ?_
    ((conv=>whnf)<;>repeat(with_reducible refine D1 ?_)<;>conv=>whnf)
    (first|refine ⟨?_,?_⟩|refine nsplit ?_ ?_|refine bsplit ?_ ?_)<;>intro hs<;>have hz_:=True.intro<;>clear hz_
    ·((conv=>whnf)<;>repeat(with_reducible refine D1 ?_)<;>conv=>whnf)
     refine idxI h ?_
     ((conv=>whnf)<;>repeat(with_reducible refine D1 ?_)<;>conv=>whnf)
     refine ⟨by simp; omega, ?_⟩
     ((conv=>whnf)<;>repeat(with_reducible refine D1 ?_)<;>conv=>whnf)
     refine ⟨l.length - (i + 1), ?_, by omega⟩
     refine ⟨[], [some 0, some 3], ?_⟩
     iterate 3 constructor
     refine ⟨⟨?_, ?_, ?_⟩, ⟨i + 1, h, by intro x hx; rw [hd] at hx; rcases List.mem_append.1 hx with h1 | h1; exact hlt x h1; simp at h1; subst h1; exact hs, rfl, rfl, rfl, rfl⟩⟩
     all_goals (repeat' first|with_reducible exact Lz.rfl|exact Lw.rfl|exact Lz.wrap (by omega)|(unfold goInt;with_reducible exact Lz.rfl)|exact flx _|constructor)
     rw [hd, List.map_append]; exact Lz.rfl
    ·((conv=>whnf)<;>repeat(with_reducible refine D1 ?_)<;>conv=>whnf)
     exact ⟨[], [some 0, some 1], _, _, _, t3, ⟨i, hi, hlt, fun x hx => by rw [List.getElem?_eq_getElem h] at hx; cases hx; exact hs, rfl, rfl, rfl⟩⟩
   ·have h := mt lenlt.2 h
    ((conv=>whnf)<;>repeat(with_reducible refine D1 ?_)<;>conv=>whnf)
    exact ⟨[], [some 0, some 1], _, _, _, t3, ⟨i, hi, hlt, fun x hx => (by rw [List.getElem?_eq_none (by omega)] at hx; cases hx), rfl, rfl, rfl⟩⟩
 ·rintro f1 o1 c1 ⟨i, hi, hlt, hx, rfl, rfl, rfl⟩
  have hp := put_at v l i hi hlt hx
  ((conv=>whnf)<;>repeat(with_reducible refine D1 ?_)<;>conv=>whnf)
  refine ⟨by simp; omega, ?_⟩
  ((conv=>whnf)<;>repeat(with_reducible refine D1 ?_)<;>conv=>whnf)
  (first|refine ⟨?_,?_⟩|refine nsplit ?_ ?_|refine bsplit ?_ ?_)<;>intro h<;>have hz_:=True.intro<;>clear hz_
  ·have h := lenlt.1 h
   have hdr : l.drop i = l[i] :: l.drop (i + 1) := List.drop_eq_getElem_cons h
   ((conv=>whnf)<;>repeat(with_reducible refine D1 ?_)<;>conv=>whnf)
   refine idxI h ?_
   ((conv=>whnf)<;>repeat(with_reducible refine D1 ?_)<;>conv=>whnf)
   (first|refine ⟨?_,?_⟩|refine nsplit ?_ ?_|refine bsplit ?_ ?_)<;>intro hs<;>have hz_:=True.intro<;>clear hz_
   ·((conv=>whnf)<;>repeat(with_reducible refine D1 ?_)<;>conv=>whnf)
    rw [wrap_small i (by omega)]
    refine ⟨⟨by omega, by simp; omega, by simp⟩, ?_⟩
    ((conv=>whnf)<;>repeat(with_reducible refine D1 ?_)<;>conv=>whnf)
    refine ⟨by simp; omega, ?_⟩
    ((conv=>whnf)<;>repeat(with_reducible refine D1 ?_)<;>conv=>whnf)
    refine ⟨[4], [], ?_⟩
    iterate 3 constructor
    refine ⟨⟨?_, ?_, ?_⟩, rfl, rfl, rfl⟩
    all_goals (repeat' first|with_reducible exact Lz.rfl|exact Lw.rfl|exact Lz.wrap (by omega)|(unfold goInt;with_reducible exact Lz.rfl)|exact flx _|constructor)
    refine Lz.of ?_; rw [hp, hdr]; simp [restP, hs]; exact ⟨rfl, by rw [List.take_of_length_le (by simp)]⟩
   ·((conv=>whnf)<;>repeat(with_reducible refine D1 ?_)<;>conv=>whnf)
    refine ⟨⟨by omega, by simp; omega, by simp⟩, ?_⟩
    ((conv=>whnf)<;>repeat(with_reducible refine D1 ?_)<;>conv=>whnf)
    refine ⟨by simp; omega, ?_⟩
    ((conv=>whnf)<;>repeat(with_reducible refine D1 ?_)<;>conv=>whnf)
    refine ⟨[4], [], ?_⟩
    iterate 3 constructor
    refine ⟨⟨?_, ?_, ?_⟩, rfl, rfl, rfl⟩
    all_goals (repeat' first|with_reducible exact Lz.rfl|exact Lw.rfl|exact Lz.wrap (by omega)|(unfold goInt;with_reducible exact Lz.rfl)|exact flx _|constructor)
    refine Lz.of ?_; rw [hp, hdr]; simp [restP, hs]; exact ⟨rfl, by rw [List.take_of_length_le (by simp)]⟩
  ·have h := mt lenlt.2 h
   ((conv=>whnf)<;>repeat(with_reducible refine D1 ?_)<;>conv=>whnf)
   refine ⟨⟨by omega, by simp; omega, by simp⟩, ?_⟩
   ((conv=>whnf)<;>repeat(with_reducible refine D1 ?_)<;>conv=>whnf)
   refine ⟨by simp; omega, ?_⟩
   ((conv=>whnf)<;>repeat(with_reducible refine D1 ?_)<;>conv=>whnf)
   refine ⟨[4], [], ?_⟩
   iterate 3 constructor
   refine ⟨⟨?_, ?_, ?_⟩, rfl, rfl, rfl⟩
   all_goals (repeat' first|with_reducible exact Lz.rfl|exact Lw.rfl|exact Lz.wrap (by omega)|(unfold goInt;with_reducible exact Lz.rfl)|exact flx _|constructor)
   have hd0 : l.drop i = [] := List.drop_eq_nil_of_le (by omega)
   refine Lz.of ?_; rw [hp, hd0]; simp [restP]; exact ⟨rfl, by omega⟩
theorem veq_vote (v w : Vote) : (veq1 (.int .i64 v.slot) (.int .i64 w.slot) && (veq1 (.int .u64 v.ballot) (.int .u64 w.ballot) && (veq1 (.int .i64 v.kind) (.int .i64 w.kind) && (veq1 (.int .i64 v.chain) (.int .i64 w.chain) && (veq1 (.int .u64 v.epoch) (.int .u64 w.epoch) && (veq1 (.int .i64 v.node) (.int .i64 w.node) && true)))))) = eqB v w := by
 obtain ⟨a, b, c, d, e, f⟩ := v
 obtain ⟨a', b', c', d', e', f'⟩ := w
 rw [Bool.eq_iff_iff, eqB_iff]
 simp [veq1]
theorem same_ok (l m : List Vote) (hl : l.length < 1000000) : VC E0 40 0 [.sl 6 (l.map encV) false, .sl 6 (m.map encV) false] [] (RR (.s (.bool (eqB l m))) 0 []) := by
 refine VC.enterR L0 (show E0.func 40 = some Try.f40 by kernel_rfl) (fun _ _ => rfl) rfl rfl [] ?_
 ((conv=>whnf)<;>repeat(with_reducible refine D1 ?_)<;>conv=>whnf)
 (first|refine ⟨?_,?_⟩|refine nsplit ?_ ?_|refine bsplit ?_ ?_)<;>intro hlm<;>have hz_:=True.intro<;>clear hz_
 ·((conv=>whnf)<;>repeat(with_reducible refine D1 ?_)<;>conv=>whnf)
  refine ⟨[], [], ?_⟩
  iterate 3 constructor
  refine ⟨⟨?_, ?_, ?_⟩, rfl, rfl, rfl⟩
  all_goals (repeat' first|with_reducible exact Lz.rfl|exact Lw.rfl|exact Lz.wrap (by omega)|(unfold goInt;with_reducible exact Lz.rfl)|exact flx _|constructor)
  refine Lz.of (bool_eq (Eq.symm (eqB_false.2 fun e => hlm (by subst e; rfl))))
 ·have hlm : l.length = m.length := by simp at hlm; omega
  ((conv=>whnf)<;>repeat(with_reducible refine D1 ?_)<;>conv=>whnf)
  refine ⟨fun k f o c => ∃ i : Nat, i ≤ l.length ∧ k = l.length - i ∧ l.take i = m.take i ∧ c = 0 ∧ f = [(0, .sl 6 (l.map encV) false), (1, .sl 6 (m.map encV) false), (5, .s (.int .i64 i))] ∧ o = [], ⟨l.length, ?_⟩, ?_⟩
  ·exact ⟨[], [], _, _, _, t3, ⟨0, Nat.zero_le _, rfl, rfl, rfl, rfl, rfl⟩⟩
  ·rintro k f1 o1 c1 ⟨i, hi, rfl, ht, rfl, rfl, rfl⟩
   ((conv=>whnf)<;>repeat(with_reducible refine D1 ?_)<;>conv=>whnf)
   (first|refine ⟨?_,?_⟩|refine nsplit ?_ ?_|refine bsplit ?_ ?_)<;>intro h<;>have hz_:=True.intro<;>clear hz_
   ·have h := lenlt.1 h
    have h2 : i < m.length := by omega
    ((conv=>whnf)<;>repeat(with_reducible refine D1 ?_)<;>conv=>whnf)
    refine idxI h ?_
    ((conv=>whnf)<;>repeat(with_reducible refine D1 ?_)<;>conv=>whnf)
    refine idxI h2 ?_
    ((conv=>whnf)<;>repeat(with_reducible refine D1 ?_)<;>conv=>whnf)
    (first|refine ⟨?_,?_⟩|refine nsplit ?_ ?_|refine bsplit ?_ ?_)<;>intro hv<;>have hz_:=True.intro<;>clear hz_
    ·have hv := (veq_vote l[i] m[i]).symm.trans hv
     ((conv=>whnf)<;>repeat(with_reducible refine D1 ?_)<;>conv=>whnf)
     refine ⟨[], [], ?_⟩
     iterate 3 constructor
     refine ⟨⟨?_, ?_, ?_⟩, rfl, rfl, rfl⟩
     all_goals (repeat' first|with_reducible exact Lz.rfl|exact Lw.rfl|exact Lz.wrap (by omega)|(unfold goInt;with_reducible exact Lz.rfl)|exact flx _|constructor)
     refine Lz.of (bool_eq (Eq.symm (eqB_false.2 fun e => eqB_false.1 hv (by subst e; rfl))))
    ·have hv : eqB l[i] m[i] = true := by rw [← veq_vote]; simpa using hv
     ((conv=>whnf)<;>repeat(with_reducible refine D1 ?_)<;>conv=>whnf)
     refine ⟨l.length - (i + 1), ?_, by omega⟩
     exact ⟨[], [], _, _, _, t3, ⟨i + 1, h, rfl, by rw [take_snoc l i h, take_snoc m i h2, ht, eqB_iff.1 hv], rfl, rfl, rfl⟩⟩
   ·have h := mt lenlt.2 h
    ((conv=>whnf)<;>repeat(with_reducible refine D1 ?_)<;>conv=>whnf)
    refine ⟨[], [], ?_⟩
    iterate 3 constructor
    refine ⟨⟨?_, ?_, ?_⟩, rfl, rfl, rfl⟩
    all_goals (repeat' first|with_reducible exact Lz.rfl|exact Lw.rfl|exact Lz.wrap (by omega)|(unfold goInt;with_reducible exact Lz.rfl)|exact flx _|constructor)
    refine Lz.of (bool_eq (Eq.symm (eqB_iff.2 ?_)))
    rw [← List.take_of_length_le (Nat.not_lt.1 h), ht, List.take_of_length_le (by omega)]
end Go.M
namespace Go.M
open Go Go.Proofs
set_option maxRecDepth 100000
structure Cmd where
 kind : Int
 chain : Int
 epoch : Int
 node : Int
@[reducible] def cT4 (c : Cmd) : TV := cmdT c.kind c.chain c.epoch c.node
def Cmd.check (c : Cmd) : Int := checkS c.kind c.chain c.epoch c.node
def Vote.of (n b : Int) (c : Cmd) : Vote := ⟨n, b, c.kind, c.chain, c.epoch, c.node⟩
@[reducible] def refA (p : Int) (l : List Vote) : TV := .agg [.s (.int .u64 p), .sl 6 (l.map encV) false]
def prepL (p b : Int) (l : List Vote) (frm : Int) : Int × List Vote × Int :=
 if isBallot b = false ∨ frm < 0 ∨ frm > 512 then (p, [], 1) else if b < p then (p, [], 10) else (b, frmS l frm, 0)
def accL (p : Int) (l : List Vote) (b n : Int) (c : Cmd) : Int × List Vote × Int :=
 if isBallot b = false ∨ n < 0 ∨ n ≥ 512 then (p, l, 1) else if c.check ≠ 0 then (p, l, c.check) else if b < p then (p, l, 10) else (b, put l (.of n b c), 0)
end Go.M
namespace Go.M
open Go Go.Proofs
set_option maxRecDepth 100000
def accS (p : Int) (es : List (Int × Vote)) (b n : Int) (c : Cmd) : Int × List (Int × Vote) × Int :=
 if isBallot b = false ∨ n < 0 ∨ n ≥ 512 then (p, es, 1) else if c.check ≠ 0 then (p, es, c.check) else if b < p then (p, es, 10) else (b, putE es n (.of n b c), 0)
end Go.M
namespace Go.M
open Go Go.Proofs
set_option maxRecDepth 100000
structure Op11 where
 kind : Int
 ballot : Int
 slot : Int
 cmd : Cmd
def encOp (o : Op11) : List TV := [.s (.int .i64 o.kind), .s (.int .u64 o.ballot), .s (.int .i64 o.slot), .s (.int .i64 o.cmd.kind), .s (.int .i64 o.cmd.chain), .s (.int .u64 o.cmd.epoch), .s (.int .i64 o.cmd.node)]
structure KVo (p : Int) (es : List (Int × Vote)) : Prop where
 mv : MV es
 rng : ∀ e ∈ es, 0 ≤ e.1 ∧ e.1 < 512
 bal : ∀ e ∈ es, e.2.ballot ≤ p
theorem KVo.ok {p : Int} {es : List (Int × Vote)} (h : KVo p es) (hl : es.length < 1000) : ksOk (es.map (·.1)) := by
 refine ⟨by simp; omega, fun x hx => ?_, h.mv.nd⟩
 obtain ⟨e, he, rfl⟩ := List.mem_map.1 hx
 have := h.rng e he
 have h1 : IntKind.i64.min = -9223372036854775808 := rfl
 have h2 : IntKind.i64.max = 9223372036854775807 := rfl
 omega
def opS (p : Int) (es : List (Int × Vote)) (o : Op11) : Int × List (Int × Vote) := if o.kind = 0 then ((prepL p o.ballot (allV es) o.slot).1, es) else ((accS p es o.ballot o.slot o.cmd).1, (accS p es o.ballot o.slot o.cmd).2.1)
end Go.M
namespace Go.M
open Go Go.Proofs
set_option maxRecDepth 100000
set_option maxHeartbeats 2000000
end Go.M
namespace Go.M
open Go Go.Proofs
set_option maxRecDepth 100000
set_option maxHeartbeats 2000000
def inI (n : Int) : Prop := IntKind.i64.min ≤ n ∧ n ≤ IntKind.i64.max
def bestE1 (es : List (Int × Vote)) (v : Vote) : List (Int × Vote) := match lookE es v.slot with
 | none => putE es v.slot v
 | some w => if v.ballot > w.ballot then putE es v.slot v else es
def bestE (l : List Vote) : List (Int × Vote) := l.foldl bestE1 []
def bestR1 (out : List Vote) (v : Vote) : List Vote := match atS out v.slot with
 | none => put out v
 | some w => if v.ballot > w.ballot then put out v else out
theorem bestE_snoc (l : List Vote) (v : Vote) : bestE (l ++ [v]) = bestE1 (bestE l) v := by simp [bestE]
structure KB (es : List (Int × Vote)) : Prop where
 mv : MV es
 rng : ∀ e ∈ es, inI e.1
theorem KB.ok {es : List (Int × Vote)} (h : KB es) (hl : es.length < 1000) : ksOk (es.map (·.1)) := by
 refine ⟨by simp; omega, fun x hx => ?_, h.mv.nd⟩
 obtain ⟨e, he, rfl⟩ := List.mem_map.1 hx
 exact h.rng e he
theorem KB.put {es : List (Int × Vote)} (h : KB es) {v : Vote} (hv : inI v.slot) : KB (putE es v.slot v) :=
 ⟨h.mv.put v, fun e he => by
  rw [putE_mem h.mv.nd] at he
  rcases he with rfl | ⟨_, he⟩
  ·exact hv
  ·exact h.rng e he⟩
theorem putE_len (es : List (Int × Vote)) (n : Int) (v : Vote) : (putE es n v).length ≤ es.length + 1 := by
 have := congrArg List.length (putE_keys (n := n) (v := v) (es := es))
 simp only [List.length_map] at this
 rw [this]; split <;> simp
theorem bestE1_kb {es : List (Int × Vote)} (h : KB es) {v : Vote} (hv : inI v.slot) : KB (bestE1 es v) ∧ (bestE1 es v).length ≤ es.length + 1 ∧ allV (bestE1 es v) = bestR1 (allV es) v := by
 unfold bestE1 bestR1
 rw [← lookE_at h.mv]
 cases lookE es v.slot with
 | none => exact ⟨h.put hv, putE_len .., allV_put h.mv v⟩
 | some w =>
  by_cases hb : v.ballot > w.ballot
  ·simp only [hb, if_true]; exact ⟨h.put hv, putE_len .., allV_put h.mv v⟩
  ·simp only [hb, if_false]; exact ⟨h, Nat.le_succ _, trivial⟩
theorem bestE_kb {l : List Vote} (hl : ∀ v ∈ l, inI v.slot) : KB (bestE l) ∧ (bestE l).length ≤ l.length := by
 have : ∀ (l : List Vote) (es : List (Int × Vote)), KB es → (∀ v ∈ l, inI v.slot) → KB (l.foldl bestE1 es) ∧ (l.foldl bestE1 es).length ≤ es.length + l.length := by
  intro l
  induction l with
  | nil => intro es h _; exact ⟨h, Nat.le_refl _⟩
  | cons v l ih =>
   intro es h hv
   obtain ⟨h1, h2, _⟩ := bestE1_kb h (hv v List.mem_cons_self)
   obtain ⟨h3, h4⟩ := ih _ h1 fun w hw => hv w (List.mem_cons_of_mem _ hw)
   exact ⟨h3, by simp only [List.foldl_cons, List.length_cons]; omega⟩
 have := this l [] ⟨⟨by simp, by simp⟩, by simp⟩ hl
 unfold bestE
 simpa using this
def encL (l : List Vote) : List TV := [.sl 6 (l.map encV) false]
theorem flat_snoc {l : List (List Vote)} {i : Nat} (h : i < l.length) : (l.take (i + 1)).flatten = (l.take i).flatten ++ l[i] := by
 rw [List.take_succ_eq_append_getElem h, List.flatten_append, List.flatten_cons, List.flatten_nil, List.append_nil]
theorem flat_len8 {l : List (List Vote)} (h8 : l.length ≤ 8) (h40 : ∀ x ∈ l, x.length ≤ 40) {i : Nat} : (l.take i).flatten.length ≤ 320 := by
 have : ∀ m : List (List Vote), (∀ x ∈ m, x.length ≤ 40) → m.flatten.length ≤ 40 * m.length := by
  intro m
  induction m with
  | nil => simp
  | cons x m ih =>
   intro h
   have h1 := h x List.mem_cons_self
   have h2 := ih fun y hy => h y (List.mem_cons_of_mem _ hy)
   simp only [List.flatten_cons, List.length_append, List.length_cons]
   omega
 have h1 := this (l.take i) fun x hx => h40 x (List.mem_of_mem_take hx)
 have h2 : (l.take i).length ≤ 8 := by rw [List.length_take]; omega
 omega
theorem pre_in {l : List (List Vote)} (hr : ∀ x ∈ l, ∀ v ∈ x, inI v.slot) {i j : Nat} (h : i < l.length) : ∀ v ∈ (l.take i).flatten ++ l[i].take j, inI v.slot := by
 intro v hv
 rcases List.mem_append.1 hv with hv | hv
 ·obtain ⟨x, hx, hv⟩ := List.mem_flatten.1 hv
  exact hr x (List.mem_of_mem_take hx) v hv
 ·exact hr _ (List.getElem_mem h) v (List.mem_of_mem_take hv)
def bestV (l : List (List Vote)) : List Vote := allV (bestE l.flatten)
theorem min_rising {es : List (Int × Vote)} (h : MV es) (h0 : 0 < es.length) : rising es (Small.minZ (es.map (·.1))) (sortZ (es.map (·.1))) = allV es := by
 rw [rising_all h, List.filter_eq_self]
 intro v hv
 have := (mem_allV h).1 hv
 exact decide_eq_true ((Small.minZ_spec (by simpa using h0)).2 _ (List.mem_map.2 ⟨_, this, rfl⟩))
theorem collect_ok (es : List (Int × Vote)) (hok : ksOk (es.map (·.1))) (h0 : 0 < es.length) : VC E0 80 2 [.clo 123 [] [.ptr 1 0]] [(0, .map (kIdx .i64) (es.map encE)), (1, .cells [.mp 0])] (fun r o c => r = .bg 2 (es.map (·.1)).length ∧ c = 3 ∧
      o = [(2, .bag (es.map (·.1))), (0, .map (kIdx .i64) (es.map encE)), (1, .cells [.mp 0])]) :=
 VC.collect (E := E0) (g := 80) (its := [123, 127]) (k := 123) (by kernel_rfl) (fun _ _ => rfl) rfl (y := .map (kIdx .i64) (es.map encE)) (ks := es.map (·.1)) (by simp [KeysO, Function.comp_def, encE]) hok (by intro e; simp at e; subst e; simp at h0)
theorem minc_ok (ks : List Int) (h0 : 0 < ks.length) (hl : ks.length ≤ 1000000) : VC E0 86 1 [.bg 0 ks.length] [(0, .bag ks)] (fun r o c => r = .s (.int .i64 (Small.minZ ks)) ∧ c = 1 ∧ o = [(0, .bag ks)]) :=
 VC.bagged (E := E0) (g := 86) (val := minVal) (pre := []) (by kernel_rfl) (fun _ _ => rfl) (by simp) h0 (v := .int .i64 (Small.minZ ks)) (by
  cases ks with
  | nil => simp at h0
  | cons a l => simp only [minVal, grd]; rw [Nat.ble_eq_true_of_le hl]) rfl
theorem best_ok (l : List (List Vote)) (h8 : l.length ≤ 8) (h40 : ∀ x ∈ l, x.length ≤ 40) (hr : ∀ x ∈ l, ∀ v ∈ x, inI v.slot) : VC E0 46 0 [.sl 1 (l.map encL) false] [] (RR (.sl 6 ((bestV l).map encV) false) 0 []) := by
 refine VC.enterR L0 (show E0.func 46 = some Try.f46 by kernel_rfl) (fun _ _ => rfl) rfl rfl [] ?_
 ((conv=>whnf)<;>repeat(with_reducible refine D1 ?_)<;>conv=>whnf)
 refine ⟨fun k f o c => ∃ i : Nat, i ≤ l.length ∧ k = l.length - i ∧ c = 1 ∧ f = [(3, .mp 0), (11, .sl 1 (l.map encL) false), (12, .s (.int .i64 l.length)), (13, .s (.int .i64 i))] ∧ o = [(0, mapO (bestE (l.take i).flatten))], ⟨l.length, ?_⟩, ?_⟩
 ·refine ⟨[], [some 0], ?_⟩
  iterate 3 constructor
  refine ⟨⟨?_, ?_, ?_⟩, ⟨0, Nat.zero_le _, rfl, rfl, rfl, rfl⟩⟩
  all_goals (repeat' first|with_reducible exact Lz.rfl|exact Lw.rfl|exact Lz.wrap (by omega)|(unfold goInt;with_reducible exact Lz.rfl)|exact flx _|constructor)
  all_goals exact Lz.of (by simp [goInt])
 ·rintro k f1 o1 c1 ⟨i, hi, rfl, rfl, rfl, rfl⟩
  ((conv=>whnf)<;>repeat(with_reducible refine D1 ?_)<;>conv=>whnf)
  (first|refine ⟨?_,?_⟩|refine nsplit ?_ ?_|refine bsplit ?_ ?_)<;>intro h<;>have hz_:=True.intro<;>clear hz_
  ·have h : i < l.length := by simpa using h
   have hl40 := h40 _ (List.getElem_mem h)
   ((conv=>whnf)<;>repeat(with_reducible refine D1 ?_)<;>conv=>whnf)
   refine idxI h ?_
   ((conv=>whnf)<;>repeat(with_reducible refine D1 ?_)<;>conv=>whnf)
   refine ⟨fun k f o c => ∃ j : Nat, j ≤ l[i].length ∧ k = l[i].length - j ∧ c = 1 ∧ f = [(3, .mp 0), (11, .sl 1 (l.map encL) false), (12, .s (.int .i64 l.length)), (13, .s (.int .i64 i)), (17, .sl 6 (l[i].map encV) false), (18, .s (.int .i64 l[i].length)), (19, .s (.int .i64 j))] ∧ o = [(0, mapO (bestE ((l.take i).flatten ++ l[i].take j)))], ⟨l[i].length, ?_⟩, ?_⟩
   ·refine ⟨[], [some 0], ?_⟩
    iterate 3 constructor
    refine ⟨⟨?_, ?_, ?_⟩, ⟨0, Nat.zero_le _, rfl, rfl, rfl, rfl⟩⟩
    all_goals (repeat' first|with_reducible exact Lz.rfl|exact Lw.rfl|exact Lz.wrap (by omega)|(unfold goInt;with_reducible exact Lz.rfl)|exact flx _|constructor)
    all_goals first | exact Lz.of (by simp [goInt]) | exact Lz.of (by simp)
   ·rintro k f1 o1 c1 ⟨j, hj, rfl, rfl, rfl, rfl⟩
    ((conv=>whnf)<;>repeat(with_reducible refine D1 ?_)<;>conv=>whnf)
    (first|refine ⟨?_,?_⟩|refine nsplit ?_ ?_|refine bsplit ?_ ?_)<;>intro hj<;>have hz_:=True.intro<;>clear hz_
    ·have hj : j < l[i].length := by simpa using hj
     obtain ⟨hkb, hlen⟩ := bestE_kb (pre_in hr (j := j) h)
     have hsn : bestE ((l.take i).flatten ++ l[i].take (j + 1)) = bestE1 (bestE ((l.take i).flatten ++ l[i].take j)) l[i][j] := by
      rw [List.take_succ_eq_append_getElem hj, ← List.append_assoc, bestE_snoc]
     generalize hes : bestE ((l.take i).flatten ++ l[i].take j) = es at *
     ((conv=>whnf)<;>repeat(with_reducible refine D1 ?_)<;>conv=>whnf)
     refine idxI hj ?_
     ((conv=>whnf)<;>repeat(with_reducible refine D1 ?_)<;>conv=>whnf)
     have hlk := lookM_enc l[i][j].slot es
     cases hv : lookE es l[i][j].slot with
     | none =>
      rw [hv] at hlk
      refine ⟨_, hlk, ?_⟩
      ((conv=>whnf)<;>repeat(with_reducible refine D1 ?_)<;>conv=>whnf)
      refine ⟨l[i].length - (j + 1), ?_, by omega⟩
      refine ⟨[], [some 0], ?_⟩
      iterate 3 constructor
      refine ⟨⟨?_, ?_, ?_⟩, ⟨j + 1, hj, rfl, rfl, rfl, rfl⟩⟩
      all_goals (repeat' first|with_reducible exact Lz.rfl|exact Lw.rfl|exact Lz.wrap (by omega)|(unfold goInt;with_reducible exact Lz.rfl)|exact flx _|constructor)
      refine Lz.of ?_
      rw [hsn]; unfold bestE1; rw [hv]; exact putM_enc _ _ _
     | some w =>
      rw [hv] at hlk
      refine ⟨_, hlk, ?_⟩
      ((conv=>whnf)<;>repeat(with_reducible refine D1 ?_)<;>conv=>whnf)
      (first|refine ⟨?_,?_⟩|refine nsplit ?_ ?_|refine bsplit ?_ ?_)<;>intro hb<;>have hz_:=True.intro<;>clear hz_
      ·((conv=>whnf)<;>repeat(with_reducible refine D1 ?_)<;>conv=>whnf)
       refine ⟨l[i].length - (j + 1), ?_, by omega⟩
       refine ⟨[], [some 0], ?_⟩
       iterate 3 constructor
       refine ⟨⟨?_, ?_, ?_⟩, ⟨j + 1, hj, rfl, rfl, rfl, rfl⟩⟩
       all_goals (repeat' first|with_reducible exact Lz.rfl|exact Lw.rfl|exact Lz.wrap (by omega)|(unfold goInt;with_reducible exact Lz.rfl)|exact flx _|constructor)
       refine Lz.of ?_
       rw [hsn]; unfold bestE1; rw [hv]; simp only; rw [if_pos hb]; exact putM_enc _ _ _
      ·((conv=>whnf)<;>repeat(with_reducible refine D1 ?_)<;>conv=>whnf)
       refine ⟨l[i].length - (j + 1), ?_, by omega⟩
       refine ⟨[], [some 0], ?_⟩
       iterate 3 constructor
       refine ⟨⟨?_, ?_, ?_⟩, ⟨j + 1, hj, rfl, rfl, rfl, rfl⟩⟩
       all_goals (repeat' first|with_reducible exact Lz.rfl|exact Lw.rfl|exact Lz.wrap (by omega)|(unfold goInt;with_reducible exact Lz.rfl)|exact flx _|constructor)
       refine Lz.of ?_
       rw [hsn]; unfold bestE1; rw [hv]; simp only; rw [if_neg hb]
    ·have hj' : j = l[i].length := by have : ¬ j < l[i].length := by simpa using hj
                                      omega
     subst hj'
     ((conv=>whnf)<;>repeat(with_reducible refine D1 ?_)<;>conv=>whnf)
     refine ⟨l.length - (i + 1), ?_, by omega⟩
     refine ⟨[], [some 0], ?_⟩
     iterate 3 constructor
     refine ⟨⟨?_, ?_, ?_⟩, ⟨i + 1, h, rfl, rfl, rfl, rfl⟩⟩
     all_goals (repeat' first|with_reducible exact Lz.rfl|exact Lw.rfl|exact Lz.wrap (by omega)|(unfold goInt;with_reducible exact Lz.rfl)|exact flx _|constructor)
     refine Lz.of ?_
     rw [flat_snoc h, List.take_length]
  ·have h' : i = l.length := by have : ¬ i < l.length := by simpa using h
                                omega
   subst h'
   have hb : bestE (l.take l.length).flatten = bestE l.flatten := by rw [List.take_length]
   rw [hb]
   have hfl : l.flatten.length ≤ 320 := by have := flat_len8 h8 h40 (i := l.length); rwa [List.take_length] at this
   obtain ⟨hkb, hlen⟩ := bestE_kb (l := l.flatten) (fun v hv => by obtain ⟨x, hx, hv⟩ := List.mem_flatten.1 hv; exact hr x hx v hv)
   have hbv : bestV l = allV (bestE l.flatten) := rfl
   generalize hes : bestE l.flatten = es at *
   ((conv=>whnf)<;>repeat(with_reducible refine D1 ?_)<;>conv=>whnf)
   (first|refine ⟨?_,?_⟩|refine nsplit ?_ ?_|refine bsplit ?_ ?_)<;>intro h0<;>have hz_:=True.intro<;>clear hz_
   ·have h0 : es = [] := by simpa using h0
    subst h0
    rw [hbv]
    ((conv=>whnf)<;>repeat(with_reducible refine D1 ?_)<;>conv=>whnf)
    refine ⟨[], [], ?_⟩
    iterate 3 constructor
    refine ⟨⟨?_, ?_, ?_⟩, rfl, rfl, rfl⟩
    all_goals (repeat' first|with_reducible exact Lz.rfl|exact Lw.rfl|exact Lz.wrap (by omega)|(unfold goInt;with_reducible exact Lz.rfl)|exact flx _|constructor)
    exact Lz.of (by simp [allV, sortZ])
   ·have h0 : 0 < es.length := by
     have : es ≠ [] := by simpa using h0
     exact List.length_pos_iff.2 this
    ((conv=>whnf)<;>repeat(with_reducible refine D1 ?_)<;>conv=>whnf)
    refine ⟨[], [some 0], _, _, _, _, keys_ok (es.map encE), t3, ?_⟩
    rintro r o' c' ⟨rfl, rfl, rfl⟩
    ((conv=>whnf)<;>repeat(with_reducible refine D1 ?_)<;>conv=>whnf)
    refine ⟨[], [some 0, some 2], _, _, _, _, collect_ok es (hkb.ok (by omega)) h0, t3, ?_⟩
    rintro r o' c' ⟨rfl, rfl, rfl⟩
    ((conv=>whnf)<;>repeat(with_reducible refine D1 ?_)<;>conv=>whnf)
    refine ⟨[], [some 5], _, _, _, _, minc_ok (es.map (·.1)) (by simpa using h0) (by simp; omega), t3, ?_⟩
    rintro r o' c' ⟨rfl, rfl, rfl⟩
    ((conv=>whnf)<;>repeat(with_reducible refine D1 ?_)<;>conv=>whnf)
    refine ⟨[], [some 0], _, _, _, _, rising_ok es (Small.minZ (es.map (·.1))) (hkb.ok (by omega)) (by omega), t3, ?_⟩
    rintro r o' c' ⟨rfl, rfl, rfl⟩
    ((conv=>whnf)<;>repeat(with_reducible refine D1 ?_)<;>conv=>whnf)
    rw [min_rising hkb.mv h0, hbv]
    exact ⟨[8], [], _, _, _, t3, rfl, rfl, rfl⟩
end Go.M
namespace Go.M
open Go Go.Proofs
set_option maxRecDepth 100000
set_option maxHeartbeats 2000000
theorem refBest_ok (l : List (List Vote)) (h8 : l.length ≤ 8) (h40 : ∀ x ∈ l, x.length ≤ 40) (hr : ∀ x ∈ l, ∀ v ∈ x, inI v.slot) : VC E0 47 0 [.sl 1 (l.map encL) false] [] (RR (.sl 6 ((bestV l).map encV) false) 0 []) := by
 refine VC.enterR L0 (show E0.func 47 = some Try.f47 by kernel_rfl) (fun _ _ => rfl) rfl rfl [] ?_
 ((conv=>whnf)<;>repeat(with_reducible refine D1 ?_)<;>conv=>whnf)
 refine ⟨fun k f o c => ∃ i : Nat, i ≤ l.length ∧ k = l.length - i ∧ c = 0 ∧ f = [(0, .sl 1 (l.map encL) false), (3, .sl 6 ((allV (bestE (l.take i).flatten)).map encV) false), (4, .s (.int .i64 i))] ∧ o = [], ⟨l.length, ?_⟩, ?_⟩
 ·refine ⟨[], [], ?_⟩
  iterate 3 constructor
  refine ⟨⟨?_, ?_, ?_⟩, ⟨0, Nat.zero_le _, rfl, rfl, rfl, rfl⟩⟩
  all_goals (repeat' first|with_reducible exact Lz.rfl|exact Lw.rfl|exact Lz.wrap (by omega)|(unfold goInt;with_reducible exact Lz.rfl)|exact flx _|constructor)
  refine Lz.of ?_; simp [bestE, allV, sortZ]
 ·rintro k f1 o1 c1 ⟨i, hi, rfl, rfl, rfl, rfl⟩
  ((conv=>whnf)<;>repeat(with_reducible refine D1 ?_)<;>conv=>whnf)
  (first|refine ⟨?_,?_⟩|refine nsplit ?_ ?_|refine bsplit ?_ ?_)<;>intro h<;>have hz_:=True.intro<;>clear hz_
  ·have h := lenlt.1 h
   have hl40 := h40 _ (List.getElem_mem h)
   ((conv=>whnf)<;>repeat(with_reducible refine D1 ?_)<;>conv=>whnf)
   refine ⟨fun k f o c => ∃ j : Nat, j ≤ l[i].length ∧ k = l[i].length - j ∧ c = 0 ∧ f = [(0, .sl 1 (l.map encL) false), (3, .sl 6 ((allV (bestE ((l.take i).flatten ++ l[i].take j))).map encV) false), (4, .s (.int .i64 i)), (5, .s (.int .i64 j))] ∧ o = [], ⟨l[i].length, ?_⟩, ?_⟩
   ·refine ⟨[], [], ?_⟩
    iterate 3 constructor
    refine ⟨⟨?_, ?_, ?_⟩, ⟨0, Nat.zero_le _, rfl, rfl, rfl, rfl⟩⟩
    all_goals (repeat' first|with_reducible exact Lz.rfl|exact Lw.rfl|exact Lz.wrap (by omega)|(unfold goInt;with_reducible exact Lz.rfl)|exact flx _|constructor)
    all_goals exact Lz.of (by simp)
   ·rintro k f1 o1 c1 ⟨j, hj, rfl, rfl, rfl, rfl⟩
    ((conv=>whnf)<;>repeat(with_reducible refine D1 ?_)<;>conv=>whnf)
    refine idxI h ?_
    ((conv=>whnf)<;>repeat(with_reducible refine D1 ?_)<;>conv=>whnf)
    (first|refine ⟨?_,?_⟩|refine nsplit ?_ ?_|refine bsplit ?_ ?_)<;>intro hj<;>have hz_:=True.intro<;>clear hz_
    ·have hj := lenlt.1 hj
     obtain ⟨hkb, hlen⟩ := bestE_kb (pre_in hr (j := j) h)
     have hfl := flat_len8 h8 h40 (i := i)
     have hin : inI l[i][j].slot := hr _ (List.getElem_mem h) _ (List.getElem_mem hj)
     have hsn : allV (bestE ((l.take i).flatten ++ l[i].take (j + 1))) = bestR1 (allV (bestE ((l.take i).flatten ++ l[i].take j))) l[i][j] := by
      rw [List.take_succ_eq_append_getElem hj, ← List.append_assoc, bestE_snoc]; exact (bestE1_kb hkb hin).2.2
     have hal : (allV (bestE ((l.take i).flatten ++ l[i].take j))).length < 1000 := by
      rw [allV_len]
      refine Nat.lt_of_le_of_lt hlen ?_
      rw [List.length_append, List.length_take]; omega
     generalize hes : allV (bestE ((l.take i).flatten ++ l[i].take j)) = out at *
     ((conv=>whnf)<;>repeat(with_reducible refine D1 ?_)<;>conv=>whnf)
     refine idxI h ?_
     ((conv=>whnf)<;>repeat(with_reducible refine D1 ?_)<;>conv=>whnf)
     refine idxI hj ?_
     ((conv=>whnf)<;>repeat(with_reducible refine D1 ?_)<;>conv=>whnf)
     refine ⟨[], [], _, _, _, _, refAt_ok out l[i][j].slot (by omega), t3, ?_⟩
     rintro r o' c' ⟨rfl, rfl, rfl⟩
     cases hv : atS out l[i][j].slot with
     | none =>
      ((conv=>whnf)<;>repeat(with_reducible refine D1 ?_)<;>conv=>whnf)
      refine idxI h ?_
      ((conv=>whnf)<;>repeat(with_reducible refine D1 ?_)<;>conv=>whnf)
      refine idxI hj ?_
      ((conv=>whnf)<;>repeat(with_reducible refine D1 ?_)<;>conv=>whnf)
      refine ⟨[], [], _, _, _, _, refPut_ok out l[i][j] hal, t3, ?_⟩
      rintro r o' c' ⟨rfl, rfl, rfl⟩
      ((conv=>whnf)<;>repeat(with_reducible refine D1 ?_)<;>conv=>whnf)
      ((conv=>whnf)<;>repeat(with_reducible refine D1 ?_)<;>conv=>whnf)
      refine ⟨l[i].length - (j + 1), ?_, by omega⟩
      refine ⟨[], [], ?_⟩
      iterate 3 constructor
      refine ⟨⟨?_, ?_, ?_⟩, ⟨j + 1, hj, rfl, rfl, rfl, rfl⟩⟩
      all_goals (repeat' first|with_reducible exact Lz.rfl|exact Lw.rfl|exact Lz.wrap (by omega)|(unfold goInt;with_reducible exact Lz.rfl)|exact flx _|constructor)
      refine Lz.of ?_
      rw [hsn]; unfold bestR1; rw [hv]
     | some w =>
      ((conv=>whnf)<;>repeat(with_reducible refine D1 ?_)<;>conv=>whnf)
      refine idxI h ?_
      ((conv=>whnf)<;>repeat(with_reducible refine D1 ?_)<;>conv=>whnf)
      refine idxI hj ?_
      ((conv=>whnf)<;>repeat(with_reducible refine D1 ?_)<;>conv=>whnf)
      (first|refine ⟨?_,?_⟩|refine nsplit ?_ ?_|refine bsplit ?_ ?_)<;>intro hb<;>have hz_:=True.intro<;>clear hz_
      ·have hb : l[i][j].ballot > w.ballot := hb
       ((conv=>whnf)<;>repeat(with_reducible refine D1 ?_)<;>conv=>whnf)
       refine idxI h ?_
       ((conv=>whnf)<;>repeat(with_reducible refine D1 ?_)<;>conv=>whnf)
       refine idxI hj ?_
       ((conv=>whnf)<;>repeat(with_reducible refine D1 ?_)<;>conv=>whnf)
       refine ⟨[], [], _, _, _, _, refPut_ok out l[i][j] hal, t3, ?_⟩
       rintro r o' c' ⟨rfl, rfl, rfl⟩
       ((conv=>whnf)<;>repeat(with_reducible refine D1 ?_)<;>conv=>whnf)
       ((conv=>whnf)<;>repeat(with_reducible refine D1 ?_)<;>conv=>whnf)
       refine ⟨l[i].length - (j + 1), ?_, by omega⟩
       refine ⟨[], [], ?_⟩
       iterate 3 constructor
       refine ⟨⟨?_, ?_, ?_⟩, ⟨j + 1, hj, rfl, rfl, rfl, rfl⟩⟩
       all_goals (repeat' first|with_reducible exact Lz.rfl|exact Lw.rfl|exact Lz.wrap (by omega)|(unfold goInt;with_reducible exact Lz.rfl)|exact flx _|constructor)
       refine Lz.of ?_
       rw [hsn]; unfold bestR1; rw [hv]; simp only; rw [if_pos hb]
      ·have hb : ¬ l[i][j].ballot > w.ballot := hb
       ((conv=>whnf)<;>repeat(with_reducible refine D1 ?_)<;>conv=>whnf)
       refine ⟨l[i].length - (j + 1), ?_, by omega⟩
       refine ⟨[], [], ?_⟩
       iterate 3 constructor
       refine ⟨⟨?_, ?_, ?_⟩, ⟨j + 1, hj, rfl, rfl, rfl, rfl⟩⟩
       all_goals (repeat' first|with_reducible exact Lz.rfl|exact Lw.rfl|exact Lz.wrap (by omega)|(unfold goInt;with_reducible exact Lz.rfl)|exact flx _|constructor)
       refine Lz.of ?_
       rw [hsn]; unfold bestR1; rw [hv]; simp only; rw [if_neg hb]
    ·have hj' : j = l[i].length := by have := mt lenlt.2 hj
                                      omega
     subst hj'
     ((conv=>whnf)<;>repeat(with_reducible refine D1 ?_)<;>conv=>whnf)
     refine ⟨l.length - (i + 1), ?_, by omega⟩
     refine ⟨[], [], ?_⟩
     iterate 3 constructor
     refine ⟨⟨?_, ?_, ?_⟩, ⟨i + 1, h, rfl, rfl, rfl, rfl⟩⟩
     all_goals (repeat' first|with_reducible exact Lz.rfl|exact Lw.rfl|exact Lz.wrap (by omega)|(unfold goInt;with_reducible exact Lz.rfl)|exact flx _|constructor)
     refine Lz.of ?_
     rw [flat_snoc h, List.take_length]
  ·have h' : i = l.length := by have := mt lenlt.2 h
                                omega
   subst h'
   ((conv=>whnf)<;>repeat(with_reducible refine D1 ?_)<;>conv=>whnf)
   refine ⟨[], [], ?_⟩
   iterate 3 constructor
   refine ⟨⟨?_, ?_, ?_⟩, rfl, rfl, rfl⟩
   all_goals (repeat' first|with_reducible exact Lz.rfl|exact Lw.rfl|exact Lz.wrap (by omega)|(unfold goInt;with_reducible exact Lz.rfl)|exact flx _|constructor)
   all_goals exact Lz.of (by rw [List.take_length]; rfl)
end Go.M
namespace Go.M
open Go
section
variable {α : Type}
def encA (k : IntKind) (f : α → TV) (e : Int × α) : Value × TV := (.int k e.1, f e.2)
def lookA : List (Int × α) → Int → Option α
 | [], _ => none
 | e :: es, n => if n = e.1 then some e.2 else lookA es n
def putA : List (Int × α) → Int → α → List (Int × α)
 | [], n, v => [(n, v)]
 | e :: es, n, v => if n = e.1 then (n, v) :: es else e :: putA es n v
def delA : List (Int × α) → Int → List (Int × α)
 | [], _ => []
 | e :: es, n => if n = e.1 then es else e :: delA es n
@[reducible] def keysA (es : List (Int × α)) : List Int := es.map (·.1)
theorem keq_A {k k' : IntKind} {f : α → TV} {e : Int × α} {n : Int} : keq (.int k' n) (encA k f e).1 = decide (n = e.1) := by
 rw [Bool.eq_iff_iff]; simp [keq, encA]
theorem lookM_A (k k' : IntKind) (f : α → TV) (n : Int) : ∀ es : List (Int × α), lookM (es.map (encA k f)) (.int k' n) = (lookA es n).map f
 | [] => rfl
 | e :: es => by
  rw [List.map_cons]
  unfold lookM lookA
  rw [keq_A]
  by_cases he : n = e.1
  ·simp [he, encA]
  ·simp [he, lookM_A k k' f n es]
theorem putM_A (k : IntKind) (f : α → TV) (n : Int) (v : α) : ∀ es : List (Int × α), putM (es.map (encA k f)) (.int k n) (f v) = (putA es n v).map (encA k f)
 | [] => rfl
 | e :: es => by
  rw [List.map_cons]
  unfold putM putA
  rw [keq_A]
  by_cases he : n = e.1
  ·simp [he, encA]
  ·simp [he, putM_A k f n v es]
theorem delM_A (k k' : IntKind) (f : α → TV) (n : Int) : ∀ es : List (Int × α), delM (es.map (encA k f)) (.int k' n) = (delA es n).map (encA k f)
 | [] => rfl
 | e :: es => by
  rw [List.map_cons]
  unfold delM delA
  rw [keq_A]
  by_cases he : n = e.1
  ·simp [he]
  ·simp [he, delM_A k k' f n es]
theorem keysM_A (k : IntKind) (f : α → TV) (es : List (Int × α)) : (es.map (encA k f)).map (·.1) = (keysA es).map (.int k) := by
 simp [encA, keysA, Function.comp_def]
theorem putA_keys {n : Int} {v : α} : ∀ {es : List (Int × α)}, keysA (putA es n v) = if n ∈ keysA es then keysA es else keysA es ++ [n]
 | [] => rfl
 | e :: es => by
  have ih := putA_keys (n := n) (v := v) (es := es)
  unfold putA
  by_cases he : n = e.1
  ·simp [he]
  ·simp only [he, if_false, keysA, List.map_cons, List.mem_cons, false_or] at ih ⊢
   rw [ih]
   split <;> simp
theorem putA_new {n : Int} {v : α} : ∀ {es : List (Int × α)}, n ∉ keysA es → putA es n v = es ++ [(n, v)]
 | [], _ => rfl
 | e :: es, h => by
  simp only [keysA, List.map_cons, List.mem_cons, not_or] at h
  unfold putA
  rw [if_neg h.1, putA_new (es := es) h.2]; rfl
theorem putA_nodup {n : Int} {v : α} {es : List (Int × α)} (h : (keysA es).Nodup) : (keysA (putA es n v)).Nodup := by
 rw [putA_keys]
 split
 ·exact h
 ·rename_i hn
  rw [List.nodup_append]
  exact ⟨h, by simp, fun a ha b hb => by simp at hb; subst hb; rintro rfl; exact hn ha⟩
theorem delA_sub {n : Int} : ∀ {es : List (Int × α)}, (delA es n).Sublist es
 | [] => .refl _
 | e :: es => by
  unfold delA
  split
  ·exact List.sublist_cons_self ..
  ·exact (delA_sub (es := es)).cons_cons _
theorem lookA_some {n : Int} {v : α} : ∀ {es : List (Int × α)}, (keysA es).Nodup → (lookA es n = some v ↔ (n, v) ∈ es)
 | [], _ => by simp [lookA]
 | e :: es, h => by
  simp only [keysA, List.map_cons, List.nodup_cons] at h
  unfold lookA
  by_cases he : n = e.1
  ·rw [if_pos he]
   constructor
   ·intro h1; cases h1; rw [he]; exact List.mem_cons_self
   ·intro h1
    rcases List.mem_cons.1 h1 with h1 | h1
    ·rw [← h1]
    ·exact absurd (List.mem_map.2 ⟨_, h1, he⟩) h.1
  ·rw [if_neg he, lookA_some h.2]
   constructor
   ·exact fun h1 => List.mem_cons_of_mem _ h1
   ·intro h1
    rcases List.mem_cons.1 h1 with h1 | h1
    ·exact absurd (congrArg (·.1) h1) he
    ·exact h1
theorem lookA_none {n : Int} : ∀ {es : List (Int × α)}, lookA es n = none ↔ n ∉ keysA es
 | [] => by simp [lookA]
 | e :: es => by
  have ih := lookA_none (n := n) (es := es)
  unfold lookA
  by_cases he : n = e.1
  ·simp [he]
  ·simp only [he, if_false, keysA, List.map_cons, List.mem_cons, false_or] at ih ⊢; exact ih
theorem lookA_put {n m : Int} {v : α} : ∀ {es : List (Int × α)}, lookA (putA es n v) m = if m = n then some v else lookA es m
 | [] => by simp [putA, lookA]
 | e :: es => by
  have ih := lookA_put (n := n) (m := m) (v := v) (es := es)
  unfold putA
  by_cases he : n = e.1
  ·simp only [he, if_true, lookA]
   by_cases hm : m = e.1 <;> simp [hm]
  ·simp only [he, if_false, lookA, ih]
   by_cases hm : m = e.1
   ·rw [if_pos hm, if_pos hm, if_neg]; rintro rfl; exact he hm
   ·rw [if_neg hm, if_neg hm]
end
end Go.M
namespace Go.M
open Go Go.Proofs
set_option maxRecDepth 100000
set_option maxHeartbeats 2000000
structure LeadS where
 me : Int
 masters : Int
 st : Int
 b : Int
 frm : Int
 nxt : Int
 came : List (Int × List Vote)
 opn : List (Int × Cmd × Nat)
def encVs (l : List Vote) : TV := .sl 6 (l.map encV) false
def encP (p : Cmd × Nat) : TV := .agg [.s (.int .i64 p.1.kind), .s (.int .i64 p.1.chain), .s (.int .u64 p.1.epoch), .s (.int .i64 p.1.node), .s (.int .u64 p.2)]
@[reducible] def leadO (x : LeadS) (i j : Nat) : TO := .cells [.s (.int .i64 x.me), .s (.int .i64 x.masters), .s (.int .i64 x.st), .s (.int .u64 x.b), .s (.int .i64 x.frm), .s (.int .i64 x.nxt), .mp i, .mp j]
@[reducible] def cameO (x : LeadS) : TO := .map (kIdx .i64) (x.came.map (encA .i64 encVs))
@[reducible] def openO (x : LeadS) : TO := .map (kIdx .i64) (x.opn.map (encA .i64 encP))
@[reducible] def stL (x : LeadS) : Ob := [(0, leadO x 1 2), (1, cameO x), (2, openO x)]
@[reducible] def lead0 (me masters : Int) : TO := .cells [.s (.int .i64 me), .s (.int .i64 masters), .s (.int .i64 0), .s (.int .u64 0), .s (.int .i64 0), .s (.int .i64 0), .s (.map none), .s (.map none)]
theorem newL_ok (me masters : Int) (h1 : m5 masters) (h2 : 1 ≤ me ∧ me ≤ masters) : VC E0 50 0 [.s (.int .i64 me), .s (.int .i64 masters)] [] (RR (.tup [.ptr 0 0, .s (.int .i64 0)]) 1 [(0, lead0 me masters)]) := by
 unfold m5 at h1
 refine VC.enterR L0 (show E0.func 50 = some Try.f50 by kernel_rfl) (fun _ _ => rfl) rfl rfl [] ?_
 ((conv=>whnf)<;>repeat(with_reducible refine D1 ?_)<;>conv=>whnf)
 (first|refine ⟨?_,?_⟩|refine nsplit ?_ ?_|refine bsplit ?_ ?_)<;>intro a1<;>have hz_:=True.intro<;>clear hz_
 ·have a1 : masters < 1 := a1
  omega
 ·((conv=>whnf)<;>repeat(with_reducible refine D1 ?_)<;>conv=>whnf)
  (first|refine ⟨?_,?_⟩|refine nsplit ?_ ?_|refine bsplit ?_ ?_)<;>intro a2<;>have hz_:=True.intro<;>clear hz_
  ·have a2 : masters > 5 := a2
   omega
  ·((conv=>whnf)<;>repeat(with_reducible refine D1 ?_)<;>conv=>whnf)
   (first|refine ⟨?_,?_⟩|refine nsplit ?_ ?_|refine bsplit ?_ ?_)<;>intro a3<;>have hz_:=True.intro<;>clear hz_
   ·have a3 : me < 1 := a3
    omega
   ·((conv=>whnf)<;>repeat(with_reducible refine D1 ?_)<;>conv=>whnf)
    (first|refine ⟨?_,?_⟩|refine nsplit ?_ ?_|refine bsplit ?_ ?_)<;>intro a4<;>have hz_:=True.intro<;>clear hz_
    ·have a4 : me > masters := a4
     omega
    ·((conv=>whnf)<;>repeat(with_reducible refine D1 ?_)<;>conv=>whnf)
     exact ⟨[], [some 0], _, _, _, t3, rfl, rfl, rfl⟩
theorem newL_no (me masters : Int) (h : ¬ (m5 masters ∧ 1 ≤ me ∧ me ≤ masters)) : VC E0 50 0 [.s (.int .i64 me), .s (.int .i64 masters)] [] (RR (.tup [.s (.pointer none), .s (.int .i64 1)]) 0 []) := by
 unfold m5 at h
 refine VC.enterR L0 (show E0.func 50 = some Try.f50 by kernel_rfl) (fun _ _ => rfl) rfl rfl [] ?_
 ((conv=>whnf)<;>repeat(with_reducible refine D1 ?_)<;>conv=>whnf)
 repeat' (first | ((first | (refine ⟨fun h => ?_, fun h => ?_⟩) | (refine nsplit (fun h => ?_) (fun h => ?_)) | (refine bsplit (fun h => ?_) (fun h => ?_))) <;> ((conv=>whnf)<;>repeat(with_reducible refine D1 ?_)<;>conv=>whnf)))
 all_goals first
  | (refine ⟨[], [], [], _, _, ⟨?_, .nil, rfl⟩, rfl, rfl, rfl⟩; exact .tup (.cons (.s Lz.rfl) (.cons (.s Lz.rfl) .nil)))
  | (exfalso; omega)
def isRight (me masters : Int) : Bool := decide (m5 masters ∧ 1 ≤ me ∧ me ≤ masters)
theorem isL_ok (x : LeadS) (s b : Int) : VC E0 89 3 [.ptr 0 0, .s (.int .i64 s), .s (.int .u64 b)] (stL x) (RR (.s (.bool (decide (x.st = s ∧ x.b = b)))) 3 (stL x)) := by
 refine VC.enterR L0 (show E0.func 89 = some Try.f89 by kernel_rfl) (fun _ _ => rfl) rfl rfl [] ?_
 ((conv=>whnf)<;>repeat(with_reducible refine D1 ?_)<;>conv=>whnf)
 (first|refine ⟨?_,?_⟩|refine nsplit ?_ ?_|refine bsplit ?_ ?_)<;>intro h1<;>have hz_:=True.intro<;>clear hz_
 ·have h1 : x.st = s := h1
  ((conv=>whnf)<;>repeat(with_reducible refine D1 ?_)<;>conv=>whnf)
  (first|refine ⟨?_,?_⟩|refine nsplit ?_ ?_|refine bsplit ?_ ?_)<;>intro h2<;>have hz_:=True.intro<;>clear hz_
  ·have h2 : x.b = b := h2
   ((conv=>whnf)<;>repeat(with_reducible refine D1 ?_)<;>conv=>whnf)
   refine ⟨[], [some 0, some 1, some 2], ?_⟩
   iterate 3 constructor
   refine ⟨⟨?_, ?_, ?_⟩, rfl, rfl, rfl⟩
   all_goals (repeat' first|with_reducible exact Lz.rfl|exact Lw.rfl|exact Lz.wrap (by omega)|(unfold goInt;with_reducible exact Lz.rfl)|exact flx _|constructor)
   exact Lz.of (bool_eq (Eq.symm (decide_eq_true ⟨h1, h2⟩)))
  ·have h2 : ¬ x.b = b := h2
   ((conv=>whnf)<;>repeat(with_reducible refine D1 ?_)<;>conv=>whnf)
   refine ⟨[], [some 0, some 1, some 2], ?_⟩
   iterate 3 constructor
   refine ⟨⟨?_, ?_, ?_⟩, rfl, rfl, rfl⟩
   all_goals (repeat' first|with_reducible exact Lz.rfl|exact Lw.rfl|exact Lz.wrap (by omega)|(unfold goInt;with_reducible exact Lz.rfl)|exact flx _|constructor)
   exact Lz.of (bool_eq (Eq.symm (decide_eq_false fun h => h2 h.2)))
 ·have h1 : ¬ x.st = s := h1
  ((conv=>whnf)<;>repeat(with_reducible refine D1 ?_)<;>conv=>whnf)
  refine ⟨[], [some 0, some 1, some 2], ?_⟩
  iterate 3 constructor
  refine ⟨⟨?_, ?_, ?_⟩, rfl, rfl, rfl⟩
  all_goals (repeat' first|with_reducible exact Lz.rfl|exact Lw.rfl|exact Lz.wrap (by omega)|(unfold goInt;with_reducible exact Lz.rfl)|exact flx _|constructor)
  exact Lz.of (bool_eq (Eq.symm (decide_eq_false fun h => h1 h.1)))
theorem isM_ok (x : LeadS) (who : Int) : VC E0 90 3 [.ptr 0 0, .s (.int .i64 who)] (stL x) (RR (.s (.bool (decide (1 ≤ who ∧ who ≤ x.masters)))) 3 (stL x)) := by
 refine VC.enterR L0 (show E0.func 90 = some Try.f90 by kernel_rfl) (fun _ _ => rfl) rfl rfl [] ?_
 ((conv=>whnf)<;>repeat(with_reducible refine D1 ?_)<;>conv=>whnf)
 (first|refine ⟨?_,?_⟩|refine nsplit ?_ ?_|refine bsplit ?_ ?_)<;>intro h1<;>have hz_:=True.intro<;>clear hz_
 ·have h1 : who ≥ 1 := h1
  ((conv=>whnf)<;>repeat(with_reducible refine D1 ?_)<;>conv=>whnf)
  (first|refine ⟨?_,?_⟩|refine nsplit ?_ ?_|refine bsplit ?_ ?_)<;>intro h2<;>have hz_:=True.intro<;>clear hz_
  ·have h2 : who ≤ x.masters := h2
   ((conv=>whnf)<;>repeat(with_reducible refine D1 ?_)<;>conv=>whnf)
   refine ⟨[], [some 0, some 1, some 2], ?_⟩
   iterate 3 constructor
   refine ⟨⟨?_, ?_, ?_⟩, rfl, rfl, rfl⟩
   all_goals (repeat' first|with_reducible exact Lz.rfl|exact Lw.rfl|exact Lz.wrap (by omega)|(unfold goInt;with_reducible exact Lz.rfl)|exact flx _|constructor)
   exact Lz.of (bool_eq (Eq.symm (decide_eq_true ⟨h1, h2⟩)))
  ·have h2 : ¬ who ≤ x.masters := h2
   ((conv=>whnf)<;>repeat(with_reducible refine D1 ?_)<;>conv=>whnf)
   refine ⟨[], [some 0, some 1, some 2], ?_⟩
   iterate 3 constructor
   refine ⟨⟨?_, ?_, ?_⟩, rfl, rfl, rfl⟩
   all_goals (repeat' first|with_reducible exact Lz.rfl|exact Lw.rfl|exact Lz.wrap (by omega)|(unfold goInt;with_reducible exact Lz.rfl)|exact flx _|constructor)
   exact Lz.of (bool_eq (Eq.symm (decide_eq_false fun h => h2 h.2)))
 ·have h1 : ¬ who ≥ 1 := h1
  ((conv=>whnf)<;>repeat(with_reducible refine D1 ?_)<;>conv=>whnf)
  refine ⟨[], [some 0, some 1, some 2], ?_⟩
  iterate 3 constructor
  refine ⟨⟨?_, ?_, ?_⟩, rfl, rfl, rfl⟩
  all_goals (repeat' first|with_reducible exact Lz.rfl|exact Lw.rfl|exact Lz.wrap (by omega)|(unfold goInt;with_reducible exact Lz.rfl)|exact flx _|constructor)
  exact Lz.of (bool_eq (Eq.symm (decide_eq_false fun h => h1 h.1)))
theorem stateL_ok (x : LeadS) : VC E0 58 3 [.ptr 0 0] (stL x) (RR (.s (.int .i64 x.st)) 3 (stL x)) := by
 refine VC.enterR L0 (show E0.func 58 = some Try.f58 by kernel_rfl) (fun _ _ => rfl) rfl rfl [] ?_
 ((conv=>whnf)<;>repeat(with_reducible refine D1 ?_)<;>conv=>whnf)
 exact ⟨[], [some 0, some 1, some 2], _, _, _, t3, rfl, rfl, rfl⟩
theorem ballotL_ok (x : LeadS) : VC E0 59 3 [.ptr 0 0] (stL x) (RR (.s (.int .u64 x.b)) 3 (stL x)) := by
 refine VC.enterR L0 (show E0.func 59 = some Try.f59 by kernel_rfl) (fun _ _ => rfl) rfl rfl [] ?_
 ((conv=>whnf)<;>repeat(with_reducible refine D1 ?_)<;>conv=>whnf)
 exact ⟨[], [some 0, some 1, some 2], _, _, _, t3, rfl, rfl, rfl⟩
theorem fromL_ok (x : LeadS) : VC E0 60 3 [.ptr 0 0] (stL x) (RR (.s (.int .i64 x.frm)) 3 (stL x)) := by
 refine VC.enterR L0 (show E0.func 60 = some Try.f60 by kernel_rfl) (fun _ _ => rfl) rfl rfl [] ?_
 ((conv=>whnf)<;>repeat(with_reducible refine D1 ?_)<;>conv=>whnf)
 exact ⟨[], [some 0, some 1, some 2], _, _, _, t3, rfl, rfl, rfl⟩
theorem nextL_ok (x : LeadS) : VC E0 53 3 [.ptr 0 0] (stL x) (RR (.s (.int .i64 x.nxt)) 3 (stL x)) := by
 refine VC.enterR L0 (show E0.func 53 = some Try.f53 by kernel_rfl) (fun _ _ => rfl) rfl rfl [] ?_
 ((conv=>whnf)<;>repeat(with_reducible refine D1 ?_)<;>conv=>whnf)
 exact ⟨[], [some 0, some 1, some 2], _, _, _, t3, rfl, rfl, rfl⟩
def layS (x : LeadS) (c : Cmd) : LeadS := { x with opn := putA x.opn x.nxt (c, 0), nxt := x.nxt + 1 }
theorem lay_ok (x : LeadS) (c : Cmd) (h : -1000000 ≤ x.nxt ∧ x.nxt ≤ 1000000) : VC E0 100 3 [.ptr 0 0, cT4 c] (stL x) (RR (.s (.int .i64 x.nxt)) 3 (stL (layS x c))) := by
 refine VC.enterR L0 (show E0.func 100 = some Try.f100 by kernel_rfl) (fun _ _ => rfl) rfl rfl [] ?_
 ((conv=>whnf)<;>repeat(with_reducible refine D1 ?_)<;>conv=>whnf)
 refine ⟨[], [some 0, some 1, some 2], ?_⟩
 iterate 3 constructor
 refine ⟨⟨?_, ?_, ?_⟩, rfl, rfl, rfl⟩
 all_goals (repeat' first|with_reducible exact Lz.rfl|exact Lw.rfl|exact Lz.wrap (by omega)|(unfold goInt;with_reducible exact Lz.rfl)|exact flx _|constructor)
 ·exact Lz.int (IntWalk.i64_in _ (by omega))
 ·exact Lz.of (putM_A .i64 encP x.nxt (c, 0) x.opn)
def noCmd : Cmd := ⟨0, 0, 0, 0⟩
def voteS (x : LeadS) (n : Int) : Vote := .of n x.b ((lookA x.opn n).getD (noCmd, 0)).1
theorem voteL_ok (x : LeadS) (n : Int) : VC E0 99 3 [.ptr 0 0, .s (.int .i64 n)] (stL x) (RR (.agg (encV (voteS x n))) 3 (stL x)) := by
 refine VC.enterR L0 (show E0.func 99 = some Try.f99 by kernel_rfl) (fun _ _ => rfl) rfl rfl [] ?_
 ((conv=>whnf)<;>repeat(with_reducible refine D1 ?_)<;>conv=>whnf)
 have hl := lookM_A .i64 .i64 encP n x.opn
 have hv : voteS x n = .of n x.b ((lookA x.opn n).getD (noCmd, 0)).1 := rfl
 cases h : lookA x.opn n with
 | none =>
  rw [h] at hl hv
  refine ⟨_, hl, ?_⟩
  ((conv=>whnf)<;>repeat(with_reducible refine D1 ?_)<;>conv=>whnf)
  rw [hv]
  exact ⟨[], [some 0, some 1, some 2], _, _, _, t3, rfl, rfl, rfl⟩
 | some p =>
  rw [h] at hl hv
  refine ⟨_, hl, ?_⟩
  ((conv=>whnf)<;>repeat(with_reducible refine D1 ?_)<;>conv=>whnf)
  rw [hv]
  exact ⟨[], [some 0, some 1, some 2], _, _, _, t3, rfl, rfl, rfl⟩
end Go.M
namespace Go.M
open Go Go.Proofs
set_option maxRecDepth 100000
set_option maxHeartbeats 2000000
theorem cloneV_ok (vs : List Vote) (hl : vs.length < 1000000) : VC E0 92 0 [encVs vs] [] (RR (.tk 0) 1 [(0, .arr 6 true (vs.map encV))]) := by
 refine VC.enterR L0 (show E0.func 92 = some Try.f92 by kernel_rfl) (fun _ _ => rfl) rfl rfl [] ?_
 ((conv=>whnf)<;>repeat(with_reducible refine D1 ?_)<;>conv=>whnf)
 refine ⟨fun h => ?_, ?_⟩
 ·have h : vs = [] := by simpa using h
  subst h
  ((conv=>whnf)<;>repeat(with_reducible refine D1 ?_)<;>conv=>whnf)
  exact ⟨[], [none], _, _, _, t3, rfl, rfl, rfl⟩
 ·((conv=>whnf)<;>repeat(with_reducible refine D1 ?_)<;>conv=>whnf)
  refine ⟨by simp; omega, ?_⟩
  ((conv=>whnf)<;>repeat(with_reducible refine D1 ?_)<;>conv=>whnf)
  exact ⟨[], [some 1], _, _, _, t3, rfl, rfl, rfl⟩
def badV (frm : Int) (v : Vote) : Bool := decide (v.slot < frm ∨ v.slot ≥ 512)
def delV (frm : Int) (vs : List Vote) : List Vote := vs.filter fun v => !(badV frm v)
@[reducible] def stC (x : LeadS) : Ob := [(0, .cells [.ptr 1 0]), (1, leadO x 2 3), (2, cameO x), (3, openO x)]
@[reducible] def stD (x : LeadS) (vs : List Vote) : Ob := [(0, .arr 6 true (vs.map encV)), (1, .cells [.ptr 2 0]), (2, leadO x 3 4), (3, cameO x), (4, openO x)]
theorem bad_ok (x : LeadS) (v : Vote) : VC E0 93 4 [.agg (encV v), .ptr 0 0] (stC x) (RR (.s (.bool (badV x.frm v))) 4 (stC x)) := by
 refine VC.enterR L0 (show E0.func 93 = some Try.f93 by kernel_rfl) (fun _ _ => rfl) rfl rfl [] ?_
 ((conv=>whnf)<;>repeat(with_reducible refine D1 ?_)<;>conv=>whnf)
 (first|refine ⟨?_,?_⟩|refine nsplit ?_ ?_|refine bsplit ?_ ?_)<;>intro h1<;>have hz_:=True.intro<;>clear hz_
 ·have h1 : v.slot < x.frm := h1
  ((conv=>whnf)<;>repeat(with_reducible refine D1 ?_)<;>conv=>whnf)
  refine ⟨[], [some 0, some 1, some 2, some 3], ?_⟩
  iterate 3 constructor
  refine ⟨⟨?_, ?_, ?_⟩, rfl, rfl, rfl⟩
  all_goals (repeat' first|with_reducible exact Lz.rfl|exact Lw.rfl|exact Lz.wrap (by omega)|(unfold goInt;with_reducible exact Lz.rfl)|exact flx _|constructor)
  exact Lz.of (bool_eq (Eq.symm (decide_eq_true (.inl h1))))
 ·have h1 : ¬ v.slot < x.frm := h1
  ((conv=>whnf)<;>repeat(with_reducible refine D1 ?_)<;>conv=>whnf)
  (first|refine ⟨?_,?_⟩|refine nsplit ?_ ?_|refine bsplit ?_ ?_)<;>intro h2<;>have hz_:=True.intro<;>clear hz_
  ·have h2 : v.slot ≥ 512 := h2
   ((conv=>whnf)<;>repeat(with_reducible refine D1 ?_)<;>conv=>whnf)
   refine ⟨[], [some 0, some 1, some 2, some 3], ?_⟩
   iterate 3 constructor
   refine ⟨⟨?_, ?_, ?_⟩, rfl, rfl, rfl⟩
   all_goals (repeat' first|with_reducible exact Lz.rfl|exact Lw.rfl|exact Lz.wrap (by omega)|(unfold goInt;with_reducible exact Lz.rfl)|exact flx _|constructor)
   exact Lz.of (bool_eq (Eq.symm (decide_eq_true (.inr h2))))
  ·have h2 : ¬ v.slot ≥ 512 := h2
   ((conv=>whnf)<;>repeat(with_reducible refine D1 ?_)<;>conv=>whnf)
   refine ⟨[], [some 0, some 1, some 2, some 3], ?_⟩
   iterate 3 constructor
   refine ⟨⟨?_, ?_, ?_⟩, rfl, rfl, rfl⟩
   all_goals (repeat' first|with_reducible exact Lz.rfl|exact Lw.rfl|exact Lz.wrap (by omega)|(unfold goInt;with_reducible exact Lz.rfl)|exact flx _|constructor)
   exact Lz.of (bool_eq (Eq.symm (decide_eq_false fun h => h.elim h1 h2)))
theorem idxV_ok (x : LeadS) (vs : List Vote) (hl : vs.length < 1000000) : VC E0 125 5 [.tk 0, .clo 93 [] [.ptr 1 0]] (stD x vs)
 (fun r o c => ∃ i : Int, r = .s (.int .i64 i) ∧ c = 5 ∧ o = stD x vs ∧ ((i = -1 ∧ ∀ v ∈ vs, badV x.frm v = false) ∨ ∃ j : Nat, ∃ h : j < vs.length, i = j ∧ (∀ v ∈ vs.take j, badV x.frm v = false) ∧ badV x.frm vs[j] = true)) := by
 refine VC.enterR L0 (show E0.func 125 = some Try.f125 by kernel_rfl) (fun _ _ => rfl) rfl rfl [] ?_
 ((conv=>whnf)<;>repeat(with_reducible refine D1 ?_)<;>conv=>whnf)
 refine ⟨fun k f o c => ∃ j : Nat, j ≤ vs.length ∧ k = vs.length - j ∧ (∀ v ∈ vs.take j, badV x.frm v = false) ∧ c = 5 ∧ f = [(0, .tk 0), (1, .clo 93 [] [.ptr 1 0]), (7, .s (.int .i64 vs.length)), (8, .s (.int .i64 j))] ∧ o = stD x vs, ⟨vs.length, ?_⟩, ?_⟩
 ·refine ⟨[], [some 0, some 1, some 2, some 3, some 4], ?_⟩
  iterate 3 constructor
  refine ⟨⟨?_, ?_, ?_⟩, ⟨0, Nat.zero_le _, rfl, by simp, rfl, rfl, rfl⟩⟩
  all_goals (repeat' first|with_reducible exact Lz.rfl|exact Lw.rfl|exact Lz.wrap (by omega)|(unfold goInt;with_reducible exact Lz.rfl)|exact flx _|constructor)
  all_goals exact Lz.of (by simp [goInt])
 ·rintro k f1 o1 c1 ⟨j, hj, rfl, hb, rfl, rfl, rfl⟩
  ((conv=>whnf)<;>repeat(with_reducible refine D1 ?_)<;>conv=>whnf)
  (first|refine ⟨?_,?_⟩|refine nsplit ?_ ?_|refine bsplit ?_ ?_)<;>intro h<;>have hz_:=True.intro<;>clear hz_
  ·have h : j < vs.length := by simpa using h
   ((conv=>whnf)<;>repeat(with_reducible refine D1 ?_)<;>conv=>whnf)
   refine ⟨⟨by omega, by simp; omega⟩, encV vs[j], by simp [h], ?_⟩
   ((conv=>whnf)<;>repeat(with_reducible refine D1 ?_)<;>conv=>whnf)
   refine ⟨[], [some 1, some 2, some 3, some 4], _, _, _, _, bad_ok x vs[j], t3, ?_⟩
   rintro r o' c' ⟨rfl, rfl, rfl⟩
   have hz_ := True.intro
   clear hz_
   cases hv : badV x.frm vs[j]
   ·((conv=>whnf)<;>repeat(with_reducible refine D1 ?_)<;>conv=>whnf)
    refine ⟨vs.length - (j + 1), ?_, by omega⟩
    exact ⟨[], [some 0, some 1, some 2, some 3, some 4], _, _, _, t3, ⟨j + 1, h, rfl, by intro v hv'; rw [List.take_succ_eq_append_getElem h] at hv'; rcases List.mem_append.1 hv' with h1 | h1; exact hb v h1; simp at h1; subst h1; exact hv, rfl, rfl, rfl⟩⟩
   ·((conv=>whnf)<;>repeat(with_reducible refine D1 ?_)<;>conv=>whnf)
    exact ⟨[], [some 0, some 1, some 2, some 3, some 4], _, _, _, t3, (j : Int), rfl, rfl, rfl, .inr ⟨j, h, rfl, hb, hv⟩⟩
  ·have h' : j = vs.length := by have : ¬ j < vs.length := by simpa using h
                                 omega
   subst h'
   rw [List.take_length] at hb
   ((conv=>whnf)<;>repeat(with_reducible refine D1 ?_)<;>conv=>whnf)
   exact ⟨[], [some 0, some 1, some 2, some 3, some 4], _, _, _, t3, -1, rfl, rfl, rfl, .inl ⟨rfl, hb⟩⟩
theorem delV_all {frm : Int} {vs : List Vote} (h : ∀ v ∈ vs, badV frm v = false) : delV frm vs = vs := by
 unfold delV
 rw [List.filter_eq_self]
 intro v hv; rw [h v hv]; rfl
theorem delV_snoc (frm : Int) (vs : List Vote) (j : Nat) (h : j < vs.length) : delV frm (vs.take (j + 1)) = delV frm (vs.take j) ++ (if badV frm vs[j] = true then [] else [vs[j]]) := by
 unfold delV
 rw [List.take_succ_eq_append_getElem h, List.filter_append]
 congr 1
 by_cases hb : badV frm vs[j] = true <;> simp [hb]
theorem delf_ok (x : LeadS) (vs : List Vote) (hl : vs.length < 1000000) : VC E0 91 5 [.tk 0, .clo 93 [] [.ptr 1 0]] (stD x vs)
 (RR (encVs (delV x.frm vs)) 5 [(1, .cells [.ptr 2 0]), (2, leadO x 3 4), (3, cameO x), (4, openO x)]) := by
 refine VC.enterR L0 (show E0.func 91 = some Try.f91 by kernel_rfl) (fun _ _ => rfl) rfl rfl [] ?_
 ((conv=>whnf)<;>repeat(with_reducible refine D1 ?_)<;>conv=>whnf)
 refine ⟨[], [some 0, some 1, some 2, some 3, some 4], _, _, _, _, idxV_ok x vs hl, t3, ?_⟩
 rintro r o' c' ⟨i0, rfl, rfl, rfl, hi0⟩
 ((conv=>whnf)<;>repeat(with_reducible refine D1 ?_)<;>conv=>whnf)
 (first|refine ⟨?_,?_⟩|refine nsplit ?_ ?_|refine bsplit ?_ ?_)<;>intro hm<;>have hz_:=True.intro<;>clear hz_
 ·have hm : i0 = -1 := hm
  rcases hi0 with ⟨_, hall⟩ | ⟨j, h, e, _, _⟩
  ·((conv=>whnf)<;>repeat(with_reducible refine D1 ?_)<;>conv=>whnf)
   refine ⟨[0], [some 0, some 1, some 2, some 3, some 4], ?_⟩
   iterate 3 constructor
   refine ⟨⟨?_, ?_, ?_⟩, rfl, rfl, rfl⟩
   all_goals (repeat' first|with_reducible exact Lz.rfl|exact Lw.rfl|exact Lz.wrap (by omega)|(unfold goInt;with_reducible exact Lz.rfl)|exact flx _|constructor)
   rw [delV_all hall]; exact Lz.rfl
  ·omega
 ·have hm : ¬ i0 = -1 := hm
  rcases hi0 with ⟨e, _⟩ | ⟨j0, h0, rfl, hb0, hv0⟩
  ·exact absurd e hm
  ((conv=>whnf)<;>repeat(with_reducible refine D1 ?_)<;>conv=>whnf)
  refine ⟨fun k f o c => ∃ (i j : Nat) (ws : List Vote), i < j ∧ j ≤ vs.length ∧ k = vs.length - j ∧ ws.length = vs.length ∧ ws.take i = delV x.frm (vs.take j) ∧ ws.drop j = vs.drop j ∧ c = 5 ∧ f = [(0, .tk 0), (1, .clo 93 [] [.ptr 1 0]), (5, .s (.int .i64 i)), (6, .s (.int .i64 j))] ∧ o = stD x ws, ⟨vs.length - (j0 + 1), ?_⟩, ?_⟩
  ·exact ⟨[], [some 0, some 1, some 2, some 3, some 4], _, _, _, t3, ⟨j0, j0 + 1, vs, by omega, h0, rfl, rfl, (by rw [delV_snoc _ _ _ h0, if_pos hv0, List.append_nil]; exact (delV_all hb0).symm), rfl, rfl, rfl, rfl⟩⟩
  ·rintro k f1 o1 c1 ⟨i, j, ws, hij, hj, rfl, hlen, htk, hdr, rfl, rfl, rfl⟩
   ((conv=>whnf)<;>repeat(with_reducible refine D1 ?_)<;>conv=>whnf)
   (first|refine ⟨?_,?_⟩|refine nsplit ?_ ?_|refine bsplit ?_ ?_)<;>intro h<;>have hz_:=True.intro<;>clear hz_
   ·have h : j < vs.length := by rw [List.length_map, hlen] at h; omega
    have hw : ws[j]? = some vs[j] := by
     have := congrArg (fun l => l[0]?) hdr
     simpa [h] using this
    have hdr1 : ws.drop (j + 1) = vs.drop (j + 1) := by
     have := congrArg (List.drop 1) hdr
     simpa [List.drop_drop, Nat.add_comm] using this
    ((conv=>whnf)<;>repeat(with_reducible refine D1 ?_)<;>conv=>whnf)
    refine ⟨⟨by omega, by simp; omega⟩, encV vs[j], by simp [hw], ?_⟩
    ((conv=>whnf)<;>repeat(with_reducible refine D1 ?_)<;>conv=>whnf)
    refine ⟨[], [some 1, some 2, some 3, some 4], _, _, _, _, bad_ok x vs[j], t3, ?_⟩
    rintro r o' c' ⟨rfl, rfl, rfl⟩
    have hz_ := True.intro
    clear hz_
    cases hv : badV x.frm vs[j]
    ·((conv=>whnf)<;>repeat(with_reducible refine D1 ?_)<;>conv=>whnf)
     refine ⟨⟨by omega, by simp; omega⟩, encV (ws[i]'(by omega)), by simp [show i < ws.length by omega], ?_⟩
     ((conv=>whnf)<;>repeat(with_reducible refine D1 ?_)<;>conv=>whnf)
     refine ⟨vs.length - (j + 1), ?_, by omega⟩
     refine ⟨[], [some 0, some 1, some 2, some 3, some 4], ?_⟩
     iterate 3 constructor
     refine ⟨⟨?_, ?_, ?_⟩, ⟨i + 1, j + 1, ws.set i vs[j], by omega, h, rfl, by simpa using hlen, (by rw [delV_snoc _ _ _ h, if_neg (by simp [hv]), List.take_succ_eq_append_getElem (by simp; omega), List.take_set_of_le (Nat.le_refl _), htk]; simp), (by rw [List.drop_set_of_lt (by omega)]; exact hdr1), rfl, rfl, rfl⟩⟩
     all_goals (repeat' first|with_reducible exact Lz.rfl|exact Lw.rfl|exact Lz.wrap (by omega)|(unfold goInt;with_reducible exact Lz.rfl)|exact flx _|constructor)
     refine Lz.of ?_
     rw [List.map_set]; rfl
    ·((conv=>whnf)<;>repeat(with_reducible refine D1 ?_)<;>conv=>whnf)
     refine ⟨vs.length - (j + 1), ?_, by omega⟩
     exact ⟨[], [some 0, some 1, some 2, some 3, some 4], _, _, _, t3, ⟨i, j + 1, ws, by omega, h, rfl, hlen, (by rw [delV_snoc _ _ _ h, if_pos hv, List.append_nil]; exact htk), hdr1, rfl, rfl, rfl⟩⟩
   ·have h' : j = vs.length := by have : ¬ (j : Int) < (((ws.map encV).length : Nat) : Int) := h
                                  rw [List.length_map, hlen] at this; omega
    subst h'
    rw [List.take_length] at htk
    ((conv=>whnf)<;>repeat(with_reducible refine D1 ?_)<;>conv=>whnf)
    refine ⟨⟨by omega, by simp; try omega, by simp⟩, .inr ?_⟩
    ((conv=>whnf)<;>repeat(with_reducible refine D1 ?_)<;>conv=>whnf)
    refine ⟨fun hc => absurd hc (by simp; omega), fun _ => ?_⟩
    ((conv=>whnf)<;>repeat(with_reducible refine D1 ?_)<;>conv=>whnf)
    refine ⟨⟨by omega, by simp; try omega, by simp; try omega⟩, ?_⟩
    ((conv=>whnf)<;>repeat(with_reducible refine D1 ?_)<;>conv=>whnf)
    refine ⟨[], [some 0, some 1, some 2, some 3, some 4], ?_⟩
    iterate 3 constructor
    refine ⟨⟨?_, ?_, ?_⟩, rfl, rfl, rfl⟩
    all_goals (repeat' first|with_reducible exact Lz.rfl|exact Lw.rfl|exact Lz.wrap (by omega)|(unfold goInt;with_reducible exact Lz.rfl)|exact flx _|constructor)
    refine Lz.of ?_
    rw [← htk]
    simp [List.take_append, show i ≤ ws.length by omega]
end Go.M
namespace Go.M
open Go Go.Proofs
set_option maxRecDepth 100000
set_option maxHeartbeats 2000000
theorem keysP_ok (es : List (Value × TV)) : VC E0 102 1 [.mp 0] [(0, .map (kIdx .i64) es)] (fun r o c => r = .clo 134 [] [.ptr 1 0] ∧ c = 2 ∧ o = [(1, .cells [.mp 0]), (0, .map (kIdx .i64) es)]) := by
 refine VC.enterR L0 (show E0.func 102 = some Try.f102 by kernel_rfl) (fun _ _ => rfl) rfl rfl [] ?_
 ((conv=>whnf)<;>repeat(with_reducible refine D1 ?_)<;>conv=>whnf)
 exact ⟨[], [some 0, some 1], _, _, _, t3, rfl, rfl, rfl⟩
theorem keysC_ok (es : List (Value × TV)) : VC E0 95 1 [.mp 0] [(0, .map (kIdx .i64) es)] (fun r o c => r = .clo 127 [] [.ptr 1 0] ∧ c = 2 ∧ o = [(1, .cells [.mp 0]), (0, .map (kIdx .i64) es)]) := by
 refine VC.enterR L0 (show E0.func 95 = some Try.f95 by kernel_rfl) (fun _ _ => rfl) rfl rfl [] ?_
 ((conv=>whnf)<;>repeat(with_reducible refine D1 ?_)<;>conv=>whnf)
 exact ⟨[], [some 0, some 1], _, _, _, t3, rfl, rfl, rfl⟩
theorem hasSorted : (E0.func 101).isSome = true := by kernel_rfl
theorem sortedA_ok {α : Type} (f : α → TV) (k : Nat) (hk : memN k [123, 134, 127] = true) (es : List (Int × α)) (hok : ksOk (keysA es)) :
 VC E0 101 2 [.clo k [] [.ptr 1 0]] [(0, .map (kIdx .i64) (es.map (encA .i64 f))), (1, .cells [.mp 0])] (fun r o c => r = .tk 2 ∧ c = 3 ∧
  o = [(2, .arr 1 true ((sortZ (keysA es)).map encI1)), (0, .map (kIdx .i64) (es.map (encA .i64 f))), (1, .cells [.mp 0])]) :=
 VC.sortedO (E := E0) (g := 101) (its := [123, 134, 127]) (k := k) hasSorted (fun _ _ => rfl) hk (y := .map (kIdx .i64) (es.map (encA .i64 f))) (ks := keysA es) (by show (es.map (encA .i64 f)).map (·.1) = _; exact keysM_A _ _ _) hok
def openV (x : LeadS) : List Vote := (sortZ (keysA x.opn)).map (voteS x)
theorem openL_ok (x : LeadS) (hok : ksOk (keysA x.opn)) (hlen : x.opn.length < 1000000) : VC E0 56 3 [.ptr 0 0] (stL x) (RR (encVs (openV x)) 3 (stL x)) := by
 refine VC.enterR L0 (show E0.func 56 = some Try.f56 by kernel_rfl) (fun _ _ => rfl) rfl rfl [] ?_
 ((conv=>whnf)<;>repeat(with_reducible refine D1 ?_)<;>conv=>whnf)
 refine ⟨[], [some 2], _, _, _, _, keysP_ok _, t3, ?_⟩
 rintro r o' c' ⟨rfl, rfl, rfl⟩
 ((conv=>whnf)<;>repeat(with_reducible refine D1 ?_)<;>conv=>whnf)
 refine ⟨[], [some 2, some 4], _, _, _, _, sortedA_ok encP _ rfl x.opn hok, t3, ?_⟩
 rintro r o' c' ⟨rfl, rfl, rfl⟩
 ((conv=>whnf)<;>repeat(with_reducible refine D1 ?_)<;>conv=>whnf)
 have hv : openV x = (sortZ (keysA x.opn)).map (voteS x) := rfl
 have hl1 : (sortZ (keysA x.opn)).length < 1000000 := by rw [sortZ_len]; simpa using hlen
 generalize hks : sortZ (keysA x.opn) = ks at *
 refine ⟨fun k f o c => ∃ i : Nat, i ≤ ks.length ∧ k = ks.length - i ∧ c = 5 ∧ f = [(0, .ptr 0 0), (3, .tk 3), (13, .tk 4), (14, .s (.int .i64 ks.length)), (15, .s (.int .i64 i))] ∧ o = [(0, leadO x 1 2), (1, cameO x), (2, openO x), (3, .arr 6 true (((ks.take i).map (voteS x)).map encV)), (4, .arr 1 true (ks.map encI1))], ⟨ks.length, ?_⟩, ?_⟩
 ·refine ⟨[], [some 0, some 1, some 2, none, some 7], ?_⟩
  iterate 3 constructor
  refine ⟨⟨?_, ?_, ?_⟩, ⟨0, Nat.zero_le _, rfl, rfl, rfl, rfl⟩⟩
  all_goals (repeat' first|with_reducible exact Lz.rfl|exact Lw.rfl|exact Lz.wrap (by omega)|(unfold goInt;with_reducible exact Lz.rfl)|exact flx _|constructor)
  all_goals exact Lz.of (by simp [goInt])
 ·rintro k f1 o1 c1 ⟨i, hi, rfl, rfl, rfl, rfl⟩
  ((conv=>whnf)<;>repeat(with_reducible refine D1 ?_)<;>conv=>whnf)
  (first|refine ⟨?_,?_⟩|refine nsplit ?_ ?_|refine bsplit ?_ ?_)<;>intro h<;>have hz_:=True.intro<;>clear hz_
  ·have h : i < ks.length := by simpa using h
   ((conv=>whnf)<;>repeat(with_reducible refine D1 ?_)<;>conv=>whnf)
   refine ⟨⟨by omega, by simp; omega⟩, encI1 ks[i], by simp [h], ?_⟩
   ((conv=>whnf)<;>repeat(with_reducible refine D1 ?_)<;>conv=>whnf)
   refine ⟨[], [some 0, some 1, some 2], _, _, _, _, voteL_ok x ks[i], t3, ?_⟩
   rintro r o' c' ⟨rfl, rfl, rfl⟩
   ((conv=>whnf)<;>repeat(with_reducible refine D1 ?_)<;>conv=>whnf)
   refine ⟨by simp; omega, ?_⟩
   ((conv=>whnf)<;>repeat(with_reducible refine D1 ?_)<;>conv=>whnf)
   refine ⟨ks.length - (i + 1), ?_, by omega⟩
   refine ⟨[], [some 0, some 1, some 2, some 9, some 4], ?_⟩
   iterate 3 constructor
   refine ⟨⟨?_, ?_, ?_⟩, ⟨i + 1, h, rfl, rfl, rfl, rfl⟩⟩
   all_goals (repeat' first|with_reducible exact Lz.rfl|exact Lw.rfl|exact Lz.wrap (by omega)|(unfold goInt;with_reducible exact Lz.rfl)|exact flx _|constructor)
   refine Lz.of ?_
   rw [List.take_succ_eq_append_getElem h, List.map_append, List.map_append]; rfl
  ·have h' : i = ks.length := by have : ¬ i < ks.length := by simpa using h
                                 omega
   subst h'
   rw [List.take_length, ← hv]
   ((conv=>whnf)<;>repeat(with_reducible refine D1 ?_)<;>conv=>whnf)
   exact ⟨[3], [some 0, some 1, some 2], _, _, _, t3, rfl, rfl, rfl⟩
def allL (x : LeadS) : List (List Vote) := (sortZ (keysA x.came)).map fun w => (lookA x.came w).getD []
theorem all_ok (x : LeadS) (hok : ksOk (keysA x.came)) (hlen : x.came.length < 1000000) : VC E0 130 3 [.ptr 0 0] (stL x) (RR (.sl 1 ((allL x).map encL) false) 3 (stL x)) := by
 refine VC.enterR L0 (show E0.func 130 = some Try.f130 by kernel_rfl) (fun _ _ => rfl) rfl rfl [] ?_
 ((conv=>whnf)<;>repeat(with_reducible refine D1 ?_)<;>conv=>whnf)
 refine ⟨[], [some 1], _, _, _, _, keysC_ok _, t3, ?_⟩
 rintro r o' c' ⟨rfl, rfl, rfl⟩
 ((conv=>whnf)<;>repeat(with_reducible refine D1 ?_)<;>conv=>whnf)
 refine ⟨[], [some 1, some 4], _, _, _, _, sortedA_ok encVs _ rfl x.came hok, t3, ?_⟩
 rintro r o' c' ⟨rfl, rfl, rfl⟩
 ((conv=>whnf)<;>repeat(with_reducible refine D1 ?_)<;>conv=>whnf)
 have hv : allL x = (sortZ (keysA x.came)).map fun w => (lookA x.came w).getD [] := rfl
 have hmem : ∀ w ∈ sortZ (keysA x.came), w ∈ keysA x.came := fun w hw => mem_sortZ.1 hw
 have hl1 : (sortZ (keysA x.came)).length < 1000000 := by rw [sortZ_len]; simpa using hlen
 generalize hks : sortZ (keysA x.came) = ks at *
 refine ⟨fun k f o c => ∃ i : Nat, i ≤ ks.length ∧ k = ks.length - i ∧ c = 5 ∧ f = [(0, .ptr 0 0), (3, .tk 3), (11, .tk 4), (12, .s (.int .i64 ks.length)), (13, .s (.int .i64 i))] ∧ o = [(0, leadO x 1 2), (1, cameO x), (2, openO x), (3, .arr 1 true (((ks.take i).map fun w => (lookA x.came w).getD []).map encL)), (4, .arr 1 true (ks.map encI1))], ⟨ks.length, ?_⟩, ?_⟩
 ·refine ⟨[], [some 0, some 1, some 2, none, some 7], ?_⟩
  iterate 3 constructor
  refine ⟨⟨?_, ?_, ?_⟩, ⟨0, Nat.zero_le _, rfl, rfl, rfl, rfl⟩⟩
  all_goals (repeat' first|with_reducible exact Lz.rfl|exact Lw.rfl|exact Lz.wrap (by omega)|(unfold goInt;with_reducible exact Lz.rfl)|exact flx _|constructor)
  all_goals exact Lz.of (by simp [goInt])
 ·rintro k f1 o1 c1 ⟨i, hi, rfl, rfl, rfl, rfl⟩
  ((conv=>whnf)<;>repeat(with_reducible refine D1 ?_)<;>conv=>whnf)
  (first|refine ⟨?_,?_⟩|refine nsplit ?_ ?_|refine bsplit ?_ ?_)<;>intro h<;>have hz_:=True.intro<;>clear hz_
  ·have h : i < ks.length := by simpa using h
   ((conv=>whnf)<;>repeat(with_reducible refine D1 ?_)<;>conv=>whnf)
   refine ⟨⟨by omega, by simp; omega⟩, encI1 ks[i], by simp [h], ?_⟩
   ((conv=>whnf)<;>repeat(with_reducible refine D1 ?_)<;>conv=>whnf)
   have hlk := lookM_A .i64 .i64 encVs ks[i] x.came
   have hsn : ((ks.take (i + 1)).map fun w => (lookA x.came w).getD []).map encL = ((ks.take i).map fun w => (lookA x.came w).getD []).map encL ++ [encL ((lookA x.came ks[i]).getD [])] := by
    rw [List.take_succ_eq_append_getElem h, List.map_append, List.map_append]; rfl
   cases hc : lookA x.came ks[i] with
   | none => exact absurd (hmem _ (List.getElem_mem h)) (lookA_none.1 hc)
   | some vs =>
    rw [hc] at hlk hsn
    refine ⟨_, hlk, ?_⟩
    ((conv=>whnf)<;>repeat(with_reducible refine D1 ?_)<;>conv=>whnf)
    refine ⟨by simp; omega, ?_⟩
    ((conv=>whnf)<;>repeat(with_reducible refine D1 ?_)<;>conv=>whnf)
    refine ⟨ks.length - (i + 1), ?_, by omega⟩
    refine ⟨[], [some 0, some 1, some 2, some 6, some 4], ?_⟩
    iterate 3 constructor
    refine ⟨⟨?_, ?_, ?_⟩, ⟨i + 1, h, rfl, rfl, rfl, rfl⟩⟩
    all_goals (repeat' first|with_reducible exact Lz.rfl|exact Lw.rfl|exact Lz.wrap (by omega)|(unfold goInt;with_reducible exact Lz.rfl)|exact flx _|constructor)
    refine Lz.of ?_
    rw [hsn]; rfl
  ·have h' : i = ks.length := by have : ¬ i < ks.length := by simpa using h
                                 omega
   subst h'
   rw [List.take_length, ← hv]
   ((conv=>whnf)<;>repeat(with_reducible refine D1 ?_)<;>conv=>whnf)
   exact ⟨[3], [some 0, some 1, some 2], _, _, _, t3, rfl, rfl, rfl⟩
end Go.M
namespace Go.M
open Go Go.Proofs
set_option maxRecDepth 100000
set_option maxHeartbeats 4000000
def cmdOf (v : Vote) : Cmd := ⟨v.kind, v.chain, v.epoch, v.node⟩
def layN (x : LeadS) : Nat → LeadS
 | 0 => x
 | m + 1 => layS (layN x m) noCmd
theorem layN_nxt (x : LeadS) : ∀ m, (layN x m).nxt = x.nxt + m
 | 0 => by simp [layN]
 | m + 1 => by simp [layN, layS, layN_nxt x m]; omega
def layUp (x : LeadS) (s : Int) : LeadS := layN x (s - x.nxt).toNat
def fillL (x : LeadS) (l : List Vote) : LeadS := l.foldl (fun x v => layS (layUp x v.slot) (cmdOf v)) x
theorem fillL_snoc (x : LeadS) (l : List Vote) (v : Vote) : fillL x (l ++ [v]) = layS (layUp (fillL x l) v.slot) (cmdOf v) := by simp [fillL]
theorem bestE1_mem {es : List (Int × Vote)} (h : KB es) {v : Vote} {e : Int × Vote} (he : e ∈ bestE1 es v) : e.2 = v ∨ e ∈ es := by
 unfold bestE1 at he
 split at he
 ·rcases (putE_mem h.mv.nd).1 he with rfl | ⟨_, h⟩
  ·exact .inl rfl
  ·exact .inr h
 ·split at he
  ·rcases (putE_mem h.mv.nd).1 he with rfl | ⟨_, h⟩
   ·exact .inl rfl
   ·exact .inr h
  ·exact .inr he
theorem bestE_mem {l : List Vote} (hl : ∀ v ∈ l, inI v.slot) {e : Int × Vote} (he : e ∈ bestE l) : e.2 ∈ l := by
 have : ∀ (l : List Vote) (es : List (Int × Vote)), KB es → (∀ v ∈ l, inI v.slot) → ∀ e ∈ l.foldl bestE1 es, e.2 ∈ l ∨ e ∈ es := by
  intro l
  induction l with
  | nil => intro es _ _ e he; exact .inr he
  | cons v l ih =>
   intro es h hv e he
   obtain ⟨h1, _, _⟩ := bestE1_kb h (hv v List.mem_cons_self)
   rcases ih _ h1 (fun w hw => hv w (List.mem_cons_of_mem _ hw)) e he with h2 | h2
   ·exact .inl (List.mem_cons_of_mem _ h2)
   ·rcases bestE1_mem h h2 with h3 | h3
    ·rw [h3]; exact .inl List.mem_cons_self
    ·exact .inr h3
 rcases this l [] ⟨⟨by simp, by simp⟩, by simp⟩ hl e he with h | h
 ·exact h
 ·cases h
theorem bestV_mem {l : List (List Vote)} (hl : ∀ x ∈ l, ∀ v ∈ x, inI v.slot) {v : Vote} (hv : v ∈ bestV l) : ∃ x ∈ l, v ∈ x := by
 have hf : ∀ v ∈ l.flatten, inI v.slot := fun v hv => by obtain ⟨x, hx, hv⟩ := List.mem_flatten.1 hv; exact hl x hx v hv
 have := bestE_mem hf ((mem_allV (bestE_kb hf).1.mv).1 hv)
 obtain ⟨x, hx, hv⟩ := List.mem_flatten.1 this
 exact ⟨x, hx, hv⟩
structure CameOk (x : LeadS) : Prop where
 nd : (keysA x.came).Nodup
 k5 : ∀ w ∈ keysA x.came, m5 w
 l40 : ∀ e ∈ x.came, e.2.length ≤ 40 ∧ ∀ v ∈ e.2, inI v.slot ∧ v.slot < 512
theorem nodup_le : ∀ (n : Nat) (l : List Int), l.Nodup → (∀ w ∈ l, 1 ≤ w ∧ w ≤ n) → l.length ≤ n
 | 0, l, _, h => by
  cases l with
  | nil => simp
  | cons a _ => have := h a (by simp); omega
 | n + 1, l, hn, h => by
  have h1 := nodup_le n (l.erase ((n + 1 : Nat) : Int)) (hn.erase _) fun w hw => by
   obtain ⟨q1, q2⟩ := hn.mem_erase_iff.1 hw
   have := h w q2; omega
  rw [List.length_erase] at h1
  split at h1 <;> omega
theorem nodup5 {l : List Int} (h : l.Nodup) (h5 : ∀ w ∈ l, m5 w) : l.length ≤ 5 := nodup_le 5 l h fun w hw => by have := h5 w hw; unfold m5 at this; omega
theorem CameOk.len {x : LeadS} (h : CameOk x) : x.came.length ≤ 5 := by have := nodup5 h.nd h.k5; simpa using this
theorem m5_in {w : Int} (h : m5 w) : IntKind.i64.min ≤ w ∧ w ≤ IntKind.i64.max := by
 unfold m5 at h
 have h1 : IntKind.i64.min = -9223372036854775808 := rfl
 have h2 : IntKind.i64.max = 9223372036854775807 := rfl
 omega
theorem CameOk.ks {x : LeadS} (h : CameOk x) : ksOk (keysA x.came) := ⟨by have := h.len; simp; omega, fun w hw => m5_in (h.k5 w hw), h.nd⟩
theorem CameOk.all {x : LeadS} (h : CameOk x) : (allL x).length ≤ 8 ∧ ∀ l ∈ allL x, l.length ≤ 40 ∧ ∀ v ∈ l, inI v.slot ∧ v.slot < 512 := by
 refine ⟨by have := h.len; simp [allL, sortZ_len]; omega, fun l hl => ?_⟩
 obtain ⟨w, hw, rfl⟩ := List.mem_map.1 hl
 cases hc : lookA x.came w with
 | none => simp
 | some vs => exact h.l40 _ ((lookA_some h.nd).1 hc)
theorem fill_ok (x : LeadS) (h : CameOk x) (hn : 0 ≤ x.nxt ∧ x.nxt ≤ 512) : VC E0 97 3 [.ptr 0 0] (stL x) (RR (.tup []) 3 (stL (fillL x (bestV (allL x))))) := by
 obtain ⟨a1, a2⟩ := h.all
 have hB : ∀ v ∈ bestV (allL x), v.slot < 512 := fun v hv => by
  obtain ⟨l, hl, hv⟩ := bestV_mem (fun l hl v hv => ((a2 l hl).2 v hv).1) hv
  exact ((a2 l hl).2 v hv).2
 have hBl : (bestV (allL x)).length ≤ 320 := by
  obtain ⟨_, hlen⟩ := bestE_kb (l := (allL x).flatten) (fun v hv => by obtain ⟨l, hl, hv⟩ := List.mem_flatten.1 hv; exact ((a2 l hl).2 v hv).1)
  have := flat_len8 a1 (fun l hl => (a2 l hl).1) (i := (allL x).length)
  rw [List.take_length] at this
  unfold bestV; rw [allV_len]; omega
 refine VC.enterR L0 (show E0.func 97 = some Try.f97 by kernel_rfl) (fun _ _ => rfl) rfl rfl [] ?_
 ((conv=>whnf)<;>repeat(with_reducible refine D1 ?_)<;>conv=>whnf)
 refine ⟨[], [some 0, some 1, some 2], _, _, _, _, all_ok x h.ks (by have := h.len; omega), t3, ?_⟩
 rintro r o' c' ⟨rfl, rfl, rfl⟩
 ((conv=>whnf)<;>repeat(with_reducible refine D1 ?_)<;>conv=>whnf)
 refine ⟨[], [], _, _, _, _, best_ok (allL x) a1 (fun l hl => (a2 l hl).1) (fun l hl v hv => ((a2 l hl).2 v hv).1), t3, ?_⟩
 rintro r o' c' ⟨rfl, rfl, rfl⟩
 ((conv=>whnf)<;>repeat(with_reducible refine D1 ?_)<;>conv=>whnf)
 generalize hBe : bestV (allL x) = B at *
 refine ⟨fun k f o c => ∃ (i : Nat) (y : LeadS), i ≤ B.length ∧ k = B.length - i ∧ y = fillL x (B.take i) ∧ 0 ≤ y.nxt ∧ y.nxt ≤ 512 + i ∧ c = 3 ∧ f = [(0, .ptr 0 0), (6, .sl 6 (B.map encV) false), (7, .s (.int .i64 B.length)), (8, .s (.int .i64 i))] ∧ o = stL y, ⟨B.length, ?_⟩, ?_⟩
 ·refine ⟨[], [some 0, some 1, some 2], ?_⟩
  iterate 3 constructor
  refine ⟨⟨?_, ?_, ?_⟩, ⟨0, x, Nat.zero_le _, rfl, rfl, hn.1, by have := hn.2; simpa using this, rfl, rfl, rfl⟩⟩
  all_goals (repeat' first|with_reducible exact Lz.rfl|exact Lw.rfl|exact Lz.wrap (by omega)|(unfold goInt;with_reducible exact Lz.rfl)|exact flx _|constructor)
  all_goals exact Lz.of (by simp [goInt])
 ·rintro k f1 o1 c1 ⟨i, y, hi, rfl, hy, hy0, hy1, rfl, rfl, rfl⟩
  ((conv=>whnf)<;>repeat(with_reducible refine D1 ?_)<;>conv=>whnf)
  (first|refine ⟨?_,?_⟩|refine nsplit ?_ ?_|refine bsplit ?_ ?_)<;>intro hl<;>have hz_:=True.intro<;>clear hz_
  ·have hl : i < B.length := by simpa using hl
   have hsl := hB _ (List.getElem_mem hl)
   have hsn : fillL x (B.take (i + 1)) = layS (layUp y B[i].slot) (cmdOf B[i]) := by rw [List.take_succ_eq_append_getElem hl, fillL_snoc, hy]
   ((conv=>whnf)<;>repeat(with_reducible refine D1 ?_)<;>conv=>whnf)
   refine idxI hl ?_
   ((conv=>whnf)<;>repeat(with_reducible refine D1 ?_)<;>conv=>whnf)
   generalize hve : B[i] = v at *
   refine ⟨fun k f o c => ∃ m : Nat, m ≤ (v.slot - y.nxt).toNat ∧ k = (v.slot - y.nxt).toNat - m ∧ c = 4 ∧ f = [(0, .ptr 0 0), (3, .ptr 3 0), (6, .sl 6 (B.map encV) false), (7, .s (.int .i64 B.length)), (8, .s (.int .i64 i))] ∧ o = [(0, leadO (layN y m) 1 2), (1, cameO (layN y m)), (2, openO (layN y m)), (3, .cells (encV v))], ⟨(v.slot - y.nxt).toNat, ?_⟩, ?_⟩
   ·exact ⟨[], [some 0, some 1, some 2, some 3], _, _, _, t3, ⟨0, Nat.zero_le _, rfl, rfl, rfl, rfl⟩⟩
   ·rintro k f1 o1 c1 ⟨m, hm, rfl, rfl, rfl, rfl⟩
    have hnx := layN_nxt y m
    ((conv=>whnf)<;>repeat(with_reducible refine D1 ?_)<;>conv=>whnf)
    (first|refine ⟨?_,?_⟩|refine nsplit ?_ ?_|refine bsplit ?_ ?_)<;>intro hlt<;>have hz_:=True.intro<;>clear hz_
    ·have hlt : (layN y m).nxt < v.slot := hlt
     ((conv=>whnf)<;>repeat(with_reducible refine D1 ?_)<;>conv=>whnf)
     refine ⟨[], [some 0, some 1, some 2], _, _, _, _, lay_ok (layN y m) noCmd (by omega), t3, ?_⟩
     rintro r o' c' ⟨rfl, rfl, rfl⟩
     ((conv=>whnf)<;>repeat(with_reducible refine D1 ?_)<;>conv=>whnf)
     refine ⟨(v.slot - y.nxt).toNat - (m + 1), ?_, by omega⟩
     exact ⟨[], [some 0, some 1, some 2, some 3], _, _, _, t3, ⟨m + 1, by omega, rfl, rfl, rfl, rfl⟩⟩
    ·have hlt : ¬ (layN y m).nxt < v.slot := hlt
     have hme : m = (v.slot - y.nxt).toNat := by omega
     have hup : layUp y v.slot = layN y m := by rw [hme]; rfl
     ((conv=>whnf)<;>repeat(with_reducible refine D1 ?_)<;>conv=>whnf)
     refine ⟨[], [some 0, some 1, some 2], _, _, _, _, lay_ok (layN y m) (cmdOf v) (by omega), t3, ?_⟩
     rintro r o' c' ⟨rfl, rfl, rfl⟩
     ((conv=>whnf)<;>repeat(with_reducible refine D1 ?_)<;>conv=>whnf)
     refine ⟨B.length - (i + 1), ?_, by omega⟩
     rw [hup] at hsn
     exact ⟨[], [some 0, some 1, some 2], _, _, _, t3, ⟨i + 1, layS (layN y m) (cmdOf v), hl, rfl, hsn.symm, by simp [layS]; omega, by simp [layS]; omega, rfl, rfl, rfl⟩⟩
  ·have h' : i = B.length := by have : ¬ i < B.length := by simpa using hl
                                omega
   subst h'
   rw [List.take_length] at hy
   subst hy
   ((conv=>whnf)<;>repeat(with_reducible refine D1 ?_)<;>conv=>whnf)
   exact ⟨[], [some 0, some 1, some 2], _, _, _, t3, rfl, rfl, rfl⟩
theorem collectC_ok (x : LeadS) (hok : ksOk (keysA x.came)) (h0 : x.came ≠ []) : VC E0 80 2 [.clo 127 [] [.ptr 1 0]] [(0, cameO x), (1, .cells [.mp 0])] (fun r o c => r = .bg 2 (keysA x.came).length ∧ c = 3 ∧
      o = [(2, .bag (keysA x.came)), (0, cameO x), (1, .cells [.mp 0])]) :=
 VC.collect (E := E0) (g := 80) (its := [123, 127]) (k := 127) (by kernel_rfl) (fun _ _ => rfl) rfl (y := cameO x) (ks := keysA x.came) (by show (x.came.map (encA .i64 encVs)).map (·.1) = _; exact keysM_A _ _ _) hok (by intro e; simp [keysA] at e; exact h0 e)
theorem withB_ok (ks : List Int) (h0 : 0 < ks.length) (hl : ks.length < 1000000) (h5 : ∀ w ∈ ks, m5 w) : VC E0 94 1 [.s (.int .u64 0), .bg 0 ks.length] [(0, .bag ks)] (fun r o c => r = .s (.int .u64 (withN 0 ks)) ∧ c = 1 ∧ o = [(0, .bag ks)]) :=
 VC.bagged (E := E0) (g := 94) (val := withVal) (pre := [.int .u64 0]) (by kernel_rfl) (fun _ _ => rfl) (by simp [scalar]) h0 (v := .int .u64 (withN 0 ks)) (withVal_some h5 hl) rfl
@[reducible] def promC (x : LeadS) (who : Int) (vs : List Vote) : LeadS := { x with came := if who ∈ keysA x.came then x.came else x.came ++ [(who, delV x.frm vs)] }
def promS (x : LeadS) (b who : Int) (vs : List Vote) : LeadS × List Vote × Bool :=
 if (x.st = 1 ∧ x.b = b) ∧ 1 ≤ who ∧ who ≤ x.masters then
  (if enoughN (withN 0 (keysA (promC x who vs).came)) x.masters = true then
   (let y := fillL { promC x who vs with st := 2 } (bestV (allL { promC x who vs with st := 2 })); (y, openV y, true))
  else (promC x who vs, [], false))
 else (x, [], false)
theorem promC_ok {x : LeadS} (h : CameOk x) {who : Int} (hw : m5 who) {vs : List Vote} (hl : vs.length ≤ 40) (hv : ∀ v ∈ vs, inI v.slot) : CameOk (promC x who vs) ∧ (promC x who vs).came ≠ [] := by
 unfold promC
 by_cases hm : who ∈ keysA x.came
 ·simp only [hm, if_true]
  exact ⟨⟨h.nd, h.k5, h.l40⟩, by rintro e; simp [e, keysA] at hm⟩
 ·simp only [hm, if_false]
  refine ⟨⟨?_, fun w hw' => ?_, fun e he => ?_⟩, by simp⟩
  ·simp only [keysA, List.map_append, List.nodup_append]
   exact ⟨h.nd, by simp, fun a ha b hb => by simp at hb; subst hb; rintro rfl; exact hm ha⟩
  ·simp only [keysA, List.map_append, List.mem_append] at hw'
   rcases hw' with h1 | h1
   ·exact h.k5 w h1
   ·simp at h1; subst h1; exact hw
  ·rcases List.mem_append.1 he with h1 | h1
   ·exact h.l40 e h1
   ·simp at h1; subst h1
    refine ⟨Nat.le_trans (List.length_filter_le _ _) hl, fun v hv' => ?_⟩
    obtain ⟨q1, q2⟩ := List.mem_filter.1 hv'
    exact ⟨hv v q1, by simp [badV] at q2; omega⟩
end Go.M
