/-
  Part 5 of the library that the proof leans on.
-/
import Derived.Shelf.SlIterI.Nil
import Derived.Shelf.Strings.OnBuilder
import Derived.KernelRfl
import Derived.Test.YtmookciakjmjiaaDoorChecked
import Derived.Test.YtmookciakjmjiaaDoorL4
namespace Go.M
open Go
def outK (base : Nat) : KV := fun v h' => match v with
 | .slice (some ⟨b, o, some z⟩) len _ => (readCells h' b o (len * z)).bind fun cs => grd (Nat.ble base b && Nat.blt 0 len && cs.all scalar) (some (.bool false :: goInt len :: goInt z :: cs))
 | v => grd (plain1 v) (some [.bool true, v])
def ansOf (h : AHeap) : Out → Option (Value × AHeap)
 | [.bool true, v] => grd (plain1 v) (some (v, h))
 | .bool false :: .int _ (.ofNat len) :: .int _ (.ofNat z) :: cs => some (.slice (some ⟨h.size, 0, some z⟩) len (len + 1), h.push (.cells cs h.size (h.size + 1) 0))
 | _ => none
noncomputable def confl (E : Env) (n : Nat) : CallF := fun g args h => (callK E h.size n g args h (outK h.size)).bind (ansOf h)
theorem HRel.ext {E : Env} {base B : Nat} {μ : Emb} {h : AHeap} {w w' : World} (H : HRel E base B μ h w) (hs : w.heap.size ≤ w'.heap.size) (hk : ∀ r, r < w.heap.size → w'.heap[r]? = w.heap[r]?) : HRel E base B μ h w' :=
 ⟨H.dom, H.high, fun b m hb => by
  obtain ⟨p, p', k1, k2, k3⟩ := H.obj b m hb
  exact ⟨p, p', k1, by rw [hk _ (H.lt hb)]; exact k2, k3⟩, H.own, H.alias, H.fam, H.glob, Nat.le_trans H.low hs, H.bsz, H.wf, H.root⟩
section
variable {P : Program} {E E0 : Env} {base B : Nat}
end
end Go.M
namespace Go.M
open Go
noncomputable def orcOf (P : Program) (fs : List Nat) (n : Nat) : FuncId → List Value → AHeap → Option (Value × AHeap) := fun g args h =>
 match fs.contains g with
 | true => confl (envOf P noOrc) n g args h
 | false => none
end Go.M
namespace Go.M
open Go
def insI (x : Int) : List Int → List Int
 | [] => [x]
 | y :: l => bif Int.blt' x y then x :: y :: l else y :: insI x l
where Int.blt' (x y : Int) : Bool := decide (x < y)
def sortI : List Int → List Int
 | [] => []
 | x :: l => insI x (sortI l)
def intsV : List Value → Option (List Int)
 | [] => some []
 | .int .i64 x :: l => (intsV l).bind fun r => some (x :: r)
 | _ => none
def outB (base : Nat) : KV := fun v h' => match v with
 | .slice (some ⟨b, o, some 1⟩) len _ => (readCells h' b o len).bind fun cs => (intsV cs).bind fun xs => grd (Nat.ble base b && Nat.blt 0 len) (some (.bool false :: goInt len :: (sortI xs).map (.int .i64)))
 | v => grd (plain1 v) (some [.bool true, v])
def ansB (h : AHeap) : Out → Option (Value × AHeap)
 | [.bool true, v] => grd (plain1 v) (some (v, h))
 | .bool false :: .int _ (.ofNat len) :: cs => (intsV cs).bind fun xs => some (.slice (some ⟨h.size, 0, some 1⟩) len (len + 1), h.push (.bag xs))
 | _ => none
noncomputable def conflB (E : Env) (n : Nat) : CallF := fun g args h => (callK E h.size n g args h (outB h.size)).bind (ansB h)
section
variable {P : Program} {E E0 : Env} {base B : Nat}
end
end Go.M
namespace Go.M
open Go
def insAll (x : Int) : List Int → List (List Int)
 | [] => [[x]]
 | y :: l => (x :: y :: l) :: (insAll x l).map (y :: ·)
def perms : List Int → List (List Int)
 | [] => [[]]
 | x :: l => (perms l).flatMap (insAll x)
def bagOf (h : AHeap) : List Value → Option (Nat × List Int)
 | [] => none
 | .slice (some ⟨b, _, some _⟩) _ cap :: l => (match Nat.beq cap 0, h.get b with
  | false, some (.bag cs) => some (b, cs)
  | _, _ => bagOf h l)
 | _ :: l => bagOf h l
def noRoot (h : AHeap) (b : Nat) : Bool := (List.range h.size).all fun c => match h.get c with
 | some (.cells _ f _ _) => !Nat.beq f b
 | _ => true
noncomputable def conflP (E : Env) (n : Nat) : CallF := fun g args h => (bagOf h args).bind fun r => grd (Nat.blt r.1 h.size && noRoot h r.1) <|
 (meet ((perms r.2).map fun l => callK E h.size n g args (h.put r.1 (.cells (l.map (.int .i64)) r.1 h.size 0)) (outK h.size))).bind (ansOf h)
section
variable {P : Program} {E E0 : Env} {base B : Nat}
end
end Go.M
namespace Go.M
open Go
noncomputable def orcAll (P : Program) (fs bs ps : List Nat) (n : Nat) : FuncId → List Value → AHeap → Option (Value × AHeap) := fun g args h =>
 match fs.contains g with
 | true => confl (envOf P noOrc) n g args h
 | false => match bs.contains g with
  | true => conflB (envOf P noOrc) n g args h
  | false => match ps.contains g with
   | true => conflP (envOf P noOrc) n g args h
   | false => none
end Go.M
namespace Go.M
open Go
def orcT (l : List Nat) : FuncId → List Value → AHeap → Option (Value × AHeap) := fun g args h => match memN g l, args with
 | true, [] => some (.bool true, h)
 | _, _ => none
def Awake (P : Program) (g : FuncId) : Prop := ∀ (W : World) (F : Fence) (n : Nat), Wide F → CallsIn F n P g #[] W fun e W' => e = .returned (.bool true) ∧ Go.RowKit.Below W.heap.size W W'
theorem orcT_ok {P : Program} {l : List Nat} (hl : ∀ g ∈ l, Awake P g) (base B : Nat) : OrcOk P (envOf P (orcT l)) base B := by
 intro μ h w g args args' v h' hc hr H F n hF
 have hc' : orcT l g args h = some (v, h') := hc
 unfold orcT at hc'
 split at hc'
 ·rename_i hg
  cases hc'
  have : args' = #[] := by
   have := hr.length
   simpa using this.symm
  subst this
  refine (hl g (memN_mem hg) w F n hF).mono ?_
  rintro e W' ⟨rfl, hb⟩
  exact ⟨_, μ, rfl, .lit rfl, ⟨H.ext hb.size fun r hr => hb.block r hr, ⟨hb.tape, hb.os, hb.output, hb.size, fun r hr _ => hb.block r hr⟩, μ.le_refl, fun b m h0 h1 => (by rw [h0] at h1; cases h1), fun _ _ _ => rfl, Nat.le_refl _⟩⟩
 ·cases hc'
end Go.M
namespace Go.M
open Go Go.RowKit Go.Maps Go.Sort Go.Shelf Go.Proofs
def SortsKeys (P : Program) (g k : FuncId) : Prop := ∀ (W : World) (Bm : Nat) (mb : Option Nat) (ks : List Int), W.cell? ⟨Bm, 0, none⟩ = some (.map mb) → ks.length ≤ 1099511627776 → (∀ x ∈ ks, IntKind.i64.min ≤ x ∧ x ≤ IntKind.i64.max) → ks.Nodup →
 (mb = none ∧ ks = [] ∨ ∃ (r : Nat) (es : Array MapEntry) (clock : Nat), mb = some r ∧ W.heap[r]? = some (.map es clock) ∧ StL es.toList clock ∧ es.toList.map (·.key) = ks.map (.int .i64)) →
 Calls P g #[.func (.func k) #[] #[.pointer (some ⟨Bm, 0, none⟩)]] W fun e w' => ∃ (v : Value) (t : TypeId), e = .returned v ∧ w'.ownsRow W.heap.size t 1 v ks.length ((ks.mergeSort fun x y => decide (x ≤ y)).map (.int .i64)) ∧ (v = .slice none 0 0 ↔ ks = []) ∧ Below W.heap.size W w'
end Go.M
namespace Go.M
open Go Go.RowKit
theorem calls_any {P : Program} {F : Fence} (hF : Wide F) {n : Nat} {f : FuncId} {args : Array Value} {w : World} {R : Ending → World → Prop} (h : Calls P f args w R) : CallsIn F n P f args w R := by
 have e : Machine.fenced P F = Machine.fenced P Fence.wide := funext fun m => propext ⟨fun _ => fenced_wide P m, fun _ g hg => ⟨fun ha => (by rw [hF.dead] at ha; cases ha), Or.inl (hF.fn _), fun f _ => hF.fn f, fun d hd => (by rw [hF.depth] at hd; cases hd)⟩⟩
 have h2 := callsIn_wide (n := n).2 h
 refine ⟨hF.fn f, fun cs _ => ?_⟩
 rw [e]
 exact h2.2 cs (room_wide _)
def intKs : List MapEntry → Option (List Int)
 | [] => some []
 | e :: l => match e.key, intKs l with
  | .int .i64 n, some ks => some (n :: ks)
  | _, _ => none
def boxMap (h : AHeap) (b : Nat) : Option (Option Nat) := match h.get b with
 | some (.cells [.map mb] f tip thr) => grd (Nat.beq f b && Nat.beq tip b && Nat.ble thr b) (some mb)
 | _ => none
instance (ev : List MapEntry) (clock : Nat) : Decidable (StL ev clock) := inferInstanceAs (Decidable (_ ∧ _))
def ksOk (ks : List Int) : Prop := ks.length ≤ 1099511627776 ∧ (∀ x ∈ ks, IntKind.i64.min ≤ x ∧ x ≤ IntKind.i64.max) ∧ ks.Nodup
instance (ks : List Int) : Decidable (ksOk ks) := inferInstanceAs (Decidable (_ ∧ _ ∧ _))
def keysAt (h : AHeap) : Option Nat → Option (List Int)
 | none => some []
 | some r => match h.get r with
  | some (.map ev clock) => (intKs ev).bind fun ks => grd (decide (StL ev clock) && decide (ksOk ks)) (some ks)
  | _ => none
def sortZ (ks : List Int) : List Int := ks.mergeSort fun x y => decide (x ≤ y)
def ansKs (h : AHeap) (ks : List Int) : Value × AHeap := match ks with
 | [] => (.slice none 0 0, h)
 | _ :: _ => (.slice (some ⟨h.size, 0, some 1⟩) ks.length (ks.length + 1), h.push (.cells ((sortZ ks).map (.int .i64)) h.size h.size 0))
def sortedK (its : List Nat) (args : List Value) (h : AHeap) : Option (Value × AHeap) := match args with
 | [.func (.func k) a c] => (match a.toList, c.toList with
  | [], [.pointer (some ⟨b, 0, none⟩)] => grd (memN k its) ((boxMap h b).bind fun mb => (keysAt h mb).bind fun ks => some (ansKs h ks))
  | _, _ => none)
 | _ => none
theorem boxMap_some {h : AHeap} {b : Nat} {mb : Option Nat} (hb : boxMap h b = some mb) : ∃ thr, h.get b = some (.cells [.map mb] b b thr) ∧ thr ≤ b := by
 unfold boxMap at hb
 split at hb
 ·rename_i mb' f tip thr hg
  simp only [grd_some, Bool.and_eq_true, beq_iff, ble_iff, Option.some.injEq] at hb
  obtain ⟨⟨⟨rfl, rfl⟩, ht⟩, rfl⟩ := hb
  exact ⟨thr, hg, ht⟩
 ·cases hb
theorem keysAt_some {h : AHeap} {r : Nat} {ks : List Int} (hk : keysAt h (some r) = some ks) : ∃ ev clock, h.get r = some (.map ev clock) ∧ intKs ev = some ks ∧ StL ev clock ∧ ksOk ks := by
 simp only [keysAt] at hk
 split at hk
 ·rename_i ev clock hg
  simp only [Option.bind_eq_some_iff, grd_some, Bool.and_eq_true, decide_eq_true_eq, Option.some.injEq] at hk
  obtain ⟨ks', hks, ⟨hst, hok⟩, rfl⟩ := hk
  exact ⟨ev, clock, hg, hks, hst, hok⟩
 ·cases hk
theorem ERels.born {μ : Emb} {ev ev' : List MapEntry} (h : ERels μ ev ev') : ev'.map (·.born) = ev.map (·.born) := by
 induction h with
 | nil => rfl
 | cons _ _ hb _ ih => simp [hb, ih]
theorem StL.iff {ev : List MapEntry} {clock : Nat} : StL ev clock ↔ (∀ b ∈ ev.map (·.born), b < clock) ∧ (ev.map (·.born)).Nodup := by
 unfold StL; simp
theorem ERels.ints {μ : Emb} {ev ev' : List MapEntry} (h : ERels μ ev ev') : ∀ {ks : List Int}, intKs ev = some ks → ev'.map (·.key) = ks.map (.int .i64) := by
 induction h with
 | nil => intro ks hk; simp [intKs] at hk; subst hk; rfl
 | cons hkey _ _ _ ih =>
  intro ks hk
  unfold intKs at hk
  split at hk
  ·rename_i n ks' h1 h2
   cases hk
   rw [h1] at hkey
   have := hkey.inv_scalar rfl
   simp [this, ih h2]
  ·cases hk
theorem sortedK_ok {P : Program} {E : Env} {base B : Nat} {its : List Nat} {g : FuncId} (hS : ∀ k ∈ its, SortsKeys P g k) {μ : Emb} {h h' : AHeap} {w : World} {args : List Value} {args' : Array Value} {v : Value}
 (hc : sortedK its args h = some (v, h')) (hr : VRels μ args args'.toList) (H : HRel E base B μ h w) : Calls P g args' w (RetPost E base B μ h w v h') := by
 unfold sortedK at hc
 split at hc
 ·rename_i k a c
  split at hc
  ·rename_i b ha hcc
   simp only [grd_some, Option.bind_eq_some_iff, Option.some.injEq] at hc
   obtain ⟨hk, mb, hbox, ks, hkeys, hans⟩ := hc
   obtain ⟨thr, hg, hthr⟩ := boxMap_some hbox
   -- the arguments in the world
   obtain ⟨v1, hv1, e1⟩ : ∃ v1, VRel μ (.func (.func k) a c) v1 ∧ args' = #[v1] := by
    obtain ⟨l⟩ := args'
    cases hr with
    | cons h1 h2 => cases h2; exact ⟨_, h1, rfl⟩
   subst e1
   cases hv1 with
   | lit hh => simp [plain1] at hh
   | func hs1 ha1 hs2 ha2 =>
    rename_i a' c'
    have ea : a' = #[] := by
     have h0 : a'.size = 0 := by rw [← hs1]; have := congrArg List.length ha; simpa using this
     exact Array.eq_empty_of_size_eq_zero h0
    subst ea
    have hc1 : c.size = 1 := by have := congrArg List.length hcc; simpa using this
    obtain ⟨p', ec⟩ : ∃ p', c' = #[p'] := by
     obtain ⟨l⟩ := c'
     rw [hc1] at hs2
     match l, hs2 with
     | [x], _ => exact ⟨x, rfl⟩
     | [], hs2 => simp at hs2
     | _ :: _ :: _, hs2 => simp at hs2
    subst ec
    have hp := ha2 0 (.pointer (some ⟨b, 0, none⟩)) p' (by rw [← Array.getElem?_toList, hcc]; rfl) rfl
    obtain ⟨m, hm, rfl⟩ := hp.inv_ptr
    have hs0 := H.root b m _ _ hm hg
    have hrd : h.rd b = some [.map mb] := rd_of (fam_of hg hg) hthr (by unfold AHeap.cellsOf; rw [hg])
    obtain ⟨cc, e, fr, q1, q2, q3, q4, q5⟩ := H.read hm hrd
    obtain ⟨vm, q6, q7⟩ := q5 0 (.map mb) rfl
    rw [hs0] at q6 ⊢
    obtain ⟨mb', rfl, hmap⟩ : ∃ mb', vm = .map mb' ∧ (mb' = none ∧ ks = [] ∨ ∃ (r : Nat) (es : Array MapEntry) (clock : Nat), mb' = some r ∧ w.heap[r]? = some (.map es clock) ∧ StL es.toList clock ∧ es.toList.map (·.key) = ks.map (.int .i64)) := by
     cases mb with
     | none =>
      cases q7 with
      | lit _ => exact ⟨none, rfl, .inl ⟨rfl, by simpa [keysAt] using hkeys.symm⟩⟩
     | some r =>
      obtain ⟨mr, w1, rfl⟩ := q7.inv_map
      refine ⟨_, rfl, .inr ?_⟩
      obtain ⟨ev, clock, hgr, hks, hst, hok⟩ := keysAt_some hkeys
      obtain ⟨o, o', k1, k2, k3⟩ := H.obj r mr w1
      rw [hgr] at k1; cases k1
      cases k3 with
      | map hs =>
       rename_i es'
       refine ⟨_, es', clock, rfl, k2, ?_, hs.ints hks⟩
       rw [StL.iff, hs.born, ← StL.iff]; exact hst
    have hok : ksOk ks := by
     cases mb with
     | none => simp [keysAt] at hkeys; subst hkeys; exact ⟨by simp, by simp, by simp⟩
     | some r =>
      obtain ⟨ev, clock, hgr, hks, hst, hok⟩ := keysAt_some hkeys
      exact hok
    have hcell : w.cell? ⟨m.r, 0, none⟩ = some (.map mb') := by
     unfold World.cell?
     simp only [q1, Option.isSome_none, Bool.false_eq_true, if_false]
     simpa using q6
    have := hS k (memN_mem hk) w m.r mb' ks hcell hok.1 hok.2.1 hok.2.2 hmap
    simp only [Nat.add_zero]
    refine this.mono ?_
    rintro en w' ⟨v', t, rfl, hrow, hnil, hb⟩
    have Hx := H.ext hb.size fun r hr => hb.block r hr
    have gr : Grow base μ w w' := ⟨hb.tape, hb.os, hb.output, hb.size, fun r hr _ => hb.block r hr⟩
    cases ks with
    | nil =>
     simp only [ansKs, Prod.mk.injEq] at hans
     obtain ⟨rfl, rfl⟩ := hans
     have := hnil.2 rfl
     subst this
     exact ⟨_, μ, rfl, .lit rfl, ⟨Hx, gr, μ.le_refl, fun b m h0 h1 => (by rw [h0] at h1; cases h1), fun _ _ _ => rfl, Nat.le_refl _⟩⟩
    | cons x0 l0 =>
     generalize hks0 : x0 :: l0 = ks at *
     have hlen : 0 < ks.length := by rw [← hks0]; simp
     have hans' : ansKs h ks = (.slice (some ⟨h.size, 0, some 1⟩) ks.length (ks.length + 1), h.push (.cells ((sortZ ks).map (.int .i64)) h.size h.size 0)) := by rw [← hks0]; rfl
     rw [hans'] at hans
     simp only [Prod.mk.injEq] at hans
     obtain ⟨rfl, rfl⟩ := hans
     obtain ⟨r1, ⟨_, r2⟩ | ⟨gb, cap, cur, rfl, r3, r4, r5, r6, r7, r8⟩⟩ := hrow
     ·omega
     ·let cs := (sortZ ks).map (Value.int .i64)
      have hcl : cs.length = ks.length := by simp [cs, sortZ]
      let m2 : MT := ⟨gb, 0, cur.size⟩
      have Hp := Hx.pushA (o := .cells cs h.size h.size 0) (fun _ _ _ _ hh => by cases hh; rfl)
      have hget : (h.push (.cells cs h.size h.size 0)).get h.size = some (.cells cs h.size h.size 0) := by rw [AHeap.get_push, if_pos rfl]
      have ho : ORel (upd μ h.size m2) (h.push (.cells cs h.size h.size 0)) base h.size m2 (.cells cs h.size h.size 0) (.cells cur t (0, 0)) := by
       refine .cells rfl (by show 0 + cs.length ≤ cur.size; omega) (fun _ => noFr0 _) fun _ i v hv => ?_
       have hi := (List.getElem?_eq_some_iff.1 hv).1
       have : cur.toList[i]? = some v := by
        have h5 : (cur.toList.take (ks.length * 1))[i]? = some v := by rw [r8]; exact hv
        rw [List.getElem?_take] at h5
        rwa [if_pos (by omega)] at h5
       refine ⟨v, by show cur[0 + i]? = some v; rw [Nat.zero_add]; simpa using this, ?_⟩
       obtain ⟨n, _, rfl⟩ := List.mem_map.1 (List.mem_of_getElem? hv)
       exact .int _ _ _
      have Ht := Hp.track (b := h.size) (m := m2) (by simp [AHeap.size_push]) hget H.fresh H.bsz (by have := H.low; show B ≤ gb; omega) r4
       (fun d md hd he => by have := H.lt hd; simp only [m2] at he; omega) (fun _ _ _ _ hh => by cases hh; exact ⟨rfl, Nat.le_refl _⟩) (fun _ _ _ => rfl) ho
      refine ⟨_, upd μ h.size m2, rfl, ?_, Ht, gr, upd_le H.fresh, fun d md h0 hd => ?_, fun d hd _ => by rw [AHeap.get_push, if_neg (by omega)], by simp [AHeap.size_push]⟩
      ·have := VRel.slice (μ := upd μ h.size m2) (b := h.size) (o := 0) (z := 1) (len := ks.length) (cap := ks.length + 1) (cap' := cap) (m := m2) (upd_self _ _ _) (by omega) r5 (fun h => by omega) (by show 0 + 0 + cap * 1 ≤ cur.size; omega)
       simpa [m2] using this
      ·by_cases ed : d = h.size
       ·subst ed
        rw [upd_self] at hd; cases hd
        exact ⟨Nat.le_refl _, H.bsz, .inl r3⟩
       ·rw [upd_ne _ _ ed, h0] at hd; cases hd
  ·cases hc
 ·cases hc
end Go.M
namespace Go.M
open Go Go.RowKit
def orcV (l : List Nat) (gs : List (Nat × List Nat)) : FuncId → List Value → AHeap → Option (Value × AHeap) := fun g args h => match memN g l with
 | true => (match args with | [] => some (.bool true, h) | _ => none)
 | false => match look gs g with
  | some its => sortedK its args h
  | none => none
theorem orcV_ok {P : Program} {l : List Nat} {gs : List (Nat × List Nat)} (hl : ∀ g ∈ l, Awake P g) (hs : ∀ g its, look gs g = some its → ∀ k ∈ its, SortsKeys P g k) (base B : Nat) : OrcOk P (envOf P (orcV l gs)) base B := by
 intro μ h w g args args' v h' hc hr H F n hF
 have hc' : orcV l gs g args h = some (v, h') := hc
 unfold orcV at hc'
 split at hc'
 ·rename_i hg
  split at hc'
  ·exact orcT_ok hl base B μ h w g [] args' v h' (by show orcT l g [] h = _; unfold orcT; rw [hg]; exact hc') hr ⟨H.dom, H.high, H.obj, H.own, H.alias, H.fam, H.glob, H.low, H.bsz, H.wf, H.root⟩ F n hF |>.mono fun e w' ⟨v', μ', h1, h2, h3⟩ =>
    ⟨v', μ', h1, h2, ⟨h3.rel.dom, h3.rel.high, h3.rel.obj, h3.rel.own, h3.rel.alias, h3.rel.fam, h3.rel.glob, h3.rel.low, h3.rel.bsz, h3.rel.wf, h3.rel.root⟩, h3.grow, h3.le, h3.new, h3.unt, h3.hsz⟩
  ·cases hc'
 ·split at hc'
  ·rename_i its hi
   exact calls_any hF (sortedK_ok (hs g its hi) hc' hr H)
  ·cases hc'
section
variable {E : Env}
def KeysO (ks : List Int) : TO → Prop
 | .map _ es => es.map (·.1) = ks.map (.int .i64)
 | .maq _ es op => op = [] ∧ es.map (·.1) = ks.map (.int .i64)
 | _ => False
end
end Go.M
namespace Go.M
open Go Go.RowKit
def OnInts (P : Program) (g : FuncId) (pre : List Value) (val : List Int → Value) (ok : List Int → Prop) : Prop :=
 ∀ (W : World) (l : List Int) (r o cap : Nat) (c : Array Value) (e : TypeId) (fr : Nat × Nat),
  W.heap[r]? = some (.cells c e fr) → l.length ≤ cap → o + cap ≤ c.size → (∀ (i : Nat) (x : Int), l[i]? = some x → c[o + i]? = some (.int .i64 x)) → ok l →
  Calls P g (List.toArray (pre ++ [Value.slice (some ⟨r, o, none⟩) l.length cap])) W fun en W' => en = .returned (val l) ∧ Below W.heap.size W W'
def bagK (val : List Value → List Int → Option Value) (args : List Value) (h : AHeap) : Option (Value × AHeap) := match args.reverse with
 | .slice (some ⟨b, 0, some 1⟩) len cap :: rp => (match h.get b with
  | some (.bag cs) => grd (Nat.beq len cs.length && Nat.ble len cap && Nat.blt 0 len && rp.all scalar) ((val rp.reverse cs).bind fun v => some (v, h))
  | _ => none)
 | _ => none
def BagOk (P : Program) (g : FuncId) (val : List Value → List Int → Option Value) : Prop :=
 ∀ pre cs v, (∀ u ∈ pre, scalar u = true) → val pre cs = some v → scalar v = true ∧ ∀ l : List Int, l.Perm cs → ∃ vf ok, OnInts P g pre vf ok ∧ ok l ∧ vf l = v
section
variable {E : Env}
end
end Go.M
namespace Go.M
open Go Go.RowKit Go.Maps Go.Sort Go.Shelf Go.Proofs
def CollectsKeys (P : Program) (g k : FuncId) : Prop := ∀ (W : World) (Bm : Nat) (mb : Option Nat) (ks : List Int), W.cell? ⟨Bm, 0, none⟩ = some (.map mb) → ks.length ≤ 1099511627776 → (∀ x ∈ ks, IntKind.i64.min ≤ x ∧ x ≤ IntKind.i64.max) → ks.Nodup →
 (mb = none ∧ ks = [] ∨ ∃ (r : Nat) (es : Array MapEntry) (clock : Nat), mb = some r ∧ W.heap[r]? = some (.map es clock) ∧ StL es.toList clock ∧ es.toList.map (·.key) = ks.map (.int .i64)) →
 Calls P g #[.func (.func k) #[] #[.pointer (some ⟨Bm, 0, none⟩)]] W fun e w' => ∃ (v : Value) (t : TypeId) (l : List Int), e = .returned v ∧ l.Perm ks ∧ w'.ownsRow W.heap.size t 1 v ks.length (l.map (.int .i64)) ∧ (v = .slice none 0 0 ↔ ks = []) ∧ Below W.heap.size W w'
def ansC (h : AHeap) (ks : List Int) : Value × AHeap := match ks with
 | [] => (.slice none 0 0, h)
 | _ :: _ => (.slice (some ⟨h.size, 0, some 1⟩) ks.length (ks.length + 1), h.push (.bag ks))
def collectK (its : List Nat) (args : List Value) (h : AHeap) : Option (Value × AHeap) := match args with
 | [.func (.func k) a c] => (match a.toList, c.toList with
  | [], [.pointer (some ⟨b, 0, none⟩)] => grd (memN k its) ((boxMap h b).bind fun mb => (keysAt h mb).bind fun ks => some (ansC h ks))
  | _, _ => none)
 | _ => none
end Go.M
namespace Go.M
open Go Go.RowKit
section
variable {X : Cx} {ρ : Gh} {F : Nat → Prop} {o : Ob} {c : Nat} {h : AHeap}
end
section
variable {E : Env}
end
abbrev BagF := List Value → List Int → Option Value
def orcW (l : List Nat) (gs cs : List (Nat × List Nat)) (bs : List (Nat × BagF)) : FuncId → List Value → AHeap → Option (Value × AHeap) := fun g args h => match look cs g with
 | some its => collectK its args h
 | none => match look bs g with
  | some val => bagK val args h
  | none => orcV l gs g args h
end Go.M
namespace Go.M
open Go
abbrev Tabs := List (Nat × List Value)
def envT (P : Program) (l : Tabs) (orc : FuncId → List Value → AHeap → Option (Value × AHeap)) : Env := { envOf P orc with tab := look l }
theorem envOkT (P : Program) (l : Tabs) (orc : FuncId → List Value → AHeap → Option (Value × AHeap)) : EnvOk P (envT P l orc) :=
 let h := envOk P orc
 ⟨h.desc, h.size, h.bytes, h.zero, h.eqOk, h.func⟩
def LaidT (l : Tabs) (W : World) : Prop := ∀ g cs, look l g = some cs → ∃ c e fr, W.heap[g]? = some (.cells c e fr) ∧ cs.length ≤ c.size ∧ ∀ (i : Nat) v, cs[i]? = some v → c[i]? = some v
def heapT (l : Tabs) : Nat → AHeap
 | 0 => h00
 | n + 1 => (heapT l n).push (.cells (match look l n with | some cs => cs | none => []) n (n + 1) 0)
def muT (l : Tabs) (n : Nat) (W : World) : Emb := fun g => match look l g, W.heap[g]?, Nat.blt g n with
 | some _, some (.cells c _ _), true => some ⟨g, 0, c.size⟩
 | _, _, _ => none
def tabsB (l : Tabs) (n : Nat) : Bool := l.all fun p => Nat.blt p.1 n && p.2.all tabV && (match look l p.1 with | some cs => eqLs cs p.2 | none => false)
def tabsIn (l : Tabs) (h : AHeap) : Bool := l.all fun p => match h.rd p.1, look l p.1 with | some cs, some cs' => eqLs cs cs' | _, _ => false
section
variable {P : Program} {l : Tabs} {n : Nat} {W : World}
theorem heapT_size : ∀ n, (heapT l n).size = n
 | 0 => rfl
 | n + 1 => by rw [heapT, AHeap.size_push, heapT_size n]
theorem heapT_get : ∀ n b, (heapT l n).get b = if b < n then some (.cells (match look l b with | some cs => cs | none => []) b (b + 1) 0) else none
 | 0, b => by simp; rfl
 | n + 1, b => by
  rw [heapT, AHeap.get_push, heapT_size n, heapT_get n b]
  by_cases e : b = n
  ·subst e; simp
  ·rw [if_neg e]
   by_cases h : b < n
   ·rw [if_pos h, if_pos (by omega)]
   ·rw [if_neg h, if_neg (by omega)]
theorem look_mem {α : Type} {l : List (Nat × α)} {g : Nat} {x : α} (h : look l g = some x) : (g, x) ∈ l := by
 induction l with
 | nil => simp [look] at h
 | cons p l ih =>
  unfold look at h
  split at h
  ·rename_i hb
   cases h
   rw [beq_iff] at hb; subst hb
   exact List.mem_cons_self
  ·exact List.mem_cons_of_mem _ (ih h)
theorem tabsB_ok (hB : tabsB l n = true) {g : Nat} {cs : List Value} (h : look l g = some cs) : g < n ∧ cs.all tabV = true := by
 have := List.all_eq_true.1 hB _ (look_mem h)
 simp only [Bool.and_eq_true, blt_iff] at this
 exact ⟨this.1.1, this.1.2⟩
theorem tabV_scalar {v : Value} (h : tabV v = true) : plain1 v = true := by
 unfold tabV at h; simp only [Bool.and_eq_true] at h; exact h.1
theorem arT (hB : tabsB l n = true) (hW : LaidT l W) : AR W (muT l n W) (heapT l n) := by
 have key : ∀ {b m}, muT l n W b = some m → ∃ cs c e fr, look l b = some cs ∧ W.heap[b]? = some (.cells c e fr) ∧ b < n ∧ m = ⟨b, 0, c.size⟩ := by
  intro b m h
  unfold muT at h
  split at h
  ·rename_i cs c e fr h1 h2 h3
   cases h
   exact ⟨cs, c, e, fr, h1, h2, blt_iff.1 h3, rfl⟩
  ·cases h
 refine ⟨fun b hb => ?_, fun b hb => ?_, fun b m hb => ?_, fun b m hb => ?_⟩
 ·rw [heapT_size] at hb; rw [heapT_get, if_neg (by omega)]
 ·rw [heapT_size] at hb; rw [heapT_get, if_pos hb]; exact ⟨_, rfl⟩
 ·obtain ⟨cs, c, e, fr, h1, h2, h3, rfl⟩ := key hb
  rw [heapT_size]; exact h3
 ·obtain ⟨cs, c, e, fr, h1, h2, h3, rfl⟩ := key hb
  obtain ⟨c', e', fr', q1, q2, q3⟩ := hW b cs h1
  rw [h2] at q1; cases q1
  refine ⟨cs, c, e, fr, by rw [heapT_get, if_pos h3, h1], h2, rfl, by simpa using q2, fun i v hv => ⟨v, by simpa using q3 i v hv, .lit ?_⟩⟩
  exact tabV_scalar (List.all_eq_true.1 (tabsB_ok hB h1).2 v (List.mem_of_getElem? hv))
theorem muT_glob (hB : tabsB l n = true) (hW : LaidT l W) {E : Env} (hE : E.tab = look l) (g : Nat) (hg : E.glob g = true) : ∃ m, muT l n W g = some m ∧ m.r = g ∧ m.s = 0 := by
 unfold Env.glob at hg
 rw [hE, Option.isSome_iff_exists] at hg
 obtain ⟨cs, h1⟩ := hg
 obtain ⟨c, e, fr, q1, q2, q3⟩ := hW g cs h1
 refine ⟨⟨g, 0, c.size⟩, ?_, rfl, rfl⟩
 unfold muT
 rw [h1, q1, blt_iff.2 (tabsB_ok hB h1).1]
theorem laid_of_rel {E : Env} (hE : E.tab = look l) {base B : Nat} {μ : Emb} {h : AHeap} {w : World} (H : HRel E base B μ h w) (hB : tabsB l n = true) (ht : tabsIn l h = true) : LaidT l w := by
 intro g cs hg
 obtain ⟨m, q1, q2, q3⟩ := H.glob g (by unfold Env.glob; rw [hE, hg]; rfl)
 have := List.all_eq_true.1 ht _ (look_mem hg)
 simp only [hg] at this
 split at this
 ·rename_i cs1 cs2 hr e
  cases e
  have ec := eqLs_eq this
  subst ec
  obtain ⟨c, e, fr, k1, k2, k3, _, k5⟩ := H.read q1 hr
  rw [q2] at k1
  rw [q3] at k3 k5
  refine ⟨c, e, fr, k1, by omega, fun i v hv => ?_⟩
  obtain ⟨v', p1, p2⟩ := k5 i v hv
  have hp := tabV_scalar (List.all_eq_true.1 (tabsB_ok hB hg).2 v (List.mem_of_getElem? hv))
  have hf := (List.all_eq_true.1 (tabsB_ok hB hg).2 v (List.mem_of_getElem? hv))
  have : v' = v := by
   cases p2 with
   | lit h => rfl
   | _ => simp [plain1] at hp
  subst this
  simpa using p1
 ·cases this
theorem tabsIn_of {E : Env} (hE : E.tab = look l) {F : Nat → Prop} {h : AHeap} (hB : tabsB l n = true) (N : TabOk E F h) : tabsIn l h = true := by
 refine List.all_eq_true.2 fun p hp => ?_
 have := List.all_eq_true.1 hB p hp
 simp only [Bool.and_eq_true] at this
 have h3 := this.2
 split at h3
 ·rename_i cs hl
  obtain ⟨_, n2, _⟩ := N p.1 cs (by rw [hE]; exact hl)
  rw [n2, hl]
  have e := eqLs_eq h3
  rw [e] at h3 ⊢
  exact h3
 ·cases h3
def AwakeT (P : Program) (l : Tabs) (g : FuncId) : Prop := ∀ (W : World) (F : Fence) (n : Nat), LaidT l W → Wide F → CallsIn F n P g #[] W fun e W' => e = .returned (.bool true) ∧ Go.RowKit.Below W.heap.size W W'
noncomputable def orcAllT (P : Program) (l : Tabs) (fs bs ps : List Nat) (n : Nat) : FuncId → List Value → AHeap → Option (Value × AHeap) := fun g args h =>
 match fs.contains g with
 | true => confl (envT P l noOrc) n g args h
 | false => match bs.contains g with
  | true => conflB (envT P l noOrc) n g args h
  | false => match ps.contains g with
   | true => conflP (envT P l noOrc) n g args h
   | false => none
theorem noOrc_okT {base B : Nat} : OrcOk P (envT P l noOrc) base B := fun μ h w g args args' v h' hr => by
 have : (none : Option (Value × AHeap)) = some (v, h') := hr
 cases this
theorem AR.hrelT {E : Env} {μ0 μ : Emb} {h : AHeap} (A : AR W μ h) (hle : μ0.le μ) (hg : ∀ g, E.glob g = true → ∃ m, μ0 g = some m ∧ m.r = g ∧ m.s = 0) : HRel E h.size W.heap.size μ h W :=
 let H := AR.hrel (E := envOf default noOrc) A (fun _ => rfl)
 ⟨H.dom, H.high, H.obj, H.own, H.alias, H.fam, fun g h => let ⟨m, q1, q2⟩ := hg g h; ⟨m, hle _ _ q1, q2⟩, H.low, H.bsz, H.wf, H.root⟩
def orcX (l : Tabs) (aw : List Nat) (rest : FuncId → List Value → AHeap → Option (Value × AHeap)) : FuncId → List Value → AHeap → Option (Value × AHeap) := fun g args h =>
 match memN g aw, args, tabsIn l h with
 | true, [], true => some (.bool true, h)
 | _, _, _ => rest g args h
theorem orcX_ok {aw : List Nat} {rest : FuncId → List Value → AHeap → Option (Value × AHeap)} (hB : tabsB l n = true) (ha : ∀ g ∈ aw, AwakeT P l g) (hr : ∀ base B, OrcOk P (envOf P rest) base B) (base B : Nat) : OrcOk P (envT P l (orcX l aw rest)) base B := by
 intro μ h w g args args' v h' hc hv H F k hF
 have hc' : orcX l aw rest g args h = some (v, h') := hc
 unfold orcX at hc'
 split at hc'
 ·rename_i h1 h2
  cases hc'
  have : args' = #[] := by
   have := hv.length
   simpa using this.symm
  subst this
  refine (ha g (memN_mem h1) w F k (laid_of_rel (E := envT P l (orcX l aw rest)) rfl H hB h2) hF).mono ?_
  rintro e W' ⟨rfl, hb⟩
  exact ⟨_, μ, rfl, .lit rfl, ⟨H.ext hb.size fun r hr => hb.block r hr, ⟨hb.tape, hb.os, hb.output, hb.size, fun r hr _ => hb.block r hr⟩, μ.le_refl, fun b m h0 h1 => (by rw [h0] at h1; cases h1), fun _ _ _ => rfl, Nat.le_refl _⟩⟩
 ·have H2 : HRel (envOf P rest) base B μ h w := ⟨H.dom, H.high, H.obj, H.own, H.alias, H.fam, fun g hg => by simp [Env.glob, envOf] at hg, H.low, H.bsz, H.wf, H.root⟩
  exact (hr base B μ h w g _ args' v h' hc' hv H2 F k hF).mono fun e w' ⟨v', μ', h1, h2, h3⟩ =>
   ⟨v', μ', h1, h2, ⟨h3.rel.dom, h3.rel.high, h3.rel.obj, h3.rel.own, h3.rel.alias, h3.rel.fam, fun g hg => let ⟨m, q1, q2⟩ := H.glob g hg; ⟨m, h3.le _ _ q1, q2⟩, h3.rel.low, h3.rel.bsz, h3.rel.wf, h3.rel.root⟩, h3.grow, h3.le, h3.new, h3.unt, h3.hsz⟩
theorem VC.awakeX {aw : List Nat} {rest : FuncId → List Value → AHeap → Option (Value × AHeap)} {g : FuncId} {c0 : Nat} {o0 : Ob} (hB : tabsB l n = true) (hf : ((envT P l (orcX l aw rest)).func g).isSome = true) (hg : memN g aw = true) :
 VC (envT P l (orcX l aw rest)) g c0 [] o0 (fun r o c => r = .s (.bool true) ∧ o = o0 ∧ c = c0) := by
 intro base ρ F h S vargs hN hM hO hA
 obtain ⟨fn, hf⟩ := Option.isSome_iff_exists.1 hf
 obtain rfl := hA.inv_nil
 have ho : (envT P l (orcX l aw rest)).orc g [] h = some (.bool true, h) := by
  show orcX l aw rest g [] h = _
  unfold orcX
  rw [hg, tabsIn_of (E := envT P l (orcX l aw rest)) rfl hB hN]
 refine ⟨0, .bool true, h, ρ, F, .s (.bool true), o0, c0, ?_, ⟨rfl, rfl, rfl⟩, hM, .s rfl⟩
 unfold acall acallB
 rw [hf]
 simp only [Option.bind_some, ho]
end
section
open Go.ChangeShapes Go.WideShapes
variable {H : Type} {enc : TypeId × Value → H} {P : Program} {W : World} {base : Nat} {held : Bool}
theorem row_trueT {l : Tabs} {n : Nat} {E : Env} {g : FuncId} {ash : List ArgSh} {ts : List TypeId} {args : Array Value} {ds : List (DataW H)} {ps : List MemPlace} {base' : Nat} {r : Reach} (hE : EnvOk P E) (hO : ∀ base B, OrcOk P E base B) (hm : P.follows .mixedOrders = true)
 (hT : E.tab = look l) (hBT : tabsB l n = true) (hWT : LaidT l W)
 (hB : argsB P ts ash = true) (hD : DataW.TrodAll enc P W base (fun _ => true) held ts args.toList ds ps) (hv : ∀ (j : Nat) t v, ts[j]? = some t → args[j]? = some v → Value.okWide P W r base' t v)
 (hc : ∀ tvs, FitAs ash tvs → VC E g 0 tvs [] fun r _ _ => r = .s (.bool true)) : Calls P g args W fun e W' => e = .returned (.bool true) ∧ Go.RowKit.Below W.heap.size W W' := by
 obtain ⟨μ, h, tvs, vs0, A, hle, hgr, f, r, x⟩ := args_laid hB hD (fun j t v a b => hv j t v a (by simpa using b)) _ _ (arT hBT hWT)
 have hN : TabOk E (· < h.size) h := fun g cs hg => by
  rw [hT] at hg
  obtain ⟨h1, h2⟩ := tabsB_ok hBT hg
  have hs := hgr.1
  rw [heapT_size] at hs
  refine ⟨by omega, A.rd (cs := cs) ?_, h2⟩
  rw [hgr.2 g (by rw [heapT_size]; exact h1), heapT_get, if_pos h1, hg]
 obtain ⟨k, v, h', ρ', F', r', o', c', h1, rfl, h3, h4⟩ := hc tvs f h.size noG _ h _ vs0 hN A.mem (AR.mo (μ := μ)) r
 obtain ⟨rfl, _⟩ := h4.inv_s
 have := acall_ok hE (hO h.size W.heap.size) hm k μ h W g vs0 args _ h' h1 x (A.hrelT hle (muT_glob hBT hWT hT)) Fence.wide 0 Wide.wide
 refine (callsIn_wide.1 (this.mono ?_))
 rintro e W' ⟨v', μ', rfl, hv, S⟩
 have e := hv.inv_scalar rfl
 subst e
 exact ⟨rfl, S.grow.os, S.grow.tape, S.grow.output, S.grow.size, fun k hk => S.grow.keep k hk fun b m hb _ => A.dom b m hb⟩
end
end Go.M
namespace Go.M
open Go Go.RowKit Go.Shelf Go.Proofs
def JoinsIn (P : Program) (g : FuncId) : Prop := ∀ (bk o c : Nat) (xs : List ByteArray) (sep : ByteArray) (w : World), (∀ (j : Nat) x, xs[j]? = some x → w.cell? ⟨bk, o + j, none⟩ = some (.string x)) → bk < w.heap.size → xs.length ≤ 100000 → xs.length ≤ c →
 (Lib.join (xs.map (·.data.toList)) sep.data.toList).length ≤ 1000000 →
 Calls P g #[.slice (some ⟨bk, o, none⟩) xs.length c, .string sep] w fun e w' => e = .returned (.string ⟨(Lib.join (xs.map (·.data.toList)) sep.data.toList).toArray⟩) ∧ Below w.heap.size w w'
theorem joinsIn_of {P : Program} {ρ : Ren} (L : Lays.n156 P ρ) (X : Builder.Extra P ρ) {g : FuncId} (e : ρ.f 156 = g) : JoinsIn P g := fun bk o c xs sep w h1 h2 h3 h4 h5 => by
 subst e
 exact Any.strings_Join L X bk o c xs sep w h1 h2 (by omega) h4 (by omega)
def strsOf : List Value → Option (List ByteArray)
 | [] => some []
 | .string s :: l => (strsOf l).map (s :: ·)
 | _ :: _ => none
theorem strsOf_get : ∀ {l : List Value} {xs : List ByteArray}, strsOf l = some xs → xs.length = l.length ∧ ∀ (i : Nat) x, xs[i]? = some x → l[i]? = some (.string x)
 | [], xs, h => by cases h; exact ⟨rfl, fun i x hx => by simp at hx⟩
 | v :: l, xs, h => by
  cases v with
  | string s =>
   simp only [strsOf, Option.map_eq_some_iff] at h
   obtain ⟨ys, h, rfl⟩ := h
   obtain ⟨h1, h2⟩ := strsOf_get h
   refine ⟨by simp [h1], fun i x hx => ?_⟩
   cases i with
   | zero => simp at hx; subst hx; rfl
   | succ i => simp at hx; simpa using h2 i x hx
  | _ => cases h
def joinK (args : List Value) (h : AHeap) : Option (Value × AHeap) := match args with
 | [.slice (some ⟨b, o, some _⟩) len _, .string sep] => (readCells h b o len).bind fun cs => (strsOf cs).bind fun xs =>
  grd (Nat.blt 0 len && Nat.ble len 100000 && Nat.ble (Lib.join (xs.map (·.data.toList)) sep.data.toList).length 1000000) (Value.string ⟨(Lib.join (xs.map (·.data.toList)) sep.data.toList).toArray⟩, h)
 | _ => none
def orcJ (js : List Nat) (rest : FuncId → List Value → AHeap → Option (Value × AHeap)) : FuncId → List Value → AHeap → Option (Value × AHeap) := fun g args h =>
 match memN g js, joinK args h with
 | true, some r => some r
 | _, _ => rest g args h
section
variable {P : Program} {l : Tabs}
theorem joinK_ok {E : Env} {base B : Nat} {g : FuncId} (hJ : JoinsIn P g) {μ : Emb} {h h' : AHeap} {w : World} {args : List Value} {args' : Array Value} {v : Value}
 (hc : joinK args h = some (v, h')) (hr : VRels μ args args'.toList) (H : HRel E base B μ h w) : Calls P g args' w (RetPost E base B μ h w v h') := by
 unfold joinK at hc
 split at hc
 ·rename_i b o z len cap sep
  simp only [Option.bind_eq_some_iff, grd_some, Bool.and_eq_true, blt_iff, ble_iff, Option.some.injEq, Prod.mk.injEq] at hc
  obtain ⟨cs, hcs, xs, hxs, ⟨⟨h1, h2⟩, h3⟩, rfl, rfl⟩ := hc
  obtain ⟨v1, v2, hv1, hv2, e1⟩ : ∃ v1 v2, VRel μ (.slice (some ⟨b, o, some z⟩) len cap) v1 ∧ VRel μ (.string sep) v2 ∧ args' = #[v1, v2] := by
   obtain ⟨l⟩ := args'
   cases hr with
   | cons q1 q2 => cases q2 with
    | cons q2 q3 => cases q3; exact ⟨_, _, q1, q2, rfl⟩
  subst e1
  have e2 := hv2.inv_scalar rfl
  subst e2
  obtain ⟨y1, y2⟩ := strsOf_get hxs
  cases hv1 with
  | lit hh => simp [plain1] at hh
  | slice0 hh => simp at h1
  | slice hm k1 k2 k3 k4 =>
   rename_i cap' m
   obtain ⟨r1, r2⟩ := H.readCells hm hcs
   have hlen : len = xs.length := by omega
   subst hlen
   obtain ⟨o1, o2, _, q2, _⟩ := H.obj b m hm
   refine (hJ m.r (m.s + o) cap' xs sep w (fun j x hx => ?_) ?_ h2 k2 h3).mono ?_
   ·obtain ⟨v', p1, p2⟩ := r2 j _ (y2 j x hx)
    have := p2.inv_scalar rfl
    subst this
    exact p1
   ·exact (Array.getElem?_eq_some_iff.1 q2).1
   ·rintro e W' ⟨rfl, hb⟩
    exact ⟨_, μ, rfl, .lit rfl, ⟨H.ext hb.size fun r hr => hb.block r hr, ⟨hb.tape, hb.os, hb.output, hb.size, fun r hr _ => hb.block r hr⟩, μ.le_refl, fun b m h0 h1 => (by rw [h0] at h1; cases h1), fun _ _ _ => rfl, Nat.le_refl _⟩⟩
 ·cases hc
theorem orcJ_ok {js : List Nat} {rest : FuncId → List Value → AHeap → Option (Value × AHeap)} (hj : ∀ g ∈ js, JoinsIn P g) (hr : ∀ base B, OrcOk P (envT P l rest) base B) (base B : Nat) : OrcOk P (envT P l (orcJ js rest)) base B := by
 intro μ h w g args args' v h' hc hv H F k hF
 have hc' : orcJ js rest g args h = some (v, h') := hc
 unfold orcJ at hc'
 split at hc'
 ·rename_i r h1 h2
  cases hc'
  exact calls_any hF (joinK_ok (hj g (memN_mem h1)) h2 hv H)
 ·have H2 : HRel (envT P l rest) base B μ h w := ⟨H.dom, H.high, H.obj, H.own, H.alias, H.fam, H.glob, H.low, H.bsz, H.wf, H.root⟩
  exact (hr base B μ h w g _ args' v h' hc' hv H2 F k hF).mono fun e w' ⟨v', μ', h1, h2, h3⟩ =>
   ⟨v', μ', h1, h2, ⟨⟨h3.rel.dom, h3.rel.high, h3.rel.obj, h3.rel.own, h3.rel.alias, h3.rel.fam, h3.rel.glob, h3.rel.low, h3.rel.bsz, h3.rel.wf, h3.rel.root⟩, h3.grow, h3.le, h3.new, h3.unt, h3.hsz⟩⟩
theorem awakeT_by {n : Nat} {orc : FuncId → List Value → AHeap → Option (Value × AHeap)} (hm : P.follows .mixedOrders = true) (hB : tabsB l n = true) (hO : ∀ base B, OrcOk P (envT P l orc) base B) {k : Nat} {g : FuncId}
 (hr : gaveTrue (acall (envT P l orc) n k g [] (heapT l n)) = true) : AwakeT P l g := by
 intro W F j hW hF
 obtain ⟨h', hr⟩ := gaveTrue_some hr
 have A := arT hB hW
 have H : HRel (envT P l orc) n W.heap.size (muT l n W) (heapT l n) W := by
  have := A.hrelT (E := envT P l orc) (Emb.le_refl _) (muT_glob hB hW rfl)
  rwa [heapT_size] at this
 have := acall_ok (envOkT P l _) (hO n W.heap.size) hm k (muT l n W) (heapT l n) W g [] #[] (.bool true) h' hr .nil H F j hF
 refine this.mono ?_
 rintro e W' ⟨v', μ', rfl, hv, S⟩
 have e := hv.inv_scalar rfl
 subst e
 refine ⟨rfl, S.grow.os, S.grow.tape, S.grow.output, S.grow.size, fun k hk => S.grow.keep k hk fun b mt hb _ => ?_⟩
 have := A.dom b mt hb
 rwa [heapT_size] at this
end
end Go.M
namespace Go.M
open Go
theorem bsplit {b : Bool} {A B : Prop} (hA : b = true → A) (hB : b = false → B) : (match (generalizing := false) b with | true => A | false => B) := by
 cases b with
 | true => exact hA rfl
 | false => exact hB rfl
theorem nsplit {b : Bool} {A B : Prop} (hA : b = false → A) (hB : b = true → B) : (match (generalizing := false) !b with | true => A | false => B) := by
 cases b with
 | true => exact hB rfl
 | false => exact hA rfl
@[reducible] def RR (r0 : TV) (c0 : Nat) (o0 : Ob) : TV → Ob → Nat → Prop := fun r o c => r = r0 ∧ c = c0 ∧ o = o0
theorem bool_eq {a b : Bool} (h : a = b) : Value.bool a = Value.bool b := congrArg _ h
theorem idxI {α : Type} {enc : α → List TV} {l : List α} {n : Nat} {K : List TV → Prop} (h : n < l.length) (hK : K (enc l[n])) : ∃ e, (0 ≤ (n : Int) ∧ (l.map enc)[(n : Int).toNat]? = some e) ∧ K e :=
 ⟨enc l[n], ⟨by omega, by simp [h]⟩, hK⟩
theorem idxI' {α : Type} {enc : α → List TV} {l : List α} {n : Int} {K : List TV → Prop} (h0 : 0 ≤ n) (h : n.toNat < l.length) (hK : K (enc l[n.toNat])) : ∃ e, (0 ≤ n ∧ (l.map enc)[n.toNat]? = some e) ∧ K e :=
 ⟨enc l[n.toNat], ⟨h0, by simp [h]⟩, hK⟩
theorem wrap_small (n : Nat) (h : n ≤ 1099511627776) : IntKind.i64.wrap ((n : Int) + 1) = ((n + 1 : Nat) : Int) := by
 rw [IntWalk.i64_in _ (by omega)]; rfl
theorem lenlt {α : Type} {f : α → List TV} {l : List α} {i : Nat} : ((i : Int) < (((l.map f).length : Nat) : Int)) ↔ i < l.length := by simp
theorem flx : ∀ b : Bool, (!b || b) = true
 | true => rfl
 | false => rfl
theorem Lz.int {k : IntKind} {a b : Int} (h : a = b) : Lz (Value.int k a) (Value.int k b) := .of (congrArg _ h)
theorem Lz.wrap {n : Nat} (h : n ≤ 1099511627776) : Lz (Value.int .i64 (IntKind.i64.wrap ((n : Int) + 1))) (Value.int .i64 ((n + 1 : Nat) : Int)) := .of (congrArg _ (wrap_small n h))
def smalls : List Nat := [0, 1, 2, 3, 4, 5, 6, 7, 8, 9, 10, 11, 12, 13, 14, 15, 16, 17, 18, 19, 20, 21, 22, 23, 24, 25, 26, 27, 28, 29, 30, 31, 32, 33, 34, 35, 36, 37, 38, 39, 40]
def forceNL (n : Nat) (K : Nat → Prop) (l : List Nat) : Prop := @List.rec Nat (fun _ => Prop) (K n) (fun k _ ih => match Nat.beq n k with | true => K k | false => ih) l
theorem forceNL_eq (n : Nat) (K : Nat → Prop) : ∀ l, forceNL n K l = K n
 | [] => rfl
 | k :: l => by
  show (match Nat.beq n k with | true => K k | false => forceNL n K l) = K n
  cases h : Nat.beq n k with
  | true => rw [beq_iff.1 h]
  | false => exact forceNL_eq n K l
def forceN (n : Nat) (K : Nat → Prop) : Prop := forceNL n K smalls
theorem forceN_eq (n : Nat) : forceN n = fun K => K n := by funext K; exact forceNL_eq n K _
def forceC (v : TV) (K : TV → Prop) : Prop := match v with
 | .j => K .j
 | .s v => K (.s v)
 | .sl z es fl => forceN z fun z => K (.sl z es fl)
 | .tk n => forceN n fun n => K (.tk n)
 | .ptr n o => forceN n fun n => forceN o fun o => K (.ptr n o)
 | .ep e o => forceN o fun o => K (.ep e o)
 | .wp n i o => forceN n fun n => forceN o fun o => K (.wp n i o)
 | .mp n => forceN n fun n => K (.mp n)
 | .bg n len => forceN n fun n => K (.bg n len)
 | .sv n i => forceN n fun n => K (.sv n i)
 | .agg cs => K (.agg cs)
 | .tup cs => K (.tup cs)
 | .ifc t v => K (.ifc t v)
 | .clo g a c => K (.clo g a c)
 | .own y => K (.own y)
theorem forceC_eq (v : TV) : forceC v = fun K => K v := by funext K; cases v <;> simp [forceC, forceN_eq]
def forceL (F : TV → (TV → Prop) → Prop) (l : List TV) : (List TV → Prop) → Prop := @List.rec TV (fun _ => (List TV → Prop) → Prop) (fun K => K []) (fun v _ ih K => F v fun v => ih fun l => K (v :: l)) l
theorem forceL_eq {F : TV → (TV → Prop) → Prop} (hF : ∀ v, F v = fun K => K v) : ∀ l, forceL F l = fun K => K l
 | [] => rfl
 | v :: l => by
  have ih := forceL_eq hF l
  funext K
  show F v (fun v => forceL F l fun l => K (v :: l)) = K (v :: l)
  rw [hF, ih]
def forceA (v : TV) (K : TV → Prop) : Prop := match v with
 | .j => K .j
 | .s v => K (.s v)
 | .sl z es fl => forceN z fun z => K (.sl z es fl)
 | .tk n => forceN n fun n => K (.tk n)
 | .ptr n o => forceN n fun n => forceN o fun o => K (.ptr n o)
 | .ep e o => forceN o fun o => K (.ep e o)
 | .wp n i o => forceN n fun n => forceN o fun o => K (.wp n i o)
 | .mp n => forceN n fun n => K (.mp n)
 | .bg n len => forceN n fun n => K (.bg n len)
 | .sv n i => forceN n fun n => K (.sv n i)
 | .agg cs => forceL forceC cs fun cs => K (.agg cs)
 | .tup cs => K (.tup cs)
 | .ifc t v => K (.ifc t v)
 | .clo g a c => forceL forceC a fun a => forceL forceC c fun c => K (.clo g a c)
 | .own y => K (.own y)
theorem forceA_eq (v : TV) : forceA v = fun K => K v := by funext K; cases v <;> simp [forceA, forceN_eq, forceL_eq forceC_eq]
def forceV (v : TV) (K : TV → Prop) : Prop := match v with
 | .j => K .j
 | .s v => K (.s v)
 | .sl z es fl => forceN z fun z => K (.sl z es fl)
 | .tk n => forceN n fun n => K (.tk n)
 | .ptr n o => forceN n fun n => forceN o fun o => K (.ptr n o)
 | .ep e o => forceN o fun o => K (.ep e o)
 | .wp n i o => forceN n fun n => forceN o fun o => K (.wp n i o)
 | .mp n => forceN n fun n => K (.mp n)
 | .bg n len => forceN n fun n => K (.bg n len)
 | .sv n i => forceN n fun n => K (.sv n i)
 | .agg cs => forceL forceC cs fun cs => K (.agg cs)
 | .tup cs => forceL forceA cs fun cs => K (.tup cs)
 | .ifc t v => forceA v fun v => K (.ifc t v)
 | .clo g a c => forceL forceC a fun a => forceL forceC c fun c => K (.clo g a c)
 | .own y => K (.own y)
theorem forceV_eq (v : TV) : forceV v = fun K => K v := by funext K; cases v <;> simp [forceV, forceN_eq, forceL_eq forceC_eq, forceL_eq forceA_eq, forceA_eq]
def forceQ (q : List (Nat × List TV)) : (List (Nat × List TV) → Prop) → Prop := @List.rec (Nat × List TV) (fun _ => (List (Nat × List TV) → Prop) → Prop) (fun K => K []) (fun p _ ih K => forceL forceC p.2 fun x => ih fun l => K ((p.1, x) :: l)) q
theorem forceQ_eq : ∀ q, forceQ q = fun K => K q
 | [] => rfl
 | p :: q => by
  have ih := forceQ_eq q
  funext K
  show forceL forceC p.2 (fun x => forceQ q fun l => K ((p.1, x) :: l)) = K (p :: q)
  rw [forceL_eq forceC_eq, ih]
def forceM (q : List (Value × TV)) : (List (Value × TV) → Prop) → Prop := @List.rec (Value × TV) (fun _ => (List (Value × TV) → Prop) → Prop) (fun K => K []) (fun p _ ih K => forceA p.2 fun x => ih fun l => K ((p.1, x) :: l)) q
theorem forceM_eq : ∀ q, forceM q = fun K => K q
 | [] => rfl
 | p :: q => by
  have ih := forceM_eq q
  funext K
  show forceA p.2 (fun x => forceM q fun l => K ((p.1, x) :: l)) = K (p :: q)
  rw [forceA_eq, ih]
def forceT (x : TO) (K : TO → Prop) : Prop := match x with
 | .cells cs => forceL forceC cs fun cs => K (.cells cs)
 | .map kd es => forceN kd fun kd => K (.map kd es)
 | .arr z w es => forceN z fun z => match w with | true => K (.arr z true es) | false => K (.arr z false es)
 | .arq z es op => forceN z fun z => forceQ op fun op => K (.arq z es op)
 | .maq kd es op => forceN kd fun kd => forceM op fun op => K (.maq kd es op)
 | .bag ks => K (.bag ks)
theorem forceT_eq (x : TO) : forceT x = fun K => K x := by
 funext K
 cases x with
 | cells cs => simp [forceT, forceL_eq forceC_eq]
 | map kd es => simp [forceT, forceN_eq]
 | arr z w es => cases w <;> simp [forceT, forceN_eq]
 | arq z es op => simp [forceT, forceN_eq, forceQ_eq]
 | maq kd es op => simp [forceT, forceN_eq, forceM_eq]
 | bag ks => rfl
def forceO (o : Ob) : (Ob → Prop) → Prop := @List.rec (Nat × TO) (fun _ => (Ob → Prop) → Prop) (fun K => K []) (fun p _ ih K => forceN p.1 fun n => forceT p.2 fun x => ih fun l => K ((n, x) :: l)) o
theorem forceO_eq : ∀ o, forceO o = fun K => K o
 | [] => rfl
 | p :: o => by
  have ih := forceO_eq o
  funext K
  show forceN p.1 (fun n => forceT p.2 fun x => forceO o fun l => K ((n, x) :: l)) = K (p :: o)
  rw [forceN_eq, forceT_eq, ih]
def strict (l : VL) (v : TV) (o : Ob) (c : Nat) (K : TV → Ob → Nat → Prop) : Prop := match l with
 | .pure => forceV v fun v => K v o c
 | .alloc => forceV v fun v => forceO o fun o => forceN c fun c => K v o c
 | .rdF => forceV v fun v => K v o c
 | .rdO _ => forceV v fun v => forceO o fun o => forceN c fun c => K v o c
 | .rdN _ _ _ => forceV v fun v => forceO o fun o => forceN c fun c => K v o c
 | .eff _ => forceV v fun v => forceO o fun o => forceN c fun c => K v o c
 | .effI _ => forceV v fun v => forceO o fun o => forceN c fun c => K v o c
 | .effG => forceV v fun v => forceO o fun o => forceN c fun c => K v o c
 | .bad => forceV v fun v => K v o c
theorem strict_eq (l : VL) (v : TV) (o : Ob) (c : Nat) : strict l v o c = fun K => K v o c := by
 funext K; cases l <;> simp [strict, forceV_eq, forceO_eq, forceN_eq]
def wopsR (E : Env) (vc : VCs) (n : Nat) (ops : List Oper) (l : List Oper) : Fr → Ob → Nat → RK → Prop :=
 @List.rec Oper (fun _ => Fr → Ob → Nat → RK → Prop) (fun f o c K => K f o c)
  (fun p _ ih f o c K => wguard ops p f
   (wop E vc p.op f o c fun v o' c' l => strict l v o' c' fun v o' c' => wput p.dst n v f fun f' => ih f' o' c' K)
   (wput p.dst n (.tup []) f fun f' => ih f' o c K)) l
theorem wopsR_eq (E : Env) (vc : VCs) (n : Nat) (ops : List Oper) : ∀ (l : List Oper) f o c K, wopsR E vc n ops l f o c K = wops E vc n ops l f o c K := by
 intro l
 induction l with
 | nil => intro f o c K; rfl
 | cons p rest ih =>
  intro f o c K
  have e : (fun f' o' c' (K : RK) => wopsR E vc n ops rest f' o' c' K) = fun f' o' c' K => wops E vc n ops rest f' o' c' K := by funext a b d e; exact ih a b d e
  show wguard ops p f (wop E vc p.op f o c fun v o' c' l => strict l v o' c' fun v o' c' => wput p.dst n v f fun f' => (fun f' o' c' (K : RK) => wopsR E vc n ops rest f' o' c' K) f' o' c' K) (wput p.dst n (.tup []) f fun f' => (fun f' o' c' (K : RK) => wopsR E vc n ops rest f' o' c' K) f' o c K) = _
  rw [e]
  simp only [strict_eq]
  rfl
def wopsLR (E : Env) (vc : VCs) (n : Nat) (ops : List Oper) (l : List Oper) : Fr → Ob → Nat → List VN → (List VN → RK) → Prop :=
 @List.rec Oper (fun _ => Fr → Ob → Nat → List VN → (List VN → RK) → Prop) (fun f o c lg K => K lg f o c)
  (fun p _ ih f o c lg K => wguard ops p f
   (wop E vc p.op f o c fun v o' c' l => strict l v o' c' fun v o' c' => wput p.dst n v f fun f' => ih f' o' c' (lg ++ [(l, o)]) K)
   (wput p.dst n (.tup []) f fun f' => ih f' o c (lg ++ [(.pure, o)]) K)) l
theorem wopsLR_eq (E : Env) (vc : VCs) (n : Nat) (ops : List Oper) : ∀ (l : List Oper) f o c lg K, wopsLR E vc n ops l f o c lg K = wopsL E vc n ops l f o c lg K := by
 intro l
 induction l with
 | nil => intro f o c lg K; rfl
 | cons p rest ih =>
  intro f o c lg K
  have e : (fun f' o' c' lg (K : List VN → RK) => wopsLR E vc n ops rest f' o' c' lg K) = fun f' o' c' lg K => wopsL E vc n ops rest f' o' c' lg K := by funext a b d g e; exact ih a b d g e
  show wguard ops p f (wop E vc p.op f o c fun v o' c' l => strict l v o' c' fun v o' c' => wput p.dst n v f fun f' => (fun f' o' c' lg (K : List VN → RK) => wopsLR E vc n ops rest f' o' c' lg K) f' o' c' (lg ++ [(l, o)]) K) (wput p.dst n (.tup []) f fun f' => (fun f' o' c' lg (K : List VN → RK) => wopsLR E vc n ops rest f' o' c' lg K) f' o c (lg ++ [(.pure, o)]) K) = _
  rw [e]
  simp only [strict_eq]
  rfl
structure Drawn (b : Bool) (K : Prop) : Prop where
 ok : b = true
 go : K
theorem drawn_eq (b : Bool) (K : Prop) : Drawn b K = (match (generalizing := false) b with | true => K | false => False) := by
 cases b with
 | true => exact propext ⟨fun h => h.go, fun h => ⟨rfl, h⟩⟩
 | false => exact propext (Iff.intro (fun h => by cases h.ok) (fun h => False.elim h))
abbrev WP := Fr → Ob → Nat → CK → Prop
def wpR (E : Env) (vc : VCs) (n c0 : Nat) (cuts : List Nat) (code : Code) : WP :=
 @Code.rec (fun _ => WP)
  (fun f o c Q => Q .normal f o c)
  (fun _ ops draw f o c Q => (match draw with
  | false => wopsR E vc n ops.toList ops.toList f o c fun f' o' c' => Q .normal f' o' c'
  | true => Drawn (staticOk ops.toList && dstsIn n ops.toList) (wopsLR E vc n ops.toList ops.toList f o c [] fun lg f' o' c' => Drawn (drawOk (befores ops.toList []) o' 0 lg) (Q .normal f' o' c'))))
  (fun _ _ iha ihb f o c Q => iha f o c fun ex f' o' c' => (match ex with
  | .normal => ihb f' o' c' Q
  | .exit id => Q (.exit id) f' o' c'
  | .ret => Q .ret f' o' c'))
  (fun q _ _ iht ihe f o c Q => (match evOk E q with
  | false => False
  | true => (match evT E f q with
   | .s (.bool b) => (match b with
    | true => iht f o c Q
    | false => ihe f o c Q)
   | _ => False)))
  (fun id _ ih f o c Q => (match memN id cuts with
  | false => ih f o c fun ex f' o' c' => (match ex with
   | .exit id' => (match Nat.beq id' id with
    | true => Q .normal f' o' c'
    | false => Q (.exit id') f' o' c')
   | .normal => Q .normal f' o' c'
   | .ret => Q .ret f' o' c')
  | true => ∃ Mid : RK, (ih f o c fun ex f' o' c' => (match ex with
   | .exit id' => (match Nat.beq id' id with
    | true => toldAs c0 f' o' c' Mid
    | false => Q (.exit id') f' o' c')
   | .normal => toldAs c0 f' o' c' Mid
   | .ret => Q .ret f' o' c')) ∧ ∀ f' o' c', Mid f' o' c' → Q .normal f' o' c'))
  (fun _ ih f o c Q => ∃ Inv : Nat → Fr → Ob → Nat → Prop, (∃ k, toldAs c0 f o c (Inv k)) ∧
   ∀ k f1 o1 c1, Inv k f1 o1 c1 → ih f1 o1 c1 fun ex f' o' c' => (match ex with
    | .normal => ∃ k', toldAs c0 f' o' c' (Inv k') ∧ k' < k
    | .exit id => Q (.exit id) f' o' c'
    | .ret => Q .ret f' o' c'))
  (fun _ _ _ _ _ _ _ _ _ _ => False)
  (fun id f o c Q => Q (.exit id) f o c)
  (fun _ _ _ _ _ _ => False)
  (fun _ _ _ _ _ => False)
  (fun _ _ _ _ _ => False)
  (fun f o c Q => Q .ret f o c)
  (fun _ _ _ _ _ => False) code
theorem wpR_eq (E : Env) (vc : VCs) (n c0 : Nat) (cuts : List Nat) : ∀ (code : Code) f o c Q, wpR E vc n c0 cuts code f o c Q = wp E vc n c0 cuts code f o c Q := by
 intro code
 induction code with
 | region id ops draw =>
  intro f o c Q
  have e1 : (fun K => wopsR E vc n ops.toList ops.toList f o c K) = fun K => wops E vc n ops.toList ops.toList f o c K := by funext K; exact wopsR_eq ..
  have e2 : (fun lg K => wopsLR E vc n ops.toList ops.toList f o c lg K) = fun lg K => wopsL E vc n ops.toList ops.toList f o c lg K := by funext lg K; exact wopsLR_eq ..
  show (match draw with
  | false => (fun K => wopsR E vc n ops.toList ops.toList f o c K) fun f' o' c' => Q .normal f' o' c'
  | true => Drawn (staticOk ops.toList && dstsIn n ops.toList) ((fun lg K => wopsLR E vc n ops.toList ops.toList f o c lg K) [] fun lg f' o' c' => Drawn (drawOk (befores ops.toList []) o' 0 lg) (Q .normal f' o' c'))) = _
  rw [e1, e2]
  simp only [drawn_eq]
  cases draw <;> rfl
 | seq a b iha ihb =>
  intro f o c Q
  have e1 : (fun f o c Q => wpR E vc n c0 cuts a f o c Q) = fun f o c Q => wp E vc n c0 cuts a f o c Q := by funext f o c Q; exact iha ..
  have e2 : (fun f o c Q => wpR E vc n c0 cuts b f o c Q) = fun f o c Q => wp E vc n c0 cuts b f o c Q := by funext f o c Q; exact ihb ..
  show ((fun f o c Q => wpR E vc n c0 cuts a f o c Q) f o c fun ex f' o' c' => (match ex with
  | .normal => (fun f o c Q => wpR E vc n c0 cuts b f o c Q) f' o' c' Q
  | .exit id => Q (.exit id) f' o' c'
  | .ret => Q .ret f' o' c')) = _
  rw [e1, e2]
  rfl
 | cond q t e iht ihe =>
  intro f o c Q
  have e1 : (fun f o c Q => wpR E vc n c0 cuts t f o c Q) = fun f o c Q => wp E vc n c0 cuts t f o c Q := by funext f o c Q; exact iht ..
  have e2 : (fun f o c Q => wpR E vc n c0 cuts e f o c Q) = fun f o c Q => wp E vc n c0 cuts e f o c Q := by funext f o c Q; exact ihe ..
  show (match evOk E q with
  | false => False
  | true => (match evT E f q with
   | .s (.bool b) => (match b with
    | true => (fun f o c Q => wpR E vc n c0 cuts t f o c Q) f o c Q
    | false => (fun f o c Q => wpR E vc n c0 cuts e f o c Q) f o c Q)
   | _ => False)) = _
  rw [e1, e2]
  rfl
 | block id b ih =>
  intro f o c Q
  have e1 : (fun f o c Q => wpR E vc n c0 cuts b f o c Q) = fun f o c Q => wp E vc n c0 cuts b f o c Q := by funext f o c Q; exact ih ..
  show (match memN id cuts with
  | false => (fun f o c Q => wpR E vc n c0 cuts b f o c Q) f o c fun ex f' o' c' => (match ex with
   | .exit id' => (match Nat.beq id' id with
    | true => Q .normal f' o' c'
    | false => Q (.exit id') f' o' c')
   | .normal => Q .normal f' o' c'
   | .ret => Q .ret f' o' c')
  | true => ∃ Mid : RK, ((fun f o c Q => wpR E vc n c0 cuts b f o c Q) f o c fun ex f' o' c' => (match ex with
   | .exit id' => (match Nat.beq id' id with
    | true => toldAs c0 f' o' c' Mid
    | false => Q (.exit id') f' o' c')
   | .normal => toldAs c0 f' o' c' Mid
   | .ret => Q .ret f' o' c')) ∧ ∀ f' o' c', Mid f' o' c' → Q .normal f' o' c') = _
  rw [e1]
  rfl
 | loop b ih =>
  intro f o c Q
  have e1 : (fun f o c Q => wpR E vc n c0 cuts b f o c Q) = fun f o c Q => wp E vc n c0 cuts b f o c Q := by funext f o c Q; exact ih ..
  show (∃ Inv : Nat → Fr → Ob → Nat → Prop, (∃ k, toldAs c0 f o c (Inv k)) ∧
   ∀ k f1 o1 c1, Inv k f1 o1 c1 → (fun f o c Q => wpR E vc n c0 cuts b f o c Q) f1 o1 c1 fun ex f' o' c' => (match ex with
    | .normal => ∃ k', toldAs c0 f' o' c' (Inv k') ∧ k' < k
    | .exit id => Q (.exit id) f' o' c'
    | .ret => Q .ret f' o' c')) = _
  rw [e1]
  rfl
 | _ => intros; rfl
theorem VC.enterR {E T : Env} (L : EnvLe T E) {g : FuncId} {fn : Func} {code : Code} {c0 : Nat} {args : List TV} {o0 : Ob} {R : TV → Ob → Nat → Prop} (hf : E.func g = some fn) (ho : ∀ a h, E.orc g a h = none) (hb : fn.body = some code) (hlen : Nat.ble args.length fn.ntmps = true)
 (cuts : List Nat) (hw : wpR T (VC E) fn.ntmps c0 cuts code (argsF 0 args) o0 c0 (wret T c0 fn.results.toList R)) : VC E g c0 args o0 R :=
 VC.enter L hf ho hb hlen cuts (by rw [← wpR_eq]; exact hw)
theorem D1 {b : Bool} {K : Prop} (k : K) (h : b = true := by kernel_rfl) : Drawn b K := ⟨h, k⟩
theorem t3 {a b c : Prop} (h1 : a := by (repeat' first|with_reducible exact Lz.rfl|exact Lw.rfl|exact Lz.wrap (by omega)|(unfold goInt;with_reducible exact Lz.rfl)|exact flx _|constructor)) (h2 : b := by (repeat' first|with_reducible exact Lz.rfl|exact Lw.rfl|exact Lz.wrap (by omega)|(unfold goInt;with_reducible exact Lz.rfl)|exact flx _|constructor)) (h3 : c := by rfl) : a ∧ b ∧ c := ⟨h1, h2, h3⟩
end Go.M
namespace Go.M
open Go Go.Proofs
def tabs0 : Tabs := []
noncomputable def E0 := envT Tryd.prog tabs0 (orcX tabs0 [6] (orcV [] []))
noncomputable def T0 := tE E0 [31]
set_option maxRecDepth 100000
theorem rows0 : [31].all (eqRow E0) = true := by kernel_rfl
theorem L0 : EnvLe T0 E0 := tE_le (fun t z h => by
 simp only [E0, envT, envOf, Option.bind_eq_some_iff, grd_some, Option.some.injEq] at h
 obtain ⟨i, h1, z', h2, h3, rfl⟩ := h
 exact h3) rows0
end Go.M
namespace Go.M
open Go Go.Proofs
set_option maxRecDepth 100000
set_option maxHeartbeats 4000000
@[reducible] def encI1 (n : Int) : List TV := [.s (.int .i64 n)]
noncomputable def eqB {α : Type} (a b : α) : Bool := @decide (a = b) (Classical.propDecidable _)
theorem eqB_iff {α : Type} {a b : α} : eqB a b = true ↔ a = b := by unfold eqB; simp
theorem eqB_false {α : Type} {a b : α} : eqB a b = false ↔ a ≠ b := by unfold eqB; simp
theorem take_snoc {α : Type} (l : List α) (i : Nat) (h : i < l.length) : l.take (i + 1) = l.take i ++ [l[i]] := by rw [List.take_succ_eq_append_getElem h]
def checkS (k ch ep nd : Int) : Int := if k < 0 ∨ k ≥ 5 then 1 else if k = 0 then (if ch ≠ 0 ∨ ep ≠ 0 ∨ nd ≠ 0 then 4 else 0) else if ch < 0 ∨ ch ≥ 4 ∨ ep < 1 ∨ nd < 1 ∨ nd > 24 then 4 else 0
@[reducible] def cmdT (k ch ep nd : Int) : TV := .agg [.s (.int .i64 k), .s (.int .i64 ch), .s (.int .u64 ep), .s (.int .i64 nd)]
theorem check_ok (k ch ep nd : Int) : VC E0 28 0 [cmdT k ch ep nd] [] (RR (.s (.int .i64 (checkS k ch ep nd))) 0 []) := by
 refine VC.enterR L0 (show E0.func 28 = some Tryd.f28 by kernel_rfl) (fun _ _ => rfl) rfl rfl [] ?_
 ((conv=>whnf)<;>repeat(with_reducible refine D1 ?_)<;>conv=>whnf)
 repeat' (first | ((first | (refine ⟨fun h => ?_, fun h => ?_⟩) | (refine nsplit (fun h => ?_) (fun h => ?_)) | (refine bsplit (fun h => ?_) (fun h => ?_))) <;> ((conv=>whnf)<;>repeat(with_reducible refine D1 ?_)<;>conv=>whnf)))
 all_goals (refine ⟨[], [], [], _, _, ⟨?_, .nil, rfl⟩, rfl, rfl, rfl⟩)
 all_goals (refine .s (Lz.int ?_); simp [veq1, checkS] at *; grind)
theorem refCheck_ok (k ch ep nd : Int) (he : 0 ≤ ep) : VC E0 30 0 [cmdT k ch ep nd] [] (RR (.s (.int .i64 (checkS k ch ep nd))) 0 []) := by
 refine VC.enterR L0 (show E0.func 30 = some Tryd.f30 by kernel_rfl) (fun _ _ => rfl) rfl rfl [] ?_
 ((conv=>whnf)<;>repeat(with_reducible refine D1 ?_)<;>conv=>whnf)
 repeat' (first | ((first | (refine ⟨fun h => ?_, fun h => ?_⟩) | (refine nsplit (fun h => ?_) (fun h => ?_)) | (refine bsplit (fun h => ?_) (fun h => ?_))) <;> ((conv=>whnf)<;>repeat(with_reducible refine D1 ?_)<;>conv=>whnf)))
 all_goals (refine ⟨[], [], [], _, _, ⟨?_, .nil, rfl⟩, rfl, rfl, rfl⟩)
 all_goals (refine .s (Lz.int ?_); simp [checkS] at *; grind)
structure Cmd where
 kind : Int
 chain : Int
 epoch : Int
 node : Int
@[reducible] def cT4 (c : Cmd) : TV := cmdT c.kind c.chain c.epoch c.node
def Cmd.check (c : Cmd) : Int := checkS c.kind c.chain c.epoch c.node
def noCmd : Cmd := ⟨0, 0, 0, 0⟩
theorem has04_ok (l : List Int) (x : Int) (hl : l.length < 1000000) : VC E0 41 0 [.sl 1 (l.map encI1) false, .s (.int .i64 x)] [] (RR (.s (.bool (decide (x ∈ l)))) 0 []) := by
 refine VC.enterR L0 (show E0.func 41 = some Tryd.f41 by kernel_rfl) (fun _ _ => rfl) rfl rfl [] ?_
 ((conv=>whnf)<;>repeat(with_reducible refine D1 ?_)<;>conv=>whnf)
 refine ⟨fun k f o c => ∃ j : Nat, j ≤ l.length ∧ k = l.length - j ∧ x ∉ l.take j ∧ c = 0 ∧ f = [(0, .sl 1 (l.map encI1) false), (1, .s (.int .i64 x)), (5, .s (.int .i64 j))] ∧ o = [], ⟨l.length, ?_⟩, ?_⟩
 ·exact ⟨[], [], _, _, _, t3, ⟨0, Nat.zero_le _, rfl, by simp, rfl, rfl, rfl⟩⟩
 ·rintro k f1 o1 c1 ⟨j, hj, rfl, hn, rfl, rfl, rfl⟩
  ((conv=>whnf)<;>repeat(with_reducible refine D1 ?_)<;>conv=>whnf)
  (first|refine ⟨?_,?_⟩|refine nsplit ?_ ?_|refine bsplit ?_ ?_)<;>intro h<;>have hz_:=True.intro<;>clear hz_
  ·have h : j < l.length := lenlt.1 h
   ((conv=>whnf)<;>repeat(with_reducible refine D1 ?_)<;>conv=>whnf)
   refine idxI h ?_
   ((conv=>whnf)<;>repeat(with_reducible refine D1 ?_)<;>conv=>whnf)
   (first|refine ⟨?_,?_⟩|refine nsplit ?_ ?_|refine bsplit ?_ ?_)<;>intro he<;>have hz_:=True.intro<;>clear hz_
   ·have he : l[j] = x := he
    ((conv=>whnf)<;>repeat(with_reducible refine D1 ?_)<;>conv=>whnf)
    refine ⟨[], [], ?_⟩
    iterate 3 constructor
    refine ⟨⟨?_, ?_, ?_⟩, rfl, rfl, rfl⟩
    all_goals (repeat' first|with_reducible exact Lz.rfl|exact Lw.rfl|exact Lz.wrap (by omega)|(unfold goInt;with_reducible exact Lz.rfl)|exact flx _|constructor)
    exact Lz.of (bool_eq (Eq.symm (decide_eq_true (he ▸ List.getElem_mem h))))
   ·have he : ¬ l[j] = x := he
    ((conv=>whnf)<;>repeat(with_reducible refine D1 ?_)<;>conv=>whnf)
    refine ⟨l.length - (j + 1), ?_, by omega⟩
    exact ⟨[], [], _, _, _, t3, ⟨j + 1, h, rfl, (by rw [List.take_succ_eq_append_getElem h]; simp only [List.mem_append, List.mem_singleton, not_or]; exact ⟨hn, fun e => he e.symm⟩), rfl, rfl, rfl⟩⟩
  ·have hj' : j = l.length := by have := mt lenlt.2 h
                                 omega
   subst hj'
   rw [List.take_length] at hn
   ((conv=>whnf)<;>repeat(with_reducible refine D1 ?_)<;>conv=>whnf)
   refine ⟨[], [], ?_⟩
   iterate 3 constructor
   refine ⟨⟨?_, ?_, ?_⟩, rfl, rfl, rfl⟩
   all_goals (repeat' first|with_reducible exact Lz.rfl|exact Lw.rfl|exact Lz.wrap (by omega)|(unfold goInt;with_reducible exact Lz.rfl)|exact flx _|constructor)
   exact Lz.of (bool_eq (Eq.symm (decide_eq_false hn)))
end Go.M
namespace Go.M
open Go Go.Proofs
set_option maxRecDepth 100000
set_option maxHeartbeats 2000000
structure CF where
 chain : Int
 epoch : Int
 nodes : List Int
 fresh : Bool
 join : Int
def encCF (c : CF) : List TV := [.s (.int .i64 c.chain), .s (.int .u64 c.epoch), .sl 1 (c.nodes.map encI1) false, .s (.bool c.fresh), .s (.int .i64 c.join)]
theorem indexI_ok (l : List Int) (x : Int) (hl : l.length < 1000000) : VC E0 59 0 [.sl 1 (l.map encI1) false, .s (.int .i64 x)] []
 (fun r o c => ∃ i : Int, r = .s (.int .i64 i) ∧ (0 ≤ i ↔ x ∈ l) ∧ c = 0 ∧ o = []) := by
 refine VC.enterR L0 (show E0.func 59 = some Tryd.f59 by kernel_rfl) (fun _ _ => rfl) rfl rfl [] ?_
 ((conv=>whnf)<;>repeat(with_reducible refine D1 ?_)<;>conv=>whnf)
 refine ⟨fun k f o c => ∃ j : Nat, j ≤ l.length ∧ k = l.length - j ∧ x ∉ l.take j ∧ c = 0 ∧ f = [(0, .sl 1 (l.map encI1) false), (1, .s (.int .i64 x)), (7, .s (.int .i64 l.length)), (8, .s (.int .i64 j))] ∧ o = [], ⟨l.length, ?_⟩, ?_⟩
 ·refine ⟨[], [], ?_⟩
  iterate 3 constructor
  refine ⟨⟨?_, ?_, ?_⟩, ⟨0, Nat.zero_le _, rfl, by simp, rfl, rfl, rfl⟩⟩
  all_goals (repeat' first|with_reducible exact Lz.rfl|exact Lw.rfl|exact Lz.wrap (by omega)|(unfold goInt;with_reducible exact Lz.rfl)|exact flx _|constructor)
  exact Lz.int (by rw [List.length_map])
 ·rintro k f1 o1 c1 ⟨j, hj, rfl, hn, rfl, rfl, rfl⟩
  ((conv=>whnf)<;>repeat(with_reducible refine D1 ?_)<;>conv=>whnf)
  (first|refine ⟨?_,?_⟩|refine nsplit ?_ ?_|refine bsplit ?_ ?_)<;>intro h<;>have hz_:=True.intro<;>clear hz_
  ·have h : j < l.length := by have : (j : Int) < (l.length : Nat) := h
                               omega
   ((conv=>whnf)<;>repeat(with_reducible refine D1 ?_)<;>conv=>whnf)
   refine idxI h ?_
   ((conv=>whnf)<;>repeat(with_reducible refine D1 ?_)<;>conv=>whnf)
   (first|refine ⟨?_,?_⟩|refine nsplit ?_ ?_|refine bsplit ?_ ?_)<;>intro he<;>have hz_:=True.intro<;>clear hz_
   ·have he : x = l[j] := he
    ((conv=>whnf)<;>repeat(with_reducible refine D1 ?_)<;>conv=>whnf)
    exact ⟨[], [], _, _, _, t3, _, rfl, ⟨fun _ => he ▸ List.getElem_mem h, fun _ => Int.natCast_nonneg j⟩, rfl, rfl⟩
   ·have he : ¬ x = l[j] := he
    ((conv=>whnf)<;>repeat(with_reducible refine D1 ?_)<;>conv=>whnf)
    refine ⟨l.length - (j + 1), ?_, by omega⟩
    exact ⟨[], [], _, _, _, t3, ⟨j + 1, h, rfl, (by rw [List.take_succ_eq_append_getElem h]; simp only [List.mem_append, List.mem_singleton, not_or]; exact ⟨hn, he⟩), rfl, rfl, rfl⟩⟩
  ·have hj' : j = l.length := by have : ¬ (j : Int) < (l.length : Nat) := h
                                 omega
   subst hj'
   rw [List.take_length] at hn
   ((conv=>whnf)<;>repeat(with_reducible refine D1 ?_)<;>conv=>whnf)
   exact ⟨[], [], _, _, _, t3, _, rfl, ⟨fun h => absurd h (by decide), fun h => absurd h hn⟩, rfl, rfl⟩
theorem containsI_ok (l : List Int) (x : Int) (hl : l.length < 1000000) : VC E0 40 0 [.sl 1 (l.map encI1) false, .s (.int .i64 x)] [] (RR (.s (.bool (decide (x ∈ l)))) 0 []) := by
 refine VC.enterR L0 (show E0.func 40 = some Tryd.f40 by kernel_rfl) (fun _ _ => rfl) rfl rfl [] ?_
 ((conv=>whnf)<;>repeat(with_reducible refine D1 ?_)<;>conv=>whnf)
 refine ⟨[], [], _, _, _, _, indexI_ok l x hl, t3, ?_⟩
 rintro r o' c' ⟨i, rfl, hi, rfl, rfl⟩
 ((conv=>whnf)<;>repeat(with_reducible refine D1 ?_)<;>conv=>whnf)
 (first|refine ⟨?_,?_⟩|refine nsplit ?_ ?_|refine bsplit ?_ ?_)<;>intro hge<;>have hz_:=True.intro<;>clear hz_
 ·have hge : i ≥ 0 := hge
  ((conv=>whnf)<;>repeat(with_reducible refine D1 ?_)<;>conv=>whnf)
  refine ⟨[], [], ?_⟩
  iterate 3 constructor
  refine ⟨⟨?_, ?_, ?_⟩, rfl, rfl, rfl⟩
  all_goals (repeat' first|with_reducible exact Lz.rfl|exact Lw.rfl|exact Lz.wrap (by omega)|(unfold goInt;with_reducible exact Lz.rfl)|exact flx _|constructor)
  exact Lz.of (bool_eq (Eq.symm (decide_eq_true (hi.1 hge))))
 ·have hge : ¬ i ≥ 0 := hge
  ((conv=>whnf)<;>repeat(with_reducible refine D1 ?_)<;>conv=>whnf)
  refine ⟨[], [], ?_⟩
  iterate 3 constructor
  refine ⟨⟨?_, ?_, ?_⟩, rfl, rfl, rfl⟩
  all_goals (repeat' first|with_reducible exact Lz.rfl|exact Lw.rfl|exact Lz.wrap (by omega)|(unfold goInt;with_reducible exact Lz.rfl)|exact flx _|constructor)
  exact Lz.of (bool_eq (Eq.symm (decide_eq_false (mt hi.2 hge))))
theorem cloneI_ok (l : List Int) (hl : l.length < 1000000) : VC E0 47 0 [.sl 1 (l.map encI1) false] [] (RR (.tk 0) 1 [(0, .arr 1 true (l.map encI1))]) := by
 refine VC.enterR L0 (show E0.func 47 = some Tryd.f47 by kernel_rfl) (fun _ _ => rfl) rfl rfl [] ?_
 ((conv=>whnf)<;>repeat(with_reducible refine D1 ?_)<;>conv=>whnf)
 refine ⟨fun h => ?_, ?_⟩
 ·have h : l = [] := by simpa using h
  subst h
  ((conv=>whnf)<;>repeat(with_reducible refine D1 ?_)<;>conv=>whnf)
  exact ⟨[], [none], _, _, _, t3, rfl, rfl, rfl⟩
 ·((conv=>whnf)<;>repeat(with_reducible refine D1 ?_)<;>conv=>whnf)
  refine ⟨by simp; omega, ?_⟩
  ((conv=>whnf)<;>repeat(with_reducible refine D1 ?_)<;>conv=>whnf)
  exact ⟨[], [some 1], _, _, _, t3, rfl, rfl, rfl⟩
def nodeB (n : Int) : Bool := decide (1 ≤ n ∧ n ≤ 24)
theorem node_ok (n : Int) : VC E0 57 0 [.s (.int .i64 n)] [] (RR (.s (.bool (nodeB n))) 0 []) := by
 refine VC.enterR L0 (show E0.func 57 = some Tryd.f57 by kernel_rfl) (fun _ _ => rfl) rfl rfl [] ?_
 ((conv=>whnf)<;>repeat(with_reducible refine D1 ?_)<;>conv=>whnf)
 (first|refine ⟨?_,?_⟩|refine nsplit ?_ ?_|refine bsplit ?_ ?_)<;>intro h1<;>have hz_:=True.intro<;>clear hz_
 ·have h1 : n ≥ 1 := h1
  ((conv=>whnf)<;>repeat(with_reducible refine D1 ?_)<;>conv=>whnf)
  (first|refine ⟨?_,?_⟩|refine nsplit ?_ ?_|refine bsplit ?_ ?_)<;>intro h2<;>have hz_:=True.intro<;>clear hz_
  ·have h2 : n ≤ 24 := h2
   ((conv=>whnf)<;>repeat(with_reducible refine D1 ?_)<;>conv=>whnf)
   refine ⟨[], [], ?_⟩
   iterate 3 constructor
   refine ⟨⟨?_, ?_, ?_⟩, rfl, rfl, rfl⟩
   all_goals (repeat' first|with_reducible exact Lz.rfl|exact Lw.rfl|exact Lz.wrap (by omega)|(unfold goInt;with_reducible exact Lz.rfl)|exact flx _|constructor)
   exact Lz.of (bool_eq (Eq.symm (decide_eq_true ⟨h1, h2⟩)))
  ·have h2 : ¬ n ≤ 24 := h2
   ((conv=>whnf)<;>repeat(with_reducible refine D1 ?_)<;>conv=>whnf)
   refine ⟨[], [], ?_⟩
   iterate 3 constructor
   refine ⟨⟨?_, ?_, ?_⟩, rfl, rfl, rfl⟩
   all_goals (repeat' first|with_reducible exact Lz.rfl|exact Lw.rfl|exact Lz.wrap (by omega)|(unfold goInt;with_reducible exact Lz.rfl)|exact flx _|constructor)
   exact Lz.of (bool_eq (Eq.symm (decide_eq_false fun h => h2 h.2)))
 ·have h1 : ¬ n ≥ 1 := h1
  ((conv=>whnf)<;>repeat(with_reducible refine D1 ?_)<;>conv=>whnf)
  refine ⟨[], [], ?_⟩
  iterate 3 constructor
  refine ⟨⟨?_, ?_, ?_⟩, rfl, rfl, rfl⟩
  all_goals (repeat' first|with_reducible exact Lz.rfl|exact Lw.rfl|exact Lz.wrap (by omega)|(unfold goInt;with_reducible exact Lz.rfl)|exact flx _|constructor)
  exact Lz.of (bool_eq (Eq.symm (decide_eq_false fun h => h1 h.1)))
def unlikeP (l : List Int) : Prop := l.Nodup ∧ ∀ n ∈ l, 1 ≤ n ∧ n ≤ 24
instance (l : List Int) : Decidable (unlikeP l) := inferInstanceAs (Decidable (_ ∧ _))
theorem unlike_snoc (l : List Int) (n : Int) : unlikeP (l ++ [n]) ↔ unlikeP l ∧ (1 ≤ n ∧ n ≤ 24) ∧ n ∉ l := by
 unfold unlikeP
 rw [List.nodup_append]
 constructor
 ·rintro ⟨⟨h1, _, h2⟩, h3⟩
  exact ⟨⟨h1, fun m hm => h3 m (List.mem_append_left _ hm)⟩, h3 n (by simp), fun hm => h2 n hm n (by simp) rfl⟩
 ·rintro ⟨⟨h1, h2⟩, h3, h4⟩
  refine ⟨⟨h1, by simp, fun a ha b hb => ?_⟩, fun m hm => ?_⟩
  ·simp at hb; subst hb; rintro rfl; exact h4 ha
  ·rcases List.mem_append.1 hm with q | q
   ·exact h2 m q
   ·simp at q; subst q; exact h3
theorem unlike_take {l : List Int} {i : Nat} (h : unlikeP l) : unlikeP (l.take i) := ⟨(List.take_sublist i l).nodup h.1, fun n hn => h.2 n (List.mem_of_mem_take hn)⟩
theorem unlikeC (l : List Int) (hl : l.length < 1000000) : VC E0 33 0 [.sl 1 (l.map encI1) false] [] (RR (.s (.bool (decide (unlikeP l)))) 0 []) := by
 refine VC.enterR L0 (show E0.func 33 = some Tryd.f33 by kernel_rfl) (fun _ _ => rfl) rfl rfl [] ?_
 ((conv=>whnf)<;>repeat(with_reducible refine D1 ?_)<;>conv=>whnf)
 refine ⟨fun k f o c => ∃ j : Nat, j ≤ l.length ∧ k = l.length - j ∧ unlikeP (l.take j) ∧ c = 0 ∧ f = [(0, .sl 1 (l.map encI1) false), (5, .sl 1 (l.map encI1) false), (6, .s (.int .i64 l.length)), (7, .s (.int .i64 j))] ∧ o = [], ⟨l.length, ?_⟩, ?_⟩
 ·refine ⟨[], [], ?_⟩
  iterate 3 constructor
  refine ⟨⟨?_, ?_, ?_⟩, ⟨0, Nat.zero_le _, rfl, ⟨by simp, by simp⟩, rfl, rfl, rfl⟩⟩
  all_goals (repeat' first|with_reducible exact Lz.rfl|exact Lw.rfl|exact Lz.wrap (by omega)|(unfold goInt;with_reducible exact Lz.rfl)|exact flx _|constructor)
  exact Lz.int (by rw [List.length_map])
 ·rintro k f1 o1 c1 ⟨j, hj, rfl, hn, rfl, rfl, rfl⟩
  ((conv=>whnf)<;>repeat(with_reducible refine D1 ?_)<;>conv=>whnf)
  (first|refine ⟨?_,?_⟩|refine nsplit ?_ ?_|refine bsplit ?_ ?_)<;>intro h<;>have hz_:=True.intro<;>clear hz_
  ·have h : j < l.length := by have : (j : Int) < (l.length : Nat) := h
                               omega
   ((conv=>whnf)<;>repeat(with_reducible refine D1 ?_)<;>conv=>whnf)
   refine idxI h ?_
   ((conv=>whnf)<;>repeat(with_reducible refine D1 ?_)<;>conv=>whnf)
   have hs := unlike_snoc (l.take j) l[j]
   rw [← List.take_succ_eq_append_getElem h] at hs
   refine ⟨[], [], _, _, _, _, node_ok l[j], t3, ?_⟩
   rintro r o' c' ⟨rfl, rfl, rfl⟩
   have hz_ := True.intro
   clear hz_
   cases hb : nodeB l[j]
   ·have hb : ¬ (1 ≤ l[j] ∧ l[j] ≤ 24) := of_decide_eq_false hb
    ((conv=>whnf)<;>repeat(with_reducible refine D1 ?_)<;>conv=>whnf)
    refine ⟨[], [], ?_⟩
    iterate 3 constructor
    refine ⟨⟨?_, ?_, ?_⟩, rfl, rfl, rfl⟩
    all_goals (repeat' first|with_reducible exact Lz.rfl|exact Lw.rfl|exact Lz.wrap (by omega)|(unfold goInt;with_reducible exact Lz.rfl)|exact flx _|constructor)
    exact Lz.of (bool_eq (Eq.symm (decide_eq_false fun q => hb (hs.1 (unlike_take q)).2.1)))
   ·have hb : 1 ≤ l[j] ∧ l[j] ≤ 24 := of_decide_eq_true hb
    ((conv=>whnf)<;>repeat(with_reducible refine D1 ?_)<;>conv=>whnf)
    refine ⟨⟨by omega, by omega, by simp; omega⟩, ?_⟩
    ((conv=>whnf)<;>repeat(with_reducible refine D1 ?_)<;>conv=>whnf)
    refine ⟨[], [], _, _, _, _, containsI_ok (l.take j) l[j] (by simp; omega), ⟨by ((repeat' first|with_reducible exact Lz.rfl|exact Lw.rfl|exact Lz.wrap (by omega)|(unfold goInt;with_reducible exact Lz.rfl)|exact flx _|constructor); all_goals (exact Lz.of (by simp [List.map_take]))), by ((repeat' first|with_reducible exact Lz.rfl|exact Lw.rfl|exact Lz.wrap (by omega)|(unfold goInt;with_reducible exact Lz.rfl)|exact flx _|constructor); all_goals (exact Lz.of (by simp [List.map_take]))), by rfl⟩, ?_⟩
    rintro r o' c' ⟨rfl, rfl, rfl⟩
    ((conv=>whnf)<;>repeat(with_reducible refine D1 ?_)<;>conv=>whnf)
    by_cases hm : l[j] ∈ l.take j
    ·rw [decide_eq_true hm]
     ((conv=>whnf)<;>repeat(with_reducible refine D1 ?_)<;>conv=>whnf)
     refine ⟨[], [], ?_⟩
     iterate 3 constructor
     refine ⟨⟨?_, ?_, ?_⟩, rfl, rfl, rfl⟩
     all_goals (repeat' first|with_reducible exact Lz.rfl|exact Lw.rfl|exact Lz.wrap (by omega)|(unfold goInt;with_reducible exact Lz.rfl)|exact flx _|constructor)
     exact Lz.of (bool_eq (Eq.symm (decide_eq_false fun q => (hs.1 (unlike_take q)).2.2 hm)))
    ·rw [decide_eq_false hm]
     ((conv=>whnf)<;>repeat(with_reducible refine D1 ?_)<;>conv=>whnf)
     refine ⟨l.length - (j + 1), ?_, by omega⟩
     exact ⟨[], [], _, _, _, t3, ⟨j + 1, h, rfl, hs.2 ⟨hn, hb, hm⟩, rfl, rfl, rfl⟩⟩
  ·have hj' : j = l.length := by have : ¬ (j : Int) < (l.length : Nat) := h
                                 omega
   subst hj'
   rw [List.take_length] at hn
   ((conv=>whnf)<;>repeat(with_reducible refine D1 ?_)<;>conv=>whnf)
   refine ⟨[], [], ?_⟩
   iterate 3 constructor
   refine ⟨⟨?_, ?_, ?_⟩, rfl, rfl, rfl⟩
   all_goals (repeat' first|with_reducible exact Lz.rfl|exact Lw.rfl|exact Lz.wrap (by omega)|(unfold goInt;with_reducible exact Lz.rfl)|exact flx _|constructor)
   exact Lz.of (bool_eq (Eq.symm (decide_eq_true hn)))
end Go.M
namespace Go.M
open Go Go.Proofs
set_option maxRecDepth 100000
set_option maxHeartbeats 2000000
def standL (c : CF) : List Int := c.nodes ++ (if c.join = 0 then [] else [c.join])
theorem standL_len (c : CF) : (standL c).length ≤ c.nodes.length + 1 := by unfold standL; split <;> simp
theorem everybodyC (c : CF) (hl : c.nodes.length < 100000) : VC E0 34 0 [.agg (encCF c)] [] (RR (.tk 0) 1 [(0, .arr 1 true ((standL c).map encI1))]) := by
 refine VC.enterR L0 (show E0.func 34 = some Tryd.f34 by kernel_rfl) (fun _ _ => rfl) rfl rfl [] ?_
 ((conv=>whnf)<;>repeat(with_reducible refine D1 ?_)<;>conv=>whnf)
 (first|refine ⟨?_,?_⟩|refine nsplit ?_ ?_|refine bsplit ?_ ?_)<;>intro hj<;>have hz_:=True.intro<;>clear hz_
 ·have hj : c.join = 0 := hj
  ((conv=>whnf)<;>repeat(with_reducible refine D1 ?_)<;>conv=>whnf)
  refine ⟨[], [], _, _, _, _, cloneI_ok c.nodes (by omega), t3, ?_⟩
  rintro r o' c' ⟨rfl, rfl, rfl⟩
  ((conv=>whnf)<;>repeat(with_reducible refine D1 ?_)<;>conv=>whnf)
  refine ⟨[], [some 1], ?_⟩
  iterate 3 constructor
  refine ⟨⟨?_, ?_, ?_⟩, rfl, rfl, rfl⟩
  all_goals (repeat' first|with_reducible exact Lz.rfl|exact Lw.rfl|exact Lz.wrap (by omega)|(unfold goInt;with_reducible exact Lz.rfl)|exact flx _|constructor)
  exact Lz.of (by unfold standL; simp [hj])
 ·have hj : ¬ c.join = 0 := hj
  ((conv=>whnf)<;>repeat(with_reducible refine D1 ?_)<;>conv=>whnf)
  refine ⟨[], [], _, _, _, _, cloneI_ok c.nodes (by omega), t3, ?_⟩
  rintro r o' c' ⟨rfl, rfl, rfl⟩
  ((conv=>whnf)<;>repeat(with_reducible refine D1 ?_)<;>conv=>whnf)
  refine ⟨by simp; omega, ?_⟩
  ((conv=>whnf)<;>repeat(with_reducible refine D1 ?_)<;>conv=>whnf)
  refine ⟨[], [some 3], ?_⟩
  iterate 3 constructor
  refine ⟨⟨?_, ?_, ?_⟩, rfl, rfl, rfl⟩
  all_goals (repeat' first|with_reducible exact Lz.rfl|exact Lw.rfl|exact Lz.wrap (by omega)|(unfold goInt;with_reducible exact Lz.rfl)|exact flx _|constructor)
  exact Lz.of (by unfold standL; simp [hj])
theorem refUnlikeC (l : List Int) (hl : l.length < 1000000) : VC E0 35 0 [.sl 1 (l.map encI1) false] [] (RR (.s (.bool (decide (unlikeP l)))) 0 []) := by
 refine VC.enterR L0 (show E0.func 35 = some Tryd.f35 by kernel_rfl) (fun _ _ => rfl) rfl rfl [] ?_
 ((conv=>whnf)<;>repeat(with_reducible refine D1 ?_)<;>conv=>whnf)
 refine ⟨fun k f o c => ∃ j : Nat, j ≤ l.length ∧ k = l.length - j ∧ unlikeP (l.take j) ∧ c = 0 ∧ f = [(0, .sl 1 (l.map encI1) false), (3, .s (.int .i64 j))] ∧ o = [], ⟨l.length, ?_⟩, ?_⟩
 ·exact ⟨[], [], _, _, _, t3, ⟨0, Nat.zero_le _, rfl, ⟨by simp, by simp⟩, rfl, rfl, rfl⟩⟩
 ·rintro k f1 o1 c1 ⟨j, hj, rfl, hn, rfl, rfl, rfl⟩
  ((conv=>whnf)<;>repeat(with_reducible refine D1 ?_)<;>conv=>whnf)
  (first|refine ⟨?_,?_⟩|refine nsplit ?_ ?_|refine bsplit ?_ ?_)<;>intro h<;>have hz_:=True.intro<;>clear hz_
  ·have h : j < l.length := lenlt.1 h
   have hs := unlike_snoc (l.take j) l[j]
   rw [← List.take_succ_eq_append_getElem h] at hs
   ((conv=>whnf)<;>repeat(with_reducible refine D1 ?_)<;>conv=>whnf)
   refine idxI h ?_
   ((conv=>whnf)<;>repeat(with_reducible refine D1 ?_)<;>conv=>whnf)
   (first|refine ⟨?_,?_⟩|refine nsplit ?_ ?_|refine bsplit ?_ ?_)<;>intro h1<;>have hz_:=True.intro<;>clear hz_
   ·have h1 : l[j] < 1 := h1
    ((conv=>whnf)<;>repeat(with_reducible refine D1 ?_)<;>conv=>whnf)
    refine ⟨[], [], ?_⟩
    iterate 3 constructor
    refine ⟨⟨?_, ?_, ?_⟩, rfl, rfl, rfl⟩
    all_goals (repeat' first|with_reducible exact Lz.rfl|exact Lw.rfl|exact Lz.wrap (by omega)|(unfold goInt;with_reducible exact Lz.rfl)|exact flx _|constructor)
    exact Lz.of (bool_eq (Eq.symm (decide_eq_false fun q => by have := (hs.1 (unlike_take q)).2.1; omega)))
   ·have h1 : ¬ l[j] < 1 := h1
    ((conv=>whnf)<;>repeat(with_reducible refine D1 ?_)<;>conv=>whnf)
    refine idxI h ?_
    ((conv=>whnf)<;>repeat(with_reducible refine D1 ?_)<;>conv=>whnf)
    (first|refine ⟨?_,?_⟩|refine nsplit ?_ ?_|refine bsplit ?_ ?_)<;>intro h2<;>have hz_:=True.intro<;>clear hz_
    ·have h2 : l[j] > 24 := h2
     ((conv=>whnf)<;>repeat(with_reducible refine D1 ?_)<;>conv=>whnf)
     refine ⟨[], [], ?_⟩
     iterate 3 constructor
     refine ⟨⟨?_, ?_, ?_⟩, rfl, rfl, rfl⟩
     all_goals (repeat' first|with_reducible exact Lz.rfl|exact Lw.rfl|exact Lz.wrap (by omega)|(unfold goInt;with_reducible exact Lz.rfl)|exact flx _|constructor)
     exact Lz.of (bool_eq (Eq.symm (decide_eq_false fun q => by have := (hs.1 (unlike_take q)).2.1; omega)))
    ·have h2 : ¬ l[j] > 24 := h2
     ((conv=>whnf)<;>repeat(with_reducible refine D1 ?_)<;>conv=>whnf)
     refine ⟨⟨by omega, by omega, by simp; omega⟩, ?_⟩
     ((conv=>whnf)<;>repeat(with_reducible refine D1 ?_)<;>conv=>whnf)
     refine idxI h ?_
     ((conv=>whnf)<;>repeat(with_reducible refine D1 ?_)<;>conv=>whnf)
     refine ⟨[], [], _, _, _, _, has04_ok (l.take j) l[j] (by simp; omega), ⟨by ((repeat' first|with_reducible exact Lz.rfl|exact Lw.rfl|exact Lz.wrap (by omega)|(unfold goInt;with_reducible exact Lz.rfl)|exact flx _|constructor); all_goals (exact Lz.of (by simp [List.map_take]))), by ((repeat' first|with_reducible exact Lz.rfl|exact Lw.rfl|exact Lz.wrap (by omega)|(unfold goInt;with_reducible exact Lz.rfl)|exact flx _|constructor); all_goals (exact Lz.of (by simp [List.map_take]))), by rfl⟩, ?_⟩
     rintro r o' c' ⟨rfl, rfl, rfl⟩
     ((conv=>whnf)<;>repeat(with_reducible refine D1 ?_)<;>conv=>whnf)
     by_cases hm : l[j] ∈ l.take j
     ·rw [decide_eq_true hm]
      ((conv=>whnf)<;>repeat(with_reducible refine D1 ?_)<;>conv=>whnf)
      refine ⟨[], [], ?_⟩
      iterate 3 constructor
      refine ⟨⟨?_, ?_, ?_⟩, rfl, rfl, rfl⟩
      all_goals (repeat' first|with_reducible exact Lz.rfl|exact Lw.rfl|exact Lz.wrap (by omega)|(unfold goInt;with_reducible exact Lz.rfl)|exact flx _|constructor)
      exact Lz.of (bool_eq (Eq.symm (decide_eq_false fun q => (hs.1 (unlike_take q)).2.2 hm)))
     ·rw [decide_eq_false hm]
      ((conv=>whnf)<;>repeat(with_reducible refine D1 ?_)<;>conv=>whnf)
      refine ⟨l.length - (j + 1), ?_, by omega⟩
      exact ⟨[], [], _, _, _, t3, ⟨j + 1, h, rfl, hs.2 ⟨hn, by omega, hm⟩, rfl, rfl, rfl⟩⟩
  ·have hj' : j = l.length := by have := mt lenlt.2 h
                                 omega
   subst hj'
   rw [List.take_length] at hn
   ((conv=>whnf)<;>repeat(with_reducible refine D1 ?_)<;>conv=>whnf)
   refine ⟨[], [], ?_⟩
   iterate 3 constructor
   refine ⟨⟨?_, ?_, ?_⟩, rfl, rfl, rfl⟩
   all_goals (repeat' first|with_reducible exact Lz.rfl|exact Lw.rfl|exact Lz.wrap (by omega)|(unfold goInt;with_reducible exact Lz.rfl)|exact flx _|constructor)
   exact Lz.of (bool_eq (Eq.symm (decide_eq_true hn)))
theorem standsC (c : CF) (hl : c.nodes.length < 100000) : VC E0 36 0 [.agg (encCF c)] [] (RR (.tk 0) 1 [(0, .arr 1 true ((standL c).map encI1))]) := by
 refine VC.enterR L0 (show E0.func 36 = some Tryd.f36 by kernel_rfl) (fun _ _ => rfl) rfl rfl [] ?_
 ((conv=>whnf)<;>repeat(with_reducible refine D1 ?_)<;>conv=>whnf)
 refine ⟨by simp; omega, ?_⟩
 ((conv=>whnf)<;>repeat(with_reducible refine D1 ?_)<;>conv=>whnf)
 (first|refine ⟨?_,?_⟩|refine nsplit ?_ ?_|refine bsplit ?_ ?_)<;>intro hj<;>have hz_:=True.intro<;>clear hz_
 ·have hj : ¬ c.join = 0 := hj
  ((conv=>whnf)<;>repeat(with_reducible refine D1 ?_)<;>conv=>whnf)
  refine ⟨by simp; omega, ?_⟩
  ((conv=>whnf)<;>repeat(with_reducible refine D1 ?_)<;>conv=>whnf)
  refine ⟨[], [some 3], ?_⟩
  iterate 3 constructor
  refine ⟨⟨?_, ?_, ?_⟩, rfl, rfl, rfl⟩
  all_goals (repeat' first|with_reducible exact Lz.rfl|exact Lw.rfl|exact Lz.wrap (by omega)|(unfold goInt;with_reducible exact Lz.rfl)|exact flx _|constructor)
  exact Lz.of (by unfold standL; simp [hj])
 ·have hj : c.join = 0 := Classical.not_not.1 hj
  ((conv=>whnf)<;>repeat(with_reducible refine D1 ?_)<;>conv=>whnf)
  refine ⟨[], [some 1], ?_⟩
  iterate 3 constructor
  refine ⟨⟨?_, ?_, ?_⟩, rfl, rfl, rfl⟩
  all_goals (repeat' first|with_reducible exact Lz.rfl|exact Lw.rfl|exact Lz.wrap (by omega)|(unfold goInt;with_reducible exact Lz.rfl)|exact flx _|constructor)
  exact Lz.of (by unfold standL; simp [hj])
def rightP (c : CF) : Prop := (0 ≤ c.chain ∧ c.chain < 4) ∧ 1 ≤ c.epoch ∧ (1 ≤ c.nodes.length ∧ c.nodes.length ≤ 5) ∧ (c.fresh = true → 2 ≤ c.nodes.length ∧ c.join = 0) ∧ unlikeP (standL c)
instance (c : CF) : Decidable (rightP c) := inferInstanceAs (Decidable (_ ∧ _))
theorem right_ok (c : CF) : VC E0 13 0 [.agg (encCF c)] [] (RR (.s (.bool (decide (rightP c)))) 0 []) := by
 have hsl := standL_len c
 refine VC.enterR L0 (show E0.func 13 = some Tryd.f13 by kernel_rfl) (fun _ _ => rfl) rfl rfl [] ?_
 ((conv=>whnf)<;>repeat(with_reducible refine D1 ?_)<;>conv=>whnf)
 (first|refine ⟨?_,?_⟩|refine nsplit ?_ ?_|refine bsplit ?_ ?_)<;>intro h1<;>have hz_:=True.intro<;>clear hz_
 ·have h1 : c.chain < 0 := h1
  ((conv=>whnf)<;>repeat(with_reducible refine D1 ?_)<;>conv=>whnf)
  refine ⟨[], [], ?_⟩
  iterate 3 constructor
  refine ⟨⟨?_, ?_, ?_⟩, rfl, rfl, rfl⟩
  all_goals (repeat' first|with_reducible exact Lz.rfl|exact Lw.rfl|exact Lz.wrap (by omega)|(unfold goInt;with_reducible exact Lz.rfl)|exact flx _|constructor)
  exact Lz.of (bool_eq (Eq.symm (decide_eq_false fun q => by obtain ⟨⟨_, _⟩, _, ⟨_, _⟩, _, _⟩ := q; omega)))
 have h1 : ¬ c.chain < 0 := h1
 ((conv=>whnf)<;>repeat(with_reducible refine D1 ?_)<;>conv=>whnf)
 (first|refine ⟨?_,?_⟩|refine nsplit ?_ ?_|refine bsplit ?_ ?_)<;>intro h2<;>have hz_:=True.intro<;>clear hz_
 ·have h2 : c.chain ≥ 4 := h2
  ((conv=>whnf)<;>repeat(with_reducible refine D1 ?_)<;>conv=>whnf)
  refine ⟨[], [], ?_⟩
  iterate 3 constructor
  refine ⟨⟨?_, ?_, ?_⟩, rfl, rfl, rfl⟩
  all_goals (repeat' first|with_reducible exact Lz.rfl|exact Lw.rfl|exact Lz.wrap (by omega)|(unfold goInt;with_reducible exact Lz.rfl)|exact flx _|constructor)
  exact Lz.of (bool_eq (Eq.symm (decide_eq_false fun q => by obtain ⟨⟨_, _⟩, _, ⟨_, _⟩, _, _⟩ := q; omega)))
 have h2 : ¬ c.chain ≥ 4 := h2
 ((conv=>whnf)<;>repeat(with_reducible refine D1 ?_)<;>conv=>whnf)
 (first|refine ⟨?_,?_⟩|refine nsplit ?_ ?_|refine bsplit ?_ ?_)<;>intro h3<;>have hz_:=True.intro<;>clear hz_
 ·have h3 : c.epoch < 1 := h3
  ((conv=>whnf)<;>repeat(with_reducible refine D1 ?_)<;>conv=>whnf)
  refine ⟨[], [], ?_⟩
  iterate 3 constructor
  refine ⟨⟨?_, ?_, ?_⟩, rfl, rfl, rfl⟩
  all_goals (repeat' first|with_reducible exact Lz.rfl|exact Lw.rfl|exact Lz.wrap (by omega)|(unfold goInt;with_reducible exact Lz.rfl)|exact flx _|constructor)
  exact Lz.of (bool_eq (Eq.symm (decide_eq_false fun q => by obtain ⟨⟨_, _⟩, _, ⟨_, _⟩, _, _⟩ := q; omega)))
 have h3 : ¬ c.epoch < 1 := h3
 ((conv=>whnf)<;>repeat(with_reducible refine D1 ?_)<;>conv=>whnf)
 (first|refine ⟨?_,?_⟩|refine nsplit ?_ ?_|refine bsplit ?_ ?_)<;>intro h4<;>have hz_:=True.intro<;>clear hz_
 ·have h4 : (((c.nodes.map encI1).length : Nat) : Int) < 1 := h4
  rw [List.length_map] at h4
  ((conv=>whnf)<;>repeat(with_reducible refine D1 ?_)<;>conv=>whnf)
  refine ⟨[], [], ?_⟩
  iterate 3 constructor
  refine ⟨⟨?_, ?_, ?_⟩, rfl, rfl, rfl⟩
  all_goals (repeat' first|with_reducible exact Lz.rfl|exact Lw.rfl|exact Lz.wrap (by omega)|(unfold goInt;with_reducible exact Lz.rfl)|exact flx _|constructor)
  exact Lz.of (bool_eq (Eq.symm (decide_eq_false fun q => by obtain ⟨⟨_, _⟩, _, ⟨_, _⟩, _, _⟩ := q; omega)))
 have h4 : ¬ (((c.nodes.map encI1).length : Nat) : Int) < 1 := h4
 rw [List.length_map] at h4
 ((conv=>whnf)<;>repeat(with_reducible refine D1 ?_)<;>conv=>whnf)
 (first|refine ⟨?_,?_⟩|refine nsplit ?_ ?_|refine bsplit ?_ ?_)<;>intro h5<;>have hz_:=True.intro<;>clear hz_
 ·have h5 : (((c.nodes.map encI1).length : Nat) : Int) > 5 := h5
  rw [List.length_map] at h5
  ((conv=>whnf)<;>repeat(with_reducible refine D1 ?_)<;>conv=>whnf)
  refine ⟨[], [], ?_⟩
  iterate 3 constructor
  refine ⟨⟨?_, ?_, ?_⟩, rfl, rfl, rfl⟩
  all_goals (repeat' first|with_reducible exact Lz.rfl|exact Lw.rfl|exact Lz.wrap (by omega)|(unfold goInt;with_reducible exact Lz.rfl)|exact flx _|constructor)
  exact Lz.of (bool_eq (Eq.symm (decide_eq_false fun q => by obtain ⟨⟨_, _⟩, _, ⟨_, _⟩, _, _⟩ := q; omega)))
 have h5 : ¬ (((c.nodes.map encI1).length : Nat) : Int) > 5 := h5
 rw [List.length_map] at h5
 ((conv=>whnf)<;>repeat(with_reducible refine D1 ?_)<;>conv=>whnf)
 cases hf : c.fresh
 ·((conv=>whnf)<;>repeat(with_reducible refine D1 ?_)<;>conv=>whnf)
  refine ⟨[], [], _, _, _, _, everybodyC c (by omega), ⟨by ((repeat' first|with_reducible exact Lz.rfl|exact Lw.rfl|exact Lz.wrap (by omega)|(unfold goInt;with_reducible exact Lz.rfl)|exact flx _|constructor); all_goals (exact Lz.of (bool_eq hf.symm))), by ((repeat' first|with_reducible exact Lz.rfl|exact Lw.rfl|exact Lz.wrap (by omega)|(unfold goInt;with_reducible exact Lz.rfl)|exact flx _|constructor); all_goals (exact Lz.of (bool_eq hf.symm))), by rfl⟩, ?_⟩
  rintro r o' c' ⟨rfl, rfl, rfl⟩
  ((conv=>whnf)<;>repeat(with_reducible refine D1 ?_)<;>conv=>whnf)
  refine ⟨[1], [], _, _, _, _, unlikeC (standL c) (by omega), t3, ?_⟩
  rintro r o' c' ⟨rfl, rfl, rfl⟩
  ((conv=>whnf)<;>repeat(with_reducible refine D1 ?_)<;>conv=>whnf)
  refine ⟨[], [], ?_⟩
  iterate 3 constructor
  refine ⟨⟨?_, ?_, ?_⟩, rfl, rfl, rfl⟩
  all_goals (repeat' first|with_reducible exact Lz.rfl|exact Lw.rfl|exact Lz.wrap (by omega)|(unfold goInt;with_reducible exact Lz.rfl)|exact flx _|constructor)
  exact Lz.of (bool_eq (decide_eq_decide.2 ⟨fun q => ⟨⟨by omega, by omega⟩, by omega, ⟨by omega, by omega⟩, (fun e => absurd (hf.symm.trans e) (by decide)), q⟩, fun q => q.2.2.2.2⟩))
 ·((conv=>whnf)<;>repeat(with_reducible refine D1 ?_)<;>conv=>whnf)
  (first|refine ⟨?_,?_⟩|refine nsplit ?_ ?_|refine bsplit ?_ ?_)<;>intro h6<;>have hz_:=True.intro<;>clear hz_
  ·have h6 : (((c.nodes.map encI1).length : Nat) : Int) < 2 := h6
   rw [List.length_map] at h6
   ((conv=>whnf)<;>repeat(with_reducible refine D1 ?_)<;>conv=>whnf)
   refine ⟨[], [], ?_⟩
   iterate 3 constructor
   refine ⟨⟨?_, ?_, ?_⟩, rfl, rfl, rfl⟩
   all_goals (repeat' first|with_reducible exact Lz.rfl|exact Lw.rfl|exact Lz.wrap (by omega)|(unfold goInt;with_reducible exact Lz.rfl)|exact flx _|constructor)
   exact Lz.of (bool_eq (Eq.symm (decide_eq_false fun q => by have := q.2.2.2.1 hf; omega)))
  have h6 : ¬ (((c.nodes.map encI1).length : Nat) : Int) < 2 := h6
  rw [List.length_map] at h6
  ((conv=>whnf)<;>repeat(with_reducible refine D1 ?_)<;>conv=>whnf)
  (first|refine ⟨?_,?_⟩|refine nsplit ?_ ?_|refine bsplit ?_ ?_)<;>intro h7<;>have hz_:=True.intro<;>clear hz_
  ·have h7 : c.join ≠ 0 := h7
   ((conv=>whnf)<;>repeat(with_reducible refine D1 ?_)<;>conv=>whnf)
   refine ⟨[], [], ?_⟩
   iterate 3 constructor
   refine ⟨⟨?_, ?_, ?_⟩, rfl, rfl, rfl⟩
   all_goals (repeat' first|with_reducible exact Lz.rfl|exact Lw.rfl|exact Lz.wrap (by omega)|(unfold goInt;with_reducible exact Lz.rfl)|exact flx _|constructor)
   exact Lz.of (bool_eq (Eq.symm (decide_eq_false fun q => by have := q.2.2.2.1 hf; omega)))
  have h7 : c.join = 0 := Classical.not_not.1 h7
  ((conv=>whnf)<;>repeat(with_reducible refine D1 ?_)<;>conv=>whnf)
  refine ⟨[], [], _, _, _, _, everybodyC c (by omega), ⟨by ((repeat' first|with_reducible exact Lz.rfl|exact Lw.rfl|exact Lz.wrap (by omega)|(unfold goInt;with_reducible exact Lz.rfl)|exact flx _|constructor); all_goals (exact Lz.of (bool_eq hf.symm))), by ((repeat' first|with_reducible exact Lz.rfl|exact Lw.rfl|exact Lz.wrap (by omega)|(unfold goInt;with_reducible exact Lz.rfl)|exact flx _|constructor); all_goals (exact Lz.of (bool_eq hf.symm))), by rfl⟩, ?_⟩
  rintro r o' c' ⟨rfl, rfl, rfl⟩
  ((conv=>whnf)<;>repeat(with_reducible refine D1 ?_)<;>conv=>whnf)
  refine ⟨[1], [], _, _, _, _, unlikeC (standL c) (by omega), t3, ?_⟩
  rintro r o' c' ⟨rfl, rfl, rfl⟩
  ((conv=>whnf)<;>repeat(with_reducible refine D1 ?_)<;>conv=>whnf)
  refine ⟨[], [], ?_⟩
  iterate 3 constructor
  refine ⟨⟨?_, ?_, ?_⟩, rfl, rfl, rfl⟩
  all_goals (repeat' first|with_reducible exact Lz.rfl|exact Lw.rfl|exact Lz.wrap (by omega)|(unfold goInt;with_reducible exact Lz.rfl)|exact flx _|constructor)
  exact Lz.of (bool_eq (decide_eq_decide.2 ⟨fun q => ⟨⟨by omega, by omega⟩, by omega, ⟨by omega, by omega⟩, (fun e => ⟨by omega, h7⟩), q⟩, fun q => q.2.2.2.2⟩))
theorem refRight_ok (c : CF) (he : 0 ≤ c.epoch) : VC E0 14 0 [.agg (encCF c)] [] (RR (.s (.bool (decide (rightP c)))) 0 []) := by
 have hsl := standL_len c
 refine VC.enterR L0 (show E0.func 14 = some Tryd.f14 by kernel_rfl) (fun _ _ => rfl) rfl rfl [] ?_
 ((conv=>whnf)<;>repeat(with_reducible refine D1 ?_)<;>conv=>whnf)
 (first|refine ⟨?_,?_⟩|refine nsplit ?_ ?_|refine bsplit ?_ ?_)<;>intro h1<;>have hz_:=True.intro<;>clear hz_
 ·have h1 : c.chain < 0 := h1
  ((conv=>whnf)<;>repeat(with_reducible refine D1 ?_)<;>conv=>whnf)
  refine ⟨[], [], ?_⟩
  iterate 3 constructor
  refine ⟨⟨?_, ?_, ?_⟩, rfl, rfl, rfl⟩
  all_goals (repeat' first|with_reducible exact Lz.rfl|exact Lw.rfl|exact Lz.wrap (by omega)|(unfold goInt;with_reducible exact Lz.rfl)|exact flx _|constructor)
  exact Lz.of (bool_eq (Eq.symm (decide_eq_false fun q => by obtain ⟨⟨_, _⟩, _, ⟨_, _⟩, _, _⟩ := q; omega)))
 have h1 : ¬ c.chain < 0 := h1
 ((conv=>whnf)<;>repeat(with_reducible refine D1 ?_)<;>conv=>whnf)
 (first|refine ⟨?_,?_⟩|refine nsplit ?_ ?_|refine bsplit ?_ ?_)<;>intro h2<;>have hz_:=True.intro<;>clear hz_
 ·have h2 : c.chain > 3 := h2
  ((conv=>whnf)<;>repeat(with_reducible refine D1 ?_)<;>conv=>whnf)
  refine ⟨[], [], ?_⟩
  iterate 3 constructor
  refine ⟨⟨?_, ?_, ?_⟩, rfl, rfl, rfl⟩
  all_goals (repeat' first|with_reducible exact Lz.rfl|exact Lw.rfl|exact Lz.wrap (by omega)|(unfold goInt;with_reducible exact Lz.rfl)|exact flx _|constructor)
  exact Lz.of (bool_eq (Eq.symm (decide_eq_false fun q => by obtain ⟨⟨_, _⟩, _, ⟨_, _⟩, _, _⟩ := q; omega)))
 have h2 : ¬ c.chain > 3 := h2
 ((conv=>whnf)<;>repeat(with_reducible refine D1 ?_)<;>conv=>whnf)
 (first|refine ⟨?_,?_⟩|refine nsplit ?_ ?_|refine bsplit ?_ ?_)<;>intro h3<;>have hz_:=True.intro<;>clear hz_
 ·have h3 : c.epoch = 0 := h3
  ((conv=>whnf)<;>repeat(with_reducible refine D1 ?_)<;>conv=>whnf)
  refine ⟨[], [], ?_⟩
  iterate 3 constructor
  refine ⟨⟨?_, ?_, ?_⟩, rfl, rfl, rfl⟩
  all_goals (repeat' first|with_reducible exact Lz.rfl|exact Lw.rfl|exact Lz.wrap (by omega)|(unfold goInt;with_reducible exact Lz.rfl)|exact flx _|constructor)
  exact Lz.of (bool_eq (Eq.symm (decide_eq_false fun q => by obtain ⟨⟨_, _⟩, _, ⟨_, _⟩, _, _⟩ := q; omega)))
 have h3 : ¬ c.epoch = 0 := h3
 ((conv=>whnf)<;>repeat(with_reducible refine D1 ?_)<;>conv=>whnf)
 (first|refine ⟨?_,?_⟩|refine nsplit ?_ ?_|refine bsplit ?_ ?_)<;>intro h4<;>have hz_:=True.intro<;>clear hz_
 ·have h4 : (((c.nodes.map encI1).length : Nat) : Int) = 0 := h4
  rw [List.length_map] at h4
  ((conv=>whnf)<;>repeat(with_reducible refine D1 ?_)<;>conv=>whnf)
  refine ⟨[], [], ?_⟩
  iterate 3 constructor
  refine ⟨⟨?_, ?_, ?_⟩, rfl, rfl, rfl⟩
  all_goals (repeat' first|with_reducible exact Lz.rfl|exact Lw.rfl|exact Lz.wrap (by omega)|(unfold goInt;with_reducible exact Lz.rfl)|exact flx _|constructor)
  exact Lz.of (bool_eq (Eq.symm (decide_eq_false fun q => by obtain ⟨⟨_, _⟩, _, ⟨_, _⟩, _, _⟩ := q; omega)))
 have h4 : ¬ (((c.nodes.map encI1).length : Nat) : Int) = 0 := h4
 rw [List.length_map] at h4
 ((conv=>whnf)<;>repeat(with_reducible refine D1 ?_)<;>conv=>whnf)
 (first|refine ⟨?_,?_⟩|refine nsplit ?_ ?_|refine bsplit ?_ ?_)<;>intro h5<;>have hz_:=True.intro<;>clear hz_
 ·have h5 : (((c.nodes.map encI1).length : Nat) : Int) > 5 := h5
  rw [List.length_map] at h5
  ((conv=>whnf)<;>repeat(with_reducible refine D1 ?_)<;>conv=>whnf)
  refine ⟨[], [], ?_⟩
  iterate 3 constructor
  refine ⟨⟨?_, ?_, ?_⟩, rfl, rfl, rfl⟩
  all_goals (repeat' first|with_reducible exact Lz.rfl|exact Lw.rfl|exact Lz.wrap (by omega)|(unfold goInt;with_reducible exact Lz.rfl)|exact flx _|constructor)
  exact Lz.of (bool_eq (Eq.symm (decide_eq_false fun q => by obtain ⟨⟨_, _⟩, _, ⟨_, _⟩, _, _⟩ := q; omega)))
 have h5 : ¬ (((c.nodes.map encI1).length : Nat) : Int) > 5 := h5
 rw [List.length_map] at h5
 ((conv=>whnf)<;>repeat(with_reducible refine D1 ?_)<;>conv=>whnf)
 cases hf : c.fresh
 ·((conv=>whnf)<;>repeat(with_reducible refine D1 ?_)<;>conv=>whnf)
  refine ⟨[], [], _, _, _, _, standsC c (by omega), ⟨by ((repeat' first|with_reducible exact Lz.rfl|exact Lw.rfl|exact Lz.wrap (by omega)|(unfold goInt;with_reducible exact Lz.rfl)|exact flx _|constructor); all_goals (exact Lz.of (bool_eq hf.symm))), by ((repeat' first|with_reducible exact Lz.rfl|exact Lw.rfl|exact Lz.wrap (by omega)|(unfold goInt;with_reducible exact Lz.rfl)|exact flx _|constructor); all_goals (exact Lz.of (bool_eq hf.symm))), by rfl⟩, ?_⟩
  rintro r o' c' ⟨rfl, rfl, rfl⟩
  ((conv=>whnf)<;>repeat(with_reducible refine D1 ?_)<;>conv=>whnf)
  refine ⟨[1], [], _, _, _, _, refUnlikeC (standL c) (by omega), t3, ?_⟩
  rintro r o' c' ⟨rfl, rfl, rfl⟩
  ((conv=>whnf)<;>repeat(with_reducible refine D1 ?_)<;>conv=>whnf)
  refine ⟨[], [], ?_⟩
  iterate 3 constructor
  refine ⟨⟨?_, ?_, ?_⟩, rfl, rfl, rfl⟩
  all_goals (repeat' first|with_reducible exact Lz.rfl|exact Lw.rfl|exact Lz.wrap (by omega)|(unfold goInt;with_reducible exact Lz.rfl)|exact flx _|constructor)
  exact Lz.of (bool_eq (decide_eq_decide.2 ⟨fun q => ⟨⟨by omega, by omega⟩, by omega, ⟨by omega, by omega⟩, (fun e => absurd (hf.symm.trans e) (by decide)), q⟩, fun q => q.2.2.2.2⟩))
 ·((conv=>whnf)<;>repeat(with_reducible refine D1 ?_)<;>conv=>whnf)
  (first|refine ⟨?_,?_⟩|refine nsplit ?_ ?_|refine bsplit ?_ ?_)<;>intro h6<;>have hz_:=True.intro<;>clear hz_
  ·have h6 : (((c.nodes.map encI1).length : Nat) : Int) = 1 := h6
   rw [List.length_map] at h6
   ((conv=>whnf)<;>repeat(with_reducible refine D1 ?_)<;>conv=>whnf)
   refine ⟨[], [], ?_⟩
   iterate 3 constructor
   refine ⟨⟨?_, ?_, ?_⟩, rfl, rfl, rfl⟩
   all_goals (repeat' first|with_reducible exact Lz.rfl|exact Lw.rfl|exact Lz.wrap (by omega)|(unfold goInt;with_reducible exact Lz.rfl)|exact flx _|constructor)
   exact Lz.of (bool_eq (Eq.symm (decide_eq_false fun q => by have := q.2.2.2.1 hf; omega)))
  have h6 : ¬ (((c.nodes.map encI1).length : Nat) : Int) = 1 := h6
  rw [List.length_map] at h6
  ((conv=>whnf)<;>repeat(with_reducible refine D1 ?_)<;>conv=>whnf)
  (first|refine ⟨?_,?_⟩|refine nsplit ?_ ?_|refine bsplit ?_ ?_)<;>intro h7<;>have hz_:=True.intro<;>clear hz_
  ·have h7 : c.join ≠ 0 := h7
   ((conv=>whnf)<;>repeat(with_reducible refine D1 ?_)<;>conv=>whnf)
   refine ⟨[], [], ?_⟩
   iterate 3 constructor
   refine ⟨⟨?_, ?_, ?_⟩, rfl, rfl, rfl⟩
   all_goals (repeat' first|with_reducible exact Lz.rfl|exact Lw.rfl|exact Lz.wrap (by omega)|(unfold goInt;with_reducible exact Lz.rfl)|exact flx _|constructor)
   exact Lz.of (bool_eq (Eq.symm (decide_eq_false fun q => by have := q.2.2.2.1 hf; omega)))
  have h7 : c.join = 0 := Classical.not_not.1 h7
  ((conv=>whnf)<;>repeat(with_reducible refine D1 ?_)<;>conv=>whnf)
  refine ⟨[], [], _, _, _, _, standsC c (by omega), ⟨by ((repeat' first|with_reducible exact Lz.rfl|exact Lw.rfl|exact Lz.wrap (by omega)|(unfold goInt;with_reducible exact Lz.rfl)|exact flx _|constructor); all_goals (exact Lz.of (bool_eq hf.symm))), by ((repeat' first|with_reducible exact Lz.rfl|exact Lw.rfl|exact Lz.wrap (by omega)|(unfold goInt;with_reducible exact Lz.rfl)|exact flx _|constructor); all_goals (exact Lz.of (bool_eq hf.symm))), by rfl⟩, ?_⟩
  rintro r o' c' ⟨rfl, rfl, rfl⟩
  ((conv=>whnf)<;>repeat(with_reducible refine D1 ?_)<;>conv=>whnf)
  refine ⟨[1], [], _, _, _, _, refUnlikeC (standL c) (by omega), t3, ?_⟩
  rintro r o' c' ⟨rfl, rfl, rfl⟩
  ((conv=>whnf)<;>repeat(with_reducible refine D1 ?_)<;>conv=>whnf)
  refine ⟨[], [], ?_⟩
  iterate 3 constructor
  refine ⟨⟨?_, ?_, ?_⟩, rfl, rfl, rfl⟩
  all_goals (repeat' first|with_reducible exact Lz.rfl|exact Lw.rfl|exact Lz.wrap (by omega)|(unfold goInt;with_reducible exact Lz.rfl)|exact flx _|constructor)
  exact Lz.of (bool_eq (decide_eq_decide.2 ⟨fun q => ⟨⟨by omega, by omega⟩, by omega, ⟨by omega, by omega⟩, (fun e => ⟨by omega, h7⟩), q⟩, fun q => q.2.2.2.2⟩))
end Go.M
namespace Go.M
open Go Go.Proofs
set_option maxRecDepth 100000
set_option maxHeartbeats 2000000
def allS (l : List CF) : List Int := l.flatMap standL
theorem allS_snoc (l : List CF) (j : Nat) (h : j < l.length) : allS (l.take (j + 1)) = allS (l.take j) ++ standL l[j] := by
 unfold allS; rw [List.take_succ_eq_append_getElem h, List.flatMap_append]; simp
def eachP (l : List CF) : Prop := ∀ (i : Nat) (h : i < l.length), l[i].chain = (i : Int) ∧ rightP l[i]
def allP (l : List CF) : Prop := (1 ≤ l.length ∧ l.length ≤ 4) ∧ eachP l ∧ unlikeP (allS l)
theorem eachP_snoc {l : List CF} {j : Nat} (h : j < l.length) (hj : eachP (l.take j)) (h1 : l[j].chain = (j : Int)) (h2 : rightP l[j]) : eachP (l.take (j + 1)) := by
 intro i hi
 have hi' : i < j + 1 := by rw [List.length_take] at hi; omega
 rw [List.getElem_take]
 by_cases e : i = j
 ·subst e; exact ⟨h1, h2⟩
 ·have := hj i (by rw [List.length_take]; omega)
  rwa [List.getElem_take] at this
theorem allS_len {l : List CF} (h : eachP l) : (allS l).length ≤ 6 * l.length := by
 unfold allS
 have : ∀ l : List CF, (∀ c ∈ l, rightP c) → (l.flatMap standL).length ≤ 6 * l.length := by
  intro l
  induction l with
  | nil => simp
  | cons c l ih =>
   intro h
   have h1 := ih fun c hc => h c (List.mem_cons_of_mem _ hc)
   have h2 := standL_len c
   have h3 := (h c List.mem_cons_self).2.2.1
   rw [List.flatMap_cons, List.length_append, List.length_cons]
   omega
 refine this l fun c hc => ?_
 obtain ⟨i, hi, rfl⟩ := List.mem_iff_getElem.1 hc
 exact (h i hi).2
open Classical in
theorem all_okC (l : List CF) : VC E0 15 0 [.sl 5 (l.map encCF) false] [] (RR (.s (.bool (decide (allP l)))) 0 []) := by
 refine VC.enterR L0 (show E0.func 15 = some Tryd.f15 by kernel_rfl) (fun _ _ => rfl) rfl rfl [] ?_
 ((conv=>whnf)<;>repeat(with_reducible refine D1 ?_)<;>conv=>whnf)
 (first|refine ⟨?_,?_⟩|refine nsplit ?_ ?_|refine bsplit ?_ ?_)<;>intro h1<;>have hz_:=True.intro<;>clear hz_
 ·have h1 : (((l.map encCF).length : Nat) : Int) < 1 := h1
  rw [List.length_map] at h1
  ((conv=>whnf)<;>repeat(with_reducible refine D1 ?_)<;>conv=>whnf)
  refine ⟨[], [], ?_⟩
  iterate 3 constructor
  refine ⟨⟨?_, ?_, ?_⟩, rfl, rfl, rfl⟩
  all_goals (repeat' first|with_reducible exact Lz.rfl|exact Lw.rfl|exact Lz.wrap (by omega)|(unfold goInt;with_reducible exact Lz.rfl)|exact flx _|constructor)
  exact Lz.of (bool_eq (Eq.symm (decide_eq_false fun q => by have := q.1.1; omega)))
 have h1 : ¬ (((l.map encCF).length : Nat) : Int) < 1 := h1
 rw [List.length_map] at h1
 ((conv=>whnf)<;>repeat(with_reducible refine D1 ?_)<;>conv=>whnf)
 (first|refine ⟨?_,?_⟩|refine nsplit ?_ ?_|refine bsplit ?_ ?_)<;>intro h2<;>have hz_:=True.intro<;>clear hz_
 ·have h2 : (((l.map encCF).length : Nat) : Int) > 4 := h2
  rw [List.length_map] at h2
  ((conv=>whnf)<;>repeat(with_reducible refine D1 ?_)<;>conv=>whnf)
  refine ⟨[], [], ?_⟩
  iterate 3 constructor
  refine ⟨⟨?_, ?_, ?_⟩, rfl, rfl, rfl⟩
  all_goals (repeat' first|with_reducible exact Lz.rfl|exact Lw.rfl|exact Lz.wrap (by omega)|(unfold goInt;with_reducible exact Lz.rfl)|exact flx _|constructor)
  exact Lz.of (bool_eq (Eq.symm (decide_eq_false fun q => by have := q.1.2; omega)))
 have h2 : ¬ (((l.map encCF).length : Nat) : Int) > 4 := h2
 rw [List.length_map] at h2
 ((conv=>whnf)<;>repeat(with_reducible refine D1 ?_)<;>conv=>whnf)
 refine ⟨fun k f o c => ∃ j : Nat, j ≤ l.length ∧ k = l.length - j ∧ eachP (l.take j) ∧ c = 1 ∧ f = [(0, .sl 5 (l.map encCF) false), (3, .tk 0), (14, .sl 5 (l.map encCF) false), (15, .s (.int .i64 l.length)), (16, .s (.int .i64 j))] ∧ o = [(0, .arr 1 true ((allS (l.take j)).map encI1))], ⟨l.length, ?_⟩, ?_⟩
 ·refine ⟨[], [none], ?_⟩
  iterate 3 constructor
  refine ⟨⟨?_, ?_, ?_⟩, ⟨0, Nat.zero_le _, rfl, (fun i hi => absurd hi (by simp)), rfl, rfl, rfl⟩⟩
  all_goals (repeat' first|with_reducible exact Lz.rfl|exact Lw.rfl|exact Lz.wrap (by omega)|(unfold goInt;with_reducible exact Lz.rfl)|exact flx _|constructor)
  all_goals first | exact Lz.int (by rw [List.length_map]) | exact Lz.of (by simp [allS])
 ·rintro k f1 o1 c1 ⟨j, hj, rfl, hn, rfl, rfl, rfl⟩
  ((conv=>whnf)<;>repeat(with_reducible refine D1 ?_)<;>conv=>whnf)
  (first|refine ⟨?_,?_⟩|refine nsplit ?_ ?_|refine bsplit ?_ ?_)<;>intro h<;>have hz_:=True.intro<;>clear hz_
  ·have h : j < l.length := by have : (j : Int) < (l.length : Nat) := h
                               omega
   ((conv=>whnf)<;>repeat(with_reducible refine D1 ?_)<;>conv=>whnf)
   refine idxI h ?_
   ((conv=>whnf)<;>repeat(with_reducible refine D1 ?_)<;>conv=>whnf)
   (first|refine ⟨?_,?_⟩|refine nsplit ?_ ?_|refine bsplit ?_ ?_)<;>intro hc<;>have hz_:=True.intro<;>clear hz_
   ·have hc : l[j].chain ≠ (j : Int) := hc
    ((conv=>whnf)<;>repeat(with_reducible refine D1 ?_)<;>conv=>whnf)
    refine ⟨[], [], ?_⟩
    iterate 3 constructor
    refine ⟨⟨?_, ?_, ?_⟩, rfl, rfl, rfl⟩
    all_goals (repeat' first|with_reducible exact Lz.rfl|exact Lw.rfl|exact Lz.wrap (by omega)|(unfold goInt;with_reducible exact Lz.rfl)|exact flx _|constructor)
    exact Lz.of (bool_eq (Eq.symm (decide_eq_false fun q => hc (q.2.1 j h).1)))
   ·have hc : l[j].chain = (j : Int) := Classical.not_not.1 hc
    ((conv=>whnf)<;>repeat(with_reducible refine D1 ?_)<;>conv=>whnf)
    refine ⟨[], [], _, _, _, _, right_ok l[j], t3, ?_⟩
    rintro r o' c' ⟨rfl, rfl, rfl⟩
    ((conv=>whnf)<;>repeat(with_reducible refine D1 ?_)<;>conv=>whnf)
    by_cases hr : rightP l[j]
    ·rw [decide_eq_true hr]
     ((conv=>whnf)<;>repeat(with_reducible refine D1 ?_)<;>conv=>whnf)
     refine ⟨[], [], _, _, _, _, everybodyC l[j] (by have := hr.2.2.1; omega), t3, ?_⟩
     rintro r o' c' ⟨rfl, rfl, rfl⟩
     ((conv=>whnf)<;>repeat(with_reducible refine D1 ?_)<;>conv=>whnf)
     have hsl := standL_len l[j]
     have hal := allS_len hn
     have h5 := hr.2.2.1
     have htl : (l.take j).length ≤ 4 := by rw [List.length_take]; omega
     refine ⟨by simp; omega, ?_⟩
     ((conv=>whnf)<;>repeat(with_reducible refine D1 ?_)<;>conv=>whnf)
     refine ⟨l.length - (j + 1), ?_, by omega⟩
     refine ⟨[], [some 3], ?_⟩
     iterate 3 constructor
     refine ⟨⟨?_, ?_, ?_⟩, ⟨j + 1, h, rfl, eachP_snoc h hn hc hr, rfl, rfl, rfl⟩⟩
     all_goals (repeat' first|with_reducible exact Lz.rfl|exact Lw.rfl|exact Lz.wrap (by omega)|(unfold goInt;with_reducible exact Lz.rfl)|exact flx _|constructor)
     exact Lz.of (by rw [allS_snoc l j h, List.map_append])
    ·rw [decide_eq_false hr]
     ((conv=>whnf)<;>repeat(with_reducible refine D1 ?_)<;>conv=>whnf)
     refine ⟨[], [], ?_⟩
     iterate 3 constructor
     refine ⟨⟨?_, ?_, ?_⟩, rfl, rfl, rfl⟩
     all_goals (repeat' first|with_reducible exact Lz.rfl|exact Lw.rfl|exact Lz.wrap (by omega)|(unfold goInt;with_reducible exact Lz.rfl)|exact flx _|constructor)
     exact Lz.of (bool_eq (Eq.symm (decide_eq_false fun q => hr (q.2.1 j h).2)))
  ·have hj' : j = l.length := by have : ¬ (j : Int) < (l.length : Nat) := h
                                 omega
   subst hj'
   rw [List.take_length] at hn
   rw [List.take_length]
   ((conv=>whnf)<;>repeat(with_reducible refine D1 ?_)<;>conv=>whnf)
   refine ⟨[0], [], _, _, _, _, unlikeC (allS l) (by have := allS_len hn; omega), t3, ?_⟩
   rintro r o' c' ⟨rfl, rfl, rfl⟩
   ((conv=>whnf)<;>repeat(with_reducible refine D1 ?_)<;>conv=>whnf)
   refine ⟨[], [], ?_⟩
   iterate 3 constructor
   refine ⟨⟨?_, ?_, ?_⟩, rfl, rfl, rfl⟩
   all_goals (repeat' first|with_reducible exact Lz.rfl|exact Lw.rfl|exact Lz.wrap (by omega)|(unfold goInt;with_reducible exact Lz.rfl)|exact flx _|constructor)
   exact Lz.of (bool_eq (decide_eq_decide.2 ⟨fun q => ⟨⟨by omega, by omega⟩, hn, q⟩, fun q => q.2.2⟩))
open Classical in
theorem refAll_okC (l : List CF) (hep : ∀ c ∈ l, 0 ≤ c.epoch) (hl : l.length < 10000) : VC E0 16 0 [.sl 5 (l.map encCF) false] [] (RR (.s (.bool (decide (allP l)))) 0 []) := by
 refine VC.enterR L0 (show E0.func 16 = some Tryd.f16 by kernel_rfl) (fun _ _ => rfl) rfl rfl [] ?_
 ((conv=>whnf)<;>repeat(with_reducible refine D1 ?_)<;>conv=>whnf)
 refine ⟨fun k f o c => ∃ j : Nat, j ≤ l.length ∧ k = l.length - j ∧ eachP (l.take j) ∧ c = 1 ∧ f = [(0, .sl 5 (l.map encCF) false), (3, .tk 0), (4, .s (.int .i64 j))] ∧ o = [(0, .arr 1 true ((allS (l.take j)).map encI1))], ⟨l.length, ?_⟩, ?_⟩
 ·exact ⟨[], [none], _, _, _, t3, ⟨0, Nat.zero_le _, rfl, (fun i hi => absurd hi (by simp)), rfl, rfl, rfl⟩⟩
 ·rintro k f1 o1 c1 ⟨j, hj, rfl, hn, rfl, rfl, rfl⟩
  ((conv=>whnf)<;>repeat(with_reducible refine D1 ?_)<;>conv=>whnf)
  (first|refine ⟨?_,?_⟩|refine nsplit ?_ ?_|refine bsplit ?_ ?_)<;>intro h<;>have hz_:=True.intro<;>clear hz_
  ·have h : j < l.length := lenlt.1 h
   ((conv=>whnf)<;>repeat(with_reducible refine D1 ?_)<;>conv=>whnf)
   refine idxI h ?_
   ((conv=>whnf)<;>repeat(with_reducible refine D1 ?_)<;>conv=>whnf)
   refine ⟨[], [], _, _, _, _, refRight_ok l[j] (hep _ (List.getElem_mem h)), t3, ?_⟩
   rintro r o' c' ⟨rfl, rfl, rfl⟩
   ((conv=>whnf)<;>repeat(with_reducible refine D1 ?_)<;>conv=>whnf)
   by_cases hr : rightP l[j]
   ·rw [decide_eq_true hr]
    ((conv=>whnf)<;>repeat(with_reducible refine D1 ?_)<;>conv=>whnf)
    refine idxI h ?_
    ((conv=>whnf)<;>repeat(with_reducible refine D1 ?_)<;>conv=>whnf)
    (first|refine ⟨?_,?_⟩|refine nsplit ?_ ?_|refine bsplit ?_ ?_)<;>intro hc<;>have hz_:=True.intro<;>clear hz_
    ·have hc : l[j].chain ≠ (j : Int) := hc
     ((conv=>whnf)<;>repeat(with_reducible refine D1 ?_)<;>conv=>whnf)
     refine ⟨[], [], ?_⟩
     iterate 3 constructor
     refine ⟨⟨?_, ?_, ?_⟩, rfl, rfl, rfl⟩
     all_goals (repeat' first|with_reducible exact Lz.rfl|exact Lw.rfl|exact Lz.wrap (by omega)|(unfold goInt;with_reducible exact Lz.rfl)|exact flx _|constructor)
     exact Lz.of (bool_eq (Eq.symm (decide_eq_false fun q => hc (q.2.1 j h).1)))
    ·have hc : l[j].chain = (j : Int) := Classical.not_not.1 hc
     ((conv=>whnf)<;>repeat(with_reducible refine D1 ?_)<;>conv=>whnf)
     refine idxI h ?_
     ((conv=>whnf)<;>repeat(with_reducible refine D1 ?_)<;>conv=>whnf)
     refine ⟨[], [], _, _, _, _, standsC l[j] (by have := hr.2.2.1; omega), t3, ?_⟩
     rintro r o' c' ⟨rfl, rfl, rfl⟩
     ((conv=>whnf)<;>repeat(with_reducible refine D1 ?_)<;>conv=>whnf)
     have hsl := standL_len l[j]
     have hal := allS_len hn
     have h5 := hr.2.2.1
     have htl : (l.take j).length ≤ l.length := by rw [List.length_take]; omega
     refine ⟨by simp; omega, ?_⟩
     ((conv=>whnf)<;>repeat(with_reducible refine D1 ?_)<;>conv=>whnf)
     refine ⟨l.length - (j + 1), ?_, by omega⟩
     refine ⟨[], [some 2], ?_⟩
     iterate 3 constructor
     refine ⟨⟨?_, ?_, ?_⟩, ⟨j + 1, h, rfl, eachP_snoc h hn hc hr, rfl, rfl, rfl⟩⟩
     all_goals (repeat' first|with_reducible exact Lz.rfl|exact Lw.rfl|exact Lz.wrap (by omega)|(unfold goInt;with_reducible exact Lz.rfl)|exact flx _|constructor)
     exact Lz.of (by rw [allS_snoc l j h, List.map_append])
   ·rw [decide_eq_false hr]
    ((conv=>whnf)<;>repeat(with_reducible refine D1 ?_)<;>conv=>whnf)
    refine ⟨[], [], ?_⟩
    iterate 3 constructor
    refine ⟨⟨?_, ?_, ?_⟩, rfl, rfl, rfl⟩
    all_goals (repeat' first|with_reducible exact Lz.rfl|exact Lw.rfl|exact Lz.wrap (by omega)|(unfold goInt;with_reducible exact Lz.rfl)|exact flx _|constructor)
    exact Lz.of (bool_eq (Eq.symm (decide_eq_false fun q => hr (q.2.1 j h).2)))
  ·have hj' : j = l.length := by have := mt lenlt.2 h
                                 omega
   subst hj'
   rw [List.take_length] at hn
   rw [List.take_length]
   ((conv=>whnf)<;>repeat(with_reducible refine D1 ?_)<;>conv=>whnf)
   (first|refine ⟨?_,?_⟩|refine nsplit ?_ ?_|refine bsplit ?_ ?_)<;>intro h1<;>have hz_:=True.intro<;>clear hz_
   ·have h1 : (((l.map encCF).length : Nat) : Int) ≥ 1 := h1
    rw [List.length_map] at h1
    ((conv=>whnf)<;>repeat(with_reducible refine D1 ?_)<;>conv=>whnf)
    (first|refine ⟨?_,?_⟩|refine nsplit ?_ ?_|refine bsplit ?_ ?_)<;>intro h2<;>have hz_:=True.intro<;>clear hz_
    ·have h2 : (((l.map encCF).length : Nat) : Int) ≤ 4 := h2
     rw [List.length_map] at h2
     ((conv=>whnf)<;>repeat(with_reducible refine D1 ?_)<;>conv=>whnf)
     refine ⟨[0], [], _, _, _, _, refUnlikeC (allS l) (by have := allS_len hn; omega), t3, ?_⟩
     rintro r o' c' ⟨rfl, rfl, rfl⟩
     ((conv=>whnf)<;>repeat(with_reducible refine D1 ?_)<;>conv=>whnf)
     refine ⟨[], [], ?_⟩
     iterate 3 constructor
     refine ⟨⟨?_, ?_, ?_⟩, rfl, rfl, rfl⟩
     all_goals (repeat' first|with_reducible exact Lz.rfl|exact Lw.rfl|exact Lz.wrap (by omega)|(unfold goInt;with_reducible exact Lz.rfl)|exact flx _|constructor)
     exact Lz.of (bool_eq (decide_eq_decide.2 ⟨fun q => ⟨⟨by omega, by omega⟩, hn, q⟩, fun q => q.2.2⟩))
    ·have h2 : ¬ (((l.map encCF).length : Nat) : Int) ≤ 4 := h2
     rw [List.length_map] at h2
     ((conv=>whnf)<;>repeat(with_reducible refine D1 ?_)<;>conv=>whnf)
     refine ⟨[], [], ?_⟩
     iterate 3 constructor
     refine ⟨⟨?_, ?_, ?_⟩, rfl, rfl, rfl⟩
     all_goals (repeat' first|with_reducible exact Lz.rfl|exact Lw.rfl|exact Lz.wrap (by omega)|(unfold goInt;with_reducible exact Lz.rfl)|exact flx _|constructor)
     exact Lz.of (bool_eq (Eq.symm (decide_eq_false fun q => by have := q.1.2; omega)))
   ·have h1 : ¬ (((l.map encCF).length : Nat) : Int) ≥ 1 := h1
    rw [List.length_map] at h1
    ((conv=>whnf)<;>repeat(with_reducible refine D1 ?_)<;>conv=>whnf)
    refine ⟨[], [], ?_⟩
    iterate 3 constructor
    refine ⟨⟨?_, ?_, ?_⟩, rfl, rfl, rfl⟩
    all_goals (repeat' first|with_reducible exact Lz.rfl|exact Lw.rfl|exact Lz.wrap (by omega)|(unfold goInt;with_reducible exact Lz.rfl)|exact flx _|constructor)
    exact Lz.of (bool_eq (Eq.symm (decide_eq_false fun q => by have := q.1.1; omega)))
end Go.M
namespace Go.M
open Go Go.Proofs
set_option maxRecDepth 100000
set_option maxHeartbeats 2000000
theorem same04_ok (l m : List Int) (hl : l.length < 1000000) : VC E0 17 0 [.sl 1 (l.map encI1) false, .sl 1 (m.map encI1) false] [] (RR (.s (.bool (eqB l m))) 0 []) := by
 refine VC.enterR L0 (show E0.func 17 = some Tryd.f17 by kernel_rfl) (fun _ _ => rfl) rfl rfl [] ?_
 ((conv=>whnf)<;>repeat(with_reducible refine D1 ?_)<;>conv=>whnf)
 (first|refine ⟨?_,?_⟩|refine nsplit ?_ ?_|refine bsplit ?_ ?_)<;>intro hlm<;>have hz_:=True.intro<;>clear hz_
 ·((conv=>whnf)<;>repeat(with_reducible refine D1 ?_)<;>conv=>whnf)
  refine ⟨[], [], ?_⟩
  iterate 3 constructor
  refine ⟨⟨?_, ?_, ?_⟩, rfl, rfl, rfl⟩
  all_goals (repeat' first|with_reducible exact Lz.rfl|exact Lw.rfl|exact Lz.wrap (by omega)|(unfold goInt;with_reducible exact Lz.rfl)|exact flx _|constructor)
  refine Lz.of (bool_eq (Eq.symm (eqB_false.2 fun e => hlm (by subst e; rfl))))
 ·have hlm : l.length = m.length := by simp at hlm; omega
  ((conv=>whnf)<;>repeat(with_reducible refine D1 ?_)<;>conv=>whnf)
  refine ⟨fun k f o c => ∃ i : Nat, i ≤ l.length ∧ k = l.length - i ∧ l.take i = m.take i ∧ c = 0 ∧ f = [(0, .sl 1 (l.map encI1) false), (1, .sl 1 (m.map encI1) false), (5, .s (.int .i64 i))] ∧ o = [], ⟨l.length, ?_⟩, ?_⟩
  ·exact ⟨[], [], _, _, _, t3, ⟨0, Nat.zero_le _, rfl, rfl, rfl, rfl, rfl⟩⟩
  ·rintro k f1 o1 c1 ⟨i, hi, rfl, ht, rfl, rfl, rfl⟩
   ((conv=>whnf)<;>repeat(with_reducible refine D1 ?_)<;>conv=>whnf)
   (first|refine ⟨?_,?_⟩|refine nsplit ?_ ?_|refine bsplit ?_ ?_)<;>intro h<;>have hz_:=True.intro<;>clear hz_
   ·have h := lenlt.1 h
    have h2 : i < m.length := by omega
    ((conv=>whnf)<;>repeat(with_reducible refine D1 ?_)<;>conv=>whnf)
    refine idxI h ?_
    ((conv=>whnf)<;>repeat(with_reducible refine D1 ?_)<;>conv=>whnf)
    refine idxI h2 ?_
    ((conv=>whnf)<;>repeat(with_reducible refine D1 ?_)<;>conv=>whnf)
    (first|refine ⟨?_,?_⟩|refine nsplit ?_ ?_|refine bsplit ?_ ?_)<;>intro hv<;>have hz_:=True.intro<;>clear hz_
    ·have hv : l[i] ≠ m[i] := hv
     ((conv=>whnf)<;>repeat(with_reducible refine D1 ?_)<;>conv=>whnf)
     refine ⟨[], [], ?_⟩
     iterate 3 constructor
     refine ⟨⟨?_, ?_, ?_⟩, rfl, rfl, rfl⟩
     all_goals (repeat' first|with_reducible exact Lz.rfl|exact Lw.rfl|exact Lz.wrap (by omega)|(unfold goInt;with_reducible exact Lz.rfl)|exact flx _|constructor)
     refine Lz.of (bool_eq (Eq.symm (eqB_false.2 fun e => hv (by subst e; rfl))))
    ·have hv : l[i] = m[i] := Classical.not_not.1 hv
     ((conv=>whnf)<;>repeat(with_reducible refine D1 ?_)<;>conv=>whnf)
     refine ⟨l.length - (i + 1), ?_, by omega⟩
     exact ⟨[], [], _, _, _, t3, ⟨i + 1, h, rfl, by rw [take_snoc l i h, take_snoc m i h2, ht, hv], rfl, rfl, rfl⟩⟩
   ·have h := mt lenlt.2 h
    ((conv=>whnf)<;>repeat(with_reducible refine D1 ?_)<;>conv=>whnf)
    refine ⟨[], [], ?_⟩
    iterate 3 constructor
    refine ⟨⟨?_, ?_, ?_⟩, rfl, rfl, rfl⟩
    all_goals (repeat' first|with_reducible exact Lz.rfl|exact Lw.rfl|exact Lz.wrap (by omega)|(unfold goInt;with_reducible exact Lz.rfl)|exact flx _|constructor)
    refine Lz.of (bool_eq (Eq.symm (eqB_iff.2 ?_)))
    rw [← List.take_of_length_le (Nat.not_lt.1 h), ht, List.take_of_length_le (by omega)]
theorem CF.ext' {a b : CF} (h1 : a.chain = b.chain) (h2 : a.epoch = b.epoch) (h3 : a.nodes = b.nodes) (h4 : a.fresh = b.fresh) (h5 : a.join = b.join) : a = b := by
 cases a; cases b; simp_all
theorem sameCF_ok (a b : CF) (hl : a.nodes.length < 1000000) : VC E0 25 0 [.agg (encCF a), .agg (encCF b)] [] (RR (.s (.bool (eqB a b))) 0 []) := by
 refine VC.enterR L0 (show E0.func 25 = some Tryd.f25 by kernel_rfl) (fun _ _ => rfl) rfl rfl [] ?_
 ((conv=>whnf)<;>repeat(with_reducible refine D1 ?_)<;>conv=>whnf)
 (first|refine ⟨?_,?_⟩|refine nsplit ?_ ?_|refine bsplit ?_ ?_)<;>intro h1<;>have hz_:=True.intro<;>clear hz_
 rotate_left
 ·have h1 : ¬ a.chain = b.chain := h1
  ((conv=>whnf)<;>repeat(with_reducible refine D1 ?_)<;>conv=>whnf)
  refine ⟨[], [], ?_⟩
  iterate 3 constructor
  refine ⟨⟨?_, ?_, ?_⟩, rfl, rfl, rfl⟩
  all_goals (repeat' first|with_reducible exact Lz.rfl|exact Lw.rfl|exact Lz.wrap (by omega)|(unfold goInt;with_reducible exact Lz.rfl)|exact flx _|constructor)
  exact Lz.of (bool_eq (Eq.symm (eqB_false.2 fun e => h1 (by rw [e]))))
 have h1 : a.chain = b.chain := h1
 ((conv=>whnf)<;>repeat(with_reducible refine D1 ?_)<;>conv=>whnf)
 (first|refine ⟨?_,?_⟩|refine nsplit ?_ ?_|refine bsplit ?_ ?_)<;>intro h2<;>have hz_:=True.intro<;>clear hz_
 rotate_left
 ·have h2 : ¬ a.epoch = b.epoch := h2
  ((conv=>whnf)<;>repeat(with_reducible refine D1 ?_)<;>conv=>whnf)
  refine ⟨[], [], ?_⟩
  iterate 3 constructor
  refine ⟨⟨?_, ?_, ?_⟩, rfl, rfl, rfl⟩
  all_goals (repeat' first|with_reducible exact Lz.rfl|exact Lw.rfl|exact Lz.wrap (by omega)|(unfold goInt;with_reducible exact Lz.rfl)|exact flx _|constructor)
  exact Lz.of (bool_eq (Eq.symm (eqB_false.2 fun e => h2 (by rw [e]))))
 have h2 : a.epoch = b.epoch := h2
 ((conv=>whnf)<;>repeat(with_reducible refine D1 ?_)<;>conv=>whnf)
 cases h3 : (a.fresh == b.fresh)
 ·((conv=>whnf)<;>repeat(with_reducible refine D1 ?_)<;>conv=>whnf)
  refine ⟨[], [], ?_⟩
  iterate 3 constructor
  refine ⟨⟨?_, ?_, ?_⟩, rfl, rfl, rfl⟩
  all_goals (repeat' first|with_reducible exact Lz.rfl|exact Lw.rfl|exact Lz.wrap (by omega)|(unfold goInt;with_reducible exact Lz.rfl)|exact flx _|constructor)
  exact Lz.of (bool_eq (Eq.symm (eqB_false.2 fun e => by rw [e] at h3; simp at h3)))
 ((conv=>whnf)<;>repeat(with_reducible refine D1 ?_)<;>conv=>whnf)
 (first|refine ⟨?_,?_⟩|refine nsplit ?_ ?_|refine bsplit ?_ ?_)<;>intro h4<;>have hz_:=True.intro<;>clear hz_
 rotate_left
 ·have h4 : ¬ a.join = b.join := h4
  ((conv=>whnf)<;>repeat(with_reducible refine D1 ?_)<;>conv=>whnf)
  refine ⟨[], [], ?_⟩
  iterate 3 constructor
  refine ⟨⟨?_, ?_, ?_⟩, rfl, rfl, rfl⟩
  all_goals (repeat' first|with_reducible exact Lz.rfl|exact Lw.rfl|exact Lz.wrap (by omega)|(unfold goInt;with_reducible exact Lz.rfl)|exact flx _|constructor)
  exact Lz.of (bool_eq (Eq.symm (eqB_false.2 fun e => h4 (by rw [e]))))
 have h4 : a.join = b.join := h4
 ((conv=>whnf)<;>repeat(with_reducible refine D1 ?_)<;>conv=>whnf)
 refine ⟨[], [], _, _, _, _, same04_ok a.nodes b.nodes hl, t3, ?_⟩
 rintro r o' c' ⟨rfl, rfl, rfl⟩
 ((conv=>whnf)<;>repeat(with_reducible refine D1 ?_)<;>conv=>whnf)
 refine ⟨[], [], ?_⟩
 iterate 3 constructor
 refine ⟨⟨?_, ?_, ?_⟩, rfl, rfl, rfl⟩
 all_goals (repeat' first|with_reducible exact Lz.rfl|exact Lw.rfl|exact Lz.wrap (by omega)|(unfold goInt;with_reducible exact Lz.rfl)|exact flx _|constructor)
 refine Lz.of (bool_eq ?_)
 by_cases hn : a.nodes = b.nodes
 ·rw [eqB_iff.2 hn, eqB_iff.2 (CF.ext' h1 h2 hn (by simpa using h3) h4)]
 ·rw [eqB_false.2 hn, eqB_false.2 fun e => hn (by rw [e])]
theorem sameAll_ok (l m : List CF) (hl : l.length < 1000000) (hn : ∀ c ∈ l, c.nodes.length < 1000000) : VC E0 12 0 [.sl 5 (l.map encCF) false, .sl 5 (m.map encCF) false] [] (RR (.s (.bool (eqB l m))) 0 []) := by
 refine VC.enterR L0 (show E0.func 12 = some Tryd.f12 by kernel_rfl) (fun _ _ => rfl) rfl rfl [] ?_
 ((conv=>whnf)<;>repeat(with_reducible refine D1 ?_)<;>conv=>whnf)
 (first|refine ⟨?_,?_⟩|refine nsplit ?_ ?_|refine bsplit ?_ ?_)<;>intro hlm<;>have hz_:=True.intro<;>clear hz_
 ·((conv=>whnf)<;>repeat(with_reducible refine D1 ?_)<;>conv=>whnf)
  refine ⟨[], [], ?_⟩
  iterate 3 constructor
  refine ⟨⟨?_, ?_, ?_⟩, rfl, rfl, rfl⟩
  all_goals (repeat' first|with_reducible exact Lz.rfl|exact Lw.rfl|exact Lz.wrap (by omega)|(unfold goInt;with_reducible exact Lz.rfl)|exact flx _|constructor)
  refine Lz.of (bool_eq (Eq.symm (eqB_false.2 fun e => hlm (by subst e; rfl))))
 ·have hlm : l.length = m.length := by simp at hlm; omega
  ((conv=>whnf)<;>repeat(with_reducible refine D1 ?_)<;>conv=>whnf)
  refine ⟨fun k f o c => ∃ i : Nat, i ≤ l.length ∧ k = l.length - i ∧ l.take i = m.take i ∧ c = 0 ∧ f = [(0, .sl 5 (l.map encCF) false), (1, .sl 5 (m.map encCF) false), (5, .s (.int .i64 i))] ∧ o = [], ⟨l.length, ?_⟩, ?_⟩
  ·exact ⟨[], [], _, _, _, t3, ⟨0, Nat.zero_le _, rfl, rfl, rfl, rfl, rfl⟩⟩
  ·rintro k f1 o1 c1 ⟨i, hi, rfl, ht, rfl, rfl, rfl⟩
   ((conv=>whnf)<;>repeat(with_reducible refine D1 ?_)<;>conv=>whnf)
   (first|refine ⟨?_,?_⟩|refine nsplit ?_ ?_|refine bsplit ?_ ?_)<;>intro h<;>have hz_:=True.intro<;>clear hz_
   ·have h := lenlt.1 h
    have h2 : i < m.length := by omega
    ((conv=>whnf)<;>repeat(with_reducible refine D1 ?_)<;>conv=>whnf)
    refine idxI h ?_
    ((conv=>whnf)<;>repeat(with_reducible refine D1 ?_)<;>conv=>whnf)
    refine idxI h2 ?_
    ((conv=>whnf)<;>repeat(with_reducible refine D1 ?_)<;>conv=>whnf)
    refine ⟨[], [], _, _, _, _, sameCF_ok l[i] m[i] (hn _ (List.getElem_mem h)), t3, ?_⟩
    rintro r o' c' ⟨rfl, rfl, rfl⟩
    have hz_ := True.intro
    clear hz_
    cases hv : eqB l[i] m[i]
    ·((conv=>whnf)<;>repeat(with_reducible refine D1 ?_)<;>conv=>whnf)
     refine ⟨[], [], ?_⟩
     iterate 3 constructor
     refine ⟨⟨?_, ?_, ?_⟩, rfl, rfl, rfl⟩
     all_goals (repeat' first|with_reducible exact Lz.rfl|exact Lw.rfl|exact Lz.wrap (by omega)|(unfold goInt;with_reducible exact Lz.rfl)|exact flx _|constructor)
     refine Lz.of (bool_eq (Eq.symm (eqB_false.2 fun e => eqB_false.1 hv (by subst e; rfl))))
    ·((conv=>whnf)<;>repeat(with_reducible refine D1 ?_)<;>conv=>whnf)
     refine ⟨l.length - (i + 1), ?_, by omega⟩
     exact ⟨[], [], _, _, _, t3, ⟨i + 1, h, rfl, by rw [take_snoc l i h, take_snoc m i h2, ht, eqB_iff.1 hv], rfl, rfl, rfl⟩⟩
   ·have h := mt lenlt.2 h
    ((conv=>whnf)<;>repeat(with_reducible refine D1 ?_)<;>conv=>whnf)
    refine ⟨[], [], ?_⟩
    iterate 3 constructor
    refine ⟨⟨?_, ?_, ?_⟩, rfl, rfl, rfl⟩
    all_goals (repeat' first|with_reducible exact Lz.rfl|exact Lw.rfl|exact Lz.wrap (by omega)|(unfold goInt;with_reducible exact Lz.rfl)|exact flx _|constructor)
    refine Lz.of (bool_eq (Eq.symm (eqB_iff.2 ?_)))
    rw [← List.take_of_length_le (Nat.not_lt.1 h), ht, List.take_of_length_le (by omega)]
end Go.M
namespace Go.M
open Go Go.Proofs
set_option maxRecDepth 100000
set_option maxHeartbeats 2000000
def withoutL (l : List Int) (n : Int) : List Int := l.filter fun x => decide (x ≠ n)
theorem withoutL_snoc (l : List Int) (n : Int) (j : Nat) (h : j < l.length) : withoutL (l.take (j + 1)) n = withoutL (l.take j) n ++ (if l[j] = n then [] else [l[j]]) := by
 unfold withoutL
 rw [List.take_succ_eq_append_getElem h, List.filter_append]
 by_cases e : l[j] = n <;> simp [e]
theorem withoutL_len (l : List Int) (n : Int) : (withoutL l n).length ≤ l.length := List.length_filter_le _ _
theorem without_ok (l : List Int) (n : Int) (hl : l.length < 100000) : VC E0 56 0 [.sl 1 (l.map encI1) false, .s (.int .i64 n)] [] (RR (.tk 0) 1 [(0, .arr 1 true ((withoutL l n).map encI1))]) := by
 refine VC.enterR L0 (show E0.func 56 = some Tryd.f56 by kernel_rfl) (fun _ _ => rfl) rfl rfl [] ?_
 ((conv=>whnf)<;>repeat(with_reducible refine D1 ?_)<;>conv=>whnf)
 refine ⟨fun k f o c => ∃ j : Nat, j ≤ l.length ∧ k = l.length - j ∧ c = 1 ∧ f = [(0, .sl 1 (l.map encI1) false), (1, .s (.int .i64 n)), (5, .tk 0), (6, .s (.int .i64 j))] ∧ o = [(0, .arr 1 true ((withoutL (l.take j) n).map encI1))], ⟨l.length, ?_⟩, ?_⟩
 ·exact ⟨[], [none], _, _, _, t3, ⟨0, Nat.zero_le _, rfl, rfl, rfl, rfl⟩⟩
 ·rintro k f1 o1 c1 ⟨j, hj, rfl, rfl, rfl, rfl⟩
  ((conv=>whnf)<;>repeat(with_reducible refine D1 ?_)<;>conv=>whnf)
  (first|refine ⟨?_,?_⟩|refine nsplit ?_ ?_|refine bsplit ?_ ?_)<;>intro h<;>have hz_:=True.intro<;>clear hz_
  ·have h : j < l.length := lenlt.1 h
   have hs := withoutL_snoc l n j h
   ((conv=>whnf)<;>repeat(with_reducible refine D1 ?_)<;>conv=>whnf)
   refine idxI h ?_
   ((conv=>whnf)<;>repeat(with_reducible refine D1 ?_)<;>conv=>whnf)
   (first|refine ⟨?_,?_⟩|refine nsplit ?_ ?_|refine bsplit ?_ ?_)<;>intro he<;>have hz_:=True.intro<;>clear hz_
   ·have he : l[j] ≠ n := he
    rw [if_neg he] at hs
    have hle := withoutL_len (l.take j) n
    rw [List.length_take] at hle
    ((conv=>whnf)<;>repeat(with_reducible refine D1 ?_)<;>conv=>whnf)
    refine idxI h ?_
    ((conv=>whnf)<;>repeat(with_reducible refine D1 ?_)<;>conv=>whnf)
    refine ⟨by simp; omega, ?_⟩
    ((conv=>whnf)<;>repeat(with_reducible refine D1 ?_)<;>conv=>whnf)
    refine ⟨l.length - (j + 1), ?_, by omega⟩
    refine ⟨[], [some 2], ?_⟩
    iterate 3 constructor
    refine ⟨⟨?_, ?_, ?_⟩, ⟨j + 1, h, rfl, rfl, rfl, rfl⟩⟩
    all_goals (repeat' first|with_reducible exact Lz.rfl|exact Lw.rfl|exact Lz.wrap (by omega)|(unfold goInt;with_reducible exact Lz.rfl)|exact flx _|constructor)
    exact Lz.of (by rw [hs, List.map_append]; rfl)
   ·have he : l[j] = n := Classical.not_not.1 he
    rw [if_pos he] at hs
    ((conv=>whnf)<;>repeat(with_reducible refine D1 ?_)<;>conv=>whnf)
    refine ⟨l.length - (j + 1), ?_, by omega⟩
    refine ⟨[], [some 0], ?_⟩
    iterate 3 constructor
    refine ⟨⟨?_, ?_, ?_⟩, ⟨j + 1, h, rfl, rfl, rfl, rfl⟩⟩
    all_goals (repeat' first|with_reducible exact Lz.rfl|exact Lw.rfl|exact Lz.wrap (by omega)|(unfold goInt;with_reducible exact Lz.rfl)|exact flx _|constructor)
    exact Lz.of (by rw [hs, List.append_nil])
  ·have hj' : j = l.length := by have := mt lenlt.2 h
                                 omega
   subst hj'
   rw [List.take_length]
   ((conv=>whnf)<;>repeat(with_reducible refine D1 ?_)<;>conv=>whnf)
   exact ⟨[], [some 0], _, _, _, t3, rfl, rfl, rfl⟩
def settledL (c : CF) : List Int := if c.fresh = true then c.nodes.take (c.nodes.length - 1) else c.nodes
theorem refSettled_ok (c : CF) (he : 0 ≤ c.epoch) (hr : rightP c) : VC E0 19 0 [.agg (encCF c)] [] (RR (.sl 1 ((settledL c).map encI1) false) 0 []) := by
 have h5 := hr.2.2.1
 refine VC.enterR L0 (show E0.func 19 = some Tryd.f19 by kernel_rfl) (fun _ _ => rfl) rfl rfl [] ?_
 ((conv=>whnf)<;>repeat(with_reducible refine D1 ?_)<;>conv=>whnf)
 refine ⟨[], [], _, _, _, _, refRight_ok c he, t3, ?_⟩
 rintro r o' c' ⟨rfl, rfl, rfl⟩
 rw [decide_eq_true hr]
 ((conv=>whnf)<;>repeat(with_reducible refine D1 ?_)<;>conv=>whnf)
 cases hf : c.fresh
 ·((conv=>whnf)<;>repeat(with_reducible refine D1 ?_)<;>conv=>whnf)
  refine ⟨by simp, ?_⟩
  ((conv=>whnf)<;>repeat(with_reducible refine D1 ?_)<;>conv=>whnf)
  refine ⟨[], [], ?_⟩
  iterate 3 constructor
  refine ⟨⟨?_, ?_, ?_⟩, rfl, rfl, rfl⟩
  all_goals (repeat' first|with_reducible exact Lz.rfl|exact Lw.rfl|exact Lz.wrap (by omega)|(unfold goInt;with_reducible exact Lz.rfl)|exact flx _|constructor)
  exact Lz.of (by unfold settledL; rw [hf]; simp [← List.map_take])
 ·((conv=>whnf)<;>repeat(with_reducible refine D1 ?_)<;>conv=>whnf)
  have hw : IntKind.i64.wrap ((((c.nodes.map encI1).length : Nat) : Int) - 1) = ((c.nodes.length - 1 : Nat) : Int) := by
   rw [List.length_map, IntWalk.i64_in _ (by omega)]; omega
  refine ⟨by rw [hw, List.length_map]; omega, ?_⟩
  ((conv=>whnf)<;>repeat(with_reducible refine D1 ?_)<;>conv=>whnf)
  refine ⟨[], [], ?_⟩
  iterate 3 constructor
  refine ⟨⟨?_, ?_, ?_⟩, rfl, rfl, rfl⟩
  all_goals (repeat' first|with_reducible exact Lz.rfl|exact Lw.rfl|exact Lz.wrap (by omega)|(unfold goInt;with_reducible exact Lz.rfl)|exact flx _|constructor)
  refine Lz.of ?_
  unfold settledL
  rw [hf, if_pos rfl, hw]
  simp [List.map_take]
theorem refUsed_ok (l : List CF) (n : Int) (hl : l.length < 10000) (hn : ∀ c ∈ l, c.nodes.length < 10000) : VC E0 21 0 [.sl 5 (l.map encCF) false, .s (.int .i64 n)] [] (RR (.s (.bool (decide (n ∈ allS l)))) 0 []) := by
 refine VC.enterR L0 (show E0.func 21 = some Tryd.f21 by kernel_rfl) (fun _ _ => rfl) rfl rfl [] ?_
 ((conv=>whnf)<;>repeat(with_reducible refine D1 ?_)<;>conv=>whnf)
 refine ⟨fun k f o c => ∃ j : Nat, j ≤ l.length ∧ k = l.length - j ∧ n ∉ allS (l.take j) ∧ c = 0 ∧ f = [(0, .sl 5 (l.map encCF) false), (1, .s (.int .i64 n)), (5, .s (.int .i64 j))] ∧ o = [], ⟨l.length, ?_⟩, ?_⟩
 ·exact ⟨[], [], _, _, _, t3, ⟨0, Nat.zero_le _, rfl, by simp [allS], rfl, rfl, rfl⟩⟩
 ·rintro k f1 o1 c1 ⟨j, hj, rfl, hnm, rfl, rfl, rfl⟩
  ((conv=>whnf)<;>repeat(with_reducible refine D1 ?_)<;>conv=>whnf)
  (first|refine ⟨?_,?_⟩|refine nsplit ?_ ?_|refine bsplit ?_ ?_)<;>intro h<;>have hz_:=True.intro<;>clear hz_
  ·have h : j < l.length := lenlt.1 h
   have hcn := hn _ (List.getElem_mem h)
   have hsl := standL_len l[j]
   ((conv=>whnf)<;>repeat(with_reducible refine D1 ?_)<;>conv=>whnf)
   refine idxI h ?_
   ((conv=>whnf)<;>repeat(with_reducible refine D1 ?_)<;>conv=>whnf)
   refine ⟨[], [], _, _, _, _, standsC l[j] (by omega), t3, ?_⟩
   rintro r o' c' ⟨rfl, rfl, rfl⟩
   ((conv=>whnf)<;>repeat(with_reducible refine D1 ?_)<;>conv=>whnf)
   refine ⟨[0], [], _, _, _, _, has04_ok (standL l[j]) n (by omega), t3, ?_⟩
   rintro r o' c' ⟨rfl, rfl, rfl⟩
   by_cases hm : n ∈ standL l[j]
   ·rw [decide_eq_true hm]
    ((conv=>whnf)<;>repeat(with_reducible refine D1 ?_)<;>conv=>whnf)
    refine ⟨[], [], ?_⟩
    iterate 3 constructor
    refine ⟨⟨?_, ?_, ?_⟩, rfl, rfl, rfl⟩
    all_goals (repeat' first|with_reducible exact Lz.rfl|exact Lw.rfl|exact Lz.wrap (by omega)|(unfold goInt;with_reducible exact Lz.rfl)|exact flx _|constructor)
    exact Lz.of (bool_eq (Eq.symm (decide_eq_true (List.mem_flatMap.2 ⟨_, List.getElem_mem h, hm⟩))))
   ·rw [decide_eq_false hm]
    ((conv=>whnf)<;>repeat(with_reducible refine D1 ?_)<;>conv=>whnf)
    refine ⟨l.length - (j + 1), ?_, by omega⟩
    exact ⟨[], [], _, _, _, t3, ⟨j + 1, h, rfl, by rw [allS_snoc l j h, List.mem_append]; exact not_or.2 ⟨hnm, hm⟩, rfl, rfl, rfl⟩⟩
  ·have hj' : j = l.length := by have := mt lenlt.2 h
                                 omega
   subst hj'
   rw [List.take_length] at hnm
   ((conv=>whnf)<;>repeat(with_reducible refine D1 ?_)<;>conv=>whnf)
   refine ⟨[], [], ?_⟩
   iterate 3 constructor
   refine ⟨⟨?_, ?_, ?_⟩, rfl, rfl, rfl⟩
   all_goals (repeat' first|with_reducible exact Lz.rfl|exact Lw.rfl|exact Lz.wrap (by omega)|(unfold goInt;with_reducible exact Lz.rfl)|exact flx _|constructor)
   exact Lz.of (bool_eq (Eq.symm (decide_eq_false hnm)))
end Go.M
namespace Go.M
open Go Go.Proofs
set_option maxRecDepth 100000
set_option maxHeartbeats 2000000
def lastL (c : CF) : Int := c.nodes.getLast?.getD 0
def canF (x : CF) : Int := if x.epoch = 18446744073709551615 then 9 else 0
def canR (l : List CF) (x : CF) (c : Cmd) : Int :=
 if c.kind = 1 then (if c.node ∉ standL x then 7 else if (withoutL (settledL x) c.node).length = 0 then 12 else canF x)
 else if c.kind = 2 then (if c.node ∈ allS l then 8 else if x.join ≠ 0 ∨ x.fresh = true then 12 else if x.nodes.length = 5 then 9 else canF x)
 else if c.kind = 3 then (if x.join ≠ c.node then 7 else if x.nodes.length = 5 then 9 else canF x)
 else (if x.fresh = false ∨ lastL x ≠ c.node then 7 else canF x)
theorem lastI {l : List Int} {K : List TV → Prop} (h : 1 ≤ l.length ∧ l.length ≤ 5) (hK : K (encI1 (l.getLast?.getD 0))) : ∃ e, (0 ≤ IntKind.i64.wrap ((((l.map encI1).length : Nat) : Int) - 1) ∧ (l.map encI1)[(IntKind.i64.wrap ((((l.map encI1).length : Nat) : Int) - 1)).toNat]? = some e) ∧ K e := by
 have hw : IntKind.i64.wrap ((((l.map encI1).length : Nat) : Int) - 1) = ((l.length - 1 : Nat) : Int) := by
  rw [List.length_map, IntWalk.i64_in _ (by omega)]; omega
 rw [hw]
 refine ⟨_, ⟨by omega, ?_⟩, hK⟩
 rw [Int.toNat_natCast, List.getElem?_map, ← List.getLast?_eq_getElem?]
 cases hq : l.getLast? with
 | none => rw [List.getLast?_eq_none_iff] at hq; subst hq; exact absurd h.1 (by decide)
 | some a => rfl
theorem refcan_ok (l : List CF) (x : CF) (c : Cmd) (he : 0 ≤ x.epoch) (hr : rightP x) (hl : l.length < 10000) (hn : ∀ c ∈ l, c.nodes.length < 10000) : VC E0 31 0 [.sl 5 (l.map encCF) false, .agg (encCF x), cT4 c] [] (RR (.s (.int .i64 (canR l x c))) 0 []) := by
 have h5 := hr.2.2.1
 have hsl := standL_len x
 refine VC.enterR L0 (show E0.func 31 = some Tryd.f31 by kernel_rfl) (fun _ _ => rfl) rfl rfl [] ?_
 ((conv=>whnf)<;>repeat(with_reducible refine D1 ?_)<;>conv=>whnf)
 refine lastI h5 ?_
 ((conv=>whnf)<;>repeat(with_reducible refine D1 ?_)<;>conv=>whnf)
 (first|refine ⟨?_,?_⟩|refine nsplit ?_ ?_|refine bsplit ?_ ?_)<;>intro k1<;>have hz_:=True.intro<;>clear hz_
 ·have k1 : c.kind = 1 := k1
  have hC : canR l x c = if c.node ∉ standL x then 7 else if (withoutL (settledL x) c.node).length = 0 then 12 else canF x := by unfold canR; rw [if_pos k1]
  ((conv=>whnf)<;>repeat(with_reducible refine D1 ?_)<;>conv=>whnf)
  refine ⟨[], [], _, _, _, _, standsC x (by omega), t3, ?_⟩
  rintro r o' c' ⟨rfl, rfl, rfl⟩
  ((conv=>whnf)<;>repeat(with_reducible refine D1 ?_)<;>conv=>whnf)
  refine ⟨[2], [], _, _, _, _, has04_ok (standL x) c.node (by omega), t3, ?_⟩
  rintro r o' c' ⟨rfl, rfl, rfl⟩
  by_cases hm : c.node ∈ standL x
  ·rw [if_neg (fun q => q hm)] at hC
   rw [decide_eq_true hm]
   ((conv=>whnf)<;>repeat(with_reducible refine D1 ?_)<;>conv=>whnf)
   refine ⟨[], [], _, _, _, _, refSettled_ok x he hr, t3, ?_⟩
   rintro r o' c' ⟨rfl, rfl, rfl⟩
   ((conv=>whnf)<;>repeat(with_reducible refine D1 ?_)<;>conv=>whnf)
   have hsn : (settledL x).length ≤ x.nodes.length := by unfold settledL; split <;> simp
   refine ⟨[], [], _, _, _, _, without_ok (settledL x) c.node (by omega), t3, ?_⟩
   rintro r o' c' ⟨rfl, rfl, rfl⟩
   ((conv=>whnf)<;>repeat(with_reducible refine D1 ?_)<;>conv=>whnf)
   (first|refine ⟨?_,?_⟩|refine nsplit ?_ ?_|refine bsplit ?_ ?_)<;>intro hz<;>have hz_:=True.intro<;>clear hz_
   ·have hz : ((((withoutL (settledL x) c.node).map encI1).length : Nat) : Int) = 0 := hz
    rw [List.length_map] at hz
    rw [if_pos (by omega)] at hC
    ((conv=>whnf)<;>repeat(with_reducible refine D1 ?_)<;>conv=>whnf)
    refine ⟨[], [], ?_⟩
    iterate 3 constructor
    refine ⟨⟨?_, ?_, ?_⟩, rfl, rfl, rfl⟩
    all_goals (repeat' first|with_reducible exact Lz.rfl|exact Lw.rfl|exact Lz.wrap (by omega)|(unfold goInt;with_reducible exact Lz.rfl)|exact flx _|constructor)
    exact Lz.int hC.symm
   ·have hz : ¬ ((((withoutL (settledL x) c.node).map encI1).length : Nat) : Int) = 0 := hz
    rw [List.length_map] at hz
    rw [if_neg (by omega)] at hC
    ((conv=>whnf)<;>repeat(with_reducible refine D1 ?_)<;>conv=>whnf)
    (first|refine ⟨?_,?_⟩|refine nsplit ?_ ?_|refine bsplit ?_ ?_)<;>intro hm<;>have hz_:=True.intro<;>clear hz_
    ·have hm : x.epoch = 18446744073709551615 := hm
     ((conv=>whnf)<;>repeat(with_reducible refine D1 ?_)<;>conv=>whnf)
     refine ⟨[], [], ?_⟩
     iterate 3 constructor
     refine ⟨⟨?_, ?_, ?_⟩, rfl, rfl, rfl⟩
     all_goals (repeat' first|with_reducible exact Lz.rfl|exact Lw.rfl|exact Lz.wrap (by omega)|(unfold goInt;with_reducible exact Lz.rfl)|exact flx _|constructor)
     exact Lz.int (by rw [hC]; unfold canF; rw [if_pos hm])
    ·have hm : ¬ x.epoch = 18446744073709551615 := hm
     ((conv=>whnf)<;>repeat(with_reducible refine D1 ?_)<;>conv=>whnf)
     refine ⟨[], [], ?_⟩
     iterate 3 constructor
     refine ⟨⟨?_, ?_, ?_⟩, rfl, rfl, rfl⟩
     all_goals (repeat' first|with_reducible exact Lz.rfl|exact Lw.rfl|exact Lz.wrap (by omega)|(unfold goInt;with_reducible exact Lz.rfl)|exact flx _|constructor)
     exact Lz.int (by rw [hC]; unfold canF; rw [if_neg hm])
  ·rw [if_pos hm] at hC
   rw [decide_eq_false hm]
   ((conv=>whnf)<;>repeat(with_reducible refine D1 ?_)<;>conv=>whnf)
   refine ⟨[], [], ?_⟩
   iterate 3 constructor
   refine ⟨⟨?_, ?_, ?_⟩, rfl, rfl, rfl⟩
   all_goals (repeat' first|with_reducible exact Lz.rfl|exact Lw.rfl|exact Lz.wrap (by omega)|(unfold goInt;with_reducible exact Lz.rfl)|exact flx _|constructor)
   exact Lz.int hC.symm
 ·have k1 : ¬ c.kind = 1 := k1
  ((conv=>whnf)<;>repeat(with_reducible refine D1 ?_)<;>conv=>whnf)
  (first|refine ⟨?_,?_⟩|refine nsplit ?_ ?_|refine bsplit ?_ ?_)<;>intro k2<;>have hz_:=True.intro<;>clear hz_
  ·have k2 : c.kind = 2 := k2
   have hC : canR l x c = if c.node ∈ allS l then 8 else if x.join ≠ 0 ∨ x.fresh = true then 12 else if x.nodes.length = 5 then 9 else canF x := by unfold canR; rw [if_neg k1, if_pos k2]
   ((conv=>whnf)<;>repeat(with_reducible refine D1 ?_)<;>conv=>whnf)
   refine ⟨[], [], _, _, _, _, refUsed_ok l c.node hl hn, t3, ?_⟩
   rintro r o' c' ⟨rfl, rfl, rfl⟩
   by_cases hm : c.node ∈ allS l
   ·rw [if_pos hm] at hC
    rw [decide_eq_true hm]
    ((conv=>whnf)<;>repeat(with_reducible refine D1 ?_)<;>conv=>whnf)
    refine ⟨[], [], ?_⟩
    iterate 3 constructor
    refine ⟨⟨?_, ?_, ?_⟩, rfl, rfl, rfl⟩
    all_goals (repeat' first|with_reducible exact Lz.rfl|exact Lw.rfl|exact Lz.wrap (by omega)|(unfold goInt;with_reducible exact Lz.rfl)|exact flx _|constructor)
    exact Lz.int hC.symm
   ·rw [if_neg hm] at hC
    rw [decide_eq_false hm]
    ((conv=>whnf)<;>repeat(with_reducible refine D1 ?_)<;>conv=>whnf)
    (first|refine ⟨?_,?_⟩|refine nsplit ?_ ?_|refine bsplit ?_ ?_)<;>intro hj<;>have hz_:=True.intro<;>clear hz_
    ·have hj : x.join ≠ 0 := hj
     rw [if_pos (.inl hj)] at hC
     ((conv=>whnf)<;>repeat(with_reducible refine D1 ?_)<;>conv=>whnf)
     refine ⟨[], [], ?_⟩
     iterate 3 constructor
     refine ⟨⟨?_, ?_, ?_⟩, rfl, rfl, rfl⟩
     all_goals (repeat' first|with_reducible exact Lz.rfl|exact Lw.rfl|exact Lz.wrap (by omega)|(unfold goInt;with_reducible exact Lz.rfl)|exact flx _|constructor)
     exact Lz.int hC.symm
    ·have hj : x.join = 0 := Classical.not_not.1 hj
     ((conv=>whnf)<;>repeat(with_reducible refine D1 ?_)<;>conv=>whnf)
     cases hf : x.fresh
     ·rw [if_neg (by rw [hj, hf]; simp)] at hC
      ((conv=>whnf)<;>repeat(with_reducible refine D1 ?_)<;>conv=>whnf)
      (first|refine ⟨?_,?_⟩|refine nsplit ?_ ?_|refine bsplit ?_ ?_)<;>intro hz<;>have hz_:=True.intro<;>clear hz_
      ·have hz : (((x.nodes.map encI1).length : Nat) : Int) = 5 := hz
       rw [List.length_map] at hz
       rw [if_pos (by omega)] at hC
       ((conv=>whnf)<;>repeat(with_reducible refine D1 ?_)<;>conv=>whnf)
       refine ⟨[], [], ?_⟩
       iterate 3 constructor
       refine ⟨⟨?_, ?_, ?_⟩, rfl, rfl, rfl⟩
       all_goals (repeat' first|with_reducible exact Lz.rfl|exact Lw.rfl|exact Lz.wrap (by omega)|(unfold goInt;with_reducible exact Lz.rfl)|exact flx _|constructor)
       exact Lz.int hC.symm
      ·have hz : ¬ (((x.nodes.map encI1).length : Nat) : Int) = 5 := hz
       rw [List.length_map] at hz
       rw [if_neg (by omega)] at hC
       ((conv=>whnf)<;>repeat(with_reducible refine D1 ?_)<;>conv=>whnf)
       (first|refine ⟨?_,?_⟩|refine nsplit ?_ ?_|refine bsplit ?_ ?_)<;>intro hm<;>have hz_:=True.intro<;>clear hz_
       ·have hm : x.epoch = 18446744073709551615 := hm
        ((conv=>whnf)<;>repeat(with_reducible refine D1 ?_)<;>conv=>whnf)
        refine ⟨[], [], ?_⟩
        iterate 3 constructor
        refine ⟨⟨?_, ?_, ?_⟩, rfl, rfl, rfl⟩
        all_goals (repeat' first|with_reducible exact Lz.rfl|exact Lw.rfl|exact Lz.wrap (by omega)|(unfold goInt;with_reducible exact Lz.rfl)|exact flx _|constructor)
        exact Lz.int (by rw [hC]; unfold canF; rw [if_pos hm])
       ·have hm : ¬ x.epoch = 18446744073709551615 := hm
        ((conv=>whnf)<;>repeat(with_reducible refine D1 ?_)<;>conv=>whnf)
        refine ⟨[], [], ?_⟩
        iterate 3 constructor
        refine ⟨⟨?_, ?_, ?_⟩, rfl, rfl, rfl⟩
        all_goals (repeat' first|with_reducible exact Lz.rfl|exact Lw.rfl|exact Lz.wrap (by omega)|(unfold goInt;with_reducible exact Lz.rfl)|exact flx _|constructor)
        exact Lz.int (by rw [hC]; unfold canF; rw [if_neg hm])
     ·rw [if_pos (.inr hf)] at hC
      ((conv=>whnf)<;>repeat(with_reducible refine D1 ?_)<;>conv=>whnf)
      refine ⟨[], [], ?_⟩
      iterate 3 constructor
      refine ⟨⟨?_, ?_, ?_⟩, rfl, rfl, rfl⟩
      all_goals (repeat' first|with_reducible exact Lz.rfl|exact Lw.rfl|exact Lz.wrap (by omega)|(unfold goInt;with_reducible exact Lz.rfl)|exact flx _|constructor)
      exact Lz.int hC.symm
  ·have k2 : ¬ c.kind = 2 := k2
   ((conv=>whnf)<;>repeat(with_reducible refine D1 ?_)<;>conv=>whnf)
   (first|refine ⟨?_,?_⟩|refine nsplit ?_ ?_|refine bsplit ?_ ?_)<;>intro k3<;>have hz_:=True.intro<;>clear hz_
   ·have k3 : c.kind = 3 := k3
    have hC : canR l x c = if x.join ≠ c.node then 7 else if x.nodes.length = 5 then 9 else canF x := by unfold canR; rw [if_neg k1, if_neg k2, if_pos k3]
    ((conv=>whnf)<;>repeat(with_reducible refine D1 ?_)<;>conv=>whnf)
    (first|refine ⟨?_,?_⟩|refine nsplit ?_ ?_|refine bsplit ?_ ?_)<;>intro hj<;>have hz_:=True.intro<;>clear hz_
    ·have hj : x.join ≠ c.node := hj
     rw [if_pos hj] at hC
     ((conv=>whnf)<;>repeat(with_reducible refine D1 ?_)<;>conv=>whnf)
     refine ⟨[], [], ?_⟩
     iterate 3 constructor
     refine ⟨⟨?_, ?_, ?_⟩, rfl, rfl, rfl⟩
     all_goals (repeat' first|with_reducible exact Lz.rfl|exact Lw.rfl|exact Lz.wrap (by omega)|(unfold goInt;with_reducible exact Lz.rfl)|exact flx _|constructor)
     exact Lz.int hC.symm
    ·have hj : ¬ x.join ≠ c.node := hj
     rw [if_neg hj] at hC
     ((conv=>whnf)<;>repeat(with_reducible refine D1 ?_)<;>conv=>whnf)
     (first|refine ⟨?_,?_⟩|refine nsplit ?_ ?_|refine bsplit ?_ ?_)<;>intro hz<;>have hz_:=True.intro<;>clear hz_
     ·have hz : (((x.nodes.map encI1).length : Nat) : Int) = 5 := hz
      rw [List.length_map] at hz
      rw [if_pos (by omega)] at hC
      ((conv=>whnf)<;>repeat(with_reducible refine D1 ?_)<;>conv=>whnf)
      refine ⟨[], [], ?_⟩
      iterate 3 constructor
      refine ⟨⟨?_, ?_, ?_⟩, rfl, rfl, rfl⟩
      all_goals (repeat' first|with_reducible exact Lz.rfl|exact Lw.rfl|exact Lz.wrap (by omega)|(unfold goInt;with_reducible exact Lz.rfl)|exact flx _|constructor)
      exact Lz.int hC.symm
     ·have hz : ¬ (((x.nodes.map encI1).length : Nat) : Int) = 5 := hz
      rw [List.length_map] at hz
      rw [if_neg (by omega)] at hC
      ((conv=>whnf)<;>repeat(with_reducible refine D1 ?_)<;>conv=>whnf)
      (first|refine ⟨?_,?_⟩|refine nsplit ?_ ?_|refine bsplit ?_ ?_)<;>intro hm<;>have hz_:=True.intro<;>clear hz_
      ·have hm : x.epoch = 18446744073709551615 := hm
       ((conv=>whnf)<;>repeat(with_reducible refine D1 ?_)<;>conv=>whnf)
       refine ⟨[], [], ?_⟩
       iterate 3 constructor
       refine ⟨⟨?_, ?_, ?_⟩, rfl, rfl, rfl⟩
       all_goals (repeat' first|with_reducible exact Lz.rfl|exact Lw.rfl|exact Lz.wrap (by omega)|(unfold goInt;with_reducible exact Lz.rfl)|exact flx _|constructor)
       exact Lz.int (by rw [hC]; unfold canF; rw [if_pos hm])
      ·have hm : ¬ x.epoch = 18446744073709551615 := hm
       ((conv=>whnf)<;>repeat(with_reducible refine D1 ?_)<;>conv=>whnf)
       refine ⟨[], [], ?_⟩
       iterate 3 constructor
       refine ⟨⟨?_, ?_, ?_⟩, rfl, rfl, rfl⟩
       all_goals (repeat' first|with_reducible exact Lz.rfl|exact Lw.rfl|exact Lz.wrap (by omega)|(unfold goInt;with_reducible exact Lz.rfl)|exact flx _|constructor)
       exact Lz.int (by rw [hC]; unfold canF; rw [if_neg hm])
   ·have k3 : ¬ c.kind = 3 := k3
    have hC : canR l x c = if x.fresh = false ∨ lastL x ≠ c.node then 7 else canF x := by unfold canR; rw [if_neg k1, if_neg k2, if_neg k3]
    ((conv=>whnf)<;>repeat(with_reducible refine D1 ?_)<;>conv=>whnf)
    cases hf : x.fresh
    ·rw [if_pos (.inl hf)] at hC
     ((conv=>whnf)<;>repeat(with_reducible refine D1 ?_)<;>conv=>whnf)
     refine ⟨[], [], ?_⟩
     iterate 3 constructor
     refine ⟨⟨?_, ?_, ?_⟩, rfl, rfl, rfl⟩
     all_goals (repeat' first|with_reducible exact Lz.rfl|exact Lw.rfl|exact Lz.wrap (by omega)|(unfold goInt;with_reducible exact Lz.rfl)|exact flx _|constructor)
     exact Lz.int hC.symm
    ·((conv=>whnf)<;>repeat(with_reducible refine D1 ?_)<;>conv=>whnf)
     (first|refine ⟨?_,?_⟩|refine nsplit ?_ ?_|refine bsplit ?_ ?_)<;>intro hla<;>have hz_:=True.intro<;>clear hz_
     ·have hla : lastL x ≠ c.node := hla
      rw [if_pos (.inr hla)] at hC
      ((conv=>whnf)<;>repeat(with_reducible refine D1 ?_)<;>conv=>whnf)
      refine ⟨[], [], ?_⟩
      iterate 3 constructor
      refine ⟨⟨?_, ?_, ?_⟩, rfl, rfl, rfl⟩
      all_goals (repeat' first|with_reducible exact Lz.rfl|exact Lw.rfl|exact Lz.wrap (by omega)|(unfold goInt;with_reducible exact Lz.rfl)|exact flx _|constructor)
      exact Lz.int hC.symm
     ·have hla : ¬ lastL x ≠ c.node := hla
      rw [if_neg (by rw [hf]; simpa using hla)] at hC
      ((conv=>whnf)<;>repeat(with_reducible refine D1 ?_)<;>conv=>whnf)
      (first|refine ⟨?_,?_⟩|refine nsplit ?_ ?_|refine bsplit ?_ ?_)<;>intro hm<;>have hz_:=True.intro<;>clear hz_
      ·have hm : x.epoch = 18446744073709551615 := hm
       ((conv=>whnf)<;>repeat(with_reducible refine D1 ?_)<;>conv=>whnf)
       refine ⟨[], [], ?_⟩
       iterate 3 constructor
       refine ⟨⟨?_, ?_, ?_⟩, rfl, rfl, rfl⟩
       all_goals (repeat' first|with_reducible exact Lz.rfl|exact Lw.rfl|exact Lz.wrap (by omega)|(unfold goInt;with_reducible exact Lz.rfl)|exact flx _|constructor)
       exact Lz.int (by rw [hC]; unfold canF; rw [if_pos hm])
      ·have hm : ¬ x.epoch = 18446744073709551615 := hm
       ((conv=>whnf)<;>repeat(with_reducible refine D1 ?_)<;>conv=>whnf)
       refine ⟨[], [], ?_⟩
       iterate 3 constructor
       refine ⟨⟨?_, ?_, ?_⟩, rfl, rfl, rfl⟩
       all_goals (repeat' first|with_reducible exact Lz.rfl|exact Lw.rfl|exact Lz.wrap (by omega)|(unfold goInt;with_reducible exact Lz.rfl)|exact flx _|constructor)
       exact Lz.int (by rw [hC]; unfold canF; rw [if_neg hm])
end Go.M
namespace Go.M
open Go Go.Proofs
set_option maxRecDepth 100000
set_option maxHeartbeats 2000000
open Classical in
noncomputable def canL (l : List CF) (c : Cmd) : Int :=
 if ¬ allP l then 1 else if c.check ≠ 0 then c.check else if c.kind = 0 then 0 else
 match l[c.chain.toNat]? with
 | none => 7
 | some x => if x.epoch ≠ c.epoch then 10 else canR l x c
theorem check_rng {c : Cmd} (h : c.check = 0) (hk : c.kind ≠ 0) : 0 ≤ c.chain ∧ c.chain < 4 ∧ 1 ≤ c.epoch ∧ (0 ≤ c.kind ∧ c.kind < 5) ∧ 1 ≤ c.node ∧ c.node ≤ 24 := by
 unfold Cmd.check checkS at h
 repeat' split at h
 all_goals first | omega | (exact absurd h (by decide)) | (exfalso; omega)
theorem allP_in {l : List CF} (h : allP l) {c : CF} (hc : c ∈ l) : rightP c := by
 obtain ⟨i, hi, rfl⟩ := List.mem_iff_getElem.1 hc
 exact (h.2.1 i hi).2
open Classical in
theorem refCan_ok (l : List CF) (c : Cmd) (hep : ∀ c ∈ l, 0 ≤ c.epoch) (hc : 0 ≤ c.epoch) (hl : l.length < 10000) : VC E0 9 0 [.sl 5 (l.map encCF) false, cT4 c] [] (RR (.s (.int .i64 (canL l c))) 0 []) := by
 refine VC.enterR L0 (show E0.func 9 = some Tryd.f9 by kernel_rfl) (fun _ _ => rfl) rfl rfl [] ?_
 ((conv=>whnf)<;>repeat(with_reducible refine D1 ?_)<;>conv=>whnf)
 refine ⟨[], [], _, _, _, _, refAll_okC l hep hl, t3, ?_⟩
 rintro r o' c' ⟨rfl, rfl, rfl⟩
 by_cases ha : allP l
 rotate_left
 ·rw [decide_eq_false ha]
  ((conv=>whnf)<;>repeat(with_reducible refine D1 ?_)<;>conv=>whnf)
  refine ⟨[], [], ?_⟩
  iterate 3 constructor
  refine ⟨⟨?_, ?_, ?_⟩, rfl, rfl, rfl⟩
  all_goals (repeat' first|with_reducible exact Lz.rfl|exact Lw.rfl|exact Lz.wrap (by omega)|(unfold goInt;with_reducible exact Lz.rfl)|exact flx _|constructor)
  exact Lz.int (by unfold canL; rw [if_pos ha])
 rw [decide_eq_true ha]
 ((conv=>whnf)<;>repeat(with_reducible refine D1 ?_)<;>conv=>whnf)
 refine ⟨[], [], _, _, _, _, refCheck_ok c.kind c.chain c.epoch c.node hc, t3, ?_⟩
 rintro r o' c' ⟨rfl, rfl, rfl⟩
 ((conv=>whnf)<;>repeat(with_reducible refine D1 ?_)<;>conv=>whnf)
 (first|refine ⟨?_,?_⟩|refine nsplit ?_ ?_|refine bsplit ?_ ?_)<;>intro hk<;>have hz_:=True.intro<;>clear hz_
 ·have hk : c.check ≠ 0 := hk
  ((conv=>whnf)<;>repeat(with_reducible refine D1 ?_)<;>conv=>whnf)
  refine ⟨[], [], ?_⟩
  iterate 3 constructor
  refine ⟨⟨?_, ?_, ?_⟩, rfl, rfl, rfl⟩
  all_goals (repeat' first|with_reducible exact Lz.rfl|exact Lw.rfl|exact Lz.wrap (by omega)|(unfold goInt;with_reducible exact Lz.rfl)|exact flx _|constructor)
  exact Lz.int (by unfold canL; rw [if_neg (fun q => q ha), if_pos hk]; rfl)
 have hk : c.check = 0 := Classical.not_not.1 hk
 ((conv=>whnf)<;>repeat(with_reducible refine D1 ?_)<;>conv=>whnf)
 (first|refine ⟨?_,?_⟩|refine nsplit ?_ ?_|refine bsplit ?_ ?_)<;>intro h0<;>have hz_:=True.intro<;>clear hz_
 ·have h0 : c.kind = 0 := h0
  ((conv=>whnf)<;>repeat(with_reducible refine D1 ?_)<;>conv=>whnf)
  refine ⟨[], [], ?_⟩
  iterate 3 constructor
  refine ⟨⟨?_, ?_, ?_⟩, rfl, rfl, rfl⟩
  all_goals (repeat' first|with_reducible exact Lz.rfl|exact Lw.rfl|exact Lz.wrap (by omega)|(unfold goInt;with_reducible exact Lz.rfl)|exact flx _|constructor)
  exact Lz.int (by unfold canL; rw [if_neg (fun q => q ha), if_neg (fun q => q hk), if_pos h0])
 have h0 : ¬ c.kind = 0 := h0
 have hrg := check_rng hk h0
 ((conv=>whnf)<;>repeat(with_reducible refine D1 ?_)<;>conv=>whnf)
 (first|refine ⟨?_,?_⟩|refine nsplit ?_ ?_|refine bsplit ?_ ?_)<;>intro h1<;>have hz_:=True.intro<;>clear hz_
 ·have h1 : c.chain ≥ (((l.map encCF).length : Nat) : Int) := h1
  rw [List.length_map] at h1
  have hnone : l[c.chain.toNat]? = none := List.getElem?_eq_none (by omega)
  ((conv=>whnf)<;>repeat(with_reducible refine D1 ?_)<;>conv=>whnf)
  refine ⟨[], [], ?_⟩
  iterate 3 constructor
  refine ⟨⟨?_, ?_, ?_⟩, rfl, rfl, rfl⟩
  all_goals (repeat' first|with_reducible exact Lz.rfl|exact Lw.rfl|exact Lz.wrap (by omega)|(unfold goInt;with_reducible exact Lz.rfl)|exact flx _|constructor)
  exact Lz.int (by unfold canL; rw [if_neg (fun q => q ha), if_neg (fun q => q hk), if_neg h0, hnone])
 have h1 : ¬ c.chain ≥ (((l.map encCF).length : Nat) : Int) := h1
 rw [List.length_map] at h1
 have hlt : c.chain.toNat < l.length := by omega
 have hsome : l[c.chain.toNat]? = some l[c.chain.toNat] := List.getElem?_eq_getElem hlt
 have hC : canL l c = if l[c.chain.toNat].epoch ≠ c.epoch then 10 else canR l l[c.chain.toNat] c := by unfold canL; rw [if_neg (fun q => q ha), if_neg (fun q => q hk), if_neg h0, hsome]
 ((conv=>whnf)<;>repeat(with_reducible refine D1 ?_)<;>conv=>whnf)
 refine idxI' hrg.1 hlt ?_
 ((conv=>whnf)<;>repeat(with_reducible refine D1 ?_)<;>conv=>whnf)
 (first|refine ⟨?_,?_⟩|refine nsplit ?_ ?_|refine bsplit ?_ ?_)<;>intro h2<;>have hz_:=True.intro<;>clear hz_
 ·have h2 : l[c.chain.toNat].epoch ≠ c.epoch := h2
  rw [if_pos h2] at hC
  ((conv=>whnf)<;>repeat(with_reducible refine D1 ?_)<;>conv=>whnf)
  refine ⟨[], [], ?_⟩
  iterate 3 constructor
  refine ⟨⟨?_, ?_, ?_⟩, rfl, rfl, rfl⟩
  all_goals (repeat' first|with_reducible exact Lz.rfl|exact Lw.rfl|exact Lz.wrap (by omega)|(unfold goInt;with_reducible exact Lz.rfl)|exact flx _|constructor)
  exact Lz.int hC.symm
 have h2 : ¬ l[c.chain.toNat].epoch ≠ c.epoch := h2
 rw [if_neg h2] at hC
 ((conv=>whnf)<;>repeat(with_reducible refine D1 ?_)<;>conv=>whnf)
 refine idxI' hrg.1 hlt ?_
 ((conv=>whnf)<;>repeat(with_reducible refine D1 ?_)<;>conv=>whnf)
 refine ⟨[], [], _, _, _, _, refcan_ok l l[c.chain.toNat] c (hep _ (List.getElem_mem hlt)) (allP_in ha (List.getElem_mem hlt)) hl (fun x hx => by have := (allP_in ha hx).2.2.1; omega), t3, ?_⟩
 rintro r o' c' ⟨rfl, rfl, rfl⟩
 ((conv=>whnf)<;>repeat(with_reducible refine D1 ?_)<;>conv=>whnf)
 refine ⟨[], [], ?_⟩
 iterate 3 constructor
 refine ⟨⟨?_, ?_, ?_⟩, rfl, rfl, rfl⟩
 all_goals (repeat' first|with_reducible exact Lz.rfl|exact Lw.rfl|exact Lz.wrap (by omega)|(unfold goInt;with_reducible exact Lz.rfl)|exact flx _|constructor)
 exact Lz.int hC.symm
theorem last_ok (c : CF) (h5 : 1 ≤ c.nodes.length ∧ c.nodes.length ≤ 5) : VC E0 67 0 [.agg (encCF c)] [] (RR (.s (.int .i64 (lastL c))) 0 []) := by
 refine VC.enterR L0 (show E0.func 67 = some Tryd.f67 by kernel_rfl) (fun _ _ => rfl) rfl rfl [] ?_
 ((conv=>whnf)<;>repeat(with_reducible refine D1 ?_)<;>conv=>whnf)
 refine lastI h5 ?_
 ((conv=>whnf)<;>repeat(with_reducible refine D1 ?_)<;>conv=>whnf)
 exact ⟨[], [], _, _, _, t3, rfl, rfl, rfl⟩
theorem settled_ok (c : CF) (h5 : 1 ≤ c.nodes.length ∧ c.nodes.length ≤ 5) : VC E0 37 0 [.agg (encCF c)] [] (RR (.tk 0) 1 [(0, .arr 1 true ((settledL c).map encI1))]) := by
 refine VC.enterR L0 (show E0.func 37 = some Tryd.f37 by kernel_rfl) (fun _ _ => rfl) rfl rfl [] ?_
 ((conv=>whnf)<;>repeat(with_reducible refine D1 ?_)<;>conv=>whnf)
 cases hf : c.fresh
 ·((conv=>whnf)<;>repeat(with_reducible refine D1 ?_)<;>conv=>whnf)
  refine ⟨[], [], _, _, _, _, cloneI_ok c.nodes (by omega), t3, ?_⟩
  rintro r o' c' ⟨rfl, rfl, rfl⟩
  ((conv=>whnf)<;>repeat(with_reducible refine D1 ?_)<;>conv=>whnf)
  refine ⟨[], [some 1], ?_⟩
  iterate 3 constructor
  refine ⟨⟨?_, ?_, ?_⟩, rfl, rfl, rfl⟩
  all_goals (repeat' first|with_reducible exact Lz.rfl|exact Lw.rfl|exact Lz.wrap (by omega)|(unfold goInt;with_reducible exact Lz.rfl)|exact flx _|constructor)
  exact Lz.of (by unfold settledL; rw [hf]; simp)
 ·((conv=>whnf)<;>repeat(with_reducible refine D1 ?_)<;>conv=>whnf)
  have hw : IntKind.i64.wrap ((((c.nodes.map encI1).length : Nat) : Int) - 1) = ((c.nodes.length - 1 : Nat) : Int) := by
   rw [List.length_map, IntWalk.i64_in _ (by omega)]; omega
  refine ⟨by rw [hw, List.length_map]; omega, ?_⟩
  ((conv=>whnf)<;>repeat(with_reducible refine D1 ?_)<;>conv=>whnf)
  refine ⟨[], [], _, _, _, _, cloneI_ok (c.nodes.take (c.nodes.length - 1)) (by rw [List.length_take]; omega), ⟨by ((repeat' first|with_reducible exact Lz.rfl|exact Lw.rfl|exact Lz.wrap (by omega)|(unfold goInt;with_reducible exact Lz.rfl)|exact flx _|constructor); all_goals (exact Lz.of (by rw [hw]; simp [List.map_take]))), by ((repeat' first|with_reducible exact Lz.rfl|exact Lw.rfl|exact Lz.wrap (by omega)|(unfold goInt;with_reducible exact Lz.rfl)|exact flx _|constructor); all_goals (exact Lz.of (by rw [hw]; simp [List.map_take]))), by rfl⟩, ?_⟩
  rintro r o' c' ⟨rfl, rfl, rfl⟩
  ((conv=>whnf)<;>repeat(with_reducible refine D1 ?_)<;>conv=>whnf)
  refine ⟨[], [some 1], ?_⟩
  iterate 3 constructor
  refine ⟨⟨?_, ?_, ?_⟩, rfl, rfl, rfl⟩
  all_goals (repeat' first|with_reducible exact Lz.rfl|exact Lw.rfl|exact Lz.wrap (by omega)|(unfold goInt;with_reducible exact Lz.rfl)|exact flx _|constructor)
  exact Lz.of (by unfold settledL; rw [hf]; simp)
end Go.M
namespace Go.M
open Go Go.Proofs
set_option maxRecDepth 100000
set_option maxHeartbeats 2000000
@[reducible] def stN (n : Int) : Ob := [(0, .cells [.s (.int .i64 n)])]
def otherB (n m : Int) : Bool := decide (m ≠ n)
theorem otherC (n m : Int) : VC E0 66 1 [.s (.int .i64 m), .ptr 0 0] (stN n) (RR (.s (.bool (otherB n m))) 1 (stN n)) := by
 refine VC.enterR L0 (show E0.func 66 = some Tryd.f66 by kernel_rfl) (fun _ _ => rfl) rfl rfl [] ?_
 ((conv=>whnf)<;>repeat(with_reducible refine D1 ?_)<;>conv=>whnf)
 (first|refine ⟨?_,?_⟩|refine nsplit ?_ ?_|refine bsplit ?_ ?_)<;>intro h<;>have hz_:=True.intro<;>clear hz_
 ·have h : m ≠ n := h
  ((conv=>whnf)<;>repeat(with_reducible refine D1 ?_)<;>conv=>whnf)
  refine ⟨[], [some 0], ?_⟩
  iterate 3 constructor
  refine ⟨⟨?_, ?_, ?_⟩, rfl, rfl, rfl⟩
  all_goals (repeat' first|with_reducible exact Lz.rfl|exact Lw.rfl|exact Lz.wrap (by omega)|(unfold goInt;with_reducible exact Lz.rfl)|exact flx _|constructor)
  exact Lz.of (bool_eq (Eq.symm (decide_eq_true h)))
 ·have h : ¬ m ≠ n := h
  ((conv=>whnf)<;>repeat(with_reducible refine D1 ?_)<;>conv=>whnf)
  refine ⟨[], [some 0], ?_⟩
  iterate 3 constructor
  refine ⟨⟨?_, ?_, ?_⟩, rfl, rfl, rfl⟩
  all_goals (repeat' first|with_reducible exact Lz.rfl|exact Lw.rfl|exact Lz.wrap (by omega)|(unfold goInt;with_reducible exact Lz.rfl)|exact flx _|constructor)
  exact Lz.of (bool_eq (Eq.symm (decide_eq_false h)))
theorem idxOC (n : Int) (vs : List Int) (hl : vs.length < 1000000) : VC E0 77 1 [.sl 1 (vs.map encI1) false, .clo 66 [] [.ptr 0 0]] (stN n)
 (fun r o c' => ∃ i : Int, r = .s (.int .i64 i) ∧ c' = 1 ∧ o = stN n ∧ ((i = -1 ∧ ∀ v ∈ vs, otherB n v = false) ∨ 0 ≤ i ∧ ∃ v ∈ vs, otherB n v = true)) := by
 refine VC.enterR L0 (show E0.func 77 = some Tryd.f77 by kernel_rfl) (fun _ _ => rfl) rfl rfl [] ?_
 ((conv=>whnf)<;>repeat(with_reducible refine D1 ?_)<;>conv=>whnf)
 refine ⟨fun k f o c' => ∃ j : Nat, j ≤ vs.length ∧ k = vs.length - j ∧ (∀ v ∈ vs.take j, otherB n v = false) ∧ c' = 1 ∧ f = [(0, .sl 1 (vs.map encI1) false), (1, .clo 66 [] [.ptr 0 0]), (7, .s (.int .i64 vs.length)), (8, .s (.int .i64 j))] ∧ o = stN n, ⟨vs.length, ?_⟩, ?_⟩
 ·refine ⟨[], [some 0], ?_⟩
  iterate 3 constructor
  refine ⟨⟨?_, ?_, ?_⟩, ⟨0, Nat.zero_le _, rfl, by simp, rfl, rfl, rfl⟩⟩
  all_goals (repeat' first|with_reducible exact Lz.rfl|exact Lw.rfl|exact Lz.wrap (by omega)|(unfold goInt;with_reducible exact Lz.rfl)|exact flx _|constructor)
  all_goals first | exact Lz.of (by simp [goInt]) | exact Lz.rfl
 ·rintro k f1 o1 c1 ⟨j, hj, rfl, hb, rfl, rfl, rfl⟩
  ((conv=>whnf)<;>repeat(with_reducible refine D1 ?_)<;>conv=>whnf)
  (first|refine ⟨?_,?_⟩|refine nsplit ?_ ?_|refine bsplit ?_ ?_)<;>intro h<;>have hz_:=True.intro<;>clear hz_
  ·have h : j < vs.length := by simpa using h
   ((conv=>whnf)<;>repeat(with_reducible refine D1 ?_)<;>conv=>whnf)
   refine idxI h ?_
   ((conv=>whnf)<;>repeat(with_reducible refine D1 ?_)<;>conv=>whnf)
   refine ⟨[], [some 0], _, _, _, _, otherC n vs[j], t3, ?_⟩
   rintro r o' c' ⟨rfl, rfl, rfl⟩
   have hz_ := True.intro
   clear hz_
   cases hv : otherB n vs[j]
   ·((conv=>whnf)<;>repeat(with_reducible refine D1 ?_)<;>conv=>whnf)
    refine ⟨vs.length - (j + 1), ?_, by omega⟩
    exact ⟨[], [some 0], _, _, _, t3, ⟨j + 1, h, rfl, by intro v hv'; rw [List.take_succ_eq_append_getElem h] at hv'; rcases List.mem_append.1 hv' with h1 | h1; exact hb v h1; simp at h1; subst h1; exact hv, rfl, rfl, rfl⟩⟩
   ·((conv=>whnf)<;>repeat(with_reducible refine D1 ?_)<;>conv=>whnf)
    exact ⟨[], [some 0], _, _, _, t3, (j : Int), rfl, rfl, rfl, .inr ⟨by omega, _, List.getElem_mem h, hv⟩⟩
  ·have h' : j = vs.length := by have : ¬ j < vs.length := by simpa using h
                                 omega
   subst h'
   rw [List.take_length] at hb
   ((conv=>whnf)<;>repeat(with_reducible refine D1 ?_)<;>conv=>whnf)
   exact ⟨[], [some 0], _, _, _, t3, -1, rfl, rfl, rfl, .inl ⟨rfl, hb⟩⟩
theorem containsO_ok (n : Int) (vs : List Int) (hl : vs.length < 1000000) : VC E0 65 1 [.sl 1 (vs.map encI1) false, .clo 66 [] [.ptr 0 0]] (stN n) (RR (.s (.bool (vs.any (otherB n)))) 1 (stN n)) := by
 refine VC.enterR L0 (show E0.func 65 = some Tryd.f65 by kernel_rfl) (fun _ _ => rfl) rfl rfl [] ?_
 ((conv=>whnf)<;>repeat(with_reducible refine D1 ?_)<;>conv=>whnf)
 refine ⟨[], [some 0], _, _, _, _, idxOC n vs hl, t3, ?_⟩
 rintro r o' c' ⟨i, rfl, rfl, rfl, hi⟩
 ((conv=>whnf)<;>repeat(with_reducible refine D1 ?_)<;>conv=>whnf)
 (first|refine ⟨?_,?_⟩|refine nsplit ?_ ?_|refine bsplit ?_ ?_)<;>intro h<;>have hz_:=True.intro<;>clear hz_
 ·have h : i ≥ 0 := h
  ((conv=>whnf)<;>repeat(with_reducible refine D1 ?_)<;>conv=>whnf)
  refine ⟨[], [some 0], ?_⟩
  iterate 3 constructor
  refine ⟨⟨?_, ?_, ?_⟩, rfl, rfl, rfl⟩
  all_goals (repeat' first|with_reducible exact Lz.rfl|exact Lw.rfl|exact Lz.wrap (by omega)|(unfold goInt;with_reducible exact Lz.rfl)|exact flx _|constructor)
  refine Lz.of (bool_eq (Eq.symm ?_))
  rcases hi with ⟨e, _⟩ | ⟨_, v, hv, hs⟩
  ·omega
  ·exact List.any_eq_true.2 ⟨v, hv, hs⟩
 ·have h : ¬ i ≥ 0 := h
  ((conv=>whnf)<;>repeat(with_reducible refine D1 ?_)<;>conv=>whnf)
  refine ⟨[], [some 0], ?_⟩
  iterate 3 constructor
  refine ⟨⟨?_, ?_, ?_⟩, rfl, rfl, rfl⟩
  all_goals (repeat' first|with_reducible exact Lz.rfl|exact Lw.rfl|exact Lz.wrap (by omega)|(unfold goInt;with_reducible exact Lz.rfl)|exact flx _|constructor)
  refine Lz.of (bool_eq (Eq.symm ?_))
  rcases hi with ⟨_, hall⟩ | ⟨e, _⟩
  ·exact List.any_eq_false.2 fun v hv => by rw [hall v hv]; simp
  ·omega
def standB (n : Int) (c : CF) : Bool := decide (n ∈ standL c)
theorem usedOneC (n : Int) (c : CF) (h : c.nodes.length < 10000) : VC E0 39 1 [.agg (encCF c), .ptr 0 0] (stN n) (RR (.s (.bool (standB n c))) 1 (stN n)) := by
 have hsl := standL_len c
 refine VC.enterR L0 (show E0.func 39 = some Tryd.f39 by kernel_rfl) (fun _ _ => rfl) rfl rfl [] ?_
 ((conv=>whnf)<;>repeat(with_reducible refine D1 ?_)<;>conv=>whnf)
 refine ⟨[], [], _, _, _, _, everybodyC c (by omega), t3, ?_⟩
 rintro r o' c' ⟨rfl, rfl, rfl⟩
 ((conv=>whnf)<;>repeat(with_reducible refine D1 ?_)<;>conv=>whnf)
 refine ⟨[2], [], _, _, _, _, containsI_ok (standL c) n (by omega), t3, ?_⟩
 rintro r o' c' ⟨rfl, rfl, rfl⟩
 ((conv=>whnf)<;>repeat(with_reducible refine D1 ?_)<;>conv=>whnf)
 exact ⟨[], [some 0], _, _, _, t3, rfl, rfl, rfl⟩
theorem idxUC (n : Int) (vs : List CF) (hl : vs.length < 1000000) (hn : ∀ c ∈ vs, c.nodes.length < 10000) : VC E0 58 1 [.sl 5 (vs.map encCF) false, .clo 39 [] [.ptr 0 0]] (stN n)
 (fun r o c' => ∃ i : Int, r = .s (.int .i64 i) ∧ c' = 1 ∧ o = stN n ∧ ((i = -1 ∧ ∀ v ∈ vs, standB n v = false) ∨ 0 ≤ i ∧ ∃ v ∈ vs, standB n v = true)) := by
 have hnm : ∀ {j : Nat} (h : j < vs.length), vs[j].nodes.length < 10000 := fun h => hn _ (List.getElem_mem h)
 refine VC.enterR L0 (show E0.func 58 = some Tryd.f58 by kernel_rfl) (fun _ _ => rfl) rfl rfl [] ?_
 ((conv=>whnf)<;>repeat(with_reducible refine D1 ?_)<;>conv=>whnf)
 refine ⟨fun k f o c' => ∃ j : Nat, j ≤ vs.length ∧ k = vs.length - j ∧ (∀ v ∈ vs.take j, standB n v = false) ∧ c' = 1 ∧ f = [(0, .sl 5 (vs.map encCF) false), (1, .clo 39 [] [.ptr 0 0]), (7, .s (.int .i64 vs.length)), (8, .s (.int .i64 j))] ∧ o = stN n, ⟨vs.length, ?_⟩, ?_⟩
 ·refine ⟨[], [some 0], ?_⟩
  iterate 3 constructor
  refine ⟨⟨?_, ?_, ?_⟩, ⟨0, Nat.zero_le _, rfl, by simp, rfl, rfl, rfl⟩⟩
  all_goals (repeat' first|with_reducible exact Lz.rfl|exact Lw.rfl|exact Lz.wrap (by omega)|(unfold goInt;with_reducible exact Lz.rfl)|exact flx _|constructor)
  all_goals first | exact Lz.of (by simp [goInt]) | exact Lz.rfl
 ·rintro k f1 o1 c1 ⟨j, hj, rfl, hb, rfl, rfl, rfl⟩
  ((conv=>whnf)<;>repeat(with_reducible refine D1 ?_)<;>conv=>whnf)
  (first|refine ⟨?_,?_⟩|refine nsplit ?_ ?_|refine bsplit ?_ ?_)<;>intro h<;>have hz_:=True.intro<;>clear hz_
  ·have h : j < vs.length := by simpa using h
   ((conv=>whnf)<;>repeat(with_reducible refine D1 ?_)<;>conv=>whnf)
   refine idxI h ?_
   ((conv=>whnf)<;>repeat(with_reducible refine D1 ?_)<;>conv=>whnf)
   refine ⟨[], [some 0], _, _, _, _, usedOneC n vs[j] (hnm h), t3, ?_⟩
   rintro r o' c' ⟨rfl, rfl, rfl⟩
   have hz_ := True.intro
   clear hz_
   cases hv : standB n vs[j]
   ·((conv=>whnf)<;>repeat(with_reducible refine D1 ?_)<;>conv=>whnf)
    refine ⟨vs.length - (j + 1), ?_, by omega⟩
    exact ⟨[], [some 0], _, _, _, t3, ⟨j + 1, h, rfl, by intro v hv'; rw [List.take_succ_eq_append_getElem h] at hv'; rcases List.mem_append.1 hv' with h1 | h1; exact hb v h1; simp at h1; subst h1; exact hv, rfl, rfl, rfl⟩⟩
   ·((conv=>whnf)<;>repeat(with_reducible refine D1 ?_)<;>conv=>whnf)
    exact ⟨[], [some 0], _, _, _, t3, (j : Int), rfl, rfl, rfl, .inr ⟨by omega, _, List.getElem_mem h, hv⟩⟩
  ·have h' : j = vs.length := by have : ¬ j < vs.length := by simpa using h
                                 omega
   subst h'
   rw [List.take_length] at hb
   ((conv=>whnf)<;>repeat(with_reducible refine D1 ?_)<;>conv=>whnf)
   exact ⟨[], [some 0], _, _, _, t3, -1, rfl, rfl, rfl, .inl ⟨rfl, hb⟩⟩
theorem containsUC (n : Int) (vs : List CF) (hl : vs.length < 1000000) (hn : ∀ c ∈ vs, c.nodes.length < 10000) : VC E0 38 1 [.sl 5 (vs.map encCF) false, .clo 39 [] [.ptr 0 0]] (stN n) (RR (.s (.bool (vs.any (standB n)))) 1 (stN n)) := by
 refine VC.enterR L0 (show E0.func 38 = some Tryd.f38 by kernel_rfl) (fun _ _ => rfl) rfl rfl [] ?_
 ((conv=>whnf)<;>repeat(with_reducible refine D1 ?_)<;>conv=>whnf)
 refine ⟨[], [some 0], _, _, _, _, idxUC n vs hl hn, t3, ?_⟩
 rintro r o' c' ⟨i, rfl, rfl, rfl, hi⟩
 ((conv=>whnf)<;>repeat(with_reducible refine D1 ?_)<;>conv=>whnf)
 (first|refine ⟨?_,?_⟩|refine nsplit ?_ ?_|refine bsplit ?_ ?_)<;>intro h<;>have hz_:=True.intro<;>clear hz_
 ·have h : i ≥ 0 := h
  ((conv=>whnf)<;>repeat(with_reducible refine D1 ?_)<;>conv=>whnf)
  refine ⟨[], [some 0], ?_⟩
  iterate 3 constructor
  refine ⟨⟨?_, ?_, ?_⟩, rfl, rfl, rfl⟩
  all_goals (repeat' first|with_reducible exact Lz.rfl|exact Lw.rfl|exact Lz.wrap (by omega)|(unfold goInt;with_reducible exact Lz.rfl)|exact flx _|constructor)
  refine Lz.of (bool_eq (Eq.symm ?_))
  rcases hi with ⟨e, _⟩ | ⟨_, v, hv, hs⟩
  ·omega
  ·exact List.any_eq_true.2 ⟨v, hv, hs⟩
 ·have h : ¬ i ≥ 0 := h
  ((conv=>whnf)<;>repeat(with_reducible refine D1 ?_)<;>conv=>whnf)
  refine ⟨[], [some 0], ?_⟩
  iterate 3 constructor
  refine ⟨⟨?_, ?_, ?_⟩, rfl, rfl, rfl⟩
  all_goals (repeat' first|with_reducible exact Lz.rfl|exact Lw.rfl|exact Lz.wrap (by omega)|(unfold goInt;with_reducible exact Lz.rfl)|exact flx _|constructor)
  refine Lz.of (bool_eq (Eq.symm ?_))
  rcases hi with ⟨_, hall⟩ | ⟨e, _⟩
  ·exact List.any_eq_false.2 fun v hv => by rw [hall v hv]; simp
  ·omega
theorem any_stand (l : List CF) (n : Int) : l.any (standB n) = decide (n ∈ allS l) := by
 rw [Bool.eq_iff_iff, List.any_eq_true, decide_eq_true_iff]
 unfold allS standB
 rw [List.mem_flatMap]
 exact ⟨fun ⟨x, h, q⟩ => ⟨x, h, of_decide_eq_true q⟩, fun ⟨x, h, q⟩ => ⟨x, h, decide_eq_true q⟩⟩
theorem used_ok (l : List CF) (n : Int) (hl : l.length < 10000) (hn : ∀ c ∈ l, c.nodes.length < 10000) : VC E0 20 0 [.sl 5 (l.map encCF) false, .s (.int .i64 n)] [] (RR (.s (.bool (decide (n ∈ allS l)))) 0 []) := by
 refine VC.enterR L0 (show E0.func 20 = some Tryd.f20 by kernel_rfl) (fun _ _ => rfl) rfl rfl [] ?_
 ((conv=>whnf)<;>repeat(with_reducible refine D1 ?_)<;>conv=>whnf)
 refine ⟨[], [some 0], _, _, _, _, containsUC n l (by omega) hn, t3, ?_⟩
 rintro r o' c' ⟨rfl, rfl, rfl⟩
 rw [any_stand]
 ((conv=>whnf)<;>repeat(with_reducible refine D1 ?_)<;>conv=>whnf)
 exact ⟨[], [], _, _, _, t3, rfl, rfl, rfl⟩
end Go.M
namespace Go.M
open Go Go.Proofs
set_option maxRecDepth 100000
set_option maxHeartbeats 2000000
def canK (l : List CF) (x : CF) (k n : Int) : Int :=
 if k = 1 then (if n ∉ standL x then 7 else if (settledL x).any (otherB n) = false then 12 else 0)
 else if k = 2 then (if n ∈ allS l then 8 else if x.join ≠ 0 ∨ x.fresh = true then 12 else if x.nodes.length ≥ 5 then 9 else 0)
 else if k = 3 then (if x.join ≠ n then 7 else if x.nodes.length ≥ 5 then 9 else 0)
 else (if x.fresh = false ∨ lastL x ≠ n then 7 else 0)
theorem without_any (l : List Int) (n : Int) : (withoutL l n).length = 0 ↔ l.any (otherB n) = false := by
 rw [List.length_eq_zero_iff, List.any_eq_false]
 unfold withoutL otherB
 rw [List.filter_eq_nil_iff]
theorem canR_eq {l : List CF} {x : CF} {c : Cmd} (hr : rightP x) : canR l x c = if canK l x c.kind c.node ≠ 0 then canK l x c.kind c.node else canF x := by
 have h5 := hr.2.2.1
 unfold canR canK
 by_cases k1 : c.kind = 1
 ·rw [if_pos k1, if_pos k1]
  by_cases a : c.node ∉ standL x
  ·rw [if_pos a, if_pos a]; rfl
  ·rw [if_neg a, if_neg a]
   by_cases b : (settledL x).any (otherB c.node) = false
   ·rw [if_pos b, if_pos ((without_any _ _).2 b)]; rfl
   ·rw [if_neg b, if_neg (mt (without_any _ _).1 b)]; rfl
 rw [if_neg k1, if_neg k1]
 by_cases k2 : c.kind = 2
 ·rw [if_pos k2, if_pos k2]
  by_cases a : c.node ∈ allS l
  ·rw [if_pos a, if_pos a]; rfl
  ·rw [if_neg a, if_neg a]
   by_cases b : x.join ≠ 0 ∨ x.fresh = true
   ·rw [if_pos b, if_pos b]; rfl
   ·rw [if_neg b, if_neg b]
    by_cases d : x.nodes.length ≥ 5
    ·rw [if_pos d, if_pos (by omega)]; rfl
    ·rw [if_neg d, if_neg (by omega)]; rfl
 rw [if_neg k2, if_neg k2]
 by_cases k3 : c.kind = 3
 ·rw [if_pos k3, if_pos k3]
  by_cases a : x.join ≠ c.node
  ·rw [if_pos a, if_pos a]; rfl
  ·rw [if_neg a, if_neg a]
   by_cases d : x.nodes.length ≥ 5
   ·rw [if_pos d, if_pos (by omega)]; rfl
   ·rw [if_neg d, if_neg (by omega)]; rfl
 rw [if_neg k3, if_neg k3]
 by_cases a : x.fresh = false ∨ lastL x ≠ c.node
 ·rw [if_pos a, if_pos a]; rfl
 ·rw [if_neg a, if_neg a]; rfl
theorem canRemove_ok (l : List CF) (x : CF) (n : Int) (hr : rightP x) : VC E0 48 0 [.sl 5 (l.map encCF) false, .agg (encCF x), .s (.int .i64 n)] [] (RR (.s (.int .i64 (canK l x 1 n))) 0 []) := by
 have h5 := hr.2.2.1
 have hsl := standL_len x
 have hC : canK l x 1 n = if n ∉ standL x then 7 else if (settledL x).any (otherB n) = false then 12 else 0 := by unfold canK; rw [if_pos rfl]
 refine VC.enterR L0 (show E0.func 48 = some Tryd.f48 by kernel_rfl) (fun _ _ => rfl) rfl rfl [] ?_
 ((conv=>whnf)<;>repeat(with_reducible refine D1 ?_)<;>conv=>whnf)
 refine ⟨[], [], _, _, _, _, everybodyC x (by omega), t3, ?_⟩
 rintro r o' c' ⟨rfl, rfl, rfl⟩
 ((conv=>whnf)<;>repeat(with_reducible refine D1 ?_)<;>conv=>whnf)
 refine ⟨[2], [], _, _, _, _, containsI_ok (standL x) n (by omega), t3, ?_⟩
 rintro r o' c' ⟨rfl, rfl, rfl⟩
 by_cases hm : n ∈ standL x
 ·rw [if_neg (fun q => q hm)] at hC
  rw [decide_eq_true hm]
  ((conv=>whnf)<;>repeat(with_reducible refine D1 ?_)<;>conv=>whnf)
  have hsn : (settledL x).length ≤ x.nodes.length := by unfold settledL; split <;> simp
  refine ⟨[], [], _, _, _, _, settled_ok x h5, t3, ?_⟩
  rintro r o' c' ⟨rfl, rfl, rfl⟩
  ((conv=>whnf)<;>repeat(with_reducible refine D1 ?_)<;>conv=>whnf)
  refine ⟨[3], [some 1], _, _, _, _, containsO_ok n (settledL x) (by omega), t3, ?_⟩
  rintro r o' c' ⟨rfl, rfl, rfl⟩
  by_cases ha : (settledL x).any (otherB n) = true
  ·rw [if_neg (by rw [ha]; decide)] at hC
   rw [ha]
   ((conv=>whnf)<;>repeat(with_reducible refine D1 ?_)<;>conv=>whnf)
   refine ⟨[], [], ?_⟩
   iterate 3 constructor
   refine ⟨⟨?_, ?_, ?_⟩, rfl, rfl, rfl⟩
   all_goals (repeat' first|with_reducible exact Lz.rfl|exact Lw.rfl|exact Lz.wrap (by omega)|(unfold goInt;with_reducible exact Lz.rfl)|exact flx _|constructor)
   exact Lz.int hC.symm
  ·rw [if_pos (Bool.eq_false_iff.2 ha)] at hC
   rw [Bool.eq_false_iff.2 ha]
   ((conv=>whnf)<;>repeat(with_reducible refine D1 ?_)<;>conv=>whnf)
   refine ⟨[], [], ?_⟩
   iterate 3 constructor
   refine ⟨⟨?_, ?_, ?_⟩, rfl, rfl, rfl⟩
   all_goals (repeat' first|with_reducible exact Lz.rfl|exact Lw.rfl|exact Lz.wrap (by omega)|(unfold goInt;with_reducible exact Lz.rfl)|exact flx _|constructor)
   exact Lz.int hC.symm
 ·rw [if_pos hm] at hC
  rw [decide_eq_false hm]
  ((conv=>whnf)<;>repeat(with_reducible refine D1 ?_)<;>conv=>whnf)
  refine ⟨[], [], ?_⟩
  iterate 3 constructor
  refine ⟨⟨?_, ?_, ?_⟩, rfl, rfl, rfl⟩
  all_goals (repeat' first|with_reducible exact Lz.rfl|exact Lw.rfl|exact Lz.wrap (by omega)|(unfold goInt;with_reducible exact Lz.rfl)|exact flx _|constructor)
  exact Lz.int hC.symm
theorem canAppend_ok (l : List CF) (x : CF) (n : Int) (hl : l.length < 10000) (hn : ∀ c ∈ l, c.nodes.length < 10000) : VC E0 50 0 [.sl 5 (l.map encCF) false, .agg (encCF x), .s (.int .i64 n)] [] (RR (.s (.int .i64 (canK l x 2 n))) 0 []) := by
 have hC : canK l x 2 n = if n ∈ allS l then 8 else if x.join ≠ 0 ∨ x.fresh = true then 12 else if x.nodes.length ≥ 5 then 9 else 0 := by unfold canK; rw [if_neg (by decide), if_pos rfl]
 refine VC.enterR L0 (show E0.func 50 = some Tryd.f50 by kernel_rfl) (fun _ _ => rfl) rfl rfl [] ?_
 ((conv=>whnf)<;>repeat(with_reducible refine D1 ?_)<;>conv=>whnf)
 refine ⟨[], [], _, _, _, _, used_ok l n hl hn, t3, ?_⟩
 rintro r o' c' ⟨rfl, rfl, rfl⟩
 by_cases hm : n ∈ allS l
 ·rw [if_pos hm] at hC
  rw [decide_eq_true hm]
  ((conv=>whnf)<;>repeat(with_reducible refine D1 ?_)<;>conv=>whnf)
  refine ⟨[], [], ?_⟩
  iterate 3 constructor
  refine ⟨⟨?_, ?_, ?_⟩, rfl, rfl, rfl⟩
  all_goals (repeat' first|with_reducible exact Lz.rfl|exact Lw.rfl|exact Lz.wrap (by omega)|(unfold goInt;with_reducible exact Lz.rfl)|exact flx _|constructor)
  exact Lz.int hC.symm
 ·rw [if_neg hm] at hC
  rw [decide_eq_false hm]
  ((conv=>whnf)<;>repeat(with_reducible refine D1 ?_)<;>conv=>whnf)
  (first|refine ⟨?_,?_⟩|refine nsplit ?_ ?_|refine bsplit ?_ ?_)<;>intro hj<;>have hz_:=True.intro<;>clear hz_
  ·have hj : x.join ≠ 0 := hj
   rw [if_pos (.inl hj)] at hC
   ((conv=>whnf)<;>repeat(with_reducible refine D1 ?_)<;>conv=>whnf)
   refine ⟨[], [], ?_⟩
   iterate 3 constructor
   refine ⟨⟨?_, ?_, ?_⟩, rfl, rfl, rfl⟩
   all_goals (repeat' first|with_reducible exact Lz.rfl|exact Lw.rfl|exact Lz.wrap (by omega)|(unfold goInt;with_reducible exact Lz.rfl)|exact flx _|constructor)
   exact Lz.int hC.symm
  ·have hj : x.join = 0 := Classical.not_not.1 hj
   ((conv=>whnf)<;>repeat(with_reducible refine D1 ?_)<;>conv=>whnf)
   cases hf : x.fresh
   ·rw [if_neg (by rw [hj, hf]; simp)] at hC
    ((conv=>whnf)<;>repeat(with_reducible refine D1 ?_)<;>conv=>whnf)
    (first|refine ⟨?_,?_⟩|refine nsplit ?_ ?_|refine bsplit ?_ ?_)<;>intro hz<;>have hz_:=True.intro<;>clear hz_
    ·have hz : (((x.nodes.map encI1).length : Nat) : Int) ≥ 5 := hz
     rw [List.length_map] at hz
     rw [if_pos (by omega)] at hC
     ((conv=>whnf)<;>repeat(with_reducible refine D1 ?_)<;>conv=>whnf)
     refine ⟨[], [], ?_⟩
     iterate 3 constructor
     refine ⟨⟨?_, ?_, ?_⟩, rfl, rfl, rfl⟩
     all_goals (repeat' first|with_reducible exact Lz.rfl|exact Lw.rfl|exact Lz.wrap (by omega)|(unfold goInt;with_reducible exact Lz.rfl)|exact flx _|constructor)
     exact Lz.int hC.symm
    ·have hz : ¬ (((x.nodes.map encI1).length : Nat) : Int) ≥ 5 := hz
     rw [List.length_map] at hz
     rw [if_neg (by omega)] at hC
     ((conv=>whnf)<;>repeat(with_reducible refine D1 ?_)<;>conv=>whnf)
     refine ⟨[], [], ?_⟩
     iterate 3 constructor
     refine ⟨⟨?_, ?_, ?_⟩, rfl, rfl, rfl⟩
     all_goals (repeat' first|with_reducible exact Lz.rfl|exact Lw.rfl|exact Lz.wrap (by omega)|(unfold goInt;with_reducible exact Lz.rfl)|exact flx _|constructor)
     exact Lz.int hC.symm
   ·rw [if_pos (.inr hf)] at hC
    ((conv=>whnf)<;>repeat(with_reducible refine D1 ?_)<;>conv=>whnf)
    refine ⟨[], [], ?_⟩
    iterate 3 constructor
    refine ⟨⟨?_, ?_, ?_⟩, rfl, rfl, rfl⟩
    all_goals (repeat' first|with_reducible exact Lz.rfl|exact Lw.rfl|exact Lz.wrap (by omega)|(unfold goInt;with_reducible exact Lz.rfl)|exact flx _|constructor)
    exact Lz.int hC.symm
theorem canPromote_ok (l : List CF) (x : CF) (n : Int) : VC E0 52 0 [.sl 5 (l.map encCF) false, .agg (encCF x), .s (.int .i64 n)] [] (RR (.s (.int .i64 (canK l x 3 n))) 0 []) := by
 have hC : canK l x 3 n = if x.join ≠ n then 7 else if x.nodes.length ≥ 5 then 9 else 0 := by unfold canK; rw [if_neg (by decide), if_neg (by decide), if_pos rfl]
 refine VC.enterR L0 (show E0.func 52 = some Tryd.f52 by kernel_rfl) (fun _ _ => rfl) rfl rfl [] ?_
 ((conv=>whnf)<;>repeat(with_reducible refine D1 ?_)<;>conv=>whnf)
 (first|refine ⟨?_,?_⟩|refine nsplit ?_ ?_|refine bsplit ?_ ?_)<;>intro hj<;>have hz_:=True.intro<;>clear hz_
 ·have hj : x.join ≠ n := hj
  rw [if_pos hj] at hC
  ((conv=>whnf)<;>repeat(with_reducible refine D1 ?_)<;>conv=>whnf)
  refine ⟨[], [], ?_⟩
  iterate 3 constructor
  refine ⟨⟨?_, ?_, ?_⟩, rfl, rfl, rfl⟩
  all_goals (repeat' first|with_reducible exact Lz.rfl|exact Lw.rfl|exact Lz.wrap (by omega)|(unfold goInt;with_reducible exact Lz.rfl)|exact flx _|constructor)
  exact Lz.int hC.symm
 ·have hj : ¬ x.join ≠ n := hj
  rw [if_neg hj] at hC
  ((conv=>whnf)<;>repeat(with_reducible refine D1 ?_)<;>conv=>whnf)
  (first|refine ⟨?_,?_⟩|refine nsplit ?_ ?_|refine bsplit ?_ ?_)<;>intro hz<;>have hz_:=True.intro<;>clear hz_
  ·have hz : (((x.nodes.map encI1).length : Nat) : Int) ≥ 5 := hz
   rw [List.length_map] at hz
   rw [if_pos (by omega)] at hC
   ((conv=>whnf)<;>repeat(with_reducible refine D1 ?_)<;>conv=>whnf)
   refine ⟨[], [], ?_⟩
   iterate 3 constructor
   refine ⟨⟨?_, ?_, ?_⟩, rfl, rfl, rfl⟩
   all_goals (repeat' first|with_reducible exact Lz.rfl|exact Lw.rfl|exact Lz.wrap (by omega)|(unfold goInt;with_reducible exact Lz.rfl)|exact flx _|constructor)
   exact Lz.int hC.symm
  ·have hz : ¬ (((x.nodes.map encI1).length : Nat) : Int) ≥ 5 := hz
   rw [List.length_map] at hz
   rw [if_neg (by omega)] at hC
   ((conv=>whnf)<;>repeat(with_reducible refine D1 ?_)<;>conv=>whnf)
   refine ⟨[], [], ?_⟩
   iterate 3 constructor
   refine ⟨⟨?_, ?_, ?_⟩, rfl, rfl, rfl⟩
   all_goals (repeat' first|with_reducible exact Lz.rfl|exact Lw.rfl|exact Lz.wrap (by omega)|(unfold goInt;with_reducible exact Lz.rfl)|exact flx _|constructor)
   exact Lz.int hC.symm
theorem canSettle_ok (l : List CF) (x : CF) (k n : Int) (hr : rightP x) (k1 : k ≠ 1) (k2 : k ≠ 2) (k3 : k ≠ 3) : VC E0 54 0 [.sl 5 (l.map encCF) false, .agg (encCF x), .s (.int .i64 n)] [] (RR (.s (.int .i64 (canK l x k n))) 0 []) := by
 have hC : canK l x k n = if x.fresh = false ∨ lastL x ≠ n then 7 else 0 := by unfold canK; rw [if_neg k1, if_neg k2, if_neg k3]
 refine VC.enterR L0 (show E0.func 54 = some Tryd.f54 by kernel_rfl) (fun _ _ => rfl) rfl rfl [] ?_
 ((conv=>whnf)<;>repeat(with_reducible refine D1 ?_)<;>conv=>whnf)
 cases hf : x.fresh
 ·rw [if_pos (.inl hf)] at hC
  ((conv=>whnf)<;>repeat(with_reducible refine D1 ?_)<;>conv=>whnf)
  refine ⟨[], [], ?_⟩
  iterate 3 constructor
  refine ⟨⟨?_, ?_, ?_⟩, rfl, rfl, rfl⟩
  all_goals (repeat' first|with_reducible exact Lz.rfl|exact Lw.rfl|exact Lz.wrap (by omega)|(unfold goInt;with_reducible exact Lz.rfl)|exact flx _|constructor)
  exact Lz.int hC.symm
 ·((conv=>whnf)<;>repeat(with_reducible refine D1 ?_)<;>conv=>whnf)
  refine ⟨[], [], _, _, _, _, last_ok x hr.2.2.1, ⟨by ((repeat' first|with_reducible exact Lz.rfl|exact Lw.rfl|exact Lz.wrap (by omega)|(unfold goInt;with_reducible exact Lz.rfl)|exact flx _|constructor); all_goals (exact Lz.of (bool_eq hf.symm))), by ((repeat' first|with_reducible exact Lz.rfl|exact Lw.rfl|exact Lz.wrap (by omega)|(unfold goInt;with_reducible exact Lz.rfl)|exact flx _|constructor); all_goals (exact Lz.of (bool_eq hf.symm))), by rfl⟩, ?_⟩
  rintro r o' c' ⟨rfl, rfl, rfl⟩
  ((conv=>whnf)<;>repeat(with_reducible refine D1 ?_)<;>conv=>whnf)
  (first|refine ⟨?_,?_⟩|refine nsplit ?_ ?_|refine bsplit ?_ ?_)<;>intro hla<;>have hz_:=True.intro<;>clear hz_
  ·have hla : lastL x ≠ n := hla
   rw [if_pos (.inr hla)] at hC
   ((conv=>whnf)<;>repeat(with_reducible refine D1 ?_)<;>conv=>whnf)
   refine ⟨[], [], ?_⟩
   iterate 3 constructor
   refine ⟨⟨?_, ?_, ?_⟩, rfl, rfl, rfl⟩
   all_goals (repeat' first|with_reducible exact Lz.rfl|exact Lw.rfl|exact Lz.wrap (by omega)|(unfold goInt;with_reducible exact Lz.rfl)|exact flx _|constructor)
   exact Lz.int hC.symm
  ·have hla : ¬ lastL x ≠ n := hla
   rw [if_neg (by rw [hf]; simpa using hla)] at hC
   ((conv=>whnf)<;>repeat(with_reducible refine D1 ?_)<;>conv=>whnf)
   refine ⟨[], [], ?_⟩
   iterate 3 constructor
   refine ⟨⟨?_, ?_, ?_⟩, rfl, rfl, rfl⟩
   all_goals (repeat' first|with_reducible exact Lz.rfl|exact Lw.rfl|exact Lz.wrap (by omega)|(unfold goInt;with_reducible exact Lz.rfl)|exact flx _|constructor)
   exact Lz.int hC.symm
theorem of1_ok : VC E0 29 0 [.s (.int .i64 1)] [] (RR (.agg [.clo 48 [] [], .clo 49 [] []]) 0 []) := by
 refine VC.enterR L0 (show E0.func 29 = some Tryd.f29 by kernel_rfl) (fun _ _ => rfl) rfl rfl [] ?_
 ((conv=>whnf)<;>repeat(with_reducible refine D1 ?_)<;>conv=>whnf)
 repeat ((first | (refine ⟨fun h_ => ?_, fun h_ => ?_⟩) | (refine nsplit (fun h_ => ?_) (fun h_ => ?_)) | (refine bsplit (fun h_ => ?_) (fun h_ => ?_))) <;> first | (exfalso; revert h_; decide; done) | (exact absurd rfl h_) | (have hz_ := True.intro; clear hz_; ((conv=>whnf)<;>repeat(with_reducible refine D1 ?_)<;>conv=>whnf)))
 exact ⟨[], [], _, _, _, t3, rfl, rfl, rfl⟩
theorem of2_ok : VC E0 29 0 [.s (.int .i64 2)] [] (RR (.agg [.clo 50 [] [], .clo 51 [] []]) 0 []) := by
 refine VC.enterR L0 (show E0.func 29 = some Tryd.f29 by kernel_rfl) (fun _ _ => rfl) rfl rfl [] ?_
 ((conv=>whnf)<;>repeat(with_reducible refine D1 ?_)<;>conv=>whnf)
 repeat ((first | (refine ⟨fun h_ => ?_, fun h_ => ?_⟩) | (refine nsplit (fun h_ => ?_) (fun h_ => ?_)) | (refine bsplit (fun h_ => ?_) (fun h_ => ?_))) <;> first | (exfalso; revert h_; decide; done) | (exact absurd rfl h_) | (have hz_ := True.intro; clear hz_; ((conv=>whnf)<;>repeat(with_reducible refine D1 ?_)<;>conv=>whnf)))
 exact ⟨[], [], _, _, _, t3, rfl, rfl, rfl⟩
theorem of3_ok : VC E0 29 0 [.s (.int .i64 3)] [] (RR (.agg [.clo 52 [] [], .clo 53 [] []]) 0 []) := by
 refine VC.enterR L0 (show E0.func 29 = some Tryd.f29 by kernel_rfl) (fun _ _ => rfl) rfl rfl [] ?_
 ((conv=>whnf)<;>repeat(with_reducible refine D1 ?_)<;>conv=>whnf)
 repeat ((first | (refine ⟨fun h_ => ?_, fun h_ => ?_⟩) | (refine nsplit (fun h_ => ?_) (fun h_ => ?_)) | (refine bsplit (fun h_ => ?_) (fun h_ => ?_))) <;> first | (exfalso; revert h_; decide; done) | (exact absurd rfl h_) | (have hz_ := True.intro; clear hz_; ((conv=>whnf)<;>repeat(with_reducible refine D1 ?_)<;>conv=>whnf)))
 exact ⟨[], [], _, _, _, t3, rfl, rfl, rfl⟩
theorem of4_ok (k : Int) (k1 : k ≠ 1) (k2 : k ≠ 2) (k3 : k ≠ 3) : VC E0 29 0 [.s (.int .i64 k)] [] (RR (.agg [.clo 54 [] [], .clo 55 [] []]) 0 []) := by
 refine VC.enterR L0 (show E0.func 29 = some Tryd.f29 by kernel_rfl) (fun _ _ => rfl) rfl rfl [] ?_
 ((conv=>whnf)<;>repeat(with_reducible refine D1 ?_)<;>conv=>whnf)
 (first|refine ⟨?_,?_⟩|refine nsplit ?_ ?_|refine bsplit ?_ ?_)<;>intro h<;>have hz_:=True.intro<;>clear hz_
 ·exact absurd h k1
 ((conv=>whnf)<;>repeat(with_reducible refine D1 ?_)<;>conv=>whnf)
 (first|refine ⟨?_,?_⟩|refine nsplit ?_ ?_|refine bsplit ?_ ?_)<;>intro h<;>have hz_:=True.intro<;>clear hz_
 ·exact absurd h k2
 ((conv=>whnf)<;>repeat(with_reducible refine D1 ?_)<;>conv=>whnf)
 (first|refine ⟨?_,?_⟩|refine nsplit ?_ ?_|refine bsplit ?_ ?_)<;>intro h<;>have hz_:=True.intro<;>clear hz_
 ·exact absurd h k3
 ((conv=>whnf)<;>repeat(with_reducible refine D1 ?_)<;>conv=>whnf)
 exact ⟨[], [], _, _, _, t3, rfl, rfl, rfl⟩
end Go.M
namespace Go.M
open Go Go.Proofs
set_option maxRecDepth 100000
set_option maxHeartbeats 4000000
open Classical in
theorem can_ok (l : List CF) (c : Cmd) : VC E0 8 0 [.sl 5 (l.map encCF) false, cT4 c] [] (RR (.s (.int .i64 (canL l c))) 0 []) := by
 refine VC.enterR L0 (show E0.func 8 = some Tryd.f8 by kernel_rfl) (fun _ _ => rfl) rfl rfl [] ?_
 ((conv=>whnf)<;>repeat(with_reducible refine D1 ?_)<;>conv=>whnf)
 refine ⟨[], [], _, _, _, _, all_okC l, t3, ?_⟩
 rintro r o' c' ⟨rfl, rfl, rfl⟩
 by_cases ha : allP l
 rotate_left
 ·rw [decide_eq_false ha]
  ((conv=>whnf)<;>repeat(with_reducible refine D1 ?_)<;>conv=>whnf)
  refine ⟨[], [], ?_⟩
  iterate 3 constructor
  refine ⟨⟨?_, ?_, ?_⟩, rfl, rfl, rfl⟩
  all_goals (repeat' first|with_reducible exact Lz.rfl|exact Lw.rfl|exact Lz.wrap (by omega)|(unfold goInt;with_reducible exact Lz.rfl)|exact flx _|constructor)
  exact Lz.int (by unfold canL; rw [if_pos ha])
 rw [decide_eq_true ha]
 ((conv=>whnf)<;>repeat(with_reducible refine D1 ?_)<;>conv=>whnf)
 refine ⟨[], [], _, _, _, _, check_ok c.kind c.chain c.epoch c.node, t3, ?_⟩
 rintro r o' c' ⟨rfl, rfl, rfl⟩
 ((conv=>whnf)<;>repeat(with_reducible refine D1 ?_)<;>conv=>whnf)
 (first|refine ⟨?_,?_⟩|refine nsplit ?_ ?_|refine bsplit ?_ ?_)<;>intro hk<;>have hz_:=True.intro<;>clear hz_
 ·have hk : c.check ≠ 0 := hk
  ((conv=>whnf)<;>repeat(with_reducible refine D1 ?_)<;>conv=>whnf)
  refine ⟨[], [], ?_⟩
  iterate 3 constructor
  refine ⟨⟨?_, ?_, ?_⟩, rfl, rfl, rfl⟩
  all_goals (repeat' first|with_reducible exact Lz.rfl|exact Lw.rfl|exact Lz.wrap (by omega)|(unfold goInt;with_reducible exact Lz.rfl)|exact flx _|constructor)
  exact Lz.int (by unfold canL; rw [if_neg (fun q => q ha), if_pos hk]; rfl)
 have hk : c.check = 0 := Classical.not_not.1 hk
 ((conv=>whnf)<;>repeat(with_reducible refine D1 ?_)<;>conv=>whnf)
 (first|refine ⟨?_,?_⟩|refine nsplit ?_ ?_|refine bsplit ?_ ?_)<;>intro h0<;>have hz_:=True.intro<;>clear hz_
 ·have h0 : c.kind = 0 := h0
  ((conv=>whnf)<;>repeat(with_reducible refine D1 ?_)<;>conv=>whnf)
  refine ⟨[], [], ?_⟩
  iterate 3 constructor
  refine ⟨⟨?_, ?_, ?_⟩, rfl, rfl, rfl⟩
  all_goals (repeat' first|with_reducible exact Lz.rfl|exact Lw.rfl|exact Lz.wrap (by omega)|(unfold goInt;with_reducible exact Lz.rfl)|exact flx _|constructor)
  exact Lz.int (by unfold canL; rw [if_neg (fun q => q ha), if_neg (fun q => q hk), if_pos h0]; exact hk)
 have h0 : ¬ c.kind = 0 := h0
 have hrg := check_rng hk h0
 have hl4 := ha.1.2
 ((conv=>whnf)<;>repeat(with_reducible refine D1 ?_)<;>conv=>whnf)
 (first|refine ⟨?_,?_⟩|refine nsplit ?_ ?_|refine bsplit ?_ ?_)<;>intro h1<;>have hz_:=True.intro<;>clear hz_
 ·have h1 : c.chain ≥ (((l.map encCF).length : Nat) : Int) := h1
  rw [List.length_map] at h1
  have hnone : l[c.chain.toNat]? = none := List.getElem?_eq_none (by omega)
  ((conv=>whnf)<;>repeat(with_reducible refine D1 ?_)<;>conv=>whnf)
  refine ⟨[], [], ?_⟩
  iterate 3 constructor
  refine ⟨⟨?_, ?_, ?_⟩, rfl, rfl, rfl⟩
  all_goals (repeat' first|with_reducible exact Lz.rfl|exact Lw.rfl|exact Lz.wrap (by omega)|(unfold goInt;with_reducible exact Lz.rfl)|exact flx _|constructor)
  exact Lz.int (by unfold canL; rw [if_neg (fun q => q ha), if_neg (fun q => q hk), if_neg h0, hnone])
 have h1 : ¬ c.chain ≥ (((l.map encCF).length : Nat) : Int) := h1
 rw [List.length_map] at h1
 have hlt : c.chain.toNat < l.length := by omega
 have hsome : l[c.chain.toNat]? = some l[c.chain.toNat] := List.getElem?_eq_getElem hlt
 have hr := allP_in ha (List.getElem_mem hlt)
 have hC : canL l c = if l[c.chain.toNat].epoch ≠ c.epoch then 10 else canR l l[c.chain.toNat] c := by unfold canL; rw [if_neg (fun q => q ha), if_neg (fun q => q hk), if_neg h0, hsome]
 rw [canR_eq hr] at hC
 ((conv=>whnf)<;>repeat(with_reducible refine D1 ?_)<;>conv=>whnf)
 refine idxI' hrg.1 hlt ?_
 ((conv=>whnf)<;>repeat(with_reducible refine D1 ?_)<;>conv=>whnf)
 (first|refine ⟨?_,?_⟩|refine nsplit ?_ ?_|refine bsplit ?_ ?_)<;>intro h2<;>have hz_:=True.intro<;>clear hz_
 ·have h2 : l[c.chain.toNat].epoch ≠ c.epoch := h2
  rw [if_pos h2] at hC
  ((conv=>whnf)<;>repeat(with_reducible refine D1 ?_)<;>conv=>whnf)
  refine ⟨[], [], ?_⟩
  iterate 3 constructor
  refine ⟨⟨?_, ?_, ?_⟩, rfl, rfl, rfl⟩
  all_goals (repeat' first|with_reducible exact Lz.rfl|exact Lw.rfl|exact Lz.wrap (by omega)|(unfold goInt;with_reducible exact Lz.rfl)|exact flx _|constructor)
  exact Lz.int hC.symm
 have h2 : ¬ l[c.chain.toNat].epoch ≠ c.epoch := h2
 rw [if_neg h2] at hC
 ((conv=>whnf)<;>repeat(with_reducible refine D1 ?_)<;>conv=>whnf)
 by_cases k1 : c.kind = 1
 ·rw [k1] at hC
  refine ⟨[], [], _, _, _, _, of1_ok, ⟨by ((repeat' first|with_reducible exact Lz.rfl|exact Lw.rfl|exact Lz.wrap (by omega)|(unfold goInt;with_reducible exact Lz.rfl)|exact flx _|constructor); all_goals (exact Lz.int k1)), by ((repeat' first|with_reducible exact Lz.rfl|exact Lw.rfl|exact Lz.wrap (by omega)|(unfold goInt;with_reducible exact Lz.rfl)|exact flx _|constructor); all_goals (exact Lz.int k1)), by rfl⟩, ?_⟩
  rintro r o' c' ⟨rfl, rfl, rfl⟩
  ((conv=>whnf)<;>repeat(with_reducible refine D1 ?_)<;>conv=>whnf)
  refine ⟨[], [], _, _, _, _, canRemove_ok l l[c.chain.toNat] c.node hr, t3, ?_⟩
  rintro r o' c' ⟨rfl, rfl, rfl⟩
  ((conv=>whnf)<;>repeat(with_reducible refine D1 ?_)<;>conv=>whnf)
  (first|refine ⟨?_,?_⟩|refine nsplit ?_ ?_|refine bsplit ?_ ?_)<;>intro he<;>have hz_:=True.intro<;>clear hz_
  ·have he : canK l l[c.chain.toNat] 1 c.node ≠ 0 := he
   rw [if_pos he] at hC
   ((conv=>whnf)<;>repeat(with_reducible refine D1 ?_)<;>conv=>whnf)
   refine ⟨[], [], ?_⟩
   iterate 3 constructor
   refine ⟨⟨?_, ?_, ?_⟩, rfl, rfl, rfl⟩
   all_goals (repeat' first|with_reducible exact Lz.rfl|exact Lw.rfl|exact Lz.wrap (by omega)|(unfold goInt;with_reducible exact Lz.rfl)|exact flx _|constructor)
   exact Lz.int hC.symm
  ·have he : ¬ canK l l[c.chain.toNat] 1 c.node ≠ 0 := he
   rw [if_neg he] at hC
   ((conv=>whnf)<;>repeat(with_reducible refine D1 ?_)<;>conv=>whnf)
   (first|refine ⟨?_,?_⟩|refine nsplit ?_ ?_|refine bsplit ?_ ?_)<;>intro hm<;>have hz_:=True.intro<;>clear hz_
   ·have hm : l[c.chain.toNat].epoch = 18446744073709551615 := hm
    ((conv=>whnf)<;>repeat(with_reducible refine D1 ?_)<;>conv=>whnf)
    refine ⟨[], [], ?_⟩
    iterate 3 constructor
    refine ⟨⟨?_, ?_, ?_⟩, rfl, rfl, rfl⟩
    all_goals (repeat' first|with_reducible exact Lz.rfl|exact Lw.rfl|exact Lz.wrap (by omega)|(unfold goInt;with_reducible exact Lz.rfl)|exact flx _|constructor)
    exact Lz.int (by rw [hC]; unfold canF; rw [if_pos hm])
   ·have hm : ¬ l[c.chain.toNat].epoch = 18446744073709551615 := hm
    ((conv=>whnf)<;>repeat(with_reducible refine D1 ?_)<;>conv=>whnf)
    refine ⟨[], [], ?_⟩
    iterate 3 constructor
    refine ⟨⟨?_, ?_, ?_⟩, rfl, rfl, rfl⟩
    all_goals (repeat' first|with_reducible exact Lz.rfl|exact Lw.rfl|exact Lz.wrap (by omega)|(unfold goInt;with_reducible exact Lz.rfl)|exact flx _|constructor)
    exact Lz.int (by rw [hC]; unfold canF; rw [if_neg hm])
 by_cases k2 : c.kind = 2
 ·rw [k2] at hC
  refine ⟨[], [], _, _, _, _, of2_ok, ⟨by ((repeat' first|with_reducible exact Lz.rfl|exact Lw.rfl|exact Lz.wrap (by omega)|(unfold goInt;with_reducible exact Lz.rfl)|exact flx _|constructor); all_goals (exact Lz.int k2)), by ((repeat' first|with_reducible exact Lz.rfl|exact Lw.rfl|exact Lz.wrap (by omega)|(unfold goInt;with_reducible exact Lz.rfl)|exact flx _|constructor); all_goals (exact Lz.int k2)), by rfl⟩, ?_⟩
  rintro r o' c' ⟨rfl, rfl, rfl⟩
  ((conv=>whnf)<;>repeat(with_reducible refine D1 ?_)<;>conv=>whnf)
  refine ⟨[], [], _, _, _, _, canAppend_ok l l[c.chain.toNat] c.node (by omega) (fun x hx => by have := (allP_in ha hx).2.2.1; omega), t3, ?_⟩
  rintro r o' c' ⟨rfl, rfl, rfl⟩
  ((conv=>whnf)<;>repeat(with_reducible refine D1 ?_)<;>conv=>whnf)
  (first|refine ⟨?_,?_⟩|refine nsplit ?_ ?_|refine bsplit ?_ ?_)<;>intro he<;>have hz_:=True.intro<;>clear hz_
  ·have he : canK l l[c.chain.toNat] 2 c.node ≠ 0 := he
   rw [if_pos he] at hC
   ((conv=>whnf)<;>repeat(with_reducible refine D1 ?_)<;>conv=>whnf)
   refine ⟨[], [], ?_⟩
   iterate 3 constructor
   refine ⟨⟨?_, ?_, ?_⟩, rfl, rfl, rfl⟩
   all_goals (repeat' first|with_reducible exact Lz.rfl|exact Lw.rfl|exact Lz.wrap (by omega)|(unfold goInt;with_reducible exact Lz.rfl)|exact flx _|constructor)
   exact Lz.int hC.symm
  ·have he : ¬ canK l l[c.chain.toNat] 2 c.node ≠ 0 := he
   rw [if_neg he] at hC
   ((conv=>whnf)<;>repeat(with_reducible refine D1 ?_)<;>conv=>whnf)
   (first|refine ⟨?_,?_⟩|refine nsplit ?_ ?_|refine bsplit ?_ ?_)<;>intro hm<;>have hz_:=True.intro<;>clear hz_
   ·have hm : l[c.chain.toNat].epoch = 18446744073709551615 := hm
    ((conv=>whnf)<;>repeat(with_reducible refine D1 ?_)<;>conv=>whnf)
    refine ⟨[], [], ?_⟩
    iterate 3 constructor
    refine ⟨⟨?_, ?_, ?_⟩, rfl, rfl, rfl⟩
    all_goals (repeat' first|with_reducible exact Lz.rfl|exact Lw.rfl|exact Lz.wrap (by omega)|(unfold goInt;with_reducible exact Lz.rfl)|exact flx _|constructor)
    exact Lz.int (by rw [hC]; unfold canF; rw [if_pos hm])
   ·have hm : ¬ l[c.chain.toNat].epoch = 18446744073709551615 := hm
    ((conv=>whnf)<;>repeat(with_reducible refine D1 ?_)<;>conv=>whnf)
    refine ⟨[], [], ?_⟩
    iterate 3 constructor
    refine ⟨⟨?_, ?_, ?_⟩, rfl, rfl, rfl⟩
    all_goals (repeat' first|with_reducible exact Lz.rfl|exact Lw.rfl|exact Lz.wrap (by omega)|(unfold goInt;with_reducible exact Lz.rfl)|exact flx _|constructor)
    exact Lz.int (by rw [hC]; unfold canF; rw [if_neg hm])
 by_cases k3 : c.kind = 3
 ·rw [k3] at hC
  refine ⟨[], [], _, _, _, _, of3_ok, ⟨by ((repeat' first|with_reducible exact Lz.rfl|exact Lw.rfl|exact Lz.wrap (by omega)|(unfold goInt;with_reducible exact Lz.rfl)|exact flx _|constructor); all_goals (exact Lz.int k3)), by ((repeat' first|with_reducible exact Lz.rfl|exact Lw.rfl|exact Lz.wrap (by omega)|(unfold goInt;with_reducible exact Lz.rfl)|exact flx _|constructor); all_goals (exact Lz.int k3)), by rfl⟩, ?_⟩
  rintro r o' c' ⟨rfl, rfl, rfl⟩
  ((conv=>whnf)<;>repeat(with_reducible refine D1 ?_)<;>conv=>whnf)
  refine ⟨[], [], _, _, _, _, canPromote_ok l l[c.chain.toNat] c.node, t3, ?_⟩
  rintro r o' c' ⟨rfl, rfl, rfl⟩
  ((conv=>whnf)<;>repeat(with_reducible refine D1 ?_)<;>conv=>whnf)
  (first|refine ⟨?_,?_⟩|refine nsplit ?_ ?_|refine bsplit ?_ ?_)<;>intro he<;>have hz_:=True.intro<;>clear hz_
  ·have he : canK l l[c.chain.toNat] 3 c.node ≠ 0 := he
   rw [if_pos he] at hC
   ((conv=>whnf)<;>repeat(with_reducible refine D1 ?_)<;>conv=>whnf)
   refine ⟨[], [], ?_⟩
   iterate 3 constructor
   refine ⟨⟨?_, ?_, ?_⟩, rfl, rfl, rfl⟩
   all_goals (repeat' first|with_reducible exact Lz.rfl|exact Lw.rfl|exact Lz.wrap (by omega)|(unfold goInt;with_reducible exact Lz.rfl)|exact flx _|constructor)
   exact Lz.int hC.symm
  ·have he : ¬ canK l l[c.chain.toNat] 3 c.node ≠ 0 := he
   rw [if_neg he] at hC
   ((conv=>whnf)<;>repeat(with_reducible refine D1 ?_)<;>conv=>whnf)
   (first|refine ⟨?_,?_⟩|refine nsplit ?_ ?_|refine bsplit ?_ ?_)<;>intro hm<;>have hz_:=True.intro<;>clear hz_
   ·have hm : l[c.chain.toNat].epoch = 18446744073709551615 := hm
    ((conv=>whnf)<;>repeat(with_reducible refine D1 ?_)<;>conv=>whnf)
    refine ⟨[], [], ?_⟩
    iterate 3 constructor
    refine ⟨⟨?_, ?_, ?_⟩, rfl, rfl, rfl⟩
    all_goals (repeat' first|with_reducible exact Lz.rfl|exact Lw.rfl|exact Lz.wrap (by omega)|(unfold goInt;with_reducible exact Lz.rfl)|exact flx _|constructor)
    exact Lz.int (by rw [hC]; unfold canF; rw [if_pos hm])
   ·have hm : ¬ l[c.chain.toNat].epoch = 18446744073709551615 := hm
    ((conv=>whnf)<;>repeat(with_reducible refine D1 ?_)<;>conv=>whnf)
    refine ⟨[], [], ?_⟩
    iterate 3 constructor
    refine ⟨⟨?_, ?_, ?_⟩, rfl, rfl, rfl⟩
    all_goals (repeat' first|with_reducible exact Lz.rfl|exact Lw.rfl|exact Lz.wrap (by omega)|(unfold goInt;with_reducible exact Lz.rfl)|exact flx _|constructor)
    exact Lz.int (by rw [hC]; unfold canF; rw [if_neg hm])
 refine ⟨[], [], _, _, _, _, of4_ok c.kind k1 k2 k3, t3, ?_⟩
 rintro r o' c' ⟨rfl, rfl, rfl⟩
 ((conv=>whnf)<;>repeat(with_reducible refine D1 ?_)<;>conv=>whnf)
 refine ⟨[], [], _, _, _, _, canSettle_ok l l[c.chain.toNat] c.kind c.node hr k1 k2 k3, t3, ?_⟩
 rintro r o' c' ⟨rfl, rfl, rfl⟩
 ((conv=>whnf)<;>repeat(with_reducible refine D1 ?_)<;>conv=>whnf)
 (first|refine ⟨?_,?_⟩|refine nsplit ?_ ?_|refine bsplit ?_ ?_)<;>intro he<;>have hz_:=True.intro<;>clear hz_
 ·have he : canK l l[c.chain.toNat] c.kind c.node ≠ 0 := he
  rw [if_pos he] at hC
  ((conv=>whnf)<;>repeat(with_reducible refine D1 ?_)<;>conv=>whnf)
  refine ⟨[], [], ?_⟩
  iterate 3 constructor
  refine ⟨⟨?_, ?_, ?_⟩, rfl, rfl, rfl⟩
  all_goals (repeat' first|with_reducible exact Lz.rfl|exact Lw.rfl|exact Lz.wrap (by omega)|(unfold goInt;with_reducible exact Lz.rfl)|exact flx _|constructor)
  exact Lz.int hC.symm
 ·have he : ¬ canK l l[c.chain.toNat] c.kind c.node ≠ 0 := he
  rw [if_neg he] at hC
  ((conv=>whnf)<;>repeat(with_reducible refine D1 ?_)<;>conv=>whnf)
  (first|refine ⟨?_,?_⟩|refine nsplit ?_ ?_|refine bsplit ?_ ?_)<;>intro hm<;>have hz_:=True.intro<;>clear hz_
  ·have hm : l[c.chain.toNat].epoch = 18446744073709551615 := hm
   ((conv=>whnf)<;>repeat(with_reducible refine D1 ?_)<;>conv=>whnf)
   refine ⟨[], [], ?_⟩
   iterate 3 constructor
   refine ⟨⟨?_, ?_, ?_⟩, rfl, rfl, rfl⟩
   all_goals (repeat' first|with_reducible exact Lz.rfl|exact Lw.rfl|exact Lz.wrap (by omega)|(unfold goInt;with_reducible exact Lz.rfl)|exact flx _|constructor)
   exact Lz.int (by rw [hC]; unfold canF; rw [if_pos hm])
  ·have hm : ¬ l[c.chain.toNat].epoch = 18446744073709551615 := hm
   ((conv=>whnf)<;>repeat(with_reducible refine D1 ?_)<;>conv=>whnf)
   refine ⟨[], [], ?_⟩
   iterate 3 constructor
   refine ⟨⟨?_, ?_, ?_⟩, rfl, rfl, rfl⟩
   all_goals (repeat' first|with_reducible exact Lz.rfl|exact Lw.rfl|exact Lz.wrap (by omega)|(unfold goInt;with_reducible exact Lz.rfl)|exact flx _|constructor)
   exact Lz.int (by rw [hC]; unfold canF; rw [if_neg hm])
end Go.M
namespace Go.M
open Go Go.Proofs
set_option maxRecDepth 100000
set_option maxHeartbeats 4000000
def madeL (x : CF) (k n : Int) : CF :=
 if k = 1 then (if x.join = n then ⟨x.chain, x.epoch + 1, x.nodes, x.fresh, 0⟩ else ⟨x.chain, x.epoch + 1, withoutL x.nodes n, x.fresh && decide (lastL x ≠ n), x.join⟩)
 else if k = 2 then ⟨x.chain, x.epoch + 1, x.nodes, x.fresh, n⟩
 else if k = 3 then ⟨x.chain, x.epoch + 1, x.nodes ++ [n], true, 0⟩
 else ⟨x.chain, x.epoch + 1, x.nodes, false, x.join⟩
theorem made_ok (x : CF) (c : Cmd) (hr : rightP x) (he : x.epoch < 18446744073709551615) : VC E0 32 0 [.agg (encCF x), cT4 c] [] (RR (.agg (encCF (madeL x c.kind c.node))) 0 []) := by
 have h5 := hr.2.2.1
 have he0 := hr.2.1
 have hw : IntKind.u64.wrap (x.epoch + 1) = x.epoch + 1 := IntWalk.u64_in _ (by omega)
 refine VC.enterR L0 (show E0.func 32 = some Tryd.f32 by kernel_rfl) (fun _ _ => rfl) rfl rfl [] ?_
 ((conv=>whnf)<;>repeat(with_reducible refine D1 ?_)<;>conv=>whnf)
 refine ⟨by simp; omega, ?_⟩
 ((conv=>whnf)<;>repeat(with_reducible refine D1 ?_)<;>conv=>whnf)
 (first|refine ⟨?_,?_⟩|refine nsplit ?_ ?_|refine bsplit ?_ ?_)<;>intro k1<;>have hz_:=True.intro<;>clear hz_
 ·have k1 : c.kind = 1 := k1
  ((conv=>whnf)<;>repeat(with_reducible refine D1 ?_)<;>conv=>whnf)
  (first|refine ⟨?_,?_⟩|refine nsplit ?_ ?_|refine bsplit ?_ ?_)<;>intro hj<;>have hz_:=True.intro<;>clear hz_
  ·have hj : x.join = c.node := hj
   have hC : madeL x c.kind c.node = ⟨x.chain, x.epoch + 1, x.nodes, x.fresh, 0⟩ := by unfold madeL; rw [if_pos k1, if_pos hj]
   rw [hC]
   ((conv=>whnf)<;>repeat(with_reducible refine D1 ?_)<;>conv=>whnf)
   refine ⟨[3], [], ?_⟩
   iterate 3 constructor
   refine ⟨⟨?_, ?_, ?_⟩, rfl, rfl, rfl⟩
   all_goals (repeat' first|with_reducible exact Lz.rfl|exact Lw.rfl|exact Lz.wrap (by omega)|(unfold goInt;with_reducible exact Lz.rfl)|exact flx _|constructor)
   exact Lz.int hw
  ·have hj : ¬ x.join = c.node := hj
   have hC : madeL x c.kind c.node = ⟨x.chain, x.epoch + 1, withoutL x.nodes c.node, x.fresh && decide (lastL x ≠ c.node), x.join⟩ := by unfold madeL; rw [if_pos k1, if_neg hj]
   rw [hC]
   ((conv=>whnf)<;>repeat(with_reducible refine D1 ?_)<;>conv=>whnf)
   refine lastI h5 ?_
   ((conv=>whnf)<;>repeat(with_reducible refine D1 ?_)<;>conv=>whnf)
   (first|refine ⟨?_,?_⟩|refine nsplit ?_ ?_|refine bsplit ?_ ?_)<;>intro hla<;>have hz_:=True.intro<;>clear hz_
   ·have hla : lastL x = c.node := hla
    ((conv=>whnf)<;>repeat(with_reducible refine D1 ?_)<;>conv=>whnf)
    refine ⟨[], [], _, _, _, _, without_ok x.nodes c.node (by omega), t3, ?_⟩
    rintro r o' c' ⟨rfl, rfl, rfl⟩
    ((conv=>whnf)<;>repeat(with_reducible refine D1 ?_)<;>conv=>whnf)
    refine ⟨[5], [], ?_⟩
    iterate 3 constructor
    refine ⟨⟨?_, ?_, ?_⟩, rfl, rfl, rfl⟩
    all_goals (repeat' first|with_reducible exact Lz.rfl|exact Lw.rfl|exact Lz.wrap (by omega)|(unfold goInt;with_reducible exact Lz.rfl)|exact flx _|constructor)
    ·exact Lz.int hw
    ·exact Lz.of (bool_eq (by simp [hla]))
   ·have hla : ¬ lastL x = c.node := hla
    ((conv=>whnf)<;>repeat(with_reducible refine D1 ?_)<;>conv=>whnf)
    refine ⟨[], [], _, _, _, _, without_ok x.nodes c.node (by omega), t3, ?_⟩
    rintro r o' c' ⟨rfl, rfl, rfl⟩
    ((conv=>whnf)<;>repeat(with_reducible refine D1 ?_)<;>conv=>whnf)
    refine ⟨[5], [], ?_⟩
    iterate 3 constructor
    refine ⟨⟨?_, ?_, ?_⟩, rfl, rfl, rfl⟩
    all_goals (repeat' first|with_reducible exact Lz.rfl|exact Lw.rfl|exact Lz.wrap (by omega)|(unfold goInt;with_reducible exact Lz.rfl)|exact flx _|constructor)
    ·exact Lz.int hw
    ·exact Lz.of (bool_eq (by simp [hla]))
 ·have k1 : ¬ c.kind = 1 := k1
  ((conv=>whnf)<;>repeat(with_reducible refine D1 ?_)<;>conv=>whnf)
  (first|refine ⟨?_,?_⟩|refine nsplit ?_ ?_|refine bsplit ?_ ?_)<;>intro k2<;>have hz_:=True.intro<;>clear hz_
  ·have k2 : c.kind = 2 := k2
   have hC : madeL x c.kind c.node = ⟨x.chain, x.epoch + 1, x.nodes, x.fresh, c.node⟩ := by unfold madeL; rw [if_neg k1, if_pos k2]
   rw [hC]
   ((conv=>whnf)<;>repeat(with_reducible refine D1 ?_)<;>conv=>whnf)
   refine ⟨[3], [], ?_⟩
   iterate 3 constructor
   refine ⟨⟨?_, ?_, ?_⟩, rfl, rfl, rfl⟩
   all_goals (repeat' first|with_reducible exact Lz.rfl|exact Lw.rfl|exact Lz.wrap (by omega)|(unfold goInt;with_reducible exact Lz.rfl)|exact flx _|constructor)
   exact Lz.int hw
  ·have k2 : ¬ c.kind = 2 := k2
   ((conv=>whnf)<;>repeat(with_reducible refine D1 ?_)<;>conv=>whnf)
   (first|refine ⟨?_,?_⟩|refine nsplit ?_ ?_|refine bsplit ?_ ?_)<;>intro k3<;>have hz_:=True.intro<;>clear hz_
   ·have k3 : c.kind = 3 := k3
    have hC : madeL x c.kind c.node = ⟨x.chain, x.epoch + 1, x.nodes ++ [c.node], true, 0⟩ := by unfold madeL; rw [if_neg k1, if_neg k2, if_pos k3]
    rw [hC]
    ((conv=>whnf)<;>repeat(with_reducible refine D1 ?_)<;>conv=>whnf)
    refine ⟨by simp; omega, ?_⟩
    ((conv=>whnf)<;>repeat(with_reducible refine D1 ?_)<;>conv=>whnf)
    refine ⟨[6], [], ?_⟩
    iterate 3 constructor
    refine ⟨⟨?_, ?_, ?_⟩, rfl, rfl, rfl⟩
    all_goals (repeat' first|with_reducible exact Lz.rfl|exact Lw.rfl|exact Lz.wrap (by omega)|(unfold goInt;with_reducible exact Lz.rfl)|exact flx _|constructor)
    ·exact Lz.int hw
    ·exact Lz.of (by simp)
   ·have k3 : ¬ c.kind = 3 := k3
    have hC : madeL x c.kind c.node = ⟨x.chain, x.epoch + 1, x.nodes, false, x.join⟩ := by unfold madeL; rw [if_neg k1, if_neg k2, if_neg k3]
    rw [hC]
    ((conv=>whnf)<;>repeat(with_reducible refine D1 ?_)<;>conv=>whnf)
    refine ⟨[3], [], ?_⟩
    iterate 3 constructor
    refine ⟨⟨?_, ?_, ?_⟩, rfl, rfl, rfl⟩
    all_goals (repeat' first|with_reducible exact Lz.rfl|exact Lw.rfl|exact Lz.wrap (by omega)|(unfold goInt;with_reducible exact Lz.rfl)|exact flx _|constructor)
    exact Lz.int hw
noncomputable def doL (l : List CF) (c : Cmd) : List CF × Bool :=
 if canL l c ≠ 0 then (l, false) else if c.kind = 0 then (l, true) else
 match l[c.chain.toNat]? with
 | none => (l, true)
 | some x => (l.set c.chain.toNat (madeL x c.kind c.node), true)
theorem can_in {l : List CF} {c : Cmd} (h : canL l c = 0) (hk : c.kind ≠ 0) : allP l ∧ c.check = 0 ∧ ∃ hlt : c.chain.toNat < l.length, l[c.chain.toNat].epoch < 18446744073709551615 ∨ 18446744073709551615 < l[c.chain.toNat].epoch := by
 unfold canL at h
 by_cases ha : allP l
 ·rw [if_neg (fun q => q ha)] at h
  by_cases hc : c.check ≠ 0
  ·rw [if_pos hc] at h; exact absurd h hc
  ·rw [if_neg hc, if_neg hk] at h
   have hc0 : c.check = 0 := Classical.not_not.1 hc
   refine ⟨ha, hc0, ?_⟩
   cases hq : l[c.chain.toNat]? with
   | none => rw [hq] at h; exact absurd (show (7 : Int) = 0 from h) (by decide)
   | some x =>
    rw [hq] at h
    obtain ⟨hlt, hx⟩ := List.getElem?_eq_some_iff.1 hq
    refine ⟨hlt, ?_⟩
    dsimp only at h
    by_cases he : x.epoch ≠ c.epoch
    ·rw [if_pos he] at h; exact absurd h (by decide)
    ·rw [if_neg he, canR_eq (hx ▸ allP_in ha (List.getElem_mem hlt))] at h
     by_cases hz : canK l x c.kind c.node ≠ 0
     ·rw [if_pos hz] at h; exact absurd h hz
     ·rw [if_neg hz] at h
      unfold canF at h
      by_cases hm : x.epoch = 18446744073709551615
      ·rw [if_pos hm] at h; exact absurd h (by decide)
      ·rw [hx]; omega
 ·rw [if_pos ha] at h; exact absurd h (by decide)
theorem refDo_ok (l : List CF) (c : Cmd) (hep : ∀ c ∈ l, 0 ≤ c.epoch ∧ c.epoch ≤ 18446744073709551615) (hc : 0 ≤ c.epoch) (hl : l.length < 10000) : VC E0 11 0 [.sl 5 (l.map encCF) false, cT4 c] [] (RR (.tup [.sl 5 ((doL l c).1.map encCF) false, .s (.bool (doL l c).2)]) 0 []) := by
 refine VC.enterR L0 (show E0.func 11 = some Tryd.f11 by kernel_rfl) (fun _ _ => rfl) rfl rfl [] ?_
 ((conv=>whnf)<;>repeat(with_reducible refine D1 ?_)<;>conv=>whnf)
 refine ⟨[], [], _, _, _, _, refCan_ok l c (fun x hx => (hep x hx).1) hc hl, t3, ?_⟩
 rintro r o' c' ⟨rfl, rfl, rfl⟩
 ((conv=>whnf)<;>repeat(with_reducible refine D1 ?_)<;>conv=>whnf)
 (first|refine ⟨?_,?_⟩|refine nsplit ?_ ?_|refine bsplit ?_ ?_)<;>intro h<;>have hz_:=True.intro<;>clear hz_
 ·have h : canL l c ≠ 0 := h
  have hC : doL l c = (l, false) := by unfold doL; rw [if_pos h]
  rw [hC]
  ((conv=>whnf)<;>repeat(with_reducible refine D1 ?_)<;>conv=>whnf)
  exact ⟨[], [], _, _, _, t3, rfl, rfl, rfl⟩
 have h : canL l c = 0 := Classical.not_not.1 h
 ((conv=>whnf)<;>repeat(with_reducible refine D1 ?_)<;>conv=>whnf)
 (first|refine ⟨?_,?_⟩|refine nsplit ?_ ?_|refine bsplit ?_ ?_)<;>intro h0<;>have hz_:=True.intro<;>clear hz_
 ·have h0 : c.kind = 0 := h0
  have hC : doL l c = (l, true) := by unfold doL; rw [if_neg (fun q => q h), if_pos h0]
  rw [hC]
  ((conv=>whnf)<;>repeat(with_reducible refine D1 ?_)<;>conv=>whnf)
  exact ⟨[], [], _, _, _, t3, rfl, rfl, rfl⟩
 have h0 : ¬ c.kind = 0 := h0
 obtain ⟨ha, hk, hlt, hm⟩ := can_in h h0
 have hrg := check_rng hk h0
 have hin := hep _ (List.getElem_mem hlt)
 have hC : doL l c = (l.set c.chain.toNat (madeL l[c.chain.toNat] c.kind c.node), true) := by unfold doL; rw [if_neg (fun q => q h), if_neg h0, List.getElem?_eq_getElem hlt]
 rw [hC]
 ((conv=>whnf)<;>repeat(with_reducible refine D1 ?_)<;>conv=>whnf)
 refine ⟨by simp; omega, ?_⟩
 ((conv=>whnf)<;>repeat(with_reducible refine D1 ?_)<;>conv=>whnf)
 refine idxI' hrg.1 hlt ?_
 ((conv=>whnf)<;>repeat(with_reducible refine D1 ?_)<;>conv=>whnf)
 refine ⟨[], [], _, _, _, _, made_ok l[c.chain.toNat] c (allP_in ha (List.getElem_mem hlt)) (by omega), t3, ?_⟩
 rintro r o' c' ⟨rfl, rfl, rfl⟩
 ((conv=>whnf)<;>repeat(with_reducible refine D1 ?_)<;>conv=>whnf)
 refine ⟨⟨hrg.1, by rw [List.length_map]; omega⟩, ?_⟩
 ((conv=>whnf)<;>repeat(with_reducible refine D1 ?_)<;>conv=>whnf)
 refine ⟨encCF l[c.chain.toNat], by rw [List.getElem?_map, List.getElem?_eq_getElem hlt]; rfl, ?_⟩
 ((conv=>whnf)<;>repeat(with_reducible refine D1 ?_)<;>conv=>whnf)
 refine ⟨[1], [], ?_⟩
 iterate 3 constructor
 refine ⟨⟨?_, ?_, ?_⟩, rfl, rfl, rfl⟩
 all_goals (repeat' first|with_reducible exact Lz.rfl|exact Lw.rfl|exact Lz.wrap (by omega)|(unfold goInt;with_reducible exact Lz.rfl)|exact flx _|constructor)
 exact Lz.of (by rw [List.map_set]; rfl)
end Go.M
namespace Go.M
open Go Go.Proofs
set_option maxRecDepth 100000
set_option maxHeartbeats 4000000
structure okE (l : List CF) : Prop where
 len : l.length ≤ 6
 ep : ∀ c ∈ l, 0 ≤ c.epoch ∧ c.epoch ≤ 18446744073709551615
 n6 : ∀ c ∈ l, c.nodes.length ≤ 6
theorem madeL_ok {x : CF} {k n : Int} (h5 : x.nodes.length ≤ 5) (he : 0 ≤ x.epoch ∧ x.epoch < 18446744073709551615) : (0 ≤ (madeL x k n).epoch ∧ (madeL x k n).epoch ≤ 18446744073709551615) ∧ (madeL x k n).nodes.length ≤ 6 := by
 have hw := withoutL_len x.nodes n
 unfold madeL
 repeat' split
 all_goals (dsimp only; first | exact ⟨⟨by omega, by omega⟩, by omega⟩ | exact ⟨⟨by omega, by omega⟩, by simp; omega⟩)
end Go.M
namespace Go.M
open Go Go.Proofs
set_option maxRecDepth 100000
set_option maxHeartbeats 4000000
theorem own_ok (c : CF) (hn : c.nodes.length < 1000000) : VC E0 27 0 [.agg (encCF c)] [] (RR (.agg (encCF c)) 0 []) := by
 refine VC.enterR L0 (show E0.func 27 = some Tryd.f27 by kernel_rfl) (fun _ _ => rfl) rfl rfl [] ?_
 ((conv=>whnf)<;>repeat(with_reducible refine D1 ?_)<;>conv=>whnf)
 refine ⟨[], [], _, _, _, _, cloneI_ok c.nodes hn, t3, ?_⟩
 rintro r o' c' ⟨rfl, rfl, rfl⟩
 ((conv=>whnf)<;>repeat(with_reducible refine D1 ?_)<;>conv=>whnf)
 exact ⟨[2], [], _, _, _, t3, rfl, rfl, rfl⟩
@[reducible] def zCF : List TV := [.s (.int .i64 0), .s (.int .u64 0), .sl 0 [] true, .s (.bool false), .s (.int .i64 0)]
def copyE (l : List CF) (j : Nat) : List (List TV) := (l.take j).map encCF ++ List.replicate (l.length - j) zCF
theorem copyE_len (l : List CF) (j : Nat) (h : j ≤ l.length) : (copyE l j).length = l.length := by unfold copyE; simp; omega
theorem copyE_set (l : List CF) (j : Nat) (h : j < l.length) : (copyE l j).set j (encCF l[j]) = copyE l (j + 1) := by
 unfold copyE
 have e : l.length - j = (l.length - (j + 1)) + 1 := by omega
 have hlen : ((l.take j).map encCF).length = j := by rw [List.length_map, List.length_take]; omega
 rw [e, List.replicate_succ, List.set_append, if_neg (by omega), hlen, Nat.sub_self, List.take_succ_eq_append_getElem h, List.map_append, List.append_assoc]
 rfl
theorem copyE_get (l : List CF) (j : Nat) (h : j < l.length) : (copyE l j)[j]? = some zCF := by
 unfold copyE
 have e : l.length - j = (l.length - (j + 1)) + 1 := by omega
 have hlen : ((l.take j).map encCF).length = j := by rw [List.length_map, List.length_take]; omega
 rw [e, List.replicate_succ, List.getElem?_append_right (by omega), hlen, Nat.sub_self]
 rfl
theorem copy_ok (l : List CF) (hl : l.length < 10000) (hn : ∀ c ∈ l, c.nodes.length < 1000000) : VC E0 7 0 [.sl 5 (l.map encCF) false] [] (RR (.tk 0) 1 [(0, .arr 5 true (l.map encCF))]) := by
 refine VC.enterR L0 (show E0.func 7 = some Tryd.f7 by kernel_rfl) (fun _ _ => rfl) rfl rfl [] ?_
 ((conv=>whnf)<;>repeat(with_reducible refine D1 ?_)<;>conv=>whnf)
 refine ⟨⟨by omega, by omega, by simp; omega⟩, ?_⟩
 ((conv=>whnf)<;>repeat(with_reducible refine D1 ?_)<;>conv=>whnf)
 refine ⟨fun k f o c => ∃ j : Nat, j ≤ l.length ∧ k = l.length - j ∧ c = 1 ∧ f = [(3, .tk 0), (9, .sl 5 (l.map encCF) false), (10, .s (.int .i64 l.length)), (11, .s (.int .i64 j))] ∧ o = [(0, .arr 5 true (copyE l j))], ⟨l.length, ?_⟩, ?_⟩
 ·refine ⟨[], [some 0], ?_⟩
  iterate 3 constructor
  refine ⟨⟨?_, ?_, ?_⟩, ⟨0, Nat.zero_le _, rfl, rfl, rfl, rfl⟩⟩
  all_goals (repeat' first|with_reducible exact Lz.rfl|exact Lw.rfl|exact Lz.wrap (by omega)|(unfold goInt;with_reducible exact Lz.rfl)|exact flx _|constructor)
  ·exact Lz.int (by rw [List.length_map])
  ·exact Lz.of (by simp [copyE]; exact .inr rfl)
 ·rintro k f1 o1 c1 ⟨j, hj, rfl, rfl, rfl, rfl⟩
  ((conv=>whnf)<;>repeat(with_reducible refine D1 ?_)<;>conv=>whnf)
  (first|refine ⟨?_,?_⟩|refine nsplit ?_ ?_|refine bsplit ?_ ?_)<;>intro h<;>have hz_:=True.intro<;>clear hz_
  ·have h : j < l.length := by have : (j : Int) < (l.length : Nat) := h
                               omega
   ((conv=>whnf)<;>repeat(with_reducible refine D1 ?_)<;>conv=>whnf)
   refine idxI h ?_
   ((conv=>whnf)<;>repeat(with_reducible refine D1 ?_)<;>conv=>whnf)
   refine ⟨[], [], _, _, _, _, own_ok l[j] (hn _ (List.getElem_mem h)), t3, ?_⟩
   rintro r o' c' ⟨rfl, rfl, rfl⟩
   ((conv=>whnf)<;>repeat(with_reducible refine D1 ?_)<;>conv=>whnf)
   refine ⟨⟨by omega, by rw [copyE_len l j hj]; omega⟩, ?_⟩
   ((conv=>whnf)<;>repeat(with_reducible refine D1 ?_)<;>conv=>whnf)
   refine ⟨zCF, by rw [Int.toNat_natCast]; exact copyE_get l j h, ?_⟩
   ((conv=>whnf)<;>repeat(with_reducible refine D1 ?_)<;>conv=>whnf)
   refine ⟨l.length - (j + 1), ?_, by omega⟩
   refine ⟨[], [some 0], ?_⟩
   iterate 3 constructor
   refine ⟨⟨?_, ?_, ?_⟩, ⟨j + 1, h, rfl, rfl, rfl, rfl⟩⟩
   all_goals (repeat' first|with_reducible exact Lz.rfl|exact Lw.rfl|exact Lz.wrap (by omega)|(unfold goInt;with_reducible exact Lz.rfl)|exact flx _|constructor)
   exact Lz.of (by rw [Int.toNat_natCast]; exact copyE_set l j h)
  ·have hj' : j = l.length := by have : ¬ (j : Int) < (l.length : Nat) := h
                                 omega
   subst hj'
   have hc : copyE l l.length = l.map encCF := by unfold copyE; simp
   rw [hc]
   ((conv=>whnf)<;>repeat(with_reducible refine D1 ?_)<;>conv=>whnf)
   exact ⟨[], [some 0], _, _, _, t3, rfl, rfl, rfl⟩
end Go.M
namespace Go.M
open Go Go.Proofs
set_option maxRecDepth 100000
set_option maxHeartbeats 4000000
@[reducible] def ownCF (c : CF) : List TV := [.s (.int .i64 c.chain), .s (.int .u64 c.epoch), .own (.arr 1 true (c.nodes.map encI1)), .s (.bool c.fresh), .s (.int .i64 c.join)]
@[reducible] def namCF (c : CF) (n : Nat) : List TV := [.s (.int .i64 c.chain), .s (.int .u64 c.epoch), .tk n, .s (.bool c.fresh), .s (.int .i64 c.join)]
theorem own_okN (c : CF) (hn : c.nodes.length < 1000000) : VC E0 27 0 [.agg (encCF c)] [] (RR (.agg (namCF c 0)) 1 [(0, .arr 1 true (c.nodes.map encI1))]) := by
 refine VC.enterR L0 (show E0.func 27 = some Tryd.f27 by kernel_rfl) (fun _ _ => rfl) rfl rfl [] ?_
 ((conv=>whnf)<;>repeat(with_reducible refine D1 ?_)<;>conv=>whnf)
 refine ⟨[], [], _, _, _, _, cloneI_ok c.nodes hn, t3, ?_⟩
 rintro r o' c' ⟨rfl, rfl, rfl⟩
 ((conv=>whnf)<;>repeat(with_reducible refine D1 ?_)<;>conv=>whnf)
 exact ⟨[], [some 2], _, _, _, t3, rfl, rfl, rfl⟩
def pickE (p : Nat → Bool) (i : Nat) (c : CF) : List TV := match p i with
 | true => ownCF c
 | false => encCF c
def mixE (p : Nat → Bool) (l : List CF) : List (List TV) := l.mapIdx (pickE p)
def mixC (p : Nat → Bool) (l : List CF) (j : Nat) : List (List TV) := mixE p (l.take j) ++ List.replicate (l.length - j) zCF
theorem mixE_len (p : Nat → Bool) (l : List CF) : (mixE p l).length = l.length := by simp [mixE]
theorem mixC_len (p : Nat → Bool) (l : List CF) (j : Nat) (h : j ≤ l.length) : (mixC p l j).length = l.length := by unfold mixC; rw [List.length_append, mixE_len]; simp; omega
theorem mixC_set (p : Nat → Bool) (l : List CF) (j : Nat) (h : j < l.length) : (mixC p l j).set j (pickE p j l[j]) = mixC p l (j + 1) := by
 unfold mixC
 have e : l.length - j = (l.length - (j + 1)) + 1 := by omega
 have hlen : (mixE p (l.take j)).length = j := by rw [mixE_len, List.length_take]; omega
 rw [e, List.replicate_succ, List.set_append, if_neg (by omega), hlen, Nat.sub_self, List.take_succ_eq_append_getElem h]
 unfold mixE
 rw [List.mapIdx_concat, List.append_assoc, List.length_take, show min j l.length = j by omega]
 rfl
theorem mixC_get (p : Nat → Bool) (l : List CF) (j : Nat) (h : j < l.length) : (mixC p l j)[j]? = some zCF := by
 unfold mixC
 have e : l.length - j = (l.length - (j + 1)) + 1 := by omega
 have hlen : (mixE p (l.take j)).length = j := by rw [mixE_len, List.length_take]; omega
 rw [e, List.replicate_succ, List.getElem?_append_right (by omega), hlen, Nat.sub_self]
 rfl
theorem mixC_0 (p : Nat → Bool) (l : List CF) : mixC p l 0 = List.replicate l.length zCF := by simp [mixC, mixE]
theorem mixC_all (p : Nat → Bool) (l : List CF) : mixC p l l.length = mixE p l := by simp [mixC]
theorem mixE_get (p : Nat → Bool) (l : List CF) (j : Nat) (h : j < l.length) : (mixE p l)[j]? = some (pickE p j l[j]) := by simp [mixE, h]
theorem copyM_ok (p : Nat → Bool) (l : List CF) (hl : l.length < 10000) (hn : ∀ c ∈ l, c.nodes.length < 1000000) : VC E0 7 0 [.sl 5 (l.map encCF) false] [] (RR (.tk 0) 1 [(0, .arq 5 (mixE p l) [])]) := by
 refine VC.enterR L0 (show E0.func 7 = some Tryd.f7 by kernel_rfl) (fun _ _ => rfl) rfl rfl [] ?_
 ((conv=>whnf)<;>repeat(with_reducible refine D1 ?_)<;>conv=>whnf)
 refine ⟨⟨by omega, by omega, by simp; omega⟩, ?_⟩
 ((conv=>whnf)<;>repeat(with_reducible refine D1 ?_)<;>conv=>whnf)
 refine ⟨fun k f o c => ∃ j : Nat, j ≤ l.length ∧ k = l.length - j ∧ c = 1 ∧ f = [(3, .tk 0), (9, .sl 5 (l.map encCF) false), (10, .s (.int .i64 l.length)), (11, .s (.int .i64 j))] ∧ o = [(0, .arq 5 (mixC p l j) [])], ⟨l.length, ?_⟩, ?_⟩
 ·refine ⟨[], [some 0], ?_⟩
  iterate 3 constructor
  refine ⟨⟨?_, ?_, ?_⟩, ⟨0, Nat.zero_le _, rfl, rfl, rfl, rfl⟩⟩
  all_goals (repeat' first|with_reducible exact Lz.rfl|exact Lw.rfl|exact Lz.wrap (by omega)|(unfold goInt;with_reducible exact Lz.rfl)|exact flx _|constructor)
  ·exact Lz.int (by rw [List.length_map])
  ·exact Lz.of (by rw [mixC_0]; simp; exact .inr rfl)
 ·rintro k f1 o1 c1 ⟨j, hj, rfl, rfl, rfl, rfl⟩
  ((conv=>whnf)<;>repeat(with_reducible refine D1 ?_)<;>conv=>whnf)
  (first|refine ⟨?_,?_⟩|refine nsplit ?_ ?_|refine bsplit ?_ ?_)<;>intro h<;>have hz_:=True.intro<;>clear hz_
  ·have h : j < l.length := by have : (j : Int) < (l.length : Nat) := h
                               omega
   ((conv=>whnf)<;>repeat(with_reducible refine D1 ?_)<;>conv=>whnf)
   refine idxI h ?_
   ((conv=>whnf)<;>repeat(with_reducible refine D1 ?_)<;>conv=>whnf)
   have hs := mixC_set p l j h
   unfold pickE at hs
   cases hp : p j
   ·rw [hp] at hs
    refine ⟨[], [], _, _, _, _, own_ok l[j] (hn _ (List.getElem_mem h)), t3, ?_⟩
    rintro r o' c' ⟨rfl, rfl, rfl⟩
    ((conv=>whnf)<;>repeat(with_reducible refine D1 ?_)<;>conv=>whnf)
    refine ⟨⟨by omega, by rw [mixC_len p l j hj]; omega⟩, ?_⟩
    ((conv=>whnf)<;>repeat(with_reducible refine D1 ?_)<;>conv=>whnf)
    refine ⟨zCF, by rw [Int.toNat_natCast]; exact mixC_get p l j h, ?_⟩
    ((conv=>whnf)<;>repeat(with_reducible refine D1 ?_)<;>conv=>whnf)
    refine ⟨l.length - (j + 1), ?_, by omega⟩
    refine ⟨[], [some 0], _, _, _, ⟨by (repeat' first|with_reducible exact Lz.rfl|exact Lw.rfl|exact Lz.wrap (by omega)|(unfold goInt;with_reducible exact Lz.rfl)|exact flx _|constructor), .cons (.arq (opc := [(_, encCF l[j])]) .one (Lw.of ?_) (.q1 (by (repeat' first|with_reducible exact Lz.rfl|exact Lw.rfl|exact Lz.wrap (by omega)|(unfold goInt;with_reducible exact Lz.rfl)|exact flx _|constructor)))) .nil, by rfl⟩, ⟨j + 1, h, rfl, rfl, rfl, rfl⟩⟩
    exact (by rw [← hs, Int.toNat_natCast]; rfl)
   ·rw [hp] at hs
    refine ⟨[], [], _, _, _, _, own_okN l[j] (hn _ (List.getElem_mem h)), t3, ?_⟩
    rintro r o' c' ⟨rfl, rfl, rfl⟩
    ((conv=>whnf)<;>repeat(with_reducible refine D1 ?_)<;>conv=>whnf)
    refine ⟨⟨by omega, by rw [mixC_len p l j hj]; omega⟩, ?_⟩
    ((conv=>whnf)<;>repeat(with_reducible refine D1 ?_)<;>conv=>whnf)
    refine ⟨zCF, by rw [Int.toNat_natCast]; exact mixC_get p l j h, ?_⟩
    ((conv=>whnf)<;>repeat(with_reducible refine D1 ?_)<;>conv=>whnf)
    refine ⟨l.length - (j + 1), ?_, by omega⟩
    refine ⟨[], [some 0], _, _, _, ⟨by (repeat' first|with_reducible exact Lz.rfl|exact Lw.rfl|exact Lz.wrap (by omega)|(unfold goInt;with_reducible exact Lz.rfl)|exact flx _|constructor), .cons (.arq (opc := [(_, ownCF l[j])]) .one (Lw.of ?_) (.q1 (by (repeat' first|with_reducible exact Lz.rfl|exact Lw.rfl|exact Lz.wrap (by omega)|(unfold goInt;with_reducible exact Lz.rfl)|exact flx _|constructor)))) .nil, by rfl⟩, ⟨j + 1, h, rfl, rfl, rfl, rfl⟩⟩
    exact (by rw [← hs, Int.toNat_natCast]; rfl)
  ·have hj' : j = l.length := by have : ¬ (j : Int) < (l.length : Nat) := h
                                 omega
   subst hj'
   rw [mixC_all]
   ((conv=>whnf)<;>repeat(with_reducible refine D1 ?_)<;>conv=>whnf)
   exact ⟨[], [some 0], _, _, _, t3, rfl, rfl, rfl⟩
end Go.M
namespace Go.M
open Go Go.Proofs
set_option maxRecDepth 100000
set_option maxHeartbeats 4000000
def isB (n m : Int) : Bool := decide (m = n)
theorem isC (n m : Int) : VC E0 69 1 [.s (.int .i64 m), .ptr 0 0] (stN n) (RR (.s (.bool (isB n m))) 1 (stN n)) := by
 refine VC.enterR L0 (show E0.func 69 = some Tryd.f69 by kernel_rfl) (fun _ _ => rfl) rfl rfl [] ?_
 ((conv=>whnf)<;>repeat(with_reducible refine D1 ?_)<;>conv=>whnf)
 (first|refine ⟨?_,?_⟩|refine nsplit ?_ ?_|refine bsplit ?_ ?_)<;>intro h<;>have hz_:=True.intro<;>clear hz_
 ·have h : m = n := h
  ((conv=>whnf)<;>repeat(with_reducible refine D1 ?_)<;>conv=>whnf)
  refine ⟨[], [some 0], ?_⟩
  iterate 3 constructor
  refine ⟨⟨?_, ?_, ?_⟩, rfl, rfl, rfl⟩
  all_goals (repeat' first|with_reducible exact Lz.rfl|exact Lw.rfl|exact Lz.wrap (by omega)|(unfold goInt;with_reducible exact Lz.rfl)|exact flx _|constructor)
  exact Lz.of (bool_eq (Eq.symm (decide_eq_true h)))
 ·have h : ¬ m = n := h
  ((conv=>whnf)<;>repeat(with_reducible refine D1 ?_)<;>conv=>whnf)
  refine ⟨[], [some 0], ?_⟩
  iterate 3 constructor
  refine ⟨⟨?_, ?_, ?_⟩, rfl, rfl, rfl⟩
  all_goals (repeat' first|with_reducible exact Lz.rfl|exact Lw.rfl|exact Lz.wrap (by omega)|(unfold goInt;with_reducible exact Lz.rfl)|exact flx _|constructor)
  exact Lz.of (bool_eq (Eq.symm (decide_eq_false h)))
@[reducible] def stR (n : Int) (vs : List Int) : Ob := [(0, .arr 1 true (vs.map encI1)), (1, .cells [.s (.int .i64 n)])]
theorem idxR_ok (n : Int) (vs : List Int) (hl : vs.length < 1000000) : VC E0 77 2 [.tk 0, .clo 69 [] [.ptr 1 0]] (stR n vs)
 (fun r o c => ∃ i : Int, r = .s (.int .i64 i) ∧ c = 2 ∧ o = stR n vs ∧ ((i = -1 ∧ ∀ v ∈ vs, isB n v = false) ∨ ∃ j : Nat, ∃ h : j < vs.length, i = j ∧ (∀ v ∈ vs.take j, isB n v = false) ∧ isB n vs[j] = true)) := by
 refine VC.enterR L0 (show E0.func 77 = some Tryd.f77 by kernel_rfl) (fun _ _ => rfl) rfl rfl [] ?_
 ((conv=>whnf)<;>repeat(with_reducible refine D1 ?_)<;>conv=>whnf)
 refine ⟨fun k f o c => ∃ j : Nat, j ≤ vs.length ∧ k = vs.length - j ∧ (∀ v ∈ vs.take j, isB n v = false) ∧ c = 2 ∧ f = [(0, .tk 0), (1, .clo 69 [] [.ptr 1 0]), (7, .s (.int .i64 vs.length)), (8, .s (.int .i64 j))] ∧ o = stR n vs, ⟨vs.length, ?_⟩, ?_⟩
 ·refine ⟨[], [some 0, some 1], ?_⟩
  iterate 3 constructor
  refine ⟨⟨?_, ?_, ?_⟩, ⟨0, Nat.zero_le _, rfl, by simp, rfl, rfl, rfl⟩⟩
  all_goals (repeat' first|with_reducible exact Lz.rfl|exact Lw.rfl|exact Lz.wrap (by omega)|(unfold goInt;with_reducible exact Lz.rfl)|exact flx _|constructor)
  all_goals exact Lz.of (by simp [goInt])
 ·rintro k f1 o1 c1 ⟨j, hj, rfl, hb, rfl, rfl, rfl⟩
  ((conv=>whnf)<;>repeat(with_reducible refine D1 ?_)<;>conv=>whnf)
  (first|refine ⟨?_,?_⟩|refine nsplit ?_ ?_|refine bsplit ?_ ?_)<;>intro h<;>have hz_:=True.intro<;>clear hz_
  ·have h : j < vs.length := by simpa using h
   ((conv=>whnf)<;>repeat(with_reducible refine D1 ?_)<;>conv=>whnf)
   refine ⟨⟨by omega, by simp; omega⟩, encI1 vs[j], by simp [h], ?_⟩
   ((conv=>whnf)<;>repeat(with_reducible refine D1 ?_)<;>conv=>whnf)
   refine ⟨[], [some 1], _, _, _, _, isC n vs[j], t3, ?_⟩
   rintro r o' c' ⟨rfl, rfl, rfl⟩
   have hz_ := True.intro
   clear hz_
   cases hv : isB n vs[j]
   ·((conv=>whnf)<;>repeat(with_reducible refine D1 ?_)<;>conv=>whnf)
    refine ⟨vs.length - (j + 1), ?_, by omega⟩
    exact ⟨[], [some 0, some 1], _, _, _, t3, ⟨j + 1, h, rfl, by intro v hv'; rw [List.take_succ_eq_append_getElem h] at hv'; rcases List.mem_append.1 hv' with h1 | h1; exact hb v h1; simp at h1; subst h1; exact hv, rfl, rfl, rfl⟩⟩
   ·((conv=>whnf)<;>repeat(with_reducible refine D1 ?_)<;>conv=>whnf)
    exact ⟨[], [some 0, some 1], _, _, _, t3, (j : Int), rfl, rfl, rfl, .inr ⟨j, h, rfl, hb, hv⟩⟩
  ·have h' : j = vs.length := by have : ¬ j < vs.length := by simpa using h
                                 omega
   subst h'
   rw [List.take_length] at hb
   ((conv=>whnf)<;>repeat(with_reducible refine D1 ?_)<;>conv=>whnf)
   exact ⟨[], [some 0, some 1], _, _, _, t3, -1, rfl, rfl, rfl, .inl ⟨rfl, hb⟩⟩
theorem without_all {n : Int} {vs : List Int} (h : ∀ v ∈ vs, isB n v = false) : withoutL vs n = vs := by
 unfold withoutL
 rw [List.filter_eq_self]
 intro v hv
 have := of_decide_eq_false (h v hv)
 simpa using this
theorem without_bad (n : Int) (vs : List Int) (j : Nat) (h : j < vs.length) (hb : isB n vs[j] = true) : withoutL (vs.take (j + 1)) n = withoutL (vs.take j) n := by
 rw [withoutL_snoc _ _ _ h, if_pos (of_decide_eq_true hb), List.append_nil]
theorem without_good (n : Int) (vs : List Int) (j : Nat) (h : j < vs.length) (hb : isB n vs[j] = false) : withoutL (vs.take (j + 1)) n = withoutL (vs.take j) n ++ [vs[j]] := by
 rw [withoutL_snoc _ _ _ h, if_neg (of_decide_eq_false hb)]
theorem delR_ok (n : Int) (vs : List Int) (hl : vs.length < 1000000) : VC E0 68 2 [.tk 0, .clo 69 [] [.ptr 1 0]] (stR n vs)
 (RR (.sl 1 ((withoutL vs n).map encI1) false) 2 [(1, .cells [.s (.int .i64 n)])]) := by
 refine VC.enterR L0 (show E0.func 68 = some Tryd.f68 by kernel_rfl) (fun _ _ => rfl) rfl rfl [] ?_
 ((conv=>whnf)<;>repeat(with_reducible refine D1 ?_)<;>conv=>whnf)
 refine ⟨[], [some 0, some 1], _, _, _, _, idxR_ok n vs hl, t3, ?_⟩
 rintro r o' c' ⟨i0, rfl, rfl, rfl, hi0⟩
 ((conv=>whnf)<;>repeat(with_reducible refine D1 ?_)<;>conv=>whnf)
 (first|refine ⟨?_,?_⟩|refine nsplit ?_ ?_|refine bsplit ?_ ?_)<;>intro hm<;>have hz_:=True.intro<;>clear hz_
 ·have hm : i0 = -1 := hm
  rcases hi0 with ⟨_, hall⟩ | ⟨j, h, e, _, _⟩
  ·((conv=>whnf)<;>repeat(with_reducible refine D1 ?_)<;>conv=>whnf)
   refine ⟨[0], [some 0, some 1], ?_⟩
   iterate 3 constructor
   refine ⟨⟨?_, ?_, ?_⟩, rfl, rfl, rfl⟩
   all_goals (repeat' first|with_reducible exact Lz.rfl|exact Lw.rfl|exact Lz.wrap (by omega)|(unfold goInt;with_reducible exact Lz.rfl)|exact flx _|constructor)
   rw [without_all hall]; exact Lz.rfl
  ·omega
 ·have hm : ¬ i0 = -1 := hm
  rcases hi0 with ⟨e, _⟩ | ⟨j0, h0, rfl, hb0, hv0⟩
  ·exact absurd e hm
  ((conv=>whnf)<;>repeat(with_reducible refine D1 ?_)<;>conv=>whnf)
  refine ⟨fun k f o c => ∃ (i j : Nat) (ws : List Int), i < j ∧ j ≤ vs.length ∧ k = vs.length - j ∧ ws.length = vs.length ∧ ws.take i = withoutL (vs.take j) n ∧ ws.drop j = vs.drop j ∧ c = 2 ∧ f = [(0, .tk 0), (1, .clo 69 [] [.ptr 1 0]), (5, .s (.int .i64 i)), (6, .s (.int .i64 j))] ∧ o = stR n ws, ⟨vs.length - (j0 + 1), ?_⟩, ?_⟩
  ·exact ⟨[], [some 0, some 1], _, _, _, t3, ⟨j0, j0 + 1, vs, by omega, h0, rfl, rfl, (by rw [without_bad _ _ _ h0 hv0]; exact (without_all hb0).symm), rfl, rfl, rfl, rfl⟩⟩
  ·rintro k f1 o1 c1 ⟨i, j, ws, hij, hj, rfl, hlen, htk, hdr, rfl, rfl, rfl⟩
   ((conv=>whnf)<;>repeat(with_reducible refine D1 ?_)<;>conv=>whnf)
   (first|refine ⟨?_,?_⟩|refine nsplit ?_ ?_|refine bsplit ?_ ?_)<;>intro h<;>have hz_:=True.intro<;>clear hz_
   ·have h : j < vs.length := by rw [List.length_map, hlen] at h; omega
    have hw : ws[j]? = some vs[j] := by
     have := congrArg (fun l => l[0]?) hdr
     simpa [h] using this
    have hdr1 : ws.drop (j + 1) = vs.drop (j + 1) := by
     have := congrArg (List.drop 1) hdr
     simpa [List.drop_drop, Nat.add_comm] using this
    ((conv=>whnf)<;>repeat(with_reducible refine D1 ?_)<;>conv=>whnf)
    refine ⟨⟨by omega, by simp; omega⟩, encI1 vs[j], by simp [hw], ?_⟩
    ((conv=>whnf)<;>repeat(with_reducible refine D1 ?_)<;>conv=>whnf)
    refine ⟨[], [some 1], _, _, _, _, isC n vs[j], t3, ?_⟩
    rintro r o' c' ⟨rfl, rfl, rfl⟩
    have hz_ := True.intro
    clear hz_
    cases hv : isB n vs[j]
    ·((conv=>whnf)<;>repeat(with_reducible refine D1 ?_)<;>conv=>whnf)
     refine ⟨⟨by omega, by simp; omega⟩, encI1 (ws[i]'(by omega)), by simp [show i < ws.length by omega], ?_⟩
     ((conv=>whnf)<;>repeat(with_reducible refine D1 ?_)<;>conv=>whnf)
     refine ⟨vs.length - (j + 1), ?_, by omega⟩
     refine ⟨[], [some 0, some 1], ?_⟩
     iterate 3 constructor
     refine ⟨⟨?_, ?_, ?_⟩, ⟨i + 1, j + 1, ws.set i vs[j], by omega, h, rfl, by simpa using hlen, (by rw [without_good _ _ _ h hv, List.take_succ_eq_append_getElem (by simp; omega), List.take_set_of_le (Nat.le_refl _), htk]; simp), (by rw [List.drop_set_of_lt (by omega)]; exact hdr1), rfl, rfl, rfl⟩⟩
     all_goals (repeat' first|with_reducible exact Lz.rfl|exact Lw.rfl|exact Lz.wrap (by omega)|(unfold goInt;with_reducible exact Lz.rfl)|exact flx _|constructor)
     refine Lz.of ?_
     rw [List.map_set]; rfl
    ·((conv=>whnf)<;>repeat(with_reducible refine D1 ?_)<;>conv=>whnf)
     refine ⟨vs.length - (j + 1), ?_, by omega⟩
     exact ⟨[], [some 0, some 1], _, _, _, t3, ⟨i, j + 1, ws, by omega, h, rfl, hlen, (by rw [without_bad _ _ _ h hv]; exact htk), hdr1, rfl, rfl, rfl⟩⟩
   ·have h' : j = vs.length := by have : ¬ (j : Int) < (((ws.map encI1).length : Nat) : Int) := h
                                  rw [List.length_map, hlen] at this; omega
    subst h'
    rw [List.take_length] at htk
    ((conv=>whnf)<;>repeat(with_reducible refine D1 ?_)<;>conv=>whnf)
    refine ⟨⟨by omega, by simp; try omega, by simp⟩, .inr ?_⟩
    ((conv=>whnf)<;>repeat(with_reducible refine D1 ?_)<;>conv=>whnf)
    refine ⟨fun hc => absurd hc (by simp; omega), fun _ => ?_⟩
    ((conv=>whnf)<;>repeat(with_reducible refine D1 ?_)<;>conv=>whnf)
    refine ⟨⟨by omega, by simp; try omega, by simp; try omega⟩, ?_⟩
    ((conv=>whnf)<;>repeat(with_reducible refine D1 ?_)<;>conv=>whnf)
    refine ⟨[], [some 0, some 1], ?_⟩
    iterate 3 constructor
    refine ⟨⟨?_, ?_, ?_⟩, rfl, rfl, rfl⟩
    all_goals (repeat' first|with_reducible exact Lz.rfl|exact Lw.rfl|exact Lz.wrap (by omega)|(unfold goInt;with_reducible exact Lz.rfl)|exact flx _|constructor)
    refine Lz.of ?_
    rw [← htk]
    simp [List.take_append, show i ≤ ws.length by omega]
theorem lastW {l : List Int} {K : List TV → Prop} (h : 1 ≤ l.length ∧ l.length ≤ 5) (hK : K (encI1 (l.getLast?.getD 0))) : (0 ≤ IntKind.i64.wrap ((((l.map encI1).length : Nat) : Int) - 1) ∧ IntKind.i64.wrap ((((l.map encI1).length : Nat) : Int) - 1) < (((l.map encI1).length : Nat) : Int)) ∧ ∃ e, (l.map encI1)[(IntKind.i64.wrap ((((l.map encI1).length : Nat) : Int) - 1)).toNat]? = some e ∧ K e := by
 obtain ⟨e, ⟨h0, h1⟩, h2⟩ := lastI h hK
 refine ⟨⟨h0, ?_⟩, e, h1, h2⟩
 have := (List.getElem?_eq_some_iff.1 h1).1
 omega
theorem lastN_ok (c : CF) (h5 : 1 ≤ c.nodes.length ∧ c.nodes.length ≤ 5) : VC E0 67 1 [.agg (namCF c 0)] [(0, .arr 1 true (c.nodes.map encI1))] (RR (.s (.int .i64 (lastL c))) 1 [(0, .arr 1 true (c.nodes.map encI1))]) := by
 refine VC.enterR L0 (show E0.func 67 = some Tryd.f67 by kernel_rfl) (fun _ _ => rfl) rfl rfl [] ?_
 ((conv=>whnf)<;>repeat(with_reducible refine D1 ?_)<;>conv=>whnf)
 refine lastW h5 ?_
 ((conv=>whnf)<;>repeat(with_reducible refine D1 ?_)<;>conv=>whnf)
 exact ⟨[], [some 0], _, _, _, t3, rfl, rfl, rfl⟩
end Go.M
namespace Go.M
open Go Go.Proofs
set_option maxRecDepth 100000
set_option maxHeartbeats 4000000
@[reducible] def stM (c : CF) : Ob := [(0, .arr 1 true (c.nodes.map encI1))]
def doK (x : CF) (k n : Int) : CF :=
 if k = 1 then (if x.join = n then ⟨x.chain, x.epoch, x.nodes, x.fresh, 0⟩ else ⟨x.chain, x.epoch, withoutL x.nodes n, x.fresh && decide (lastL x ≠ n), x.join⟩)
 else if k = 2 then ⟨x.chain, x.epoch, x.nodes, x.fresh, n⟩
 else if k = 3 then ⟨x.chain, x.epoch, x.nodes ++ [n], true, 0⟩
 else ⟨x.chain, x.epoch, x.nodes, false, x.join⟩
theorem doK_made (x : CF) (k n : Int) : madeL x k n = ⟨(doK x k n).chain, (doK x k n).epoch + 1, (doK x k n).nodes, (doK x k n).fresh, (doK x k n).join⟩ := by
 unfold madeL doK
 repeat' split
 all_goals rfl
theorem remove_ok (x : CF) (n : Int) (h5 : 1 ≤ x.nodes.length ∧ x.nodes.length ≤ 5) : VC E0 49 1 [.agg (namCF x 0), .s (.int .i64 n)] (stM x) (RR (.agg (encCF (doK x 1 n))) 1 []) := by
 refine VC.enterR L0 (show E0.func 49 = some Tryd.f49 by kernel_rfl) (fun _ _ => rfl) rfl rfl [] ?_
 ((conv=>whnf)<;>repeat(with_reducible refine D1 ?_)<;>conv=>whnf)
 (first|refine ⟨?_,?_⟩|refine nsplit ?_ ?_|refine bsplit ?_ ?_)<;>intro hj<;>have hz_:=True.intro<;>clear hz_
 ·have hj : x.join = n := hj
  have hC : doK x 1 n = ⟨x.chain, x.epoch, x.nodes, x.fresh, 0⟩ := by unfold doK; rw [if_pos rfl, if_pos hj]
  rw [hC]
  ((conv=>whnf)<;>repeat(with_reducible refine D1 ?_)<;>conv=>whnf)
  exact ⟨[0], [some 0], _, _, _, t3, rfl, rfl, rfl⟩
 ·have hj : ¬ x.join = n := hj
  have hC : doK x 1 n = ⟨x.chain, x.epoch, withoutL x.nodes n, x.fresh && decide (lastL x ≠ n), x.join⟩ := by unfold doK; rw [if_pos rfl, if_neg hj]
  rw [hC]
  ((conv=>whnf)<;>repeat(with_reducible refine D1 ?_)<;>conv=>whnf)
  cases hf : x.fresh
  ·((conv=>whnf)<;>repeat(with_reducible refine D1 ?_)<;>conv=>whnf)
   refine ⟨[], [some 0, some 2], _, _, _, _, delR_ok n x.nodes (by omega), t3, ?_⟩
   rintro r o' c' ⟨rfl, rfl, rfl⟩
   ((conv=>whnf)<;>repeat(with_reducible refine D1 ?_)<;>conv=>whnf)
   exact ⟨[], [some 0], _, _, _, t3, rfl, rfl, rfl⟩
  ·((conv=>whnf)<;>repeat(with_reducible refine D1 ?_)<;>conv=>whnf)
   refine ⟨[], [some 0], _, _, _, _, lastN_ok ⟨x.chain, x.epoch, x.nodes, true, x.join⟩ h5, t3, ?_⟩
   rintro r o' c' ⟨rfl, rfl, rfl⟩
   ((conv=>whnf)<;>repeat(with_reducible refine D1 ?_)<;>conv=>whnf)
   have hll : lastL ⟨x.chain, x.epoch, x.nodes, true, x.join⟩ = lastL x := rfl
   (first|refine ⟨?_,?_⟩|refine nsplit ?_ ?_|refine bsplit ?_ ?_)<;>intro hla<;>have hz_:=True.intro<;>clear hz_
   ·have hla : lastL x ≠ n := hla
    ((conv=>whnf)<;>repeat(with_reducible refine D1 ?_)<;>conv=>whnf)
    refine ⟨[], [some 0, some 2], _, _, _, _, delR_ok n x.nodes (by omega), t3, ?_⟩
    rintro r o' c' ⟨rfl, rfl, rfl⟩
    ((conv=>whnf)<;>repeat(with_reducible refine D1 ?_)<;>conv=>whnf)
    refine ⟨[], [some 0], ?_⟩
    iterate 3 constructor
    refine ⟨⟨?_, ?_, ?_⟩, rfl, rfl, rfl⟩
    all_goals (repeat' first|with_reducible exact Lz.rfl|exact Lw.rfl|exact Lz.wrap (by omega)|(unfold goInt;with_reducible exact Lz.rfl)|exact flx _|constructor)
    exact Lz.of (bool_eq (by simp [hla]))
   ·have hla : ¬ lastL x ≠ n := hla
    ((conv=>whnf)<;>repeat(with_reducible refine D1 ?_)<;>conv=>whnf)
    refine ⟨[], [some 0, some 2], _, _, _, _, delR_ok n x.nodes (by omega), t3, ?_⟩
    rintro r o' c' ⟨rfl, rfl, rfl⟩
    ((conv=>whnf)<;>repeat(with_reducible refine D1 ?_)<;>conv=>whnf)
    refine ⟨[], [some 0], ?_⟩
    iterate 3 constructor
    refine ⟨⟨?_, ?_, ?_⟩, rfl, rfl, rfl⟩
    all_goals (repeat' first|with_reducible exact Lz.rfl|exact Lw.rfl|exact Lz.wrap (by omega)|(unfold goInt;with_reducible exact Lz.rfl)|exact flx _|constructor)
    exact Lz.of (bool_eq (by simpa using hla))
theorem join_ok (x : CF) (n : Int) : VC E0 51 1 [.agg (namCF x 0), .s (.int .i64 n)] (stM x) (RR (.agg (encCF (doK x 2 n))) 1 []) := by
 refine VC.enterR L0 (show E0.func 51 = some Tryd.f51 by kernel_rfl) (fun _ _ => rfl) rfl rfl [] ?_
 ((conv=>whnf)<;>repeat(with_reducible refine D1 ?_)<;>conv=>whnf)
 exact ⟨[0], [some 0], _, _, _, t3, rfl, rfl, rfl⟩
theorem promote_ok (x : CF) (n : Int) (h5 : x.nodes.length ≤ 5) : VC E0 53 1 [.agg (namCF x 0), .s (.int .i64 n)] (stM x) (RR (.agg (encCF (doK x 3 n))) 1 []) := by
 have hC : doK x 3 n = ⟨x.chain, x.epoch, x.nodes ++ [n], true, 0⟩ := by unfold doK; rw [if_neg (by decide), if_neg (by decide), if_pos rfl]
 rw [hC]
 refine VC.enterR L0 (show E0.func 53 = some Tryd.f53 by kernel_rfl) (fun _ _ => rfl) rfl rfl [] ?_
 ((conv=>whnf)<;>repeat(with_reducible refine D1 ?_)<;>conv=>whnf)
 refine ⟨by simp; omega, ?_⟩
 ((conv=>whnf)<;>repeat(with_reducible refine D1 ?_)<;>conv=>whnf)
 refine ⟨[4], [some 0], ?_⟩
 iterate 3 constructor
 refine ⟨⟨?_, ?_, ?_⟩, rfl, rfl, rfl⟩
 all_goals (repeat' first|with_reducible exact Lz.rfl|exact Lw.rfl|exact Lz.wrap (by omega)|(unfold goInt;with_reducible exact Lz.rfl)|exact flx _|constructor)
 exact Lz.of (by simp)
theorem settle_ok (x : CF) (k n : Int) (k1 : k ≠ 1) (k2 : k ≠ 2) (k3 : k ≠ 3) : VC E0 55 1 [.agg (namCF x 0), .s (.int .i64 n)] (stM x) (RR (.agg (encCF (doK x k n))) 1 []) := by
 have hC : doK x k n = ⟨x.chain, x.epoch, x.nodes, false, x.join⟩ := by unfold doK; rw [if_neg k1, if_neg k2, if_neg k3]
 rw [hC]
 refine VC.enterR L0 (show E0.func 55 = some Tryd.f55 by kernel_rfl) (fun _ _ => rfl) rfl rfl [] ?_
 ((conv=>whnf)<;>repeat(with_reducible refine D1 ?_)<;>conv=>whnf)
 exact ⟨[0], [some 0], _, _, _, t3, rfl, rfl, rfl⟩
theorem of1_k (k : Int) (h : k = 1) : VC E0 29 0 [.s (.int .i64 k)] [] (RR (.agg [.clo 48 [] [], .clo 49 [] []]) 0 []) := by subst h; exact of1_ok
theorem of2_k (k : Int) (h : k = 2) : VC E0 29 0 [.s (.int .i64 k)] [] (RR (.agg [.clo 50 [] [], .clo 51 [] []]) 0 []) := by subst h; exact of2_ok
theorem of3_k (k : Int) (h : k = 3) : VC E0 29 0 [.s (.int .i64 k)] [] (RR (.agg [.clo 52 [] [], .clo 53 [] []]) 0 []) := by subst h; exact of3_ok
end Go.M
