/-
  Part 6 of the library that the proof leans on.
-/
import Derived.OpenShut
import Derived.ChangeArms
import Derived.Test.YtdlkoejihkfmhaaGreatDoorChecked
import Derived.KernelRfl
import Derived.Test.YtdlkoejihkfmhaaGreatDoorL5
namespace Go.M
open Go Go.RowKit

/-- What a call on a slice of numbers comes to. -/
def OnInts (P : Program) (g : FuncId) (pre : List Value) (val : List Int → Value) (ok : List Int → Prop) : Prop :=
  ∀ (W : World) (l : List Int) (r o cap : Nat) (c : Array Value) (e : TypeId) (fr : Nat × Nat),
    W.heap[r]? = some (.cells c e fr) → l.length ≤ cap → o + cap ≤ c.size → (∀ (i : Nat) (x : Int), l[i]? = some x → c[o + i]? = some (.int .i64 x)) → ok l →
    Calls P g (List.toArray (pre ++ [Value.slice (some ⟨r, o, none⟩) l.length cap])) W fun en W' => en = .returned (val l) ∧ Below W.heap.size W W'

theorem vrels_plain {μ : Emb} : ∀ {l : List Value}, (∀ v ∈ l, plain1 v = true) → VRels μ l l
  | [], _ => .nil
  | v :: l, h => .cons (.lit (h v List.mem_cons_self)) (vrels_plain fun u hu => h u (List.mem_cons_of_mem _ hu))
theorem vrels_app {μ : Emb} : ∀ {a a' b b' : List Value}, VRels μ a a' → VRels μ b b' → VRels μ (a ++ b) (a' ++ b')
  | _, _, _, _, .nil, h => h
  | _, _, _, _, .cons h1 h2, h => .cons h1 (vrels_app h2 h)
theorem vrs_plain {c : Nat} {ρ : Gh} {F : Nat → Prop} {h : AHeap} {t : TV} {v : Value} (hl : VR c ρ F h t v) : ∀ {l : List Value}, (∀ v ∈ l, plain1 v = true) → VRs c ρ F h (l.map .s ++ [t]) (l ++ [v])
  | [], _ => .cons hl .nil
  | v :: l, hp => .cons (.s (hp v List.mem_cons_self)) (vrs_plain hl fun u hu => hp u (List.mem_cons_of_mem _ hu))

theorem onInts_of {P : Program} {E : Env} {g : FuncId} (hE : EnvOk P E) (hO : ∀ base B, OrcOk P E base B) (hm : P.follows .mixedOrders = true) (hg : ∀ g, E.glob g = false) {pre : List Value} (hpre : ∀ v ∈ pre, plain1 v = true) {val : List Int → Value} {ok : List Int → Prop}
    (hval : ∀ l, ok l → scalar (val l) = true) (hV : ∀ l, ok l → VC E g 0 (pre.map .s ++ [.sl 1 (l.map fun n => [.s (.int .i64 n)]) false]) [] fun r _ _ => r = .s (val l)) : OnInts P g pre val ok := by
  intro W l r o cap c e fr hr hcap hsz hc hok
  have hcl : ∀ (i : Nat) v, (l.map (Value.int .i64))[i]? = some v → c[o + i]? = some v := fun i v hi => by
    rw [List.getElem?_map, Option.map_eq_some_iff] at hi
    obtain ⟨x, hx, rfl⟩ := hi
    exact hc i x hx
  obtain ⟨A, _⟩ := (ar0 W).push (vs := l.map (Value.int .i64)) (cs := l.map (Value.int .i64)) (vrels_plain (by simp [plain1])) hr (by simp; omega) hcl
  generalize hμ : (fun b => if b = h00.size then some (⟨r, o, c.size⟩ : MT) else μ00 b) = μ at A
  generalize hh : h00.push (.cells (l.map (Value.int .i64)) h00.size (h00.size + 1) 0) = h at A
  have hget : h.get 0 = some (.cells (l.map (Value.int .i64)) 0 1 0) := by rw [← hh, AHeap.get_push]; rfl
  have hsz1 : h.size = 1 := by rw [← hh]; rfl
  have hμ0 : μ 0 = some ⟨r, o, c.size⟩ := by rw [← hμ]; rfl
  have hv1 : VR 0 noG (· < h.size) h (.sl 1 (l.map fun n => [.s (.int .i64 n)]) false) (.slice (some ⟨0, 0, some 1⟩) l.length cap) := by
    refine .sl (by omega) (A.rd hget) (by omega) (by simp) hcap (by simp) (by simp) (by simp) (by simp [fz, plainE]) fun i j e t v q1 q2 q3 => ?_
    rw [List.getElem?_map] at q1
    obtain ⟨n, hn, rfl⟩ := Option.map_eq_some_iff.1 q1
    have : j = 0 := by
      have := (List.getElem?_eq_some_iff.1 q2).1
      simpa using this
    subst this
    simp at q2; subst q2
    rw [Nat.mul_one, Nat.add_zero, Nat.zero_add, List.getElem?_map, hn] at q3
    simp at q3; subst q3
    exact .s rfl
  obtain ⟨n, v, h', ρ', F', r', o', c', h1, rfl, h3, h4⟩ := hV l hok h.size noG _ h _ _ (fun g cs hx => by have := hg g; simp [Env.glob, hx] at this) A.mem (AR.mo (μ := μ)) (vrs_plain hv1 hpre)
  obtain ⟨rfl, _⟩ := h4.inv_s
  have x : VRels μ (pre ++ [.slice (some ⟨0, 0, some 1⟩) l.length cap]) (pre ++ [Value.slice (some ⟨r, o, none⟩) l.length cap]) := by
    refine vrels_app (vrels_plain hpre) (.cons ?_ .nil)
    have := VRel.slice (b := 0) (o := 0) (z := 1) (len := l.length) (cap := cap) (cap' := cap) hμ0 hcap hcap (fun h => h) (by show o + 0 + cap * 1 ≤ c.size; omega)
    simpa using this
  have := acall_ok hE (hO h.size W.heap.size) hm n μ h W g _ (List.toArray (pre ++ [Value.slice (some ⟨r, o, none⟩) l.length cap])) _ h' h1 (by simpa using x) (A.hrel hg) Fence.wide 0 Wide.wide
  refine (callsIn_wide.1 (this.mono ?_))
  rintro e W' ⟨v', μ', rfl, hv, S⟩
  have e := hv.inv_scalar (hval l hok)
  subst e
  exact ⟨rfl, S.grow.os, S.grow.tape, S.grow.output, S.grow.size, fun k hk => S.grow.keep k hk fun b m hb _ => A.dom b m hb⟩

theorem scalar_plain1 {v : Value} (h : scalar v = true) : plain1 v = true := by
  cases v <;> simp_all [scalar, plain1]
theorem vrels_snoc {μ : Emb} : ∀ {a b : List Value} {x : Value}, (∀ v ∈ a, scalar v = true) → VRels μ (a ++ [x]) b → ∃ x', b = a ++ [x'] ∧ VRel μ x x'
  | [], b, x, _, h => by
    cases h with
    | cons h1 h2 => cases h2; exact ⟨_, rfl, h1⟩
  | v :: a, b, x, hs, h => by
    cases h with
    | cons h1 h2 =>
      obtain ⟨x', rfl, h3⟩ := vrels_snoc (fun u hu => hs u (List.mem_cons_of_mem _ hu)) h2
      obtain rfl := h1.inv_scalar (hs v List.mem_cons_self)
      exact ⟨x', rfl, h3⟩

/-- The answer of a call on a bag. -/
def bagK (val : List Value → List Int → Option Value) (args : List Value) (h : AHeap) : Option (Value × AHeap) := match args.reverse with
  | .slice (some ⟨b, 0, some 1⟩) len cap :: rp => (match h.get b with
    | some (.bag cs) => grd (Nat.beq len cs.length && Nat.ble len cap && Nat.blt 0 len && rp.all scalar) ((val rp.reverse cs).bind fun v => some (v, h))
    | _ => none)
  | _ => none
def BagOk (P : Program) (g : FuncId) (val : List Value → List Int → Option Value) : Prop :=
  ∀ pre cs v, (∀ u ∈ pre, scalar u = true) → val pre cs = some v → scalar v = true ∧ ∀ l : List Int, l.Perm cs → ∃ vf ok, OnInts P g pre vf ok ∧ ok l ∧ vf l = v

theorem bagK_ok {P : Program} {E : Env} {base B : Nat} {g : FuncId} {val : List Value → List Int → Option Value} (hB : BagOk P g val) {μ : Emb} {h h' : AHeap} {w : World} {args : List Value} {args' : Array Value} {v : Value}
    (hc : bagK val args h = some (v, h')) (hr : VRels μ args args'.toList) (H : HRel E base B μ h w) : Calls P g args' w (RetPost E base B μ h w v h') := by
  unfold bagK at hc
  split at hc
  · rename_i b len cap rp hrev
    split at hc
    · rename_i cs hg
      simp only [grd_some, Bool.and_eq_true, beq_iff, ble_iff, blt_iff, List.all_eq_true, Option.bind_eq_some_iff, Option.some.injEq, Prod.mk.injEq] at hc
      obtain ⟨⟨⟨⟨hlen, hcap⟩, hpos⟩, hsc⟩, v1, hv, rfl, rfl⟩ := hc
      have ea : args = rp.reverse ++ [.slice (some ⟨b, 0, some 1⟩) len cap] := by
        have := congrArg List.reverse hrev
        simpa using this
      subst ea
      obtain ⟨x', e1, hx⟩ := vrels_snoc (fun u hu => hsc u (List.mem_reverse.1 hu)) hr
      obtain ⟨hsv, hP⟩ := hB rp.reverse cs v1 (fun u hu => hsc u (List.mem_reverse.1 hu)) hv
      cases hx with
      | lit hh => simp [plain1] at hh
      | slice0 hb => omega
      | slice hb q1 q2 q3 q4 =>
        rename_i cap' m
        obtain ⟨p, p', k1, k2, k3⟩ := H.obj b m hb
        rw [hg] at k1; cases k1
        cases k3 with
        | bag hp hl hcc hcn =>
          rename_i c e fr l
          obtain ⟨vf, ok, hO, hok, rfl⟩ := hP l hp
          have hll : l.length = len := by rw [hp.length_eq, hlen]
          have := hO w l m.r m.s cap' c e fr k2 (by omega) (by rw [hcn]; omega) hcc hok
          have e2 : args' = List.toArray (rp.reverse ++ [Value.slice (some ⟨m.r, m.s, none⟩) l.length cap']) := by
            rw [← Array.toList_inj, e1, hll]; simp
          rw [e2]
          refine this.mono ?_
          rintro en w' ⟨rfl, hbl⟩
          have Hx := H.ext hbl.size fun r hr => hbl.block r hr
          have gr : Grow base μ w w' := ⟨hbl.tape, hbl.os, hbl.output, hbl.size, fun r hr _ => hbl.block r hr⟩
          exact ⟨_, μ, rfl, .lit (scalar_plain1 hsv), ⟨Hx, gr, μ.le_refl, fun b m h0 h1 => (by rw [h0] at h1; cases h1), fun _ _ _ => rfl, Nat.le_refl _⟩⟩
    · cases hc
  · cases hc

section
variable {E : Env}
/-- The contract of a call on a bag. -/
theorem VC.bagged {g : FuncId} {val : List Value → List Int → Option Value} {pre : List Value} (hf : (E.func g).isSome = true) (ho : ∀ a h, E.orc g a h = bagK val a h) {ks : List Int} {v : Value} (hpre : ∀ u ∈ pre, scalar u = true) (hk : 0 < ks.length) (hv : val pre ks = some v) (hsv : scalar v = true) :
    VC E g 1 (pre.map .s ++ [.bg 0 ks.length]) [(0, .bag ks)] fun r o c => r = .s v ∧ c = 1 ∧ o = [(0, .bag ks)] := by
  intro base ρ F h S vargs hN hM hO hA
  obtain ⟨fn, hf⟩ := Option.isSome_iff_exists.1 hf
  obtain ⟨_, hm⟩ := hM.objs (m := 0) rfl
  cases hm with
  | bag hb hg =>
    rename_i b
    have hargs : vargs = pre ++ [.slice (some ⟨b, 0, some 1⟩) ks.length (ks.length + 1)] := by
      clear hv hM hO
      induction pre generalizing vargs with
      | nil =>
        obtain ⟨v1, m1, rfl, h1, h2⟩ := hA.inv_cons
        obtain rfl := h2.inv_nil
        cases h1 with
        | bg hb2 => rw [hb] at hb2; cases hb2; rfl
      | cons u pre ih =>
        obtain ⟨v1, m1, rfl, h1, h2⟩ := hA.inv_cons
        rw [ih (fun x hx => hpre x (List.mem_cons_of_mem _ hx)) _ h2]
        obtain ⟨rfl, _⟩ := h1.inv_s
        rfl
    subst hargs
    have horc : E.orc g (pre ++ [.slice (some ⟨b, 0, some 1⟩) ks.length (ks.length + 1)]) h = some (v, h) := by
      rw [ho]
      unfold bagK
      simp only [List.reverse_append, List.reverse_cons, List.reverse_nil, List.nil_append, List.singleton_append, hg]
      have h1 : pre.reverse.all scalar = true := List.all_eq_true.2 fun u hu => hpre u (List.mem_reverse.1 hu)
      have h2 : Nat.ble ks.length (ks.length + 1) = true := Nat.ble_eq_true_of_le (by omega)
      have h3 : Nat.blt 0 ks.length = true := blt_iff.2 hk
      simp [grd, h1, h2, h3, hv]
    refine ⟨0, v, h, ρ, F, .s v, _, 1, ?_, ⟨rfl, rfl, rfl⟩, hM, .s (scalar_plain1 hsv)⟩
    unfold acall acallB
    rw [hf]
    simp only [Option.bind_some, horc]
end
end Go.M

namespace Go.M
open Go Go.RowKit Go.Maps Go.Sort Go.Shelf Go.Proofs

/-- What such a call comes to, at whatever map. -/
def CollectsKeys (P : Program) (g k : FuncId) : Prop := ∀ (W : World) (Bm : Nat) (mb : Option Nat) (ks : List Int), W.cell? ⟨Bm, 0, none⟩ = some (.map mb) → ks.length ≤ 1099511627776 → (∀ x ∈ ks, IntKind.i64.min ≤ x ∧ x ≤ IntKind.i64.max) → ks.Nodup →
    (mb = none ∧ ks = [] ∨ ∃ (r : Nat) (es : Array MapEntry) (clock : Nat), mb = some r ∧ W.heap[r]? = some (.map es clock) ∧ StL es.toList clock ∧ es.toList.map (·.key) = ks.map (.int .i64)) →
    Calls P g #[.func (.func k) #[] #[.pointer (some ⟨Bm, 0, none⟩)]] W fun e w' => ∃ (v : Value) (t : TypeId) (l : List Int), e = .returned v ∧ l.Perm ks ∧ w'.ownsRow W.heap.size t 1 v ks.length (l.map (.int .i64)) ∧ (v = .slice none 0 0 ↔ ks = []) ∧ Below W.heap.size W w'

/-- Out of the library's contracts. -/
theorem collectsKeys_of {P : Program} {ρ σ : Ren} (L8 : SlLaysZI.n8 P ρ) (L10 : SlLaysZI.n10 P σ) (e10 : ∀ args w, (callFunc (σ.f 10) args).run P w = .ok (.enter (σ.f 10) args) w) : CollectsKeys P (ρ.f 8) (σ.f 10) := by
  intro W Bm mb ks hm hlen hrg hnd hmap
  have hBm : Bm < W.heap.size := by
    unfold World.cell? at hm
    split at hm
    · rename_i hh; exact (Array.getElem?_eq_some_iff.1 hh).1
    · cases hm
  have key : ∃ (S : List Int → Prop), (∀ ss, S ss → ss.Perm ks) ∧ SeqGives Fence.wide (9 - 1 - 1) P (σ.f 10) #[.pointer (some ⟨Bm, 0, none⟩)] encZ S ks.length W := by
    rcases hmap with ⟨rfl, rfl⟩ | ⟨r, es, clock, rfl, hr, hst, hk⟩
    · exact ⟨_, fun ss h => by rw [h], AnyZI.keys_gives_nil L10 Fence.wide _ trivial rfl Bm W hBm hm⟩
    · have hkeyed : Keyed P (σ.t 26) := int_keyed L10.t26
      have hreads : ∀ x ∈ es.toList, ∃ n, n ∈ ks ∧ x.key = .int .i64 n ∧ WideElems.rd (H := Unit) P (σ.t 26) (fun _ => some (.nil, [])) x = some ((.int .i64 n), .nil) := by
        intro x hx
        have : x.key ∈ es.toList.map (·.key) := List.mem_map.2 ⟨x, hx, rfl⟩
        rw [hk] at this
        obtain ⟨n, hn, e⟩ := List.mem_map.1 this
        refine ⟨n, hn, e.symm, ?_⟩
        obtain ⟨h1, h2⟩ := hrg n hn
        unfold WideElems.rd
        rw [← e, keyOf_int_mk L10.t26 (by simp only [Lit.wf, Bool.and_eq_true, decide_eq_true_eq]; exact ⟨h1, h2⟩)]
        rfl
      have hkl : (es.toList.map fun x => intOf (WideElems.rg (H := Unit) P (σ.t 26) (fun _ => some (.nil, [])) x).1) = ks := by
        have h1 : es.toList.map (fun x => intOf (WideElems.rg (H := Unit) P (σ.t 26) (fun _ => some (.nil, [])) x).1) = (es.toList.map (·.key)).map (fun v => match v with | .int _ n => n | _ => 0) := by
          rw [List.map_map]
          refine List.map_congr_left fun x hx => ?_
          obtain ⟨n, _, e, h⟩ := hreads x hx
          rw [WideElems.rg_of h, Function.comp_apply, e]
          rfl
        rw [h1, hk, List.map_map]
        exact (List.map_congr_left fun x _ => rfl).trans (List.map_id ks)
      have hsz : es.size = ks.length := by
        have := congrArg List.length hk
        simpa using this
      have hown : W.ownsMap (H := Unit) P (σ.t 26) (fun _ => some (.nil, [])) r ks.length (.map ((es.toList.map (WideElems.rg P (σ.t 26) (fun _ => some (.nil, [])))).foldr DataW.insert [])) := by
        refine ⟨es, clock, hr, ⟨by rw [hsz]; unfold Go.maxLen; omega, ⟨hst.1, hst.2, ?_⟩, fun x hx => ?_⟩, Nat.le_of_eq hsz, rfl⟩
        · rw [hk]
          exact List.pairwise_map.2 (hnd.imp fun h e => h (by simpa using e))
        · obtain ⟨n, _, _, h⟩ := hreads x hx
          exact ⟨_, h⟩
      have hp : (intKeys (H := Unit) (.map ((es.toList.map (WideElems.rg P (σ.t 26) (fun _ => some (.nil, [])))).foldr DataW.insert []))).Perm ks := by
        have := (WideShapes.sorted_perm (es.toList.map (WideElems.rg (H := Unit) P (σ.t 26) (fun _ => some (.nil, []))))).map (fun p => intOf p.1)
        rw [List.map_map] at this
        have h2 : (es.toList.map ((fun p => intOf p.1) ∘ WideElems.rg (H := Unit) P (σ.t 26) (fun _ => some (.nil, [])))) = ks := hkl
        rw [h2] at this
        exact this
      have hs := AnyZI.keys_gives L10 Fence.wide (9 - 1 - 1) trivial rfl (by omega) Bm r ks.length _ W hBm hm hown
      have e : Maps.size (H := Unit) (.map ((es.toList.map (WideElems.rg P (σ.t 26) (fun _ => some (.nil, [])))).foldr DataW.insert [])) = ks.length := by
        have := (WideShapes.sorted_perm (es.toList.map (WideElems.rg (H := Unit) P (σ.t 26) (fun _ => some (.nil, []))))).length_eq
        rw [size_eq, this, List.length_map]
        simpa using hsz
      rw [e] at hs
      exact ⟨_, fun ss h => h.trans hp, hs⟩
  obtain ⟨S, hS, hseq⟩ := key
  have := AnyZI.collect_in L8 Fence.wide 9 trivial trivial rfl (by omega) (σ.f 10) #[.pointer (some ⟨Bm, 0, none⟩)] trivial e10 S ks.length (by unfold Go.maxLen; omega) (by omega) W hseq
  refine callsIn_wide.1 (this.mono ?_)
  rintro e w' ⟨v, ss, rfl, hs, hrow, hnil, hb⟩
  have hp := hS ss hs
  rw [hp.length_eq] at hrow
  refine ⟨v, _, ss, rfl, hp, hrow, hnil.trans ⟨fun h => ?_, fun h => ?_⟩, hb⟩
  · subst h; exact List.Perm.nil_eq hp |>.symm ▸ rfl
  · subst h; exact List.Perm.eq_nil hp

def ansC (h : AHeap) (ks : List Int) : Value × AHeap := match ks with
  | [] => (.slice none 0 0, h)
  | _ :: _ => (.slice (some ⟨h.size, 0, some 1⟩) ks.length (ks.length + 1), h.push (.bag ks))
def collectK (its : List Nat) (args : List Value) (h : AHeap) : Option (Value × AHeap) := match args with
  | [.func (.func k) a c] => (match a.toList, c.toList with
    | [], [.pointer (some ⟨b, 0, none⟩)] => grd (memN k its) ((boxMap h b).bind fun mb => (keysAt h mb).bind fun ks => some (ansC h ks))
    | _, _ => none)
  | _ => none

theorem collectK_ok {P : Program} {E : Env} {base B : Nat} {its : List Nat} {g : FuncId} (hS : ∀ k ∈ its, CollectsKeys P g k) {μ : Emb} {h h' : AHeap} {w : World} {args : List Value} {args' : Array Value} {v : Value}
    (hc : collectK its args h = some (v, h')) (hr : VRels μ args args'.toList) (H : HRel E base B μ h w) : Calls P g args' w (RetPost E base B μ h w v h') := by
  unfold collectK at hc
  split at hc
  · rename_i k a c
    split at hc
    · rename_i b ha hcc
      simp only [grd_some, Option.bind_eq_some_iff, Option.some.injEq] at hc
      obtain ⟨hk, mb, hbox, ks, hkeys, hans⟩ := hc
      obtain ⟨thr, hg, hthr⟩ := boxMap_some hbox
      -- the arguments in the world
      obtain ⟨v1, hv1, e1⟩ : ∃ v1, VRel μ (.func (.func k) a c) v1 ∧ args' = #[v1] := by
        obtain ⟨l⟩ := args'
        cases hr with
        | cons h1 h2 => cases h2; exact ⟨_, h1, rfl⟩
      subst e1
      cases hv1 with
      | lit hh => simp [plain1] at hh
      | func hs1 ha1 hs2 ha2 =>
        rename_i a' c'
        have ea : a' = #[] := by
          have h0 : a'.size = 0 := by rw [← hs1]; have := congrArg List.length ha; simpa using this
          exact Array.eq_empty_of_size_eq_zero h0
        subst ea
        have hc1 : c.size = 1 := by have := congrArg List.length hcc; simpa using this
        obtain ⟨p', ec⟩ : ∃ p', c' = #[p'] := by
          obtain ⟨l⟩ := c'
          rw [hc1] at hs2
          match l, hs2 with
          | [x], _ => exact ⟨x, rfl⟩
          | [], hs2 => simp at hs2
          | _ :: _ :: _, hs2 => simp at hs2
        subst ec
        have hp := ha2 0 (.pointer (some ⟨b, 0, none⟩)) p' (by rw [← Array.getElem?_toList, hcc]; rfl) rfl
        obtain ⟨m, hm, rfl⟩ := hp.inv_ptr
        have hs0 := H.root b m _ _ hm hg
        have hrd : h.rd b = some [.map mb] := rd_of (fam_of hg hg) hthr (by unfold AHeap.cellsOf; rw [hg])
        obtain ⟨cc, e, fr, q1, q2, q3, q4, q5⟩ := H.read hm hrd
        obtain ⟨vm, q6, q7⟩ := q5 0 (.map mb) rfl
        rw [hs0] at q6 ⊢
        obtain ⟨mb', rfl, hmap⟩ : ∃ mb', vm = .map mb' ∧ (mb' = none ∧ ks = [] ∨ ∃ (r : Nat) (es : Array MapEntry) (clock : Nat), mb' = some r ∧ w.heap[r]? = some (.map es clock) ∧ StL es.toList clock ∧ es.toList.map (·.key) = ks.map (.int .i64)) := by
          cases mb with
          | none =>
            cases q7 with
            | lit _ => exact ⟨none, rfl, .inl ⟨rfl, by simpa [keysAt] using hkeys.symm⟩⟩
          | some r =>
            obtain ⟨mr, w1, rfl⟩ := q7.inv_map
            refine ⟨_, rfl, .inr ?_⟩
            obtain ⟨ev, clock, hgr, hks, hst, hok⟩ := keysAt_some hkeys
            obtain ⟨o, o', k1, k2, k3⟩ := H.obj r mr w1
            rw [hgr] at k1; cases k1
            cases k3 with
            | map hs =>
              rename_i es'
              refine ⟨_, es', clock, rfl, k2, ?_, hs.ints hks⟩
              rw [StL.iff, hs.born, ← StL.iff]; exact hst
        have hok : ksOk ks := by
          cases mb with
          | none => simp [keysAt] at hkeys; subst hkeys; exact ⟨by simp, by simp, by simp⟩
          | some r =>
            obtain ⟨ev, clock, hgr, hks, hst, hok⟩ := keysAt_some hkeys
            exact hok
        have hcell : w.cell? ⟨m.r, 0, none⟩ = some (.map mb') := by
          unfold World.cell?
          simp only [q1, Option.isSome_none, Bool.false_eq_true, if_false]
          simpa using q6
        have := hS k (memN_mem hk) w m.r mb' ks hcell hok.1 hok.2.1 hok.2.2 hmap
        simp only [Nat.add_zero]
        refine this.mono ?_
        rintro en w' ⟨v', t, l, rfl, hpl, hrow, hnil, hb⟩
        have Hx := H.ext hb.size fun r hr => hb.block r hr
        have gr : Grow base μ w w' := ⟨hb.tape, hb.os, hb.output, hb.size, fun r hr _ => hb.block r hr⟩
        cases ks with
        | nil =>
          simp only [ansC, Prod.mk.injEq] at hans
          obtain ⟨rfl, rfl⟩ := hans
          have := hnil.2 rfl
          subst this
          exact ⟨_, μ, rfl, .lit rfl, ⟨Hx, gr, μ.le_refl, fun b m h0 h1 => (by rw [h0] at h1; cases h1), fun _ _ _ => rfl, Nat.le_refl _⟩⟩
        | cons x0 l0 =>
          generalize hks0 : x0 :: l0 = ks at *
          have hlen : 0 < ks.length := by rw [← hks0]; simp
          have hans' : ansC h ks = (.slice (some ⟨h.size, 0, some 1⟩) ks.length (ks.length + 1), h.push (.bag ks)) := by rw [← hks0]; rfl
          rw [hans'] at hans
          simp only [Prod.mk.injEq] at hans
          obtain ⟨rfl, rfl⟩ := hans
          obtain ⟨r1, ⟨_, r2⟩ | ⟨gb, cap, cur, rfl, r3, r4, r5, r6, r7, r8⟩⟩ := hrow
          · omega
          · let m2 : MT := ⟨gb, 0, cur.size⟩
            have hll : l.length = ks.length := hpl.length_eq
            have Hp := Hx.pushA (o := .bag ks) (fun _ _ _ _ hh => by cases hh)
            have hget : (h.push (.bag ks)).get h.size = some (.bag ks) := by rw [AHeap.get_push, if_pos rfl]
            have ho : ORel (upd μ h.size m2) (h.push (.bag ks)) base h.size m2 (.bag ks) (.cells cur t (0, 0)) := by
              refine .bag (l := l) hpl (by show 0 + l.length ≤ cur.size; omega) (fun i x hx => ?_) rfl
              have hi := (List.getElem?_eq_some_iff.1 hx).1
              have : cur.toList[i]? = some (.int .i64 x) := by
                have h5 : (cur.toList.take (ks.length * 1))[i]? = some (.int .i64 x) := by rw [r8]; simp [hx]
                rw [List.getElem?_take] at h5
                rwa [if_pos (by omega)] at h5
              show cur[0 + i]? = some _
              rw [Nat.zero_add]; simpa using this
            have Ht := Hp.track (b := h.size) (m := m2) (by simp [AHeap.size_push]) hget H.fresh H.bsz (by have := H.low; show B ≤ gb; omega) r4
              (fun d md hd he => by have := H.lt hd; simp only [m2] at he; omega) (fun _ _ _ _ hh => by cases hh) (fun _ _ _ => rfl) ho
            refine ⟨_, upd μ h.size m2, rfl, ?_, Ht, gr, upd_le H.fresh, fun d md h0 hd => ?_, fun d hd _ => by rw [AHeap.get_push, if_neg (by omega)], by simp [AHeap.size_push]⟩
            · have := VRel.slice (μ := upd μ h.size m2) (b := h.size) (o := 0) (z := 1) (len := ks.length) (cap := ks.length + 1) (cap' := cap) (m := m2) (upd_self _ _ _) (by omega) r5 (fun h => by omega) (by show 0 + 0 + cap * 1 ≤ cur.size; omega)
              simpa [m2] using this
            · by_cases ed : d = h.size
              · subst ed
                rw [upd_self] at hd; cases hd
                exact ⟨Nat.le_refl _, H.bsz, .inl r3⟩
              · rw [upd_ne _ _ ed, h0] at hd; cases hd
    · cases hc
  · cases hc

end Go.M

namespace Go.M
open Go Go.RowKit

section
variable {X : Cx} {ρ : Gh} {F : Nat → Prop} {o : Ob} {c : Nat} {h : AHeap}
theorem Mem.newBag (H : Mem X ρ F o c h) (ks : List Int) :
    let h' := h.push (.bag ks)
    Mem X (updG ρ c (some (.blk h.size))) F ((c, .bag ks) :: o) (c + 1) h' ∧ ∀ t v, VR c ρ F h t v → VR (c + 1) (updG ρ c (some (.blk h.size))) F h' t v := by
  intro h'
  refine H.pushG (S0 := [(h.size, true)]) (fun cs f tip thr e => by cases e) (H.upd_A _) (H.upd_B _) (H.upd_N _) (fun n hn => updG_ne _ _ (by omega)) (fun hm => ?_) rfl
  exact .bag (updG_self _ _ _) (by rw [AHeap.get_push, if_pos rfl])
end

section
variable {E : Env}
theorem VC.collect {g : FuncId} {its : List Nat} {k : FuncId} (hf : (E.func g).isSome = true) (ho : ∀ a h, E.orc g a h = collectK its a h) (hk : memN k its = true) {y : TO} {ks : List Int} (hy : KeysO ks y) (hok : ksOk ks) (hne : ks ≠ []) :
    VC E g 2 [.clo k [] [.ptr 1 0]] [(0, y), (1, .cells [.mp 0])] fun r o c => r = .bg 2 ks.length ∧ c = 3 ∧
      o = [(2, .bag ks), (0, y), (1, .cells [.mp 0])] := by
  intro base ρ F h S vargs hN hM hO hA
  obtain ⟨fn, hf⟩ := Option.isSome_iff_exists.1 hf
  obtain ⟨v1, m1, rfl, h1, h2⟩ := hA.inv_cons
  obtain rfl := h2.inv_nil
  obtain ⟨_, hm⟩ := hM.objs (m := 0) rfl
  obtain ⟨_, hb⟩ := hM.objs (m := 1) rfl
  obtain ⟨b0, ev, clock, hb0, hg0, hst, hkeys⟩ := hm.keys hy
  cases hb with
  | cells hb1 hg1 ht1 hc1 =>
    rename_i b1 thr cs'
    have hc1 := (hc1.vrs (fun t v hv hf => hv.fzmono hf) rfl).1
    obtain ⟨x1, l1, rfl, y1, y2⟩ := hc1.inv_cons
    obtain rfl := y2.inv_nil
    cases y1 with
    | mp hbm =>
      rw [hb0] at hbm; cases hbm
      cases h1 with
      | clo hs1 ha1 hs2 ha2 =>
        rename_i a kk
        have ea : a = #[] := Array.eq_empty_of_size_eq_zero (by simpa using hs1.symm)
        subst ea
        obtain ⟨p', ec⟩ : ∃ p', kk = #[p'] := by
          obtain ⟨l⟩ := kk
          match l, hs2 with
          | [x], _ => exact ⟨x, rfl⟩
          | [], hs2 => simp at hs2
          | _ :: _ :: _, hs2 => simp at hs2
        subst ec
        have hp := ha2 0 (.ptr 1 0) p' rfl rfl
        cases hp with
        | ptr hb2 =>
          rw [hb1] at hb2; cases hb2
          have horc : E.orc g [.func (.func k) #[] #[.pointer (some ⟨b1, 0, none⟩)]] h = some (ansC h ks) := by
            rw [ho]
            show grd (memN k its) ((boxMap h b1).bind fun mb => (keysAt h mb).bind fun ks => some (ansC h ks)) = _
            have hbx : boxMap h b1 = some (some b0) := by
              unfold boxMap; rw [hg1]; simp [grd, Nat.ble_eq_true_of_le ht1]
            rw [hk, hbx]
            simp only [grd, Option.bind_some, keysAt, hg0, intKs_of hkeys, hst, hok, decide_true, Bool.and_self]
          have hans : ansC h ks = (.slice (some ⟨h.size, 0, some 1⟩) ks.length (ks.length + 1), h.push (.bag ks)) := by
            cases ks with
            | nil => exact absurd rfl hne
            | cons _ _ => rfl
          rw [hans] at horc
          obtain ⟨M, hk2⟩ := hM.newBag ks
          refine ⟨0, _, _, _, F, .bg 2 ks.length, _, 3, ?_, ⟨rfl, rfl, rfl⟩, M, .bg (updG_self _ _ _)⟩
          unfold acall acallB
          rw [hf]
          simp only [Option.bind_some, horc]
end

theorem bagK_sl {c : Nat} {ρ : Gh} {F : Nat → Prop} {h : AHeap} {val : List Value → List Int → Option Value} {z : Nat} {es : List (List TV)} {fl : Bool} : ∀ {pre : List TV} {vargs : List Value}, VRs c ρ F h (pre ++ [.sl z es fl]) vargs → bagK val vargs h = none := by
  intro pre vargs H
  obtain ⟨pv, x, rfl, hx⟩ : ∃ pv x, vargs = pv ++ [x] ∧ VR c ρ F h (.sl z es fl) x := by
    induction pre generalizing vargs with
    | nil =>
      obtain ⟨v, m, rfl, h1, h2⟩ := H.inv_cons
      obtain rfl := h2.inv_nil
      exact ⟨[], v, rfl, h1⟩
    | cons t pre ih =>
      obtain ⟨v, m, rfl, h1, h2⟩ := H.inv_cons
      obtain ⟨pv, x, rfl, hx⟩ := ih h2
      exact ⟨v :: pv, x, rfl, hx⟩
  unfold bagK
  rw [List.reverse_append]
  cases hx with
  | nil => rfl
  | sl hF hr hz hl hcap hfl hle he hfz hc =>
    rename_i b o len cap cs
    show (match (.slice (some ⟨b, o, some z⟩) len cap :: pv.reverse : List Value) with
      | .slice (some ⟨b, 0, some 1⟩) len cap :: rp => (match h.get b with
        | some (.bag cs) => grd (Nat.beq len cs.length && Nat.ble len cap && Nat.blt 0 len && rp.all scalar) ((val rp.reverse cs).bind fun v => some (v, h))
        | _ => none)
      | _ => none) = none
    split
    · rename_i heq
      cases heq
      split
      · rename_i hg
        unfold AHeap.rd AHeap.fam at hr
        simp [hg] at hr
      · rfl
    · rfl

abbrev BagF := List Value → List Int → Option Value
/-- Awake functions, Sorted and Collect over keys, and calls on bags. -/
def orcW (l : List Nat) (gs cs : List (Nat × List Nat)) (bs : List (Nat × BagF)) : FuncId → List Value → AHeap → Option (Value × AHeap) := fun g args h => match look cs g with
  | some its => collectK its args h
  | none => match look bs g with
    | some val => bagK val args h
    | none => orcV l gs g args h

theorem orcW_ok {P : Program} {l : List Nat} {gs cs : List (Nat × List Nat)} {bs : List (Nat × BagF)} (hl : ∀ g ∈ l, Awake P g) (hs : ∀ g its, look gs g = some its → ∀ k ∈ its, SortsKeys P g k) (hc : ∀ g its, look cs g = some its → ∀ k ∈ its, CollectsKeys P g k)
    (hb : ∀ g val, look bs g = some val → BagOk P g val) (base B : Nat) : OrcOk P (envOf P (orcW l gs cs bs)) base B := by
  intro μ h w g args args' v h' hcc hr H F n hF
  have hc' : orcW l gs cs bs g args h = some (v, h') := hcc
  unfold orcW at hc'
  split at hc'
  · rename_i its hi
    exact calls_any hF (collectK_ok (hc g its hi) hc' hr H)
  · split at hc'
    · rename_i val hv
      exact calls_any hF (bagK_ok (hb g val hv) hc' hr H)
    · have H2 : HRel (envOf P (orcV l gs)) base B μ h w := ⟨H.dom, H.high, H.obj, H.own, H.alias, H.fam, H.glob, H.low, H.bsz, H.wf, H.root⟩
      exact (orcV_ok hl hs base B μ h w g args args' v h' hc' hr H2 F n hF).mono fun e w' ⟨v', μ', h1, h2, h3⟩ =>
        ⟨v', μ', h1, h2, ⟨h3.rel.dom, h3.rel.high, h3.rel.obj, h3.rel.own, h3.rel.alias, h3.rel.fam, h3.rel.glob, h3.rel.low, h3.rel.bsz, h3.rel.wf, h3.rel.root⟩, h3.grow, h3.le, h3.new, h3.unt, h3.hsz⟩

theorem VC.awakeW {P : Program} {l : List Nat} {gs cs : List (Nat × List Nat)} {bs : List (Nat × BagF)} {g : FuncId} {c0 : Nat} {o0 : Ob} (hf : ((envOf P (orcW l gs cs bs)).func g).isSome = true) (hg : memN g l = true) (h1 : look cs g = none) (h2 : look bs g = none) :
    VC (envOf P (orcW l gs cs bs)) g c0 [] o0 (fun r o c => r = .s (.bool true) ∧ o = o0 ∧ c = c0) :=
  VC.orc hf (fun a h ha => by
    have : a = [] := by simpa using ha
    subst this
    show orcW l gs cs bs g [] h = _
    unfold orcW orcV; rw [h1, h2, hg]) rfl
end Go.M

namespace Go.M
open Go

/-- Cells of the tables' variables. -/
abbrev Tabs := List (Nat × List Value)
def envT (P : Program) (l : Tabs) (orc : FuncId → List Value → AHeap → Option (Value × AHeap)) : Env := { envOf P orc with tab := look l }
theorem envOkT (P : Program) (l : Tabs) (orc : FuncId → List Value → AHeap → Option (Value × AHeap)) : EnvOk P (envT P l orc) :=
  let h := envOk P orc
  ⟨h.desc, h.size, h.bytes, h.zero, h.eqOk, h.func⟩
/-- They lie in a world. -/
def LaidT (l : Tabs) (W : World) : Prop := ∀ g cs, look l g = some cs → ∃ c e fr, W.heap[g]? = some (.cells c e fr) ∧ cs.length ≤ c.size ∧ ∀ (i : Nat) v, cs[i]? = some v → c[i]? = some v
/-- The first n blocks of the canonical memory. -/
def heapT (l : Tabs) : Nat → AHeap
  | 0 => h00
  | n + 1 => (heapT l n).push (.cells (match look l n with | some cs => cs | none => []) n (n + 1) 0)
def muT (l : Tabs) (n : Nat) (W : World) : Emb := fun g => match look l g, W.heap[g]?, Nat.blt g n with
  | some _, some (.cells c _ _), true => some ⟨g, 0, c.size⟩
  | _, _, _ => none
def tabsB (l : Tabs) (n : Nat) : Bool := l.all fun p => Nat.blt p.1 n && p.2.all tabV && (match look l p.1 with | some cs => eqLs cs p.2 | none => false)
def tabsIn (l : Tabs) (h : AHeap) : Bool := l.all fun p => match h.rd p.1, look l p.1 with | some cs, some cs' => eqLs cs cs' | _, _ => false

section
variable {P : Program} {l : Tabs} {n : Nat} {W : World}
theorem heapT_size : ∀ n, (heapT l n).size = n
  | 0 => rfl
  | n + 1 => by rw [heapT, AHeap.size_push, heapT_size n]
theorem heapT_get : ∀ n b, (heapT l n).get b = if b < n then some (.cells (match look l b with | some cs => cs | none => []) b (b + 1) 0) else none
  | 0, b => by simp; rfl
  | n + 1, b => by
    rw [heapT, AHeap.get_push, heapT_size n, heapT_get n b]
    by_cases e : b = n
    · subst e; simp
    · rw [if_neg e]
      by_cases h : b < n
      · rw [if_pos h, if_pos (by omega)]
      · rw [if_neg h, if_neg (by omega)]
theorem look_mem {α : Type} {l : List (Nat × α)} {g : Nat} {x : α} (h : look l g = some x) : (g, x) ∈ l := by
  induction l with
  | nil => simp [look] at h
  | cons p l ih =>
    unfold look at h
    split at h
    · rename_i hb
      cases h
      rw [beq_iff] at hb; subst hb
      exact List.mem_cons_self
    · exact List.mem_cons_of_mem _ (ih h)
theorem tabsB_ok (hB : tabsB l n = true) {g : Nat} {cs : List Value} (h : look l g = some cs) : g < n ∧ cs.all tabV = true := by
  have := List.all_eq_true.1 hB _ (look_mem h)
  simp only [Bool.and_eq_true, blt_iff] at this
  exact ⟨this.1.1, this.1.2⟩
theorem tabV_scalar {v : Value} (h : tabV v = true) : plain1 v = true := by
  unfold tabV at h; simp only [Bool.and_eq_true] at h; exact h.1
theorem arT (hB : tabsB l n = true) (hW : LaidT l W) : AR W (muT l n W) (heapT l n) := by
  have key : ∀ {b m}, muT l n W b = some m → ∃ cs c e fr, look l b = some cs ∧ W.heap[b]? = some (.cells c e fr) ∧ b < n ∧ m = ⟨b, 0, c.size⟩ := by
    intro b m h
    unfold muT at h
    split at h
    · rename_i cs c e fr h1 h2 h3
      cases h
      exact ⟨cs, c, e, fr, h1, h2, blt_iff.1 h3, rfl⟩
    · cases h
  refine ⟨fun b hb => ?_, fun b hb => ?_, fun b m hb => ?_, fun b m hb => ?_⟩
  · rw [heapT_size] at hb; rw [heapT_get, if_neg (by omega)]
  · rw [heapT_size] at hb; rw [heapT_get, if_pos hb]; exact ⟨_, rfl⟩
  · obtain ⟨cs, c, e, fr, h1, h2, h3, rfl⟩ := key hb
    rw [heapT_size]; exact h3
  · obtain ⟨cs, c, e, fr, h1, h2, h3, rfl⟩ := key hb
    obtain ⟨c', e', fr', q1, q2, q3⟩ := hW b cs h1
    rw [h2] at q1; cases q1
    refine ⟨cs, c, e, fr, by rw [heapT_get, if_pos h3, h1], h2, rfl, by simpa using q2, fun i v hv => ⟨v, by simpa using q3 i v hv, .lit ?_⟩⟩
    exact tabV_scalar (List.all_eq_true.1 (tabsB_ok hB h1).2 v (List.mem_of_getElem? hv))
theorem muT_glob (hB : tabsB l n = true) (hW : LaidT l W) {E : Env} (hE : E.tab = look l) (g : Nat) (hg : E.glob g = true) : ∃ m, muT l n W g = some m ∧ m.r = g ∧ m.s = 0 := by
  unfold Env.glob at hg
  rw [hE, Option.isSome_iff_exists] at hg
  obtain ⟨cs, h1⟩ := hg
  obtain ⟨c, e, fr, q1, q2, q3⟩ := hW g cs h1
  refine ⟨⟨g, 0, c.size⟩, ?_, rfl, rfl⟩
  unfold muT
  rw [h1, q1, blt_iff.2 (tabsB_ok hB h1).1]
/-- What lies in the canonical memory lies in the world. -/
theorem laid_of_rel {E : Env} (hE : E.tab = look l) {base B : Nat} {μ : Emb} {h : AHeap} {w : World} (H : HRel E base B μ h w) (hB : tabsB l n = true) (ht : tabsIn l h = true) : LaidT l w := by
  intro g cs hg
  obtain ⟨m, q1, q2, q3⟩ := H.glob g (by unfold Env.glob; rw [hE, hg]; rfl)
  have := List.all_eq_true.1 ht _ (look_mem hg)
  simp only [hg] at this
  split at this
  · rename_i cs1 cs2 hr e
    cases e
    have ec := eqLs_eq this
    subst ec
    obtain ⟨c, e, fr, k1, k2, k3, _, k5⟩ := H.read q1 hr
    rw [q2] at k1
    rw [q3] at k3 k5
    refine ⟨c, e, fr, k1, by omega, fun i v hv => ?_⟩
    obtain ⟨v', p1, p2⟩ := k5 i v hv
    have hp := tabV_scalar (List.all_eq_true.1 (tabsB_ok hB hg).2 v (List.mem_of_getElem? hv))
    have hf := (List.all_eq_true.1 (tabsB_ok hB hg).2 v (List.mem_of_getElem? hv))
    have : v' = v := by
      cases p2 with
      | lit h => rfl
      | _ => simp [plain1] at hp
    subst this
    simpa using p1
  · cases this
theorem tabsIn_of {E : Env} (hE : E.tab = look l) {F : Nat → Prop} {h : AHeap} (hB : tabsB l n = true) (N : TabOk E F h) : tabsIn l h = true := by
  refine List.all_eq_true.2 fun p hp => ?_
  have := List.all_eq_true.1 hB p hp
  simp only [Bool.and_eq_true] at this
  have h3 := this.2
  split at h3
  · rename_i cs hl
    obtain ⟨_, n2, _⟩ := N p.1 cs (by rw [hE]; exact hl)
    rw [n2, hl]
    have e := eqLs_eq h3
    rw [e] at h3 ⊢
    exact h3
  · cases h3

/-! ### Awake functions -/
/-- A function without arguments that hands back true, where the tables lie. -/
def AwakeT (P : Program) (l : Tabs) (g : FuncId) : Prop := ∀ (W : World) (F : Fence) (n : Nat), LaidT l W → Wide F → CallsIn F n P g #[] W fun e W' => e = .returned (.bool true) ∧ Go.RowKit.Below W.heap.size W W'
/-- The same oracles as 'orcAll', with tables. -/
noncomputable def orcAllT (P : Program) (l : Tabs) (fs bs ps : List Nat) (n : Nat) : FuncId → List Value → AHeap → Option (Value × AHeap) := fun g args h =>
  match fs.contains g with
  | true => confl (envT P l noOrc) n g args h
  | false => match bs.contains g with
    | true => conflB (envT P l noOrc) n g args h
    | false => match ps.contains g with
      | true => conflP (envT P l noOrc) n g args h
      | false => none
theorem noOrc_okT {base B : Nat} : OrcOk P (envT P l noOrc) base B := fun μ h w g args args' v h' hr => by
  have : (none : Option (Value × AHeap)) = some (v, h') := hr
  cases this
theorem orcAllT_ok (hm : P.follows .mixedOrders = true) (fs bs ps : List Nat) (n base B : Nat) : OrcOk P (envT P l (orcAllT P l fs bs ps n)) base B := by
  intro μ h w g args args' v h' hc hr H F k hF
  have hc' : orcAllT P l fs bs ps n g args h = some (v, h') := hc
  unfold orcAllT at hc'
  split at hc'
  · exact confl_ok (E := envT P l (orcAllT P l fs bs ps n)) (envOkT P l noOrc) (fun _ _ => noOrc_okT) hm (fun _ hg => hg) n μ h w g args args' v h' hc' hr H F k hF
  · split at hc'
    · exact conflB_ok (E := envT P l (orcAllT P l fs bs ps n)) (envOkT P l noOrc) (fun _ _ => noOrc_okT) hm (fun _ hg => hg) n μ h w g args args' v h' hc' hr H F k hF
    · split at hc'
      · exact conflP_ok (E := envT P l (orcAllT P l fs bs ps n)) (envOkT P l noOrc) (fun _ _ => noOrc_okT) hm (fun _ hg => hg) n μ h w g args args' v h' hc' hr H F k hF
      · cases hc'
theorem AR.hrelT {E : Env} {μ0 μ : Emb} {h : AHeap} (A : AR W μ h) (hle : μ0.le μ) (hg : ∀ g, E.glob g = true → ∃ m, μ0 g = some m ∧ m.r = g ∧ m.s = 0) : HRel E h.size W.heap.size μ h W :=
  let H := AR.hrel (E := envOf default noOrc) A (fun _ => rfl)
  ⟨H.dom, H.high, H.obj, H.own, H.alias, H.fam, fun g h => let ⟨m, q1, q2⟩ := hg g h; ⟨m, hle _ _ q1, q2⟩, H.low, H.bsz, H.wf, H.root⟩
theorem awakeT_of (hm : P.follows .mixedOrders = true) (hB : tabsB l n = true) {fs bs ps : List Nat} {m k : Nat} {g : FuncId}
    (hr : gaveTrue (acall (envT P l (orcAllT P l fs bs ps m)) n k g [] (heapT l n)) = true) : AwakeT P l g := by
  intro W F j hW hF
  obtain ⟨h', hr⟩ := gaveTrue_some hr
  have A := arT hB hW
  have H : HRel (envT P l (orcAllT P l fs bs ps m)) n W.heap.size (muT l n W) (heapT l n) W := by
    have := A.hrelT (E := envT P l (orcAllT P l fs bs ps m)) (Emb.le_refl _) (muT_glob hB hW rfl)
    rwa [heapT_size] at this
  have := acall_ok (envOkT P l _) (orcAllT_ok hm fs bs ps m n W.heap.size) hm k (muT l n W) (heapT l n) W g [] #[] (.bool true) h' hr .nil H F j hF
  refine this.mono ?_
  rintro e W' ⟨v', μ', rfl, hv, S⟩
  have e := hv.inv_scalar rfl
  subst e
  refine ⟨rfl, S.grow.os, S.grow.tape, S.grow.output, S.grow.size, fun k hk => S.grow.keep k hk fun b mt hb _ => ?_⟩
  have := A.dom b mt hb
  rwa [heapT_size] at this
/-- Awake functions that look at tables, ahead of other oracles. -/
def orcX (l : Tabs) (aw : List Nat) (rest : FuncId → List Value → AHeap → Option (Value × AHeap)) : FuncId → List Value → AHeap → Option (Value × AHeap) := fun g args h =>
  match memN g aw, args, tabsIn l h with
  | true, [], true => some (.bool true, h)
  | _, _, _ => rest g args h
theorem orcX_ok {aw : List Nat} {rest : FuncId → List Value → AHeap → Option (Value × AHeap)} (hB : tabsB l n = true) (ha : ∀ g ∈ aw, AwakeT P l g) (hr : ∀ base B, OrcOk P (envOf P rest) base B) (base B : Nat) : OrcOk P (envT P l (orcX l aw rest)) base B := by
  intro μ h w g args args' v h' hc hv H F k hF
  have hc' : orcX l aw rest g args h = some (v, h') := hc
  unfold orcX at hc'
  split at hc'
  · rename_i h1 h2
    cases hc'
    have : args' = #[] := by
      have := hv.length
      simpa using this.symm
    subst this
    refine (ha g (memN_mem h1) w F k (laid_of_rel (E := envT P l (orcX l aw rest)) rfl H hB h2) hF).mono ?_
    rintro e W' ⟨rfl, hb⟩
    exact ⟨_, μ, rfl, .lit rfl, ⟨H.ext hb.size fun r hr => hb.block r hr, ⟨hb.tape, hb.os, hb.output, hb.size, fun r hr _ => hb.block r hr⟩, μ.le_refl, fun b m h0 h1 => (by rw [h0] at h1; cases h1), fun _ _ _ => rfl, Nat.le_refl _⟩⟩
  · have H2 : HRel (envOf P rest) base B μ h w := ⟨H.dom, H.high, H.obj, H.own, H.alias, H.fam, fun g hg => by simp [Env.glob, envOf] at hg, H.low, H.bsz, H.wf, H.root⟩
    exact (hr base B μ h w g _ args' v h' hc' hv H2 F k hF).mono fun e w' ⟨v', μ', h1, h2, h3⟩ =>
      ⟨v', μ', h1, h2, ⟨h3.rel.dom, h3.rel.high, h3.rel.obj, h3.rel.own, h3.rel.alias, h3.rel.fam, fun g hg => let ⟨m, q1, q2⟩ := H.glob g hg; ⟨m, h3.le _ _ q1, q2⟩, h3.rel.low, h3.rel.bsz, h3.rel.wf, h3.rel.root⟩, h3.grow, h3.le, h3.new, h3.unt, h3.hsz⟩
theorem VC.awakeX {aw : List Nat} {rest : FuncId → List Value → AHeap → Option (Value × AHeap)} {g : FuncId} {c0 : Nat} {o0 : Ob} (hB : tabsB l n = true) (hf : ((envT P l (orcX l aw rest)).func g).isSome = true) (hg : memN g aw = true) :
    VC (envT P l (orcX l aw rest)) g c0 [] o0 (fun r o c => r = .s (.bool true) ∧ o = o0 ∧ c = c0) := by
  intro base ρ F h S vargs hN hM hO hA
  obtain ⟨fn, hf⟩ := Option.isSome_iff_exists.1 hf
  obtain rfl := hA.inv_nil
  have ho : (envT P l (orcX l aw rest)).orc g [] h = some (.bool true, h) := by
    show orcX l aw rest g [] h = _
    unfold orcX
    rw [hg, tabsIn_of (E := envT P l (orcX l aw rest)) rfl hB hN]
  refine ⟨0, .bool true, h, ρ, F, .s (.bool true), o0, c0, ?_, ⟨rfl, rfl, rfl⟩, hM, .s rfl⟩
  unfold acall acallB
  rw [hf]
  simp only [Option.bind_some, ho]
end
section
open Go.ChangeShapes Go.WideShapes
variable {H : Type} {enc : TypeId × Value → H} {P : Program} {W : World} {base : Nat} {held : Bool}
/-- A row's call hands back true, where the tables lie. -/
theorem row_trueT {l : Tabs} {n : Nat} {E : Env} {g : FuncId} {ash : List ArgSh} {ts : List TypeId} {args : Array Value} {ds : List (DataW H)} {ps : List MemPlace} {base' : Nat} {r : Reach} (hE : EnvOk P E) (hO : ∀ base B, OrcOk P E base B) (hm : P.follows .mixedOrders = true)
    (hT : E.tab = look l) (hBT : tabsB l n = true) (hWT : LaidT l W)
    (hB : argsB P ts ash = true) (hD : DataW.TrodAll enc P W base (fun _ => true) held ts args.toList ds ps) (hv : ∀ (j : Nat) t v, ts[j]? = some t → args[j]? = some v → Value.okWide P W r base' t v)
    (hc : ∀ tvs, FitAs ash tvs → VC E g 0 tvs [] fun r _ _ => r = .s (.bool true)) : Calls P g args W fun e W' => e = .returned (.bool true) ∧ Go.RowKit.Below W.heap.size W W' := by
  obtain ⟨μ, h, tvs, vs0, A, hle, hgr, f, r, x⟩ := args_laid hB hD (fun j t v a b => hv j t v a (by simpa using b)) _ _ (arT hBT hWT)
  have hN : TabOk E (· < h.size) h := fun g cs hg => by
    rw [hT] at hg
    obtain ⟨h1, h2⟩ := tabsB_ok hBT hg
    have hs := hgr.1
    rw [heapT_size] at hs
    refine ⟨by omega, A.rd (cs := cs) ?_, h2⟩
    rw [hgr.2 g (by rw [heapT_size]; exact h1), heapT_get, if_pos h1, hg]
  obtain ⟨k, v, h', ρ', F', r', o', c', h1, rfl, h3, h4⟩ := hc tvs f h.size noG _ h _ vs0 hN A.mem (AR.mo (μ := μ)) r
  obtain ⟨rfl, _⟩ := h4.inv_s
  have := acall_ok hE (hO h.size W.heap.size) hm k μ h W g vs0 args _ h' h1 x (A.hrelT hle (muT_glob hBT hWT hT)) Fence.wide 0 Wide.wide
  refine (callsIn_wide.1 (this.mono ?_))
  rintro e W' ⟨v', μ', rfl, hv, S⟩
  have e := hv.inv_scalar rfl
  subst e
  exact ⟨rfl, S.grow.os, S.grow.tape, S.grow.output, S.grow.size, fun k hk => S.grow.keep k hk fun b m hb _ => A.dom b m hb⟩
end
end Go.M

namespace Go.M
open Go
def fieldsD (P : Program) (f : TypeId → DataW Unit → List Value → Bool) : List Field → List (DataW Unit) → Nat → List Value → Bool
  | [], _, _, vs => vs.isEmpty
  | x :: xs, d :: ds, o, vs => Nat.beq x.offset o && Nat.ble (P.cellsOf x.type) vs.length && f x.type d (vs.take (P.cellsOf x.type)) && fieldsD P f xs ds (o + P.cellsOf x.type) (vs.drop (P.cellsOf x.type))
  | _ :: _, [], _, _ => false
def repD (f : DataW Unit → List Value → Bool) (z : Nat) : Nat → List (DataW Unit) → List Value → Bool
  | 0, _, vs => vs.isEmpty
  | n + 1, d :: ds, vs => Nat.ble z vs.length && f d (vs.take z) && repD f z n ds (vs.drop z)
  | _ + 1, [], _ => false
/-- The data read at a type out of these cells alone. -/
def dB (P : Program) : Nat → TypeId → DataW Unit → List Value → Bool
  | 0, _, _, _ => false
  | n + 1, t, d, vs => match P.underlying t with
    | some .bool => (match d, vs with | .lit (.bool b), [.bool b'] => decide (b = b') | _, _ => false)
    | some (.int _) => (match d, vs with | .lit (.int k m), [.int k' m'] => decide (k = k') && decide (m = m') | _, _ => false)
    | some .string => (match d, vs with | .lit (.string l), [.string s] => decide (l = s.data.toList) | _, _ => false)
    | some (.struct fs) => (match d with | .agg ds => Nat.beq (P.cellsOf t) vs.length && fieldsD P (dB P n) fs.toList ds 0 vs | _ => false)
    | some (.array m e) => (match d with | .agg ds => Nat.beq (P.cellsOf t) vs.length && repD (dB P n e) (P.cellsOf e) m ds vs | _ => false)
    | _ => false
section
variable {P : Program}
theorem fields_d {f : TypeId → DataW Unit → List Value → Bool} {g : TypeId → DataW Unit → List Value → Prop} (hfg : ∀ t d vs cs, f t d vs = true → g t d cs → cs = vs) : ∀ {xs : List Field} {ds : List (DataW Unit)} {o : Nat} {vs cs : List Value},
    fieldsD P f xs ds o vs = true → cs.length = o + vs.length → (∀ (i : Nat) x d, xs[i]? = some x → ds[i]? = some d → g x.type d ((cs.drop x.offset).take (P.cellsOf x.type))) → cs.drop o = vs
  | [], ds, o, vs, cs, h, hl, _ => by
    simp only [fieldsD, List.isEmpty_iff] at h
    subst h
    rw [List.drop_of_length_le (by simp at hl; omega)]
  | x :: xs, [], o, vs, cs, h, hl, _ => by simp [fieldsD] at h
  | x :: xs, d :: ds, o, vs, cs, h, hl, hg => by
    simp only [fieldsD, Bool.and_eq_true, beq_iff, ble_iff] at h
    obtain ⟨⟨⟨h1, h2⟩, h3⟩, h4⟩ := h
    have k1 := hfg _ _ _ _ h3 (hg 0 x d rfl rfl)
    have k2 := fields_d hfg h4 (cs := cs) (by simp; omega) fun i y d' hy hd => hg (i + 1) y d' (by simpa using hy) (by simpa using hd)
    rw [← List.take_append_drop (P.cellsOf x.type) vs, ← k1, ← k2, h1, ← List.drop_drop, List.take_append_drop]
theorem rep_d {f : DataW Unit → List Value → Bool} {z : Nat} {g : DataW Unit → List Value → Prop} (hfg : ∀ d vs cs, f d vs = true → g d cs → cs = vs) : ∀ {n k : Nat} {ds : List (DataW Unit)} {vs cs : List Value},
    repD f z n ds vs = true → cs.length = k * z + vs.length → (∀ i d, i < n → ds[i]? = some d → g d ((cs.drop ((k + i) * z)).take z)) → cs.drop (k * z) = vs
  | 0, k, ds, vs, cs, h, hl, _ => by
    simp only [repD, List.isEmpty_iff] at h
    subst h
    rw [List.drop_of_length_le (by simp at hl; omega)]
  | n + 1, k, [], vs, cs, h, hl, hg => by simp [repD] at h
  | n + 1, k, d :: ds, vs, cs, h, hl, hg => by
    simp only [repD, Bool.and_eq_true, ble_iff] at h
    obtain ⟨⟨h1, h2⟩, h3⟩ := h
    have k1 := hfg _ _ _ h2 (hg 0 d (by omega) rfl)
    have k2 := rep_d (n := n) (k := k + 1) hfg h3 (cs := cs) (by simp [Nat.succ_mul]; omega) fun i d' hi hd => by
      have := hg (i + 1) d' (by omega) (by simpa using hd)
      rwa [show k + (i + 1) = k + 1 + i by omega] at this
    rw [Nat.add_zero] at k1
    rw [← List.take_append_drop z vs, ← k1, ← k2, Nat.succ_mul, ← List.drop_drop, List.take_append_drop]
theorem trod_cells {enc : TypeId × Value → Unit} {W : World} {base : Nat} {sp : Nat → Bool} {held : Bool} : ∀ (n : Nat) (t : TypeId) (d : DataW Unit) (vs : List Value), dB P n t d vs = true →
    ∀ (fuel : Nat) (cs : List Value) (p : List MemPlace), DataW.trod enc P W base sp held fuel t cs = some (d, p) → cs = vs := by
  intro n
  induction n with
  | zero => intro t d vs h; cases h
  | succ n ih =>
    intro t d vs h fuel cs p hr
    unfold dB at h
    split at h
    · rename_i hu
      obtain ⟨b, rfl, e⟩ := DataW.trod_bool hu hr
      cases e
      split at h
      · rename_i e
        cases e
        rw [of_decide_eq_true h]
      · cases h
    · rename_i k hu
      obtain ⟨m, rfl, e, _⟩ := DataW.trod_int hu hr
      cases e
      split at h
      · rename_i e
        cases e
        simp only [Bool.and_eq_true] at h
        rw [of_decide_eq_true h.1, of_decide_eq_true h.2]
      · cases h
    · rename_i hu
      obtain ⟨s, rfl, e, _⟩ := DataW.trod_string hu hr
      cases e
      split at h
      · rename_i s' e
        cases e
        have := of_decide_eq_true h
        have e2 : s.data = s'.data := Array.ext' this
        obtain ⟨a⟩ := s
        obtain ⟨b⟩ := s'
        simp only at e2
        rw [e2]
      · cases h
    · rename_i fs hu
      obtain ⟨xs, m, rfl, e, hl, hx, he⟩ := DataW.trod_struct hu hr
      cases e
      simp only [Bool.and_eq_true, beq_iff] at h
      obtain ⟨h1, h2⟩ := h
      have := fields_d (g := fun u d' l => ∃ q, DataW.trod enc P W base sp held m u l = some (d', q)) (fun u d' vs' cs' q1 ⟨q, hq⟩ => ih u d' vs' q1 m cs' q hq) h2 (cs := cs) (by omega) fun i x d' hi hd => by
        rw [he i x (by simpa using hi)]
        simp only [List.getElem?_map, Option.map_eq_some_iff] at hd
        obtain ⟨⟨d2, q⟩, hd, rfl⟩ := hd
        exact ⟨q, hd⟩
      simpa using this
    · rename_i k e hu
      obtain ⟨xs, m, rfl, e', hl, hx, he⟩ := DataW.trod_array hu hr
      cases e'
      simp only [Bool.and_eq_true, beq_iff] at h
      obtain ⟨h1, h2⟩ := h
      have := rep_d (g := fun d' l => ∃ q, DataW.trod enc P W base sp held m e l = some (d', q)) (fun d' vs' cs' q1 ⟨q, hq⟩ => ih e d' vs' q1 m cs' q hq) (k := 0) h2 (cs := cs) (by omega) fun i d' hi hd => by
        rw [Nat.zero_add, he i hi]
        simp only [List.getElem?_map, Option.map_eq_some_iff] at hd
        obtain ⟨⟨d2, q⟩, hd, rfl⟩ := hd
        exact ⟨q, hd⟩
      simpa using this
    · cases h
theorem laidVars_mem {W : World} : ∀ {laid : List (String × DataW Unit)} {ps : List MemPlace}, DataW.LaidVars P W laid ps → ∀ x ∈ laid, ∃ g t cs fuel p, P.globalNamed x.1 = some g ∧ (P.globals[g]?).map (·.type) = some t ∧ W.var? P x.1 = some cs ∧
      DataW.trod (fun _ => ()) P W 0 (fun _ => true) false fuel t cs.toList = some (x.2, p)
  | [], _, _, x, hx => by cases hx
  | y :: r, ps, ⟨g, t, cs, fuel, p, q, h1, h2, h3, h4, h5, _⟩, x, hx => by
    rcases List.mem_cons.1 hx with rfl | hx
    · exact ⟨g, t, cs, fuel, p, h1, h2, h3, h4⟩
    · exact laidVars_mem h5 x hx
/-- The tables are those that the row lists. -/
def tabD (P : Program) (laid : List (String × DataW Unit)) (l : Tabs) : Bool := l.all fun p => laid.any fun x => (match P.globalNamed x.1 with | some g => Nat.beq g p.1 | none => false) && (match (P.globals[p.1]?).map (·.type) with | some t => dB P 100 t x.2 p.2 | none => false)
theorem laidT_of {laid : List (String × DataW Unit)} {l : Tabs} {W : World} (hB : tabD P laid l = true) (h : laidMet P laid W) : LaidT l W := by
  intro g vs hg
  obtain ⟨ps, hv, _⟩ := h
  have := List.all_eq_true.1 hB _ (look_mem hg)
  obtain ⟨x, hx, hc⟩ := List.any_eq_true.1 this
  obtain ⟨g', t, cs, fuel, p, h1, h2, h3, h4⟩ := laidVars_mem hv x hx
  rw [h1] at hc
  simp only [Bool.and_eq_true, beq_iff] at hc
  obtain ⟨rfl, hc⟩ := hc
  rw [h2] at hc
  have e := trod_cells 100 t x.2 vs hc fuel _ p h4
  unfold World.var? at h3
  rw [h1] at h3
  simp only [Option.bind_some] at h3
  split at h3
  · rename_i c e' fr hh
    injection h3 with h3
    subst h3
    refine ⟨_, e', fr, hh, by rw [← e]; simp, fun i v hi => by rw [← e] at hi; simpa using hi⟩
  · cases h3
end
end Go.M

namespace Go.M
open Go
theorem callsT_of {P : Program} {l : Tabs} {n : Nat} (hm : P.follows .mixedOrders = true) (hB : tabsB l n = true) {fs bs ps : List Nat} {m k : Nat} {g : FuncId} {vs : List Value} (hp : vs.all plainV = true)
    (hr : gaveTrue (acall (envT P l (orcAllT P l fs bs ps m)) n k g vs (heapT l n)) = true) {W : World} (hW : LaidT l W) : Calls P g vs.toArray W fun e W' => e = .returned (.bool true) ∧ Go.RowKit.Below W.heap.size W W' := by
  obtain ⟨h', hr⟩ := gaveTrue_some hr
  have A := arT hB hW
  have H : HRel (envT P l (orcAllT P l fs bs ps m)) n W.heap.size (muT l n W) (heapT l n) W := by
    have := A.hrelT (E := envT P l (orcAllT P l fs bs ps m)) (Emb.le_refl _) (muT_glob hB hW rfl)
    rwa [heapT_size] at this
  have := acall_ok (envOkT P l _) (orcAllT_ok hm fs bs ps m n W.heap.size) hm k (muT l n W) (heapT l n) W g vs vs.toArray (.bool true) h' hr (plains_rel _ hp) H Fence.wide 0 Wide.wide
  refine (callsIn_wide.1 (this.mono ?_))
  rintro e W' ⟨v', μ', rfl, hv, S⟩
  have e := hv.inv_scalar rfl
  subst e
  refine ⟨rfl, S.grow.os, S.grow.tape, S.grow.output, S.grow.size, fun k hk => S.grow.keep k hk fun b mt hb _ => ?_⟩
  have := A.dom b mt hb
  rwa [heapT_size] at this
end Go.M

namespace Go.M
open Go Go.Proofs
/-- catenary/judge.names. -/
def names0 : List Value := [.string ⟨#[]⟩, .string ⟨#[117, 110, 107, 110, 111, 119, 110]⟩, .string ⟨#[97, 103, 97, 105, 110]⟩, .string ⟨#[119, 114, 111, 110, 103]⟩, .string ⟨#[109, 105, 115, 112, 108, 97, 99, 101, 100]⟩, .string ⟨#[117, 110, 114, 101, 97, 100]⟩, .string ⟨#[117, 110, 116, 114, 117, 101]⟩]
def tabs0 : Tabs := [(0, names0)]
set_option maxRecDepth 1000000
theorem mixed0 : Tryz.prog.follows .mixedOrders = true := by kernel_rfl
theorem tabsB0 : tabsB tabs0 1 = true := by kernel_rfl
theorem ran (k : Int) : gaveTrue (acall (envT Tryz.prog tabs0 (orcAllT Tryz.prog tabs0 [64] [] [] 100000)) 1 100000 3 [.int .i64 k] (heapT tabs0 1)) = true := by kernel_rfl
theorem judgeOf_calls {W : World} (hW : LaidT tabs0 W) (k : Int) : Calls Tryz.prog 3 #[.int .i64 k] W fun e W' => e = .returned (.bool true) ∧ Go.RowKit.Below W.heap.size W W' :=
  callsT_of (vs := [.int .i64 k]) mixed0 tabsB0 rfl (ran k) hW
end Go.M
