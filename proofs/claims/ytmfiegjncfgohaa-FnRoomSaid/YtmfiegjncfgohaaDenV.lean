/- The abstract calculus, part V: entering a law whose argument is a slice of bytes. -/
import Derived.Test.YtmfiegjncfgohaaDenU
namespace Go.Proofs.Ytmfiegjncfgohaa.Den
open Go.RowKit
set_option linter.unusedVariables false
open Go.ChangeShapes Go.WideShapes Go.Deep in
theorem enter_bytes {P : Program} {t e : TypeId} (ht : P.underlying t = some (.slice e)) (he : P.underlying e = some (.int .u8)) (hc : P.cellsOf e = 1) {T : Type} (enc : TypeId × Value → T) (W : World) (spare : Nat → Bool) (held : Bool) (fuel : Nat) (v : Value) (y : DataW T × List MemPlace)
    (h : DataW.trod enc P W 0 spare held fuel t [v] = some y) : ∃ (φ : Phi) (xs : List Int), Rel φ W.heap.size (hp []) W ∧ VR φ (.s (.lst 1 (xs.map fun x => [.int .u8 x]))) v ∧ ∀ x ∈ xs, 0 ≤ x ∧ x ≤ 255 := by
  have hrel : ∀ fz : Nat → Option Obj, (∀ r o, fz r = some o → W.heap[r]? = some o) → Rel ⟨fun _ => none, fz⟩ W.heap.size (hp []) W := fun fz hf =>
    ⟨fun b k hk => (by simp [hp_get] at hk), fun b b' k k' p p' hk => (by simp [hp_get] at hk), fun b _ => ⟨by simp [hp_get], rfl⟩, Nat.le_refl _, fun r o ho => ⟨hf r o ho, fun ⟨b, k, p, h1, _⟩ => by simp [hp_get] at h1⟩, nofull rfl⟩
  rcases open_slice1 ht hc h with ⟨h0, _⟩ | ⟨a, len, cap, m, n, V, D, Pl, h0, hb, hl, hm, hmm, hy, hi⟩
  · obtain rfl : v = .slice none 0 0 := by simpa using h0
    exact ⟨_, [], hrel (fun _ => none) (fun r o h => by cases h), lst_vr (.inl ⟨rfl, none, 0, rfl, Nat.zero_le _, fun _ => rfl⟩), fun x hx => by cases hx⟩
  · obtain rfl : v = .slice (some a) len cap := by simpa using h0
    have hlm : len ≤ m := by rw [hmm]; split <;> omega
    have hval : ∀ i, i < len → ∃ x : Int, V i = .int .u8 x ∧ 0 ≤ x ∧ x ≤ 255 := fun i hil => by
      obtain ⟨_, htr⟩ := hi i (by omega)
      obtain ⟨x, hx, _, hw⟩ := DataW.trod_int he htr
      refine ⟨x, by simpa using hx, ?_⟩
      simp only [Lit.wf, Bool.and_eq_true, decide_eq_true_eq] at hw
      have e1 : IntKind.u8.min = 0 := by decide
      have e2 : IntKind.u8.max = 255 := by decide
      rw [e1, e2] at hw
      exact hw
    obtain ⟨X, hX⟩ := choose_lt (α := Int) hval
    have hlen : (((List.range len).map X).map fun x => [SV.int .u8 x]).length = len := by simp
    have hall : ∀ x ∈ (List.range len).map X, 0 ≤ x ∧ x ≤ 255 := fun x hx => by
      obtain ⟨i, hil, rfl⟩ := List.mem_map.1 hx
      exact (hX i (List.mem_range.1 hil)).2
    by_cases h00 : len = 0
    · subst h00
      exact ⟨_, [], hrel (fun _ => none) (fun r o h => by cases h), lst_vr (.inl ⟨rfl, some a, cap, rfl, hm, fun h => by cases h⟩), fun x hx => by cases hx⟩
    · have hc0 := (hi 0 (by omega)).1
      have hadd0 : a.add 0 = a := by unfold Addr.add; rw [if_pos rfl]
      rw [hadd0] at hc0
      have hspot : a.spot = none := by
        unfold World.cell? at hc0
        split at hc0
        · split at hc0
          · cases hc0
          · simpa using ‹¬ a.spot.isSome = true›
        · cases hc0
      have hblk : a.block < W.heap.size := World.block_lt_of_cell? W a hc0
      have ha : a = ⟨a.block, a.off, none⟩ := by cases a; simp_all
      have hob : W.heap[a.block]? = some W.heap[a.block] := Array.getElem?_eq_getElem hblk
      refine ⟨_, (List.range len).map X, hrel (fun r => if r = a.block then W.heap[r]? else none) (fun r o h => by
        split at h
        · exact h
        · cases h), lst_vr (.inr ⟨a.block, a.off, cap, W.heap[a.block], ?_, ?_, hm, ?_, ?_⟩), hall⟩
      · rw [hlen, ← ha]
      · rw [hlen]; exact hl
      · show (if a.block = a.block then W.heap[a.block]? else none) = _
        rw [if_pos rfl, hob]
      · refine DRss.of_get fun i r hr => ?_
        have hil : i < len := by have := (List.getElem?_eq_some_iff.1 hr).1; rw [hlen] at this; exact this
        have hr' : r = [.int .u8 (X i)] := by
          rw [List.getElem?_map, List.getElem?_map, List.getElem?_range hil] at hr
          exact (Option.some.inj hr).symm
        subst hr'
        refine ⟨rfl, DRs.of_get fun j x hx => ?_⟩
        cases j with
        | succ j => simp at hx
        | zero =>
          simp at hx
          subst hx
          refine ⟨.int .u8 (X i), ?_, by simp only [DR]⟩
          have h1 := (hi i (by omega)).1
          have h2 : a.add i = ⟨a.block, a.off + i, none⟩ := by
            unfold Addr.add
            split
            · subst_vars; rw [Nat.add_zero]; exact ha
            · rfl
          rw [h2, (hX i hil).1, cell_of_obj hob] at h1
          simpa using h1
end Go.Proofs.Ytmfiegjncfgohaa.Den
