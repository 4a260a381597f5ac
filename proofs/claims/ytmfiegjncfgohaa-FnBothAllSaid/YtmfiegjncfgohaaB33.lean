/- The plain laws of two words: a step of what is right is right (2). -/
import Derived.Test.YtmfiegjncfgohaaB32
namespace Go.Proofs.Ytmfiegjncfgohaa.Den
open Go.RowKit
set_option linter.unusedSimpArgs false
set_option linter.unusedVariables false
theorem bothOk_iff {b : Bo} : bothOk b = true ↔ headOk b = true ∧ (∀ a ∈ b.sn, 0 ≤ a ∧ a ≤ 9) ∧ (∀ (t : Nat) (x : Want), b.wants[t]? = some x → WOk b.mark b.sn.length b.wants.length t x) ∧ (∀ e ∈ b.evs, (0 ≤ e.who ∧ e.who ≤ (b.wants.length : Int) - 1) ∧ (0 ≤ e.saw ∧ e.saw ≤ 9)) ∧ (b.mark = 0 ∨ (b.wants.getD (b.mark - 1).toNat default).old = b.w) := by
  simp only [bothOk, Bool.and_eq_true, List.all_eq_true, sm, evOk, decide_eq_true_eq, lastOk, Bool.or_eq_true, allAt_iff, Nat.zero_add]
  constructor
  · rintro ⟨h1, h2, h3, h4, h5⟩
    refine ⟨h1, h2, fun t x hx => ?_, h4, h5⟩
    obtain ⟨ht, rfl⟩ := List.getElem?_eq_some_iff.1 hx
    have := h3 t ht
    rw [List.getD_eq_getElem?_getD, hx] at this
    exact wantS_iff.1 this
  · rintro ⟨h1, h2, h3, h4, h5⟩
    refine ⟨h1, h2, fun t ht => ?_, h4, h5⟩
    rw [List.getD_eq_getElem?_getD, List.getElem?_eq_getElem ht]
    exact wantS_iff.2 (h3 t _ (List.getElem?_eq_getElem ht))
/-- A want changes, the mark perhaps, and no event but one that is right: when all is right. -/
theorem ok_put {b b' : Bo} (ho : bothOk b = true) {t : Nat} {y : Want} (ht : t < b.wants.length) (hsn : b'.sn = b.sn) (hw : 0 ≤ b'.w ∧ b'.w ≤ 9) (hw0 : b'.w0 = b.w0) (hws : b'.wants = b.wants.set t y) (hn : b'.evs.length ≤ 60)
    (hev : ∀ e ∈ b'.evs, e ∈ b.evs ∨ (0 ≤ e.who ∧ e.who ≤ (b.wants.length : Int) - 1) ∧ (0 ≤ e.saw ∧ e.saw ≤ 9)) (hm : 0 ≤ b'.mark ∧ b'.mark ≤ (b.wants.length : Int)) (hy : WOk b'.mark b.sn.length b.wants.length t y)
    (hr : ∀ (k : Nat) (x : Want), k ≠ t → b.wants[k]? = some x → WOk b.mark b.sn.length b.wants.length k x → WOk b'.mark b.sn.length b.wants.length k x) (hl : b'.mark = 0 ∨ (b'.wants.getD (b'.mark - 1).toNat default).old = b'.w) : bothOk b' = true := by
  obtain ⟨h1, h2, h3, h4, h5⟩ := bothOk_iff.1 ho
  have hh := headOk_iff.1 h1
  have hlen : b'.wants.length = b.wants.length := by rw [hws, List.length_set]
  refine bothOk_iff.2 ⟨headOk_iff.2 ⟨by rw [hlen]; exact hh.1, by rw [hsn]; exact hh.2.1, hn, hw, by rw [hw0]; exact hh.2.2.2.2.1, hm.1, by rw [hlen]; exact hm.2⟩, by rw [hsn]; exact h2, fun k x hx => ?_, fun e he => ?_, hl⟩
  · rw [hsn, hlen]
    rw [hws, List.getElem?_set] at hx
    split at hx
    · rename_i q
      subst q
      obtain rfl := Option.some.inj hx
      exact hy
    · rename_i q
      exact hr k x (fun e => q e.symm) hx (h3 k x hx)
  · rw [hlen]
    rcases hev e he with q | q
    · exact h4 e q
    · exact q
end Go.Proofs.Ytmfiegjncfgohaa.Den
