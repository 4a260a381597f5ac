/- The plain laws of two words: a step of what is right is right. -/
import Derived.Test.YtmfiegjncfgohaaB28
namespace Go.Proofs.Ytmfiegjncfgohaa.Den
open Go.RowKit
set_option linter.unusedSimpArgs false
set_option linter.unusedVariables false
/-- What a want that is right is, piece by piece. -/
structure WOk (m : Int) (na n : Nat) (t : Nat) (x : Want) : Prop where
  if_ : 0 ≤ x.if_ ∧ x.if_ ≤ 9
  old : 0 ≤ x.old ∧ x.old ≤ 9
  new : 0 ≤ x.new ∧ x.new ≤ 9
  saw : 0 ≤ x.saw ∧ x.saw ≤ 9
  phase : 0 ≤ x.phase ∧ x.phase ≤ 6
  from_ : 0 ≤ x.from_ ∧ x.from_ ≤ (na : Int) - 1
  got : 0 ≤ x.got ∧ x.got ≤ 2
  who : 5 ≤ x.phase ↔ 1 ≤ x.who ∧ x.who ≤ (n : Int)
  nowho : x.phase < 5 → x.who = 0
  mid : x.phase = 2 ∨ x.phase = 3 → (m = (t : Int) + 1 ↔ x.got = 0)
  done : x.phase = 4 → 0 < x.got ∧ ¬ m = (t : Int) + 1
  rest : ¬ (x.phase = 2 ∨ x.phase = 3) → ¬ x.phase = 4 → x.got = 0 ∧ ¬ m = (t : Int) + 1
theorem wantS_iff {b : Bo} {t : Nat} {x : Want} : wantS b t x = true ↔ WOk b.mark b.sn.length b.wants.length t x := by
  simp only [wantS, sm, Bool.and_eq_true, decide_eq_true_eq, beq_iff_eq, Bool.not_eq_true', Bool.and_eq_false_iff, decide_eq_false_iff_not, Bool.not_eq_false']
  constructor
  · rintro ⟨h1, h2, h3, h4, h5, h6, h7, h8, h9, h10⟩
    refine ⟨h1, h2, h3, h4, h5, h6, h7, decide_eq_decide.1 h8, fun p => ?_, fun p => ?_, fun p => ?_, fun p q => ?_⟩
    · rcases h9 with h9 | h9
      · omega
      · exact h9
    · rw [if_pos p, beq_iff_eq] at h10
      exact decide_eq_decide.1 h10
    · rw [if_neg (by omega), if_pos p] at h10
      simpa using h10
    · rw [if_neg p, if_neg q] at h10
      simpa using h10
  · intro h
    refine ⟨h.if_, h.old, h.new, h.saw, h.phase, h.from_, h.got, decide_eq_decide.2 h.who, ?_, ?_⟩
    · by_cases p : x.phase < 5
      · exact .inr (h.nowho p)
      · exact .inl p
    · split
      · rename_i p
        rw [beq_iff_eq]
        exact decide_eq_decide.2 (h.mid p)
      · rename_i p
        split
        · rename_i q
          simpa using h.done q
        · rename_i q
          simpa using h.rest p q
end Go.Proofs.Ytmfiegjncfgohaa.Den
