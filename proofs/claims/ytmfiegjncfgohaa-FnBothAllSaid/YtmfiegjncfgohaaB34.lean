/- The plain laws of two words: a step of what is right is right (3). -/
import Derived.Test.YtmfiegjncfgohaaB33
namespace Go.Proofs.Ytmfiegjncfgohaa.Den
open Go.RowKit
set_option linter.unusedSimpArgs false
set_option linter.unusedVariables false
theorem WOk.mark0 {m : Int} {na n k t : Nat} {x : Want} (h : WOk m na n k x) (hk : k ≠ t) (hm : m = 0 ∨ m = (t : Int) + 1) {m' : Int} (hm' : m' = 0 ∨ m' = (t : Int) + 1) : WOk m' na n k x :=
  ⟨h.if_, h.old, h.new, h.saw, h.phase, h.from_, h.got, h.who, h.nowho, fun p => by have := h.mid p; omega, fun p => by have := h.done p; omega, fun p q => by have := h.rest p q; omega⟩
theorem takeB_ok {b : Bo} (ho : bothOk b = true) {k : Nat} {saw : Int} (hk : k < b.wants.length) (hm : b.mark = (k : Int) + 1) (hs : 0 ≤ saw ∧ saw ≤ 9) (hn : b.evs.length ≤ 59) : bothOk (takeB b k saw) = true := by
  obtain ⟨z, hz⟩ : ∃ z, b.wants[k]? = some z := ⟨_, List.getElem?_eq_getElem hk⟩
  have hzd : b.wants.getD k default = z := by rw [List.getD_eq_getElem?_getD, hz]; rfl
  obtain ⟨hph, hold⟩ := mark_late ho hz hm
  have hzo := (bothOk_iff.1 ho).2.2.1 k z hz
  have hh := headOk_iff.1 (bothOk_iff.1 ho).1
  have e : takeB b k saw = { b with w := if saw = z.if_ then z.new else z.old, mark := 0, wants := b.wants.set k { z with got := if saw = z.if_ then 2 else 1 }, evs := b.evs ++ [⟨k, decide (saw = z.if_), saw⟩] } := by unfold takeB; rw [hzd]
  rw [e]
  have hg : 1 ≤ (if saw = z.if_ then (2 : Int) else 1) ∧ (if saw = z.if_ then (2 : Int) else 1) ≤ 2 := by split <;> omega
  generalize (if saw = z.if_ then (2 : Int) else 1) = g at hg
  have ho2 := hzo.old
  have hn2 := hzo.new
  refine ok_put ho (t := k) (y := { z with got := g }) hk rfl ?_ rfl rfl (by simp; omega) (fun e he => ?_) (by show (0 : Int) ≤ 0 ∧ (0 : Int) ≤ _; omega) ?_ (fun j x hj hx h => h.mark0 hj (.inr hm) (.inl rfl)) (.inl rfl)
  · show 0 ≤ (if saw = z.if_ then z.new else z.old) ∧ _
    split <;> omega
  · rcases List.mem_append.1 he with he | he
    · exact .inl he
    · rw [List.mem_singleton.1 he]
      exact .inr ⟨by show 0 ≤ (k : Int) ∧ (k : Int) ≤ _; omega, hs⟩
  · refine ⟨hzo.if_, hzo.old, hzo.new, hzo.saw, hzo.phase, hzo.from_, ⟨by show 0 ≤ g; omega, by show g ≤ 2; omega⟩, hzo.who, hzo.nowho, fun p => ?_, fun p => ?_, fun p q => ?_⟩
    · show (0 : Int) = (k : Int) + 1 ↔ g = 0
      omega
    · simp only at p
      omega
    · exact absurd hph p
end Go.Proofs.Ytmfiegjncfgohaa.Den
