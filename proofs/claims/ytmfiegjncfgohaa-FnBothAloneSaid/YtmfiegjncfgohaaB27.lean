/- The plain laws of two words: what all states that are reached keep. -/
import Derived.Test.YtmfiegjncfgohaaB24
namespace Go.Proofs.Ytmfiegjncfgohaa.Den
open Go.RowKit
set_option linter.unusedSimpArgs false
set_option linter.unusedVariables false
def seenB (b : Bo) (k : Nat) (saw : Int) : Bool := (b.sn.drop (b.wants.getD k default).from_.toNat).any fun a => decide (saw = a)
/-- Where the judge ends, if all that was decided fits. -/
def endL (b : Bo) : Int → List Ev → Option Int
  | w, [] => some w
  | w, e :: r =>
    let x := b.wants.getD e.who.toNat default
    if e.yes = false then endL b w r else if w = x.old ∧ e.saw = x.if_ ∧ seenB b e.who.toNat e.saw = true then endL b x.new r else none
theorem judgeL_end (b : Bo) : ∀ (l : List Ev) (w : Int), judgeL b w l = true ↔ endL b w l = some b.w
  | [], w => by simp [judgeL, endL]
  | e :: r, w => by
    have hj : judgeL b w (e :: r) = (if e.yes = false then judgeL b w r else if w = (b.wants.getD e.who.toNat default).old ∧ e.saw = (b.wants.getD e.who.toNat default).if_ ∧ seenB b e.who.toNat e.saw = true then judgeL b (b.wants.getD e.who.toNat default).new r else false) := rfl
    have hk : endL b w (e :: r) = (if e.yes = false then endL b w r else if w = (b.wants.getD e.who.toNat default).old ∧ e.saw = (b.wants.getD e.who.toNat default).if_ ∧ seenB b e.who.toNat e.saw = true then endL b (b.wants.getD e.who.toNat default).new r else none) := rfl
    rw [hj, hk]
    by_cases hy : e.yes = false
    · rw [if_pos hy, if_pos hy]
      exact judgeL_end b r w
    · rw [if_neg hy, if_neg hy]
      by_cases hc : w = (b.wants.getD e.who.toNat default).old ∧ e.saw = (b.wants.getD e.who.toNat default).if_ ∧ seenB b e.who.toNat e.saw = true
      · rw [if_pos hc, if_pos hc]
        exact judgeL_end b r _
      · rw [if_neg hc, if_neg hc]
        simp
theorem endL_snoc (b : Bo) (e : Ev) : ∀ (l : List Ev) (w : Int), endL b w (l ++ [e]) = (endL b w l).bind fun v => endL b v [e]
  | [], w => rfl
  | f :: r, w => by
    simp only [List.cons_append, endL]
    split
    · exact endL_snoc b e r w
    · split
      · exact endL_snoc b e r _
      · rfl
/-- Laid, or done. -/
def late (x : Want) : Prop := x.phase = 2 ∨ x.phase = 3 ∨ x.phase = 4
/-- The same want, to the judge. -/
def sameW (x y : Want) : Prop := y.if_ = x.if_ ∧ y.old = x.old ∧ y.new = x.new ∧ y.from_ = x.from_
theorem seenB_keep {b b' : Bo} {k : Nat} {saw : Int} (hs : ∃ s, b'.sn = b.sn ++ s) (hw : (b'.wants.getD k default).from_ = (b.wants.getD k default).from_) (h : seenB b k saw = true) : seenB b' k saw = true := by
  obtain ⟨s, hs⟩ := hs
  unfold seenB at h ⊢
  rw [hs, hw, List.drop_append, List.any_append, h, Bool.true_or]
theorem endL_keep {b b' : Bo} (hs : ∃ s, b'.sn = b.sn ++ s) : ∀ (l : List Ev) (w v : Int), (∀ e ∈ l, e.yes = true → sameW (b.wants.getD e.who.toNat default) (b'.wants.getD e.who.toNat default)) → endL b w l = some v → endL b' w l = some v
  | [], w, v, _, h => h
  | e :: r, w, v, hw, h => by
    have hr := fun e he => hw e (List.mem_cons_of_mem _ he)
    simp only [endL] at h ⊢
    by_cases hy : e.yes = false
    · rw [if_pos hy] at h ⊢
      exact endL_keep hs r w v hr h
    · rw [if_neg hy] at h ⊢
      obtain ⟨q1, q2, q3, q4⟩ := hw e List.mem_cons_self (by simpa using hy)
      by_cases hc : w = (b.wants.getD e.who.toNat default).old ∧ e.saw = (b.wants.getD e.who.toNat default).if_ ∧ seenB b e.who.toNat e.saw = true
      · rw [if_pos hc] at h
        rw [if_pos ⟨by rw [q2]; exact hc.1, by rw [q1]; exact hc.2.1, seenB_keep hs q4 hc.2.2⟩, q3]
        exact endL_keep hs r _ v hr h
      · rw [if_neg hc] at h
        cases h
/-- What all that is reached keeps. -/
structure BInv (b : Bo) : Prop where
  ends : endL b b.w0 b.evs = some b.w
  told : ∀ e ∈ b.evs, e.yes = true → late (b.wants.getD e.who.toNat default)
  own : ∀ (t : Nat) (x : Want), b.wants[t]? = some x → x.phase = 3 → seenB b t x.saw = true
  helps : ∀ (t : Nat) (x : Want), b.wants[t]? = some x → x.phase = 5 ∨ x.phase = 6 → late (b.wants.getD (x.who - 1).toNat default)
  helped : ∀ (t : Nat) (x : Want), b.wants[t]? = some x → x.phase = 6 → seenB b (x.who - 1).toNat x.saw = true
theorem BInv.judge {b : Bo} (h : BInv b) (ho : bothOk b = true) : judgeB b = true := by
  simp only [judgeB, ho, Bool.true_and]
  exact (judgeL_end b _ _).2 h.ends
theorem getD_set {l : List Want} {t k : Nat} {y : Want} : (l.set t y).getD k default = if k = t ∧ t < l.length then y else l.getD k default := by
  rw [List.getD_eq_getElem?_getD, List.getD_eq_getElem?_getD, List.getElem?_set]
  by_cases h : t = k
  · subst h
    by_cases h2 : t < l.length
    · simp [h2]
    · simp [h2]
  · rw [if_neg h, if_neg (fun q => h q.1.symm)]
/-- One want changes, and what the judge asks of it stays where it was laid. -/
theorem BInv.put {b b' : Bo} (h : BInv b) {t : Nat} {x y : Want} (hx : b.wants[t]? = some x) (hsn : b'.sn = b.sn) (hw : b'.w = b.w) (hw0 : b'.w0 = b.w0) (hev : b'.evs = b.evs ∨ ∃ e, b'.evs = b.evs ++ [e] ∧ e.yes = false) (hws : b'.wants = b.wants.set t y)
    (hs : y.if_ = x.if_ ∧ y.old = x.old ∧ y.new = x.new) (hl : late x → y.from_ = x.from_ ∧ late y) (h3 : y.phase = 3 → seenB b' t y.saw = true) (h5 : y.phase = 5 ∨ y.phase = 6 → late (b'.wants.getD (y.who - 1).toNat default)) (h6 : y.phase = 6 → seenB b' (y.who - 1).toNat y.saw = true) : BInv b' := by
  have htl := (List.getElem?_eq_some_iff.1 hx).1
  have hxd : b.wants.getD t default = x := by rw [List.getD_eq_getElem?_getD, hx]; rfl
  have hlate : ∀ k, late (b.wants.getD k default) → late (b'.wants.getD k default) ∧ sameW (b.wants.getD k default) (b'.wants.getD k default) := fun k hk => by
    rw [hws, getD_set]
    split
    · rename_i q
      obtain ⟨rfl, _⟩ := q
      rw [hxd] at hk ⊢
      obtain ⟨q1, q2⟩ := hl hk
      exact ⟨q2, hs.1, hs.2.1, hs.2.2, q1⟩
    · exact ⟨hk, rfl, rfl, rfl, rfl⟩
  have hpre : ∃ s, b'.sn = b.sn ++ s := ⟨[], by rw [hsn, List.append_nil]⟩
  have hends : endL b' b'.w0 b.evs = some b'.w := by
    rw [hw, hw0]
    exact endL_keep hpre _ _ _ (fun e he hy => (hlate _ (h.told e he hy)).2) h.ends
  refine ⟨?_, ?_, ?_, ?_, ?_⟩
  · rcases hev with hev | ⟨e, hev, hy⟩
    · rw [hev]; exact hends
    · rw [hev, endL_snoc, hends]
      simp [endL, hy]
  · intro e he hy
    rcases hev with hev | ⟨e', hev, hy'⟩
    · rw [hev] at he; exact (hlate _ (h.told e he hy)).1
    · rw [hev] at he
      rcases List.mem_append.1 he with he | he
      · exact (hlate _ (h.told e he hy)).1
      · rw [List.mem_singleton.1 he, hy'] at hy
        cases hy
  all_goals
    intro k z hz
    rw [hws, List.getElem?_set] at hz
    split at hz
    · rename_i q
      subst q
      obtain rfl := Option.some.inj hz
      first | exact h3 | exact h5 | exact h6
    · first
      | exact fun p => seenB_keep hpre (by rw [hws, getD_set, if_neg (fun q => by omega)]) (h.own k z hz p)
      | exact fun p => (hlate _ (h.helps k z hz p)).1
      | exact fun p => seenB_keep hpre ((hlate _ (h.helps k z hz (.inr p))).2.2.2.2) (h.helped k z hz p)
end Go.Proofs.Ytmfiegjncfgohaa.Den
