/- The plain laws of arenas. -/
import Derived.Test.YtmfiegjncfgohaaA21
namespace Go.Proofs.Ytmfiegjncfgohaa.Den
open Go.RowKit
set_option linter.unusedSimpArgs false
set_option linter.unusedVariables false
theorem aok_mono {size : Int} : ∀ {l : List Span} {e f : Int}, aok size e l = true → f ≤ e → aok size f l = true
  | [], _, _, _, _ => rfl
  | s :: r, e, f, h, hf => by
    simp only [aok, Bool.and_eq_true, decide_eq_true_eq] at h ⊢
    exact ⟨⟨by omega, h.1.2⟩, h.2⟩
theorem aok_erase {size : Int} : ∀ {l : List Span} {e : Int} (k : Nat), aok size e l = true → aok size e (l.eraseIdx k) = true
  | [], _, _, _ => rfl
  | s :: r, e, 0, h => by
    simp only [aok, Bool.and_eq_true, decide_eq_true_eq] at h
    exact aok_mono h.2.2 (by omega)
  | s :: r, e, k + 1, h => by
    simp only [aok, Bool.and_eq_true, decide_eq_true_eq] at h
    rw [List.eraseIdx_cons_succ]
    simp only [aok, Bool.and_eq_true, decide_eq_true_eq]
    exact ⟨h.1, h.2.1, aok_erase k h.2.2⟩
theorem aok_ins {size : Int} : ∀ {l : List Span} {e : Int} {k : Nat} {g : Span} {n : Int}, aok size e l = true → e ≤ size → 0 ≤ e → (gapsFrom size e l)[k]? = some g → n ≤ g.len → 1 ≤ n → aok size e (insK l k ⟨g.at_, n⟩) = true
  | [], e, k, g, n, _, he, h0, hk, hg, hn => by
    rw [gapsFrom] at hk
    cases k with
    | zero =>
      simp only [List.getElem?_cons_zero, Option.some.injEq] at hk
      subst hk
      simp only [insK, List.take_nil, List.drop_nil, List.nil_append, aok, Bool.and_eq_true, decide_eq_true_eq, Bool.and_true]
      simp only at hg
      omega
    | succ k => simp at hk
  | s :: r, e, k, g, n, h, he, h0, hk, hg, hn => by
    simp only [aok, Bool.and_eq_true, decide_eq_true_eq] at h
    rw [gapsFrom] at hk
    cases k with
    | zero =>
      simp only [List.getElem?_cons_zero, Option.some.injEq] at hk
      subst hk
      simp only at hg
      simp only [insK, List.take_zero, List.drop_zero, List.nil_append, aok, Bool.and_eq_true, decide_eq_true_eq]
      exact ⟨by omega, by omega, by omega, h.2.1, h.2.2⟩
    | succ k =>
      simp only [List.getElem?_cons_succ] at hk
      have := aok_ins h.2.2 (by omega) (by omega) hk hg hn
      show aok size e (s :: insK r k ⟨g.at_, n⟩) = true
      simp only [aok, Bool.and_eq_true, decide_eq_true_eq]
      exact ⟨h.1, h.2.1, this⟩
theorem sumL_ins (l : List Span) (k : Nat) (x : Span) : sumL (insK l k x) = sumL l + x.len := by
  rw [sumL_split l k]
  simp only [insK, sumL, List.map_append, List.map_cons, List.sum_append, List.sum_cons]
  omega
theorem findAt_ins {size : Int} : ∀ {l : List Span} {e : Int} {k : Nat} {g : Span} {n : Int} (i : Nat), aok size e l = true → (gapsFrom size e l)[k]? = some g → 1 ≤ g.len → findAt g.at_ (insK l k ⟨g.at_, n⟩) i = ((i + k : Nat) : Int)
  | [], e, k, g, n, i, _, hk, hg => by
    rw [gapsFrom] at hk
    cases k with
    | zero => simp [insK, findAt]
    | succ k => simp at hk
  | s :: r, e, k, g, n, i, h, hk, hg => by
    simp only [aok, Bool.and_eq_true, decide_eq_true_eq] at h
    rw [gapsFrom] at hk
    cases k with
    | zero => simp [insK, findAt]
    | succ k =>
      simp only [List.getElem?_cons_succ] at hk
      have h1 := gapsFrom_at h.2.2 g (List.mem_of_getElem? hk)
      have := findAt_ins (n := n) (i + 1) h.2.2 hk hg
      show findAt g.at_ (s :: insK r k ⟨g.at_, n⟩) i = _
      unfold findAt
      rw [if_neg (by omega), this]
      congr 1
      omega
theorem insK_erase (l : List Span) (k : Nat) (x : Span) (hk : k ≤ l.length) : (insK l k x).eraseIdx k = l := by
  unfold insK
  rw [List.eraseIdx_append_of_length_le (by simp; omega), List.length_take_of_le hk, Nat.sub_self, List.eraseIdx_cons_zero, List.take_append_drop]
theorem maxF_ge : ∀ (l : List Span) (n m : Int), n ≤ l.foldl (fun n s => max n s.len) m ↔ n ≤ m ∨ ∃ g ∈ l, n ≤ g.len
  | [], n, m => by simp
  | s :: r, n, m => by
    rw [List.foldl_cons, maxF_ge r n (max m s.len)]
    constructor
    · rintro (h | ⟨g, hg, h⟩)
      · by_cases q : n ≤ m
        · exact .inl q
        · exact .inr ⟨s, List.mem_cons_self, by omega⟩
      · exact .inr ⟨g, List.mem_cons_of_mem _ hg, h⟩
    · rintro (h | ⟨g, hg, h⟩)
      · exact .inl (by omega)
      · rcases List.mem_cons.1 hg with rfl | hg
        · exact .inl (by omega)
        · exact .inr ⟨g, hg, h⟩
theorem maxF_le_sum : ∀ (l : List Span) (m : Int), 0 ≤ m → (∀ g ∈ l, 0 ≤ g.len) → l.foldl (fun n s => max n s.len) m ≤ m + sumL l
  | [], m, _, _ => by simp [sumL]
  | s :: r, m, hm, h => by
    have h1 := h s List.mem_cons_self
    have h2 := maxF_le_sum r (max m s.len) (by omega) fun g hg => h g (List.mem_cons_of_mem _ hg)
    have h3 : sumL (s :: r) = s.len + sumL r := by simp [sumL]
    rw [List.foldl_cons, h3]
    omega
theorem gap_le_room (a : Ar) : gapOf a ≤ roomOf a := by
  unfold gapOf roomOf
  split
  · rename_i ho
    have h := maxF_le_sum (gapsI a) 0 (Int.le_refl _) (gapsI_ok ho).1
    unfold maxL
    omega
  · exact Int.le_refl _
/-- What Alloc does, place told. -/
theorem alloc_cases (a : Ar) (n : Int) : ((alloc a n).2.2 = false ∧ alloc a n = (a, -1, false) ∧ (arOk a = true → ¬ (1 ≤ n ∧ n ≤ gapOf a))) ∨ ∃ k g, arOk a = true ∧ 1 ≤ n ∧ n ≤ gapOf a ∧ (gapsI a)[k]? = some g ∧ n ≤ g.len ∧ k ≤ a.live.length ∧ alloc a n = (⟨a.size, insK a.live k ⟨g.at_, n⟩⟩, g.at_, true) := by
  by_cases ho : arOk a = true
  · by_cases hn : 1 ≤ n
    · have hal : alloc a n = match (gapsI a).find? (fits n) with | some g => (⟨a.size, insAt a.live g.at_ n⟩, g.at_, true) | none => (a, -1, false) := by unfold alloc; rw [if_pos ⟨ho, hn⟩, find_gaps a hn]; rfl
      have hgap : n ≤ gapOf a ↔ ∃ g ∈ gapsI a, n ≤ g.len := by
        unfold gapOf maxL
        rw [if_pos ho, maxF_ge]
        constructor
        · rintro (h | h)
          · omega
          · exact h
        · exact .inr
      cases hf : (gapsI a).find? (fits n) with
      | none =>
        rw [hf] at hal
        refine .inl ⟨by rw [hal], hal, fun _ h => ?_⟩
        obtain ⟨g, hg, h2⟩ := hgap.1 h.2
        have := List.find?_eq_none.1 hf g hg
        simp only [fits, decide_eq_true_eq] at this
        exact this h2
      | some g =>
        rw [hf] at hal
        have hg := List.mem_of_find?_eq_some hf
        have hfit := List.find?_some hf
        simp only [fits, decide_eq_true_eq] at hfit
        obtain ⟨k, hk⟩ := List.mem_iff_getElem?.1 hg
        have hkl : k ≤ a.live.length := by
          have := (List.getElem?_eq_some_iff.1 hk).1
          rw [gapsI_len] at this
          omega
        have hko := kOf_gap (arOk_iff.1 ho).2.2 hk (by omega)
        refine .inr ⟨k, g, ho, hn, hgap.2 ⟨g, hg, hfit⟩, hk, hfit, hkl, ?_⟩
        have e : insAt a.live g.at_ n = insK a.live k ⟨g.at_, n⟩ := by unfold insAt insK; rw [hko]
        rw [hal]
        show ((⟨a.size, insAt a.live g.at_ n⟩, g.at_, true) : Ar × Int × Bool) = _
        rw [e]
    · refine .inl ⟨?_, ?_, fun _ h => hn h.1⟩ <;> unfold alloc <;> rw [if_neg (fun h => hn h.2)]
  · refine .inl ⟨?_, ?_, fun h => absurd h ho⟩ <;> unfold alloc <;> rw [if_neg (fun h => ho h.1)]
theorem alloc_ok {a : Ar} {n : Int} {k : Nat} {g : Span} (ho : arOk a = true) (hn : 1 ≤ n) (hk : (gapsI a)[k]? = some g) (hg : n ≤ g.len) : arOk ⟨a.size, insK a.live k ⟨g.at_, n⟩⟩ = true := by
  obtain ⟨h1, h2, h3⟩ := arOk_iff.1 ho
  exact arOk_iff.2 ⟨h1, h2, aok_ins h3 (by show (0:Int) ≤ a.size; omega) (Int.le_refl _) hk hg hn⟩
theorem room_ins {a : Ar} {n : Int} {k : Nat} {g : Span} (ho : arOk a = true) (hn : 1 ≤ n) (hk : (gapsI a)[k]? = some g) (hg : n ≤ g.len) : roomOf ⟨a.size, insK a.live k ⟨g.at_, n⟩⟩ = roomOf a - n ∧ sumL (insK a.live k ⟨g.at_, n⟩) + roomOf ⟨a.size, insK a.live k ⟨g.at_, n⟩⟩ = a.size := by
  have hb := alloc_ok ho hn hk hg
  have h1 := (gapsI_ok ho).2.2
  have h2 := (gapsI_ok hb).2.2
  have h3 := sumL_ins a.live k ⟨g.at_, n⟩
  unfold roomOf
  rw [if_pos ho, if_pos hb]
  simp only at h2 h3
  omega
theorem release_ins {a : Ar} {n : Int} {k : Nat} {g : Span} (ho : arOk a = true) (hn : 1 ≤ n) (hk : (gapsI a)[k]? = some g) (hg : n ≤ g.len) (hkl : k ≤ a.live.length) : releaseI ⟨a.size, insK a.live k ⟨g.at_, n⟩⟩ g.at_ = (a, true) := by
  have hb := alloc_ok ho hn hk hg
  have hf := findAt_ins (n := n) 0 (arOk_iff.1 ho).2.2 hk (by omega)
  rw [Nat.zero_add] at hf
  unfold releaseI
  simp only [hf]
  rw [if_pos ⟨hb, by omega⟩, Int.toNat_natCast, insK_erase _ _ _ hkl]
theorem releaseI_facts (a : Ar) (at_ : Int) : ((releaseI a at_).2 = false → (releaseI a at_).1 = a) ∧ ((releaseI a at_).2 = true → arOk (releaseI a at_).1 = true ∧ (releaseI a at_).1.live.length + 1 = a.live.length) ∧ (releaseI a at_).1.live.length ≤ a.live.length := by
  unfold releaseI
  have hb := findAt_b at_ a.live 0
  split
  · rename_i h
    obtain ⟨h1, h2, h3⟩ := arOk_iff.1 h.1
    have hl : (a.live.eraseIdx (findAt at_ a.live 0).toNat).length = a.live.length - 1 := by
      rw [List.length_eraseIdx, if_pos (by omega)]
    refine ⟨fun q => (by cases q), fun _ => ⟨arOk_iff.2 ⟨h1, h2, aok_erase _ h3⟩, ?_⟩, ?_⟩
    · simp only [hl]
      omega
    · simp only [hl]
      omega
  · exact ⟨fun _ => rfl, fun q => (by cases q), Nat.le_refl _⟩
end Go.Proofs.Ytmfiegjncfgohaa.Den
