import Derived.Test.YtmfiegjncfgohaaCU
namespace Go.Proofs.Ytmfiegjncfgohaa.Den
open Go.RowKit
set_option linter.unusedSimpArgs false
set_option linter.unusedVariables false
set_option maxRecDepth 100000
set_option maxHeartbeats 1000000
structure Want where
  if_ : Int
  old : Int
  new : Int
  phase : Int
  who : Int
  saw : Int
  from_ : Int
  got : Int
  deriving DecidableEq, Inhabited
structure Ev where
  who : Int
  yes : Bool
  saw : Int
  deriving DecidableEq, Inhabited
structure Bo where
  sn : List Int
  w : Int
  w0 : Int
  mark : Int
  wants : List Want
  evs : List Ev
  deriving DecidableEq, Inhabited
def encW (x : Want) : List SV := [.int .i64 x.if_, .int .i64 x.old, .int .i64 x.new, .int .i64 x.phase, .int .i64 x.who, .int .i64 x.saw, .int .i64 x.from_, .int .i64 x.got]
def encE (x : Ev) : List SV := [.int .i64 x.who, .bool x.yes, .int .i64 x.saw]
def wants (l : List Want) : List (List SV) := l.map encW
def evs (l : List Ev) : List (List SV) := l.map encE
theorem rows_all {α : Type} {f : α → List SV} {p : SV → Bool} (h : ∀ x, (f x).all p = true) (l : List α) : ∀ r ∈ l.map f, ∀ x ∈ r, p x = true := by
  intro r hr x hx
  obtain ⟨s, _, rfl⟩ := List.mem_map.1 hr
  exact List.all_eq_true.1 (h s) x hx
theorem wants_len (l : List Want) : (wants l).length = l.length := List.length_map ..
theorem wants_get {l : List Want} {i : Nat} (h : i < l.length) : (wants l)[i]? = some (encW l[i]) := by simp [wants, h]
theorem wants_ren (ρ : Nat → Nat) (l : List Want) : (wants l).map (List.map (SV.ren ρ)) = wants l := ren_rows (fun _ => rfl) l
theorem wants_free (l : List Want) : ∀ r ∈ wants l, ∀ x ∈ r, SV.free x = true := rows_all (fun _ => rfl) l
theorem wants_data (l : List Want) : ∀ r ∈ wants l, ∀ x ∈ r, SV.data x = true := rows_all (fun _ => rfl) l
theorem wants_base (l : List Want) : ∀ r ∈ wants l, ∀ x ∈ r, SV.base x = true := rows_all (fun _ => rfl) l
theorem wants_snoc (l : List Want) (x : Want) : wants l ++ [encW x] = wants (l ++ [x]) := by simp [wants]
theorem wants_set (l : List Want) (i : Nat) (x : Want) : (wants l).set i (encW x) = wants (l.set i x) := by simp [wants, List.map_set]
theorem encW_len (x : Want) : (encW x).length = 8 := rfl
theorem evs_len (l : List Ev) : (evs l).length = l.length := List.length_map ..
theorem evs_get {l : List Ev} {i : Nat} (h : i < l.length) : (evs l)[i]? = some (encE l[i]) := by simp [evs, h]
theorem evs_ren (ρ : Nat → Nat) (l : List Ev) : (evs l).map (List.map (SV.ren ρ)) = evs l := ren_rows (fun _ => rfl) l
theorem evs_free (l : List Ev) : ∀ r ∈ evs l, ∀ x ∈ r, SV.free x = true := rows_all (fun _ => rfl) l
theorem evs_data (l : List Ev) : ∀ r ∈ evs l, ∀ x ∈ r, SV.data x = true := rows_all (fun _ => rfl) l
theorem evs_base (l : List Ev) : ∀ r ∈ evs l, ∀ x ∈ r, SV.base x = true := rows_all (fun _ => rfl) l
theorem evs_snoc (l : List Ev) (x : Ev) : evs l ++ [encE x] = evs (l ++ [x]) := by simp [evs]
theorem encE_len (x : Ev) : (encE x).length = 3 := rfl
def boF (b : Bo) : List SV := [.lst 1 (ints b.sn), .int .i64 b.w, .int .i64 b.w0, .int .i64 b.mark, .lst 8 (wants b.wants), .lst 3 (evs b.evs)]
def bov (b : Bo) : AV := .agg (boF b)
def sm (a : Int) : Bool := decide (0 ≤ a ∧ a ≤ 9)
def evOk (n : Nat) (e : Ev) : Bool := decide (0 ≤ e.who ∧ e.who ≤ (n : Int) - 1) && sm e.saw
def wantS (b : Bo) (t : Nat) (x : Want) : Bool :=
  sm x.if_ && (sm x.old && (sm x.new && (sm x.saw && (decide (0 ≤ x.phase ∧ x.phase ≤ 6) && (decide (0 ≤ x.from_ ∧ x.from_ ≤ (b.sn.length : Int) - 1) && (decide (0 ≤ x.got ∧ x.got ≤ 2) &&
  ((decide (5 ≤ x.phase) == decide (1 ≤ x.who ∧ x.who ≤ (b.wants.length : Int))) && ((!(decide (x.phase < 5) && !decide (x.who = 0))) &&
  (if x.phase = 2 ∨ x.phase = 3 then decide (b.mark = (t : Int) + 1) == decide (x.got = 0) else if x.phase = 4 then decide (0 < x.got) && !decide (b.mark = (t : Int) + 1) else decide (x.got = 0) && !decide (b.mark = (t : Int) + 1))))))))))
def wantI (b : Bo) (t : Nat) (x : Want) : Bool :=
  sm x.if_ && (sm x.old && (sm x.new && (sm x.saw && (decide (0 ≤ x.phase ∧ x.phase ≤ 6) && (decide (0 ≤ x.from_ ∧ x.from_ ≤ (b.sn.length : Int) - 1) && (decide (0 ≤ x.got ∧ x.got ≤ 2) &&
  (if 5 ≤ x.phase then decide (1 ≤ x.who ∧ x.who ≤ (b.wants.length : Int)) && decide (x.got = 0) else decide (x.who = 0) &&
  (if x.phase = 0 ∨ x.phase = 1 then decide (x.got = 0) else if x.phase = 4 then !decide (x.got = 0) else decide (x.got = 0) == decide (b.mark = (t : Int) + 1)))))))))
def allAt {α : Type} (f : Nat → α → Bool) : Nat → List α → Bool
  | _, [] => true
  | t, x :: r => f t x && allAt f (t + 1) r
theorem allAt_drop {α : Type} {f : Nat → α → Bool} {l : List α} {i t : Nat} (h : i < l.length) : allAt f t (l.drop i) = (f t l[i] && allAt f (t + 1) (l.drop (i + 1))) := by
  rw [List.drop_eq_getElem_cons h]; rfl
theorem all_drop {α : Type} {f : α → Bool} {l : List α} {i : Nat} (h : i < l.length) : (l.drop i).all f = (f l[i] && (l.drop (i + 1)).all f) := by
  rw [List.drop_eq_getElem_cons h]; rfl
def lastOk (b : Bo) : Bool := decide (b.mark = 0) || decide ((b.wants.getD (b.mark - 1).toNat default).old = b.w)
def lastI (b : Bo) : Bool := decide (b.mark = 0) || ((decide ((b.wants.getD (b.mark - 1).toNat default).phase = 2) || decide ((b.wants.getD (b.mark - 1).toNat default).phase = 3)) && decide (b.w = (b.wants.getD (b.mark - 1).toNat default).old))
def headOk (b : Bo) : Bool := decide (1 ≤ (b.wants.length : Int) ∧ (b.wants.length : Int) ≤ 6) && (decide (1 ≤ (b.sn.length : Int) ∧ (b.sn.length : Int) ≤ 60) && (decide (b.evs.length ≤ 60) && (sm b.w && (sm b.w0 && decide (0 ≤ b.mark ∧ b.mark ≤ (b.wants.length : Int))))))
/-- Whether all is right. -/
def bothOk (b : Bo) : Bool := headOk b && (b.sn.all sm && (allAt (wantS b) 0 b.wants && (b.evs.all (evOk b.wants.length) && lastOk b)))
def bothI (b : Bo) : Bool := headOk b && (b.sn.all sm && (allAt (wantI b) 0 b.wants && (b.evs.all (evOk b.wants.length) && lastI b)))
theorem allAt_iff {α : Type} [Inhabited α] {f : Nat → α → Bool} : ∀ {l : List α} {t : Nat}, allAt f t l = true ↔ ∀ i, i < l.length → f (t + i) (l.getD i default) = true
  | [], t => ⟨fun _ i h => absurd h (Nat.not_lt_zero _), fun _ => rfl⟩
  | x :: r, t => by
    simp only [allAt, Bool.and_eq_true, allAt_iff (l := r)]
    constructor
    · rintro ⟨h1, h2⟩ i hi
      cases i with
      | zero => simpa using h1
      | succ i => have := h2 i (by simpa using hi); simpa [Nat.add_assoc, Nat.add_comm 1] using this
    · intro h
      refine ⟨by simpa using h 0 (by simp), fun i hi => ?_⟩
      have := h (i + 1) (by simpa using hi)
      simpa [Nat.add_assoc, Nat.add_comm 1] using this
theorem wantI_of {b : Bo} {t : Nat} {x : Want} (h : wantS b t x = true) : wantI b t x = true := by
  simp only [wantS, wantI, Bool.and_eq_true, decide_eq_true_eq, beq_iff_eq, Bool.not_eq_true', Bool.and_eq_false_iff, decide_eq_false_iff_not, Bool.not_eq_false'] at h ⊢
  obtain ⟨h1, h2, h3, h4, h5, h6, h7, h8, h9, h10⟩ := h
  refine ⟨h1, h2, h3, h4, h5, h6, h7, ?_⟩
  by_cases p5 : 5 ≤ x.phase
  · have n2 : ¬ (x.phase = 2 ∨ x.phase = 3) := by omega
    have n4 : ¬ x.phase = 4 := by omega
    rw [if_neg n2, if_neg n4] at h10
    rw [if_pos p5]
    simp only [Bool.and_eq_true, decide_eq_true_eq, Bool.not_eq_true', decide_eq_false_iff_not] at h10 ⊢
    have : decide (1 ≤ x.who ∧ x.who ≤ (b.wants.length : Int)) = true := by rw [← h8]; simpa using p5
    exact ⟨by simpa using this, h10.1⟩
  · rw [if_neg p5]
    have hw : x.who = 0 := by
      rcases h9 with h9 | h9
      · omega
      · exact h9
    by_cases p2 : x.phase = 2 ∨ x.phase = 3
    · have n0 : ¬ (x.phase = 0 ∨ x.phase = 1) := by omega
      have n4 : ¬ x.phase = 4 := by omega
      rw [if_pos p2] at h10
      rw [if_neg n0, if_neg n4]
      simp only [beq_iff_eq] at h10
      simp [hw, h10]
    · rw [if_neg p2] at h10
      by_cases p4 : x.phase = 4
      · have n0 : ¬ (x.phase = 0 ∨ x.phase = 1) := by omega
        rw [if_pos p4] at h10
        rw [if_neg n0, if_pos p4]
        simp only [Bool.and_eq_true, decide_eq_true_eq, Bool.not_eq_true', decide_eq_false_iff_not] at h10 ⊢
        exact ⟨hw, by omega⟩
      · rw [if_neg p4] at h10
        have n0 : x.phase = 0 ∨ x.phase = 1 := by omega
        rw [if_pos n0]
        simp only [Bool.and_eq_true, decide_eq_true_eq, Bool.not_eq_true', decide_eq_false_iff_not] at h10 ⊢
        exact ⟨hw, h10.1⟩
theorem wantS_of {b : Bo} {t : Nat} {x : Want} (h : wantI b t x = true) (hm : x.phase = 2 ∨ x.phase = 3 ∨ b.mark ≠ (t : Int) + 1) : wantS b t x = true := by
  simp only [wantS, wantI, Bool.and_eq_true, decide_eq_true_eq, beq_iff_eq, Bool.not_eq_true', Bool.and_eq_false_iff, decide_eq_false_iff_not, Bool.not_eq_false'] at h ⊢
  obtain ⟨h1, h2, h3, h4, h5, h6, h7, h8⟩ := h
  refine ⟨h1, h2, h3, h4, h5, h6, h7, ?_⟩
  by_cases p5 : 5 ≤ x.phase
  · have n2 : ¬ (x.phase = 2 ∨ x.phase = 3) := by omega
    have n4 : ¬ x.phase = 4 := by omega
    rw [if_pos p5] at h8
    rw [if_neg n2, if_neg n4]
    simp only [Bool.and_eq_true, decide_eq_true_eq, Bool.not_eq_true', decide_eq_false_iff_not] at h8 ⊢
    refine ⟨?_, .inl (by omega), h8.2, by omega⟩
    rw [decide_eq_true p5, decide_eq_true h8.1]
  · rw [if_neg p5] at h8
    simp only [Bool.and_eq_true, decide_eq_true_eq] at h8
    obtain ⟨hw, h8⟩ := h8
    refine ⟨by rw [decide_eq_false p5, decide_eq_false (by omega)], .inr hw, ?_⟩
    by_cases p2 : x.phase = 2 ∨ x.phase = 3
    · have n0 : ¬ (x.phase = 0 ∨ x.phase = 1) := by omega
      have n4 : ¬ x.phase = 4 := by omega
      rw [if_neg n0, if_neg n4] at h8
      rw [if_pos p2]
      simp only [beq_iff_eq] at h8 ⊢
      exact h8.symm
    · have nm : ¬ b.mark = (t : Int) + 1 := by omega
      rw [if_neg p2]
      by_cases p4 : x.phase = 4
      · have n0 : ¬ (x.phase = 0 ∨ x.phase = 1) := by omega
        rw [if_neg n0, if_pos p4] at h8
        rw [if_pos p4]
        simp only [Bool.and_eq_true, decide_eq_true_eq, Bool.not_eq_true', decide_eq_false_iff_not] at h8 ⊢
        exact ⟨by omega, nm⟩
      · have n0 : x.phase = 0 ∨ x.phase = 1 := by omega
        rw [if_pos n0] at h8
        rw [if_neg p4]
        simp only [Bool.and_eq_true, decide_eq_true_eq, Bool.not_eq_true', decide_eq_false_iff_not] at h8 ⊢
        exact ⟨h8, nm⟩
theorem headOk_iff {b : Bo} : headOk b = true ↔ (1 ≤ b.wants.length ∧ b.wants.length ≤ 6) ∧ (1 ≤ b.sn.length ∧ b.sn.length ≤ 60) ∧ b.evs.length ≤ 60 ∧ (0 ≤ b.w ∧ b.w ≤ 9) ∧ (0 ≤ b.w0 ∧ b.w0 ≤ 9) ∧ 0 ≤ b.mark ∧ b.mark ≤ (b.wants.length : Int) := by
  simp only [headOk, sm, Bool.and_eq_true, decide_eq_true_eq]
  omega
theorem bothI_eq (b : Bo) : bothI b = bothOk b := by
  rw [Bool.eq_iff_iff]
  simp only [bothI, bothOk, Bool.and_eq_true]
  constructor
  · rintro ⟨h1, h2, h3, h4, h5⟩
    have hh := headOk_iff.1 h1
    refine ⟨h1, h2, ?_, h4, ?_⟩
    · rw [allAt_iff] at h3 ⊢
      intro i hi
      refine wantS_of (h3 i hi) ?_
      by_cases hm : b.mark = ((0 + i : Nat) : Int) + 1
      · simp only [lastI, Bool.or_eq_true, decide_eq_true_eq, Bool.and_eq_true] at h5
        rcases h5 with h5 | ⟨h5, _⟩
        · omega
        · have e : (b.mark - 1).toNat = i := by omega
          rw [e] at h5
          rcases h5 with h5 | h5
          · exact .inl h5
          · exact .inr (.inl h5)
      · exact .inr (.inr hm)
    · simp only [lastI, lastOk, Bool.or_eq_true, decide_eq_true_eq, Bool.and_eq_true] at h5 ⊢
      rcases h5 with h5 | ⟨_, h5⟩
      · exact .inl h5
      · exact .inr h5.symm
  · rintro ⟨h1, h2, h3, h4, h5⟩
    have hh := headOk_iff.1 h1
    refine ⟨h1, h2, ?_, h4, ?_⟩
    · rw [allAt_iff] at h3 ⊢
      exact fun i hi => wantI_of (h3 i hi)
    · simp only [lastI, lastOk, Bool.or_eq_true, decide_eq_true_eq, Bool.and_eq_true] at h5 ⊢
      by_cases hm : b.mark = 0
      · exact .inl hm
      · refine .inr ⟨?_, (h5.resolve_left hm).symm⟩
        rw [allAt_iff] at h3
        have h6 := h3 (b.mark - 1).toNat (by omega)
        have e : b.mark = ((0 + (b.mark - 1).toNat : Nat) : Int) + 1 := by omega
        generalize hx : b.wants.getD (b.mark - 1).toNat default = x at *
        simp only [wantS, Bool.and_eq_true] at h6
        obtain ⟨_, _, _, _, _, _, _, _, _, h6⟩ := h6
        by_cases p2 : x.phase = 2 ∨ x.phase = 3
        · exact p2
        · exfalso
          rw [if_neg p2] at h6
          split at h6 <;> (simp only [Bool.and_eq_true, decide_eq_true_eq, Bool.not_eq_true', decide_eq_false_iff_not] at h6; omega)
end Go.Proofs.Ytmfiegjncfgohaa.Den
