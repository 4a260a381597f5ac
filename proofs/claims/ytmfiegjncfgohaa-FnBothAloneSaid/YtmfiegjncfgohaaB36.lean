/- The plain laws of two words: who goes on is done at last. -/
import Derived.Test.YtmfiegjncfgohaaB35
namespace Go.Proofs.Ytmfiegjncfgohaa.Den
open Go.RowKit
set_option linter.unusedSimpArgs false
set_option linter.unusedVariables false
/-- How many steps a want has yet to do, if no one lays a mark. -/
def rankW (m : Int) (x : Want) : Nat :=
  if x.phase = 4 then 0 else if x.phase = 3 then 1 else if x.phase = 2 then 2
  else if x.phase = 1 then (if m = 0 then 3 else 6)
  else if x.phase = 0 then 7
  else if x.phase = 5 then (if m = 0 ∨ m = x.who then 5 else 8)
  else (if m = 0 ∨ m = x.who then 4 else 7)
theorem rk0 {m : Int} {x : Want} (h : x.phase = 0) : rankW m x = 7 := by simp [rankW, h]
theorem rk1 {m : Int} {x : Want} (h : x.phase = 1) : rankW m x = if m = 0 then 3 else 6 := by simp [rankW, h]
theorem rk2 {m : Int} {x : Want} (h : x.phase = 2) : rankW m x = 2 := by simp [rankW, h]
theorem rk3 {m : Int} {x : Want} (h : x.phase = 3) : rankW m x = 1 := by simp [rankW, h]
theorem rk4 {m : Int} {x : Want} (h : x.phase = 4) : rankW m x = 0 := by simp [rankW, h]
theorem rk5 {m : Int} {x : Want} (h : x.phase = 5) : rankW m x = if m = 0 ∨ m = x.who then 5 else 8 := by simp [rankW, h]
theorem rk6 {m : Int} {x : Want} (h : x.phase = 6) : rankW m x = if m = 0 ∨ m = x.who then 4 else 7 := by simp [rankW, h]
def earlyW (x : Want) : Nat := if x.phase = 2 ∨ x.phase = 3 ∨ x.phase = 4 then 0 else 1
theorem rankW_le (m : Int) (x : Want) : rankW m x ≤ 8 := by unfold rankW; (repeat' split) <;> decide
theorem rankW_zero (m : Int) (x : Want) : rankW m { x with phase := 4 } = 0 := by unfold rankW; simp
/-- A step of one, seen by the others. -/
theorem stepB_sees {b : Bo} (ho : bothOk b = true) {t : Nat} {x : Want} (hx : b.wants[t]? = some x) (hp4 : x.phase ≠ 4) :
    rankW (stepB b t).mark ((stepB b t).wants.getD t default) < rankW b.mark x ∧
    (∀ k, k ≠ t → ((stepB b t).wants.getD k default).phase = (b.wants.getD k default).phase ∧ ((stepB b t).wants.getD k default).who = (b.wants.getD k default).who) ∧
    (((stepB b t).mark = b.mark ∨ (stepB b t).mark = 0) ∧ sumW earlyW (stepB b t).wants ≤ sumW earlyW b.wants ∨ b.mark = 0 ∧ sumW earlyW (stepB b t).wants + 1 = sumW earlyW b.wants) := by
  have ht := (List.getElem?_eq_some_iff.1 hx).1
  have hd : b.wants.getD t default = x := by rw [List.getD_eq_getElem?_getD, hx]; rfl
  obtain ⟨h1, h2, h3, h4, h5⟩ := bothOk_iff.1 ho
  have hh := headOk_iff.1 h1
  have hw := h3 t x hx
  have hph := hw.phase
  have hwho := hw.who
  have set1 : ∀ (y : Want), (b.wants.set t y).getD t default = y := fun y => by rw [getD_set, if_pos ⟨rfl, ht⟩]
  have setk : ∀ (y : Want) (k : Nat), k ≠ t → (b.wants.set t y).getD k default = b.wants.getD k default := fun y k hk => by rw [getD_set, if_neg (fun q => hk q.1)]
  have sm := fun y => sumW_set earlyW y hx
  unfold stepB
  rw [hd]
  by_cases p0 : x.phase = 0
  · simp only [if_pos p0, putW]
    refine ⟨?_, fun k hk => by rw [setk _ k hk]; exact ⟨rfl, rfl⟩, .inl ⟨.inl trivial, ?_⟩⟩
    · rw [set1, rk0 p0, rk1 (x := { x with phase := 1 }) rfl]
      split <;> decide
    · have := sm { x with phase := 1 }
      simp only [earlyW, p0] at this
      simp at this
      omega
  by_cases p1 : x.phase = 1
  · have he : earlyW x = 1 := by simp [earlyW, p1]
    by_cases q0 : b.mark = 0
    · by_cases q1 : b.w = x.old
      · simp only [if_neg p0, if_pos p1, if_neg (not_not_intro q0), if_pos q1, putW]
        refine ⟨?_, fun k hk => by rw [setk _ k hk]; exact ⟨rfl, rfl⟩, .inr ⟨q0, ?_⟩⟩
        · rw [set1, rk1 p1, if_pos q0, rk2 (x := { x with phase := 2, from_ := (b.sn.length : Int) - 1 }) rfl]
          decide
        · have := sm { x with phase := 2, from_ := (b.sn.length : Int) - 1 }
          rw [he, show earlyW { x with phase := 2, from_ := (b.sn.length : Int) - 1 } = 0 from rfl] at this
          omega
      · simp only [if_neg p0, if_pos p1, if_neg (not_not_intro q0), if_neg q1, putW]
        refine ⟨?_, fun k hk => by rw [setk _ k hk]; exact ⟨rfl, rfl⟩, .inl ⟨.inl trivial, ?_⟩⟩
        · rw [set1, rk1 p1, if_pos q0, rk4 (x := { x with phase := 4, got := 1 }) rfl]
          decide
        · have := sm { x with phase := 4, got := 1 }
          rw [he, show earlyW { x with phase := 4, got := 1 } = 0 from rfl] at this
          omega
    · simp only [if_neg p0, if_pos p1, if_pos q0, putW]
      refine ⟨?_, fun k hk => by rw [setk _ k hk]; exact ⟨rfl, rfl⟩, .inl ⟨.inl trivial, ?_⟩⟩
      · rw [set1, rk1 p1, if_neg q0, rk5 (x := { x with phase := 5, who := b.mark }) rfl, if_pos (.inr rfl)]
        decide
      · have := sm { x with phase := 5, who := b.mark }
        rw [he, show earlyW { x with phase := 5, who := b.mark } = 1 from rfl] at this
        omega
  by_cases p25 : x.phase = 2 ∨ x.phase = 5
  · simp only [if_neg p0, if_neg p1, if_pos p25, putW]
    refine ⟨?_, fun k hk => by rw [setk _ k hk]; exact ⟨rfl, rfl⟩, .inl ⟨.inl trivial, ?_⟩⟩
    · rw [set1]
      rcases p25 with p | p
      · rw [rk2 p, rk3 (x := { x with saw := b.sn.getD (b.sn.length - 1) 0, phase := x.phase + 1 }) (by show x.phase + 1 = 3; omega)]
        decide
      · rw [rk5 p, rk6 (x := { x with saw := b.sn.getD (b.sn.length - 1) 0, phase := x.phase + 1 }) (by show x.phase + 1 = 6; omega)]
        split <;> decide
    · have := sm { x with saw := b.sn.getD (b.sn.length - 1) 0, phase := x.phase + 1 }
      have e : earlyW { x with saw := b.sn.getD (b.sn.length - 1) 0, phase := x.phase + 1 } = earlyW x := by
        rcases p25 with p | p <;> simp [earlyW, p]
      omega
  -- behind a mark that was taken away
  have fin : ∀ {c : Bo} {p : Int}, c.wants.length = b.wants.length → (c.mark = b.mark ∨ c.mark = 0) → (∀ k, (c.wants.getD k default).phase = (b.wants.getD k default).phase ∧ (c.wants.getD k default).who = (b.wants.getD k default).who) → sumW earlyW c.wants = sumW earlyW b.wants → rankW c.mark { c.wants.getD t default with phase := p, who := 0, saw := 0 } < rankW b.mark x → (if p = 2 ∨ p = 3 ∨ p = 4 then 0 else 1) ≤ earlyW x →
      rankW (putW c t { c.wants.getD t default with phase := p, who := 0, saw := 0 }).mark ((putW c t { c.wants.getD t default with phase := p, who := 0, saw := 0 }).wants.getD t default) < rankW b.mark x ∧
      (∀ k, k ≠ t → ((putW c t { c.wants.getD t default with phase := p, who := 0, saw := 0 }).wants.getD k default).phase = (b.wants.getD k default).phase ∧ ((putW c t { c.wants.getD t default with phase := p, who := 0, saw := 0 }).wants.getD k default).who = (b.wants.getD k default).who) ∧
      (((putW c t { c.wants.getD t default with phase := p, who := 0, saw := 0 }).mark = b.mark ∨ (putW c t { c.wants.getD t default with phase := p, who := 0, saw := 0 }).mark = 0) ∧ sumW earlyW (putW c t { c.wants.getD t default with phase := p, who := 0, saw := 0 }).wants ≤ sumW earlyW b.wants ∨ b.mark = 0 ∧ sumW earlyW (putW c t { c.wants.getD t default with phase := p, who := 0, saw := 0 }).wants + 1 = sumW earlyW b.wants) := fun {c p} hl hm hk hs hr he => by
    obtain ⟨u, hu⟩ : ∃ u, c.wants[t]? = some u := ⟨_, List.getElem?_eq_getElem (by omega)⟩
    have hud : c.wants.getD t default = u := by rw [List.getD_eq_getElem?_getD, hu]; rfl
    have hkt := hk t
    rw [hud] at hr hkt ⊢
    simp only [putW]
    refine ⟨by rw [getD_set, if_pos ⟨rfl, by omega⟩]; exact hr, fun k hkt => by rw [getD_set, if_neg (fun q => hkt q.1)]; exact hk k, .inl ⟨hm, ?_⟩⟩
    have s2 := sumW_set earlyW { u with phase := p, who := 0, saw := 0 } hu
    have e1 : earlyW { u with phase := p, who := 0, saw := 0 } = if p = 2 ∨ p = 3 ∨ p = 4 then 0 else 1 := rfl
    have e2 : earlyW u = earlyW x := by unfold earlyW; rw [hkt.1, hd]
    omega
  have tk : ∀ {k : Nat} {s : Int}, k < b.wants.length → (∀ j, ((takeB b k s).wants.getD j default).phase = (b.wants.getD j default).phase ∧ ((takeB b k s).wants.getD j default).who = (b.wants.getD j default).who) ∧ sumW earlyW (takeB b k s).wants = sumW earlyW b.wants := fun {k s} hk => by
    obtain ⟨z, hz⟩ : ∃ z, b.wants[k]? = some z := ⟨_, List.getElem?_eq_getElem hk⟩
    have hzd : b.wants.getD k default = z := by rw [List.getD_eq_getElem?_getD, hz]; rfl
    have e : (takeB b k s).wants = b.wants.set k { z with got := if s = z.if_ then 2 else 1 } := by unfold takeB; rw [hzd]
    rw [e]
    refine ⟨fun j => ?_, ?_⟩
    · rw [getD_set]
      split
      · rename_i q
        rw [q.1, hzd]
        exact ⟨rfl, rfl⟩
      · exact ⟨rfl, rfl⟩
    · have s2 := sumW_set earlyW { z with got := if s = z.if_ then 2 else 1 } hz
      have e1 : earlyW { z with got := if s = z.if_ then 2 else 1 } = earlyW z := rfl
      omega
  by_cases p3 : x.phase = 3
  · have r1 : rankW b.mark x = 1 := by simp [rankW, p3]
    have r0 : ∀ m (y : Want), rankW m { y with phase := 4, who := 0, saw := 0 } = 0 := fun m y => by simp [rankW]
    simp only [if_neg p0, if_neg p1, if_neg p25, if_pos p3]
    split
    · rename_i hm
      obtain ⟨k1, k2⟩ := tk (k := t) (s := x.saw) ht
      exact fin (takeB_wl ..) (.inr rfl) k1 k2 (by rw [r0, r1]; decide) (by simp)
    · exact fin rfl (.inl rfl) (fun k => ⟨rfl, rfl⟩) rfl (by rw [r0, r1]; decide) (by simp)
  have p6 : x.phase = 6 := by omega
  have e6 : earlyW x = 1 := by simp [earlyW, p6]
  simp only [if_neg p0, if_neg p1, if_neg p25, if_neg p3, if_pos p6]
  have hw1 := hwho.1 (by omega)
  split
  · rename_i hm
    obtain ⟨k1, k2⟩ := tk (k := (x.who - 1).toNat) (s := x.saw) (by omega)
    refine fin (takeB_wl ..) (.inr rfl) k1 k2 ?_ (by rw [e6]; decide)
    rw [show (takeB b (x.who - 1).toNat x.saw).mark = 0 from rfl, rk6 p6, if_pos (.inr hm), rk1 rfl, if_pos rfl]
    decide
  · rename_i hm
    refine fin rfl (.inl rfl) (fun k => ⟨rfl, rfl⟩) rfl ?_ (by rw [e6]; decide)
    rw [rk6 p6, rk1 rfl]
    by_cases q0 : b.mark = 0
    · rw [if_pos q0, if_pos (.inl q0)]
      decide
    · rw [if_neg q0, if_neg (by rintro (q | q); exact q0 q; exact hm q)]
      decide
/-- All that is kept. -/
structure GInv (b : Bo) : Prop where
  ok : bothOk b = true
  inv : BInv b
  cnt : CInv b
theorem GInv.step {b : Bo} (h : GInv b) (t : Int) : GInv (stepO b t).1 := by
  unfold stepO
  split
  · rename_i q
    exact ⟨q.2.2.2, h.inv.step h.ok (by omega), (stepB_ok h.ok h.cnt (by omega)).2⟩
  · exact h
theorem GInv.step_eq {b : Bo} (h : GInv b) {t : Nat} (ht : t < b.wants.length) (hp : (b.wants.getD t default).phase ≠ 4) : stepO b t = (stepB b t, true) := by
  unfold stepO
  rw [Int.toNat_natCast, if_pos ⟨h.ok, by omega, hp, (stepB_ok h.ok h.cnt ht).1⟩]
theorem step_done {b : Bo} {t : Nat} (hp : (b.wants.getD t default).phase = 4) : stepO b t = (b, false) := by
  unfold stepO
  rw [Int.toNat_natCast, if_neg (fun q => q.2.2.1 hp)]
theorem CInv.first {a w : Int} {l : List Want} : CInv (firstB a w l) := by
  refine ⟨?_, fun t x hx => ?_⟩
  · show 0 = sumW gotN (l.map bare)
    induction l with
    | nil => rfl
    | cons y r ih => rw [List.map_cons, sumW, ← ih]; rfl
  · rw [show (firstB a w l).wants = l.map bare from rfl, List.getElem?_map] at hx
    obtain ⟨y, _, rfl⟩ := Option.map_eq_some_iff.1 hx
    rfl
theorem CInv.set {b : Bo} (h : CInv b) (a : Int) : CInv (putS b a) := ⟨h.cnt, h.each⟩
theorem GInv.go {b : Bo} (h : GInv b) (t : Int) : GInv (goB b t) := by
  refine ⟨goB_ok h.ok t, h.inv.go h.ok t, ?_⟩
  unfold goB
  split
  · unfold setS
    split
    · exact h.cnt.set _
    · exact h.cnt
  · exact (h.step t).cnt
theorem GInv.run {b : Bo} (h : GInv b) (who : List Int) : GInv (runB b who) := by
  have : ∀ (who : List Int) {b : Bo}, GInv b → GInv (who.foldl goB b) := fun who => by
    induction who with
    | nil => exact fun h => h
    | cons t r ih => exact fun h => ih (h.go t)
  unfold runB
  split
  · exact h
  · exact this who h
/-- How far one is from its end, whatever the others do. -/
def farW (b : Bo) (k : Nat) : Nat := if (b.wants.getD k default).phase = 4 then 0 else rankW b.mark (b.wants.getD k default) + 3 * sumW earlyW b.wants
theorem rank_pos {m : Int} {x : Want} (h : x.phase ≠ 4) : 0 < rankW m x := by unfold rankW; rw [if_neg h]; (repeat' split) <;> decide
theorem farW_zero {b : Bo} {k : Nat} (h : farW b k = 0) : (b.wants.getD k default).phase = 4 := by
  unfold farW at h
  split at h
  · assumption
  · rename_i q
    have := rank_pos (m := b.mark) q
    omega
/-- One step, seen from everywhere. -/
theorem far_step {b : Bo} (h : GInv b) {t : Nat} (ht : t < b.wants.length) : (farW (stepO b t).1 t ≤ farW b t - 1) ∧ ∀ k, farW (stepO b t).1 k ≤ farW b k := by
  by_cases hp : (b.wants.getD t default).phase = 4
  · rw [step_done hp]
    have : farW b t = 0 := by unfold farW; rw [if_pos hp]
    exact ⟨by show farW b t ≤ _; omega, fun k => Nat.le_refl _⟩
  rw [h.step_eq ht hp]
  obtain ⟨x, hx⟩ : ∃ x, b.wants[t]? = some x := ⟨_, List.getElem?_eq_getElem ht⟩
  have hd : b.wants.getD t default = x := by rw [List.getD_eq_getElem?_getD, hx]; rfl
  rw [hd] at hp
  obtain ⟨s1, s2, s3⟩ := stepB_sees h.ok hx hp
  have own : farW (stepB b t) t ≤ farW b t - 1 := by
    unfold farW
    rw [hd, if_neg hp]
    split
    · omega
    · rcases s3 with ⟨_, s3⟩ | ⟨_, s3⟩ <;> omega
  refine ⟨own, fun k => ?_⟩
  by_cases hk : k = t
  · rw [hk]
    show farW (stepB b t) t ≤ _
    omega
  obtain ⟨e1, e2⟩ := s2 k hk
  show farW (stepB b t) k ≤ farW b k
  unfold farW
  rw [e1]
  split
  · exact Nat.le_refl _
  · rename_i p4
    have hr : ∀ m, rankW m ((stepB b t).wants.getD k default) = rankW m (b.wants.getD k default) := fun m => by unfold rankW; rw [e1, e2]
    rw [hr]
    generalize b.wants.getD k default = z at *
    have r0 : rankW 0 z ≤ rankW b.mark z ∧ ∀ m, rankW m z ≤ rankW 0 z + 3 := by
      by_cases g0 : z.phase = 0
      · simp [rk0 g0]
      by_cases g1 : z.phase = 1
      · exact ⟨by rw [rk1 g1, rk1 g1, if_pos rfl]; split <;> decide, fun m => by rw [rk1 g1, rk1 g1, if_pos rfl]; split <;> decide⟩
      by_cases g2 : z.phase = 2
      · simp [rk2 g2]
      by_cases g3 : z.phase = 3
      · simp [rk3 g3]
      by_cases g5 : z.phase = 5
      · exact ⟨by rw [rk5 g5, rk5 g5, if_pos (.inl rfl)]; split <;> decide, fun m => by rw [rk5 g5, rk5 (m := 0) g5, if_pos (c := (0 : Int) = 0 ∨ _) (.inl rfl)]; split <;> decide⟩
      have hu : ∀ m, rankW m z = if m = 0 ∨ m = z.who then 4 else 7 := fun m => by simp only [rankW, if_neg p4, if_neg g0, if_neg g1, if_neg g2, if_neg g3, if_neg g5]
      exact ⟨by rw [hu, hu, if_pos (.inl rfl)]; split <;> decide, fun m => by rw [hu m, hu 0, if_pos (c := (0 : Int) = 0 ∨ _) (.inl rfl)]; split <;> decide⟩
    obtain ⟨r0, r3⟩ := r0
    rcases s3 with ⟨s3 | s3, s4⟩ | ⟨s3, s4⟩
    · rw [s3]; omega
    · rw [s3]; omega
    · have r3 : rankW (stepB b t).mark z ≤ rankW b.mark z + 3 := by
        rw [s3]
        exact r3 _
      omega
theorem stepO_wl (b : Bo) (t : Int) : (stepO b t).1.wants.length = b.wants.length := by
  unfold stepO
  split
  · exact stepB_wl _ _
  · rfl
theorem farW_le {b : Bo} (h : GInv b) (k : Nat) : farW b k ≤ 26 := by
  unfold farW
  have h1 := (headOk_iff.1 (bothOk_iff.1 h.ok).1).1
  have h2 := sumW_le (f := earlyW) (fun x => by unfold earlyW; split <;> decide) b.wants
  have h3 := rankW_le b.mark (b.wants.getD k default)
  split <;> omega
/-- Alone. -/
def rankB (b : Bo) (t : Nat) : Nat := rankW b.mark (b.wants.getD t default)
theorem rank_step {b : Bo} (h : GInv b) {t : Nat} (ht : t < b.wants.length) : rankB (stepO b t).1 t ≤ rankB b t - 1 := by
  by_cases hp : (b.wants.getD t default).phase = 4
  · rw [step_done hp]
    have : rankB b t = 0 := by unfold rankB rankW; rw [if_pos hp]
    show rankB b t ≤ _
    omega
  rw [h.step_eq ht hp]
  obtain ⟨x, hx⟩ : ∃ x, b.wants[t]? = some x := ⟨_, List.getElem?_eq_getElem ht⟩
  have hd : b.wants.getD t default = x := by rw [List.getD_eq_getElem?_getD, hx]; rfl
  rw [hd] at hp
  have s1 := (stepB_sees h.ok hx hp).1
  unfold rankB
  rw [hd]
  show rankW (stepB b t).mark ((stepB b t).wants.getD t default) ≤ _
  omega
theorem rankB_zero {b : Bo} {k : Nat} (h : rankB b k = 0) : (b.wants.getD k default).phase = 4 := by
  by_cases q : (b.wants.getD k default).phase = 4
  · exact q
  · have := rank_pos (m := b.mark) q
    unfold rankB at h
    omega
/-- All done: no mark lies, and each was decided once. -/
theorem GInv.ended {b : Bo} (h : GInv b) (hd : ∀ k, k < b.wants.length → (b.wants.getD k default).phase = 4) : b.mark = 0 := by
  have hh := headOk_iff.1 (bothOk_iff.1 h.ok).1
  by_cases q : b.mark = 0
  · exact q
  · have hk : (b.mark - 1).toNat < b.wants.length := by omega
    have := hd _ hk
    obtain ⟨hl, _⟩ := mark_late h.ok (List.getElem?_eq_getElem hk) (by omega)
    rw [List.getD_eq_getElem?_getD, List.getElem?_eq_getElem hk] at this
    simp only [Option.getD_some] at this
    omega
end Go.Proofs.Ytmfiegjncfgohaa.Den
