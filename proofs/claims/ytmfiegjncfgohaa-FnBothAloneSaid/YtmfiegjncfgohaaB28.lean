/- The plain laws of two words: steps keep what all states that are reached keep. -/
import Derived.Test.YtmfiegjncfgohaaB27
namespace Go.Proofs.Ytmfiegjncfgohaa.Den
open Go.RowKit
set_option linter.unusedSimpArgs false
set_option linter.unusedVariables false
theorem BInv.take {b : Bo} (h : BInv b) {k : Nat} {z : Want} {saw : Int} (hz : b.wants[k]? = some z) (hl : late z) (ho : z.old = b.w) (hs : seenB b k saw = true) : BInv (takeB b k saw) := by
  have hkl := (List.getElem?_eq_some_iff.1 hz).1
  have hzd : b.wants.getD k default = z := by rw [List.getD_eq_getElem?_getD, hz]; rfl
  obtain ⟨w', y, g, e⟩ : ∃ (w' : Int) (y : Bool) (g : Int), takeB b k saw = { b with w := w', mark := 0, wants := b.wants.set k { z with got := g }, evs := b.evs ++ [⟨k, y, saw⟩] } ∧ y = decide (saw = z.if_) ∧ w' = if saw = z.if_ then z.new else z.old := ⟨_, _, _, by unfold takeB; rw [hzd], rfl, rfl⟩
  obtain ⟨e, ey, ew⟩ := e
  rw [e]
  have hsame : ∀ j, sameW (b.wants.getD j default) ((b.wants.set k { z with got := g }).getD j default) ∧ (late (b.wants.getD j default) → late ((b.wants.set k { z with got := g }).getD j default)) := fun j => by
    rw [getD_set]
    split
    · rename_i q
      rw [q.1, hzd]
      exact ⟨⟨rfl, rfl, rfl, rfl⟩, fun h => h⟩
    · exact ⟨⟨rfl, rfl, rfl, rfl⟩, fun h => h⟩
  generalize hc : ({ b with w := w', mark := 0, wants := b.wants.set k { z with got := g }, evs := b.evs ++ [⟨k, y, saw⟩] } : Bo) = c
  have hcw : c.wants = b.wants.set k { z with got := g } := by rw [← hc]
  have hcs : ∃ s, c.sn = b.sn ++ s := ⟨[], by rw [← hc, List.append_nil]⟩
  have hce : c.evs = b.evs ++ [⟨k, y, saw⟩] := by rw [← hc]
  rw [← hcw] at hsame
  have hckd : c.wants.getD k default = { z with got := g } := by rw [hcw, getD_set, if_pos ⟨rfl, hkl⟩]
  have hends : endL c c.w0 b.evs = some b.w := by
    rw [show c.w0 = b.w0 by rw [← hc]]
    exact endL_keep hcs _ _ _ (fun e he hy => (hsame _).1) h.ends
  refine ⟨?_, ?_, ?_, ?_, ?_⟩
  · rw [hce, endL_snoc, hends, Option.bind_some]
    have hk1 : endL c b.w [⟨k, y, saw⟩] = (if y = false then some b.w else if b.w = (c.wants.getD (k : Int).toNat default).old ∧ saw = (c.wants.getD (k : Int).toNat default).if_ ∧ seenB c (k : Int).toNat saw = true then some (c.wants.getD (k : Int).toNat default).new else none) := rfl
    rw [hk1, Int.toNat_natCast, hckd, show c.w = w' by rw [← hc], ew, ey]
    by_cases hy : saw = z.if_
    · rw [if_neg (by rw [decide_eq_true hy]; decide), if_pos hy, if_pos ⟨ho.symm, hy, seenB_keep hcs (hsame k).1.2.2.2 hs⟩]
    · rw [if_pos (decide_eq_false hy), if_neg hy, ho]
  · intro e he hy
    rw [hce] at he
    rcases List.mem_append.1 he with he | he
    · exact (hsame _).2 (h.told e he hy)
    · rw [List.mem_singleton.1 he]
      show late (c.wants.getD (k : Int).toNat default)
      rw [Int.toNat_natCast, hckd]
      exact hl
  all_goals
    intro t x hx
    obtain ⟨x0, hx0, hp⟩ : ∃ x0, b.wants[t]? = some x0 ∧ x.phase = x0.phase ∧ x.who = x0.who ∧ x.saw = x0.saw := by
      rw [hcw, List.getElem?_set] at hx
      split at hx
      · rename_i q
        subst q
        obtain rfl := Option.some.inj hx
        exact ⟨z, hz, rfl, rfl, rfl⟩
      · exact ⟨x, hx, rfl, rfl, rfl⟩
    simp only [hp.1, hp.2.1, hp.2.2]
    first
    | exact fun p => seenB_keep hcs (hsame _).1.2.2.2 (h.own t x0 hx0 p)
    | exact fun p => (hsame _).2 (h.helps t x0 hx0 p)
    | exact fun p => seenB_keep hcs (hsame _).1.2.2.2 (h.helped t x0 hx0 p)
theorem last_seen {b : Bo} (hn : 1 ≤ b.sn.length) {k : Nat} (hf : (b.wants.getD k default).from_ ≤ (b.sn.length : Int) - 1) : seenB b k (b.sn.getD (b.sn.length - 1) 0) = true := by
  unfold seenB
  rw [List.any_eq_true]
  refine ⟨b.sn.getD (b.sn.length - 1) 0, ?_, by simp⟩
  generalize hq : (b.wants.getD k default).from_.toNat = q
  have hq2 : q ≤ b.sn.length - 1 := by omega
  rw [List.getD_eq_getElem?_getD, List.getElem?_eq_getElem (by omega), List.mem_iff_getElem?]
  exact ⟨b.sn.length - 1 - q, by rw [List.getElem?_drop, show q + (b.sn.length - 1 - q) = b.sn.length - 1 by omega, List.getElem?_eq_getElem (by omega)]; rfl⟩
theorem mark_late {b : Bo} (ho : bothOk b = true) {k : Nat} {z : Want} (hz : b.wants[k]? = some z) (hm : b.mark = (k : Int) + 1) : (z.phase = 2 ∨ z.phase = 3) ∧ z.old = b.w := by
  have hok := wantS_at ho hz
  have hzd : b.wants.getD k default = z := by rw [List.getD_eq_getElem?_getD, hz]; rfl
  refine ⟨?_, ?_⟩
  · rw [wantS] at hok
    simp only [Bool.and_eq_true] at hok
    obtain ⟨_, _, _, _, _, _, _, _, _, h10⟩ := hok
    by_cases p : z.phase = 2 ∨ z.phase = 3
    · exact p
    · rw [if_neg p] at h10
      split at h10 <;> (simp only [Bool.and_eq_true, decide_eq_true_eq, Bool.not_eq_true', decide_eq_false_iff_not] at h10; omega)
  · simp only [bothOk, Bool.and_eq_true, lastOk, Bool.or_eq_true, decide_eq_true_eq] at ho
    rcases ho.2.2.2.2 with h | h
    · omega
    · rwa [show (b.mark - 1).toNat = k by omega, hzd] at h
theorem BInv.step {b : Bo} (h : BInv b) (ho : bothOk b = true) {t : Nat} (ht : t < b.wants.length) : BInv (stepB b t) := by
  obtain ⟨x, hx⟩ : ∃ x, b.wants[t]? = some x := ⟨_, List.getElem?_eq_getElem ht⟩
  have hd : b.wants.getD t default = x := by rw [List.getD_eq_getElem?_getD, hx]; rfl
  have hok := wantS_at ho hx
  have hh : headOk b = true := by simp only [bothOk, Bool.and_eq_true] at ho; exact ho.1
  have hh := headOk_iff.1 hh
  rw [wantS] at hok
  simp only [Bool.and_eq_true, decide_eq_true_eq, beq_iff_eq] at hok
  obtain ⟨_, _, _, _, ⟨ph0, ph1⟩, ⟨f0, f1⟩, _, hwho, _, _⟩ := hok
  have nl : ∀ {p : Int}, x.phase = p → p ≠ 2 → p ≠ 3 → p ≠ 4 → ¬ late x := fun e h2 h3 h4 hl => by
    rcases hl with hl | hl | hl <;> omega
  unfold stepB
  rw [hd]
  by_cases p0 : x.phase = 0
  · simp only [if_pos p0]
    exact h.put hx rfl rfl rfl (.inl rfl) rfl ⟨rfl, rfl, rfl⟩ (fun hl => absurd hl (nl p0 (by decide) (by decide) (by decide))) (fun q => by simp at q) (fun q => by simp at q) (fun q => by simp at q)
  by_cases p1 : x.phase = 1
  · have n1 := nl p1 (by decide) (by decide) (by decide)
    by_cases q0 : b.mark = 0
    · by_cases q1 : b.w = x.old
      · simp only [if_neg p0, if_pos p1, if_neg (not_not_intro q0), if_pos q1]
        exact h.put hx rfl rfl rfl (.inl rfl) rfl ⟨rfl, rfl, rfl⟩ (fun hl => absurd hl n1) (fun q => by simp at q) (fun q => by simp at q) (fun q => by simp at q)
      · simp only [if_neg p0, if_pos p1, if_neg (not_not_intro q0), if_neg q1]
        exact h.put hx rfl rfl rfl (.inr ⟨_, rfl, rfl⟩) rfl ⟨rfl, rfl, rfl⟩ (fun hl => absurd hl n1) (fun q => by simp at q) (fun q => by simp at q) (fun q => by simp at q)
    · simp only [if_neg p0, if_pos p1, if_pos q0]
      have hk : (b.mark - 1).toNat < b.wants.length := by omega
      obtain ⟨z, hz⟩ : ∃ z, b.wants[(b.mark - 1).toNat]? = some z := ⟨_, List.getElem?_eq_getElem hk⟩
      have hzd : b.wants.getD (b.mark - 1).toNat default = z := by rw [List.getD_eq_getElem?_getD, hz]; rfl
      obtain ⟨hl, _⟩ := mark_late ho hz (by omega)
      have hne : (b.mark - 1).toNat ≠ t := fun e => by rw [e, hx] at hz; obtain rfl := Option.some.inj hz; omega
      refine h.put hx rfl rfl rfl (.inl rfl) rfl ⟨rfl, rfl, rfl⟩ (fun hl => absurd hl n1) (fun q => by simp at q) (fun _ => ?_) (fun q => by simp at q)
      show late ((b.wants.set t _).getD (b.mark - 1).toNat default)
      rw [getD_set, if_neg (fun q => hne q.1), hzd]
      rcases hl with hl | hl
      · exact .inl hl
      · exact .inr (.inl hl)
  by_cases p25 : x.phase = 2 ∨ x.phase = 5
  · simp only [if_neg p0, if_neg p1, if_pos p25]
    rcases p25 with p2 | p5
    · refine h.put hx rfl rfl rfl (.inl rfl) rfl ⟨rfl, rfl, rfl⟩ (fun _ => ⟨rfl, .inr (.inl (by show x.phase + 1 = 3; omega))⟩) (fun _ => ?_) (fun q => by simp only at q; omega) (fun q => by simp only at q; omega)
      exact seenB_keep (b := b) ⟨[], by rw [List.append_nil]; rfl⟩ (by show ((b.wants.set t _).getD t default).from_ = _; rw [getD_set, if_pos ⟨rfl, ht⟩, hd]) (last_seen hh.2.1.1 (by rw [hd]; exact f1))
    · have hw1 : 1 ≤ x.who ∧ x.who ≤ (b.wants.length : Int) := by
        rw [decide_eq_true (show 5 ≤ x.phase by omega)] at hwho
        simpa using hwho.symm
      have hk : (x.who - 1).toNat < b.wants.length := by omega
      obtain ⟨z, hz⟩ : ∃ z, b.wants[(x.who - 1).toNat]? = some z := ⟨_, List.getElem?_eq_getElem hk⟩
      have hzd : b.wants.getD (x.who - 1).toNat default = z := by rw [List.getD_eq_getElem?_getD, hz]; rfl
      have hl := h.helps t x hx (.inl p5)
      have hne : (x.who - 1).toNat ≠ t := fun e => by
        rw [e, hd] at hl
        exact nl p5 (by decide) (by decide) (by decide) hl
      have hzok := wantS_at ho hz
      rw [wantS] at hzok
      simp only [Bool.and_eq_true, decide_eq_true_eq] at hzok
      refine h.put hx rfl rfl rfl (.inl rfl) rfl ⟨rfl, rfl, rfl⟩ (fun hl => absurd hl (nl p5 (by decide) (by decide) (by decide))) (fun q => by simp only at q; omega) (fun _ => ?_) (fun _ => ?_)
      · show late ((b.wants.set t _).getD (x.who - 1).toNat default)
        rw [getD_set, if_neg (fun q => hne q.1)]
        exact hl
      · exact seenB_keep (b := b) ⟨[], by rw [List.append_nil]; rfl⟩ (by show ((b.wants.set t _).getD (x.who - 1).toNat default).from_ = _; rw [getD_set, if_neg (fun q => hne q.1)]) (last_seen hh.2.1.1 (by rw [hzd]; exact hzok.2.2.2.2.2.1.2))
  have tk : ∀ {k : Nat} {saw : Int}, b.mark = (k : Int) + 1 → k < b.wants.length → seenB b k saw = true → BInv (takeB b k saw) := fun {k saw} hm hk hs => by
    obtain ⟨z, hz⟩ : ∃ z, b.wants[k]? = some z := ⟨_, List.getElem?_eq_getElem hk⟩
    obtain ⟨hl, hold⟩ := mark_late ho hz hm
    exact h.take hz (by rcases hl with hl | hl; exact .inl hl; exact .inr (.inl hl)) hold hs
  have pt : ∀ {c : Bo} {p : Int}, BInv c → c.wants.length = b.wants.length → (p = 4 ∨ p = 1 ∧ ¬ late (c.wants.getD t default)) → BInv (putW c t { c.wants.getD t default with phase := p, who := 0, saw := 0 }) := fun {c p} hc hl hp => by
    obtain ⟨u, hu⟩ : ∃ u, c.wants[t]? = some u := ⟨_, List.getElem?_eq_getElem (by omega)⟩
    have hud : c.wants.getD t default = u := by rw [List.getD_eq_getElem?_getD, hu]; rfl
    rw [hud] at hp ⊢
    refine hc.put hu rfl rfl rfl (.inl rfl) rfl ⟨rfl, rfl, rfl⟩ (fun hl => ?_) (fun q => by simp only at q; omega) (fun q => by simp only at q; omega) (fun q => by simp only at q; omega)
    rcases hp with hp | ⟨_, hp⟩
    · exact ⟨rfl, .inr (.inr hp)⟩
    · exact absurd hl hp
  by_cases p3 : x.phase = 3
  · simp only [if_neg p0, if_neg p1, if_neg p25, if_pos p3]
    split
    · rename_i hm
      exact pt (tk hm ht (h.own t x hx p3)) (takeB_wl ..) (.inl rfl)
    · exact pt h rfl (.inl rfl)
  by_cases p6 : x.phase = 6
  · simp only [if_neg p0, if_neg p1, if_neg p25, if_neg p3, if_pos p6]
    have n6 := nl p6 (by decide) (by decide) (by decide)
    split
    · rename_i hm
      have hw1 : 1 ≤ x.who ∧ x.who ≤ (b.wants.length : Int) := by
        rw [decide_eq_true (show 5 ≤ x.phase by omega)] at hwho
        simpa using hwho.symm
      have hl := h.helps t x hx (.inr p6)
      have hne : (x.who - 1).toNat ≠ t := fun e => by
        rw [e, hd] at hl
        exact n6 hl
      refine pt (tk (by omega) (by omega) (h.helped t x hx p6)) (takeB_wl ..) (.inr ⟨rfl, ?_⟩)
      show ¬ late ((b.wants.set _ _).getD t default)
      rw [getD_set, if_neg (fun q => hne q.1.symm), hd]
      exact n6
    · exact pt h rfl (.inr ⟨rfl, by rw [hd]; exact n6⟩)
  · simp only [if_neg p0, if_neg p1, if_neg p25, if_neg p3, if_neg p6]
    exact h
theorem BInv.grow {b : Bo} (h : BInv b) (a : Int) : BInv (putS b a) := by
  have hs : ∃ s, (putS b a).sn = b.sn ++ s := ⟨[a], rfl⟩
  exact ⟨endL_keep hs _ _ _ (fun _ _ _ => ⟨rfl, rfl, rfl, rfl⟩) h.ends, h.told, fun t x hx p => seenB_keep hs rfl (h.own t x hx p), h.helps, fun t x hx p => seenB_keep hs rfl (h.helped t x hx p)⟩
theorem BInv.go {b : Bo} (h : BInv b) (ho : bothOk b = true) (t : Int) : BInv (goB b t) := by
  unfold goB setS stepO
  split
  · split
    · exact h.grow _
    · exact h
  · split
    · rename_i q
      exact h.step ho (by omega)
    · exact h
theorem BInv.run {b : Bo} (h : BInv b) (ho : bothOk b = true) (who : List Int) : BInv (runB b who) := by
  have : ∀ (who : List Int) {b : Bo}, BInv b → bothOk b = true → BInv (who.foldl goB b) := fun who => by
    induction who with
    | nil => exact fun h _ => h
    | cons t r ih => exact fun h ho => ih (h.go ho t) (goB_ok ho t)
  unfold runB
  split
  · exact h
  · exact this who h ho
theorem BInv.first {a w : Int} {l : List Want} : BInv (firstB a w l) := by
  have hph : ∀ (t : Nat) (x : Want), (firstB a w l).wants[t]? = some x → x.phase = 0 := fun t x hx => by
    rw [show (firstB a w l).wants = l.map bare from rfl, List.getElem?_map] at hx
    obtain ⟨y, _, rfl⟩ := Option.map_eq_some_iff.1 hx
    rfl
  exact ⟨rfl, fun e he => (by cases he), fun t x hx p => by rw [hph t x hx] at p; exact absurd p (by decide), fun t x hx p => by rw [hph t x hx] at p; exact absurd p (by decide), fun t x hx p => by rw [hph t x hx] at p; exact absurd p (by decide)⟩
end Go.Proofs.Ytmfiegjncfgohaa.Den
