/- The plain law of FnBothNever: where A is never what any of them asks for, W stays. -/
import Derived.Test.YtgpeboajnhlfnaaB28
namespace Go.Proofs.Ytgpeboajnhlfnaa.Den
open Go.RowKit
set_option linter.unusedSimpArgs false
set_option linter.unusedVariables false
def offB (a : Int) : Prop := a ≤ 2 ∨ a = 9
structure NInv (w : Int) (b : Bo) : Prop where
  sn : ∀ a ∈ b.sn, offB a
  ifs : ∀ x ∈ b.wants, 3 ≤ x.if_ ∧ x.if_ ≤ 5
  saw : ∀ x ∈ b.wants, x.phase = 3 ∨ x.phase = 6 → offB x.saw
  no : ∀ e ∈ b.evs, e.yes = false
  w : b.w = w
theorem NInv.put {w : Int} {b b' : Bo} (h : NInv w b) {t : Nat} {y : Want} (hsn : b'.sn = b.sn) (hw : b'.w = b.w) (hev : b'.evs = b.evs ∨ ∃ e, b'.evs = b.evs ++ [e] ∧ e.yes = false) (hws : b'.wants = b.wants.set t y) (hi : 3 ≤ y.if_ ∧ y.if_ ≤ 5) (hs : y.phase = 3 ∨ y.phase = 6 → offB y.saw) : NInv w b' := by
  have hm : ∀ x ∈ b'.wants, x ∈ b.wants ∨ x = y := fun x hx => by rw [hws] at hx; exact List.mem_or_eq_of_mem_set hx
  refine ⟨by rw [hsn]; exact h.sn, fun x hx => ?_, fun x hx p => ?_, ?_, by rw [hw]; exact h.w⟩
  · rcases hm x hx with q | rfl
    · exact h.ifs x q
    · exact hi
  · rcases hm x hx with q | rfl
    · exact h.saw x q p
    · exact hs p
  · rcases hev with hev | ⟨e, hev, hy⟩
    · rw [hev]; exact h.no
    · rw [hev]
      intro e' he
      rcases List.mem_append.1 he with he | he
      · exact h.no e' he
      · rw [List.mem_singleton.1 he]; exact hy
theorem NInv.take {w : Int} {b : Bo} (h : NInv w b) (ho : bothOk b = true) {k : Nat} {saw : Int} (hk : k < b.wants.length) (hm : b.mark = (k : Int) + 1) (hs : offB saw) : NInv w (takeB b k saw) := by
  obtain ⟨z, hz⟩ : ∃ z, b.wants[k]? = some z := ⟨_, List.getElem?_eq_getElem hk⟩
  have hzd : b.wants.getD k default = z := by rw [List.getD_eq_getElem?_getD, hz]; rfl
  have hzm : z ∈ b.wants := List.mem_of_getElem? hz
  obtain ⟨_, hold⟩ := mark_late ho hz hm
  have hif := h.ifs z hzm
  have hne : ¬ saw = z.if_ := fun e => by rcases hs with hs | hs <;> omega
  have e : takeB b k saw = { b with w := z.old, mark := 0, wants := b.wants.set k { z with got := 1 }, evs := b.evs ++ [⟨k, false, saw⟩] } := by
    unfold takeB
    rw [hzd]
    simp only [if_neg hne, decide_eq_false hne]
  rw [e]
  exact h.put rfl hold (.inr ⟨_, rfl, rfl⟩) rfl hif (fun p => h.saw z hzm p)
theorem NInv.step {w : Int} {b : Bo} (h : NInv w b) (ho : bothOk b = true) {t : Nat} (ht : t < b.wants.length) : NInv w (stepB b t) := by
  obtain ⟨x, hx⟩ : ∃ x, b.wants[t]? = some x := ⟨_, List.getElem?_eq_getElem ht⟩
  have hd : b.wants.getD t default = x := by rw [List.getD_eq_getElem?_getD, hx]; rfl
  have hxm : x ∈ b.wants := List.mem_of_getElem? hx
  have hif := h.ifs x hxm
  have hh : headOk b = true := by simp only [bothOk, Bool.and_eq_true] at ho; exact ho.1
  have hh := headOk_iff.1 hh
  have hok := wantS_at ho hx
  rw [wantS] at hok
  simp only [Bool.and_eq_true, decide_eq_true_eq, beq_iff_eq] at hok
  obtain ⟨_, _, _, _, ⟨ph0, ph1⟩, _, _, hwho, _, _⟩ := hok
  have pt : ∀ {c : Bo} {p : Int}, NInv w c → t < c.wants.length → ¬ (p = 3 ∨ p = 6) → NInv w (putW c t { c.wants.getD t default with phase := p, who := 0, saw := 0 }) := fun {c p} hc hl hp => by
    obtain ⟨u, hu⟩ : ∃ u, c.wants[t]? = some u := ⟨_, List.getElem?_eq_getElem hl⟩
    have hud : c.wants.getD t default = u := by rw [List.getD_eq_getElem?_getD, hu]; rfl
    rw [hud]
    exact hc.put rfl rfl (.inl rfl) rfl (hc.ifs u (List.mem_of_getElem? hu)) (fun q => absurd q hp)
  unfold stepB
  rw [hd]
  by_cases p0 : x.phase = 0
  · simp only [if_pos p0]
    exact h.put rfl rfl (.inl rfl) rfl hif (fun q => by simp at q)
  by_cases p1 : x.phase = 1
  · by_cases q0 : b.mark = 0
    · by_cases q1 : b.w = x.old
      · simp only [if_neg p0, if_pos p1, if_neg (not_not_intro q0), if_pos q1]
        exact h.put rfl rfl (.inl rfl) rfl hif (fun q => by simp at q)
      · simp only [if_neg p0, if_pos p1, if_neg (not_not_intro q0), if_neg q1]
        exact h.put rfl rfl (.inr ⟨_, rfl, rfl⟩) rfl hif (fun q => by simp at q)
    · simp only [if_neg p0, if_pos p1, if_pos q0]
      exact h.put rfl rfl (.inl rfl) rfl hif (fun q => by simp at q)
  by_cases p25 : x.phase = 2 ∨ x.phase = 5
  · simp only [if_neg p0, if_neg p1, if_pos p25]
    refine h.put rfl rfl (.inl rfl) rfl hif (fun _ => h.sn _ ?_)
    rw [List.getD_eq_getElem?_getD, List.getElem?_eq_getElem (by omega)]
    exact List.getElem_mem _
  by_cases p3 : x.phase = 3
  · simp only [if_neg p0, if_neg p1, if_neg p25, if_pos p3]
    split
    · rename_i hm
      exact pt (h.take ho ht hm (h.saw x hxm (.inl p3))) (by rw [takeB_wl]; exact ht) (by decide)
    · exact pt h ht (by decide)
  by_cases p6 : x.phase = 6
  · simp only [if_neg p0, if_neg p1, if_neg p25, if_neg p3, if_pos p6]
    split
    · rename_i hm
      have hw1 : 1 ≤ x.who ∧ x.who ≤ (b.wants.length : Int) := by
        rw [decide_eq_true (show 5 ≤ x.phase by omega)] at hwho
        simpa using hwho.symm
      exact pt (h.take ho (by omega) (by omega) (h.saw x hxm (.inr p6))) (by rw [takeB_wl]; exact ht) (by decide)
    · exact pt h ht (by decide)
  · simp only [if_neg p0, if_neg p1, if_neg p25, if_neg p3, if_neg p6]
    exact h
theorem NInv.go {w : Int} {b : Bo} (h : NInv w b) (ho : bothOk b = true) {n t : Int} (ht : drawnP n t) : NInv w (goB b t) := by
  unfold goB setS stepO
  split
  · rename_i hneg
    split
    · refine ⟨fun a ha => ?_, h.ifs, h.saw, h.no, h.w⟩
      rcases List.mem_append.1 ha with ha | ha
      · exact h.sn a ha
      · rw [List.mem_singleton.1 ha]
        rcases ht with ht | ht
        · exact .inl (by omega)
        · omega
    · exact h
  · split
    · rename_i q
      exact h.step ho (by omega)
    · exact h
theorem NInv.run {w : Int} {b : Bo} (h : NInv w b) (ho : bothOk b = true) {n : Int} {who : List Int} (hp : ∀ t ∈ who, drawnP n t) : NInv w (runB b who) := by
  have : ∀ (who : List Int) {b : Bo}, (∀ t ∈ who, drawnP n t) → NInv w b → bothOk b = true → NInv w (who.foldl goB b) := fun who => by
    induction who with
    | nil => exact fun _ h _ => h
    | cons t r ih => exact fun hp h ho => ih (fun t ht => hp t (List.mem_cons_of_mem _ ht)) (h.go ho (hp t List.mem_cons_self)) (goB_ok ho t)
  unfold runB
  split
  · exact h
  · exact this who hp h ho
theorem NInv.first {w : Int} {l : List Want} (hl : ∀ x ∈ l, 3 ≤ x.if_ ∧ x.if_ ≤ 5) : NInv w (firstB 9 w l) := by
  refine ⟨fun a ha => .inr (List.mem_singleton.1 ha), fun x hx => ?_, fun x hx p => ?_, fun e he => (by cases he), rfl⟩
  · obtain ⟨y, hy, rfl⟩ := List.mem_map.1 hx
    exact hl y hy
  · obtain ⟨y, hy, rfl⟩ := List.mem_map.1 hx
    rcases p with p | p <;> exact absurd p (by simp [bare])
end Go.Proofs.Ytgpeboajnhlfnaa.Den
