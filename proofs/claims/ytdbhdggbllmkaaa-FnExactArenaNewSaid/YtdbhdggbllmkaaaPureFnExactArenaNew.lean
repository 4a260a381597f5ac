/- The plain half of the law FnExactArenaNew: both ArenaNew make the same of every number. -/
import Derived.Test.YtdbhdggbllmkaaaPFnExactArenaNewx4
import Derived.Test.YtdbhdggbllmkaaaAid
namespace Go.Proofs.Ytdbhdggbllmkaaa.Pure
open Go.RowKit Go.Proofs.Ytdbhdggbllmkaaa.PFnExactArenaNew Go.Proofs.YtdbhdggbllmkaaaW.PrintWords Go.Proofs.YtdbhdggbllmkaaaW.PrintLast Go.Proofs.Ytdbhdggbllmkaaa.Aid
set_option linter.unusedVariables false
set_option linter.unusedSimpArgs false

/-! ### arena_ok -/
abbrev Sp := S44
def okFrom (size : Int) : Int → List Sp → Bool
  | _, [] => true
  | e, s :: r => decide (e ≤ s.f0 ∧ s.f0 ≤ size - 1 ∧ 1 ≤ s.f1 ∧ s.f1 ≤ size - s.f0) && okFrom size (s.f0 + s.f1) r
/-- What both say of an arena. -/
def arenaOk (size : Int) (l : List Sp) : Bool := decide (1 ≤ size ∧ size ≤ 64) && okFrom size 0 l
theorem from_f (a b c : Int) : impl_from.f a b c = some (decide (b ≤ a ∧ a ≤ c)) := by
  unfold impl_from.f
  split
  · congr 1; simp; omega
  · congr 1; simp; omega
theorem in_f (a b c : Int) : spec_l1In.f a b c = some (decide (b ≤ a ∧ a ≤ c)) := by
  unfold spec_l1In.f
  split
  · congr 1; simp; omega
  · congr 1; simp; omega
theorem rdS {l : List Sp} {i : Nat} {s : Sp} {r : List Sp} (h : l.drop i = s :: r) : rd_T44 l (i : Int) = s := drop_getD h

theorem impl_ok_l {size : Int} (h1 : 1 ≤ size) (h2 : size ≤ 64) {l : List Sp} (hl : l.length ≤ 9223372036854775807) : ∀ (rest : List Sp) (i : Nat) (e : Int), l.drop i = rest → 0 ≤ e →
    Ev (fun k => impl_ArenaOk.l0 k e l (l.length : Int) (i : Int) size l) (okFrom size e rest)
  | [], i, e, h, h0 => by
    have := drop_nil_len h
    refine Ev.step (fun k => rfl) ?_
    simp only [impl_ArenaOk.l0]
    exact ev_neg (by omega) (ev_now _)
  | s :: rest, i, e, h, h0 => by
    have hlt := drop_lt h
    refine Ev.step (fun k => rfl) ?_
    simp only [impl_ArenaOk.l0, rdS h, from_f, Option.bind_some, decide_eq_true_eq, if_pos (show (i : Int) < (l.length : Int) by omega), if_pos (show (0 : Int) ≤ (i : Int) by omega)]
    rw [wrap_id (x := size - 1) (by omega) (by omega)]
    by_cases c1 : e ≤ s.f0 ∧ s.f0 ≤ size - 1
    · simp only [if_pos c1]
      rw [wrap_id (x := size - s.f0) (by omega) (by omega)]
      by_cases c2 : 1 ≤ s.f1 ∧ s.f1 ≤ size - s.f0
      · simp only [if_pos c2]
        rw [wrap_id (x := s.f0 + s.f1) (by omega) (by omega), wrap_succ hlt hl]
        have := impl_ok_l h1 h2 hl rest (i + 1) (s.f0 + s.f1) (drop_next h) (by omega)
        rw [okFrom, decide_eq_true (show _ from ⟨c1.1, c1.2, c2.1, c2.2⟩), Bool.true_and]
        exact this
      · simp only [if_neg c2]
        rw [okFrom, decide_eq_false (fun hh => c2 ⟨hh.2.2.1, hh.2.2.2⟩), Bool.false_and]
        exact ev_now _
    · simp only [if_neg c1]
      rw [okFrom, decide_eq_false (fun hh => c1 ⟨hh.1, hh.2.1⟩), Bool.false_and]
      exact ev_now _

theorem impl_ok {size : Int} {l : List Sp} (hl : l.length ≤ 9223372036854775807) : Ev (fun k => impl_ArenaOk.f k size l) (arenaOk size l) := by
  unfold impl_ArenaOk.f arenaOk
  simp only [from_f, Option.bind_some, decide_eq_true_eq]
  by_cases c : 1 ≤ size ∧ size ≤ 64
  · simp only [if_pos c]
    rw [decide_eq_true c, Bool.true_and]
    exact impl_ok_l c.1 c.2 hl l 0 0 rfl (by omega)
  · simp only [if_neg c]
    rw [decide_eq_false c, Bool.false_and]
    exact ev_now _

theorem rd_prev {l : List Sp} {i : Nat} {p : Sp} (hi : 0 < i) (hl : i < 9223372036854775807) (hp : l[i - 1]? = some p) : rd_T44 l (wrap64 ((i : Int) - 1)) = p := by
  unfold rd_T44
  rw [wrap_id (by omega) (by omega), show ((i : Int) - 1).toNat = i - 1 by omega, List.getD_eq_getElem?_getD, hp]; rfl

theorem spec_ok_l {size : Int} (h1 : 1 ≤ size) (h2 : size ≤ 64) {l : List Sp} (hl : l.length ≤ 9223372036854775807) : ∀ (rest : List Sp) (i : Nat) (e : Int), l.drop i = rest → 0 ≤ e → e ≤ 64 →
    (i = 0 ∧ e = 0 ∨ 0 < i ∧ ∃ p, l[i - 1]? = some p ∧ e = p.f0 + p.f1) → Ev (fun k => spec_ArenaOk.l0 k (i : Int) size l) (okFrom size e rest)
  | [], i, e, h, h0, h64, hp => by
    have := drop_nil_len h
    refine Ev.step (fun k => rfl) ?_
    simp only [spec_ArenaOk.l0, in_f, Option.bind_some]
    refine ev_neg (by omega) ?_
    rw [decide_eq_true (show _ from ⟨h1, h2⟩)]
    exact ev_now _
  | s :: rest, i, e, h, h0, h64, hp => by
    have hlt := drop_lt h
    refine Ev.step (fun k => rfl) ?_
    simp only [spec_ArenaOk.l0, rdS h, in_f, Option.bind_some, decide_eq_true_eq, if_pos (show (i : Int) < (l.length : Int) by omega), if_pos (show (0 : Int) ≤ (i : Int) by omega)]
    rw [wrap_id (x := size - 1) (by omega) (by omega)]
    by_cases c1 : 0 ≤ s.f0 ∧ s.f0 ≤ size - 1
    · simp only [if_pos c1]
      rw [wrap_id (x := size - s.f0) (by omega) (by omega)]
      by_cases c2 : 1 ≤ s.f1 ∧ s.f1 ≤ size - s.f0
      · simp only [if_pos c2]
        have go : e ≤ s.f0 → Ev (fun k => spec_ArenaOk.l0 k (wrap64 ((i : Int) + 1)) size l) (okFrom size e (s :: rest)) := by
          intro he
          rw [okFrom, decide_eq_true (show _ from ⟨he, c1.2, c2.1, c2.2⟩), Bool.true_and, wrap_succ hlt hl]
          refine spec_ok_l h1 h2 hl rest (i + 1) (s.f0 + s.f1) (drop_next h) (by omega) (by omega) (.inr ⟨by omega, s, ?_, rfl⟩)
          rw [Nat.add_sub_cancel]; exact drop_at h
        rcases hp with ⟨rfl, rfl⟩ | ⟨hi, p, hp, rfl⟩
        · refine ev_neg (by omega) ?_
          exact go c1.1
        · rw [rd_prev hi (by omega) hp, wrap_id (x := (i : Int) - 1) (by omega) (by omega), wrap_id (x := p.f0 + p.f1) (by omega) (by omega)]
          simp only [if_pos (show (i : Int) > 0 by omega), if_pos (show (0 : Int) ≤ (i : Int) - 1 by omega), if_pos (show (i : Int) - 1 < (l.length : Int) by omega)]
          by_cases c3 : p.f0 + p.f1 > s.f0
          · simp only [if_pos c3]
            rw [okFrom, decide_eq_false (fun hh => by omega), Bool.false_and]
            exact ev_now _
          · simp only [if_neg c3]
            exact go (by omega)
      · simp only [if_neg c2]
        rw [okFrom, decide_eq_false (fun hh => c2 ⟨hh.2.2.1, hh.2.2.2⟩), Bool.false_and]
        exact ev_now _
    · simp only [if_neg c1]
      rw [okFrom, decide_eq_false (fun hh => c1 ⟨by omega, hh.2.1⟩), Bool.false_and]
      exact ev_now _

theorem spec_ok_no {size : Int} (hs : ¬ (1 ≤ size ∧ size ≤ 64)) {l : List Sp} (hl : l.length ≤ 9223372036854775807) : ∀ (rest : List Sp) (i : Nat), l.drop i = rest → Ev (fun k => spec_ArenaOk.l0 k (i : Int) size l) false
  | [], i, h => by
    have := drop_nil_len h
    refine Ev.step (fun k => rfl) ?_
    simp only [spec_ArenaOk.l0, in_f, Option.bind_some]
    refine ev_neg (by omega) ?_
    rw [decide_eq_false hs]
    exact ev_now _
  | s :: rest, i, h => by
    have hlt := drop_lt h
    have ih := spec_ok_no hs hl rest (i + 1) (drop_next h)
    refine Ev.step (fun k => rfl) ?_
    simp only [spec_ArenaOk.l0, rdS h, in_f, Option.bind_some, decide_eq_true_eq, if_pos (show (i : Int) < (l.length : Int) by omega), if_pos (show (0 : Int) ≤ (i : Int) by omega)]
    rw [wrap_succ hlt hl]
    by_cases c1 : 0 ≤ s.f0 ∧ s.f0 ≤ wrap64 (size - 1)
    · simp only [if_pos c1]
      by_cases c2 : 1 ≤ s.f1 ∧ s.f1 ≤ wrap64 (size - s.f0)
      · simp only [if_pos c2]
        by_cases hi : (i : Int) > 0
        · simp only [if_pos hi]
          rw [wrap_id (x := (i : Int) - 1) (by omega) (by omega)]
          simp only [if_pos (show (0 : Int) ≤ (i : Int) - 1 by omega), if_pos (show (i : Int) - 1 < (l.length : Int) by omega)]
          split
          · exact ev_now _
          · exact ih
        · simp only [if_neg hi]
          exact ih
      · simp only [if_neg c2]
        exact ev_now _
    · simp only [if_neg c1]
      exact ev_now _

theorem spec_ok {size : Int} {l : List Sp} (hl : l.length ≤ 9223372036854775807) : Ev (fun k => spec_ArenaOk.f k size l) (arenaOk size l) := by
  unfold spec_ArenaOk.f arenaOk
  by_cases c : 1 ≤ size ∧ size ≤ 64
  · rw [decide_eq_true c, Bool.true_and]
    exact spec_ok_l c.1 c.2 hl l 0 0 rfl (by omega) (by omega) (.inl ⟨rfl, rfl⟩)
  · rw [decide_eq_false c, Bool.false_and]
    exact spec_ok_no c hl l 0 rfl

/-! ### arena_eq -/
theorem eq_span (s : Sp) : laws_eqSpan.f s.f0 s.f1 s.f0 s.f1 = some true := by unfold laws_eqSpan.f; rw [if_pos rfl, if_pos rfl]
theorem eq_spans_l {l : List Sp} (hl : l.length ≤ 9223372036854775807) : ∀ (rest : List Sp) (i : Nat), l.drop i = rest → Ev (fun k => laws_eqSpanS.l0 k l l (i : Int)) true
  | [], i, h => by
    have := drop_nil_len h
    refine Ev.step (fun k => rfl) ?_
    simp only [laws_eqSpanS.l0]
    exact ev_neg (by omega) (ev_now _)
  | s :: rest, i, h => by
    have hlt := drop_lt h
    refine Ev.step (fun k => rfl) ?_
    simp only [laws_eqSpanS.l0, rdS h, eq_span, Option.bind_some, if_pos (show (i : Int) < (l.length : Int) by omega), if_pos (show (0 : Int) ≤ (i : Int) by omega), if_true]
    rw [wrap_succ hlt hl]
    exact eq_spans_l hl rest (i + 1) (drop_next h)
theorem eq_spans {l : List Sp} (hl : l.length ≤ 9223372036854775807) : Ev (fun k => laws_eqSpanS.f k l l) true := by
  unfold laws_eqSpanS.f
  simp only [if_true]
  exact eq_spans_l hl l 0 rfl
/-- An arena is as itself. -/
theorem eq_arena (size : Int) {l : List Sp} (hl : l.length ≤ 9223372036854775807) : Ev (fun k => laws_eqArena.f k size l size l) true := by
  unfold laws_eqArena.f
  simp only [if_true]
  refine Ev.bind (eq_spans hl) ?_
  simp only [if_true]
  exact ev_now _

/-! ### main_ArenaNew -/
/-- What a new arena is. -/
def newA (s : Int) : Int × List Sp × Bool := if 1 ≤ s ∧ s ≤ 64 then (s, [], true) else (0, [], false)
theorem arenaOk_nil (s : Int) : arenaOk s [] = decide (1 ≤ s ∧ s ≤ 64) := by simp [arenaOk, okFrom]
theorem spec_new (s : Int) : Ev (fun k => spec_ArenaNew.f k s) (newA s) := by
  unfold spec_ArenaNew.f newA
  refine Ev.bind (spec_ok (by simp)) ?_
  rw [arenaOk_nil]
  by_cases c : 1 ≤ s ∧ s ≤ 64
  · simp only [decide_eq_true c, if_pos c, if_true]; exact ev_now _
  · simp only [decide_eq_false c, if_neg c, Bool.false_eq_true, if_false]; exact ev_now _
theorem impl_new (s : Int) : Ev (fun k => impl_ArenaNew.f k s) (newA s) := by
  unfold impl_ArenaNew.f newA
  refine Ev.bind (impl_ok (by simp)) ?_
  rw [arenaOk_nil]
  by_cases c : 1 ≤ s ∧ s ≤ 64
  · simp only [decide_eq_true c, if_pos c, if_true]; exact ev_now _
  · simp only [decide_eq_false c, if_neg c, Bool.false_eq_true, if_false]; exact ev_now _
theorem new_nil (s : Int) : (newA s).2.1 = [] := by unfold newA; split <;> rfl
theorem mark_nil (s : Int) : Ev (fun k => laws_markArena.f k s [] 1) (1, []) := by
  unfold laws_markArena.f laws_markSpanS.f
  refine Ev.bind (a := (1, [])) ?_ (ev_now _)
  refine Ev.step (fun k => rfl) ?_
  simp only [laws_markSpanS.l0, List.length_nil]
  exact ev_now _
theorem held_nil (s : Int) : Ev (fun k => laws_heldArena.f k s [] 1) 1 := by
  unfold laws_heldArena.f laws_heldSpanS.f
  refine Ev.bind (a := 1) ?_ (by simp only [if_neg (show ¬ (1 : Int) < 0 by omega)]; exact ev_now _)
  refine Ev.step (fun k => rfl) ?_
  simp only [laws_heldSpanS.l0, List.length_nil]
  exact ev_now _
theorem FnExactArenaNew : laws_FnExactArenaNew.Pure := by
  intro s hs
  refine Ev.rounds (g := fun k => laws_FnExactArenaNew.f k s) ?_
  unfold laws_FnExactArenaNew.f
  refine Ev.bind (spec_new s) ?_
  refine Ev.bind (impl_new s) ?_
  have hn := new_nil s
  rcases hq : newA s with ⟨a, l, b⟩
  rw [hq] at hn
  have hn' : l = [] := hn
  subst hn'
  have heq : Ev (fun k => laws_eqArena.f k a [] a []) true := eq_arena a (l := ([] : List Sp)) (by simp)
  refine Ev.bind heq ?_
  simp only [if_true]
  refine Ev.step (fun k => rfl) ?_
  simp only [laws_FnExactArenaNew.j0, bne_self_eq_false, Bool.false_eq_true, if_false]
  refine Ev.bind (mark_nil a) ?_
  refine Ev.bind (held_nil a) ?_
  simp only [if_neg (show ¬ (1 : Int) < 0 by omega), if_true]
  refine Ev.bind (impl_new s) ?_
  rw [hq]
  refine Ev.bind heq ?_
  simp only [if_true]
  refine Ev.step (fun k => rfl) ?_
  simp only [laws_FnExactArenaNew.j1, bne_self_eq_false, Bool.false_eq_true, if_false]
  refine Ev.bind (held_nil a) ?_
  simp only [if_neg (show ¬ (1 : Int) < 0 by omega), if_true]
  exact ev_now _
end Go.Proofs.Ytdbhdggbllmkaaa.Pure
