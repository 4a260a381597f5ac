/- The plain half of the law FnExactGap: both Gap tell the same of every arena. No condition but that numbers are int64. -/
import Derived.Test.YtdbhdggbllmkaaaPFnExactGapx4
import Derived.Test.YtdbhdggbllmkaaaOpnFnExactGap
import Derived.Test.YtdbhdggbllmkaaaAid
namespace Go.Proofs.Ytdbhdggbllmkaaa.Pure
open Go.RowKit Go.Proofs.Ytdbhdggbllmkaaa.PFnExactGap Go.Proofs.YtdbhdggbllmkaaaW.PrintWords Go.Proofs.YtdbhdggbllmkaaaW.PrintLast Go.Proofs.Ytdbhdggbllmkaaa.Aid Go.Proofs.Ytdbhdggbllmkaaa.Opn Go.Proofs.Ytdbhdggbllmkaaa.Open
set_option linter.unusedVariables false
set_option linter.unusedSimpArgs false

/-! ### arena_ok -/
abbrev Sp := S44
def okFrom (size : Int) : Int → List Sp → Bool
  | _, [] => true
  | e, s :: r => decide (e ≤ s.f0 ∧ s.f0 ≤ size - 1 ∧ 1 ≤ s.f1 ∧ s.f1 ≤ size - s.f0) && okFrom size (s.f0 + s.f1) r
/-- What both say of an arena. -/
def arenaOk (size : Int) (l : List Sp) : Bool := decide (1 ≤ size ∧ size ≤ 64) && okFrom size 0 l
theorem from_f (a b c : Int) : impl_from.f a b c = some (decide (b ≤ a ∧ a ≤ c)) := by
  unfold impl_from.f
  split
  · congr 1; simp; omega
  · congr 1; simp; omega
theorem in_f (a b c : Int) : spec_l1In.f a b c = some (decide (b ≤ a ∧ a ≤ c)) := by
  unfold spec_l1In.f
  split
  · congr 1; simp; omega
  · congr 1; simp; omega
theorem rdS {l : List Sp} {i : Nat} {s : Sp} {r : List Sp} (h : l.drop i = s :: r) : rd_T44 l (i : Int) = s := drop_getD h

theorem impl_ok_l {size : Int} (h1 : 1 ≤ size) (h2 : size ≤ 64) {l : List Sp} (hl : l.length ≤ 9223372036854775807) : ∀ (rest : List Sp) (i : Nat) (e : Int), l.drop i = rest → 0 ≤ e →
    Ev (fun k => impl_ArenaOk.l0 k e l (l.length : Int) (i : Int) size l) (okFrom size e rest)
  | [], i, e, h, h0 => by
    have := drop_nil_len h
    refine Ev.step (fun k => rfl) ?_
    simp only [impl_ArenaOk.l0]
    exact ev_neg (by omega) (ev_now _)
  | s :: rest, i, e, h, h0 => by
    have hlt := drop_lt h
    refine Ev.step (fun k => rfl) ?_
    simp only [impl_ArenaOk.l0, rdS h, from_f, Option.bind_some, decide_eq_true_eq, if_pos (show (i : Int) < (l.length : Int) by omega), if_pos (show (0 : Int) ≤ (i : Int) by omega)]
    rw [wrap_id (x := size - 1) (by omega) (by omega)]
    by_cases c1 : e ≤ s.f0 ∧ s.f0 ≤ size - 1
    · simp only [if_pos c1]
      rw [wrap_id (x := size - s.f0) (by omega) (by omega)]
      by_cases c2 : 1 ≤ s.f1 ∧ s.f1 ≤ size - s.f0
      · simp only [if_pos c2]
        rw [wrap_id (x := s.f0 + s.f1) (by omega) (by omega), wrap_succ hlt hl]
        have := impl_ok_l h1 h2 hl rest (i + 1) (s.f0 + s.f1) (drop_next h) (by omega)
        rw [okFrom, decide_eq_true (show _ from ⟨c1.1, c1.2, c2.1, c2.2⟩), Bool.true_and]
        exact this
      · simp only [if_neg c2]
        rw [okFrom, decide_eq_false (fun hh => c2 ⟨hh.2.2.1, hh.2.2.2⟩), Bool.false_and]
        exact ev_now _
    · simp only [if_neg c1]
      rw [okFrom, decide_eq_false (fun hh => c1 ⟨hh.1, hh.2.1⟩), Bool.false_and]
      exact ev_now _

theorem impl_ok {size : Int} {l : List Sp} (hl : l.length ≤ 9223372036854775807) : Ev (fun k => impl_ArenaOk.f k size l) (arenaOk size l) := by
  unfold impl_ArenaOk.f arenaOk
  simp only [from_f, Option.bind_some, decide_eq_true_eq]
  by_cases c : 1 ≤ size ∧ size ≤ 64
  · simp only [if_pos c]
    rw [decide_eq_true c, Bool.true_and]
    exact impl_ok_l c.1 c.2 hl l 0 0 rfl (by omega)
  · simp only [if_neg c]
    rw [decide_eq_false c, Bool.false_and]
    exact ev_now _

theorem rd_prev {l : List Sp} {i : Nat} {p : Sp} (hi : 0 < i) (hl : i < 9223372036854775807) (hp : l[i - 1]? = some p) : rd_T44 l (wrap64 ((i : Int) - 1)) = p := by
  unfold rd_T44
  rw [wrap_id (by omega) (by omega), show ((i : Int) - 1).toNat = i - 1 by omega, List.getD_eq_getElem?_getD, hp]; rfl

theorem spec_ok_l {size : Int} (h1 : 1 ≤ size) (h2 : size ≤ 64) {l : List Sp} (hl : l.length ≤ 9223372036854775807) : ∀ (rest : List Sp) (i : Nat) (e : Int), l.drop i = rest → 0 ≤ e → e ≤ 64 →
    (i = 0 ∧ e = 0 ∨ 0 < i ∧ ∃ p, l[i - 1]? = some p ∧ e = p.f0 + p.f1) → Ev (fun k => spec_ArenaOk.l0 k (i : Int) size l) (okFrom size e rest)
  | [], i, e, h, h0, h64, hp => by
    have := drop_nil_len h
    refine Ev.step (fun k => rfl) ?_
    simp only [spec_ArenaOk.l0, in_f, Option.bind_some]
    refine ev_neg (by omega) ?_
    rw [decide_eq_true (show _ from ⟨h1, h2⟩)]
    exact ev_now _
  | s :: rest, i, e, h, h0, h64, hp => by
    have hlt := drop_lt h
    refine Ev.step (fun k => rfl) ?_
    simp only [spec_ArenaOk.l0, rdS h, in_f, Option.bind_some, decide_eq_true_eq, if_pos (show (i : Int) < (l.length : Int) by omega), if_pos (show (0 : Int) ≤ (i : Int) by omega)]
    rw [wrap_id (x := size - 1) (by omega) (by omega)]
    by_cases c1 : 0 ≤ s.f0 ∧ s.f0 ≤ size - 1
    · simp only [if_pos c1]
      rw [wrap_id (x := size - s.f0) (by omega) (by omega)]
      by_cases c2 : 1 ≤ s.f1 ∧ s.f1 ≤ size - s.f0
      · simp only [if_pos c2]
        have go : e ≤ s.f0 → Ev (fun k => spec_ArenaOk.l0 k (wrap64 ((i : Int) + 1)) size l) (okFrom size e (s :: rest)) := by
          intro he
          rw [okFrom, decide_eq_true (show _ from ⟨he, c1.2, c2.1, c2.2⟩), Bool.true_and, wrap_succ hlt hl]
          refine spec_ok_l h1 h2 hl rest (i + 1) (s.f0 + s.f1) (drop_next h) (by omega) (by omega) (.inr ⟨by omega, s, ?_, rfl⟩)
          rw [Nat.add_sub_cancel]; exact drop_at h
        rcases hp with ⟨rfl, rfl⟩ | ⟨hi, p, hp, rfl⟩
        · refine ev_neg (by omega) ?_
          exact go c1.1
        · rw [rd_prev hi (by omega) hp, wrap_id (x := (i : Int) - 1) (by omega) (by omega), wrap_id (x := p.f0 + p.f1) (by omega) (by omega)]
          simp only [if_pos (show (i : Int) > 0 by omega), if_pos (show (0 : Int) ≤ (i : Int) - 1 by omega), if_pos (show (i : Int) - 1 < (l.length : Int) by omega)]
          by_cases c3 : p.f0 + p.f1 > s.f0
          · simp only [if_pos c3]
            rw [okFrom, decide_eq_false (fun hh => by omega), Bool.false_and]
            exact ev_now _
          · simp only [if_neg c3]
            exact go (by omega)
      · simp only [if_neg c2]
        rw [okFrom, decide_eq_false (fun hh => c2 ⟨hh.2.2.1, hh.2.2.2⟩), Bool.false_and]
        exact ev_now _
    · simp only [if_neg c1]
      rw [okFrom, decide_eq_false (fun hh => c1 ⟨by omega, hh.2.1⟩), Bool.false_and]
      exact ev_now _

theorem spec_ok_no {size : Int} (hs : ¬ (1 ≤ size ∧ size ≤ 64)) {l : List Sp} (hl : l.length ≤ 9223372036854775807) : ∀ (rest : List Sp) (i : Nat), l.drop i = rest → Ev (fun k => spec_ArenaOk.l0 k (i : Int) size l) false
  | [], i, h => by
    have := drop_nil_len h
    refine Ev.step (fun k => rfl) ?_
    simp only [spec_ArenaOk.l0, in_f, Option.bind_some]
    refine ev_neg (by omega) ?_
    rw [decide_eq_false hs]
    exact ev_now _
  | s :: rest, i, h => by
    have hlt := drop_lt h
    have ih := spec_ok_no hs hl rest (i + 1) (drop_next h)
    refine Ev.step (fun k => rfl) ?_
    simp only [spec_ArenaOk.l0, rdS h, in_f, Option.bind_some, decide_eq_true_eq, if_pos (show (i : Int) < (l.length : Int) by omega), if_pos (show (0 : Int) ≤ (i : Int) by omega)]
    rw [wrap_succ hlt hl]
    by_cases c1 : 0 ≤ s.f0 ∧ s.f0 ≤ wrap64 (size - 1)
    · simp only [if_pos c1]
      by_cases c2 : 1 ≤ s.f1 ∧ s.f1 ≤ wrap64 (size - s.f0)
      · simp only [if_pos c2]
        by_cases hi : (i : Int) > 0
        · simp only [if_pos hi]
          rw [wrap_id (x := (i : Int) - 1) (by omega) (by omega)]
          simp only [if_pos (show (0 : Int) ≤ (i : Int) - 1 by omega), if_pos (show (i : Int) - 1 < (l.length : Int) by omega)]
          split
          · exact ev_now _
          · exact ih
        · simp only [if_neg hi]
          exact ih
      · simp only [if_neg c2]
        exact ev_now _
    · simp only [if_neg c1]
      exact ev_now _

theorem spec_ok {size : Int} {l : List Sp} (hl : l.length ≤ 9223372036854775807) : Ev (fun k => spec_ArenaOk.f k size l) (arenaOk size l) := by
  unfold spec_ArenaOk.f arenaOk
  by_cases c : 1 ≤ size ∧ size ≤ 64
  · rw [decide_eq_true c, Bool.true_and]
    exact spec_ok_l c.1 c.2 hl l 0 0 rfl (by omega) (by omega) (.inl ⟨rfl, rfl⟩)
  · rw [decide_eq_false c, Bool.false_and]
    exact spec_ok_no c hl l 0 rfl

/-! ### arena_eq -/
theorem eq_span (s : Sp) : laws_eqSpan.f s.f0 s.f1 s.f0 s.f1 = some true := by unfold laws_eqSpan.f; rw [if_pos rfl, if_pos rfl]
theorem eq_spans_l {l : List Sp} (hl : l.length ≤ 9223372036854775807) : ∀ (rest : List Sp) (i : Nat), l.drop i = rest → Ev (fun k => laws_eqSpanS.l0 k l l (i : Int)) true
  | [], i, h => by
    have := drop_nil_len h
    refine Ev.step (fun k => rfl) ?_
    simp only [laws_eqSpanS.l0]
    exact ev_neg (by omega) (ev_now _)
  | s :: rest, i, h => by
    have hlt := drop_lt h
    refine Ev.step (fun k => rfl) ?_
    simp only [laws_eqSpanS.l0, rdS h, eq_span, Option.bind_some, if_pos (show (i : Int) < (l.length : Int) by omega), if_pos (show (0 : Int) ≤ (i : Int) by omega), if_true]
    rw [wrap_succ hlt hl]
    exact eq_spans_l hl rest (i + 1) (drop_next h)
theorem eq_spans {l : List Sp} (hl : l.length ≤ 9223372036854775807) : Ev (fun k => laws_eqSpanS.f k l l) true := by
  unfold laws_eqSpanS.f
  simp only [if_true]
  exact eq_spans_l hl l 0 rfl
/-- An arena is as itself. -/
theorem eq_arena (size : Int) {l : List Sp} (hl : l.length ≤ 9223372036854775807) : Ev (fun k => laws_eqArena.f k size l size l) true := by
  unfold laws_eqArena.f
  simp only [if_true]
  refine Ev.bind (eq_spans hl) ?_
  simp only [if_true]
  exact ev_now _

/-! ### arena_to -/
abbrev LSp := S71
def toS (s : LSp) : Sp := ⟨s.f0, s.f1⟩
theorem rdL {l : List LSp} {i : Nat} {s : LSp} {r : List LSp} (h : l.drop i = s :: r) : rd_T71 l (i : Int) = s := drop_getD h
theorem to_spans_l {l : List LSp} (hl : l.length ≤ 9223372036854775807) : ∀ (rest : List LSp) (i : Nat), l.drop i = rest →
    Ev (fun k => laws_toSpanS.l0 k l ((l.take i).map toS ++ List.replicate rest.length z44) (i : Int)) (l.map toS)
  | [], i, h => by
    have := drop_nil_len h
    refine Ev.step (fun k => rfl) ?_
    simp only [laws_toSpanS.l0]
    refine ev_neg (by omega) ?_
    rw [List.take_of_length_le this]
    simp only [List.length_nil, List.replicate_zero, List.append_nil]
    exact ev_now _
  | s :: rest, i, h => by
    have hlt := drop_lt h
    have hlen : ((l.take i).map toS).length = i := by simp; omega
    refine Ev.step (fun k => rfl) ?_
    simp only [laws_toSpanS.l0, rdL h, laws_toSpan.f, Option.bind_some, if_pos (show (i : Int) < (l.length : Int) by omega), if_pos (show (0 : Int) ≤ (i : Int) by omega), Int.toNat_natCast, List.length_cons, List.replicate_succ]
    rw [set_mid _ _ _ _ hlen, wrap_succ hlt hl]
    refine ev_pos (by simp; omega) ?_
    have := to_spans_l hl rest (i + 1) (drop_next h)
    rw [drop_take h, List.map_append, List.append_assoc] at this
    exact this
theorem to_spans {l : List LSp} (hl : l.length ≤ 17592186044416) : Ev (fun k => laws_toSpanS.f k l) (l.map toS) := by
  unfold laws_toSpanS.f
  simp only [if_pos (show (0 : Int) ≤ (l.length : Int) by omega), Int.toNat_natCast, if_pos hl]
  have := to_spans_l (by omega) l 0 rfl
  simpa using this
/-- The argument's copy. -/
theorem to_arena (size : Int) {l : List LSp} (hl : l.length ≤ 17592186044416) : Ev (fun k => laws_toArena.f k size l) (size, l.map toS) := by
  unfold laws_toArena.f
  refine Ev.bind (to_spans hl) ?_
  exact ev_now _
/-- What is past the bound is not asked. -/
theorem sz_arena (size : Int) {l : List LSp} (hl : l.length ≤ 9223372036854775807) : laws_szArena.f size l 1048576 = some (if 1048576 < l.length then -1 else 1048576 - (l.length : Int)) := by
  unfold laws_szArena.f laws_szSpanS.f
  rw [wrap_id (by omega) (by omega)]
  by_cases h : 1048576 < l.length
  · simp only [if_pos (show 1048576 - (l.length : Int) < 0 by omega), Option.bind_some, if_pos h]
    rfl
  · simp only [if_neg (show ¬ 1048576 - (l.length : Int) < 0 by omega), Option.bind_some, if_neg h]

/-! ### arena_gaps -/
/-- All that is between, what is empty too. -/
def gI (size : Int) : Int → List Sp → List Sp
  | e, [] => [⟨e, size - e⟩]
  | e, s :: r => ⟨e, s.f0 - e⟩ :: gI size (s.f0 + s.f1) r
def pos (s : Sp) : Bool := decide (0 < s.f1)
def gS (size : Int) (e : Int) (l : List Sp) : List Sp := (gI size e l).filter pos
theorem okFrom_cons {size e : Int} {s : Sp} {r : List Sp} (h : okFrom size e (s :: r) = true) : e ≤ s.f0 ∧ s.f0 ≤ size - 1 ∧ 1 ≤ s.f1 ∧ s.f1 ≤ size - s.f0 ∧ okFrom size (s.f0 + s.f1) r = true := by
  rw [okFrom, Bool.and_eq_true, decide_eq_true_eq] at h
  exact ⟨h.1.1, h.1.2.1, h.1.2.2.1, h.1.2.2.2, h.2⟩
theorem gI_len (size : Int) : ∀ (l : List Sp) (e : Int), (gI size e l).length = l.length + 1
  | [], _ => rfl
  | s :: r, e => by rw [gI, List.length_cons, gI_len size r, List.length_cons]

theorem impl_gaps_l {size : Int} (h2 : size ≤ 64) {l : List Sp} (hl : l.length ≤ 1048576) : ∀ (rest : List Sp) (i : Nat) (e : Int) (acc : List Sp), l.drop i = rest → i ≤ l.length → 0 ≤ e → e ≤ size → okFrom size e rest = true → acc.length = i →
    Ev (fun k => impl_gaps.l0 k acc e l (l.length : Int) (i : Int) size l) (acc ++ gI size e rest)
  | [], i, e, acc, h, hi, h0, h1, ho, ha => by
    have := drop_nil_len h
    refine Ev.step (fun k => rfl) ?_
    simp only [impl_gaps.l0]
    refine ev_neg (by omega) (ev_pos (by omega) ?_)
    rw [wrap_id (x := size - e) (by omega) (by omega)]
    exact ev_now _
  | s :: rest, i, e, acc, h, hi, h0, h1, ho, ha => by
    have hlt := drop_lt h
    obtain ⟨o1, o2, o3, o4, o5⟩ := okFrom_cons ho
    refine Ev.step (fun k => rfl) ?_
    simp only [impl_gaps.l0, rdS h, if_pos (show (i : Int) < (l.length : Int) by omega), if_pos (show (0 : Int) ≤ (i : Int) by omega), if_pos (show acc.length < 8796093022208 by omega)]
    rw [wrap_id (x := s.f0 - e) (by omega) (by omega), wrap_id (x := s.f0 + s.f1) (by omega) (by omega), wrap_succ hlt (by omega)]
    have := impl_gaps_l h2 hl rest (i + 1) (s.f0 + s.f1) (acc ++ [⟨e, s.f0 - e⟩]) (drop_next h) hlt (by omega) (by omega) o5 (by simp [ha])
    rw [List.append_assoc] at this
    exact this
theorem impl_gaps_ev {size : Int} {l : List Sp} (hl : l.length ≤ 1048576) (ho : arenaOk size l = true) : Ev (fun k => impl_gaps.f k size l) (gI size 0 l) := by
  rw [arenaOk, Bool.and_eq_true, decide_eq_true_eq] at ho
  unfold impl_gaps.f
  exact impl_gaps_l ho.1.2 hl l 0 0 [] rfl (Nat.zero_le _) (by omega) (by omega) ho.2 rfl

theorem gS_nil (size e : Int) : gS size e [] = if size > e then [⟨e, size - e⟩] else [] := by
  unfold gS
  rw [gI, List.filter_cons, List.filter_nil]
  unfold pos
  by_cases h : size > e
  · rw [if_pos h, if_pos (by simp; omega)]
  · rw [if_neg h, if_neg (by simp; omega)]
theorem gS_cons (size e : Int) (s : Sp) (r : List Sp) : gS size e (s :: r) = (if s.f0 > e then [⟨e, s.f0 - e⟩] else []) ++ gS size (s.f0 + s.f1) r := by
  unfold gS
  rw [gI, List.filter_cons]
  by_cases h : s.f0 > e
  · rw [if_pos h, if_pos (by unfold pos; simp; omega)]; rfl
  · rw [if_neg h, if_neg (by unfold pos; simp; omega)]; rfl
theorem spec_gaps_l {size : Int} (h2 : size ≤ 64) {l : List Sp} (hl : l.length ≤ 1048576) : ∀ (rest : List Sp) (i : Nat) (e : Int) (acc : List Sp), l.drop i = rest → i ≤ l.length → 0 ≤ e → e ≤ size → okFrom size e rest = true → acc.length ≤ i →
    Ev (fun k => spec_l24Gaps.l0 k acc e (i : Int) size l) (acc ++ gS size e rest)
  | [], i, e, acc, h, hi, h0, h1, ho, ha => by
    have := drop_nil_len h
    have hin : i = l.length := by omega
    have fin : ∀ acc' : List Sp, Ev (fun k => spec_l24Gaps.l0 k acc' e (wrap64 ((i : Int) + 1)) size l) acc' := by
      intro acc'
      rw [wrap_id (by omega) (by omega)]
      refine Ev.step (fun k => rfl) ?_
      simp only [spec_l24Gaps.l0]
      exact ev_neg (by omega) (ev_now _)
    refine Ev.step (fun k => rfl) ?_
    simp only [spec_l24Gaps.l0]
    refine ev_pos (by omega) (ev_neg (by omega) ?_)
    refine Ev.step (fun k => rfl) ?_
    simp only [spec_l24Gaps.j1, if_neg (show ¬ (i : Int) < (l.length : Int) by omega), if_pos (show acc.length < 8796093022208 by omega), Option.bind_some, gS_nil]
    by_cases c : size > e
    · simp only [if_pos c]
      rw [wrap_id (x := size - e) (by omega) (by omega)]
      exact fin _
    · simp only [if_neg c, List.append_nil]
      exact fin _
  | s :: rest, i, e, acc, h, hi, h0, h1, ho, ha => by
    have hlt := drop_lt h
    obtain ⟨o1, o2, o3, o4, o5⟩ := okFrom_cons ho
    refine Ev.step (fun k => rfl) ?_
    simp only [spec_l24Gaps.l0, rdS h, if_pos (show (i : Int) ≤ (l.length : Int) by omega), if_pos (show (i : Int) < (l.length : Int) by omega), if_pos (show (0 : Int) ≤ (i : Int) by omega)]
    refine Ev.step (fun k => rfl) ?_
    simp only [spec_l24Gaps.j1, rdS h, if_pos (show (i : Int) < (l.length : Int) by omega), if_pos (show (0 : Int) ≤ (i : Int) by omega), if_pos (show acc.length < 8796093022208 by omega), Option.bind_some]
    rw [wrap_id (x := s.f0 - e) (by omega) (by omega), wrap_id (x := s.f0 + s.f1) (by omega) (by omega), wrap_succ hlt (by omega), gS_cons]
    by_cases c : s.f0 > e
    · simp only [if_pos c]
      have := spec_gaps_l h2 hl rest (i + 1) (s.f0 + s.f1) (acc ++ [⟨e, s.f0 - e⟩]) (drop_next h) hlt (by omega) (by omega) o5 (by simp; omega)
      rw [List.append_assoc] at this
      exact this
    · simp only [if_neg c, List.nil_append]
      exact spec_gaps_l h2 hl rest (i + 1) (s.f0 + s.f1) acc (drop_next h) hlt (by omega) (by omega) o5 (by omega)
theorem spec_gaps_ev {size : Int} {l : List Sp} (hl : l.length ≤ 1048576) (ho : arenaOk size l = true) : Ev (fun k => spec_l24Gaps.f k size l) (gS size 0 l) := by
  rw [arenaOk, Bool.and_eq_true, decide_eq_true_eq] at ho
  unfold spec_l24Gaps.f
  exact spec_gaps_l ho.1.2 hl l 0 0 [] rfl (Nat.zero_le _) (by omega) (by omega) ho.2 (Nat.zero_le _)
/-- Each gap's length lies between none and all. -/
theorem gI_range {size : Int} : ∀ (l : List Sp) (e : Int), 0 ≤ e → e ≤ size → okFrom size e l = true → ∀ g ∈ gI size e l, 0 ≤ g.f1 ∧ g.f1 ≤ size
  | [], e, h0, h1, _, g, hg => by
    rw [gI, List.mem_singleton] at hg
    subst hg
    exact ⟨by show 0 ≤ size - e; omega, by show size - e ≤ size; omega⟩
  | s :: r, e, h0, h1, ho, g, hg => by
    obtain ⟨o1, o2, o3, o4, o5⟩ := okFrom_cons ho
    rw [gI, List.mem_cons] at hg
    rcases hg with rfl | hg
    · exact ⟨by show 0 ≤ s.f0 - e; omega, by show s.f0 - e ≤ size; omega⟩
    · exact gI_range r (s.f0 + s.f1) (by omega) (by omega) o5 g hg
def sumL (l : List Sp) : Int := (l.map (·.f1)).sum
theorem sumL_cons (s : Sp) (r : List Sp) : sumL (s :: r) = s.f1 + sumL r := by simp [sumL]
/-- What is between and what is live are all. -/
theorem gI_sum {size : Int} : ∀ (l : List Sp) (e : Int), sumL (gI size e l) = size - e - sumL l
  | [], e => by simp [gI, sumL]
  | s :: r, e => by
    rw [gI, sumL_cons, gI_sum r, sumL_cons]
    show s.f0 - e + _ = _
    omega
theorem sum_pos : ∀ (l : List Sp), (∀ g ∈ l, 0 ≤ g.f1) → sumL (l.filter pos) = sumL l
  | [], _ => rfl
  | s :: r, h => by
    have ih := sum_pos r (fun g hg => h g (List.mem_cons_of_mem _ hg))
    have hs := h s List.mem_cons_self
    rw [List.filter_cons]
    by_cases c : pos s = true
    · rw [if_pos c, sumL_cons, sumL_cons, ih]
    · rw [if_neg c, sumL_cons, ih]
      unfold pos at c
      simp at c
      omega

/-! ### arena_gap -/
def gapL : Int → List Sp → Int
  | n, [] => n
  | n, s :: r => gapL (mx n s.f1) r
theorem max_f (a b : Int) : spec_l1Max.f a b = some (mx a b) := by
  unfold spec_l1Max.f mx
  by_cases h : a > b
  · rw [if_pos h, if_neg (by omega)]
  · rw [if_neg h]
    by_cases h2 : a < b
    · rw [if_pos h2]
    · rw [if_neg h2]
      congr 1
      omega
theorem gapL_pos : ∀ (l : List Sp) (n : Int), 0 ≤ n → gapL n (l.filter pos) = gapL n l
  | [], _, _ => rfl
  | s :: r, n, h => by
    rw [List.filter_cons]
    have hm : 0 ≤ mx n s.f1 := by unfold mx; split <;> omega
    by_cases c : pos s = true
    · rw [if_pos c, gapL, gapL, gapL_pos r _ hm]
    · rw [if_neg c, gapL, gapL_pos r _ h]
      unfold pos at c
      simp at c
      congr 1
      unfold mx
      rw [if_neg (by omega)]
theorem impl_gap_l {l : List Sp} (hl : l.length ≤ 9223372036854775807) : ∀ (rest : List Sp) (i : Nat) (n : Int), l.drop i = rest → Ev (fun k => impl_Gap.l0 k n l (l.length : Int) (i : Int)) (gapL n rest)
  | [], i, n, h => by
    have := drop_nil_len h
    refine Ev.step (fun k => rfl) ?_
    simp only [impl_Gap.l0]
    exact ev_neg (by omega) (ev_now _)
  | s :: rest, i, n, h => by
    have hlt := drop_lt h
    refine Ev.step (fun k => rfl) ?_
    simp only [impl_Gap.l0, rdS h, if_pos (show (i : Int) < (l.length : Int) by omega), if_pos (show (0 : Int) ≤ (i : Int) by omega)]
    rw [wrap_succ hlt hl]
    exact impl_gap_l hl rest (i + 1) _ (drop_next h)
theorem spec_gap_l {l : List Sp} (hl : l.length ≤ 9223372036854775807) : ∀ (rest : List Sp) (i : Nat) (n : Int), l.drop i = rest → Ev (fun k => spec_Gap.l0 k n l (i : Int)) (gapL n rest)
  | [], i, n, h => by
    have := drop_nil_len h
    refine Ev.step (fun k => rfl) ?_
    simp only [spec_Gap.l0]
    exact ev_neg (by omega) (ev_now _)
  | s :: rest, i, n, h => by
    have hlt := drop_lt h
    refine Ev.step (fun k => rfl) ?_
    simp only [spec_Gap.l0, rdS h, max_f, Option.bind_some, if_pos (show (i : Int) < (l.length : Int) by omega), if_pos (show (0 : Int) ≤ (i : Int) by omega)]
    rw [wrap_succ hlt hl]
    exact spec_gap_l hl rest (i + 1) _ (drop_next h)
/-- The most words beside each other that are not live. -/
def gap (size : Int) (l : List Sp) : Int := if arenaOk size l = true then gapL 0 (gI size 0 l) else 0
theorem impl_gap {size : Int} {l : List Sp} (hl : l.length ≤ 1048576) : Ev (fun k => impl_Gap.f k size l) (gap size l) := by
  unfold impl_Gap.f gap
  refine Ev.bind (impl_ok (by omega)) ?_
  by_cases c : arenaOk size l = true
  · simp only [if_pos c]
    refine Ev.bind (impl_gaps_ev hl c) ?_
    exact impl_gap_l (l := gI size 0 l) (by rw [gI_len]; omega) _ 0 0 rfl
  · simp only [if_neg c]; exact ev_now _
theorem spec_gap {size : Int} {l : List Sp} (hl : l.length ≤ 1048576) : Ev (fun k => spec_Gap.f k size l) (gap size l) := by
  unfold spec_Gap.f gap
  refine Ev.bind (spec_ok (by omega)) ?_
  by_cases c : arenaOk size l = true
  · simp only [if_pos c]
    refine Ev.bind (spec_gaps_ev hl c) ?_
    have hle : (gS size 0 l).length ≤ (gI size 0 l).length := List.length_filter_le _ _
    have := spec_gap_l (l := gS size 0 l) (by rw [gI_len] at hle; omega) (gS size 0 l) 0 0 rfl
    unfold gS at this ⊢
    rw [gapL_pos _ 0 (Int.le_refl _)] at this
    exact this
  · simp only [if_neg c]; exact ev_now _

/-! ### main_Gap -/
theorem FnExactGap (a0 : Int) (l : List LSp) (ok : WfI a0 ∧ WfL ok71 l) : ∃ k, laws_FnExactGap.f k a0 l = some true := by
  refine Ev.rounds (g := fun k => laws_FnExactGap.f k a0 l) ?_
  have hl := ok.2.1
  unfold laws_FnExactGap.f
  rw [sz_arena a0 hl]
  by_cases h : 1048576 < l.length
  · simp only [if_pos h, Option.bind_some]
    exact ev_now _
  · have hm : (l.map toS).length ≤ 1048576 := by simp; omega
    simp only [if_neg h, Option.bind_some, if_neg (show ¬ 1048576 - (l.length : Int) < 0 by omega)]
    refine Ev.bind (to_arena a0 (by omega)) ?_
    refine Ev.bind (spec_gap hm) ?_
    refine Ev.bind (to_arena a0 (by omega)) ?_
    refine Ev.bind (impl_gap hm) ?_
    simp only [if_true]
    refine Ev.bind (to_arena a0 (by omega)) ?_
    refine Ev.bind (eq_arena a0 (by omega)) ?_
    simp only [if_true]
    exact ev_now _
end Go.Proofs.Ytdbhdggbllmkaaa.Pure
