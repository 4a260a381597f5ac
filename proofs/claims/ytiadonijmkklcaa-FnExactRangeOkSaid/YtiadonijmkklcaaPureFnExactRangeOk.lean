/- The plain half of the law FnExactRangeOk: both RangeOk say the same of all ranges. No condition but that numbers are int64 and texts are no longer than a text can be. -/
import Derived.Test.YtiadonijmkklcaaPFnExactRangeOkx6
import Derived.Test.YtiadonijmkklcaaOpnFnExactRangeOk
import Derived.Test.YtiadonijmkklcaaAid
namespace Go.Proofs.Ytiadonijmkklcaa.Pure
open Go.RowKit Go.Proofs.Ytiadonijmkklcaa.PFnExactRangeOk Go.Proofs.YtiadonijmkklcaaW.PrintWords Go.Proofs.YtiadonijmkklcaaW.PrintLast Go.Proofs.Ytiadonijmkklcaa.Aid Go.Proofs.Ytiadonijmkklcaa.Opn Go.Proofs.Ytiadonijmkklcaa.Open
set_option linter.unusedVariables false
set_option linter.unusedSimpArgs false

/-! ### ex_Value -/
theorem rdValue {l : List S44} {i : Nat} {s : S44} {r : List S44} (h : l.drop i = s :: r) : rd_T44 l (i : Int) = s := drop_getD h
theorem rdLValue {l : List S42} {i : Nat} {s : S42} {r : List S42} (h : l.drop i = s :: r) : rd_T42 l (i : Int) = s := drop_getD h
theorem rdmValue {p : List S44} {s : S44} {r : List S44} {i : Nat} (h : p.length = i) : rd_T44 (p ++ s :: r) (i : Int) = s := rdValue (r := r) (by subst h; simp)
theorem setmValue {p : List S44} {s v : S44} {r : List S44} {i : Nat} (h : p.length = i) : (p ++ s :: r).set ((i : Int).toNat) v = p ++ v :: r := by rw [Int.toNat_natCast]; exact set_mid _ _ _ _ h
theorem eq1Value (s : S44) : laws_eqValue.f s.f0 s.f1 s.f2 s.f0 s.f1 s.f2 = some true := by unfold laws_eqValue.f; simp
theorem eqlValue {l : List S44} (hl : l.length ≤ 9223372036854775807) : ∀ (rest : List S44) (i : Nat), l.drop i = rest → Ev (fun k => laws_eqValueS.l0 k l l (i : Int)) true
  | [], i, h => by
    have := drop_nil_len h
    refine Ev.step (fun k => rfl) ?_
    simp only [laws_eqValueS.l0]
    exact ev_neg (by omega) (ev_now _)
  | s :: rest, i, h => by
    have hlt := drop_lt h
    refine Ev.step (fun k => rfl) ?_
    simp only [laws_eqValueS.l0, rdValue h, eq1Value, Option.bind_some, if_pos (show (i : Int) < (l.length : Int) by omega), if_pos (show (0 : Int) ≤ (i : Int) by omega), if_true]
    rw [wrap_succ hlt hl]
    exact eqlValue hl rest (i + 1) (drop_next h)
theorem eqSValue {l : List S44} (hl : l.length ≤ 9223372036854775807) : Ev (fun k => laws_eqValueS.f k l l) true := by
  unfold laws_eqValueS.f
  simp only [if_true]
  exact eqlValue hl l 0 rfl
def to1Value (s : S42) : S44 := ⟨s.f0, s.f1, s.f2⟩
theorem tolValue {l : List S42} (hl : l.length ≤ 9223372036854775807) : ∀ (rest : List S42) (i : Nat), l.drop i = rest →
    Ev (fun k => laws_toValueS.l0 k l ((l.take i).map to1Value ++ List.replicate rest.length z44) (i : Int)) (l.map to1Value)
  | [], i, h => by
    have := drop_nil_len h
    refine Ev.step (fun k => rfl) ?_
    simp only [laws_toValueS.l0]
    refine ev_neg (by omega) ?_
    rw [List.take_of_length_le this]
    simp only [List.length_nil, List.replicate_zero, List.append_nil]
    exact ev_now _
  | s :: rest, i, h => by
    have hlt := drop_lt h
    have hlen : ((l.take i).map to1Value).length = i := by simp; omega
    refine Ev.step (fun k => rfl) ?_
    simp only [laws_toValueS.l0, rdLValue h, laws_toValue.f, Option.bind_some, if_pos (show (i : Int) < (l.length : Int) by omega), if_pos (show (0 : Int) ≤ (i : Int) by omega), List.length_cons, List.replicate_succ, setmValue hlen]
    rw [wrap_succ hlt hl]
    refine ev_pos (by simp; omega) ?_
    have := tolValue hl rest (i + 1) (drop_next h)
    rw [drop_take h, List.map_append, List.append_assoc] at this
    exact this
theorem toSValue {l : List S42} (hl : l.length ≤ 1048576) : Ev (fun k => laws_toValueS.f k l) (l.map to1Value) := by
  unfold laws_toValueS.f
  simp only [if_pos (show (0 : Int) ≤ (l.length : Int) by omega), Int.toNat_natCast]
  refine ev_pos (by omega) ?_
  have := tolValue (by omega) l 0 rfl
  simpa using this

/-! ### ra_ex -/
abbrev Va := S44
abbrev LVa := S42
theorem szlV {l : List LVa} (hl : l.length ≤ 9223372036854775807) (ho : ∀ v ∈ l, v.f2.size ≤ maxLen) : ∀ (rest : List LVa) (i : Nat) (a : Int), l.drop i = rest → 0 ≤ a → a ≤ 1048576 →
    ∃ q, Ev (fun k => laws_szValueS.l0 k l a (i : Int)) q ∧ (q < 0 ∨ 0 ≤ q ∧ q ≤ a)
  | [], i, a, h, h0, h1 => by
    have := drop_nil_len h
    refine ⟨a, Ev.step (fun k => rfl) ?_, .inr ⟨h0, by omega⟩⟩
    simp only [laws_szValueS.l0]
    exact ev_neg (by omega) (ev_now _)
  | s :: rest, i, a, h, h0, h1 => by
    have hlt := drop_lt h
    have hs : s.f2.size ≤ 9223372036854775807 := ho s (drop_mem h)
    by_cases c : a - (s.f2.size : Int) < 0
    · refine ⟨-1, Ev.step (fun k => rfl) ?_, .inl (by omega)⟩
      simp only [laws_szValueS.l0, laws_szValue.f, rdLValue h, if_pos (show (i : Int) < (l.length : Int) by omega), if_pos (show (0 : Int) ≤ (i : Int) by omega)]
      rw [wrap_id (x := a - (s.f2.size : Int)) (by omega) (by omega)]
      simp only [if_pos c, Option.bind_some]
      exact ev_pos (by omega) (ev_now _)
    · obtain ⟨q, hq, hb⟩ := szlV hl ho rest (i + 1) (a - (s.f2.size : Int)) (drop_next h) (by omega) (by omega)
      refine ⟨q, Ev.step (fun k => rfl) ?_, hb.imp id (fun hh => ⟨hh.1, by omega⟩)⟩
      simp only [laws_szValueS.l0, laws_szValue.f, rdLValue h, if_pos (show (i : Int) < (l.length : Int) by omega), if_pos (show (0 : Int) ≤ (i : Int) by omega)]
      rw [wrap_id (x := a - (s.f2.size : Int)) (by omega) (by omega)]
      simp only [if_neg c, Option.bind_some]
      rw [wrap_succ hlt hl]
      exact hq
theorem szV {l : List LVa} (hl : l.length ≤ 9223372036854775807) (ho : ∀ v ∈ l, v.f2.size ≤ maxLen) {a : Int} (h0 : 0 ≤ a) (h1 : a ≤ 1048576) :
    ∃ q, Ev (fun k => laws_szValueS.f k l a) q ∧ (q < 0 ∨ 0 ≤ q ∧ q ≤ a ∧ (l.length : Int) ≤ a) := by
  unfold laws_szValueS.f
  rw [wrap_id (x := a - (l.length : Int)) (by omega) (by omega)]
  by_cases c : a - (l.length : Int) < 0
  · exact ⟨-1, by simp only [if_pos c]; exact ev_now _, .inl (by omega)⟩
  · obtain ⟨q, hq, hb⟩ := szlV hl ho l 0 (a - (l.length : Int)) rfl (by omega) (by omega)
    exact ⟨q, by simp only [if_neg c]; exact hq, hb.imp id (fun hh => ⟨hh.1, by omega, by omega⟩)⟩
theorem sz_ra {lo hi : List LVa} (x y z : Bool) (n : Int) (hl : lo.length ≤ 9223372036854775807) (ho : ∀ v ∈ lo, v.f2.size ≤ maxLen) (hl2 : hi.length ≤ 9223372036854775807) (ho2 : ∀ v ∈ hi, v.f2.size ≤ maxLen) :
    ∃ q, Ev (fun k => laws_szRange.f k lo hi x y z n 1048576) q ∧ (q < 0 ∨ 0 ≤ q ∧ lo.length ≤ 1048576 ∧ hi.length ≤ 1048576) := by
  obtain ⟨q, hq, hb⟩ := szV hl ho (a := 1048576) (by omega) (by omega)
  unfold laws_szRange.f
  rcases hb with hb | ⟨h0, h1, h2⟩
  · refine ⟨-1, Ev.bind hq ?_, .inl (by omega)⟩
    exact ev_pos hb (ev_now _)
  · obtain ⟨q2, hq2, hb2⟩ := szV hl2 ho2 (a := q) h0 h1
    rcases hb2 with hb2 | ⟨h3, h4, h5⟩
    · refine ⟨-1, Ev.bind hq ?_, .inl (by omega)⟩
      refine ev_neg (by omega) (Ev.bind hq2 ?_)
      exact ev_pos hb2 (ev_now _)
    · refine ⟨q2, Ev.bind hq ?_, .inr ⟨h3, by omega, by omega⟩⟩
      refine ev_neg (by omega) (Ev.bind hq2 ?_)
      exact ev_neg (by omega) (ev_now _)
theorem to_ra {lo hi : List LVa} (x y z : Bool) (n : Int) (hl : lo.length ≤ 1048576) (hh : hi.length ≤ 1048576) : Ev (fun k => laws_toRange.f k lo hi x y z n) (lo.map to1Value, hi.map to1Value, x, y, z, n) := by
  unfold laws_toRange.f
  refine Ev.bind (toSValue hl) ?_
  refine Ev.bind (toSValue hh) ?_
  exact ev_now _
theorem eq_ra {lo hi : List Va} (x y z : Bool) (n : Int) (hl : lo.length ≤ 9223372036854775807) (hh : hi.length ≤ 9223372036854775807) : Ev (fun k => laws_eqRange.f k lo hi x y z n lo hi x y z n) true := by
  unfold laws_eqRange.f
  refine Ev.bind (eqSValue hl) ?_
  simp only [if_true]
  refine Ev.bind (eqSValue hh) ?_
  simp only [if_true, bne_self_eq_false, Bool.false_eq_true, if_false]
  exact ev_now _

/-! ### ra_ok -/
theorem in_f (a b c : Int) : spec_l1In.f a b c = some (decide (b ≤ a ∧ a ≤ c)) := by
  unfold spec_l1In.f
  split
  · congr 1; simp; omega
  · congr 1; simp; omega
theorem fr_f (a b c : Int) : impl_from.f a b c = some (decide (b ≤ a ∧ a ≤ c)) := impl_TupleOk_1.from_f a b c
theorem vo_eq (a b : Int) (s : ByteArray) : spec_ValueOk.f a b s = impl_ValueOk.f a b s := by
  unfold spec_ValueOk.f impl_ValueOk.f
  simp only [in_f, fr_f]
def vOk (v : Va) : Bool := (impl_ValueOk.f v.f0 v.f1 v.f2).getD false
theorem vo_f (v : Va) : impl_ValueOk.f v.f0 v.f1 v.f2 = some (vOk v) := by
  unfold vOk
  obtain ⟨r, h⟩ := impl_TupleOk_1.tot v.f0 v.f1 v.f2
  rw [h]; rfl
def tOk (l : List Va) : Bool := l.all vOk && decide ((l.length : Int) ≤ 4)
theorem sp_tl {l : List Va} (hl : l.length ≤ 9223372036854775807) : ∀ (rest : List Va) (i : Nat), l.drop i = rest → Ev (fun k => spec_TupleOk.l0 k l (i : Int)) (rest.all vOk && decide ((l.length : Int) ≤ 4))
  | [], i, h => by
    have := drop_nil_len h
    refine Ev.step (fun k => rfl) ?_
    simp only [spec_TupleOk.l0]
    exact ev_neg (by omega) (ev_now _)
  | v :: rest, i, h => by
    have hlt := drop_lt h
    have ih := sp_tl hl rest (i + 1) (drop_next h)
    refine Ev.step (fun k => rfl) ?_
    simp only [spec_TupleOk.l0, rdValue h, vo_eq, vo_f, Option.bind_some, if_pos (show (i : Int) < (l.length : Int) by omega), if_pos (show (0 : Int) ≤ (i : Int) by omega)]
    rw [wrap_succ hlt hl, List.all_cons]
    cases vOk v with
    | true => simp only [if_true, Bool.true_and]; exact ih
    | false => simp only [Bool.false_eq_true, if_false, Bool.false_and]; exact ev_now _
theorem sp_t {l : List Va} (hl : l.length ≤ 9223372036854775807) : Ev (fun k => spec_TupleOk.f k l) (tOk l) := sp_tl hl l 0 rfl
theorem im_t (l : List Va) : impl_TupleOk.f l = some (tOk l) := by
  unfold impl_TupleOk.f tOk
  have h : l.any impl_TupleOk_1.p = !l.all vOk := by
    induction l with
    | nil => rfl
    | cons v r ih => rw [List.any_cons, List.all_cons, Bool.not_and, ih]; rfl
  simp only [impl_TupleOk_1.f, Option.bind_some, h, Bool.not_not]
  by_cases c : (l.length : Int) ≤ 4
  · rw [if_pos c, decide_eq_true c, Bool.and_true]
  · rw [if_neg c, decide_eq_false c, Bool.and_false]
def rOk (lo hi : List Va) (n : Int) : Bool := tOk lo && (tOk hi && decide (0 ≤ n ∧ n ≤ 100))
theorem sp_r {lo hi : List Va} (x y z : Bool) (n : Int) (hl : lo.length ≤ 9223372036854775807) (hh : hi.length ≤ 9223372036854775807) : Ev (fun k => spec_RangeOk.f k lo hi x y z n) (rOk lo hi n) := by
  unfold spec_RangeOk.f rOk
  refine Ev.bind (sp_t hl) ?_
  cases tOk lo with
  | false => simp only [Bool.false_eq_true, if_false, Bool.false_and]; exact ev_now _
  | true =>
    simp only [if_true, Bool.true_and]
    refine Ev.bind (sp_t hh) ?_
    cases tOk hi with
    | false => simp only [Bool.false_eq_true, if_false, Bool.false_and]; exact ev_now _
    | true =>
      simp only [if_true, Bool.true_and, in_f, Option.bind_some]
      exact ev_now _
theorem im_r (lo hi : List Va) (x y z : Bool) (n : Int) : impl_RangeOk.f lo hi x y z n = some (rOk lo hi n) := by
  unfold impl_RangeOk.f rOk
  simp only [im_t, fr_f, Option.bind_some]
  cases tOk lo <;> cases tOk hi <;> simp

/-! ### main_RangeOk -/
theorem FnExactRangeOk (lo hi : List LVa) (x y z : Bool) (n : Int) (ok : WfL ok42 lo ∧ WfL ok42 hi ∧ True ∧ True ∧ True ∧ WfI n) : ∃ k, laws_FnExactRangeOk.f k lo hi x y z n = some true := by
  refine Ev.rounds (g := fun k => laws_FnExactRangeOk.f k lo hi x y z n) ?_
  unfold laws_FnExactRangeOk.f
  obtain ⟨q, hq, hb⟩ := sz_ra x y z n ok.1.1 (fun v hv => (ok.1.2 v hv).2.2) ok.2.1.1 (fun v hv => (ok.2.1.2 v hv).2.2)
  refine Ev.bind hq ?_
  rcases hb with hb | ⟨h0, hl, hh⟩
  · exact ev_pos hb (ev_now _)
  · refine ev_neg (by omega) ?_
    have hl' : (lo.map to1Value).length ≤ 9223372036854775807 := by simp; omega
    have hh' : (hi.map to1Value).length ≤ 9223372036854775807 := by simp; omega
    refine Ev.bind (to_ra x y z n hl hh) ?_
    refine Ev.bind (sp_r x y z n hl' hh') ?_
    refine Ev.bind (to_ra x y z n hl hh) ?_
    simp only [im_r, Option.bind_some, bne_self_eq_false, Bool.false_eq_true, if_false]
    refine Ev.bind (to_ra x y z n hl hh) ?_
    refine Ev.bind (eq_ra x y z n hl' hh') ?_
    simp only [if_true]
    exact ev_now _
end Go.Proofs.Ytiadonijmkklcaa.Pure
