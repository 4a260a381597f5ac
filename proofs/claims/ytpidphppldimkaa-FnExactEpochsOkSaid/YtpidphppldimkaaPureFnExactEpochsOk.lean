/- The plain half of the law FnExactEpochsOk: both EpochsOk say the same of all epochs. No condition but that numbers are int64. -/
import Derived.Test.YtpidphppldimkaaPFnExactEpochsOkx7
import Derived.Test.YtpidphppldimkaaOpnFnExactEpochsOk
import Derived.Test.YtpidphppldimkaaAid
namespace Go.Proofs.Ytpidphppldimkaa.Pure
open Go.RowKit Go.Proofs.Ytpidphppldimkaa.PFnExactEpochsOk Go.Proofs.YtpidphppldimkaaW.PrintWords Go.Proofs.YtpidphppldimkaaW.PrintLast Go.Proofs.Ytpidphppldimkaa.Aid Go.Proofs.Ytpidphppldimkaa.Opn Go.Proofs.Ytpidphppldimkaa.Open
set_option linter.unusedVariables false
set_option linter.unusedSimpArgs false

/-! ### ex_Int -/
theorem rdInt {l : List Int} {i : Nat} {s : Int} {r : List Int} (h : l.drop i = s :: r) : rd l (i : Int) = s := drop_getD h
theorem rdmInt {p : List Int} {s : Int} {r : List Int} {i : Nat} (h : p.length = i) : rd (p ++ s :: r) (i : Int) = s := rdInt (r := r) (by subst h; simp)
theorem setmInt {p : List Int} {s v : Int} {r : List Int} {i : Nat} (h : p.length = i) : (p ++ s :: r).set ((i : Int).toNat) v = p ++ v :: r := by rw [Int.toNat_natCast]; exact set_mid _ _ _ _ h
theorem eqlInt {l : List Int} (hl : l.length ≤ 9223372036854775807) : ∀ (rest : List Int) (i : Nat), l.drop i = rest → Ev (fun k => laws_eqIntS.l0 k l l (i : Int)) true
  | [], i, h => by
    have := drop_nil_len h
    refine Ev.step (fun k => rfl) ?_
    simp only [laws_eqIntS.l0]
    exact ev_neg (by omega) (ev_now _)
  | s :: rest, i, h => by
    have hlt := drop_lt h
    refine Ev.step (fun k => rfl) ?_
    simp only [laws_eqIntS.l0, rdInt h,  if_pos (show (i : Int) < (l.length : Int) by omega), if_pos (show (0 : Int) ≤ (i : Int) by omega), if_true]
    rw [wrap_succ hlt hl]
    exact eqlInt hl rest (i + 1) (drop_next h)
theorem eqSInt {l : List Int} (hl : l.length ≤ 9223372036854775807) : Ev (fun k => laws_eqIntS.f k l l) true := by
  unfold laws_eqIntS.f
  simp only [if_true]
  exact eqlInt hl l 0 rfl
def to1Int (s : Int) : Int := s
theorem tolInt {l : List Int} (hl : l.length ≤ 9223372036854775807) : ∀ (rest : List Int) (i : Nat), l.drop i = rest →
    Ev (fun k => laws_toIntS.l0 k l ((l.take i).map to1Int ++ List.replicate rest.length (0 : Int)) (i : Int)) (l.map to1Int)
  | [], i, h => by
    have := drop_nil_len h
    refine Ev.step (fun k => rfl) ?_
    simp only [laws_toIntS.l0]
    refine ev_neg (by omega) ?_
    rw [List.take_of_length_le this]
    simp only [List.length_nil, List.replicate_zero, List.append_nil]
    exact ev_now _
  | s :: rest, i, h => by
    have hlt := drop_lt h
    have hlen : ((l.take i).map to1Int).length = i := by simp; omega
    refine Ev.step (fun k => rfl) ?_
    simp only [laws_toIntS.l0, rdInt h,  if_pos (show (i : Int) < (l.length : Int) by omega), if_pos (show (0 : Int) ≤ (i : Int) by omega), List.length_cons, List.replicate_succ, setmInt hlen]
    rw [wrap_succ hlt hl]
    refine ev_pos (by simp; omega) ?_
    have := tolInt hl rest (i + 1) (drop_next h)
    rw [drop_take h, List.map_append, List.append_assoc] at this
    exact this
theorem toSInt {l : List Int} (hl : l.length ≤ 1048576) : Ev (fun k => laws_toIntS.f k l) (l.map to1Int) := by
  unfold laws_toIntS.f
  simp only [if_pos (show (0 : Int) ≤ (l.length : Int) by omega), Int.toNat_natCast]
  refine ev_pos (by omega) ?_
  have := tolInt (by omega) l 0 rfl
  simpa using this
theorem szSInt {l : List Int} {a : Int} (hl : l.length ≤ 9223372036854775807) (h0 : 0 ≤ a) (h1 : a ≤ 1048576) : laws_szIntS.f l a = some (if a < (l.length : Int) then -1 else a - (l.length : Int)) := by
  unfold laws_szIntS.f
  rw [wrap_id (by omega) (by omega)]
  by_cases h : a < (l.length : Int)
  · simp only [if_pos (show a - (l.length : Int) < 0 by omega), if_pos h]
  · simp only [if_neg (show ¬ a - (l.length : Int) < 0 by omega), if_neg h]

/-! ### ex_Retired -/
theorem rdRetired {l : List S58} {i : Nat} {s : S58} {r : List S58} (h : l.drop i = s :: r) : rd_T58 l (i : Int) = s := drop_getD h
theorem rdLRetired {l : List S75} {i : Nat} {s : S75} {r : List S75} (h : l.drop i = s :: r) : rd_T75 l (i : Int) = s := drop_getD h
theorem rdmRetired {p : List S58} {s : S58} {r : List S58} {i : Nat} (h : p.length = i) : rd_T58 (p ++ s :: r) (i : Int) = s := rdRetired (r := r) (by subst h; simp)
theorem setmRetired {p : List S58} {s v : S58} {r : List S58} {i : Nat} (h : p.length = i) : (p ++ s :: r).set ((i : Int).toNat) v = p ++ v :: r := by rw [Int.toNat_natCast]; exact set_mid _ _ _ _ h
theorem eq1Retired (s : S58) : laws_eqRetired.f s.f0 s.f1 s.f0 s.f1 = some true := by unfold laws_eqRetired.f; simp
theorem eqlRetired {l : List S58} (hl : l.length ≤ 9223372036854775807) : ∀ (rest : List S58) (i : Nat), l.drop i = rest → Ev (fun k => laws_eqRetiredS.l0 k l l (i : Int)) true
  | [], i, h => by
    have := drop_nil_len h
    refine Ev.step (fun k => rfl) ?_
    simp only [laws_eqRetiredS.l0]
    exact ev_neg (by omega) (ev_now _)
  | s :: rest, i, h => by
    have hlt := drop_lt h
    refine Ev.step (fun k => rfl) ?_
    simp only [laws_eqRetiredS.l0, rdRetired h, eq1Retired, Option.bind_some, if_pos (show (i : Int) < (l.length : Int) by omega), if_pos (show (0 : Int) ≤ (i : Int) by omega), if_true]
    rw [wrap_succ hlt hl]
    exact eqlRetired hl rest (i + 1) (drop_next h)
theorem eqSRetired {l : List S58} (hl : l.length ≤ 9223372036854775807) : Ev (fun k => laws_eqRetiredS.f k l l) true := by
  unfold laws_eqRetiredS.f
  simp only [if_true]
  exact eqlRetired hl l 0 rfl
def to1Retired (s : S75) : S58 := ⟨s.f0, s.f1⟩
theorem tolRetired {l : List S75} (hl : l.length ≤ 9223372036854775807) : ∀ (rest : List S75) (i : Nat), l.drop i = rest →
    Ev (fun k => laws_toRetiredS.l0 k l ((l.take i).map to1Retired ++ List.replicate rest.length z58) (i : Int)) (l.map to1Retired)
  | [], i, h => by
    have := drop_nil_len h
    refine Ev.step (fun k => rfl) ?_
    simp only [laws_toRetiredS.l0]
    refine ev_neg (by omega) ?_
    rw [List.take_of_length_le this]
    simp only [List.length_nil, List.replicate_zero, List.append_nil]
    exact ev_now _
  | s :: rest, i, h => by
    have hlt := drop_lt h
    have hlen : ((l.take i).map to1Retired).length = i := by simp; omega
    refine Ev.step (fun k => rfl) ?_
    simp only [laws_toRetiredS.l0, rdLRetired h, laws_toRetired.f, Option.bind_some, if_pos (show (i : Int) < (l.length : Int) by omega), if_pos (show (0 : Int) ≤ (i : Int) by omega), List.length_cons, List.replicate_succ, setmRetired hlen]
    rw [wrap_succ hlt hl]
    refine ev_pos (by simp; omega) ?_
    have := tolRetired hl rest (i + 1) (drop_next h)
    rw [drop_take h, List.map_append, List.append_assoc] at this
    exact this
theorem toSRetired {l : List S75} (hl : l.length ≤ 1048576) : Ev (fun k => laws_toRetiredS.f k l) (l.map to1Retired) := by
  unfold laws_toRetiredS.f
  simp only [if_pos (show (0 : Int) ≤ (l.length : Int) by omega), Int.toNat_natCast]
  refine ev_pos (by omega) ?_
  have := tolRetired (by omega) l 0 rfl
  simpa using this
theorem szSRetired {l : List S75} {a : Int} (hl : l.length ≤ 9223372036854775807) (h0 : 0 ≤ a) (h1 : a ≤ 1048576) : laws_szRetiredS.f l a = some (if a < (l.length : Int) then -1 else a - (l.length : Int)) := by
  unfold laws_szRetiredS.f
  rw [wrap_id (by omega) (by omega)]
  by_cases h : a < (l.length : Int)
  · simp only [if_pos (show a - (l.length : Int) < 0 by omega), if_pos h]
  · simp only [if_neg (show ¬ a - (l.length : Int) < 0 by omega), if_neg h]

/-! ### ep_sp -/
abbrev Re := S58
abbrev LRe := S75
theorem in_f (a b c : Int) : spec_l1In.f a b c = some (decide (b ≤ a ∧ a ≤ c)) := by
  unfold spec_l1In.f
  split
  · congr 1; simp; omega
  · congr 1; simp; omega
theorem max_f (a b : Int) : spec_l1Max.f a b = some (if a > b then a else b) := by
  unfold spec_l1Max.f
  split <;> rfl
abbrev pinB := impl_EpochsOk.pin
abbrev lstB := impl_EpochsOk.lst
/-- No two alike: as the reference asks. -/
theorem lst_ext (now : Int) : ∀ (r s1 s2 : List Re), (∀ id, s1.any (fun y => decide (y.f0 = id)) = s2.any (fun y => decide (y.f0 = id))) → lstB now s1 r = lstB now s2 r
  | [], _, _, _ => rfl
  | x :: r, s1, s2, h => by
    show impl_EpochsOk.lst now s1 (x :: r) = impl_EpochsOk.lst now s2 (x :: r)
    rw [impl_EpochsOk.lst, impl_EpochsOk.lst, h x.f0]
    congr 2
    exact lst_ext now r _ _ (fun id => by rw [List.any_append, List.any_append, h id])
theorem sp_inner {now : Int} {pins : List Int} {l : List Re} (hl : l.length ≤ 9223372036854775807) {i : Nat} {x : Re} {rest : List Re} (hx : l.drop i = x :: rest) {res : Bool} (next : Ev (fun k => spec_EpochsOk.l1 k (wrap64 ((i : Int) + 1)) now pins l) res) :
    ∀ (d j : Nat), j + d = i → Ev (fun k => spec_EpochsOk.l2 k (i : Int) (j : Int) now pins l) (!(((l.take i).drop j).any fun y => decide (y.f0 = x.f0)) && res)
  | 0, j, hj => by
    have hlt := drop_lt hx
    refine Ev.step (fun k => rfl) ?_
    simp only [spec_EpochsOk.l2]
    refine ev_neg (by omega) ?_
    rw [List.drop_eq_nil_of_le (by simp; omega)]
    simpa using next
  | d + 1, j, hj => by
    have hlt := drop_lt hx
    have hjl : j < l.length := by omega
    have hjx : l.drop j = l[j] :: l.drop (j + 1) := List.drop_eq_getElem_cons hjl
    have htk : (l.take i).drop j = l[j] :: (l.take i).drop (j + 1) := by
      rw [List.drop_eq_getElem_cons (by simp; omega)]
      simp
    refine Ev.step (fun k => rfl) ?_
    simp only [spec_EpochsOk.l2, rdRetired hx, rdRetired hjx, if_pos (show (j : Int) < (i : Int) by omega), if_pos (show (0 : Int) ≤ (j : Int) by omega), if_pos (show (j : Int) < (l.length : Int) by omega), if_pos (show (0 : Int) ≤ (i : Int) by omega), if_pos (show (i : Int) < (l.length : Int) by omega)]
    rw [htk, List.any_cons]
    by_cases c : l[j].f0 = x.f0
    · simp only [if_pos c, decide_eq_true c, Bool.true_or, Bool.not_true, Bool.false_and]
      exact ev_now _
    · simp only [if_neg c, decide_eq_false c, Bool.false_or]
      rw [wrap_succ hjl hl]
      exact sp_inner hl hx next d (j + 1) (by omega)
theorem sp_list {now : Int} {pins : List Int} {l : List Re} (hl : l.length ≤ 9223372036854775807) : ∀ (rest : List Re) (i : Nat), l.drop i = rest → Ev (fun k => spec_EpochsOk.l1 k (i : Int) now pins l) (lstB now (l.take i) rest)
  | [], i, h => by
    have := drop_nil_len h
    refine Ev.step (fun k => rfl) ?_
    simp only [spec_EpochsOk.l1]
    exact ev_neg (by omega) (ev_now _)
  | x :: rest, i, h => by
    have hlt := drop_lt h
    have next : Ev (fun k => spec_EpochsOk.l1 k (wrap64 ((i : Int) + 1)) now pins l) (lstB now (l.take i ++ [x]) rest) := by
      have := sp_list (now := now) (pins := pins) hl rest (i + 1) (drop_next h)
      rw [wrap_succ hlt hl, ← drop_take h]
      exact this
    have inner := sp_inner hl h next i 0 (by omega)
    rw [List.drop_zero] at inner
    refine Ev.step (fun k => rfl) ?_
    simp only [spec_EpochsOk.l1, rdRetired h, in_f, Option.bind_some, if_pos (show (i : Int) < (l.length : Int) by omega), if_pos (show (0 : Int) ≤ (i : Int) by omega)]
    show Ev _ (impl_EpochsOk.lst now (l.take i) (x :: rest))
    rw [impl_EpochsOk.lst]
    by_cases c : x.f0 < 1
    · simp only [if_pos c]
      rw [decide_eq_false (fun hh => by omega), Bool.false_and]
      refine Ev.step (fun k => rfl) ?_
      simp only [spec_EpochsOk.j3, if_true]
      exact ev_now _
    · simp only [if_neg c]
      refine Ev.step (fun k => rfl) ?_
      simp only [spec_EpochsOk.j3]
      by_cases c2 : 1 ≤ x.f1 ∧ x.f1 ≤ now
      · rw [decide_eq_true c2, decide_eq_true (show _ from ⟨c2, by omega⟩), Bool.true_and]
        simp only [Bool.not_true, Bool.false_eq_true, if_false]
        exact inner
      · rw [decide_eq_false c2, decide_eq_false (fun hh => c2 hh.1), Bool.false_and]
        simp only [Bool.not_false, if_true]
        exact ev_now _
theorem sp_pins {now : Int} (h1 : 1 ≤ now) (h2 : now ≤ 1000) {pins : List Int} {l : List Re} (hp : pins.length ≤ 9223372036854775807) {res : Bool} (next : Ev (fun k => spec_EpochsOk.l1 k 0 now pins l) res) : ∀ (rest : List Int) (i : Nat), pins.drop i = rest →
    Ev (fun k => spec_EpochsOk.l0 k (i : Int) now pins l) (rest.all (pinB now) && res)
  | [], i, h => by
    have := drop_nil_len h
    refine Ev.step (fun k => rfl) ?_
    simp only [spec_EpochsOk.l0]
    refine ev_neg (by omega) ?_
    simpa using next
  | p :: rest, i, h => by
    have hlt := drop_lt h
    have ih := sp_pins h1 h2 hp next rest (i + 1) (drop_next h)
    refine Ev.step (fun k => rfl) ?_
    simp only [spec_EpochsOk.l0, rdInt h, in_f, max_f, Option.bind_some, if_pos (show (i : Int) < (pins.length : Int) by omega), if_pos (show (0 : Int) ≤ (i : Int) by omega)]
    rw [wrap_succ hlt hp, wrap_id (x := now - 1) (by omega) (by omega), List.all_cons]
    by_cases c : p = 0
    · simp only [if_pos c]
      have hz : pinB now p = true := by show impl_EpochsOk.pin now p = true; unfold impl_EpochsOk.pin; simp [c]
      rw [hz, Bool.true_and]
      exact ih
    · simp only [if_neg c]
      have hpin : pinB now p = decide ((if now - 1 > 1 then now - 1 else 1) ≤ p ∧ p ≤ now) := by
        show impl_EpochsOk.pin now p = _
        unfold impl_EpochsOk.pin
        rw [wrap_id (x := now - 1) (by omega) (by omega)]
        congr 1
        apply propext
        constructor
        · intro hh
          split <;> omega
        · intro hh
          split at hh <;> omega
      rw [hpin]
      by_cases c2 : (if now - 1 > 1 then now - 1 else 1) ≤ p ∧ p ≤ now
      · simp only [decide_eq_true c2, if_true, Bool.true_and]
        exact ih
      · simp only [decide_eq_false c2, Bool.false_eq_true, if_false, Bool.false_and]
        exact ev_now _
abbrev epOk := impl_EpochsOk.ok
/-- The reference says of epochs what the program says. -/
theorem sp_ok {now : Int} {pins : List Int} {l : List Re} (hp : pins.length ≤ 9223372036854775807) (hl : l.length ≤ 9223372036854775807) : Ev (fun k => spec_EpochsOk.f k now pins l) (epOk now pins l) := by
  unfold spec_EpochsOk.f
  show Ev _ (impl_EpochsOk.ok now pins l)
  unfold impl_EpochsOk.ok
  simp only [in_f, Option.bind_some]
  have no : Ev (fun k => spec_EpochsOk.j0 k true now pins l) false := by
    refine Ev.step (fun k => rfl) ?_
    simp only [spec_EpochsOk.j0, if_true]
    exact ev_now _
  by_cases c1 : 1 ≤ now ∧ now ≤ 1000
  · simp only [decide_eq_true c1, if_true, Bool.true_and]
    by_cases c2 : 1 ≤ (pins.length : Int) ∧ (pins.length : Int) ≤ 4
    · simp only [decide_eq_true c2, if_true]
      rw [decide_eq_true (show 1 ≤ pins.length ∧ pins.length ≤ 4 by omega), Bool.true_and]
      refine Ev.step (fun k => rfl) ?_
      simp only [spec_EpochsOk.j0, decide_eq_true_eq]
      by_cases c3 : (l.length : Int) > 30
      · simp only [if_pos c3]
        rw [decide_eq_false (show ¬ (l.length : Int) ≤ 30 by omega), Bool.and_false, Bool.and_false]
        exact ev_now _
      · simp only [if_neg c3]
        rw [decide_eq_true (show (l.length : Int) ≤ 30 by omega), Bool.and_true]
        exact sp_pins c1.1 c1.2 hp (sp_list hl l 0 rfl) pins 0 rfl
    · simp only [decide_eq_false c2, Bool.false_eq_true, if_false]
      rw [decide_eq_false (show ¬ (1 ≤ pins.length ∧ pins.length ≤ 4) by omega), Bool.false_and, Bool.and_false, Bool.and_false]
      exact no
  · simp only [decide_eq_false c1, Bool.false_eq_true, if_false, Bool.false_and, Bool.and_false]
    exact no

/-! ### ep_ex -/
theorem eq_ep (n : Int) {p : List Int} {l : List Re} (hp : p.length ≤ 9223372036854775807) (hl : l.length ≤ 9223372036854775807) : Ev (fun k => laws_eqEpochs.f k n p l n p l) true := by
  unfold laws_eqEpochs.f
  simp only [if_true]
  refine Ev.bind (eqSInt hp) ?_
  simp only [if_true]
  refine Ev.bind (eqSRetired hl) ?_
  simp only [if_true]
  exact ev_now _
theorem to_ep (n : Int) {p : List Int} {l : List LRe} (hp : p.length ≤ 1048576) (hl : l.length ≤ 1048576) : Ev (fun k => laws_toEpochs.f k n p l) (n, p.map to1Int, l.map to1Retired) := by
  unfold laws_toEpochs.f
  refine Ev.bind (toSInt hp) ?_
  refine Ev.bind (toSRetired hl) ?_
  exact ev_now _
/-- Past the bound nothing is asked; within it all is small. -/
theorem sz_ep (n : Int) {p : List Int} {l : List LRe} (hp : p.length ≤ 9223372036854775807) (hl : l.length ≤ 9223372036854775807) : ∃ q, laws_szEpochs.f n p l 1048576 = some q ∧ (q < 0 ∨ 0 ≤ q ∧ p.length ≤ 1048576 ∧ l.length ≤ 1048576) := by
  unfold laws_szEpochs.f
  rw [szSInt hp (by omega) (by omega)]
  by_cases h : (1048576 : Int) < (p.length : Int)
  · exact ⟨-1, by simp [if_pos h], .inl (by omega)⟩
  · rw [if_neg h, Option.bind_some, if_neg (by omega), szSRetired hl (by omega) (by omega)]
    by_cases h2 : (1048576 : Int) - (p.length : Int) < (l.length : Int)
    · exact ⟨-1, by simp [if_pos h2], .inl (by omega)⟩
    · exact ⟨_, by rw [if_neg h2, Option.bind_some, if_neg (by omega)], .inr ⟨by omega, by omega, by omega⟩⟩

/-! ### main_EpochsOk -/
theorem FnExactEpochsOk (a0 : Int) (p : List Int) (l : List LRe) (ok : WfI a0 ∧ WfL WfI p ∧ WfL ok75 l) : ∃ k, laws_FnExactEpochsOk.f k a0 p l = some true := by
  refine Ev.rounds (g := fun k => laws_FnExactEpochsOk.f k a0 p l) ?_
  unfold laws_FnExactEpochsOk.f
  obtain ⟨q, hq, hb⟩ := sz_ep a0 ok.2.1.1 ok.2.2.1
  rw [hq]
  simp only [Option.bind_some]
  rcases hb with hb | ⟨h0, hp, hl⟩
  · exact ev_pos hb (ev_now _)
  · refine ev_neg (by omega) ?_
    have hp' : (p.map to1Int).length ≤ 9223372036854775807 := by simp; omega
    have hl' : (l.map to1Retired).length ≤ 9223372036854775807 := by simp; omega
    refine Ev.bind (to_ep a0 hp hl) ?_
    refine Ev.bind (sp_ok hp' hl') ?_
    refine Ev.bind (to_ep a0 hp hl) ?_
    simp only [impl_EpochsOk.f, Option.bind_some, bne_self_eq_false, Bool.false_eq_true, if_false]
    refine Ev.bind (to_ep a0 hp hl) ?_
    refine Ev.bind (eq_ep a0 hp' hl') ?_
    simp only [if_true]
    exact ev_now _
end Go.Proofs.Ytpidphppldimkaa.Pure
