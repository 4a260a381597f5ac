/- The plain half of the law FnExactEpochsNew: both EpochsNew make the same of every number. No condition. -/
import Derived.Test.YtpidphppldimkaaPFnExactEpochsNewx5
import Derived.Test.YtpidphppldimkaaAid
namespace Go.Proofs.Ytpidphppldimkaa.Pure
open Go.RowKit Go.Proofs.Ytpidphppldimkaa.PFnExactEpochsNew Go.Proofs.YtpidphppldimkaaW.PrintWords Go.Proofs.YtpidphppldimkaaW.PrintLast Go.Proofs.Ytpidphppldimkaa.Aid
set_option linter.unusedVariables false
set_option linter.unusedSimpArgs false

/-! ### exe_Int -/
theorem rdInt {l : List Int} {i : Nat} {s : Int} {r : List Int} (h : l.drop i = s :: r) : rd l (i : Int) = s := drop_getD h
theorem rdmInt {p : List Int} {s : Int} {r : List Int} {i : Nat} (h : p.length = i) : rd (p ++ s :: r) (i : Int) = s := rdInt (r := r) (by subst h; simp)
theorem setmInt {p : List Int} {s v : Int} {r : List Int} {i : Nat} (h : p.length = i) : (p ++ s :: r).set ((i : Int).toNat) v = p ++ v :: r := by rw [Int.toNat_natCast]; exact set_mid _ _ _ _ h
theorem eqlInt {l : List Int} (hl : l.length ≤ 9223372036854775807) : ∀ (rest : List Int) (i : Nat), l.drop i = rest → Ev (fun k => laws_eqIntS.l0 k l l (i : Int)) true
  | [], i, h => by
    have := drop_nil_len h
    refine Ev.step (fun k => rfl) ?_
    simp only [laws_eqIntS.l0]
    exact ev_neg (by omega) (ev_now _)
  | s :: rest, i, h => by
    have hlt := drop_lt h
    refine Ev.step (fun k => rfl) ?_
    simp only [laws_eqIntS.l0, rdInt h,  if_pos (show (i : Int) < (l.length : Int) by omega), if_pos (show (0 : Int) ≤ (i : Int) by omega), if_true]
    rw [wrap_succ hlt hl]
    exact eqlInt hl rest (i + 1) (drop_next h)
theorem eqSInt {l : List Int} (hl : l.length ≤ 9223372036854775807) : Ev (fun k => laws_eqIntS.f k l l) true := by
  unfold laws_eqIntS.f
  simp only [if_true]
  exact eqlInt hl l 0 rfl

/-! ### exe_Retired -/
theorem rdRetired {l : List S58} {i : Nat} {s : S58} {r : List S58} (h : l.drop i = s :: r) : rd_T58 l (i : Int) = s := drop_getD h
theorem rdmRetired {p : List S58} {s : S58} {r : List S58} {i : Nat} (h : p.length = i) : rd_T58 (p ++ s :: r) (i : Int) = s := rdRetired (r := r) (by subst h; simp)
theorem setmRetired {p : List S58} {s v : S58} {r : List S58} {i : Nat} (h : p.length = i) : (p ++ s :: r).set ((i : Int).toNat) v = p ++ v :: r := by rw [Int.toNat_natCast]; exact set_mid _ _ _ _ h
theorem eq1Retired (s : S58) : laws_eqRetired.f s.f0 s.f1 s.f0 s.f1 = some true := by unfold laws_eqRetired.f; simp
theorem eqlRetired {l : List S58} (hl : l.length ≤ 9223372036854775807) : ∀ (rest : List S58) (i : Nat), l.drop i = rest → Ev (fun k => laws_eqRetiredS.l0 k l l (i : Int)) true
  | [], i, h => by
    have := drop_nil_len h
    refine Ev.step (fun k => rfl) ?_
    simp only [laws_eqRetiredS.l0]
    exact ev_neg (by omega) (ev_now _)
  | s :: rest, i, h => by
    have hlt := drop_lt h
    refine Ev.step (fun k => rfl) ?_
    simp only [laws_eqRetiredS.l0, rdRetired h, eq1Retired, Option.bind_some, if_pos (show (i : Int) < (l.length : Int) by omega), if_pos (show (0 : Int) ≤ (i : Int) by omega), if_true]
    rw [wrap_succ hlt hl]
    exact eqlRetired hl rest (i + 1) (drop_next h)
theorem eqSRetired {l : List S58} (hl : l.length ≤ 9223372036854775807) : Ev (fun k => laws_eqRetiredS.f k l l) true := by
  unfold laws_eqRetiredS.f
  simp only [if_true]
  exact eqlRetired hl l 0 rfl

/-! ### exm_Int -/
def markLInt : Int → List Int → List Int
  | _, [] => []
  | k, _ :: r => k :: markLInt (k + 1) r
theorem markL_lenInt : ∀ (l : List Int) (k : Int), (markLInt k l).length = l.length
  | [], _ => rfl
  | s :: r, k => by rw [markLInt, List.length_cons, markL_lenInt r, List.length_cons]
theorem marklInt : ∀ (rest pre : List Int) (i : Nat) (k : Int), pre.length = i → 0 ≤ k → k + 1 * (rest.length : Int) ≤ 1000000000000 → i + rest.length ≤ 1000000000000 →
    Ev (fun n => laws_markIntS.l0 n (pre ++ rest) k (i : Int)) (k + 1 * (rest.length : Int), pre ++ markLInt k rest)
  | [], pre, i, k, hp, h0, h1, h2 => by
    refine Ev.step (fun n => rfl) ?_
    simp only [laws_markIntS.l0]
    refine ev_neg (by simp; omega) ?_
    simp only [markLInt, List.length_nil]
    rw [show k + 1 * ((0 : Nat) : Int) = k by omega]
    exact ev_now _
  | s :: rest, pre, i, k, hp, h0, h1, h2 => by
    simp only [List.length_cons] at h1 h2
    have e1 : wrap64 (k + 1) = k + 1 := by rw [wrap_id (by omega) (by omega)]
    refine Ev.step (fun n => rfl) ?_
    simp only [laws_markIntS.l0, if_pos (show (i : Int) < ((pre ++ s :: rest).length : Int) by simp; omega), if_pos (show (0 : Int) ≤ (i : Int) by omega), setmInt hp, rdmInt hp, Option.bind_some, e1]
    rw [wrap_succ (n := i + 1) (by omega) (by omega)]
    have := marklInt rest (pre ++ [k]) (i + 1) (k + 1) (by simp [hp]) (by omega) (by omega) (by omega)
    rw [List.append_assoc, List.append_assoc] at this
    rw [markLInt, show k + 1 * ((s :: rest).length : Int) = k + 1 + 1 * (rest.length : Int) by simp only [List.length_cons]; omega]
    exact this
theorem heldlInt : ∀ (rest pre : List Int) (i : Nat) (k : Int), pre.length = i → 0 ≤ k → k + 1 * (rest.length : Int) ≤ 1000000000000 → i + rest.length ≤ 1000000000000 →
    Ev (fun n => laws_heldIntS.l0 n (pre ++ markLInt k rest) k (i : Int)) (k + 1 * (rest.length : Int))
  | [], pre, i, k, hp, h0, h1, h2 => by
    refine Ev.step (fun n => rfl) ?_
    simp only [laws_heldIntS.l0, markLInt]
    refine ev_neg (by simp; omega) ?_
    simp only [List.length_nil]
    rw [show k + 1 * ((0 : Nat) : Int) = k by omega]
    exact ev_now _
  | s :: rest, pre, i, k, hp, h0, h1, h2 => by
    simp only [List.length_cons] at h1 h2
    have e1 : wrap64 (k + 1) = k + 1 := by rw [wrap_id (by omega) (by omega)]
    refine Ev.step (fun n => rfl) ?_
    simp only [laws_heldIntS.l0, markLInt, if_pos (show (i : Int) < ((pre ++ k :: markLInt (k + 1) rest).length : Int) by simp; omega), if_pos (show (0 : Int) ≤ (i : Int) by omega), rdmInt hp, if_true, e1]
    rw [wrap_succ (n := i + 1) (by omega) (by omega)]
    have := heldlInt rest (pre ++ [k]) (i + 1) (k + 1) (by simp [hp]) (by omega) (by omega) (by omega)
    rw [List.append_assoc] at this
    rw [show k + 1 * ((s :: rest).length : Int) = k + 1 + 1 * (rest.length : Int) by simp only [List.length_cons]; omega]
    exact this
theorem markSInt {l : List Int} {k : Int} (hl : l.length ≤ 10000000) (h0 : 0 ≤ k) (h1 : k ≤ 100000000000) : Ev (fun n => laws_markIntS.f n l k) (k + 1 * (l.length : Int), markLInt k l) := by
  unfold laws_markIntS.f
  exact marklInt l [] 0 k rfl h0 (by omega) (by omega)
theorem heldSInt {l : List Int} {k : Int} (hl : l.length ≤ 10000000) (h0 : 0 ≤ k) (h1 : k ≤ 100000000000) : Ev (fun n => laws_heldIntS.f n (markLInt k l) k) (k + 1 * (l.length : Int)) := by
  unfold laws_heldIntS.f
  exact heldlInt l [] 0 k rfl h0 (by omega) (by omega)

/-! ### exm_Retired -/
def markLRetired : Int → List S58 → List S58
  | _, [] => []
  | k, _ :: r => (⟨k, k + 1⟩ : S58) :: markLRetired (k + 2) r
theorem markL_lenRetired : ∀ (l : List S58) (k : Int), (markLRetired k l).length = l.length
  | [], _ => rfl
  | s :: r, k => by rw [markLRetired, List.length_cons, markL_lenRetired r, List.length_cons]
theorem marklRetired : ∀ (rest pre : List S58) (i : Nat) (k : Int), pre.length = i → 0 ≤ k → k + 2 * (rest.length : Int) ≤ 1000000000000 → i + rest.length ≤ 1000000000000 →
    Ev (fun n => laws_markRetiredS.l0 n (pre ++ rest) k (i : Int)) (k + 2 * (rest.length : Int), pre ++ markLRetired k rest)
  | [], pre, i, k, hp, h0, h1, h2 => by
    refine Ev.step (fun n => rfl) ?_
    simp only [laws_markRetiredS.l0]
    refine ev_neg (by simp; omega) ?_
    simp only [markLRetired, List.length_nil]
    rw [show k + 2 * ((0 : Nat) : Int) = k by omega]
    exact ev_now _
  | s :: rest, pre, i, k, hp, h0, h1, h2 => by
    simp only [List.length_cons] at h1 h2
    have e1 : wrap64 (k + 1) = k + 1 := by rw [wrap_id (by omega) (by omega)]
    have e2 : wrap64 (k + 1 + 1) = k + 2 := by rw [wrap_id (by omega) (by omega)]; omega
    refine Ev.step (fun n => rfl) ?_
    simp only [laws_markRetiredS.l0, if_pos (show (i : Int) < ((pre ++ s :: rest).length : Int) by simp; omega), if_pos (show (0 : Int) ≤ (i : Int) by omega), setmRetired hp, rdmRetired hp, Option.bind_some, e1, e2]
    rw [wrap_succ (n := i + 1) (by omega) (by omega)]
    have := marklRetired rest (pre ++ [(⟨k, k + 1⟩ : S58)]) (i + 1) (k + 2) (by simp [hp]) (by omega) (by omega) (by omega)
    rw [List.append_assoc, List.append_assoc] at this
    rw [markLRetired, show k + 2 * ((s :: rest).length : Int) = k + 2 + 2 * (rest.length : Int) by simp only [List.length_cons]; omega]
    exact this
theorem heldlRetired : ∀ (rest pre : List S58) (i : Nat) (k : Int), pre.length = i → 0 ≤ k → k + 2 * (rest.length : Int) ≤ 1000000000000 → i + rest.length ≤ 1000000000000 →
    Ev (fun n => laws_heldRetiredS.l0 n (pre ++ markLRetired k rest) k (i : Int)) (k + 2 * (rest.length : Int))
  | [], pre, i, k, hp, h0, h1, h2 => by
    refine Ev.step (fun n => rfl) ?_
    simp only [laws_heldRetiredS.l0, markLRetired]
    refine ev_neg (by simp; omega) ?_
    simp only [List.length_nil]
    rw [show k + 2 * ((0 : Nat) : Int) = k by omega]
    exact ev_now _
  | s :: rest, pre, i, k, hp, h0, h1, h2 => by
    simp only [List.length_cons] at h1 h2
    have e1 : wrap64 (k + 1) = k + 1 := by rw [wrap_id (by omega) (by omega)]
    have e2 : wrap64 (k + 1 + 1) = k + 2 := by rw [wrap_id (by omega) (by omega)]; omega
    refine Ev.step (fun n => rfl) ?_
    simp only [laws_heldRetiredS.l0, markLRetired, if_pos (show (i : Int) < ((pre ++ (⟨k, k + 1⟩ : S58) :: markLRetired (k + 2) rest).length : Int) by simp; omega), if_pos (show (0 : Int) ≤ (i : Int) by omega), rdmRetired hp, if_true, e1, e2]
    rw [wrap_succ (n := i + 1) (by omega) (by omega)]
    have := heldlRetired rest (pre ++ [(⟨k, k + 1⟩ : S58)]) (i + 1) (k + 2) (by simp [hp]) (by omega) (by omega) (by omega)
    rw [List.append_assoc] at this
    rw [show k + 2 * ((s :: rest).length : Int) = k + 2 + 2 * (rest.length : Int) by simp only [List.length_cons]; omega]
    exact this
theorem markSRetired {l : List S58} {k : Int} (hl : l.length ≤ 10000000) (h0 : 0 ≤ k) (h1 : k ≤ 100000000000) : Ev (fun n => laws_markRetiredS.f n l k) (k + 2 * (l.length : Int), markLRetired k l) := by
  unfold laws_markRetiredS.f
  exact marklRetired l [] 0 k rfl h0 (by omega) (by omega)
theorem heldSRetired {l : List S58} {k : Int} (hl : l.length ≤ 10000000) (h0 : 0 ≤ k) (h1 : k ≤ 100000000000) : Ev (fun n => laws_heldRetiredS.f n (markLRetired k l) k) (k + 2 * (l.length : Int)) := by
  unfold laws_heldRetiredS.f
  exact heldlRetired l [] 0 k rfl h0 (by omega) (by omega)

/-! ### ep_spS -/
abbrev Re := S58
theorem in_f (a b c : Int) : spec_l1In.f a b c = some (decide (b ≤ a ∧ a ≤ c)) := by
  unfold spec_l1In.f
  split
  · congr 1; simp; omega
  · congr 1; simp; omega
theorem max_f (a b : Int) : spec_l1Max.f a b = some (if a > b then a else b) := by
  unfold spec_l1Max.f
  split <;> rfl
def pinS (now p : Int) : Bool := decide (p = 0 ∨ 1 ≤ p ∧ (p = now ∨ p = wrap64 (now - 1)))
def lstS (now : Int) : List Re → List Re → Bool
  | _, [] => true
  | seen, x :: r => decide ((1 ≤ x.f1 ∧ x.f1 ≤ now) ∧ 1 ≤ x.f0) && (!(seen.any fun y => decide (y.f0 = x.f0)) && lstS now (seen ++ [x]) r)
def epOkS (now : Int) (pins : List Int) (list : List Re) : Bool :=
  pins.all (pinS now) && (lstS now [] list && (decide (1 ≤ now ∧ now ≤ 1000) && (decide (1 ≤ pins.length ∧ pins.length ≤ 4) && decide ((list.length : Int) ≤ 30))))
/-- No two alike: as the reference asks. -/
theorem lst_ext (now : Int) : ∀ (r s1 s2 : List Re), (∀ id, s1.any (fun y => decide (y.f0 = id)) = s2.any (fun y => decide (y.f0 = id))) → lstS now s1 r = lstS now s2 r
  | [], _, _, _ => rfl
  | x :: r, s1, s2, h => by
    show lstS now s1 (x :: r) = lstS now s2 (x :: r)
    rw [lstS, lstS, h x.f0]
    congr 2
    exact lst_ext now r _ _ (fun id => by rw [List.any_append, List.any_append, h id])
theorem sp_inner {now : Int} {pins : List Int} {l : List Re} (hl : l.length ≤ 9223372036854775807) {i : Nat} {x : Re} {rest : List Re} (hx : l.drop i = x :: rest) {res : Bool} (next : Ev (fun k => spec_EpochsOk.l1 k (wrap64 ((i : Int) + 1)) now pins l) res) :
    ∀ (d j : Nat), j + d = i → Ev (fun k => spec_EpochsOk.l2 k (i : Int) (j : Int) now pins l) (!(((l.take i).drop j).any fun y => decide (y.f0 = x.f0)) && res)
  | 0, j, hj => by
    have hlt := drop_lt hx
    refine Ev.step (fun k => rfl) ?_
    simp only [spec_EpochsOk.l2]
    refine ev_neg (by omega) ?_
    rw [List.drop_eq_nil_of_le (by simp; omega)]
    simpa using next
  | d + 1, j, hj => by
    have hlt := drop_lt hx
    have hjl : j < l.length := by omega
    have hjx : l.drop j = l[j] :: l.drop (j + 1) := List.drop_eq_getElem_cons hjl
    have htk : (l.take i).drop j = l[j] :: (l.take i).drop (j + 1) := by
      rw [List.drop_eq_getElem_cons (by simp; omega)]
      simp
    refine Ev.step (fun k => rfl) ?_
    simp only [spec_EpochsOk.l2, rdRetired hx, rdRetired hjx, if_pos (show (j : Int) < (i : Int) by omega), if_pos (show (0 : Int) ≤ (j : Int) by omega), if_pos (show (j : Int) < (l.length : Int) by omega), if_pos (show (0 : Int) ≤ (i : Int) by omega), if_pos (show (i : Int) < (l.length : Int) by omega)]
    rw [htk, List.any_cons]
    by_cases c : l[j].f0 = x.f0
    · simp only [if_pos c, decide_eq_true c, Bool.true_or, Bool.not_true, Bool.false_and]
      exact ev_now _
    · simp only [if_neg c, decide_eq_false c, Bool.false_or]
      rw [wrap_succ hjl hl]
      exact sp_inner hl hx next d (j + 1) (by omega)
theorem sp_list {now : Int} {pins : List Int} {l : List Re} (hl : l.length ≤ 9223372036854775807) : ∀ (rest : List Re) (i : Nat), l.drop i = rest → Ev (fun k => spec_EpochsOk.l1 k (i : Int) now pins l) (lstS now (l.take i) rest)
  | [], i, h => by
    have := drop_nil_len h
    refine Ev.step (fun k => rfl) ?_
    simp only [spec_EpochsOk.l1]
    exact ev_neg (by omega) (ev_now _)
  | x :: rest, i, h => by
    have hlt := drop_lt h
    have next : Ev (fun k => spec_EpochsOk.l1 k (wrap64 ((i : Int) + 1)) now pins l) (lstS now (l.take i ++ [x]) rest) := by
      have := sp_list (now := now) (pins := pins) hl rest (i + 1) (drop_next h)
      rw [wrap_succ hlt hl, ← drop_take h]
      exact this
    have inner := sp_inner hl h next i 0 (by omega)
    rw [List.drop_zero] at inner
    refine Ev.step (fun k => rfl) ?_
    simp only [spec_EpochsOk.l1, rdRetired h, in_f, Option.bind_some, if_pos (show (i : Int) < (l.length : Int) by omega), if_pos (show (0 : Int) ≤ (i : Int) by omega)]
    show Ev _ (lstS now (l.take i) (x :: rest))
    rw [lstS]
    by_cases c : x.f0 < 1
    · simp only [if_pos c]
      rw [decide_eq_false (fun hh => by omega), Bool.false_and]
      refine Ev.step (fun k => rfl) ?_
      simp only [spec_EpochsOk.j3, if_true]
      exact ev_now _
    · simp only [if_neg c]
      refine Ev.step (fun k => rfl) ?_
      simp only [spec_EpochsOk.j3]
      by_cases c2 : 1 ≤ x.f1 ∧ x.f1 ≤ now
      · rw [decide_eq_true c2, decide_eq_true (show _ from ⟨c2, by omega⟩), Bool.true_and]
        simp only [Bool.not_true, Bool.false_eq_true, if_false]
        exact inner
      · rw [decide_eq_false c2, decide_eq_false (fun hh => c2 hh.1), Bool.false_and]
        simp only [Bool.not_false, if_true]
        exact ev_now _
theorem sp_pins {now : Int} (h1 : 1 ≤ now) (h2 : now ≤ 1000) {pins : List Int} {l : List Re} (hp : pins.length ≤ 9223372036854775807) {res : Bool} (next : Ev (fun k => spec_EpochsOk.l1 k 0 now pins l) res) : ∀ (rest : List Int) (i : Nat), pins.drop i = rest →
    Ev (fun k => spec_EpochsOk.l0 k (i : Int) now pins l) (rest.all (pinS now) && res)
  | [], i, h => by
    have := drop_nil_len h
    refine Ev.step (fun k => rfl) ?_
    simp only [spec_EpochsOk.l0]
    refine ev_neg (by omega) ?_
    simpa using next
  | p :: rest, i, h => by
    have hlt := drop_lt h
    have ih := sp_pins h1 h2 hp next rest (i + 1) (drop_next h)
    refine Ev.step (fun k => rfl) ?_
    simp only [spec_EpochsOk.l0, rdInt h, in_f, max_f, Option.bind_some, if_pos (show (i : Int) < (pins.length : Int) by omega), if_pos (show (0 : Int) ≤ (i : Int) by omega)]
    rw [wrap_succ hlt hp, wrap_id (x := now - 1) (by omega) (by omega), List.all_cons]
    by_cases c : p = 0
    · simp only [if_pos c]
      have hz : pinS now p = true := by show pinS now p = true; unfold pinS; simp [c]
      rw [hz, Bool.true_and]
      exact ih
    · simp only [if_neg c]
      have hpin : pinS now p = decide ((if now - 1 > 1 then now - 1 else 1) ≤ p ∧ p ≤ now) := by
        show pinS now p = _
        unfold pinS
        rw [wrap_id (x := now - 1) (by omega) (by omega)]
        congr 1
        apply propext
        constructor
        · intro hh
          split <;> omega
        · intro hh
          split at hh <;> omega
      rw [hpin]
      by_cases c2 : (if now - 1 > 1 then now - 1 else 1) ≤ p ∧ p ≤ now
      · simp only [decide_eq_true c2, if_true, Bool.true_and]
        exact ih
      · simp only [decide_eq_false c2, Bool.false_eq_true, if_false, Bool.false_and]
        exact ev_now _
/-- The reference says of epochs what the program says. -/
theorem sp_ok {now : Int} {pins : List Int} {l : List Re} (hp : pins.length ≤ 9223372036854775807) (hl : l.length ≤ 9223372036854775807) : Ev (fun k => spec_EpochsOk.f k now pins l) (epOkS now pins l) := by
  unfold spec_EpochsOk.f
  show Ev _ (epOkS now pins l)
  unfold epOkS
  simp only [in_f, Option.bind_some]
  have no : Ev (fun k => spec_EpochsOk.j0 k true now pins l) false := by
    refine Ev.step (fun k => rfl) ?_
    simp only [spec_EpochsOk.j0, if_true]
    exact ev_now _
  by_cases c1 : 1 ≤ now ∧ now ≤ 1000
  · simp only [decide_eq_true c1, if_true, Bool.true_and]
    by_cases c2 : 1 ≤ (pins.length : Int) ∧ (pins.length : Int) ≤ 4
    · simp only [decide_eq_true c2, if_true]
      rw [decide_eq_true (show 1 ≤ pins.length ∧ pins.length ≤ 4 by omega), Bool.true_and]
      refine Ev.step (fun k => rfl) ?_
      simp only [spec_EpochsOk.j0, decide_eq_true_eq]
      by_cases c3 : (l.length : Int) > 30
      · simp only [if_pos c3]
        rw [decide_eq_false (show ¬ (l.length : Int) ≤ 30 by omega), Bool.and_false, Bool.and_false]
        exact ev_now _
      · simp only [if_neg c3]
        rw [decide_eq_true (show (l.length : Int) ≤ 30 by omega), Bool.and_true]
        exact sp_pins c1.1 c1.2 hp (sp_list hl l 0 rfl) pins 0 rfl
    · simp only [decide_eq_false c2, Bool.false_eq_true, if_false]
      rw [decide_eq_false (show ¬ (1 ≤ pins.length ∧ pins.length ≤ 4) by omega), Bool.false_and, Bool.and_false, Bool.and_false]
      exact no
  · simp only [decide_eq_false c1, Bool.false_eq_true, if_false, Bool.false_and, Bool.and_false]
    exact no

/-! ### ep_eq -/
theorem eq_ep (n : Int) {p : List Int} {l : List Re} (hp : p.length ≤ 9223372036854775807) (hl : l.length ≤ 9223372036854775807) : Ev (fun k => laws_eqEpochs.f k n p l n p l) true := by
  unfold laws_eqEpochs.f
  simp only [if_true]
  refine Ev.bind (eqSInt hp) ?_
  simp only [if_true]
  refine Ev.bind (eqSRetired hl) ?_
  simp only [if_true]
  exact ev_now _

/-! ### ep_mh -/
/-- What is marked is held. -/
theorem mh_ep (n : Int) {p : List Int} {l : List Re} (hp : p.length ≤ 10000000) (hl : l.length ≤ 10000000) : ∃ m p' l', Ev (fun k => laws_markEpochs.f k n p l 1) (m, p', l') ∧ (Ev (fun k => laws_heldEpochs.f k n p' l' 1) m) ∧ 1 ≤ m := by
  refine ⟨1 + 1 * (p.length : Int) + 2 * (l.length : Int), markLInt 1 p, markLRetired (1 + 1 * (p.length : Int)) l, ?_, ?_, by omega⟩
  · unfold laws_markEpochs.f
    refine Ev.bind (markSInt hp (by omega) (by omega)) ?_
    refine Ev.bind (markSRetired hl (by omega) (by omega)) ?_
    exact ev_now _
  · unfold laws_heldEpochs.f
    refine Ev.bind (heldSInt hp (by omega) (by omega)) ?_
    refine ev_neg (by omega) ?_
    refine Ev.bind (heldSRetired hl (by omega) (by omega)) ?_
    exact ev_neg (by omega) (ev_now _)

/-! ### main_EpochsNew -/
theorem from_f (a b c : Int) : impl_from.f a b c = some (decide (b ≤ a ∧ a ≤ c)) := by
  unfold impl_from.f
  split
  · congr 1; simp; omega
  · congr 1; simp; omega
def newE (t : Int) : Int × List Int × List Re × Bool := if 1 ≤ t ∧ t ≤ 4 then (1, List.replicate t.toNat 0, [], true) else (0, [], [], false)
theorem im_new (t : Int) : impl_EpochsNew.f t = some (newE t) := by
  unfold impl_EpochsNew.f newE
  rw [from_f, Option.bind_some]
  by_cases c : 1 ≤ t ∧ t ≤ 4
  · rw [if_pos (decide_eq_true c), if_pos c, if_pos (by omega), if_pos (by omega)]
  · rw [if_neg (by simpa using c), if_neg c]
theorem ok_new {t : Int} (h : 1 ≤ t ∧ t ≤ 4) : epOkS 1 (List.replicate t.toNat 0) [] = true := by
  unfold epOkS
  have h1 : (List.replicate t.toNat (0 : Int)).all (pinS 1) = true := by
    rw [List.all_eq_true]
    intro x hx
    rw [List.eq_of_mem_replicate hx]
    decide
  rw [h1, lstS]
  simp
  omega
theorem sp_new (t : Int) : Ev (fun k => spec_EpochsNew.f k t) (newE t) := by
  unfold spec_EpochsNew.f newE
  simp only [in_f, Option.bind_some]
  by_cases c : 1 ≤ t ∧ t ≤ 4
  · refine ev_pos (decide_eq_true c) (ev_pos (by omega) (ev_pos (by omega) ?_))
    refine Ev.bind (sp_ok (by simp; omega) (by simp)) ?_
    rw [ok_new c, if_pos c]
    simp only [if_true]
    exact ev_now _
  · refine ev_neg (by simpa using c) ?_
    refine Ev.bind (sp_ok (by simp) (by simp)) ?_
    rw [show epOkS 1 [] [] = false by decide, if_neg c]
    simp only [Bool.false_eq_true, if_false]
    exact ev_now _
theorem FnExactEpochsNew : laws_FnExactEpochsNew.Pure := by
  intro t ht
  refine Ev.rounds (g := fun k => laws_FnExactEpochsNew.f k t) ?_
  unfold laws_FnExactEpochsNew.f
  have hi : Ev (fun _ => impl_EpochsNew.f t) (newE t) := ev_of (im_new t)
  have hs := sp_new t
  have hpl : (newE t).2.1.length ≤ 1000 ∧ (newE t).2.2.1.length ≤ 1000 := by
    unfold newE
    split
    · simp; omega
    · simp
  rcases hq : newE t with ⟨n', p', l', b⟩
  rw [hq] at hi hs hpl
  obtain ⟨hpl, hll⟩ := hpl
  have hpl' : p'.length ≤ 1000 := hpl
  have hll' : l'.length ≤ 1000 := hll
  have heq := eq_ep n' (p := p') (l := l') (by omega) (by omega)
  obtain ⟨m2, y1, y2, hm2, hh2, hge2⟩ := mh_ep n' (p := p') (l := l') (by omega) (by omega)
  refine Ev.bind hs ?_
  refine Ev.bind hi ?_
  refine Ev.bind heq ?_
  simp only [if_true]
  refine Ev.step (fun k => rfl) ?_
  simp only [laws_FnExactEpochsNew.j0, bne_self_eq_false, Bool.false_eq_true, if_false]
  refine Ev.bind hm2 ?_
  refine Ev.bind hh2 ?_
  refine ev_neg (by omega) ?_
  refine ev_pos rfl ?_
  refine Ev.bind hi ?_
  refine Ev.bind heq ?_
  simp only [if_true]
  refine Ev.step (fun k => rfl) ?_
  simp only [laws_FnExactEpochsNew.j1, bne_self_eq_false, Bool.false_eq_true, if_false]
  refine Ev.bind hh2 ?_
  exact ev_neg (by omega) (ev_pos rfl (ev_now _))
end Go.Proofs.Ytpidphppldimkaa.Pure
