/- The plain half of the law FnExactCollect: both Collect make the same of all epochs, in memory of their own. No condition but that numbers are int64. -/
import Derived.Test.YtpidphppldimkaaPFnExactCollectx11
import Derived.Test.YtpidphppldimkaaOpnFnExactCollect
import Derived.Test.YtpidphppldimkaaAid
namespace Go.Proofs.Ytpidphppldimkaa.Pure
open Go.RowKit Go.Proofs.Ytpidphppldimkaa.PFnExactCollect Go.Proofs.YtpidphppldimkaaW.PrintWords Go.Proofs.YtpidphppldimkaaW.PrintLast Go.Proofs.Ytpidphppldimkaa.Aid Go.Proofs.Ytpidphppldimkaa.Opn Go.Proofs.Ytpidphppldimkaa.Open
set_option linter.unusedVariables false
set_option linter.unusedSimpArgs false

/-! ### ex_Int -/
theorem rdInt {l : List Int} {i : Nat} {s : Int} {r : List Int} (h : l.drop i = s :: r) : rd l (i : Int) = s := drop_getD h
theorem rdmInt {p : List Int} {s : Int} {r : List Int} {i : Nat} (h : p.length = i) : rd (p ++ s :: r) (i : Int) = s := rdInt (r := r) (by subst h; simp)
theorem setmInt {p : List Int} {s v : Int} {r : List Int} {i : Nat} (h : p.length = i) : (p ++ s :: r).set ((i : Int).toNat) v = p ++ v :: r := by rw [Int.toNat_natCast]; exact set_mid _ _ _ _ h
theorem eqlInt {l : List Int} (hl : l.length ≤ 9223372036854775807) : ∀ (rest : List Int) (i : Nat), l.drop i = rest → Ev (fun k => laws_eqIntS.l0 k l l (i : Int)) true
  | [], i, h => by
    have := drop_nil_len h
    refine Ev.step (fun k => rfl) ?_
    simp only [laws_eqIntS.l0]
    exact ev_neg (by omega) (ev_now _)
  | s :: rest, i, h => by
    have hlt := drop_lt h
    refine Ev.step (fun k => rfl) ?_
    simp only [laws_eqIntS.l0, rdInt h,  if_pos (show (i : Int) < (l.length : Int) by omega), if_pos (show (0 : Int) ≤ (i : Int) by omega), if_true]
    rw [wrap_succ hlt hl]
    exact eqlInt hl rest (i + 1) (drop_next h)
theorem eqSInt {l : List Int} (hl : l.length ≤ 9223372036854775807) : Ev (fun k => laws_eqIntS.f k l l) true := by
  unfold laws_eqIntS.f
  simp only [if_true]
  exact eqlInt hl l 0 rfl
def to1Int (s : Int) : Int := s
theorem tolInt {l : List Int} (hl : l.length ≤ 9223372036854775807) : ∀ (rest : List Int) (i : Nat), l.drop i = rest →
    Ev (fun k => laws_toIntS.l0 k l ((l.take i).map to1Int ++ List.replicate rest.length (0 : Int)) (i : Int)) (l.map to1Int)
  | [], i, h => by
    have := drop_nil_len h
    refine Ev.step (fun k => rfl) ?_
    simp only [laws_toIntS.l0]
    refine ev_neg (by omega) ?_
    rw [List.take_of_length_le this]
    simp only [List.length_nil, List.replicate_zero, List.append_nil]
    exact ev_now _
  | s :: rest, i, h => by
    have hlt := drop_lt h
    have hlen : ((l.take i).map to1Int).length = i := by simp; omega
    refine Ev.step (fun k => rfl) ?_
    simp only [laws_toIntS.l0, rdInt h,  if_pos (show (i : Int) < (l.length : Int) by omega), if_pos (show (0 : Int) ≤ (i : Int) by omega), List.length_cons, List.replicate_succ, setmInt hlen]
    rw [wrap_succ hlt hl]
    refine ev_pos (by simp; omega) ?_
    have := tolInt hl rest (i + 1) (drop_next h)
    rw [drop_take h, List.map_append, List.append_assoc] at this
    exact this
theorem toSInt {l : List Int} (hl : l.length ≤ 1048576) : Ev (fun k => laws_toIntS.f k l) (l.map to1Int) := by
  unfold laws_toIntS.f
  simp only [if_pos (show (0 : Int) ≤ (l.length : Int) by omega), Int.toNat_natCast]
  refine ev_pos (by omega) ?_
  have := tolInt (by omega) l 0 rfl
  simpa using this
theorem szSInt {l : List Int} {a : Int} (hl : l.length ≤ 9223372036854775807) (h0 : 0 ≤ a) (h1 : a ≤ 1048576) : laws_szIntS.f l a = some (if a < (l.length : Int) then -1 else a - (l.length : Int)) := by
  unfold laws_szIntS.f
  rw [wrap_id (by omega) (by omega)]
  by_cases h : a < (l.length : Int)
  · simp only [if_pos (show a - (l.length : Int) < 0 by omega), if_pos h]
  · simp only [if_neg (show ¬ a - (l.length : Int) < 0 by omega), if_neg h]

/-! ### ex_Retired -/
theorem rdRetired {l : List S58} {i : Nat} {s : S58} {r : List S58} (h : l.drop i = s :: r) : rd_T58 l (i : Int) = s := drop_getD h
theorem rdLRetired {l : List S75} {i : Nat} {s : S75} {r : List S75} (h : l.drop i = s :: r) : rd_T75 l (i : Int) = s := drop_getD h
theorem rdmRetired {p : List S58} {s : S58} {r : List S58} {i : Nat} (h : p.length = i) : rd_T58 (p ++ s :: r) (i : Int) = s := rdRetired (r := r) (by subst h; simp)
theorem setmRetired {p : List S58} {s v : S58} {r : List S58} {i : Nat} (h : p.length = i) : (p ++ s :: r).set ((i : Int).toNat) v = p ++ v :: r := by rw [Int.toNat_natCast]; exact set_mid _ _ _ _ h
theorem eq1Retired (s : S58) : laws_eqRetired.f s.f0 s.f1 s.f0 s.f1 = some true := by unfold laws_eqRetired.f; simp
theorem eqlRetired {l : List S58} (hl : l.length ≤ 9223372036854775807) : ∀ (rest : List S58) (i : Nat), l.drop i = rest → Ev (fun k => laws_eqRetiredS.l0 k l l (i : Int)) true
  | [], i, h => by
    have := drop_nil_len h
    refine Ev.step (fun k => rfl) ?_
    simp only [laws_eqRetiredS.l0]
    exact ev_neg (by omega) (ev_now _)
  | s :: rest, i, h => by
    have hlt := drop_lt h
    refine Ev.step (fun k => rfl) ?_
    simp only [laws_eqRetiredS.l0, rdRetired h, eq1Retired, Option.bind_some, if_pos (show (i : Int) < (l.length : Int) by omega), if_pos (show (0 : Int) ≤ (i : Int) by omega), if_true]
    rw [wrap_succ hlt hl]
    exact eqlRetired hl rest (i + 1) (drop_next h)
theorem eqSRetired {l : List S58} (hl : l.length ≤ 9223372036854775807) : Ev (fun k => laws_eqRetiredS.f k l l) true := by
  unfold laws_eqRetiredS.f
  simp only [if_true]
  exact eqlRetired hl l 0 rfl
def to1Retired (s : S75) : S58 := ⟨s.f0, s.f1⟩
theorem tolRetired {l : List S75} (hl : l.length ≤ 9223372036854775807) : ∀ (rest : List S75) (i : Nat), l.drop i = rest →
    Ev (fun k => laws_toRetiredS.l0 k l ((l.take i).map to1Retired ++ List.replicate rest.length z58) (i : Int)) (l.map to1Retired)
  | [], i, h => by
    have := drop_nil_len h
    refine Ev.step (fun k => rfl) ?_
    simp only [laws_toRetiredS.l0]
    refine ev_neg (by omega) ?_
    rw [List.take_of_length_le this]
    simp only [List.length_nil, List.replicate_zero, List.append_nil]
    exact ev_now _
  | s :: rest, i, h => by
    have hlt := drop_lt h
    have hlen : ((l.take i).map to1Retired).length = i := by simp; omega
    refine Ev.step (fun k => rfl) ?_
    simp only [laws_toRetiredS.l0, rdLRetired h, laws_toRetired.f, Option.bind_some, if_pos (show (i : Int) < (l.length : Int) by omega), if_pos (show (0 : Int) ≤ (i : Int) by omega), List.length_cons, List.replicate_succ, setmRetired hlen]
    rw [wrap_succ hlt hl]
    refine ev_pos (by simp; omega) ?_
    have := tolRetired hl rest (i + 1) (drop_next h)
    rw [drop_take h, List.map_append, List.append_assoc] at this
    exact this
theorem toSRetired {l : List S75} (hl : l.length ≤ 1048576) : Ev (fun k => laws_toRetiredS.f k l) (l.map to1Retired) := by
  unfold laws_toRetiredS.f
  simp only [if_pos (show (0 : Int) ≤ (l.length : Int) by omega), Int.toNat_natCast]
  refine ev_pos (by omega) ?_
  have := tolRetired (by omega) l 0 rfl
  simpa using this
theorem szSRetired {l : List S75} {a : Int} (hl : l.length ≤ 9223372036854775807) (h0 : 0 ≤ a) (h1 : a ≤ 1048576) : laws_szRetiredS.f l a = some (if a < (l.length : Int) then -1 else a - (l.length : Int)) := by
  unfold laws_szRetiredS.f
  rw [wrap_id (by omega) (by omega)]
  by_cases h : a < (l.length : Int)
  · simp only [if_pos (show a - (l.length : Int) < 0 by omega), if_pos h]
  · simp only [if_neg (show ¬ a - (l.length : Int) < 0 by omega), if_neg h]

/-! ### exm_Int -/
def markLInt : Int → List Int → List Int
  | _, [] => []
  | k, _ :: r => k :: markLInt (k + 1) r
theorem markL_lenInt : ∀ (l : List Int) (k : Int), (markLInt k l).length = l.length
  | [], _ => rfl
  | s :: r, k => by rw [markLInt, List.length_cons, markL_lenInt r, List.length_cons]
theorem marklInt : ∀ (rest pre : List Int) (i : Nat) (k : Int), pre.length = i → 0 ≤ k → k + 1 * (rest.length : Int) ≤ 1000000000000 → i + rest.length ≤ 1000000000000 →
    Ev (fun n => laws_markIntS.l0 n (pre ++ rest) k (i : Int)) (k + 1 * (rest.length : Int), pre ++ markLInt k rest)
  | [], pre, i, k, hp, h0, h1, h2 => by
    refine Ev.step (fun n => rfl) ?_
    simp only [laws_markIntS.l0]
    refine ev_neg (by simp; omega) ?_
    simp only [markLInt, List.length_nil]
    rw [show k + 1 * ((0 : Nat) : Int) = k by omega]
    exact ev_now _
  | s :: rest, pre, i, k, hp, h0, h1, h2 => by
    simp only [List.length_cons] at h1 h2
    have e1 : wrap64 (k + 1) = k + 1 := by rw [wrap_id (by omega) (by omega)]
    refine Ev.step (fun n => rfl) ?_
    simp only [laws_markIntS.l0, if_pos (show (i : Int) < ((pre ++ s :: rest).length : Int) by simp; omega), if_pos (show (0 : Int) ≤ (i : Int) by omega), setmInt hp, rdmInt hp, Option.bind_some, e1]
    rw [wrap_succ (n := i + 1) (by omega) (by omega)]
    have := marklInt rest (pre ++ [k]) (i + 1) (k + 1) (by simp [hp]) (by omega) (by omega) (by omega)
    rw [List.append_assoc, List.append_assoc] at this
    rw [markLInt, show k + 1 * ((s :: rest).length : Int) = k + 1 + 1 * (rest.length : Int) by simp only [List.length_cons]; omega]
    exact this
theorem heldlInt : ∀ (rest pre : List Int) (i : Nat) (k : Int), pre.length = i → 0 ≤ k → k + 1 * (rest.length : Int) ≤ 1000000000000 → i + rest.length ≤ 1000000000000 →
    Ev (fun n => laws_heldIntS.l0 n (pre ++ markLInt k rest) k (i : Int)) (k + 1 * (rest.length : Int))
  | [], pre, i, k, hp, h0, h1, h2 => by
    refine Ev.step (fun n => rfl) ?_
    simp only [laws_heldIntS.l0, markLInt]
    refine ev_neg (by simp; omega) ?_
    simp only [List.length_nil]
    rw [show k + 1 * ((0 : Nat) : Int) = k by omega]
    exact ev_now _
  | s :: rest, pre, i, k, hp, h0, h1, h2 => by
    simp only [List.length_cons] at h1 h2
    have e1 : wrap64 (k + 1) = k + 1 := by rw [wrap_id (by omega) (by omega)]
    refine Ev.step (fun n => rfl) ?_
    simp only [laws_heldIntS.l0, markLInt, if_pos (show (i : Int) < ((pre ++ k :: markLInt (k + 1) rest).length : Int) by simp; omega), if_pos (show (0 : Int) ≤ (i : Int) by omega), rdmInt hp, if_true, e1]
    rw [wrap_succ (n := i + 1) (by omega) (by omega)]
    have := heldlInt rest (pre ++ [k]) (i + 1) (k + 1) (by simp [hp]) (by omega) (by omega) (by omega)
    rw [List.append_assoc] at this
    rw [show k + 1 * ((s :: rest).length : Int) = k + 1 + 1 * (rest.length : Int) by simp only [List.length_cons]; omega]
    exact this
theorem markSInt {l : List Int} {k : Int} (hl : l.length ≤ 10000000) (h0 : 0 ≤ k) (h1 : k ≤ 100000000000) : Ev (fun n => laws_markIntS.f n l k) (k + 1 * (l.length : Int), markLInt k l) := by
  unfold laws_markIntS.f
  exact marklInt l [] 0 k rfl h0 (by omega) (by omega)
theorem heldSInt {l : List Int} {k : Int} (hl : l.length ≤ 10000000) (h0 : 0 ≤ k) (h1 : k ≤ 100000000000) : Ev (fun n => laws_heldIntS.f n (markLInt k l) k) (k + 1 * (l.length : Int)) := by
  unfold laws_heldIntS.f
  exact heldlInt l [] 0 k rfl h0 (by omega) (by omega)

/-! ### exm_Retired -/
def markLRetired : Int → List S58 → List S58
  | _, [] => []
  | k, _ :: r => (⟨k, k + 1⟩ : S58) :: markLRetired (k + 2) r
theorem markL_lenRetired : ∀ (l : List S58) (k : Int), (markLRetired k l).length = l.length
  | [], _ => rfl
  | s :: r, k => by rw [markLRetired, List.length_cons, markL_lenRetired r, List.length_cons]
theorem marklRetired : ∀ (rest pre : List S58) (i : Nat) (k : Int), pre.length = i → 0 ≤ k → k + 2 * (rest.length : Int) ≤ 1000000000000 → i + rest.length ≤ 1000000000000 →
    Ev (fun n => laws_markRetiredS.l0 n (pre ++ rest) k (i : Int)) (k + 2 * (rest.length : Int), pre ++ markLRetired k rest)
  | [], pre, i, k, hp, h0, h1, h2 => by
    refine Ev.step (fun n => rfl) ?_
    simp only [laws_markRetiredS.l0]
    refine ev_neg (by simp; omega) ?_
    simp only [markLRetired, List.length_nil]
    rw [show k + 2 * ((0 : Nat) : Int) = k by omega]
    exact ev_now _
  | s :: rest, pre, i, k, hp, h0, h1, h2 => by
    simp only [List.length_cons] at h1 h2
    have e1 : wrap64 (k + 1) = k + 1 := by rw [wrap_id (by omega) (by omega)]
    have e2 : wrap64 (k + 1 + 1) = k + 2 := by rw [wrap_id (by omega) (by omega)]; omega
    refine Ev.step (fun n => rfl) ?_
    simp only [laws_markRetiredS.l0, if_pos (show (i : Int) < ((pre ++ s :: rest).length : Int) by simp; omega), if_pos (show (0 : Int) ≤ (i : Int) by omega), setmRetired hp, rdmRetired hp, Option.bind_some, e1, e2]
    rw [wrap_succ (n := i + 1) (by omega) (by omega)]
    have := marklRetired rest (pre ++ [(⟨k, k + 1⟩ : S58)]) (i + 1) (k + 2) (by simp [hp]) (by omega) (by omega) (by omega)
    rw [List.append_assoc, List.append_assoc] at this
    rw [markLRetired, show k + 2 * ((s :: rest).length : Int) = k + 2 + 2 * (rest.length : Int) by simp only [List.length_cons]; omega]
    exact this
theorem heldlRetired : ∀ (rest pre : List S58) (i : Nat) (k : Int), pre.length = i → 0 ≤ k → k + 2 * (rest.length : Int) ≤ 1000000000000 → i + rest.length ≤ 1000000000000 →
    Ev (fun n => laws_heldRetiredS.l0 n (pre ++ markLRetired k rest) k (i : Int)) (k + 2 * (rest.length : Int))
  | [], pre, i, k, hp, h0, h1, h2 => by
    refine Ev.step (fun n => rfl) ?_
    simp only [laws_heldRetiredS.l0, markLRetired]
    refine ev_neg (by simp; omega) ?_
    simp only [List.length_nil]
    rw [show k + 2 * ((0 : Nat) : Int) = k by omega]
    exact ev_now _
  | s :: rest, pre, i, k, hp, h0, h1, h2 => by
    simp only [List.length_cons] at h1 h2
    have e1 : wrap64 (k + 1) = k + 1 := by rw [wrap_id (by omega) (by omega)]
    have e2 : wrap64 (k + 1 + 1) = k + 2 := by rw [wrap_id (by omega) (by omega)]; omega
    refine Ev.step (fun n => rfl) ?_
    simp only [laws_heldRetiredS.l0, markLRetired, if_pos (show (i : Int) < ((pre ++ (⟨k, k + 1⟩ : S58) :: markLRetired (k + 2) rest).length : Int) by simp; omega), if_pos (show (0 : Int) ≤ (i : Int) by omega), rdmRetired hp, if_true, e1, e2]
    rw [wrap_succ (n := i + 1) (by omega) (by omega)]
    have := heldlRetired rest (pre ++ [(⟨k, k + 1⟩ : S58)]) (i + 1) (k + 2) (by simp [hp]) (by omega) (by omega) (by omega)
    rw [List.append_assoc] at this
    rw [show k + 2 * ((s :: rest).length : Int) = k + 2 + 2 * (rest.length : Int) by simp only [List.length_cons]; omega]
    exact this
theorem markSRetired {l : List S58} {k : Int} (hl : l.length ≤ 10000000) (h0 : 0 ≤ k) (h1 : k ≤ 100000000000) : Ev (fun n => laws_markRetiredS.f n l k) (k + 2 * (l.length : Int), markLRetired k l) := by
  unfold laws_markRetiredS.f
  exact marklRetired l [] 0 k rfl h0 (by omega) (by omega)
theorem heldSRetired {l : List S58} {k : Int} (hl : l.length ≤ 10000000) (h0 : 0 ≤ k) (h1 : k ≤ 100000000000) : Ev (fun n => laws_heldRetiredS.f n (markLRetired k l) k) (k + 2 * (l.length : Int)) := by
  unfold laws_heldRetiredS.f
  exact heldlRetired l [] 0 k rfl h0 (by omega) (by omega)

/-! ### ep_sp -/
abbrev Re := S58
abbrev LRe := S75
theorem in_f (a b c : Int) : spec_l1In.f a b c = some (decide (b ≤ a ∧ a ≤ c)) := by
  unfold spec_l1In.f
  split
  · congr 1; simp; omega
  · congr 1; simp; omega
theorem max_f (a b : Int) : spec_l1Max.f a b = some (if a > b then a else b) := by
  unfold spec_l1Max.f
  split <;> rfl
abbrev pinB := impl_EpochsOk.pin
abbrev lstB := impl_EpochsOk.lst
/-- No two alike: as the reference asks. -/
theorem lst_ext (now : Int) : ∀ (r s1 s2 : List Re), (∀ id, s1.any (fun y => decide (y.f0 = id)) = s2.any (fun y => decide (y.f0 = id))) → lstB now s1 r = lstB now s2 r
  | [], _, _, _ => rfl
  | x :: r, s1, s2, h => by
    show impl_EpochsOk.lst now s1 (x :: r) = impl_EpochsOk.lst now s2 (x :: r)
    rw [impl_EpochsOk.lst, impl_EpochsOk.lst, h x.f0]
    congr 2
    exact lst_ext now r _ _ (fun id => by rw [List.any_append, List.any_append, h id])
theorem sp_inner {now : Int} {pins : List Int} {l : List Re} (hl : l.length ≤ 9223372036854775807) {i : Nat} {x : Re} {rest : List Re} (hx : l.drop i = x :: rest) {res : Bool} (next : Ev (fun k => spec_EpochsOk.l1 k (wrap64 ((i : Int) + 1)) now pins l) res) :
    ∀ (d j : Nat), j + d = i → Ev (fun k => spec_EpochsOk.l2 k (i : Int) (j : Int) now pins l) (!(((l.take i).drop j).any fun y => decide (y.f0 = x.f0)) && res)
  | 0, j, hj => by
    have hlt := drop_lt hx
    refine Ev.step (fun k => rfl) ?_
    simp only [spec_EpochsOk.l2]
    refine ev_neg (by omega) ?_
    rw [List.drop_eq_nil_of_le (by simp; omega)]
    simpa using next
  | d + 1, j, hj => by
    have hlt := drop_lt hx
    have hjl : j < l.length := by omega
    have hjx : l.drop j = l[j] :: l.drop (j + 1) := List.drop_eq_getElem_cons hjl
    have htk : (l.take i).drop j = l[j] :: (l.take i).drop (j + 1) := by
      rw [List.drop_eq_getElem_cons (by simp; omega)]
      simp
    refine Ev.step (fun k => rfl) ?_
    simp only [spec_EpochsOk.l2, rdRetired hx, rdRetired hjx, if_pos (show (j : Int) < (i : Int) by omega), if_pos (show (0 : Int) ≤ (j : Int) by omega), if_pos (show (j : Int) < (l.length : Int) by omega), if_pos (show (0 : Int) ≤ (i : Int) by omega), if_pos (show (i : Int) < (l.length : Int) by omega)]
    rw [htk, List.any_cons]
    by_cases c : l[j].f0 = x.f0
    · simp only [if_pos c, decide_eq_true c, Bool.true_or, Bool.not_true, Bool.false_and]
      exact ev_now _
    · simp only [if_neg c, decide_eq_false c, Bool.false_or]
      rw [wrap_succ hjl hl]
      exact sp_inner hl hx next d (j + 1) (by omega)
theorem sp_list {now : Int} {pins : List Int} {l : List Re} (hl : l.length ≤ 9223372036854775807) : ∀ (rest : List Re) (i : Nat), l.drop i = rest → Ev (fun k => spec_EpochsOk.l1 k (i : Int) now pins l) (lstB now (l.take i) rest)
  | [], i, h => by
    have := drop_nil_len h
    refine Ev.step (fun k => rfl) ?_
    simp only [spec_EpochsOk.l1]
    exact ev_neg (by omega) (ev_now _)
  | x :: rest, i, h => by
    have hlt := drop_lt h
    have next : Ev (fun k => spec_EpochsOk.l1 k (wrap64 ((i : Int) + 1)) now pins l) (lstB now (l.take i ++ [x]) rest) := by
      have := sp_list (now := now) (pins := pins) hl rest (i + 1) (drop_next h)
      rw [wrap_succ hlt hl, ← drop_take h]
      exact this
    have inner := sp_inner hl h next i 0 (by omega)
    rw [List.drop_zero] at inner
    refine Ev.step (fun k => rfl) ?_
    simp only [spec_EpochsOk.l1, rdRetired h, in_f, Option.bind_some, if_pos (show (i : Int) < (l.length : Int) by omega), if_pos (show (0 : Int) ≤ (i : Int) by omega)]
    show Ev _ (impl_EpochsOk.lst now (l.take i) (x :: rest))
    rw [impl_EpochsOk.lst]
    by_cases c : x.f0 < 1
    · simp only [if_pos c]
      rw [decide_eq_false (fun hh => by omega), Bool.false_and]
      refine Ev.step (fun k => rfl) ?_
      simp only [spec_EpochsOk.j3, if_true]
      exact ev_now _
    · simp only [if_neg c]
      refine Ev.step (fun k => rfl) ?_
      simp only [spec_EpochsOk.j3]
      by_cases c2 : 1 ≤ x.f1 ∧ x.f1 ≤ now
      · rw [decide_eq_true c2, decide_eq_true (show _ from ⟨c2, by omega⟩), Bool.true_and]
        simp only [Bool.not_true, Bool.false_eq_true, if_false]
        exact inner
      · rw [decide_eq_false c2, decide_eq_false (fun hh => c2 hh.1), Bool.false_and]
        simp only [Bool.not_false, if_true]
        exact ev_now _
theorem sp_pins {now : Int} (h1 : 1 ≤ now) (h2 : now ≤ 1000) {pins : List Int} {l : List Re} (hp : pins.length ≤ 9223372036854775807) {res : Bool} (next : Ev (fun k => spec_EpochsOk.l1 k 0 now pins l) res) : ∀ (rest : List Int) (i : Nat), pins.drop i = rest →
    Ev (fun k => spec_EpochsOk.l0 k (i : Int) now pins l) (rest.all (pinB now) && res)
  | [], i, h => by
    have := drop_nil_len h
    refine Ev.step (fun k => rfl) ?_
    simp only [spec_EpochsOk.l0]
    refine ev_neg (by omega) ?_
    simpa using next
  | p :: rest, i, h => by
    have hlt := drop_lt h
    have ih := sp_pins h1 h2 hp next rest (i + 1) (drop_next h)
    refine Ev.step (fun k => rfl) ?_
    simp only [spec_EpochsOk.l0, rdInt h, in_f, max_f, Option.bind_some, if_pos (show (i : Int) < (pins.length : Int) by omega), if_pos (show (0 : Int) ≤ (i : Int) by omega)]
    rw [wrap_succ hlt hp, wrap_id (x := now - 1) (by omega) (by omega), List.all_cons]
    by_cases c : p = 0
    · simp only [if_pos c]
      have hz : pinB now p = true := by show impl_EpochsOk.pin now p = true; unfold impl_EpochsOk.pin; simp [c]
      rw [hz, Bool.true_and]
      exact ih
    · simp only [if_neg c]
      have hpin : pinB now p = decide ((if now - 1 > 1 then now - 1 else 1) ≤ p ∧ p ≤ now) := by
        show impl_EpochsOk.pin now p = _
        unfold impl_EpochsOk.pin
        rw [wrap_id (x := now - 1) (by omega) (by omega)]
        congr 1
        apply propext
        constructor
        · intro hh
          split <;> omega
        · intro hh
          split at hh <;> omega
      rw [hpin]
      by_cases c2 : (if now - 1 > 1 then now - 1 else 1) ≤ p ∧ p ≤ now
      · simp only [decide_eq_true c2, if_true, Bool.true_and]
        exact ih
      · simp only [decide_eq_false c2, Bool.false_eq_true, if_false, Bool.false_and]
        exact ev_now _
abbrev epOk := impl_EpochsOk.ok
/-- The reference says of epochs what the program says. -/
theorem sp_ok {now : Int} {pins : List Int} {l : List Re} (hp : pins.length ≤ 9223372036854775807) (hl : l.length ≤ 9223372036854775807) : Ev (fun k => spec_EpochsOk.f k now pins l) (epOk now pins l) := by
  unfold spec_EpochsOk.f
  show Ev _ (impl_EpochsOk.ok now pins l)
  unfold impl_EpochsOk.ok
  simp only [in_f, Option.bind_some]
  have no : Ev (fun k => spec_EpochsOk.j0 k true now pins l) false := by
    refine Ev.step (fun k => rfl) ?_
    simp only [spec_EpochsOk.j0, if_true]
    exact ev_now _
  by_cases c1 : 1 ≤ now ∧ now ≤ 1000
  · simp only [decide_eq_true c1, if_true, Bool.true_and]
    by_cases c2 : 1 ≤ (pins.length : Int) ∧ (pins.length : Int) ≤ 4
    · simp only [decide_eq_true c2, if_true]
      rw [decide_eq_true (show 1 ≤ pins.length ∧ pins.length ≤ 4 by omega), Bool.true_and]
      refine Ev.step (fun k => rfl) ?_
      simp only [spec_EpochsOk.j0, decide_eq_true_eq]
      by_cases c3 : (l.length : Int) > 30
      · simp only [if_pos c3]
        rw [decide_eq_false (show ¬ (l.length : Int) ≤ 30 by omega), Bool.and_false, Bool.and_false]
        exact ev_now _
      · simp only [if_neg c3]
        rw [decide_eq_true (show (l.length : Int) ≤ 30 by omega), Bool.and_true]
        exact sp_pins c1.1 c1.2 hp (sp_list hl l 0 rfl) pins 0 rfl
    · simp only [decide_eq_false c2, Bool.false_eq_true, if_false]
      rw [decide_eq_false (show ¬ (1 ≤ pins.length ∧ pins.length ≤ 4) by omega), Bool.false_and, Bool.and_false, Bool.and_false]
      exact no
  · simp only [decide_eq_false c1, Bool.false_eq_true, if_false, Bool.false_and, Bool.and_false]
    exact no

/-! ### ep_ex -/
theorem eq_ep (n : Int) {p : List Int} {l : List Re} (hp : p.length ≤ 9223372036854775807) (hl : l.length ≤ 9223372036854775807) : Ev (fun k => laws_eqEpochs.f k n p l n p l) true := by
  unfold laws_eqEpochs.f
  simp only [if_true]
  refine Ev.bind (eqSInt hp) ?_
  simp only [if_true]
  refine Ev.bind (eqSRetired hl) ?_
  simp only [if_true]
  exact ev_now _
theorem to_ep (n : Int) {p : List Int} {l : List LRe} (hp : p.length ≤ 1048576) (hl : l.length ≤ 1048576) : Ev (fun k => laws_toEpochs.f k n p l) (n, p.map to1Int, l.map to1Retired) := by
  unfold laws_toEpochs.f
  refine Ev.bind (toSInt hp) ?_
  refine Ev.bind (toSRetired hl) ?_
  exact ev_now _
/-- Past the bound nothing is asked; within it all is small. -/
theorem sz_ep (n : Int) {p : List Int} {l : List LRe} (hp : p.length ≤ 9223372036854775807) (hl : l.length ≤ 9223372036854775807) : ∃ q, laws_szEpochs.f n p l 1048576 = some q ∧ (q < 0 ∨ 0 ≤ q ∧ p.length ≤ 1048576 ∧ l.length ≤ 1048576) := by
  unfold laws_szEpochs.f
  rw [szSInt hp (by omega) (by omega)]
  by_cases h : (1048576 : Int) < (p.length : Int)
  · exact ⟨-1, by simp [if_pos h], .inl (by omega)⟩
  · rw [if_neg h, Option.bind_some, if_neg (by omega), szSRetired hl (by omega) (by omega)]
    by_cases h2 : (1048576 : Int) - (p.length : Int) < (l.length : Int)
    · exact ⟨-1, by simp [if_pos h2], .inl (by omega)⟩
    · exact ⟨_, by rw [if_neg h2, Option.bind_some, if_neg (by omega)], .inr ⟨by omega, by omega, by omega⟩⟩

/-! ### ep_mh -/
/-- What is marked is held. -/
theorem mh_ep (n : Int) {p : List Int} {l : List Re} (hp : p.length ≤ 10000000) (hl : l.length ≤ 10000000) : ∃ m p' l', Ev (fun k => laws_markEpochs.f k n p l 1) (m, p', l') ∧ (Ev (fun k => laws_heldEpochs.f k n p' l' 1) m) ∧ 1 ≤ m := by
  refine ⟨1 + 1 * (p.length : Int) + 2 * (l.length : Int), markLInt 1 p, markLRetired (1 + 1 * (p.length : Int)) l, ?_, ?_, by omega⟩
  · unfold laws_markEpochs.f
    refine Ev.bind (markSInt hp (by omega) (by omega)) ?_
    refine Ev.bind (markSRetired hl (by omega) (by omega)) ?_
    exact ev_now _
  · unfold laws_heldEpochs.f
    refine Ev.bind (heldSInt hp (by omega) (by omega)) ?_
    refine ev_neg (by omega) ?_
    refine Ev.bind (heldSRetired hl (by omega) (by omega)) ?_
    exact ev_neg (by omega) (ev_now _)

/-! ### ep_copy -/
theorem sp_copy (n : Int) {p : List Int} {l : List Re} (hp : p.length ≤ 10000000) (hl : l.length ≤ 10000000) : spec_l25Copy.f n p l = some (n, p, l) := by
  unfold spec_l25Copy.f
  simp only [Option.bind_some, List.length_nil, List.nil_append]
  rw [if_pos (by omega), if_pos (by omega)]
theorem im_copy (n : Int) {p : List Int} {l : List Re} (hp : p.length ≤ 10000000) (hl : l.length ≤ 10000000) : impl_copyEpochs.f n p l = some (n, p, l) := by
  unfold impl_copyEpochs.f
  rw [show slices_Clone_int_int.f p = some p by unfold slices_Clone_int_int.f; rw [if_pos (by omega)], Option.bind_some,
    show impl_Retired_68.f l = some l by unfold impl_Retired_68.f; rw [if_pos (by omega)], Option.bind_some]

/-! ### ep_Collect -/
/-- What is collected, and what stays. -/
def colIds (n : Int) : List Re → List Int
  | [] => []
  | x :: r => if x.f1 ≤ wrap64 (n - 2) then x.f0 :: colIds n r else colIds n r
def colRest (n : Int) : List Re → List Re
  | [] => []
  | x :: r => if x.f1 ≤ wrap64 (n - 2) then colRest n r else x :: colRest n r
theorem colIds_len (n : Int) : ∀ l : List Re, (colIds n l).length ≤ l.length
  | [] => by simp [colIds]
  | x :: r => by have := colIds_len n r; rw [colIds]; split <;> simp <;> omega
theorem colRest_len (n : Int) : ∀ l : List Re, (colRest n l).length ≤ l.length
  | [] => by simp [colRest]
  | x :: r => by have := colRest_len n r; rw [colRest]; split <;> simp <;> omega
theorem im_col (n : Int) (p : List Int) (l0 : List Re) {l : List Re} (hl : l.length ≤ 10000000) : ∀ (rest : List Re) (i : Nat) (a : List Int) (b : List Re), l.drop i = rest → a.length ≤ i → b.length ≤ i →
    Ev (fun k => impl_Collect.l0 k a b l (l.length : Int) (i : Int) n p l0) (n, p, b ++ colRest n rest, a ++ colIds n rest)
  | [], i, a, b, h, ha, hb => by
    have := drop_nil_len h
    refine Ev.step (fun k => rfl) ?_
    simp only [impl_Collect.l0, colRest, colIds, List.append_nil]
    exact ev_neg (by omega) (ev_now _)
  | x :: rest, i, a, b, h, ha, hb => by
    have hlt := drop_lt h
    refine Ev.step (fun k => rfl) ?_
    simp only [impl_Collect.l0, rdRetired h, if_pos (show (i : Int) < (l.length : Int) by omega), if_pos (show (0 : Int) ≤ (i : Int) by omega), colRest, colIds]
    rw [wrap_succ hlt (by omega)]
    by_cases c : x.f1 ≤ wrap64 (n - 2)
    · simp only [if_pos c]
      refine ev_pos (by omega) ?_
      have := im_col n p l0 hl rest (i + 1) (a ++ [x.f0]) b (drop_next h) (by simp; omega) (by omega)
      rw [List.append_assoc] at this
      exact this
    · simp only [if_neg c]
      refine ev_pos (by omega) ?_
      have := im_col n p l0 hl rest (i + 1) a (b ++ [x]) (drop_next h) (by omega) (by simp; omega)
      rw [List.append_assoc] at this
      exact this
theorem sp_col (n m : Int) (p q : List Int) {l : List Re} (hl : l.length ≤ 10000000) : ∀ (rest : List Re) (i : Nat) (a : List Int) (b : List Re), l.drop i = rest → a.length ≤ i → b.length ≤ i →
    Ev (fun k => spec_Collect.l0 k a (i : Int) n p l m q b) (m, q, b ++ colRest n rest, a ++ colIds n rest)
  | [], i, a, b, h, ha, hb => by
    have := drop_nil_len h
    refine Ev.step (fun k => rfl) ?_
    simp only [spec_Collect.l0, colRest, colIds, List.append_nil]
    exact ev_neg (by omega) (ev_now _)
  | x :: rest, i, a, b, h, ha, hb => by
    have hlt := drop_lt h
    refine Ev.step (fun k => rfl) ?_
    simp only [spec_Collect.l0, rdRetired h, if_pos (show (i : Int) < (l.length : Int) by omega), if_pos (show (0 : Int) ≤ (i : Int) by omega), colRest, colIds]
    rw [wrap_succ hlt (by omega)]
    by_cases c : x.f1 ≤ wrap64 (n - 2)
    · simp only [if_pos c]
      refine ev_pos (by omega) ?_
      have := sp_col n m p q hl rest (i + 1) (a ++ [x.f0]) b (drop_next h) (by simp; omega) (by omega)
      rw [List.append_assoc] at this
      exact this
    · simp only [if_neg c]
      refine ev_pos (by omega) ?_
      have := sp_col n m p q hl rest (i + 1) a (b ++ [x]) (drop_next h) (by omega) (by simp; omega)
      rw [List.append_assoc] at this
      exact this
theorem both_Collect (n : Int) {p : List Int} {l : List Re} (hp : p.length ≤ 1048576) (hl : l.length ≤ 1048576) :
    ∃ n' p' l' b, Ev (fun k => spec_Collect.f k n p l) (n', p', l', b) ∧ Ev (fun k => impl_Collect.f k n p l) (n', p', l', b) ∧ p'.length ≤ 10000000 ∧ l'.length ≤ 10000000 ∧ b.length ≤ 10000000 := by
  have hsp := sp_ok (now := n) (pins := p) (l := l) (by omega) (by omega)
  have h1 := colIds_len n l
  have h2 := colRest_len n l
  have c1 := sp_col n n p p (l := l) (by omega) l 0 [] [] rfl (by simp) (by simp)
  have c2 := im_col n p l (l := l) (by omega) l 0 [] [] rfl (by simp) (by simp)
  have go : Ev (fun k => spec_Collect.f k n p l) (if epOk n p l = true then (n, p, colRest n l, colIds n l) else (n, p, l, [])) := by
    unfold spec_Collect.f
    simp only [sp_copy n (show p.length ≤ 10000000 by omega) (show l.length ≤ 10000000 by omega), Option.bind_some]
    refine Ev.bind hsp ?_
    cases epOk n p l with
    | false => simp only [Bool.false_eq_true, if_false]; exact ev_now _
    | true =>
      simp only [if_true, List.length_nil, List.nil_append]
      exact ev_pos (by omega) c1
  have go2 : Ev (fun k => impl_Collect.f k n p l) (if epOk n p l = true then (n, p, colRest n l, colIds n l) else (n, p, l, [])) := by
    unfold impl_Collect.f
    simp only [im_copy n (show p.length ≤ 10000000 by omega) (show l.length ≤ 10000000 by omega), Option.bind_some, impl_EpochsOk.f]
    show Ev (fun k => if epOk n p l = true then _ else _) _
    cases epOk n p l with
    | false => simp only [Bool.false_eq_true, if_false]; exact ev_now _
    | true =>
      simp only [if_true]
      exact c2
  cases c : epOk n p l with
  | true =>
    rw [c] at go go2
    exact ⟨_, _, _, _, go, go2, by omega, by omega, by omega⟩
  | false =>
    rw [c] at go go2
    exact ⟨_, _, _, _, go, go2, by omega, by omega, by simp⟩
/-- What is marked is held, and the numbers beside it. -/
theorem mh_col (n : Int) {p : List Int} {l : List Re} {b : List Int} (hp : p.length ≤ 10000000) (hl : l.length ≤ 10000000) (hb : b.length ≤ 10000000) : ∃ m p' l' m2 b', Ev (fun k => laws_markEpochs.f k n p l 1) (m, p', l') ∧ Ev (fun k => laws_markIntS.f k b m) (m2, b') ∧
    Ev (fun k => laws_heldEpochs.f k n p' l' 1) m ∧ Ev (fun k => laws_heldIntS.f k b' m) m2 ∧ 1 ≤ m ∧ 1 ≤ m2 := by
  refine ⟨1 + 1 * (p.length : Int) + 2 * (l.length : Int), markLInt 1 p, markLRetired (1 + 1 * (p.length : Int)) l, _, _, ?_, markSInt hb (by omega) (by omega), ?_, heldSInt hb (by omega) (by omega), by omega, by omega⟩
  · unfold laws_markEpochs.f
    refine Ev.bind (markSInt hp (by omega) (by omega)) ?_
    refine Ev.bind (markSRetired hl (by omega) (by omega)) ?_
    exact ev_now _
  · unfold laws_heldEpochs.f
    refine Ev.bind (heldSInt hp (by omega) (by omega)) ?_
    refine ev_neg (by omega) ?_
    refine Ev.bind (heldSRetired hl (by omega) (by omega)) ?_
    exact ev_neg (by omega) (ev_now _)

/-! ### main_Collect -/
theorem FnExactCollect (a0 : Int) (p : List Int) (l : List LRe) (ok : WfI a0 ∧ WfL WfI p ∧ WfL ok75 l) : ∃ k, laws_FnExactCollect.f k a0 p l = some true := by
  refine Ev.rounds (g := fun k => laws_FnExactCollect.f k a0 p l) ?_
  unfold laws_FnExactCollect.f
  obtain ⟨q, hq, hb⟩ := sz_ep a0 ok.2.1.1 ok.2.2.1
  rw [hq]
  simp only [Option.bind_some]
  rcases hb with hb | ⟨h0, hp, hl⟩
  · exact ev_pos hb (ev_now _)
  · refine ev_neg (by omega) ?_
    have hp' : (p.map to1Int).length ≤ 1048576 := by simp; omega
    have hl' : (l.map to1Retired).length ≤ 1048576 := by simp; omega
    obtain ⟨n', p', l', b, hs, hi, hpl, hll, hbl⟩ := both_Collect a0 (p := p.map to1Int) (l := l.map to1Retired) hp' hl'
    obtain ⟨m1, x1, x2, hm1, _, hge1⟩ := mh_ep a0 (p := p.map to1Int) (l := l.map to1Retired) (by omega) (by omega)
    obtain ⟨m2, y1, y2, m3, y3, hm2, hm3, hh2, hh3, hge2, hge3⟩ := mh_col n' hpl hll hbl
    have heq := eq_ep n' (p := p') (l := l') (by omega) (by omega)
    have heb := eqSInt (l := b) (by omega)
    refine Ev.bind (to_ep a0 hp hl) ?_
    refine Ev.bind hs ?_
    refine Ev.bind (to_ep a0 hp hl) ?_
    refine Ev.bind hi ?_
    refine Ev.bind heq ?_
    simp only [if_true]
    refine Ev.bind heb ?_
    refine Ev.step (fun k => rfl) ?_
    simp only [laws_FnExactCollect.j0, Bool.not_true, Bool.false_eq_true, if_false]
    refine Ev.bind (to_ep a0 hp hl) ?_
    refine Ev.bind (eq_ep a0 (by omega) (by omega)) ?_
    simp only [if_true]
    refine Ev.bind hm1 ?_
    refine ev_neg (by show ¬ m1 < 0; omega) ?_
    refine Ev.bind heq ?_
    simp only [if_true]
    refine Ev.bind heb ?_
    refine Ev.step (fun k => rfl) ?_
    simp only [laws_FnExactCollect.j1, Bool.not_true, Bool.false_eq_true, if_false]
    refine Ev.bind hm2 ?_
    refine Ev.bind hm3 ?_
    refine Ev.bind hh2 ?_
    refine ev_neg (by omega) ?_
    refine Ev.bind hh3 ?_
    refine ev_neg (by omega) ?_
    refine ev_pos rfl ?_
    refine Ev.bind (to_ep a0 hp hl) ?_
    refine Ev.bind hi ?_
    refine Ev.bind heq ?_
    simp only [if_true]
    refine Ev.bind heb ?_
    refine Ev.step (fun k => rfl) ?_
    simp only [laws_FnExactCollect.j2, Bool.not_true, Bool.false_eq_true, if_false]
    refine Ev.bind hh2 ?_
    refine ev_neg (by omega) ?_
    refine Ev.bind hh3 ?_
    exact ev_neg (by omega) (ev_pos rfl (ev_now _))
end Go.Proofs.Ytpidphppldimkaa.Pure
