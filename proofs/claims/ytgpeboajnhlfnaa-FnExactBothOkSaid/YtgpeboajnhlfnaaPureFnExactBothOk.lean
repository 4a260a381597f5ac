/- The plain half of the law FnExactBothOk: both BothOk say the same of all words. No condition but that numbers are int64. -/
import Derived.Test.YtgpeboajnhlfnaaPFnExactBothOkx14
import Derived.Test.YtgpeboajnhlfnaaOpnFnExactBothOk
import Derived.Test.YtgpeboajnhlfnaaAid
namespace Go.Proofs.Ytgpeboajnhlfnaa.Pure
open Go.RowKit Go.Proofs.Ytgpeboajnhlfnaa.PFnExactBothOk Go.Proofs.YtgpeboajnhlfnaaW.PrintWords Go.Proofs.YtgpeboajnhlfnaaW.PrintLast Go.Proofs.Ytgpeboajnhlfnaa.Aid Go.Proofs.Ytgpeboajnhlfnaa.Opn Go.Proofs.Ytgpeboajnhlfnaa.Open
set_option linter.unusedVariables false
set_option linter.unusedSimpArgs false

/-! ### ex_Int -/
theorem rdInt {l : List Int} {i : Nat} {s : Int} {r : List Int} (h : l.drop i = s :: r) : rd l (i : Int) = s := drop_getD h
theorem rdmInt {p : List Int} {s : Int} {r : List Int} {i : Nat} (h : p.length = i) : rd (p ++ s :: r) (i : Int) = s := rdInt (r := r) (by subst h; simp)
theorem setmInt {p : List Int} {s v : Int} {r : List Int} {i : Nat} (h : p.length = i) : (p ++ s :: r).set ((i : Int).toNat) v = p ++ v :: r := by rw [Int.toNat_natCast]; exact set_mid _ _ _ _ h
theorem eqlInt {l : List Int} (hl : l.length ≤ 9223372036854775807) : ∀ (rest : List Int) (i : Nat), l.drop i = rest → Ev (fun k => laws_eqIntS.l0 k l l (i : Int)) true
  | [], i, h => by
    have := drop_nil_len h
    refine Ev.step (fun k => rfl) ?_
    simp only [laws_eqIntS.l0]
    exact ev_neg (by omega) (ev_now _)
  | s :: rest, i, h => by
    have hlt := drop_lt h
    refine Ev.step (fun k => rfl) ?_
    simp only [laws_eqIntS.l0, rdInt h,  if_pos (show (i : Int) < (l.length : Int) by omega), if_pos (show (0 : Int) ≤ (i : Int) by omega), if_true]
    rw [wrap_succ hlt hl]
    exact eqlInt hl rest (i + 1) (drop_next h)
theorem eqSInt {l : List Int} (hl : l.length ≤ 9223372036854775807) : Ev (fun k => laws_eqIntS.f k l l) true := by
  unfold laws_eqIntS.f
  simp only [if_true]
  exact eqlInt hl l 0 rfl
def to1Int (s : Int) : Int := s
theorem tolInt {l : List Int} (hl : l.length ≤ 9223372036854775807) : ∀ (rest : List Int) (i : Nat), l.drop i = rest →
    Ev (fun k => laws_toIntS.l0 k l ((l.take i).map to1Int ++ List.replicate rest.length (0 : Int)) (i : Int)) (l.map to1Int)
  | [], i, h => by
    have := drop_nil_len h
    refine Ev.step (fun k => rfl) ?_
    simp only [laws_toIntS.l0]
    refine ev_neg (by omega) ?_
    rw [List.take_of_length_le this]
    simp only [List.length_nil, List.replicate_zero, List.append_nil]
    exact ev_now _
  | s :: rest, i, h => by
    have hlt := drop_lt h
    have hlen : ((l.take i).map to1Int).length = i := by simp; omega
    refine Ev.step (fun k => rfl) ?_
    simp only [laws_toIntS.l0, rdInt h,  if_pos (show (i : Int) < (l.length : Int) by omega), if_pos (show (0 : Int) ≤ (i : Int) by omega), List.length_cons, List.replicate_succ, setmInt hlen]
    rw [wrap_succ hlt hl]
    refine ev_pos (by simp; omega) ?_
    have := tolInt hl rest (i + 1) (drop_next h)
    rw [drop_take h, List.map_append, List.append_assoc] at this
    exact this
theorem toSInt {l : List Int} (hl : l.length ≤ 1048576) : Ev (fun k => laws_toIntS.f k l) (l.map to1Int) := by
  unfold laws_toIntS.f
  simp only [if_pos (show (0 : Int) ≤ (l.length : Int) by omega), Int.toNat_natCast]
  refine ev_pos (by omega) ?_
  have := tolInt (by omega) l 0 rfl
  simpa using this
theorem szSInt {l : List Int} {a : Int} (hl : l.length ≤ 9223372036854775807) (h0 : 0 ≤ a) (h1 : a ≤ 1048576) : laws_szIntS.f l a = some (if a < (l.length : Int) then -1 else a - (l.length : Int)) := by
  unfold laws_szIntS.f
  rw [wrap_id (by omega) (by omega)]
  by_cases h : a < (l.length : Int)
  · simp only [if_pos (show a - (l.length : Int) < 0 by omega), if_pos h]
  · simp only [if_neg (show ¬ a - (l.length : Int) < 0 by omega), if_neg h]

/-! ### ex_Want -/
theorem rdWant {l : List S40} {i : Nat} {s : S40} {r : List S40} (h : l.drop i = s :: r) : rd_T40 l (i : Int) = s := drop_getD h
theorem rdLWant {l : List S85} {i : Nat} {s : S85} {r : List S85} (h : l.drop i = s :: r) : rd_T85 l (i : Int) = s := drop_getD h
theorem rdmWant {p : List S40} {s : S40} {r : List S40} {i : Nat} (h : p.length = i) : rd_T40 (p ++ s :: r) (i : Int) = s := rdWant (r := r) (by subst h; simp)
theorem setmWant {p : List S40} {s v : S40} {r : List S40} {i : Nat} (h : p.length = i) : (p ++ s :: r).set ((i : Int).toNat) v = p ++ v :: r := by rw [Int.toNat_natCast]; exact set_mid _ _ _ _ h
theorem eq1Want (s : S40) : laws_eqWant.f s.f0 s.f1 s.f2 s.f3 s.f4 s.f5 s.f6 s.f7 s.f0 s.f1 s.f2 s.f3 s.f4 s.f5 s.f6 s.f7 = some true := by unfold laws_eqWant.f; simp
theorem eqlWant {l : List S40} (hl : l.length ≤ 9223372036854775807) : ∀ (rest : List S40) (i : Nat), l.drop i = rest → Ev (fun k => laws_eqWantS.l0 k l l (i : Int)) true
  | [], i, h => by
    have := drop_nil_len h
    refine Ev.step (fun k => rfl) ?_
    simp only [laws_eqWantS.l0]
    exact ev_neg (by omega) (ev_now _)
  | s :: rest, i, h => by
    have hlt := drop_lt h
    refine Ev.step (fun k => rfl) ?_
    simp only [laws_eqWantS.l0, rdWant h, eq1Want, Option.bind_some, if_pos (show (i : Int) < (l.length : Int) by omega), if_pos (show (0 : Int) ≤ (i : Int) by omega), if_true]
    rw [wrap_succ hlt hl]
    exact eqlWant hl rest (i + 1) (drop_next h)
theorem eqSWant {l : List S40} (hl : l.length ≤ 9223372036854775807) : Ev (fun k => laws_eqWantS.f k l l) true := by
  unfold laws_eqWantS.f
  simp only [if_true]
  exact eqlWant hl l 0 rfl
def to1Want (s : S85) : S40 := ⟨s.f0, s.f1, s.f2, s.f3, s.f4, s.f5, s.f6, s.f7⟩
theorem tolWant {l : List S85} (hl : l.length ≤ 9223372036854775807) : ∀ (rest : List S85) (i : Nat), l.drop i = rest →
    Ev (fun k => laws_toWantS.l0 k l ((l.take i).map to1Want ++ List.replicate rest.length z40) (i : Int)) (l.map to1Want)
  | [], i, h => by
    have := drop_nil_len h
    refine Ev.step (fun k => rfl) ?_
    simp only [laws_toWantS.l0]
    refine ev_neg (by omega) ?_
    rw [List.take_of_length_le this]
    simp only [List.length_nil, List.replicate_zero, List.append_nil]
    exact ev_now _
  | s :: rest, i, h => by
    have hlt := drop_lt h
    have hlen : ((l.take i).map to1Want).length = i := by simp; omega
    refine Ev.step (fun k => rfl) ?_
    simp only [laws_toWantS.l0, rdLWant h, laws_toWant.f, Option.bind_some, if_pos (show (i : Int) < (l.length : Int) by omega), if_pos (show (0 : Int) ≤ (i : Int) by omega), List.length_cons, List.replicate_succ, setmWant hlen]
    rw [wrap_succ hlt hl]
    refine ev_pos (by simp; omega) ?_
    have := tolWant hl rest (i + 1) (drop_next h)
    rw [drop_take h, List.map_append, List.append_assoc] at this
    exact this
theorem toSWant {l : List S85} (hl : l.length ≤ 1048576) : Ev (fun k => laws_toWantS.f k l) (l.map to1Want) := by
  unfold laws_toWantS.f
  simp only [if_pos (show (0 : Int) ≤ (l.length : Int) by omega), Int.toNat_natCast]
  refine ev_pos (by omega) ?_
  have := tolWant (by omega) l 0 rfl
  simpa using this
theorem szSWant {l : List S85} {a : Int} (hl : l.length ≤ 9223372036854775807) (h0 : 0 ≤ a) (h1 : a ≤ 1048576) : laws_szWantS.f l a = some (if a < (l.length : Int) then -1 else a - (l.length : Int)) := by
  unfold laws_szWantS.f
  rw [wrap_id (by omega) (by omega)]
  by_cases h : a < (l.length : Int)
  · simp only [if_pos (show a - (l.length : Int) < 0 by omega), if_pos h]
  · simp only [if_neg (show ¬ a - (l.length : Int) < 0 by omega), if_neg h]

/-! ### ex_Event -/
theorem rdEvent {l : List S38} {i : Nat} {s : S38} {r : List S38} (h : l.drop i = s :: r) : rd_T38 l (i : Int) = s := drop_getD h
theorem rdLEvent {l : List S99} {i : Nat} {s : S99} {r : List S99} (h : l.drop i = s :: r) : rd_T99 l (i : Int) = s := drop_getD h
theorem rdmEvent {p : List S38} {s : S38} {r : List S38} {i : Nat} (h : p.length = i) : rd_T38 (p ++ s :: r) (i : Int) = s := rdEvent (r := r) (by subst h; simp)
theorem setmEvent {p : List S38} {s v : S38} {r : List S38} {i : Nat} (h : p.length = i) : (p ++ s :: r).set ((i : Int).toNat) v = p ++ v :: r := by rw [Int.toNat_natCast]; exact set_mid _ _ _ _ h
theorem eq1Event (s : S38) : laws_eqEvent.f s.f0 s.f1 s.f2 s.f0 s.f1 s.f2 = some true := by unfold laws_eqEvent.f; simp
theorem eqlEvent {l : List S38} (hl : l.length ≤ 9223372036854775807) : ∀ (rest : List S38) (i : Nat), l.drop i = rest → Ev (fun k => laws_eqEventS.l0 k l l (i : Int)) true
  | [], i, h => by
    have := drop_nil_len h
    refine Ev.step (fun k => rfl) ?_
    simp only [laws_eqEventS.l0]
    exact ev_neg (by omega) (ev_now _)
  | s :: rest, i, h => by
    have hlt := drop_lt h
    refine Ev.step (fun k => rfl) ?_
    simp only [laws_eqEventS.l0, rdEvent h, eq1Event, Option.bind_some, if_pos (show (i : Int) < (l.length : Int) by omega), if_pos (show (0 : Int) ≤ (i : Int) by omega), if_true]
    rw [wrap_succ hlt hl]
    exact eqlEvent hl rest (i + 1) (drop_next h)
theorem eqSEvent {l : List S38} (hl : l.length ≤ 9223372036854775807) : Ev (fun k => laws_eqEventS.f k l l) true := by
  unfold laws_eqEventS.f
  simp only [if_true]
  exact eqlEvent hl l 0 rfl
def to1Event (s : S99) : S38 := ⟨s.f0, s.f1, s.f2⟩
theorem tolEvent {l : List S99} (hl : l.length ≤ 9223372036854775807) : ∀ (rest : List S99) (i : Nat), l.drop i = rest →
    Ev (fun k => laws_toEventS.l0 k l ((l.take i).map to1Event ++ List.replicate rest.length z38) (i : Int)) (l.map to1Event)
  | [], i, h => by
    have := drop_nil_len h
    refine Ev.step (fun k => rfl) ?_
    simp only [laws_toEventS.l0]
    refine ev_neg (by omega) ?_
    rw [List.take_of_length_le this]
    simp only [List.length_nil, List.replicate_zero, List.append_nil]
    exact ev_now _
  | s :: rest, i, h => by
    have hlt := drop_lt h
    have hlen : ((l.take i).map to1Event).length = i := by simp; omega
    refine Ev.step (fun k => rfl) ?_
    simp only [laws_toEventS.l0, rdLEvent h, laws_toEvent.f, Option.bind_some, if_pos (show (i : Int) < (l.length : Int) by omega), if_pos (show (0 : Int) ≤ (i : Int) by omega), List.length_cons, List.replicate_succ, setmEvent hlen]
    rw [wrap_succ hlt hl]
    refine ev_pos (by simp; omega) ?_
    have := tolEvent hl rest (i + 1) (drop_next h)
    rw [drop_take h, List.map_append, List.append_assoc] at this
    exact this
theorem toSEvent {l : List S99} (hl : l.length ≤ 1048576) : Ev (fun k => laws_toEventS.f k l) (l.map to1Event) := by
  unfold laws_toEventS.f
  simp only [if_pos (show (0 : Int) ≤ (l.length : Int) by omega), Int.toNat_natCast]
  refine ev_pos (by omega) ?_
  have := tolEvent (by omega) l 0 rfl
  simpa using this
theorem szSEvent {l : List S99} {a : Int} (hl : l.length ≤ 9223372036854775807) (h0 : 0 ≤ a) (h1 : a ≤ 1048576) : laws_szEventS.f l a = some (if a < (l.length : Int) then -1 else a - (l.length : Int)) := by
  unfold laws_szEventS.f
  rw [wrap_id (by omega) (by omega)]
  by_cases h : a < (l.length : Int)
  · simp only [if_pos (show a - (l.length : Int) < 0 by omega), if_pos h]
  · simp only [if_neg (show ¬ a - (l.length : Int) < 0 by omega), if_neg h]

/-! ### bo_ex -/
abbrev Wa := S40
abbrev Ee := S38
abbrev LWa := S85
abbrev LEe := S99
theorem eq_bo {a : List Int} (x y z : Int) {l : List Wa} {e : List Ee} (ha : a.length ≤ 9223372036854775807) (hl : l.length ≤ 9223372036854775807) (he : e.length ≤ 9223372036854775807) : Ev (fun k => laws_eqBoth.f k a x y z l e a x y z l e) true := by
  unfold laws_eqBoth.f
  simp only [if_true]
  refine Ev.bind (eqSInt ha) ?_
  simp only [if_true]
  refine Ev.bind (eqSWant hl) ?_
  simp only [if_true]
  refine Ev.bind (eqSEvent he) ?_
  simp only [if_true]
  exact ev_now _
theorem to_bo {a : List Int} (x y z : Int) {l : List LWa} {e : List LEe} (ha : a.length ≤ 1048576) (hl : l.length ≤ 1048576) (he : e.length ≤ 1048576) : Ev (fun k => laws_toBoth.f k a x y z l e) (a.map to1Int, x, y, z, l.map to1Want, e.map to1Event) := by
  unfold laws_toBoth.f
  refine Ev.bind (toSInt ha) ?_
  refine Ev.bind (toSWant hl) ?_
  refine Ev.bind (toSEvent he) ?_
  exact ev_now _
/-- Past the bound nothing is asked; within it all is small. -/
theorem sz_bo {a : List Int} (x y z : Int) {l : List LWa} {e : List LEe} (ha : a.length ≤ 9223372036854775807) (hl : l.length ≤ 9223372036854775807) (he : e.length ≤ 9223372036854775807) : ∃ q, laws_szBoth.f a x y z l e 1048576 = some q ∧ (q < 0 ∨ 0 ≤ q ∧ a.length ≤ 1048576 ∧ l.length ≤ 1048576 ∧ e.length ≤ 1048576) := by
  unfold laws_szBoth.f
  rw [szSInt ha (by omega) (by omega)]
  by_cases h : (1048576 : Int) < (a.length : Int)
  · exact ⟨-1, by simp [if_pos h], .inl (by omega)⟩
  · rw [if_neg h, Option.bind_some, if_neg (by omega), szSWant hl (by omega) (by omega)]
    by_cases h2 : (1048576 : Int) - (a.length : Int) < (l.length : Int)
    · exact ⟨-1, by simp [if_pos h2], .inl (by omega)⟩
    · rw [if_neg h2, Option.bind_some, if_neg (by omega), szSEvent he (by omega) (by omega)]
      by_cases h3 : (1048576 : Int) - (a.length : Int) - (l.length : Int) < (e.length : Int)
      · exact ⟨-1, by simp [if_pos h3], .inl (by omega)⟩
      · exact ⟨_, by rw [if_neg h3, Option.bind_some, if_neg (by omega)], .inr ⟨by omega, by omega, by omega, by omega⟩⟩

/-! ### bo_ok -/
abbrev in9 (n : Int) : Bool := decide (0 ≤ n ∧ n ≤ 9)
abbrev wOk := spec_l26Want.ok
theorem in_f (a b c : Int) : spec_l1In.f a b c = some (decide (b ≤ a ∧ a ≤ c)) := spec_l26Want.in_f a b c
theorem fr_f (a b c : Int) : impl_from.f a b c = some (decide (b ≤ a ∧ a ≤ c)) := impl_small_1.from_f a b c
theorem small_f (l : List Int) : impl_small.f l = some (l.all in9) := by
  unfold impl_small.f
  simp only [impl_small_1.f, Option.bind_some]
  congr 1
  induction l with
  | nil => rfl
  | cons n r ih =>
    rw [List.any_cons, List.all_cons, Bool.not_or, ih]
    congr 1
    simp [impl_small_1.p, in9]
def p23 (w : Wa) : Bool := decide (w.f3 = 2 ∨ w.f3 = 3)
def evOk (n : Nat) (e : Ee) : Bool := decide (0 ≤ e.f0 ∧ e.f0 ≤ wrap64 ((n : Int) - 1)) && in9 e.f2
def sAll (m n : Nat) (z : Int) : Nat → List Wa → Bool
  | _, [] => true
  | i, w :: r => wOk m n z (i : Int) w && sAll m n z (i + 1) r
/-- What the program asks of a want. -/
def iOk (m n : Nat) (z t : Int) (w : Wa) : Bool :=
  in9 w.f0 && (in9 w.f1 && (in9 w.f2 && in9 w.f5)) && (decide (0 ≤ w.f3 ∧ w.f3 ≤ 6) && (decide (0 ≤ w.f6 ∧ w.f6 ≤ (m : Int) - 1) && (decide (0 ≤ w.f7 ∧ w.f7 ≤ 2) &&
    (if w.f3 ≥ 5 then decide (1 ≤ w.f4 ∧ w.f4 ≤ (n : Int)) && (w.f7 == 0) else if w.f4 = 0 then
      (if w.f3 = 0 ∨ w.f3 = 1 then (w.f7 == 0) else if w.f3 = 4 then (w.f7 != 0) else (w.f7 == 0) == (z == t + 1)) else false))))
def iAll (m n : Nat) (z : Int) : Nat → List Wa → Bool
  | _, [] => true
  | i, w :: r => iOk m n z (i : Int) w && iAll m n z (i + 1) r
theorem w_i (m n : Nat) (z t : Int) (w : Wa) : wOk m n z t w = (iOk m n z t w && (!(z == t + 1) || p23 w)) := by
  show spec_l26Want.ok m n z t w = _
  have hi : iOk m n z t w = (spec_l26Want.c7 m w && (if w.f3 ≥ 5 then decide (1 ≤ w.f4 ∧ w.f4 ≤ (n : Int)) && (w.f7 == 0) else if w.f4 = 0 then
      (if w.f3 = 0 ∨ w.f3 = 1 then (w.f7 == 0) else if w.f3 = 4 then (w.f7 != 0) else (w.f7 == 0) == (z == t + 1)) else false)) := by
    unfold iOk spec_l26Want.c7 in9
    simp only [Bool.and_assoc]
  rw [hi]
  unfold spec_l26Want.ok
  by_cases hc : spec_l26Want.c7 m w = true
  · rw [hc, Bool.true_and, Bool.true_and]
    unfold spec_l26Want.c7 at hc
    simp only [Bool.and_eq_true, decide_eq_true_eq] at hc
    obtain ⟨_, _, _, _, h3, _, h7⟩ := hc
    have h3' : w.f3 = 0 ∨ w.f3 = 1 ∨ w.f3 = 2 ∨ w.f3 = 3 ∨ w.f3 = 4 ∨ w.f3 = 5 ∨ w.f3 = 6 := by omega
    have h7' : w.f7 = 0 ∨ w.f7 = 1 ∨ w.f7 = 2 := by omega
    unfold spec_l26Want.bad p23
    obtain ⟨qz, hqz⟩ : ∃ b, (z == t + 1) = b := ⟨_, rfl⟩
    rw [hqz]
    by_cases h4 : w.f4 = 0
    · have e4 : ¬ (1 ≤ w.f4 ∧ w.f4 ≤ (n : Int)) := by omega
      rw [decide_eq_false e4, h4]
      rcases h3' with h | h | h | h | h | h | h <;> rcases h7' with g | g | g <;> rw [h, g] <;> cases qz <;> rfl
    · have e4 : (w.f4 != 0) = true := by simp [h4]
      rw [e4, if_neg h4]
      cases decide (1 ≤ w.f4 ∧ w.f4 ≤ (n : Int)) <;> rcases h3' with h | h | h | h | h | h | h <;> rcases h7' with g | g | g <;> rw [h, g] <;> cases qz <;> rfl
  · have hf : spec_l26Want.c7 m w = false := Bool.eq_false_iff.mpr hc
    rw [hf]
    rfl
theorem s_i (m n : Nat) (z : Int) {l : List Wa} (hz : 0 ≤ z) (hz2 : z ≤ (l.length : Int)) : ∀ (rest : List Wa) (i : Nat), l.drop i = rest →
    sAll m n z i rest = (iAll m n z i rest && (decide (z ≤ (i : Int)) || p23 (rd_T40 l (z - 1))))
  | [], i, h => by
    have := drop_nil_len h
    rw [sAll, iAll, decide_eq_true (by omega)]
    rfl
  | w :: rest, i, h => by
    have hlt := drop_lt h
    rw [sAll, iAll, w_i, s_i m n z hz hz2 rest (i + 1) (drop_next h)]
    by_cases c : z = (i : Int) + 1
    · have e : rd_T40 l (z - 1) = w := by rw [c, Int.add_sub_cancel]; exact rdWant h
      rw [e, decide_eq_true (show z ≤ ((i + 1 : Nat) : Int) by omega), decide_eq_false (show ¬ z ≤ (i : Int) by omega), beq_iff_eq.mpr c]
      cases iOk m n z (i : Int) w <;> cases iAll m n z (i + 1) rest <;> cases p23 w <;> rfl
    · rw [beq_eq_false_iff_ne.mpr c, show decide (z ≤ ((i + 1 : Nat) : Int)) = decide (z ≤ (i : Int)) by congr 1; apply propext; omega]
      cases iOk m n z (i : Int) w <;> cases iAll m n z (i + 1) rest <;> simp
theorem sp_l2 {a : List Int} (x y z : Int) {l : List Wa} {e : List Ee} (hz : 0 ≤ z) (hz2 : z ≤ (l.length : Int)) (hl : l.length ≤ 1048576) (he : e.length ≤ 1048576) : ∀ (rest : List Ee) (i : Nat), e.drop i = rest →
    Ev (fun k => spec_BothOk.l2 k (i : Int) a x y z l e) (rest.all (evOk l.length) && (decide (z = 0) || ((rd_T40 l (z - 1)).f1 == x)))
  | [], i, h => by
    have := drop_nil_len h
    refine Ev.step (fun k => rfl) ?_
    simp only [spec_BothOk.l2]
    refine ev_neg (by omega) ?_
    rw [wrap_id (x := z - 1) (by omega) (by omega)]
    by_cases c : z = 0
    · rw [decide_eq_true c]
      exact ev_pos c (ev_now _)
    · rw [decide_eq_false c]
      refine ev_neg c (ev_pos (by omega) (ev_pos (by omega) ?_))
      simp only [List.all_nil, Bool.true_and, Bool.false_or]
      exact ev_now _
  | v :: rest, i, h => by
    have hlt := drop_lt h
    have ih := sp_l2 (a := a) x y z hz hz2 hl he rest (i + 1) (drop_next h)
    refine Ev.step (fun k => rfl) ?_
    simp only [spec_BothOk.l2, rdEvent h, in_f, Option.bind_some, if_pos (show (i : Int) < (e.length : Int) by omega), if_pos (show (0 : Int) ≤ (i : Int) by omega)]
    rw [wrap_succ hlt (by omega), List.all_cons, evOk]
    by_cases c1 : 0 ≤ v.f0 ∧ v.f0 ≤ wrap64 ((l.length : Int) - 1)
    · by_cases c2 : 0 ≤ v.f2 ∧ v.f2 ≤ 9
      · simp only [in9, decide_eq_true c1, decide_eq_true c2, if_true, Bool.true_and]
        exact ih
      · simp only [in9, decide_eq_true c1, decide_eq_false c2, if_true, Bool.false_eq_true, if_false, Bool.true_and, Bool.false_and]
        exact ev_now _
    · simp only [decide_eq_false c1, Bool.false_eq_true, if_false, Bool.false_and]
      exact ev_now _
theorem sp_l1 {a : List Int} (x y z : Int) {l : List Wa} {e : List Ee} (hl : l.length ≤ 1048576) {res : Bool} (next : Ev (fun k => spec_BothOk.l2 k 0 a x y z l e) res) : ∀ (rest : List Wa) (i : Nat), l.drop i = rest →
    Ev (fun k => spec_BothOk.l1 k (i : Int) a x y z l e) (sAll a.length l.length z i rest && res)
  | [], i, h => by
    have := drop_nil_len h
    refine Ev.step (fun k => rfl) ?_
    simp only [spec_BothOk.l1]
    refine ev_neg (by omega) ?_
    simpa [sAll] using next
  | w :: rest, i, h => by
    have hlt := drop_lt h
    have ih := sp_l1 x y z hl next rest (i + 1) (drop_next h)
    refine Ev.step (fun k => rfl) ?_
    simp only [spec_BothOk.l1, spec_l26Want.f, rdWant h, if_pos (show (0 : Int) ≤ (i : Int) ∧ (i : Int) < (l.length : Int) by omega), Option.bind_some, if_pos (show (i : Int) < (l.length : Int) by omega)]
    rw [wrap_succ hlt (by omega), sAll]
    show Ev (fun k => if spec_l26Want.ok a.length l.length z (i : Int) w = true then _ else _) (spec_l26Want.ok a.length l.length z (i : Int) w && _ && _)
    cases spec_l26Want.ok a.length l.length z (i : Int) w with
    | true => simp only [if_true, Bool.true_and]; exact ih
    | false => simp only [Bool.false_eq_true, if_false, Bool.false_and]; exact ev_now _
theorem sp_l0 {a : List Int} (x y z : Int) {l : List Wa} {e : List Ee} (ha : a.length ≤ 1048576) {res : Bool} (next : Ev (fun k => spec_BothOk.l1 k 0 a x y z l e) res) : ∀ (rest : List Int) (i : Nat), a.drop i = rest →
    Ev (fun k => spec_BothOk.l0 k (i : Int) a x y z l e) (rest.all in9 && res)
  | [], i, h => by
    have := drop_nil_len h
    refine Ev.step (fun k => rfl) ?_
    simp only [spec_BothOk.l0]
    refine ev_neg (by omega) ?_
    simpa using next
  | n :: rest, i, h => by
    have hlt := drop_lt h
    have ih := sp_l0 x y z ha next rest (i + 1) (drop_next h)
    refine Ev.step (fun k => rfl) ?_
    simp only [spec_BothOk.l0, rdInt h, in_f, Option.bind_some, if_pos (show (i : Int) < (a.length : Int) by omega), if_pos (show (0 : Int) ≤ (i : Int) by omega)]
    rw [wrap_succ hlt (by omega), List.all_cons]
    show Ev (fun k => if in9 n = true then _ else _) (in9 n && _ && _)
    cases in9 n with
    | true => simp only [if_true, Bool.true_and]; exact ih
    | false => simp only [Bool.false_eq_true, if_false, Bool.false_and]; exact ev_now _
def sfin (x z : Int) (l : List Wa) : Bool := decide (z = 0) || ((rd_T40 l (z - 1)).f1 == x)
def ifin (x z : Int) (l : List Wa) : Bool := decide (z = 0) || (p23 (rd_T40 l (z - 1)) && (x == (rd_T40 l (z - 1)).f1))
/-- What is right, as the program asks it. -/
def boOk (a : List Int) (x y z : Int) (l : List Wa) (e : List Ee) : Bool :=
  decide (1 ≤ (l.length : Int) ∧ (l.length : Int) ≤ 6) && (decide (1 ≤ (a.length : Int) ∧ (a.length : Int) ≤ 60) && (decide ((e.length : Int) ≤ 60) && (a.all in9 && (in9 x && (in9 y && (decide (0 ≤ z ∧ z ≤ (l.length : Int)) &&
    (e.all (evOk l.length) && (iAll a.length l.length z 0 l && ifin x z l))))))))
theorem sp_bo {a : List Int} (x y z : Int) {l : List Wa} {e : List Ee} (ha : a.length ≤ 1048576) (hl : l.length ≤ 1048576) (he : e.length ≤ 1048576) :
    Ev (fun k => spec_BothOk.f k a x y z l e) (boOk a x y z l e) := by
  unfold spec_BothOk.f boOk
  simp only [in_f, Option.bind_some]
  have no : Ev (fun k => spec_BothOk.j0 k true a x y z l e) false := by
    refine Ev.step (fun k => rfl) ?_
    simp only [spec_BothOk.j0, if_true]
    exact ev_now _
  by_cases c1 : 1 ≤ (l.length : Int) ∧ (l.length : Int) ≤ 6
  · simp only [decide_eq_true c1, if_true, Bool.true_and]
    by_cases c2 : 1 ≤ (a.length : Int) ∧ (a.length : Int) ≤ 60
    · simp only [decide_eq_true c2, if_true, Bool.true_and]
      by_cases c3 : (e.length : Int) > 60
      · simp only [if_pos c3]
        rw [decide_eq_false (show ¬ (e.length : Int) ≤ 60 by omega), Bool.false_and]
        exact no
      · simp only [if_neg c3]
        rw [decide_eq_true (show (e.length : Int) ≤ 60 by omega), Bool.true_and]
        by_cases c4 : 0 ≤ x ∧ x ≤ 9
        · simp only [in9, decide_eq_true c4, if_true, Bool.true_and]
          by_cases c5 : 0 ≤ y ∧ y ≤ 9
          · simp only [decide_eq_true c5, if_true, Bool.true_and]
            refine Ev.step (fun k => rfl) ?_
            simp only [spec_BothOk.j0]
            by_cases c6 : 0 ≤ z ∧ z ≤ (l.length : Int)
            · simp only [decide_eq_true c6, Bool.not_true, Bool.false_eq_true, if_false, Bool.true_and]
              have h2 := sp_l2 (a := a) x y z c6.1 c6.2 hl he e 0 rfl
              have h1 := sp_l1 (a := a) x y z hl h2 l 0 rfl
              have h0 := sp_l0 x y z ha h1 a 0 rfl
              rw [s_i a.length l.length z c6.1 c6.2 l 0 rfl] at h0
              have eq : (a.all in9 && (iAll a.length l.length z 0 l && (decide (z ≤ ((0 : Nat) : Int)) || p23 (rd_T40 l (z - 1))) && (e.all (evOk l.length) && (decide (z = 0) || ((rd_T40 l (z - 1)).f1 == x))))) =
                  (a.all in9 && (e.all (evOk l.length) && (iAll a.length l.length z 0 l && ifin x z l))) := by
                unfold ifin
                rw [show decide (z ≤ ((0 : Nat) : Int)) = decide (z = 0) by congr 1; apply propext; omega, show ((rd_T40 l (z - 1)).f1 == x) = (x == (rd_T40 l (z - 1)).f1) from Bool.beq_comm]
                cases a.all in9 <;> cases iAll a.length l.length z 0 l <;> cases e.all (evOk l.length) <;> cases decide (z = 0) <;> cases p23 (rd_T40 l (z - 1)) <;> cases (x == (rd_T40 l (z - 1)).f1) <;> rfl
              rw [eq] at h0
              exact h0
            · simp only [decide_eq_false c6, Bool.not_false, if_true, Bool.false_and, Bool.and_false]
              exact ev_now _
          · simp only [decide_eq_false c5, Bool.false_eq_true, if_false, Bool.false_and, Bool.and_false]
            exact no
        · simp only [in9, decide_eq_false c4, Bool.false_eq_true, if_false, Bool.false_and, Bool.and_false]
          exact no
    · simp only [decide_eq_false c2, Bool.false_eq_true, if_false, Bool.false_and]
      exact no
  · simp only [decide_eq_false c1, Bool.false_eq_true, if_false, Bool.false_and]
    exact no
theorem im_w {a : List Int} (x y z : Int) {l : List Wa} {e : List Ee} (hl : l.length ≤ 1048576) {i : Nat} {w : Wa} {rest : List Wa} (h : l.drop i = w :: rest) (ha : a.length ≤ 1048576) :
    Ev (fun k => impl_wantOk.f k a x y z l e (i : Int)) (iOk a.length l.length z (i : Int) w) := by
  have hlt := drop_lt h
  unfold impl_wantOk.f iOk
  simp only [rdWant h, small_f, fr_f, Option.bind_some, List.all_cons, List.all_nil, Bool.and_true]
  refine ev_pos (by omega) (ev_pos (by omega) ?_)
  rw [wrap_id (x := (a.length : Int) - 1) (by omega) (by omega)]
  have no : Ev (fun k => impl_wantOk.j0 k (i : Int) true a x y z l e w.f0 w.f1 w.f2 w.f3 w.f4 w.f5 w.f6 w.f7) false := by
    refine Ev.step (fun k => rfl) ?_
    simp only [impl_wantOk.j0, if_true]
    exact ev_now _
  cases (in9 w.f0 && (in9 w.f1 && (in9 w.f2 && in9 w.f5))) with
  | false => simp only [Bool.false_eq_true, if_false, Bool.false_and]; exact no
  | true =>
    simp only [if_true, Bool.true_and]
    cases decide (0 ≤ w.f3 ∧ w.f3 ≤ 6) with
    | false => simp only [Bool.false_eq_true, if_false, Bool.false_and]; exact no
    | true =>
      simp only [if_true, Bool.true_and]
      cases decide (0 ≤ w.f6 ∧ w.f6 ≤ (a.length : Int) - 1) with
      | false => simp only [Bool.false_eq_true, if_false, Bool.false_and]; exact no
      | true =>
        simp only [if_true, Bool.true_and]
        cases decide (0 ≤ w.f7 ∧ w.f7 ≤ 2) with
        | false => simp only [Bool.not_false, Bool.false_and]; exact no
        | true =>
          simp only [Bool.not_true, Bool.true_and]
          refine Ev.step (fun k => rfl) ?_
          simp only [impl_wantOk.j0, Bool.false_eq_true, if_false, fr_f, Option.bind_some]
          by_cases c5 : w.f3 ≥ 5
          · simp only [if_pos c5]
            cases decide (1 ≤ w.f4 ∧ w.f4 ≤ (l.length : Int)) with
            | true => simp only [if_true, Bool.true_and]; exact ev_now _
            | false => simp only [Bool.false_eq_true, if_false, Bool.false_and]; exact ev_now _
          · simp only [if_neg c5]
            by_cases c4 : w.f4 = 0
            · simp only [if_pos c4]
              have j : ∀ b, b = decide (w.f3 = 0 ∨ w.f3 = 1) → Ev (fun k => impl_wantOk.j1 k (i : Int) w.f3 b a x y z l e w.f0 w.f1 w.f2 w.f3 w.f4 w.f5 w.f6 w.f7) (if w.f3 = 0 ∨ w.f3 = 1 then (w.f7 == 0) else if w.f3 = 4 then (w.f7 != 0) else (w.f7 == 0) == (z == (i : Int) + 1)) := by
                intro b hb
                refine Ev.step (fun k => rfl) ?_
                simp only [impl_wantOk.j1]
                rw [wrap_id (x := (i : Int) + 1) (by omega) (by omega), hb]
                by_cases c : w.f3 = 0 ∨ w.f3 = 1
                · simp only [decide_eq_true c, if_true, if_pos c]; exact ev_now _
                · simp only [decide_eq_false c, Bool.false_eq_true, if_false, if_neg c]
                  by_cases d : w.f3 = 4
                  · simp only [if_pos d]; exact ev_now _
                  · simp only [if_neg d]; exact ev_now _
              by_cases c0 : w.f3 = 0
              · simp only [if_pos c0]
                exact j _ (by simp [c0])
              · simp only [if_neg c0]
                exact j _ (by rw [Bool.eq_iff_iff]; simp [c0])
            · simp only [if_neg c4]
              exact ev_now _
theorem im_l0 {a : List Int} (x y z : Int) {l : List Wa} {e : List Ee} (hz : 0 ≤ z) (hz2 : z ≤ (l.length : Int)) (hl : l.length ≤ 1048576) (ha : a.length ≤ 1048576) : ∀ (rest : List Wa) (i : Nat), l.drop i = rest →
    Ev (fun k => impl_BothOk.l0 k (l.length : Int) (i : Int) a x y z l e) (iAll a.length l.length z i rest && ifin x z l)
  | [], i, h => by
    have := drop_nil_len h
    refine Ev.step (fun k => rfl) ?_
    simp only [impl_BothOk.l0]
    refine ev_neg (by omega) ?_
    rw [wrap_id (x := z - 1) (by omega) (by omega), iAll, Bool.true_and, ifin]
    by_cases c : z = 0
    · rw [decide_eq_true c]
      exact ev_pos c (ev_now _)
    · rw [decide_eq_false c]
      refine ev_neg c (ev_pos (by omega) (ev_pos (by omega) ?_))
      rw [Bool.false_or, p23]
      by_cases c2 : (rd_T40 l (z - 1)).f3 = 2
      · rw [decide_eq_true (.inl c2), Bool.true_and]
        exact ev_pos c2 (ev_now _)
      · refine ev_neg c2 ?_
        by_cases c3 : (rd_T40 l (z - 1)).f3 = 3
        · rw [decide_eq_true (.inr c3), Bool.true_and]
          exact ev_pos c3 (ev_now _)
        · rw [decide_eq_false (fun h => h.elim c2 c3), Bool.false_and]
          exact ev_neg c3 (ev_now _)
  | w :: rest, i, h => by
    have hlt := drop_lt h
    have ih := im_l0 (e := e) x y z hz hz2 hl ha rest (i + 1) (drop_next h)
    refine Ev.step (fun k => rfl) ?_
    simp only [impl_BothOk.l0, if_pos (show (i : Int) < (l.length : Int) by omega)]
    rw [wrap_succ hlt (by omega), iAll]
    refine Ev.bind (im_w x y z hl h ha) ?_
    cases iOk a.length l.length z (i : Int) w with
    | true => simp only [if_true, Bool.true_and]; exact ih
    | false => simp only [Bool.false_eq_true, if_false, Bool.false_and]; exact ev_now _
theorem im_bo {a : List Int} (x y z : Int) {l : List Wa} {e : List Ee} (ha : a.length ≤ 1048576) (hl : l.length ≤ 1048576) (he : e.length ≤ 1048576) :
    Ev (fun k => impl_BothOk.f k a x y z l e) (boOk a x y z l e) := by
  unfold impl_BothOk.f boOk
  simp only [fr_f, small_f, Option.bind_some, List.all_cons, List.all_nil, Bool.and_true]
  have no : Ev (fun k => impl_BothOk.j0 k true a x y z l e (l.length : Int)) false := by
    refine Ev.step (fun k => rfl) ?_
    simp only [impl_BothOk.j0, if_true]
    exact ev_now _
  by_cases c1 : 1 ≤ (l.length : Int) ∧ (l.length : Int) ≤ 6
  · simp only [decide_eq_true c1, if_true, Bool.true_and]
    by_cases c2 : 1 ≤ (a.length : Int) ∧ (a.length : Int) ≤ 60
    · simp only [decide_eq_true c2, if_true, Bool.true_and]
      by_cases c3 : (e.length : Int) > 60
      · simp only [if_pos c3]
        rw [decide_eq_false (show ¬ (e.length : Int) ≤ 60 by omega), Bool.false_and]
        exact no
      · simp only [if_neg c3]
        rw [decide_eq_true (show (e.length : Int) ≤ 60 by omega), Bool.true_and]
        cases a.all in9 with
        | false => simp only [Bool.false_eq_true, if_false, Bool.false_and]; exact no
        | true =>
          simp only [if_true, Bool.true_and]
          rw [← Bool.and_assoc (in9 x)]
          cases (in9 x && in9 y) with
          | false => simp only [Bool.false_eq_true, if_false, Bool.false_and]; exact no
          | true =>
            simp only [if_true, Bool.true_and]
            refine Ev.step (fun k => rfl) ?_
            simp only [impl_BothOk.j0]
            by_cases c6 : 0 ≤ z ∧ z ≤ (l.length : Int)
            · simp only [decide_eq_true c6, Bool.not_true, Bool.false_eq_true, if_false, Bool.true_and, impl_BothOk_1.f, Option.bind_some]
              have hev : e.any (impl_BothOk_1.p (l.length : Int)) = !e.all (evOk l.length) := by
                clear no he c3
                induction e with
                | nil => rfl
                | cons v r ih =>
                  rw [List.any_cons, List.all_cons, Bool.not_and, ih]
                  congr 1
                  unfold impl_BothOk_1.p evOk in9
                  rw [Bool.not_and]
              rw [hev]
              cases e.all (evOk l.length) with
              | false => simp only [Bool.not_false, if_true, Bool.false_and]; exact ev_now _
              | true =>
                simp only [Bool.not_true, Bool.false_eq_true, if_false, Bool.true_and]
                exact im_l0 (a := a) x y z c6.1 c6.2 hl ha l 0 rfl
            · simp only [decide_eq_false c6, Bool.not_false, if_true, Bool.false_and]
              exact ev_now _
    · simp only [decide_eq_false c2, Bool.false_eq_true, if_false, Bool.false_and]
      exact no
  · simp only [decide_eq_false c1, Bool.false_eq_true, if_false, Bool.false_and]
    exact no
theorem both_BothOk {a : List Int} (x y z : Int) {l : List Wa} {e : List Ee} (ha : a.length ≤ 1048576) (hl : l.length ≤ 1048576) (he : e.length ≤ 1048576) :
    ∃ b, Ev (fun k => spec_BothOk.f k a x y z l e) b ∧ Ev (fun k => impl_BothOk.f k a x y z l e) b := ⟨_, sp_bo x y z ha hl he, im_bo x y z ha hl he⟩

/-! ### main_BothOk -/
theorem FnExactBothOk (a : List Int) (x y z : Int) (l : List LWa) (e : List LEe) (ok : WfL WfI a ∧ WfI x ∧ WfI y ∧ WfI z ∧ WfL ok85 l ∧ WfL ok99 e) : ∃ k, laws_FnExactBothOk.f k a x y z l e = some true := by
  refine Ev.rounds (g := fun k => laws_FnExactBothOk.f k a x y z l e) ?_
  unfold laws_FnExactBothOk.f
  obtain ⟨q, hq, hb⟩ := sz_bo x y z ok.1.1 ok.2.2.2.2.1.1 ok.2.2.2.2.2.1
  rw [hq]
  simp only [Option.bind_some]
  rcases hb with hb | ⟨h0, ha, hl, he⟩
  · exact ev_pos hb (ev_now _)
  · refine ev_neg (by omega) ?_
    have ha' : (a.map to1Int).length ≤ 1048576 := by simp; omega
    have hl' : (l.map to1Want).length ≤ 1048576 := by simp; omega
    have he' : (e.map to1Event).length ≤ 1048576 := by simp; omega
    obtain ⟨b, hs, hi⟩ := both_BothOk (a := a.map to1Int) x y z (l := l.map to1Want) (e := e.map to1Event) ha' hl' he'
    refine Ev.bind (to_bo x y z ha hl he) ?_
    refine Ev.bind hs ?_
    refine Ev.bind (to_bo x y z ha hl he) ?_
    refine Ev.bind hi ?_
    simp only [bne_self_eq_false, Bool.false_eq_true, if_false]
    refine Ev.bind (to_bo x y z ha hl he) ?_
    refine Ev.bind (eq_bo x y z (by omega) (by omega) (by omega)) ?_
    simp only [if_true]
    exact ev_now _
end Go.Proofs.Ytgpeboajnhlfnaa.Pure
