/- Plain lemmas on numbers, lists and rounds, of no program. -/
import Derived.Test.YtiadonijmkklcaaWWords
namespace Go.Proofs.Ytiadonijmkklcaa.Aid
open Go.RowKit Go.Proofs.YtiadonijmkklcaaW.PrintWords
set_option linter.unusedVariables false

theorem wrap_id {x : Int} (h1 : -9223372036854775808 ≤ x) (h2 : x ≤ 9223372036854775807) : wrap64 x = x := by unfold wrap64; omega
theorem wrap_lo (x : Int) : -9223372036854775808 ≤ wrap64 x := by unfold wrap64; omega
theorem wrap_hi (x : Int) : wrap64 x ≤ 9223372036854775807 := by unfold wrap64; omega
theorem wrap_succ {i n : Nat} (h : i < n) (hn : n ≤ 9223372036854775807) : wrap64 ((i : Int) + 1) = ((i + 1 : Nat) : Int) := by unfold wrap64; omega

/-! ### a list from a place on -/
theorem drop_nil_len {α : Type} {l : List α} {i : Nat} (h : l.drop i = []) : l.length ≤ i := by
  simpa using h
theorem drop_lt {α : Type} {l : List α} {i : Nat} {s : α} {r : List α} (h : l.drop i = s :: r) : i < l.length := by
  rcases Nat.lt_or_ge i l.length with h1 | h1
  · exact h1
  · rw [List.drop_eq_nil_of_le h1] at h; cases h
theorem drop_at {α : Type} {l : List α} {i : Nat} {s : α} {r : List α} (h : l.drop i = s :: r) : l[i]? = some s := by
  have h1 := drop_lt h
  rw [List.drop_eq_getElem_cons h1] at h
  rw [List.getElem?_eq_getElem h1]
  injection h with h2 _
  rw [h2]
theorem drop_next {α : Type} {l : List α} {i : Nat} {s : α} {r : List α} (h : l.drop i = s :: r) : l.drop (i + 1) = r := by
  have h1 := drop_lt h
  rw [List.drop_eq_getElem_cons h1] at h
  injection h
theorem drop_getD {α : Type} {l : List α} {i : Nat} {s z : α} {r : List α} (h : l.drop i = s :: r) : l.getD ((i : Int).toNat) z = s := by
  rw [Int.toNat_natCast, List.getD_eq_getElem?_getD, drop_at h]; rfl
theorem drop_mem {α : Type} {l : List α} {i : Nat} {s : α} {r : List α} (h : l.drop i = s :: r) : s ∈ l := List.mem_of_getElem? (drop_at h)
theorem drop_take {α : Type} {l : List α} {i : Nat} {s : α} {r : List α} (h : l.drop i = s :: r) : l.take (i + 1) = l.take i ++ [s] := by
  rw [List.take_add_one, drop_at h]; rfl
theorem set_mid {α : Type} (p : List α) (x y : α) (r : List α) {i : Nat} (h : p.length = i) : (p ++ x :: r).set i y = p ++ y :: r := by
  subst h
  simp

/-! ### rounds -/
theorem ev_now {α : Type} (r : α) : Ev (fun _ => some r) r := Ev.now r
theorem ev_of {α : Type} {o : Option α} {r : α} (h : o = some r) : Ev (fun _ => o) r := ⟨0, fun _ _ => h⟩
theorem ev_bindc {α β : Type} {o : Option α} {f : Nat → α → Option β} {a : α} {r : β} (h : o = some a) (k : Ev (fun n => f n a) r) : Ev (fun n => o.bind (f n)) r := by
  subst h; exact k
theorem ev_pos {α : Type} {c : Prop} [Decidable c] {g f : Nat → Option α} {r : α} (h : c) (e : Ev g r) : Ev (fun k => if c then g k else f k) r := by
  simp only [if_pos h]; exact e
theorem ev_neg {α : Type} {c : Prop} [Decidable c] {g f : Nat → Option α} {r : α} (h : ¬ c) (e : Ev f r) : Ev (fun k => if c then g k else f k) r := by
  simp only [if_neg h]; exact e
end Go.Proofs.Ytiadonijmkklcaa.Aid
