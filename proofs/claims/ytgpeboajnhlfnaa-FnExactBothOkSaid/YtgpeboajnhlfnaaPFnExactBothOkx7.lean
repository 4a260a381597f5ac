/- The contracts of the functions that the law FnExactBothOk reaches, each proved: what each computes. Written by programs and by hand. -/
import Derived.Test.YtgpeboajnhlfnaaPFnExactBothOkx0
import Derived.Test.YtgpeboajnhlfnaaPFnExactBothOkx4
import Derived.Test.YtgpeboajnhlfnaaPFnExactBothOkx6
namespace Go.Proofs.Ytgpeboajnhlfnaa.PFnExactBothOk
open Go.RowKit Go.Proofs.YtgpeboajnhlfnaaW.PrintWords Go.Proofs.YtgpeboajnhlfnaaW.PrintLast Go.Proofs.YtgpeboajnhlfnaaW.PrintMore
attribute [local go_sem] max2_int min2_int max_two min_two max_three min_three max_four min_four   -- for this text's walks alone
set_option linter.unusedVariables false
set_option linter.unusedSimpArgs false

/-! ### hand: SmallV: function 86 -/
def impl_small_1.p (n : Int) : Bool := !decide (0 ≤ n ∧ n ≤ 9)
def impl_small_1.f (l : List Int) : Option Bool := some (l.any impl_small_1.p)
theorem impl_small_1.from_f (a b c : Int) : impl_from.f a b c = some (decide (b ≤ a ∧ a ≤ c)) := by
  unfold impl_from.f
  split
  · congr 1; simp; omega
  · congr 1; simp; omega
theorem impl_small_1.one (n : Int) (W : World) :
    Calls Try.prog 86 (#[.int .i64 n] ++ #[]) W fun e w' => e = .returned (.bool (impl_small_1.p n)) ∧ Below W.heap.size W w' := by
  show Calls Try.prog 86 #[.int .i64 n] W _
  obtain ⟨b, e⟩ : ∃ b, b = decide (0 ≤ n ∧ n ≤ 9) := ⟨_, rfl⟩
  have g := impl_small_1.from_f n 0 9
  unfold impl_small_1.p
  rw [← e] at g ⊢
  clear e
  go_enter Try.func86, Try.ntmps86
  go_wp2_with (go_at_call 56; ((with_reducible refine (impl_from.calls n 0 9 _ _ g).mono ?_)); rintro e w' ⟨rfl, ⟨nd1, rfl⟩⟩)
  go_ret
  exact ⟨rfl, pw_below_drewN (Below.refl _ W) _⟩
theorem impl_small_1.calls (A0 : Option Addr) (c0 : Nat) (l0 : List Int) (r : Bool) (w : World) (hr0 : Kd.C (Kd.int .i64) w A0 l0.length l0) (hc0 : l0.length ≤ c0) (h : impl_small_1.f l0 = some r) :
    Calls Try.prog 85 #[.slice A0 l0.length c0, .func (.func 86) #[] #[]] w fun e w' => e = .returned (.bool r) ∧ Below w.heap.size w w' := by
  rw [← Option.some.inj h]
  exact slices_ContainsFunc_int_int.calls impl_small_1.p 86 #[] (enters_of Try.func86 (by kernel_rfl) rfl) A0 c0 l0 w hr0 (fun W x _ => impl_small_1.one x W)
end Go.Proofs.Ytgpeboajnhlfnaa.PFnExactBothOk
