/- The contracts of the functions that the law FnExactRangeOk reaches, each proved: what each computes. Written by programs and by hand. -/
import Derived.Test.YtiadonijmkklcaaPFnExactRangeOkx0
import Derived.Test.YtiadonijmkklcaaPFnExactRangeOkx2
namespace Go.Proofs.Ytiadonijmkklcaa.PFnExactRangeOk
open Go.RowKit Go.Proofs.YtiadonijmkklcaaW.PrintWords Go.Proofs.YtiadonijmkklcaaW.PrintLast Go.Proofs.YtiadonijmkklcaaW.PrintMore
attribute [local go_sem] max2_int min2_int max_two min_two max_three min_three max_four min_four   -- for this text's walks alone
set_option linter.unusedVariables false
set_option linter.unusedSimpArgs false

/-! ### hand: ContainsFunc: function 28 -/
set_option maxHeartbeats 8000000 in
set_option maxRecDepth 100000 in
theorem impl_Value_28.calls (p : S44 → Bool) (g : Nat) (lb : Array Value) (eg0 : Enters Try.prog g) (A0 : Option Addr) (c0 : Nat) (l0 : List S44) (w : World)
    (hr0 : Kd.C k44 w A0 l0.length l0) (hp : ∀ (W : World) (x : S44), Below w.heap.size w W → Calls Try.prog g (#[.agg #[.int .i64 x.f0, .int .i64 x.f1, .string x.f2]] ++ lb) W fun e w' => e = .returned (.bool (p x)) ∧ Below W.heap.size W w') :
    Calls Try.prog 28 #[.slice A0 l0.length c0, .func (.func g) #[] lb] w fun e w' => e = .returned (.bool (l0.any p)) ∧ Below w.heap.size w w' := by
  have hcon := impl_Value_36.calls p g lb eg0 A0 c0 l0 w hr0 hp
  have hge := impl_Value_36.idx_ge p l0 0 (Int.le_refl _)
  generalize impl_Value_36.idx p l0 0 = r at hcon hge
  rw [← hge]
  clear hge hp hr0
  go_enter Try.func28, Try.ntmps28
  go_wp2_with (go_at_call 36; refine hcon.mono ?_; rintro e w' ⟨rfl, hb'⟩)
  go_ret
  exact ⟨rfl, hb'⟩
end Go.Proofs.Ytiadonijmkklcaa.PFnExactRangeOk
