/- The contracts of the functions that the law FnExactRangeOk reaches, each proved: what each computes. Written by programs and by hand. -/
import Derived.Test.YtiadonijmkklcaaPFnExactRangeOkx0
import Derived.Test.YtiadonijmkklcaaPFnExactRangeOkx3
import Derived.Test.YtiadonijmkklcaaPFnExactRangeOkx4
namespace Go.Proofs.Ytiadonijmkklcaa.PFnExactRangeOk
open Go.RowKit Go.Proofs.YtiadonijmkklcaaW.PrintWords Go.Proofs.YtiadonijmkklcaaW.PrintLast Go.Proofs.YtiadonijmkklcaaW.PrintMore
attribute [local go_sem] max2_int min2_int max_two min_two max_three min_three max_four min_four   -- for this text's walks alone
set_option linter.unusedVariables false
set_option linter.unusedSimpArgs false

/-! ### hand: TupleOkV: function 29 -/
def impl_TupleOk_1.p (v : S44) : Bool := !((impl_ValueOk.f v.f0 v.f1 v.f2).getD false)
def impl_TupleOk_1.f (l : List S44) : Option Bool := some (l.any impl_TupleOk_1.p)
theorem impl_TupleOk_1.from_f (a b c : Int) : impl_from.f a b c = some (decide (b ≤ a ∧ a ≤ c)) := by
  unfold impl_from.f
  split
  · congr 1; simp; omega
  · congr 1; simp; omega
theorem impl_TupleOk_1.tot (a b : Int) (s : ByteArray) : ∃ r, impl_ValueOk.f a b s = some r := by
  unfold impl_ValueOk.f
  simp only [impl_TupleOk_1.from_f, Option.bind_some]
  repeat' split
  all_goals exact ⟨_, rfl⟩
set_option maxHeartbeats 1000000 in
set_option maxRecDepth 100000 in
theorem impl_TupleOk_1.one (x : S44) (W : World) :
    Calls Try.prog 29 (#[.agg #[.int .i64 x.f0, .int .i64 x.f1, .string x.f2]] ++ #[]) W fun e w' => e = .returned (.bool (impl_TupleOk_1.p x)) ∧ Below W.heap.size W w' := by
  show Calls Try.prog 29 #[.agg #[.int .i64 x.f0, .int .i64 x.f1, .string x.f2]] W _
  obtain ⟨b, hb0⟩ := impl_TupleOk_1.tot x.f0 x.f1 x.f2
  have hp : impl_TupleOk_1.p x = !b := by unfold impl_TupleOk_1.p; rw [hb0]; rfl
  rw [hp]
  clear hp
  go_enter Try.func29, Try.ntmps29
  go_wp2_with (first | ((with_reducible refine gate_dst (N := 1) rfl ?_); refine box_event ?hg (N := 1) ?hd (cs := #[.int .i64 x.f0, .int .i64 x.f1, .string x.f2]) (t := 44) ?hr ?_; (case hd => rfl); (case hg => rfl); (case hr => first | (go_simp; done) | (go_simp; rfl)); intro gx hg w2 hbox hb; have HB2 := Aside0.mk hb; have BX := Aside0.mk hbox; clear hbox hb hg; have hx0 : w2.cell? ⟨gx, 0, none⟩ = some (.int .i64 x.f0) := (blk_cell BX.out 0).trans rfl; have hx1 : w2.cell? ⟨gx, 1, none⟩ = some (.int .i64 x.f1) := (blk_cell BX.out 1).trans rfl; have hx2 : w2.cell? ⟨gx, 2, none⟩ = some (.string x.f2) := (blk_cell BX.out 2).trans rfl) | (go_at_call 30; ((with_reducible refine (impl_ValueOk.calls x.f0 x.f1 x.f2 b _ hb0).mono ?_)); rintro e w' ⟨rfl, hb⟩; have HB4 := Aside0.mk (below_step HB2.out hb); clear hb))
  go_ret
  exact ⟨rfl, HB4.out⟩
theorem impl_TupleOk_1.calls (A0 : Option Addr) (c0 : Nat) (l0 : List S44) (r : Bool) (w : World) (hr0 : Kd.C k44 w A0 l0.length l0) (hc0 : l0.length ≤ c0) (h : impl_TupleOk_1.f l0 = some r) :
    Calls Try.prog 28 #[.slice A0 l0.length c0, .func (.func 29) #[] #[]] w fun e w' => e = .returned (.bool r) ∧ Below w.heap.size w w' := by
  rw [← Option.some.inj h]
  exact impl_Value_28.calls impl_TupleOk_1.p 29 #[] (enters_of Try.func29 (by kernel_rfl) rfl) A0 c0 l0 w hr0 (fun W x _ => impl_TupleOk_1.one x W)
end Go.Proofs.Ytiadonijmkklcaa.PFnExactRangeOk
