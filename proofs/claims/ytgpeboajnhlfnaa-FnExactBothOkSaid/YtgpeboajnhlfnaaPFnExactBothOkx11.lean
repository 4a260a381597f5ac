/- The contracts of the functions that the law FnExactBothOk reaches, each proved: what each computes. Written by programs and by hand. -/
import Derived.Test.YtgpeboajnhlfnaaPFnExactBothOkx0
import Derived.Test.YtgpeboajnhlfnaaPFnExactBothOkx4
import Derived.Test.YtgpeboajnhlfnaaPFnExactBothOkx7
import Derived.Test.YtgpeboajnhlfnaaPFnExactBothOkx8
import Derived.Test.YtgpeboajnhlfnaaPFnExactBothOkx10
namespace Go.Proofs.Ytgpeboajnhlfnaa.PFnExactBothOk
open Go.RowKit Go.Proofs.YtgpeboajnhlfnaaW.PrintWords Go.Proofs.YtgpeboajnhlfnaaW.PrintLast Go.Proofs.YtgpeboajnhlfnaaW.PrintMore
attribute [local go_sem] max2_int min2_int max_two min_two max_three min_three max_four min_four   -- for this text's walks alone
set_option linter.unusedVariables false
set_option linter.unusedSimpArgs false

/-! ### hand: BothOkV: function 65 -/
def impl_BothOk_1.p (n : Int) (e : S38) : Bool := !decide (0 ≤ e.f0 ∧ e.f0 ≤ wrap64 (n - 1)) || !decide (0 ≤ e.f2 ∧ e.f2 ≤ 9)
def impl_BothOk_1.f (l : List S38) (n : Int) : Option Bool := some (l.any (impl_BothOk_1.p n))
theorem impl_BothOk_1.from_f (a b c : Int) : impl_from.f a b c = some (decide (b ≤ a ∧ a ≤ c)) := by
  unfold impl_from.f
  split
  · congr 1; simp; omega
  · congr 1; simp; omega
theorem impl_BothOk_1.small_f (a : Int) : impl_small.f [a] = some (decide (0 ≤ a ∧ a ≤ 9)) := by
  unfold impl_small.f
  simp [impl_small_1.f, impl_small_1.p]
set_option maxHeartbeats 1000000 in
set_option maxRecDepth 100000 in
theorem impl_BothOk_1.one (n : Int) (B : Nat) (W : World) (x : S38) (hB : B < W.heap.size) (hc : W.cell? ⟨B, 0, none⟩ = some (.int .i64 n)) :
    Calls Try.prog 65 (#[.agg #[.int .i64 x.f0, .bool x.f1, .int .i64 x.f2]] ++ #[.pointer (some ⟨B, 0, none⟩)]) W fun e w' => e = .returned (.bool (impl_BothOk_1.p n x)) ∧ Below W.heap.size W w' := by
  have hne : B ≠ W.heap.size := by omega
  show Calls Try.prog 65 #[.agg #[.int .i64 x.f0, .bool x.f1, .int .i64 x.f2], .pointer (some ⟨B, 0, none⟩)] W _
  obtain ⟨b1, e1⟩ : ∃ b, b = decide (0 ≤ x.f0 ∧ x.f0 ≤ wrap64 (n - 1)) := ⟨_, rfl⟩
  have g1 := impl_BothOk_1.from_f x.f0 0 (wrap64 (n - 1))
  obtain ⟨b2, e2⟩ : ∃ b, b = decide (0 ≤ x.f2 ∧ x.f2 ≤ 9) := ⟨_, rfl⟩
  have g2 := impl_BothOk_1.small_f x.f2
  obtain ⟨r, er⟩ : ∃ r, r = impl_BothOk_1.p n x := ⟨_, rfl⟩
  rw [← er]
  unfold impl_BothOk_1.p at er
  rw [← e1] at er g1
  rw [← e2] at er g2
  clear e1 e2
  have HB := Aside0.mk (Below.refl W.heap.size W)
  go_enter Try.func65, Try.ntmps65
  cases b1
  all_goals (
    simp only [Bool.not_false, Bool.not_true, Bool.true_or, Bool.false_or] at er
    subst er
    go_wp2_with (first | ((with_reducible refine gate_dst (N := 2) rfl ?_); refine box_event ?hg (N := 2) ?hd (cs := #[.int .i64 x.f0, .bool x.f1, .int .i64 x.f2]) (t := 38) ?hr ?_; (case hd => rfl); (case hg => rfl); (case hr => first | (go_simp; done) | (go_simp; rfl)); intro gx hg w2 hbox hb; have HB2 := Aside0.mk hb; have BX := Aside0.mk hbox; have hB2 : w2.cell? ⟨B, 0, none⟩ = some (.int .i64 n) := pw_cell_below hb hc; clear hbox hb hg; have hx0 : w2.cell? ⟨gx, 0, none⟩ = some (.int .i64 x.f0) := (blk_cell BX.out 0).trans rfl; have hx2 : w2.cell? ⟨gx, 2, none⟩ = some (.int .i64 x.f2) := (blk_cell BX.out 2).trans rfl) | (go_at_call 56; ((with_reducible refine (impl_from.calls _ _ _ _ _ (by assumption)).mono ?_)); rintro e w' ⟨rfl, ⟨nd1, rfl⟩⟩) | ((with_reducible refine gate_dst (N := 13) rfl ?_); (try (refine gate_guard (by rfl) ?_; dsimp only)); refine Kd.R_lit (Kd.int .i64) _ 3 ?hg (N := 13) ?hd (xs := ([x.f2] : List Int)) (inner := [.int .i64 x.f2]) (ok := fun _ => True) (okp := fun _ => True) ?hr ?hp (fun _ hk => hk) trivial (Below.refl _ _) (Nat.le_refl _) (by simp) ?_; (case hd => rfl); (case hg => rfl); (case hr => first | (go_simp; done) | (go_simp; rfl)); (case hp => exact (Reps.one (show Kd.M (Kd.int .i64) _ _ _ x.f2 [.int .i64 x.f2] from rfl) (Reps.none _ _))); intro v13 w20 ho hb hg_ hnew_; clear hg_ hnew_; have HO := Aside0.mk ho; have HB3 := Aside0.mk (below_step (by with_reducible repeat (first | exact HB2.out | apply below_alloc | apply pw_below_drewN | apply below_drew1) : Below W.heap.size W _) hb); clear ho hb; obtain ⟨Ao, co, eo⟩ := Kd.R_slice HO.out; subst eo) | (go_at_call 63; (refine (impl_small.calls Ao co [x.f2] b2 _ ?s1 ?s2 g2).mono ?_); (case s1 => exact (Kd.R_reads' HO.out).2.2); (case s2 => exact (Kd.R_reads' HO.out).2.1); rintro e w' ⟨rfl, hb⟩; have HB4 := Aside0.mk (below_step HB3.out hb); clear hb))
    go_ret
    refine ⟨?_, by with_reducible first | exact HB4.out | (repeat (first | exact HB2.out | apply below_alloc | apply pw_below_drewN | apply below_drew1))⟩
    first | rfl | (cases b2 <;> rfl))
theorem impl_BothOk_1.calls (A0 : Option Addr) (c0 : Nat) (l0 : List S38) (n : Int) (r : Bool) {B : Nat} (w : World) (hr0 : Kd.C k38 w A0 l0.length l0) (hc0 : l0.length ≤ c0) (hb : w.heap[B]? = some (.cells #[.int .i64 n] 3 (0, 0))) (h : impl_BothOk_1.f l0 n = some r) :
    Calls Try.prog 64 #[.slice A0 l0.length c0, .func (.func 65) #[] #[.pointer (some ⟨B, 0, none⟩)]] w fun e w' => e = .returned (.bool r) ∧ Below w.heap.size w w' := by
  rw [← Option.some.inj h]
  exact impl_Event_64.calls (impl_BothOk_1.p n) 65 #[.pointer (some ⟨B, 0, none⟩)] (enters_of Try.func65 (by kernel_rfl) rfl) A0 c0 l0 w hr0 (fun W x hW => impl_BothOk_1.one n B W x (Nat.lt_of_lt_of_le (blk_lt hb) hW.size) ((blk_cell (blk_below hb hW) 0).trans rfl))
end Go.Proofs.Ytgpeboajnhlfnaa.PFnExactBothOk
