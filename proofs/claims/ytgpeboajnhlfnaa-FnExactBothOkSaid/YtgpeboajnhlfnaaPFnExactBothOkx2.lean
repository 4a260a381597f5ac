/- The contracts of the functions that the law FnExactBothOk reaches, each proved: what each computes. Written by programs and by hand. -/
import Derived.Test.YtgpeboajnhlfnaaPFnExactBothOkx0
import Derived.Test.YtgpeboajnhlfnaaPFnExactBothOkx1
namespace Go.Proofs.Ytgpeboajnhlfnaa.PFnExactBothOk
open Go.RowKit Go.Proofs.YtgpeboajnhlfnaaW.PrintWords Go.Proofs.YtgpeboajnhlfnaaW.PrintLast Go.Proofs.YtgpeboajnhlfnaaW.PrintMore
attribute [local go_sem] max2_int min2_int max_two min_two max_three min_three max_four min_four   -- for this text's walks alone
set_option linter.unusedVariables false
set_option linter.unusedSimpArgs false

/-! ### hand: L26Want: function 61 -/
theorem spec_l26Want.in_f (a b c : Int) : spec_l1In.f a b c = some (decide (b ≤ a ∧ a ≤ c)) := by
  unfold spec_l1In.f
  split
  · congr 1; simp; omega
  · congr 1; simp; omega
/-- What the reference asks of a want. -/
def spec_l26Want.c7 (m : Nat) (x : S40) : Bool :=
  decide (0 ≤ x.f0 ∧ x.f0 ≤ 9) && (decide (0 ≤ x.f1 ∧ x.f1 ≤ 9) && (decide (0 ≤ x.f2 ∧ x.f2 ≤ 9) && (decide (0 ≤ x.f5 ∧ x.f5 ≤ 9) && (decide (0 ≤ x.f3 ∧ x.f3 ≤ 6) && (decide (0 ≤ x.f6 ∧ x.f6 ≤ (m : Int) - 1) && decide (0 ≤ x.f7 ∧ x.f7 ≤ 2))))))
def spec_l26Want.bad (n : Nat) (x : S40) : Bool :=
  (decide (x.f3 ≥ 5) != decide (1 ≤ x.f4 ∧ x.f4 ≤ (n : Int))) || (decide (x.f3 < 5) && (x.f4 != 0))
def spec_l26Want.ok (m n : Nat) (mark t : Int) (x : S40) : Bool :=
  spec_l26Want.c7 m x && (!spec_l26Want.bad n x && (if x.f3 = 2 ∨ x.f3 = 3 then (mark == (t + 1)) == (x.f7 == 0) else
      if x.f3 = 4 then decide (x.f7 > 0) && !(mark == (t + 1)) else (x.f7 == 0) && !(mark == (t + 1))))
def spec_l26Want.f (l0 : List Int) (a1 a2 a3 : Int) (l4 : List S40) (l5 : List S38) (t : Int) : Option Bool :=
  if 0 ≤ t ∧ t < (l4.length : Int) then some (spec_l26Want.ok l0.length l4.length a3 t (rd_T40 l4 t)) else none
set_option maxHeartbeats 4000000 in
set_option maxRecDepth 100000 in
theorem spec_l26Want.calls (A0_0 : Option Addr) (c0_0 : Nat) (l0_0 : List Int) (a0_1 : Int) (a0_2 : Int) (a0_3 : Int) (A0_4 : Option Addr) (c0_4 : Nat) (l0_4 : List (S40)) (A0_5 : Option Addr) (c0_5 : Nat) (l0_5 : List (S38)) (a1 : Int) (r : Bool) (w : World) (hr0_0 : Kd.C (Kd.int .i64) w A0_0 l0_0.length l0_0) (hc0_0 : l0_0.length ≤ c0_0) (hr0_4 : Kd.C k40 w A0_4 l0_4.length l0_4) (hc0_4 : l0_4.length ≤ c0_4) (hr0_5 : Kd.C k38 w A0_5 l0_5.length l0_5) (hc0_5 : l0_5.length ≤ c0_5) (h : spec_l26Want.f l0_0 a0_1 a0_2 a0_3 l0_4 l0_5 a1 = some r) :
    Calls Try.prog 61 #[.agg #[.slice A0_0 l0_0.length c0_0, .int .i64 a0_1, .int .i64 a0_2, .int .i64 a0_3, .slice A0_4 l0_4.length c0_4, .slice A0_5 l0_5.length c0_5], .int .i64 a1] w fun e w' => e = .returned (.bool r) ∧ Below w.heap.size w w' := by
  unfold spec_l26Want.f at h
  split at h
  case isFalse => cases h
  case isTrue ht =>
    have hr := Option.some.inj h
    have ht0 : decide (0 ≤ a1) = true := decide_eq_true ht.1
    have ht1 : decide (a1 < (l0_4.length : Int)) = true := decide_eq_true ht.2
    clear h
    have M4 : l0_4.length ≤ 9223372036854775807 := Kd.C_max hr0_4
    have M0 : l0_0.length ≤ 9223372036854775807 := Kd.C_max hr0_0
    have HR := Aside0.mk hr0_4
    have HE := Aside0.mk hr
    obtain ⟨ad, rfl, hc0_, hc1_, hc2_, hc3_, hc4_, hc5_, hc6_, hc7_⟩ := at_T40 hr0_4 a1 ht.1 ht.2
    clear hr0_0 hc0_0 hr0_4 hc0_4 hr0_5 hc0_5 hr
    generalize rd_T40 l0_4 a1 = x at *
    have HB := Aside0.mk (Below.refl w.heap.size w)
    go_enter Try.func61, Try.ntmps61
    go_upto_region 3 with (first | ((with_reducible refine gate_dst (N := 2) rfl ?_); refine box_event ?hg (N := 2) ?hd (cs := #[.slice A0_0 l0_0.length c0_0, .int .i64 a0_1, .int .i64 a0_2, .int .i64 a0_3, .slice (some ad) l0_4.length c0_4, .slice A0_5 l0_5.length c0_5]) (t := 30) ?hr ?_; (case hd => rfl); (case hg => rfl); (case hr => first | (go_simp; done) | (go_simp; rfl)); intro gb hg w1 hbox hb; have HB1 := Aside0.mk hb; have BK := Aside0.mk hbox; have GE := Aside0.mk (by rw [hg]; exact Nat.le_refl _ : w.heap.size ≤ gb); clear hbox hb hg; have hz4 : w1.cell? ⟨gb, 4, none⟩ = some (.slice (some ad) l0_4.length c0_4) := (blk_cell BK.out 4).trans rfl; have hd0_ := pw_cell_below HB1.out hc0_; have hd1_ := pw_cell_below HB1.out hc1_; have hd2_ := pw_cell_below HB1.out hc2_; have hd3_ := pw_cell_below HB1.out hc3_; have hd4_ := pw_cell_below HB1.out hc4_; have hd5_ := pw_cell_below HB1.out hc5_; have hd6_ := pw_cell_below HB1.out hc6_; have hd7_ := pw_cell_below HB1.out hc7_) | ((with_reducible refine gate_dst (N := 5) rfl ?_); refine box_event ?hg (N := 5) ?hd (cs := #[.int .i64 0, .int .i64 0, .int .i64 0, .int .i64 0, .int .i64 0, .int .i64 0, .int .i64 0, .int .i64 0]) (t := 40) ?hr ?_; (case hd => rfl); (case hg => rfl); (case hr => first | (go_simp; done) | (go_simp; rfl)); intro gx hg w2 hbox hb; have HB2 := Aside0.mk (below_step HB1.out hb); have BX := Aside0.mk hbox; have GX := Aside0.mk (by rw [hg]; exact below_size HB1.out : w.heap.size ≤ gx); have BK2 := Aside0.mk (blk_below BK.out hb); have NE := Aside0.mk (by rw [hg]; exact Nat.ne_of_lt (blk_lt BK.out) : gb ≠ gx); have ne1 := NE.out; clear hbox hb hg; have hy4 : w2.cell? ⟨gb, 4, none⟩ = some (.slice (some ad) l0_4.length c0_4) := (blk_cell BK2.out 4).trans rfl; have hx0 : w2.cell? ⟨gx, 0, none⟩ = some (.int .i64 0) := (blk_cell BX.out 0).trans rfl; have hf0 := blk_frozen BX.out 0; have hx1 : w2.cell? ⟨gx, 1, none⟩ = some (.int .i64 0) := (blk_cell BX.out 1).trans rfl; have hf1 := blk_frozen BX.out 1; have hx2 : w2.cell? ⟨gx, 2, none⟩ = some (.int .i64 0) := (blk_cell BX.out 2).trans rfl; have hf2 := blk_frozen BX.out 2; have hx3 : w2.cell? ⟨gx, 3, none⟩ = some (.int .i64 0) := (blk_cell BX.out 3).trans rfl; have hf3 := blk_frozen BX.out 3; have hx4 : w2.cell? ⟨gx, 4, none⟩ = some (.int .i64 0) := (blk_cell BX.out 4).trans rfl; have hf4 := blk_frozen BX.out 4; have hx5 : w2.cell? ⟨gx, 5, none⟩ = some (.int .i64 0) := (blk_cell BX.out 5).trans rfl; have hf5 := blk_frozen BX.out 5; have hx6 : w2.cell? ⟨gx, 6, none⟩ = some (.int .i64 0) := (blk_cell BX.out 6).trans rfl; have hf6 := blk_frozen BX.out 6; have hx7 : w2.cell? ⟨gx, 7, none⟩ = some (.int .i64 0) := (blk_cell BX.out 7).trans rfl; have hf7 := blk_frozen BX.out 7))
    have hun := HE.out
    unfold spec_l26Want.ok spec_l26Want.c7 spec_l26Want.bad at hun
    clear HE HR
    obtain ⟨b0, e0⟩ : ∃ b, b = decide (0 ≤ x.f0 ∧ x.f0 ≤ 9) := ⟨_, rfl⟩
    have g0 := spec_l26Want.in_f x.f0 0 9
    rw [← e0] at g0 hun
    clear e0
    obtain ⟨b1, e1⟩ : ∃ b, b = decide (0 ≤ x.f1 ∧ x.f1 ≤ 9) := ⟨_, rfl⟩
    have g1 := spec_l26Want.in_f x.f1 0 9
    rw [← e1] at g1 hun
    clear e1
    obtain ⟨b2, e2⟩ : ∃ b, b = decide (0 ≤ x.f2 ∧ x.f2 ≤ 9) := ⟨_, rfl⟩
    have g2 := spec_l26Want.in_f x.f2 0 9
    rw [← e2] at g2 hun
    clear e2
    obtain ⟨b3, e3⟩ : ∃ b, b = decide (0 ≤ x.f5 ∧ x.f5 ≤ 9) := ⟨_, rfl⟩
    have g3 := spec_l26Want.in_f x.f5 0 9
    rw [← e3] at g3 hun
    clear e3
    obtain ⟨b4, e4⟩ : ∃ b, b = decide (0 ≤ x.f3 ∧ x.f3 ≤ 6) := ⟨_, rfl⟩
    have g4 := spec_l26Want.in_f x.f3 0 6
    rw [← e4] at g4 hun
    clear e4
    obtain ⟨b5, e5⟩ : ∃ b, b = decide (0 ≤ x.f6 ∧ x.f6 ≤ ((l0_0.length : Int) - 1)) := ⟨_, rfl⟩
    have g5 := spec_l26Want.in_f x.f6 0 ((l0_0.length : Int) - 1)
    rw [← e5] at g5 hun
    clear e5
    obtain ⟨b6, e6⟩ : ∃ b, b = decide (0 ≤ x.f7 ∧ x.f7 ≤ 2) := ⟨_, rfl⟩
    have g6 := spec_l26Want.in_f x.f7 0 2
    rw [← e6] at g6 hun
    clear e6
    obtain ⟨b7, e7⟩ : ∃ b, b = decide (1 ≤ x.f4 ∧ x.f4 ≤ (l0_4.length : Int)) := ⟨_, rfl⟩
    have g7 := spec_l26Want.in_f x.f4 1 (l0_4.length : Int)
    rw [← e7] at g7 hun
    clear e7
    obtain ⟨c7, ec⟩ : ∃ b, b = (b0 && (b1 && (b2 && (b3 && (b4 && (b5 && b6)))))) := ⟨_, rfl⟩
    rw [← ec] at hun
    have HU := Aside0.mk hun
    have EC := Aside0.mk ec
    clear hun ec
    go_cut [59] (fun v59 wc => v59 = .bool (!c7) ∧ Aside0 (wc.heap[gb]? = some (.cells #[.slice A0_0 l0_0.length c0_0, .int .i64 a0_1, .int .i64 a0_2, .int .i64 a0_3, .slice (some ad) l0_4.length c0_4, .slice A0_5 l0_5.length c0_5] 30 (0, 0))) ∧ Aside0 (wc.heap[gx]? = some (.cells #[.int .i64 x.f0, .int .i64 x.f1, .int .i64 x.f2, .int .i64 x.f3, .int .i64 x.f4, .int .i64 x.f5, .int .i64 x.f6, .int .i64 x.f7] 40 (0, 0))) ∧ Aside0 (Below w.heap.size w wc))
    case first =>
      have ec := EC.out
      clear EC HU
      have hy0 : w2.cell? ⟨gb, 0, none⟩ = some (.slice A0_0 l0_0.length c0_0) := (blk_cell BK2.out 0).trans rfl
      cases b0
      rotate_left
      cases b1
      rotate_left
      cases b2
      rotate_left
      cases b3
      rotate_left
      cases b4
      rotate_left
      cases b5
      rotate_left
      cases b6
      rotate_left
      all_goals (
        simp only [Bool.true_and, Bool.false_and] at ec
        subst ec
        go_wp2_with (go_at_call 60; ((with_reducible refine (spec_l1In.calls _ _ _ _ _ (by assumption)).mono ?_)); rintro e w' ⟨rfl, ⟨nd1, rfl⟩⟩; (try first | exact ⟨rfl, _, World.drewN_drewN _ _ _⟩ | exact ⟨rfl, _, Eq.trans (World.drewN_drewN _ _ _) (congrArg (World.drewN _) (Nat.add_assoc _ _ _))⟩))
        go_meet
        case rel => exact ⟨rfl, ⟨by (with_reducible repeat (first | refine blk_drewN ?_ _ | refine blk_drew ?_ | refine blk_alloc ?_ _)); refine blk_far ?_ NE.out _; refine blk_far ?_ NE.out _; refine blk_far ?_ NE.out _; refine blk_far ?_ NE.out _; refine blk_far ?_ NE.out _; refine blk_far ?_ NE.out _; refine blk_far ?_ NE.out _; refine blk_far ?_ NE.out _; exact BK2.out⟩, ⟨by (with_reducible repeat (first | refine blk_drewN ?_ _ | refine blk_drew ?_ | refine blk_alloc ?_ _)); refine blk_put (cs := #[.int .i64 x.f0, .int .i64 x.f1, .int .i64 x.f2, .int .i64 x.f3, .int .i64 x.f4, .int .i64 x.f5, .int .i64 x.f6, .int .i64 0]) ?_ 7 _ rfl; refine blk_put (cs := #[.int .i64 x.f0, .int .i64 x.f1, .int .i64 x.f2, .int .i64 x.f3, .int .i64 x.f4, .int .i64 x.f5, .int .i64 0, .int .i64 0]) ?_ 6 _ rfl; refine blk_put (cs := #[.int .i64 x.f0, .int .i64 x.f1, .int .i64 x.f2, .int .i64 x.f3, .int .i64 x.f4, .int .i64 0, .int .i64 0, .int .i64 0]) ?_ 5 _ rfl; refine blk_put (cs := #[.int .i64 x.f0, .int .i64 x.f1, .int .i64 x.f2, .int .i64 x.f3, .int .i64 0, .int .i64 0, .int .i64 0, .int .i64 0]) ?_ 4 _ rfl; refine blk_put (cs := #[.int .i64 x.f0, .int .i64 x.f1, .int .i64 x.f2, .int .i64 0, .int .i64 0, .int .i64 0, .int .i64 0, .int .i64 0]) ?_ 3 _ rfl; refine blk_put (cs := #[.int .i64 x.f0, .int .i64 x.f1, .int .i64 0, .int .i64 0, .int .i64 0, .int .i64 0, .int .i64 0, .int .i64 0]) ?_ 2 _ rfl; refine blk_put (cs := #[.int .i64 x.f0, .int .i64 0, .int .i64 0, .int .i64 0, .int .i64 0, .int .i64 0, .int .i64 0, .int .i64 0]) ?_ 1 _ rfl; refine blk_put (cs := #[.int .i64 0, .int .i64 0, .int .i64 0, .int .i64 0, .int .i64 0, .int .i64 0, .int .i64 0, .int .i64 0]) ?_ 0 _ rfl; exact BX.out⟩, ⟨by with_reducible repeat (first | exact HB2.out | apply below_alloc | apply pw_below_drewN | apply below_drew1 | refine below_set ?_ GX.out)⟩⟩)
    case rest =>
      obtain ⟨rfl, BK, BX, HB⟩ := hcut
      clear hz4 EC HB1 HB2 GE GX BK2 NE
      have hz0 : wc.cell? ⟨gb, 0, none⟩ = some (.slice A0_0 l0_0.length c0_0) := (blk_cell BK.out 0).trans rfl
      have hz3 : wc.cell? ⟨gb, 3, none⟩ = some (.int .i64 a0_3) := (blk_cell BK.out 3).trans rfl
      have hz4 : wc.cell? ⟨gb, 4, none⟩ = some (.slice (some ad) l0_4.length c0_4) := (blk_cell BK.out 4).trans rfl
      have hx0 : wc.cell? ⟨gx, 0, none⟩ = some (.int .i64 x.f0) := (blk_cell BX.out 0).trans rfl
      have hx1 : wc.cell? ⟨gx, 1, none⟩ = some (.int .i64 x.f1) := (blk_cell BX.out 1).trans rfl
      have hx2 : wc.cell? ⟨gx, 2, none⟩ = some (.int .i64 x.f2) := (blk_cell BX.out 2).trans rfl
      have hx3 : wc.cell? ⟨gx, 3, none⟩ = some (.int .i64 x.f3) := (blk_cell BX.out 3).trans rfl
      have hx4 : wc.cell? ⟨gx, 4, none⟩ = some (.int .i64 x.f4) := (blk_cell BX.out 4).trans rfl
      have hx5 : wc.cell? ⟨gx, 5, none⟩ = some (.int .i64 x.f5) := (blk_cell BX.out 5).trans rfl
      have hx6 : wc.cell? ⟨gx, 6, none⟩ = some (.int .i64 x.f6) := (blk_cell BX.out 6).trans rfl
      have hx7 : wc.cell? ⟨gx, 7, none⟩ = some (.int .i64 x.f7) := (blk_cell BX.out 7).trans rfl
      cases c7
      · have hr : false = r := HU.out
        subst hr
        clear HU
        go_wp2
        go_ret
        exact ⟨rfl, by with_reducible repeat (first | exact HB.out | apply below_alloc | apply pw_below_drewN | apply below_drew1)⟩
      · obtain ⟨bd, ed⟩ : ∃ b, b = ((decide (x.f3 ≥ 5) != b7) || (decide (x.f3 < 5) && (x.f4 != 0))) := ⟨_, rfl⟩
        have hu := HU.out
        rw [← ed, Bool.true_and] at hu
        have HV := Aside0.mk hu
        have ED := Aside0.mk ed
        clear hu HU ed
        go_upto_region 5 with (fail)
        go_cut [77] (fun v77 wd => v77 = .bool bd ∧ Aside0 (wd.heap[gb]? = some (.cells #[.slice A0_0 l0_0.length c0_0, .int .i64 a0_1, .int .i64 a0_2, .int .i64 a0_3, .slice (some ad) l0_4.length c0_4, .slice A0_5 l0_5.length c0_5] 30 (0, 0))) ∧ Aside0 (wd.heap[gx]? = some (.cells #[.int .i64 x.f0, .int .i64 x.f1, .int .i64 x.f2, .int .i64 x.f3, .int .i64 x.f4, .int .i64 x.f5, .int .i64 x.f6, .int .i64 x.f7] 40 (0, 0))) ∧ Aside0 (Below w.heap.size w wd))
        case first =>
          have ed := ED.out
          clear ED HV
          have d5 : decide (x.f3 < 5) = !decide (x.f3 ≥ 5) := by by_cases c : x.f3 < 5 <;> simp [c] <;> omega
          rw [d5] at ed
          obtain ⟨q5, h5⟩ : ∃ b, decide (x.f3 ≥ 5) = b := ⟨_, rfl⟩
          rw [h5] at ed d5
          obtain ⟨q4, h4⟩ : ∃ b, (x.f4 != 0) = b := ⟨_, rfl⟩
          rw [h4] at ed
          cases q5 <;> cases b7 <;> cases q4
          all_goals (
            subst ed
            go_wp2_with (first | (go_at_call 60; ((with_reducible refine (spec_l1In.calls _ _ _ _ _ (by assumption)).mono ?_)); rintro e w' ⟨rfl, ⟨nd1, rfl⟩⟩; (try first | exact ⟨rfl, _, World.drewN_drewN _ _ _⟩ | exact ⟨rfl, _, Eq.trans (World.drewN_drewN _ _ _) (congrArg (World.drewN _) (Nat.add_assoc _ _ _))⟩)))
            repeat (go_quiet (first | (go_at_call 60; ((with_reducible refine (spec_l1In.calls _ _ _ _ _ (by assumption)).mono ?_)); rintro e w' ⟨rfl, ⟨nd1, rfl⟩⟩; (try first | exact ⟨rfl, _, World.drewN_drewN _ _ _⟩ | exact ⟨rfl, _, Eq.trans (World.drewN_drewN _ _ _) (congrArg (World.drewN _) (Nat.add_assoc _ _ _))⟩))); try go_wp2_with (first | (go_at_call 60; ((with_reducible refine (spec_l1In.calls _ _ _ _ _ (by assumption)).mono ?_)); rintro e w' ⟨rfl, ⟨nd1, rfl⟩⟩; (try first | exact ⟨rfl, _, World.drewN_drewN _ _ _⟩ | exact ⟨rfl, _, Eq.trans (World.drewN_drewN _ _ _) (congrArg (World.drewN _) (Nat.add_assoc _ _ _))⟩))))
            go_meet
            case rel => exact ⟨rfl, ⟨by (with_reducible repeat (first | refine blk_drewN ?_ _ | refine blk_drew ?_ | refine blk_alloc ?_ _)); exact BK.out⟩, ⟨by (with_reducible repeat (first | refine blk_drewN ?_ _ | refine blk_drew ?_ | refine blk_alloc ?_ _)); exact BX.out⟩, ⟨by with_reducible repeat (first | exact HB.out | apply below_alloc | apply pw_below_drewN | apply below_drew1)⟩⟩)
        case rest =>
          obtain ⟨rfl, BK, BX, HB⟩ := hcut
          clear hz0 hz3 hz4 hx0 hx1 hx2 hx3 hx4 hx5 hx6 hx7 ED
          have hz0 : wc.cell? ⟨gb, 0, none⟩ = some (.slice A0_0 l0_0.length c0_0) := (blk_cell BK.out 0).trans rfl
          have hz3 : wc.cell? ⟨gb, 3, none⟩ = some (.int .i64 a0_3) := (blk_cell BK.out 3).trans rfl
          have hz4 : wc.cell? ⟨gb, 4, none⟩ = some (.slice (some ad) l0_4.length c0_4) := (blk_cell BK.out 4).trans rfl
          have hx0 : wc.cell? ⟨gx, 0, none⟩ = some (.int .i64 x.f0) := (blk_cell BX.out 0).trans rfl
          have hx1 : wc.cell? ⟨gx, 1, none⟩ = some (.int .i64 x.f1) := (blk_cell BX.out 1).trans rfl
          have hx2 : wc.cell? ⟨gx, 2, none⟩ = some (.int .i64 x.f2) := (blk_cell BX.out 2).trans rfl
          have hx3 : wc.cell? ⟨gx, 3, none⟩ = some (.int .i64 x.f3) := (blk_cell BX.out 3).trans rfl
          have hx4 : wc.cell? ⟨gx, 4, none⟩ = some (.int .i64 x.f4) := (blk_cell BX.out 4).trans rfl
          have hx5 : wc.cell? ⟨gx, 5, none⟩ = some (.int .i64 x.f5) := (blk_cell BX.out 5).trans rfl
          have hx6 : wc.cell? ⟨gx, 6, none⟩ = some (.int .i64 x.f6) := (blk_cell BX.out 6).trans rfl
          have hx7 : wc.cell? ⟨gx, 7, none⟩ = some (.int .i64 x.f7) := (blk_cell BX.out 7).trans rfl
          cases bd
          rotate_left
          · have hr : false = r := HV.out
            subst hr
            clear HV
            go_wp2
            go_ret
            exact ⟨rfl, by with_reducible repeat (first | exact HB.out | apply below_alloc | apply pw_below_drewN | apply below_drew1)⟩
          · have hu := HV.out
            rw [Bool.not_false, Bool.true_and] at hu
            clear HV
            by_cases c2 : x.f3 = 2
            · rw [if_pos (.inl c2)] at hu
              subst hu
              have k2 : (x.f3 == 2) = true := beq_iff_eq.mpr c2
              clear c2
              go_wp2
              go_ret
              refine ⟨?_, by with_reducible repeat (first | exact HB.out | apply below_alloc | apply pw_below_drewN | apply below_drew1)⟩
              rfl
            · have k2 : (x.f3 == 2) = false := beq_eq_false_iff_ne.mpr c2
              by_cases c3 : x.f3 = 3
              · rw [if_pos (.inr c3)] at hu
                subst hu
                have k3 : (x.f3 == 3) = true := beq_iff_eq.mpr c3
                clear c2 c3
                go_wp2
                go_ret
                refine ⟨?_, by with_reducible repeat (first | exact HB.out | apply below_alloc | apply pw_below_drewN | apply below_drew1)⟩
                rfl
              · rw [if_neg (fun h => h.elim c2 c3)] at hu
                have k3 : (x.f3 == 3) = false := beq_eq_false_iff_ne.mpr c3
                by_cases c4 : x.f3 = 4
                · rw [if_pos c4] at hu
                  have k4 : (x.f3 == 4) = true := beq_iff_eq.mpr c4
                  clear c2 c3 c4
                  obtain ⟨p7, h7⟩ : ∃ b, decide (x.f7 > 0) = b := ⟨_, rfl⟩
                  rw [h7] at hu
                  cases p7
                  all_goals (
                    subst hu
                    go_wp2
                    go_ret
                    refine ⟨?_, by with_reducible repeat (first | exact HB.out | apply below_alloc | apply pw_below_drewN | apply below_drew1)⟩; rfl)
                · rw [if_neg c4] at hu
                  have k4 : (x.f3 == 4) = false := beq_eq_false_iff_ne.mpr c4
                  clear c2 c3 c4
                  obtain ⟨p7, h7⟩ : ∃ b, (x.f7 == 0) = b := ⟨_, rfl⟩
                  rw [h7] at hu
                  cases p7
                  all_goals (
                    subst hu
                    go_wp2
                    go_ret
                    refine ⟨?_, by with_reducible repeat (first | exact HB.out | apply below_alloc | apply pw_below_drewN | apply below_drew1)⟩; rfl)
end Go.Proofs.Ytgpeboajnhlfnaa.PFnExactBothOk
