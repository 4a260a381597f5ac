/- The contracts of the functions that the law FnExactCollect reaches, each proved: what each computes. Written by programs and by hand. -/
import Derived.Test.YtpidphppldimkaaPFnExactCollectx0
import Derived.Test.YtpidphppldimkaaPFnExactCollectx1
import Derived.Test.YtpidphppldimkaaPFnExactCollectx3
namespace Go.Proofs.Ytpidphppldimkaa.PFnExactCollect
open Go.RowKit Go.Proofs.YtpidphppldimkaaW.PrintWords Go.Proofs.YtpidphppldimkaaW.PrintLast Go.Proofs.YtpidphppldimkaaW.PrintMore
attribute [local go_sem] max2_int min2_int max_two min_two max_three min_three max_four min_four   -- for this text's walks alone
set_option linter.unusedVariables false
set_option linter.unusedSimpArgs false

/-! ### hand: EpochsOk: function 24 -/
/-- What a pin may be. -/
def impl_EpochsOk.pin (now p : Int) : Bool := decide (p = 0 ∨ 1 ≤ p ∧ (p = now ∨ p = wrap64 (now - 1)))
/-- What is retired, behind some that were seen. -/
def impl_EpochsOk.lst (now : Int) : List S58 → List S58 → Bool
  | _, [] => true
  | seen, x :: r => decide ((1 ≤ x.f1 ∧ x.f1 ≤ now) ∧ 1 ≤ x.f0) && (!(seen.any fun y => decide (y.f0 = x.f0)) && impl_EpochsOk.lst now (seen ++ [x]) r)
def impl_EpochsOk.ok (now : Int) (pins : List Int) (list : List S58) : Bool :=
  pins.all (impl_EpochsOk.pin now) && (impl_EpochsOk.lst now [] list && (decide (1 ≤ now ∧ now ≤ 1000) && (decide (1 ≤ pins.length ∧ pins.length ≤ 4) && decide ((list.length : Int) ≤ 30))))
def impl_EpochsOk.f (a0_0 : Int) (l0_1 : List Int) (l0_2 : List S58) : Option Bool := some (impl_EpochsOk.ok a0_0 l0_1 l0_2)
/-- The closure: is it of that Id? -/
theorem impl_EpochsOk.same (id : Int) (B : Nat) (W : World) (x : S58) (hB : B < W.heap.size) (hc : W.cell? ⟨B, 0, none⟩ = some (.int .i64 id)) :
    Calls Try.prog 53 (#[.agg #[.int .i64 x.f0, .int .i64 x.f1]] ++ #[.pointer (some ⟨B, 0, none⟩)]) W fun e w' => e = .returned (.bool (decide (x.f0 = id))) ∧ Below W.heap.size W w' := by
  have hne : B ≠ W.heap.size := by omega
  show Calls Try.prog 53 #[.agg #[.int .i64 x.f0, .int .i64 x.f1], .pointer (some ⟨B, 0, none⟩)] W _
  go_enter Try.func53, Try.ntmps53
  go_wp2
  all_goals (go_ret; exact ⟨rfl, (Below.refl _ W).alloc (Nat.le_refl _) _⟩)
theorem impl_EpochsOk.from_f (a b c : Int) : impl_from.f a b c = some (decide (b ≤ a ∧ a ≤ c)) := by
  unfold impl_from.f
  split
  · congr 1; simp; omega
  · congr 1; simp; omega
theorem impl_EpochsOk.pred (id : Int) (B : Nat) (u : Value) (Wc : World) (hb : Wc.heap[B]? = some (.cells #[.int .i64 id, u] 58 (0, 0))) : ∀ (W : World) (x : S58), Below Wc.heap.size Wc W →
    Calls Try.prog 53 (#[.agg #[.int .i64 x.f0, .int .i64 x.f1]] ++ #[.pointer (some ⟨B, 0, none⟩)]) W fun e w' => e = .returned (.bool (decide (x.f0 = id))) ∧ Below W.heap.size W w' :=
  fun W x hW => impl_EpochsOk.same id B W x (Nat.lt_of_lt_of_le (blk_lt hb) hW.size) ((blk_cell (blk_below hb hW) 0).trans rfl)
set_option maxHeartbeats 1000000 in
set_option maxRecDepth 100000 in
theorem impl_EpochsOk.calls (a0_0 : Int) (A0_1 : Option Addr) (c0_1 : Nat) (l0_1 : List Int) (A0_2 : Option Addr) (c0_2 : Nat) (l0_2 : List S58) (r : Bool) (w : World) (hr0_1 : Kd.C (Kd.int .i64) w A0_1 l0_1.length l0_1) (hc0_1 : l0_1.length ≤ c0_1) (hr0_2 : Kd.C k58 w A0_2 l0_2.length l0_2) (hc0_2 : l0_2.length ≤ c0_2) (h : impl_EpochsOk.f a0_0 l0_1 l0_2 = some r) :
    Calls Try.prog 24 #[.agg #[.int .i64 a0_0, .slice A0_1 l0_1.length c0_1, .slice A0_2 l0_2.length c0_2]] w fun e w' => e = .returned (.bool r) ∧ Below w.heap.size w w' := by
  have hr : impl_EpochsOk.ok a0_0 l0_1 l0_2 = r := Option.some.inj h
  clear h
  have HR1 := Aside0.mk hr0_1
  have HR2 := Aside0.mk hr0_2
  have HC1 := Aside0.mk hc0_1
  have HC2 := Aside0.mk hc0_2
  have M1 : l0_1.length ≤ 9223372036854775807 := Kd.C_max hr0_1
  have M2 : l0_2.length ≤ 9223372036854775807 := Kd.C_max hr0_2
  have HE := Aside0.mk hr
  clear hr0_1 hr0_2 hc0_1 hc0_2 hr
  go_enter Try.func24, Try.ntmps24
  go_wp2_with ((with_reducible refine gate_dst (N := 1) rfl ?_); refine box_event ?hg (N := 1) ?hd (cs := #[.int .i64 a0_0, .slice A0_1 l0_1.length c0_1, .slice A0_2 l0_2.length c0_2]) (t := 27) ?hr ?_; (case hd => rfl); (case hg => rfl); (case hr => first | (go_simp; done) | (go_simp; rfl)); intro gb hg w1 hbox hb; have HB := Aside0.mk hb; have BK := Aside0.mk hbox; have GE := Aside0.mk (by rw [hg]; exact Nat.le_refl _ : w.heap.size ≤ gb); clear hbox hb hg; have hz0 : w1.cell? ⟨gb, 0, none⟩ = some (.int .i64 a0_0) := (blk_cell BK.out 0).trans rfl; have hz1 : w1.cell? ⟨gb, 1, none⟩ = some (.slice A0_1 l0_1.length c0_1) := (blk_cell BK.out 1).trans rfl; have hz2 : w1.cell? ⟨gb, 2, none⟩ = some (.slice A0_2 l0_2.length c0_2) := (blk_cell BK.out 2).trans rfl)
  go_loop [10] (fun v10 => ∃ kk : Nat, kk ≤ l0_1.length ∧ v10 = .int .i64 kk ∧ Aside0 ((l0_1.take kk).all (impl_EpochsOk.pin a0_0) = true)) (fun v10 => l0_1.length - (intOf v10).toNat)
  case atStart => exact ⟨0, Nat.zero_le _, rfl, ⟨rfl⟩⟩
  case round =>
    obtain ⟨kk, hkk, rfl, HI⟩ := hrel
    by_cases hlt : kk < l0_1.length
    · have hltz : (kk : Int) < (l0_1.length : Int) := by omega
      obtain ⟨ad, rfl, hc0_⟩ := Kd.at_int (Kd.C_below HR1.out HB.out) (kk : Int) (by omega) hltz
      simp only [Int.toNat_natCast] at hc0_
      have hx : rd l0_1 (kk : Int) = l0_1[kk] := by simp [rd, List.getD_eq_getElem?_getD, List.getElem?_eq_getElem hlt]
      have htk : l0_1.take (kk + 1) = l0_1.take kk ++ [l0_1[kk]] := by rw [List.take_succ_eq_append_getElem hlt]
      rw [← hx] at htk
      have hno : impl_EpochsOk.pin a0_0 (rd l0_1 kk) = false → r = false := fun hp => by
        rw [← HE.out]
        unfold impl_EpochsOk.ok
        have : l0_1.all (impl_EpochsOk.pin a0_0) = false := by
          rw [List.all_eq_false]
          exact ⟨_, List.getElem_mem hlt, by rw [← hx, hp]; simp⟩
        rw [this, Bool.false_and]
      generalize rd l0_1 (kk : Int) = p at *
      have HTK := Aside0.mk htk
      have HNO := Aside0.mk hno
      clear htk hx hno
      have hyes : impl_EpochsOk.pin a0_0 p = true → (l0_1.take (kk + 1)).all (impl_EpochsOk.pin a0_0) = true := fun hp => by rw [HTK.out, List.all_append, HI.out]; simp [hp]
      have HYES := Aside0.mk hyes
      clear hyes
      by_cases h0 : p = 0
      · have b0 : (p != 0) = false := by simp [h0]
        have HN := Aside0.mk (HYES.out (by unfold impl_EpochsOk.pin; simp [h0]))
        clear h0
        go_wp2
        go_round
        case rel => exact ⟨kk + 1, hlt, by go_num, HN⟩
        case measure => simp [intOf]; omega
      · have b0 : (p != 0) = true := by simp [h0]
        by_cases h1 : p < 1
        · have b1 : decide (p < 1) = true := by simp [h1]
          have hr := HNO.out (by unfold impl_EpochsOk.pin; simp; omega)
          subst hr
          clear h0 h1
          go_wp2
          go_ret
          exact ⟨rfl, HB.out⟩
        · have b1 : decide (p < 1) = false := by simp; omega
          by_cases h2 : p = a0_0
          · have b2 : (p != a0_0) = false := by simp [h2]
            have HN := Aside0.mk (HYES.out (by unfold impl_EpochsOk.pin; simp; omega))
            clear h0 h1 h2
            go_wp2
            go_round
            case rel => exact ⟨kk + 1, hlt, by go_num, HN⟩
            case measure => simp [intOf]; omega
          · have b2 : (p != a0_0) = true := by simp [h2]
            by_cases h3 : p = wrap64 (a0_0 - 1)
            · have b3 : (p != wrap64 (a0_0 - 1)) = false := by simp [h3]
              have HN := Aside0.mk (HYES.out (by unfold impl_EpochsOk.pin; simp; omega))
              clear h0 h1 h2 h3
              go_wp2
              go_round
              case rel => exact ⟨kk + 1, hlt, by go_num, HN⟩
              case measure => simp [intOf]; omega
            · have b3 : (p != wrap64 (a0_0 - 1)) = true := by simp [h3]
              have hr := HNO.out (by unfold impl_EpochsOk.pin; simp; omega)
              subst hr
              clear h0 h1 h2 h3
              go_wp2
              go_ret
              exact ⟨rfl, HB.out⟩
    · have hltz : ¬ (kk : Int) < (l0_1.length : Int) := by omega
      have hall : l0_1.all (impl_EpochsOk.pin a0_0) = true := by
        have := HI.out
        rwa [List.take_of_length_le (by omega)] at this
      have HE2 : Aside0 ((impl_EpochsOk.lst a0_0 [] l0_2 && (decide (1 ≤ a0_0 ∧ a0_0 ≤ 1000) && (decide (1 ≤ l0_1.length ∧ l0_1.length ≤ 4) && decide ((l0_2.length : Int) ≤ 30)))) = r) := ⟨by
        rw [← HE.out]; unfold impl_EpochsOk.ok; rw [hall, Bool.true_and]⟩
      clear HE HI hall
      go_wp2
      go_loopg [37] l0_2.length (fun gg v37 wr => ∃ kk : Nat, kk ≤ l0_2.length ∧ l0_2.length - kk ≤ gg ∧ v37 = .int .i64 kk ∧ Aside0 (Below w1.heap.size w1 wr) ∧ Aside0 ((impl_EpochsOk.lst a0_0 (l0_2.take kk) (l0_2.drop kk) && (decide (1 ≤ a0_0 ∧ a0_0 ≤ 1000) && (decide (1 ≤ l0_1.length ∧ l0_1.length ≤ 4) && decide ((l0_2.length : Int) ≤ 30)))) = r))
      case atStart => exact ⟨0, Nat.zero_le _, by omega, rfl, ⟨Below.refl _ _⟩, HE2⟩
      case round =>
        obtain ⟨j, hj, hg, rfl, BW, HI⟩ := hrel
        have BW0 : Aside0 (Below w.heap.size w wr) := ⟨below_step HB.out BW.out⟩
        have BKr := Aside0.mk (blk_below BK.out BW.out)
        have hz0 : wr.cell? ⟨gb, 0, none⟩ = some (.int .i64 a0_0) := (blk_cell BKr.out 0).trans rfl
        have hz1 : wr.cell? ⟨gb, 1, none⟩ = some (.slice A0_1 l0_1.length c0_1) := (blk_cell BKr.out 1).trans rfl
        have hz2 : wr.cell? ⟨gb, 2, none⟩ = some (.slice A0_2 l0_2.length c0_2) := (blk_cell BKr.out 2).trans rfl
        by_cases hlt2 : j < l0_2.length
        · have hltz2 : (j : Int) < (l0_2.length : Int) := by omega
          obtain ⟨ad2, rfl, hc0_, hc1_⟩ := at_T58 (Kd.C_below HR2.out BW0.out) (j : Int) (by omega) hltz2
          simp only [Int.toNat_natCast] at hc0_ hc1_
          have hx : rd_T58 l0_2 (j : Int) = l0_2[j] := by simp [rd_T58, List.getD_eq_getElem?_getD, List.getElem?_eq_getElem hlt2]
          have hst : Aside0 ((impl_EpochsOk.lst a0_0 (l0_2.take j) (l0_2[j] :: l0_2.drop (j + 1)) && (decide (1 ≤ a0_0 ∧ a0_0 ≤ 1000) && (decide (1 ≤ l0_1.length ∧ l0_1.length ≤ 4) && decide ((l0_2.length : Int) ≤ 30)))) = r) := ⟨by
            rw [← List.drop_eq_getElem_cons hlt2]; exact HI.out⟩
          have htk : l0_2.take (j + 1) = l0_2.take j ++ [l0_2[j]] := by rw [List.take_succ_eq_append_getElem hlt2]
          rw [← hx] at hst htk
          have HTK := Aside0.mk htk
          clear HI hx htk
          generalize rd_T58 l0_2 (j : Int) = y at *
          have hun := hst.out
          rw [impl_EpochsOk.lst] at hun
          clear hst
          by_cases c1 : 1 ≤ y.f1 ∧ y.f1 ≤ a0_0
          · by_cases c2 : y.f0 < 1
            · rw [decide_eq_false (by omega), Bool.false_and, Bool.false_and] at hun
              subst hun
              have b2 : decide (y.f0 < 1) = true := by simp [c2]
              go_wp2_with (first | ((with_reducible refine gate_dst (N := 6) rfl ?_); refine box_event ?hg (N := 6) ?hd (cs := #[.int .i64 0, .int .i64 0]) (t := 58) ?hr ?_; (case hd => rfl); (case hg => rfl); (case hr => first | (go_simp; done) | (go_simp; rfl)); intro gx hg w5 hbox hb; have HB5 := Aside0.mk (below_step BW0.out hb); have HB7 := Aside0.mk (below_step BW.out hb); have BX := Aside0.mk hbox; have GX := Aside0.mk hg; have BKs := Aside0.mk (blk_below BKr.out hb); have NE := Aside0.mk (by rw [hg]; exact Nat.ne_of_lt (blk_lt BKr.out) : gb ≠ gx); clear hbox hb hg; have hx0 : w5.cell? ⟨gx, 0, none⟩ = some (.int .i64 0) := (blk_cell BX.out 0).trans rfl; have hx1 : w5.cell? ⟨gx, 1, none⟩ = some (.int .i64 0) := (blk_cell BX.out 1).trans rfl; have hf0 := blk_frozen BX.out 0; have hf1 := blk_frozen BX.out 1; have hy0 : w5.cell? ⟨gb, 0, none⟩ = some (.int .i64 a0_0) := (blk_cell BKs.out 0).trans rfl; have hy2 : w5.cell? ⟨gb, 2, none⟩ = some (.slice (some ad2) l0_2.length c0_2) := (blk_cell BKs.out 2).trans rfl; have ne1 := NE.out) | (go_at_call 48; ((with_reducible refine (impl_from.calls y.f1 1 a0_0 true _ (by rw [impl_EpochsOk.from_f, decide_eq_true (by omega)])).mono ?_)); rintro e w' ⟨rfl, ⟨nd1, rfl⟩⟩))
              go_ret
              exact ⟨rfl, by repeat (first | exact HB5.out | apply pw_below_drewN | refine below_set ?_ (by rw [GX.out]; exact below_size BW0.out))⟩
            · rw [decide_eq_true (show _ from ⟨c1, by omega⟩), Bool.true_and] at hun
              have b2 : decide (y.f0 < 1) = false := by simp [c2]
              obtain ⟨tk, htk⟩ : ∃ tk, tk = l0_2.take j := ⟨_, rfl⟩
              have hlen : tk.length = j := by rw [htk, List.length_take]; omega
              obtain ⟨i0, hi0, _, _, _⟩ := info_parts info58
              have hcut : ∀ W : World, (Instr.slice 25 (.slice (some ad2) l0_2.length c0_2) none (some (.int .i64 (j : Int))) none).run Try.prog W = .ok (.slice (some ad2) tk.length c0_2) W := fun W => by
                rw [cut_to (P := Try.prog) 25 58 .i64 Try.underlying25 hi0 (some ad2) l0_2.length c0_2 (j : Int) (by omega) (by omega) HC2.out W, Int.toNat_natCast, hlen]
              have TK := Aside0.mk htk
              rw [← htk] at hun
              clear htk hlen hi0
              cases hca : tk.any (fun z => decide (z.f0 = y.f0)) with
              | true =>
                rw [hca, Bool.not_true, Bool.false_and, Bool.false_and] at hun
                subst hun
                have CA := Aside0.mk hca
                clear hca
                go_wp2_with (first | ((with_reducible refine gate_dst (N := 6) rfl ?_); refine box_event ?hg (N := 6) ?hd (cs := #[.int .i64 0, .int .i64 0]) (t := 58) ?hr ?_; (case hd => rfl); (case hg => rfl); (case hr => first | (go_simp; done) | (go_simp; rfl)); intro gx hg w5 hbox hb; have HB5 := Aside0.mk (below_step BW0.out hb); have HB7 := Aside0.mk (below_step BW.out hb); have BX := Aside0.mk hbox; have GX := Aside0.mk hg; have BKs := Aside0.mk (blk_below BKr.out hb); have NE := Aside0.mk (by rw [hg]; exact Nat.ne_of_lt (blk_lt BKr.out) : gb ≠ gx); clear hbox hb hg; have hx0 : w5.cell? ⟨gx, 0, none⟩ = some (.int .i64 0) := (blk_cell BX.out 0).trans rfl; have hx1 : w5.cell? ⟨gx, 1, none⟩ = some (.int .i64 0) := (blk_cell BX.out 1).trans rfl; have hf0 := blk_frozen BX.out 0; have hf1 := blk_frozen BX.out 1; have hy0 : w5.cell? ⟨gb, 0, none⟩ = some (.int .i64 a0_0) := (blk_cell BKs.out 0).trans rfl; have hy2 : w5.cell? ⟨gb, 2, none⟩ = some (.slice (some ad2) l0_2.length c0_2) := (blk_cell BKs.out 2).trans rfl; have ne1 := NE.out) | (go_at_call 48; ((with_reducible refine (impl_from.calls y.f1 1 a0_0 true _ (by rw [impl_EpochsOk.from_f, decide_eq_true (by omega)])).mono ?_)); rintro e w' ⟨rfl, ⟨nd1, rfl⟩⟩) | (go_at_call 52; ((with_reducible refine (impl_Retired_52.calls (fun z => decide (z.f0 = y.f0)) 53 #[.pointer (some ⟨gx, 0, none⟩)] (enters_of Try.func53 (by kernel_rfl) rfl) _ _ tk _ ?hr ?hp).mono ?_)); (case hr => rw [TK.out]; exact Kd.C_take (Kd.C_below HR2.out (by repeat (first | exact HB5.out | apply pw_below_drewN | refine below_set ?_ (by rw [GX.out]; exact below_size BW0.out)))) hj); (case hp => exact impl_EpochsOk.pred y.f0 gx _ _ (by (with_reducible repeat (first | refine blk_drewN ?_ _ | refine blk_drew ?_)); refine blk_put (cs := #[.int .i64 y.f0, .int .i64 0]) ?_ 1 _ rfl; refine blk_put (cs := #[.int .i64 0, .int .i64 0]) ?_ 0 _ rfl; exact BX.out)); rintro e w' ⟨rfl, hbc⟩; have HBC := Aside0.mk (below_step (by repeat (first | exact HB5.out | apply pw_below_drewN | refine below_set ?_ (by rw [GX.out]; exact below_size BW0.out))) hbc); have HB8 := Aside0.mk (below_step (by repeat (first | exact HB7.out | apply pw_below_drewN | refine below_set ?_ (by rw [GX.out]; exact below_size BW.out)) : Below w1.heap.size w1 _) hbc); clear hbc; rw [CA.out]))
                go_ret
                exact ⟨rfl, HBC.out⟩
              | false =>
                rw [hca, Bool.not_false, Bool.true_and] at hun
                have HUN := Aside0.mk hun
                have CA := Aside0.mk hca
                clear hca hun
                go_wp2_with (first | ((with_reducible refine gate_dst (N := 6) rfl ?_); refine box_event ?hg (N := 6) ?hd (cs := #[.int .i64 0, .int .i64 0]) (t := 58) ?hr ?_; (case hd => rfl); (case hg => rfl); (case hr => first | (go_simp; done) | (go_simp; rfl)); intro gx hg w5 hbox hb; have HB5 := Aside0.mk (below_step BW0.out hb); have HB7 := Aside0.mk (below_step BW.out hb); have BX := Aside0.mk hbox; have GX := Aside0.mk hg; have BKs := Aside0.mk (blk_below BKr.out hb); have NE := Aside0.mk (by rw [hg]; exact Nat.ne_of_lt (blk_lt BKr.out) : gb ≠ gx); clear hbox hb hg; have hx0 : w5.cell? ⟨gx, 0, none⟩ = some (.int .i64 0) := (blk_cell BX.out 0).trans rfl; have hx1 : w5.cell? ⟨gx, 1, none⟩ = some (.int .i64 0) := (blk_cell BX.out 1).trans rfl; have hf0 := blk_frozen BX.out 0; have hf1 := blk_frozen BX.out 1; have hy0 : w5.cell? ⟨gb, 0, none⟩ = some (.int .i64 a0_0) := (blk_cell BKs.out 0).trans rfl; have hy2 : w5.cell? ⟨gb, 2, none⟩ = some (.slice (some ad2) l0_2.length c0_2) := (blk_cell BKs.out 2).trans rfl; have ne1 := NE.out) | (go_at_call 48; ((with_reducible refine (impl_from.calls y.f1 1 a0_0 true _ (by rw [impl_EpochsOk.from_f, decide_eq_true (by omega)])).mono ?_)); rintro e w' ⟨rfl, ⟨nd1, rfl⟩⟩) | (go_at_call 52; ((with_reducible refine (impl_Retired_52.calls (fun z => decide (z.f0 = y.f0)) 53 #[.pointer (some ⟨gx, 0, none⟩)] (enters_of Try.func53 (by kernel_rfl) rfl) _ _ tk _ ?hr ?hp).mono ?_)); (case hr => rw [TK.out]; exact Kd.C_take (Kd.C_below HR2.out (by repeat (first | exact HB5.out | apply pw_below_drewN | refine below_set ?_ (by rw [GX.out]; exact below_size BW0.out)))) hj); (case hp => exact impl_EpochsOk.pred y.f0 gx _ _ (by (with_reducible repeat (first | refine blk_drewN ?_ _ | refine blk_drew ?_)); refine blk_put (cs := #[.int .i64 y.f0, .int .i64 0]) ?_ 1 _ rfl; refine blk_put (cs := #[.int .i64 0, .int .i64 0]) ?_ 0 _ rfl; exact BX.out)); rintro e w' ⟨rfl, hbc⟩; have HBC := Aside0.mk (below_step (by repeat (first | exact HB5.out | apply pw_below_drewN | refine below_set ?_ (by rw [GX.out]; exact below_size BW0.out))) hbc); have HB8 := Aside0.mk (below_step (by repeat (first | exact HB7.out | apply pw_below_drewN | refine below_set ?_ (by rw [GX.out]; exact below_size BW.out)) : Below w1.heap.size w1 _) hbc); clear hbc; rw [CA.out]))
                go_roundg (l0_2.length - (j + 1))
                case measure => omega
                case rel => exact ⟨j + 1, by omega, by omega, by go_num, HB8, ⟨by rw [HTK.out, ← TK.out]; exact HUN.out⟩⟩
          · rw [decide_eq_false (fun hh => c1 hh.1), Bool.false_and, Bool.false_and] at hun
            subst hun
            go_wp2_with (first | ((with_reducible refine gate_dst (N := 6) rfl ?_); refine box_event ?hg (N := 6) ?hd (cs := #[.int .i64 0, .int .i64 0]) (t := 58) ?hr ?_; (case hd => rfl); (case hg => rfl); (case hr => first | (go_simp; done) | (go_simp; rfl)); intro gx hg w5 hbox hb; have HB5 := Aside0.mk (below_step BW0.out hb); have HB7 := Aside0.mk (below_step BW.out hb); have BX := Aside0.mk hbox; have GX := Aside0.mk hg; have BKs := Aside0.mk (blk_below BKr.out hb); have NE := Aside0.mk (by rw [hg]; exact Nat.ne_of_lt (blk_lt BKr.out) : gb ≠ gx); clear hbox hb hg; have hx0 : w5.cell? ⟨gx, 0, none⟩ = some (.int .i64 0) := (blk_cell BX.out 0).trans rfl; have hx1 : w5.cell? ⟨gx, 1, none⟩ = some (.int .i64 0) := (blk_cell BX.out 1).trans rfl; have hf0 := blk_frozen BX.out 0; have hf1 := blk_frozen BX.out 1; have hy0 : w5.cell? ⟨gb, 0, none⟩ = some (.int .i64 a0_0) := (blk_cell BKs.out 0).trans rfl; have hy2 : w5.cell? ⟨gb, 2, none⟩ = some (.slice (some ad2) l0_2.length c0_2) := (blk_cell BKs.out 2).trans rfl; have ne1 := NE.out) | (go_at_call 48; ((with_reducible refine (impl_from.calls y.f1 1 a0_0 false _ (by rw [impl_EpochsOk.from_f, decide_eq_false (by omega)])).mono ?_)); rintro e w' ⟨rfl, ⟨nd1, rfl⟩⟩))
            go_ret
            exact ⟨rfl, by repeat (first | exact HB5.out | apply pw_below_drewN | refine below_set ?_ (by rw [GX.out]; exact below_size BW0.out))⟩
        · have hltz2 : ¬ (j : Int) < (l0_2.length : Int) := by omega
          have hE3 : (decide (1 ≤ a0_0 ∧ a0_0 ≤ 1000) && (decide (1 ≤ l0_1.length ∧ l0_1.length ≤ 4) && decide ((l0_2.length : Int) ≤ 30))) = r := by
            have := HI.out
            rw [List.drop_eq_nil_of_le (by omega)] at this
            simpa [impl_EpochsOk.lst] using this
          clear HI HE2
          by_cases c1 : 1 ≤ a0_0 ∧ a0_0 ≤ 1000
          · by_cases c2 : 1 ≤ l0_1.length ∧ l0_1.length ≤ 4
            · rw [decide_eq_true c1, decide_eq_true c2, Bool.true_and, Bool.true_and] at hE3
              subst hE3
              go_wp2_with (first | (go_at_call 48; ((with_reducible refine (impl_from.calls a0_0 1 1000 true _ (by rw [impl_EpochsOk.from_f, decide_eq_true (by omega)])).mono ?_)); rintro e w' ⟨rfl, ⟨nd1, rfl⟩⟩) | (go_at_call 48; ((with_reducible refine (impl_from.calls (l0_1.length : Int) 1 4 true _ (by rw [impl_EpochsOk.from_f, decide_eq_true (by omega)])).mono ?_)); rintro e w' ⟨rfl, ⟨nd2, rfl⟩⟩))
              go_ret
              exact ⟨rfl, by repeat (first | exact BW0.out | apply pw_below_drewN)⟩
            · rw [decide_eq_true c1, decide_eq_false c2, Bool.true_and, Bool.false_and] at hE3
              subst hE3
              go_wp2_with (first | (go_at_call 48; ((with_reducible refine (impl_from.calls a0_0 1 1000 true _ (by rw [impl_EpochsOk.from_f, decide_eq_true (by omega)])).mono ?_)); rintro e w' ⟨rfl, ⟨nd1, rfl⟩⟩) | (go_at_call 48; ((with_reducible refine (impl_from.calls (l0_1.length : Int) 1 4 false _ (by rw [impl_EpochsOk.from_f, decide_eq_false (by omega)])).mono ?_)); rintro e w' ⟨rfl, ⟨nd2, rfl⟩⟩))
              go_ret
              exact ⟨rfl, by repeat (first | exact BW0.out | apply pw_below_drewN)⟩
          · rw [decide_eq_false c1, Bool.false_and] at hE3
            subst hE3
            go_wp2_with (go_at_call 48; ((with_reducible refine (impl_from.calls a0_0 1 1000 false _ (by rw [impl_EpochsOk.from_f, decide_eq_false (by omega)])).mono ?_)); rintro e w' ⟨rfl, ⟨nd1, rfl⟩⟩)
            go_ret
            exact ⟨rfl, by repeat (first | exact BW0.out | apply pw_below_drewN)⟩
end Go.Proofs.Ytpidphppldimkaa.PFnExactCollect
