/- The contracts of the functions that the law FnExactBothOk reaches, each proved: what each computes. Written by programs and by hand. -/
import Derived.Test.YtgpeboajnhlfnaaPFnExactBothOkx0
import Derived.Test.YtgpeboajnhlfnaaPFnExactBothOkx4
import Derived.Test.YtgpeboajnhlfnaaPFnExactBothOkx8
namespace Go.Proofs.Ytgpeboajnhlfnaa.PFnExactBothOk
open Go.RowKit Go.Proofs.YtgpeboajnhlfnaaW.PrintWords Go.Proofs.YtgpeboajnhlfnaaW.PrintLast Go.Proofs.YtgpeboajnhlfnaaW.PrintMore
open Go.Proofs.YtgpeboajnhlfnaaW.PrintWords renaming pw_below_drewN → zA, below_set → zB, Kd.R_alloc → zC, Kd.R_drewN → zD, Kd.R_drew → zE, Kd.R_below → zH, Kd.R_reads' → zJ, blk_alloc → zK, blk_drewN → zL, blk_drew → zM, below_drew1 → zN, below_alloc → zO, blk_cell → zP, blk_frozen → zQ, blk_below → zR, below_step → zS, below_size → zT, Kd.C_alloc → zU, Kd.C_drewN → zV, Kd.C_drew → zW
attribute [local go_sem] max2_int min2_int max_two min_two max_three min_three max_four min_four   -- for this text's walks alone
set_option linter.unusedVariables false
set_option linter.unusedSimpArgs false

/-! ### impl_wantOk: function 66 -/
mutual
def impl_wantOk.j0 : Nat → Int → Bool → List Int → Int → Int → Int → List (S40) → List (S38) → Int → Int → Int → Int → Int → Int → Int → Int → Option (Bool)
  | 0, _, _, _, _, _, _, _, _, _, _, _, _, _, _, _, _ => none
  | k + 1, x1, x43, x165000, x165001, x165002, x165003, x165004, x165005, x167000, x167001, x167002, x167003, x167004, x167005, x167006, x167007 => if x43 = true then (some false) else (if x167003 ≥ 5 then ((impl_from.f x167004 1 (x165004.length : Int)).bind fun t174 => (if t174 = true then (some (x167007 == 0)) else (some false))) else (if x167004 = 0 then (if x167003 = 0 then (impl_wantOk.j1 k x1 x167003 (x167003 == 0) x165000 x165001 x165002 x165003 x165004 x165005 x167000 x167001 x167002 x167003 x167004 x167005 x167006 x167007) else (impl_wantOk.j1 k x1 x167003 (x167003 == 1) x165000 x165001 x165002 x165003 x165004 x165005 x167000 x167001 x167002 x167003 x167004 x167005 x167006 x167007)) else (some false)))
def impl_wantOk.j1 : Nat → Int → Int → Bool → List Int → Int → Int → Int → List (S40) → List (S38) → Int → Int → Int → Int → Int → Int → Int → Int → Option (Bool)
  | 0, _, _, _, _, _, _, _, _, _, _, _, _, _, _, _, _, _ => none
  | k + 1, x1, x62, x63, x165000, x165001, x165002, x165003, x165004, x165005, x167000, x167001, x167002, x167003, x167004, x167005, x167006, x167007 => if x63 = true then (some (x167007 == 0)) else (if x62 = 4 then (some (x167007 != 0)) else (some ((x167007 == 0) == (x165003 == (wrap64 (x1 + 1))))))
end
def impl_wantOk.f (k : Nat) (l0_0 : List Int) (a0_1 : Int) (a0_2 : Int) (a0_3 : Int) (l0_4 : List (S40)) (l0_5 : List (S38)) (a1 : Int) : Option (Bool) := if 0 ≤ a1 then (if a1 < (l0_4.length : Int) then ((impl_small.f (([(rd_T40 l0_4 a1).f0, (rd_T40 l0_4 a1).f1, (rd_T40 l0_4 a1).f2, (rd_T40 l0_4 a1).f5] : List Int))).bind fun t170 => (if t170 = true then ((impl_from.f ((rd_T40 l0_4 a1).f3) 0 6).bind fun t171 => (if t171 = true then ((impl_from.f ((rd_T40 l0_4 a1).f6) 0 (wrap64 ((l0_0.length : Int) - 1))).bind fun t172 => (if t172 = true then ((impl_from.f ((rd_T40 l0_4 a1).f7) 0 2).bind fun t173 => (impl_wantOk.j0 k a1 (!t173) l0_0 a0_1 a0_2 a0_3 l0_4 l0_5 ((rd_T40 l0_4 a1).f0) ((rd_T40 l0_4 a1).f1) ((rd_T40 l0_4 a1).f2) ((rd_T40 l0_4 a1).f3) ((rd_T40 l0_4 a1).f4) ((rd_T40 l0_4 a1).f5) ((rd_T40 l0_4 a1).f6) ((rd_T40 l0_4 a1).f7))) else (impl_wantOk.j0 k a1 true l0_0 a0_1 a0_2 a0_3 l0_4 l0_5 ((rd_T40 l0_4 a1).f0) ((rd_T40 l0_4 a1).f1) ((rd_T40 l0_4 a1).f2) ((rd_T40 l0_4 a1).f3) ((rd_T40 l0_4 a1).f4) ((rd_T40 l0_4 a1).f5) ((rd_T40 l0_4 a1).f6) ((rd_T40 l0_4 a1).f7)))) else (impl_wantOk.j0 k a1 true l0_0 a0_1 a0_2 a0_3 l0_4 l0_5 ((rd_T40 l0_4 a1).f0) ((rd_T40 l0_4 a1).f1) ((rd_T40 l0_4 a1).f2) ((rd_T40 l0_4 a1).f3) ((rd_T40 l0_4 a1).f4) ((rd_T40 l0_4 a1).f5) ((rd_T40 l0_4 a1).f6) ((rd_T40 l0_4 a1).f7)))) else (impl_wantOk.j0 k a1 true l0_0 a0_1 a0_2 a0_3 l0_4 l0_5 ((rd_T40 l0_4 a1).f0) ((rd_T40 l0_4 a1).f1) ((rd_T40 l0_4 a1).f2) ((rd_T40 l0_4 a1).f3) ((rd_T40 l0_4 a1).f4) ((rd_T40 l0_4 a1).f5) ((rd_T40 l0_4 a1).f6) ((rd_T40 l0_4 a1).f7)))) else (none)) else (none)
theorem impl_wantOk.mono_l : ∀ k, (∀ y0 y1 y2 y3 y4 y5 y6 y7 y8 y9 y10 y11 y12 y13 y14 y15, LeO (impl_wantOk.j0 k y0 y1 y2 y3 y4 y5 y6 y7 y8 y9 y10 y11 y12 y13 y14 y15) (impl_wantOk.j0 (k + 1) y0 y1 y2 y3 y4 y5 y6 y7 y8 y9 y10 y11 y12 y13 y14 y15)) ∧ (∀ y0 y1 y2 y3 y4 y5 y6 y7 y8 y9 y10 y11 y12 y13 y14 y15 y16, LeO (impl_wantOk.j1 k y0 y1 y2 y3 y4 y5 y6 y7 y8 y9 y10 y11 y12 y13 y14 y15 y16) (impl_wantOk.j1 (k + 1) y0 y1 y2 y3 y4 y5 y6 y7 y8 y9 y10 y11 y12 y13 y14 y15 y16))
  | 0 => ⟨fun _ _ _ _ _ _ _ _ _ _ _ _ _ _ _ _ r h => by simp [impl_wantOk.j0] at h, fun _ _ _ _ _ _ _ _ _ _ _ _ _ _ _ _ _ r h => by simp [impl_wantOk.j1] at h⟩
  | k + 1 => by
    obtain ⟨ih0, ih1⟩ := impl_wantOk.mono_l k
    refine ⟨?_, ?_⟩
    · intro y0 y1 y2 y3 y4 y5 y6 y7 y8 y9 y10 y11 y12 y13 y14 y15
      unfold impl_wantOk.j0
      repeat' first
      | (with_reducible exact ih0 _ _ _ _ _ _ _ _ _ _ _ _ _ _ _ _)
      | (with_reducible exact ih1 _ _ _ _ _ _ _ _ _ _ _ _ _ _ _ _ _)
      | (with_reducible exact LeO.refl _)
      | (with_reducible exact LeO.none _)
      | (with_reducible refine LeO.ite ?_ ?_)
      | (with_reducible refine LeO.bind ?_ (fun _ => ?_))
      | exact ih0 _ _ _ _ _ _ _ _ _ _ _ _ _ _ _ _
      | exact ih1 _ _ _ _ _ _ _ _ _ _ _ _ _ _ _ _ _
      | exact LeO.none _
      | refine LeO.ite ?_ ?_
      | refine LeO.bind ?_ (fun _ => ?_)
    · intro y0 y1 y2 y3 y4 y5 y6 y7 y8 y9 y10 y11 y12 y13 y14 y15 y16
      unfold impl_wantOk.j1
      repeat' first
      | (with_reducible exact ih0 _ _ _ _ _ _ _ _ _ _ _ _ _ _ _ _)
      | (with_reducible exact ih1 _ _ _ _ _ _ _ _ _ _ _ _ _ _ _ _ _)
      | (with_reducible exact LeO.refl _)
      | (with_reducible exact LeO.none _)
      | (with_reducible refine LeO.ite ?_ ?_)
      | (with_reducible refine LeO.bind ?_ (fun _ => ?_))
      | exact ih0 _ _ _ _ _ _ _ _ _ _ _ _ _ _ _ _
      | exact ih1 _ _ _ _ _ _ _ _ _ _ _ _ _ _ _ _ _
      | exact LeO.none _
      | refine LeO.ite ?_ ?_
      | refine LeO.bind ?_ (fun _ => ?_)
theorem impl_wantOk.mono : ∀ a0 a1 a2 a3 a4 a5 a6 k, LeO (impl_wantOk.f k a0 a1 a2 a3 a4 a5 a6) (impl_wantOk.f (k + 1) a0 a1 a2 a3 a4 a5 a6) := by
  intro a0 a1 a2 a3 a4 a5 a6 k
  obtain ⟨ih0, ih1⟩ := impl_wantOk.mono_l k
  unfold impl_wantOk.f
  repeat' first
      | (with_reducible exact ih0 _ _ _ _ _ _ _ _ _ _ _ _ _ _ _ _)
      | (with_reducible exact ih1 _ _ _ _ _ _ _ _ _ _ _ _ _ _ _ _ _)
      | (with_reducible exact LeO.refl _)
      | (with_reducible exact LeO.none _)
      | (with_reducible refine LeO.ite ?_ ?_)
      | (with_reducible refine LeO.bind ?_ (fun _ => ?_))
      | exact ih0 _ _ _ _ _ _ _ _ _ _ _ _ _ _ _ _
      | exact ih1 _ _ _ _ _ _ _ _ _ _ _ _ _ _ _ _ _
      | exact LeO.none _
      | refine LeO.ite ?_ ?_
      | refine LeO.bind ?_ (fun _ => ?_)
set_option maxHeartbeats 8000000 in
set_option maxRecDepth 100000 in
theorem impl_wantOk.calls (k : Nat) (A0_0 : Option Addr) (c0_0 : Nat) (l0_0 : List Int) (a0_1 : Int) (a0_2 : Int) (a0_3 : Int) (A0_4 : Option Addr) (c0_4 : Nat) (l0_4 : List (S40)) (A0_5 : Option Addr) (c0_5 : Nat) (l0_5 : List (S38)) (a1 : Int) (r : Bool) (w : World) (hr0_0 : Kd.C (Kd.int .i64) w A0_0 l0_0.length l0_0) (hc0_0 : l0_0.length ≤ c0_0) (hr0_4 : Kd.C k40 w A0_4 l0_4.length l0_4) (hc0_4 : l0_4.length ≤ c0_4) (hr0_5 : Kd.C k38 w A0_5 l0_5.length l0_5) (hc0_5 : l0_5.length ≤ c0_5) (h : impl_wantOk.f k l0_0 a0_1 a0_2 a0_3 l0_4 l0_5 a1 = some r) :
    Calls Try.prog 66 #[.agg #[.slice A0_0 l0_0.length c0_0, .int .i64 a0_1, .int .i64 a0_2, .int .i64 a0_3, .slice A0_4 l0_4.length c0_4, .slice A0_5 l0_5.length c0_5], .int .i64 a1] w fun e w' => e = .returned (.bool r) ∧ Below w.heap.size w w' := by
  have hu30 := Try.underlying30
  have hu40 := Try.underlying40
  have HR0_0 := Aside0.mk hr0_0
  have HC0_0 := Aside0.mk hc0_0
  clear hr0_0 hc0_0
  have HR0_4 := Aside0.mk hr0_4
  have HC0_4 := Aside0.mk hc0_4
  clear hr0_4 hc0_4
  have HR0_5 := Aside0.mk hr0_5
  have HC0_5 := Aside0.mk hc0_5
  clear hr0_5 hc0_5
  have HB := Aside0.mk (Below.refl w.heap.size w)
  have H : (if 0 ≤ a1 then (if a1 < (l0_4.length : Int) then ((impl_small.f (([(rd_T40 l0_4 a1).f0, (rd_T40 l0_4 a1).f1, (rd_T40 l0_4 a1).f2, (rd_T40 l0_4 a1).f5] : List Int))).bind fun t170 => (if t170 = true then ((impl_from.f ((rd_T40 l0_4 a1).f3) 0 6).bind fun t171 => (if t171 = true then ((impl_from.f ((rd_T40 l0_4 a1).f6) 0 (wrap64 ((l0_0.length : Int) - 1))).bind fun t172 => (if t172 = true then ((impl_from.f ((rd_T40 l0_4 a1).f7) 0 2).bind fun t173 => (impl_wantOk.j0 k a1 (!t173) l0_0 a0_1 a0_2 a0_3 l0_4 l0_5 ((rd_T40 l0_4 a1).f0) ((rd_T40 l0_4 a1).f1) ((rd_T40 l0_4 a1).f2) ((rd_T40 l0_4 a1).f3) ((rd_T40 l0_4 a1).f4) ((rd_T40 l0_4 a1).f5) ((rd_T40 l0_4 a1).f6) ((rd_T40 l0_4 a1).f7))) else (impl_wantOk.j0 k a1 true l0_0 a0_1 a0_2 a0_3 l0_4 l0_5 ((rd_T40 l0_4 a1).f0) ((rd_T40 l0_4 a1).f1) ((rd_T40 l0_4 a1).f2) ((rd_T40 l0_4 a1).f3) ((rd_T40 l0_4 a1).f4) ((rd_T40 l0_4 a1).f5) ((rd_T40 l0_4 a1).f6) ((rd_T40 l0_4 a1).f7)))) else (impl_wantOk.j0 k a1 true l0_0 a0_1 a0_2 a0_3 l0_4 l0_5 ((rd_T40 l0_4 a1).f0) ((rd_T40 l0_4 a1).f1) ((rd_T40 l0_4 a1).f2) ((rd_T40 l0_4 a1).f3) ((rd_T40 l0_4 a1).f4) ((rd_T40 l0_4 a1).f5) ((rd_T40 l0_4 a1).f6) ((rd_T40 l0_4 a1).f7)))) else (impl_wantOk.j0 k a1 true l0_0 a0_1 a0_2 a0_3 l0_4 l0_5 ((rd_T40 l0_4 a1).f0) ((rd_T40 l0_4 a1).f1) ((rd_T40 l0_4 a1).f2) ((rd_T40 l0_4 a1).f3) ((rd_T40 l0_4 a1).f4) ((rd_T40 l0_4 a1).f5) ((rd_T40 l0_4 a1).f6) ((rd_T40 l0_4 a1).f7)))) else (none)) else (none)) = some r := h
  clear h
  by_cases c3 : 0 ≤ a1
  · rw [if_pos c3] at H
    have c3b0 : decide (0 ≤ a1) = true := decide_eq_true c3
    clear c3
    by_cases c4 : a1 < (l0_4.length : Int)
    · rw [if_pos c4] at H
      have c4b0 : decide (a1 < (l0_4.length : Int)) = true := decide_eq_true c4
      clear c4
      have HC5 := Aside0.mk H
      clear H
      go_enter Try.func66, Try.ntmps66
      go_upto_region 2 with (first | ((with_reducible refine gate_dst (N := 2) rfl ?_); (try (refine gate_guard (by rfl) ?_; dsimp only)); refine box_event ?hg (N := 2) ?hd (cs := #[.slice A0_0 l0_0.length c0_0, .int .i64 a0_1, .int .i64 a0_2, .int .i64 a0_3, .slice A0_4 l0_4.length c0_4, .slice A0_5 l0_5.length c0_5]) (t := 30) ?hr ?_; (case hd => rfl); (case hg => rfl); (case hr => first | (go_simp; done) | (go_simp; rfl)); intro gb164 hg w6 hbox hb; have n0_ := Aside0.mk (zS (by repeat (first | (with_reducible first | exact HB.out | apply zO | apply zA | apply zN) | exact HB.out)) hb); have n1_ := Aside0.mk (hbox); have n2_ := Aside0.mk ((by rw [hg]; exact (zT (by repeat (first | (with_reducible first | exact HB.out | apply zO | apply zA | apply zN) | exact HB.out))) : w.heap.size ≤ gb164)); have n3_ := Aside0.mk ((by rw [hg]; exact (zT (by repeat (first | (with_reducible first | exact HB.out | apply zO | apply zA | apply zN) | exact HB.out))) : w.heap.size ≤ gb164)); clear HB; have HB := n0_; have BK164 := n1_; have GW164 := n2_; have GE164 := n3_; clear n0_ n1_ n2_ n3_; clear hb hbox hg; have hcz7_0 : w6.cell? ⟨gb164, 0, none⟩ = some (.slice A0_0 l0_0.length c0_0) := (zP BK164.out 0).trans rfl; have hcz7_1 : w6.cell? ⟨gb164, 1, none⟩ = some (.int .i64 a0_1) := (zP BK164.out 1).trans rfl; have hcz7_2 : w6.cell? ⟨gb164, 2, none⟩ = some (.int .i64 a0_2) := (zP BK164.out 2).trans rfl; have hcz7_3 : w6.cell? ⟨gb164, 3, none⟩ = some (.int .i64 a0_3) := (zP BK164.out 3).trans rfl; have hcz7_4 : w6.cell? ⟨gb164, 4, none⟩ = some (.slice A0_4 l0_4.length c0_4) := (zP BK164.out 4).trans rfl; have hcz7_5 : w6.cell? ⟨gb164, 5, none⟩ = some (.slice A0_5 l0_5.length c0_5) := (zP BK164.out 5).trans rfl; have hfz7_0 := zQ BK164.out 0; have hfz7_1 := zQ BK164.out 1; have hfz7_2 := zQ BK164.out 2; have hfz7_3 := zQ BK164.out 3; have hfz7_4 := zQ BK164.out 4; have hfz7_5 := zQ BK164.out 5; have p165 : 0 ≤ (a1 : Int) := of_decide_eq_true (by first | (with_reducible assumption) | assumption); have q165 : a1 < (l0_4.length : Int) := of_decide_eq_true (by first | (with_reducible assumption) | assumption); obtain ⟨ad165, e165, hx165_0, hx165_1, hx165_2, hx165_3, hx165_4, hx165_5, hx165_6, hx165_7⟩ := at_T40 HR0_4.out a1 p165 q165; cases e165; replace hx165_0 := (HB.out.cell (World.block_lt_of_cell? w _ hx165_0)).trans hx165_0; replace hx165_1 := (HB.out.cell (World.block_lt_of_cell? w _ hx165_1)).trans hx165_1; replace hx165_2 := (HB.out.cell (World.block_lt_of_cell? w _ hx165_2)).trans hx165_2; replace hx165_3 := (HB.out.cell (World.block_lt_of_cell? w _ hx165_3)).trans hx165_3; replace hx165_4 := (HB.out.cell (World.block_lt_of_cell? w _ hx165_4)).trans hx165_4; replace hx165_5 := (HB.out.cell (World.block_lt_of_cell? w _ hx165_5)).trans hx165_5; replace hx165_6 := (HB.out.cell (World.block_lt_of_cell? w _ hx165_6)).trans hx165_6; replace hx165_7 := (HB.out.cell (World.block_lt_of_cell? w _ hx165_7)).trans hx165_7; replace p165 := eq_true p165; replace q165 := eq_true q165) | ((with_reducible refine gate_dst (N := 5) rfl ?_); (try (refine gate_guard (by rfl) ?_; dsimp only)); refine box_event ?hg (N := 5) ?hd (cs := #[.int .i64 0, .int .i64 0, .int .i64 0, .int .i64 0, .int .i64 0, .int .i64 0, .int .i64 0, .int .i64 0]) (t := 40) ?hr ?_; (case hd => rfl); (case hg => rfl); (case hr => first | (go_simp; done) | (go_simp; rfl)); intro gb166 hg w8 hbox hb; have n0_ := Aside0.mk (zR (g := gb164) (o := .cells #[.slice A0_0 l0_0.length c0_0, .int .i64 a0_1, .int .i64 a0_2, .int .i64 a0_3, .slice (some ad165) l0_4.length c0_4, .slice A0_5 l0_5.length c0_5] 30 (0, 0)) (by (with_reducible repeat (first | refine zL ?_ _ | refine zM ?_ | refine zK ?_ _)); exact BK164.out) hb); have n1_ := Aside0.mk (zS (by repeat (first | (with_reducible first | exact HB.out | apply zO | apply zA | apply zN | refine zB ?_ GE164.out) | exact HB.out)) hb); have n2_ := Aside0.mk (hbox); have n3_ := Aside0.mk ((by rw [hg]; exact (zT (by repeat (first | (with_reducible first | exact HB.out | apply zO | apply zA | apply zN | refine zB ?_ GE164.out) | exact HB.out))) : w.heap.size ≤ gb166)); have n4_ := Aside0.mk ((by rw [hg]; exact (zT (by repeat (first | (with_reducible first | exact HB.out | apply zO | apply zA | apply zN | refine zB ?_ GE164.out) | exact HB.out))) : w.heap.size ≤ gb166)); have n5_ := Aside0.mk ((by rw [hg]; exact Nat.ne_of_lt (blk_lt (g := gb164) (o := .cells #[.slice A0_0 l0_0.length c0_0, .int .i64 a0_1, .int .i64 a0_2, .int .i64 a0_3, .slice (some ad165) l0_4.length c0_4, .slice A0_5 l0_5.length c0_5] 30 (0, 0)) (by (with_reducible repeat (first | refine zL ?_ _ | refine zM ?_ | refine zK ?_ _)); exact BK164.out)) : gb164 ≠ gb166)); have n6_ := Aside0.mk ((by rw [hg]; exact Nat.ne_of_gt (blk_lt (g := gb164) (o := .cells #[.slice A0_0 l0_0.length c0_0, .int .i64 a0_1, .int .i64 a0_2, .int .i64 a0_3, .slice (some ad165) l0_4.length c0_4, .slice A0_5 l0_5.length c0_5] 30 (0, 0)) (by (with_reducible repeat (first | refine zL ?_ _ | refine zM ?_ | refine zK ?_ _)); exact BK164.out)) : gb166 ≠ gb164)); clear BK164; clear HB; have BK164 := n0_; have HB := n1_; have BK166 := n2_; have GW166 := n3_; have GE166 := n4_; have NB164_166 := n5_; have NB166_164 := n6_; clear n0_ n1_ n2_ n3_ n4_ n5_ n6_; clear hb hbox hg; have hnb9 := NB166_164.out; have hnc9 := NB164_166.out; have hcz10_0 : w8.cell? ⟨gb166, 0, none⟩ = some (.int .i64 0) := (zP BK166.out 0).trans rfl; have hcz10_1 : w8.cell? ⟨gb166, 1, none⟩ = some (.int .i64 0) := (zP BK166.out 1).trans rfl; have hcz10_2 : w8.cell? ⟨gb166, 2, none⟩ = some (.int .i64 0) := (zP BK166.out 2).trans rfl; have hcz10_3 : w8.cell? ⟨gb166, 3, none⟩ = some (.int .i64 0) := (zP BK166.out 3).trans rfl; have hcz10_4 : w8.cell? ⟨gb166, 4, none⟩ = some (.int .i64 0) := (zP BK166.out 4).trans rfl; have hcz10_5 : w8.cell? ⟨gb166, 5, none⟩ = some (.int .i64 0) := (zP BK166.out 5).trans rfl; have hcz10_6 : w8.cell? ⟨gb166, 6, none⟩ = some (.int .i64 0) := (zP BK166.out 6).trans rfl; have hcz10_7 : w8.cell? ⟨gb166, 7, none⟩ = some (.int .i64 0) := (zP BK166.out 7).trans rfl; have hfz10_0 := zQ BK166.out 0; have hfz10_1 := zQ BK166.out 1; have hfz10_2 := zQ BK166.out 2; have hfz10_3 := zQ BK166.out 3; have hfz10_4 := zQ BK166.out 4; have hfz10_5 := zQ BK166.out 5; have hfz10_6 := zQ BK166.out 6; have hfz10_7 := zQ BK166.out 7))
      (try simp only [Act.put, List.setIfInBounds_toArray, List.set_cons_zero, List.set_cons_succ])
      go_cut [43] (fun v43 wc => ∃ (kq : Nat) (x43_4 : Bool), v43 = .bool x43_4 ∧ Aside0 (impl_wantOk.j0 kq a1 x43_4 l0_0 a0_1 a0_2 a0_3 l0_4 l0_5 ((rd_T40 l0_4 a1).f0) ((rd_T40 l0_4 a1).f1) ((rd_T40 l0_4 a1).f2) ((rd_T40 l0_4 a1).f3) ((rd_T40 l0_4 a1).f4) ((rd_T40 l0_4 a1).f5) ((rd_T40 l0_4 a1).f6) ((rd_T40 l0_4 a1).f7) = some r) ∧ Aside0 (kq ≤ k) ∧ Aside0 (wc.heap[gb164]? = some (.cells #[(.slice A0_0 l0_0.length c0_0), .int .i64 a0_1, .int .i64 a0_2, .int .i64 a0_3, (.slice (some ad165) l0_4.length c0_4), (.slice A0_5 l0_5.length c0_5)] 30 (0, 0))) ∧ Aside0 (wc.heap[gb166]? = some (.cells #[.int .i64 ((rd_T40 l0_4 a1).f0), .int .i64 ((rd_T40 l0_4 a1).f1), .int .i64 ((rd_T40 l0_4 a1).f2), .int .i64 ((rd_T40 l0_4 a1).f3), .int .i64 ((rd_T40 l0_4 a1).f4), .int .i64 ((rd_T40 l0_4 a1).f5), .int .i64 ((rd_T40 l0_4 a1).f6), .int .i64 ((rd_T40 l0_4 a1).f7)] 40 (0, 0))) ∧ Aside0 (Below w.heap.size w wc))
      case first =>
        have H := HC5.out
        clear HC5
        obtain ⟨y167, hy167⟩ : ∃ y_ : List Int, y_ = (([(rd_T40 l0_4 a1).f0, (rd_T40 l0_4 a1).f1, (rd_T40 l0_4 a1).f2, (rd_T40 l0_4 a1).f5] : List Int)) := ⟨_, rfl⟩
        replace H : ((impl_small.f y167).bind fun t170 => (if t170 = true then ((impl_from.f ((rd_T40 l0_4 a1).f3) 0 6).bind fun t171 => (if t171 = true then ((impl_from.f ((rd_T40 l0_4 a1).f6) 0 (wrap64 ((l0_0.length : Int) - 1))).bind fun t172 => (if t172 = true then ((impl_from.f ((rd_T40 l0_4 a1).f7) 0 2).bind fun t173 => (impl_wantOk.j0 k a1 (!t173) l0_0 a0_1 a0_2 a0_3 l0_4 l0_5 ((rd_T40 l0_4 a1).f0) ((rd_T40 l0_4 a1).f1) ((rd_T40 l0_4 a1).f2) ((rd_T40 l0_4 a1).f3) ((rd_T40 l0_4 a1).f4) ((rd_T40 l0_4 a1).f5) ((rd_T40 l0_4 a1).f6) ((rd_T40 l0_4 a1).f7))) else (impl_wantOk.j0 k a1 true l0_0 a0_1 a0_2 a0_3 l0_4 l0_5 ((rd_T40 l0_4 a1).f0) ((rd_T40 l0_4 a1).f1) ((rd_T40 l0_4 a1).f2) ((rd_T40 l0_4 a1).f3) ((rd_T40 l0_4 a1).f4) ((rd_T40 l0_4 a1).f5) ((rd_T40 l0_4 a1).f6) ((rd_T40 l0_4 a1).f7)))) else (impl_wantOk.j0 k a1 true l0_0 a0_1 a0_2 a0_3 l0_4 l0_5 ((rd_T40 l0_4 a1).f0) ((rd_T40 l0_4 a1).f1) ((rd_T40 l0_4 a1).f2) ((rd_T40 l0_4 a1).f3) ((rd_T40 l0_4 a1).f4) ((rd_T40 l0_4 a1).f5) ((rd_T40 l0_4 a1).f6) ((rd_T40 l0_4 a1).f7)))) else (impl_wantOk.j0 k a1 true l0_0 a0_1 a0_2 a0_3 l0_4 l0_5 ((rd_T40 l0_4 a1).f0) ((rd_T40 l0_4 a1).f1) ((rd_T40 l0_4 a1).f2) ((rd_T40 l0_4 a1).f3) ((rd_T40 l0_4 a1).f4) ((rd_T40 l0_4 a1).f5) ((rd_T40 l0_4 a1).f6) ((rd_T40 l0_4 a1).f7)))) = some r := by first | (rw [hy167]; with_reducible exact H) | (have H2_ := (Option.bind_some _ _).symm.trans H; rw [hy167]; with_reducible exact H2_) | (have H2_ := (Option.bind_some _ _).symm.trans H; with_reducible exact H2_) | with_reducible exact H | (rw [hy167]; exact H) | exact H
        have Ny167 := Aside0.mk hy167
        clear hy167
        replace H := Option.bind_eq_some_iff.mp H
        obtain ⟨t170, A110, H⟩ := H
        replace H : (if t170 = true then ((impl_from.f ((rd_T40 l0_4 a1).f3) 0 6).bind fun t171 => (if t171 = true then ((impl_from.f ((rd_T40 l0_4 a1).f6) 0 (wrap64 ((l0_0.length : Int) - 1))).bind fun t172 => (if t172 = true then ((impl_from.f ((rd_T40 l0_4 a1).f7) 0 2).bind fun t173 => (impl_wantOk.j0 k a1 (!t173) l0_0 a0_1 a0_2 a0_3 l0_4 l0_5 ((rd_T40 l0_4 a1).f0) ((rd_T40 l0_4 a1).f1) ((rd_T40 l0_4 a1).f2) ((rd_T40 l0_4 a1).f3) ((rd_T40 l0_4 a1).f4) ((rd_T40 l0_4 a1).f5) ((rd_T40 l0_4 a1).f6) ((rd_T40 l0_4 a1).f7))) else (impl_wantOk.j0 k a1 true l0_0 a0_1 a0_2 a0_3 l0_4 l0_5 ((rd_T40 l0_4 a1).f0) ((rd_T40 l0_4 a1).f1) ((rd_T40 l0_4 a1).f2) ((rd_T40 l0_4 a1).f3) ((rd_T40 l0_4 a1).f4) ((rd_T40 l0_4 a1).f5) ((rd_T40 l0_4 a1).f6) ((rd_T40 l0_4 a1).f7)))) else (impl_wantOk.j0 k a1 true l0_0 a0_1 a0_2 a0_3 l0_4 l0_5 ((rd_T40 l0_4 a1).f0) ((rd_T40 l0_4 a1).f1) ((rd_T40 l0_4 a1).f2) ((rd_T40 l0_4 a1).f3) ((rd_T40 l0_4 a1).f4) ((rd_T40 l0_4 a1).f5) ((rd_T40 l0_4 a1).f6) ((rd_T40 l0_4 a1).f7)))) else (impl_wantOk.j0 k a1 true l0_0 a0_1 a0_2 a0_3 l0_4 l0_5 ((rd_T40 l0_4 a1).f0) ((rd_T40 l0_4 a1).f1) ((rd_T40 l0_4 a1).f2) ((rd_T40 l0_4 a1).f3) ((rd_T40 l0_4 a1).f4) ((rd_T40 l0_4 a1).f5) ((rd_T40 l0_4 a1).f6) ((rd_T40 l0_4 a1).f7))) = some r := H
        have A11 := Aside0.mk A110
        clear A110
        by_cases c12 : t170 = true
        · subst c12
          have H1 : ((impl_from.f ((rd_T40 l0_4 a1).f3) 0 6).bind fun t171 => (if t171 = true then ((impl_from.f ((rd_T40 l0_4 a1).f6) 0 (wrap64 ((l0_0.length : Int) - 1))).bind fun t172 => (if t172 = true then ((impl_from.f ((rd_T40 l0_4 a1).f7) 0 2).bind fun t173 => (impl_wantOk.j0 k a1 (!t173) l0_0 a0_1 a0_2 a0_3 l0_4 l0_5 ((rd_T40 l0_4 a1).f0) ((rd_T40 l0_4 a1).f1) ((rd_T40 l0_4 a1).f2) ((rd_T40 l0_4 a1).f3) ((rd_T40 l0_4 a1).f4) ((rd_T40 l0_4 a1).f5) ((rd_T40 l0_4 a1).f6) ((rd_T40 l0_4 a1).f7))) else (impl_wantOk.j0 k a1 true l0_0 a0_1 a0_2 a0_3 l0_4 l0_5 ((rd_T40 l0_4 a1).f0) ((rd_T40 l0_4 a1).f1) ((rd_T40 l0_4 a1).f2) ((rd_T40 l0_4 a1).f3) ((rd_T40 l0_4 a1).f4) ((rd_T40 l0_4 a1).f5) ((rd_T40 l0_4 a1).f6) ((rd_T40 l0_4 a1).f7)))) else (impl_wantOk.j0 k a1 true l0_0 a0_1 a0_2 a0_3 l0_4 l0_5 ((rd_T40 l0_4 a1).f0) ((rd_T40 l0_4 a1).f1) ((rd_T40 l0_4 a1).f2) ((rd_T40 l0_4 a1).f3) ((rd_T40 l0_4 a1).f4) ((rd_T40 l0_4 a1).f5) ((rd_T40 l0_4 a1).f6) ((rd_T40 l0_4 a1).f7)))) = some r := by rw [if_pos rfl] at H; exact H
          clear H
          have H := H1
          clear H1
          replace H := Option.bind_eq_some_iff.mp H
          obtain ⟨t171, A130, H⟩ := H
          replace H : (if t171 = true then ((impl_from.f ((rd_T40 l0_4 a1).f6) 0 (wrap64 ((l0_0.length : Int) - 1))).bind fun t172 => (if t172 = true then ((impl_from.f ((rd_T40 l0_4 a1).f7) 0 2).bind fun t173 => (impl_wantOk.j0 k a1 (!t173) l0_0 a0_1 a0_2 a0_3 l0_4 l0_5 ((rd_T40 l0_4 a1).f0) ((rd_T40 l0_4 a1).f1) ((rd_T40 l0_4 a1).f2) ((rd_T40 l0_4 a1).f3) ((rd_T40 l0_4 a1).f4) ((rd_T40 l0_4 a1).f5) ((rd_T40 l0_4 a1).f6) ((rd_T40 l0_4 a1).f7))) else (impl_wantOk.j0 k a1 true l0_0 a0_1 a0_2 a0_3 l0_4 l0_5 ((rd_T40 l0_4 a1).f0) ((rd_T40 l0_4 a1).f1) ((rd_T40 l0_4 a1).f2) ((rd_T40 l0_4 a1).f3) ((rd_T40 l0_4 a1).f4) ((rd_T40 l0_4 a1).f5) ((rd_T40 l0_4 a1).f6) ((rd_T40 l0_4 a1).f7)))) else (impl_wantOk.j0 k a1 true l0_0 a0_1 a0_2 a0_3 l0_4 l0_5 ((rd_T40 l0_4 a1).f0) ((rd_T40 l0_4 a1).f1) ((rd_T40 l0_4 a1).f2) ((rd_T40 l0_4 a1).f3) ((rd_T40 l0_4 a1).f4) ((rd_T40 l0_4 a1).f5) ((rd_T40 l0_4 a1).f6) ((rd_T40 l0_4 a1).f7))) = some r := H
          have A13 := Aside0.mk A130
          clear A130
          by_cases c14 : t171 = true
          · subst c14
            have H1 : ((impl_from.f ((rd_T40 l0_4 a1).f6) 0 (wrap64 ((l0_0.length : Int) - 1))).bind fun t172 => (if t172 = true then ((impl_from.f ((rd_T40 l0_4 a1).f7) 0 2).bind fun t173 => (impl_wantOk.j0 k a1 (!t173) l0_0 a0_1 a0_2 a0_3 l0_4 l0_5 ((rd_T40 l0_4 a1).f0) ((rd_T40 l0_4 a1).f1) ((rd_T40 l0_4 a1).f2) ((rd_T40 l0_4 a1).f3) ((rd_T40 l0_4 a1).f4) ((rd_T40 l0_4 a1).f5) ((rd_T40 l0_4 a1).f6) ((rd_T40 l0_4 a1).f7))) else (impl_wantOk.j0 k a1 true l0_0 a0_1 a0_2 a0_3 l0_4 l0_5 ((rd_T40 l0_4 a1).f0) ((rd_T40 l0_4 a1).f1) ((rd_T40 l0_4 a1).f2) ((rd_T40 l0_4 a1).f3) ((rd_T40 l0_4 a1).f4) ((rd_T40 l0_4 a1).f5) ((rd_T40 l0_4 a1).f6) ((rd_T40 l0_4 a1).f7)))) = some r := by rw [if_pos rfl] at H; exact H
            clear H
            have H := H1
            clear H1
            replace H := Option.bind_eq_some_iff.mp H
            obtain ⟨t172, A150, H⟩ := H
            replace H : (if t172 = true then ((impl_from.f ((rd_T40 l0_4 a1).f7) 0 2).bind fun t173 => (impl_wantOk.j0 k a1 (!t173) l0_0 a0_1 a0_2 a0_3 l0_4 l0_5 ((rd_T40 l0_4 a1).f0) ((rd_T40 l0_4 a1).f1) ((rd_T40 l0_4 a1).f2) ((rd_T40 l0_4 a1).f3) ((rd_T40 l0_4 a1).f4) ((rd_T40 l0_4 a1).f5) ((rd_T40 l0_4 a1).f6) ((rd_T40 l0_4 a1).f7))) else (impl_wantOk.j0 k a1 true l0_0 a0_1 a0_2 a0_3 l0_4 l0_5 ((rd_T40 l0_4 a1).f0) ((rd_T40 l0_4 a1).f1) ((rd_T40 l0_4 a1).f2) ((rd_T40 l0_4 a1).f3) ((rd_T40 l0_4 a1).f4) ((rd_T40 l0_4 a1).f5) ((rd_T40 l0_4 a1).f6) ((rd_T40 l0_4 a1).f7))) = some r := H
            have A15 := Aside0.mk A150
            clear A150
            by_cases c16 : t172 = true
            · subst c16
              have H1 : ((impl_from.f ((rd_T40 l0_4 a1).f7) 0 2).bind fun t173 => (impl_wantOk.j0 k a1 (!t173) l0_0 a0_1 a0_2 a0_3 l0_4 l0_5 ((rd_T40 l0_4 a1).f0) ((rd_T40 l0_4 a1).f1) ((rd_T40 l0_4 a1).f2) ((rd_T40 l0_4 a1).f3) ((rd_T40 l0_4 a1).f4) ((rd_T40 l0_4 a1).f5) ((rd_T40 l0_4 a1).f6) ((rd_T40 l0_4 a1).f7))) = some r := by rw [if_pos rfl] at H; exact H
              clear H
              have H := H1
              clear H1
              replace H := Option.bind_eq_some_iff.mp H
              obtain ⟨t173, A170, H⟩ := H
              replace H : (impl_wantOk.j0 k a1 (!t173) l0_0 a0_1 a0_2 a0_3 l0_4 l0_5 ((rd_T40 l0_4 a1).f0) ((rd_T40 l0_4 a1).f1) ((rd_T40 l0_4 a1).f2) ((rd_T40 l0_4 a1).f3) ((rd_T40 l0_4 a1).f4) ((rd_T40 l0_4 a1).f5) ((rd_T40 l0_4 a1).f6) ((rd_T40 l0_4 a1).f7)) = some r := H
              have A17 := Aside0.mk A170
              clear A170
              have H' := Aside0.mk H
              clear H
              have hnb18 := NB166_164.out
              have hnc18 := NB164_166.out
              have hcz19_0 : w8.cell? ⟨gb166, 0, none⟩ = some (.int .i64 0) := (zP BK166.out 0).trans rfl
              have hcz19_1 : w8.cell? ⟨gb166, 1, none⟩ = some (.int .i64 0) := (zP BK166.out 1).trans rfl
              have hcz19_2 : w8.cell? ⟨gb166, 2, none⟩ = some (.int .i64 0) := (zP BK166.out 2).trans rfl
              have hcz19_3 : w8.cell? ⟨gb166, 3, none⟩ = some (.int .i64 0) := (zP BK166.out 3).trans rfl
              have hcz19_4 : w8.cell? ⟨gb166, 4, none⟩ = some (.int .i64 0) := (zP BK166.out 4).trans rfl
              have hcz19_5 : w8.cell? ⟨gb166, 5, none⟩ = some (.int .i64 0) := (zP BK166.out 5).trans rfl
              have hcz19_6 : w8.cell? ⟨gb166, 6, none⟩ = some (.int .i64 0) := (zP BK166.out 6).trans rfl
              have hcz19_7 : w8.cell? ⟨gb166, 7, none⟩ = some (.int .i64 0) := (zP BK166.out 7).trans rfl
              have hfz19_0 := zQ BK166.out 0
              have hfz19_1 := zQ BK166.out 1
              have hfz19_2 := zQ BK166.out 2
              have hfz19_3 := zQ BK166.out 3
              have hfz19_4 := zQ BK166.out 4
              have hfz19_5 := zQ BK166.out 5
              have hfz19_6 := zQ BK166.out 6
              have hfz19_7 := zQ BK166.out 7
              go_wp2_with (first | ((with_reducible refine gate_dst (N := 19) rfl ?_); (try (refine gate_guard (by rfl) ?_; dsimp only)); refine Kd.R_lit (Kd.int .i64) _ 3 ?hg (N := 19) ?hd (xs := ([(rd_T40 l0_4 a1).f0, (rd_T40 l0_4 a1).f1, (rd_T40 l0_4 a1).f2, (rd_T40 l0_4 a1).f5] : List Int)) (inner := [.int .i64 ((rd_T40 l0_4 a1).f0), .int .i64 ((rd_T40 l0_4 a1).f1), .int .i64 ((rd_T40 l0_4 a1).f2), .int .i64 ((rd_T40 l0_4 a1).f5)]) (ok := fun _ => True) (okp := fun _ => True) ?hr ?hp (fun _ hk => hk) trivial (Below.refl _ _) (Nat.le_refl _) (by simp) ?_; (case hd => rfl); (case hg => rfl); (case hr => first | (go_simp; done) | (go_simp; rfl)); (case hp => exact (Reps.one (show Kd.M (Kd.int .i64) _ _ _ ((rd_T40 l0_4 a1).f0) [.int .i64 ((rd_T40 l0_4 a1).f0)] from rfl) (Reps.one (show Kd.M (Kd.int .i64) _ _ _ ((rd_T40 l0_4 a1).f1) [.int .i64 ((rd_T40 l0_4 a1).f1)] from rfl) (Reps.one (show Kd.M (Kd.int .i64) _ _ _ ((rd_T40 l0_4 a1).f2) [.int .i64 ((rd_T40 l0_4 a1).f2)] from rfl) (Reps.one (show Kd.M (Kd.int .i64) _ _ _ ((rd_T40 l0_4 a1).f5) [.int .i64 ((rd_T40 l0_4 a1).f5)] from rfl) (Reps.none _ _)))))); intro v168 w20 ho21 hb hg_ hnew_; clear hg_ hnew_; (first | rw [← Ny167.out] at ho21 | (simp only [Int.reduceToNat] at ho21; rw [← Ny167.out] at ho21)); have n0_ := Aside0.mk (Kd.R_lower ho21 (zT (by repeat (first | (with_reducible first | exact HB.out | apply zO | apply zA | apply zN | refine zB ?_ GE164.out | refine zB ?_ GE166.out) | exact HB.out)))); have n1_ := Aside0.mk (zR (g := gb164) (o := .cells #[.slice A0_0 l0_0.length c0_0, .int .i64 a0_1, .int .i64 a0_2, .int .i64 a0_3, .slice (some ad165) l0_4.length c0_4, .slice A0_5 l0_5.length c0_5] 30 (0, 0)) (by (with_reducible repeat (first | refine zL ?_ _ | refine zM ?_ | refine zK ?_ _)); refine blk_far ?_ NB164_166.out _; (with_reducible repeat (first | refine zL ?_ _ | refine zM ?_ | refine zK ?_ _)); refine blk_far ?_ NB164_166.out _; (with_reducible repeat (first | refine zL ?_ _ | refine zM ?_ | refine zK ?_ _)); refine blk_far ?_ NB164_166.out _; (with_reducible repeat (first | refine zL ?_ _ | refine zM ?_ | refine zK ?_ _)); refine blk_far ?_ NB164_166.out _; (with_reducible repeat (first | refine zL ?_ _ | refine zM ?_ | refine zK ?_ _)); refine blk_far ?_ NB164_166.out _; (with_reducible repeat (first | refine zL ?_ _ | refine zM ?_ | refine zK ?_ _)); refine blk_far ?_ NB164_166.out _; (with_reducible repeat (first | refine zL ?_ _ | refine zM ?_ | refine zK ?_ _)); refine blk_far ?_ NB164_166.out _; (with_reducible repeat (first | refine zL ?_ _ | refine zM ?_ | refine zK ?_ _)); refine blk_far ?_ NB164_166.out _; (with_reducible repeat (first | refine zL ?_ _ | refine zM ?_ | refine zK ?_ _)); exact BK164.out) hb); have n2_ := Aside0.mk (zR (g := gb166) (o := .cells #[.int .i64 ((rd_T40 l0_4 a1).f0), .int .i64 ((rd_T40 l0_4 a1).f1), .int .i64 ((rd_T40 l0_4 a1).f2), .int .i64 ((rd_T40 l0_4 a1).f3), .int .i64 ((rd_T40 l0_4 a1).f4), .int .i64 ((rd_T40 l0_4 a1).f5), .int .i64 ((rd_T40 l0_4 a1).f6), .int .i64 ((rd_T40 l0_4 a1).f7)] 40 (0, 0)) (by (with_reducible repeat (first | refine zL ?_ _ | refine zM ?_ | refine zK ?_ _)); refine blk_put (cs := #[.int .i64 ((rd_T40 l0_4 a1).f0), .int .i64 ((rd_T40 l0_4 a1).f1), .int .i64 ((rd_T40 l0_4 a1).f2), .int .i64 ((rd_T40 l0_4 a1).f3), .int .i64 ((rd_T40 l0_4 a1).f4), .int .i64 ((rd_T40 l0_4 a1).f5), .int .i64 ((rd_T40 l0_4 a1).f6), .int .i64 0]) ?_ 7 _ rfl; (with_reducible repeat (first | refine zL ?_ _ | refine zM ?_ | refine zK ?_ _)); refine blk_put (cs := #[.int .i64 ((rd_T40 l0_4 a1).f0), .int .i64 ((rd_T40 l0_4 a1).f1), .int .i64 ((rd_T40 l0_4 a1).f2), .int .i64 ((rd_T40 l0_4 a1).f3), .int .i64 ((rd_T40 l0_4 a1).f4), .int .i64 ((rd_T40 l0_4 a1).f5), .int .i64 0, .int .i64 0]) ?_ 6 _ rfl; (with_reducible repeat (first | refine zL ?_ _ | refine zM ?_ | refine zK ?_ _)); refine blk_put (cs := #[.int .i64 ((rd_T40 l0_4 a1).f0), .int .i64 ((rd_T40 l0_4 a1).f1), .int .i64 ((rd_T40 l0_4 a1).f2), .int .i64 ((rd_T40 l0_4 a1).f3), .int .i64 ((rd_T40 l0_4 a1).f4), .int .i64 0, .int .i64 0, .int .i64 0]) ?_ 5 _ rfl; (with_reducible repeat (first | refine zL ?_ _ | refine zM ?_ | refine zK ?_ _)); refine blk_put (cs := #[.int .i64 ((rd_T40 l0_4 a1).f0), .int .i64 ((rd_T40 l0_4 a1).f1), .int .i64 ((rd_T40 l0_4 a1).f2), .int .i64 ((rd_T40 l0_4 a1).f3), .int .i64 0, .int .i64 0, .int .i64 0, .int .i64 0]) ?_ 4 _ rfl; (with_reducible repeat (first | refine zL ?_ _ | refine zM ?_ | refine zK ?_ _)); refine blk_put (cs := #[.int .i64 ((rd_T40 l0_4 a1).f0), .int .i64 ((rd_T40 l0_4 a1).f1), .int .i64 ((rd_T40 l0_4 a1).f2), .int .i64 0, .int .i64 0, .int .i64 0, .int .i64 0, .int .i64 0]) ?_ 3 _ rfl; (with_reducible repeat (first | refine zL ?_ _ | refine zM ?_ | refine zK ?_ _)); refine blk_put (cs := #[.int .i64 ((rd_T40 l0_4 a1).f0), .int .i64 ((rd_T40 l0_4 a1).f1), .int .i64 0, .int .i64 0, .int .i64 0, .int .i64 0, .int .i64 0, .int .i64 0]) ?_ 2 _ rfl; (with_reducible repeat (first | refine zL ?_ _ | refine zM ?_ | refine zK ?_ _)); refine blk_put (cs := #[.int .i64 ((rd_T40 l0_4 a1).f0), .int .i64 0, .int .i64 0, .int .i64 0, .int .i64 0, .int .i64 0, .int .i64 0, .int .i64 0]) ?_ 1 _ rfl; (with_reducible repeat (first | refine zL ?_ _ | refine zM ?_ | refine zK ?_ _)); refine blk_put (cs := #[.int .i64 0, .int .i64 0, .int .i64 0, .int .i64 0, .int .i64 0, .int .i64 0, .int .i64 0, .int .i64 0]) ?_ 0 _ rfl; (with_reducible repeat (first | refine zL ?_ _ | refine zM ?_ | refine zK ?_ _)); exact BK166.out) hb); have n3_ := Aside0.mk (zS (by repeat (first | (with_reducible first | exact HB.out | apply zO | apply zA | apply zN | refine zB ?_ GE164.out | refine zB ?_ GE166.out) | exact HB.out)) hb); clear BK164; clear BK166; clear HB; have HO169 := n0_; have BK164 := n1_; have BK166 := n2_; have HB := n3_; clear n0_ n1_ n2_ n3_; clear hb ho21; obtain ⟨Ao22, co22, eo22⟩ := Kd.R_slice HO169.out; subst eo22) | ((with_reducible refine gate_callee (f := 63) rfl ?_); refine goesL_ (some 20) rfl rfl Try.func63 (by kernel_rfl) rfl #[.slice Ao22 y167.length co22] rfl (by (try simp only [List.map_toArray, List.map_cons, List.map_nil]); first | done | rfl | (simp only [List.length_drop, List.length_take]; rfl)) ?_; (with_reducible refine (impl_small.calls _ _ y167 true _ ?side1 ?side2 A11.out).mono ?_); (case side1 => repeat (first | exact (zJ HO169.out).2.2 | (with_reducible refine zU ?_ _) | (with_reducible refine zV ?_ _) | (with_reducible refine zW ?_))); (case side2 => exact (zJ HO169.out).2.1); rintro e w23 ⟨rfl, hb⟩; refine ⟨_, rfl, ?_⟩; have n0_ := Aside0.mk (zH (by (with_reducible repeat (first | apply zC | apply zD | apply zE)); exact HO169.out) hb); have n1_ := Aside0.mk (zR (g := gb164) (o := .cells #[.slice A0_0 l0_0.length c0_0, .int .i64 a0_1, .int .i64 a0_2, .int .i64 a0_3, .slice (some ad165) l0_4.length c0_4, .slice A0_5 l0_5.length c0_5] 30 (0, 0)) (by (with_reducible repeat (first | refine zL ?_ _ | refine zM ?_ | refine zK ?_ _)); exact BK164.out) hb); have n2_ := Aside0.mk (zR (g := gb166) (o := .cells #[.int .i64 ((rd_T40 l0_4 a1).f0), .int .i64 ((rd_T40 l0_4 a1).f1), .int .i64 ((rd_T40 l0_4 a1).f2), .int .i64 ((rd_T40 l0_4 a1).f3), .int .i64 ((rd_T40 l0_4 a1).f4), .int .i64 ((rd_T40 l0_4 a1).f5), .int .i64 ((rd_T40 l0_4 a1).f6), .int .i64 ((rd_T40 l0_4 a1).f7)] 40 (0, 0)) (by (with_reducible repeat (first | refine zL ?_ _ | refine zM ?_ | refine zK ?_ _)); exact BK166.out) hb); have n3_ := Aside0.mk (zS (by repeat (first | (with_reducible first | exact HB.out | apply zO | apply zA | apply zN | refine zB ?_ GE164.out | refine zB ?_ GE166.out) | exact HB.out)) hb); clear HO169; clear BK164; clear BK166; clear HB; have HO169 := n0_; have BK164 := n1_; have BK166 := n2_; have HB := n3_; clear n0_ n1_ n2_ n3_; (try clear hb); (try clear hb2); (try clear hk); (try clear hi); have hcz24_0 : w23.cell? ⟨gb166, 0, none⟩ = some (.int .i64 ((rd_T40 l0_4 a1).f0)) := (zP BK166.out 0).trans rfl; have hcz24_1 : w23.cell? ⟨gb166, 1, none⟩ = some (.int .i64 ((rd_T40 l0_4 a1).f1)) := (zP BK166.out 1).trans rfl; have hcz24_2 : w23.cell? ⟨gb166, 2, none⟩ = some (.int .i64 ((rd_T40 l0_4 a1).f2)) := (zP BK166.out 2).trans rfl; have hcz24_3 : w23.cell? ⟨gb166, 3, none⟩ = some (.int .i64 ((rd_T40 l0_4 a1).f3)) := (zP BK166.out 3).trans rfl; have hcz24_4 : w23.cell? ⟨gb166, 4, none⟩ = some (.int .i64 ((rd_T40 l0_4 a1).f4)) := (zP BK166.out 4).trans rfl; have hcz24_5 : w23.cell? ⟨gb166, 5, none⟩ = some (.int .i64 ((rd_T40 l0_4 a1).f5)) := (zP BK166.out 5).trans rfl; have hcz24_6 : w23.cell? ⟨gb166, 6, none⟩ = some (.int .i64 ((rd_T40 l0_4 a1).f6)) := (zP BK166.out 6).trans rfl; have hcz24_7 : w23.cell? ⟨gb166, 7, none⟩ = some (.int .i64 ((rd_T40 l0_4 a1).f7)) := (zP BK166.out 7).trans rfl; have hfz24_0 := zQ BK166.out 0; have hfz24_1 := zQ BK166.out 1; have hfz24_2 := zQ BK166.out 2; have hfz24_3 := zQ BK166.out 3; have hfz24_4 := zQ BK166.out 4; have hfz24_5 := zQ BK166.out 5; have hfz24_6 := zQ BK166.out 6; have hfz24_7 := zQ BK166.out 7) | (go_at_call 56; (with_reducible refine (impl_from.calls ((rd_T40 l0_4 a1).f3) 0 6 true _ A13.out).mono ?_); rintro e w' ⟨rfl, ⟨nd, rfl⟩⟩; have hcz25_0 : w23.cell? ⟨gb164, 0, none⟩ = some (.slice A0_0 l0_0.length c0_0) := (zP BK164.out 0).trans rfl; have hcz25_1 : w23.cell? ⟨gb164, 1, none⟩ = some (.int .i64 a0_1) := (zP BK164.out 1).trans rfl; have hcz25_2 : w23.cell? ⟨gb164, 2, none⟩ = some (.int .i64 a0_2) := (zP BK164.out 2).trans rfl; have hcz25_3 : w23.cell? ⟨gb164, 3, none⟩ = some (.int .i64 a0_3) := (zP BK164.out 3).trans rfl; have hcz25_4 : w23.cell? ⟨gb164, 4, none⟩ = some (.slice (some ad165) l0_4.length c0_4) := (zP BK164.out 4).trans rfl; have hcz25_5 : w23.cell? ⟨gb164, 5, none⟩ = some (.slice A0_5 l0_5.length c0_5) := (zP BK164.out 5).trans rfl; have hfz25_0 := zQ BK164.out 0; have hfz25_1 := zQ BK164.out 1; have hfz25_2 := zQ BK164.out 2; have hfz25_3 := zQ BK164.out 3; have hfz25_4 := zQ BK164.out 4; have hfz25_5 := zQ BK164.out 5) | (go_at_call 56; (with_reducible refine (impl_from.calls ((rd_T40 l0_4 a1).f6) 0 (wrap64 ((l0_0.length : Int) - 1)) true _ A15.out).mono ?_); rintro e w' ⟨rfl, ⟨nd, rfl⟩⟩) | (go_at_call 56; (with_reducible refine (impl_from.calls ((rd_T40 l0_4 a1).f7) 0 2 t173 _ A17.out).mono ?_); rintro e w' ⟨rfl, ⟨nd, rfl⟩⟩))
              go_meet
              case rel => exact ⟨_, (!t173), (by first | rfl | (simp; done) | (simp [*]; done)), H', ⟨by first | omega | exact Nat.le_refl _⟩, ⟨by (with_reducible repeat (first | refine zL ?_ _ | refine zM ?_ | refine zK ?_ _)); exact BK164.out⟩, ⟨by (with_reducible repeat (first | refine zL ?_ _ | refine zM ?_ | refine zK ?_ _)); exact BK166.out⟩, ⟨by repeat (first | (with_reducible first | exact HB.out | apply zO | apply zA | apply zN | refine zB ?_ GE164.out | refine zB ?_ GE166.out) | exact HB.out)⟩⟩
            · replace c16 := Bool.eq_false_iff.mpr c16
              subst c16
              have H1 : (impl_wantOk.j0 k a1 true l0_0 a0_1 a0_2 a0_3 l0_4 l0_5 ((rd_T40 l0_4 a1).f0) ((rd_T40 l0_4 a1).f1) ((rd_T40 l0_4 a1).f2) ((rd_T40 l0_4 a1).f3) ((rd_T40 l0_4 a1).f4) ((rd_T40 l0_4 a1).f5) ((rd_T40 l0_4 a1).f6) ((rd_T40 l0_4 a1).f7)) = some r := by rw [if_neg (show ¬ (false = true) by decide)] at H; exact H
              clear H
              have H := H1
              clear H1
              have H' := Aside0.mk H
              clear H
              have hnb26 := NB166_164.out
              have hnc26 := NB164_166.out
              have hcz27_0 : w8.cell? ⟨gb166, 0, none⟩ = some (.int .i64 0) := (zP BK166.out 0).trans rfl
              have hcz27_1 : w8.cell? ⟨gb166, 1, none⟩ = some (.int .i64 0) := (zP BK166.out 1).trans rfl
              have hcz27_2 : w8.cell? ⟨gb166, 2, none⟩ = some (.int .i64 0) := (zP BK166.out 2).trans rfl
              have hcz27_3 : w8.cell? ⟨gb166, 3, none⟩ = some (.int .i64 0) := (zP BK166.out 3).trans rfl
              have hcz27_4 : w8.cell? ⟨gb166, 4, none⟩ = some (.int .i64 0) := (zP BK166.out 4).trans rfl
              have hcz27_5 : w8.cell? ⟨gb166, 5, none⟩ = some (.int .i64 0) := (zP BK166.out 5).trans rfl
              have hcz27_6 : w8.cell? ⟨gb166, 6, none⟩ = some (.int .i64 0) := (zP BK166.out 6).trans rfl
              have hcz27_7 : w8.cell? ⟨gb166, 7, none⟩ = some (.int .i64 0) := (zP BK166.out 7).trans rfl
              have hfz27_0 := zQ BK166.out 0
              have hfz27_1 := zQ BK166.out 1
              have hfz27_2 := zQ BK166.out 2
              have hfz27_3 := zQ BK166.out 3
              have hfz27_4 := zQ BK166.out 4
              have hfz27_5 := zQ BK166.out 5
              have hfz27_6 := zQ BK166.out 6
              have hfz27_7 := zQ BK166.out 7
              go_wp2_with (first | ((with_reducible refine gate_dst (N := 19) rfl ?_); (try (refine gate_guard (by rfl) ?_; dsimp only)); refine Kd.R_lit (Kd.int .i64) _ 3 ?hg (N := 19) ?hd (xs := ([(rd_T40 l0_4 a1).f0, (rd_T40 l0_4 a1).f1, (rd_T40 l0_4 a1).f2, (rd_T40 l0_4 a1).f5] : List Int)) (inner := [.int .i64 ((rd_T40 l0_4 a1).f0), .int .i64 ((rd_T40 l0_4 a1).f1), .int .i64 ((rd_T40 l0_4 a1).f2), .int .i64 ((rd_T40 l0_4 a1).f5)]) (ok := fun _ => True) (okp := fun _ => True) ?hr ?hp (fun _ hk => hk) trivial (Below.refl _ _) (Nat.le_refl _) (by simp) ?_; (case hd => rfl); (case hg => rfl); (case hr => first | (go_simp; done) | (go_simp; rfl)); (case hp => exact (Reps.one (show Kd.M (Kd.int .i64) _ _ _ ((rd_T40 l0_4 a1).f0) [.int .i64 ((rd_T40 l0_4 a1).f0)] from rfl) (Reps.one (show Kd.M (Kd.int .i64) _ _ _ ((rd_T40 l0_4 a1).f1) [.int .i64 ((rd_T40 l0_4 a1).f1)] from rfl) (Reps.one (show Kd.M (Kd.int .i64) _ _ _ ((rd_T40 l0_4 a1).f2) [.int .i64 ((rd_T40 l0_4 a1).f2)] from rfl) (Reps.one (show Kd.M (Kd.int .i64) _ _ _ ((rd_T40 l0_4 a1).f5) [.int .i64 ((rd_T40 l0_4 a1).f5)] from rfl) (Reps.none _ _)))))); intro v168 w28 ho29 hb hg_ hnew_; clear hg_ hnew_; (first | rw [← Ny167.out] at ho29 | (simp only [Int.reduceToNat] at ho29; rw [← Ny167.out] at ho29)); have n0_ := Aside0.mk (Kd.R_lower ho29 (zT (by repeat (first | (with_reducible first | exact HB.out | apply zO | apply zA | apply zN | refine zB ?_ GE164.out | refine zB ?_ GE166.out) | exact HB.out)))); have n1_ := Aside0.mk (zR (g := gb164) (o := .cells #[.slice A0_0 l0_0.length c0_0, .int .i64 a0_1, .int .i64 a0_2, .int .i64 a0_3, .slice (some ad165) l0_4.length c0_4, .slice A0_5 l0_5.length c0_5] 30 (0, 0)) (by (with_reducible repeat (first | refine zL ?_ _ | refine zM ?_ | refine zK ?_ _)); refine blk_far ?_ NB164_166.out _; (with_reducible repeat (first | refine zL ?_ _ | refine zM ?_ | refine zK ?_ _)); refine blk_far ?_ NB164_166.out _; (with_reducible repeat (first | refine zL ?_ _ | refine zM ?_ | refine zK ?_ _)); refine blk_far ?_ NB164_166.out _; (with_reducible repeat (first | refine zL ?_ _ | refine zM ?_ | refine zK ?_ _)); refine blk_far ?_ NB164_166.out _; (with_reducible repeat (first | refine zL ?_ _ | refine zM ?_ | refine zK ?_ _)); refine blk_far ?_ NB164_166.out _; (with_reducible repeat (first | refine zL ?_ _ | refine zM ?_ | refine zK ?_ _)); refine blk_far ?_ NB164_166.out _; (with_reducible repeat (first | refine zL ?_ _ | refine zM ?_ | refine zK ?_ _)); refine blk_far ?_ NB164_166.out _; (with_reducible repeat (first | refine zL ?_ _ | refine zM ?_ | refine zK ?_ _)); refine blk_far ?_ NB164_166.out _; (with_reducible repeat (first | refine zL ?_ _ | refine zM ?_ | refine zK ?_ _)); exact BK164.out) hb); have n2_ := Aside0.mk (zR (g := gb166) (o := .cells #[.int .i64 ((rd_T40 l0_4 a1).f0), .int .i64 ((rd_T40 l0_4 a1).f1), .int .i64 ((rd_T40 l0_4 a1).f2), .int .i64 ((rd_T40 l0_4 a1).f3), .int .i64 ((rd_T40 l0_4 a1).f4), .int .i64 ((rd_T40 l0_4 a1).f5), .int .i64 ((rd_T40 l0_4 a1).f6), .int .i64 ((rd_T40 l0_4 a1).f7)] 40 (0, 0)) (by (with_reducible repeat (first | refine zL ?_ _ | refine zM ?_ | refine zK ?_ _)); refine blk_put (cs := #[.int .i64 ((rd_T40 l0_4 a1).f0), .int .i64 ((rd_T40 l0_4 a1).f1), .int .i64 ((rd_T40 l0_4 a1).f2), .int .i64 ((rd_T40 l0_4 a1).f3), .int .i64 ((rd_T40 l0_4 a1).f4), .int .i64 ((rd_T40 l0_4 a1).f5), .int .i64 ((rd_T40 l0_4 a1).f6), .int .i64 0]) ?_ 7 _ rfl; (with_reducible repeat (first | refine zL ?_ _ | refine zM ?_ | refine zK ?_ _)); refine blk_put (cs := #[.int .i64 ((rd_T40 l0_4 a1).f0), .int .i64 ((rd_T40 l0_4 a1).f1), .int .i64 ((rd_T40 l0_4 a1).f2), .int .i64 ((rd_T40 l0_4 a1).f3), .int .i64 ((rd_T40 l0_4 a1).f4), .int .i64 ((rd_T40 l0_4 a1).f5), .int .i64 0, .int .i64 0]) ?_ 6 _ rfl; (with_reducible repeat (first | refine zL ?_ _ | refine zM ?_ | refine zK ?_ _)); refine blk_put (cs := #[.int .i64 ((rd_T40 l0_4 a1).f0), .int .i64 ((rd_T40 l0_4 a1).f1), .int .i64 ((rd_T40 l0_4 a1).f2), .int .i64 ((rd_T40 l0_4 a1).f3), .int .i64 ((rd_T40 l0_4 a1).f4), .int .i64 0, .int .i64 0, .int .i64 0]) ?_ 5 _ rfl; (with_reducible repeat (first | refine zL ?_ _ | refine zM ?_ | refine zK ?_ _)); refine blk_put (cs := #[.int .i64 ((rd_T40 l0_4 a1).f0), .int .i64 ((rd_T40 l0_4 a1).f1), .int .i64 ((rd_T40 l0_4 a1).f2), .int .i64 ((rd_T40 l0_4 a1).f3), .int .i64 0, .int .i64 0, .int .i64 0, .int .i64 0]) ?_ 4 _ rfl; (with_reducible repeat (first | refine zL ?_ _ | refine zM ?_ | refine zK ?_ _)); refine blk_put (cs := #[.int .i64 ((rd_T40 l0_4 a1).f0), .int .i64 ((rd_T40 l0_4 a1).f1), .int .i64 ((rd_T40 l0_4 a1).f2), .int .i64 0, .int .i64 0, .int .i64 0, .int .i64 0, .int .i64 0]) ?_ 3 _ rfl; (with_reducible repeat (first | refine zL ?_ _ | refine zM ?_ | refine zK ?_ _)); refine blk_put (cs := #[.int .i64 ((rd_T40 l0_4 a1).f0), .int .i64 ((rd_T40 l0_4 a1).f1), .int .i64 0, .int .i64 0, .int .i64 0, .int .i64 0, .int .i64 0, .int .i64 0]) ?_ 2 _ rfl; (with_reducible repeat (first | refine zL ?_ _ | refine zM ?_ | refine zK ?_ _)); refine blk_put (cs := #[.int .i64 ((rd_T40 l0_4 a1).f0), .int .i64 0, .int .i64 0, .int .i64 0, .int .i64 0, .int .i64 0, .int .i64 0, .int .i64 0]) ?_ 1 _ rfl; (with_reducible repeat (first | refine zL ?_ _ | refine zM ?_ | refine zK ?_ _)); refine blk_put (cs := #[.int .i64 0, .int .i64 0, .int .i64 0, .int .i64 0, .int .i64 0, .int .i64 0, .int .i64 0, .int .i64 0]) ?_ 0 _ rfl; (with_reducible repeat (first | refine zL ?_ _ | refine zM ?_ | refine zK ?_ _)); exact BK166.out) hb); have n3_ := Aside0.mk (zS (by repeat (first | (with_reducible first | exact HB.out | apply zO | apply zA | apply zN | refine zB ?_ GE164.out | refine zB ?_ GE166.out) | exact HB.out)) hb); clear BK164; clear BK166; clear HB; have HO169 := n0_; have BK164 := n1_; have BK166 := n2_; have HB := n3_; clear n0_ n1_ n2_ n3_; clear hb ho29; obtain ⟨Ao30, co30, eo30⟩ := Kd.R_slice HO169.out; subst eo30) | ((with_reducible refine gate_callee (f := 63) rfl ?_); refine goesL_ (some 20) rfl rfl Try.func63 (by kernel_rfl) rfl #[.slice Ao30 y167.length co30] rfl (by (try simp only [List.map_toArray, List.map_cons, List.map_nil]); first | done | rfl | (simp only [List.length_drop, List.length_take]; rfl)) ?_; (with_reducible refine (impl_small.calls _ _ y167 true _ ?side1 ?side2 A11.out).mono ?_); (case side1 => repeat (first | exact (zJ HO169.out).2.2 | (with_reducible refine zU ?_ _) | (with_reducible refine zV ?_ _) | (with_reducible refine zW ?_))); (case side2 => exact (zJ HO169.out).2.1); rintro e w31 ⟨rfl, hb⟩; refine ⟨_, rfl, ?_⟩; have n0_ := Aside0.mk (zH (by (with_reducible repeat (first | apply zC | apply zD | apply zE)); exact HO169.out) hb); have n1_ := Aside0.mk (zR (g := gb164) (o := .cells #[.slice A0_0 l0_0.length c0_0, .int .i64 a0_1, .int .i64 a0_2, .int .i64 a0_3, .slice (some ad165) l0_4.length c0_4, .slice A0_5 l0_5.length c0_5] 30 (0, 0)) (by (with_reducible repeat (first | refine zL ?_ _ | refine zM ?_ | refine zK ?_ _)); exact BK164.out) hb); have n2_ := Aside0.mk (zR (g := gb166) (o := .cells #[.int .i64 ((rd_T40 l0_4 a1).f0), .int .i64 ((rd_T40 l0_4 a1).f1), .int .i64 ((rd_T40 l0_4 a1).f2), .int .i64 ((rd_T40 l0_4 a1).f3), .int .i64 ((rd_T40 l0_4 a1).f4), .int .i64 ((rd_T40 l0_4 a1).f5), .int .i64 ((rd_T40 l0_4 a1).f6), .int .i64 ((rd_T40 l0_4 a1).f7)] 40 (0, 0)) (by (with_reducible repeat (first | refine zL ?_ _ | refine zM ?_ | refine zK ?_ _)); exact BK166.out) hb); have n3_ := Aside0.mk (zS (by repeat (first | (with_reducible first | exact HB.out | apply zO | apply zA | apply zN | refine zB ?_ GE164.out | refine zB ?_ GE166.out) | exact HB.out)) hb); clear HO169; clear BK164; clear BK166; clear HB; have HO169 := n0_; have BK164 := n1_; have BK166 := n2_; have HB := n3_; clear n0_ n1_ n2_ n3_; (try clear hb); (try clear hb2); (try clear hk); (try clear hi); have hcz32_0 : w31.cell? ⟨gb166, 0, none⟩ = some (.int .i64 ((rd_T40 l0_4 a1).f0)) := (zP BK166.out 0).trans rfl; have hcz32_1 : w31.cell? ⟨gb166, 1, none⟩ = some (.int .i64 ((rd_T40 l0_4 a1).f1)) := (zP BK166.out 1).trans rfl; have hcz32_2 : w31.cell? ⟨gb166, 2, none⟩ = some (.int .i64 ((rd_T40 l0_4 a1).f2)) := (zP BK166.out 2).trans rfl; have hcz32_3 : w31.cell? ⟨gb166, 3, none⟩ = some (.int .i64 ((rd_T40 l0_4 a1).f3)) := (zP BK166.out 3).trans rfl; have hcz32_4 : w31.cell? ⟨gb166, 4, none⟩ = some (.int .i64 ((rd_T40 l0_4 a1).f4)) := (zP BK166.out 4).trans rfl; have hcz32_5 : w31.cell? ⟨gb166, 5, none⟩ = some (.int .i64 ((rd_T40 l0_4 a1).f5)) := (zP BK166.out 5).trans rfl; have hcz32_6 : w31.cell? ⟨gb166, 6, none⟩ = some (.int .i64 ((rd_T40 l0_4 a1).f6)) := (zP BK166.out 6).trans rfl; have hcz32_7 : w31.cell? ⟨gb166, 7, none⟩ = some (.int .i64 ((rd_T40 l0_4 a1).f7)) := (zP BK166.out 7).trans rfl; have hfz32_0 := zQ BK166.out 0; have hfz32_1 := zQ BK166.out 1; have hfz32_2 := zQ BK166.out 2; have hfz32_3 := zQ BK166.out 3; have hfz32_4 := zQ BK166.out 4; have hfz32_5 := zQ BK166.out 5; have hfz32_6 := zQ BK166.out 6; have hfz32_7 := zQ BK166.out 7) | (go_at_call 56; (with_reducible refine (impl_from.calls ((rd_T40 l0_4 a1).f3) 0 6 true _ A13.out).mono ?_); rintro e w' ⟨rfl, ⟨nd, rfl⟩⟩; have hcz33_0 : w31.cell? ⟨gb164, 0, none⟩ = some (.slice A0_0 l0_0.length c0_0) := (zP BK164.out 0).trans rfl; have hcz33_1 : w31.cell? ⟨gb164, 1, none⟩ = some (.int .i64 a0_1) := (zP BK164.out 1).trans rfl; have hcz33_2 : w31.cell? ⟨gb164, 2, none⟩ = some (.int .i64 a0_2) := (zP BK164.out 2).trans rfl; have hcz33_3 : w31.cell? ⟨gb164, 3, none⟩ = some (.int .i64 a0_3) := (zP BK164.out 3).trans rfl; have hcz33_4 : w31.cell? ⟨gb164, 4, none⟩ = some (.slice (some ad165) l0_4.length c0_4) := (zP BK164.out 4).trans rfl; have hcz33_5 : w31.cell? ⟨gb164, 5, none⟩ = some (.slice A0_5 l0_5.length c0_5) := (zP BK164.out 5).trans rfl; have hfz33_0 := zQ BK164.out 0; have hfz33_1 := zQ BK164.out 1; have hfz33_2 := zQ BK164.out 2; have hfz33_3 := zQ BK164.out 3; have hfz33_4 := zQ BK164.out 4; have hfz33_5 := zQ BK164.out 5) | (go_at_call 56; (with_reducible refine (impl_from.calls ((rd_T40 l0_4 a1).f6) 0 (wrap64 ((l0_0.length : Int) - 1)) false _ A15.out).mono ?_); rintro e w' ⟨rfl, ⟨nd, rfl⟩⟩))
              go_meet
              case rel => exact ⟨_, (true), (by first | rfl | (simp; done) | (simp [*]; done)), H', ⟨by first | omega | exact Nat.le_refl _⟩, ⟨by (with_reducible repeat (first | refine zL ?_ _ | refine zM ?_ | refine zK ?_ _)); exact BK164.out⟩, ⟨by (with_reducible repeat (first | refine zL ?_ _ | refine zM ?_ | refine zK ?_ _)); exact BK166.out⟩, ⟨by repeat (first | (with_reducible first | exact HB.out | apply zO | apply zA | apply zN | refine zB ?_ GE164.out | refine zB ?_ GE166.out) | exact HB.out)⟩⟩
          · replace c14 := Bool.eq_false_iff.mpr c14
            subst c14
            have H1 : (impl_wantOk.j0 k a1 true l0_0 a0_1 a0_2 a0_3 l0_4 l0_5 ((rd_T40 l0_4 a1).f0) ((rd_T40 l0_4 a1).f1) ((rd_T40 l0_4 a1).f2) ((rd_T40 l0_4 a1).f3) ((rd_T40 l0_4 a1).f4) ((rd_T40 l0_4 a1).f5) ((rd_T40 l0_4 a1).f6) ((rd_T40 l0_4 a1).f7)) = some r := by rw [if_neg (show ¬ (false = true) by decide)] at H; exact H
            clear H
            have H := H1
            clear H1
            have H' := Aside0.mk H
            clear H
            have hnb34 := NB166_164.out
            have hnc34 := NB164_166.out
            have hcz35_0 : w8.cell? ⟨gb166, 0, none⟩ = some (.int .i64 0) := (zP BK166.out 0).trans rfl
            have hcz35_1 : w8.cell? ⟨gb166, 1, none⟩ = some (.int .i64 0) := (zP BK166.out 1).trans rfl
            have hcz35_2 : w8.cell? ⟨gb166, 2, none⟩ = some (.int .i64 0) := (zP BK166.out 2).trans rfl
            have hcz35_3 : w8.cell? ⟨gb166, 3, none⟩ = some (.int .i64 0) := (zP BK166.out 3).trans rfl
            have hcz35_4 : w8.cell? ⟨gb166, 4, none⟩ = some (.int .i64 0) := (zP BK166.out 4).trans rfl
            have hcz35_5 : w8.cell? ⟨gb166, 5, none⟩ = some (.int .i64 0) := (zP BK166.out 5).trans rfl
            have hcz35_6 : w8.cell? ⟨gb166, 6, none⟩ = some (.int .i64 0) := (zP BK166.out 6).trans rfl
            have hcz35_7 : w8.cell? ⟨gb166, 7, none⟩ = some (.int .i64 0) := (zP BK166.out 7).trans rfl
            have hfz35_0 := zQ BK166.out 0
            have hfz35_1 := zQ BK166.out 1
            have hfz35_2 := zQ BK166.out 2
            have hfz35_3 := zQ BK166.out 3
            have hfz35_4 := zQ BK166.out 4
            have hfz35_5 := zQ BK166.out 5
            have hfz35_6 := zQ BK166.out 6
            have hfz35_7 := zQ BK166.out 7
            go_wp2_with (first | ((with_reducible refine gate_dst (N := 19) rfl ?_); (try (refine gate_guard (by rfl) ?_; dsimp only)); refine Kd.R_lit (Kd.int .i64) _ 3 ?hg (N := 19) ?hd (xs := ([(rd_T40 l0_4 a1).f0, (rd_T40 l0_4 a1).f1, (rd_T40 l0_4 a1).f2, (rd_T40 l0_4 a1).f5] : List Int)) (inner := [.int .i64 ((rd_T40 l0_4 a1).f0), .int .i64 ((rd_T40 l0_4 a1).f1), .int .i64 ((rd_T40 l0_4 a1).f2), .int .i64 ((rd_T40 l0_4 a1).f5)]) (ok := fun _ => True) (okp := fun _ => True) ?hr ?hp (fun _ hk => hk) trivial (Below.refl _ _) (Nat.le_refl _) (by simp) ?_; (case hd => rfl); (case hg => rfl); (case hr => first | (go_simp; done) | (go_simp; rfl)); (case hp => exact (Reps.one (show Kd.M (Kd.int .i64) _ _ _ ((rd_T40 l0_4 a1).f0) [.int .i64 ((rd_T40 l0_4 a1).f0)] from rfl) (Reps.one (show Kd.M (Kd.int .i64) _ _ _ ((rd_T40 l0_4 a1).f1) [.int .i64 ((rd_T40 l0_4 a1).f1)] from rfl) (Reps.one (show Kd.M (Kd.int .i64) _ _ _ ((rd_T40 l0_4 a1).f2) [.int .i64 ((rd_T40 l0_4 a1).f2)] from rfl) (Reps.one (show Kd.M (Kd.int .i64) _ _ _ ((rd_T40 l0_4 a1).f5) [.int .i64 ((rd_T40 l0_4 a1).f5)] from rfl) (Reps.none _ _)))))); intro v168 w36 ho37 hb hg_ hnew_; clear hg_ hnew_; (first | rw [← Ny167.out] at ho37 | (simp only [Int.reduceToNat] at ho37; rw [← Ny167.out] at ho37)); have n0_ := Aside0.mk (Kd.R_lower ho37 (zT (by repeat (first | (with_reducible first | exact HB.out | apply zO | apply zA | apply zN | refine zB ?_ GE164.out | refine zB ?_ GE166.out) | exact HB.out)))); have n1_ := Aside0.mk (zR (g := gb164) (o := .cells #[.slice A0_0 l0_0.length c0_0, .int .i64 a0_1, .int .i64 a0_2, .int .i64 a0_3, .slice (some ad165) l0_4.length c0_4, .slice A0_5 l0_5.length c0_5] 30 (0, 0)) (by (with_reducible repeat (first | refine zL ?_ _ | refine zM ?_ | refine zK ?_ _)); refine blk_far ?_ NB164_166.out _; (with_reducible repeat (first | refine zL ?_ _ | refine zM ?_ | refine zK ?_ _)); refine blk_far ?_ NB164_166.out _; (with_reducible repeat (first | refine zL ?_ _ | refine zM ?_ | refine zK ?_ _)); refine blk_far ?_ NB164_166.out _; (with_reducible repeat (first | refine zL ?_ _ | refine zM ?_ | refine zK ?_ _)); refine blk_far ?_ NB164_166.out _; (with_reducible repeat (first | refine zL ?_ _ | refine zM ?_ | refine zK ?_ _)); refine blk_far ?_ NB164_166.out _; (with_reducible repeat (first | refine zL ?_ _ | refine zM ?_ | refine zK ?_ _)); refine blk_far ?_ NB164_166.out _; (with_reducible repeat (first | refine zL ?_ _ | refine zM ?_ | refine zK ?_ _)); refine blk_far ?_ NB164_166.out _; (with_reducible repeat (first | refine zL ?_ _ | refine zM ?_ | refine zK ?_ _)); refine blk_far ?_ NB164_166.out _; (with_reducible repeat (first | refine zL ?_ _ | refine zM ?_ | refine zK ?_ _)); exact BK164.out) hb); have n2_ := Aside0.mk (zR (g := gb166) (o := .cells #[.int .i64 ((rd_T40 l0_4 a1).f0), .int .i64 ((rd_T40 l0_4 a1).f1), .int .i64 ((rd_T40 l0_4 a1).f2), .int .i64 ((rd_T40 l0_4 a1).f3), .int .i64 ((rd_T40 l0_4 a1).f4), .int .i64 ((rd_T40 l0_4 a1).f5), .int .i64 ((rd_T40 l0_4 a1).f6), .int .i64 ((rd_T40 l0_4 a1).f7)] 40 (0, 0)) (by (with_reducible repeat (first | refine zL ?_ _ | refine zM ?_ | refine zK ?_ _)); refine blk_put (cs := #[.int .i64 ((rd_T40 l0_4 a1).f0), .int .i64 ((rd_T40 l0_4 a1).f1), .int .i64 ((rd_T40 l0_4 a1).f2), .int .i64 ((rd_T40 l0_4 a1).f3), .int .i64 ((rd_T40 l0_4 a1).f4), .int .i64 ((rd_T40 l0_4 a1).f5), .int .i64 ((rd_T40 l0_4 a1).f6), .int .i64 0]) ?_ 7 _ rfl; (with_reducible repeat (first | refine zL ?_ _ | refine zM ?_ | refine zK ?_ _)); refine blk_put (cs := #[.int .i64 ((rd_T40 l0_4 a1).f0), .int .i64 ((rd_T40 l0_4 a1).f1), .int .i64 ((rd_T40 l0_4 a1).f2), .int .i64 ((rd_T40 l0_4 a1).f3), .int .i64 ((rd_T40 l0_4 a1).f4), .int .i64 ((rd_T40 l0_4 a1).f5), .int .i64 0, .int .i64 0]) ?_ 6 _ rfl; (with_reducible repeat (first | refine zL ?_ _ | refine zM ?_ | refine zK ?_ _)); refine blk_put (cs := #[.int .i64 ((rd_T40 l0_4 a1).f0), .int .i64 ((rd_T40 l0_4 a1).f1), .int .i64 ((rd_T40 l0_4 a1).f2), .int .i64 ((rd_T40 l0_4 a1).f3), .int .i64 ((rd_T40 l0_4 a1).f4), .int .i64 0, .int .i64 0, .int .i64 0]) ?_ 5 _ rfl; (with_reducible repeat (first | refine zL ?_ _ | refine zM ?_ | refine zK ?_ _)); refine blk_put (cs := #[.int .i64 ((rd_T40 l0_4 a1).f0), .int .i64 ((rd_T40 l0_4 a1).f1), .int .i64 ((rd_T40 l0_4 a1).f2), .int .i64 ((rd_T40 l0_4 a1).f3), .int .i64 0, .int .i64 0, .int .i64 0, .int .i64 0]) ?_ 4 _ rfl; (with_reducible repeat (first | refine zL ?_ _ | refine zM ?_ | refine zK ?_ _)); refine blk_put (cs := #[.int .i64 ((rd_T40 l0_4 a1).f0), .int .i64 ((rd_T40 l0_4 a1).f1), .int .i64 ((rd_T40 l0_4 a1).f2), .int .i64 0, .int .i64 0, .int .i64 0, .int .i64 0, .int .i64 0]) ?_ 3 _ rfl; (with_reducible repeat (first | refine zL ?_ _ | refine zM ?_ | refine zK ?_ _)); refine blk_put (cs := #[.int .i64 ((rd_T40 l0_4 a1).f0), .int .i64 ((rd_T40 l0_4 a1).f1), .int .i64 0, .int .i64 0, .int .i64 0, .int .i64 0, .int .i64 0, .int .i64 0]) ?_ 2 _ rfl; (with_reducible repeat (first | refine zL ?_ _ | refine zM ?_ | refine zK ?_ _)); refine blk_put (cs := #[.int .i64 ((rd_T40 l0_4 a1).f0), .int .i64 0, .int .i64 0, .int .i64 0, .int .i64 0, .int .i64 0, .int .i64 0, .int .i64 0]) ?_ 1 _ rfl; (with_reducible repeat (first | refine zL ?_ _ | refine zM ?_ | refine zK ?_ _)); refine blk_put (cs := #[.int .i64 0, .int .i64 0, .int .i64 0, .int .i64 0, .int .i64 0, .int .i64 0, .int .i64 0, .int .i64 0]) ?_ 0 _ rfl; (with_reducible repeat (first | refine zL ?_ _ | refine zM ?_ | refine zK ?_ _)); exact BK166.out) hb); have n3_ := Aside0.mk (zS (by repeat (first | (with_reducible first | exact HB.out | apply zO | apply zA | apply zN | refine zB ?_ GE164.out | refine zB ?_ GE166.out) | exact HB.out)) hb); clear BK164; clear BK166; clear HB; have HO169 := n0_; have BK164 := n1_; have BK166 := n2_; have HB := n3_; clear n0_ n1_ n2_ n3_; clear hb ho37; obtain ⟨Ao38, co38, eo38⟩ := Kd.R_slice HO169.out; subst eo38) | ((with_reducible refine gate_callee (f := 63) rfl ?_); refine goesL_ (some 20) rfl rfl Try.func63 (by kernel_rfl) rfl #[.slice Ao38 y167.length co38] rfl (by (try simp only [List.map_toArray, List.map_cons, List.map_nil]); first | done | rfl | (simp only [List.length_drop, List.length_take]; rfl)) ?_; (with_reducible refine (impl_small.calls _ _ y167 true _ ?side1 ?side2 A11.out).mono ?_); (case side1 => repeat (first | exact (zJ HO169.out).2.2 | (with_reducible refine zU ?_ _) | (with_reducible refine zV ?_ _) | (with_reducible refine zW ?_))); (case side2 => exact (zJ HO169.out).2.1); rintro e w39 ⟨rfl, hb⟩; refine ⟨_, rfl, ?_⟩; have n0_ := Aside0.mk (zH (by (with_reducible repeat (first | apply zC | apply zD | apply zE)); exact HO169.out) hb); have n1_ := Aside0.mk (zR (g := gb164) (o := .cells #[.slice A0_0 l0_0.length c0_0, .int .i64 a0_1, .int .i64 a0_2, .int .i64 a0_3, .slice (some ad165) l0_4.length c0_4, .slice A0_5 l0_5.length c0_5] 30 (0, 0)) (by (with_reducible repeat (first | refine zL ?_ _ | refine zM ?_ | refine zK ?_ _)); exact BK164.out) hb); have n2_ := Aside0.mk (zR (g := gb166) (o := .cells #[.int .i64 ((rd_T40 l0_4 a1).f0), .int .i64 ((rd_T40 l0_4 a1).f1), .int .i64 ((rd_T40 l0_4 a1).f2), .int .i64 ((rd_T40 l0_4 a1).f3), .int .i64 ((rd_T40 l0_4 a1).f4), .int .i64 ((rd_T40 l0_4 a1).f5), .int .i64 ((rd_T40 l0_4 a1).f6), .int .i64 ((rd_T40 l0_4 a1).f7)] 40 (0, 0)) (by (with_reducible repeat (first | refine zL ?_ _ | refine zM ?_ | refine zK ?_ _)); exact BK166.out) hb); have n3_ := Aside0.mk (zS (by repeat (first | (with_reducible first | exact HB.out | apply zO | apply zA | apply zN | refine zB ?_ GE164.out | refine zB ?_ GE166.out) | exact HB.out)) hb); clear HO169; clear BK164; clear BK166; clear HB; have HO169 := n0_; have BK164 := n1_; have BK166 := n2_; have HB := n3_; clear n0_ n1_ n2_ n3_; (try clear hb); (try clear hb2); (try clear hk); (try clear hi); have hcz40_0 : w39.cell? ⟨gb166, 0, none⟩ = some (.int .i64 ((rd_T40 l0_4 a1).f0)) := (zP BK166.out 0).trans rfl; have hcz40_1 : w39.cell? ⟨gb166, 1, none⟩ = some (.int .i64 ((rd_T40 l0_4 a1).f1)) := (zP BK166.out 1).trans rfl; have hcz40_2 : w39.cell? ⟨gb166, 2, none⟩ = some (.int .i64 ((rd_T40 l0_4 a1).f2)) := (zP BK166.out 2).trans rfl; have hcz40_3 : w39.cell? ⟨gb166, 3, none⟩ = some (.int .i64 ((rd_T40 l0_4 a1).f3)) := (zP BK166.out 3).trans rfl; have hcz40_4 : w39.cell? ⟨gb166, 4, none⟩ = some (.int .i64 ((rd_T40 l0_4 a1).f4)) := (zP BK166.out 4).trans rfl; have hcz40_5 : w39.cell? ⟨gb166, 5, none⟩ = some (.int .i64 ((rd_T40 l0_4 a1).f5)) := (zP BK166.out 5).trans rfl; have hcz40_6 : w39.cell? ⟨gb166, 6, none⟩ = some (.int .i64 ((rd_T40 l0_4 a1).f6)) := (zP BK166.out 6).trans rfl; have hcz40_7 : w39.cell? ⟨gb166, 7, none⟩ = some (.int .i64 ((rd_T40 l0_4 a1).f7)) := (zP BK166.out 7).trans rfl; have hfz40_0 := zQ BK166.out 0; have hfz40_1 := zQ BK166.out 1; have hfz40_2 := zQ BK166.out 2; have hfz40_3 := zQ BK166.out 3; have hfz40_4 := zQ BK166.out 4; have hfz40_5 := zQ BK166.out 5; have hfz40_6 := zQ BK166.out 6; have hfz40_7 := zQ BK166.out 7) | (go_at_call 56; (with_reducible refine (impl_from.calls ((rd_T40 l0_4 a1).f3) 0 6 false _ A13.out).mono ?_); rintro e w' ⟨rfl, ⟨nd, rfl⟩⟩))
            go_meet
            case rel => exact ⟨_, (true), (by first | rfl | (simp; done) | (simp [*]; done)), H', ⟨by first | omega | exact Nat.le_refl _⟩, ⟨by (with_reducible repeat (first | refine zL ?_ _ | refine zM ?_ | refine zK ?_ _)); exact BK164.out⟩, ⟨by (with_reducible repeat (first | refine zL ?_ _ | refine zM ?_ | refine zK ?_ _)); exact BK166.out⟩, ⟨by repeat (first | (with_reducible first | exact HB.out | apply zO | apply zA | apply zN | refine zB ?_ GE164.out | refine zB ?_ GE166.out) | exact HB.out)⟩⟩
        · replace c12 := Bool.eq_false_iff.mpr c12
          subst c12
          have H1 : (impl_wantOk.j0 k a1 true l0_0 a0_1 a0_2 a0_3 l0_4 l0_5 ((rd_T40 l0_4 a1).f0) ((rd_T40 l0_4 a1).f1) ((rd_T40 l0_4 a1).f2) ((rd_T40 l0_4 a1).f3) ((rd_T40 l0_4 a1).f4) ((rd_T40 l0_4 a1).f5) ((rd_T40 l0_4 a1).f6) ((rd_T40 l0_4 a1).f7)) = some r := by rw [if_neg (show ¬ (false = true) by decide)] at H; exact H
          clear H
          have H := H1
          clear H1
          have H' := Aside0.mk H
          clear H
          have hnb41 := NB166_164.out
          have hnc41 := NB164_166.out
          have hcz42_0 : w8.cell? ⟨gb166, 0, none⟩ = some (.int .i64 0) := (zP BK166.out 0).trans rfl
          have hcz42_1 : w8.cell? ⟨gb166, 1, none⟩ = some (.int .i64 0) := (zP BK166.out 1).trans rfl
          have hcz42_2 : w8.cell? ⟨gb166, 2, none⟩ = some (.int .i64 0) := (zP BK166.out 2).trans rfl
          have hcz42_3 : w8.cell? ⟨gb166, 3, none⟩ = some (.int .i64 0) := (zP BK166.out 3).trans rfl
          have hcz42_4 : w8.cell? ⟨gb166, 4, none⟩ = some (.int .i64 0) := (zP BK166.out 4).trans rfl
          have hcz42_5 : w8.cell? ⟨gb166, 5, none⟩ = some (.int .i64 0) := (zP BK166.out 5).trans rfl
          have hcz42_6 : w8.cell? ⟨gb166, 6, none⟩ = some (.int .i64 0) := (zP BK166.out 6).trans rfl
          have hcz42_7 : w8.cell? ⟨gb166, 7, none⟩ = some (.int .i64 0) := (zP BK166.out 7).trans rfl
          have hfz42_0 := zQ BK166.out 0
          have hfz42_1 := zQ BK166.out 1
          have hfz42_2 := zQ BK166.out 2
          have hfz42_3 := zQ BK166.out 3
          have hfz42_4 := zQ BK166.out 4
          have hfz42_5 := zQ BK166.out 5
          have hfz42_6 := zQ BK166.out 6
          have hfz42_7 := zQ BK166.out 7
          go_wp2_with (first | ((with_reducible refine gate_dst (N := 19) rfl ?_); (try (refine gate_guard (by rfl) ?_; dsimp only)); refine Kd.R_lit (Kd.int .i64) _ 3 ?hg (N := 19) ?hd (xs := ([(rd_T40 l0_4 a1).f0, (rd_T40 l0_4 a1).f1, (rd_T40 l0_4 a1).f2, (rd_T40 l0_4 a1).f5] : List Int)) (inner := [.int .i64 ((rd_T40 l0_4 a1).f0), .int .i64 ((rd_T40 l0_4 a1).f1), .int .i64 ((rd_T40 l0_4 a1).f2), .int .i64 ((rd_T40 l0_4 a1).f5)]) (ok := fun _ => True) (okp := fun _ => True) ?hr ?hp (fun _ hk => hk) trivial (Below.refl _ _) (Nat.le_refl _) (by simp) ?_; (case hd => rfl); (case hg => rfl); (case hr => first | (go_simp; done) | (go_simp; rfl)); (case hp => exact (Reps.one (show Kd.M (Kd.int .i64) _ _ _ ((rd_T40 l0_4 a1).f0) [.int .i64 ((rd_T40 l0_4 a1).f0)] from rfl) (Reps.one (show Kd.M (Kd.int .i64) _ _ _ ((rd_T40 l0_4 a1).f1) [.int .i64 ((rd_T40 l0_4 a1).f1)] from rfl) (Reps.one (show Kd.M (Kd.int .i64) _ _ _ ((rd_T40 l0_4 a1).f2) [.int .i64 ((rd_T40 l0_4 a1).f2)] from rfl) (Reps.one (show Kd.M (Kd.int .i64) _ _ _ ((rd_T40 l0_4 a1).f5) [.int .i64 ((rd_T40 l0_4 a1).f5)] from rfl) (Reps.none _ _)))))); intro v168 w43 ho44 hb hg_ hnew_; clear hg_ hnew_; (first | rw [← Ny167.out] at ho44 | (simp only [Int.reduceToNat] at ho44; rw [← Ny167.out] at ho44)); have n0_ := Aside0.mk (Kd.R_lower ho44 (zT (by repeat (first | (with_reducible first | exact HB.out | apply zO | apply zA | apply zN | refine zB ?_ GE164.out | refine zB ?_ GE166.out) | exact HB.out)))); have n1_ := Aside0.mk (zR (g := gb164) (o := .cells #[.slice A0_0 l0_0.length c0_0, .int .i64 a0_1, .int .i64 a0_2, .int .i64 a0_3, .slice (some ad165) l0_4.length c0_4, .slice A0_5 l0_5.length c0_5] 30 (0, 0)) (by (with_reducible repeat (first | refine zL ?_ _ | refine zM ?_ | refine zK ?_ _)); refine blk_far ?_ NB164_166.out _; (with_reducible repeat (first | refine zL ?_ _ | refine zM ?_ | refine zK ?_ _)); refine blk_far ?_ NB164_166.out _; (with_reducible repeat (first | refine zL ?_ _ | refine zM ?_ | refine zK ?_ _)); refine blk_far ?_ NB164_166.out _; (with_reducible repeat (first | refine zL ?_ _ | refine zM ?_ | refine zK ?_ _)); refine blk_far ?_ NB164_166.out _; (with_reducible repeat (first | refine zL ?_ _ | refine zM ?_ | refine zK ?_ _)); refine blk_far ?_ NB164_166.out _; (with_reducible repeat (first | refine zL ?_ _ | refine zM ?_ | refine zK ?_ _)); refine blk_far ?_ NB164_166.out _; (with_reducible repeat (first | refine zL ?_ _ | refine zM ?_ | refine zK ?_ _)); refine blk_far ?_ NB164_166.out _; (with_reducible repeat (first | refine zL ?_ _ | refine zM ?_ | refine zK ?_ _)); refine blk_far ?_ NB164_166.out _; (with_reducible repeat (first | refine zL ?_ _ | refine zM ?_ | refine zK ?_ _)); exact BK164.out) hb); have n2_ := Aside0.mk (zR (g := gb166) (o := .cells #[.int .i64 ((rd_T40 l0_4 a1).f0), .int .i64 ((rd_T40 l0_4 a1).f1), .int .i64 ((rd_T40 l0_4 a1).f2), .int .i64 ((rd_T40 l0_4 a1).f3), .int .i64 ((rd_T40 l0_4 a1).f4), .int .i64 ((rd_T40 l0_4 a1).f5), .int .i64 ((rd_T40 l0_4 a1).f6), .int .i64 ((rd_T40 l0_4 a1).f7)] 40 (0, 0)) (by (with_reducible repeat (first | refine zL ?_ _ | refine zM ?_ | refine zK ?_ _)); refine blk_put (cs := #[.int .i64 ((rd_T40 l0_4 a1).f0), .int .i64 ((rd_T40 l0_4 a1).f1), .int .i64 ((rd_T40 l0_4 a1).f2), .int .i64 ((rd_T40 l0_4 a1).f3), .int .i64 ((rd_T40 l0_4 a1).f4), .int .i64 ((rd_T40 l0_4 a1).f5), .int .i64 ((rd_T40 l0_4 a1).f6), .int .i64 0]) ?_ 7 _ rfl; (with_reducible repeat (first | refine zL ?_ _ | refine zM ?_ | refine zK ?_ _)); refine blk_put (cs := #[.int .i64 ((rd_T40 l0_4 a1).f0), .int .i64 ((rd_T40 l0_4 a1).f1), .int .i64 ((rd_T40 l0_4 a1).f2), .int .i64 ((rd_T40 l0_4 a1).f3), .int .i64 ((rd_T40 l0_4 a1).f4), .int .i64 ((rd_T40 l0_4 a1).f5), .int .i64 0, .int .i64 0]) ?_ 6 _ rfl; (with_reducible repeat (first | refine zL ?_ _ | refine zM ?_ | refine zK ?_ _)); refine blk_put (cs := #[.int .i64 ((rd_T40 l0_4 a1).f0), .int .i64 ((rd_T40 l0_4 a1).f1), .int .i64 ((rd_T40 l0_4 a1).f2), .int .i64 ((rd_T40 l0_4 a1).f3), .int .i64 ((rd_T40 l0_4 a1).f4), .int .i64 0, .int .i64 0, .int .i64 0]) ?_ 5 _ rfl; (with_reducible repeat (first | refine zL ?_ _ | refine zM ?_ | refine zK ?_ _)); refine blk_put (cs := #[.int .i64 ((rd_T40 l0_4 a1).f0), .int .i64 ((rd_T40 l0_4 a1).f1), .int .i64 ((rd_T40 l0_4 a1).f2), .int .i64 ((rd_T40 l0_4 a1).f3), .int .i64 0, .int .i64 0, .int .i64 0, .int .i64 0]) ?_ 4 _ rfl; (with_reducible repeat (first | refine zL ?_ _ | refine zM ?_ | refine zK ?_ _)); refine blk_put (cs := #[.int .i64 ((rd_T40 l0_4 a1).f0), .int .i64 ((rd_T40 l0_4 a1).f1), .int .i64 ((rd_T40 l0_4 a1).f2), .int .i64 0, .int .i64 0, .int .i64 0, .int .i64 0, .int .i64 0]) ?_ 3 _ rfl; (with_reducible repeat (first | refine zL ?_ _ | refine zM ?_ | refine zK ?_ _)); refine blk_put (cs := #[.int .i64 ((rd_T40 l0_4 a1).f0), .int .i64 ((rd_T40 l0_4 a1).f1), .int .i64 0, .int .i64 0, .int .i64 0, .int .i64 0, .int .i64 0, .int .i64 0]) ?_ 2 _ rfl; (with_reducible repeat (first | refine zL ?_ _ | refine zM ?_ | refine zK ?_ _)); refine blk_put (cs := #[.int .i64 ((rd_T40 l0_4 a1).f0), .int .i64 0, .int .i64 0, .int .i64 0, .int .i64 0, .int .i64 0, .int .i64 0, .int .i64 0]) ?_ 1 _ rfl; (with_reducible repeat (first | refine zL ?_ _ | refine zM ?_ | refine zK ?_ _)); refine blk_put (cs := #[.int .i64 0, .int .i64 0, .int .i64 0, .int .i64 0, .int .i64 0, .int .i64 0, .int .i64 0, .int .i64 0]) ?_ 0 _ rfl; (with_reducible repeat (first | refine zL ?_ _ | refine zM ?_ | refine zK ?_ _)); exact BK166.out) hb); have n3_ := Aside0.mk (zS (by repeat (first | (with_reducible first | exact HB.out | apply zO | apply zA | apply zN | refine zB ?_ GE164.out | refine zB ?_ GE166.out) | exact HB.out)) hb); clear BK164; clear BK166; clear HB; have HO169 := n0_; have BK164 := n1_; have BK166 := n2_; have HB := n3_; clear n0_ n1_ n2_ n3_; clear hb ho44; obtain ⟨Ao45, co45, eo45⟩ := Kd.R_slice HO169.out; subst eo45) | ((with_reducible refine gate_callee (f := 63) rfl ?_); refine goesL_ (some 20) rfl rfl Try.func63 (by kernel_rfl) rfl #[.slice Ao45 y167.length co45] rfl (by (try simp only [List.map_toArray, List.map_cons, List.map_nil]); first | done | rfl | (simp only [List.length_drop, List.length_take]; rfl)) ?_; (with_reducible refine (impl_small.calls _ _ y167 false _ ?side1 ?side2 A11.out).mono ?_); (case side1 => repeat (first | exact (zJ HO169.out).2.2 | (with_reducible refine zU ?_ _) | (with_reducible refine zV ?_ _) | (with_reducible refine zW ?_))); (case side2 => exact (zJ HO169.out).2.1); rintro e w46 ⟨rfl, hb⟩; refine ⟨_, rfl, ?_⟩; have n0_ := Aside0.mk (zH (by (with_reducible repeat (first | apply zC | apply zD | apply zE)); exact HO169.out) hb); have n1_ := Aside0.mk (zR (g := gb164) (o := .cells #[.slice A0_0 l0_0.length c0_0, .int .i64 a0_1, .int .i64 a0_2, .int .i64 a0_3, .slice (some ad165) l0_4.length c0_4, .slice A0_5 l0_5.length c0_5] 30 (0, 0)) (by (with_reducible repeat (first | refine zL ?_ _ | refine zM ?_ | refine zK ?_ _)); exact BK164.out) hb); have n2_ := Aside0.mk (zR (g := gb166) (o := .cells #[.int .i64 ((rd_T40 l0_4 a1).f0), .int .i64 ((rd_T40 l0_4 a1).f1), .int .i64 ((rd_T40 l0_4 a1).f2), .int .i64 ((rd_T40 l0_4 a1).f3), .int .i64 ((rd_T40 l0_4 a1).f4), .int .i64 ((rd_T40 l0_4 a1).f5), .int .i64 ((rd_T40 l0_4 a1).f6), .int .i64 ((rd_T40 l0_4 a1).f7)] 40 (0, 0)) (by (with_reducible repeat (first | refine zL ?_ _ | refine zM ?_ | refine zK ?_ _)); exact BK166.out) hb); have n3_ := Aside0.mk (zS (by repeat (first | (with_reducible first | exact HB.out | apply zO | apply zA | apply zN | refine zB ?_ GE164.out | refine zB ?_ GE166.out) | exact HB.out)) hb); clear HO169; clear BK164; clear BK166; clear HB; have HO169 := n0_; have BK164 := n1_; have BK166 := n2_; have HB := n3_; clear n0_ n1_ n2_ n3_; (try clear hb); (try clear hb2); (try clear hk); (try clear hi)))
          go_meet
          case rel => exact ⟨_, (true), (by first | rfl | (simp; done) | (simp [*]; done)), H', ⟨by first | omega | exact Nat.le_refl _⟩, ⟨by (with_reducible repeat (first | refine zL ?_ _ | refine zM ?_ | refine zK ?_ _)); exact BK164.out⟩, ⟨by (with_reducible repeat (first | refine zL ?_ _ | refine zM ?_ | refine zK ?_ _)); exact BK166.out⟩, ⟨by repeat (first | (with_reducible first | exact HB.out | apply zO | apply zA | apply zN | refine zB ?_ GE164.out | refine zB ?_ GE166.out) | exact HB.out)⟩⟩
      case rest =>
        clear HC5
        try clear c1
        try clear p1
        try clear q1
        try clear hx1
        try clear c2
        try clear p2
        try clear c3
        try clear c3b0
        try clear c4
        try clear c4b0
        try clear c6
        try clear p6
        try clear c9
        try clear c12
        try clear c14
        try clear c16
        try clear p16
        try clear q16
        try clear hx16
        try clear c18
        try clear c26
        try clear c34
        try clear c41
        try clear hcz10_0
        try clear hcz10_1
        try clear hcz10_2
        try clear hcz10_3
        try clear hcz10_4
        try clear hcz10_5
        try clear hcz10_6
        try clear hcz10_7
        try clear hcz19_0
        try clear hcz19_1
        try clear hcz19_2
        try clear hcz19_3
        try clear hcz19_4
        try clear hcz19_5
        try clear hcz19_6
        try clear hcz19_7
        try clear hcz24_0
        try clear hcz24_1
        try clear hcz24_2
        try clear hcz24_3
        try clear hcz24_4
        try clear hcz24_5
        try clear hcz24_6
        try clear hcz24_7
        try clear hcz25_0
        try clear hcz25_1
        try clear hcz25_2
        try clear hcz25_3
        try clear hcz25_4
        try clear hcz25_5
        try clear hcz27_0
        try clear hcz27_1
        try clear hcz27_2
        try clear hcz27_3
        try clear hcz27_4
        try clear hcz27_5
        try clear hcz27_6
        try clear hcz27_7
        try clear hcz32_0
        try clear hcz32_1
        try clear hcz32_2
        try clear hcz32_3
        try clear hcz32_4
        try clear hcz32_5
        try clear hcz32_6
        try clear hcz32_7
        try clear hcz33_0
        try clear hcz33_1
        try clear hcz33_2
        try clear hcz33_3
        try clear hcz33_4
        try clear hcz33_5
        try clear hcz35_0
        try clear hcz35_1
        try clear hcz35_2
        try clear hcz35_3
        try clear hcz35_4
        try clear hcz35_5
        try clear hcz35_6
        try clear hcz35_7
        try clear hcz40_0
        try clear hcz40_1
        try clear hcz40_2
        try clear hcz40_3
        try clear hcz40_4
        try clear hcz40_5
        try clear hcz40_6
        try clear hcz40_7
        try clear hcz42_0
        try clear hcz42_1
        try clear hcz42_2
        try clear hcz42_3
        try clear hcz42_4
        try clear hcz42_5
        try clear hcz42_6
        try clear hcz42_7
        try clear hcz7_0
        try clear hcz7_1
        try clear hcz7_2
        try clear hcz7_3
        try clear hcz7_4
        try clear hcz7_5
        try clear hfz10_0
        try clear hfz10_1
        try clear hfz10_2
        try clear hfz10_3
        try clear hfz10_4
        try clear hfz10_5
        try clear hfz10_6
        try clear hfz10_7
        try clear hfz19_0
        try clear hfz19_1
        try clear hfz19_2
        try clear hfz19_3
        try clear hfz19_4
        try clear hfz19_5
        try clear hfz19_6
        try clear hfz19_7
        try clear hfz24_0
        try clear hfz24_1
        try clear hfz24_2
        try clear hfz24_3
        try clear hfz24_4
        try clear hfz24_5
        try clear hfz24_6
        try clear hfz24_7
        try clear hfz25_0
        try clear hfz25_1
        try clear hfz25_2
        try clear hfz25_3
        try clear hfz25_4
        try clear hfz25_5
        try clear hfz27_0
        try clear hfz27_1
        try clear hfz27_2
        try clear hfz27_3
        try clear hfz27_4
        try clear hfz27_5
        try clear hfz27_6
        try clear hfz27_7
        try clear hfz32_0
        try clear hfz32_1
        try clear hfz32_2
        try clear hfz32_3
        try clear hfz32_4
        try clear hfz32_5
        try clear hfz32_6
        try clear hfz32_7
        try clear hfz33_0
        try clear hfz33_1
        try clear hfz33_2
        try clear hfz33_3
        try clear hfz33_4
        try clear hfz33_5
        try clear hfz35_0
        try clear hfz35_1
        try clear hfz35_2
        try clear hfz35_3
        try clear hfz35_4
        try clear hfz35_5
        try clear hfz35_6
        try clear hfz35_7
        try clear hfz40_0
        try clear hfz40_1
        try clear hfz40_2
        try clear hfz40_3
        try clear hfz40_4
        try clear hfz40_5
        try clear hfz40_6
        try clear hfz40_7
        try clear hfz42_0
        try clear hfz42_1
        try clear hfz42_2
        try clear hfz42_3
        try clear hfz42_4
        try clear hfz42_5
        try clear hfz42_6
        try clear hfz42_7
        try clear hfz7_0
        try clear hfz7_1
        try clear hfz7_2
        try clear hfz7_3
        try clear hfz7_4
        try clear hfz7_5
        try clear hx165_0
        try clear hx165_1
        try clear hx165_2
        try clear hx165_3
        try clear hx165_4
        try clear hx165_5
        try clear hx165_6
        try clear hx165_7
        try clear p165
        try clear q165
        obtain ⟨kq, x43_4, rfl, HA, HJ4, BK164, BK166, HB⟩ := hcut
        cases kq with
        | zero => exact absurd HA.out (by simp [impl_wantOk.j0])
        | succ kj4 =>
          have H := HA.out
          clear HA
          simp only [impl_wantOk.j0] at H
          by_cases c47 : x43_4 = true
          · subst c47
            have H1 : (some false) = some r := by rw [if_pos rfl] at H; exact H
            clear H
            have H := H1
            clear H1
            obtain rfl := Option.some.inj H
            go_wp2
            go_ret
            exact ⟨by first | rfl | (simp [errW_none, errW_some] <;> rfl) | (simp [*, errW_none, errW_some] <;> rfl), by repeat (first | (with_reducible first | exact HB.out | apply zO | apply zA | apply zN | refine zB ?_ GE164.out | refine zB ?_ GE166.out) | exact HB.out)⟩
          · replace c47 := Bool.eq_false_iff.mpr c47
            subst c47
            have H1 : (if ((rd_T40 l0_4 a1).f3) ≥ 5 then ((impl_from.f ((rd_T40 l0_4 a1).f4) 1 (l0_4.length : Int)).bind fun t174 => (if t174 = true then (some (((rd_T40 l0_4 a1).f7) == 0)) else (some false))) else (if ((rd_T40 l0_4 a1).f4) = 0 then (if ((rd_T40 l0_4 a1).f3) = 0 then (impl_wantOk.j1 kj4 a1 ((rd_T40 l0_4 a1).f3) (((rd_T40 l0_4 a1).f3) == 0) l0_0 a0_1 a0_2 a0_3 l0_4 l0_5 ((rd_T40 l0_4 a1).f0) ((rd_T40 l0_4 a1).f1) ((rd_T40 l0_4 a1).f2) ((rd_T40 l0_4 a1).f3) ((rd_T40 l0_4 a1).f4) ((rd_T40 l0_4 a1).f5) ((rd_T40 l0_4 a1).f6) ((rd_T40 l0_4 a1).f7)) else (impl_wantOk.j1 kj4 a1 ((rd_T40 l0_4 a1).f3) (((rd_T40 l0_4 a1).f3) == 1) l0_0 a0_1 a0_2 a0_3 l0_4 l0_5 ((rd_T40 l0_4 a1).f0) ((rd_T40 l0_4 a1).f1) ((rd_T40 l0_4 a1).f2) ((rd_T40 l0_4 a1).f3) ((rd_T40 l0_4 a1).f4) ((rd_T40 l0_4 a1).f5) ((rd_T40 l0_4 a1).f6) ((rd_T40 l0_4 a1).f7))) else (some false))) = some r := by rw [if_neg (show ¬ (false = true) by decide)] at H; exact H
            clear H
            have H := H1
            clear H1
            by_cases c48 : ((rd_T40 l0_4 a1).f3) ≥ 5
            · rw [if_pos c48] at H
              have c48b0 : decide (5 ≤ ((rd_T40 l0_4 a1).f3)) = true := decide_eq_true c48
              clear c48
              replace H := Option.bind_eq_some_iff.mp H
              obtain ⟨t174, A490, H⟩ := H
              replace H : (if t174 = true then (some (((rd_T40 l0_4 a1).f7) == 0)) else (some false)) = some r := H
              have A49 := Aside0.mk A490
              clear A490
              by_cases c50 : t174 = true
              · subst c50
                have H1 : (some (((rd_T40 l0_4 a1).f7) == 0)) = some r := by rw [if_pos rfl] at H; exact H
                clear H
                have H := H1
                clear H1
                obtain rfl := Option.some.inj H
                have hnb51 := NB166_164.out
                have hnc51 := NB164_166.out
                have hcz52_0 : wc.cell? ⟨gb166, 0, none⟩ = some (.int .i64 ((rd_T40 l0_4 a1).f0)) := (zP BK166.out 0).trans rfl
                have hcz52_1 : wc.cell? ⟨gb166, 1, none⟩ = some (.int .i64 ((rd_T40 l0_4 a1).f1)) := (zP BK166.out 1).trans rfl
                have hcz52_2 : wc.cell? ⟨gb166, 2, none⟩ = some (.int .i64 ((rd_T40 l0_4 a1).f2)) := (zP BK166.out 2).trans rfl
                have hcz52_3 : wc.cell? ⟨gb166, 3, none⟩ = some (.int .i64 ((rd_T40 l0_4 a1).f3)) := (zP BK166.out 3).trans rfl
                have hcz52_4 : wc.cell? ⟨gb166, 4, none⟩ = some (.int .i64 ((rd_T40 l0_4 a1).f4)) := (zP BK166.out 4).trans rfl
                have hcz52_5 : wc.cell? ⟨gb166, 5, none⟩ = some (.int .i64 ((rd_T40 l0_4 a1).f5)) := (zP BK166.out 5).trans rfl
                have hcz52_6 : wc.cell? ⟨gb166, 6, none⟩ = some (.int .i64 ((rd_T40 l0_4 a1).f6)) := (zP BK166.out 6).trans rfl
                have hcz52_7 : wc.cell? ⟨gb166, 7, none⟩ = some (.int .i64 ((rd_T40 l0_4 a1).f7)) := (zP BK166.out 7).trans rfl
                have hfz52_0 := zQ BK166.out 0
                have hfz52_1 := zQ BK166.out 1
                have hfz52_2 := zQ BK166.out 2
                have hfz52_3 := zQ BK166.out 3
                have hfz52_4 := zQ BK166.out 4
                have hfz52_5 := zQ BK166.out 5
                have hfz52_6 := zQ BK166.out 6
                have hfz52_7 := zQ BK166.out 7
                have hcz53_0 : wc.cell? ⟨gb164, 0, none⟩ = some (.slice A0_0 l0_0.length c0_0) := (zP BK164.out 0).trans rfl
                have hcz53_1 : wc.cell? ⟨gb164, 1, none⟩ = some (.int .i64 a0_1) := (zP BK164.out 1).trans rfl
                have hcz53_2 : wc.cell? ⟨gb164, 2, none⟩ = some (.int .i64 a0_2) := (zP BK164.out 2).trans rfl
                have hcz53_3 : wc.cell? ⟨gb164, 3, none⟩ = some (.int .i64 a0_3) := (zP BK164.out 3).trans rfl
                have hcz53_4 : wc.cell? ⟨gb164, 4, none⟩ = some (.slice (some ad165) l0_4.length c0_4) := (zP BK164.out 4).trans rfl
                have hcz53_5 : wc.cell? ⟨gb164, 5, none⟩ = some (.slice A0_5 l0_5.length c0_5) := (zP BK164.out 5).trans rfl
                have hfz53_0 := zQ BK164.out 0
                have hfz53_1 := zQ BK164.out 1
                have hfz53_2 := zQ BK164.out 2
                have hfz53_3 := zQ BK164.out 3
                have hfz53_4 := zQ BK164.out 4
                have hfz53_5 := zQ BK164.out 5
                go_wp2_with (first | ((with_reducible refine gate_callee (f := 56) rfl ?_); refine goesL_ (some 52) rfl rfl Try.func56 (by kernel_rfl) rfl #[.int .i64 ((rd_T40 l0_4 a1).f4), .int .i64 1, .int .i64 (l0_4.length : Int)] rfl (by (try simp only [List.map_toArray, List.map_cons, List.map_nil]); first | done | rfl | (simp only [List.length_drop, List.length_take]; rfl)) ?_; (with_reducible refine (impl_from.calls ((rd_T40 l0_4 a1).f4) 1 (l0_4.length : Int) true _ A49.out).mono ?_); rintro e w' ⟨rfl, ⟨nd, rfl⟩⟩; refine ⟨_, rfl, ?_⟩))
                go_ret
                exact ⟨by first | rfl | (simp [errW_none, errW_some] <;> rfl) | (simp [*, errW_none, errW_some] <;> rfl), by repeat (first | (with_reducible first | exact HB.out | apply zO | apply zA | apply zN | refine zB ?_ GE164.out | refine zB ?_ GE166.out) | exact HB.out)⟩
              · replace c50 := Bool.eq_false_iff.mpr c50
                subst c50
                have H1 : (some false) = some r := by rw [if_neg (show ¬ (false = true) by decide)] at H; exact H
                clear H
                have H := H1
                clear H1
                obtain rfl := Option.some.inj H
                have hnb54 := NB166_164.out
                have hnc54 := NB164_166.out
                have hcz55_0 : wc.cell? ⟨gb166, 0, none⟩ = some (.int .i64 ((rd_T40 l0_4 a1).f0)) := (zP BK166.out 0).trans rfl
                have hcz55_1 : wc.cell? ⟨gb166, 1, none⟩ = some (.int .i64 ((rd_T40 l0_4 a1).f1)) := (zP BK166.out 1).trans rfl
                have hcz55_2 : wc.cell? ⟨gb166, 2, none⟩ = some (.int .i64 ((rd_T40 l0_4 a1).f2)) := (zP BK166.out 2).trans rfl
                have hcz55_3 : wc.cell? ⟨gb166, 3, none⟩ = some (.int .i64 ((rd_T40 l0_4 a1).f3)) := (zP BK166.out 3).trans rfl
                have hcz55_4 : wc.cell? ⟨gb166, 4, none⟩ = some (.int .i64 ((rd_T40 l0_4 a1).f4)) := (zP BK166.out 4).trans rfl
                have hcz55_5 : wc.cell? ⟨gb166, 5, none⟩ = some (.int .i64 ((rd_T40 l0_4 a1).f5)) := (zP BK166.out 5).trans rfl
                have hcz55_6 : wc.cell? ⟨gb166, 6, none⟩ = some (.int .i64 ((rd_T40 l0_4 a1).f6)) := (zP BK166.out 6).trans rfl
                have hcz55_7 : wc.cell? ⟨gb166, 7, none⟩ = some (.int .i64 ((rd_T40 l0_4 a1).f7)) := (zP BK166.out 7).trans rfl
                have hfz55_0 := zQ BK166.out 0
                have hfz55_1 := zQ BK166.out 1
                have hfz55_2 := zQ BK166.out 2
                have hfz55_3 := zQ BK166.out 3
                have hfz55_4 := zQ BK166.out 4
                have hfz55_5 := zQ BK166.out 5
                have hfz55_6 := zQ BK166.out 6
                have hfz55_7 := zQ BK166.out 7
                have hcz56_0 : wc.cell? ⟨gb164, 0, none⟩ = some (.slice A0_0 l0_0.length c0_0) := (zP BK164.out 0).trans rfl
                have hcz56_1 : wc.cell? ⟨gb164, 1, none⟩ = some (.int .i64 a0_1) := (zP BK164.out 1).trans rfl
                have hcz56_2 : wc.cell? ⟨gb164, 2, none⟩ = some (.int .i64 a0_2) := (zP BK164.out 2).trans rfl
                have hcz56_3 : wc.cell? ⟨gb164, 3, none⟩ = some (.int .i64 a0_3) := (zP BK164.out 3).trans rfl
                have hcz56_4 : wc.cell? ⟨gb164, 4, none⟩ = some (.slice (some ad165) l0_4.length c0_4) := (zP BK164.out 4).trans rfl
                have hcz56_5 : wc.cell? ⟨gb164, 5, none⟩ = some (.slice A0_5 l0_5.length c0_5) := (zP BK164.out 5).trans rfl
                have hfz56_0 := zQ BK164.out 0
                have hfz56_1 := zQ BK164.out 1
                have hfz56_2 := zQ BK164.out 2
                have hfz56_3 := zQ BK164.out 3
                have hfz56_4 := zQ BK164.out 4
                have hfz56_5 := zQ BK164.out 5
                go_wp2_with (first | ((with_reducible refine gate_callee (f := 56) rfl ?_); refine goesL_ (some 52) rfl rfl Try.func56 (by kernel_rfl) rfl #[.int .i64 ((rd_T40 l0_4 a1).f4), .int .i64 1, .int .i64 (l0_4.length : Int)] rfl (by (try simp only [List.map_toArray, List.map_cons, List.map_nil]); first | done | rfl | (simp only [List.length_drop, List.length_take]; rfl)) ?_; (with_reducible refine (impl_from.calls ((rd_T40 l0_4 a1).f4) 1 (l0_4.length : Int) false _ A49.out).mono ?_); rintro e w' ⟨rfl, ⟨nd, rfl⟩⟩; refine ⟨_, rfl, ?_⟩))
                go_ret
                exact ⟨by first | rfl | (simp [errW_none, errW_some] <;> rfl) | (simp [*, errW_none, errW_some] <;> rfl), by repeat (first | (with_reducible first | exact HB.out | apply zO | apply zA | apply zN | refine zB ?_ GE164.out | refine zB ?_ GE166.out) | exact HB.out)⟩
            · rw [if_neg c48] at H
              have c48b0 : decide (5 ≤ ((rd_T40 l0_4 a1).f3)) = false := decide_eq_false c48
              clear c48
              by_cases c57 : ((rd_T40 l0_4 a1).f4) = 0
              · rw [if_pos c57] at H
                have c57b0 : (((rd_T40 l0_4 a1).f4) == 0) = true := beq_iff_eq.mpr c57
                have c57b1 : (((rd_T40 l0_4 a1).f4) != 0) = false := bne_eq_false_iff_eq.mpr c57
                clear c57
                have HC58 := Aside0.mk H
                clear H
                have hnb59 := NB166_164.out
                have hnc59 := NB164_166.out
                have hcz60_0 : wc.cell? ⟨gb166, 0, none⟩ = some (.int .i64 ((rd_T40 l0_4 a1).f0)) := (zP BK166.out 0).trans rfl
                have hcz60_1 : wc.cell? ⟨gb166, 1, none⟩ = some (.int .i64 ((rd_T40 l0_4 a1).f1)) := (zP BK166.out 1).trans rfl
                have hcz60_2 : wc.cell? ⟨gb166, 2, none⟩ = some (.int .i64 ((rd_T40 l0_4 a1).f2)) := (zP BK166.out 2).trans rfl
                have hcz60_3 : wc.cell? ⟨gb166, 3, none⟩ = some (.int .i64 ((rd_T40 l0_4 a1).f3)) := (zP BK166.out 3).trans rfl
                have hcz60_4 : wc.cell? ⟨gb166, 4, none⟩ = some (.int .i64 ((rd_T40 l0_4 a1).f4)) := (zP BK166.out 4).trans rfl
                have hcz60_5 : wc.cell? ⟨gb166, 5, none⟩ = some (.int .i64 ((rd_T40 l0_4 a1).f5)) := (zP BK166.out 5).trans rfl
                have hcz60_6 : wc.cell? ⟨gb166, 6, none⟩ = some (.int .i64 ((rd_T40 l0_4 a1).f6)) := (zP BK166.out 6).trans rfl
                have hcz60_7 : wc.cell? ⟨gb166, 7, none⟩ = some (.int .i64 ((rd_T40 l0_4 a1).f7)) := (zP BK166.out 7).trans rfl
                have hfz60_0 := zQ BK166.out 0
                have hfz60_1 := zQ BK166.out 1
                have hfz60_2 := zQ BK166.out 2
                have hfz60_3 := zQ BK166.out 3
                have hfz60_4 := zQ BK166.out 4
                have hfz60_5 := zQ BK166.out 5
                have hfz60_6 := zQ BK166.out 6
                have hfz60_7 := zQ BK166.out 7
                go_upto_if 63 with (fail)
                go_cut [63] (fun v63 wc => ∃ (kq : Nat) (x63_57 : Bool), v63 = .bool x63_57 ∧ Aside0 (impl_wantOk.j1 kq a1 ((rd_T40 l0_4 a1).f3) x63_57 l0_0 a0_1 a0_2 a0_3 l0_4 l0_5 ((rd_T40 l0_4 a1).f0) ((rd_T40 l0_4 a1).f1) ((rd_T40 l0_4 a1).f2) ((rd_T40 l0_4 a1).f3) ((rd_T40 l0_4 a1).f4) ((rd_T40 l0_4 a1).f5) ((rd_T40 l0_4 a1).f6) ((rd_T40 l0_4 a1).f7) = some r) ∧ Aside0 (kq ≤ kj4) ∧ Aside0 (wc.heap[gb164]? = some (.cells #[(.slice A0_0 l0_0.length c0_0), .int .i64 a0_1, .int .i64 a0_2, .int .i64 a0_3, (.slice (some ad165) l0_4.length c0_4), (.slice A0_5 l0_5.length c0_5)] 30 (0, 0))) ∧ Aside0 (wc.heap[gb166]? = some (.cells #[.int .i64 ((rd_T40 l0_4 a1).f0), .int .i64 ((rd_T40 l0_4 a1).f1), .int .i64 ((rd_T40 l0_4 a1).f2), .int .i64 ((rd_T40 l0_4 a1).f3), .int .i64 ((rd_T40 l0_4 a1).f4), .int .i64 ((rd_T40 l0_4 a1).f5), .int .i64 ((rd_T40 l0_4 a1).f6), .int .i64 ((rd_T40 l0_4 a1).f7)] 40 (0, 0))) ∧ Aside0 (Below w.heap.size w wc))
                case first =>
                  have H := HC58.out
                  clear HC58
                  by_cases c61 : ((rd_T40 l0_4 a1).f3) = 0
                  · rw [if_pos c61] at H
                    have c61b0 : (((rd_T40 l0_4 a1).f3) == 0) = true := beq_iff_eq.mpr c61
                    have c61b1 : (((rd_T40 l0_4 a1).f3) != 0) = false := bne_eq_false_iff_eq.mpr c61
                    clear c61
                    (first | rw [c61b0] | (simp only [i64_w, i32_w]; rw [c61b0]) | skip)
                    have H' := Aside0.mk H
                    clear H
                    go_wp2
                    go_meet
                    case rel => exact ⟨_, ((((rd_T40 l0_4 a1).f3) == 0)), (by first | rfl | (simp; done) | (simp [*]; done)), H', ⟨by have := HJ4.out; first | omega | exact Nat.le_refl _⟩, ⟨by (with_reducible repeat (first | refine zL ?_ _ | refine zM ?_ | refine zK ?_ _)); exact BK164.out⟩, ⟨by (with_reducible repeat (first | refine zL ?_ _ | refine zM ?_ | refine zK ?_ _)); exact BK166.out⟩, ⟨by repeat (first | (with_reducible first | exact HB.out | apply zO | apply zA | apply zN | refine zB ?_ GE164.out | refine zB ?_ GE166.out) | exact HB.out)⟩⟩
                  · rw [if_neg c61] at H
                    have c61b0 : (((rd_T40 l0_4 a1).f3) == 0) = false := beq_eq_false_iff_ne.mpr c61
                    have c61b1 : (((rd_T40 l0_4 a1).f3) != 0) = true := bne_iff_ne.mpr c61
                    (first | rw [c61b0] | (simp only [i64_w, i32_w]; rw [c61b0]) | skip)
                    have H' := Aside0.mk H
                    clear H
                    go_wp2
                    go_meet
                    case rel => exact ⟨_, ((((rd_T40 l0_4 a1).f3) == 1)), (by first | rfl | (simp; done) | (simp [*]; done)), H', ⟨by have := HJ4.out; first | omega | exact Nat.le_refl _⟩, ⟨by (with_reducible repeat (first | refine zL ?_ _ | refine zM ?_ | refine zK ?_ _)); exact BK164.out⟩, ⟨by (with_reducible repeat (first | refine zL ?_ _ | refine zM ?_ | refine zK ?_ _)); exact BK166.out⟩, ⟨by repeat (first | (with_reducible first | exact HB.out | apply zO | apply zA | apply zN | refine zB ?_ GE164.out | refine zB ?_ GE166.out) | exact HB.out)⟩⟩
                case rest =>
                  clear HC58
                  try clear c1
                  try clear p1
                  try clear q1
                  try clear hx1
                  try clear c2
                  try clear p2
                  try clear c3
                  try clear c3b0
                  try clear c4
                  try clear c4b0
                  try clear c5
                  try clear c6
                  try clear p6
                  try clear c9
                  try clear c12
                  try clear c14
                  try clear c16
                  try clear p16
                  try clear q16
                  try clear hx16
                  try clear c18
                  try clear c26
                  try clear c34
                  try clear c41
                  try clear c47
                  try clear c48
                  try clear c48b0
                  try clear c50
                  try clear c51
                  try clear c54
                  try clear c56
                  try clear c57
                  try clear c57b0
                  try clear c57b1
                  try clear c59
                  try clear c61
                  try clear c61b0
                  try clear c61b1
                  try clear hcz10_0
                  try clear hcz10_1
                  try clear hcz10_2
                  try clear hcz10_3
                  try clear hcz10_4
                  try clear hcz10_5
                  try clear hcz10_6
                  try clear hcz10_7
                  try clear hcz19_0
                  try clear hcz19_1
                  try clear hcz19_2
                  try clear hcz19_3
                  try clear hcz19_4
                  try clear hcz19_5
                  try clear hcz19_6
                  try clear hcz19_7
                  try clear hcz24_0
                  try clear hcz24_1
                  try clear hcz24_2
                  try clear hcz24_3
                  try clear hcz24_4
                  try clear hcz24_5
                  try clear hcz24_6
                  try clear hcz24_7
                  try clear hcz25_0
                  try clear hcz25_1
                  try clear hcz25_2
                  try clear hcz25_3
                  try clear hcz25_4
                  try clear hcz25_5
                  try clear hcz27_0
                  try clear hcz27_1
                  try clear hcz27_2
                  try clear hcz27_3
                  try clear hcz27_4
                  try clear hcz27_5
                  try clear hcz27_6
                  try clear hcz27_7
                  try clear hcz32_0
                  try clear hcz32_1
                  try clear hcz32_2
                  try clear hcz32_3
                  try clear hcz32_4
                  try clear hcz32_5
                  try clear hcz32_6
                  try clear hcz32_7
                  try clear hcz33_0
                  try clear hcz33_1
                  try clear hcz33_2
                  try clear hcz33_3
                  try clear hcz33_4
                  try clear hcz33_5
                  try clear hcz35_0
                  try clear hcz35_1
                  try clear hcz35_2
                  try clear hcz35_3
                  try clear hcz35_4
                  try clear hcz35_5
                  try clear hcz35_6
                  try clear hcz35_7
                  try clear hcz40_0
                  try clear hcz40_1
                  try clear hcz40_2
                  try clear hcz40_3
                  try clear hcz40_4
                  try clear hcz40_5
                  try clear hcz40_6
                  try clear hcz40_7
                  try clear hcz42_0
                  try clear hcz42_1
                  try clear hcz42_2
                  try clear hcz42_3
                  try clear hcz42_4
                  try clear hcz42_5
                  try clear hcz42_6
                  try clear hcz42_7
                  try clear hcz52_0
                  try clear hcz52_1
                  try clear hcz52_2
                  try clear hcz52_3
                  try clear hcz52_4
                  try clear hcz52_5
                  try clear hcz52_6
                  try clear hcz52_7
                  try clear hcz53_0
                  try clear hcz53_1
                  try clear hcz53_2
                  try clear hcz53_3
                  try clear hcz53_4
                  try clear hcz53_5
                  try clear hcz55_0
                  try clear hcz55_1
                  try clear hcz55_2
                  try clear hcz55_3
                  try clear hcz55_4
                  try clear hcz55_5
                  try clear hcz55_6
                  try clear hcz55_7
                  try clear hcz56_0
                  try clear hcz56_1
                  try clear hcz56_2
                  try clear hcz56_3
                  try clear hcz56_4
                  try clear hcz56_5
                  try clear hcz60_0
                  try clear hcz60_1
                  try clear hcz60_2
                  try clear hcz60_3
                  try clear hcz60_4
                  try clear hcz60_5
                  try clear hcz60_6
                  try clear hcz60_7
                  try clear hcz7_0
                  try clear hcz7_1
                  try clear hcz7_2
                  try clear hcz7_3
                  try clear hcz7_4
                  try clear hcz7_5
                  try clear hfz10_0
                  try clear hfz10_1
                  try clear hfz10_2
                  try clear hfz10_3
                  try clear hfz10_4
                  try clear hfz10_5
                  try clear hfz10_6
                  try clear hfz10_7
                  try clear hfz19_0
                  try clear hfz19_1
                  try clear hfz19_2
                  try clear hfz19_3
                  try clear hfz19_4
                  try clear hfz19_5
                  try clear hfz19_6
                  try clear hfz19_7
                  try clear hfz24_0
                  try clear hfz24_1
                  try clear hfz24_2
                  try clear hfz24_3
                  try clear hfz24_4
                  try clear hfz24_5
                  try clear hfz24_6
                  try clear hfz24_7
                  try clear hfz25_0
                  try clear hfz25_1
                  try clear hfz25_2
                  try clear hfz25_3
                  try clear hfz25_4
                  try clear hfz25_5
                  try clear hfz27_0
                  try clear hfz27_1
                  try clear hfz27_2
                  try clear hfz27_3
                  try clear hfz27_4
                  try clear hfz27_5
                  try clear hfz27_6
                  try clear hfz27_7
                  try clear hfz32_0
                  try clear hfz32_1
                  try clear hfz32_2
                  try clear hfz32_3
                  try clear hfz32_4
                  try clear hfz32_5
                  try clear hfz32_6
                  try clear hfz32_7
                  try clear hfz33_0
                  try clear hfz33_1
                  try clear hfz33_2
                  try clear hfz33_3
                  try clear hfz33_4
                  try clear hfz33_5
                  try clear hfz35_0
                  try clear hfz35_1
                  try clear hfz35_2
                  try clear hfz35_3
                  try clear hfz35_4
                  try clear hfz35_5
                  try clear hfz35_6
                  try clear hfz35_7
                  try clear hfz40_0
                  try clear hfz40_1
                  try clear hfz40_2
                  try clear hfz40_3
                  try clear hfz40_4
                  try clear hfz40_5
                  try clear hfz40_6
                  try clear hfz40_7
                  try clear hfz42_0
                  try clear hfz42_1
                  try clear hfz42_2
                  try clear hfz42_3
                  try clear hfz42_4
                  try clear hfz42_5
                  try clear hfz42_6
                  try clear hfz42_7
                  try clear hfz52_0
                  try clear hfz52_1
                  try clear hfz52_2
                  try clear hfz52_3
                  try clear hfz52_4
                  try clear hfz52_5
                  try clear hfz52_6
                  try clear hfz52_7
                  try clear hfz53_0
                  try clear hfz53_1
                  try clear hfz53_2
                  try clear hfz53_3
                  try clear hfz53_4
                  try clear hfz53_5
                  try clear hfz55_0
                  try clear hfz55_1
                  try clear hfz55_2
                  try clear hfz55_3
                  try clear hfz55_4
                  try clear hfz55_5
                  try clear hfz55_6
                  try clear hfz55_7
                  try clear hfz56_0
                  try clear hfz56_1
                  try clear hfz56_2
                  try clear hfz56_3
                  try clear hfz56_4
                  try clear hfz56_5
                  try clear hfz60_0
                  try clear hfz60_1
                  try clear hfz60_2
                  try clear hfz60_3
                  try clear hfz60_4
                  try clear hfz60_5
                  try clear hfz60_6
                  try clear hfz60_7
                  try clear hfz7_0
                  try clear hfz7_1
                  try clear hfz7_2
                  try clear hfz7_3
                  try clear hfz7_4
                  try clear hfz7_5
                  try clear hx165_0
                  try clear hx165_1
                  try clear hx165_2
                  try clear hx165_3
                  try clear hx165_4
                  try clear hx165_5
                  try clear hx165_6
                  try clear hx165_7
                  try clear p1
                  try clear p16
                  try clear p165
                  try clear p2
                  try clear p6
                  try clear q1
                  try clear q16
                  try clear q165
                  obtain ⟨kq, x63_57, rfl, HA, HJ57, BK164, BK166, HB⟩ := hcut
                  cases kq with
                  | zero => exact absurd HA.out (by simp [impl_wantOk.j1])
                  | succ kj57 =>
                    have H := HA.out
                    clear HA
                    simp only [impl_wantOk.j1] at H
                    by_cases c62 : x63_57 = true
                    · subst c62
                      have H1 : (some (((rd_T40 l0_4 a1).f7) == 0)) = some r := by rw [if_pos rfl] at H; exact H
                      clear H
                      have H := H1
                      clear H1
                      obtain rfl := Option.some.inj H
                      have hnb63 := NB166_164.out
                      have hnc63 := NB164_166.out
                      have hcz64_0 : wc.cell? ⟨gb166, 0, none⟩ = some (.int .i64 ((rd_T40 l0_4 a1).f0)) := (zP BK166.out 0).trans rfl
                      have hcz64_1 : wc.cell? ⟨gb166, 1, none⟩ = some (.int .i64 ((rd_T40 l0_4 a1).f1)) := (zP BK166.out 1).trans rfl
                      have hcz64_2 : wc.cell? ⟨gb166, 2, none⟩ = some (.int .i64 ((rd_T40 l0_4 a1).f2)) := (zP BK166.out 2).trans rfl
                      have hcz64_3 : wc.cell? ⟨gb166, 3, none⟩ = some (.int .i64 ((rd_T40 l0_4 a1).f3)) := (zP BK166.out 3).trans rfl
                      have hcz64_4 : wc.cell? ⟨gb166, 4, none⟩ = some (.int .i64 ((rd_T40 l0_4 a1).f4)) := (zP BK166.out 4).trans rfl
                      have hcz64_5 : wc.cell? ⟨gb166, 5, none⟩ = some (.int .i64 ((rd_T40 l0_4 a1).f5)) := (zP BK166.out 5).trans rfl
                      have hcz64_6 : wc.cell? ⟨gb166, 6, none⟩ = some (.int .i64 ((rd_T40 l0_4 a1).f6)) := (zP BK166.out 6).trans rfl
                      have hcz64_7 : wc.cell? ⟨gb166, 7, none⟩ = some (.int .i64 ((rd_T40 l0_4 a1).f7)) := (zP BK166.out 7).trans rfl
                      have hfz64_0 := zQ BK166.out 0
                      have hfz64_1 := zQ BK166.out 1
                      have hfz64_2 := zQ BK166.out 2
                      have hfz64_3 := zQ BK166.out 3
                      have hfz64_4 := zQ BK166.out 4
                      have hfz64_5 := zQ BK166.out 5
                      have hfz64_6 := zQ BK166.out 6
                      have hfz64_7 := zQ BK166.out 7
                      go_wp2
                      go_ret
                      exact ⟨by first | rfl | (simp [errW_none, errW_some] <;> rfl) | (simp [*, errW_none, errW_some] <;> rfl), by repeat (first | (with_reducible first | exact HB.out | apply zO | apply zA | apply zN | refine zB ?_ GE164.out | refine zB ?_ GE166.out) | exact HB.out)⟩
                    · replace c62 := Bool.eq_false_iff.mpr c62
                      subst c62
                      have H1 : (if ((rd_T40 l0_4 a1).f3) = 4 then (some (((rd_T40 l0_4 a1).f7) != 0)) else (some ((((rd_T40 l0_4 a1).f7) == 0) == (a0_3 == (wrap64 (a1 + 1)))))) = some r := by rw [if_neg (show ¬ (false = true) by decide)] at H; exact H
                      clear H
                      have H := H1
                      clear H1
                      by_cases c65 : ((rd_T40 l0_4 a1).f3) = 4
                      · rw [if_pos c65] at H
                        have c65b0 : (((rd_T40 l0_4 a1).f3) == 4) = true := beq_iff_eq.mpr c65
                        have c65b1 : (((rd_T40 l0_4 a1).f3) != 4) = false := bne_eq_false_iff_eq.mpr c65
                        clear c65
                        obtain rfl := Option.some.inj H
                        have hnb66 := NB166_164.out
                        have hnc66 := NB164_166.out
                        have hcz67_0 : wc.cell? ⟨gb166, 0, none⟩ = some (.int .i64 ((rd_T40 l0_4 a1).f0)) := (zP BK166.out 0).trans rfl
                        have hcz67_1 : wc.cell? ⟨gb166, 1, none⟩ = some (.int .i64 ((rd_T40 l0_4 a1).f1)) := (zP BK166.out 1).trans rfl
                        have hcz67_2 : wc.cell? ⟨gb166, 2, none⟩ = some (.int .i64 ((rd_T40 l0_4 a1).f2)) := (zP BK166.out 2).trans rfl
                        have hcz67_3 : wc.cell? ⟨gb166, 3, none⟩ = some (.int .i64 ((rd_T40 l0_4 a1).f3)) := (zP BK166.out 3).trans rfl
                        have hcz67_4 : wc.cell? ⟨gb166, 4, none⟩ = some (.int .i64 ((rd_T40 l0_4 a1).f4)) := (zP BK166.out 4).trans rfl
                        have hcz67_5 : wc.cell? ⟨gb166, 5, none⟩ = some (.int .i64 ((rd_T40 l0_4 a1).f5)) := (zP BK166.out 5).trans rfl
                        have hcz67_6 : wc.cell? ⟨gb166, 6, none⟩ = some (.int .i64 ((rd_T40 l0_4 a1).f6)) := (zP BK166.out 6).trans rfl
                        have hcz67_7 : wc.cell? ⟨gb166, 7, none⟩ = some (.int .i64 ((rd_T40 l0_4 a1).f7)) := (zP BK166.out 7).trans rfl
                        have hfz67_0 := zQ BK166.out 0
                        have hfz67_1 := zQ BK166.out 1
                        have hfz67_2 := zQ BK166.out 2
                        have hfz67_3 := zQ BK166.out 3
                        have hfz67_4 := zQ BK166.out 4
                        have hfz67_5 := zQ BK166.out 5
                        have hfz67_6 := zQ BK166.out 6
                        have hfz67_7 := zQ BK166.out 7
                        go_wp2
                        go_ret
                        exact ⟨by first | rfl | (simp [errW_none, errW_some] <;> rfl) | (simp [*, errW_none, errW_some] <;> rfl), by repeat (first | (with_reducible first | exact HB.out | apply zO | apply zA | apply zN | refine zB ?_ GE164.out | refine zB ?_ GE166.out) | exact HB.out)⟩
                      · rw [if_neg c65] at H
                        have c65b0 : (((rd_T40 l0_4 a1).f3) == 4) = false := beq_eq_false_iff_ne.mpr c65
                        have c65b1 : (((rd_T40 l0_4 a1).f3) != 4) = true := bne_iff_ne.mpr c65
                        obtain rfl := Option.some.inj H
                        have hnb68 := NB166_164.out
                        have hnc68 := NB164_166.out
                        have hcz69_0 : wc.cell? ⟨gb166, 0, none⟩ = some (.int .i64 ((rd_T40 l0_4 a1).f0)) := (zP BK166.out 0).trans rfl
                        have hcz69_1 : wc.cell? ⟨gb166, 1, none⟩ = some (.int .i64 ((rd_T40 l0_4 a1).f1)) := (zP BK166.out 1).trans rfl
                        have hcz69_2 : wc.cell? ⟨gb166, 2, none⟩ = some (.int .i64 ((rd_T40 l0_4 a1).f2)) := (zP BK166.out 2).trans rfl
                        have hcz69_3 : wc.cell? ⟨gb166, 3, none⟩ = some (.int .i64 ((rd_T40 l0_4 a1).f3)) := (zP BK166.out 3).trans rfl
                        have hcz69_4 : wc.cell? ⟨gb166, 4, none⟩ = some (.int .i64 ((rd_T40 l0_4 a1).f4)) := (zP BK166.out 4).trans rfl
                        have hcz69_5 : wc.cell? ⟨gb166, 5, none⟩ = some (.int .i64 ((rd_T40 l0_4 a1).f5)) := (zP BK166.out 5).trans rfl
                        have hcz69_6 : wc.cell? ⟨gb166, 6, none⟩ = some (.int .i64 ((rd_T40 l0_4 a1).f6)) := (zP BK166.out 6).trans rfl
                        have hcz69_7 : wc.cell? ⟨gb166, 7, none⟩ = some (.int .i64 ((rd_T40 l0_4 a1).f7)) := (zP BK166.out 7).trans rfl
                        have hfz69_0 := zQ BK166.out 0
                        have hfz69_1 := zQ BK166.out 1
                        have hfz69_2 := zQ BK166.out 2
                        have hfz69_3 := zQ BK166.out 3
                        have hfz69_4 := zQ BK166.out 4
                        have hfz69_5 := zQ BK166.out 5
                        have hfz69_6 := zQ BK166.out 6
                        have hfz69_7 := zQ BK166.out 7
                        have hcz70_0 : wc.cell? ⟨gb164, 0, none⟩ = some (.slice A0_0 l0_0.length c0_0) := (zP BK164.out 0).trans rfl
                        have hcz70_1 : wc.cell? ⟨gb164, 1, none⟩ = some (.int .i64 a0_1) := (zP BK164.out 1).trans rfl
                        have hcz70_2 : wc.cell? ⟨gb164, 2, none⟩ = some (.int .i64 a0_2) := (zP BK164.out 2).trans rfl
                        have hcz70_3 : wc.cell? ⟨gb164, 3, none⟩ = some (.int .i64 a0_3) := (zP BK164.out 3).trans rfl
                        have hcz70_4 : wc.cell? ⟨gb164, 4, none⟩ = some (.slice (some ad165) l0_4.length c0_4) := (zP BK164.out 4).trans rfl
                        have hcz70_5 : wc.cell? ⟨gb164, 5, none⟩ = some (.slice A0_5 l0_5.length c0_5) := (zP BK164.out 5).trans rfl
                        have hfz70_0 := zQ BK164.out 0
                        have hfz70_1 := zQ BK164.out 1
                        have hfz70_2 := zQ BK164.out 2
                        have hfz70_3 := zQ BK164.out 3
                        have hfz70_4 := zQ BK164.out 4
                        have hfz70_5 := zQ BK164.out 5
                        go_wp2
                        go_ret
                        exact ⟨by first | rfl | (simp [errW_none, errW_some] <;> rfl) | (simp [*, errW_none, errW_some] <;> rfl), by repeat (first | (with_reducible first | exact HB.out | apply zO | apply zA | apply zN | refine zB ?_ GE164.out | refine zB ?_ GE166.out) | exact HB.out)⟩
              · rw [if_neg c57] at H
                have c57b0 : (((rd_T40 l0_4 a1).f4) == 0) = false := beq_eq_false_iff_ne.mpr c57
                have c57b1 : (((rd_T40 l0_4 a1).f4) != 0) = true := bne_iff_ne.mpr c57
                obtain rfl := Option.some.inj H
                have hnb71 := NB166_164.out
                have hnc71 := NB164_166.out
                have hcz72_0 : wc.cell? ⟨gb166, 0, none⟩ = some (.int .i64 ((rd_T40 l0_4 a1).f0)) := (zP BK166.out 0).trans rfl
                have hcz72_1 : wc.cell? ⟨gb166, 1, none⟩ = some (.int .i64 ((rd_T40 l0_4 a1).f1)) := (zP BK166.out 1).trans rfl
                have hcz72_2 : wc.cell? ⟨gb166, 2, none⟩ = some (.int .i64 ((rd_T40 l0_4 a1).f2)) := (zP BK166.out 2).trans rfl
                have hcz72_3 : wc.cell? ⟨gb166, 3, none⟩ = some (.int .i64 ((rd_T40 l0_4 a1).f3)) := (zP BK166.out 3).trans rfl
                have hcz72_4 : wc.cell? ⟨gb166, 4, none⟩ = some (.int .i64 ((rd_T40 l0_4 a1).f4)) := (zP BK166.out 4).trans rfl
                have hcz72_5 : wc.cell? ⟨gb166, 5, none⟩ = some (.int .i64 ((rd_T40 l0_4 a1).f5)) := (zP BK166.out 5).trans rfl
                have hcz72_6 : wc.cell? ⟨gb166, 6, none⟩ = some (.int .i64 ((rd_T40 l0_4 a1).f6)) := (zP BK166.out 6).trans rfl
                have hcz72_7 : wc.cell? ⟨gb166, 7, none⟩ = some (.int .i64 ((rd_T40 l0_4 a1).f7)) := (zP BK166.out 7).trans rfl
                have hfz72_0 := zQ BK166.out 0
                have hfz72_1 := zQ BK166.out 1
                have hfz72_2 := zQ BK166.out 2
                have hfz72_3 := zQ BK166.out 3
                have hfz72_4 := zQ BK166.out 4
                have hfz72_5 := zQ BK166.out 5
                have hfz72_6 := zQ BK166.out 6
                have hfz72_7 := zQ BK166.out 7
                go_wp2
                go_ret
                exact ⟨by first | rfl | (simp [errW_none, errW_some] <;> rfl) | (simp [*, errW_none, errW_some] <;> rfl), by repeat (first | (with_reducible first | exact HB.out | apply zO | apply zA | apply zN | refine zB ?_ GE164.out | refine zB ?_ GE166.out) | exact HB.out)⟩
    · rw [if_neg c4] at H
      exact absurd H (by simp)
  · rw [if_neg c3] at H
    exact absurd H (by simp)

end Go.Proofs.Ytgpeboajnhlfnaa.PFnExactBothOk
