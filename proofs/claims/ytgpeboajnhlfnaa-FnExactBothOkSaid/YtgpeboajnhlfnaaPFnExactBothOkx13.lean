/- The contracts of the functions that the law FnExactBothOk reaches, each proved: what each computes. Written by programs and by hand. -/
import Derived.Test.YtgpeboajnhlfnaaPFnExactBothOkx0
import Derived.Test.YtgpeboajnhlfnaaPFnExactBothOkx4
import Derived.Test.YtgpeboajnhlfnaaPFnExactBothOkx8
import Derived.Test.YtgpeboajnhlfnaaPFnExactBothOkx11
import Derived.Test.YtgpeboajnhlfnaaPFnExactBothOkx12
namespace Go.Proofs.Ytgpeboajnhlfnaa.PFnExactBothOk
open Go.RowKit Go.Proofs.YtgpeboajnhlfnaaW.PrintWords Go.Proofs.YtgpeboajnhlfnaaW.PrintLast Go.Proofs.YtgpeboajnhlfnaaW.PrintMore
open Go.Proofs.YtgpeboajnhlfnaaW.PrintWords renaming pw_below_drewN → zA, below_set → zB, Kd.R_alloc → zC, Kd.R_drewN → zD, Kd.R_drew → zE, Kd.R_below → zH, Kd.R_reads' → zJ, blk_alloc → zK, blk_drewN → zL, blk_drew → zM, below_drew1 → zN, below_alloc → zO, blk_cell → zP, blk_frozen → zQ, blk_below → zR, below_step → zS, below_size → zT, Kd.C_alloc → zU, Kd.C_drewN → zV, Kd.C_drew → zW
attribute [local go_sem] max2_int min2_int max_two min_two max_three min_three max_four min_four   -- for this text's walks alone
set_option linter.unusedVariables false
set_option linter.unusedSimpArgs false

/-! ### impl_BothOk: function 26 -/
mutual
def impl_BothOk.j0 : Nat → Bool → List Int → Int → Int → Int → List (S40) → List (S38) → Int → Option (Bool)
  | 0, _, _, _, _, _, _, _, _ => none
  | k + 1, x46, x176000, x176001, x176002, x176003, x176004, x176005, x177000 => if x46 = true then (some false) else ((impl_BothOk_1.f x176005 x177000).bind fun t185 => (if t185 = true then (some false) else (impl_BothOk.l0 k (x176004.length : Int) 0 x176000 x176001 x176002 x176003 x176004 x176005)))
def impl_BothOk.l0 : Nat → Int → Int → List Int → Int → Int → Int → List (S40) → List (S38) → Option (Bool)
  | 0, _, _, _, _, _, _, _, _ => none
  | k + 1, x53, x54, x176000, x176001, x176002, x176003, x176004, x176005 => if x54 < x53 then ((impl_wantOk.f k x176000 x176001 x176002 x176003 x176004 x176005 x54).bind fun t186 => (if t186 = true then (impl_BothOk.l0 k x53 (wrap64 (x54 + 1)) x176000 x176001 x176002 x176003 x176004 x176005) else (some false))) else (if x176003 = 0 then (some true) else (if 0 ≤ (wrap64 (x176003 - 1)) then (if (wrap64 (x176003 - 1)) < (x176004.length : Int) then (if ((rd_T40 x176004 (wrap64 (x176003 - 1))).f3) = 2 then (some (x176001 == ((rd_T40 x176004 (wrap64 (x176003 - 1))).f1))) else (if ((rd_T40 x176004 (wrap64 (x176003 - 1))).f3) = 3 then (some (x176001 == ((rd_T40 x176004 (wrap64 (x176003 - 1))).f1))) else (some false))) else (none)) else (none)))
end
def impl_BothOk.f (k : Nat) (l0_0 : List Int) (a0_1 : Int) (a0_2 : Int) (a0_3 : Int) (l0_4 : List (S40)) (l0_5 : List (S38)) : Option (Bool) := (impl_from.f (l0_4.length : Int) 1 6).bind fun t177 => (if t177 = true then ((impl_from.f (l0_0.length : Int) 1 60).bind fun t178 => (if t178 = true then (if (l0_5.length : Int) > 60 then (impl_BothOk.j0 k true l0_0 a0_1 a0_2 a0_3 l0_4 l0_5 (l0_4.length : Int)) else ((impl_small.f l0_0).bind fun t179 => (if t179 = true then ((impl_small.f (([a0_1, a0_2] : List Int))).bind fun t183 => (if t183 = true then ((impl_from.f a0_3 0 (l0_4.length : Int)).bind fun t184 => (impl_BothOk.j0 k (!t184) l0_0 a0_1 a0_2 a0_3 l0_4 l0_5 (l0_4.length : Int))) else (impl_BothOk.j0 k true l0_0 a0_1 a0_2 a0_3 l0_4 l0_5 (l0_4.length : Int)))) else (impl_BothOk.j0 k true l0_0 a0_1 a0_2 a0_3 l0_4 l0_5 (l0_4.length : Int))))) else (impl_BothOk.j0 k true l0_0 a0_1 a0_2 a0_3 l0_4 l0_5 (l0_4.length : Int)))) else (impl_BothOk.j0 k true l0_0 a0_1 a0_2 a0_3 l0_4 l0_5 (l0_4.length : Int)))
theorem impl_BothOk.mono_l : ∀ k, (∀ y0 y1 y2 y3 y4 y5 y6 y7, LeO (impl_BothOk.j0 k y0 y1 y2 y3 y4 y5 y6 y7) (impl_BothOk.j0 (k + 1) y0 y1 y2 y3 y4 y5 y6 y7)) ∧ (∀ y0 y1 y2 y3 y4 y5 y6 y7, LeO (impl_BothOk.l0 k y0 y1 y2 y3 y4 y5 y6 y7) (impl_BothOk.l0 (k + 1) y0 y1 y2 y3 y4 y5 y6 y7))
  | 0 => ⟨fun _ _ _ _ _ _ _ _ r h => by simp [impl_BothOk.j0] at h, fun _ _ _ _ _ _ _ _ r h => by simp [impl_BothOk.l0] at h⟩
  | k + 1 => by
    obtain ⟨ih0, ih1⟩ := impl_BothOk.mono_l k
    refine ⟨?_, ?_⟩
    · intro y0 y1 y2 y3 y4 y5 y6 y7
      unfold impl_BothOk.j0
      repeat' first
      | (with_reducible exact ih0 _ _ _ _ _ _ _ _)
      | (with_reducible exact ih1 _ _ _ _ _ _ _ _)
      | (with_reducible exact impl_wantOk.mono _ _ _ _ _ _ _ _)
      | (with_reducible exact LeO.refl _)
      | (with_reducible exact LeO.none _)
      | (with_reducible refine LeO.ite ?_ ?_)
      | (with_reducible refine LeO.bind ?_ (fun _ => ?_))
      | exact ih0 _ _ _ _ _ _ _ _
      | exact ih1 _ _ _ _ _ _ _ _
      | exact impl_wantOk.mono _ _ _ _ _ _ _ _
      | exact LeO.none _
      | refine LeO.ite ?_ ?_
      | refine LeO.bind ?_ (fun _ => ?_)
    · intro y0 y1 y2 y3 y4 y5 y6 y7
      unfold impl_BothOk.l0
      repeat' first
      | (with_reducible exact ih0 _ _ _ _ _ _ _ _)
      | (with_reducible exact ih1 _ _ _ _ _ _ _ _)
      | (with_reducible exact impl_wantOk.mono _ _ _ _ _ _ _ _)
      | (with_reducible exact LeO.refl _)
      | (with_reducible exact LeO.none _)
      | (with_reducible refine LeO.ite ?_ ?_)
      | (with_reducible refine LeO.bind ?_ (fun _ => ?_))
      | exact ih0 _ _ _ _ _ _ _ _
      | exact ih1 _ _ _ _ _ _ _ _
      | exact impl_wantOk.mono _ _ _ _ _ _ _ _
      | exact LeO.none _
      | refine LeO.ite ?_ ?_
      | refine LeO.bind ?_ (fun _ => ?_)
theorem impl_BothOk.mono : ∀ a0 a1 a2 a3 a4 a5 k, LeO (impl_BothOk.f k a0 a1 a2 a3 a4 a5) (impl_BothOk.f (k + 1) a0 a1 a2 a3 a4 a5) := by
  intro a0 a1 a2 a3 a4 a5 k
  obtain ⟨ih0, ih1⟩ := impl_BothOk.mono_l k
  unfold impl_BothOk.f
  repeat' first
      | (with_reducible exact ih0 _ _ _ _ _ _ _ _)
      | (with_reducible exact ih1 _ _ _ _ _ _ _ _)
      | (with_reducible exact impl_wantOk.mono _ _ _ _ _ _ _ _)
      | (with_reducible exact LeO.refl _)
      | (with_reducible exact LeO.none _)
      | (with_reducible refine LeO.ite ?_ ?_)
      | (with_reducible refine LeO.bind ?_ (fun _ => ?_))
      | exact ih0 _ _ _ _ _ _ _ _
      | exact ih1 _ _ _ _ _ _ _ _
      | exact impl_wantOk.mono _ _ _ _ _ _ _ _
      | exact LeO.none _
      | refine LeO.ite ?_ ?_
      | refine LeO.bind ?_ (fun _ => ?_)
set_option maxHeartbeats 8000000 in
set_option maxRecDepth 100000 in
theorem impl_BothOk.calls (k : Nat) (A0_0 : Option Addr) (c0_0 : Nat) (l0_0 : List Int) (a0_1 : Int) (a0_2 : Int) (a0_3 : Int) (A0_4 : Option Addr) (c0_4 : Nat) (l0_4 : List (S40)) (A0_5 : Option Addr) (c0_5 : Nat) (l0_5 : List (S38)) (r : Bool) (w : World) (hr0_0 : Kd.C (Kd.int .i64) w A0_0 l0_0.length l0_0) (hc0_0 : l0_0.length ≤ c0_0) (hr0_4 : Kd.C k40 w A0_4 l0_4.length l0_4) (hc0_4 : l0_4.length ≤ c0_4) (hr0_5 : Kd.C k38 w A0_5 l0_5.length l0_5) (hc0_5 : l0_5.length ≤ c0_5) (h : impl_BothOk.f k l0_0 a0_1 a0_2 a0_3 l0_4 l0_5 = some r) :
    Calls Try.prog 26 #[.agg #[.slice A0_0 l0_0.length c0_0, .int .i64 a0_1, .int .i64 a0_2, .int .i64 a0_3, .slice A0_4 l0_4.length c0_4, .slice A0_5 l0_5.length c0_5]] w fun e w' => e = .returned (.bool r) ∧ Below w.heap.size w w' := by
  have hu30 := Try.underlying30
  have hu40 := Try.underlying40
  have HR0_0 := Aside0.mk hr0_0
  have HC0_0 := Aside0.mk hc0_0
  clear hr0_0 hc0_0
  have HR0_4 := Aside0.mk hr0_4
  have HC0_4 := Aside0.mk hc0_4
  clear hr0_4 hc0_4
  have HR0_5 := Aside0.mk hr0_5
  have HC0_5 := Aside0.mk hc0_5
  clear hr0_5 hc0_5
  have HB := Aside0.mk (Below.refl w.heap.size w)
  have H : ((impl_from.f (l0_4.length : Int) 1 6).bind fun t177 => (if t177 = true then ((impl_from.f (l0_0.length : Int) 1 60).bind fun t178 => (if t178 = true then (if (l0_5.length : Int) > 60 then (impl_BothOk.j0 k true l0_0 a0_1 a0_2 a0_3 l0_4 l0_5 (l0_4.length : Int)) else ((impl_small.f l0_0).bind fun t179 => (if t179 = true then ((impl_small.f (([a0_1, a0_2] : List Int))).bind fun t183 => (if t183 = true then ((impl_from.f a0_3 0 (l0_4.length : Int)).bind fun t184 => (impl_BothOk.j0 k (!t184) l0_0 a0_1 a0_2 a0_3 l0_4 l0_5 (l0_4.length : Int))) else (impl_BothOk.j0 k true l0_0 a0_1 a0_2 a0_3 l0_4 l0_5 (l0_4.length : Int)))) else (impl_BothOk.j0 k true l0_0 a0_1 a0_2 a0_3 l0_4 l0_5 (l0_4.length : Int))))) else (impl_BothOk.j0 k true l0_0 a0_1 a0_2 a0_3 l0_4 l0_5 (l0_4.length : Int)))) else (impl_BothOk.j0 k true l0_0 a0_1 a0_2 a0_3 l0_4 l0_5 (l0_4.length : Int)))) = some r := h
  clear h
  have HC2 := Aside0.mk H
  clear H
  go_enter Try.func26, Try.ntmps26
  go_upto_region 2 with (first | ((with_reducible refine gate_dst (N := 1) rfl ?_); (try (refine gate_guard (by rfl) ?_; dsimp only)); refine box_event ?hg (N := 1) ?hd (cs := #[.slice A0_0 l0_0.length c0_0, .int .i64 a0_1, .int .i64 a0_2, .int .i64 a0_3, .slice A0_4 l0_4.length c0_4, .slice A0_5 l0_5.length c0_5]) (t := 30) ?hr ?_; (case hd => rfl); (case hg => rfl); (case hr => first | (go_simp; done) | (go_simp; rfl)); intro gb175 hg w3 hbox hb; have n0_ := Aside0.mk (zS (by repeat (first | (with_reducible first | exact HB.out | apply zO | apply zA | apply zN) | exact HB.out)) hb); have n1_ := Aside0.mk (hbox); have n2_ := Aside0.mk ((by rw [hg]; exact (zT (by repeat (first | (with_reducible first | exact HB.out | apply zO | apply zA | apply zN) | exact HB.out))) : w.heap.size ≤ gb175)); have n3_ := Aside0.mk ((by rw [hg]; exact (zT (by repeat (first | (with_reducible first | exact HB.out | apply zO | apply zA | apply zN) | exact HB.out))) : w.heap.size ≤ gb175)); clear HB; have HB := n0_; have BK175 := n1_; have GW175 := n2_; have GE175 := n3_; clear n0_ n1_ n2_ n3_; clear hb hbox hg; have hcz4_0 : w3.cell? ⟨gb175, 0, none⟩ = some (.slice A0_0 l0_0.length c0_0) := (zP BK175.out 0).trans rfl; have hcz4_1 : w3.cell? ⟨gb175, 1, none⟩ = some (.int .i64 a0_1) := (zP BK175.out 1).trans rfl; have hcz4_2 : w3.cell? ⟨gb175, 2, none⟩ = some (.int .i64 a0_2) := (zP BK175.out 2).trans rfl; have hcz4_3 : w3.cell? ⟨gb175, 3, none⟩ = some (.int .i64 a0_3) := (zP BK175.out 3).trans rfl; have hcz4_4 : w3.cell? ⟨gb175, 4, none⟩ = some (.slice A0_4 l0_4.length c0_4) := (zP BK175.out 4).trans rfl; have hcz4_5 : w3.cell? ⟨gb175, 5, none⟩ = some (.slice A0_5 l0_5.length c0_5) := (zP BK175.out 5).trans rfl; have hfz4_0 := zQ BK175.out 0; have hfz4_1 := zQ BK175.out 1; have hfz4_2 := zQ BK175.out 2; have hfz4_3 := zQ BK175.out 3; have hfz4_4 := zQ BK175.out 4; have hfz4_5 := zQ BK175.out 5) | ((with_reducible refine gate_dst (N := 3) rfl ?_); (try (refine gate_guard (by rfl) ?_; dsimp only)); refine box_event ?hg (N := 3) ?hd (cs := #[.int .i64 0]) (t := 3) ?hr ?_; (case hd => rfl); (case hg => rfl); (case hr => first | (go_simp; done) | (go_simp; rfl)); intro gb176 hg w5 hbox hb; have n0_ := Aside0.mk (zR (g := gb175) (o := .cells #[.slice A0_0 l0_0.length c0_0, .int .i64 a0_1, .int .i64 a0_2, .int .i64 a0_3, .slice A0_4 l0_4.length c0_4, .slice A0_5 l0_5.length c0_5] 30 (0, 0)) (by (with_reducible repeat (first | refine zL ?_ _ | refine zM ?_ | refine zK ?_ _)); exact BK175.out) hb); have n1_ := Aside0.mk (zS (by repeat (first | (with_reducible first | exact HB.out | apply zO | apply zA | apply zN | refine zB ?_ GE175.out) | exact HB.out)) hb); have n2_ := Aside0.mk (hbox); have n3_ := Aside0.mk ((by rw [hg]; exact (zT (by repeat (first | (with_reducible first | exact HB.out | apply zO | apply zA | apply zN | refine zB ?_ GE175.out) | exact HB.out))) : w.heap.size ≤ gb176)); have n4_ := Aside0.mk ((by rw [hg]; exact (zT (by repeat (first | (with_reducible first | exact HB.out | apply zO | apply zA | apply zN | refine zB ?_ GE175.out) | exact HB.out))) : w.heap.size ≤ gb176)); have n5_ := Aside0.mk ((by rw [hg]; exact Nat.ne_of_lt (blk_lt (g := gb175) (o := .cells #[.slice A0_0 l0_0.length c0_0, .int .i64 a0_1, .int .i64 a0_2, .int .i64 a0_3, .slice A0_4 l0_4.length c0_4, .slice A0_5 l0_5.length c0_5] 30 (0, 0)) (by (with_reducible repeat (first | refine zL ?_ _ | refine zM ?_ | refine zK ?_ _)); exact BK175.out)) : gb175 ≠ gb176)); have n6_ := Aside0.mk ((by rw [hg]; exact Nat.ne_of_gt (blk_lt (g := gb175) (o := .cells #[.slice A0_0 l0_0.length c0_0, .int .i64 a0_1, .int .i64 a0_2, .int .i64 a0_3, .slice A0_4 l0_4.length c0_4, .slice A0_5 l0_5.length c0_5] 30 (0, 0)) (by (with_reducible repeat (first | refine zL ?_ _ | refine zM ?_ | refine zK ?_ _)); exact BK175.out)) : gb176 ≠ gb175)); clear BK175; clear HB; have BK175 := n0_; have HB := n1_; have BK176 := n2_; have GW176 := n3_; have GE176 := n4_; have NB175_176 := n5_; have NB176_175 := n6_; clear n0_ n1_ n2_ n3_ n4_ n5_ n6_; clear hb hbox hg; have hnb6 := NB176_175.out; have hnc6 := NB175_176.out; have hcz7_0 : w5.cell? ⟨gb176, 0, none⟩ = some (.int .i64 0) := (zP BK176.out 0).trans rfl; have hfz7_0 := zQ BK176.out 0))
  (try simp only [Act.put, List.setIfInBounds_toArray, List.set_cons_zero, List.set_cons_succ])
  go_cut [46] (fun v46 wc => ∃ (kq : Nat) (x46_1 : Bool), v46 = .bool x46_1 ∧ Aside0 (impl_BothOk.j0 kq x46_1 l0_0 a0_1 a0_2 a0_3 l0_4 l0_5 (l0_4.length : Int) = some r) ∧ Aside0 (kq ≤ k) ∧ Aside0 (wc.heap[gb175]? = some (.cells #[(.slice A0_0 l0_0.length c0_0), .int .i64 a0_1, .int .i64 a0_2, .int .i64 a0_3, (.slice A0_4 l0_4.length c0_4), (.slice A0_5 l0_5.length c0_5)] 30 (0, 0))) ∧ Aside0 (wc.heap[gb176]? = some (.cells #[.int .i64 (l0_4.length : Int)] 3 (0, 0))) ∧ Aside0 (Below w.heap.size w wc))
  case first =>
    have H := HC2.out
    clear HC2
    replace H := Option.bind_eq_some_iff.mp H
    obtain ⟨t177, A80, H⟩ := H
    replace H : (if t177 = true then ((impl_from.f (l0_0.length : Int) 1 60).bind fun t178 => (if t178 = true then (if (l0_5.length : Int) > 60 then (impl_BothOk.j0 k true l0_0 a0_1 a0_2 a0_3 l0_4 l0_5 (l0_4.length : Int)) else ((impl_small.f l0_0).bind fun t179 => (if t179 = true then ((impl_small.f (([a0_1, a0_2] : List Int))).bind fun t183 => (if t183 = true then ((impl_from.f a0_3 0 (l0_4.length : Int)).bind fun t184 => (impl_BothOk.j0 k (!t184) l0_0 a0_1 a0_2 a0_3 l0_4 l0_5 (l0_4.length : Int))) else (impl_BothOk.j0 k true l0_0 a0_1 a0_2 a0_3 l0_4 l0_5 (l0_4.length : Int)))) else (impl_BothOk.j0 k true l0_0 a0_1 a0_2 a0_3 l0_4 l0_5 (l0_4.length : Int))))) else (impl_BothOk.j0 k true l0_0 a0_1 a0_2 a0_3 l0_4 l0_5 (l0_4.length : Int)))) else (impl_BothOk.j0 k true l0_0 a0_1 a0_2 a0_3 l0_4 l0_5 (l0_4.length : Int))) = some r := H
    have A8 := Aside0.mk A80
    clear A80
    by_cases c9 : t177 = true
    · subst c9
      have H1 : ((impl_from.f (l0_0.length : Int) 1 60).bind fun t178 => (if t178 = true then (if (l0_5.length : Int) > 60 then (impl_BothOk.j0 k true l0_0 a0_1 a0_2 a0_3 l0_4 l0_5 (l0_4.length : Int)) else ((impl_small.f l0_0).bind fun t179 => (if t179 = true then ((impl_small.f (([a0_1, a0_2] : List Int))).bind fun t183 => (if t183 = true then ((impl_from.f a0_3 0 (l0_4.length : Int)).bind fun t184 => (impl_BothOk.j0 k (!t184) l0_0 a0_1 a0_2 a0_3 l0_4 l0_5 (l0_4.length : Int))) else (impl_BothOk.j0 k true l0_0 a0_1 a0_2 a0_3 l0_4 l0_5 (l0_4.length : Int)))) else (impl_BothOk.j0 k true l0_0 a0_1 a0_2 a0_3 l0_4 l0_5 (l0_4.length : Int))))) else (impl_BothOk.j0 k true l0_0 a0_1 a0_2 a0_3 l0_4 l0_5 (l0_4.length : Int)))) = some r := by rw [if_pos rfl] at H; exact H
      clear H
      have H := H1
      clear H1
      replace H := Option.bind_eq_some_iff.mp H
      obtain ⟨t178, A100, H⟩ := H
      replace H : (if t178 = true then (if (l0_5.length : Int) > 60 then (impl_BothOk.j0 k true l0_0 a0_1 a0_2 a0_3 l0_4 l0_5 (l0_4.length : Int)) else ((impl_small.f l0_0).bind fun t179 => (if t179 = true then ((impl_small.f (([a0_1, a0_2] : List Int))).bind fun t183 => (if t183 = true then ((impl_from.f a0_3 0 (l0_4.length : Int)).bind fun t184 => (impl_BothOk.j0 k (!t184) l0_0 a0_1 a0_2 a0_3 l0_4 l0_5 (l0_4.length : Int))) else (impl_BothOk.j0 k true l0_0 a0_1 a0_2 a0_3 l0_4 l0_5 (l0_4.length : Int)))) else (impl_BothOk.j0 k true l0_0 a0_1 a0_2 a0_3 l0_4 l0_5 (l0_4.length : Int))))) else (impl_BothOk.j0 k true l0_0 a0_1 a0_2 a0_3 l0_4 l0_5 (l0_4.length : Int))) = some r := H
      have A10 := Aside0.mk A100
      clear A100
      by_cases c11 : t178 = true
      · subst c11
        have H1 : (if (l0_5.length : Int) > 60 then (impl_BothOk.j0 k true l0_0 a0_1 a0_2 a0_3 l0_4 l0_5 (l0_4.length : Int)) else ((impl_small.f l0_0).bind fun t179 => (if t179 = true then ((impl_small.f (([a0_1, a0_2] : List Int))).bind fun t183 => (if t183 = true then ((impl_from.f a0_3 0 (l0_4.length : Int)).bind fun t184 => (impl_BothOk.j0 k (!t184) l0_0 a0_1 a0_2 a0_3 l0_4 l0_5 (l0_4.length : Int))) else (impl_BothOk.j0 k true l0_0 a0_1 a0_2 a0_3 l0_4 l0_5 (l0_4.length : Int)))) else (impl_BothOk.j0 k true l0_0 a0_1 a0_2 a0_3 l0_4 l0_5 (l0_4.length : Int))))) = some r := by rw [if_pos rfl] at H; exact H
        clear H
        have H := H1
        clear H1
        by_cases c12 : (l0_5.length : Int) > 60
        · rw [if_pos c12] at H
          have c12b0 : decide (60 < (l0_5.length : Int)) = true := decide_eq_true c12
          have c12b1 : decide (60 < l0_5.length) = true := decide_eq_true (by omega)
          clear c12
          (first | rw [c12b0] | (simp only [i64_w, i32_w]; rw [c12b0]) | skip)
          have H' := Aside0.mk H
          clear H
          have hnb13 := NB176_175.out
          have hnc13 := NB175_176.out
          have hcz14_0 : w5.cell? ⟨gb176, 0, none⟩ = some (.int .i64 0) := (zP BK176.out 0).trans rfl
          have hfz14_0 := zQ BK176.out 0
          go_wp2_with (first | ((with_reducible refine gate_callee (f := 56) rfl ?_); refine goesL_ (some 10) rfl rfl Try.func56 (by kernel_rfl) rfl #[.int .i64 (l0_4.length : Int), .int .i64 1, .int .i64 6] rfl (by (try simp only [List.map_toArray, List.map_cons, List.map_nil]); first | done | rfl | (simp only [List.length_drop, List.length_take]; rfl)) ?_; (with_reducible refine (impl_from.calls (l0_4.length : Int) 1 6 true _ A8.out).mono ?_); rintro e w' ⟨rfl, ⟨nd, rfl⟩⟩; refine ⟨_, rfl, ?_⟩; have hcz15_0 : w5.cell? ⟨gb175, 0, none⟩ = some (.slice A0_0 l0_0.length c0_0) := (zP BK175.out 0).trans rfl; have hcz15_1 : w5.cell? ⟨gb175, 1, none⟩ = some (.int .i64 a0_1) := (zP BK175.out 1).trans rfl; have hcz15_2 : w5.cell? ⟨gb175, 2, none⟩ = some (.int .i64 a0_2) := (zP BK175.out 2).trans rfl; have hcz15_3 : w5.cell? ⟨gb175, 3, none⟩ = some (.int .i64 a0_3) := (zP BK175.out 3).trans rfl; have hcz15_4 : w5.cell? ⟨gb175, 4, none⟩ = some (.slice A0_4 l0_4.length c0_4) := (zP BK175.out 4).trans rfl; have hcz15_5 : w5.cell? ⟨gb175, 5, none⟩ = some (.slice A0_5 l0_5.length c0_5) := (zP BK175.out 5).trans rfl; have hfz15_0 := zQ BK175.out 0; have hfz15_1 := zQ BK175.out 1; have hfz15_2 := zQ BK175.out 2; have hfz15_3 := zQ BK175.out 3; have hfz15_4 := zQ BK175.out 4; have hfz15_5 := zQ BK175.out 5) | (go_at_call 56; (with_reducible refine (impl_from.calls (l0_0.length : Int) 1 60 true _ A10.out).mono ?_); rintro e w' ⟨rfl, ⟨nd, rfl⟩⟩))
          go_meet
          case rel => exact ⟨_, (true), (by first | rfl | (simp; done) | (simp [*]; done)), H', ⟨by first | omega | exact Nat.le_refl _⟩, ⟨by (with_reducible repeat (first | refine zL ?_ _ | refine zM ?_ | refine zK ?_ _)); refine blk_far ?_ NB175_176.out _; (with_reducible repeat (first | refine zL ?_ _ | refine zM ?_ | refine zK ?_ _)); exact BK175.out⟩, ⟨by (with_reducible repeat (first | refine zL ?_ _ | refine zM ?_ | refine zK ?_ _)); refine blk_put (cs := #[.int .i64 0]) ?_ 0 _ rfl; (with_reducible repeat (first | refine zL ?_ _ | refine zM ?_ | refine zK ?_ _)); exact BK176.out⟩, ⟨by repeat (first | (with_reducible first | exact HB.out | apply zO | apply zA | apply zN | refine zB ?_ GE175.out | refine zB ?_ GE176.out) | exact HB.out)⟩⟩
        · rw [if_neg c12] at H
          have c12b0 : decide (60 < (l0_5.length : Int)) = false := decide_eq_false c12
          have c12b1 : decide (60 < l0_5.length) = false := decide_eq_false (by omega)
          clear c12
          (first | rw [c12b0] | (simp only [i64_w, i32_w]; rw [c12b0]) | skip)
          replace H := Option.bind_eq_some_iff.mp H
          obtain ⟨t179, A160, H⟩ := H
          replace H : (if t179 = true then ((impl_small.f (([a0_1, a0_2] : List Int))).bind fun t183 => (if t183 = true then ((impl_from.f a0_3 0 (l0_4.length : Int)).bind fun t184 => (impl_BothOk.j0 k (!t184) l0_0 a0_1 a0_2 a0_3 l0_4 l0_5 (l0_4.length : Int))) else (impl_BothOk.j0 k true l0_0 a0_1 a0_2 a0_3 l0_4 l0_5 (l0_4.length : Int)))) else (impl_BothOk.j0 k true l0_0 a0_1 a0_2 a0_3 l0_4 l0_5 (l0_4.length : Int))) = some r := H
          have A16 := Aside0.mk A160
          clear A160
          by_cases c17 : t179 = true
          · subst c17
            have H1 : ((impl_small.f (([a0_1, a0_2] : List Int))).bind fun t183 => (if t183 = true then ((impl_from.f a0_3 0 (l0_4.length : Int)).bind fun t184 => (impl_BothOk.j0 k (!t184) l0_0 a0_1 a0_2 a0_3 l0_4 l0_5 (l0_4.length : Int))) else (impl_BothOk.j0 k true l0_0 a0_1 a0_2 a0_3 l0_4 l0_5 (l0_4.length : Int)))) = some r := by rw [if_pos rfl] at H; exact H
            clear H
            have H := H1
            clear H1
            obtain ⟨y180, hy180⟩ : ∃ y_ : List Int, y_ = (([a0_1, a0_2] : List Int)) := ⟨_, rfl⟩
            replace H : ((impl_small.f y180).bind fun t183 => (if t183 = true then ((impl_from.f a0_3 0 (l0_4.length : Int)).bind fun t184 => (impl_BothOk.j0 k (!t184) l0_0 a0_1 a0_2 a0_3 l0_4 l0_5 (l0_4.length : Int))) else (impl_BothOk.j0 k true l0_0 a0_1 a0_2 a0_3 l0_4 l0_5 (l0_4.length : Int)))) = some r := by first | (rw [hy180]; with_reducible exact H) | (have H2_ := (Option.bind_some _ _).symm.trans H; rw [hy180]; with_reducible exact H2_) | (have H2_ := (Option.bind_some _ _).symm.trans H; with_reducible exact H2_) | with_reducible exact H | (rw [hy180]; exact H) | exact H
            have Ny180 := Aside0.mk hy180
            clear hy180
            replace H := Option.bind_eq_some_iff.mp H
            obtain ⟨t183, A180, H⟩ := H
            replace H : (if t183 = true then ((impl_from.f a0_3 0 (l0_4.length : Int)).bind fun t184 => (impl_BothOk.j0 k (!t184) l0_0 a0_1 a0_2 a0_3 l0_4 l0_5 (l0_4.length : Int))) else (impl_BothOk.j0 k true l0_0 a0_1 a0_2 a0_3 l0_4 l0_5 (l0_4.length : Int))) = some r := H
            have A18 := Aside0.mk A180
            clear A180
            by_cases c19 : t183 = true
            · subst c19
              have H1 : ((impl_from.f a0_3 0 (l0_4.length : Int)).bind fun t184 => (impl_BothOk.j0 k (!t184) l0_0 a0_1 a0_2 a0_3 l0_4 l0_5 (l0_4.length : Int))) = some r := by rw [if_pos rfl] at H; exact H
              clear H
              have H := H1
              clear H1
              replace H := Option.bind_eq_some_iff.mp H
              obtain ⟨t184, A200, H⟩ := H
              replace H : (impl_BothOk.j0 k (!t184) l0_0 a0_1 a0_2 a0_3 l0_4 l0_5 (l0_4.length : Int)) = some r := H
              have A20 := Aside0.mk A200
              clear A200
              have H' := Aside0.mk H
              clear H
              have hnb21 := NB176_175.out
              have hnc21 := NB175_176.out
              have hcz22_0 : w5.cell? ⟨gb176, 0, none⟩ = some (.int .i64 0) := (zP BK176.out 0).trans rfl
              have hfz22_0 := zQ BK176.out 0
              go_wp2_with (first | ((with_reducible refine gate_callee (f := 56) rfl ?_); refine goesL_ (some 10) rfl rfl Try.func56 (by kernel_rfl) rfl #[.int .i64 (l0_4.length : Int), .int .i64 1, .int .i64 6] rfl (by (try simp only [List.map_toArray, List.map_cons, List.map_nil]); first | done | rfl | (simp only [List.length_drop, List.length_take]; rfl)) ?_; (with_reducible refine (impl_from.calls (l0_4.length : Int) 1 6 true _ A8.out).mono ?_); rintro e w' ⟨rfl, ⟨nd, rfl⟩⟩; refine ⟨_, rfl, ?_⟩; have hcz23_0 : w5.cell? ⟨gb175, 0, none⟩ = some (.slice A0_0 l0_0.length c0_0) := (zP BK175.out 0).trans rfl; have hcz23_1 : w5.cell? ⟨gb175, 1, none⟩ = some (.int .i64 a0_1) := (zP BK175.out 1).trans rfl; have hcz23_2 : w5.cell? ⟨gb175, 2, none⟩ = some (.int .i64 a0_2) := (zP BK175.out 2).trans rfl; have hcz23_3 : w5.cell? ⟨gb175, 3, none⟩ = some (.int .i64 a0_3) := (zP BK175.out 3).trans rfl; have hcz23_4 : w5.cell? ⟨gb175, 4, none⟩ = some (.slice A0_4 l0_4.length c0_4) := (zP BK175.out 4).trans rfl; have hcz23_5 : w5.cell? ⟨gb175, 5, none⟩ = some (.slice A0_5 l0_5.length c0_5) := (zP BK175.out 5).trans rfl; have hfz23_0 := zQ BK175.out 0; have hfz23_1 := zQ BK175.out 1; have hfz23_2 := zQ BK175.out 2; have hfz23_3 := zQ BK175.out 3; have hfz23_4 := zQ BK175.out 4; have hfz23_5 := zQ BK175.out 5) | (go_at_call 56; (with_reducible refine (impl_from.calls (l0_0.length : Int) 1 60 true _ A10.out).mono ?_); rintro e w' ⟨rfl, ⟨nd, rfl⟩⟩) | (go_at_call 63; (with_reducible refine (impl_small.calls _ _ l0_0 true _ ?side1 ?side2 A16.out).mono ?_); (case side1 => exact Kd.C_below HR0_0.out (by repeat (first | (with_reducible first | exact HB.out | apply zO | apply zA | apply zN | refine zB ?_ GE175.out | refine zB ?_ GE176.out) | exact HB.out))); (case side2 => exact HC0_0.out); rintro e w24 ⟨rfl, hb⟩; have n0_ := Aside0.mk (zR (g := gb175) (o := .cells #[.slice A0_0 l0_0.length c0_0, .int .i64 a0_1, .int .i64 a0_2, .int .i64 a0_3, .slice A0_4 l0_4.length c0_4, .slice A0_5 l0_5.length c0_5] 30 (0, 0)) (by (with_reducible repeat (first | refine zL ?_ _ | refine zM ?_ | refine zK ?_ _)); refine blk_far ?_ NB175_176.out _; (with_reducible repeat (first | refine zL ?_ _ | refine zM ?_ | refine zK ?_ _)); exact BK175.out) hb); have n1_ := Aside0.mk (zR (g := gb176) (o := .cells #[.int .i64 (l0_4.length : Int)] 3 (0, 0)) (by (with_reducible repeat (first | refine zL ?_ _ | refine zM ?_ | refine zK ?_ _)); refine blk_put (cs := #[.int .i64 0]) ?_ 0 _ rfl; (with_reducible repeat (first | refine zL ?_ _ | refine zM ?_ | refine zK ?_ _)); exact BK176.out) hb); have n2_ := Aside0.mk (zS (by repeat (first | (with_reducible first | exact HB.out | apply zO | apply zA | apply zN | refine zB ?_ GE175.out | refine zB ?_ GE176.out) | exact HB.out)) hb); clear BK175; clear BK176; clear HB; have BK175 := n0_; have BK176 := n1_; have HB := n2_; clear n0_ n1_ n2_; (try clear hb); (try clear hb2); (try clear hk); (try clear hi); have hcz25_0 : w24.cell? ⟨gb175, 0, none⟩ = some (.slice A0_0 l0_0.length c0_0) := (zP BK175.out 0).trans rfl; have hcz25_1 : w24.cell? ⟨gb175, 1, none⟩ = some (.int .i64 a0_1) := (zP BK175.out 1).trans rfl; have hcz25_2 : w24.cell? ⟨gb175, 2, none⟩ = some (.int .i64 a0_2) := (zP BK175.out 2).trans rfl; have hcz25_3 : w24.cell? ⟨gb175, 3, none⟩ = some (.int .i64 a0_3) := (zP BK175.out 3).trans rfl; have hcz25_4 : w24.cell? ⟨gb175, 4, none⟩ = some (.slice A0_4 l0_4.length c0_4) := (zP BK175.out 4).trans rfl; have hcz25_5 : w24.cell? ⟨gb175, 5, none⟩ = some (.slice A0_5 l0_5.length c0_5) := (zP BK175.out 5).trans rfl; have hfz25_0 := zQ BK175.out 0; have hfz25_1 := zQ BK175.out 1; have hfz25_2 := zQ BK175.out 2; have hfz25_3 := zQ BK175.out 3; have hfz25_4 := zQ BK175.out 4; have hfz25_5 := zQ BK175.out 5) | ((with_reducible refine gate_dst (N := 36) rfl ?_); (try (refine gate_guard (by rfl) ?_; dsimp only)); refine Kd.R_lit (Kd.int .i64) _ 3 ?hg (N := 36) ?hd (xs := ([a0_1, a0_2] : List Int)) (inner := [.int .i64 a0_1, .int .i64 a0_2]) (ok := fun _ => True) (okp := fun _ => True) ?hr ?hp (fun _ hk => hk) trivial (Below.refl _ _) (Nat.le_refl _) (by simp) ?_; (case hd => rfl); (case hg => rfl); (case hr => first | (go_simp; done) | (go_simp; rfl)); (case hp => exact (Reps.one (show Kd.M (Kd.int .i64) _ _ _ a0_1 [.int .i64 a0_1] from rfl) (Reps.one (show Kd.M (Kd.int .i64) _ _ _ a0_2 [.int .i64 a0_2] from rfl) (Reps.none _ _)))); intro v181 w26 ho27 hb hg_ hnew_; clear hg_ hnew_; (first | rw [← Ny180.out] at ho27 | (simp only [Int.reduceToNat] at ho27; rw [← Ny180.out] at ho27)); have n0_ := Aside0.mk (Kd.R_lower (Kd.R_newB ho27 (g := gb176) (o := .cells #[.int .i64 (l0_4.length : Int)] 3 (0, 0)) (by (with_reducible repeat (first | refine zL ?_ _ | refine zM ?_ | refine zK ?_ _)); exact BK176.out)) (zT (by repeat (first | (with_reducible first | exact HB.out | apply zO | apply zA | apply zN | refine zB ?_ GE175.out | refine zB ?_ GE176.out) | exact HB.out)))); have n1_ := Aside0.mk (zR (g := gb175) (o := .cells #[.slice A0_0 l0_0.length c0_0, .int .i64 a0_1, .int .i64 a0_2, .int .i64 a0_3, .slice A0_4 l0_4.length c0_4, .slice A0_5 l0_5.length c0_5] 30 (0, 0)) (by (with_reducible repeat (first | refine zL ?_ _ | refine zM ?_ | refine zK ?_ _)); exact BK175.out) hb); have n2_ := Aside0.mk (zR (g := gb176) (o := .cells #[.int .i64 (l0_4.length : Int)] 3 (0, 0)) (by (with_reducible repeat (first | refine zL ?_ _ | refine zM ?_ | refine zK ?_ _)); exact BK176.out) hb); have n3_ := Aside0.mk (zS (by repeat (first | (with_reducible first | exact HB.out | apply zO | apply zA | apply zN | refine zB ?_ GE175.out | refine zB ?_ GE176.out) | exact HB.out)) hb); clear BK175; clear BK176; clear HB; have HO182 := n0_; have BK175 := n1_; have BK176 := n2_; have HB := n3_; clear n0_ n1_ n2_ n3_; clear hb ho27; obtain ⟨Ao28, co28, eo28⟩ := Kd.R_slice HO182.out; subst eo28) | (go_at_call 63; (with_reducible refine (impl_small.calls _ _ y180 true _ ?side1 ?side2 A18.out).mono ?_); (case side1 => repeat (first | exact (zJ HO182.out).2.2 | (with_reducible refine zU ?_ _) | (with_reducible refine zV ?_ _) | (with_reducible refine zW ?_))); (case side2 => exact (zJ HO182.out).2.1); rintro e w29 ⟨rfl, hb⟩; have n0_ := Aside0.mk (zH (by (with_reducible repeat (first | apply zC | apply zD | apply zE)); exact HO182.out) hb); have n1_ := Aside0.mk (zR (g := gb175) (o := .cells #[.slice A0_0 l0_0.length c0_0, .int .i64 a0_1, .int .i64 a0_2, .int .i64 a0_3, .slice A0_4 l0_4.length c0_4, .slice A0_5 l0_5.length c0_5] 30 (0, 0)) (by (with_reducible repeat (first | refine zL ?_ _ | refine zM ?_ | refine zK ?_ _)); exact BK175.out) hb); have n2_ := Aside0.mk (zR (g := gb176) (o := .cells #[.int .i64 (l0_4.length : Int)] 3 (0, 0)) (by (with_reducible repeat (first | refine zL ?_ _ | refine zM ?_ | refine zK ?_ _)); exact BK176.out) hb); have n3_ := Aside0.mk (zS (by repeat (first | (with_reducible first | exact HB.out | apply zO | apply zA | apply zN | refine zB ?_ GE175.out | refine zB ?_ GE176.out) | exact HB.out)) hb); clear HO182; clear BK175; clear BK176; clear HB; have HO182 := n0_; have BK175 := n1_; have BK176 := n2_; have HB := n3_; clear n0_ n1_ n2_ n3_; (try clear hb); (try clear hb2); (try clear hk); (try clear hi); have hcz30_0 : w29.cell? ⟨gb175, 0, none⟩ = some (.slice A0_0 l0_0.length c0_0) := (zP BK175.out 0).trans rfl; have hcz30_1 : w29.cell? ⟨gb175, 1, none⟩ = some (.int .i64 a0_1) := (zP BK175.out 1).trans rfl; have hcz30_2 : w29.cell? ⟨gb175, 2, none⟩ = some (.int .i64 a0_2) := (zP BK175.out 2).trans rfl; have hcz30_3 : w29.cell? ⟨gb175, 3, none⟩ = some (.int .i64 a0_3) := (zP BK175.out 3).trans rfl; have hcz30_4 : w29.cell? ⟨gb175, 4, none⟩ = some (.slice A0_4 l0_4.length c0_4) := (zP BK175.out 4).trans rfl; have hcz30_5 : w29.cell? ⟨gb175, 5, none⟩ = some (.slice A0_5 l0_5.length c0_5) := (zP BK175.out 5).trans rfl; have hfz30_0 := zQ BK175.out 0; have hfz30_1 := zQ BK175.out 1; have hfz30_2 := zQ BK175.out 2; have hfz30_3 := zQ BK175.out 3; have hfz30_4 := zQ BK175.out 4; have hfz30_5 := zQ BK175.out 5; have hcz31_0 : w29.cell? ⟨gb176, 0, none⟩ = some (.int .i64 (l0_4.length : Int)) := (zP BK176.out 0).trans rfl; have hfz31_0 := zQ BK176.out 0) | (go_at_call 56; (with_reducible refine (impl_from.calls a0_3 0 (l0_4.length : Int) t184 _ A20.out).mono ?_); rintro e w' ⟨rfl, ⟨nd, rfl⟩⟩))
              go_meet
              case rel => exact ⟨_, (!t184), (by first | rfl | (simp; done) | (simp [*]; done)), H', ⟨by first | omega | exact Nat.le_refl _⟩, ⟨by (with_reducible repeat (first | refine zL ?_ _ | refine zM ?_ | refine zK ?_ _)); exact BK175.out⟩, ⟨by (with_reducible repeat (first | refine zL ?_ _ | refine zM ?_ | refine zK ?_ _)); exact BK176.out⟩, ⟨by repeat (first | (with_reducible first | exact HB.out | apply zO | apply zA | apply zN | refine zB ?_ GE175.out | refine zB ?_ GE176.out) | exact HB.out)⟩⟩
            · replace c19 := Bool.eq_false_iff.mpr c19
              subst c19
              have H1 : (impl_BothOk.j0 k true l0_0 a0_1 a0_2 a0_3 l0_4 l0_5 (l0_4.length : Int)) = some r := by rw [if_neg (show ¬ (false = true) by decide)] at H; exact H
              clear H
              have H := H1
              clear H1
              have H' := Aside0.mk H
              clear H
              have hnb32 := NB176_175.out
              have hnc32 := NB175_176.out
              have hcz33_0 : w5.cell? ⟨gb176, 0, none⟩ = some (.int .i64 0) := (zP BK176.out 0).trans rfl
              have hfz33_0 := zQ BK176.out 0
              go_wp2_with (first | ((with_reducible refine gate_callee (f := 56) rfl ?_); refine goesL_ (some 10) rfl rfl Try.func56 (by kernel_rfl) rfl #[.int .i64 (l0_4.length : Int), .int .i64 1, .int .i64 6] rfl (by (try simp only [List.map_toArray, List.map_cons, List.map_nil]); first | done | rfl | (simp only [List.length_drop, List.length_take]; rfl)) ?_; (with_reducible refine (impl_from.calls (l0_4.length : Int) 1 6 true _ A8.out).mono ?_); rintro e w' ⟨rfl, ⟨nd, rfl⟩⟩; refine ⟨_, rfl, ?_⟩; have hcz34_0 : w5.cell? ⟨gb175, 0, none⟩ = some (.slice A0_0 l0_0.length c0_0) := (zP BK175.out 0).trans rfl; have hcz34_1 : w5.cell? ⟨gb175, 1, none⟩ = some (.int .i64 a0_1) := (zP BK175.out 1).trans rfl; have hcz34_2 : w5.cell? ⟨gb175, 2, none⟩ = some (.int .i64 a0_2) := (zP BK175.out 2).trans rfl; have hcz34_3 : w5.cell? ⟨gb175, 3, none⟩ = some (.int .i64 a0_3) := (zP BK175.out 3).trans rfl; have hcz34_4 : w5.cell? ⟨gb175, 4, none⟩ = some (.slice A0_4 l0_4.length c0_4) := (zP BK175.out 4).trans rfl; have hcz34_5 : w5.cell? ⟨gb175, 5, none⟩ = some (.slice A0_5 l0_5.length c0_5) := (zP BK175.out 5).trans rfl; have hfz34_0 := zQ BK175.out 0; have hfz34_1 := zQ BK175.out 1; have hfz34_2 := zQ BK175.out 2; have hfz34_3 := zQ BK175.out 3; have hfz34_4 := zQ BK175.out 4; have hfz34_5 := zQ BK175.out 5) | (go_at_call 56; (with_reducible refine (impl_from.calls (l0_0.length : Int) 1 60 true _ A10.out).mono ?_); rintro e w' ⟨rfl, ⟨nd, rfl⟩⟩) | (go_at_call 63; (with_reducible refine (impl_small.calls _ _ l0_0 true _ ?side1 ?side2 A16.out).mono ?_); (case side1 => exact Kd.C_below HR0_0.out (by repeat (first | (with_reducible first | exact HB.out | apply zO | apply zA | apply zN | refine zB ?_ GE175.out | refine zB ?_ GE176.out) | exact HB.out))); (case side2 => exact HC0_0.out); rintro e w35 ⟨rfl, hb⟩; have n0_ := Aside0.mk (zR (g := gb175) (o := .cells #[.slice A0_0 l0_0.length c0_0, .int .i64 a0_1, .int .i64 a0_2, .int .i64 a0_3, .slice A0_4 l0_4.length c0_4, .slice A0_5 l0_5.length c0_5] 30 (0, 0)) (by (with_reducible repeat (first | refine zL ?_ _ | refine zM ?_ | refine zK ?_ _)); refine blk_far ?_ NB175_176.out _; (with_reducible repeat (first | refine zL ?_ _ | refine zM ?_ | refine zK ?_ _)); exact BK175.out) hb); have n1_ := Aside0.mk (zR (g := gb176) (o := .cells #[.int .i64 (l0_4.length : Int)] 3 (0, 0)) (by (with_reducible repeat (first | refine zL ?_ _ | refine zM ?_ | refine zK ?_ _)); refine blk_put (cs := #[.int .i64 0]) ?_ 0 _ rfl; (with_reducible repeat (first | refine zL ?_ _ | refine zM ?_ | refine zK ?_ _)); exact BK176.out) hb); have n2_ := Aside0.mk (zS (by repeat (first | (with_reducible first | exact HB.out | apply zO | apply zA | apply zN | refine zB ?_ GE175.out | refine zB ?_ GE176.out) | exact HB.out)) hb); clear BK175; clear BK176; clear HB; have BK175 := n0_; have BK176 := n1_; have HB := n2_; clear n0_ n1_ n2_; (try clear hb); (try clear hb2); (try clear hk); (try clear hi); have hcz36_0 : w35.cell? ⟨gb175, 0, none⟩ = some (.slice A0_0 l0_0.length c0_0) := (zP BK175.out 0).trans rfl; have hcz36_1 : w35.cell? ⟨gb175, 1, none⟩ = some (.int .i64 a0_1) := (zP BK175.out 1).trans rfl; have hcz36_2 : w35.cell? ⟨gb175, 2, none⟩ = some (.int .i64 a0_2) := (zP BK175.out 2).trans rfl; have hcz36_3 : w35.cell? ⟨gb175, 3, none⟩ = some (.int .i64 a0_3) := (zP BK175.out 3).trans rfl; have hcz36_4 : w35.cell? ⟨gb175, 4, none⟩ = some (.slice A0_4 l0_4.length c0_4) := (zP BK175.out 4).trans rfl; have hcz36_5 : w35.cell? ⟨gb175, 5, none⟩ = some (.slice A0_5 l0_5.length c0_5) := (zP BK175.out 5).trans rfl; have hfz36_0 := zQ BK175.out 0; have hfz36_1 := zQ BK175.out 1; have hfz36_2 := zQ BK175.out 2; have hfz36_3 := zQ BK175.out 3; have hfz36_4 := zQ BK175.out 4; have hfz36_5 := zQ BK175.out 5) | ((with_reducible refine gate_dst (N := 36) rfl ?_); (try (refine gate_guard (by rfl) ?_; dsimp only)); refine Kd.R_lit (Kd.int .i64) _ 3 ?hg (N := 36) ?hd (xs := ([a0_1, a0_2] : List Int)) (inner := [.int .i64 a0_1, .int .i64 a0_2]) (ok := fun _ => True) (okp := fun _ => True) ?hr ?hp (fun _ hk => hk) trivial (Below.refl _ _) (Nat.le_refl _) (by simp) ?_; (case hd => rfl); (case hg => rfl); (case hr => first | (go_simp; done) | (go_simp; rfl)); (case hp => exact (Reps.one (show Kd.M (Kd.int .i64) _ _ _ a0_1 [.int .i64 a0_1] from rfl) (Reps.one (show Kd.M (Kd.int .i64) _ _ _ a0_2 [.int .i64 a0_2] from rfl) (Reps.none _ _)))); intro v181 w37 ho38 hb hg_ hnew_; clear hg_ hnew_; (first | rw [← Ny180.out] at ho38 | (simp only [Int.reduceToNat] at ho38; rw [← Ny180.out] at ho38)); have n0_ := Aside0.mk (Kd.R_lower (Kd.R_newB ho38 (g := gb176) (o := .cells #[.int .i64 (l0_4.length : Int)] 3 (0, 0)) (by (with_reducible repeat (first | refine zL ?_ _ | refine zM ?_ | refine zK ?_ _)); exact BK176.out)) (zT (by repeat (first | (with_reducible first | exact HB.out | apply zO | apply zA | apply zN | refine zB ?_ GE175.out | refine zB ?_ GE176.out) | exact HB.out)))); have n1_ := Aside0.mk (zR (g := gb175) (o := .cells #[.slice A0_0 l0_0.length c0_0, .int .i64 a0_1, .int .i64 a0_2, .int .i64 a0_3, .slice A0_4 l0_4.length c0_4, .slice A0_5 l0_5.length c0_5] 30 (0, 0)) (by (with_reducible repeat (first | refine zL ?_ _ | refine zM ?_ | refine zK ?_ _)); exact BK175.out) hb); have n2_ := Aside0.mk (zR (g := gb176) (o := .cells #[.int .i64 (l0_4.length : Int)] 3 (0, 0)) (by (with_reducible repeat (first | refine zL ?_ _ | refine zM ?_ | refine zK ?_ _)); exact BK176.out) hb); have n3_ := Aside0.mk (zS (by repeat (first | (with_reducible first | exact HB.out | apply zO | apply zA | apply zN | refine zB ?_ GE175.out | refine zB ?_ GE176.out) | exact HB.out)) hb); clear BK175; clear BK176; clear HB; have HO182 := n0_; have BK175 := n1_; have BK176 := n2_; have HB := n3_; clear n0_ n1_ n2_ n3_; clear hb ho38; obtain ⟨Ao39, co39, eo39⟩ := Kd.R_slice HO182.out; subst eo39) | (go_at_call 63; (with_reducible refine (impl_small.calls _ _ y180 false _ ?side1 ?side2 A18.out).mono ?_); (case side1 => repeat (first | exact (zJ HO182.out).2.2 | (with_reducible refine zU ?_ _) | (with_reducible refine zV ?_ _) | (with_reducible refine zW ?_))); (case side2 => exact (zJ HO182.out).2.1); rintro e w40 ⟨rfl, hb⟩; have n0_ := Aside0.mk (zH (by (with_reducible repeat (first | apply zC | apply zD | apply zE)); exact HO182.out) hb); have n1_ := Aside0.mk (zR (g := gb175) (o := .cells #[.slice A0_0 l0_0.length c0_0, .int .i64 a0_1, .int .i64 a0_2, .int .i64 a0_3, .slice A0_4 l0_4.length c0_4, .slice A0_5 l0_5.length c0_5] 30 (0, 0)) (by (with_reducible repeat (first | refine zL ?_ _ | refine zM ?_ | refine zK ?_ _)); exact BK175.out) hb); have n2_ := Aside0.mk (zR (g := gb176) (o := .cells #[.int .i64 (l0_4.length : Int)] 3 (0, 0)) (by (with_reducible repeat (first | refine zL ?_ _ | refine zM ?_ | refine zK ?_ _)); exact BK176.out) hb); have n3_ := Aside0.mk (zS (by repeat (first | (with_reducible first | exact HB.out | apply zO | apply zA | apply zN | refine zB ?_ GE175.out | refine zB ?_ GE176.out) | exact HB.out)) hb); clear HO182; clear BK175; clear BK176; clear HB; have HO182 := n0_; have BK175 := n1_; have BK176 := n2_; have HB := n3_; clear n0_ n1_ n2_ n3_; (try clear hb); (try clear hb2); (try clear hk); (try clear hi)))
              go_meet
              case rel => exact ⟨_, (true), (by first | rfl | (simp; done) | (simp [*]; done)), H', ⟨by first | omega | exact Nat.le_refl _⟩, ⟨by (with_reducible repeat (first | refine zL ?_ _ | refine zM ?_ | refine zK ?_ _)); exact BK175.out⟩, ⟨by (with_reducible repeat (first | refine zL ?_ _ | refine zM ?_ | refine zK ?_ _)); exact BK176.out⟩, ⟨by repeat (first | (with_reducible first | exact HB.out | apply zO | apply zA | apply zN | refine zB ?_ GE175.out | refine zB ?_ GE176.out) | exact HB.out)⟩⟩
          · replace c17 := Bool.eq_false_iff.mpr c17
            subst c17
            have H1 : (impl_BothOk.j0 k true l0_0 a0_1 a0_2 a0_3 l0_4 l0_5 (l0_4.length : Int)) = some r := by rw [if_neg (show ¬ (false = true) by decide)] at H; exact H
            clear H
            have H := H1
            clear H1
            have H' := Aside0.mk H
            clear H
            have hnb41 := NB176_175.out
            have hnc41 := NB175_176.out
            have hcz42_0 : w5.cell? ⟨gb176, 0, none⟩ = some (.int .i64 0) := (zP BK176.out 0).trans rfl
            have hfz42_0 := zQ BK176.out 0
            go_wp2_with (first | ((with_reducible refine gate_callee (f := 56) rfl ?_); refine goesL_ (some 10) rfl rfl Try.func56 (by kernel_rfl) rfl #[.int .i64 (l0_4.length : Int), .int .i64 1, .int .i64 6] rfl (by (try simp only [List.map_toArray, List.map_cons, List.map_nil]); first | done | rfl | (simp only [List.length_drop, List.length_take]; rfl)) ?_; (with_reducible refine (impl_from.calls (l0_4.length : Int) 1 6 true _ A8.out).mono ?_); rintro e w' ⟨rfl, ⟨nd, rfl⟩⟩; refine ⟨_, rfl, ?_⟩; have hcz43_0 : w5.cell? ⟨gb175, 0, none⟩ = some (.slice A0_0 l0_0.length c0_0) := (zP BK175.out 0).trans rfl; have hcz43_1 : w5.cell? ⟨gb175, 1, none⟩ = some (.int .i64 a0_1) := (zP BK175.out 1).trans rfl; have hcz43_2 : w5.cell? ⟨gb175, 2, none⟩ = some (.int .i64 a0_2) := (zP BK175.out 2).trans rfl; have hcz43_3 : w5.cell? ⟨gb175, 3, none⟩ = some (.int .i64 a0_3) := (zP BK175.out 3).trans rfl; have hcz43_4 : w5.cell? ⟨gb175, 4, none⟩ = some (.slice A0_4 l0_4.length c0_4) := (zP BK175.out 4).trans rfl; have hcz43_5 : w5.cell? ⟨gb175, 5, none⟩ = some (.slice A0_5 l0_5.length c0_5) := (zP BK175.out 5).trans rfl; have hfz43_0 := zQ BK175.out 0; have hfz43_1 := zQ BK175.out 1; have hfz43_2 := zQ BK175.out 2; have hfz43_3 := zQ BK175.out 3; have hfz43_4 := zQ BK175.out 4; have hfz43_5 := zQ BK175.out 5) | (go_at_call 56; (with_reducible refine (impl_from.calls (l0_0.length : Int) 1 60 true _ A10.out).mono ?_); rintro e w' ⟨rfl, ⟨nd, rfl⟩⟩) | (go_at_call 63; (with_reducible refine (impl_small.calls _ _ l0_0 false _ ?side1 ?side2 A16.out).mono ?_); (case side1 => exact Kd.C_below HR0_0.out (by repeat (first | (with_reducible first | exact HB.out | apply zO | apply zA | apply zN | refine zB ?_ GE175.out | refine zB ?_ GE176.out) | exact HB.out))); (case side2 => exact HC0_0.out); rintro e w44 ⟨rfl, hb⟩; have n0_ := Aside0.mk (zR (g := gb175) (o := .cells #[.slice A0_0 l0_0.length c0_0, .int .i64 a0_1, .int .i64 a0_2, .int .i64 a0_3, .slice A0_4 l0_4.length c0_4, .slice A0_5 l0_5.length c0_5] 30 (0, 0)) (by (with_reducible repeat (first | refine zL ?_ _ | refine zM ?_ | refine zK ?_ _)); refine blk_far ?_ NB175_176.out _; (with_reducible repeat (first | refine zL ?_ _ | refine zM ?_ | refine zK ?_ _)); exact BK175.out) hb); have n1_ := Aside0.mk (zR (g := gb176) (o := .cells #[.int .i64 (l0_4.length : Int)] 3 (0, 0)) (by (with_reducible repeat (first | refine zL ?_ _ | refine zM ?_ | refine zK ?_ _)); refine blk_put (cs := #[.int .i64 0]) ?_ 0 _ rfl; (with_reducible repeat (first | refine zL ?_ _ | refine zM ?_ | refine zK ?_ _)); exact BK176.out) hb); have n2_ := Aside0.mk (zS (by repeat (first | (with_reducible first | exact HB.out | apply zO | apply zA | apply zN | refine zB ?_ GE175.out | refine zB ?_ GE176.out) | exact HB.out)) hb); clear BK175; clear BK176; clear HB; have BK175 := n0_; have BK176 := n1_; have HB := n2_; clear n0_ n1_ n2_; (try clear hb); (try clear hb2); (try clear hk); (try clear hi)))
            go_meet
            case rel => exact ⟨_, (true), (by first | rfl | (simp; done) | (simp [*]; done)), H', ⟨by first | omega | exact Nat.le_refl _⟩, ⟨by (with_reducible repeat (first | refine zL ?_ _ | refine zM ?_ | refine zK ?_ _)); exact BK175.out⟩, ⟨by (with_reducible repeat (first | refine zL ?_ _ | refine zM ?_ | refine zK ?_ _)); exact BK176.out⟩, ⟨by repeat (first | (with_reducible first | exact HB.out | apply zO | apply zA | apply zN | refine zB ?_ GE175.out | refine zB ?_ GE176.out) | exact HB.out)⟩⟩
      · replace c11 := Bool.eq_false_iff.mpr c11
        subst c11
        have H1 : (impl_BothOk.j0 k true l0_0 a0_1 a0_2 a0_3 l0_4 l0_5 (l0_4.length : Int)) = some r := by rw [if_neg (show ¬ (false = true) by decide)] at H; exact H
        clear H
        have H := H1
        clear H1
        have H' := Aside0.mk H
        clear H
        have hnb45 := NB176_175.out
        have hnc45 := NB175_176.out
        have hcz46_0 : w5.cell? ⟨gb176, 0, none⟩ = some (.int .i64 0) := (zP BK176.out 0).trans rfl
        have hfz46_0 := zQ BK176.out 0
        go_wp2_with (first | ((with_reducible refine gate_callee (f := 56) rfl ?_); refine goesL_ (some 10) rfl rfl Try.func56 (by kernel_rfl) rfl #[.int .i64 (l0_4.length : Int), .int .i64 1, .int .i64 6] rfl (by (try simp only [List.map_toArray, List.map_cons, List.map_nil]); first | done | rfl | (simp only [List.length_drop, List.length_take]; rfl)) ?_; (with_reducible refine (impl_from.calls (l0_4.length : Int) 1 6 true _ A8.out).mono ?_); rintro e w' ⟨rfl, ⟨nd, rfl⟩⟩; refine ⟨_, rfl, ?_⟩; have hcz47_0 : w5.cell? ⟨gb175, 0, none⟩ = some (.slice A0_0 l0_0.length c0_0) := (zP BK175.out 0).trans rfl; have hcz47_1 : w5.cell? ⟨gb175, 1, none⟩ = some (.int .i64 a0_1) := (zP BK175.out 1).trans rfl; have hcz47_2 : w5.cell? ⟨gb175, 2, none⟩ = some (.int .i64 a0_2) := (zP BK175.out 2).trans rfl; have hcz47_3 : w5.cell? ⟨gb175, 3, none⟩ = some (.int .i64 a0_3) := (zP BK175.out 3).trans rfl; have hcz47_4 : w5.cell? ⟨gb175, 4, none⟩ = some (.slice A0_4 l0_4.length c0_4) := (zP BK175.out 4).trans rfl; have hcz47_5 : w5.cell? ⟨gb175, 5, none⟩ = some (.slice A0_5 l0_5.length c0_5) := (zP BK175.out 5).trans rfl; have hfz47_0 := zQ BK175.out 0; have hfz47_1 := zQ BK175.out 1; have hfz47_2 := zQ BK175.out 2; have hfz47_3 := zQ BK175.out 3; have hfz47_4 := zQ BK175.out 4; have hfz47_5 := zQ BK175.out 5) | (go_at_call 56; (with_reducible refine (impl_from.calls (l0_0.length : Int) 1 60 false _ A10.out).mono ?_); rintro e w' ⟨rfl, ⟨nd, rfl⟩⟩))
        go_meet
        case rel => exact ⟨_, (true), (by first | rfl | (simp; done) | (simp [*]; done)), H', ⟨by first | omega | exact Nat.le_refl _⟩, ⟨by (with_reducible repeat (first | refine zL ?_ _ | refine zM ?_ | refine zK ?_ _)); refine blk_far ?_ NB175_176.out _; (with_reducible repeat (first | refine zL ?_ _ | refine zM ?_ | refine zK ?_ _)); exact BK175.out⟩, ⟨by (with_reducible repeat (first | refine zL ?_ _ | refine zM ?_ | refine zK ?_ _)); refine blk_put (cs := #[.int .i64 0]) ?_ 0 _ rfl; (with_reducible repeat (first | refine zL ?_ _ | refine zM ?_ | refine zK ?_ _)); exact BK176.out⟩, ⟨by repeat (first | (with_reducible first | exact HB.out | apply zO | apply zA | apply zN | refine zB ?_ GE175.out | refine zB ?_ GE176.out) | exact HB.out)⟩⟩
    · replace c9 := Bool.eq_false_iff.mpr c9
      subst c9
      have H1 : (impl_BothOk.j0 k true l0_0 a0_1 a0_2 a0_3 l0_4 l0_5 (l0_4.length : Int)) = some r := by rw [if_neg (show ¬ (false = true) by decide)] at H; exact H
      clear H
      have H := H1
      clear H1
      have H' := Aside0.mk H
      clear H
      have hnb48 := NB176_175.out
      have hnc48 := NB175_176.out
      have hcz49_0 : w5.cell? ⟨gb176, 0, none⟩ = some (.int .i64 0) := (zP BK176.out 0).trans rfl
      have hfz49_0 := zQ BK176.out 0
      go_wp2_with (first | ((with_reducible refine gate_callee (f := 56) rfl ?_); refine goesL_ (some 10) rfl rfl Try.func56 (by kernel_rfl) rfl #[.int .i64 (l0_4.length : Int), .int .i64 1, .int .i64 6] rfl (by (try simp only [List.map_toArray, List.map_cons, List.map_nil]); first | done | rfl | (simp only [List.length_drop, List.length_take]; rfl)) ?_; (with_reducible refine (impl_from.calls (l0_4.length : Int) 1 6 false _ A8.out).mono ?_); rintro e w' ⟨rfl, ⟨nd, rfl⟩⟩; refine ⟨_, rfl, ?_⟩))
      go_meet
      case rel => exact ⟨_, (true), (by first | rfl | (simp; done) | (simp [*]; done)), H', ⟨by first | omega | exact Nat.le_refl _⟩, ⟨by (with_reducible repeat (first | refine zL ?_ _ | refine zM ?_ | refine zK ?_ _)); refine blk_far ?_ NB175_176.out _; (with_reducible repeat (first | refine zL ?_ _ | refine zM ?_ | refine zK ?_ _)); exact BK175.out⟩, ⟨by (with_reducible repeat (first | refine zL ?_ _ | refine zM ?_ | refine zK ?_ _)); refine blk_put (cs := #[.int .i64 0]) ?_ 0 _ rfl; (with_reducible repeat (first | refine zL ?_ _ | refine zM ?_ | refine zK ?_ _)); exact BK176.out⟩, ⟨by repeat (first | (with_reducible first | exact HB.out | apply zO | apply zA | apply zN | refine zB ?_ GE175.out | refine zB ?_ GE176.out) | exact HB.out)⟩⟩
  case rest =>
    clear HC2
    try clear c1
    try clear c2
    try clear p2
    try clear c3
    try clear c4
    try clear c5
    try clear c6
    try clear c9
    try clear c11
    try clear c12
    try clear c12b0
    try clear c12b1
    try clear c13
    try clear c17
    try clear c19
    try clear c21
    try clear c26
    try clear c32
    try clear c41
    try clear c45
    try clear c48
    try clear hcz14_0
    try clear hcz15_0
    try clear hcz15_1
    try clear hcz15_2
    try clear hcz15_3
    try clear hcz15_4
    try clear hcz15_5
    try clear hcz22_0
    try clear hcz23_0
    try clear hcz23_1
    try clear hcz23_2
    try clear hcz23_3
    try clear hcz23_4
    try clear hcz23_5
    try clear hcz25_0
    try clear hcz25_1
    try clear hcz25_2
    try clear hcz25_3
    try clear hcz25_4
    try clear hcz25_5
    try clear hcz30_0
    try clear hcz30_1
    try clear hcz30_2
    try clear hcz30_3
    try clear hcz30_4
    try clear hcz30_5
    try clear hcz31_0
    try clear hcz33_0
    try clear hcz34_0
    try clear hcz34_1
    try clear hcz34_2
    try clear hcz34_3
    try clear hcz34_4
    try clear hcz34_5
    try clear hcz36_0
    try clear hcz36_1
    try clear hcz36_2
    try clear hcz36_3
    try clear hcz36_4
    try clear hcz36_5
    try clear hcz42_0
    try clear hcz43_0
    try clear hcz43_1
    try clear hcz43_2
    try clear hcz43_3
    try clear hcz43_4
    try clear hcz43_5
    try clear hcz46_0
    try clear hcz47_0
    try clear hcz47_1
    try clear hcz47_2
    try clear hcz47_3
    try clear hcz47_4
    try clear hcz47_5
    try clear hcz49_0
    try clear hcz4_0
    try clear hcz4_1
    try clear hcz4_2
    try clear hcz4_3
    try clear hcz4_4
    try clear hcz4_5
    try clear hcz7_0
    try clear hfz14_0
    try clear hfz15_0
    try clear hfz15_1
    try clear hfz15_2
    try clear hfz15_3
    try clear hfz15_4
    try clear hfz15_5
    try clear hfz22_0
    try clear hfz23_0
    try clear hfz23_1
    try clear hfz23_2
    try clear hfz23_3
    try clear hfz23_4
    try clear hfz23_5
    try clear hfz25_0
    try clear hfz25_1
    try clear hfz25_2
    try clear hfz25_3
    try clear hfz25_4
    try clear hfz25_5
    try clear hfz30_0
    try clear hfz30_1
    try clear hfz30_2
    try clear hfz30_3
    try clear hfz30_4
    try clear hfz30_5
    try clear hfz31_0
    try clear hfz33_0
    try clear hfz34_0
    try clear hfz34_1
    try clear hfz34_2
    try clear hfz34_3
    try clear hfz34_4
    try clear hfz34_5
    try clear hfz36_0
    try clear hfz36_1
    try clear hfz36_2
    try clear hfz36_3
    try clear hfz36_4
    try clear hfz36_5
    try clear hfz42_0
    try clear hfz43_0
    try clear hfz43_1
    try clear hfz43_2
    try clear hfz43_3
    try clear hfz43_4
    try clear hfz43_5
    try clear hfz46_0
    try clear hfz47_0
    try clear hfz47_1
    try clear hfz47_2
    try clear hfz47_3
    try clear hfz47_4
    try clear hfz47_5
    try clear hfz49_0
    try clear hfz4_0
    try clear hfz4_1
    try clear hfz4_2
    try clear hfz4_3
    try clear hfz4_4
    try clear hfz4_5
    try clear hfz7_0
    obtain ⟨kq, x46_1, rfl, HA, HJ1, BK175, BK176, HB⟩ := hcut
    cases kq with
    | zero => exact absurd HA.out (by simp [impl_BothOk.j0])
    | succ kj1 =>
      have H := HA.out
      clear HA
      simp only [impl_BothOk.j0] at H
      by_cases c50 : x46_1 = true
      · subst c50
        have H1 : (some false) = some r := by rw [if_pos rfl] at H; exact H
        clear H
        have H := H1
        clear H1
        obtain rfl := Option.some.inj H
        go_wp2
        go_ret
        exact ⟨by first | rfl | (simp [errW_none, errW_some] <;> rfl) | (simp [*, errW_none, errW_some] <;> rfl), by repeat (first | (with_reducible first | exact HB.out | apply zO | apply zA | apply zN | refine zB ?_ GE175.out | refine zB ?_ GE176.out) | exact HB.out)⟩
      · replace c50 := Bool.eq_false_iff.mpr c50
        subst c50
        have H1 : ((impl_BothOk_1.f l0_5 (l0_4.length : Int)).bind fun t185 => (if t185 = true then (some false) else (impl_BothOk.l0 kj1 (l0_4.length : Int) 0 l0_0 a0_1 a0_2 a0_3 l0_4 l0_5))) = some r := by rw [if_neg (show ¬ (false = true) by decide)] at H; exact H
        clear H
        have H := H1
        clear H1
        replace H := Option.bind_eq_some_iff.mp H
        obtain ⟨t185, A510, H⟩ := H
        replace H : (if t185 = true then (some false) else (impl_BothOk.l0 kj1 (l0_4.length : Int) 0 l0_0 a0_1 a0_2 a0_3 l0_4 l0_5)) = some r := H
        have A51 := Aside0.mk A510
        clear A510
        by_cases c52 : t185 = true
        · subst c52
          have H1 : (some false) = some r := by rw [if_pos rfl] at H; exact H
          clear H
          have H := H1
          clear H1
          obtain rfl := Option.some.inj H
          have hnb53 := NB175_176.out
          have hnc53 := NB176_175.out
          have hcz54_0 : wc.cell? ⟨gb175, 0, none⟩ = some (.slice A0_0 l0_0.length c0_0) := (zP BK175.out 0).trans rfl
          have hcz54_1 : wc.cell? ⟨gb175, 1, none⟩ = some (.int .i64 a0_1) := (zP BK175.out 1).trans rfl
          have hcz54_2 : wc.cell? ⟨gb175, 2, none⟩ = some (.int .i64 a0_2) := (zP BK175.out 2).trans rfl
          have hcz54_3 : wc.cell? ⟨gb175, 3, none⟩ = some (.int .i64 a0_3) := (zP BK175.out 3).trans rfl
          have hcz54_4 : wc.cell? ⟨gb175, 4, none⟩ = some (.slice A0_4 l0_4.length c0_4) := (zP BK175.out 4).trans rfl
          have hcz54_5 : wc.cell? ⟨gb175, 5, none⟩ = some (.slice A0_5 l0_5.length c0_5) := (zP BK175.out 5).trans rfl
          have hfz54_0 := zQ BK175.out 0
          have hfz54_1 := zQ BK175.out 1
          have hfz54_2 := zQ BK175.out 2
          have hfz54_3 := zQ BK175.out 3
          have hfz54_4 := zQ BK175.out 4
          have hfz54_5 := zQ BK175.out 5
          go_wp2_with (first | (go_at_call 64; (with_reducible refine (impl_BothOk_1.calls _ _ l0_5 (l0_4.length : Int) true _ ?side1 ?side2 ?side3 A51.out).mono ?_); (case side1 => repeat (first | exact (Kd.C_below HR0_5.out HB.out) | (with_reducible refine zU ?_ _) | (with_reducible refine zV ?_ _) | (with_reducible refine zW ?_))); (case side2 => exact HC0_5.out); (case side3 => exact (by (with_reducible repeat (first | refine zL ?_ _ | refine zM ?_ | refine zK ?_ _)); exact BK176.out)); rintro e w55 ⟨rfl, hb⟩; have n0_ := Aside0.mk (zR (g := gb175) (o := .cells #[.slice A0_0 l0_0.length c0_0, .int .i64 a0_1, .int .i64 a0_2, .int .i64 a0_3, .slice A0_4 l0_4.length c0_4, .slice A0_5 l0_5.length c0_5] 30 (0, 0)) (by (with_reducible repeat (first | refine zL ?_ _ | refine zM ?_ | refine zK ?_ _)); exact BK175.out) hb); have n1_ := Aside0.mk (zR (g := gb176) (o := .cells #[.int .i64 (l0_4.length : Int)] 3 (0, 0)) (by (with_reducible repeat (first | refine zL ?_ _ | refine zM ?_ | refine zK ?_ _)); exact BK176.out) hb); have n2_ := Aside0.mk (zS (by repeat (first | (with_reducible first | exact HB.out | apply zO | apply zA | apply zN | refine zB ?_ GE175.out | refine zB ?_ GE176.out) | exact HB.out)) hb); clear BK175; clear BK176; clear HB; have BK175 := n0_; have BK176 := n1_; have HB := n2_; clear n0_ n1_ n2_; (try clear hb); (try clear hb2); (try clear hk); (try clear hi)))
          go_ret
          exact ⟨by first | rfl | (simp [errW_none, errW_some] <;> rfl) | (simp [*, errW_none, errW_some] <;> rfl), by repeat (first | (with_reducible first | exact HB.out | apply zO | apply zA | apply zN | refine zB ?_ GE175.out | refine zB ?_ GE176.out) | exact HB.out)⟩
        · replace c52 := Bool.eq_false_iff.mpr c52
          subst c52
          have H1 : (impl_BothOk.l0 kj1 (l0_4.length : Int) 0 l0_0 a0_1 a0_2 a0_3 l0_4 l0_5) = some r := by rw [if_neg (show ¬ (false = true) by decide)] at H; exact H
          clear H
          have H := H1
          clear H1
          have H' := Aside0.mk H
          clear H
          have hnb56 := NB175_176.out
          have hnc56 := NB176_175.out
          have hcz57_0 : wc.cell? ⟨gb175, 0, none⟩ = some (.slice A0_0 l0_0.length c0_0) := (zP BK175.out 0).trans rfl
          have hcz57_1 : wc.cell? ⟨gb175, 1, none⟩ = some (.int .i64 a0_1) := (zP BK175.out 1).trans rfl
          have hcz57_2 : wc.cell? ⟨gb175, 2, none⟩ = some (.int .i64 a0_2) := (zP BK175.out 2).trans rfl
          have hcz57_3 : wc.cell? ⟨gb175, 3, none⟩ = some (.int .i64 a0_3) := (zP BK175.out 3).trans rfl
          have hcz57_4 : wc.cell? ⟨gb175, 4, none⟩ = some (.slice A0_4 l0_4.length c0_4) := (zP BK175.out 4).trans rfl
          have hcz57_5 : wc.cell? ⟨gb175, 5, none⟩ = some (.slice A0_5 l0_5.length c0_5) := (zP BK175.out 5).trans rfl
          have hfz57_0 := zQ BK175.out 0
          have hfz57_1 := zQ BK175.out 1
          have hfz57_2 := zQ BK175.out 2
          have hfz57_3 := zQ BK175.out 3
          have hfz57_4 := zQ BK175.out 4
          have hfz57_5 := zQ BK175.out 5
          go_wp2_with (first | (go_at_call 64; (with_reducible refine (impl_BothOk_1.calls _ _ l0_5 (l0_4.length : Int) false _ ?side1 ?side2 ?side3 A51.out).mono ?_); (case side1 => repeat (first | exact (Kd.C_below HR0_5.out HB.out) | (with_reducible refine zU ?_ _) | (with_reducible refine zV ?_ _) | (with_reducible refine zW ?_))); (case side2 => exact HC0_5.out); (case side3 => exact (by (with_reducible repeat (first | refine zL ?_ _ | refine zM ?_ | refine zK ?_ _)); exact BK176.out)); rintro e w58 ⟨rfl, hb⟩; have n0_ := Aside0.mk (zR (g := gb175) (o := .cells #[.slice A0_0 l0_0.length c0_0, .int .i64 a0_1, .int .i64 a0_2, .int .i64 a0_3, .slice A0_4 l0_4.length c0_4, .slice A0_5 l0_5.length c0_5] 30 (0, 0)) (by (with_reducible repeat (first | refine zL ?_ _ | refine zM ?_ | refine zK ?_ _)); exact BK175.out) hb); have n1_ := Aside0.mk (zR (g := gb176) (o := .cells #[.int .i64 (l0_4.length : Int)] 3 (0, 0)) (by (with_reducible repeat (first | refine zL ?_ _ | refine zM ?_ | refine zK ?_ _)); exact BK176.out) hb); have n2_ := Aside0.mk (zS (by repeat (first | (with_reducible first | exact HB.out | apply zO | apply zA | apply zN | refine zB ?_ GE175.out | refine zB ?_ GE176.out) | exact HB.out)) hb); clear BK175; clear BK176; clear HB; have BK175 := n0_; have BK176 := n1_; have HB := n2_; clear n0_ n1_ n2_; (try clear hb); (try clear hb2); (try clear hk); (try clear hi); have hcz59_0 : w58.cell? ⟨gb175, 0, none⟩ = some (.slice A0_0 l0_0.length c0_0) := (zP BK175.out 0).trans rfl; have hcz59_1 : w58.cell? ⟨gb175, 1, none⟩ = some (.int .i64 a0_1) := (zP BK175.out 1).trans rfl; have hcz59_2 : w58.cell? ⟨gb175, 2, none⟩ = some (.int .i64 a0_2) := (zP BK175.out 2).trans rfl; have hcz59_3 : w58.cell? ⟨gb175, 3, none⟩ = some (.int .i64 a0_3) := (zP BK175.out 3).trans rfl; have hcz59_4 : w58.cell? ⟨gb175, 4, none⟩ = some (.slice A0_4 l0_4.length c0_4) := (zP BK175.out 4).trans rfl; have hcz59_5 : w58.cell? ⟨gb175, 5, none⟩ = some (.slice A0_5 l0_5.length c0_5) := (zP BK175.out 5).trans rfl; have hfz59_0 := zQ BK175.out 0; have hfz59_1 := zQ BK175.out 1; have hfz59_2 := zQ BK175.out 2; have hfz59_3 := zQ BK175.out 3; have hfz59_4 := zQ BK175.out 4; have hfz59_5 := zQ BK175.out 5))
          go_loopg [54] kj1 (fun kq v54 w' => ∃ (x54_2 : Int), v54 = .int .i64 x54_2 ∧ Aside0 (impl_BothOk.l0 kq (l0_4.length : Int) x54_2 l0_0 a0_1 a0_2 a0_3 l0_4 l0_5 = some r) ∧ Aside0 (kq ≤ kj1) ∧ Aside0 (w'.heap[gb175]? = some (.cells #[(.slice A0_0 l0_0.length c0_0), .int .i64 a0_1, .int .i64 a0_2, .int .i64 a0_3, (.slice A0_4 l0_4.length c0_4), (.slice A0_5 l0_5.length c0_5)] 30 (0, 0))) ∧ Aside0 (w'.heap[gb176]? = some (.cells #[.int .i64 (l0_4.length : Int)] 3 (0, 0))) ∧ Aside0 (Below w.heap.size w w'))
          case atStart => exact ⟨(0), (by first | rfl | (simp; done) | (simp [*]; done)), H', ⟨Nat.le_refl _⟩, ⟨by (with_reducible repeat (first | refine zL ?_ _ | refine zM ?_ | refine zK ?_ _)); exact BK175.out⟩, ⟨by (with_reducible repeat (first | refine zL ?_ _ | refine zM ?_ | refine zK ?_ _)); exact BK176.out⟩, ⟨by repeat (first | (with_reducible first | exact HB.out | apply zO | apply zA | apply zN | refine zB ?_ GE175.out | refine zB ?_ GE176.out) | exact HB.out)⟩⟩
          case round =>
            clear H'
            try clear c1
            try clear c2
            try clear p2
            try clear c3
            try clear c4
            try clear c5
            try clear c6
            try clear c9
            try clear c11
            try clear c12
            try clear c12b0
            try clear c12b1
            try clear c13
            try clear c17
            try clear c19
            try clear c21
            try clear c26
            try clear c32
            try clear c41
            try clear c45
            try clear c48
            try clear c50
            try clear c52
            try clear c53
            try clear c56
            try clear hcz14_0
            try clear hcz15_0
            try clear hcz15_1
            try clear hcz15_2
            try clear hcz15_3
            try clear hcz15_4
            try clear hcz15_5
            try clear hcz22_0
            try clear hcz23_0
            try clear hcz23_1
            try clear hcz23_2
            try clear hcz23_3
            try clear hcz23_4
            try clear hcz23_5
            try clear hcz25_0
            try clear hcz25_1
            try clear hcz25_2
            try clear hcz25_3
            try clear hcz25_4
            try clear hcz25_5
            try clear hcz30_0
            try clear hcz30_1
            try clear hcz30_2
            try clear hcz30_3
            try clear hcz30_4
            try clear hcz30_5
            try clear hcz31_0
            try clear hcz33_0
            try clear hcz34_0
            try clear hcz34_1
            try clear hcz34_2
            try clear hcz34_3
            try clear hcz34_4
            try clear hcz34_5
            try clear hcz36_0
            try clear hcz36_1
            try clear hcz36_2
            try clear hcz36_3
            try clear hcz36_4
            try clear hcz36_5
            try clear hcz42_0
            try clear hcz43_0
            try clear hcz43_1
            try clear hcz43_2
            try clear hcz43_3
            try clear hcz43_4
            try clear hcz43_5
            try clear hcz46_0
            try clear hcz47_0
            try clear hcz47_1
            try clear hcz47_2
            try clear hcz47_3
            try clear hcz47_4
            try clear hcz47_5
            try clear hcz49_0
            try clear hcz4_0
            try clear hcz4_1
            try clear hcz4_2
            try clear hcz4_3
            try clear hcz4_4
            try clear hcz4_5
            try clear hcz54_0
            try clear hcz54_1
            try clear hcz54_2
            try clear hcz54_3
            try clear hcz54_4
            try clear hcz54_5
            try clear hcz57_0
            try clear hcz57_1
            try clear hcz57_2
            try clear hcz57_3
            try clear hcz57_4
            try clear hcz57_5
            try clear hcz59_0
            try clear hcz59_1
            try clear hcz59_2
            try clear hcz59_3
            try clear hcz59_4
            try clear hcz59_5
            try clear hcz7_0
            try clear hfz14_0
            try clear hfz15_0
            try clear hfz15_1
            try clear hfz15_2
            try clear hfz15_3
            try clear hfz15_4
            try clear hfz15_5
            try clear hfz22_0
            try clear hfz23_0
            try clear hfz23_1
            try clear hfz23_2
            try clear hfz23_3
            try clear hfz23_4
            try clear hfz23_5
            try clear hfz25_0
            try clear hfz25_1
            try clear hfz25_2
            try clear hfz25_3
            try clear hfz25_4
            try clear hfz25_5
            try clear hfz30_0
            try clear hfz30_1
            try clear hfz30_2
            try clear hfz30_3
            try clear hfz30_4
            try clear hfz30_5
            try clear hfz31_0
            try clear hfz33_0
            try clear hfz34_0
            try clear hfz34_1
            try clear hfz34_2
            try clear hfz34_3
            try clear hfz34_4
            try clear hfz34_5
            try clear hfz36_0
            try clear hfz36_1
            try clear hfz36_2
            try clear hfz36_3
            try clear hfz36_4
            try clear hfz36_5
            try clear hfz42_0
            try clear hfz43_0
            try clear hfz43_1
            try clear hfz43_2
            try clear hfz43_3
            try clear hfz43_4
            try clear hfz43_5
            try clear hfz46_0
            try clear hfz47_0
            try clear hfz47_1
            try clear hfz47_2
            try clear hfz47_3
            try clear hfz47_4
            try clear hfz47_5
            try clear hfz49_0
            try clear hfz4_0
            try clear hfz4_1
            try clear hfz4_2
            try clear hfz4_3
            try clear hfz4_4
            try clear hfz4_5
            try clear hfz54_0
            try clear hfz54_1
            try clear hfz54_2
            try clear hfz54_3
            try clear hfz54_4
            try clear hfz54_5
            try clear hfz57_0
            try clear hfz57_1
            try clear hfz57_2
            try clear hfz57_3
            try clear hfz57_4
            try clear hfz57_5
            try clear hfz59_0
            try clear hfz59_1
            try clear hfz59_2
            try clear hfz59_3
            try clear hfz59_4
            try clear hfz59_5
            try clear hfz7_0
            try clear p2
            obtain ⟨x54_2, rfl, HA, HK2, BK175, BK176, HB⟩ := hrel
            cases gk with
            | zero => exact absurd HA.out (by simp [impl_BothOk.l0])
            | succ k2 =>
              have H := HA.out
              clear HA
              simp only [impl_BothOk.l0] at H
              by_cases c60 : x54_2 < (l0_4.length : Int)
              · rw [if_pos c60] at H
                have c60b0 : decide (x54_2 < (l0_4.length : Int)) = true := decide_eq_true c60
                clear c60
                replace H := Option.bind_eq_some_iff.mp H
                obtain ⟨t186, A610, H⟩ := H
                replace H : (if t186 = true then (impl_BothOk.l0 k2 (l0_4.length : Int) (wrap64 (x54_2 + 1)) l0_0 a0_1 a0_2 a0_3 l0_4 l0_5) else (some false)) = some r := H
                have A61 := Aside0.mk A610
                clear A610
                by_cases c62 : t186 = true
                · subst c62
                  have H1 : (impl_BothOk.l0 k2 (l0_4.length : Int) (wrap64 (x54_2 + 1)) l0_0 a0_1 a0_2 a0_3 l0_4 l0_5) = some r := by rw [if_pos rfl] at H; exact H
                  clear H
                  have H := H1
                  clear H1
                  have H' := Aside0.mk H
                  clear H
                  have hnb63 := NB175_176.out
                  have hnc63 := NB176_175.out
                  have hcz64_0 : wr.cell? ⟨gb175, 0, none⟩ = some (.slice A0_0 l0_0.length c0_0) := (zP BK175.out 0).trans rfl
                  have hcz64_1 : wr.cell? ⟨gb175, 1, none⟩ = some (.int .i64 a0_1) := (zP BK175.out 1).trans rfl
                  have hcz64_2 : wr.cell? ⟨gb175, 2, none⟩ = some (.int .i64 a0_2) := (zP BK175.out 2).trans rfl
                  have hcz64_3 : wr.cell? ⟨gb175, 3, none⟩ = some (.int .i64 a0_3) := (zP BK175.out 3).trans rfl
                  have hcz64_4 : wr.cell? ⟨gb175, 4, none⟩ = some (.slice A0_4 l0_4.length c0_4) := (zP BK175.out 4).trans rfl
                  have hcz64_5 : wr.cell? ⟨gb175, 5, none⟩ = some (.slice A0_5 l0_5.length c0_5) := (zP BK175.out 5).trans rfl
                  have hfz64_0 := zQ BK175.out 0
                  have hfz64_1 := zQ BK175.out 1
                  have hfz64_2 := zQ BK175.out 2
                  have hfz64_3 := zQ BK175.out 3
                  have hfz64_4 := zQ BK175.out 4
                  have hfz64_5 := zQ BK175.out 5
                  go_wp2_with (first | ((with_reducible refine gate_callee (f := 66) rfl ?_); refine goesL_ (some 59) rfl rfl Try.func66 (by kernel_rfl) rfl #[.agg #[.slice A0_0 l0_0.length c0_0, .int .i64 a0_1, .int .i64 a0_2, .int .i64 a0_3, .slice A0_4 l0_4.length c0_4, .slice A0_5 l0_5.length c0_5], .int .i64 x54_2] rfl (by (try simp only [List.map_toArray, List.map_cons, List.map_nil]); first | done | rfl | (simp only [List.length_drop, List.length_take]; rfl)) ?_; (with_reducible refine (impl_wantOk.calls k2 _ _ l0_0 a0_1 a0_2 a0_3 _ _ l0_4 _ _ l0_5 x54_2 true _ ?side1 ?side2 ?side3 ?side4 ?side5 ?side6 A61.out).mono ?_); (case side1 => repeat (first | exact (Kd.C_below HR0_0.out HB.out) | (with_reducible refine zU ?_ _) | (with_reducible refine zV ?_ _) | (with_reducible refine zW ?_))); (case side2 => exact HC0_0.out); (case side3 => repeat (first | exact (Kd.C_below HR0_4.out HB.out) | (with_reducible refine zU ?_ _) | (with_reducible refine zV ?_ _) | (with_reducible refine zW ?_))); (case side4 => exact HC0_4.out); (case side5 => repeat (first | exact (Kd.C_below HR0_5.out HB.out) | (with_reducible refine zU ?_ _) | (with_reducible refine zV ?_ _) | (with_reducible refine zW ?_))); (case side6 => exact HC0_5.out); rintro e w65 ⟨rfl, hb⟩; refine ⟨_, rfl, ?_⟩; have n0_ := Aside0.mk (zR (g := gb175) (o := .cells #[.slice A0_0 l0_0.length c0_0, .int .i64 a0_1, .int .i64 a0_2, .int .i64 a0_3, .slice A0_4 l0_4.length c0_4, .slice A0_5 l0_5.length c0_5] 30 (0, 0)) (by (with_reducible repeat (first | refine zL ?_ _ | refine zM ?_ | refine zK ?_ _)); exact BK175.out) hb); have n1_ := Aside0.mk (zR (g := gb176) (o := .cells #[.int .i64 (l0_4.length : Int)] 3 (0, 0)) (by (with_reducible repeat (first | refine zL ?_ _ | refine zM ?_ | refine zK ?_ _)); exact BK176.out) hb); have n2_ := Aside0.mk (zS (by repeat (first | (with_reducible first | exact HB.out | apply zO | apply zA | apply zN | refine zB ?_ GE175.out | refine zB ?_ GE176.out) | exact HB.out)) hb); clear BK175; clear BK176; clear HB; have BK175 := n0_; have BK176 := n1_; have HB := n2_; clear n0_ n1_ n2_; (try clear hb); (try clear hb2); (try clear hk); (try clear hi)))
                  go_roundg k2
                  case measure => have := HJ1.out; have := HK2.out; omega
                  case rel => exact ⟨(wrap64 (x54_2 + 1)), (by first | rfl | (simp; done) | (simp [*]; done)), H', ⟨by have := HJ1.out; have := HK2.out; omega⟩, ⟨by (with_reducible repeat (first | refine zL ?_ _ | refine zM ?_ | refine zK ?_ _)); exact BK175.out⟩, ⟨by (with_reducible repeat (first | refine zL ?_ _ | refine zM ?_ | refine zK ?_ _)); exact BK176.out⟩, ⟨by repeat (first | (with_reducible first | exact HB.out | apply zO | apply zA | apply zN | refine zB ?_ GE175.out | refine zB ?_ GE176.out) | exact HB.out)⟩⟩
                · replace c62 := Bool.eq_false_iff.mpr c62
                  subst c62
                  have H1 : (some false) = some r := by rw [if_neg (show ¬ (false = true) by decide)] at H; exact H
                  clear H
                  have H := H1
                  clear H1
                  obtain rfl := Option.some.inj H
                  have hnb66 := NB175_176.out
                  have hnc66 := NB176_175.out
                  have hcz67_0 : wr.cell? ⟨gb175, 0, none⟩ = some (.slice A0_0 l0_0.length c0_0) := (zP BK175.out 0).trans rfl
                  have hcz67_1 : wr.cell? ⟨gb175, 1, none⟩ = some (.int .i64 a0_1) := (zP BK175.out 1).trans rfl
                  have hcz67_2 : wr.cell? ⟨gb175, 2, none⟩ = some (.int .i64 a0_2) := (zP BK175.out 2).trans rfl
                  have hcz67_3 : wr.cell? ⟨gb175, 3, none⟩ = some (.int .i64 a0_3) := (zP BK175.out 3).trans rfl
                  have hcz67_4 : wr.cell? ⟨gb175, 4, none⟩ = some (.slice A0_4 l0_4.length c0_4) := (zP BK175.out 4).trans rfl
                  have hcz67_5 : wr.cell? ⟨gb175, 5, none⟩ = some (.slice A0_5 l0_5.length c0_5) := (zP BK175.out 5).trans rfl
                  have hfz67_0 := zQ BK175.out 0
                  have hfz67_1 := zQ BK175.out 1
                  have hfz67_2 := zQ BK175.out 2
                  have hfz67_3 := zQ BK175.out 3
                  have hfz67_4 := zQ BK175.out 4
                  have hfz67_5 := zQ BK175.out 5
                  go_wp2_with (first | ((with_reducible refine gate_callee (f := 66) rfl ?_); refine goesL_ (some 59) rfl rfl Try.func66 (by kernel_rfl) rfl #[.agg #[.slice A0_0 l0_0.length c0_0, .int .i64 a0_1, .int .i64 a0_2, .int .i64 a0_3, .slice A0_4 l0_4.length c0_4, .slice A0_5 l0_5.length c0_5], .int .i64 x54_2] rfl (by (try simp only [List.map_toArray, List.map_cons, List.map_nil]); first | done | rfl | (simp only [List.length_drop, List.length_take]; rfl)) ?_; (with_reducible refine (impl_wantOk.calls k2 _ _ l0_0 a0_1 a0_2 a0_3 _ _ l0_4 _ _ l0_5 x54_2 false _ ?side1 ?side2 ?side3 ?side4 ?side5 ?side6 A61.out).mono ?_); (case side1 => repeat (first | exact (Kd.C_below HR0_0.out HB.out) | (with_reducible refine zU ?_ _) | (with_reducible refine zV ?_ _) | (with_reducible refine zW ?_))); (case side2 => exact HC0_0.out); (case side3 => repeat (first | exact (Kd.C_below HR0_4.out HB.out) | (with_reducible refine zU ?_ _) | (with_reducible refine zV ?_ _) | (with_reducible refine zW ?_))); (case side4 => exact HC0_4.out); (case side5 => repeat (first | exact (Kd.C_below HR0_5.out HB.out) | (with_reducible refine zU ?_ _) | (with_reducible refine zV ?_ _) | (with_reducible refine zW ?_))); (case side6 => exact HC0_5.out); rintro e w68 ⟨rfl, hb⟩; refine ⟨_, rfl, ?_⟩; have n0_ := Aside0.mk (zR (g := gb175) (o := .cells #[.slice A0_0 l0_0.length c0_0, .int .i64 a0_1, .int .i64 a0_2, .int .i64 a0_3, .slice A0_4 l0_4.length c0_4, .slice A0_5 l0_5.length c0_5] 30 (0, 0)) (by (with_reducible repeat (first | refine zL ?_ _ | refine zM ?_ | refine zK ?_ _)); exact BK175.out) hb); have n1_ := Aside0.mk (zR (g := gb176) (o := .cells #[.int .i64 (l0_4.length : Int)] 3 (0, 0)) (by (with_reducible repeat (first | refine zL ?_ _ | refine zM ?_ | refine zK ?_ _)); exact BK176.out) hb); have n2_ := Aside0.mk (zS (by repeat (first | (with_reducible first | exact HB.out | apply zO | apply zA | apply zN | refine zB ?_ GE175.out | refine zB ?_ GE176.out) | exact HB.out)) hb); clear BK175; clear BK176; clear HB; have BK175 := n0_; have BK176 := n1_; have HB := n2_; clear n0_ n1_ n2_; (try clear hb); (try clear hb2); (try clear hk); (try clear hi)))
                  go_ret
                  exact ⟨by first | rfl | (simp [errW_none, errW_some] <;> rfl) | (simp [*, errW_none, errW_some] <;> rfl), by repeat (first | (with_reducible first | exact HB.out | apply zO | apply zA | apply zN | refine zB ?_ GE175.out | refine zB ?_ GE176.out) | exact HB.out)⟩
              · rw [if_neg c60] at H
                have c60b0 : decide (x54_2 < (l0_4.length : Int)) = false := decide_eq_false c60
                clear c60
                by_cases c69 : a0_3 = 0
                · rw [if_pos c69] at H
                  have c69b0 : (a0_3 == 0) = true := beq_iff_eq.mpr c69
                  have c69b1 : (a0_3 != 0) = false := bne_eq_false_iff_eq.mpr c69
                  clear c69
                  obtain rfl := Option.some.inj H
                  have hnb70 := NB175_176.out
                  have hnc70 := NB176_175.out
                  have hcz71_0 : wr.cell? ⟨gb175, 0, none⟩ = some (.slice A0_0 l0_0.length c0_0) := (zP BK175.out 0).trans rfl
                  have hcz71_1 : wr.cell? ⟨gb175, 1, none⟩ = some (.int .i64 a0_1) := (zP BK175.out 1).trans rfl
                  have hcz71_2 : wr.cell? ⟨gb175, 2, none⟩ = some (.int .i64 a0_2) := (zP BK175.out 2).trans rfl
                  have hcz71_3 : wr.cell? ⟨gb175, 3, none⟩ = some (.int .i64 a0_3) := (zP BK175.out 3).trans rfl
                  have hcz71_4 : wr.cell? ⟨gb175, 4, none⟩ = some (.slice A0_4 l0_4.length c0_4) := (zP BK175.out 4).trans rfl
                  have hcz71_5 : wr.cell? ⟨gb175, 5, none⟩ = some (.slice A0_5 l0_5.length c0_5) := (zP BK175.out 5).trans rfl
                  have hfz71_0 := zQ BK175.out 0
                  have hfz71_1 := zQ BK175.out 1
                  have hfz71_2 := zQ BK175.out 2
                  have hfz71_3 := zQ BK175.out 3
                  have hfz71_4 := zQ BK175.out 4
                  have hfz71_5 := zQ BK175.out 5
                  go_wp2
                  go_ret
                  exact ⟨by first | rfl | (simp [errW_none, errW_some] <;> rfl) | (simp [*, errW_none, errW_some] <;> rfl), by repeat (first | (with_reducible first | exact HB.out | apply zO | apply zA | apply zN | refine zB ?_ GE175.out | refine zB ?_ GE176.out) | exact HB.out)⟩
                · rw [if_neg c69] at H
                  have c69b0 : (a0_3 == 0) = false := beq_eq_false_iff_ne.mpr c69
                  have c69b1 : (a0_3 != 0) = true := bne_iff_ne.mpr c69
                  obtain ⟨ji72, hji72⟩ : ∃ j_ : Int, (wrap64 (a0_3 - 1)) = j_ := ⟨_, rfl⟩
                  replace H : (if 0 ≤ (ji72) then (if (ji72) < (l0_4.length : Int) then (if ((rd_T40 l0_4 (ji72)).f3) = 2 then (some (a0_1 == ((rd_T40 l0_4 (ji72)).f1))) else (if ((rd_T40 l0_4 (ji72)).f3) = 3 then (some (a0_1 == ((rd_T40 l0_4 (ji72)).f1))) else (some false))) else (none)) else (none)) = some r := by first | (rw [hji72] at H; exact H) | (simp only [hji72] at H ⊢; exact H)
                  have hji72w : (IntKind.i64.wrap (a0_3 - 1)) = ji72 := (i64_w _).trans hji72
                  by_cases c73 : 0 ≤ (ji72)
                  · rw [if_pos c73] at H
                    have c73b0 : decide (0 ≤ (ji72)) = true := decide_eq_true c73
                    clear c73
                    by_cases c74 : (ji72) < (l0_4.length : Int)
                    · rw [if_pos c74] at H
                      have c74b0 : decide ((ji72) < (l0_4.length : Int)) = true := decide_eq_true c74
                      clear c74
                      by_cases c75 : ((rd_T40 l0_4 (ji72)).f3) = 2
                      · rw [if_pos c75] at H
                        have c75b0 : (((rd_T40 l0_4 (ji72)).f3) == 2) = true := beq_iff_eq.mpr c75
                        have c75b1 : (((rd_T40 l0_4 (ji72)).f3) != 2) = false := bne_eq_false_iff_eq.mpr c75
                        clear c75
                        obtain rfl := Option.some.inj H
                        have hnb76 := NB175_176.out
                        have hnc76 := NB176_175.out
                        have hcz77_0 : wr.cell? ⟨gb175, 0, none⟩ = some (.slice A0_0 l0_0.length c0_0) := (zP BK175.out 0).trans rfl
                        have hcz77_1 : wr.cell? ⟨gb175, 1, none⟩ = some (.int .i64 a0_1) := (zP BK175.out 1).trans rfl
                        have hcz77_2 : wr.cell? ⟨gb175, 2, none⟩ = some (.int .i64 a0_2) := (zP BK175.out 2).trans rfl
                        have hcz77_3 : wr.cell? ⟨gb175, 3, none⟩ = some (.int .i64 a0_3) := (zP BK175.out 3).trans rfl
                        have hcz77_4 : wr.cell? ⟨gb175, 4, none⟩ = some (.slice A0_4 l0_4.length c0_4) := (zP BK175.out 4).trans rfl
                        have hcz77_5 : wr.cell? ⟨gb175, 5, none⟩ = some (.slice A0_5 l0_5.length c0_5) := (zP BK175.out 5).trans rfl
                        have hfz77_0 := zQ BK175.out 0
                        have hfz77_1 := zQ BK175.out 1
                        have hfz77_2 := zQ BK175.out 2
                        have hfz77_3 := zQ BK175.out 3
                        have hfz77_4 := zQ BK175.out 4
                        have hfz77_5 := zQ BK175.out 5
                        have p187 : 0 ≤ ((ji72) : Int) := of_decide_eq_true (by first | (with_reducible assumption) | assumption)
                        have q187 : (ji72) < (l0_4.length : Int) := of_decide_eq_true (by first | (with_reducible assumption) | assumption)
                        obtain ⟨ad187, e187, hx187_0, hx187_1, hx187_2, hx187_3, hx187_4, hx187_5, hx187_6, hx187_7⟩ := at_T40 HR0_4.out (ji72) p187 q187
                        cases e187
                        replace hx187_0 := (HB.out.cell (World.block_lt_of_cell? w _ hx187_0)).trans hx187_0
                        replace hx187_1 := (HB.out.cell (World.block_lt_of_cell? w _ hx187_1)).trans hx187_1
                        replace hx187_2 := (HB.out.cell (World.block_lt_of_cell? w _ hx187_2)).trans hx187_2
                        replace hx187_3 := (HB.out.cell (World.block_lt_of_cell? w _ hx187_3)).trans hx187_3
                        replace hx187_4 := (HB.out.cell (World.block_lt_of_cell? w _ hx187_4)).trans hx187_4
                        replace hx187_5 := (HB.out.cell (World.block_lt_of_cell? w _ hx187_5)).trans hx187_5
                        replace hx187_6 := (HB.out.cell (World.block_lt_of_cell? w _ hx187_6)).trans hx187_6
                        replace hx187_7 := (HB.out.cell (World.block_lt_of_cell? w _ hx187_7)).trans hx187_7
                        replace p187 := eq_true p187
                        replace q187 := eq_true q187
                        go_wp2_with (first | ((with_reducible refine gate_dst (N := 5) rfl ?_); (try (refine gate_guard (by rfl) ?_; dsimp only)); refine box_event ?hg (N := 5) ?hd (cs := #[.int .i64 0, .int .i64 0, .int .i64 0, .int .i64 0, .int .i64 0, .int .i64 0, .int .i64 0, .int .i64 0]) (t := 40) ?hr ?_; (case hd => rfl); (case hg => rfl); (case hr => first | (go_simp; done) | (go_simp; rfl)); intro gb188 hg w78 hbox hb; have n0_ := Aside0.mk (zR (g := gb175) (o := .cells #[.slice A0_0 l0_0.length c0_0, .int .i64 a0_1, .int .i64 a0_2, .int .i64 a0_3, .slice (some ad187) l0_4.length c0_4, .slice A0_5 l0_5.length c0_5] 30 (0, 0)) (by (with_reducible repeat (first | refine zL ?_ _ | refine zM ?_ | refine zK ?_ _)); exact BK175.out) hb); have n1_ := Aside0.mk (zR (g := gb176) (o := .cells #[.int .i64 (l0_4.length : Int)] 3 (0, 0)) (by (with_reducible repeat (first | refine zL ?_ _ | refine zM ?_ | refine zK ?_ _)); exact BK176.out) hb); have n2_ := Aside0.mk (zS (by repeat (first | (with_reducible first | exact HB.out | apply zO | apply zA | apply zN | refine zB ?_ GE175.out | refine zB ?_ GE176.out) | exact HB.out)) hb); have n3_ := Aside0.mk (hbox); have n4_ := Aside0.mk ((by rw [hg]; exact (zT (by repeat (first | (with_reducible first | exact HB.out | apply zO | apply zA | apply zN | refine zB ?_ GE175.out | refine zB ?_ GE176.out) | exact HB.out))) : w.heap.size ≤ gb188)); have n5_ := Aside0.mk ((by rw [hg]; exact (zT (by repeat (first | (with_reducible first | exact HB.out | apply zO | apply zA | apply zN | refine zB ?_ GE175.out | refine zB ?_ GE176.out) | exact HB.out))) : w.heap.size ≤ gb188)); have n6_ := Aside0.mk ((by rw [hg]; exact Nat.ne_of_lt (blk_lt (g := gb175) (o := .cells #[.slice A0_0 l0_0.length c0_0, .int .i64 a0_1, .int .i64 a0_2, .int .i64 a0_3, .slice (some ad187) l0_4.length c0_4, .slice A0_5 l0_5.length c0_5] 30 (0, 0)) (by (with_reducible repeat (first | refine zL ?_ _ | refine zM ?_ | refine zK ?_ _)); exact BK175.out)) : gb175 ≠ gb188)); have n7_ := Aside0.mk ((by rw [hg]; exact Nat.ne_of_gt (blk_lt (g := gb175) (o := .cells #[.slice A0_0 l0_0.length c0_0, .int .i64 a0_1, .int .i64 a0_2, .int .i64 a0_3, .slice (some ad187) l0_4.length c0_4, .slice A0_5 l0_5.length c0_5] 30 (0, 0)) (by (with_reducible repeat (first | refine zL ?_ _ | refine zM ?_ | refine zK ?_ _)); exact BK175.out)) : gb188 ≠ gb175)); have n8_ := Aside0.mk ((by rw [hg]; exact Nat.ne_of_lt (blk_lt (g := gb176) (o := .cells #[.int .i64 (l0_4.length : Int)] 3 (0, 0)) (by (with_reducible repeat (first | refine zL ?_ _ | refine zM ?_ | refine zK ?_ _)); exact BK176.out)) : gb176 ≠ gb188)); have n9_ := Aside0.mk ((by rw [hg]; exact Nat.ne_of_gt (blk_lt (g := gb176) (o := .cells #[.int .i64 (l0_4.length : Int)] 3 (0, 0)) (by (with_reducible repeat (first | refine zL ?_ _ | refine zM ?_ | refine zK ?_ _)); exact BK176.out)) : gb188 ≠ gb176)); clear BK175; clear BK176; clear HB; have BK175 := n0_; have BK176 := n1_; have HB := n2_; have BK188 := n3_; have GW188 := n4_; have GE188 := n5_; have NB175_188 := n6_; have NB188_175 := n7_; have NB176_188 := n8_; have NB188_176 := n9_; clear n0_ n1_ n2_ n3_ n4_ n5_ n6_ n7_ n8_ n9_; clear hb hbox hg; have hnb79 := NB188_175.out; have hnc79 := NB175_188.out; have hnb80 := NB188_176.out; have hnc80 := NB176_188.out; have hcz81_0 : w78.cell? ⟨gb188, 0, none⟩ = some (.int .i64 0) := (zP BK188.out 0).trans rfl; have hcz81_1 : w78.cell? ⟨gb188, 1, none⟩ = some (.int .i64 0) := (zP BK188.out 1).trans rfl; have hcz81_2 : w78.cell? ⟨gb188, 2, none⟩ = some (.int .i64 0) := (zP BK188.out 2).trans rfl; have hcz81_3 : w78.cell? ⟨gb188, 3, none⟩ = some (.int .i64 0) := (zP BK188.out 3).trans rfl; have hcz81_4 : w78.cell? ⟨gb188, 4, none⟩ = some (.int .i64 0) := (zP BK188.out 4).trans rfl; have hcz81_5 : w78.cell? ⟨gb188, 5, none⟩ = some (.int .i64 0) := (zP BK188.out 5).trans rfl; have hcz81_6 : w78.cell? ⟨gb188, 6, none⟩ = some (.int .i64 0) := (zP BK188.out 6).trans rfl; have hcz81_7 : w78.cell? ⟨gb188, 7, none⟩ = some (.int .i64 0) := (zP BK188.out 7).trans rfl; have hfz81_0 := zQ BK188.out 0; have hfz81_1 := zQ BK188.out 1; have hfz81_2 := zQ BK188.out 2; have hfz81_3 := zQ BK188.out 3; have hfz81_4 := zQ BK188.out 4; have hfz81_5 := zQ BK188.out 5; have hfz81_6 := zQ BK188.out 6; have hfz81_7 := zQ BK188.out 7; have hcz82_0 : w78.cell? ⟨gb175, 0, none⟩ = some (.slice A0_0 l0_0.length c0_0) := (zP BK175.out 0).trans rfl; have hcz82_1 : w78.cell? ⟨gb175, 1, none⟩ = some (.int .i64 a0_1) := (zP BK175.out 1).trans rfl; have hcz82_2 : w78.cell? ⟨gb175, 2, none⟩ = some (.int .i64 a0_2) := (zP BK175.out 2).trans rfl; have hcz82_3 : w78.cell? ⟨gb175, 3, none⟩ = some (.int .i64 a0_3) := (zP BK175.out 3).trans rfl; have hcz82_4 : w78.cell? ⟨gb175, 4, none⟩ = some (.slice (some ad187) l0_4.length c0_4) := (zP BK175.out 4).trans rfl; have hcz82_5 : w78.cell? ⟨gb175, 5, none⟩ = some (.slice A0_5 l0_5.length c0_5) := (zP BK175.out 5).trans rfl; have hfz82_0 := zQ BK175.out 0; have hfz82_1 := zQ BK175.out 1; have hfz82_2 := zQ BK175.out 2; have hfz82_3 := zQ BK175.out 3; have hfz82_4 := zQ BK175.out 4; have hfz82_5 := zQ BK175.out 5))
                        go_ret
                        exact ⟨by first | rfl | (simp [errW_none, errW_some] <;> rfl) | (simp only [← hji72]; first | rfl | (simp [errW_none, errW_some] <;> rfl)) | (simp [*, errW_none, errW_some] <;> rfl), by repeat (first | (with_reducible first | exact HB.out | apply zO | apply zA | apply zN | refine zB ?_ GE175.out | refine zB ?_ GE176.out | refine zB ?_ GE188.out) | exact HB.out)⟩
                      · rw [if_neg c75] at H
                        have c75b0 : (((rd_T40 l0_4 (ji72)).f3) == 2) = false := beq_eq_false_iff_ne.mpr c75
                        have c75b1 : (((rd_T40 l0_4 (ji72)).f3) != 2) = true := bne_iff_ne.mpr c75
                        by_cases c83 : ((rd_T40 l0_4 (ji72)).f3) = 3
                        · rw [if_pos c83] at H
                          have c83b0 : (((rd_T40 l0_4 (ji72)).f3) == 3) = true := beq_iff_eq.mpr c83
                          have c83b1 : (((rd_T40 l0_4 (ji72)).f3) != 3) = false := bne_eq_false_iff_eq.mpr c83
                          clear c83
                          obtain rfl := Option.some.inj H
                          have hnb84 := NB175_176.out
                          have hnc84 := NB176_175.out
                          have hcz85_0 : wr.cell? ⟨gb175, 0, none⟩ = some (.slice A0_0 l0_0.length c0_0) := (zP BK175.out 0).trans rfl
                          have hcz85_1 : wr.cell? ⟨gb175, 1, none⟩ = some (.int .i64 a0_1) := (zP BK175.out 1).trans rfl
                          have hcz85_2 : wr.cell? ⟨gb175, 2, none⟩ = some (.int .i64 a0_2) := (zP BK175.out 2).trans rfl
                          have hcz85_3 : wr.cell? ⟨gb175, 3, none⟩ = some (.int .i64 a0_3) := (zP BK175.out 3).trans rfl
                          have hcz85_4 : wr.cell? ⟨gb175, 4, none⟩ = some (.slice A0_4 l0_4.length c0_4) := (zP BK175.out 4).trans rfl
                          have hcz85_5 : wr.cell? ⟨gb175, 5, none⟩ = some (.slice A0_5 l0_5.length c0_5) := (zP BK175.out 5).trans rfl
                          have hfz85_0 := zQ BK175.out 0
                          have hfz85_1 := zQ BK175.out 1
                          have hfz85_2 := zQ BK175.out 2
                          have hfz85_3 := zQ BK175.out 3
                          have hfz85_4 := zQ BK175.out 4
                          have hfz85_5 := zQ BK175.out 5
                          have p187 : 0 ≤ ((ji72) : Int) := of_decide_eq_true (by first | (with_reducible assumption) | assumption)
                          have q187 : (ji72) < (l0_4.length : Int) := of_decide_eq_true (by first | (with_reducible assumption) | assumption)
                          obtain ⟨ad187, e187, hx187_0, hx187_1, hx187_2, hx187_3, hx187_4, hx187_5, hx187_6, hx187_7⟩ := at_T40 HR0_4.out (ji72) p187 q187
                          cases e187
                          replace hx187_0 := (HB.out.cell (World.block_lt_of_cell? w _ hx187_0)).trans hx187_0
                          replace hx187_1 := (HB.out.cell (World.block_lt_of_cell? w _ hx187_1)).trans hx187_1
                          replace hx187_2 := (HB.out.cell (World.block_lt_of_cell? w _ hx187_2)).trans hx187_2
                          replace hx187_3 := (HB.out.cell (World.block_lt_of_cell? w _ hx187_3)).trans hx187_3
                          replace hx187_4 := (HB.out.cell (World.block_lt_of_cell? w _ hx187_4)).trans hx187_4
                          replace hx187_5 := (HB.out.cell (World.block_lt_of_cell? w _ hx187_5)).trans hx187_5
                          replace hx187_6 := (HB.out.cell (World.block_lt_of_cell? w _ hx187_6)).trans hx187_6
                          replace hx187_7 := (HB.out.cell (World.block_lt_of_cell? w _ hx187_7)).trans hx187_7
                          replace p187 := eq_true p187
                          replace q187 := eq_true q187
                          go_wp2_with (first | ((with_reducible refine gate_dst (N := 5) rfl ?_); (try (refine gate_guard (by rfl) ?_; dsimp only)); refine box_event ?hg (N := 5) ?hd (cs := #[.int .i64 0, .int .i64 0, .int .i64 0, .int .i64 0, .int .i64 0, .int .i64 0, .int .i64 0, .int .i64 0]) (t := 40) ?hr ?_; (case hd => rfl); (case hg => rfl); (case hr => first | (go_simp; done) | (go_simp; rfl)); intro gb188 hg w86 hbox hb; have n0_ := Aside0.mk (zR (g := gb175) (o := .cells #[.slice A0_0 l0_0.length c0_0, .int .i64 a0_1, .int .i64 a0_2, .int .i64 a0_3, .slice (some ad187) l0_4.length c0_4, .slice A0_5 l0_5.length c0_5] 30 (0, 0)) (by (with_reducible repeat (first | refine zL ?_ _ | refine zM ?_ | refine zK ?_ _)); exact BK175.out) hb); have n1_ := Aside0.mk (zR (g := gb176) (o := .cells #[.int .i64 (l0_4.length : Int)] 3 (0, 0)) (by (with_reducible repeat (first | refine zL ?_ _ | refine zM ?_ | refine zK ?_ _)); exact BK176.out) hb); have n2_ := Aside0.mk (zS (by repeat (first | (with_reducible first | exact HB.out | apply zO | apply zA | apply zN | refine zB ?_ GE175.out | refine zB ?_ GE176.out) | exact HB.out)) hb); have n3_ := Aside0.mk (hbox); have n4_ := Aside0.mk ((by rw [hg]; exact (zT (by repeat (first | (with_reducible first | exact HB.out | apply zO | apply zA | apply zN | refine zB ?_ GE175.out | refine zB ?_ GE176.out) | exact HB.out))) : w.heap.size ≤ gb188)); have n5_ := Aside0.mk ((by rw [hg]; exact (zT (by repeat (first | (with_reducible first | exact HB.out | apply zO | apply zA | apply zN | refine zB ?_ GE175.out | refine zB ?_ GE176.out) | exact HB.out))) : w.heap.size ≤ gb188)); have n6_ := Aside0.mk ((by rw [hg]; exact Nat.ne_of_lt (blk_lt (g := gb175) (o := .cells #[.slice A0_0 l0_0.length c0_0, .int .i64 a0_1, .int .i64 a0_2, .int .i64 a0_3, .slice (some ad187) l0_4.length c0_4, .slice A0_5 l0_5.length c0_5] 30 (0, 0)) (by (with_reducible repeat (first | refine zL ?_ _ | refine zM ?_ | refine zK ?_ _)); exact BK175.out)) : gb175 ≠ gb188)); have n7_ := Aside0.mk ((by rw [hg]; exact Nat.ne_of_gt (blk_lt (g := gb175) (o := .cells #[.slice A0_0 l0_0.length c0_0, .int .i64 a0_1, .int .i64 a0_2, .int .i64 a0_3, .slice (some ad187) l0_4.length c0_4, .slice A0_5 l0_5.length c0_5] 30 (0, 0)) (by (with_reducible repeat (first | refine zL ?_ _ | refine zM ?_ | refine zK ?_ _)); exact BK175.out)) : gb188 ≠ gb175)); have n8_ := Aside0.mk ((by rw [hg]; exact Nat.ne_of_lt (blk_lt (g := gb176) (o := .cells #[.int .i64 (l0_4.length : Int)] 3 (0, 0)) (by (with_reducible repeat (first | refine zL ?_ _ | refine zM ?_ | refine zK ?_ _)); exact BK176.out)) : gb176 ≠ gb188)); have n9_ := Aside0.mk ((by rw [hg]; exact Nat.ne_of_gt (blk_lt (g := gb176) (o := .cells #[.int .i64 (l0_4.length : Int)] 3 (0, 0)) (by (with_reducible repeat (first | refine zL ?_ _ | refine zM ?_ | refine zK ?_ _)); exact BK176.out)) : gb188 ≠ gb176)); clear BK175; clear BK176; clear HB; have BK175 := n0_; have BK176 := n1_; have HB := n2_; have BK188 := n3_; have GW188 := n4_; have GE188 := n5_; have NB175_188 := n6_; have NB188_175 := n7_; have NB176_188 := n8_; have NB188_176 := n9_; clear n0_ n1_ n2_ n3_ n4_ n5_ n6_ n7_ n8_ n9_; clear hb hbox hg; have hnb87 := NB188_175.out; have hnc87 := NB175_188.out; have hnb88 := NB188_176.out; have hnc88 := NB176_188.out; have hcz89_0 : w86.cell? ⟨gb188, 0, none⟩ = some (.int .i64 0) := (zP BK188.out 0).trans rfl; have hcz89_1 : w86.cell? ⟨gb188, 1, none⟩ = some (.int .i64 0) := (zP BK188.out 1).trans rfl; have hcz89_2 : w86.cell? ⟨gb188, 2, none⟩ = some (.int .i64 0) := (zP BK188.out 2).trans rfl; have hcz89_3 : w86.cell? ⟨gb188, 3, none⟩ = some (.int .i64 0) := (zP BK188.out 3).trans rfl; have hcz89_4 : w86.cell? ⟨gb188, 4, none⟩ = some (.int .i64 0) := (zP BK188.out 4).trans rfl; have hcz89_5 : w86.cell? ⟨gb188, 5, none⟩ = some (.int .i64 0) := (zP BK188.out 5).trans rfl; have hcz89_6 : w86.cell? ⟨gb188, 6, none⟩ = some (.int .i64 0) := (zP BK188.out 6).trans rfl; have hcz89_7 : w86.cell? ⟨gb188, 7, none⟩ = some (.int .i64 0) := (zP BK188.out 7).trans rfl; have hfz89_0 := zQ BK188.out 0; have hfz89_1 := zQ BK188.out 1; have hfz89_2 := zQ BK188.out 2; have hfz89_3 := zQ BK188.out 3; have hfz89_4 := zQ BK188.out 4; have hfz89_5 := zQ BK188.out 5; have hfz89_6 := zQ BK188.out 6; have hfz89_7 := zQ BK188.out 7; have hcz90_0 : w86.cell? ⟨gb175, 0, none⟩ = some (.slice A0_0 l0_0.length c0_0) := (zP BK175.out 0).trans rfl; have hcz90_1 : w86.cell? ⟨gb175, 1, none⟩ = some (.int .i64 a0_1) := (zP BK175.out 1).trans rfl; have hcz90_2 : w86.cell? ⟨gb175, 2, none⟩ = some (.int .i64 a0_2) := (zP BK175.out 2).trans rfl; have hcz90_3 : w86.cell? ⟨gb175, 3, none⟩ = some (.int .i64 a0_3) := (zP BK175.out 3).trans rfl; have hcz90_4 : w86.cell? ⟨gb175, 4, none⟩ = some (.slice (some ad187) l0_4.length c0_4) := (zP BK175.out 4).trans rfl; have hcz90_5 : w86.cell? ⟨gb175, 5, none⟩ = some (.slice A0_5 l0_5.length c0_5) := (zP BK175.out 5).trans rfl; have hfz90_0 := zQ BK175.out 0; have hfz90_1 := zQ BK175.out 1; have hfz90_2 := zQ BK175.out 2; have hfz90_3 := zQ BK175.out 3; have hfz90_4 := zQ BK175.out 4; have hfz90_5 := zQ BK175.out 5))
                          go_ret
                          exact ⟨by first | rfl | (simp [errW_none, errW_some] <;> rfl) | (simp only [← hji72]; first | rfl | (simp [errW_none, errW_some] <;> rfl)) | (simp [*, errW_none, errW_some] <;> rfl), by repeat (first | (with_reducible first | exact HB.out | apply zO | apply zA | apply zN | refine zB ?_ GE175.out | refine zB ?_ GE176.out | refine zB ?_ GE188.out) | exact HB.out)⟩
                        · rw [if_neg c83] at H
                          have c83b0 : (((rd_T40 l0_4 (ji72)).f3) == 3) = false := beq_eq_false_iff_ne.mpr c83
                          have c83b1 : (((rd_T40 l0_4 (ji72)).f3) != 3) = true := bne_iff_ne.mpr c83
                          obtain rfl := Option.some.inj H
                          have hnb91 := NB175_176.out
                          have hnc91 := NB176_175.out
                          have hcz92_0 : wr.cell? ⟨gb175, 0, none⟩ = some (.slice A0_0 l0_0.length c0_0) := (zP BK175.out 0).trans rfl
                          have hcz92_1 : wr.cell? ⟨gb175, 1, none⟩ = some (.int .i64 a0_1) := (zP BK175.out 1).trans rfl
                          have hcz92_2 : wr.cell? ⟨gb175, 2, none⟩ = some (.int .i64 a0_2) := (zP BK175.out 2).trans rfl
                          have hcz92_3 : wr.cell? ⟨gb175, 3, none⟩ = some (.int .i64 a0_3) := (zP BK175.out 3).trans rfl
                          have hcz92_4 : wr.cell? ⟨gb175, 4, none⟩ = some (.slice A0_4 l0_4.length c0_4) := (zP BK175.out 4).trans rfl
                          have hcz92_5 : wr.cell? ⟨gb175, 5, none⟩ = some (.slice A0_5 l0_5.length c0_5) := (zP BK175.out 5).trans rfl
                          have hfz92_0 := zQ BK175.out 0
                          have hfz92_1 := zQ BK175.out 1
                          have hfz92_2 := zQ BK175.out 2
                          have hfz92_3 := zQ BK175.out 3
                          have hfz92_4 := zQ BK175.out 4
                          have hfz92_5 := zQ BK175.out 5
                          have p187 : 0 ≤ ((ji72) : Int) := of_decide_eq_true (by first | (with_reducible assumption) | assumption)
                          have q187 : (ji72) < (l0_4.length : Int) := of_decide_eq_true (by first | (with_reducible assumption) | assumption)
                          obtain ⟨ad187, e187, hx187_0, hx187_1, hx187_2, hx187_3, hx187_4, hx187_5, hx187_6, hx187_7⟩ := at_T40 HR0_4.out (ji72) p187 q187
                          cases e187
                          replace hx187_0 := (HB.out.cell (World.block_lt_of_cell? w _ hx187_0)).trans hx187_0
                          replace hx187_1 := (HB.out.cell (World.block_lt_of_cell? w _ hx187_1)).trans hx187_1
                          replace hx187_2 := (HB.out.cell (World.block_lt_of_cell? w _ hx187_2)).trans hx187_2
                          replace hx187_3 := (HB.out.cell (World.block_lt_of_cell? w _ hx187_3)).trans hx187_3
                          replace hx187_4 := (HB.out.cell (World.block_lt_of_cell? w _ hx187_4)).trans hx187_4
                          replace hx187_5 := (HB.out.cell (World.block_lt_of_cell? w _ hx187_5)).trans hx187_5
                          replace hx187_6 := (HB.out.cell (World.block_lt_of_cell? w _ hx187_6)).trans hx187_6
                          replace hx187_7 := (HB.out.cell (World.block_lt_of_cell? w _ hx187_7)).trans hx187_7
                          replace p187 := eq_true p187
                          replace q187 := eq_true q187
                          go_wp2_with (first | ((with_reducible refine gate_dst (N := 5) rfl ?_); (try (refine gate_guard (by rfl) ?_; dsimp only)); refine box_event ?hg (N := 5) ?hd (cs := #[.int .i64 0, .int .i64 0, .int .i64 0, .int .i64 0, .int .i64 0, .int .i64 0, .int .i64 0, .int .i64 0]) (t := 40) ?hr ?_; (case hd => rfl); (case hg => rfl); (case hr => first | (go_simp; done) | (go_simp; rfl)); intro gb188 hg w93 hbox hb; have n0_ := Aside0.mk (zR (g := gb175) (o := .cells #[.slice A0_0 l0_0.length c0_0, .int .i64 a0_1, .int .i64 a0_2, .int .i64 a0_3, .slice (some ad187) l0_4.length c0_4, .slice A0_5 l0_5.length c0_5] 30 (0, 0)) (by (with_reducible repeat (first | refine zL ?_ _ | refine zM ?_ | refine zK ?_ _)); exact BK175.out) hb); have n1_ := Aside0.mk (zR (g := gb176) (o := .cells #[.int .i64 (l0_4.length : Int)] 3 (0, 0)) (by (with_reducible repeat (first | refine zL ?_ _ | refine zM ?_ | refine zK ?_ _)); exact BK176.out) hb); have n2_ := Aside0.mk (zS (by repeat (first | (with_reducible first | exact HB.out | apply zO | apply zA | apply zN | refine zB ?_ GE175.out | refine zB ?_ GE176.out) | exact HB.out)) hb); have n3_ := Aside0.mk (hbox); have n4_ := Aside0.mk ((by rw [hg]; exact (zT (by repeat (first | (with_reducible first | exact HB.out | apply zO | apply zA | apply zN | refine zB ?_ GE175.out | refine zB ?_ GE176.out) | exact HB.out))) : w.heap.size ≤ gb188)); have n5_ := Aside0.mk ((by rw [hg]; exact (zT (by repeat (first | (with_reducible first | exact HB.out | apply zO | apply zA | apply zN | refine zB ?_ GE175.out | refine zB ?_ GE176.out) | exact HB.out))) : w.heap.size ≤ gb188)); have n6_ := Aside0.mk ((by rw [hg]; exact Nat.ne_of_lt (blk_lt (g := gb175) (o := .cells #[.slice A0_0 l0_0.length c0_0, .int .i64 a0_1, .int .i64 a0_2, .int .i64 a0_3, .slice (some ad187) l0_4.length c0_4, .slice A0_5 l0_5.length c0_5] 30 (0, 0)) (by (with_reducible repeat (first | refine zL ?_ _ | refine zM ?_ | refine zK ?_ _)); exact BK175.out)) : gb175 ≠ gb188)); have n7_ := Aside0.mk ((by rw [hg]; exact Nat.ne_of_gt (blk_lt (g := gb175) (o := .cells #[.slice A0_0 l0_0.length c0_0, .int .i64 a0_1, .int .i64 a0_2, .int .i64 a0_3, .slice (some ad187) l0_4.length c0_4, .slice A0_5 l0_5.length c0_5] 30 (0, 0)) (by (with_reducible repeat (first | refine zL ?_ _ | refine zM ?_ | refine zK ?_ _)); exact BK175.out)) : gb188 ≠ gb175)); have n8_ := Aside0.mk ((by rw [hg]; exact Nat.ne_of_lt (blk_lt (g := gb176) (o := .cells #[.int .i64 (l0_4.length : Int)] 3 (0, 0)) (by (with_reducible repeat (first | refine zL ?_ _ | refine zM ?_ | refine zK ?_ _)); exact BK176.out)) : gb176 ≠ gb188)); have n9_ := Aside0.mk ((by rw [hg]; exact Nat.ne_of_gt (blk_lt (g := gb176) (o := .cells #[.int .i64 (l0_4.length : Int)] 3 (0, 0)) (by (with_reducible repeat (first | refine zL ?_ _ | refine zM ?_ | refine zK ?_ _)); exact BK176.out)) : gb188 ≠ gb176)); clear BK175; clear BK176; clear HB; have BK175 := n0_; have BK176 := n1_; have HB := n2_; have BK188 := n3_; have GW188 := n4_; have GE188 := n5_; have NB175_188 := n6_; have NB188_175 := n7_; have NB176_188 := n8_; have NB188_176 := n9_; clear n0_ n1_ n2_ n3_ n4_ n5_ n6_ n7_ n8_ n9_; clear hb hbox hg; have hnb94 := NB188_175.out; have hnc94 := NB175_188.out; have hnb95 := NB188_176.out; have hnc95 := NB176_188.out; have hcz96_0 : w93.cell? ⟨gb188, 0, none⟩ = some (.int .i64 0) := (zP BK188.out 0).trans rfl; have hcz96_1 : w93.cell? ⟨gb188, 1, none⟩ = some (.int .i64 0) := (zP BK188.out 1).trans rfl; have hcz96_2 : w93.cell? ⟨gb188, 2, none⟩ = some (.int .i64 0) := (zP BK188.out 2).trans rfl; have hcz96_3 : w93.cell? ⟨gb188, 3, none⟩ = some (.int .i64 0) := (zP BK188.out 3).trans rfl; have hcz96_4 : w93.cell? ⟨gb188, 4, none⟩ = some (.int .i64 0) := (zP BK188.out 4).trans rfl; have hcz96_5 : w93.cell? ⟨gb188, 5, none⟩ = some (.int .i64 0) := (zP BK188.out 5).trans rfl; have hcz96_6 : w93.cell? ⟨gb188, 6, none⟩ = some (.int .i64 0) := (zP BK188.out 6).trans rfl; have hcz96_7 : w93.cell? ⟨gb188, 7, none⟩ = some (.int .i64 0) := (zP BK188.out 7).trans rfl; have hfz96_0 := zQ BK188.out 0; have hfz96_1 := zQ BK188.out 1; have hfz96_2 := zQ BK188.out 2; have hfz96_3 := zQ BK188.out 3; have hfz96_4 := zQ BK188.out 4; have hfz96_5 := zQ BK188.out 5; have hfz96_6 := zQ BK188.out 6; have hfz96_7 := zQ BK188.out 7))
                          go_ret
                          exact ⟨by first | rfl | (simp [errW_none, errW_some] <;> rfl) | (simp only [← hji72]; first | rfl | (simp [errW_none, errW_some] <;> rfl)) | (simp [*, errW_none, errW_some] <;> rfl), by repeat (first | (with_reducible first | exact HB.out | apply zO | apply zA | apply zN | refine zB ?_ GE175.out | refine zB ?_ GE176.out | refine zB ?_ GE188.out) | exact HB.out)⟩
                    · rw [if_neg c74] at H
                      exact absurd H (by simp)
                  · rw [if_neg c73] at H
                    exact absurd H (by simp)

/-! ### laws_eqWant: function 69 -/
def laws_eqWant.f (a0_0 : Int) (a0_1 : Int) (a0_2 : Int) (a0_3 : Int) (a0_4 : Int) (a0_5 : Int) (a0_6 : Int) (a0_7 : Int) (a1_0 : Int) (a1_1 : Int) (a1_2 : Int) (a1_3 : Int) (a1_4 : Int) (a1_5 : Int) (a1_6 : Int) (a1_7 : Int) : Option (Bool) := if a0_0 = a1_0 then (if a0_1 = a1_1 then (if a0_2 = a1_2 then (if a0_3 = a1_3 then (if a0_4 = a1_4 then (if a0_5 = a1_5 then (if a0_6 = a1_6 then (if a0_7 = a1_7 then (some true) else (some false)) else (some false)) else (some false)) else (some false)) else (some false)) else (some false)) else (some false)) else (some false)
set_option maxHeartbeats 8000000 in
set_option maxRecDepth 100000 in
theorem laws_eqWant.calls (a0_0 : Int) (a0_1 : Int) (a0_2 : Int) (a0_3 : Int) (a0_4 : Int) (a0_5 : Int) (a0_6 : Int) (a0_7 : Int) (a1_0 : Int) (a1_1 : Int) (a1_2 : Int) (a1_3 : Int) (a1_4 : Int) (a1_5 : Int) (a1_6 : Int) (a1_7 : Int) (r : Bool) (w : World) (h : laws_eqWant.f a0_0 a0_1 a0_2 a0_3 a0_4 a0_5 a0_6 a0_7 a1_0 a1_1 a1_2 a1_3 a1_4 a1_5 a1_6 a1_7 = some r) :
    Calls Try.prog 69 #[.agg #[.int .i64 a0_0, .int .i64 a0_1, .int .i64 a0_2, .int .i64 a0_3, .int .i64 a0_4, .int .i64 a0_5, .int .i64 a0_6, .int .i64 a0_7], .agg #[.int .i64 a1_0, .int .i64 a1_1, .int .i64 a1_2, .int .i64 a1_3, .int .i64 a1_4, .int .i64 a1_5, .int .i64 a1_6, .int .i64 a1_7]] w fun e w' => e = .returned (.bool r) ∧ Below w.heap.size w w' := by
  have hu40 := Try.underlying40
  have HB := Aside0.mk (Below.refl w.heap.size w)
  have H : (if a0_0 = a1_0 then (if a0_1 = a1_1 then (if a0_2 = a1_2 then (if a0_3 = a1_3 then (if a0_4 = a1_4 then (if a0_5 = a1_5 then (if a0_6 = a1_6 then (if a0_7 = a1_7 then (some true) else (some false)) else (some false)) else (some false)) else (some false)) else (some false)) else (some false)) else (some false)) else (some false)) = some r := h
  clear h
  by_cases c3 : a0_0 = a1_0
  · rw [if_pos c3] at H
    have c3b0 : (a0_0 == a1_0) = true := beq_iff_eq.mpr c3
    have c3b1 : (a0_0 != a1_0) = false := bne_eq_false_iff_eq.mpr c3
    clear c3
    by_cases c4 : a0_1 = a1_1
    · rw [if_pos c4] at H
      have c4b0 : (a0_1 == a1_1) = true := beq_iff_eq.mpr c4
      have c4b1 : (a0_1 != a1_1) = false := bne_eq_false_iff_eq.mpr c4
      clear c4
      by_cases c5 : a0_2 = a1_2
      · rw [if_pos c5] at H
        have c5b0 : (a0_2 == a1_2) = true := beq_iff_eq.mpr c5
        have c5b1 : (a0_2 != a1_2) = false := bne_eq_false_iff_eq.mpr c5
        clear c5
        by_cases c6 : a0_3 = a1_3
        · rw [if_pos c6] at H
          have c6b0 : (a0_3 == a1_3) = true := beq_iff_eq.mpr c6
          have c6b1 : (a0_3 != a1_3) = false := bne_eq_false_iff_eq.mpr c6
          clear c6
          by_cases c7 : a0_4 = a1_4
          · rw [if_pos c7] at H
            have c7b0 : (a0_4 == a1_4) = true := beq_iff_eq.mpr c7
            have c7b1 : (a0_4 != a1_4) = false := bne_eq_false_iff_eq.mpr c7
            clear c7
            by_cases c8 : a0_5 = a1_5
            · rw [if_pos c8] at H
              have c8b0 : (a0_5 == a1_5) = true := beq_iff_eq.mpr c8
              have c8b1 : (a0_5 != a1_5) = false := bne_eq_false_iff_eq.mpr c8
              clear c8
              by_cases c9 : a0_6 = a1_6
              · rw [if_pos c9] at H
                have c9b0 : (a0_6 == a1_6) = true := beq_iff_eq.mpr c9
                have c9b1 : (a0_6 != a1_6) = false := bne_eq_false_iff_eq.mpr c9
                clear c9
                by_cases c10 : a0_7 = a1_7
                · rw [if_pos c10] at H
                  have c10b0 : (a0_7 == a1_7) = true := beq_iff_eq.mpr c10
                  have c10b1 : (a0_7 != a1_7) = false := bne_eq_false_iff_eq.mpr c10
                  clear c10
                  obtain rfl := Option.some.inj H
                  go_enter Try.func69, Try.ntmps69
                  go_wp2_with (first | ((with_reducible refine gate_dst (N := 2) rfl ?_); refine box_event ?hg (N := 2) ?hd (cs := #[.int .i64 a0_0, .int .i64 a0_1, .int .i64 a0_2, .int .i64 a0_3, .int .i64 a0_4, .int .i64 a0_5, .int .i64 a0_6, .int .i64 a0_7]) (t := 40) ?hr ?_; (case hd => rfl); (case hg => rfl); (case hr => first | (go_simp; done) | (go_simp; rfl)); intro gb189 hg w11 hbox hb; have n0_ := Aside0.mk (zS (by repeat (first | (with_reducible first | exact HB.out | apply zO | apply zA | apply zN) | exact HB.out)) hb); have n1_ := Aside0.mk (hbox); have n2_ := Aside0.mk ((by rw [hg]; exact (zT (by repeat (first | (with_reducible first | exact HB.out | apply zO | apply zA | apply zN) | exact HB.out))) : w.heap.size ≤ gb189)); have n3_ := Aside0.mk ((by rw [hg]; exact (zT (by repeat (first | (with_reducible first | exact HB.out | apply zO | apply zA | apply zN) | exact HB.out))) : w.heap.size ≤ gb189)); clear HB; have HB := n0_; have BK189 := n1_; have GW189 := n2_; have GE189 := n3_; clear n0_ n1_ n2_ n3_; clear hb hbox hg) | ((with_reducible refine gate_dst (N := 3) rfl ?_); refine box_event ?hg (N := 3) ?hd (cs := #[.int .i64 a1_0, .int .i64 a1_1, .int .i64 a1_2, .int .i64 a1_3, .int .i64 a1_4, .int .i64 a1_5, .int .i64 a1_6, .int .i64 a1_7]) (t := 40) ?hr ?_; (case hd => rfl); (case hg => rfl); (case hr => first | (go_simp; done) | (go_simp; rfl)); intro gb190 hg w12 hbox hb; have n0_ := Aside0.mk (zR (g := gb189) (o := .cells #[.int .i64 a0_0, .int .i64 a0_1, .int .i64 a0_2, .int .i64 a0_3, .int .i64 a0_4, .int .i64 a0_5, .int .i64 a0_6, .int .i64 a0_7] 40 (0, 0)) (by (with_reducible repeat (first | refine zL ?_ _ | refine zM ?_ | refine zK ?_ _)); exact BK189.out) hb); have n1_ := Aside0.mk (zS (by repeat (first | (with_reducible first | exact HB.out | apply zO | apply zA | apply zN | refine zB ?_ GE189.out) | exact HB.out)) hb); have n2_ := Aside0.mk (hbox); have n3_ := Aside0.mk ((by rw [hg]; exact (zT (by repeat (first | (with_reducible first | exact HB.out | apply zO | apply zA | apply zN | refine zB ?_ GE189.out) | exact HB.out))) : w.heap.size ≤ gb190)); have n4_ := Aside0.mk ((by rw [hg]; exact (zT (by repeat (first | (with_reducible first | exact HB.out | apply zO | apply zA | apply zN | refine zB ?_ GE189.out) | exact HB.out))) : w.heap.size ≤ gb190)); have n5_ := Aside0.mk ((by rw [hg]; exact Nat.ne_of_lt (blk_lt (g := gb189) (o := .cells #[.int .i64 a0_0, .int .i64 a0_1, .int .i64 a0_2, .int .i64 a0_3, .int .i64 a0_4, .int .i64 a0_5, .int .i64 a0_6, .int .i64 a0_7] 40 (0, 0)) (by (with_reducible repeat (first | refine zL ?_ _ | refine zM ?_ | refine zK ?_ _)); exact BK189.out)) : gb189 ≠ gb190)); have n6_ := Aside0.mk ((by rw [hg]; exact Nat.ne_of_gt (blk_lt (g := gb189) (o := .cells #[.int .i64 a0_0, .int .i64 a0_1, .int .i64 a0_2, .int .i64 a0_3, .int .i64 a0_4, .int .i64 a0_5, .int .i64 a0_6, .int .i64 a0_7] 40 (0, 0)) (by (with_reducible repeat (first | refine zL ?_ _ | refine zM ?_ | refine zK ?_ _)); exact BK189.out)) : gb190 ≠ gb189)); clear BK189; clear HB; have BK189 := n0_; have HB := n1_; have BK190 := n2_; have GW190 := n3_; have GE190 := n4_; have NB189_190 := n5_; have NB190_189 := n6_; clear n0_ n1_ n2_ n3_ n4_ n5_ n6_; clear hb hbox hg; have hnb13 := NB189_190.out; have hnc13 := NB190_189.out; have hcz14_0 : w12.cell? ⟨gb189, 0, none⟩ = some (.int .i64 a0_0) := (zP BK189.out 0).trans rfl; have hcz14_1 : w12.cell? ⟨gb189, 1, none⟩ = some (.int .i64 a0_1) := (zP BK189.out 1).trans rfl; have hcz14_2 : w12.cell? ⟨gb189, 2, none⟩ = some (.int .i64 a0_2) := (zP BK189.out 2).trans rfl; have hcz14_3 : w12.cell? ⟨gb189, 3, none⟩ = some (.int .i64 a0_3) := (zP BK189.out 3).trans rfl; have hcz14_4 : w12.cell? ⟨gb189, 4, none⟩ = some (.int .i64 a0_4) := (zP BK189.out 4).trans rfl; have hcz14_5 : w12.cell? ⟨gb189, 5, none⟩ = some (.int .i64 a0_5) := (zP BK189.out 5).trans rfl; have hcz14_6 : w12.cell? ⟨gb189, 6, none⟩ = some (.int .i64 a0_6) := (zP BK189.out 6).trans rfl; have hcz14_7 : w12.cell? ⟨gb189, 7, none⟩ = some (.int .i64 a0_7) := (zP BK189.out 7).trans rfl; have hfz14_0 := zQ BK189.out 0; have hfz14_1 := zQ BK189.out 1; have hfz14_2 := zQ BK189.out 2; have hfz14_3 := zQ BK189.out 3; have hfz14_4 := zQ BK189.out 4; have hfz14_5 := zQ BK189.out 5; have hfz14_6 := zQ BK189.out 6; have hfz14_7 := zQ BK189.out 7; have hcz15_0 : w12.cell? ⟨gb190, 0, none⟩ = some (.int .i64 a1_0) := (zP BK190.out 0).trans rfl; have hcz15_1 : w12.cell? ⟨gb190, 1, none⟩ = some (.int .i64 a1_1) := (zP BK190.out 1).trans rfl; have hcz15_2 : w12.cell? ⟨gb190, 2, none⟩ = some (.int .i64 a1_2) := (zP BK190.out 2).trans rfl; have hcz15_3 : w12.cell? ⟨gb190, 3, none⟩ = some (.int .i64 a1_3) := (zP BK190.out 3).trans rfl; have hcz15_4 : w12.cell? ⟨gb190, 4, none⟩ = some (.int .i64 a1_4) := (zP BK190.out 4).trans rfl; have hcz15_5 : w12.cell? ⟨gb190, 5, none⟩ = some (.int .i64 a1_5) := (zP BK190.out 5).trans rfl; have hcz15_6 : w12.cell? ⟨gb190, 6, none⟩ = some (.int .i64 a1_6) := (zP BK190.out 6).trans rfl; have hcz15_7 : w12.cell? ⟨gb190, 7, none⟩ = some (.int .i64 a1_7) := (zP BK190.out 7).trans rfl; have hfz15_0 := zQ BK190.out 0; have hfz15_1 := zQ BK190.out 1; have hfz15_2 := zQ BK190.out 2; have hfz15_3 := zQ BK190.out 3; have hfz15_4 := zQ BK190.out 4; have hfz15_5 := zQ BK190.out 5; have hfz15_6 := zQ BK190.out 6; have hfz15_7 := zQ BK190.out 7))
                  go_ret
                  exact ⟨by first | rfl | (simp [errW_none, errW_some] <;> rfl) | (simp [*, errW_none, errW_some] <;> rfl), by repeat (first | (with_reducible first | exact HB.out | apply zO | apply zA | apply zN | refine zB ?_ GE189.out | refine zB ?_ GE190.out) | exact HB.out)⟩
                · rw [if_neg c10] at H
                  have c10b0 : (a0_7 == a1_7) = false := beq_eq_false_iff_ne.mpr c10
                  have c10b1 : (a0_7 != a1_7) = true := bne_iff_ne.mpr c10
                  obtain rfl := Option.some.inj H
                  go_enter Try.func69, Try.ntmps69
                  go_wp2_with (first | ((with_reducible refine gate_dst (N := 2) rfl ?_); refine box_event ?hg (N := 2) ?hd (cs := #[.int .i64 a0_0, .int .i64 a0_1, .int .i64 a0_2, .int .i64 a0_3, .int .i64 a0_4, .int .i64 a0_5, .int .i64 a0_6, .int .i64 a0_7]) (t := 40) ?hr ?_; (case hd => rfl); (case hg => rfl); (case hr => first | (go_simp; done) | (go_simp; rfl)); intro gb189 hg w16 hbox hb; have n0_ := Aside0.mk (zS (by repeat (first | (with_reducible first | exact HB.out | apply zO | apply zA | apply zN) | exact HB.out)) hb); have n1_ := Aside0.mk (hbox); have n2_ := Aside0.mk ((by rw [hg]; exact (zT (by repeat (first | (with_reducible first | exact HB.out | apply zO | apply zA | apply zN) | exact HB.out))) : w.heap.size ≤ gb189)); have n3_ := Aside0.mk ((by rw [hg]; exact (zT (by repeat (first | (with_reducible first | exact HB.out | apply zO | apply zA | apply zN) | exact HB.out))) : w.heap.size ≤ gb189)); clear HB; have HB := n0_; have BK189 := n1_; have GW189 := n2_; have GE189 := n3_; clear n0_ n1_ n2_ n3_; clear hb hbox hg) | ((with_reducible refine gate_dst (N := 3) rfl ?_); refine box_event ?hg (N := 3) ?hd (cs := #[.int .i64 a1_0, .int .i64 a1_1, .int .i64 a1_2, .int .i64 a1_3, .int .i64 a1_4, .int .i64 a1_5, .int .i64 a1_6, .int .i64 a1_7]) (t := 40) ?hr ?_; (case hd => rfl); (case hg => rfl); (case hr => first | (go_simp; done) | (go_simp; rfl)); intro gb190 hg w17 hbox hb; have n0_ := Aside0.mk (zR (g := gb189) (o := .cells #[.int .i64 a0_0, .int .i64 a0_1, .int .i64 a0_2, .int .i64 a0_3, .int .i64 a0_4, .int .i64 a0_5, .int .i64 a0_6, .int .i64 a0_7] 40 (0, 0)) (by (with_reducible repeat (first | refine zL ?_ _ | refine zM ?_ | refine zK ?_ _)); exact BK189.out) hb); have n1_ := Aside0.mk (zS (by repeat (first | (with_reducible first | exact HB.out | apply zO | apply zA | apply zN | refine zB ?_ GE189.out) | exact HB.out)) hb); have n2_ := Aside0.mk (hbox); have n3_ := Aside0.mk ((by rw [hg]; exact (zT (by repeat (first | (with_reducible first | exact HB.out | apply zO | apply zA | apply zN | refine zB ?_ GE189.out) | exact HB.out))) : w.heap.size ≤ gb190)); have n4_ := Aside0.mk ((by rw [hg]; exact (zT (by repeat (first | (with_reducible first | exact HB.out | apply zO | apply zA | apply zN | refine zB ?_ GE189.out) | exact HB.out))) : w.heap.size ≤ gb190)); have n5_ := Aside0.mk ((by rw [hg]; exact Nat.ne_of_lt (blk_lt (g := gb189) (o := .cells #[.int .i64 a0_0, .int .i64 a0_1, .int .i64 a0_2, .int .i64 a0_3, .int .i64 a0_4, .int .i64 a0_5, .int .i64 a0_6, .int .i64 a0_7] 40 (0, 0)) (by (with_reducible repeat (first | refine zL ?_ _ | refine zM ?_ | refine zK ?_ _)); exact BK189.out)) : gb189 ≠ gb190)); have n6_ := Aside0.mk ((by rw [hg]; exact Nat.ne_of_gt (blk_lt (g := gb189) (o := .cells #[.int .i64 a0_0, .int .i64 a0_1, .int .i64 a0_2, .int .i64 a0_3, .int .i64 a0_4, .int .i64 a0_5, .int .i64 a0_6, .int .i64 a0_7] 40 (0, 0)) (by (with_reducible repeat (first | refine zL ?_ _ | refine zM ?_ | refine zK ?_ _)); exact BK189.out)) : gb190 ≠ gb189)); clear BK189; clear HB; have BK189 := n0_; have HB := n1_; have BK190 := n2_; have GW190 := n3_; have GE190 := n4_; have NB189_190 := n5_; have NB190_189 := n6_; clear n0_ n1_ n2_ n3_ n4_ n5_ n6_; clear hb hbox hg; have hnb18 := NB189_190.out; have hnc18 := NB190_189.out; have hcz19_0 : w17.cell? ⟨gb189, 0, none⟩ = some (.int .i64 a0_0) := (zP BK189.out 0).trans rfl; have hcz19_1 : w17.cell? ⟨gb189, 1, none⟩ = some (.int .i64 a0_1) := (zP BK189.out 1).trans rfl; have hcz19_2 : w17.cell? ⟨gb189, 2, none⟩ = some (.int .i64 a0_2) := (zP BK189.out 2).trans rfl; have hcz19_3 : w17.cell? ⟨gb189, 3, none⟩ = some (.int .i64 a0_3) := (zP BK189.out 3).trans rfl; have hcz19_4 : w17.cell? ⟨gb189, 4, none⟩ = some (.int .i64 a0_4) := (zP BK189.out 4).trans rfl; have hcz19_5 : w17.cell? ⟨gb189, 5, none⟩ = some (.int .i64 a0_5) := (zP BK189.out 5).trans rfl; have hcz19_6 : w17.cell? ⟨gb189, 6, none⟩ = some (.int .i64 a0_6) := (zP BK189.out 6).trans rfl; have hcz19_7 : w17.cell? ⟨gb189, 7, none⟩ = some (.int .i64 a0_7) := (zP BK189.out 7).trans rfl; have hfz19_0 := zQ BK189.out 0; have hfz19_1 := zQ BK189.out 1; have hfz19_2 := zQ BK189.out 2; have hfz19_3 := zQ BK189.out 3; have hfz19_4 := zQ BK189.out 4; have hfz19_5 := zQ BK189.out 5; have hfz19_6 := zQ BK189.out 6; have hfz19_7 := zQ BK189.out 7; have hcz20_0 : w17.cell? ⟨gb190, 0, none⟩ = some (.int .i64 a1_0) := (zP BK190.out 0).trans rfl; have hcz20_1 : w17.cell? ⟨gb190, 1, none⟩ = some (.int .i64 a1_1) := (zP BK190.out 1).trans rfl; have hcz20_2 : w17.cell? ⟨gb190, 2, none⟩ = some (.int .i64 a1_2) := (zP BK190.out 2).trans rfl; have hcz20_3 : w17.cell? ⟨gb190, 3, none⟩ = some (.int .i64 a1_3) := (zP BK190.out 3).trans rfl; have hcz20_4 : w17.cell? ⟨gb190, 4, none⟩ = some (.int .i64 a1_4) := (zP BK190.out 4).trans rfl; have hcz20_5 : w17.cell? ⟨gb190, 5, none⟩ = some (.int .i64 a1_5) := (zP BK190.out 5).trans rfl; have hcz20_6 : w17.cell? ⟨gb190, 6, none⟩ = some (.int .i64 a1_6) := (zP BK190.out 6).trans rfl; have hcz20_7 : w17.cell? ⟨gb190, 7, none⟩ = some (.int .i64 a1_7) := (zP BK190.out 7).trans rfl; have hfz20_0 := zQ BK190.out 0; have hfz20_1 := zQ BK190.out 1; have hfz20_2 := zQ BK190.out 2; have hfz20_3 := zQ BK190.out 3; have hfz20_4 := zQ BK190.out 4; have hfz20_5 := zQ BK190.out 5; have hfz20_6 := zQ BK190.out 6; have hfz20_7 := zQ BK190.out 7))
                  go_ret
                  exact ⟨by first | rfl | (simp [errW_none, errW_some] <;> rfl) | (simp [*, errW_none, errW_some] <;> rfl), by repeat (first | (with_reducible first | exact HB.out | apply zO | apply zA | apply zN | refine zB ?_ GE189.out | refine zB ?_ GE190.out) | exact HB.out)⟩
              · rw [if_neg c9] at H
                have c9b0 : (a0_6 == a1_6) = false := beq_eq_false_iff_ne.mpr c9
                have c9b1 : (a0_6 != a1_6) = true := bne_iff_ne.mpr c9
                obtain rfl := Option.some.inj H
                go_enter Try.func69, Try.ntmps69
                go_wp2_with (first | ((with_reducible refine gate_dst (N := 2) rfl ?_); refine box_event ?hg (N := 2) ?hd (cs := #[.int .i64 a0_0, .int .i64 a0_1, .int .i64 a0_2, .int .i64 a0_3, .int .i64 a0_4, .int .i64 a0_5, .int .i64 a0_6, .int .i64 a0_7]) (t := 40) ?hr ?_; (case hd => rfl); (case hg => rfl); (case hr => first | (go_simp; done) | (go_simp; rfl)); intro gb189 hg w21 hbox hb; have n0_ := Aside0.mk (zS (by repeat (first | (with_reducible first | exact HB.out | apply zO | apply zA | apply zN) | exact HB.out)) hb); have n1_ := Aside0.mk (hbox); have n2_ := Aside0.mk ((by rw [hg]; exact (zT (by repeat (first | (with_reducible first | exact HB.out | apply zO | apply zA | apply zN) | exact HB.out))) : w.heap.size ≤ gb189)); have n3_ := Aside0.mk ((by rw [hg]; exact (zT (by repeat (first | (with_reducible first | exact HB.out | apply zO | apply zA | apply zN) | exact HB.out))) : w.heap.size ≤ gb189)); clear HB; have HB := n0_; have BK189 := n1_; have GW189 := n2_; have GE189 := n3_; clear n0_ n1_ n2_ n3_; clear hb hbox hg) | ((with_reducible refine gate_dst (N := 3) rfl ?_); refine box_event ?hg (N := 3) ?hd (cs := #[.int .i64 a1_0, .int .i64 a1_1, .int .i64 a1_2, .int .i64 a1_3, .int .i64 a1_4, .int .i64 a1_5, .int .i64 a1_6, .int .i64 a1_7]) (t := 40) ?hr ?_; (case hd => rfl); (case hg => rfl); (case hr => first | (go_simp; done) | (go_simp; rfl)); intro gb190 hg w22 hbox hb; have n0_ := Aside0.mk (zR (g := gb189) (o := .cells #[.int .i64 a0_0, .int .i64 a0_1, .int .i64 a0_2, .int .i64 a0_3, .int .i64 a0_4, .int .i64 a0_5, .int .i64 a0_6, .int .i64 a0_7] 40 (0, 0)) (by (with_reducible repeat (first | refine zL ?_ _ | refine zM ?_ | refine zK ?_ _)); exact BK189.out) hb); have n1_ := Aside0.mk (zS (by repeat (first | (with_reducible first | exact HB.out | apply zO | apply zA | apply zN | refine zB ?_ GE189.out) | exact HB.out)) hb); have n2_ := Aside0.mk (hbox); have n3_ := Aside0.mk ((by rw [hg]; exact (zT (by repeat (first | (with_reducible first | exact HB.out | apply zO | apply zA | apply zN | refine zB ?_ GE189.out) | exact HB.out))) : w.heap.size ≤ gb190)); have n4_ := Aside0.mk ((by rw [hg]; exact (zT (by repeat (first | (with_reducible first | exact HB.out | apply zO | apply zA | apply zN | refine zB ?_ GE189.out) | exact HB.out))) : w.heap.size ≤ gb190)); have n5_ := Aside0.mk ((by rw [hg]; exact Nat.ne_of_lt (blk_lt (g := gb189) (o := .cells #[.int .i64 a0_0, .int .i64 a0_1, .int .i64 a0_2, .int .i64 a0_3, .int .i64 a0_4, .int .i64 a0_5, .int .i64 a0_6, .int .i64 a0_7] 40 (0, 0)) (by (with_reducible repeat (first | refine zL ?_ _ | refine zM ?_ | refine zK ?_ _)); exact BK189.out)) : gb189 ≠ gb190)); have n6_ := Aside0.mk ((by rw [hg]; exact Nat.ne_of_gt (blk_lt (g := gb189) (o := .cells #[.int .i64 a0_0, .int .i64 a0_1, .int .i64 a0_2, .int .i64 a0_3, .int .i64 a0_4, .int .i64 a0_5, .int .i64 a0_6, .int .i64 a0_7] 40 (0, 0)) (by (with_reducible repeat (first | refine zL ?_ _ | refine zM ?_ | refine zK ?_ _)); exact BK189.out)) : gb190 ≠ gb189)); clear BK189; clear HB; have BK189 := n0_; have HB := n1_; have BK190 := n2_; have GW190 := n3_; have GE190 := n4_; have NB189_190 := n5_; have NB190_189 := n6_; clear n0_ n1_ n2_ n3_ n4_ n5_ n6_; clear hb hbox hg; have hnb23 := NB189_190.out; have hnc23 := NB190_189.out; have hcz24_0 : w22.cell? ⟨gb189, 0, none⟩ = some (.int .i64 a0_0) := (zP BK189.out 0).trans rfl; have hcz24_1 : w22.cell? ⟨gb189, 1, none⟩ = some (.int .i64 a0_1) := (zP BK189.out 1).trans rfl; have hcz24_2 : w22.cell? ⟨gb189, 2, none⟩ = some (.int .i64 a0_2) := (zP BK189.out 2).trans rfl; have hcz24_3 : w22.cell? ⟨gb189, 3, none⟩ = some (.int .i64 a0_3) := (zP BK189.out 3).trans rfl; have hcz24_4 : w22.cell? ⟨gb189, 4, none⟩ = some (.int .i64 a0_4) := (zP BK189.out 4).trans rfl; have hcz24_5 : w22.cell? ⟨gb189, 5, none⟩ = some (.int .i64 a0_5) := (zP BK189.out 5).trans rfl; have hcz24_6 : w22.cell? ⟨gb189, 6, none⟩ = some (.int .i64 a0_6) := (zP BK189.out 6).trans rfl; have hcz24_7 : w22.cell? ⟨gb189, 7, none⟩ = some (.int .i64 a0_7) := (zP BK189.out 7).trans rfl; have hfz24_0 := zQ BK189.out 0; have hfz24_1 := zQ BK189.out 1; have hfz24_2 := zQ BK189.out 2; have hfz24_3 := zQ BK189.out 3; have hfz24_4 := zQ BK189.out 4; have hfz24_5 := zQ BK189.out 5; have hfz24_6 := zQ BK189.out 6; have hfz24_7 := zQ BK189.out 7; have hcz25_0 : w22.cell? ⟨gb190, 0, none⟩ = some (.int .i64 a1_0) := (zP BK190.out 0).trans rfl; have hcz25_1 : w22.cell? ⟨gb190, 1, none⟩ = some (.int .i64 a1_1) := (zP BK190.out 1).trans rfl; have hcz25_2 : w22.cell? ⟨gb190, 2, none⟩ = some (.int .i64 a1_2) := (zP BK190.out 2).trans rfl; have hcz25_3 : w22.cell? ⟨gb190, 3, none⟩ = some (.int .i64 a1_3) := (zP BK190.out 3).trans rfl; have hcz25_4 : w22.cell? ⟨gb190, 4, none⟩ = some (.int .i64 a1_4) := (zP BK190.out 4).trans rfl; have hcz25_5 : w22.cell? ⟨gb190, 5, none⟩ = some (.int .i64 a1_5) := (zP BK190.out 5).trans rfl; have hcz25_6 : w22.cell? ⟨gb190, 6, none⟩ = some (.int .i64 a1_6) := (zP BK190.out 6).trans rfl; have hcz25_7 : w22.cell? ⟨gb190, 7, none⟩ = some (.int .i64 a1_7) := (zP BK190.out 7).trans rfl; have hfz25_0 := zQ BK190.out 0; have hfz25_1 := zQ BK190.out 1; have hfz25_2 := zQ BK190.out 2; have hfz25_3 := zQ BK190.out 3; have hfz25_4 := zQ BK190.out 4; have hfz25_5 := zQ BK190.out 5; have hfz25_6 := zQ BK190.out 6; have hfz25_7 := zQ BK190.out 7))
                go_ret
                exact ⟨by first | rfl | (simp [errW_none, errW_some] <;> rfl) | (simp [*, errW_none, errW_some] <;> rfl), by repeat (first | (with_reducible first | exact HB.out | apply zO | apply zA | apply zN | refine zB ?_ GE189.out | refine zB ?_ GE190.out) | exact HB.out)⟩
            · rw [if_neg c8] at H
              have c8b0 : (a0_5 == a1_5) = false := beq_eq_false_iff_ne.mpr c8
              have c8b1 : (a0_5 != a1_5) = true := bne_iff_ne.mpr c8
              obtain rfl := Option.some.inj H
              go_enter Try.func69, Try.ntmps69
              go_wp2_with (first | ((with_reducible refine gate_dst (N := 2) rfl ?_); refine box_event ?hg (N := 2) ?hd (cs := #[.int .i64 a0_0, .int .i64 a0_1, .int .i64 a0_2, .int .i64 a0_3, .int .i64 a0_4, .int .i64 a0_5, .int .i64 a0_6, .int .i64 a0_7]) (t := 40) ?hr ?_; (case hd => rfl); (case hg => rfl); (case hr => first | (go_simp; done) | (go_simp; rfl)); intro gb189 hg w26 hbox hb; have n0_ := Aside0.mk (zS (by repeat (first | (with_reducible first | exact HB.out | apply zO | apply zA | apply zN) | exact HB.out)) hb); have n1_ := Aside0.mk (hbox); have n2_ := Aside0.mk ((by rw [hg]; exact (zT (by repeat (first | (with_reducible first | exact HB.out | apply zO | apply zA | apply zN) | exact HB.out))) : w.heap.size ≤ gb189)); have n3_ := Aside0.mk ((by rw [hg]; exact (zT (by repeat (first | (with_reducible first | exact HB.out | apply zO | apply zA | apply zN) | exact HB.out))) : w.heap.size ≤ gb189)); clear HB; have HB := n0_; have BK189 := n1_; have GW189 := n2_; have GE189 := n3_; clear n0_ n1_ n2_ n3_; clear hb hbox hg) | ((with_reducible refine gate_dst (N := 3) rfl ?_); refine box_event ?hg (N := 3) ?hd (cs := #[.int .i64 a1_0, .int .i64 a1_1, .int .i64 a1_2, .int .i64 a1_3, .int .i64 a1_4, .int .i64 a1_5, .int .i64 a1_6, .int .i64 a1_7]) (t := 40) ?hr ?_; (case hd => rfl); (case hg => rfl); (case hr => first | (go_simp; done) | (go_simp; rfl)); intro gb190 hg w27 hbox hb; have n0_ := Aside0.mk (zR (g := gb189) (o := .cells #[.int .i64 a0_0, .int .i64 a0_1, .int .i64 a0_2, .int .i64 a0_3, .int .i64 a0_4, .int .i64 a0_5, .int .i64 a0_6, .int .i64 a0_7] 40 (0, 0)) (by (with_reducible repeat (first | refine zL ?_ _ | refine zM ?_ | refine zK ?_ _)); exact BK189.out) hb); have n1_ := Aside0.mk (zS (by repeat (first | (with_reducible first | exact HB.out | apply zO | apply zA | apply zN | refine zB ?_ GE189.out) | exact HB.out)) hb); have n2_ := Aside0.mk (hbox); have n3_ := Aside0.mk ((by rw [hg]; exact (zT (by repeat (first | (with_reducible first | exact HB.out | apply zO | apply zA | apply zN | refine zB ?_ GE189.out) | exact HB.out))) : w.heap.size ≤ gb190)); have n4_ := Aside0.mk ((by rw [hg]; exact (zT (by repeat (first | (with_reducible first | exact HB.out | apply zO | apply zA | apply zN | refine zB ?_ GE189.out) | exact HB.out))) : w.heap.size ≤ gb190)); have n5_ := Aside0.mk ((by rw [hg]; exact Nat.ne_of_lt (blk_lt (g := gb189) (o := .cells #[.int .i64 a0_0, .int .i64 a0_1, .int .i64 a0_2, .int .i64 a0_3, .int .i64 a0_4, .int .i64 a0_5, .int .i64 a0_6, .int .i64 a0_7] 40 (0, 0)) (by (with_reducible repeat (first | refine zL ?_ _ | refine zM ?_ | refine zK ?_ _)); exact BK189.out)) : gb189 ≠ gb190)); have n6_ := Aside0.mk ((by rw [hg]; exact Nat.ne_of_gt (blk_lt (g := gb189) (o := .cells #[.int .i64 a0_0, .int .i64 a0_1, .int .i64 a0_2, .int .i64 a0_3, .int .i64 a0_4, .int .i64 a0_5, .int .i64 a0_6, .int .i64 a0_7] 40 (0, 0)) (by (with_reducible repeat (first | refine zL ?_ _ | refine zM ?_ | refine zK ?_ _)); exact BK189.out)) : gb190 ≠ gb189)); clear BK189; clear HB; have BK189 := n0_; have HB := n1_; have BK190 := n2_; have GW190 := n3_; have GE190 := n4_; have NB189_190 := n5_; have NB190_189 := n6_; clear n0_ n1_ n2_ n3_ n4_ n5_ n6_; clear hb hbox hg; have hnb28 := NB189_190.out; have hnc28 := NB190_189.out; have hcz29_0 : w27.cell? ⟨gb189, 0, none⟩ = some (.int .i64 a0_0) := (zP BK189.out 0).trans rfl; have hcz29_1 : w27.cell? ⟨gb189, 1, none⟩ = some (.int .i64 a0_1) := (zP BK189.out 1).trans rfl; have hcz29_2 : w27.cell? ⟨gb189, 2, none⟩ = some (.int .i64 a0_2) := (zP BK189.out 2).trans rfl; have hcz29_3 : w27.cell? ⟨gb189, 3, none⟩ = some (.int .i64 a0_3) := (zP BK189.out 3).trans rfl; have hcz29_4 : w27.cell? ⟨gb189, 4, none⟩ = some (.int .i64 a0_4) := (zP BK189.out 4).trans rfl; have hcz29_5 : w27.cell? ⟨gb189, 5, none⟩ = some (.int .i64 a0_5) := (zP BK189.out 5).trans rfl; have hcz29_6 : w27.cell? ⟨gb189, 6, none⟩ = some (.int .i64 a0_6) := (zP BK189.out 6).trans rfl; have hcz29_7 : w27.cell? ⟨gb189, 7, none⟩ = some (.int .i64 a0_7) := (zP BK189.out 7).trans rfl; have hfz29_0 := zQ BK189.out 0; have hfz29_1 := zQ BK189.out 1; have hfz29_2 := zQ BK189.out 2; have hfz29_3 := zQ BK189.out 3; have hfz29_4 := zQ BK189.out 4; have hfz29_5 := zQ BK189.out 5; have hfz29_6 := zQ BK189.out 6; have hfz29_7 := zQ BK189.out 7; have hcz30_0 : w27.cell? ⟨gb190, 0, none⟩ = some (.int .i64 a1_0) := (zP BK190.out 0).trans rfl; have hcz30_1 : w27.cell? ⟨gb190, 1, none⟩ = some (.int .i64 a1_1) := (zP BK190.out 1).trans rfl; have hcz30_2 : w27.cell? ⟨gb190, 2, none⟩ = some (.int .i64 a1_2) := (zP BK190.out 2).trans rfl; have hcz30_3 : w27.cell? ⟨gb190, 3, none⟩ = some (.int .i64 a1_3) := (zP BK190.out 3).trans rfl; have hcz30_4 : w27.cell? ⟨gb190, 4, none⟩ = some (.int .i64 a1_4) := (zP BK190.out 4).trans rfl; have hcz30_5 : w27.cell? ⟨gb190, 5, none⟩ = some (.int .i64 a1_5) := (zP BK190.out 5).trans rfl; have hcz30_6 : w27.cell? ⟨gb190, 6, none⟩ = some (.int .i64 a1_6) := (zP BK190.out 6).trans rfl; have hcz30_7 : w27.cell? ⟨gb190, 7, none⟩ = some (.int .i64 a1_7) := (zP BK190.out 7).trans rfl; have hfz30_0 := zQ BK190.out 0; have hfz30_1 := zQ BK190.out 1; have hfz30_2 := zQ BK190.out 2; have hfz30_3 := zQ BK190.out 3; have hfz30_4 := zQ BK190.out 4; have hfz30_5 := zQ BK190.out 5; have hfz30_6 := zQ BK190.out 6; have hfz30_7 := zQ BK190.out 7))
              go_ret
              exact ⟨by first | rfl | (simp [errW_none, errW_some] <;> rfl) | (simp [*, errW_none, errW_some] <;> rfl), by repeat (first | (with_reducible first | exact HB.out | apply zO | apply zA | apply zN | refine zB ?_ GE189.out | refine zB ?_ GE190.out) | exact HB.out)⟩
          · rw [if_neg c7] at H
            have c7b0 : (a0_4 == a1_4) = false := beq_eq_false_iff_ne.mpr c7
            have c7b1 : (a0_4 != a1_4) = true := bne_iff_ne.mpr c7
            obtain rfl := Option.some.inj H
            go_enter Try.func69, Try.ntmps69
            go_wp2_with (first | ((with_reducible refine gate_dst (N := 2) rfl ?_); refine box_event ?hg (N := 2) ?hd (cs := #[.int .i64 a0_0, .int .i64 a0_1, .int .i64 a0_2, .int .i64 a0_3, .int .i64 a0_4, .int .i64 a0_5, .int .i64 a0_6, .int .i64 a0_7]) (t := 40) ?hr ?_; (case hd => rfl); (case hg => rfl); (case hr => first | (go_simp; done) | (go_simp; rfl)); intro gb189 hg w31 hbox hb; have n0_ := Aside0.mk (zS (by repeat (first | (with_reducible first | exact HB.out | apply zO | apply zA | apply zN) | exact HB.out)) hb); have n1_ := Aside0.mk (hbox); have n2_ := Aside0.mk ((by rw [hg]; exact (zT (by repeat (first | (with_reducible first | exact HB.out | apply zO | apply zA | apply zN) | exact HB.out))) : w.heap.size ≤ gb189)); have n3_ := Aside0.mk ((by rw [hg]; exact (zT (by repeat (first | (with_reducible first | exact HB.out | apply zO | apply zA | apply zN) | exact HB.out))) : w.heap.size ≤ gb189)); clear HB; have HB := n0_; have BK189 := n1_; have GW189 := n2_; have GE189 := n3_; clear n0_ n1_ n2_ n3_; clear hb hbox hg) | ((with_reducible refine gate_dst (N := 3) rfl ?_); refine box_event ?hg (N := 3) ?hd (cs := #[.int .i64 a1_0, .int .i64 a1_1, .int .i64 a1_2, .int .i64 a1_3, .int .i64 a1_4, .int .i64 a1_5, .int .i64 a1_6, .int .i64 a1_7]) (t := 40) ?hr ?_; (case hd => rfl); (case hg => rfl); (case hr => first | (go_simp; done) | (go_simp; rfl)); intro gb190 hg w32 hbox hb; have n0_ := Aside0.mk (zR (g := gb189) (o := .cells #[.int .i64 a0_0, .int .i64 a0_1, .int .i64 a0_2, .int .i64 a0_3, .int .i64 a0_4, .int .i64 a0_5, .int .i64 a0_6, .int .i64 a0_7] 40 (0, 0)) (by (with_reducible repeat (first | refine zL ?_ _ | refine zM ?_ | refine zK ?_ _)); exact BK189.out) hb); have n1_ := Aside0.mk (zS (by repeat (first | (with_reducible first | exact HB.out | apply zO | apply zA | apply zN | refine zB ?_ GE189.out) | exact HB.out)) hb); have n2_ := Aside0.mk (hbox); have n3_ := Aside0.mk ((by rw [hg]; exact (zT (by repeat (first | (with_reducible first | exact HB.out | apply zO | apply zA | apply zN | refine zB ?_ GE189.out) | exact HB.out))) : w.heap.size ≤ gb190)); have n4_ := Aside0.mk ((by rw [hg]; exact (zT (by repeat (first | (with_reducible first | exact HB.out | apply zO | apply zA | apply zN | refine zB ?_ GE189.out) | exact HB.out))) : w.heap.size ≤ gb190)); have n5_ := Aside0.mk ((by rw [hg]; exact Nat.ne_of_lt (blk_lt (g := gb189) (o := .cells #[.int .i64 a0_0, .int .i64 a0_1, .int .i64 a0_2, .int .i64 a0_3, .int .i64 a0_4, .int .i64 a0_5, .int .i64 a0_6, .int .i64 a0_7] 40 (0, 0)) (by (with_reducible repeat (first | refine zL ?_ _ | refine zM ?_ | refine zK ?_ _)); exact BK189.out)) : gb189 ≠ gb190)); have n6_ := Aside0.mk ((by rw [hg]; exact Nat.ne_of_gt (blk_lt (g := gb189) (o := .cells #[.int .i64 a0_0, .int .i64 a0_1, .int .i64 a0_2, .int .i64 a0_3, .int .i64 a0_4, .int .i64 a0_5, .int .i64 a0_6, .int .i64 a0_7] 40 (0, 0)) (by (with_reducible repeat (first | refine zL ?_ _ | refine zM ?_ | refine zK ?_ _)); exact BK189.out)) : gb190 ≠ gb189)); clear BK189; clear HB; have BK189 := n0_; have HB := n1_; have BK190 := n2_; have GW190 := n3_; have GE190 := n4_; have NB189_190 := n5_; have NB190_189 := n6_; clear n0_ n1_ n2_ n3_ n4_ n5_ n6_; clear hb hbox hg; have hnb33 := NB189_190.out; have hnc33 := NB190_189.out; have hcz34_0 : w32.cell? ⟨gb189, 0, none⟩ = some (.int .i64 a0_0) := (zP BK189.out 0).trans rfl; have hcz34_1 : w32.cell? ⟨gb189, 1, none⟩ = some (.int .i64 a0_1) := (zP BK189.out 1).trans rfl; have hcz34_2 : w32.cell? ⟨gb189, 2, none⟩ = some (.int .i64 a0_2) := (zP BK189.out 2).trans rfl; have hcz34_3 : w32.cell? ⟨gb189, 3, none⟩ = some (.int .i64 a0_3) := (zP BK189.out 3).trans rfl; have hcz34_4 : w32.cell? ⟨gb189, 4, none⟩ = some (.int .i64 a0_4) := (zP BK189.out 4).trans rfl; have hcz34_5 : w32.cell? ⟨gb189, 5, none⟩ = some (.int .i64 a0_5) := (zP BK189.out 5).trans rfl; have hcz34_6 : w32.cell? ⟨gb189, 6, none⟩ = some (.int .i64 a0_6) := (zP BK189.out 6).trans rfl; have hcz34_7 : w32.cell? ⟨gb189, 7, none⟩ = some (.int .i64 a0_7) := (zP BK189.out 7).trans rfl; have hfz34_0 := zQ BK189.out 0; have hfz34_1 := zQ BK189.out 1; have hfz34_2 := zQ BK189.out 2; have hfz34_3 := zQ BK189.out 3; have hfz34_4 := zQ BK189.out 4; have hfz34_5 := zQ BK189.out 5; have hfz34_6 := zQ BK189.out 6; have hfz34_7 := zQ BK189.out 7; have hcz35_0 : w32.cell? ⟨gb190, 0, none⟩ = some (.int .i64 a1_0) := (zP BK190.out 0).trans rfl; have hcz35_1 : w32.cell? ⟨gb190, 1, none⟩ = some (.int .i64 a1_1) := (zP BK190.out 1).trans rfl; have hcz35_2 : w32.cell? ⟨gb190, 2, none⟩ = some (.int .i64 a1_2) := (zP BK190.out 2).trans rfl; have hcz35_3 : w32.cell? ⟨gb190, 3, none⟩ = some (.int .i64 a1_3) := (zP BK190.out 3).trans rfl; have hcz35_4 : w32.cell? ⟨gb190, 4, none⟩ = some (.int .i64 a1_4) := (zP BK190.out 4).trans rfl; have hcz35_5 : w32.cell? ⟨gb190, 5, none⟩ = some (.int .i64 a1_5) := (zP BK190.out 5).trans rfl; have hcz35_6 : w32.cell? ⟨gb190, 6, none⟩ = some (.int .i64 a1_6) := (zP BK190.out 6).trans rfl; have hcz35_7 : w32.cell? ⟨gb190, 7, none⟩ = some (.int .i64 a1_7) := (zP BK190.out 7).trans rfl; have hfz35_0 := zQ BK190.out 0; have hfz35_1 := zQ BK190.out 1; have hfz35_2 := zQ BK190.out 2; have hfz35_3 := zQ BK190.out 3; have hfz35_4 := zQ BK190.out 4; have hfz35_5 := zQ BK190.out 5; have hfz35_6 := zQ BK190.out 6; have hfz35_7 := zQ BK190.out 7))
            go_ret
            exact ⟨by first | rfl | (simp [errW_none, errW_some] <;> rfl) | (simp [*, errW_none, errW_some] <;> rfl), by repeat (first | (with_reducible first | exact HB.out | apply zO | apply zA | apply zN | refine zB ?_ GE189.out | refine zB ?_ GE190.out) | exact HB.out)⟩
        · rw [if_neg c6] at H
          have c6b0 : (a0_3 == a1_3) = false := beq_eq_false_iff_ne.mpr c6
          have c6b1 : (a0_3 != a1_3) = true := bne_iff_ne.mpr c6
          obtain rfl := Option.some.inj H
          go_enter Try.func69, Try.ntmps69
          go_wp2_with (first | ((with_reducible refine gate_dst (N := 2) rfl ?_); refine box_event ?hg (N := 2) ?hd (cs := #[.int .i64 a0_0, .int .i64 a0_1, .int .i64 a0_2, .int .i64 a0_3, .int .i64 a0_4, .int .i64 a0_5, .int .i64 a0_6, .int .i64 a0_7]) (t := 40) ?hr ?_; (case hd => rfl); (case hg => rfl); (case hr => first | (go_simp; done) | (go_simp; rfl)); intro gb189 hg w36 hbox hb; have n0_ := Aside0.mk (zS (by repeat (first | (with_reducible first | exact HB.out | apply zO | apply zA | apply zN) | exact HB.out)) hb); have n1_ := Aside0.mk (hbox); have n2_ := Aside0.mk ((by rw [hg]; exact (zT (by repeat (first | (with_reducible first | exact HB.out | apply zO | apply zA | apply zN) | exact HB.out))) : w.heap.size ≤ gb189)); have n3_ := Aside0.mk ((by rw [hg]; exact (zT (by repeat (first | (with_reducible first | exact HB.out | apply zO | apply zA | apply zN) | exact HB.out))) : w.heap.size ≤ gb189)); clear HB; have HB := n0_; have BK189 := n1_; have GW189 := n2_; have GE189 := n3_; clear n0_ n1_ n2_ n3_; clear hb hbox hg) | ((with_reducible refine gate_dst (N := 3) rfl ?_); refine box_event ?hg (N := 3) ?hd (cs := #[.int .i64 a1_0, .int .i64 a1_1, .int .i64 a1_2, .int .i64 a1_3, .int .i64 a1_4, .int .i64 a1_5, .int .i64 a1_6, .int .i64 a1_7]) (t := 40) ?hr ?_; (case hd => rfl); (case hg => rfl); (case hr => first | (go_simp; done) | (go_simp; rfl)); intro gb190 hg w37 hbox hb; have n0_ := Aside0.mk (zR (g := gb189) (o := .cells #[.int .i64 a0_0, .int .i64 a0_1, .int .i64 a0_2, .int .i64 a0_3, .int .i64 a0_4, .int .i64 a0_5, .int .i64 a0_6, .int .i64 a0_7] 40 (0, 0)) (by (with_reducible repeat (first | refine zL ?_ _ | refine zM ?_ | refine zK ?_ _)); exact BK189.out) hb); have n1_ := Aside0.mk (zS (by repeat (first | (with_reducible first | exact HB.out | apply zO | apply zA | apply zN | refine zB ?_ GE189.out) | exact HB.out)) hb); have n2_ := Aside0.mk (hbox); have n3_ := Aside0.mk ((by rw [hg]; exact (zT (by repeat (first | (with_reducible first | exact HB.out | apply zO | apply zA | apply zN | refine zB ?_ GE189.out) | exact HB.out))) : w.heap.size ≤ gb190)); have n4_ := Aside0.mk ((by rw [hg]; exact (zT (by repeat (first | (with_reducible first | exact HB.out | apply zO | apply zA | apply zN | refine zB ?_ GE189.out) | exact HB.out))) : w.heap.size ≤ gb190)); have n5_ := Aside0.mk ((by rw [hg]; exact Nat.ne_of_lt (blk_lt (g := gb189) (o := .cells #[.int .i64 a0_0, .int .i64 a0_1, .int .i64 a0_2, .int .i64 a0_3, .int .i64 a0_4, .int .i64 a0_5, .int .i64 a0_6, .int .i64 a0_7] 40 (0, 0)) (by (with_reducible repeat (first | refine zL ?_ _ | refine zM ?_ | refine zK ?_ _)); exact BK189.out)) : gb189 ≠ gb190)); have n6_ := Aside0.mk ((by rw [hg]; exact Nat.ne_of_gt (blk_lt (g := gb189) (o := .cells #[.int .i64 a0_0, .int .i64 a0_1, .int .i64 a0_2, .int .i64 a0_3, .int .i64 a0_4, .int .i64 a0_5, .int .i64 a0_6, .int .i64 a0_7] 40 (0, 0)) (by (with_reducible repeat (first | refine zL ?_ _ | refine zM ?_ | refine zK ?_ _)); exact BK189.out)) : gb190 ≠ gb189)); clear BK189; clear HB; have BK189 := n0_; have HB := n1_; have BK190 := n2_; have GW190 := n3_; have GE190 := n4_; have NB189_190 := n5_; have NB190_189 := n6_; clear n0_ n1_ n2_ n3_ n4_ n5_ n6_; clear hb hbox hg; have hnb38 := NB189_190.out; have hnc38 := NB190_189.out; have hcz39_0 : w37.cell? ⟨gb189, 0, none⟩ = some (.int .i64 a0_0) := (zP BK189.out 0).trans rfl; have hcz39_1 : w37.cell? ⟨gb189, 1, none⟩ = some (.int .i64 a0_1) := (zP BK189.out 1).trans rfl; have hcz39_2 : w37.cell? ⟨gb189, 2, none⟩ = some (.int .i64 a0_2) := (zP BK189.out 2).trans rfl; have hcz39_3 : w37.cell? ⟨gb189, 3, none⟩ = some (.int .i64 a0_3) := (zP BK189.out 3).trans rfl; have hcz39_4 : w37.cell? ⟨gb189, 4, none⟩ = some (.int .i64 a0_4) := (zP BK189.out 4).trans rfl; have hcz39_5 : w37.cell? ⟨gb189, 5, none⟩ = some (.int .i64 a0_5) := (zP BK189.out 5).trans rfl; have hcz39_6 : w37.cell? ⟨gb189, 6, none⟩ = some (.int .i64 a0_6) := (zP BK189.out 6).trans rfl; have hcz39_7 : w37.cell? ⟨gb189, 7, none⟩ = some (.int .i64 a0_7) := (zP BK189.out 7).trans rfl; have hfz39_0 := zQ BK189.out 0; have hfz39_1 := zQ BK189.out 1; have hfz39_2 := zQ BK189.out 2; have hfz39_3 := zQ BK189.out 3; have hfz39_4 := zQ BK189.out 4; have hfz39_5 := zQ BK189.out 5; have hfz39_6 := zQ BK189.out 6; have hfz39_7 := zQ BK189.out 7; have hcz40_0 : w37.cell? ⟨gb190, 0, none⟩ = some (.int .i64 a1_0) := (zP BK190.out 0).trans rfl; have hcz40_1 : w37.cell? ⟨gb190, 1, none⟩ = some (.int .i64 a1_1) := (zP BK190.out 1).trans rfl; have hcz40_2 : w37.cell? ⟨gb190, 2, none⟩ = some (.int .i64 a1_2) := (zP BK190.out 2).trans rfl; have hcz40_3 : w37.cell? ⟨gb190, 3, none⟩ = some (.int .i64 a1_3) := (zP BK190.out 3).trans rfl; have hcz40_4 : w37.cell? ⟨gb190, 4, none⟩ = some (.int .i64 a1_4) := (zP BK190.out 4).trans rfl; have hcz40_5 : w37.cell? ⟨gb190, 5, none⟩ = some (.int .i64 a1_5) := (zP BK190.out 5).trans rfl; have hcz40_6 : w37.cell? ⟨gb190, 6, none⟩ = some (.int .i64 a1_6) := (zP BK190.out 6).trans rfl; have hcz40_7 : w37.cell? ⟨gb190, 7, none⟩ = some (.int .i64 a1_7) := (zP BK190.out 7).trans rfl; have hfz40_0 := zQ BK190.out 0; have hfz40_1 := zQ BK190.out 1; have hfz40_2 := zQ BK190.out 2; have hfz40_3 := zQ BK190.out 3; have hfz40_4 := zQ BK190.out 4; have hfz40_5 := zQ BK190.out 5; have hfz40_6 := zQ BK190.out 6; have hfz40_7 := zQ BK190.out 7))
          go_ret
          exact ⟨by first | rfl | (simp [errW_none, errW_some] <;> rfl) | (simp [*, errW_none, errW_some] <;> rfl), by repeat (first | (with_reducible first | exact HB.out | apply zO | apply zA | apply zN | refine zB ?_ GE189.out | refine zB ?_ GE190.out) | exact HB.out)⟩
      · rw [if_neg c5] at H
        have c5b0 : (a0_2 == a1_2) = false := beq_eq_false_iff_ne.mpr c5
        have c5b1 : (a0_2 != a1_2) = true := bne_iff_ne.mpr c5
        obtain rfl := Option.some.inj H
        go_enter Try.func69, Try.ntmps69
        go_wp2_with (first | ((with_reducible refine gate_dst (N := 2) rfl ?_); refine box_event ?hg (N := 2) ?hd (cs := #[.int .i64 a0_0, .int .i64 a0_1, .int .i64 a0_2, .int .i64 a0_3, .int .i64 a0_4, .int .i64 a0_5, .int .i64 a0_6, .int .i64 a0_7]) (t := 40) ?hr ?_; (case hd => rfl); (case hg => rfl); (case hr => first | (go_simp; done) | (go_simp; rfl)); intro gb189 hg w41 hbox hb; have n0_ := Aside0.mk (zS (by repeat (first | (with_reducible first | exact HB.out | apply zO | apply zA | apply zN) | exact HB.out)) hb); have n1_ := Aside0.mk (hbox); have n2_ := Aside0.mk ((by rw [hg]; exact (zT (by repeat (first | (with_reducible first | exact HB.out | apply zO | apply zA | apply zN) | exact HB.out))) : w.heap.size ≤ gb189)); have n3_ := Aside0.mk ((by rw [hg]; exact (zT (by repeat (first | (with_reducible first | exact HB.out | apply zO | apply zA | apply zN) | exact HB.out))) : w.heap.size ≤ gb189)); clear HB; have HB := n0_; have BK189 := n1_; have GW189 := n2_; have GE189 := n3_; clear n0_ n1_ n2_ n3_; clear hb hbox hg) | ((with_reducible refine gate_dst (N := 3) rfl ?_); refine box_event ?hg (N := 3) ?hd (cs := #[.int .i64 a1_0, .int .i64 a1_1, .int .i64 a1_2, .int .i64 a1_3, .int .i64 a1_4, .int .i64 a1_5, .int .i64 a1_6, .int .i64 a1_7]) (t := 40) ?hr ?_; (case hd => rfl); (case hg => rfl); (case hr => first | (go_simp; done) | (go_simp; rfl)); intro gb190 hg w42 hbox hb; have n0_ := Aside0.mk (zR (g := gb189) (o := .cells #[.int .i64 a0_0, .int .i64 a0_1, .int .i64 a0_2, .int .i64 a0_3, .int .i64 a0_4, .int .i64 a0_5, .int .i64 a0_6, .int .i64 a0_7] 40 (0, 0)) (by (with_reducible repeat (first | refine zL ?_ _ | refine zM ?_ | refine zK ?_ _)); exact BK189.out) hb); have n1_ := Aside0.mk (zS (by repeat (first | (with_reducible first | exact HB.out | apply zO | apply zA | apply zN | refine zB ?_ GE189.out) | exact HB.out)) hb); have n2_ := Aside0.mk (hbox); have n3_ := Aside0.mk ((by rw [hg]; exact (zT (by repeat (first | (with_reducible first | exact HB.out | apply zO | apply zA | apply zN | refine zB ?_ GE189.out) | exact HB.out))) : w.heap.size ≤ gb190)); have n4_ := Aside0.mk ((by rw [hg]; exact (zT (by repeat (first | (with_reducible first | exact HB.out | apply zO | apply zA | apply zN | refine zB ?_ GE189.out) | exact HB.out))) : w.heap.size ≤ gb190)); have n5_ := Aside0.mk ((by rw [hg]; exact Nat.ne_of_lt (blk_lt (g := gb189) (o := .cells #[.int .i64 a0_0, .int .i64 a0_1, .int .i64 a0_2, .int .i64 a0_3, .int .i64 a0_4, .int .i64 a0_5, .int .i64 a0_6, .int .i64 a0_7] 40 (0, 0)) (by (with_reducible repeat (first | refine zL ?_ _ | refine zM ?_ | refine zK ?_ _)); exact BK189.out)) : gb189 ≠ gb190)); have n6_ := Aside0.mk ((by rw [hg]; exact Nat.ne_of_gt (blk_lt (g := gb189) (o := .cells #[.int .i64 a0_0, .int .i64 a0_1, .int .i64 a0_2, .int .i64 a0_3, .int .i64 a0_4, .int .i64 a0_5, .int .i64 a0_6, .int .i64 a0_7] 40 (0, 0)) (by (with_reducible repeat (first | refine zL ?_ _ | refine zM ?_ | refine zK ?_ _)); exact BK189.out)) : gb190 ≠ gb189)); clear BK189; clear HB; have BK189 := n0_; have HB := n1_; have BK190 := n2_; have GW190 := n3_; have GE190 := n4_; have NB189_190 := n5_; have NB190_189 := n6_; clear n0_ n1_ n2_ n3_ n4_ n5_ n6_; clear hb hbox hg; have hnb43 := NB189_190.out; have hnc43 := NB190_189.out; have hcz44_0 : w42.cell? ⟨gb189, 0, none⟩ = some (.int .i64 a0_0) := (zP BK189.out 0).trans rfl; have hcz44_1 : w42.cell? ⟨gb189, 1, none⟩ = some (.int .i64 a0_1) := (zP BK189.out 1).trans rfl; have hcz44_2 : w42.cell? ⟨gb189, 2, none⟩ = some (.int .i64 a0_2) := (zP BK189.out 2).trans rfl; have hcz44_3 : w42.cell? ⟨gb189, 3, none⟩ = some (.int .i64 a0_3) := (zP BK189.out 3).trans rfl; have hcz44_4 : w42.cell? ⟨gb189, 4, none⟩ = some (.int .i64 a0_4) := (zP BK189.out 4).trans rfl; have hcz44_5 : w42.cell? ⟨gb189, 5, none⟩ = some (.int .i64 a0_5) := (zP BK189.out 5).trans rfl; have hcz44_6 : w42.cell? ⟨gb189, 6, none⟩ = some (.int .i64 a0_6) := (zP BK189.out 6).trans rfl; have hcz44_7 : w42.cell? ⟨gb189, 7, none⟩ = some (.int .i64 a0_7) := (zP BK189.out 7).trans rfl; have hfz44_0 := zQ BK189.out 0; have hfz44_1 := zQ BK189.out 1; have hfz44_2 := zQ BK189.out 2; have hfz44_3 := zQ BK189.out 3; have hfz44_4 := zQ BK189.out 4; have hfz44_5 := zQ BK189.out 5; have hfz44_6 := zQ BK189.out 6; have hfz44_7 := zQ BK189.out 7; have hcz45_0 : w42.cell? ⟨gb190, 0, none⟩ = some (.int .i64 a1_0) := (zP BK190.out 0).trans rfl; have hcz45_1 : w42.cell? ⟨gb190, 1, none⟩ = some (.int .i64 a1_1) := (zP BK190.out 1).trans rfl; have hcz45_2 : w42.cell? ⟨gb190, 2, none⟩ = some (.int .i64 a1_2) := (zP BK190.out 2).trans rfl; have hcz45_3 : w42.cell? ⟨gb190, 3, none⟩ = some (.int .i64 a1_3) := (zP BK190.out 3).trans rfl; have hcz45_4 : w42.cell? ⟨gb190, 4, none⟩ = some (.int .i64 a1_4) := (zP BK190.out 4).trans rfl; have hcz45_5 : w42.cell? ⟨gb190, 5, none⟩ = some (.int .i64 a1_5) := (zP BK190.out 5).trans rfl; have hcz45_6 : w42.cell? ⟨gb190, 6, none⟩ = some (.int .i64 a1_6) := (zP BK190.out 6).trans rfl; have hcz45_7 : w42.cell? ⟨gb190, 7, none⟩ = some (.int .i64 a1_7) := (zP BK190.out 7).trans rfl; have hfz45_0 := zQ BK190.out 0; have hfz45_1 := zQ BK190.out 1; have hfz45_2 := zQ BK190.out 2; have hfz45_3 := zQ BK190.out 3; have hfz45_4 := zQ BK190.out 4; have hfz45_5 := zQ BK190.out 5; have hfz45_6 := zQ BK190.out 6; have hfz45_7 := zQ BK190.out 7))
        go_ret
        exact ⟨by first | rfl | (simp [errW_none, errW_some] <;> rfl) | (simp [*, errW_none, errW_some] <;> rfl), by repeat (first | (with_reducible first | exact HB.out | apply zO | apply zA | apply zN | refine zB ?_ GE189.out | refine zB ?_ GE190.out) | exact HB.out)⟩
    · rw [if_neg c4] at H
      have c4b0 : (a0_1 == a1_1) = false := beq_eq_false_iff_ne.mpr c4
      have c4b1 : (a0_1 != a1_1) = true := bne_iff_ne.mpr c4
      obtain rfl := Option.some.inj H
      go_enter Try.func69, Try.ntmps69
      go_wp2_with (first | ((with_reducible refine gate_dst (N := 2) rfl ?_); refine box_event ?hg (N := 2) ?hd (cs := #[.int .i64 a0_0, .int .i64 a0_1, .int .i64 a0_2, .int .i64 a0_3, .int .i64 a0_4, .int .i64 a0_5, .int .i64 a0_6, .int .i64 a0_7]) (t := 40) ?hr ?_; (case hd => rfl); (case hg => rfl); (case hr => first | (go_simp; done) | (go_simp; rfl)); intro gb189 hg w46 hbox hb; have n0_ := Aside0.mk (zS (by repeat (first | (with_reducible first | exact HB.out | apply zO | apply zA | apply zN) | exact HB.out)) hb); have n1_ := Aside0.mk (hbox); have n2_ := Aside0.mk ((by rw [hg]; exact (zT (by repeat (first | (with_reducible first | exact HB.out | apply zO | apply zA | apply zN) | exact HB.out))) : w.heap.size ≤ gb189)); have n3_ := Aside0.mk ((by rw [hg]; exact (zT (by repeat (first | (with_reducible first | exact HB.out | apply zO | apply zA | apply zN) | exact HB.out))) : w.heap.size ≤ gb189)); clear HB; have HB := n0_; have BK189 := n1_; have GW189 := n2_; have GE189 := n3_; clear n0_ n1_ n2_ n3_; clear hb hbox hg) | ((with_reducible refine gate_dst (N := 3) rfl ?_); refine box_event ?hg (N := 3) ?hd (cs := #[.int .i64 a1_0, .int .i64 a1_1, .int .i64 a1_2, .int .i64 a1_3, .int .i64 a1_4, .int .i64 a1_5, .int .i64 a1_6, .int .i64 a1_7]) (t := 40) ?hr ?_; (case hd => rfl); (case hg => rfl); (case hr => first | (go_simp; done) | (go_simp; rfl)); intro gb190 hg w47 hbox hb; have n0_ := Aside0.mk (zR (g := gb189) (o := .cells #[.int .i64 a0_0, .int .i64 a0_1, .int .i64 a0_2, .int .i64 a0_3, .int .i64 a0_4, .int .i64 a0_5, .int .i64 a0_6, .int .i64 a0_7] 40 (0, 0)) (by (with_reducible repeat (first | refine zL ?_ _ | refine zM ?_ | refine zK ?_ _)); exact BK189.out) hb); have n1_ := Aside0.mk (zS (by repeat (first | (with_reducible first | exact HB.out | apply zO | apply zA | apply zN | refine zB ?_ GE189.out) | exact HB.out)) hb); have n2_ := Aside0.mk (hbox); have n3_ := Aside0.mk ((by rw [hg]; exact (zT (by repeat (first | (with_reducible first | exact HB.out | apply zO | apply zA | apply zN | refine zB ?_ GE189.out) | exact HB.out))) : w.heap.size ≤ gb190)); have n4_ := Aside0.mk ((by rw [hg]; exact (zT (by repeat (first | (with_reducible first | exact HB.out | apply zO | apply zA | apply zN | refine zB ?_ GE189.out) | exact HB.out))) : w.heap.size ≤ gb190)); have n5_ := Aside0.mk ((by rw [hg]; exact Nat.ne_of_lt (blk_lt (g := gb189) (o := .cells #[.int .i64 a0_0, .int .i64 a0_1, .int .i64 a0_2, .int .i64 a0_3, .int .i64 a0_4, .int .i64 a0_5, .int .i64 a0_6, .int .i64 a0_7] 40 (0, 0)) (by (with_reducible repeat (first | refine zL ?_ _ | refine zM ?_ | refine zK ?_ _)); exact BK189.out)) : gb189 ≠ gb190)); have n6_ := Aside0.mk ((by rw [hg]; exact Nat.ne_of_gt (blk_lt (g := gb189) (o := .cells #[.int .i64 a0_0, .int .i64 a0_1, .int .i64 a0_2, .int .i64 a0_3, .int .i64 a0_4, .int .i64 a0_5, .int .i64 a0_6, .int .i64 a0_7] 40 (0, 0)) (by (with_reducible repeat (first | refine zL ?_ _ | refine zM ?_ | refine zK ?_ _)); exact BK189.out)) : gb190 ≠ gb189)); clear BK189; clear HB; have BK189 := n0_; have HB := n1_; have BK190 := n2_; have GW190 := n3_; have GE190 := n4_; have NB189_190 := n5_; have NB190_189 := n6_; clear n0_ n1_ n2_ n3_ n4_ n5_ n6_; clear hb hbox hg; have hnb48 := NB189_190.out; have hnc48 := NB190_189.out; have hcz49_0 : w47.cell? ⟨gb189, 0, none⟩ = some (.int .i64 a0_0) := (zP BK189.out 0).trans rfl; have hcz49_1 : w47.cell? ⟨gb189, 1, none⟩ = some (.int .i64 a0_1) := (zP BK189.out 1).trans rfl; have hcz49_2 : w47.cell? ⟨gb189, 2, none⟩ = some (.int .i64 a0_2) := (zP BK189.out 2).trans rfl; have hcz49_3 : w47.cell? ⟨gb189, 3, none⟩ = some (.int .i64 a0_3) := (zP BK189.out 3).trans rfl; have hcz49_4 : w47.cell? ⟨gb189, 4, none⟩ = some (.int .i64 a0_4) := (zP BK189.out 4).trans rfl; have hcz49_5 : w47.cell? ⟨gb189, 5, none⟩ = some (.int .i64 a0_5) := (zP BK189.out 5).trans rfl; have hcz49_6 : w47.cell? ⟨gb189, 6, none⟩ = some (.int .i64 a0_6) := (zP BK189.out 6).trans rfl; have hcz49_7 : w47.cell? ⟨gb189, 7, none⟩ = some (.int .i64 a0_7) := (zP BK189.out 7).trans rfl; have hfz49_0 := zQ BK189.out 0; have hfz49_1 := zQ BK189.out 1; have hfz49_2 := zQ BK189.out 2; have hfz49_3 := zQ BK189.out 3; have hfz49_4 := zQ BK189.out 4; have hfz49_5 := zQ BK189.out 5; have hfz49_6 := zQ BK189.out 6; have hfz49_7 := zQ BK189.out 7; have hcz50_0 : w47.cell? ⟨gb190, 0, none⟩ = some (.int .i64 a1_0) := (zP BK190.out 0).trans rfl; have hcz50_1 : w47.cell? ⟨gb190, 1, none⟩ = some (.int .i64 a1_1) := (zP BK190.out 1).trans rfl; have hcz50_2 : w47.cell? ⟨gb190, 2, none⟩ = some (.int .i64 a1_2) := (zP BK190.out 2).trans rfl; have hcz50_3 : w47.cell? ⟨gb190, 3, none⟩ = some (.int .i64 a1_3) := (zP BK190.out 3).trans rfl; have hcz50_4 : w47.cell? ⟨gb190, 4, none⟩ = some (.int .i64 a1_4) := (zP BK190.out 4).trans rfl; have hcz50_5 : w47.cell? ⟨gb190, 5, none⟩ = some (.int .i64 a1_5) := (zP BK190.out 5).trans rfl; have hcz50_6 : w47.cell? ⟨gb190, 6, none⟩ = some (.int .i64 a1_6) := (zP BK190.out 6).trans rfl; have hcz50_7 : w47.cell? ⟨gb190, 7, none⟩ = some (.int .i64 a1_7) := (zP BK190.out 7).trans rfl; have hfz50_0 := zQ BK190.out 0; have hfz50_1 := zQ BK190.out 1; have hfz50_2 := zQ BK190.out 2; have hfz50_3 := zQ BK190.out 3; have hfz50_4 := zQ BK190.out 4; have hfz50_5 := zQ BK190.out 5; have hfz50_6 := zQ BK190.out 6; have hfz50_7 := zQ BK190.out 7))
      go_ret
      exact ⟨by first | rfl | (simp [errW_none, errW_some] <;> rfl) | (simp [*, errW_none, errW_some] <;> rfl), by repeat (first | (with_reducible first | exact HB.out | apply zO | apply zA | apply zN | refine zB ?_ GE189.out | refine zB ?_ GE190.out) | exact HB.out)⟩
  · rw [if_neg c3] at H
    have c3b0 : (a0_0 == a1_0) = false := beq_eq_false_iff_ne.mpr c3
    have c3b1 : (a0_0 != a1_0) = true := bne_iff_ne.mpr c3
    obtain rfl := Option.some.inj H
    go_enter Try.func69, Try.ntmps69
    go_wp2_with (first | ((with_reducible refine gate_dst (N := 2) rfl ?_); refine box_event ?hg (N := 2) ?hd (cs := #[.int .i64 a0_0, .int .i64 a0_1, .int .i64 a0_2, .int .i64 a0_3, .int .i64 a0_4, .int .i64 a0_5, .int .i64 a0_6, .int .i64 a0_7]) (t := 40) ?hr ?_; (case hd => rfl); (case hg => rfl); (case hr => first | (go_simp; done) | (go_simp; rfl)); intro gb189 hg w51 hbox hb; have n0_ := Aside0.mk (zS (by repeat (first | (with_reducible first | exact HB.out | apply zO | apply zA | apply zN) | exact HB.out)) hb); have n1_ := Aside0.mk (hbox); have n2_ := Aside0.mk ((by rw [hg]; exact (zT (by repeat (first | (with_reducible first | exact HB.out | apply zO | apply zA | apply zN) | exact HB.out))) : w.heap.size ≤ gb189)); have n3_ := Aside0.mk ((by rw [hg]; exact (zT (by repeat (first | (with_reducible first | exact HB.out | apply zO | apply zA | apply zN) | exact HB.out))) : w.heap.size ≤ gb189)); clear HB; have HB := n0_; have BK189 := n1_; have GW189 := n2_; have GE189 := n3_; clear n0_ n1_ n2_ n3_; clear hb hbox hg) | ((with_reducible refine gate_dst (N := 3) rfl ?_); refine box_event ?hg (N := 3) ?hd (cs := #[.int .i64 a1_0, .int .i64 a1_1, .int .i64 a1_2, .int .i64 a1_3, .int .i64 a1_4, .int .i64 a1_5, .int .i64 a1_6, .int .i64 a1_7]) (t := 40) ?hr ?_; (case hd => rfl); (case hg => rfl); (case hr => first | (go_simp; done) | (go_simp; rfl)); intro gb190 hg w52 hbox hb; have n0_ := Aside0.mk (zR (g := gb189) (o := .cells #[.int .i64 a0_0, .int .i64 a0_1, .int .i64 a0_2, .int .i64 a0_3, .int .i64 a0_4, .int .i64 a0_5, .int .i64 a0_6, .int .i64 a0_7] 40 (0, 0)) (by (with_reducible repeat (first | refine zL ?_ _ | refine zM ?_ | refine zK ?_ _)); exact BK189.out) hb); have n1_ := Aside0.mk (zS (by repeat (first | (with_reducible first | exact HB.out | apply zO | apply zA | apply zN | refine zB ?_ GE189.out) | exact HB.out)) hb); have n2_ := Aside0.mk (hbox); have n3_ := Aside0.mk ((by rw [hg]; exact (zT (by repeat (first | (with_reducible first | exact HB.out | apply zO | apply zA | apply zN | refine zB ?_ GE189.out) | exact HB.out))) : w.heap.size ≤ gb190)); have n4_ := Aside0.mk ((by rw [hg]; exact (zT (by repeat (first | (with_reducible first | exact HB.out | apply zO | apply zA | apply zN | refine zB ?_ GE189.out) | exact HB.out))) : w.heap.size ≤ gb190)); have n5_ := Aside0.mk ((by rw [hg]; exact Nat.ne_of_lt (blk_lt (g := gb189) (o := .cells #[.int .i64 a0_0, .int .i64 a0_1, .int .i64 a0_2, .int .i64 a0_3, .int .i64 a0_4, .int .i64 a0_5, .int .i64 a0_6, .int .i64 a0_7] 40 (0, 0)) (by (with_reducible repeat (first | refine zL ?_ _ | refine zM ?_ | refine zK ?_ _)); exact BK189.out)) : gb189 ≠ gb190)); have n6_ := Aside0.mk ((by rw [hg]; exact Nat.ne_of_gt (blk_lt (g := gb189) (o := .cells #[.int .i64 a0_0, .int .i64 a0_1, .int .i64 a0_2, .int .i64 a0_3, .int .i64 a0_4, .int .i64 a0_5, .int .i64 a0_6, .int .i64 a0_7] 40 (0, 0)) (by (with_reducible repeat (first | refine zL ?_ _ | refine zM ?_ | refine zK ?_ _)); exact BK189.out)) : gb190 ≠ gb189)); clear BK189; clear HB; have BK189 := n0_; have HB := n1_; have BK190 := n2_; have GW190 := n3_; have GE190 := n4_; have NB189_190 := n5_; have NB190_189 := n6_; clear n0_ n1_ n2_ n3_ n4_ n5_ n6_; clear hb hbox hg; have hnb53 := NB189_190.out; have hnc53 := NB190_189.out; have hcz54_0 : w52.cell? ⟨gb189, 0, none⟩ = some (.int .i64 a0_0) := (zP BK189.out 0).trans rfl; have hcz54_1 : w52.cell? ⟨gb189, 1, none⟩ = some (.int .i64 a0_1) := (zP BK189.out 1).trans rfl; have hcz54_2 : w52.cell? ⟨gb189, 2, none⟩ = some (.int .i64 a0_2) := (zP BK189.out 2).trans rfl; have hcz54_3 : w52.cell? ⟨gb189, 3, none⟩ = some (.int .i64 a0_3) := (zP BK189.out 3).trans rfl; have hcz54_4 : w52.cell? ⟨gb189, 4, none⟩ = some (.int .i64 a0_4) := (zP BK189.out 4).trans rfl; have hcz54_5 : w52.cell? ⟨gb189, 5, none⟩ = some (.int .i64 a0_5) := (zP BK189.out 5).trans rfl; have hcz54_6 : w52.cell? ⟨gb189, 6, none⟩ = some (.int .i64 a0_6) := (zP BK189.out 6).trans rfl; have hcz54_7 : w52.cell? ⟨gb189, 7, none⟩ = some (.int .i64 a0_7) := (zP BK189.out 7).trans rfl; have hfz54_0 := zQ BK189.out 0; have hfz54_1 := zQ BK189.out 1; have hfz54_2 := zQ BK189.out 2; have hfz54_3 := zQ BK189.out 3; have hfz54_4 := zQ BK189.out 4; have hfz54_5 := zQ BK189.out 5; have hfz54_6 := zQ BK189.out 6; have hfz54_7 := zQ BK189.out 7; have hcz55_0 : w52.cell? ⟨gb190, 0, none⟩ = some (.int .i64 a1_0) := (zP BK190.out 0).trans rfl; have hcz55_1 : w52.cell? ⟨gb190, 1, none⟩ = some (.int .i64 a1_1) := (zP BK190.out 1).trans rfl; have hcz55_2 : w52.cell? ⟨gb190, 2, none⟩ = some (.int .i64 a1_2) := (zP BK190.out 2).trans rfl; have hcz55_3 : w52.cell? ⟨gb190, 3, none⟩ = some (.int .i64 a1_3) := (zP BK190.out 3).trans rfl; have hcz55_4 : w52.cell? ⟨gb190, 4, none⟩ = some (.int .i64 a1_4) := (zP BK190.out 4).trans rfl; have hcz55_5 : w52.cell? ⟨gb190, 5, none⟩ = some (.int .i64 a1_5) := (zP BK190.out 5).trans rfl; have hcz55_6 : w52.cell? ⟨gb190, 6, none⟩ = some (.int .i64 a1_6) := (zP BK190.out 6).trans rfl; have hcz55_7 : w52.cell? ⟨gb190, 7, none⟩ = some (.int .i64 a1_7) := (zP BK190.out 7).trans rfl; have hfz55_0 := zQ BK190.out 0; have hfz55_1 := zQ BK190.out 1; have hfz55_2 := zQ BK190.out 2; have hfz55_3 := zQ BK190.out 3; have hfz55_4 := zQ BK190.out 4; have hfz55_5 := zQ BK190.out 5; have hfz55_6 := zQ BK190.out 6; have hfz55_7 := zQ BK190.out 7))
    go_ret
    exact ⟨by first | rfl | (simp [errW_none, errW_some] <;> rfl) | (simp [*, errW_none, errW_some] <;> rfl), by repeat (first | (with_reducible first | exact HB.out | apply zO | apply zA | apply zN | refine zB ?_ GE189.out | refine zB ?_ GE190.out) | exact HB.out)⟩

/-! ### laws_eqWantS: function 31 -/
def laws_eqWantS.l0 : Nat → List (S40) → List (S40) → Int → Option (Bool)
  | 0, _, _, _ => none
  | k + 1, x0, x1, x5 => if x5 < (x0.length : Int) then (if 0 ≤ x5 then (if x5 < (x1.length : Int) then ((laws_eqWant.f ((rd_T40 x0 x5).f0) ((rd_T40 x0 x5).f1) ((rd_T40 x0 x5).f2) ((rd_T40 x0 x5).f3) ((rd_T40 x0 x5).f4) ((rd_T40 x0 x5).f5) ((rd_T40 x0 x5).f6) ((rd_T40 x0 x5).f7) ((rd_T40 x1 x5).f0) ((rd_T40 x1 x5).f1) ((rd_T40 x1 x5).f2) ((rd_T40 x1 x5).f3) ((rd_T40 x1 x5).f4) ((rd_T40 x1 x5).f5) ((rd_T40 x1 x5).f6) ((rd_T40 x1 x5).f7)).bind fun t193 => (if t193 = true then (laws_eqWantS.l0 k x0 x1 (wrap64 (x5 + 1))) else (some false))) else (none)) else (none)) else (some true)
def laws_eqWantS.f (k : Nat) (l0 : List (S40)) (l1 : List (S40)) : Option (Bool) := if (l0.length : Int) = (l1.length : Int) then (laws_eqWantS.l0 k l0 l1 0) else (some false)
theorem laws_eqWantS.mono_l : ∀ k, (∀ y0 y1 y2, LeO (laws_eqWantS.l0 k y0 y1 y2) (laws_eqWantS.l0 (k + 1) y0 y1 y2))
  | 0 => fun _ _ _ r h => by simp [laws_eqWantS.l0] at h
  | k + 1 => by
    have ih0 := laws_eqWantS.mono_l k
    · intro y0 y1 y2
      unfold laws_eqWantS.l0
      repeat' first
      | (with_reducible exact ih0 _ _ _)
      | (with_reducible exact LeO.refl _)
      | (with_reducible exact LeO.none _)
      | (with_reducible refine LeO.ite ?_ ?_)
      | (with_reducible refine LeO.bind ?_ (fun _ => ?_))
      | exact ih0 _ _ _
      | exact LeO.none _
      | refine LeO.ite ?_ ?_
      | refine LeO.bind ?_ (fun _ => ?_)
theorem laws_eqWantS.mono : ∀ a0 a1 k, LeO (laws_eqWantS.f k a0 a1) (laws_eqWantS.f (k + 1) a0 a1) := by
  intro a0 a1 k
  have ih0 := laws_eqWantS.mono_l k
  unfold laws_eqWantS.f
  repeat' first
      | (with_reducible exact ih0 _ _ _)
      | (with_reducible exact LeO.refl _)
      | (with_reducible exact LeO.none _)
      | (with_reducible refine LeO.ite ?_ ?_)
      | (with_reducible refine LeO.bind ?_ (fun _ => ?_))
      | exact ih0 _ _ _
      | exact LeO.none _
      | refine LeO.ite ?_ ?_
      | refine LeO.bind ?_ (fun _ => ?_)
def laws_eqWantS.T6 : Bool × List (List Nat × List Nat) := (true, [([], []), ([], []), ([0, 1], [0, 1]), ([2], [2]), ([], []), ([], []), ([4, 5], [4, 5]), ([6], [6]), ([3, 7], [3, 7]), ([8], [8])])
def laws_eqWantS.B6 : List Nat := [0, 0, 3, 7, 0, 0, 48, 112, 255, 511]
theorem laws_eqWantS.tab6 : rtab .any (opsOf Try.f31 6) = laws_eqWantS.T6 := by kernel_rfl
theorem laws_eqWantS.bits6 : waitsOk laws_eqWantS.T6.2 laws_eqWantS.B6 = true := by kernel_rfl
set_option maxHeartbeats 8000000 in
set_option maxRecDepth 100000 in
theorem laws_eqWantS.calls (k : Nat) (A0 : Option Addr) (c0 : Nat) (l0 : List (S40)) (A1 : Option Addr) (c1 : Nat) (l1 : List (S40)) (r : Bool) (w : World) (hr0 : Kd.C k40 w A0 l0.length l0) (hc0 : l0.length ≤ c0) (hr1 : Kd.C k40 w A1 l1.length l1) (hc1 : l1.length ≤ c1) (h : laws_eqWantS.f k l0 l1 = some r) :
    Calls Try.prog 31 #[.slice A0 l0.length c0, .slice A1 l1.length c1] w fun e w' => e = .returned (.bool r) ∧ Below w.heap.size w w' := by
  have hu40 := Try.underlying40
  have HR0 := Aside0.mk hr0
  have HC0 := Aside0.mk hc0
  clear hr0 hc0
  have HR1 := Aside0.mk hr1
  have HC1 := Aside0.mk hc1
  clear hr1 hc1
  have HB := Aside0.mk (Below.refl w.heap.size w)
  have H : (if (l0.length : Int) = (l1.length : Int) then (laws_eqWantS.l0 k l0 l1 0) else (some false)) = some r := h
  clear h
  by_cases c3 : (l0.length : Int) = (l1.length : Int)
  · rw [if_pos c3] at H
    have c3b0 : ((l0.length : Int) == (l1.length : Int)) = true := beq_iff_eq.mpr c3
    have c3b1 : ((l0.length : Int) != (l1.length : Int)) = false := bne_eq_false_iff_eq.mpr c3
    have c3b2 : (l0.length == l1.length) = true := by first | simpa using c3 | (simp at c3 ⊢; omega)
    clear c3
    have H' := Aside0.mk H
    clear H
    go_enter Try.func31, Try.ntmps31
    go_wp2
    go_loopg [5] k (fun kq v5 w' => ∃ (x5_1 : Int), v5 = .int .i64 x5_1 ∧ Aside0 (laws_eqWantS.l0 kq l0 l1 x5_1 = some r) ∧ Aside0 (kq ≤ k) ∧ Aside0 (Below w.heap.size w w'))
    case atStart => exact ⟨(0), (by first | rfl | (simp; done) | (simp [*]; done)), H', ⟨Nat.le_refl _⟩, ⟨by repeat (first | (with_reducible first | exact HB.out | apply zO | apply zA | apply zN) | exact HB.out)⟩⟩
    case round =>
      clear H'
      try clear c1
      try clear p2
      try clear c3
      try clear c3b0
      try clear c3b1
      try clear c3b2
      obtain ⟨x5_1, rfl, HA, HK1, HB⟩ := hrel
      cases gk with
      | zero => exact absurd HA.out (by simp [laws_eqWantS.l0])
      | succ k1 =>
        have H := HA.out
        clear HA
        simp only [laws_eqWantS.l0] at H
        by_cases c4 : x5_1 < (l0.length : Int)
        · rw [if_pos c4] at H
          have c4b0 : decide (x5_1 < (l0.length : Int)) = true := decide_eq_true c4
          clear c4
          by_cases c5 : 0 ≤ x5_1
          · rw [if_pos c5] at H
            have c5b0 : decide (0 ≤ x5_1) = true := decide_eq_true c5
            clear c5
            by_cases c6 : x5_1 < (l1.length : Int)
            · rw [if_pos c6] at H
              have c6b0 : decide (x5_1 < (l1.length : Int)) = true := decide_eq_true c6
              clear c6
              replace H := Option.bind_eq_some_iff.mp H
              obtain ⟨t193, A70, H⟩ := H
              replace H : (if t193 = true then (laws_eqWantS.l0 k1 l0 l1 (wrap64 (x5_1 + 1))) else (some false)) = some r := H
              have A7 := Aside0.mk A70
              clear A70
              by_cases c8 : t193 = true
              · subst c8
                have H1 : (laws_eqWantS.l0 k1 l0 l1 (wrap64 (x5_1 + 1))) = some r := by rw [if_pos rfl] at H; exact H
                clear H
                have H := H1
                clear H1
                have H' := Aside0.mk H
                clear H
                try go_wp2
                have n0_ := Aside0.mk (zN HB.out)
                clear HB
                have HB := n0_
                clear n0_
                have p191 : 0 ≤ (x5_1 : Int) := of_decide_eq_true (by first | (with_reducible assumption) | assumption)
                have q191 : x5_1 < (l0.length : Int) := of_decide_eq_true (by first | (with_reducible assumption) | assumption)
                obtain ⟨ad191, e191, hx191_0, hx191_1, hx191_2, hx191_3, hx191_4, hx191_5, hx191_6, hx191_7⟩ := at_T40 HR0.out x5_1 p191 q191
                have hw191_7 := hx191_7
                have hw191_6 := hx191_6
                have hw191_5 := hx191_5
                have hw191_4 := hx191_4
                have hw191_3 := hx191_3
                have hw191_2 := hx191_2
                have hw191_1 := hx191_1
                have hw191_0 := hx191_0
                cases e191
                replace hx191_0 := (HB.out.cell (World.block_lt_of_cell? w _ hx191_0)).trans hx191_0
                replace hx191_1 := (HB.out.cell (World.block_lt_of_cell? w _ hx191_1)).trans hx191_1
                replace hx191_2 := (HB.out.cell (World.block_lt_of_cell? w _ hx191_2)).trans hx191_2
                replace hx191_3 := (HB.out.cell (World.block_lt_of_cell? w _ hx191_3)).trans hx191_3
                replace hx191_4 := (HB.out.cell (World.block_lt_of_cell? w _ hx191_4)).trans hx191_4
                replace hx191_5 := (HB.out.cell (World.block_lt_of_cell? w _ hx191_5)).trans hx191_5
                replace hx191_6 := (HB.out.cell (World.block_lt_of_cell? w _ hx191_6)).trans hx191_6
                replace hx191_7 := (HB.out.cell (World.block_lt_of_cell? w _ hx191_7)).trans hx191_7
                replace p191 := eq_true p191
                replace q191 := eq_true q191
                have p192 : 0 ≤ (x5_1 : Int) := of_decide_eq_true (by first | (with_reducible assumption) | assumption)
                have q192 : x5_1 < (l1.length : Int) := of_decide_eq_true (by first | (with_reducible assumption) | assumption)
                obtain ⟨ad192, e192, hx192_0, hx192_1, hx192_2, hx192_3, hx192_4, hx192_5, hx192_6, hx192_7⟩ := at_T40 HR1.out x5_1 p192 q192
                have hw192_7 := hx192_7
                have hw192_6 := hx192_6
                have hw192_5 := hx192_5
                have hw192_4 := hx192_4
                have hw192_3 := hx192_3
                have hw192_2 := hx192_2
                have hw192_1 := hx192_1
                have hw192_0 := hx192_0
                cases e192
                replace hx192_0 := (HB.out.cell (World.block_lt_of_cell? w _ hx192_0)).trans hx192_0
                replace hx192_1 := (HB.out.cell (World.block_lt_of_cell? w _ hx192_1)).trans hx192_1
                replace hx192_2 := (HB.out.cell (World.block_lt_of_cell? w _ hx192_2)).trans hx192_2
                replace hx192_3 := (HB.out.cell (World.block_lt_of_cell? w _ hx192_3)).trans hx192_3
                replace hx192_4 := (HB.out.cell (World.block_lt_of_cell? w _ hx192_4)).trans hx192_4
                replace hx192_5 := (HB.out.cell (World.block_lt_of_cell? w _ hx192_5)).trans hx192_5
                replace hx192_6 := (HB.out.cell (World.block_lt_of_cell? w _ hx192_6)).trans hx192_6
                replace hx192_7 := (HB.out.cell (World.block_lt_of_cell? w _ hx192_7)).trans hx192_7
                replace p192 := eq_true p192
                replace q192 := eq_true q192
                refine start_ (n := 10) (S := fun w' => w'.cell? (ad191.add ((x5_1).toNat * 8)) = some (.int .i64 ((rd_T40 l0 x5_1).f0)) ∧ w'.cell? ⟨(ad191.add ((x5_1).toNat * 8)).block, (ad191.add ((x5_1).toNat * 8)).off + 1, none⟩ = some (.int .i64 ((rd_T40 l0 x5_1).f1)) ∧ w'.cell? ⟨(ad191.add ((x5_1).toNat * 8)).block, (ad191.add ((x5_1).toNat * 8)).off + 2, none⟩ = some (.int .i64 ((rd_T40 l0 x5_1).f2)) ∧ w'.cell? ⟨(ad191.add ((x5_1).toNat * 8)).block, (ad191.add ((x5_1).toNat * 8)).off + 3, none⟩ = some (.int .i64 ((rd_T40 l0 x5_1).f3)) ∧ w'.cell? ⟨(ad191.add ((x5_1).toNat * 8)).block, (ad191.add ((x5_1).toNat * 8)).off + 4, none⟩ = some (.int .i64 ((rd_T40 l0 x5_1).f4)) ∧ w'.cell? ⟨(ad191.add ((x5_1).toNat * 8)).block, (ad191.add ((x5_1).toNat * 8)).off + 5, none⟩ = some (.int .i64 ((rd_T40 l0 x5_1).f5)) ∧ w'.cell? ⟨(ad191.add ((x5_1).toNat * 8)).block, (ad191.add ((x5_1).toNat * 8)).off + 6, none⟩ = some (.int .i64 ((rd_T40 l0 x5_1).f6)) ∧ w'.cell? ⟨(ad191.add ((x5_1).toNat * 8)).block, (ad191.add ((x5_1).toNat * 8)).off + 7, none⟩ = some (.int .i64 ((rd_T40 l0 x5_1).f7)) ∧ w'.cell? (ad192.add ((x5_1).toNat * 8)) = some (.int .i64 ((rd_T40 l1 x5_1).f0)) ∧ w'.cell? ⟨(ad192.add ((x5_1).toNat * 8)).block, (ad192.add ((x5_1).toNat * 8)).off + 1, none⟩ = some (.int .i64 ((rd_T40 l1 x5_1).f1)) ∧ w'.cell? ⟨(ad192.add ((x5_1).toNat * 8)).block, (ad192.add ((x5_1).toNat * 8)).off + 2, none⟩ = some (.int .i64 ((rd_T40 l1 x5_1).f2)) ∧ w'.cell? ⟨(ad192.add ((x5_1).toNat * 8)).block, (ad192.add ((x5_1).toNat * 8)).off + 3, none⟩ = some (.int .i64 ((rd_T40 l1 x5_1).f3)) ∧ w'.cell? ⟨(ad192.add ((x5_1).toNat * 8)).block, (ad192.add ((x5_1).toNat * 8)).off + 4, none⟩ = some (.int .i64 ((rd_T40 l1 x5_1).f4)) ∧ w'.cell? ⟨(ad192.add ((x5_1).toNat * 8)).block, (ad192.add ((x5_1).toNat * 8)).off + 5, none⟩ = some (.int .i64 ((rd_T40 l1 x5_1).f5)) ∧ w'.cell? ⟨(ad192.add ((x5_1).toNat * 8)).block, (ad192.add ((x5_1).toNat * 8)).off + 6, none⟩ = some (.int .i64 ((rd_T40 l1 x5_1).f6)) ∧ w'.cell? ⟨(ad192.add ((x5_1).toNat * 8)).block, (ad192.add ((x5_1).toNat * 8)).off + 7, none⟩ = some (.int .i64 ((rd_T40 l1 x5_1).f7))) (ds := []) #[false, false, false, false, false, false, false, false, false, false] (by kernel_rfl) rfl rfl ⟨((HB.out.cell (World.block_lt_of_cell? w _ hw191_0)).trans hw191_0), ((HB.out.cell (World.block_lt_of_cell? w _ hw191_1)).trans hw191_1), ((HB.out.cell (World.block_lt_of_cell? w _ hw191_2)).trans hw191_2), ((HB.out.cell (World.block_lt_of_cell? w _ hw191_3)).trans hw191_3), ((HB.out.cell (World.block_lt_of_cell? w _ hw191_4)).trans hw191_4), ((HB.out.cell (World.block_lt_of_cell? w _ hw191_5)).trans hw191_5), ((HB.out.cell (World.block_lt_of_cell? w _ hw191_6)).trans hw191_6), ((HB.out.cell (World.block_lt_of_cell? w _ hw191_7)).trans hw191_7), ((HB.out.cell (World.block_lt_of_cell? w _ hw192_0)).trans hw192_0), ((HB.out.cell (World.block_lt_of_cell? w _ hw192_1)).trans hw192_1), ((HB.out.cell (World.block_lt_of_cell? w _ hw192_2)).trans hw192_2), ((HB.out.cell (World.block_lt_of_cell? w _ hw192_3)).trans hw192_3), ((HB.out.cell (World.block_lt_of_cell? w _ hw192_4)).trans hw192_4), ((HB.out.cell (World.block_lt_of_cell? w _ hw192_5)).trans hw192_5), ((HB.out.cell (World.block_lt_of_cell? w _ hw192_6)).trans hw192_6), ((HB.out.cell (World.block_lt_of_cell? w _ hw192_7)).trans hw192_7)⟩ (fun hHeld => ?_); refine with_tabW laws_eqWantS.tab6 laws_eqWantS.bits6 (fun HT_ HW_ => ?_)
                generalize wr.drew = w9 at HB hx191_0 hx191_1 hx191_2 hx191_3 hx191_4 hx191_5 hx191_6 hx191_7 hx192_0 hx192_1 hx192_2 hx192_3 hx192_4 hx192_5 hx192_6 hx192_7 hHeld ⊢
                refine pure_ (i := 0) (N := some 17) (v := ?_) (a' := ?_) #[true, false, false, false, false, false, false, false, false, false] rfl rfl (any_of HT_.out (by kernel_rfl)) (fun _ _ _ h => h) (Or.inl ⟨by rfl, ?_⟩) ?_ ?_
                rotate_left
                · intro w'
                  go_simp
                  with_reducible rfl
                rotate_left
                · simp only [Act.put, List.setIfInBounds_toArray, List.set_cons_zero, List.set_cons_succ, i64_w, i32_w]
                  rfl
                refine pure_ (i := 1) (N := some 18) (v := ?_) (a' := ?_) #[true, true, false, false, false, false, false, false, false, false] rfl rfl (any_of HT_.out (by kernel_rfl)) (fun _ _ _ h => h) (Or.inl ⟨by rfl, ?_⟩) ?_ ?_
                rotate_left
                · intro w'
                  go_simp
                  with_reducible rfl
                rotate_left
                · simp only [Act.put, List.setIfInBounds_toArray, List.set_cons_zero, List.set_cons_succ, i64_w, i32_w]
                  rfl
                refine pure_ (i := 2) (N := some 19) (v := ?_) (a' := ?_) #[true, true, true, false, false, false, false, false, false, false] rfl rfl (any_of HT_.out (by kernel_rfl)) (fun _ _ _ h => h) (Or.inl ⟨by rfl, ?_⟩) ?_ ?_
                rotate_left
                · intro w'
                  go_simp
                  with_reducible rfl
                rotate_left
                · simp only [Act.put, List.setIfInBounds_toArray, List.set_cons_zero, List.set_cons_succ, i64_w, i32_w]
                  rfl
                refine pure_ (i := 4) (N := some 21) (v := ?_) (a' := ?_) #[true, true, true, false, true, false, false, false, false, false] rfl rfl (any_of HT_.out (by kernel_rfl)) (fun _ _ _ h => h) (Or.inl ⟨by rfl, ?_⟩) ?_ ?_
                rotate_left
                · intro w'
                  go_simp
                  with_reducible rfl
                rotate_left
                · simp only [Act.put, List.setIfInBounds_toArray, List.set_cons_zero, List.set_cons_succ, i64_w, i32_w]
                  rfl
                refine pure_ (i := 5) (N := some 22) (v := ?_) (a' := ?_) #[true, true, true, false, true, true, false, false, false, false] rfl rfl (any_of HT_.out (by kernel_rfl)) (fun _ _ _ h => h) (Or.inl ⟨by rfl, ?_⟩) ?_ ?_
                rotate_left
                · intro w'
                  go_simp
                  with_reducible rfl
                rotate_left
                · simp only [Act.put, List.setIfInBounds_toArray, List.set_cons_zero, List.set_cons_succ, i64_w, i32_w]
                  rfl
                refine pure_ (i := 6) (N := some 23) (v := ?_) (a' := ?_) #[true, true, true, false, true, true, true, false, false, false] rfl rfl (any_of HT_.out (by kernel_rfl)) (fun _ _ _ h => h) (Or.inl ⟨by rfl, ?_⟩) ?_ ?_
                rotate_left
                · intro w'
                  go_simp
                  with_reducible rfl
                rotate_left
                · simp only [Act.put, List.setIfInBounds_toArray, List.set_cons_zero, List.set_cons_succ, i64_w, i32_w]
                  rfl
                refine take_ (i := 3) (N := some 20) (v := ?_) (a' := ?_) #[true, true, true, true, true, true, true, false, false, false] rfl rfl (take_ofW HT_.out HW_.out (by kernel_rfl)) (fun _ _ _ h => h) (Or.inl ⟨by rfl, ?_⟩) hHeld ?_ ?_
                rotate_left
                · rintro w' ⟨s0, s1, s2, s3, s4, s5, s6, s7, s8, s9, s10, s11, s12, s13, s14, s15⟩
                  go_simp
                  with_reducible rfl
                rotate_left
                · simp only [Act.put, List.setIfInBounds_toArray, List.set_cons_zero, List.set_cons_succ, i64_w, i32_w]
                  rfl
                refine take_ (i := 7) (N := some 24) (v := ?_) (a' := ?_) #[true, true, true, true, true, true, true, true, false, false] rfl rfl (take_ofW HT_.out HW_.out (by kernel_rfl)) (fun _ _ _ h => h) (Or.inl ⟨by rfl, ?_⟩) hHeld ?_ ?_
                rotate_left
                · rintro w' ⟨s0, s1, s2, s3, s4, s5, s6, s7, s8, s9, s10, s11, s12, s13, s14, s15⟩
                  go_simp
                  with_reducible rfl
                rotate_left
                · simp only [Act.put, List.setIfInBounds_toArray, List.set_cons_zero, List.set_cons_succ, i64_w, i32_w]
                  rfl
                refine one_ (i := 8) (N := some 25) #[true, true, true, true, true, true, true, true, true, false] rfl rfl (one_of HT_.out (by kernel_rfl)) (by decide) (fun K hK => ?_)
                refine goes_ Try.func69 (by kernel_rfl) rfl #[.agg #[.int .i64 ((rd_T40 l0 x5_1).f0), .int .i64 ((rd_T40 l0 x5_1).f1), .int .i64 ((rd_T40 l0 x5_1).f2), .int .i64 ((rd_T40 l0 x5_1).f3), .int .i64 ((rd_T40 l0 x5_1).f4), .int .i64 ((rd_T40 l0 x5_1).f5), .int .i64 ((rd_T40 l0 x5_1).f6), .int .i64 ((rd_T40 l0 x5_1).f7)], .agg #[.int .i64 ((rd_T40 l1 x5_1).f0), .int .i64 ((rd_T40 l1 x5_1).f1), .int .i64 ((rd_T40 l1 x5_1).f2), .int .i64 ((rd_T40 l1 x5_1).f3), .int .i64 ((rd_T40 l1 x5_1).f4), .int .i64 ((rd_T40 l1 x5_1).f5), .int .i64 ((rd_T40 l1 x5_1).f6), .int .i64 ((rd_T40 l1 x5_1).f7)]] (by rfl) rfl rfl (by (try simp only [List.map_toArray, List.map_cons, List.map_nil]); first | done | rfl | (simp only [List.length_drop, List.length_take]; rfl)) ?_
                with_reducible refine (laws_eqWant.calls ((rd_T40 l0 x5_1).f0) ((rd_T40 l0 x5_1).f1) ((rd_T40 l0 x5_1).f2) ((rd_T40 l0 x5_1).f3) ((rd_T40 l0 x5_1).f4) ((rd_T40 l0 x5_1).f5) ((rd_T40 l0 x5_1).f6) ((rd_T40 l0 x5_1).f7) ((rd_T40 l1 x5_1).f0) ((rd_T40 l1 x5_1).f1) ((rd_T40 l1 x5_1).f2) ((rd_T40 l1 x5_1).f3) ((rd_T40 l1 x5_1).f4) ((rd_T40 l1 x5_1).f5) ((rd_T40 l1 x5_1).f6) ((rd_T40 l1 x5_1).f7) true _ A7.out).mono ?_
                rintro e w10 ⟨rfl, hb⟩
                refine ⟨_, rfl, ?_⟩
                have n0_ := Aside0.mk (zS (by repeat (first | (with_reducible first | exact HB.out | apply zO | apply zA | apply zN) | exact HB.out)) hb)
                clear HB
                have HB := n0_
                clear n0_
                (try clear hb)
                (try clear hb2)
                (try clear hk)
                (try clear hi)
                refine hK.out _ _ ⟨((HB.out.cell (World.block_lt_of_cell? w _ hw191_0)).trans hw191_0), ((HB.out.cell (World.block_lt_of_cell? w _ hw191_1)).trans hw191_1), ((HB.out.cell (World.block_lt_of_cell? w _ hw191_2)).trans hw191_2), ((HB.out.cell (World.block_lt_of_cell? w _ hw191_3)).trans hw191_3), ((HB.out.cell (World.block_lt_of_cell? w _ hw191_4)).trans hw191_4), ((HB.out.cell (World.block_lt_of_cell? w _ hw191_5)).trans hw191_5), ((HB.out.cell (World.block_lt_of_cell? w _ hw191_6)).trans hw191_6), ((HB.out.cell (World.block_lt_of_cell? w _ hw191_7)).trans hw191_7), ((HB.out.cell (World.block_lt_of_cell? w _ hw192_0)).trans hw192_0), ((HB.out.cell (World.block_lt_of_cell? w _ hw192_1)).trans hw192_1), ((HB.out.cell (World.block_lt_of_cell? w _ hw192_2)).trans hw192_2), ((HB.out.cell (World.block_lt_of_cell? w _ hw192_3)).trans hw192_3), ((HB.out.cell (World.block_lt_of_cell? w _ hw192_4)).trans hw192_4), ((HB.out.cell (World.block_lt_of_cell? w _ hw192_5)).trans hw192_5), ((HB.out.cell (World.block_lt_of_cell? w _ hw192_6)).trans hw192_6), ((HB.out.cell (World.block_lt_of_cell? w _ hw192_7)).trans hw192_7)⟩ (fun hHeld => ?_)
                clear hK K
                refine norm_ (a' := ?_) ?_ ?_
                rotate_left
                · show Act.put _ (some 25) _ = _
                  simp only [Act.put, List.setIfInBounds_toArray, List.set_cons_zero, List.set_cons_succ, i64_w, i32_w]
                  rfl
                refine pure_ (i := 9) (N := some 26) (v := ?_) (a' := ?_) #[true, true, true, true, true, true, true, true, true, true] rfl rfl (any_of HT_.out (by kernel_rfl)) (fun _ _ _ h => h) (Or.inl ⟨by rfl, ?_⟩) ?_ ?_
                rotate_left
                · intro w'
                  go_simp
                  with_reducible rfl
                rotate_left
                · simp only [Act.put, List.setIfInBounds_toArray, List.set_cons_zero, List.set_cons_succ, i64_w, i32_w]
                  rfl
                refine done_ (done_of HT_.out (by kernel_rfl)) ?_
                try go_wp2
                go_roundg k1
                case measure => have := HK1.out; omega
                case rel => exact ⟨(wrap64 (x5_1 + 1)), (by first | rfl | (simp; done) | (simp [*]; done)), H', ⟨by have := HK1.out; omega⟩, ⟨by repeat (first | (with_reducible first | exact HB.out | apply zO | apply zA | apply zN) | exact HB.out)⟩⟩
              · replace c8 := Bool.eq_false_iff.mpr c8
                subst c8
                have H1 : (some false) = some r := by rw [if_neg (show ¬ (false = true) by decide)] at H; exact H
                clear H
                have H := H1
                clear H1
                obtain rfl := Option.some.inj H
                try go_wp2
                have n0_ := Aside0.mk (zN HB.out)
                clear HB
                have HB := n0_
                clear n0_
                have p191 : 0 ≤ (x5_1 : Int) := of_decide_eq_true (by first | (with_reducible assumption) | assumption)
                have q191 : x5_1 < (l0.length : Int) := of_decide_eq_true (by first | (with_reducible assumption) | assumption)
                obtain ⟨ad191, e191, hx191_0, hx191_1, hx191_2, hx191_3, hx191_4, hx191_5, hx191_6, hx191_7⟩ := at_T40 HR0.out x5_1 p191 q191
                have hw191_7 := hx191_7
                have hw191_6 := hx191_6
                have hw191_5 := hx191_5
                have hw191_4 := hx191_4
                have hw191_3 := hx191_3
                have hw191_2 := hx191_2
                have hw191_1 := hx191_1
                have hw191_0 := hx191_0
                cases e191
                replace hx191_0 := (HB.out.cell (World.block_lt_of_cell? w _ hx191_0)).trans hx191_0
                replace hx191_1 := (HB.out.cell (World.block_lt_of_cell? w _ hx191_1)).trans hx191_1
                replace hx191_2 := (HB.out.cell (World.block_lt_of_cell? w _ hx191_2)).trans hx191_2
                replace hx191_3 := (HB.out.cell (World.block_lt_of_cell? w _ hx191_3)).trans hx191_3
                replace hx191_4 := (HB.out.cell (World.block_lt_of_cell? w _ hx191_4)).trans hx191_4
                replace hx191_5 := (HB.out.cell (World.block_lt_of_cell? w _ hx191_5)).trans hx191_5
                replace hx191_6 := (HB.out.cell (World.block_lt_of_cell? w _ hx191_6)).trans hx191_6
                replace hx191_7 := (HB.out.cell (World.block_lt_of_cell? w _ hx191_7)).trans hx191_7
                replace p191 := eq_true p191
                replace q191 := eq_true q191
                have p192 : 0 ≤ (x5_1 : Int) := of_decide_eq_true (by first | (with_reducible assumption) | assumption)
                have q192 : x5_1 < (l1.length : Int) := of_decide_eq_true (by first | (with_reducible assumption) | assumption)
                obtain ⟨ad192, e192, hx192_0, hx192_1, hx192_2, hx192_3, hx192_4, hx192_5, hx192_6, hx192_7⟩ := at_T40 HR1.out x5_1 p192 q192
                have hw192_7 := hx192_7
                have hw192_6 := hx192_6
                have hw192_5 := hx192_5
                have hw192_4 := hx192_4
                have hw192_3 := hx192_3
                have hw192_2 := hx192_2
                have hw192_1 := hx192_1
                have hw192_0 := hx192_0
                cases e192
                replace hx192_0 := (HB.out.cell (World.block_lt_of_cell? w _ hx192_0)).trans hx192_0
                replace hx192_1 := (HB.out.cell (World.block_lt_of_cell? w _ hx192_1)).trans hx192_1
                replace hx192_2 := (HB.out.cell (World.block_lt_of_cell? w _ hx192_2)).trans hx192_2
                replace hx192_3 := (HB.out.cell (World.block_lt_of_cell? w _ hx192_3)).trans hx192_3
                replace hx192_4 := (HB.out.cell (World.block_lt_of_cell? w _ hx192_4)).trans hx192_4
                replace hx192_5 := (HB.out.cell (World.block_lt_of_cell? w _ hx192_5)).trans hx192_5
                replace hx192_6 := (HB.out.cell (World.block_lt_of_cell? w _ hx192_6)).trans hx192_6
                replace hx192_7 := (HB.out.cell (World.block_lt_of_cell? w _ hx192_7)).trans hx192_7
                replace p192 := eq_true p192
                replace q192 := eq_true q192
                refine start_ (n := 10) (S := fun w' => w'.cell? (ad191.add ((x5_1).toNat * 8)) = some (.int .i64 ((rd_T40 l0 x5_1).f0)) ∧ w'.cell? ⟨(ad191.add ((x5_1).toNat * 8)).block, (ad191.add ((x5_1).toNat * 8)).off + 1, none⟩ = some (.int .i64 ((rd_T40 l0 x5_1).f1)) ∧ w'.cell? ⟨(ad191.add ((x5_1).toNat * 8)).block, (ad191.add ((x5_1).toNat * 8)).off + 2, none⟩ = some (.int .i64 ((rd_T40 l0 x5_1).f2)) ∧ w'.cell? ⟨(ad191.add ((x5_1).toNat * 8)).block, (ad191.add ((x5_1).toNat * 8)).off + 3, none⟩ = some (.int .i64 ((rd_T40 l0 x5_1).f3)) ∧ w'.cell? ⟨(ad191.add ((x5_1).toNat * 8)).block, (ad191.add ((x5_1).toNat * 8)).off + 4, none⟩ = some (.int .i64 ((rd_T40 l0 x5_1).f4)) ∧ w'.cell? ⟨(ad191.add ((x5_1).toNat * 8)).block, (ad191.add ((x5_1).toNat * 8)).off + 5, none⟩ = some (.int .i64 ((rd_T40 l0 x5_1).f5)) ∧ w'.cell? ⟨(ad191.add ((x5_1).toNat * 8)).block, (ad191.add ((x5_1).toNat * 8)).off + 6, none⟩ = some (.int .i64 ((rd_T40 l0 x5_1).f6)) ∧ w'.cell? ⟨(ad191.add ((x5_1).toNat * 8)).block, (ad191.add ((x5_1).toNat * 8)).off + 7, none⟩ = some (.int .i64 ((rd_T40 l0 x5_1).f7)) ∧ w'.cell? (ad192.add ((x5_1).toNat * 8)) = some (.int .i64 ((rd_T40 l1 x5_1).f0)) ∧ w'.cell? ⟨(ad192.add ((x5_1).toNat * 8)).block, (ad192.add ((x5_1).toNat * 8)).off + 1, none⟩ = some (.int .i64 ((rd_T40 l1 x5_1).f1)) ∧ w'.cell? ⟨(ad192.add ((x5_1).toNat * 8)).block, (ad192.add ((x5_1).toNat * 8)).off + 2, none⟩ = some (.int .i64 ((rd_T40 l1 x5_1).f2)) ∧ w'.cell? ⟨(ad192.add ((x5_1).toNat * 8)).block, (ad192.add ((x5_1).toNat * 8)).off + 3, none⟩ = some (.int .i64 ((rd_T40 l1 x5_1).f3)) ∧ w'.cell? ⟨(ad192.add ((x5_1).toNat * 8)).block, (ad192.add ((x5_1).toNat * 8)).off + 4, none⟩ = some (.int .i64 ((rd_T40 l1 x5_1).f4)) ∧ w'.cell? ⟨(ad192.add ((x5_1).toNat * 8)).block, (ad192.add ((x5_1).toNat * 8)).off + 5, none⟩ = some (.int .i64 ((rd_T40 l1 x5_1).f5)) ∧ w'.cell? ⟨(ad192.add ((x5_1).toNat * 8)).block, (ad192.add ((x5_1).toNat * 8)).off + 6, none⟩ = some (.int .i64 ((rd_T40 l1 x5_1).f6)) ∧ w'.cell? ⟨(ad192.add ((x5_1).toNat * 8)).block, (ad192.add ((x5_1).toNat * 8)).off + 7, none⟩ = some (.int .i64 ((rd_T40 l1 x5_1).f7))) (ds := []) #[false, false, false, false, false, false, false, false, false, false] (by kernel_rfl) rfl rfl ⟨((HB.out.cell (World.block_lt_of_cell? w _ hw191_0)).trans hw191_0), ((HB.out.cell (World.block_lt_of_cell? w _ hw191_1)).trans hw191_1), ((HB.out.cell (World.block_lt_of_cell? w _ hw191_2)).trans hw191_2), ((HB.out.cell (World.block_lt_of_cell? w _ hw191_3)).trans hw191_3), ((HB.out.cell (World.block_lt_of_cell? w _ hw191_4)).trans hw191_4), ((HB.out.cell (World.block_lt_of_cell? w _ hw191_5)).trans hw191_5), ((HB.out.cell (World.block_lt_of_cell? w _ hw191_6)).trans hw191_6), ((HB.out.cell (World.block_lt_of_cell? w _ hw191_7)).trans hw191_7), ((HB.out.cell (World.block_lt_of_cell? w _ hw192_0)).trans hw192_0), ((HB.out.cell (World.block_lt_of_cell? w _ hw192_1)).trans hw192_1), ((HB.out.cell (World.block_lt_of_cell? w _ hw192_2)).trans hw192_2), ((HB.out.cell (World.block_lt_of_cell? w _ hw192_3)).trans hw192_3), ((HB.out.cell (World.block_lt_of_cell? w _ hw192_4)).trans hw192_4), ((HB.out.cell (World.block_lt_of_cell? w _ hw192_5)).trans hw192_5), ((HB.out.cell (World.block_lt_of_cell? w _ hw192_6)).trans hw192_6), ((HB.out.cell (World.block_lt_of_cell? w _ hw192_7)).trans hw192_7)⟩ (fun hHeld => ?_); refine with_tabW laws_eqWantS.tab6 laws_eqWantS.bits6 (fun HT_ HW_ => ?_)
                generalize wr.drew = w11 at HB hx191_0 hx191_1 hx191_2 hx191_3 hx191_4 hx191_5 hx191_6 hx191_7 hx192_0 hx192_1 hx192_2 hx192_3 hx192_4 hx192_5 hx192_6 hx192_7 hHeld ⊢
                refine pure_ (i := 0) (N := some 17) (v := ?_) (a' := ?_) #[true, false, false, false, false, false, false, false, false, false] rfl rfl (any_of HT_.out (by kernel_rfl)) (fun _ _ _ h => h) (Or.inl ⟨by rfl, ?_⟩) ?_ ?_
                rotate_left
                · intro w'
                  go_simp
                  with_reducible rfl
                rotate_left
                · simp only [Act.put, List.setIfInBounds_toArray, List.set_cons_zero, List.set_cons_succ, i64_w, i32_w]
                  rfl
                refine pure_ (i := 1) (N := some 18) (v := ?_) (a' := ?_) #[true, true, false, false, false, false, false, false, false, false] rfl rfl (any_of HT_.out (by kernel_rfl)) (fun _ _ _ h => h) (Or.inl ⟨by rfl, ?_⟩) ?_ ?_
                rotate_left
                · intro w'
                  go_simp
                  with_reducible rfl
                rotate_left
                · simp only [Act.put, List.setIfInBounds_toArray, List.set_cons_zero, List.set_cons_succ, i64_w, i32_w]
                  rfl
                refine pure_ (i := 2) (N := some 19) (v := ?_) (a' := ?_) #[true, true, true, false, false, false, false, false, false, false] rfl rfl (any_of HT_.out (by kernel_rfl)) (fun _ _ _ h => h) (Or.inl ⟨by rfl, ?_⟩) ?_ ?_
                rotate_left
                · intro w'
                  go_simp
                  with_reducible rfl
                rotate_left
                · simp only [Act.put, List.setIfInBounds_toArray, List.set_cons_zero, List.set_cons_succ, i64_w, i32_w]
                  rfl
                refine pure_ (i := 4) (N := some 21) (v := ?_) (a' := ?_) #[true, true, true, false, true, false, false, false, false, false] rfl rfl (any_of HT_.out (by kernel_rfl)) (fun _ _ _ h => h) (Or.inl ⟨by rfl, ?_⟩) ?_ ?_
                rotate_left
                · intro w'
                  go_simp
                  with_reducible rfl
                rotate_left
                · simp only [Act.put, List.setIfInBounds_toArray, List.set_cons_zero, List.set_cons_succ, i64_w, i32_w]
                  rfl
                refine pure_ (i := 5) (N := some 22) (v := ?_) (a' := ?_) #[true, true, true, false, true, true, false, false, false, false] rfl rfl (any_of HT_.out (by kernel_rfl)) (fun _ _ _ h => h) (Or.inl ⟨by rfl, ?_⟩) ?_ ?_
                rotate_left
                · intro w'
                  go_simp
                  with_reducible rfl
                rotate_left
                · simp only [Act.put, List.setIfInBounds_toArray, List.set_cons_zero, List.set_cons_succ, i64_w, i32_w]
                  rfl
                refine pure_ (i := 6) (N := some 23) (v := ?_) (a' := ?_) #[true, true, true, false, true, true, true, false, false, false] rfl rfl (any_of HT_.out (by kernel_rfl)) (fun _ _ _ h => h) (Or.inl ⟨by rfl, ?_⟩) ?_ ?_
                rotate_left
                · intro w'
                  go_simp
                  with_reducible rfl
                rotate_left
                · simp only [Act.put, List.setIfInBounds_toArray, List.set_cons_zero, List.set_cons_succ, i64_w, i32_w]
                  rfl
                refine take_ (i := 3) (N := some 20) (v := ?_) (a' := ?_) #[true, true, true, true, true, true, true, false, false, false] rfl rfl (take_ofW HT_.out HW_.out (by kernel_rfl)) (fun _ _ _ h => h) (Or.inl ⟨by rfl, ?_⟩) hHeld ?_ ?_
                rotate_left
                · rintro w' ⟨s0, s1, s2, s3, s4, s5, s6, s7, s8, s9, s10, s11, s12, s13, s14, s15⟩
                  go_simp
                  with_reducible rfl
                rotate_left
                · simp only [Act.put, List.setIfInBounds_toArray, List.set_cons_zero, List.set_cons_succ, i64_w, i32_w]
                  rfl
                refine take_ (i := 7) (N := some 24) (v := ?_) (a' := ?_) #[true, true, true, true, true, true, true, true, false, false] rfl rfl (take_ofW HT_.out HW_.out (by kernel_rfl)) (fun _ _ _ h => h) (Or.inl ⟨by rfl, ?_⟩) hHeld ?_ ?_
                rotate_left
                · rintro w' ⟨s0, s1, s2, s3, s4, s5, s6, s7, s8, s9, s10, s11, s12, s13, s14, s15⟩
                  go_simp
                  with_reducible rfl
                rotate_left
                · simp only [Act.put, List.setIfInBounds_toArray, List.set_cons_zero, List.set_cons_succ, i64_w, i32_w]
                  rfl
                refine one_ (i := 8) (N := some 25) #[true, true, true, true, true, true, true, true, true, false] rfl rfl (one_of HT_.out (by kernel_rfl)) (by decide) (fun K hK => ?_)
                refine goes_ Try.func69 (by kernel_rfl) rfl #[.agg #[.int .i64 ((rd_T40 l0 x5_1).f0), .int .i64 ((rd_T40 l0 x5_1).f1), .int .i64 ((rd_T40 l0 x5_1).f2), .int .i64 ((rd_T40 l0 x5_1).f3), .int .i64 ((rd_T40 l0 x5_1).f4), .int .i64 ((rd_T40 l0 x5_1).f5), .int .i64 ((rd_T40 l0 x5_1).f6), .int .i64 ((rd_T40 l0 x5_1).f7)], .agg #[.int .i64 ((rd_T40 l1 x5_1).f0), .int .i64 ((rd_T40 l1 x5_1).f1), .int .i64 ((rd_T40 l1 x5_1).f2), .int .i64 ((rd_T40 l1 x5_1).f3), .int .i64 ((rd_T40 l1 x5_1).f4), .int .i64 ((rd_T40 l1 x5_1).f5), .int .i64 ((rd_T40 l1 x5_1).f6), .int .i64 ((rd_T40 l1 x5_1).f7)]] (by rfl) rfl rfl (by (try simp only [List.map_toArray, List.map_cons, List.map_nil]); first | done | rfl | (simp only [List.length_drop, List.length_take]; rfl)) ?_
                with_reducible refine (laws_eqWant.calls ((rd_T40 l0 x5_1).f0) ((rd_T40 l0 x5_1).f1) ((rd_T40 l0 x5_1).f2) ((rd_T40 l0 x5_1).f3) ((rd_T40 l0 x5_1).f4) ((rd_T40 l0 x5_1).f5) ((rd_T40 l0 x5_1).f6) ((rd_T40 l0 x5_1).f7) ((rd_T40 l1 x5_1).f0) ((rd_T40 l1 x5_1).f1) ((rd_T40 l1 x5_1).f2) ((rd_T40 l1 x5_1).f3) ((rd_T40 l1 x5_1).f4) ((rd_T40 l1 x5_1).f5) ((rd_T40 l1 x5_1).f6) ((rd_T40 l1 x5_1).f7) false _ A7.out).mono ?_
                rintro e w12 ⟨rfl, hb⟩
                refine ⟨_, rfl, ?_⟩
                have n0_ := Aside0.mk (zS (by repeat (first | (with_reducible first | exact HB.out | apply zO | apply zA | apply zN) | exact HB.out)) hb)
                clear HB
                have HB := n0_
                clear n0_
                (try clear hb)
                (try clear hb2)
                (try clear hk)
                (try clear hi)
                refine hK.out _ _ ⟨((HB.out.cell (World.block_lt_of_cell? w _ hw191_0)).trans hw191_0), ((HB.out.cell (World.block_lt_of_cell? w _ hw191_1)).trans hw191_1), ((HB.out.cell (World.block_lt_of_cell? w _ hw191_2)).trans hw191_2), ((HB.out.cell (World.block_lt_of_cell? w _ hw191_3)).trans hw191_3), ((HB.out.cell (World.block_lt_of_cell? w _ hw191_4)).trans hw191_4), ((HB.out.cell (World.block_lt_of_cell? w _ hw191_5)).trans hw191_5), ((HB.out.cell (World.block_lt_of_cell? w _ hw191_6)).trans hw191_6), ((HB.out.cell (World.block_lt_of_cell? w _ hw191_7)).trans hw191_7), ((HB.out.cell (World.block_lt_of_cell? w _ hw192_0)).trans hw192_0), ((HB.out.cell (World.block_lt_of_cell? w _ hw192_1)).trans hw192_1), ((HB.out.cell (World.block_lt_of_cell? w _ hw192_2)).trans hw192_2), ((HB.out.cell (World.block_lt_of_cell? w _ hw192_3)).trans hw192_3), ((HB.out.cell (World.block_lt_of_cell? w _ hw192_4)).trans hw192_4), ((HB.out.cell (World.block_lt_of_cell? w _ hw192_5)).trans hw192_5), ((HB.out.cell (World.block_lt_of_cell? w _ hw192_6)).trans hw192_6), ((HB.out.cell (World.block_lt_of_cell? w _ hw192_7)).trans hw192_7)⟩ (fun hHeld => ?_)
                clear hK K
                refine norm_ (a' := ?_) ?_ ?_
                rotate_left
                · show Act.put _ (some 25) _ = _
                  simp only [Act.put, List.setIfInBounds_toArray, List.set_cons_zero, List.set_cons_succ, i64_w, i32_w]
                  rfl
                refine pure_ (i := 9) (N := some 26) (v := ?_) (a' := ?_) #[true, true, true, true, true, true, true, true, true, true] rfl rfl (any_of HT_.out (by kernel_rfl)) (fun _ _ _ h => h) (Or.inl ⟨by rfl, ?_⟩) ?_ ?_
                rotate_left
                · intro w'
                  go_simp
                  with_reducible rfl
                rotate_left
                · simp only [Act.put, List.setIfInBounds_toArray, List.set_cons_zero, List.set_cons_succ, i64_w, i32_w]
                  rfl
                refine done_ (done_of HT_.out (by kernel_rfl)) ?_
                try go_wp2
                go_ret
                exact ⟨by first | rfl | (simp [errW_none, errW_some] <;> rfl) | (simp [*, errW_none, errW_some] <;> rfl), by repeat (first | (with_reducible first | exact HB.out | apply zO | apply zA | apply zN) | exact HB.out)⟩
            · rw [if_neg c6] at H
              exact absurd H (by simp)
          · rw [if_neg c5] at H
            exact absurd H (by simp)
        · rw [if_neg c4] at H
          have c4b0 : decide (x5_1 < (l0.length : Int)) = false := decide_eq_false c4
          clear c4
          obtain rfl := Option.some.inj H
          go_wp2
          go_ret
          exact ⟨by first | rfl | (simp [errW_none, errW_some] <;> rfl) | (simp [*, errW_none, errW_some] <;> rfl), by repeat (first | (with_reducible first | exact HB.out | apply zO | apply zA | apply zN) | exact HB.out)⟩
  · rw [if_neg c3] at H
    have c3b0 : ((l0.length : Int) == (l1.length : Int)) = false := beq_eq_false_iff_ne.mpr c3
    have c3b1 : ((l0.length : Int) != (l1.length : Int)) = true := bne_iff_ne.mpr c3
    have c3b2 : (l0.length == l1.length) = false := by first | simpa using c3 | (simp at c3 ⊢; omega)
    obtain rfl := Option.some.inj H
    go_enter Try.func31, Try.ntmps31
    go_wp2
    go_ret
    exact ⟨by first | rfl | (simp [errW_none, errW_some] <;> rfl) | (simp [*, errW_none, errW_some] <;> rfl), by repeat (first | (with_reducible first | exact HB.out | apply zO | apply zA | apply zN) | exact HB.out)⟩

end Go.Proofs.Ytgpeboajnhlfnaa.PFnExactBothOk
