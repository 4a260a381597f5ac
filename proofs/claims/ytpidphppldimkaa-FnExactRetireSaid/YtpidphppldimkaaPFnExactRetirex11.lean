/- The contracts of the functions that the law FnExactRetire reaches, each proved: what each computes. Written by programs and by hand. -/
import Derived.Test.YtpidphppldimkaaPFnExactRetirex0
import Derived.Test.YtpidphppldimkaaPFnExactRetirex7
import Derived.Test.YtpidphppldimkaaPFnExactRetirex8
import Derived.Test.YtpidphppldimkaaPFnExactRetirex10
namespace Go.Proofs.Ytpidphppldimkaa.PFnExactRetire
open Go.RowKit Go.Proofs.YtpidphppldimkaaW.PrintWords Go.Proofs.YtpidphppldimkaaW.PrintLast Go.Proofs.YtpidphppldimkaaW.PrintMore
attribute [local go_sem] max2_int min2_int max_two min_two max_three min_three max_four min_four   -- for this text's walks alone
set_option linter.unusedVariables false
set_option linter.unusedSimpArgs false

/-! ### laws_FnExactRetire: function 7 -/
mutual
def laws_FnExactRetire.j0 : Nat → Int → Bool → Bool → Bool → Int → List Int → List (S75) → Int → List Int → List (S58) → Int → List Int → List (S58) → Int → List Int → List (S58) → Option (Bool)
  | 0, _, _, _, _, _, _, _, _, _, _, _, _, _, _, _, _ => none
  | k + 1, x1, x7, x10, x44, x246000, x246001, x246002, x263000, x263001, x263002, x271000, x271001, x271002, x280000, x280001, x280002 => if x44 = true then (none) else ((laws_toEpochs.f k x246000 x246001 x246002).bind fun bt281 => ((laws_eqEpochs.f k x271000 x271001 x271002 bt281.1 bt281.2.1 bt281.2.2).bind fun t288 => (if t288 = true then ((laws_markEpochs.f k x271000 x271001 x271002 1).bind fun bt289 => (if bt289.1 < 0 then (laws_FnExactRetire.j1 k x1 x7 true x246000 x246001 x246002 x263000 x263001 x263002 x280000 x280001 x280002) else ((laws_eqEpochs.f k x280000 x280001 x280002 x263000 x263001 x263002).bind fun t292 => (if t292 = true then (laws_FnExactRetire.j1 k x1 x7 (x10 != x7) x246000 x246001 x246002 x263000 x263001 x263002 x280000 x280001 x280002) else (laws_FnExactRetire.j1 k x1 x7 true x246000 x246001 x246002 x263000 x263001 x263002 x280000 x280001 x280002))))) else (none))))
def laws_FnExactRetire.j1 : Nat → Int → Bool → Bool → Int → List Int → List (S75) → Int → List Int → List (S58) → Int → List Int → List (S58) → Option (Bool)
  | 0, _, _, _, _, _, _, _, _, _, _, _, _ => none
  | k + 1, x1, x7, x65, x246000, x246001, x246002, x263000, x263001, x263002, x280000, x280001, x280002 => if x65 = true then (none) else ((laws_markEpochs.f k x280000 x280001 x280002 1).bind fun bt293 => ((laws_heldEpochs.f k x280000 bt293.2.1 bt293.2.2 1).bind fun t296 => (if t296 < 0 then (none) else (if t296 = bt293.1 then ((laws_toEpochs.f k x246000 x246001 x246002).bind fun bt297 => ((impl_Retire.f bt297.1 bt297.2.1 bt297.2.2 x1).bind fun bt304 => ((laws_eqEpochs.f k bt304.1 bt304.2.1 bt304.2.2.1 x263000 x263001 x263002).bind fun t313 => (if t313 = true then (laws_FnExactRetire.j2 k bt293.1 (bt304.2.2.2 != x7) x280000 bt293.2.1 bt293.2.2) else (laws_FnExactRetire.j2 k bt293.1 true x280000 bt293.2.1 bt293.2.2))))) else (none)))))
def laws_FnExactRetire.j2 : Nat → Int → Bool → Int → List Int → List (S58) → Option (Bool)
  | 0, _, _, _, _, _ => none
  | k + 1, x12, x92, x280000, x280001, x280002 => if x92 = true then (none) else ((laws_heldEpochs.f k x280000 x280001 x280002 1).bind fun t314 => (if t314 < 0 then (none) else (if t314 = x12 then (some true) else (none))))
end
def laws_FnExactRetire.f (k : Nat) (a0_0 : Int) (l0_1 : List Int) (l0_2 : List (S75)) (a1 : Int) : Option (Bool) := (laws_szEpochs.f a0_0 l0_1 l0_2 1048576).bind fun t246 => (if t246 < 0 then (some true) else ((laws_toEpochs.f k a0_0 l0_1 l0_2).bind fun bt247 => ((spec_Retire.f k bt247.1 bt247.2.1 bt247.2.2 a1).bind fun bt254 => ((laws_toEpochs.f k a0_0 l0_1 l0_2).bind fun bt263 => ((impl_Retire.f bt263.1 bt263.2.1 bt263.2.2 a1).bind fun bt271 => ((laws_eqEpochs.f k bt271.1 bt271.2.1 bt271.2.2.1 bt254.1 bt254.2.1 bt254.2.2.1).bind fun t280 => (if t280 = true then (laws_FnExactRetire.j0 k a1 bt254.2.2.2 bt271.2.2.2 (bt271.2.2.2 != bt254.2.2.2) a0_0 l0_1 l0_2 bt254.1 bt254.2.1 bt254.2.2.1 bt263.1 bt263.2.1 bt263.2.2 bt271.1 bt271.2.1 bt271.2.2.1) else (laws_FnExactRetire.j0 k a1 bt254.2.2.2 bt271.2.2.2 true a0_0 l0_1 l0_2 bt254.1 bt254.2.1 bt254.2.2.1 bt263.1 bt263.2.1 bt263.2.2 bt271.1 bt271.2.1 bt271.2.2.1))))))))
theorem laws_FnExactRetire.mono_l : ∀ k, (∀ y0 y1 y2 y3 y4 y5 y6 y7 y8 y9 y10 y11 y12 y13 y14 y15, LeO (laws_FnExactRetire.j0 k y0 y1 y2 y3 y4 y5 y6 y7 y8 y9 y10 y11 y12 y13 y14 y15) (laws_FnExactRetire.j0 (k + 1) y0 y1 y2 y3 y4 y5 y6 y7 y8 y9 y10 y11 y12 y13 y14 y15)) ∧ (∀ y0 y1 y2 y3 y4 y5 y6 y7 y8 y9 y10 y11, LeO (laws_FnExactRetire.j1 k y0 y1 y2 y3 y4 y5 y6 y7 y8 y9 y10 y11) (laws_FnExactRetire.j1 (k + 1) y0 y1 y2 y3 y4 y5 y6 y7 y8 y9 y10 y11)) ∧ (∀ y0 y1 y2 y3 y4, LeO (laws_FnExactRetire.j2 k y0 y1 y2 y3 y4) (laws_FnExactRetire.j2 (k + 1) y0 y1 y2 y3 y4))
  | 0 => ⟨fun _ _ _ _ _ _ _ _ _ _ _ _ _ _ _ _ r h => by simp [laws_FnExactRetire.j0] at h, fun _ _ _ _ _ _ _ _ _ _ _ _ r h => by simp [laws_FnExactRetire.j1] at h, fun _ _ _ _ _ r h => by simp [laws_FnExactRetire.j2] at h⟩
  | k + 1 => by
    obtain ⟨ih0, ih1, ih2⟩ := laws_FnExactRetire.mono_l k
    refine ⟨?_, ?_, ?_⟩
    · intro y0 y1 y2 y3 y4 y5 y6 y7 y8 y9 y10 y11 y12 y13 y14 y15
      unfold laws_FnExactRetire.j0
      repeat' first
      | (with_reducible exact ih0 _ _ _ _ _ _ _ _ _ _ _ _ _ _ _ _)
      | (with_reducible exact ih1 _ _ _ _ _ _ _ _ _ _ _ _)
      | (with_reducible exact ih2 _ _ _ _ _)
      | (with_reducible exact laws_eqEpochs.mono _ _ _ _ _ _ _)
      | (with_reducible exact laws_heldEpochs.mono _ _ _ _ _)
      | (with_reducible exact laws_markEpochs.mono _ _ _ _ _)
      | (with_reducible exact laws_toEpochs.mono _ _ _ _)
      | (with_reducible exact spec_Retire.mono _ _ _ _ _)
      | (with_reducible exact LeO.refl _)
      | (with_reducible exact LeO.none _)
      | (with_reducible refine LeO.ite ?_ ?_)
      | (with_reducible refine LeO.bind ?_ (fun _ => ?_))
      | exact ih0 _ _ _ _ _ _ _ _ _ _ _ _ _ _ _ _
      | exact ih1 _ _ _ _ _ _ _ _ _ _ _ _
      | exact ih2 _ _ _ _ _
      | exact laws_eqEpochs.mono _ _ _ _ _ _ _
      | exact laws_heldEpochs.mono _ _ _ _ _
      | exact laws_markEpochs.mono _ _ _ _ _
      | exact laws_toEpochs.mono _ _ _ _
      | exact spec_Retire.mono _ _ _ _ _
      | exact LeO.none _
      | refine LeO.ite ?_ ?_
      | refine LeO.bind ?_ (fun _ => ?_)
    · intro y0 y1 y2 y3 y4 y5 y6 y7 y8 y9 y10 y11
      unfold laws_FnExactRetire.j1
      repeat' first
      | (with_reducible exact ih0 _ _ _ _ _ _ _ _ _ _ _ _ _ _ _ _)
      | (with_reducible exact ih1 _ _ _ _ _ _ _ _ _ _ _ _)
      | (with_reducible exact ih2 _ _ _ _ _)
      | (with_reducible exact laws_eqEpochs.mono _ _ _ _ _ _ _)
      | (with_reducible exact laws_heldEpochs.mono _ _ _ _ _)
      | (with_reducible exact laws_markEpochs.mono _ _ _ _ _)
      | (with_reducible exact laws_toEpochs.mono _ _ _ _)
      | (with_reducible exact spec_Retire.mono _ _ _ _ _)
      | (with_reducible exact LeO.refl _)
      | (with_reducible exact LeO.none _)
      | (with_reducible refine LeO.ite ?_ ?_)
      | (with_reducible refine LeO.bind ?_ (fun _ => ?_))
      | exact ih0 _ _ _ _ _ _ _ _ _ _ _ _ _ _ _ _
      | exact ih1 _ _ _ _ _ _ _ _ _ _ _ _
      | exact ih2 _ _ _ _ _
      | exact laws_eqEpochs.mono _ _ _ _ _ _ _
      | exact laws_heldEpochs.mono _ _ _ _ _
      | exact laws_markEpochs.mono _ _ _ _ _
      | exact laws_toEpochs.mono _ _ _ _
      | exact spec_Retire.mono _ _ _ _ _
      | exact LeO.none _
      | refine LeO.ite ?_ ?_
      | refine LeO.bind ?_ (fun _ => ?_)
    · intro y0 y1 y2 y3 y4
      unfold laws_FnExactRetire.j2
      repeat' first
      | (with_reducible exact ih0 _ _ _ _ _ _ _ _ _ _ _ _ _ _ _ _)
      | (with_reducible exact ih1 _ _ _ _ _ _ _ _ _ _ _ _)
      | (with_reducible exact ih2 _ _ _ _ _)
      | (with_reducible exact laws_eqEpochs.mono _ _ _ _ _ _ _)
      | (with_reducible exact laws_heldEpochs.mono _ _ _ _ _)
      | (with_reducible exact laws_markEpochs.mono _ _ _ _ _)
      | (with_reducible exact laws_toEpochs.mono _ _ _ _)
      | (with_reducible exact spec_Retire.mono _ _ _ _ _)
      | (with_reducible exact LeO.refl _)
      | (with_reducible exact LeO.none _)
      | (with_reducible refine LeO.ite ?_ ?_)
      | (with_reducible refine LeO.bind ?_ (fun _ => ?_))
      | exact ih0 _ _ _ _ _ _ _ _ _ _ _ _ _ _ _ _
      | exact ih1 _ _ _ _ _ _ _ _ _ _ _ _
      | exact ih2 _ _ _ _ _
      | exact laws_eqEpochs.mono _ _ _ _ _ _ _
      | exact laws_heldEpochs.mono _ _ _ _ _
      | exact laws_markEpochs.mono _ _ _ _ _
      | exact laws_toEpochs.mono _ _ _ _
      | exact spec_Retire.mono _ _ _ _ _
      | exact LeO.none _
      | refine LeO.ite ?_ ?_
      | refine LeO.bind ?_ (fun _ => ?_)
theorem laws_FnExactRetire.mono : ∀ a0 a1 a2 a3 k, LeO (laws_FnExactRetire.f k a0 a1 a2 a3) (laws_FnExactRetire.f (k + 1) a0 a1 a2 a3) := by
  intro a0 a1 a2 a3 k
  obtain ⟨ih0, ih1, ih2⟩ := laws_FnExactRetire.mono_l k
  unfold laws_FnExactRetire.f
  repeat' first
      | (with_reducible exact ih0 _ _ _ _ _ _ _ _ _ _ _ _ _ _ _ _)
      | (with_reducible exact ih1 _ _ _ _ _ _ _ _ _ _ _ _)
      | (with_reducible exact ih2 _ _ _ _ _)
      | (with_reducible exact laws_eqEpochs.mono _ _ _ _ _ _ _)
      | (with_reducible exact laws_heldEpochs.mono _ _ _ _ _)
      | (with_reducible exact laws_markEpochs.mono _ _ _ _ _)
      | (with_reducible exact laws_toEpochs.mono _ _ _ _)
      | (with_reducible exact spec_Retire.mono _ _ _ _ _)
      | (with_reducible exact LeO.refl _)
      | (with_reducible exact LeO.none _)
      | (with_reducible refine LeO.ite ?_ ?_)
      | (with_reducible refine LeO.bind ?_ (fun _ => ?_))
      | exact ih0 _ _ _ _ _ _ _ _ _ _ _ _ _ _ _ _
      | exact ih1 _ _ _ _ _ _ _ _ _ _ _ _
      | exact ih2 _ _ _ _ _
      | exact laws_eqEpochs.mono _ _ _ _ _ _ _
      | exact laws_heldEpochs.mono _ _ _ _ _
      | exact laws_markEpochs.mono _ _ _ _ _
      | exact laws_toEpochs.mono _ _ _ _
      | exact spec_Retire.mono _ _ _ _ _
      | exact LeO.none _
      | refine LeO.ite ?_ ?_
      | refine LeO.bind ?_ (fun _ => ?_)
set_option maxHeartbeats 8000000 in
set_option maxRecDepth 100000 in
theorem laws_FnExactRetire.calls (k : Nat) (a0_0 : Int) (A0_1 : Option Addr) (c0_1 : Nat) (l0_1 : List Int) (A0_2 : Option Addr) (c0_2 : Nat) (l0_2 : List (S75)) (a1 : Int) (r : Bool) (w : World) (hr0_1 : Kd.C (Kd.int .i64) w A0_1 l0_1.length l0_1) (hc0_1 : l0_1.length ≤ c0_1) (hr0_2 : Kd.C k75 w A0_2 l0_2.length l0_2) (hc0_2 : l0_2.length ≤ c0_2) (h : laws_FnExactRetire.f k a0_0 l0_1 l0_2 a1 = some r) :
    Calls Try.prog 7 #[.agg #[.int .i64 a0_0, .slice A0_1 l0_1.length c0_1, .slice A0_2 l0_2.length c0_2], .int .i64 a1] w fun e w' => e = .returned (.bool r) ∧ Below w.heap.size w w' := by
  have hu43 := Try.underlying43
  have hu27 := Try.underlying27
  have HR0_1 := Aside0.mk hr0_1
  have HC0_1 := Aside0.mk hc0_1
  clear hr0_1 hc0_1
  have HR0_2 := Aside0.mk hr0_2
  have HC0_2 := Aside0.mk hc0_2
  clear hr0_2 hc0_2
  have HB := Aside0.mk (Below.refl w.heap.size w)
  have H : ((laws_szEpochs.f a0_0 l0_1 l0_2 1048576).bind fun t246 => (if t246 < 0 then (some true) else ((laws_toEpochs.f k a0_0 l0_1 l0_2).bind fun bt247 => ((spec_Retire.f k bt247.1 bt247.2.1 bt247.2.2 a1).bind fun bt254 => ((laws_toEpochs.f k a0_0 l0_1 l0_2).bind fun bt263 => ((impl_Retire.f bt263.1 bt263.2.1 bt263.2.2 a1).bind fun bt271 => ((laws_eqEpochs.f k bt271.1 bt271.2.1 bt271.2.2.1 bt254.1 bt254.2.1 bt254.2.2.1).bind fun t280 => (if t280 = true then (laws_FnExactRetire.j0 k a1 bt254.2.2.2 bt271.2.2.2 (bt271.2.2.2 != bt254.2.2.2) a0_0 l0_1 l0_2 bt254.1 bt254.2.1 bt254.2.2.1 bt263.1 bt263.2.1 bt263.2.2 bt271.1 bt271.2.1 bt271.2.2.1) else (laws_FnExactRetire.j0 k a1 bt254.2.2.2 bt271.2.2.2 true a0_0 l0_1 l0_2 bt254.1 bt254.2.1 bt254.2.2.1 bt263.1 bt263.2.1 bt263.2.2 bt271.1 bt271.2.1 bt271.2.2.1))))))))) = some r := h
  clear h
  replace H := Option.bind_eq_some_iff.mp H
  obtain ⟨t246, A30, H⟩ := H
  replace H : (if t246 < 0 then (some true) else ((laws_toEpochs.f k a0_0 l0_1 l0_2).bind fun bt247 => ((spec_Retire.f k bt247.1 bt247.2.1 bt247.2.2 a1).bind fun bt254 => ((laws_toEpochs.f k a0_0 l0_1 l0_2).bind fun bt263 => ((impl_Retire.f bt263.1 bt263.2.1 bt263.2.2 a1).bind fun bt271 => ((laws_eqEpochs.f k bt271.1 bt271.2.1 bt271.2.2.1 bt254.1 bt254.2.1 bt254.2.2.1).bind fun t280 => (if t280 = true then (laws_FnExactRetire.j0 k a1 bt254.2.2.2 bt271.2.2.2 (bt271.2.2.2 != bt254.2.2.2) a0_0 l0_1 l0_2 bt254.1 bt254.2.1 bt254.2.2.1 bt263.1 bt263.2.1 bt263.2.2 bt271.1 bt271.2.1 bt271.2.2.1) else (laws_FnExactRetire.j0 k a1 bt254.2.2.2 bt271.2.2.2 true a0_0 l0_1 l0_2 bt254.1 bt254.2.1 bt254.2.2.1 bt263.1 bt263.2.1 bt263.2.2 bt271.1 bt271.2.1 bt271.2.2.1)))))))) = some r := H
  have A3 := Aside0.mk A30
  clear A30
  by_cases c4 : t246 < 0
  · rw [if_pos c4] at H
    have c4b0 : decide (t246 < 0) = true := decide_eq_true c4
    clear c4
    obtain rfl := Option.some.inj H
    go_enter Try.func7, Try.ntmps7
    go_wp2_with (first | ((with_reducible refine gate_dst (N := 2) rfl ?_); refine box_event ?hg (N := 2) ?hd (cs := #[.int .i64 a0_0, .slice A0_1 l0_1.length c0_1, .slice A0_2 l0_2.length c0_2]) (t := 43) ?hr ?_; (case hd => rfl); (case hg => rfl); (case hr => first | (go_simp; done) | (go_simp; rfl)); intro gb245 hg w5 hbox hb; have n0_ := Aside0.mk (below_step (by repeat (first | (with_reducible first | exact HB.out | apply below_alloc | apply pw_below_drewN | apply below_drew1) | exact HB.out)) hb); have n1_ := Aside0.mk (hbox); have n2_ := Aside0.mk ((by rw [hg]; exact (below_size (by repeat (first | (with_reducible first | exact HB.out | apply below_alloc | apply pw_below_drewN | apply below_drew1) | exact HB.out))) : w.heap.size ≤ gb245)); have n3_ := Aside0.mk ((by rw [hg]; exact (below_size (by repeat (first | (with_reducible first | exact HB.out | apply below_alloc | apply pw_below_drewN | apply below_drew1) | exact HB.out))) : w.heap.size ≤ gb245)); clear HB; have HB := n0_; have BK245 := n1_; have GW245 := n2_; have GE245 := n3_; clear n0_ n1_ n2_ n3_; clear hb hbox hg; have hcz6_0 : w5.cell? ⟨gb245, 0, none⟩ = some (.int .i64 a0_0) := (blk_cell BK245.out 0).trans rfl; have hcz6_1 : w5.cell? ⟨gb245, 1, none⟩ = some (.slice A0_1 l0_1.length c0_1) := (blk_cell BK245.out 1).trans rfl; have hcz6_2 : w5.cell? ⟨gb245, 2, none⟩ = some (.slice A0_2 l0_2.length c0_2) := (blk_cell BK245.out 2).trans rfl; have hfz6_0 := blk_frozen BK245.out 0; have hfz6_1 := blk_frozen BK245.out 1; have hfz6_2 := blk_frozen BK245.out 2) | ((with_reducible refine gate_callee (f := 28) rfl ?_); refine goesL_ (some 18) rfl rfl Try.func28 (by kernel_rfl) rfl #[.agg #[.int .i64 a0_0, .slice A0_1 l0_1.length c0_1, .slice A0_2 l0_2.length c0_2], .int .i64 1048576] rfl (by (try simp only [List.map_toArray, List.map_cons, List.map_nil]); first | done | rfl | (simp only [List.length_drop, List.length_take]; rfl)) ?_; (with_reducible refine (laws_szEpochs.calls a0_0 _ _ l0_1 _ _ l0_2 1048576 t246 _ ?side1 ?side2 ?side3 ?side4 A3.out).mono ?_); (case side1 => repeat (first | exact (Kd.C_below HR0_1.out HB.out) | (with_reducible refine Kd.C_alloc ?_ _) | (with_reducible refine Kd.C_drewN ?_ _) | (with_reducible refine Kd.C_drew ?_))); (case side2 => exact HC0_1.out); (case side3 => repeat (first | exact (Kd.C_below HR0_2.out HB.out) | (with_reducible refine Kd.C_alloc ?_ _) | (with_reducible refine Kd.C_drewN ?_ _) | (with_reducible refine Kd.C_drew ?_))); (case side4 => exact HC0_2.out); rintro e w7 ⟨rfl, hb⟩; refine ⟨_, rfl, ?_⟩; have n0_ := Aside0.mk (blk_below (g := gb245) (o := .cells #[.int .i64 a0_0, .slice A0_1 l0_1.length c0_1, .slice A0_2 l0_2.length c0_2] 43 (0, 0)) (by (with_reducible repeat (first | refine blk_drewN ?_ _ | refine blk_drew ?_ | refine blk_alloc ?_ _)); exact BK245.out) hb); have n1_ := Aside0.mk (below_step (by repeat (first | (with_reducible first | exact HB.out | apply below_alloc | apply pw_below_drewN | apply below_drew1 | refine below_set ?_ GE245.out) | exact HB.out)) hb); clear BK245; clear HB; have BK245 := n0_; have HB := n1_; clear n0_ n1_; (try clear hb); (try clear hb2); (try clear hk); (try clear hi)))
    go_ret
    exact ⟨by first | rfl | (simp [errW_none, errW_some] <;> rfl) | (simp [*, errW_none, errW_some] <;> rfl), by repeat (first | (with_reducible first | exact HB.out | apply below_alloc | apply pw_below_drewN | apply below_drew1 | refine below_set ?_ GE245.out) | exact HB.out)⟩
  · rw [if_neg c4] at H
    have c4b0 : decide (t246 < 0) = false := decide_eq_false c4
    clear c4
    replace H := Option.bind_eq_some_iff.mp H
    obtain ⟨⟨t247, t248, t251⟩, A80, H⟩ := H
    replace H : ((spec_Retire.f k t247 t248 t251 a1).bind fun bt254 => ((laws_toEpochs.f k a0_0 l0_1 l0_2).bind fun bt263 => ((impl_Retire.f bt263.1 bt263.2.1 bt263.2.2 a1).bind fun bt271 => ((laws_eqEpochs.f k bt271.1 bt271.2.1 bt271.2.2.1 bt254.1 bt254.2.1 bt254.2.2.1).bind fun t280 => (if t280 = true then (laws_FnExactRetire.j0 k a1 bt254.2.2.2 bt271.2.2.2 (bt271.2.2.2 != bt254.2.2.2) a0_0 l0_1 l0_2 bt254.1 bt254.2.1 bt254.2.2.1 bt263.1 bt263.2.1 bt263.2.2 bt271.1 bt271.2.1 bt271.2.2.1) else (laws_FnExactRetire.j0 k a1 bt254.2.2.2 bt271.2.2.2 true a0_0 l0_1 l0_2 bt254.1 bt254.2.1 bt254.2.2.1 bt263.1 bt263.2.1 bt263.2.2 bt271.1 bt271.2.1 bt271.2.2.1)))))) = some r := H
    have A8 := Aside0.mk A80
    clear A80
    replace H := Option.bind_eq_some_iff.mp H
    obtain ⟨⟨t254, t255, t258, t261⟩, A90, H⟩ := H
    replace H : ((laws_toEpochs.f k a0_0 l0_1 l0_2).bind fun bt263 => ((impl_Retire.f bt263.1 bt263.2.1 bt263.2.2 a1).bind fun bt271 => ((laws_eqEpochs.f k bt271.1 bt271.2.1 bt271.2.2.1 t254 t255 t258).bind fun t280 => (if t280 = true then (laws_FnExactRetire.j0 k a1 t261 bt271.2.2.2 (bt271.2.2.2 != t261) a0_0 l0_1 l0_2 t254 t255 t258 bt263.1 bt263.2.1 bt263.2.2 bt271.1 bt271.2.1 bt271.2.2.1) else (laws_FnExactRetire.j0 k a1 t261 bt271.2.2.2 true a0_0 l0_1 l0_2 t254 t255 t258 bt263.1 bt263.2.1 bt263.2.2 bt271.1 bt271.2.1 bt271.2.2.1))))) = some r := H
    have A9 := Aside0.mk A90
    clear A90
    replace H := Option.bind_eq_some_iff.mp H
    obtain ⟨⟨t263, t264, t267⟩, A100, H⟩ := H
    replace H : ((impl_Retire.f t263 t264 t267 a1).bind fun bt271 => ((laws_eqEpochs.f k bt271.1 bt271.2.1 bt271.2.2.1 t254 t255 t258).bind fun t280 => (if t280 = true then (laws_FnExactRetire.j0 k a1 t261 bt271.2.2.2 (bt271.2.2.2 != t261) a0_0 l0_1 l0_2 t254 t255 t258 t263 t264 t267 bt271.1 bt271.2.1 bt271.2.2.1) else (laws_FnExactRetire.j0 k a1 t261 bt271.2.2.2 true a0_0 l0_1 l0_2 t254 t255 t258 t263 t264 t267 bt271.1 bt271.2.1 bt271.2.2.1)))) = some r := H
    have A10 := Aside0.mk A100
    clear A100
    replace H := Option.bind_eq_some_iff.mp H
    obtain ⟨⟨t271, t272, t275, t278⟩, A110, H⟩ := H
    replace H : ((laws_eqEpochs.f k t271 t272 t275 t254 t255 t258).bind fun t280 => (if t280 = true then (laws_FnExactRetire.j0 k a1 t261 t278 (t278 != t261) a0_0 l0_1 l0_2 t254 t255 t258 t263 t264 t267 t271 t272 t275) else (laws_FnExactRetire.j0 k a1 t261 t278 true a0_0 l0_1 l0_2 t254 t255 t258 t263 t264 t267 t271 t272 t275))) = some r := H
    have A11 := Aside0.mk A110
    clear A110
    have HC12 := Aside0.mk H
    clear H
    go_enter Try.func7, Try.ntmps7
    go_upto_region 8 with (first | ((with_reducible refine gate_dst (N := 2) rfl ?_); refine box_event ?hg (N := 2) ?hd (cs := #[.int .i64 a0_0, .slice A0_1 l0_1.length c0_1, .slice A0_2 l0_2.length c0_2]) (t := 43) ?hr ?_; (case hd => rfl); (case hg => rfl); (case hr => first | (go_simp; done) | (go_simp; rfl)); intro gb245 hg w13 hbox hb; have n0_ := Aside0.mk (below_step (by repeat (first | (with_reducible first | exact HB.out | apply below_alloc | apply pw_below_drewN | apply below_drew1) | exact HB.out)) hb); have n1_ := Aside0.mk (hbox); have n2_ := Aside0.mk ((by rw [hg]; exact (below_size (by repeat (first | (with_reducible first | exact HB.out | apply below_alloc | apply pw_below_drewN | apply below_drew1) | exact HB.out))) : w.heap.size ≤ gb245)); have n3_ := Aside0.mk ((by rw [hg]; exact (below_size (by repeat (first | (with_reducible first | exact HB.out | apply below_alloc | apply pw_below_drewN | apply below_drew1) | exact HB.out))) : w.heap.size ≤ gb245)); clear HB; have HB := n0_; have BK245 := n1_; have GW245 := n2_; have GE245 := n3_; clear n0_ n1_ n2_ n3_; clear hb hbox hg; have hcz14_0 : w13.cell? ⟨gb245, 0, none⟩ = some (.int .i64 a0_0) := (blk_cell BK245.out 0).trans rfl; have hcz14_1 : w13.cell? ⟨gb245, 1, none⟩ = some (.slice A0_1 l0_1.length c0_1) := (blk_cell BK245.out 1).trans rfl; have hcz14_2 : w13.cell? ⟨gb245, 2, none⟩ = some (.slice A0_2 l0_2.length c0_2) := (blk_cell BK245.out 2).trans rfl; have hfz14_0 := blk_frozen BK245.out 0; have hfz14_1 := blk_frozen BK245.out 1; have hfz14_2 := blk_frozen BK245.out 2) | ((with_reducible refine gate_callee (f := 28) rfl ?_); refine goesL_ (some 18) rfl rfl Try.func28 (by kernel_rfl) rfl #[.agg #[.int .i64 a0_0, .slice A0_1 l0_1.length c0_1, .slice A0_2 l0_2.length c0_2], .int .i64 1048576] rfl (by (try simp only [List.map_toArray, List.map_cons, List.map_nil]); first | done | rfl | (simp only [List.length_drop, List.length_take]; rfl)) ?_; (with_reducible refine (laws_szEpochs.calls a0_0 _ _ l0_1 _ _ l0_2 1048576 t246 _ ?side1 ?side2 ?side3 ?side4 A3.out).mono ?_); (case side1 => repeat (first | exact (Kd.C_below HR0_1.out HB.out) | (with_reducible refine Kd.C_alloc ?_ _) | (with_reducible refine Kd.C_drewN ?_ _) | (with_reducible refine Kd.C_drew ?_))); (case side2 => exact HC0_1.out); (case side3 => repeat (first | exact (Kd.C_below HR0_2.out HB.out) | (with_reducible refine Kd.C_alloc ?_ _) | (with_reducible refine Kd.C_drewN ?_ _) | (with_reducible refine Kd.C_drew ?_))); (case side4 => exact HC0_2.out); rintro e w15 ⟨rfl, hb⟩; refine ⟨_, rfl, ?_⟩; have n0_ := Aside0.mk (blk_below (g := gb245) (o := .cells #[.int .i64 a0_0, .slice A0_1 l0_1.length c0_1, .slice A0_2 l0_2.length c0_2] 43 (0, 0)) (by (with_reducible repeat (first | refine blk_drewN ?_ _ | refine blk_drew ?_ | refine blk_alloc ?_ _)); exact BK245.out) hb); have n1_ := Aside0.mk (below_step (by repeat (first | (with_reducible first | exact HB.out | apply below_alloc | apply pw_below_drewN | apply below_drew1 | refine below_set ?_ GE245.out) | exact HB.out)) hb); clear BK245; clear HB; have BK245 := n0_; have HB := n1_; clear n0_ n1_; (try clear hb); (try clear hb2); (try clear hk); (try clear hi); have hcz16_0 : w15.cell? ⟨gb245, 0, none⟩ = some (.int .i64 a0_0) := (blk_cell BK245.out 0).trans rfl; have hcz16_1 : w15.cell? ⟨gb245, 1, none⟩ = some (.slice A0_1 l0_1.length c0_1) := (blk_cell BK245.out 1).trans rfl; have hcz16_2 : w15.cell? ⟨gb245, 2, none⟩ = some (.slice A0_2 l0_2.length c0_2) := (blk_cell BK245.out 2).trans rfl; have hfz16_0 := blk_frozen BK245.out 0; have hfz16_1 := blk_frozen BK245.out 1; have hfz16_2 := blk_frozen BK245.out 2) | ((with_reducible refine gate_callee (f := 30) rfl ?_); refine goesL_ (some 23) rfl rfl Try.func30 (by kernel_rfl) rfl #[.agg #[.int .i64 a0_0, .slice A0_1 l0_1.length c0_1, .slice A0_2 l0_2.length c0_2]] rfl (by (try simp only [List.map_toArray, List.map_cons, List.map_nil]); first | done | rfl | (simp only [List.length_drop, List.length_take]; rfl)) ?_; (with_reducible refine (laws_toEpochs.calls k a0_0 _ _ l0_1 _ _ l0_2 t247 t248 t251 _ ?side1 ?side2 ?side3 ?side4 A8.out).mono ?_); (case side1 => repeat (first | exact (Kd.C_below HR0_1.out HB.out) | (with_reducible refine Kd.C_alloc ?_ _) | (with_reducible refine Kd.C_drewN ?_ _) | (with_reducible refine Kd.C_drew ?_))); (case side2 => exact HC0_1.out); (case side3 => repeat (first | exact (Kd.C_below HR0_2.out HB.out) | (with_reducible refine Kd.C_alloc ?_ _) | (with_reducible refine Kd.C_drewN ?_ _) | (with_reducible refine Kd.C_drew ?_))); (case side4 => exact HC0_2.out); rintro e w17 ⟨v249, v252, rfl, ho0, ho1, hb⟩; refine ⟨_, rfl, ?_⟩; have n0_ := Aside0.mk (Kd.R_lower ho0 (below_size (by repeat (first | (with_reducible first | exact HB.out | apply below_alloc | apply pw_below_drewN | apply below_drew1 | refine below_set ?_ GE245.out) | exact HB.out)))); have n1_ := Aside0.mk (Kd.R_lower ho1 (below_size (by repeat (first | (with_reducible first | exact HB.out | apply below_alloc | apply pw_below_drewN | apply below_drew1 | refine below_set ?_ GE245.out) | exact HB.out)))); have n2_ := Aside0.mk (blk_below (g := gb245) (o := .cells #[.int .i64 a0_0, .slice A0_1 l0_1.length c0_1, .slice A0_2 l0_2.length c0_2] 43 (0, 0)) (by (with_reducible repeat (first | refine blk_drewN ?_ _ | refine blk_drew ?_ | refine blk_alloc ?_ _)); exact BK245.out) hb); have n3_ := Aside0.mk (below_step (by repeat (first | (with_reducible first | exact HB.out | apply below_alloc | apply pw_below_drewN | apply below_drew1 | refine below_set ?_ GE245.out) | exact HB.out)) hb); clear BK245; clear HB; have HO250 := n0_; have HO253 := n1_; have BK245 := n2_; have HB := n3_; clear n0_ n1_ n2_ n3_; (try clear hb); (try clear hb2); (try clear hk); (try clear hi); (try clear ho0); (try clear ho1); obtain ⟨Ao18, co18, eo18⟩ := Kd.R_slice HO250.out; subst eo18; obtain ⟨Ao19, co19, eo19⟩ := Kd.R_slice HO253.out; subst eo19) | ((with_reducible refine gate_callee (f := 32) rfl ?_); refine goesL_ (some 25) rfl rfl Try.func32 (by kernel_rfl) rfl #[.agg #[.int .i64 t247, .slice Ao18 t248.length co18, .slice Ao19 t251.length co19], .int .i64 a1] rfl (by (try simp only [List.map_toArray, List.map_cons, List.map_nil]); first | done | rfl | (simp only [List.length_drop, List.length_take]; rfl)) ?_; (with_reducible refine (spec_Retire.calls k t247 _ _ t248 _ _ t251 a1 t254 t255 t258 t261 _ ?side1 ?side2 ?side3 ?side4 A9.out).mono ?_); (case side1 => repeat (first | exact (Kd.R_reads' HO250.out).2.2 | (with_reducible refine Kd.C_alloc ?_ _) | (with_reducible refine Kd.C_drewN ?_ _) | (with_reducible refine Kd.C_drew ?_))); (case side2 => exact (Kd.R_reads' HO250.out).2.1); (case side3 => repeat (first | exact (Kd.R_reads' HO253.out).2.2 | (with_reducible refine Kd.C_alloc ?_ _) | (with_reducible refine Kd.C_drewN ?_ _) | (with_reducible refine Kd.C_drew ?_))); (case side4 => exact (Kd.R_reads' HO253.out).2.1); rintro e w20 ⟨v256, v259, rfl, ho0, ho1, hb⟩; refine ⟨_, rfl, ?_⟩; have n0_ := Aside0.mk (Kd.R_elder' (by (with_reducible repeat (first | apply Kd.R_alloc | apply Kd.R_drewN | apply Kd.R_drew)); exact HO250.out) (Kd.R_base ho0) hb); have n1_ := Aside0.mk (Kd.R_elder' (by (with_reducible repeat (first | apply Kd.R_alloc | apply Kd.R_drewN | apply Kd.R_drew)); exact HO253.out) (Kd.R_base ho1) hb); have n2_ := Aside0.mk (Kd.R_lower (Kd.R_new' ho0 (Kd.R_lt (by (with_reducible repeat (first | apply Kd.R_alloc | apply Kd.R_drewN | apply Kd.R_drew)); exact HO250.out))) (below_size (by repeat (first | (with_reducible first | exact HB.out | apply below_alloc | apply pw_below_drewN | apply below_drew1 | refine below_set ?_ GE245.out) | exact HB.out)))); have n3_ := Aside0.mk (Kd.R_lower (Kd.R_new' ho1 (Kd.R_lt (by (with_reducible repeat (first | apply Kd.R_alloc | apply Kd.R_drewN | apply Kd.R_drew)); exact HO253.out))) (below_size (by repeat (first | (with_reducible first | exact HB.out | apply below_alloc | apply pw_below_drewN | apply below_drew1 | refine below_set ?_ GE245.out) | exact HB.out)))); have n4_ := Aside0.mk (blk_below (g := gb245) (o := .cells #[.int .i64 a0_0, .slice A0_1 l0_1.length c0_1, .slice A0_2 l0_2.length c0_2] 43 (0, 0)) (by (with_reducible repeat (first | refine blk_drewN ?_ _ | refine blk_drew ?_ | refine blk_alloc ?_ _)); exact BK245.out) hb); have n5_ := Aside0.mk (below_step (by repeat (first | (with_reducible first | exact HB.out | apply below_alloc | apply pw_below_drewN | apply below_drew1 | refine below_set ?_ GE245.out) | exact HB.out)) hb); clear HO250; clear HO253; clear BK245; clear HB; have HO250 := n0_; have HO253 := n1_; have HO257 := n2_; have HO260 := n3_; have BK245 := n4_; have HB := n5_; clear n0_ n1_ n2_ n3_ n4_ n5_; (try clear hb); (try clear hb2); (try clear hk); (try clear hi); (try clear ho0); (try clear ho1)) | ((with_reducible refine gate_dst (N := 6) rfl ?_); refine box_event ?hg (N := 6) ?hd (cs := #[.int .i64 0, .slice none 0 0, .slice none 0 0]) (t := 27) ?hr ?_; (case hd => rfl); (case hg => rfl); (case hr => first | (go_simp; done) | (go_simp; rfl)); intro gb262 hg w21 hbox hb; have n0_ := Aside0.mk (Kd.R_below (by (with_reducible repeat (first | apply Kd.R_alloc | apply Kd.R_drewN | apply Kd.R_drew)); exact HO250.out) hb); have n1_ := Aside0.mk (Kd.R_below (by (with_reducible repeat (first | apply Kd.R_alloc | apply Kd.R_drewN | apply Kd.R_drew)); exact HO253.out) hb); have n2_ := Aside0.mk (Kd.R_below (by (with_reducible repeat (first | apply Kd.R_alloc | apply Kd.R_drewN | apply Kd.R_drew)); exact HO257.out) hb); have n3_ := Aside0.mk (Kd.R_below (by (with_reducible repeat (first | apply Kd.R_alloc | apply Kd.R_drewN | apply Kd.R_drew)); exact HO260.out) hb); have n4_ := Aside0.mk (blk_below (g := gb245) (o := .cells #[.int .i64 a0_0, .slice A0_1 l0_1.length c0_1, .slice A0_2 l0_2.length c0_2] 43 (0, 0)) (by (with_reducible repeat (first | refine blk_drewN ?_ _ | refine blk_drew ?_ | refine blk_alloc ?_ _)); exact BK245.out) hb); have n5_ := Aside0.mk (below_step (by repeat (first | (with_reducible first | exact HB.out | apply below_alloc | apply pw_below_drewN | apply below_drew1 | refine below_set ?_ GE245.out) | exact HB.out)) hb); have n6_ := Aside0.mk (hbox); have n7_ := Aside0.mk ((by rw [hg]; exact (below_size (by repeat (first | (with_reducible first | exact HB.out | apply below_alloc | apply pw_below_drewN | apply below_drew1 | refine below_set ?_ GE245.out) | exact HB.out))) : w.heap.size ≤ gb262)); have n8_ := Aside0.mk ((by rw [hg]; exact (below_size (by repeat (first | (with_reducible first | exact HB.out | apply below_alloc | apply pw_below_drewN | apply below_drew1 | refine below_set ?_ GE245.out) | exact HB.out))) : w.heap.size ≤ gb262)); have n9_ := Aside0.mk ((by rw [hg]; exact Nat.ne_of_lt (blk_lt (g := gb245) (o := .cells #[.int .i64 a0_0, .slice A0_1 l0_1.length c0_1, .slice A0_2 l0_2.length c0_2] 43 (0, 0)) (by (with_reducible repeat (first | refine blk_drewN ?_ _ | refine blk_drew ?_ | refine blk_alloc ?_ _)); exact BK245.out)) : gb245 ≠ gb262)); have n10_ := Aside0.mk ((by rw [hg]; exact Nat.ne_of_gt (blk_lt (g := gb245) (o := .cells #[.int .i64 a0_0, .slice A0_1 l0_1.length c0_1, .slice A0_2 l0_2.length c0_2] 43 (0, 0)) (by (with_reducible repeat (first | refine blk_drewN ?_ _ | refine blk_drew ?_ | refine blk_alloc ?_ _)); exact BK245.out)) : gb262 ≠ gb245)); clear HO250; clear HO253; clear HO257; clear HO260; clear BK245; clear HB; have HO250 := n0_; have HO253 := n1_; have HO257 := n2_; have HO260 := n3_; have BK245 := n4_; have HB := n5_; have BK262 := n6_; have GW262 := n7_; have GE262 := n8_; have NB245_262 := n9_; have NB262_245 := n10_; clear n0_ n1_ n2_ n3_ n4_ n5_ n6_ n7_ n8_ n9_ n10_; clear hb hbox hg; have hnb22 := NB262_245.out; have hnc22 := NB245_262.out; have hcz23_0 : w21.cell? ⟨gb262, 0, none⟩ = some (.int .i64 0) := (blk_cell BK262.out 0).trans rfl; have hcz23_1 : w21.cell? ⟨gb262, 1, none⟩ = some (.slice none 0 0) := (blk_cell BK262.out 1).trans rfl; have hcz23_2 : w21.cell? ⟨gb262, 2, none⟩ = some (.slice none 0 0) := (blk_cell BK262.out 2).trans rfl; have hfz23_0 := blk_frozen BK262.out 0; have hfz23_1 := blk_frozen BK262.out 1; have hfz23_2 := blk_frozen BK262.out 2; obtain ⟨Ao24, co24, eo24⟩ := Kd.R_slice HO257.out; subst eo24; obtain ⟨Ao25, co25, eo25⟩ := Kd.R_slice HO260.out; subst eo25; have hcz26_0 : w21.cell? ⟨gb245, 0, none⟩ = some (.int .i64 a0_0) := (blk_cell BK245.out 0).trans rfl; have hcz26_1 : w21.cell? ⟨gb245, 1, none⟩ = some (.slice A0_1 l0_1.length c0_1) := (blk_cell BK245.out 1).trans rfl; have hcz26_2 : w21.cell? ⟨gb245, 2, none⟩ = some (.slice A0_2 l0_2.length c0_2) := (blk_cell BK245.out 2).trans rfl; have hfz26_0 := blk_frozen BK245.out 0; have hfz26_1 := blk_frozen BK245.out 1; have hfz26_2 := blk_frozen BK245.out 2) | ((with_reducible refine gate_callee (f := 30) rfl ?_); refine goesL_ (some 29) rfl rfl Try.func30 (by kernel_rfl) rfl #[.agg #[.int .i64 a0_0, .slice A0_1 l0_1.length c0_1, .slice A0_2 l0_2.length c0_2]] rfl (by (try simp only [List.map_toArray, List.map_cons, List.map_nil]); first | done | rfl | (simp only [List.length_drop, List.length_take]; rfl)) ?_; (with_reducible refine (laws_toEpochs.calls k a0_0 _ _ l0_1 _ _ l0_2 t263 t264 t267 _ ?side1 ?side2 ?side3 ?side4 A10.out).mono ?_); (case side1 => exact Kd.C_below HR0_1.out (by repeat (first | (with_reducible first | exact HB.out | apply below_alloc | apply pw_below_drewN | apply below_drew1 | refine below_set ?_ GE245.out | refine below_set ?_ GE262.out) | exact HB.out))); (case side2 => exact HC0_1.out); (case side3 => exact Kd.C_below HR0_2.out (by repeat (first | (with_reducible first | exact HB.out | apply below_alloc | apply pw_below_drewN | apply below_drew1 | refine below_set ?_ GE245.out | refine below_set ?_ GE262.out) | exact HB.out))); (case side4 => exact HC0_2.out); rintro e w27 ⟨v265, v268, rfl, ho0, ho1, hb⟩; refine ⟨_, rfl, ?_⟩; have n0_ := Aside0.mk (Kd.R_elder' (by (with_reducible repeat (first | apply Kd.R_alloc | apply Kd.R_drewN | apply Kd.R_drew)); exact (Kd.R_mono (Kd.R_far (p := ⟨gb262, 2, none⟩) (Kd.R_far (p := ⟨gb262, 1, none⟩) (Kd.R_far (p := ⟨gb262, 0, none⟩) (Kd.R_types HO250.out BK262.out (by decide)) (fun _ hk => hk.2) (.int .i64 t254)) (fun _ hk => hk.2) (.slice Ao24 t255.length co24)) (fun _ hk => hk.2) (.slice Ao25 t258.length co25)) (fun _ h_ => h_.1))) (Kd.R_base ho0) hb); have n1_ := Aside0.mk (Kd.R_elder' (by (with_reducible repeat (first | apply Kd.R_alloc | apply Kd.R_drewN | apply Kd.R_drew)); exact (Kd.R_mono (Kd.R_far (p := ⟨gb262, 2, none⟩) (Kd.R_far (p := ⟨gb262, 1, none⟩) (Kd.R_far (p := ⟨gb262, 0, none⟩) (Kd.R_types HO253.out BK262.out (by decide)) (fun _ hk => hk.2) (.int .i64 t254)) (fun _ hk => hk.2) (.slice Ao24 t255.length co24)) (fun _ hk => hk.2) (.slice Ao25 t258.length co25)) (fun _ h_ => h_.1))) (Kd.R_base ho1) hb); have n2_ := Aside0.mk (Kd.R_elder' (by (with_reducible repeat (first | apply Kd.R_alloc | apply Kd.R_drewN | apply Kd.R_drew)); exact (Kd.R_mono (Kd.R_far (p := ⟨gb262, 2, none⟩) (Kd.R_far (p := ⟨gb262, 1, none⟩) (Kd.R_far (p := ⟨gb262, 0, none⟩) (Kd.R_types HO257.out BK262.out (by decide)) (fun _ hk => hk.2) (.int .i64 t254)) (fun _ hk => hk.2) (.slice Ao24 t255.length co24)) (fun _ hk => hk.2) (.slice Ao25 t258.length co25)) (fun _ h_ => h_.1))) (Kd.R_base ho0) hb); have n3_ := Aside0.mk (Kd.R_elder' (by (with_reducible repeat (first | apply Kd.R_alloc | apply Kd.R_drewN | apply Kd.R_drew)); exact (Kd.R_mono (Kd.R_far (p := ⟨gb262, 2, none⟩) (Kd.R_far (p := ⟨gb262, 1, none⟩) (Kd.R_far (p := ⟨gb262, 0, none⟩) (Kd.R_types HO260.out BK262.out (by decide)) (fun _ hk => hk.2) (.int .i64 t254)) (fun _ hk => hk.2) (.slice Ao24 t255.length co24)) (fun _ hk => hk.2) (.slice Ao25 t258.length co25)) (fun _ h_ => h_.1))) (Kd.R_base ho1) hb); have n4_ := Aside0.mk (Kd.R_lower (Kd.R_new' (Kd.R_new' ho0 (Kd.R_lt (by (with_reducible repeat (first | apply Kd.R_alloc | apply Kd.R_drewN | apply Kd.R_drew)); exact (Kd.R_mono (Kd.R_far (p := ⟨gb262, 2, none⟩) (Kd.R_far (p := ⟨gb262, 1, none⟩) (Kd.R_far (p := ⟨gb262, 0, none⟩) (Kd.R_types HO250.out BK262.out (by decide)) (fun _ hk => hk.2) (.int .i64 t254)) (fun _ hk => hk.2) (.slice Ao24 t255.length co24)) (fun _ hk => hk.2) (.slice Ao25 t258.length co25)) (fun _ h_ => h_.1))))) (Kd.R_lt (by (with_reducible repeat (first | apply Kd.R_alloc | apply Kd.R_drewN | apply Kd.R_drew)); exact (Kd.R_mono (Kd.R_far (p := ⟨gb262, 2, none⟩) (Kd.R_far (p := ⟨gb262, 1, none⟩) (Kd.R_far (p := ⟨gb262, 0, none⟩) (Kd.R_types HO257.out BK262.out (by decide)) (fun _ hk => hk.2) (.int .i64 t254)) (fun _ hk => hk.2) (.slice Ao24 t255.length co24)) (fun _ hk => hk.2) (.slice Ao25 t258.length co25)) (fun _ h_ => h_.1))))) (below_size (by repeat (first | (with_reducible first | exact HB.out | apply below_alloc | apply pw_below_drewN | apply below_drew1 | refine below_set ?_ GE245.out | refine below_set ?_ GE262.out) | exact HB.out)))); have n5_ := Aside0.mk (Kd.R_lower (Kd.R_new' (Kd.R_new' ho1 (Kd.R_lt (by (with_reducible repeat (first | apply Kd.R_alloc | apply Kd.R_drewN | apply Kd.R_drew)); exact (Kd.R_mono (Kd.R_far (p := ⟨gb262, 2, none⟩) (Kd.R_far (p := ⟨gb262, 1, none⟩) (Kd.R_far (p := ⟨gb262, 0, none⟩) (Kd.R_types HO253.out BK262.out (by decide)) (fun _ hk => hk.2) (.int .i64 t254)) (fun _ hk => hk.2) (.slice Ao24 t255.length co24)) (fun _ hk => hk.2) (.slice Ao25 t258.length co25)) (fun _ h_ => h_.1))))) (Kd.R_lt (by (with_reducible repeat (first | apply Kd.R_alloc | apply Kd.R_drewN | apply Kd.R_drew)); exact (Kd.R_mono (Kd.R_far (p := ⟨gb262, 2, none⟩) (Kd.R_far (p := ⟨gb262, 1, none⟩) (Kd.R_far (p := ⟨gb262, 0, none⟩) (Kd.R_types HO260.out BK262.out (by decide)) (fun _ hk => hk.2) (.int .i64 t254)) (fun _ hk => hk.2) (.slice Ao24 t255.length co24)) (fun _ hk => hk.2) (.slice Ao25 t258.length co25)) (fun _ h_ => h_.1))))) (below_size (by repeat (first | (with_reducible first | exact HB.out | apply below_alloc | apply pw_below_drewN | apply below_drew1 | refine below_set ?_ GE245.out | refine below_set ?_ GE262.out) | exact HB.out)))); have n6_ := Aside0.mk (blk_below (g := gb245) (o := .cells #[.int .i64 a0_0, .slice A0_1 l0_1.length c0_1, .slice A0_2 l0_2.length c0_2] 43 (0, 0)) (by (with_reducible repeat (first | refine blk_drewN ?_ _ | refine blk_drew ?_ | refine blk_alloc ?_ _)); refine blk_far ?_ NB245_262.out _; (with_reducible repeat (first | refine blk_drewN ?_ _ | refine blk_drew ?_ | refine blk_alloc ?_ _)); refine blk_far ?_ NB245_262.out _; (with_reducible repeat (first | refine blk_drewN ?_ _ | refine blk_drew ?_ | refine blk_alloc ?_ _)); refine blk_far ?_ NB245_262.out _; (with_reducible repeat (first | refine blk_drewN ?_ _ | refine blk_drew ?_ | refine blk_alloc ?_ _)); exact BK245.out) hb); have n7_ := Aside0.mk (blk_below (g := gb262) (o := .cells #[.int .i64 t254, .slice Ao24 t255.length co24, .slice Ao25 t258.length co25] 27 (0, 0)) (by (with_reducible repeat (first | refine blk_drewN ?_ _ | refine blk_drew ?_ | refine blk_alloc ?_ _)); refine blk_put (cs := #[.int .i64 t254, .slice Ao24 t255.length co24, .slice none 0 0]) ?_ 2 _ rfl; (with_reducible repeat (first | refine blk_drewN ?_ _ | refine blk_drew ?_ | refine blk_alloc ?_ _)); refine blk_put (cs := #[.int .i64 t254, .slice none 0 0, .slice none 0 0]) ?_ 1 _ rfl; (with_reducible repeat (first | refine blk_drewN ?_ _ | refine blk_drew ?_ | refine blk_alloc ?_ _)); refine blk_put (cs := #[.int .i64 0, .slice none 0 0, .slice none 0 0]) ?_ 0 _ rfl; (with_reducible repeat (first | refine blk_drewN ?_ _ | refine blk_drew ?_ | refine blk_alloc ?_ _)); exact BK262.out) hb); have n8_ := Aside0.mk (below_step (by repeat (first | (with_reducible first | exact HB.out | apply below_alloc | apply pw_below_drewN | apply below_drew1 | refine below_set ?_ GE245.out | refine below_set ?_ GE262.out) | exact HB.out)) hb); clear HO250; clear HO253; clear HO257; clear HO260; clear BK245; clear BK262; clear HB; have HO250 := n0_; have HO253 := n1_; have HO257 := n2_; have HO260 := n3_; have HO266 := n4_; have HO269 := n5_; have BK245 := n6_; have BK262 := n7_; have HB := n8_; clear n0_ n1_ n2_ n3_ n4_ n5_ n6_ n7_ n8_; (try clear hb); (try clear hb2); (try clear hk); (try clear hi); (try clear ho0); (try clear ho1)) | ((with_reducible refine gate_dst (N := 8) rfl ?_); refine box_event ?hg (N := 8) ?hd (cs := #[.int .i64 0, .slice none 0 0, .slice none 0 0]) (t := 27) ?hr ?_; (case hd => rfl); (case hg => rfl); (case hr => first | (go_simp; done) | (go_simp; rfl)); intro gb270 hg w28 hbox hb; have n0_ := Aside0.mk (Kd.R_below (by (with_reducible repeat (first | apply Kd.R_alloc | apply Kd.R_drewN | apply Kd.R_drew)); exact HO250.out) hb); have n1_ := Aside0.mk (Kd.R_below (by (with_reducible repeat (first | apply Kd.R_alloc | apply Kd.R_drewN | apply Kd.R_drew)); exact HO253.out) hb); have n2_ := Aside0.mk (Kd.R_below (by (with_reducible repeat (first | apply Kd.R_alloc | apply Kd.R_drewN | apply Kd.R_drew)); exact HO257.out) hb); have n3_ := Aside0.mk (Kd.R_below (by (with_reducible repeat (first | apply Kd.R_alloc | apply Kd.R_drewN | apply Kd.R_drew)); exact HO260.out) hb); have n4_ := Aside0.mk (Kd.R_below (by (with_reducible repeat (first | apply Kd.R_alloc | apply Kd.R_drewN | apply Kd.R_drew)); exact HO266.out) hb); have n5_ := Aside0.mk (Kd.R_below (by (with_reducible repeat (first | apply Kd.R_alloc | apply Kd.R_drewN | apply Kd.R_drew)); exact HO269.out) hb); have n6_ := Aside0.mk (blk_below (g := gb245) (o := .cells #[.int .i64 a0_0, .slice A0_1 l0_1.length c0_1, .slice A0_2 l0_2.length c0_2] 43 (0, 0)) (by (with_reducible repeat (first | refine blk_drewN ?_ _ | refine blk_drew ?_ | refine blk_alloc ?_ _)); exact BK245.out) hb); have n7_ := Aside0.mk (blk_below (g := gb262) (o := .cells #[.int .i64 t254, .slice Ao24 t255.length co24, .slice Ao25 t258.length co25] 27 (0, 0)) (by (with_reducible repeat (first | refine blk_drewN ?_ _ | refine blk_drew ?_ | refine blk_alloc ?_ _)); exact BK262.out) hb); have n8_ := Aside0.mk (below_step (by repeat (first | (with_reducible first | exact HB.out | apply below_alloc | apply pw_below_drewN | apply below_drew1 | refine below_set ?_ GE245.out | refine below_set ?_ GE262.out) | exact HB.out)) hb); have n9_ := Aside0.mk (hbox); have n10_ := Aside0.mk ((by rw [hg]; exact (below_size (by repeat (first | (with_reducible first | exact HB.out | apply below_alloc | apply pw_below_drewN | apply below_drew1 | refine below_set ?_ GE245.out | refine below_set ?_ GE262.out) | exact HB.out))) : w.heap.size ≤ gb270)); have n11_ := Aside0.mk ((by rw [hg]; exact (below_size (by repeat (first | (with_reducible first | exact HB.out | apply below_alloc | apply pw_below_drewN | apply below_drew1 | refine below_set ?_ GE245.out | refine below_set ?_ GE262.out) | exact HB.out))) : w.heap.size ≤ gb270)); have n12_ := Aside0.mk ((by rw [hg]; exact Nat.ne_of_lt (blk_lt (g := gb245) (o := .cells #[.int .i64 a0_0, .slice A0_1 l0_1.length c0_1, .slice A0_2 l0_2.length c0_2] 43 (0, 0)) (by (with_reducible repeat (first | refine blk_drewN ?_ _ | refine blk_drew ?_ | refine blk_alloc ?_ _)); exact BK245.out)) : gb245 ≠ gb270)); have n13_ := Aside0.mk ((by rw [hg]; exact Nat.ne_of_gt (blk_lt (g := gb245) (o := .cells #[.int .i64 a0_0, .slice A0_1 l0_1.length c0_1, .slice A0_2 l0_2.length c0_2] 43 (0, 0)) (by (with_reducible repeat (first | refine blk_drewN ?_ _ | refine blk_drew ?_ | refine blk_alloc ?_ _)); exact BK245.out)) : gb270 ≠ gb245)); have n14_ := Aside0.mk ((by rw [hg]; exact Nat.ne_of_lt (blk_lt (g := gb262) (o := .cells #[.int .i64 t254, .slice Ao24 t255.length co24, .slice Ao25 t258.length co25] 27 (0, 0)) (by (with_reducible repeat (first | refine blk_drewN ?_ _ | refine blk_drew ?_ | refine blk_alloc ?_ _)); exact BK262.out)) : gb262 ≠ gb270)); have n15_ := Aside0.mk ((by rw [hg]; exact Nat.ne_of_gt (blk_lt (g := gb262) (o := .cells #[.int .i64 t254, .slice Ao24 t255.length co24, .slice Ao25 t258.length co25] 27 (0, 0)) (by (with_reducible repeat (first | refine blk_drewN ?_ _ | refine blk_drew ?_ | refine blk_alloc ?_ _)); exact BK262.out)) : gb270 ≠ gb262)); clear HO250; clear HO253; clear HO257; clear HO260; clear HO266; clear HO269; clear BK245; clear BK262; clear HB; have HO250 := n0_; have HO253 := n1_; have HO257 := n2_; have HO260 := n3_; have HO266 := n4_; have HO269 := n5_; have BK245 := n6_; have BK262 := n7_; have HB := n8_; have BK270 := n9_; have GW270 := n10_; have GE270 := n11_; have NB245_270 := n12_; have NB270_245 := n13_; have NB262_270 := n14_; have NB270_262 := n15_; clear n0_ n1_ n2_ n3_ n4_ n5_ n6_ n7_ n8_ n9_ n10_ n11_ n12_ n13_ n14_ n15_; clear hb hbox hg; have hnb29 := NB270_245.out; have hnc29 := NB245_270.out; have hnb30 := NB270_262.out; have hnc30 := NB262_270.out; have hcz31_0 : w28.cell? ⟨gb270, 0, none⟩ = some (.int .i64 0) := (blk_cell BK270.out 0).trans rfl; have hcz31_1 : w28.cell? ⟨gb270, 1, none⟩ = some (.slice none 0 0) := (blk_cell BK270.out 1).trans rfl; have hcz31_2 : w28.cell? ⟨gb270, 2, none⟩ = some (.slice none 0 0) := (blk_cell BK270.out 2).trans rfl; have hfz31_0 := blk_frozen BK270.out 0; have hfz31_1 := blk_frozen BK270.out 1; have hfz31_2 := blk_frozen BK270.out 2; obtain ⟨Ao32, co32, eo32⟩ := Kd.R_slice HO266.out; subst eo32; obtain ⟨Ao33, co33, eo33⟩ := Kd.R_slice HO269.out; subst eo33) | ((with_reducible refine gate_callee (f := 20) rfl ?_); refine goesL_ (some 33) rfl rfl Try.func20 (by kernel_rfl) rfl #[.agg #[.int .i64 t263, .slice Ao32 t264.length co32, .slice Ao33 t267.length co33], .int .i64 a1] rfl (by (try simp only [List.map_toArray, List.map_cons, List.map_nil]); first | done | rfl | (simp only [List.length_drop, List.length_take]; rfl)) ?_; (with_reducible refine (impl_Retire.calls t263 _ _ t264 _ _ t267 a1 t271 t272 t275 t278 _ ?side1 ?side2 ?side3 ?side4 A11.out).mono ?_); (case side1 => refine (Kd.R_reads' (e := 3) (base := w.heap.size) (ok := fun k_ => ((True ∧ some k_ ≠ (.slice Ao18 t248.length co18 : Value).ownBlock) ∧ some k_ ≠ (.slice Ao24 t255.length co24 : Value).ownBlock)) (n := t264.length) (c := co32) ?_).2.2; exact (by (with_reducible repeat (first | apply Kd.R_alloc | apply Kd.R_drewN | apply Kd.R_drew)); exact (Kd.R_mono (Kd.R_far (p := ⟨gb270, 2, none⟩) (Kd.R_far (p := ⟨gb270, 1, none⟩) (Kd.R_far (p := ⟨gb270, 0, none⟩) (Kd.R_types HO266.out BK270.out (by decide)) (fun _ hk => hk.2) (.int .i64 t263)) (fun _ hk => hk.2) (.slice Ao32 t264.length co32)) (fun _ hk => hk.2) (.slice Ao33 t267.length co33)) (fun _ h_ => h_.1)))); (case side2 => exact (Kd.R_reads' HO266.out).2.1); (case side3 => refine (Kd.R_reads' (e := 58) (base := w.heap.size) (ok := fun k_ => ((True ∧ some k_ ≠ (.slice Ao19 t251.length co19 : Value).ownBlock) ∧ some k_ ≠ (.slice Ao25 t258.length co25 : Value).ownBlock)) (n := t267.length) (c := co33) ?_).2.2; exact (by (with_reducible repeat (first | apply Kd.R_alloc | apply Kd.R_drewN | apply Kd.R_drew)); exact (Kd.R_mono (Kd.R_far (p := ⟨gb270, 2, none⟩) (Kd.R_far (p := ⟨gb270, 1, none⟩) (Kd.R_far (p := ⟨gb270, 0, none⟩) (Kd.R_types HO269.out BK270.out (by decide)) (fun _ hk => hk.2) (.int .i64 t263)) (fun _ hk => hk.2) (.slice Ao32 t264.length co32)) (fun _ hk => hk.2) (.slice Ao33 t267.length co33)) (fun _ h_ => h_.1)))); (case side4 => exact (Kd.R_reads' HO269.out).2.1); rintro e w34 ⟨v273, v276, rfl, ho0, ho1, hb⟩; refine ⟨_, rfl, ?_⟩; have n0_ := Aside0.mk (Kd.R_elder' (by (with_reducible repeat (first | apply Kd.R_alloc | apply Kd.R_drewN | apply Kd.R_drew)); exact (Kd.R_mono (Kd.R_far (p := ⟨gb270, 2, none⟩) (Kd.R_far (p := ⟨gb270, 1, none⟩) (Kd.R_far (p := ⟨gb270, 0, none⟩) (Kd.R_types HO250.out BK270.out (by decide)) (fun _ hk => hk.2) (.int .i64 t263)) (fun _ hk => hk.2) (.slice Ao32 t264.length co32)) (fun _ hk => hk.2) (.slice Ao33 t267.length co33)) (fun _ h_ => h_.1))) (Kd.R_base ho0) hb); have n1_ := Aside0.mk (Kd.R_elder' (by (with_reducible repeat (first | apply Kd.R_alloc | apply Kd.R_drewN | apply Kd.R_drew)); exact (Kd.R_mono (Kd.R_far (p := ⟨gb270, 2, none⟩) (Kd.R_far (p := ⟨gb270, 1, none⟩) (Kd.R_far (p := ⟨gb270, 0, none⟩) (Kd.R_types HO253.out BK270.out (by decide)) (fun _ hk => hk.2) (.int .i64 t263)) (fun _ hk => hk.2) (.slice Ao32 t264.length co32)) (fun _ hk => hk.2) (.slice Ao33 t267.length co33)) (fun _ h_ => h_.1))) (Kd.R_base ho1) hb); have n2_ := Aside0.mk (Kd.R_elder' (by (with_reducible repeat (first | apply Kd.R_alloc | apply Kd.R_drewN | apply Kd.R_drew)); exact (Kd.R_mono (Kd.R_far (p := ⟨gb270, 2, none⟩) (Kd.R_far (p := ⟨gb270, 1, none⟩) (Kd.R_far (p := ⟨gb270, 0, none⟩) (Kd.R_types HO257.out BK270.out (by decide)) (fun _ hk => hk.2) (.int .i64 t263)) (fun _ hk => hk.2) (.slice Ao32 t264.length co32)) (fun _ hk => hk.2) (.slice Ao33 t267.length co33)) (fun _ h_ => h_.1))) (Kd.R_base ho0) hb); have n3_ := Aside0.mk (Kd.R_elder' (by (with_reducible repeat (first | apply Kd.R_alloc | apply Kd.R_drewN | apply Kd.R_drew)); exact (Kd.R_mono (Kd.R_far (p := ⟨gb270, 2, none⟩) (Kd.R_far (p := ⟨gb270, 1, none⟩) (Kd.R_far (p := ⟨gb270, 0, none⟩) (Kd.R_types HO260.out BK270.out (by decide)) (fun _ hk => hk.2) (.int .i64 t263)) (fun _ hk => hk.2) (.slice Ao32 t264.length co32)) (fun _ hk => hk.2) (.slice Ao33 t267.length co33)) (fun _ h_ => h_.1))) (Kd.R_base ho1) hb); have n4_ := Aside0.mk (Kd.R_elder' (by (with_reducible repeat (first | apply Kd.R_alloc | apply Kd.R_drewN | apply Kd.R_drew)); exact (Kd.R_mono (Kd.R_far (p := ⟨gb270, 2, none⟩) (Kd.R_far (p := ⟨gb270, 1, none⟩) (Kd.R_far (p := ⟨gb270, 0, none⟩) (Kd.R_types HO266.out BK270.out (by decide)) (fun _ hk => hk.2) (.int .i64 t263)) (fun _ hk => hk.2) (.slice Ao32 t264.length co32)) (fun _ hk => hk.2) (.slice Ao33 t267.length co33)) (fun _ h_ => h_.1))) (Kd.R_base ho0) hb); have n5_ := Aside0.mk (Kd.R_elder' (by (with_reducible repeat (first | apply Kd.R_alloc | apply Kd.R_drewN | apply Kd.R_drew)); exact (Kd.R_mono (Kd.R_far (p := ⟨gb270, 2, none⟩) (Kd.R_far (p := ⟨gb270, 1, none⟩) (Kd.R_far (p := ⟨gb270, 0, none⟩) (Kd.R_types HO269.out BK270.out (by decide)) (fun _ hk => hk.2) (.int .i64 t263)) (fun _ hk => hk.2) (.slice Ao32 t264.length co32)) (fun _ hk => hk.2) (.slice Ao33 t267.length co33)) (fun _ h_ => h_.1))) (Kd.R_base ho1) hb); have n6_ := Aside0.mk (Kd.R_lower (Kd.R_new' (Kd.R_new' (Kd.R_new' ho0 (Kd.R_lt (by (with_reducible repeat (first | apply Kd.R_alloc | apply Kd.R_drewN | apply Kd.R_drew)); exact (Kd.R_mono (Kd.R_far (p := ⟨gb270, 2, none⟩) (Kd.R_far (p := ⟨gb270, 1, none⟩) (Kd.R_far (p := ⟨gb270, 0, none⟩) (Kd.R_types HO250.out BK270.out (by decide)) (fun _ hk => hk.2) (.int .i64 t263)) (fun _ hk => hk.2) (.slice Ao32 t264.length co32)) (fun _ hk => hk.2) (.slice Ao33 t267.length co33)) (fun _ h_ => h_.1))))) (Kd.R_lt (by (with_reducible repeat (first | apply Kd.R_alloc | apply Kd.R_drewN | apply Kd.R_drew)); exact (Kd.R_mono (Kd.R_far (p := ⟨gb270, 2, none⟩) (Kd.R_far (p := ⟨gb270, 1, none⟩) (Kd.R_far (p := ⟨gb270, 0, none⟩) (Kd.R_types HO257.out BK270.out (by decide)) (fun _ hk => hk.2) (.int .i64 t263)) (fun _ hk => hk.2) (.slice Ao32 t264.length co32)) (fun _ hk => hk.2) (.slice Ao33 t267.length co33)) (fun _ h_ => h_.1))))) (Kd.R_lt (by (with_reducible repeat (first | apply Kd.R_alloc | apply Kd.R_drewN | apply Kd.R_drew)); exact (Kd.R_mono (Kd.R_far (p := ⟨gb270, 2, none⟩) (Kd.R_far (p := ⟨gb270, 1, none⟩) (Kd.R_far (p := ⟨gb270, 0, none⟩) (Kd.R_types HO266.out BK270.out (by decide)) (fun _ hk => hk.2) (.int .i64 t263)) (fun _ hk => hk.2) (.slice Ao32 t264.length co32)) (fun _ hk => hk.2) (.slice Ao33 t267.length co33)) (fun _ h_ => h_.1))))) (below_size (by repeat (first | (with_reducible first | exact HB.out | apply below_alloc | apply pw_below_drewN | apply below_drew1 | refine below_set ?_ GE245.out | refine below_set ?_ GE262.out | refine below_set ?_ GE270.out) | exact HB.out)))); have n7_ := Aside0.mk (Kd.R_lower (Kd.R_new' (Kd.R_new' (Kd.R_new' ho1 (Kd.R_lt (by (with_reducible repeat (first | apply Kd.R_alloc | apply Kd.R_drewN | apply Kd.R_drew)); exact (Kd.R_mono (Kd.R_far (p := ⟨gb270, 2, none⟩) (Kd.R_far (p := ⟨gb270, 1, none⟩) (Kd.R_far (p := ⟨gb270, 0, none⟩) (Kd.R_types HO253.out BK270.out (by decide)) (fun _ hk => hk.2) (.int .i64 t263)) (fun _ hk => hk.2) (.slice Ao32 t264.length co32)) (fun _ hk => hk.2) (.slice Ao33 t267.length co33)) (fun _ h_ => h_.1))))) (Kd.R_lt (by (with_reducible repeat (first | apply Kd.R_alloc | apply Kd.R_drewN | apply Kd.R_drew)); exact (Kd.R_mono (Kd.R_far (p := ⟨gb270, 2, none⟩) (Kd.R_far (p := ⟨gb270, 1, none⟩) (Kd.R_far (p := ⟨gb270, 0, none⟩) (Kd.R_types HO260.out BK270.out (by decide)) (fun _ hk => hk.2) (.int .i64 t263)) (fun _ hk => hk.2) (.slice Ao32 t264.length co32)) (fun _ hk => hk.2) (.slice Ao33 t267.length co33)) (fun _ h_ => h_.1))))) (Kd.R_lt (by (with_reducible repeat (first | apply Kd.R_alloc | apply Kd.R_drewN | apply Kd.R_drew)); exact (Kd.R_mono (Kd.R_far (p := ⟨gb270, 2, none⟩) (Kd.R_far (p := ⟨gb270, 1, none⟩) (Kd.R_far (p := ⟨gb270, 0, none⟩) (Kd.R_types HO269.out BK270.out (by decide)) (fun _ hk => hk.2) (.int .i64 t263)) (fun _ hk => hk.2) (.slice Ao32 t264.length co32)) (fun _ hk => hk.2) (.slice Ao33 t267.length co33)) (fun _ h_ => h_.1))))) (below_size (by repeat (first | (with_reducible first | exact HB.out | apply below_alloc | apply pw_below_drewN | apply below_drew1 | refine below_set ?_ GE245.out | refine below_set ?_ GE262.out | refine below_set ?_ GE270.out) | exact HB.out)))); have n8_ := Aside0.mk (blk_below (g := gb245) (o := .cells #[.int .i64 a0_0, .slice A0_1 l0_1.length c0_1, .slice A0_2 l0_2.length c0_2] 43 (0, 0)) (by (with_reducible repeat (first | refine blk_drewN ?_ _ | refine blk_drew ?_ | refine blk_alloc ?_ _)); refine blk_far ?_ NB245_270.out _; (with_reducible repeat (first | refine blk_drewN ?_ _ | refine blk_drew ?_ | refine blk_alloc ?_ _)); refine blk_far ?_ NB245_270.out _; (with_reducible repeat (first | refine blk_drewN ?_ _ | refine blk_drew ?_ | refine blk_alloc ?_ _)); refine blk_far ?_ NB245_270.out _; (with_reducible repeat (first | refine blk_drewN ?_ _ | refine blk_drew ?_ | refine blk_alloc ?_ _)); exact BK245.out) hb); have n9_ := Aside0.mk (blk_below (g := gb262) (o := .cells #[.int .i64 t254, .slice Ao24 t255.length co24, .slice Ao25 t258.length co25] 27 (0, 0)) (by (with_reducible repeat (first | refine blk_drewN ?_ _ | refine blk_drew ?_ | refine blk_alloc ?_ _)); refine blk_far ?_ NB262_270.out _; (with_reducible repeat (first | refine blk_drewN ?_ _ | refine blk_drew ?_ | refine blk_alloc ?_ _)); refine blk_far ?_ NB262_270.out _; (with_reducible repeat (first | refine blk_drewN ?_ _ | refine blk_drew ?_ | refine blk_alloc ?_ _)); refine blk_far ?_ NB262_270.out _; (with_reducible repeat (first | refine blk_drewN ?_ _ | refine blk_drew ?_ | refine blk_alloc ?_ _)); exact BK262.out) hb); have n10_ := Aside0.mk (blk_below (g := gb270) (o := .cells #[.int .i64 t263, .slice Ao32 t264.length co32, .slice Ao33 t267.length co33] 27 (0, 0)) (by (with_reducible repeat (first | refine blk_drewN ?_ _ | refine blk_drew ?_ | refine blk_alloc ?_ _)); refine blk_put (cs := #[.int .i64 t263, .slice Ao32 t264.length co32, .slice none 0 0]) ?_ 2 _ rfl; (with_reducible repeat (first | refine blk_drewN ?_ _ | refine blk_drew ?_ | refine blk_alloc ?_ _)); refine blk_put (cs := #[.int .i64 t263, .slice none 0 0, .slice none 0 0]) ?_ 1 _ rfl; (with_reducible repeat (first | refine blk_drewN ?_ _ | refine blk_drew ?_ | refine blk_alloc ?_ _)); refine blk_put (cs := #[.int .i64 0, .slice none 0 0, .slice none 0 0]) ?_ 0 _ rfl; (with_reducible repeat (first | refine blk_drewN ?_ _ | refine blk_drew ?_ | refine blk_alloc ?_ _)); exact BK270.out) hb); have n11_ := Aside0.mk (below_step (by repeat (first | (with_reducible first | exact HB.out | apply below_alloc | apply pw_below_drewN | apply below_drew1 | refine below_set ?_ GE245.out | refine below_set ?_ GE262.out | refine below_set ?_ GE270.out) | exact HB.out)) hb); clear HO250; clear HO253; clear HO257; clear HO260; clear HO266; clear HO269; clear BK245; clear BK262; clear BK270; clear HB; have HO250 := n0_; have HO253 := n1_; have HO257 := n2_; have HO260 := n3_; have HO266 := n4_; have HO269 := n5_; have HO274 := n6_; have HO277 := n7_; have BK245 := n8_; have BK262 := n9_; have BK270 := n10_; have HB := n11_; clear n0_ n1_ n2_ n3_ n4_ n5_ n6_ n7_ n8_ n9_ n10_ n11_; (try clear hb); (try clear hb2); (try clear hk); (try clear hi); (try clear ho0); (try clear ho1)) | ((with_reducible refine gate_dst (N := 9) rfl ?_); refine box_event ?hg (N := 9) ?hd (cs := #[.int .i64 0, .slice none 0 0, .slice none 0 0]) (t := 27) ?hr ?_; (case hd => rfl); (case hg => rfl); (case hr => first | (go_simp; done) | (go_simp; rfl)); intro gb279 hg w35 hbox hb; have n0_ := Aside0.mk (Kd.R_below (by (with_reducible repeat (first | apply Kd.R_alloc | apply Kd.R_drewN | apply Kd.R_drew)); exact HO250.out) hb); have n1_ := Aside0.mk (Kd.R_below (by (with_reducible repeat (first | apply Kd.R_alloc | apply Kd.R_drewN | apply Kd.R_drew)); exact HO253.out) hb); have n2_ := Aside0.mk (Kd.R_below (by (with_reducible repeat (first | apply Kd.R_alloc | apply Kd.R_drewN | apply Kd.R_drew)); exact HO257.out) hb); have n3_ := Aside0.mk (Kd.R_below (by (with_reducible repeat (first | apply Kd.R_alloc | apply Kd.R_drewN | apply Kd.R_drew)); exact HO260.out) hb); have n4_ := Aside0.mk (Kd.R_below (by (with_reducible repeat (first | apply Kd.R_alloc | apply Kd.R_drewN | apply Kd.R_drew)); exact HO266.out) hb); have n5_ := Aside0.mk (Kd.R_below (by (with_reducible repeat (first | apply Kd.R_alloc | apply Kd.R_drewN | apply Kd.R_drew)); exact HO269.out) hb); have n6_ := Aside0.mk (Kd.R_below (by (with_reducible repeat (first | apply Kd.R_alloc | apply Kd.R_drewN | apply Kd.R_drew)); exact HO274.out) hb); have n7_ := Aside0.mk (Kd.R_below (by (with_reducible repeat (first | apply Kd.R_alloc | apply Kd.R_drewN | apply Kd.R_drew)); exact HO277.out) hb); have n8_ := Aside0.mk (blk_below (g := gb245) (o := .cells #[.int .i64 a0_0, .slice A0_1 l0_1.length c0_1, .slice A0_2 l0_2.length c0_2] 43 (0, 0)) (by (with_reducible repeat (first | refine blk_drewN ?_ _ | refine blk_drew ?_ | refine blk_alloc ?_ _)); exact BK245.out) hb); have n9_ := Aside0.mk (blk_below (g := gb262) (o := .cells #[.int .i64 t254, .slice Ao24 t255.length co24, .slice Ao25 t258.length co25] 27 (0, 0)) (by (with_reducible repeat (first | refine blk_drewN ?_ _ | refine blk_drew ?_ | refine blk_alloc ?_ _)); exact BK262.out) hb); have n10_ := Aside0.mk (blk_below (g := gb270) (o := .cells #[.int .i64 t263, .slice Ao32 t264.length co32, .slice Ao33 t267.length co33] 27 (0, 0)) (by (with_reducible repeat (first | refine blk_drewN ?_ _ | refine blk_drew ?_ | refine blk_alloc ?_ _)); exact BK270.out) hb); have n11_ := Aside0.mk (below_step (by repeat (first | (with_reducible first | exact HB.out | apply below_alloc | apply pw_below_drewN | apply below_drew1 | refine below_set ?_ GE245.out | refine below_set ?_ GE262.out | refine below_set ?_ GE270.out) | exact HB.out)) hb); have n12_ := Aside0.mk (hbox); have n13_ := Aside0.mk ((by rw [hg]; exact (below_size (by repeat (first | (with_reducible first | exact HB.out | apply below_alloc | apply pw_below_drewN | apply below_drew1 | refine below_set ?_ GE245.out | refine below_set ?_ GE262.out | refine below_set ?_ GE270.out) | exact HB.out))) : w.heap.size ≤ gb279)); have n14_ := Aside0.mk ((by rw [hg]; exact (below_size (by repeat (first | (with_reducible first | exact HB.out | apply below_alloc | apply pw_below_drewN | apply below_drew1 | refine below_set ?_ GE245.out | refine below_set ?_ GE262.out | refine below_set ?_ GE270.out) | exact HB.out))) : w.heap.size ≤ gb279)); have n15_ := Aside0.mk ((by rw [hg]; exact Nat.ne_of_lt (blk_lt (g := gb245) (o := .cells #[.int .i64 a0_0, .slice A0_1 l0_1.length c0_1, .slice A0_2 l0_2.length c0_2] 43 (0, 0)) (by (with_reducible repeat (first | refine blk_drewN ?_ _ | refine blk_drew ?_ | refine blk_alloc ?_ _)); exact BK245.out)) : gb245 ≠ gb279)); have n16_ := Aside0.mk ((by rw [hg]; exact Nat.ne_of_gt (blk_lt (g := gb245) (o := .cells #[.int .i64 a0_0, .slice A0_1 l0_1.length c0_1, .slice A0_2 l0_2.length c0_2] 43 (0, 0)) (by (with_reducible repeat (first | refine blk_drewN ?_ _ | refine blk_drew ?_ | refine blk_alloc ?_ _)); exact BK245.out)) : gb279 ≠ gb245)); have n17_ := Aside0.mk ((by rw [hg]; exact Nat.ne_of_lt (blk_lt (g := gb262) (o := .cells #[.int .i64 t254, .slice Ao24 t255.length co24, .slice Ao25 t258.length co25] 27 (0, 0)) (by (with_reducible repeat (first | refine blk_drewN ?_ _ | refine blk_drew ?_ | refine blk_alloc ?_ _)); exact BK262.out)) : gb262 ≠ gb279)); have n18_ := Aside0.mk ((by rw [hg]; exact Nat.ne_of_gt (blk_lt (g := gb262) (o := .cells #[.int .i64 t254, .slice Ao24 t255.length co24, .slice Ao25 t258.length co25] 27 (0, 0)) (by (with_reducible repeat (first | refine blk_drewN ?_ _ | refine blk_drew ?_ | refine blk_alloc ?_ _)); exact BK262.out)) : gb279 ≠ gb262)); have n19_ := Aside0.mk ((by rw [hg]; exact Nat.ne_of_lt (blk_lt (g := gb270) (o := .cells #[.int .i64 t263, .slice Ao32 t264.length co32, .slice Ao33 t267.length co33] 27 (0, 0)) (by (with_reducible repeat (first | refine blk_drewN ?_ _ | refine blk_drew ?_ | refine blk_alloc ?_ _)); exact BK270.out)) : gb270 ≠ gb279)); have n20_ := Aside0.mk ((by rw [hg]; exact Nat.ne_of_gt (blk_lt (g := gb270) (o := .cells #[.int .i64 t263, .slice Ao32 t264.length co32, .slice Ao33 t267.length co33] 27 (0, 0)) (by (with_reducible repeat (first | refine blk_drewN ?_ _ | refine blk_drew ?_ | refine blk_alloc ?_ _)); exact BK270.out)) : gb279 ≠ gb270)); clear HO250; clear HO253; clear HO257; clear HO260; clear HO266; clear HO269; clear HO274; clear HO277; clear BK245; clear BK262; clear BK270; clear HB; have HO250 := n0_; have HO253 := n1_; have HO257 := n2_; have HO260 := n3_; have HO266 := n4_; have HO269 := n5_; have HO274 := n6_; have HO277 := n7_; have BK245 := n8_; have BK262 := n9_; have BK270 := n10_; have HB := n11_; have BK279 := n12_; have GW279 := n13_; have GE279 := n14_; have NB245_279 := n15_; have NB279_245 := n16_; have NB262_279 := n17_; have NB279_262 := n18_; have NB270_279 := n19_; have NB279_270 := n20_; clear n0_ n1_ n2_ n3_ n4_ n5_ n6_ n7_ n8_ n9_ n10_ n11_ n12_ n13_ n14_ n15_ n16_ n17_ n18_ n19_ n20_; clear hb hbox hg; have hnb36 := NB279_245.out; have hnc36 := NB245_279.out; have hnb37 := NB279_262.out; have hnc37 := NB262_279.out; have hnb38 := NB279_270.out; have hnc38 := NB270_279.out; have hcz39_0 : w35.cell? ⟨gb279, 0, none⟩ = some (.int .i64 0) := (blk_cell BK279.out 0).trans rfl; have hcz39_1 : w35.cell? ⟨gb279, 1, none⟩ = some (.slice none 0 0) := (blk_cell BK279.out 1).trans rfl; have hcz39_2 : w35.cell? ⟨gb279, 2, none⟩ = some (.slice none 0 0) := (blk_cell BK279.out 2).trans rfl; have hfz39_0 := blk_frozen BK279.out 0; have hfz39_1 := blk_frozen BK279.out 1; have hfz39_2 := blk_frozen BK279.out 2; obtain ⟨Ao40, co40, eo40⟩ := Kd.R_slice HO274.out; subst eo40; obtain ⟨Ao41, co41, eo41⟩ := Kd.R_slice HO277.out; subst eo41))
    (try simp only [Act.put, List.setIfInBounds_toArray, List.set_cons_zero, List.set_cons_succ])
    go_cut [44] (fun v44 wc => ∃ (kq : Nat) (x44_11 : Bool), v44 = .bool x44_11 ∧ Aside0 (laws_FnExactRetire.j0 kq a1 t261 t278 x44_11 a0_0 l0_1 l0_2 t254 t255 t258 t263 t264 t267 t271 t272 t275 = some r) ∧ Aside0 (kq ≤ k) ∧ Aside0 (Kd.R (Kd.int .i64) 3 wc w.heap.size (fun k_ => some k_ ≠ ((.slice Ao32 t264.length co32) : Value).ownBlock ∧ some k_ ≠ ((.slice Ao40 t272.length co40) : Value).ownBlock) (.slice Ao24 t255.length co24) t255) ∧ Aside0 (Kd.R k58 58 wc w.heap.size (fun k_ => some k_ ≠ ((.slice Ao33 t267.length co33) : Value).ownBlock ∧ some k_ ≠ ((.slice Ao41 t275.length co41) : Value).ownBlock) (.slice Ao25 t258.length co25) t258) ∧ Aside0 (Kd.R (Kd.int .i64) 3 wc w.heap.size (fun k_ => some k_ ≠ ((.slice Ao24 t255.length co24) : Value).ownBlock ∧ some k_ ≠ ((.slice Ao40 t272.length co40) : Value).ownBlock) (.slice Ao32 t264.length co32) t264) ∧ Aside0 (Kd.R k58 58 wc w.heap.size (fun k_ => some k_ ≠ ((.slice Ao25 t258.length co25) : Value).ownBlock ∧ some k_ ≠ ((.slice Ao41 t275.length co41) : Value).ownBlock) (.slice Ao33 t267.length co33) t267) ∧ Aside0 (Kd.R (Kd.int .i64) 3 wc w.heap.size (fun k_ => some k_ ≠ ((.slice Ao24 t255.length co24) : Value).ownBlock ∧ some k_ ≠ ((.slice Ao32 t264.length co32) : Value).ownBlock) (.slice Ao40 t272.length co40) t272) ∧ Aside0 (Kd.R k58 58 wc w.heap.size (fun k_ => some k_ ≠ ((.slice Ao25 t258.length co25) : Value).ownBlock ∧ some k_ ≠ ((.slice Ao33 t267.length co33) : Value).ownBlock) (.slice Ao41 t275.length co41) t275) ∧ Aside0 (wc.heap[gb245]? = some (.cells #[.int .i64 a0_0, (.slice A0_1 l0_1.length c0_1), (.slice A0_2 l0_2.length c0_2)] 43 (0, 0))) ∧ Aside0 (wc.heap[gb262]? = some (.cells #[.int .i64 t254, (.slice Ao24 t255.length co24), (.slice Ao25 t258.length co25)] 27 (0, 0))) ∧ Aside0 (wc.heap[gb270]? = some (.cells #[.int .i64 t263, (.slice Ao32 t264.length co32), (.slice Ao33 t267.length co33)] 27 (0, 0))) ∧ Aside0 (wc.heap[gb279]? = some (.cells #[.int .i64 t271, (.slice Ao40 t272.length co40), (.slice Ao41 t275.length co41)] 27 (0, 0))) ∧ Aside0 (Below w.heap.size w wc))
    case first =>
      have H := HC12.out
      clear HC12
      replace H := Option.bind_eq_some_iff.mp H
      obtain ⟨t280, A420, H⟩ := H
      replace H : (if t280 = true then (laws_FnExactRetire.j0 k a1 t261 t278 (t278 != t261) a0_0 l0_1 l0_2 t254 t255 t258 t263 t264 t267 t271 t272 t275) else (laws_FnExactRetire.j0 k a1 t261 t278 true a0_0 l0_1 l0_2 t254 t255 t258 t263 t264 t267 t271 t272 t275)) = some r := H
      have A42 := Aside0.mk A420
      clear A420
      by_cases c43 : t280 = true
      · subst c43
        have H1 : (laws_FnExactRetire.j0 k a1 t261 t278 (t278 != t261) a0_0 l0_1 l0_2 t254 t255 t258 t263 t264 t267 t271 t272 t275) = some r := by rw [if_pos rfl] at H; exact H
        clear H
        have H := H1
        clear H1
        have H' := Aside0.mk H
        clear H
        have hnb44 := NB279_245.out
        have hnc44 := NB245_279.out
        have hnb45 := NB279_262.out
        have hnc45 := NB262_279.out
        have hnb46 := NB279_270.out
        have hnc46 := NB270_279.out
        have hcz47_0 : w35.cell? ⟨gb279, 0, none⟩ = some (.int .i64 0) := (blk_cell BK279.out 0).trans rfl
        have hcz47_1 : w35.cell? ⟨gb279, 1, none⟩ = some (.slice none 0 0) := (blk_cell BK279.out 1).trans rfl
        have hcz47_2 : w35.cell? ⟨gb279, 2, none⟩ = some (.slice none 0 0) := (blk_cell BK279.out 2).trans rfl
        have hfz47_0 := blk_frozen BK279.out 0
        have hfz47_1 := blk_frozen BK279.out 1
        have hfz47_2 := blk_frozen BK279.out 2
        have hnb48 := NB262_245.out
        have hnc48 := NB245_262.out
        have hnb49 := NB262_270.out
        have hnc49 := NB270_262.out
        have hcz50_0 : w35.cell? ⟨gb262, 0, none⟩ = some (.int .i64 t254) := (blk_cell BK262.out 0).trans rfl
        have hcz50_1 : w35.cell? ⟨gb262, 1, none⟩ = some (.slice Ao24 t255.length co24) := (blk_cell BK262.out 1).trans rfl
        have hcz50_2 : w35.cell? ⟨gb262, 2, none⟩ = some (.slice Ao25 t258.length co25) := (blk_cell BK262.out 2).trans rfl
        have hfz50_0 := blk_frozen BK262.out 0
        have hfz50_1 := blk_frozen BK262.out 1
        have hfz50_2 := blk_frozen BK262.out 2
        go_wp2_with (first | ((with_reducible refine gate_callee (f := 25) rfl ?_); refine goesL_ (some 38) rfl rfl Try.func25 (by kernel_rfl) rfl #[.agg #[.int .i64 t271, .slice Ao40 t272.length co40, .slice Ao41 t275.length co41], .agg #[.int .i64 t254, .slice Ao24 t255.length co24, .slice Ao25 t258.length co25]] rfl (by (try simp only [List.map_toArray, List.map_cons, List.map_nil]); first | done | rfl | (simp only [List.length_drop, List.length_take]; rfl)) ?_; (with_reducible refine (laws_eqEpochs.calls k t271 _ _ t272 _ _ t275 t254 _ _ t255 _ _ t258 true _ ?side1 ?side2 ?side3 ?side4 ?side5 ?side6 ?side7 ?side8 A42.out).mono ?_); (case side1 => refine (Kd.R_reads' (e := 3) (base := w.heap.size) (ok := fun k_ => (((True ∧ some k_ ≠ (.slice Ao18 t248.length co18 : Value).ownBlock) ∧ some k_ ≠ (.slice Ao24 t255.length co24 : Value).ownBlock) ∧ some k_ ≠ (.slice Ao32 t264.length co32 : Value).ownBlock)) (n := t272.length) (c := co40) ?_).2.2; exact (by (with_reducible repeat (first | apply Kd.R_alloc | apply Kd.R_drewN | apply Kd.R_drew)); exact (Kd.R_mono (Kd.R_far (p := ⟨gb279, 2, none⟩) (Kd.R_far (p := ⟨gb279, 1, none⟩) (Kd.R_far (p := ⟨gb279, 0, none⟩) (Kd.R_types HO274.out BK279.out (by decide)) (fun _ hk => hk.2) (.int .i64 t271)) (fun _ hk => hk.2) (.slice Ao40 t272.length co40)) (fun _ hk => hk.2) (.slice Ao41 t275.length co41)) (fun _ h_ => h_.1)))); (case side2 => exact (Kd.R_reads' HO274.out).2.1); (case side3 => refine (Kd.R_reads' (e := 58) (base := w.heap.size) (ok := fun k_ => (((True ∧ some k_ ≠ (.slice Ao19 t251.length co19 : Value).ownBlock) ∧ some k_ ≠ (.slice Ao25 t258.length co25 : Value).ownBlock) ∧ some k_ ≠ (.slice Ao33 t267.length co33 : Value).ownBlock)) (n := t275.length) (c := co41) ?_).2.2; exact (by (with_reducible repeat (first | apply Kd.R_alloc | apply Kd.R_drewN | apply Kd.R_drew)); exact (Kd.R_mono (Kd.R_far (p := ⟨gb279, 2, none⟩) (Kd.R_far (p := ⟨gb279, 1, none⟩) (Kd.R_far (p := ⟨gb279, 0, none⟩) (Kd.R_types HO277.out BK279.out (by decide)) (fun _ hk => hk.2) (.int .i64 t271)) (fun _ hk => hk.2) (.slice Ao40 t272.length co40)) (fun _ hk => hk.2) (.slice Ao41 t275.length co41)) (fun _ h_ => h_.1)))); (case side4 => exact (Kd.R_reads' HO277.out).2.1); (case side5 => refine (Kd.R_reads' (e := 3) (base := w.heap.size) (ok := fun k_ => (((True ∧ some k_ ≠ (.slice Ao18 t248.length co18 : Value).ownBlock) ∧ some k_ ≠ (.slice Ao32 t264.length co32 : Value).ownBlock) ∧ some k_ ≠ (.slice Ao40 t272.length co40 : Value).ownBlock)) (n := t255.length) (c := co24) ?_).2.2; exact (by (with_reducible repeat (first | apply Kd.R_alloc | apply Kd.R_drewN | apply Kd.R_drew)); exact (Kd.R_mono (Kd.R_far (p := ⟨gb279, 2, none⟩) (Kd.R_far (p := ⟨gb279, 1, none⟩) (Kd.R_far (p := ⟨gb279, 0, none⟩) (Kd.R_types HO257.out BK279.out (by decide)) (fun _ hk => hk.2) (.int .i64 t271)) (fun _ hk => hk.2) (.slice Ao40 t272.length co40)) (fun _ hk => hk.2) (.slice Ao41 t275.length co41)) (fun _ h_ => h_.1)))); (case side6 => exact (Kd.R_reads' HO257.out).2.1); (case side7 => refine (Kd.R_reads' (e := 58) (base := w.heap.size) (ok := fun k_ => (((True ∧ some k_ ≠ (.slice Ao19 t251.length co19 : Value).ownBlock) ∧ some k_ ≠ (.slice Ao33 t267.length co33 : Value).ownBlock) ∧ some k_ ≠ (.slice Ao41 t275.length co41 : Value).ownBlock)) (n := t258.length) (c := co25) ?_).2.2; exact (by (with_reducible repeat (first | apply Kd.R_alloc | apply Kd.R_drewN | apply Kd.R_drew)); exact (Kd.R_mono (Kd.R_far (p := ⟨gb279, 2, none⟩) (Kd.R_far (p := ⟨gb279, 1, none⟩) (Kd.R_far (p := ⟨gb279, 0, none⟩) (Kd.R_types HO260.out BK279.out (by decide)) (fun _ hk => hk.2) (.int .i64 t271)) (fun _ hk => hk.2) (.slice Ao40 t272.length co40)) (fun _ hk => hk.2) (.slice Ao41 t275.length co41)) (fun _ h_ => h_.1)))); (case side8 => exact (Kd.R_reads' HO260.out).2.1); rintro e w51 ⟨rfl, hb⟩; refine ⟨_, rfl, ?_⟩; have n0_ := Aside0.mk (Kd.R_below (by (with_reducible repeat (first | apply Kd.R_alloc | apply Kd.R_drewN | apply Kd.R_drew)); exact (Kd.R_mono (Kd.R_far (p := ⟨gb279, 2, none⟩) (Kd.R_far (p := ⟨gb279, 1, none⟩) (Kd.R_far (p := ⟨gb279, 0, none⟩) (Kd.R_types HO250.out BK279.out (by decide)) (fun _ hk => hk.2) (.int .i64 t271)) (fun _ hk => hk.2) (.slice Ao40 t272.length co40)) (fun _ hk => hk.2) (.slice Ao41 t275.length co41)) (fun _ h_ => h_.1))) hb); have n1_ := Aside0.mk (Kd.R_below (by (with_reducible repeat (first | apply Kd.R_alloc | apply Kd.R_drewN | apply Kd.R_drew)); exact (Kd.R_mono (Kd.R_far (p := ⟨gb279, 2, none⟩) (Kd.R_far (p := ⟨gb279, 1, none⟩) (Kd.R_far (p := ⟨gb279, 0, none⟩) (Kd.R_types HO253.out BK279.out (by decide)) (fun _ hk => hk.2) (.int .i64 t271)) (fun _ hk => hk.2) (.slice Ao40 t272.length co40)) (fun _ hk => hk.2) (.slice Ao41 t275.length co41)) (fun _ h_ => h_.1))) hb); have n2_ := Aside0.mk (Kd.R_below (by (with_reducible repeat (first | apply Kd.R_alloc | apply Kd.R_drewN | apply Kd.R_drew)); exact (Kd.R_mono (Kd.R_far (p := ⟨gb279, 2, none⟩) (Kd.R_far (p := ⟨gb279, 1, none⟩) (Kd.R_far (p := ⟨gb279, 0, none⟩) (Kd.R_types HO257.out BK279.out (by decide)) (fun _ hk => hk.2) (.int .i64 t271)) (fun _ hk => hk.2) (.slice Ao40 t272.length co40)) (fun _ hk => hk.2) (.slice Ao41 t275.length co41)) (fun _ h_ => h_.1))) hb); have n3_ := Aside0.mk (Kd.R_below (by (with_reducible repeat (first | apply Kd.R_alloc | apply Kd.R_drewN | apply Kd.R_drew)); exact (Kd.R_mono (Kd.R_far (p := ⟨gb279, 2, none⟩) (Kd.R_far (p := ⟨gb279, 1, none⟩) (Kd.R_far (p := ⟨gb279, 0, none⟩) (Kd.R_types HO260.out BK279.out (by decide)) (fun _ hk => hk.2) (.int .i64 t271)) (fun _ hk => hk.2) (.slice Ao40 t272.length co40)) (fun _ hk => hk.2) (.slice Ao41 t275.length co41)) (fun _ h_ => h_.1))) hb); have n4_ := Aside0.mk (Kd.R_below (by (with_reducible repeat (first | apply Kd.R_alloc | apply Kd.R_drewN | apply Kd.R_drew)); exact (Kd.R_mono (Kd.R_far (p := ⟨gb279, 2, none⟩) (Kd.R_far (p := ⟨gb279, 1, none⟩) (Kd.R_far (p := ⟨gb279, 0, none⟩) (Kd.R_types HO266.out BK279.out (by decide)) (fun _ hk => hk.2) (.int .i64 t271)) (fun _ hk => hk.2) (.slice Ao40 t272.length co40)) (fun _ hk => hk.2) (.slice Ao41 t275.length co41)) (fun _ h_ => h_.1))) hb); have n5_ := Aside0.mk (Kd.R_below (by (with_reducible repeat (first | apply Kd.R_alloc | apply Kd.R_drewN | apply Kd.R_drew)); exact (Kd.R_mono (Kd.R_far (p := ⟨gb279, 2, none⟩) (Kd.R_far (p := ⟨gb279, 1, none⟩) (Kd.R_far (p := ⟨gb279, 0, none⟩) (Kd.R_types HO269.out BK279.out (by decide)) (fun _ hk => hk.2) (.int .i64 t271)) (fun _ hk => hk.2) (.slice Ao40 t272.length co40)) (fun _ hk => hk.2) (.slice Ao41 t275.length co41)) (fun _ h_ => h_.1))) hb); have n6_ := Aside0.mk (Kd.R_below (by (with_reducible repeat (first | apply Kd.R_alloc | apply Kd.R_drewN | apply Kd.R_drew)); exact (Kd.R_mono (Kd.R_far (p := ⟨gb279, 2, none⟩) (Kd.R_far (p := ⟨gb279, 1, none⟩) (Kd.R_far (p := ⟨gb279, 0, none⟩) (Kd.R_types HO274.out BK279.out (by decide)) (fun _ hk => hk.2) (.int .i64 t271)) (fun _ hk => hk.2) (.slice Ao40 t272.length co40)) (fun _ hk => hk.2) (.slice Ao41 t275.length co41)) (fun _ h_ => h_.1))) hb); have n7_ := Aside0.mk (Kd.R_below (by (with_reducible repeat (first | apply Kd.R_alloc | apply Kd.R_drewN | apply Kd.R_drew)); exact (Kd.R_mono (Kd.R_far (p := ⟨gb279, 2, none⟩) (Kd.R_far (p := ⟨gb279, 1, none⟩) (Kd.R_far (p := ⟨gb279, 0, none⟩) (Kd.R_types HO277.out BK279.out (by decide)) (fun _ hk => hk.2) (.int .i64 t271)) (fun _ hk => hk.2) (.slice Ao40 t272.length co40)) (fun _ hk => hk.2) (.slice Ao41 t275.length co41)) (fun _ h_ => h_.1))) hb); have n8_ := Aside0.mk (blk_below (g := gb245) (o := .cells #[.int .i64 a0_0, .slice A0_1 l0_1.length c0_1, .slice A0_2 l0_2.length c0_2] 43 (0, 0)) (by (with_reducible repeat (first | refine blk_drewN ?_ _ | refine blk_drew ?_ | refine blk_alloc ?_ _)); refine blk_far ?_ NB245_279.out _; (with_reducible repeat (first | refine blk_drewN ?_ _ | refine blk_drew ?_ | refine blk_alloc ?_ _)); refine blk_far ?_ NB245_279.out _; (with_reducible repeat (first | refine blk_drewN ?_ _ | refine blk_drew ?_ | refine blk_alloc ?_ _)); refine blk_far ?_ NB245_279.out _; (with_reducible repeat (first | refine blk_drewN ?_ _ | refine blk_drew ?_ | refine blk_alloc ?_ _)); exact BK245.out) hb); have n9_ := Aside0.mk (blk_below (g := gb262) (o := .cells #[.int .i64 t254, .slice Ao24 t255.length co24, .slice Ao25 t258.length co25] 27 (0, 0)) (by (with_reducible repeat (first | refine blk_drewN ?_ _ | refine blk_drew ?_ | refine blk_alloc ?_ _)); refine blk_far ?_ NB262_279.out _; (with_reducible repeat (first | refine blk_drewN ?_ _ | refine blk_drew ?_ | refine blk_alloc ?_ _)); refine blk_far ?_ NB262_279.out _; (with_reducible repeat (first | refine blk_drewN ?_ _ | refine blk_drew ?_ | refine blk_alloc ?_ _)); refine blk_far ?_ NB262_279.out _; (with_reducible repeat (first | refine blk_drewN ?_ _ | refine blk_drew ?_ | refine blk_alloc ?_ _)); exact BK262.out) hb); have n10_ := Aside0.mk (blk_below (g := gb270) (o := .cells #[.int .i64 t263, .slice Ao32 t264.length co32, .slice Ao33 t267.length co33] 27 (0, 0)) (by (with_reducible repeat (first | refine blk_drewN ?_ _ | refine blk_drew ?_ | refine blk_alloc ?_ _)); refine blk_far ?_ NB270_279.out _; (with_reducible repeat (first | refine blk_drewN ?_ _ | refine blk_drew ?_ | refine blk_alloc ?_ _)); refine blk_far ?_ NB270_279.out _; (with_reducible repeat (first | refine blk_drewN ?_ _ | refine blk_drew ?_ | refine blk_alloc ?_ _)); refine blk_far ?_ NB270_279.out _; (with_reducible repeat (first | refine blk_drewN ?_ _ | refine blk_drew ?_ | refine blk_alloc ?_ _)); exact BK270.out) hb); have n11_ := Aside0.mk (blk_below (g := gb279) (o := .cells #[.int .i64 t271, .slice Ao40 t272.length co40, .slice Ao41 t275.length co41] 27 (0, 0)) (by (with_reducible repeat (first | refine blk_drewN ?_ _ | refine blk_drew ?_ | refine blk_alloc ?_ _)); refine blk_put (cs := #[.int .i64 t271, .slice Ao40 t272.length co40, .slice none 0 0]) ?_ 2 _ rfl; (with_reducible repeat (first | refine blk_drewN ?_ _ | refine blk_drew ?_ | refine blk_alloc ?_ _)); refine blk_put (cs := #[.int .i64 t271, .slice none 0 0, .slice none 0 0]) ?_ 1 _ rfl; (with_reducible repeat (first | refine blk_drewN ?_ _ | refine blk_drew ?_ | refine blk_alloc ?_ _)); refine blk_put (cs := #[.int .i64 0, .slice none 0 0, .slice none 0 0]) ?_ 0 _ rfl; (with_reducible repeat (first | refine blk_drewN ?_ _ | refine blk_drew ?_ | refine blk_alloc ?_ _)); exact BK279.out) hb); have n12_ := Aside0.mk (below_step (by repeat (first | (with_reducible first | exact HB.out | apply below_alloc | apply pw_below_drewN | apply below_drew1 | refine below_set ?_ GE245.out | refine below_set ?_ GE262.out | refine below_set ?_ GE270.out | refine below_set ?_ GE279.out) | exact HB.out)) hb); clear HO250; clear HO253; clear HO257; clear HO260; clear HO266; clear HO269; clear HO274; clear HO277; clear BK245; clear BK262; clear BK270; clear BK279; clear HB; have HO250 := n0_; have HO253 := n1_; have HO257 := n2_; have HO260 := n3_; have HO266 := n4_; have HO269 := n5_; have HO274 := n6_; have HO277 := n7_; have BK245 := n8_; have BK262 := n9_; have BK270 := n10_; have BK279 := n11_; have HB := n12_; clear n0_ n1_ n2_ n3_ n4_ n5_ n6_ n7_ n8_ n9_ n10_ n11_ n12_; (try clear hb); (try clear hb2); (try clear hk); (try clear hi)))
        go_meet
        case rel => exact ⟨_, ((t278 != t261)), (by first | rfl | (simp; done) | (simp [*]; done)), H', ⟨by first | omega | exact Nat.le_refl _⟩, ⟨by (with_reducible repeat (first | apply Kd.R_alloc | apply Kd.R_drewN | apply Kd.R_drew)); exact Kd.R_mono HO257.out (fun _ hk => ⟨hk.1.2, hk.2⟩)⟩, ⟨by (with_reducible repeat (first | apply Kd.R_alloc | apply Kd.R_drewN | apply Kd.R_drew)); exact Kd.R_mono HO260.out (fun _ hk => ⟨hk.1.2, hk.2⟩)⟩, ⟨by (with_reducible repeat (first | apply Kd.R_alloc | apply Kd.R_drewN | apply Kd.R_drew)); exact Kd.R_mono HO266.out (fun _ hk => ⟨hk.1.2, hk.2⟩)⟩, ⟨by (with_reducible repeat (first | apply Kd.R_alloc | apply Kd.R_drewN | apply Kd.R_drew)); exact Kd.R_mono HO269.out (fun _ hk => ⟨hk.1.2, hk.2⟩)⟩, ⟨by (with_reducible repeat (first | apply Kd.R_alloc | apply Kd.R_drewN | apply Kd.R_drew)); exact Kd.R_mono HO274.out (fun _ hk => ⟨hk.1.2, hk.2⟩)⟩, ⟨by (with_reducible repeat (first | apply Kd.R_alloc | apply Kd.R_drewN | apply Kd.R_drew)); exact Kd.R_mono HO277.out (fun _ hk => ⟨hk.1.2, hk.2⟩)⟩, ⟨by (with_reducible repeat (first | refine blk_drewN ?_ _ | refine blk_drew ?_ | refine blk_alloc ?_ _)); exact BK245.out⟩, ⟨by (with_reducible repeat (first | refine blk_drewN ?_ _ | refine blk_drew ?_ | refine blk_alloc ?_ _)); exact BK262.out⟩, ⟨by (with_reducible repeat (first | refine blk_drewN ?_ _ | refine blk_drew ?_ | refine blk_alloc ?_ _)); exact BK270.out⟩, ⟨by (with_reducible repeat (first | refine blk_drewN ?_ _ | refine blk_drew ?_ | refine blk_alloc ?_ _)); exact BK279.out⟩, ⟨by repeat (first | (with_reducible first | exact HB.out | apply below_alloc | apply pw_below_drewN | apply below_drew1 | refine below_set ?_ GE245.out | refine below_set ?_ GE262.out | refine below_set ?_ GE270.out | refine below_set ?_ GE279.out) | exact HB.out)⟩⟩
      · replace c43 := Bool.eq_false_iff.mpr c43
        subst c43
        have H1 : (laws_FnExactRetire.j0 k a1 t261 t278 true a0_0 l0_1 l0_2 t254 t255 t258 t263 t264 t267 t271 t272 t275) = some r := by rw [if_neg (show ¬ (false = true) by decide)] at H; exact H
        clear H
        have H := H1
        clear H1
        have H' := Aside0.mk H
        clear H
        have hnb52 := NB279_245.out
        have hnc52 := NB245_279.out
        have hnb53 := NB279_262.out
        have hnc53 := NB262_279.out
        have hnb54 := NB279_270.out
        have hnc54 := NB270_279.out
        have hcz55_0 : w35.cell? ⟨gb279, 0, none⟩ = some (.int .i64 0) := (blk_cell BK279.out 0).trans rfl
        have hcz55_1 : w35.cell? ⟨gb279, 1, none⟩ = some (.slice none 0 0) := (blk_cell BK279.out 1).trans rfl
        have hcz55_2 : w35.cell? ⟨gb279, 2, none⟩ = some (.slice none 0 0) := (blk_cell BK279.out 2).trans rfl
        have hfz55_0 := blk_frozen BK279.out 0
        have hfz55_1 := blk_frozen BK279.out 1
        have hfz55_2 := blk_frozen BK279.out 2
        have hnb56 := NB262_245.out
        have hnc56 := NB245_262.out
        have hnb57 := NB262_270.out
        have hnc57 := NB270_262.out
        have hcz58_0 : w35.cell? ⟨gb262, 0, none⟩ = some (.int .i64 t254) := (blk_cell BK262.out 0).trans rfl
        have hcz58_1 : w35.cell? ⟨gb262, 1, none⟩ = some (.slice Ao24 t255.length co24) := (blk_cell BK262.out 1).trans rfl
        have hcz58_2 : w35.cell? ⟨gb262, 2, none⟩ = some (.slice Ao25 t258.length co25) := (blk_cell BK262.out 2).trans rfl
        have hfz58_0 := blk_frozen BK262.out 0
        have hfz58_1 := blk_frozen BK262.out 1
        have hfz58_2 := blk_frozen BK262.out 2
        go_wp2_with (first | ((with_reducible refine gate_callee (f := 25) rfl ?_); refine goesL_ (some 38) rfl rfl Try.func25 (by kernel_rfl) rfl #[.agg #[.int .i64 t271, .slice Ao40 t272.length co40, .slice Ao41 t275.length co41], .agg #[.int .i64 t254, .slice Ao24 t255.length co24, .slice Ao25 t258.length co25]] rfl (by (try simp only [List.map_toArray, List.map_cons, List.map_nil]); first | done | rfl | (simp only [List.length_drop, List.length_take]; rfl)) ?_; (with_reducible refine (laws_eqEpochs.calls k t271 _ _ t272 _ _ t275 t254 _ _ t255 _ _ t258 false _ ?side1 ?side2 ?side3 ?side4 ?side5 ?side6 ?side7 ?side8 A42.out).mono ?_); (case side1 => refine (Kd.R_reads' (e := 3) (base := w.heap.size) (ok := fun k_ => (((True ∧ some k_ ≠ (.slice Ao18 t248.length co18 : Value).ownBlock) ∧ some k_ ≠ (.slice Ao24 t255.length co24 : Value).ownBlock) ∧ some k_ ≠ (.slice Ao32 t264.length co32 : Value).ownBlock)) (n := t272.length) (c := co40) ?_).2.2; exact (by (with_reducible repeat (first | apply Kd.R_alloc | apply Kd.R_drewN | apply Kd.R_drew)); exact (Kd.R_mono (Kd.R_far (p := ⟨gb279, 2, none⟩) (Kd.R_far (p := ⟨gb279, 1, none⟩) (Kd.R_far (p := ⟨gb279, 0, none⟩) (Kd.R_types HO274.out BK279.out (by decide)) (fun _ hk => hk.2) (.int .i64 t271)) (fun _ hk => hk.2) (.slice Ao40 t272.length co40)) (fun _ hk => hk.2) (.slice Ao41 t275.length co41)) (fun _ h_ => h_.1)))); (case side2 => exact (Kd.R_reads' HO274.out).2.1); (case side3 => refine (Kd.R_reads' (e := 58) (base := w.heap.size) (ok := fun k_ => (((True ∧ some k_ ≠ (.slice Ao19 t251.length co19 : Value).ownBlock) ∧ some k_ ≠ (.slice Ao25 t258.length co25 : Value).ownBlock) ∧ some k_ ≠ (.slice Ao33 t267.length co33 : Value).ownBlock)) (n := t275.length) (c := co41) ?_).2.2; exact (by (with_reducible repeat (first | apply Kd.R_alloc | apply Kd.R_drewN | apply Kd.R_drew)); exact (Kd.R_mono (Kd.R_far (p := ⟨gb279, 2, none⟩) (Kd.R_far (p := ⟨gb279, 1, none⟩) (Kd.R_far (p := ⟨gb279, 0, none⟩) (Kd.R_types HO277.out BK279.out (by decide)) (fun _ hk => hk.2) (.int .i64 t271)) (fun _ hk => hk.2) (.slice Ao40 t272.length co40)) (fun _ hk => hk.2) (.slice Ao41 t275.length co41)) (fun _ h_ => h_.1)))); (case side4 => exact (Kd.R_reads' HO277.out).2.1); (case side5 => refine (Kd.R_reads' (e := 3) (base := w.heap.size) (ok := fun k_ => (((True ∧ some k_ ≠ (.slice Ao18 t248.length co18 : Value).ownBlock) ∧ some k_ ≠ (.slice Ao32 t264.length co32 : Value).ownBlock) ∧ some k_ ≠ (.slice Ao40 t272.length co40 : Value).ownBlock)) (n := t255.length) (c := co24) ?_).2.2; exact (by (with_reducible repeat (first | apply Kd.R_alloc | apply Kd.R_drewN | apply Kd.R_drew)); exact (Kd.R_mono (Kd.R_far (p := ⟨gb279, 2, none⟩) (Kd.R_far (p := ⟨gb279, 1, none⟩) (Kd.R_far (p := ⟨gb279, 0, none⟩) (Kd.R_types HO257.out BK279.out (by decide)) (fun _ hk => hk.2) (.int .i64 t271)) (fun _ hk => hk.2) (.slice Ao40 t272.length co40)) (fun _ hk => hk.2) (.slice Ao41 t275.length co41)) (fun _ h_ => h_.1)))); (case side6 => exact (Kd.R_reads' HO257.out).2.1); (case side7 => refine (Kd.R_reads' (e := 58) (base := w.heap.size) (ok := fun k_ => (((True ∧ some k_ ≠ (.slice Ao19 t251.length co19 : Value).ownBlock) ∧ some k_ ≠ (.slice Ao33 t267.length co33 : Value).ownBlock) ∧ some k_ ≠ (.slice Ao41 t275.length co41 : Value).ownBlock)) (n := t258.length) (c := co25) ?_).2.2; exact (by (with_reducible repeat (first | apply Kd.R_alloc | apply Kd.R_drewN | apply Kd.R_drew)); exact (Kd.R_mono (Kd.R_far (p := ⟨gb279, 2, none⟩) (Kd.R_far (p := ⟨gb279, 1, none⟩) (Kd.R_far (p := ⟨gb279, 0, none⟩) (Kd.R_types HO260.out BK279.out (by decide)) (fun _ hk => hk.2) (.int .i64 t271)) (fun _ hk => hk.2) (.slice Ao40 t272.length co40)) (fun _ hk => hk.2) (.slice Ao41 t275.length co41)) (fun _ h_ => h_.1)))); (case side8 => exact (Kd.R_reads' HO260.out).2.1); rintro e w59 ⟨rfl, hb⟩; refine ⟨_, rfl, ?_⟩; have n0_ := Aside0.mk (Kd.R_below (by (with_reducible repeat (first | apply Kd.R_alloc | apply Kd.R_drewN | apply Kd.R_drew)); exact (Kd.R_mono (Kd.R_far (p := ⟨gb279, 2, none⟩) (Kd.R_far (p := ⟨gb279, 1, none⟩) (Kd.R_far (p := ⟨gb279, 0, none⟩) (Kd.R_types HO250.out BK279.out (by decide)) (fun _ hk => hk.2) (.int .i64 t271)) (fun _ hk => hk.2) (.slice Ao40 t272.length co40)) (fun _ hk => hk.2) (.slice Ao41 t275.length co41)) (fun _ h_ => h_.1))) hb); have n1_ := Aside0.mk (Kd.R_below (by (with_reducible repeat (first | apply Kd.R_alloc | apply Kd.R_drewN | apply Kd.R_drew)); exact (Kd.R_mono (Kd.R_far (p := ⟨gb279, 2, none⟩) (Kd.R_far (p := ⟨gb279, 1, none⟩) (Kd.R_far (p := ⟨gb279, 0, none⟩) (Kd.R_types HO253.out BK279.out (by decide)) (fun _ hk => hk.2) (.int .i64 t271)) (fun _ hk => hk.2) (.slice Ao40 t272.length co40)) (fun _ hk => hk.2) (.slice Ao41 t275.length co41)) (fun _ h_ => h_.1))) hb); have n2_ := Aside0.mk (Kd.R_below (by (with_reducible repeat (first | apply Kd.R_alloc | apply Kd.R_drewN | apply Kd.R_drew)); exact (Kd.R_mono (Kd.R_far (p := ⟨gb279, 2, none⟩) (Kd.R_far (p := ⟨gb279, 1, none⟩) (Kd.R_far (p := ⟨gb279, 0, none⟩) (Kd.R_types HO257.out BK279.out (by decide)) (fun _ hk => hk.2) (.int .i64 t271)) (fun _ hk => hk.2) (.slice Ao40 t272.length co40)) (fun _ hk => hk.2) (.slice Ao41 t275.length co41)) (fun _ h_ => h_.1))) hb); have n3_ := Aside0.mk (Kd.R_below (by (with_reducible repeat (first | apply Kd.R_alloc | apply Kd.R_drewN | apply Kd.R_drew)); exact (Kd.R_mono (Kd.R_far (p := ⟨gb279, 2, none⟩) (Kd.R_far (p := ⟨gb279, 1, none⟩) (Kd.R_far (p := ⟨gb279, 0, none⟩) (Kd.R_types HO260.out BK279.out (by decide)) (fun _ hk => hk.2) (.int .i64 t271)) (fun _ hk => hk.2) (.slice Ao40 t272.length co40)) (fun _ hk => hk.2) (.slice Ao41 t275.length co41)) (fun _ h_ => h_.1))) hb); have n4_ := Aside0.mk (Kd.R_below (by (with_reducible repeat (first | apply Kd.R_alloc | apply Kd.R_drewN | apply Kd.R_drew)); exact (Kd.R_mono (Kd.R_far (p := ⟨gb279, 2, none⟩) (Kd.R_far (p := ⟨gb279, 1, none⟩) (Kd.R_far (p := ⟨gb279, 0, none⟩) (Kd.R_types HO266.out BK279.out (by decide)) (fun _ hk => hk.2) (.int .i64 t271)) (fun _ hk => hk.2) (.slice Ao40 t272.length co40)) (fun _ hk => hk.2) (.slice Ao41 t275.length co41)) (fun _ h_ => h_.1))) hb); have n5_ := Aside0.mk (Kd.R_below (by (with_reducible repeat (first | apply Kd.R_alloc | apply Kd.R_drewN | apply Kd.R_drew)); exact (Kd.R_mono (Kd.R_far (p := ⟨gb279, 2, none⟩) (Kd.R_far (p := ⟨gb279, 1, none⟩) (Kd.R_far (p := ⟨gb279, 0, none⟩) (Kd.R_types HO269.out BK279.out (by decide)) (fun _ hk => hk.2) (.int .i64 t271)) (fun _ hk => hk.2) (.slice Ao40 t272.length co40)) (fun _ hk => hk.2) (.slice Ao41 t275.length co41)) (fun _ h_ => h_.1))) hb); have n6_ := Aside0.mk (Kd.R_below (by (with_reducible repeat (first | apply Kd.R_alloc | apply Kd.R_drewN | apply Kd.R_drew)); exact (Kd.R_mono (Kd.R_far (p := ⟨gb279, 2, none⟩) (Kd.R_far (p := ⟨gb279, 1, none⟩) (Kd.R_far (p := ⟨gb279, 0, none⟩) (Kd.R_types HO274.out BK279.out (by decide)) (fun _ hk => hk.2) (.int .i64 t271)) (fun _ hk => hk.2) (.slice Ao40 t272.length co40)) (fun _ hk => hk.2) (.slice Ao41 t275.length co41)) (fun _ h_ => h_.1))) hb); have n7_ := Aside0.mk (Kd.R_below (by (with_reducible repeat (first | apply Kd.R_alloc | apply Kd.R_drewN | apply Kd.R_drew)); exact (Kd.R_mono (Kd.R_far (p := ⟨gb279, 2, none⟩) (Kd.R_far (p := ⟨gb279, 1, none⟩) (Kd.R_far (p := ⟨gb279, 0, none⟩) (Kd.R_types HO277.out BK279.out (by decide)) (fun _ hk => hk.2) (.int .i64 t271)) (fun _ hk => hk.2) (.slice Ao40 t272.length co40)) (fun _ hk => hk.2) (.slice Ao41 t275.length co41)) (fun _ h_ => h_.1))) hb); have n8_ := Aside0.mk (blk_below (g := gb245) (o := .cells #[.int .i64 a0_0, .slice A0_1 l0_1.length c0_1, .slice A0_2 l0_2.length c0_2] 43 (0, 0)) (by (with_reducible repeat (first | refine blk_drewN ?_ _ | refine blk_drew ?_ | refine blk_alloc ?_ _)); refine blk_far ?_ NB245_279.out _; (with_reducible repeat (first | refine blk_drewN ?_ _ | refine blk_drew ?_ | refine blk_alloc ?_ _)); refine blk_far ?_ NB245_279.out _; (with_reducible repeat (first | refine blk_drewN ?_ _ | refine blk_drew ?_ | refine blk_alloc ?_ _)); refine blk_far ?_ NB245_279.out _; (with_reducible repeat (first | refine blk_drewN ?_ _ | refine blk_drew ?_ | refine blk_alloc ?_ _)); exact BK245.out) hb); have n9_ := Aside0.mk (blk_below (g := gb262) (o := .cells #[.int .i64 t254, .slice Ao24 t255.length co24, .slice Ao25 t258.length co25] 27 (0, 0)) (by (with_reducible repeat (first | refine blk_drewN ?_ _ | refine blk_drew ?_ | refine blk_alloc ?_ _)); refine blk_far ?_ NB262_279.out _; (with_reducible repeat (first | refine blk_drewN ?_ _ | refine blk_drew ?_ | refine blk_alloc ?_ _)); refine blk_far ?_ NB262_279.out _; (with_reducible repeat (first | refine blk_drewN ?_ _ | refine blk_drew ?_ | refine blk_alloc ?_ _)); refine blk_far ?_ NB262_279.out _; (with_reducible repeat (first | refine blk_drewN ?_ _ | refine blk_drew ?_ | refine blk_alloc ?_ _)); exact BK262.out) hb); have n10_ := Aside0.mk (blk_below (g := gb270) (o := .cells #[.int .i64 t263, .slice Ao32 t264.length co32, .slice Ao33 t267.length co33] 27 (0, 0)) (by (with_reducible repeat (first | refine blk_drewN ?_ _ | refine blk_drew ?_ | refine blk_alloc ?_ _)); refine blk_far ?_ NB270_279.out _; (with_reducible repeat (first | refine blk_drewN ?_ _ | refine blk_drew ?_ | refine blk_alloc ?_ _)); refine blk_far ?_ NB270_279.out _; (with_reducible repeat (first | refine blk_drewN ?_ _ | refine blk_drew ?_ | refine blk_alloc ?_ _)); refine blk_far ?_ NB270_279.out _; (with_reducible repeat (first | refine blk_drewN ?_ _ | refine blk_drew ?_ | refine blk_alloc ?_ _)); exact BK270.out) hb); have n11_ := Aside0.mk (blk_below (g := gb279) (o := .cells #[.int .i64 t271, .slice Ao40 t272.length co40, .slice Ao41 t275.length co41] 27 (0, 0)) (by (with_reducible repeat (first | refine blk_drewN ?_ _ | refine blk_drew ?_ | refine blk_alloc ?_ _)); refine blk_put (cs := #[.int .i64 t271, .slice Ao40 t272.length co40, .slice none 0 0]) ?_ 2 _ rfl; (with_reducible repeat (first | refine blk_drewN ?_ _ | refine blk_drew ?_ | refine blk_alloc ?_ _)); refine blk_put (cs := #[.int .i64 t271, .slice none 0 0, .slice none 0 0]) ?_ 1 _ rfl; (with_reducible repeat (first | refine blk_drewN ?_ _ | refine blk_drew ?_ | refine blk_alloc ?_ _)); refine blk_put (cs := #[.int .i64 0, .slice none 0 0, .slice none 0 0]) ?_ 0 _ rfl; (with_reducible repeat (first | refine blk_drewN ?_ _ | refine blk_drew ?_ | refine blk_alloc ?_ _)); exact BK279.out) hb); have n12_ := Aside0.mk (below_step (by repeat (first | (with_reducible first | exact HB.out | apply below_alloc | apply pw_below_drewN | apply below_drew1 | refine below_set ?_ GE245.out | refine below_set ?_ GE262.out | refine below_set ?_ GE270.out | refine below_set ?_ GE279.out) | exact HB.out)) hb); clear HO250; clear HO253; clear HO257; clear HO260; clear HO266; clear HO269; clear HO274; clear HO277; clear BK245; clear BK262; clear BK270; clear BK279; clear HB; have HO250 := n0_; have HO253 := n1_; have HO257 := n2_; have HO260 := n3_; have HO266 := n4_; have HO269 := n5_; have HO274 := n6_; have HO277 := n7_; have BK245 := n8_; have BK262 := n9_; have BK270 := n10_; have BK279 := n11_; have HB := n12_; clear n0_ n1_ n2_ n3_ n4_ n5_ n6_ n7_ n8_ n9_ n10_ n11_ n12_; (try clear hb); (try clear hb2); (try clear hk); (try clear hi)))
        go_meet
        case rel => exact ⟨_, (true), (by first | rfl | (simp; done) | (simp [*]; done)), H', ⟨by first | omega | exact Nat.le_refl _⟩, ⟨by (with_reducible repeat (first | apply Kd.R_alloc | apply Kd.R_drewN | apply Kd.R_drew)); exact Kd.R_mono HO257.out (fun _ hk => ⟨hk.1.2, hk.2⟩)⟩, ⟨by (with_reducible repeat (first | apply Kd.R_alloc | apply Kd.R_drewN | apply Kd.R_drew)); exact Kd.R_mono HO260.out (fun _ hk => ⟨hk.1.2, hk.2⟩)⟩, ⟨by (with_reducible repeat (first | apply Kd.R_alloc | apply Kd.R_drewN | apply Kd.R_drew)); exact Kd.R_mono HO266.out (fun _ hk => ⟨hk.1.2, hk.2⟩)⟩, ⟨by (with_reducible repeat (first | apply Kd.R_alloc | apply Kd.R_drewN | apply Kd.R_drew)); exact Kd.R_mono HO269.out (fun _ hk => ⟨hk.1.2, hk.2⟩)⟩, ⟨by (with_reducible repeat (first | apply Kd.R_alloc | apply Kd.R_drewN | apply Kd.R_drew)); exact Kd.R_mono HO274.out (fun _ hk => ⟨hk.1.2, hk.2⟩)⟩, ⟨by (with_reducible repeat (first | apply Kd.R_alloc | apply Kd.R_drewN | apply Kd.R_drew)); exact Kd.R_mono HO277.out (fun _ hk => ⟨hk.1.2, hk.2⟩)⟩, ⟨by (with_reducible repeat (first | refine blk_drewN ?_ _ | refine blk_drew ?_ | refine blk_alloc ?_ _)); exact BK245.out⟩, ⟨by (with_reducible repeat (first | refine blk_drewN ?_ _ | refine blk_drew ?_ | refine blk_alloc ?_ _)); exact BK262.out⟩, ⟨by (with_reducible repeat (first | refine blk_drewN ?_ _ | refine blk_drew ?_ | refine blk_alloc ?_ _)); exact BK270.out⟩, ⟨by (with_reducible repeat (first | refine blk_drewN ?_ _ | refine blk_drew ?_ | refine blk_alloc ?_ _)); exact BK279.out⟩, ⟨by repeat (first | (with_reducible first | exact HB.out | apply below_alloc | apply pw_below_drewN | apply below_drew1 | refine below_set ?_ GE245.out | refine below_set ?_ GE262.out | refine below_set ?_ GE270.out | refine below_set ?_ GE279.out) | exact HB.out)⟩⟩
    case rest =>
      clear HC12
      try clear c2
      try clear p2
      try clear c3
      try clear c4
      try clear c4b0
      try clear c5
      try clear c7
      try clear c20
      try clear c22
      try clear c25
      try clear c28
      try clear c29
      try clear c30
      try clear c32
      try clear c36
      try clear c37
      try clear c38
      try clear c43
      try clear c44
      try clear c45
      try clear c46
      try clear c48
      try clear c49
      try clear c52
      try clear c53
      try clear c54
      try clear c56
      try clear c57
      try clear hcz14_0
      try clear hcz14_1
      try clear hcz14_2
      try clear hcz16_0
      try clear hcz16_1
      try clear hcz16_2
      try clear hcz23_0
      try clear hcz23_1
      try clear hcz23_2
      try clear hcz26_0
      try clear hcz26_1
      try clear hcz26_2
      try clear hcz31_0
      try clear hcz31_1
      try clear hcz31_2
      try clear hcz39_0
      try clear hcz39_1
      try clear hcz39_2
      try clear hcz47_0
      try clear hcz47_1
      try clear hcz47_2
      try clear hcz50_0
      try clear hcz50_1
      try clear hcz50_2
      try clear hcz55_0
      try clear hcz55_1
      try clear hcz55_2
      try clear hcz58_0
      try clear hcz58_1
      try clear hcz58_2
      try clear hcz6_0
      try clear hcz6_1
      try clear hcz6_2
      try clear hfz14_0
      try clear hfz14_1
      try clear hfz14_2
      try clear hfz16_0
      try clear hfz16_1
      try clear hfz16_2
      try clear hfz23_0
      try clear hfz23_1
      try clear hfz23_2
      try clear hfz26_0
      try clear hfz26_1
      try clear hfz26_2
      try clear hfz31_0
      try clear hfz31_1
      try clear hfz31_2
      try clear hfz39_0
      try clear hfz39_1
      try clear hfz39_2
      try clear hfz47_0
      try clear hfz47_1
      try clear hfz47_2
      try clear hfz50_0
      try clear hfz50_1
      try clear hfz50_2
      try clear hfz55_0
      try clear hfz55_1
      try clear hfz55_2
      try clear hfz58_0
      try clear hfz58_1
      try clear hfz58_2
      try clear hfz6_0
      try clear hfz6_1
      try clear hfz6_2
      obtain ⟨kq, x44_11, rfl, HA, HJ11, HO_263001, HO_263002, HO_271001, HO_271002, HO_280001, HO_280002, BK245, BK262, BK270, BK279, HB⟩ := hcut
      cases kq with
      | zero => exact absurd HA.out (by simp [laws_FnExactRetire.j0])
      | succ kj11 =>
        have H := HA.out
        clear HA
        simp only [laws_FnExactRetire.j0] at H
        by_cases c60 : x44_11 = true
        · subst c60
          have H1 : (none) = some r := by rw [if_pos rfl] at H; exact H
          clear H
          have H := H1
          clear H1
          exact absurd H (by simp)
        · replace c60 := Bool.eq_false_iff.mpr c60
          subst c60
          have H1 : ((laws_toEpochs.f kj11 a0_0 l0_1 l0_2).bind fun bt281 => ((laws_eqEpochs.f kj11 t263 t264 t267 bt281.1 bt281.2.1 bt281.2.2).bind fun t288 => (if t288 = true then ((laws_markEpochs.f kj11 t263 t264 t267 1).bind fun bt289 => (if bt289.1 < 0 then (laws_FnExactRetire.j1 kj11 a1 t261 true a0_0 l0_1 l0_2 t254 t255 t258 t271 t272 t275) else ((laws_eqEpochs.f kj11 t271 t272 t275 t254 t255 t258).bind fun t292 => (if t292 = true then (laws_FnExactRetire.j1 kj11 a1 t261 (t278 != t261) a0_0 l0_1 l0_2 t254 t255 t258 t271 t272 t275) else (laws_FnExactRetire.j1 kj11 a1 t261 true a0_0 l0_1 l0_2 t254 t255 t258 t271 t272 t275))))) else (none)))) = some r := by rw [if_neg (show ¬ (false = true) by decide)] at H; exact H
          clear H
          have H := H1
          clear H1
          replace H := Option.bind_eq_some_iff.mp H
          obtain ⟨⟨t281, t282, t285⟩, A610, H⟩ := H
          replace H : ((laws_eqEpochs.f kj11 t263 t264 t267 t281 t282 t285).bind fun t288 => (if t288 = true then ((laws_markEpochs.f kj11 t263 t264 t267 1).bind fun bt289 => (if bt289.1 < 0 then (laws_FnExactRetire.j1 kj11 a1 t261 true a0_0 l0_1 l0_2 t254 t255 t258 t271 t272 t275) else ((laws_eqEpochs.f kj11 t271 t272 t275 t254 t255 t258).bind fun t292 => (if t292 = true then (laws_FnExactRetire.j1 kj11 a1 t261 (t278 != t261) a0_0 l0_1 l0_2 t254 t255 t258 t271 t272 t275) else (laws_FnExactRetire.j1 kj11 a1 t261 true a0_0 l0_1 l0_2 t254 t255 t258 t271 t272 t275))))) else (none))) = some r := H
          have A61 := Aside0.mk A610
          clear A610
          replace H := Option.bind_eq_some_iff.mp H
          obtain ⟨t288, A620, H⟩ := H
          replace H : (if t288 = true then ((laws_markEpochs.f kj11 t263 t264 t267 1).bind fun bt289 => (if bt289.1 < 0 then (laws_FnExactRetire.j1 kj11 a1 t261 true a0_0 l0_1 l0_2 t254 t255 t258 t271 t272 t275) else ((laws_eqEpochs.f kj11 t271 t272 t275 t254 t255 t258).bind fun t292 => (if t292 = true then (laws_FnExactRetire.j1 kj11 a1 t261 (t278 != t261) a0_0 l0_1 l0_2 t254 t255 t258 t271 t272 t275) else (laws_FnExactRetire.j1 kj11 a1 t261 true a0_0 l0_1 l0_2 t254 t255 t258 t271 t272 t275))))) else (none)) = some r := H
          have A62 := Aside0.mk A620
          clear A620
          by_cases c63 : t288 = true
          · subst c63
            have H1 : ((laws_markEpochs.f kj11 t263 t264 t267 1).bind fun bt289 => (if bt289.1 < 0 then (laws_FnExactRetire.j1 kj11 a1 t261 true a0_0 l0_1 l0_2 t254 t255 t258 t271 t272 t275) else ((laws_eqEpochs.f kj11 t271 t272 t275 t254 t255 t258).bind fun t292 => (if t292 = true then (laws_FnExactRetire.j1 kj11 a1 t261 (t278 != t261) a0_0 l0_1 l0_2 t254 t255 t258 t271 t272 t275) else (laws_FnExactRetire.j1 kj11 a1 t261 true a0_0 l0_1 l0_2 t254 t255 t258 t271 t272 t275))))) = some r := by rw [if_pos rfl] at H; exact H
            clear H
            have H := H1
            clear H1
            replace H := Option.bind_eq_some_iff.mp H
            obtain ⟨⟨t289, t290, t291⟩, A640, H⟩ := H
            replace H : (if t289 < 0 then (laws_FnExactRetire.j1 kj11 a1 t261 true a0_0 l0_1 l0_2 t254 t255 t258 t271 t272 t275) else ((laws_eqEpochs.f kj11 t271 t272 t275 t254 t255 t258).bind fun t292 => (if t292 = true then (laws_FnExactRetire.j1 kj11 a1 t261 (t278 != t261) a0_0 l0_1 l0_2 t254 t255 t258 t271 t272 t275) else (laws_FnExactRetire.j1 kj11 a1 t261 true a0_0 l0_1 l0_2 t254 t255 t258 t271 t272 t275)))) = some r := H
            have A64 := Aside0.mk A640
            clear A640
            have HC65 := Aside0.mk H
            clear H
            try go_wp2
            have n0_ := Aside0.mk (Kd.R_drew HO_263001.out)
            have n1_ := Aside0.mk (Kd.R_drew HO_263002.out)
            have n2_ := Aside0.mk (Kd.R_drew HO_271001.out)
            have n3_ := Aside0.mk (Kd.R_drew HO_271002.out)
            have n4_ := Aside0.mk (Kd.R_drew HO_280001.out)
            have n5_ := Aside0.mk (Kd.R_drew HO_280002.out)
            have n6_ := Aside0.mk (blk_drew BK245.out)
            have n7_ := Aside0.mk (blk_drew BK262.out)
            have n8_ := Aside0.mk (blk_drew BK270.out)
            have n9_ := Aside0.mk (blk_drew BK279.out)
            have n10_ := Aside0.mk (below_drew1 HB.out)
            clear HO_263001
            clear HO_263002
            clear HO_271001
            clear HO_271002
            clear HO_280001
            clear HO_280002
            clear BK245
            clear BK262
            clear BK270
            clear BK279
            clear HB
            have HO_263001 := n0_
            have HO_263002 := n1_
            have HO_271001 := n2_
            have HO_271002 := n3_
            have HO_280001 := n4_
            have HO_280002 := n5_
            have BK245 := n6_
            have BK262 := n7_
            have BK270 := n8_
            have BK279 := n9_
            have HB := n10_
            clear n0_ n1_ n2_ n3_ n4_ n5_ n6_ n7_ n8_ n9_ n10_
            refine start_ (n := 5) (S := fun w' => w'.cell? ⟨gb270, 0, none⟩ = some (.int .i64 t263) ∧ w'.cell? ⟨gb270, 1, none⟩ = some (.slice Ao32 t264.length co32) ∧ w'.cell? ⟨gb270, 2, none⟩ = some (.slice Ao33 t267.length co33) ∧ w'.cell? ⟨gb245, 0, none⟩ = some (.int .i64 a0_0) ∧ w'.cell? ⟨gb245, 1, none⟩ = some (.slice A0_1 l0_1.length c0_1) ∧ w'.cell? ⟨gb245, 2, none⟩ = some (.slice A0_2 l0_2.length c0_2)) (ds := []) #[false, false, false, false, false] (by kernel_rfl) rfl rfl ⟨(blk_cell BK270.out 0).trans rfl, (blk_cell BK270.out 1).trans rfl, (blk_cell BK270.out 2).trans rfl, (blk_cell BK245.out 0).trans rfl, (blk_cell BK245.out 1).trans rfl, (blk_cell BK245.out 2).trans rfl⟩ (fun hHeld => ?_)
            generalize wc.drew = w66 at HO_263001 HO_263002 HO_271001 HO_271002 HO_280001 HO_280002 BK245 BK262 BK270 BK279 HB hHeld ⊢
            refine take_ (i := 0) (N := some 45) (v := ?_) (a' := ?_) #[true, false, false, false, false] rfl rfl (by kernel_rfl) (fun _ _ _ h => h) (Or.inl ⟨by rfl, ?_⟩) hHeld ?_ ?_
            rotate_left
            · rintro w' ⟨s0, s1, s2, s3, s4, s5⟩
              go_simp
              with_reducible rfl
            rotate_left
            · simp only [Act.put, List.setIfInBounds_toArray, List.set_cons_zero, List.set_cons_succ, i64_w, i32_w]
              rfl
            refine take_ (i := 1) (N := some 46) (v := ?_) (a' := ?_) #[true, true, false, false, false] rfl rfl (by kernel_rfl) (fun _ _ _ h => h) (Or.inl ⟨by rfl, ?_⟩) hHeld ?_ ?_
            rotate_left
            · rintro w' ⟨s0, s1, s2, s3, s4, s5⟩
              go_simp
              with_reducible rfl
            rotate_left
            · simp only [Act.put, List.setIfInBounds_toArray, List.set_cons_zero, List.set_cons_succ, i64_w, i32_w]
              rfl
            refine one_ (i := 2) (N := some 47) #[true, true, true, false, false] rfl rfl (by kernel_rfl) (by decide) (fun K hK => ?_)
            refine goes_ Try.func30 (by kernel_rfl) rfl #[.agg #[.int .i64 a0_0, .slice A0_1 l0_1.length c0_1, .slice A0_2 l0_2.length c0_2]] (by rfl) rfl rfl (by (try simp only [List.map_toArray, List.map_cons, List.map_nil]); first | done | rfl | (simp only [List.length_drop, List.length_take]; rfl)) ?_
            with_reducible refine (laws_toEpochs.calls kj11 a0_0 _ _ l0_1 _ _ l0_2 t281 t282 t285 _ ?side1 ?side2 ?side3 ?side4 A61.out).mono ?_
            (case side1 => repeat (first | exact (Kd.C_below HR0_1.out HB.out) | (with_reducible refine Kd.C_alloc ?_ _) | (with_reducible refine Kd.C_drewN ?_ _) | (with_reducible refine Kd.C_drew ?_)))
            (case side2 => exact HC0_1.out)
            (case side3 => repeat (first | exact (Kd.C_below HR0_2.out HB.out) | (with_reducible refine Kd.C_alloc ?_ _) | (with_reducible refine Kd.C_drewN ?_ _) | (with_reducible refine Kd.C_drew ?_)))
            (case side4 => exact HC0_2.out)
            rintro e w67 ⟨v283, v286, rfl, ho0, ho1, hb⟩
            refine ⟨_, rfl, ?_⟩
            have n0_ := Aside0.mk (Kd.R_elder' (by (with_reducible repeat (first | apply Kd.R_alloc | apply Kd.R_drewN | apply Kd.R_drew)); exact HO_263001.out) (Kd.R_base ho0) hb)
            have n1_ := Aside0.mk (Kd.R_elder' (by (with_reducible repeat (first | apply Kd.R_alloc | apply Kd.R_drewN | apply Kd.R_drew)); exact HO_263002.out) (Kd.R_base ho1) hb)
            have n2_ := Aside0.mk (Kd.R_elder' (by (with_reducible repeat (first | apply Kd.R_alloc | apply Kd.R_drewN | apply Kd.R_drew)); exact HO_271001.out) (Kd.R_base ho0) hb)
            have n3_ := Aside0.mk (Kd.R_elder' (by (with_reducible repeat (first | apply Kd.R_alloc | apply Kd.R_drewN | apply Kd.R_drew)); exact HO_271002.out) (Kd.R_base ho1) hb)
            have n4_ := Aside0.mk (Kd.R_elder' (by (with_reducible repeat (first | apply Kd.R_alloc | apply Kd.R_drewN | apply Kd.R_drew)); exact HO_280001.out) (Kd.R_base ho0) hb)
            have n5_ := Aside0.mk (Kd.R_elder' (by (with_reducible repeat (first | apply Kd.R_alloc | apply Kd.R_drewN | apply Kd.R_drew)); exact HO_280002.out) (Kd.R_base ho1) hb)
            have n6_ := Aside0.mk (Kd.R_lower (Kd.R_new' (Kd.R_new' (Kd.R_new' ho0 (Kd.R_lt (by (with_reducible repeat (first | apply Kd.R_alloc | apply Kd.R_drewN | apply Kd.R_drew)); exact HO_263001.out))) (Kd.R_lt (by (with_reducible repeat (first | apply Kd.R_alloc | apply Kd.R_drewN | apply Kd.R_drew)); exact HO_271001.out))) (Kd.R_lt (by (with_reducible repeat (first | apply Kd.R_alloc | apply Kd.R_drewN | apply Kd.R_drew)); exact HO_280001.out))) (below_size (by repeat (first | (with_reducible first | exact HB.out | apply below_alloc | apply pw_below_drewN | apply below_drew1 | refine below_set ?_ GE245.out | refine below_set ?_ GE262.out | refine below_set ?_ GE270.out | refine below_set ?_ GE279.out) | exact HB.out))))
            have n7_ := Aside0.mk (Kd.R_lower (Kd.R_new' (Kd.R_new' (Kd.R_new' ho1 (Kd.R_lt (by (with_reducible repeat (first | apply Kd.R_alloc | apply Kd.R_drewN | apply Kd.R_drew)); exact HO_263002.out))) (Kd.R_lt (by (with_reducible repeat (first | apply Kd.R_alloc | apply Kd.R_drewN | apply Kd.R_drew)); exact HO_271002.out))) (Kd.R_lt (by (with_reducible repeat (first | apply Kd.R_alloc | apply Kd.R_drewN | apply Kd.R_drew)); exact HO_280002.out))) (below_size (by repeat (first | (with_reducible first | exact HB.out | apply below_alloc | apply pw_below_drewN | apply below_drew1 | refine below_set ?_ GE245.out | refine below_set ?_ GE262.out | refine below_set ?_ GE270.out | refine below_set ?_ GE279.out) | exact HB.out))))
            have n8_ := Aside0.mk (blk_below (g := gb245) (o := .cells #[.int .i64 a0_0, .slice A0_1 l0_1.length c0_1, .slice A0_2 l0_2.length c0_2] 43 (0, 0)) (by (with_reducible repeat (first | refine blk_drewN ?_ _ | refine blk_drew ?_ | refine blk_alloc ?_ _)); exact BK245.out) hb)
            have n9_ := Aside0.mk (blk_below (g := gb262) (o := .cells #[.int .i64 t254, .slice Ao24 t255.length co24, .slice Ao25 t258.length co25] 27 (0, 0)) (by (with_reducible repeat (first | refine blk_drewN ?_ _ | refine blk_drew ?_ | refine blk_alloc ?_ _)); exact BK262.out) hb)
            have n10_ := Aside0.mk (blk_below (g := gb270) (o := .cells #[.int .i64 t263, .slice Ao32 t264.length co32, .slice Ao33 t267.length co33] 27 (0, 0)) (by (with_reducible repeat (first | refine blk_drewN ?_ _ | refine blk_drew ?_ | refine blk_alloc ?_ _)); exact BK270.out) hb)
            have n11_ := Aside0.mk (blk_below (g := gb279) (o := .cells #[.int .i64 t271, .slice Ao40 t272.length co40, .slice Ao41 t275.length co41] 27 (0, 0)) (by (with_reducible repeat (first | refine blk_drewN ?_ _ | refine blk_drew ?_ | refine blk_alloc ?_ _)); exact BK279.out) hb)
            have n12_ := Aside0.mk (below_step (by repeat (first | (with_reducible first | exact HB.out | apply below_alloc | apply pw_below_drewN | apply below_drew1 | refine below_set ?_ GE245.out | refine below_set ?_ GE262.out | refine below_set ?_ GE270.out | refine below_set ?_ GE279.out) | exact HB.out)) hb)
            clear HO_263001
            clear HO_263002
            clear HO_271001
            clear HO_271002
            clear HO_280001
            clear HO_280002
            clear BK245
            clear BK262
            clear BK270
            clear BK279
            clear HB
            have HO_263001 := n0_
            have HO_263002 := n1_
            have HO_271001 := n2_
            have HO_271002 := n3_
            have HO_280001 := n4_
            have HO_280002 := n5_
            have HO284 := n6_
            have HO287 := n7_
            have BK245 := n8_
            have BK262 := n9_
            have BK270 := n10_
            have BK279 := n11_
            have HB := n12_
            clear n0_ n1_ n2_ n3_ n4_ n5_ n6_ n7_ n8_ n9_ n10_ n11_ n12_
            (try clear hb)
            (try clear hb2)
            (try clear hk)
            (try clear hi)
            (try clear ho0)
            (try clear ho1)
            obtain ⟨Ao68, co68, eo68⟩ := Kd.R_slice HO284.out
            (first | subst eo68 | (injection eo68 with f1_ f2_ f3_; have f4_ := f1_.symm; have f5_ := f3_.symm; clear f1_ f2_ f3_; subst f4_; subst f5_))
            obtain ⟨Ao69, co69, eo69⟩ := Kd.R_slice HO287.out
            (first | subst eo69 | (injection eo69 with f1_ f2_ f3_; have f4_ := f1_.symm; have f5_ := f3_.symm; clear f1_ f2_ f3_; subst f4_; subst f5_))
            refine hK.out _ _ ⟨(blk_cell BK270.out 0).trans rfl, (blk_cell BK270.out 1).trans rfl, (blk_cell BK270.out 2).trans rfl, (blk_cell BK245.out 0).trans rfl, (blk_cell BK245.out 1).trans rfl, (blk_cell BK245.out 2).trans rfl⟩ (fun hHeld => ?_)
            clear hK K
            refine norm_ (a' := ?_) ?_ ?_
            rotate_left
            · show Act.put _ (some 47) _ = _
              simp only [Act.put, List.setIfInBounds_toArray, List.set_cons_zero, List.set_cons_succ, i64_w, i32_w]
              rfl
            refine one_ (i := 3) (N := some 48) #[true, true, true, true, false] rfl rfl (by kernel_rfl) (by decide) (fun K hK => ?_)
            refine goes_ Try.func25 (by kernel_rfl) rfl #[.agg #[.int .i64 t263, .slice Ao32 t264.length co32, .slice Ao33 t267.length co33], .agg #[.int .i64 t281, .slice Ao68 t282.length co68, .slice Ao69 t285.length co69]] (by rfl) rfl rfl (by (try simp only [List.map_toArray, List.map_cons, List.map_nil]); first | done | rfl | (simp only [List.length_drop, List.length_take]; rfl)) ?_
            with_reducible refine (laws_eqEpochs.calls kj11 t263 _ _ t264 _ _ t267 t281 _ _ t282 _ _ t285 true _ ?side1 ?side2 ?side3 ?side4 ?side5 ?side6 ?side7 ?side8 A62.out).mono ?_
            (case side1 => repeat (first | exact (Kd.R_reads' HO_271001.out).2.2 | (with_reducible refine Kd.C_alloc ?_ _) | (with_reducible refine Kd.C_drewN ?_ _) | (with_reducible refine Kd.C_drew ?_)))
            (case side2 => exact (Kd.R_reads' HO_271001.out).2.1)
            (case side3 => repeat (first | exact (Kd.R_reads' HO_271002.out).2.2 | (with_reducible refine Kd.C_alloc ?_ _) | (with_reducible refine Kd.C_drewN ?_ _) | (with_reducible refine Kd.C_drew ?_)))
            (case side4 => exact (Kd.R_reads' HO_271002.out).2.1)
            (case side5 => repeat (first | exact (Kd.R_reads' HO284.out).2.2 | (with_reducible refine Kd.C_alloc ?_ _) | (with_reducible refine Kd.C_drewN ?_ _) | (with_reducible refine Kd.C_drew ?_)))
            (case side6 => exact (Kd.R_reads' HO284.out).2.1)
            (case side7 => repeat (first | exact (Kd.R_reads' HO287.out).2.2 | (with_reducible refine Kd.C_alloc ?_ _) | (with_reducible refine Kd.C_drewN ?_ _) | (with_reducible refine Kd.C_drew ?_)))
            (case side8 => exact (Kd.R_reads' HO287.out).2.1)
            rintro e w70 ⟨rfl, hb⟩
            refine ⟨_, rfl, ?_⟩
            have n0_ := Aside0.mk (Kd.R_below (by (with_reducible repeat (first | apply Kd.R_alloc | apply Kd.R_drewN | apply Kd.R_drew)); exact HO_263001.out) hb)
            have n1_ := Aside0.mk (Kd.R_below (by (with_reducible repeat (first | apply Kd.R_alloc | apply Kd.R_drewN | apply Kd.R_drew)); exact HO_263002.out) hb)
            have n2_ := Aside0.mk (Kd.R_below (by (with_reducible repeat (first | apply Kd.R_alloc | apply Kd.R_drewN | apply Kd.R_drew)); exact HO_271001.out) hb)
            have n3_ := Aside0.mk (Kd.R_below (by (with_reducible repeat (first | apply Kd.R_alloc | apply Kd.R_drewN | apply Kd.R_drew)); exact HO_271002.out) hb)
            have n4_ := Aside0.mk (Kd.R_below (by (with_reducible repeat (first | apply Kd.R_alloc | apply Kd.R_drewN | apply Kd.R_drew)); exact HO_280001.out) hb)
            have n5_ := Aside0.mk (Kd.R_below (by (with_reducible repeat (first | apply Kd.R_alloc | apply Kd.R_drewN | apply Kd.R_drew)); exact HO_280002.out) hb)
            have n6_ := Aside0.mk (Kd.R_below (by (with_reducible repeat (first | apply Kd.R_alloc | apply Kd.R_drewN | apply Kd.R_drew)); exact HO284.out) hb)
            have n7_ := Aside0.mk (Kd.R_below (by (with_reducible repeat (first | apply Kd.R_alloc | apply Kd.R_drewN | apply Kd.R_drew)); exact HO287.out) hb)
            have n8_ := Aside0.mk (blk_below (g := gb245) (o := .cells #[.int .i64 a0_0, .slice A0_1 l0_1.length c0_1, .slice A0_2 l0_2.length c0_2] 43 (0, 0)) (by (with_reducible repeat (first | refine blk_drewN ?_ _ | refine blk_drew ?_ | refine blk_alloc ?_ _)); exact BK245.out) hb)
            have n9_ := Aside0.mk (blk_below (g := gb262) (o := .cells #[.int .i64 t254, .slice Ao24 t255.length co24, .slice Ao25 t258.length co25] 27 (0, 0)) (by (with_reducible repeat (first | refine blk_drewN ?_ _ | refine blk_drew ?_ | refine blk_alloc ?_ _)); exact BK262.out) hb)
            have n10_ := Aside0.mk (blk_below (g := gb270) (o := .cells #[.int .i64 t263, .slice Ao32 t264.length co32, .slice Ao33 t267.length co33] 27 (0, 0)) (by (with_reducible repeat (first | refine blk_drewN ?_ _ | refine blk_drew ?_ | refine blk_alloc ?_ _)); exact BK270.out) hb)
            have n11_ := Aside0.mk (blk_below (g := gb279) (o := .cells #[.int .i64 t271, .slice Ao40 t272.length co40, .slice Ao41 t275.length co41] 27 (0, 0)) (by (with_reducible repeat (first | refine blk_drewN ?_ _ | refine blk_drew ?_ | refine blk_alloc ?_ _)); exact BK279.out) hb)
            have n12_ := Aside0.mk (below_step (by repeat (first | (with_reducible first | exact HB.out | apply below_alloc | apply pw_below_drewN | apply below_drew1 | refine below_set ?_ GE245.out | refine below_set ?_ GE262.out | refine below_set ?_ GE270.out | refine below_set ?_ GE279.out) | exact HB.out)) hb)
            clear HO_263001
            clear HO_263002
            clear HO_271001
            clear HO_271002
            clear HO_280001
            clear HO_280002
            clear HO284
            clear HO287
            clear BK245
            clear BK262
            clear BK270
            clear BK279
            clear HB
            have HO_263001 := n0_
            have HO_263002 := n1_
            have HO_271001 := n2_
            have HO_271002 := n3_
            have HO_280001 := n4_
            have HO_280002 := n5_
            have HO284 := n6_
            have HO287 := n7_
            have BK245 := n8_
            have BK262 := n9_
            have BK270 := n10_
            have BK279 := n11_
            have HB := n12_
            clear n0_ n1_ n2_ n3_ n4_ n5_ n6_ n7_ n8_ n9_ n10_ n11_ n12_
            (try clear hb)
            (try clear hb2)
            (try clear hk)
            (try clear hi)
            refine hK.out _ _ ⟨(blk_cell BK270.out 0).trans rfl, (blk_cell BK270.out 1).trans rfl, (blk_cell BK270.out 2).trans rfl, (blk_cell BK245.out 0).trans rfl, (blk_cell BK245.out 1).trans rfl, (blk_cell BK245.out 2).trans rfl⟩ (fun hHeld => ?_)
            clear hK K
            refine norm_ (a' := ?_) ?_ ?_
            rotate_left
            · show Act.put _ (some 48) _ = _
              simp only [Act.put, List.setIfInBounds_toArray, List.set_cons_zero, List.set_cons_succ, i64_w, i32_w]
              rfl
            refine pure_ (i := 4) (N := some 49) (v := ?_) (a' := ?_) #[true, true, true, true, true] rfl rfl (by kernel_rfl) (fun _ _ _ h => h) (Or.inl ⟨by rfl, ?_⟩) ?_ ?_
            rotate_left
            · intro w'
              go_simp
              with_reducible rfl
            rotate_left
            · simp only [Act.put, List.setIfInBounds_toArray, List.set_cons_zero, List.set_cons_succ, i64_w, i32_w]
              rfl
            refine done_ (by kernel_rfl) ?_
            have hnb71 := NB270_245.out
            have hnc71 := NB245_270.out
            have hnb72 := NB270_262.out
            have hnc72 := NB262_270.out
            have hnb73 := NB270_279.out
            have hnc73 := NB279_270.out
            have hcz74_0 : w70.cell? ⟨gb270, 0, none⟩ = some (.int .i64 t263) := (blk_cell BK270.out 0).trans rfl
            have hcz74_1 : w70.cell? ⟨gb270, 1, none⟩ = some (.slice Ao32 t264.length co32) := (blk_cell BK270.out 1).trans rfl
            have hcz74_2 : w70.cell? ⟨gb270, 2, none⟩ = some (.slice Ao33 t267.length co33) := (blk_cell BK270.out 2).trans rfl
            have hfz74_0 := blk_frozen BK270.out 0
            have hfz74_1 := blk_frozen BK270.out 1
            have hfz74_2 := blk_frozen BK270.out 2
            go_upto_region 14 with (first | ((with_reducible refine gate_callee (f := 26) rfl ?_); refine goesL_ (some 52) rfl rfl Try.func26 (by kernel_rfl) rfl #[.agg #[.int .i64 t263, .slice Ao32 t264.length co32, .slice Ao33 t267.length co33], .int .i64 1] rfl (by (try simp only [List.map_toArray, List.map_cons, List.map_nil]); first | done | rfl | (simp only [List.length_drop, List.length_take]; rfl)) ?_; (with_reducible refine (laws_markEpochs.calls kj11 t263 (fun k_ => some k_ = (.slice Ao32 t264.length co32 : Value).ownBlock) (.slice Ao32 t264.length co32) t264 (fun k_ => some k_ = (.slice Ao33 t267.length co33 : Value).ownBlock) (.slice Ao33 t267.length co33) t267 1 t289 t290 t291 w _ ?side1 ?side2 ?side3 A64.out).mono ?_); (case side1 => repeat (first | (with_reducible first | exact HB.out | apply below_alloc | apply pw_below_drewN | apply below_drew1 | refine below_set ?_ GE245.out | refine below_set ?_ GE262.out | refine below_set ?_ GE270.out | refine below_set ?_ GE279.out) | exact HB.out)); (case side2 => exact Kd.R_tight rfl HO_271001.out); (case side3 => exact Kd.R_tight rfl HO_271002.out); rintro e w75 ⟨rfl, hy0, hy1, hb, hkp⟩; refine ⟨_, rfl, ?_⟩; have n0_ := Aside0.mk (Kd.R_mono (ok' := fun k_ => some k_ ≠ (.slice Ao32 t264.length co32 : Value).ownBlock ∧ some k_ ≠ (.slice Ao40 t272.length co40 : Value).ownBlock ∧ some k_ ≠ (.slice Ao68 t282.length co68 : Value).ownBlock) (Kd.R_keptB ((Kd.R_apart' HO_263001.out (Kd.R_typed HO_271002.out) (by decide))) hkp (fun k_ hk_ hs_ => Or.elim hs_ (fun e_ => (hk_.1.1.1) e_) (fun e_ => (hk_.2) e_))) (fun k_ hk_ => ⟨hk_.1.1.1.1, hk_.1.1.1.2, hk_.1.1.2⟩)); have n1_ := Aside0.mk (Kd.R_mono (ok' := fun k_ => some k_ ≠ (.slice Ao33 t267.length co33 : Value).ownBlock ∧ some k_ ≠ (.slice Ao41 t275.length co41 : Value).ownBlock ∧ some k_ ≠ (.slice Ao69 t285.length co69 : Value).ownBlock) (Kd.R_keptB ((Kd.R_apart' HO_263002.out (Kd.R_typed HO_271001.out) (by decide))) hkp (fun k_ hk_ hs_ => Or.elim hs_ (fun e_ => (hk_.2) e_) (fun e_ => (hk_.1.1.1) e_))) (fun k_ hk_ => ⟨hk_.1.1.1.1, hk_.1.1.1.2, hk_.1.1.2⟩)); have n2_ := Aside0.mk (Kd.R_reok rfl hy0 (fun k_ e_ => HO_271001.out.1 k_ e_)); have n3_ := Aside0.mk (Kd.R_reok rfl hy1 (fun k_ e_ => HO_271002.out.1 k_ e_)); have n4_ := Aside0.mk (Kd.R_mono (ok' := fun k_ => some k_ ≠ (.slice Ao24 t255.length co24 : Value).ownBlock ∧ some k_ ≠ (.slice Ao32 t264.length co32 : Value).ownBlock ∧ some k_ ≠ (.slice Ao68 t282.length co68 : Value).ownBlock) (Kd.R_keptB ((Kd.R_apart' HO_280001.out (Kd.R_typed HO_271002.out) (by decide))) hkp (fun k_ hk_ hs_ => Or.elim hs_ (fun e_ => (hk_.1.1.2) e_) (fun e_ => (hk_.2) e_))) (fun k_ hk_ => ⟨hk_.1.1.1.1, hk_.1.1.1.2, hk_.1.1.2⟩)); have n5_ := Aside0.mk (Kd.R_mono (ok' := fun k_ => some k_ ≠ (.slice Ao25 t258.length co25 : Value).ownBlock ∧ some k_ ≠ (.slice Ao33 t267.length co33 : Value).ownBlock ∧ some k_ ≠ (.slice Ao69 t285.length co69 : Value).ownBlock) (Kd.R_keptB ((Kd.R_apart' HO_280002.out (Kd.R_typed HO_271001.out) (by decide))) hkp (fun k_ hk_ hs_ => Or.elim hs_ (fun e_ => (hk_.2) e_) (fun e_ => (hk_.1.1.2) e_))) (fun k_ hk_ => ⟨hk_.1.1.1.1, hk_.1.1.1.2, hk_.1.1.2⟩)); have n6_ := Aside0.mk (blk_kept (by (with_reducible repeat (first | refine blk_drewN ?_ _ | refine blk_drew ?_ | refine blk_alloc ?_ _)); exact BK245.out) hkp (fun hs_ => Or.elim hs_ (fun e_ => (fun e_ => (Kd.R_ne HO_271001.out BK245.out (by decide)) e_) e_) (fun e_ => (fun e_ => (Kd.R_ne HO_271002.out BK245.out (by decide)) e_) e_))); have n7_ := Aside0.mk (blk_kept (by (with_reducible repeat (first | refine blk_drewN ?_ _ | refine blk_drew ?_ | refine blk_alloc ?_ _)); exact BK262.out) hkp (fun hs_ => Or.elim hs_ (fun e_ => (fun e_ => (Kd.R_ne HO_271001.out BK262.out (by decide)) e_) e_) (fun e_ => (fun e_ => (Kd.R_ne HO_271002.out BK262.out (by decide)) e_) e_))); have n8_ := Aside0.mk (blk_kept (by (with_reducible repeat (first | refine blk_drewN ?_ _ | refine blk_drew ?_ | refine blk_alloc ?_ _)); exact BK270.out) hkp (fun hs_ => Or.elim hs_ (fun e_ => (fun e_ => (Kd.R_ne HO_271001.out BK270.out (by decide)) e_) e_) (fun e_ => (fun e_ => (Kd.R_ne HO_271002.out BK270.out (by decide)) e_) e_))); have n9_ := Aside0.mk (blk_kept (by (with_reducible repeat (first | refine blk_drewN ?_ _ | refine blk_drew ?_ | refine blk_alloc ?_ _)); exact BK279.out) hkp (fun hs_ => Or.elim hs_ (fun e_ => (fun e_ => (Kd.R_ne HO_271001.out BK279.out (by decide)) e_) e_) (fun e_ => (fun e_ => (Kd.R_ne HO_271002.out BK279.out (by decide)) e_) e_))); have n10_ := Aside0.mk (Kd.R_mono (ok' := fun k_ => some k_ ≠ (.slice Ao24 t255.length co24 : Value).ownBlock ∧ some k_ ≠ (.slice Ao32 t264.length co32 : Value).ownBlock ∧ some k_ ≠ (.slice Ao40 t272.length co40 : Value).ownBlock) (Kd.R_keptB ((Kd.R_apart' HO284.out (Kd.R_typed HO_271002.out) (by decide))) hkp (fun k_ hk_ hs_ => Or.elim hs_ (fun e_ => (hk_.1.1.2) e_) (fun e_ => (hk_.2) e_))) (fun k_ hk_ => ⟨hk_.1.1.1.1.2, hk_.1.1.1.2, hk_.1.1.2⟩)); have n11_ := Aside0.mk (Kd.R_mono (ok' := fun k_ => some k_ ≠ (.slice Ao25 t258.length co25 : Value).ownBlock ∧ some k_ ≠ (.slice Ao33 t267.length co33 : Value).ownBlock ∧ some k_ ≠ (.slice Ao41 t275.length co41 : Value).ownBlock) (Kd.R_keptB ((Kd.R_apart' HO287.out (Kd.R_typed HO_271001.out) (by decide))) hkp (fun k_ hk_ hs_ => Or.elim hs_ (fun e_ => (hk_.2) e_) (fun e_ => (hk_.1.1.2) e_))) (fun k_ hk_ => ⟨hk_.1.1.1.1.2, hk_.1.1.1.2, hk_.1.1.2⟩)); have n12_ := Aside0.mk (hb); clear HO_263001; clear HO_263002; clear HO_271001; clear HO_271002; clear HO_280001; clear HO_280002; clear BK245; clear BK262; clear BK270; clear BK279; clear HO284; clear HO287; clear HB; have HO_263001 := n0_; have HO_263002 := n1_; have HO_271001 := n2_; have HO_271002 := n3_; have HO_280001 := n4_; have HO_280002 := n5_; have BK245 := n6_; have BK262 := n7_; have BK270 := n8_; have BK279 := n9_; have HO284 := n10_; have HO287 := n11_; have HB := n12_; clear n0_ n1_ n2_ n3_ n4_ n5_ n6_ n7_ n8_ n9_ n10_ n11_ n12_; (try clear hb); (try clear hkp); (try clear hy0); (try clear hy1)))
            (try simp only [Act.put, List.setIfInBounds_toArray, List.set_cons_zero, List.set_cons_succ])
            go_cut [65] (fun v65 wc => ∃ (kq : Nat) (x65_64 : Bool), v65 = .bool x65_64 ∧ Aside0 (laws_FnExactRetire.j1 kq a1 t261 x65_64 a0_0 l0_1 l0_2 t254 t255 t258 t271 t272 t275 = some r) ∧ Aside0 (kq ≤ kj11) ∧ Aside0 (Kd.R (Kd.int .i64) 3 wc w.heap.size (fun k_ => some k_ ≠ ((.slice Ao32 t264.length co32) : Value).ownBlock ∧ some k_ ≠ ((.slice Ao40 t272.length co40) : Value).ownBlock) (.slice Ao24 t255.length co24) t255) ∧ Aside0 (Kd.R k58 58 wc w.heap.size (fun k_ => some k_ ≠ ((.slice Ao33 t267.length co33) : Value).ownBlock ∧ some k_ ≠ ((.slice Ao41 t275.length co41) : Value).ownBlock) (.slice Ao25 t258.length co25) t258) ∧ Aside0 (Kd.R (Kd.int .i64) 3 wc w.heap.size (fun k_ => some k_ ≠ ((.slice Ao24 t255.length co24) : Value).ownBlock ∧ some k_ ≠ ((.slice Ao40 t272.length co40) : Value).ownBlock) (.slice Ao32 t264.length co32) t290) ∧ Aside0 (Kd.R k58 58 wc w.heap.size (fun k_ => some k_ ≠ ((.slice Ao25 t258.length co25) : Value).ownBlock ∧ some k_ ≠ ((.slice Ao41 t275.length co41) : Value).ownBlock) (.slice Ao33 t267.length co33) t291) ∧ Aside0 (Kd.R (Kd.int .i64) 3 wc w.heap.size (fun k_ => some k_ ≠ ((.slice Ao24 t255.length co24) : Value).ownBlock ∧ some k_ ≠ ((.slice Ao32 t264.length co32) : Value).ownBlock) (.slice Ao40 t272.length co40) t272) ∧ Aside0 (Kd.R k58 58 wc w.heap.size (fun k_ => some k_ ≠ ((.slice Ao25 t258.length co25) : Value).ownBlock ∧ some k_ ≠ ((.slice Ao33 t267.length co33) : Value).ownBlock) (.slice Ao41 t275.length co41) t275) ∧ Aside0 (wc.heap[gb245]? = some (.cells #[.int .i64 a0_0, (.slice A0_1 l0_1.length c0_1), (.slice A0_2 l0_2.length c0_2)] 43 (0, 0))) ∧ Aside0 (wc.heap[gb262]? = some (.cells #[.int .i64 t254, (.slice Ao24 t255.length co24), (.slice Ao25 t258.length co25)] 27 (0, 0))) ∧ Aside0 (wc.heap[gb270]? = some (.cells #[.int .i64 t263, (.slice Ao32 t264.length co32), (.slice Ao33 t267.length co33)] 27 (0, 0))) ∧ Aside0 (wc.heap[gb279]? = some (.cells #[.int .i64 t271, (.slice Ao40 t272.length co40), (.slice Ao41 t275.length co41)] 27 (0, 0))) ∧ Aside0 (Below w.heap.size w wc))
            case first =>
              have H := HC65.out
              clear HC65
              by_cases c76 : t289 < 0
              · rw [if_pos c76] at H
                have c76b0 : decide (t289 < 0) = true := decide_eq_true c76
                clear c76
                (first | rw [c76b0] | (simp only [i64_w, i32_w]; rw [c76b0]) | skip)
                have H' := Aside0.mk H
                clear H
                go_wp2
                go_meet
                case rel => exact ⟨_, (true), (by first | rfl | (simp; done) | (simp [*]; done)), H', ⟨by have := HJ11.out; first | omega | exact Nat.le_refl _⟩, ⟨by (with_reducible repeat (first | apply Kd.R_alloc | apply Kd.R_drewN | apply Kd.R_drew)); exact Kd.R_mono HO_263001.out (fun _ hk => ⟨hk.1, hk.2.1⟩)⟩, ⟨by (with_reducible repeat (first | apply Kd.R_alloc | apply Kd.R_drewN | apply Kd.R_drew)); exact Kd.R_mono HO_263002.out (fun _ hk => ⟨hk.1, hk.2.1⟩)⟩, ⟨by (with_reducible repeat (first | apply Kd.R_alloc | apply Kd.R_drewN | apply Kd.R_drew)); exact Kd.R_mono HO_271001.out (fun _ hk => ⟨hk.1.1, hk.1.2⟩)⟩, ⟨by (with_reducible repeat (first | apply Kd.R_alloc | apply Kd.R_drewN | apply Kd.R_drew)); exact Kd.R_mono HO_271002.out (fun _ hk => ⟨hk.1.1, hk.1.2⟩)⟩, ⟨by (with_reducible repeat (first | apply Kd.R_alloc | apply Kd.R_drewN | apply Kd.R_drew)); exact Kd.R_mono HO_280001.out (fun _ hk => ⟨hk.1, hk.2.1⟩)⟩, ⟨by (with_reducible repeat (first | apply Kd.R_alloc | apply Kd.R_drewN | apply Kd.R_drew)); exact Kd.R_mono HO_280002.out (fun _ hk => ⟨hk.1, hk.2.1⟩)⟩, ⟨by (with_reducible repeat (first | refine blk_drewN ?_ _ | refine blk_drew ?_ | refine blk_alloc ?_ _)); exact BK245.out⟩, ⟨by (with_reducible repeat (first | refine blk_drewN ?_ _ | refine blk_drew ?_ | refine blk_alloc ?_ _)); exact BK262.out⟩, ⟨by (with_reducible repeat (first | refine blk_drewN ?_ _ | refine blk_drew ?_ | refine blk_alloc ?_ _)); exact BK270.out⟩, ⟨by (with_reducible repeat (first | refine blk_drewN ?_ _ | refine blk_drew ?_ | refine blk_alloc ?_ _)); exact BK279.out⟩, ⟨by repeat (first | (with_reducible first | exact HB.out | apply below_alloc | apply pw_below_drewN | apply below_drew1 | refine below_set ?_ GE245.out | refine below_set ?_ GE262.out | refine below_set ?_ GE270.out | refine below_set ?_ GE279.out) | exact HB.out)⟩⟩
              · rw [if_neg c76] at H
                have c76b0 : decide (t289 < 0) = false := decide_eq_false c76
                clear c76
                (first | rw [c76b0] | (simp only [i64_w, i32_w]; rw [c76b0]) | skip)
                replace H := Option.bind_eq_some_iff.mp H
                obtain ⟨t292, A770, H⟩ := H
                replace H : (if t292 = true then (laws_FnExactRetire.j1 kj11 a1 t261 (t278 != t261) a0_0 l0_1 l0_2 t254 t255 t258 t271 t272 t275) else (laws_FnExactRetire.j1 kj11 a1 t261 true a0_0 l0_1 l0_2 t254 t255 t258 t271 t272 t275)) = some r := H
                have A77 := Aside0.mk A770
                clear A770
                by_cases c78 : t292 = true
                · subst c78
                  have H1 : (laws_FnExactRetire.j1 kj11 a1 t261 (t278 != t261) a0_0 l0_1 l0_2 t254 t255 t258 t271 t272 t275) = some r := by rw [if_pos rfl] at H; exact H
                  clear H
                  have H := H1
                  clear H1
                  have H' := Aside0.mk H
                  clear H
                  have hnb79 := NB279_245.out
                  have hnc79 := NB245_279.out
                  have hnb80 := NB279_262.out
                  have hnc80 := NB262_279.out
                  have hnb81 := NB279_270.out
                  have hnc81 := NB270_279.out
                  have hcz82_0 : w75.cell? ⟨gb279, 0, none⟩ = some (.int .i64 t271) := (blk_cell BK279.out 0).trans rfl
                  have hcz82_1 : w75.cell? ⟨gb279, 1, none⟩ = some (.slice Ao40 t272.length co40) := (blk_cell BK279.out 1).trans rfl
                  have hcz82_2 : w75.cell? ⟨gb279, 2, none⟩ = some (.slice Ao41 t275.length co41) := (blk_cell BK279.out 2).trans rfl
                  have hfz82_0 := blk_frozen BK279.out 0
                  have hfz82_1 := blk_frozen BK279.out 1
                  have hfz82_2 := blk_frozen BK279.out 2
                  have hnb83 := NB262_245.out
                  have hnc83 := NB245_262.out
                  have hnb84 := NB262_270.out
                  have hnc84 := NB270_262.out
                  have hcz85_0 : w75.cell? ⟨gb262, 0, none⟩ = some (.int .i64 t254) := (blk_cell BK262.out 0).trans rfl
                  have hcz85_1 : w75.cell? ⟨gb262, 1, none⟩ = some (.slice Ao24 t255.length co24) := (blk_cell BK262.out 1).trans rfl
                  have hcz85_2 : w75.cell? ⟨gb262, 2, none⟩ = some (.slice Ao25 t258.length co25) := (blk_cell BK262.out 2).trans rfl
                  have hfz85_0 := blk_frozen BK262.out 0
                  have hfz85_1 := blk_frozen BK262.out 1
                  have hfz85_2 := blk_frozen BK262.out 2
                  go_wp2_with (first | (go_at_call 25; (with_reducible refine (laws_eqEpochs.calls kj11 t271 _ _ t272 _ _ t275 t254 _ _ t255 _ _ t258 true _ ?side1 ?side2 ?side3 ?side4 ?side5 ?side6 ?side7 ?side8 A77.out).mono ?_); (case side1 => repeat (first | exact (Kd.R_reads' HO_280001.out).2.2 | (with_reducible refine Kd.C_alloc ?_ _) | (with_reducible refine Kd.C_drewN ?_ _) | (with_reducible refine Kd.C_drew ?_))); (case side2 => exact (Kd.R_reads' HO_280001.out).2.1); (case side3 => repeat (first | exact (Kd.R_reads' HO_280002.out).2.2 | (with_reducible refine Kd.C_alloc ?_ _) | (with_reducible refine Kd.C_drewN ?_ _) | (with_reducible refine Kd.C_drew ?_))); (case side4 => exact (Kd.R_reads' HO_280002.out).2.1); (case side5 => repeat (first | exact (Kd.R_reads' HO_263001.out).2.2 | (with_reducible refine Kd.C_alloc ?_ _) | (with_reducible refine Kd.C_drewN ?_ _) | (with_reducible refine Kd.C_drew ?_))); (case side6 => exact (Kd.R_reads' HO_263001.out).2.1); (case side7 => repeat (first | exact (Kd.R_reads' HO_263002.out).2.2 | (with_reducible refine Kd.C_alloc ?_ _) | (with_reducible refine Kd.C_drewN ?_ _) | (with_reducible refine Kd.C_drew ?_))); (case side8 => exact (Kd.R_reads' HO_263002.out).2.1); rintro e w86 ⟨rfl, hb⟩; have n0_ := Aside0.mk (Kd.R_below (by (with_reducible repeat (first | apply Kd.R_alloc | apply Kd.R_drewN | apply Kd.R_drew)); exact HO_263001.out) hb); have n1_ := Aside0.mk (Kd.R_below (by (with_reducible repeat (first | apply Kd.R_alloc | apply Kd.R_drewN | apply Kd.R_drew)); exact HO_263002.out) hb); have n2_ := Aside0.mk (Kd.R_below (by (with_reducible repeat (first | apply Kd.R_alloc | apply Kd.R_drewN | apply Kd.R_drew)); exact HO_271001.out) hb); have n3_ := Aside0.mk (Kd.R_below (by (with_reducible repeat (first | apply Kd.R_alloc | apply Kd.R_drewN | apply Kd.R_drew)); exact HO_271002.out) hb); have n4_ := Aside0.mk (Kd.R_below (by (with_reducible repeat (first | apply Kd.R_alloc | apply Kd.R_drewN | apply Kd.R_drew)); exact HO_280001.out) hb); have n5_ := Aside0.mk (Kd.R_below (by (with_reducible repeat (first | apply Kd.R_alloc | apply Kd.R_drewN | apply Kd.R_drew)); exact HO_280002.out) hb); have n6_ := Aside0.mk (Kd.R_below (by (with_reducible repeat (first | apply Kd.R_alloc | apply Kd.R_drewN | apply Kd.R_drew)); exact HO284.out) hb); have n7_ := Aside0.mk (Kd.R_below (by (with_reducible repeat (first | apply Kd.R_alloc | apply Kd.R_drewN | apply Kd.R_drew)); exact HO287.out) hb); have n8_ := Aside0.mk (blk_below (g := gb245) (o := .cells #[.int .i64 a0_0, .slice A0_1 l0_1.length c0_1, .slice A0_2 l0_2.length c0_2] 43 (0, 0)) (by (with_reducible repeat (first | refine blk_drewN ?_ _ | refine blk_drew ?_ | refine blk_alloc ?_ _)); exact BK245.out) hb); have n9_ := Aside0.mk (blk_below (g := gb262) (o := .cells #[.int .i64 t254, .slice Ao24 t255.length co24, .slice Ao25 t258.length co25] 27 (0, 0)) (by (with_reducible repeat (first | refine blk_drewN ?_ _ | refine blk_drew ?_ | refine blk_alloc ?_ _)); exact BK262.out) hb); have n10_ := Aside0.mk (blk_below (g := gb270) (o := .cells #[.int .i64 t263, .slice Ao32 t264.length co32, .slice Ao33 t267.length co33] 27 (0, 0)) (by (with_reducible repeat (first | refine blk_drewN ?_ _ | refine blk_drew ?_ | refine blk_alloc ?_ _)); exact BK270.out) hb); have n11_ := Aside0.mk (blk_below (g := gb279) (o := .cells #[.int .i64 t271, .slice Ao40 t272.length co40, .slice Ao41 t275.length co41] 27 (0, 0)) (by (with_reducible repeat (first | refine blk_drewN ?_ _ | refine blk_drew ?_ | refine blk_alloc ?_ _)); exact BK279.out) hb); have n12_ := Aside0.mk (below_step (by repeat (first | (with_reducible first | exact HB.out | apply below_alloc | apply pw_below_drewN | apply below_drew1 | refine below_set ?_ GE245.out | refine below_set ?_ GE262.out | refine below_set ?_ GE270.out | refine below_set ?_ GE279.out) | exact HB.out)) hb); clear HO_263001; clear HO_263002; clear HO_271001; clear HO_271002; clear HO_280001; clear HO_280002; clear HO284; clear HO287; clear BK245; clear BK262; clear BK270; clear BK279; clear HB; have HO_263001 := n0_; have HO_263002 := n1_; have HO_271001 := n2_; have HO_271002 := n3_; have HO_280001 := n4_; have HO_280002 := n5_; have HO284 := n6_; have HO287 := n7_; have BK245 := n8_; have BK262 := n9_; have BK270 := n10_; have BK279 := n11_; have HB := n12_; clear n0_ n1_ n2_ n3_ n4_ n5_ n6_ n7_ n8_ n9_ n10_ n11_ n12_; (try clear hb); (try clear hb2); (try clear hk); (try clear hi)))
                  go_meet
                  case rel => exact ⟨_, ((t278 != t261)), (by first | rfl | (simp; done) | (simp [*]; done)), H', ⟨by have := HJ11.out; first | omega | exact Nat.le_refl _⟩, ⟨by (with_reducible repeat (first | apply Kd.R_alloc | apply Kd.R_drewN | apply Kd.R_drew)); exact Kd.R_mono HO_263001.out (fun _ hk => ⟨hk.1, hk.2.1⟩)⟩, ⟨by (with_reducible repeat (first | apply Kd.R_alloc | apply Kd.R_drewN | apply Kd.R_drew)); exact Kd.R_mono HO_263002.out (fun _ hk => ⟨hk.1, hk.2.1⟩)⟩, ⟨by (with_reducible repeat (first | apply Kd.R_alloc | apply Kd.R_drewN | apply Kd.R_drew)); exact Kd.R_mono HO_271001.out (fun _ hk => ⟨hk.1.1, hk.1.2⟩)⟩, ⟨by (with_reducible repeat (first | apply Kd.R_alloc | apply Kd.R_drewN | apply Kd.R_drew)); exact Kd.R_mono HO_271002.out (fun _ hk => ⟨hk.1.1, hk.1.2⟩)⟩, ⟨by (with_reducible repeat (first | apply Kd.R_alloc | apply Kd.R_drewN | apply Kd.R_drew)); exact Kd.R_mono HO_280001.out (fun _ hk => ⟨hk.1, hk.2.1⟩)⟩, ⟨by (with_reducible repeat (first | apply Kd.R_alloc | apply Kd.R_drewN | apply Kd.R_drew)); exact Kd.R_mono HO_280002.out (fun _ hk => ⟨hk.1, hk.2.1⟩)⟩, ⟨by (with_reducible repeat (first | refine blk_drewN ?_ _ | refine blk_drew ?_ | refine blk_alloc ?_ _)); exact BK245.out⟩, ⟨by (with_reducible repeat (first | refine blk_drewN ?_ _ | refine blk_drew ?_ | refine blk_alloc ?_ _)); exact BK262.out⟩, ⟨by (with_reducible repeat (first | refine blk_drewN ?_ _ | refine blk_drew ?_ | refine blk_alloc ?_ _)); exact BK270.out⟩, ⟨by (with_reducible repeat (first | refine blk_drewN ?_ _ | refine blk_drew ?_ | refine blk_alloc ?_ _)); exact BK279.out⟩, ⟨by repeat (first | (with_reducible first | exact HB.out | apply below_alloc | apply pw_below_drewN | apply below_drew1 | refine below_set ?_ GE245.out | refine below_set ?_ GE262.out | refine below_set ?_ GE270.out | refine below_set ?_ GE279.out) | exact HB.out)⟩⟩
                · replace c78 := Bool.eq_false_iff.mpr c78
                  subst c78
                  have H1 : (laws_FnExactRetire.j1 kj11 a1 t261 true a0_0 l0_1 l0_2 t254 t255 t258 t271 t272 t275) = some r := by rw [if_neg (show ¬ (false = true) by decide)] at H; exact H
                  clear H
                  have H := H1
                  clear H1
                  have H' := Aside0.mk H
                  clear H
                  have hnb87 := NB279_245.out
                  have hnc87 := NB245_279.out
                  have hnb88 := NB279_262.out
                  have hnc88 := NB262_279.out
                  have hnb89 := NB279_270.out
                  have hnc89 := NB270_279.out
                  have hcz90_0 : w75.cell? ⟨gb279, 0, none⟩ = some (.int .i64 t271) := (blk_cell BK279.out 0).trans rfl
                  have hcz90_1 : w75.cell? ⟨gb279, 1, none⟩ = some (.slice Ao40 t272.length co40) := (blk_cell BK279.out 1).trans rfl
                  have hcz90_2 : w75.cell? ⟨gb279, 2, none⟩ = some (.slice Ao41 t275.length co41) := (blk_cell BK279.out 2).trans rfl
                  have hfz90_0 := blk_frozen BK279.out 0
                  have hfz90_1 := blk_frozen BK279.out 1
                  have hfz90_2 := blk_frozen BK279.out 2
                  have hnb91 := NB262_245.out
                  have hnc91 := NB245_262.out
                  have hnb92 := NB262_270.out
                  have hnc92 := NB270_262.out
                  have hcz93_0 : w75.cell? ⟨gb262, 0, none⟩ = some (.int .i64 t254) := (blk_cell BK262.out 0).trans rfl
                  have hcz93_1 : w75.cell? ⟨gb262, 1, none⟩ = some (.slice Ao24 t255.length co24) := (blk_cell BK262.out 1).trans rfl
                  have hcz93_2 : w75.cell? ⟨gb262, 2, none⟩ = some (.slice Ao25 t258.length co25) := (blk_cell BK262.out 2).trans rfl
                  have hfz93_0 := blk_frozen BK262.out 0
                  have hfz93_1 := blk_frozen BK262.out 1
                  have hfz93_2 := blk_frozen BK262.out 2
                  go_wp2_with (first | (go_at_call 25; (with_reducible refine (laws_eqEpochs.calls kj11 t271 _ _ t272 _ _ t275 t254 _ _ t255 _ _ t258 false _ ?side1 ?side2 ?side3 ?side4 ?side5 ?side6 ?side7 ?side8 A77.out).mono ?_); (case side1 => repeat (first | exact (Kd.R_reads' HO_280001.out).2.2 | (with_reducible refine Kd.C_alloc ?_ _) | (with_reducible refine Kd.C_drewN ?_ _) | (with_reducible refine Kd.C_drew ?_))); (case side2 => exact (Kd.R_reads' HO_280001.out).2.1); (case side3 => repeat (first | exact (Kd.R_reads' HO_280002.out).2.2 | (with_reducible refine Kd.C_alloc ?_ _) | (with_reducible refine Kd.C_drewN ?_ _) | (with_reducible refine Kd.C_drew ?_))); (case side4 => exact (Kd.R_reads' HO_280002.out).2.1); (case side5 => repeat (first | exact (Kd.R_reads' HO_263001.out).2.2 | (with_reducible refine Kd.C_alloc ?_ _) | (with_reducible refine Kd.C_drewN ?_ _) | (with_reducible refine Kd.C_drew ?_))); (case side6 => exact (Kd.R_reads' HO_263001.out).2.1); (case side7 => repeat (first | exact (Kd.R_reads' HO_263002.out).2.2 | (with_reducible refine Kd.C_alloc ?_ _) | (with_reducible refine Kd.C_drewN ?_ _) | (with_reducible refine Kd.C_drew ?_))); (case side8 => exact (Kd.R_reads' HO_263002.out).2.1); rintro e w94 ⟨rfl, hb⟩; have n0_ := Aside0.mk (Kd.R_below (by (with_reducible repeat (first | apply Kd.R_alloc | apply Kd.R_drewN | apply Kd.R_drew)); exact HO_263001.out) hb); have n1_ := Aside0.mk (Kd.R_below (by (with_reducible repeat (first | apply Kd.R_alloc | apply Kd.R_drewN | apply Kd.R_drew)); exact HO_263002.out) hb); have n2_ := Aside0.mk (Kd.R_below (by (with_reducible repeat (first | apply Kd.R_alloc | apply Kd.R_drewN | apply Kd.R_drew)); exact HO_271001.out) hb); have n3_ := Aside0.mk (Kd.R_below (by (with_reducible repeat (first | apply Kd.R_alloc | apply Kd.R_drewN | apply Kd.R_drew)); exact HO_271002.out) hb); have n4_ := Aside0.mk (Kd.R_below (by (with_reducible repeat (first | apply Kd.R_alloc | apply Kd.R_drewN | apply Kd.R_drew)); exact HO_280001.out) hb); have n5_ := Aside0.mk (Kd.R_below (by (with_reducible repeat (first | apply Kd.R_alloc | apply Kd.R_drewN | apply Kd.R_drew)); exact HO_280002.out) hb); have n6_ := Aside0.mk (Kd.R_below (by (with_reducible repeat (first | apply Kd.R_alloc | apply Kd.R_drewN | apply Kd.R_drew)); exact HO284.out) hb); have n7_ := Aside0.mk (Kd.R_below (by (with_reducible repeat (first | apply Kd.R_alloc | apply Kd.R_drewN | apply Kd.R_drew)); exact HO287.out) hb); have n8_ := Aside0.mk (blk_below (g := gb245) (o := .cells #[.int .i64 a0_0, .slice A0_1 l0_1.length c0_1, .slice A0_2 l0_2.length c0_2] 43 (0, 0)) (by (with_reducible repeat (first | refine blk_drewN ?_ _ | refine blk_drew ?_ | refine blk_alloc ?_ _)); exact BK245.out) hb); have n9_ := Aside0.mk (blk_below (g := gb262) (o := .cells #[.int .i64 t254, .slice Ao24 t255.length co24, .slice Ao25 t258.length co25] 27 (0, 0)) (by (with_reducible repeat (first | refine blk_drewN ?_ _ | refine blk_drew ?_ | refine blk_alloc ?_ _)); exact BK262.out) hb); have n10_ := Aside0.mk (blk_below (g := gb270) (o := .cells #[.int .i64 t263, .slice Ao32 t264.length co32, .slice Ao33 t267.length co33] 27 (0, 0)) (by (with_reducible repeat (first | refine blk_drewN ?_ _ | refine blk_drew ?_ | refine blk_alloc ?_ _)); exact BK270.out) hb); have n11_ := Aside0.mk (blk_below (g := gb279) (o := .cells #[.int .i64 t271, .slice Ao40 t272.length co40, .slice Ao41 t275.length co41] 27 (0, 0)) (by (with_reducible repeat (first | refine blk_drewN ?_ _ | refine blk_drew ?_ | refine blk_alloc ?_ _)); exact BK279.out) hb); have n12_ := Aside0.mk (below_step (by repeat (first | (with_reducible first | exact HB.out | apply below_alloc | apply pw_below_drewN | apply below_drew1 | refine below_set ?_ GE245.out | refine below_set ?_ GE262.out | refine below_set ?_ GE270.out | refine below_set ?_ GE279.out) | exact HB.out)) hb); clear HO_263001; clear HO_263002; clear HO_271001; clear HO_271002; clear HO_280001; clear HO_280002; clear HO284; clear HO287; clear BK245; clear BK262; clear BK270; clear BK279; clear HB; have HO_263001 := n0_; have HO_263002 := n1_; have HO_271001 := n2_; have HO_271002 := n3_; have HO_280001 := n4_; have HO_280002 := n5_; have HO284 := n6_; have HO287 := n7_; have BK245 := n8_; have BK262 := n9_; have BK270 := n10_; have BK279 := n11_; have HB := n12_; clear n0_ n1_ n2_ n3_ n4_ n5_ n6_ n7_ n8_ n9_ n10_ n11_ n12_; (try clear hb); (try clear hb2); (try clear hk); (try clear hi)))
                  go_meet
                  case rel => exact ⟨_, (true), (by first | rfl | (simp; done) | (simp [*]; done)), H', ⟨by have := HJ11.out; first | omega | exact Nat.le_refl _⟩, ⟨by (with_reducible repeat (first | apply Kd.R_alloc | apply Kd.R_drewN | apply Kd.R_drew)); exact Kd.R_mono HO_263001.out (fun _ hk => ⟨hk.1, hk.2.1⟩)⟩, ⟨by (with_reducible repeat (first | apply Kd.R_alloc | apply Kd.R_drewN | apply Kd.R_drew)); exact Kd.R_mono HO_263002.out (fun _ hk => ⟨hk.1, hk.2.1⟩)⟩, ⟨by (with_reducible repeat (first | apply Kd.R_alloc | apply Kd.R_drewN | apply Kd.R_drew)); exact Kd.R_mono HO_271001.out (fun _ hk => ⟨hk.1.1, hk.1.2⟩)⟩, ⟨by (with_reducible repeat (first | apply Kd.R_alloc | apply Kd.R_drewN | apply Kd.R_drew)); exact Kd.R_mono HO_271002.out (fun _ hk => ⟨hk.1.1, hk.1.2⟩)⟩, ⟨by (with_reducible repeat (first | apply Kd.R_alloc | apply Kd.R_drewN | apply Kd.R_drew)); exact Kd.R_mono HO_280001.out (fun _ hk => ⟨hk.1, hk.2.1⟩)⟩, ⟨by (with_reducible repeat (first | apply Kd.R_alloc | apply Kd.R_drewN | apply Kd.R_drew)); exact Kd.R_mono HO_280002.out (fun _ hk => ⟨hk.1, hk.2.1⟩)⟩, ⟨by (with_reducible repeat (first | refine blk_drewN ?_ _ | refine blk_drew ?_ | refine blk_alloc ?_ _)); exact BK245.out⟩, ⟨by (with_reducible repeat (first | refine blk_drewN ?_ _ | refine blk_drew ?_ | refine blk_alloc ?_ _)); exact BK262.out⟩, ⟨by (with_reducible repeat (first | refine blk_drewN ?_ _ | refine blk_drew ?_ | refine blk_alloc ?_ _)); exact BK270.out⟩, ⟨by (with_reducible repeat (first | refine blk_drewN ?_ _ | refine blk_drew ?_ | refine blk_alloc ?_ _)); exact BK279.out⟩, ⟨by repeat (first | (with_reducible first | exact HB.out | apply below_alloc | apply pw_below_drewN | apply below_drew1 | refine below_set ?_ GE245.out | refine below_set ?_ GE262.out | refine below_set ?_ GE270.out | refine below_set ?_ GE279.out) | exact HB.out)⟩⟩
            case rest =>
              clear HC65
              try clear c2
              try clear p2
              try clear c3
              try clear c4
              try clear c4b0
              try clear c5
              try clear c6
              try clear c7
              try clear c8
              try clear c9
              try clear c20
              try clear c22
              try clear c25
              try clear c26
              try clear c28
              try clear c29
              try clear c30
              try clear c32
              try clear c36
              try clear c37
              try clear c38
              try clear c43
              try clear c44
              try clear c45
              try clear c46
              try clear c48
              try clear c49
              try clear c52
              try clear c53
              try clear c54
              try clear c56
              try clear c57
              try clear c60
              try clear c63
              try clear c71
              try clear c72
              try clear c73
              try clear c76
              try clear c76b0
              try clear c78
              try clear c79
              try clear c80
              try clear c81
              try clear c83
              try clear c84
              try clear c87
              try clear c88
              try clear c89
              try clear c91
              try clear c92
              try clear hcz14_0
              try clear hcz14_1
              try clear hcz14_2
              try clear hcz16_0
              try clear hcz16_1
              try clear hcz16_2
              try clear hcz23_0
              try clear hcz23_1
              try clear hcz23_2
              try clear hcz26_0
              try clear hcz26_1
              try clear hcz26_2
              try clear hcz31_0
              try clear hcz31_1
              try clear hcz31_2
              try clear hcz39_0
              try clear hcz39_1
              try clear hcz39_2
              try clear hcz47_0
              try clear hcz47_1
              try clear hcz47_2
              try clear hcz50_0
              try clear hcz50_1
              try clear hcz50_2
              try clear hcz55_0
              try clear hcz55_1
              try clear hcz55_2
              try clear hcz58_0
              try clear hcz58_1
              try clear hcz58_2
              try clear hcz6_0
              try clear hcz6_1
              try clear hcz6_2
              try clear hcz74_0
              try clear hcz74_1
              try clear hcz74_2
              try clear hcz82_0
              try clear hcz82_1
              try clear hcz82_2
              try clear hcz85_0
              try clear hcz85_1
              try clear hcz85_2
              try clear hcz90_0
              try clear hcz90_1
              try clear hcz90_2
              try clear hcz93_0
              try clear hcz93_1
              try clear hcz93_2
              try clear hfz14_0
              try clear hfz14_1
              try clear hfz14_2
              try clear hfz16_0
              try clear hfz16_1
              try clear hfz16_2
              try clear hfz23_0
              try clear hfz23_1
              try clear hfz23_2
              try clear hfz26_0
              try clear hfz26_1
              try clear hfz26_2
              try clear hfz31_0
              try clear hfz31_1
              try clear hfz31_2
              try clear hfz39_0
              try clear hfz39_1
              try clear hfz39_2
              try clear hfz47_0
              try clear hfz47_1
              try clear hfz47_2
              try clear hfz50_0
              try clear hfz50_1
              try clear hfz50_2
              try clear hfz55_0
              try clear hfz55_1
              try clear hfz55_2
              try clear hfz58_0
              try clear hfz58_1
              try clear hfz58_2
              try clear hfz6_0
              try clear hfz6_1
              try clear hfz6_2
              try clear hfz74_0
              try clear hfz74_1
              try clear hfz74_2
              try clear hfz82_0
              try clear hfz82_1
              try clear hfz82_2
              try clear hfz85_0
              try clear hfz85_1
              try clear hfz85_2
              try clear hfz90_0
              try clear hfz90_1
              try clear hfz90_2
              try clear hfz93_0
              try clear hfz93_1
              try clear hfz93_2
              try clear p2
              obtain ⟨kq, x65_64, rfl, HA, HJ64, HO_263001, HO_263002, HO_271001, HO_271002, HO_280001, HO_280002, BK245, BK262, BK270, BK279, HB⟩ := hcut
              have hl271001_64 := (Kd.R_reads' HO_271001.out).1
              rw [hl271001_64] at HO_271001
              (try simp only [hl271001_64])
              (try simp only [hl271001_64] at BK245)
              (try simp only [hl271001_64] at BK262)
              (try simp only [hl271001_64] at BK270)
              (try simp only [hl271001_64] at BK279)
              (try simp only [hl271001_64] at HO_263001)
              (try simp only [hl271001_64] at HO_263002)
              (try simp only [hl271001_64] at HO_271002)
              (try simp only [hl271001_64] at HO_280001)
              (try simp only [hl271001_64] at HO_280002)
              have hl271002_64 := (Kd.R_reads' HO_271002.out).1
              rw [hl271002_64] at HO_271002
              (try simp only [hl271002_64])
              (try simp only [hl271002_64] at BK245)
              (try simp only [hl271002_64] at BK262)
              (try simp only [hl271002_64] at BK270)
              (try simp only [hl271002_64] at BK279)
              (try simp only [hl271002_64] at HO_263001)
              (try simp only [hl271002_64] at HO_263002)
              (try simp only [hl271002_64] at HO_271001)
              (try simp only [hl271002_64] at HO_280001)
              (try simp only [hl271002_64] at HO_280002)
              cases kq with
              | zero => exact absurd HA.out (by simp [laws_FnExactRetire.j1])
              | succ kj64 =>
                have H := HA.out
                clear HA
                simp only [laws_FnExactRetire.j1] at H
                by_cases c95 : x65_64 = true
                · subst c95
                  have H1 : (none) = some r := by rw [if_pos rfl] at H; exact H
                  clear H
                  have H := H1
                  clear H1
                  exact absurd H (by simp)
                · replace c95 := Bool.eq_false_iff.mpr c95
                  subst c95
                  have H1 : ((laws_markEpochs.f kj64 t271 t272 t275 1).bind fun bt293 => ((laws_heldEpochs.f kj64 t271 bt293.2.1 bt293.2.2 1).bind fun t296 => (if t296 < 0 then (none) else (if t296 = bt293.1 then ((laws_toEpochs.f kj64 a0_0 l0_1 l0_2).bind fun bt297 => ((impl_Retire.f bt297.1 bt297.2.1 bt297.2.2 a1).bind fun bt304 => ((laws_eqEpochs.f kj64 bt304.1 bt304.2.1 bt304.2.2.1 t254 t255 t258).bind fun t313 => (if t313 = true then (laws_FnExactRetire.j2 kj64 bt293.1 (bt304.2.2.2 != t261) t271 bt293.2.1 bt293.2.2) else (laws_FnExactRetire.j2 kj64 bt293.1 true t271 bt293.2.1 bt293.2.2))))) else (none))))) = some r := by rw [if_neg (show ¬ (false = true) by decide)] at H; exact H
                  clear H
                  have H := H1
                  clear H1
                  replace H := Option.bind_eq_some_iff.mp H
                  obtain ⟨⟨t293, t294, t295⟩, A960, H⟩ := H
                  replace H : ((laws_heldEpochs.f kj64 t271 t294 t295 1).bind fun t296 => (if t296 < 0 then (none) else (if t296 = t293 then ((laws_toEpochs.f kj64 a0_0 l0_1 l0_2).bind fun bt297 => ((impl_Retire.f bt297.1 bt297.2.1 bt297.2.2 a1).bind fun bt304 => ((laws_eqEpochs.f kj64 bt304.1 bt304.2.1 bt304.2.2.1 t254 t255 t258).bind fun t313 => (if t313 = true then (laws_FnExactRetire.j2 kj64 t293 (bt304.2.2.2 != t261) t271 t294 t295) else (laws_FnExactRetire.j2 kj64 t293 true t271 t294 t295))))) else (none)))) = some r := H
                  have A96 := Aside0.mk A960
                  clear A960
                  replace H := Option.bind_eq_some_iff.mp H
                  obtain ⟨t296, A970, H⟩ := H
                  replace H : (if t296 < 0 then (none) else (if t296 = t293 then ((laws_toEpochs.f kj64 a0_0 l0_1 l0_2).bind fun bt297 => ((impl_Retire.f bt297.1 bt297.2.1 bt297.2.2 a1).bind fun bt304 => ((laws_eqEpochs.f kj64 bt304.1 bt304.2.1 bt304.2.2.1 t254 t255 t258).bind fun t313 => (if t313 = true then (laws_FnExactRetire.j2 kj64 t293 (bt304.2.2.2 != t261) t271 t294 t295) else (laws_FnExactRetire.j2 kj64 t293 true t271 t294 t295))))) else (none))) = some r := H
                  have A97 := Aside0.mk A970
                  clear A970
                  by_cases c98 : t296 < 0
                  · rw [if_pos c98] at H
                    exact absurd H (by simp)
                  · rw [if_neg c98] at H
                    have c98b0 : decide (t296 < 0) = false := decide_eq_false c98
                    clear c98
                    by_cases c99 : t296 = t293
                    · rw [if_pos c99] at H
                      have c99b0 : (t296 == t293) = true := beq_iff_eq.mpr c99
                      have c99b1 : (t296 != t293) = false := bne_eq_false_iff_eq.mpr c99
                      clear c99
                      replace H := Option.bind_eq_some_iff.mp H
                      obtain ⟨⟨t297, t298, t301⟩, A1000, H⟩ := H
                      replace H : ((impl_Retire.f t297 t298 t301 a1).bind fun bt304 => ((laws_eqEpochs.f kj64 bt304.1 bt304.2.1 bt304.2.2.1 t254 t255 t258).bind fun t313 => (if t313 = true then (laws_FnExactRetire.j2 kj64 t293 (bt304.2.2.2 != t261) t271 t294 t295) else (laws_FnExactRetire.j2 kj64 t293 true t271 t294 t295)))) = some r := H
                      have A100 := Aside0.mk A1000
                      clear A1000
                      replace H := Option.bind_eq_some_iff.mp H
                      obtain ⟨⟨t304, t305, t308, t311⟩, A1010, H⟩ := H
                      replace H : ((laws_eqEpochs.f kj64 t304 t305 t308 t254 t255 t258).bind fun t313 => (if t313 = true then (laws_FnExactRetire.j2 kj64 t293 (t311 != t261) t271 t294 t295) else (laws_FnExactRetire.j2 kj64 t293 true t271 t294 t295))) = some r := H
                      have A101 := Aside0.mk A1010
                      clear A1010
                      have HC102 := Aside0.mk H
                      clear H
                      have hnb103 := NB279_245.out
                      have hnc103 := NB245_279.out
                      have hnb104 := NB279_262.out
                      have hnc104 := NB262_279.out
                      have hnb105 := NB279_270.out
                      have hnc105 := NB270_279.out
                      have hcz106_0 : wc.cell? ⟨gb279, 0, none⟩ = some (.int .i64 t271) := (blk_cell BK279.out 0).trans rfl
                      have hcz106_1 : wc.cell? ⟨gb279, 1, none⟩ = some (.slice Ao40 t272.length co40) := (blk_cell BK279.out 1).trans rfl
                      have hcz106_2 : wc.cell? ⟨gb279, 2, none⟩ = some (.slice Ao41 t275.length co41) := (blk_cell BK279.out 2).trans rfl
                      have hfz106_0 := blk_frozen BK279.out 0
                      have hfz106_1 := blk_frozen BK279.out 1
                      have hfz106_2 := blk_frozen BK279.out 2
                      go_upto_region 25 with (first | ((with_reducible refine gate_callee (f := 26) rfl ?_); refine goesL_ (some 68) rfl rfl Try.func26 (by kernel_rfl) rfl #[.agg #[.int .i64 t271, .slice Ao40 t272.length co40, .slice Ao41 t275.length co41], .int .i64 1] rfl (by (try simp only [List.map_toArray, List.map_cons, List.map_nil]); first | done | rfl | (simp only [List.length_drop, List.length_take]; rfl)) ?_; (with_reducible refine (laws_markEpochs.calls kj64 t271 (fun k_ => some k_ = (.slice Ao40 t272.length co40 : Value).ownBlock) (.slice Ao40 t272.length co40) t272 (fun k_ => some k_ = (.slice Ao41 t275.length co41 : Value).ownBlock) (.slice Ao41 t275.length co41) t275 1 t293 t294 t295 w _ ?side1 ?side2 ?side3 A96.out).mono ?_); (case side1 => repeat (first | (with_reducible first | exact HB.out | apply below_alloc | apply pw_below_drewN | apply below_drew1 | refine below_set ?_ GE245.out | refine below_set ?_ GE262.out | refine below_set ?_ GE270.out | refine below_set ?_ GE279.out) | exact HB.out)); (case side2 => exact Kd.R_tight rfl HO_280001.out); (case side3 => exact Kd.R_tight rfl HO_280002.out); rintro e w107 ⟨rfl, hy0, hy1, hb, hkp⟩; refine ⟨_, rfl, ?_⟩; have n0_ := Aside0.mk (Kd.R_mono (ok' := fun k_ => some k_ ≠ (.slice Ao32 t290.length co32 : Value).ownBlock ∧ some k_ ≠ (.slice Ao40 t272.length co40 : Value).ownBlock) (Kd.R_keptB ((Kd.R_apart' HO_263001.out (Kd.R_typed HO_280002.out) (by decide))) hkp (fun k_ hk_ hs_ => Or.elim hs_ (fun e_ => (hk_.1.2) e_) (fun e_ => (hk_.2) e_))) (fun k_ hk_ => ⟨hk_.1.1.1, hk_.1.1.2⟩)); have n1_ := Aside0.mk (Kd.R_mono (ok' := fun k_ => some k_ ≠ (.slice Ao33 t291.length co33 : Value).ownBlock ∧ some k_ ≠ (.slice Ao41 t275.length co41 : Value).ownBlock) (Kd.R_keptB ((Kd.R_apart' HO_263002.out (Kd.R_typed HO_280001.out) (by decide))) hkp (fun k_ hk_ hs_ => Or.elim hs_ (fun e_ => (hk_.2) e_) (fun e_ => (hk_.1.2) e_))) (fun k_ hk_ => ⟨hk_.1.1.1, hk_.1.1.2⟩)); have n2_ := Aside0.mk (Kd.R_mono (ok' := fun k_ => some k_ ≠ (.slice Ao24 t255.length co24 : Value).ownBlock ∧ some k_ ≠ (.slice Ao40 t272.length co40 : Value).ownBlock) (Kd.R_keptB ((Kd.R_apart' HO_271001.out (Kd.R_typed HO_280002.out) (by decide))) hkp (fun k_ hk_ hs_ => Or.elim hs_ (fun e_ => (hk_.1.2) e_) (fun e_ => (hk_.2) e_))) (fun k_ hk_ => ⟨hk_.1.1.1, hk_.1.1.2⟩)); have n3_ := Aside0.mk (Kd.R_mono (ok' := fun k_ => some k_ ≠ (.slice Ao25 t258.length co25 : Value).ownBlock ∧ some k_ ≠ (.slice Ao41 t275.length co41 : Value).ownBlock) (Kd.R_keptB ((Kd.R_apart' HO_271002.out (Kd.R_typed HO_280001.out) (by decide))) hkp (fun k_ hk_ hs_ => Or.elim hs_ (fun e_ => (hk_.2) e_) (fun e_ => (hk_.1.2) e_))) (fun k_ hk_ => ⟨hk_.1.1.1, hk_.1.1.2⟩)); have n4_ := Aside0.mk (Kd.R_reok rfl hy0 (fun k_ e_ => HO_280001.out.1 k_ e_)); have n5_ := Aside0.mk (Kd.R_reok rfl hy1 (fun k_ e_ => HO_280002.out.1 k_ e_)); have n6_ := Aside0.mk (blk_kept (by (with_reducible repeat (first | refine blk_drewN ?_ _ | refine blk_drew ?_ | refine blk_alloc ?_ _)); exact BK245.out) hkp (fun hs_ => Or.elim hs_ (fun e_ => (fun e_ => (Kd.R_ne HO_280001.out BK245.out (by decide)) e_) e_) (fun e_ => (fun e_ => (Kd.R_ne HO_280002.out BK245.out (by decide)) e_) e_))); have n7_ := Aside0.mk (blk_kept (by (with_reducible repeat (first | refine blk_drewN ?_ _ | refine blk_drew ?_ | refine blk_alloc ?_ _)); exact BK262.out) hkp (fun hs_ => Or.elim hs_ (fun e_ => (fun e_ => (Kd.R_ne HO_280001.out BK262.out (by decide)) e_) e_) (fun e_ => (fun e_ => (Kd.R_ne HO_280002.out BK262.out (by decide)) e_) e_))); have n8_ := Aside0.mk (blk_kept (by (with_reducible repeat (first | refine blk_drewN ?_ _ | refine blk_drew ?_ | refine blk_alloc ?_ _)); exact BK270.out) hkp (fun hs_ => Or.elim hs_ (fun e_ => (fun e_ => (Kd.R_ne HO_280001.out BK270.out (by decide)) e_) e_) (fun e_ => (fun e_ => (Kd.R_ne HO_280002.out BK270.out (by decide)) e_) e_))); have n9_ := Aside0.mk (blk_kept (by (with_reducible repeat (first | refine blk_drewN ?_ _ | refine blk_drew ?_ | refine blk_alloc ?_ _)); exact BK279.out) hkp (fun hs_ => Or.elim hs_ (fun e_ => (fun e_ => (Kd.R_ne HO_280001.out BK279.out (by decide)) e_) e_) (fun e_ => (fun e_ => (Kd.R_ne HO_280002.out BK279.out (by decide)) e_) e_))); have n10_ := Aside0.mk (hb); clear HO_263001; clear HO_263002; clear HO_271001; clear HO_271002; clear HO_280001; clear HO_280002; clear BK245; clear BK262; clear BK270; clear BK279; clear HB; have HO_263001 := n0_; have HO_263002 := n1_; have HO_271001 := n2_; have HO_271002 := n3_; have HO_280001 := n4_; have HO_280002 := n5_; have BK245 := n6_; have BK262 := n7_; have BK270 := n8_; have BK279 := n9_; have HB := n10_; clear n0_ n1_ n2_ n3_ n4_ n5_ n6_ n7_ n8_ n9_ n10_; (try clear hb); (try clear hkp); (try clear hy0); (try clear hy1); have hcz108_0 : w107.cell? ⟨gb279, 0, none⟩ = some (.int .i64 t271) := (blk_cell BK279.out 0).trans rfl; have hcz108_1 : w107.cell? ⟨gb279, 1, none⟩ = some (.slice Ao40 t272.length co40) := (blk_cell BK279.out 1).trans rfl; have hcz108_2 : w107.cell? ⟨gb279, 2, none⟩ = some (.slice Ao41 t275.length co41) := (blk_cell BK279.out 2).trans rfl; have hfz108_0 := blk_frozen BK279.out 0; have hfz108_1 := blk_frozen BK279.out 1; have hfz108_2 := blk_frozen BK279.out 2) | ((with_reducible refine gate_callee (f := 27) rfl ?_); refine goesL_ (some 71) rfl rfl Try.func27 (by kernel_rfl) rfl #[.agg #[.int .i64 t271, .slice Ao40 t294.length co40, .slice Ao41 t295.length co41], .int .i64 1] rfl (by (try simp only [List.map_toArray, List.map_cons, List.map_nil]); first | done | (rw [show t294.length = t272.length from (Kd.R_reads' HO_280001.out).1.symm, show t295.length = t275.length from (Kd.R_reads' HO_280002.out).1.symm] <;> rfl) | rfl | (simp only [List.length_drop, List.length_take]; rfl)) ?_; (with_reducible refine (laws_heldEpochs.calls kj64 t271 _ _ t294 _ _ t295 1 t296 _ ?side1 ?side2 ?side3 ?side4 A97.out).mono ?_); (case side1 => repeat (first | exact (Kd.R_reads' HO_280001.out).2.2 | (with_reducible refine Kd.C_alloc ?_ _) | (with_reducible refine Kd.C_drewN ?_ _) | (with_reducible refine Kd.C_drew ?_))); (case side2 => rw [show t294.length = t272.length from (Kd.R_reads' HO_280001.out).1.symm]; exact (Kd.R_reads' HO_280001.out).2.1); (case side3 => repeat (first | exact (Kd.R_reads' HO_280002.out).2.2 | (with_reducible refine Kd.C_alloc ?_ _) | (with_reducible refine Kd.C_drewN ?_ _) | (with_reducible refine Kd.C_drew ?_))); (case side4 => rw [show t295.length = t275.length from (Kd.R_reads' HO_280002.out).1.symm]; exact (Kd.R_reads' HO_280002.out).2.1); rintro e w109 ⟨rfl, hb⟩; refine ⟨_, rfl, ?_⟩; have n0_ := Aside0.mk (Kd.R_below (by (with_reducible repeat (first | apply Kd.R_alloc | apply Kd.R_drewN | apply Kd.R_drew)); exact HO_263001.out) hb); have n1_ := Aside0.mk (Kd.R_below (by (with_reducible repeat (first | apply Kd.R_alloc | apply Kd.R_drewN | apply Kd.R_drew)); exact HO_263002.out) hb); have n2_ := Aside0.mk (Kd.R_below (by (with_reducible repeat (first | apply Kd.R_alloc | apply Kd.R_drewN | apply Kd.R_drew)); exact HO_271001.out) hb); have n3_ := Aside0.mk (Kd.R_below (by (with_reducible repeat (first | apply Kd.R_alloc | apply Kd.R_drewN | apply Kd.R_drew)); exact HO_271002.out) hb); have n4_ := Aside0.mk (Kd.R_below (by (with_reducible repeat (first | apply Kd.R_alloc | apply Kd.R_drewN | apply Kd.R_drew)); exact HO_280001.out) hb); have n5_ := Aside0.mk (Kd.R_below (by (with_reducible repeat (first | apply Kd.R_alloc | apply Kd.R_drewN | apply Kd.R_drew)); exact HO_280002.out) hb); have n6_ := Aside0.mk (blk_below (g := gb245) (o := .cells #[.int .i64 a0_0, .slice A0_1 l0_1.length c0_1, .slice A0_2 l0_2.length c0_2] 43 (0, 0)) (by (with_reducible repeat (first | refine blk_drewN ?_ _ | refine blk_drew ?_ | refine blk_alloc ?_ _)); exact BK245.out) hb); have n7_ := Aside0.mk (blk_below (g := gb262) (o := .cells #[.int .i64 t254, .slice Ao24 t255.length co24, .slice Ao25 t258.length co25] 27 (0, 0)) (by (with_reducible repeat (first | refine blk_drewN ?_ _ | refine blk_drew ?_ | refine blk_alloc ?_ _)); exact BK262.out) hb); have n8_ := Aside0.mk (blk_below (g := gb270) (o := .cells #[.int .i64 t263, .slice Ao32 t290.length co32, .slice Ao33 t291.length co33] 27 (0, 0)) (by (with_reducible repeat (first | refine blk_drewN ?_ _ | refine blk_drew ?_ | refine blk_alloc ?_ _)); exact BK270.out) hb); have n9_ := Aside0.mk (blk_below (g := gb279) (o := .cells #[.int .i64 t271, .slice Ao40 t272.length co40, .slice Ao41 t275.length co41] 27 (0, 0)) (by (with_reducible repeat (first | refine blk_drewN ?_ _ | refine blk_drew ?_ | refine blk_alloc ?_ _)); exact BK279.out) hb); have n10_ := Aside0.mk (below_step (by repeat (first | (with_reducible first | exact HB.out | apply below_alloc | apply pw_below_drewN | apply below_drew1 | refine below_set ?_ GE245.out | refine below_set ?_ GE262.out | refine below_set ?_ GE270.out | refine below_set ?_ GE279.out) | exact HB.out)) hb); clear HO_263001; clear HO_263002; clear HO_271001; clear HO_271002; clear HO_280001; clear HO_280002; clear BK245; clear BK262; clear BK270; clear BK279; clear HB; have HO_263001 := n0_; have HO_263002 := n1_; have HO_271001 := n2_; have HO_271002 := n3_; have HO_280001 := n4_; have HO_280002 := n5_; have BK245 := n6_; have BK262 := n7_; have BK270 := n8_; have BK279 := n9_; have HB := n10_; clear n0_ n1_ n2_ n3_ n4_ n5_ n6_ n7_ n8_ n9_ n10_; (try clear hb); (try clear hb2); (try clear hk); (try clear hi); have hnb110 := NB245_262.out; have hnc110 := NB262_245.out; have hnb111 := NB245_270.out; have hnc111 := NB270_245.out; have hcz112_0 : w109.cell? ⟨gb245, 0, none⟩ = some (.int .i64 a0_0) := (blk_cell BK245.out 0).trans rfl; have hcz112_1 : w109.cell? ⟨gb245, 1, none⟩ = some (.slice A0_1 l0_1.length c0_1) := (blk_cell BK245.out 1).trans rfl; have hcz112_2 : w109.cell? ⟨gb245, 2, none⟩ = some (.slice A0_2 l0_2.length c0_2) := (blk_cell BK245.out 2).trans rfl; have hfz112_0 := blk_frozen BK245.out 0; have hfz112_1 := blk_frozen BK245.out 1; have hfz112_2 := blk_frozen BK245.out 2) | ((with_reducible refine gate_callee (f := 30) rfl ?_); refine goesL_ (some 79) rfl rfl Try.func30 (by kernel_rfl) rfl #[.agg #[.int .i64 a0_0, .slice A0_1 l0_1.length c0_1, .slice A0_2 l0_2.length c0_2]] rfl (by (try simp only [List.map_toArray, List.map_cons, List.map_nil]); first | done | rfl | (simp only [List.length_drop, List.length_take]; rfl)) ?_; (with_reducible refine (laws_toEpochs.calls kj64 a0_0 _ _ l0_1 _ _ l0_2 t297 t298 t301 _ ?side1 ?side2 ?side3 ?side4 A100.out).mono ?_); (case side1 => repeat (first | exact (Kd.C_below HR0_1.out HB.out) | (with_reducible refine Kd.C_alloc ?_ _) | (with_reducible refine Kd.C_drewN ?_ _) | (with_reducible refine Kd.C_drew ?_))); (case side2 => exact HC0_1.out); (case side3 => repeat (first | exact (Kd.C_below HR0_2.out HB.out) | (with_reducible refine Kd.C_alloc ?_ _) | (with_reducible refine Kd.C_drewN ?_ _) | (with_reducible refine Kd.C_drew ?_))); (case side4 => exact HC0_2.out); rintro e w113 ⟨v299, v302, rfl, ho0, ho1, hb⟩; refine ⟨_, rfl, ?_⟩; have n0_ := Aside0.mk (Kd.R_elder' (by (with_reducible repeat (first | apply Kd.R_alloc | apply Kd.R_drewN | apply Kd.R_drew)); exact HO_263001.out) (Kd.R_base ho0) hb); have n1_ := Aside0.mk (Kd.R_elder' (by (with_reducible repeat (first | apply Kd.R_alloc | apply Kd.R_drewN | apply Kd.R_drew)); exact HO_263002.out) (Kd.R_base ho1) hb); have n2_ := Aside0.mk (Kd.R_elder' (by (with_reducible repeat (first | apply Kd.R_alloc | apply Kd.R_drewN | apply Kd.R_drew)); exact HO_271001.out) (Kd.R_base ho0) hb); have n3_ := Aside0.mk (Kd.R_elder' (by (with_reducible repeat (first | apply Kd.R_alloc | apply Kd.R_drewN | apply Kd.R_drew)); exact HO_271002.out) (Kd.R_base ho1) hb); have n4_ := Aside0.mk (Kd.R_elder' (by (with_reducible repeat (first | apply Kd.R_alloc | apply Kd.R_drewN | apply Kd.R_drew)); exact HO_280001.out) (Kd.R_base ho0) hb); have n5_ := Aside0.mk (Kd.R_elder' (by (with_reducible repeat (first | apply Kd.R_alloc | apply Kd.R_drewN | apply Kd.R_drew)); exact HO_280002.out) (Kd.R_base ho1) hb); have n6_ := Aside0.mk (Kd.R_lower (Kd.R_new' (Kd.R_new' (Kd.R_new' ho0 (Kd.R_lt (by (with_reducible repeat (first | apply Kd.R_alloc | apply Kd.R_drewN | apply Kd.R_drew)); exact HO_263001.out))) (Kd.R_lt (by (with_reducible repeat (first | apply Kd.R_alloc | apply Kd.R_drewN | apply Kd.R_drew)); exact HO_271001.out))) (Kd.R_lt (by (with_reducible repeat (first | apply Kd.R_alloc | apply Kd.R_drewN | apply Kd.R_drew)); exact HO_280001.out))) (below_size (by repeat (first | (with_reducible first | exact HB.out | apply below_alloc | apply pw_below_drewN | apply below_drew1 | refine below_set ?_ GE245.out | refine below_set ?_ GE262.out | refine below_set ?_ GE270.out | refine below_set ?_ GE279.out) | exact HB.out)))); have n7_ := Aside0.mk (Kd.R_lower (Kd.R_new' (Kd.R_new' (Kd.R_new' ho1 (Kd.R_lt (by (with_reducible repeat (first | apply Kd.R_alloc | apply Kd.R_drewN | apply Kd.R_drew)); exact HO_263002.out))) (Kd.R_lt (by (with_reducible repeat (first | apply Kd.R_alloc | apply Kd.R_drewN | apply Kd.R_drew)); exact HO_271002.out))) (Kd.R_lt (by (with_reducible repeat (first | apply Kd.R_alloc | apply Kd.R_drewN | apply Kd.R_drew)); exact HO_280002.out))) (below_size (by repeat (first | (with_reducible first | exact HB.out | apply below_alloc | apply pw_below_drewN | apply below_drew1 | refine below_set ?_ GE245.out | refine below_set ?_ GE262.out | refine below_set ?_ GE270.out | refine below_set ?_ GE279.out) | exact HB.out)))); have n8_ := Aside0.mk (blk_below (g := gb245) (o := .cells #[.int .i64 a0_0, .slice A0_1 l0_1.length c0_1, .slice A0_2 l0_2.length c0_2] 43 (0, 0)) (by (with_reducible repeat (first | refine blk_drewN ?_ _ | refine blk_drew ?_ | refine blk_alloc ?_ _)); exact BK245.out) hb); have n9_ := Aside0.mk (blk_below (g := gb262) (o := .cells #[.int .i64 t254, .slice Ao24 t255.length co24, .slice Ao25 t258.length co25] 27 (0, 0)) (by (with_reducible repeat (first | refine blk_drewN ?_ _ | refine blk_drew ?_ | refine blk_alloc ?_ _)); exact BK262.out) hb); have n10_ := Aside0.mk (blk_below (g := gb270) (o := .cells #[.int .i64 t263, .slice Ao32 t290.length co32, .slice Ao33 t291.length co33] 27 (0, 0)) (by (with_reducible repeat (first | refine blk_drewN ?_ _ | refine blk_drew ?_ | refine blk_alloc ?_ _)); exact BK270.out) hb); have n11_ := Aside0.mk (blk_below (g := gb279) (o := .cells #[.int .i64 t271, .slice Ao40 t272.length co40, .slice Ao41 t275.length co41] 27 (0, 0)) (by (with_reducible repeat (first | refine blk_drewN ?_ _ | refine blk_drew ?_ | refine blk_alloc ?_ _)); exact BK279.out) hb); have n12_ := Aside0.mk (below_step (by repeat (first | (with_reducible first | exact HB.out | apply below_alloc | apply pw_below_drewN | apply below_drew1 | refine below_set ?_ GE245.out | refine below_set ?_ GE262.out | refine below_set ?_ GE270.out | refine below_set ?_ GE279.out) | exact HB.out)) hb); clear HO_263001; clear HO_263002; clear HO_271001; clear HO_271002; clear HO_280001; clear HO_280002; clear BK245; clear BK262; clear BK270; clear BK279; clear HB; have HO_263001 := n0_; have HO_263002 := n1_; have HO_271001 := n2_; have HO_271002 := n3_; have HO_280001 := n4_; have HO_280002 := n5_; have HO300 := n6_; have HO303 := n7_; have BK245 := n8_; have BK262 := n9_; have BK270 := n10_; have BK279 := n11_; have HB := n12_; clear n0_ n1_ n2_ n3_ n4_ n5_ n6_ n7_ n8_ n9_ n10_ n11_ n12_; (try clear hb); (try clear hb2); (try clear hk); (try clear hi); (try clear ho0); (try clear ho1); obtain ⟨Ao114, co114, eo114⟩ := Kd.R_slice HO300.out; subst eo114; obtain ⟨Ao115, co115, eo115⟩ := Kd.R_slice HO303.out; subst eo115) | ((with_reducible refine gate_callee (f := 20) rfl ?_); refine goesL_ (some 81) rfl rfl Try.func20 (by kernel_rfl) rfl #[.agg #[.int .i64 t297, .slice Ao114 t298.length co114, .slice Ao115 t301.length co115], .int .i64 a1] rfl (by (try simp only [List.map_toArray, List.map_cons, List.map_nil]); first | done | rfl | (simp only [List.length_drop, List.length_take]; rfl)) ?_; (with_reducible refine (impl_Retire.calls t297 _ _ t298 _ _ t301 a1 t304 t305 t308 t311 _ ?side1 ?side2 ?side3 ?side4 A101.out).mono ?_); (case side1 => repeat (first | exact (Kd.R_reads' HO300.out).2.2 | (with_reducible refine Kd.C_alloc ?_ _) | (with_reducible refine Kd.C_drewN ?_ _) | (with_reducible refine Kd.C_drew ?_))); (case side2 => exact (Kd.R_reads' HO300.out).2.1); (case side3 => repeat (first | exact (Kd.R_reads' HO303.out).2.2 | (with_reducible refine Kd.C_alloc ?_ _) | (with_reducible refine Kd.C_drewN ?_ _) | (with_reducible refine Kd.C_drew ?_))); (case side4 => exact (Kd.R_reads' HO303.out).2.1); rintro e w116 ⟨v306, v309, rfl, ho0, ho1, hb⟩; refine ⟨_, rfl, ?_⟩; have n0_ := Aside0.mk (Kd.R_elder' (by (with_reducible repeat (first | apply Kd.R_alloc | apply Kd.R_drewN | apply Kd.R_drew)); exact HO_263001.out) (Kd.R_base ho0) hb); have n1_ := Aside0.mk (Kd.R_elder' (by (with_reducible repeat (first | apply Kd.R_alloc | apply Kd.R_drewN | apply Kd.R_drew)); exact HO_263002.out) (Kd.R_base ho1) hb); have n2_ := Aside0.mk (Kd.R_elder' (by (with_reducible repeat (first | apply Kd.R_alloc | apply Kd.R_drewN | apply Kd.R_drew)); exact HO_271001.out) (Kd.R_base ho0) hb); have n3_ := Aside0.mk (Kd.R_elder' (by (with_reducible repeat (first | apply Kd.R_alloc | apply Kd.R_drewN | apply Kd.R_drew)); exact HO_271002.out) (Kd.R_base ho1) hb); have n4_ := Aside0.mk (Kd.R_elder' (by (with_reducible repeat (first | apply Kd.R_alloc | apply Kd.R_drewN | apply Kd.R_drew)); exact HO_280001.out) (Kd.R_base ho0) hb); have n5_ := Aside0.mk (Kd.R_elder' (by (with_reducible repeat (first | apply Kd.R_alloc | apply Kd.R_drewN | apply Kd.R_drew)); exact HO_280002.out) (Kd.R_base ho1) hb); have n6_ := Aside0.mk (Kd.R_elder' (by (with_reducible repeat (first | apply Kd.R_alloc | apply Kd.R_drewN | apply Kd.R_drew)); exact HO300.out) (Kd.R_base ho0) hb); have n7_ := Aside0.mk (Kd.R_elder' (by (with_reducible repeat (first | apply Kd.R_alloc | apply Kd.R_drewN | apply Kd.R_drew)); exact HO303.out) (Kd.R_base ho1) hb); have n8_ := Aside0.mk (Kd.R_lower (Kd.R_new' (Kd.R_new' (Kd.R_new' (Kd.R_new' ho0 (Kd.R_lt (by (with_reducible repeat (first | apply Kd.R_alloc | apply Kd.R_drewN | apply Kd.R_drew)); exact HO_263001.out))) (Kd.R_lt (by (with_reducible repeat (first | apply Kd.R_alloc | apply Kd.R_drewN | apply Kd.R_drew)); exact HO_271001.out))) (Kd.R_lt (by (with_reducible repeat (first | apply Kd.R_alloc | apply Kd.R_drewN | apply Kd.R_drew)); exact HO_280001.out))) (Kd.R_lt (by (with_reducible repeat (first | apply Kd.R_alloc | apply Kd.R_drewN | apply Kd.R_drew)); exact HO300.out))) (below_size (by repeat (first | (with_reducible first | exact HB.out | apply below_alloc | apply pw_below_drewN | apply below_drew1 | refine below_set ?_ GE245.out | refine below_set ?_ GE262.out | refine below_set ?_ GE270.out | refine below_set ?_ GE279.out) | exact HB.out)))); have n9_ := Aside0.mk (Kd.R_lower (Kd.R_new' (Kd.R_new' (Kd.R_new' (Kd.R_new' ho1 (Kd.R_lt (by (with_reducible repeat (first | apply Kd.R_alloc | apply Kd.R_drewN | apply Kd.R_drew)); exact HO_263002.out))) (Kd.R_lt (by (with_reducible repeat (first | apply Kd.R_alloc | apply Kd.R_drewN | apply Kd.R_drew)); exact HO_271002.out))) (Kd.R_lt (by (with_reducible repeat (first | apply Kd.R_alloc | apply Kd.R_drewN | apply Kd.R_drew)); exact HO_280002.out))) (Kd.R_lt (by (with_reducible repeat (first | apply Kd.R_alloc | apply Kd.R_drewN | apply Kd.R_drew)); exact HO303.out))) (below_size (by repeat (first | (with_reducible first | exact HB.out | apply below_alloc | apply pw_below_drewN | apply below_drew1 | refine below_set ?_ GE245.out | refine below_set ?_ GE262.out | refine below_set ?_ GE270.out | refine below_set ?_ GE279.out) | exact HB.out)))); have n10_ := Aside0.mk (blk_below (g := gb245) (o := .cells #[.int .i64 a0_0, .slice A0_1 l0_1.length c0_1, .slice A0_2 l0_2.length c0_2] 43 (0, 0)) (by (with_reducible repeat (first | refine blk_drewN ?_ _ | refine blk_drew ?_ | refine blk_alloc ?_ _)); exact BK245.out) hb); have n11_ := Aside0.mk (blk_below (g := gb262) (o := .cells #[.int .i64 t254, .slice Ao24 t255.length co24, .slice Ao25 t258.length co25] 27 (0, 0)) (by (with_reducible repeat (first | refine blk_drewN ?_ _ | refine blk_drew ?_ | refine blk_alloc ?_ _)); exact BK262.out) hb); have n12_ := Aside0.mk (blk_below (g := gb270) (o := .cells #[.int .i64 t263, .slice Ao32 t290.length co32, .slice Ao33 t291.length co33] 27 (0, 0)) (by (with_reducible repeat (first | refine blk_drewN ?_ _ | refine blk_drew ?_ | refine blk_alloc ?_ _)); exact BK270.out) hb); have n13_ := Aside0.mk (blk_below (g := gb279) (o := .cells #[.int .i64 t271, .slice Ao40 t272.length co40, .slice Ao41 t275.length co41] 27 (0, 0)) (by (with_reducible repeat (first | refine blk_drewN ?_ _ | refine blk_drew ?_ | refine blk_alloc ?_ _)); exact BK279.out) hb); have n14_ := Aside0.mk (below_step (by repeat (first | (with_reducible first | exact HB.out | apply below_alloc | apply pw_below_drewN | apply below_drew1 | refine below_set ?_ GE245.out | refine below_set ?_ GE262.out | refine below_set ?_ GE270.out | refine below_set ?_ GE279.out) | exact HB.out)) hb); clear HO_263001; clear HO_263002; clear HO_271001; clear HO_271002; clear HO_280001; clear HO_280002; clear HO300; clear HO303; clear BK245; clear BK262; clear BK270; clear BK279; clear HB; have HO_263001 := n0_; have HO_263002 := n1_; have HO_271001 := n2_; have HO_271002 := n3_; have HO_280001 := n4_; have HO_280002 := n5_; have HO300 := n6_; have HO303 := n7_; have HO307 := n8_; have HO310 := n9_; have BK245 := n10_; have BK262 := n11_; have BK270 := n12_; have BK279 := n13_; have HB := n14_; clear n0_ n1_ n2_ n3_ n4_ n5_ n6_ n7_ n8_ n9_ n10_ n11_ n12_ n13_ n14_; (try clear hb); (try clear hb2); (try clear hk); (try clear hi); (try clear ho0); (try clear ho1)) | ((with_reducible refine gate_dst (N := 14) rfl ?_); refine box_event ?hg (N := 14) ?hd (cs := #[.int .i64 0, .slice none 0 0, .slice none 0 0]) (t := 27) ?hr ?_; (case hd => rfl); (case hg => rfl); (case hr => first | (go_simp; done) | (go_simp; rfl)); intro gb312 hg w117 hbox hb; have n0_ := Aside0.mk (Kd.R_below (by (with_reducible repeat (first | apply Kd.R_alloc | apply Kd.R_drewN | apply Kd.R_drew)); exact HO_263001.out) hb); have n1_ := Aside0.mk (Kd.R_below (by (with_reducible repeat (first | apply Kd.R_alloc | apply Kd.R_drewN | apply Kd.R_drew)); exact HO_263002.out) hb); have n2_ := Aside0.mk (Kd.R_below (by (with_reducible repeat (first | apply Kd.R_alloc | apply Kd.R_drewN | apply Kd.R_drew)); exact HO_271001.out) hb); have n3_ := Aside0.mk (Kd.R_below (by (with_reducible repeat (first | apply Kd.R_alloc | apply Kd.R_drewN | apply Kd.R_drew)); exact HO_271002.out) hb); have n4_ := Aside0.mk (Kd.R_below (by (with_reducible repeat (first | apply Kd.R_alloc | apply Kd.R_drewN | apply Kd.R_drew)); exact HO_280001.out) hb); have n5_ := Aside0.mk (Kd.R_below (by (with_reducible repeat (first | apply Kd.R_alloc | apply Kd.R_drewN | apply Kd.R_drew)); exact HO_280002.out) hb); have n6_ := Aside0.mk (Kd.R_below (by (with_reducible repeat (first | apply Kd.R_alloc | apply Kd.R_drewN | apply Kd.R_drew)); exact HO300.out) hb); have n7_ := Aside0.mk (Kd.R_below (by (with_reducible repeat (first | apply Kd.R_alloc | apply Kd.R_drewN | apply Kd.R_drew)); exact HO303.out) hb); have n8_ := Aside0.mk (Kd.R_below (by (with_reducible repeat (first | apply Kd.R_alloc | apply Kd.R_drewN | apply Kd.R_drew)); exact HO307.out) hb); have n9_ := Aside0.mk (Kd.R_below (by (with_reducible repeat (first | apply Kd.R_alloc | apply Kd.R_drewN | apply Kd.R_drew)); exact HO310.out) hb); have n10_ := Aside0.mk (blk_below (g := gb245) (o := .cells #[.int .i64 a0_0, .slice A0_1 l0_1.length c0_1, .slice A0_2 l0_2.length c0_2] 43 (0, 0)) (by (with_reducible repeat (first | refine blk_drewN ?_ _ | refine blk_drew ?_ | refine blk_alloc ?_ _)); exact BK245.out) hb); have n11_ := Aside0.mk (blk_below (g := gb262) (o := .cells #[.int .i64 t254, .slice Ao24 t255.length co24, .slice Ao25 t258.length co25] 27 (0, 0)) (by (with_reducible repeat (first | refine blk_drewN ?_ _ | refine blk_drew ?_ | refine blk_alloc ?_ _)); exact BK262.out) hb); have n12_ := Aside0.mk (blk_below (g := gb270) (o := .cells #[.int .i64 t263, .slice Ao32 t290.length co32, .slice Ao33 t291.length co33] 27 (0, 0)) (by (with_reducible repeat (first | refine blk_drewN ?_ _ | refine blk_drew ?_ | refine blk_alloc ?_ _)); exact BK270.out) hb); have n13_ := Aside0.mk (blk_below (g := gb279) (o := .cells #[.int .i64 t271, .slice Ao40 t272.length co40, .slice Ao41 t275.length co41] 27 (0, 0)) (by (with_reducible repeat (first | refine blk_drewN ?_ _ | refine blk_drew ?_ | refine blk_alloc ?_ _)); exact BK279.out) hb); have n14_ := Aside0.mk (below_step (by repeat (first | (with_reducible first | exact HB.out | apply below_alloc | apply pw_below_drewN | apply below_drew1 | refine below_set ?_ GE245.out | refine below_set ?_ GE262.out | refine below_set ?_ GE270.out | refine below_set ?_ GE279.out) | exact HB.out)) hb); have n15_ := Aside0.mk (hbox); have n16_ := Aside0.mk ((by rw [hg]; exact (below_size (by repeat (first | (with_reducible first | exact HB.out | apply below_alloc | apply pw_below_drewN | apply below_drew1 | refine below_set ?_ GE245.out | refine below_set ?_ GE262.out | refine below_set ?_ GE270.out | refine below_set ?_ GE279.out) | exact HB.out))) : w.heap.size ≤ gb312)); have n17_ := Aside0.mk ((by rw [hg]; exact (below_size (by repeat (first | (with_reducible first | exact HB.out | apply below_alloc | apply pw_below_drewN | apply below_drew1 | refine below_set ?_ GE245.out | refine below_set ?_ GE262.out | refine below_set ?_ GE270.out | refine below_set ?_ GE279.out) | exact HB.out))) : w.heap.size ≤ gb312)); have n18_ := Aside0.mk ((by rw [hg]; exact Nat.ne_of_lt (blk_lt (g := gb245) (o := .cells #[.int .i64 a0_0, .slice A0_1 l0_1.length c0_1, .slice A0_2 l0_2.length c0_2] 43 (0, 0)) (by (with_reducible repeat (first | refine blk_drewN ?_ _ | refine blk_drew ?_ | refine blk_alloc ?_ _)); exact BK245.out)) : gb245 ≠ gb312)); have n19_ := Aside0.mk ((by rw [hg]; exact Nat.ne_of_gt (blk_lt (g := gb245) (o := .cells #[.int .i64 a0_0, .slice A0_1 l0_1.length c0_1, .slice A0_2 l0_2.length c0_2] 43 (0, 0)) (by (with_reducible repeat (first | refine blk_drewN ?_ _ | refine blk_drew ?_ | refine blk_alloc ?_ _)); exact BK245.out)) : gb312 ≠ gb245)); have n20_ := Aside0.mk ((by rw [hg]; exact Nat.ne_of_lt (blk_lt (g := gb262) (o := .cells #[.int .i64 t254, .slice Ao24 t255.length co24, .slice Ao25 t258.length co25] 27 (0, 0)) (by (with_reducible repeat (first | refine blk_drewN ?_ _ | refine blk_drew ?_ | refine blk_alloc ?_ _)); exact BK262.out)) : gb262 ≠ gb312)); have n21_ := Aside0.mk ((by rw [hg]; exact Nat.ne_of_gt (blk_lt (g := gb262) (o := .cells #[.int .i64 t254, .slice Ao24 t255.length co24, .slice Ao25 t258.length co25] 27 (0, 0)) (by (with_reducible repeat (first | refine blk_drewN ?_ _ | refine blk_drew ?_ | refine blk_alloc ?_ _)); exact BK262.out)) : gb312 ≠ gb262)); have n22_ := Aside0.mk ((by rw [hg]; exact Nat.ne_of_lt (blk_lt (g := gb270) (o := .cells #[.int .i64 t263, .slice Ao32 t290.length co32, .slice Ao33 t291.length co33] 27 (0, 0)) (by (with_reducible repeat (first | refine blk_drewN ?_ _ | refine blk_drew ?_ | refine blk_alloc ?_ _)); exact BK270.out)) : gb270 ≠ gb312)); have n23_ := Aside0.mk ((by rw [hg]; exact Nat.ne_of_gt (blk_lt (g := gb270) (o := .cells #[.int .i64 t263, .slice Ao32 t290.length co32, .slice Ao33 t291.length co33] 27 (0, 0)) (by (with_reducible repeat (first | refine blk_drewN ?_ _ | refine blk_drew ?_ | refine blk_alloc ?_ _)); exact BK270.out)) : gb312 ≠ gb270)); have n24_ := Aside0.mk ((by rw [hg]; exact Nat.ne_of_lt (blk_lt (g := gb279) (o := .cells #[.int .i64 t271, .slice Ao40 t272.length co40, .slice Ao41 t275.length co41] 27 (0, 0)) (by (with_reducible repeat (first | refine blk_drewN ?_ _ | refine blk_drew ?_ | refine blk_alloc ?_ _)); exact BK279.out)) : gb279 ≠ gb312)); have n25_ := Aside0.mk ((by rw [hg]; exact Nat.ne_of_gt (blk_lt (g := gb279) (o := .cells #[.int .i64 t271, .slice Ao40 t272.length co40, .slice Ao41 t275.length co41] 27 (0, 0)) (by (with_reducible repeat (first | refine blk_drewN ?_ _ | refine blk_drew ?_ | refine blk_alloc ?_ _)); exact BK279.out)) : gb312 ≠ gb279)); clear HO_263001; clear HO_263002; clear HO_271001; clear HO_271002; clear HO_280001; clear HO_280002; clear HO300; clear HO303; clear HO307; clear HO310; clear BK245; clear BK262; clear BK270; clear BK279; clear HB; have HO_263001 := n0_; have HO_263002 := n1_; have HO_271001 := n2_; have HO_271002 := n3_; have HO_280001 := n4_; have HO_280002 := n5_; have HO300 := n6_; have HO303 := n7_; have HO307 := n8_; have HO310 := n9_; have BK245 := n10_; have BK262 := n11_; have BK270 := n12_; have BK279 := n13_; have HB := n14_; have BK312 := n15_; have GW312 := n16_; have GE312 := n17_; have NB245_312 := n18_; have NB312_245 := n19_; have NB262_312 := n20_; have NB312_262 := n21_; have NB270_312 := n22_; have NB312_270 := n23_; have NB279_312 := n24_; have NB312_279 := n25_; clear n0_ n1_ n2_ n3_ n4_ n5_ n6_ n7_ n8_ n9_ n10_ n11_ n12_ n13_ n14_ n15_ n16_ n17_ n18_ n19_ n20_ n21_ n22_ n23_ n24_ n25_; clear hb hbox hg; have hnb118 := NB312_245.out; have hnc118 := NB245_312.out; have hnb119 := NB312_262.out; have hnc119 := NB262_312.out; have hnb120 := NB312_270.out; have hnc120 := NB270_312.out; have hnb121 := NB312_279.out; have hnc121 := NB279_312.out; have hcz122_0 : w117.cell? ⟨gb312, 0, none⟩ = some (.int .i64 0) := (blk_cell BK312.out 0).trans rfl; have hcz122_1 : w117.cell? ⟨gb312, 1, none⟩ = some (.slice none 0 0) := (blk_cell BK312.out 1).trans rfl; have hcz122_2 : w117.cell? ⟨gb312, 2, none⟩ = some (.slice none 0 0) := (blk_cell BK312.out 2).trans rfl; have hfz122_0 := blk_frozen BK312.out 0; have hfz122_1 := blk_frozen BK312.out 1; have hfz122_2 := blk_frozen BK312.out 2; obtain ⟨Ao123, co123, eo123⟩ := Kd.R_slice HO307.out; subst eo123; obtain ⟨Ao124, co124, eo124⟩ := Kd.R_slice HO310.out; subst eo124))
                      (try simp only [Act.put, List.setIfInBounds_toArray, List.set_cons_zero, List.set_cons_succ])
                      go_cut [92] (fun v92 wc => ∃ (kq : Nat) (x92_101 : Bool), v92 = .bool x92_101 ∧ Aside0 (laws_FnExactRetire.j2 kq t293 x92_101 t271 t294 t295 = some r) ∧ Aside0 (kq ≤ kj64) ∧ Aside0 (Kd.R (Kd.int .i64) 3 wc w.heap.size (fun k_ => some k_ ≠ ((.slice Ao32 t290.length co32) : Value).ownBlock ∧ some k_ ≠ ((.slice Ao40 t272.length co40) : Value).ownBlock ∧ some k_ ≠ ((.slice Ao123 t305.length co123) : Value).ownBlock) (.slice Ao24 t255.length co24) t255) ∧ Aside0 (Kd.R k58 58 wc w.heap.size (fun k_ => some k_ ≠ ((.slice Ao33 t291.length co33) : Value).ownBlock ∧ some k_ ≠ ((.slice Ao41 t275.length co41) : Value).ownBlock ∧ some k_ ≠ ((.slice Ao124 t308.length co124) : Value).ownBlock) (.slice Ao25 t258.length co25) t258) ∧ Aside0 (Kd.R (Kd.int .i64) 3 wc w.heap.size (fun k_ => some k_ ≠ ((.slice Ao24 t255.length co24) : Value).ownBlock ∧ some k_ ≠ ((.slice Ao40 t272.length co40) : Value).ownBlock ∧ some k_ ≠ ((.slice Ao123 t305.length co123) : Value).ownBlock) (.slice Ao32 t290.length co32) t290) ∧ Aside0 (Kd.R k58 58 wc w.heap.size (fun k_ => some k_ ≠ ((.slice Ao25 t258.length co25) : Value).ownBlock ∧ some k_ ≠ ((.slice Ao41 t275.length co41) : Value).ownBlock ∧ some k_ ≠ ((.slice Ao124 t308.length co124) : Value).ownBlock) (.slice Ao33 t291.length co33) t291) ∧ Aside0 (Kd.R (Kd.int .i64) 3 wc w.heap.size (fun k_ => some k_ ≠ ((.slice Ao24 t255.length co24) : Value).ownBlock ∧ some k_ ≠ ((.slice Ao32 t290.length co32) : Value).ownBlock ∧ some k_ ≠ ((.slice Ao123 t305.length co123) : Value).ownBlock) (.slice Ao40 t272.length co40) t294) ∧ Aside0 (Kd.R k58 58 wc w.heap.size (fun k_ => some k_ ≠ ((.slice Ao25 t258.length co25) : Value).ownBlock ∧ some k_ ≠ ((.slice Ao33 t291.length co33) : Value).ownBlock ∧ some k_ ≠ ((.slice Ao124 t308.length co124) : Value).ownBlock) (.slice Ao41 t275.length co41) t295) ∧ Aside0 (Kd.R (Kd.int .i64) 3 wc w.heap.size (fun k_ => some k_ ≠ ((.slice Ao24 t255.length co24) : Value).ownBlock ∧ some k_ ≠ ((.slice Ao32 t290.length co32) : Value).ownBlock ∧ some k_ ≠ ((.slice Ao40 t272.length co40) : Value).ownBlock) (.slice Ao123 t305.length co123) t305) ∧ Aside0 (Kd.R k58 58 wc w.heap.size (fun k_ => some k_ ≠ ((.slice Ao25 t258.length co25) : Value).ownBlock ∧ some k_ ≠ ((.slice Ao33 t291.length co33) : Value).ownBlock ∧ some k_ ≠ ((.slice Ao41 t275.length co41) : Value).ownBlock) (.slice Ao124 t308.length co124) t308) ∧ Aside0 (wc.heap[gb245]? = some (.cells #[.int .i64 a0_0, (.slice A0_1 l0_1.length c0_1), (.slice A0_2 l0_2.length c0_2)] 43 (0, 0))) ∧ Aside0 (wc.heap[gb262]? = some (.cells #[.int .i64 t254, (.slice Ao24 t255.length co24), (.slice Ao25 t258.length co25)] 27 (0, 0))) ∧ Aside0 (wc.heap[gb270]? = some (.cells #[.int .i64 t263, (.slice Ao32 t290.length co32), (.slice Ao33 t291.length co33)] 27 (0, 0))) ∧ Aside0 (wc.heap[gb279]? = some (.cells #[.int .i64 t271, (.slice Ao40 t272.length co40), (.slice Ao41 t275.length co41)] 27 (0, 0))) ∧ Aside0 (wc.heap[gb312]? = some (.cells #[.int .i64 t304, (.slice Ao123 t305.length co123), (.slice Ao124 t308.length co124)] 27 (0, 0))) ∧ Aside0 (Below w.heap.size w wc))
                      case first =>
                        have H := HC102.out
                        clear HC102
                        replace H := Option.bind_eq_some_iff.mp H
                        obtain ⟨t313, A1250, H⟩ := H
                        replace H : (if t313 = true then (laws_FnExactRetire.j2 kj64 t293 (t311 != t261) t271 t294 t295) else (laws_FnExactRetire.j2 kj64 t293 true t271 t294 t295)) = some r := H
                        have A125 := Aside0.mk A1250
                        clear A1250
                        by_cases c126 : t313 = true
                        · subst c126
                          have H1 : (laws_FnExactRetire.j2 kj64 t293 (t311 != t261) t271 t294 t295) = some r := by rw [if_pos rfl] at H; exact H
                          clear H
                          have H := H1
                          clear H1
                          have H' := Aside0.mk H
                          clear H
                          have hnb127 := NB312_245.out
                          have hnc127 := NB245_312.out
                          have hnb128 := NB312_262.out
                          have hnc128 := NB262_312.out
                          have hnb129 := NB312_270.out
                          have hnc129 := NB270_312.out
                          have hnb130 := NB312_279.out
                          have hnc130 := NB279_312.out
                          have hcz131_0 : w117.cell? ⟨gb312, 0, none⟩ = some (.int .i64 0) := (blk_cell BK312.out 0).trans rfl
                          have hcz131_1 : w117.cell? ⟨gb312, 1, none⟩ = some (.slice none 0 0) := (blk_cell BK312.out 1).trans rfl
                          have hcz131_2 : w117.cell? ⟨gb312, 2, none⟩ = some (.slice none 0 0) := (blk_cell BK312.out 2).trans rfl
                          have hfz131_0 := blk_frozen BK312.out 0
                          have hfz131_1 := blk_frozen BK312.out 1
                          have hfz131_2 := blk_frozen BK312.out 2
                          have hnb132 := NB262_245.out
                          have hnc132 := NB245_262.out
                          have hnb133 := NB262_270.out
                          have hnc133 := NB270_262.out
                          have hnb134 := NB262_279.out
                          have hnc134 := NB279_262.out
                          have hcz135_0 : w117.cell? ⟨gb262, 0, none⟩ = some (.int .i64 t254) := (blk_cell BK262.out 0).trans rfl
                          have hcz135_1 : w117.cell? ⟨gb262, 1, none⟩ = some (.slice Ao24 t255.length co24) := (blk_cell BK262.out 1).trans rfl
                          have hcz135_2 : w117.cell? ⟨gb262, 2, none⟩ = some (.slice Ao25 t258.length co25) := (blk_cell BK262.out 2).trans rfl
                          have hfz135_0 := blk_frozen BK262.out 0
                          have hfz135_1 := blk_frozen BK262.out 1
                          have hfz135_2 := blk_frozen BK262.out 2
                          go_wp2_with (first | ((with_reducible refine gate_callee (f := 25) rfl ?_); refine goesL_ (some 86) rfl rfl Try.func25 (by kernel_rfl) rfl #[.agg #[.int .i64 t304, .slice Ao123 t305.length co123, .slice Ao124 t308.length co124], .agg #[.int .i64 t254, .slice Ao24 t255.length co24, .slice Ao25 t258.length co25]] rfl (by (try simp only [List.map_toArray, List.map_cons, List.map_nil]); first | done | rfl | (simp only [List.length_drop, List.length_take]; rfl)) ?_; (with_reducible refine (laws_eqEpochs.calls kj64 t304 _ _ t305 _ _ t308 t254 _ _ t255 _ _ t258 true _ ?side1 ?side2 ?side3 ?side4 ?side5 ?side6 ?side7 ?side8 A125.out).mono ?_); (case side1 => refine (Kd.R_reads' (e := 3) (base := w.heap.size) (ok := fun k_ => ((((True ∧ some k_ ≠ (.slice Ao24 t255.length co24 : Value).ownBlock) ∧ some k_ ≠ (.slice Ao32 t290.length co32 : Value).ownBlock) ∧ some k_ ≠ (.slice Ao40 t272.length co40 : Value).ownBlock) ∧ some k_ ≠ (.slice Ao114 t298.length co114 : Value).ownBlock)) (n := t305.length) (c := co123) ?_).2.2; exact (by (with_reducible repeat (first | apply Kd.R_alloc | apply Kd.R_drewN | apply Kd.R_drew)); exact (Kd.R_mono (Kd.R_far (p := ⟨gb312, 2, none⟩) (Kd.R_far (p := ⟨gb312, 1, none⟩) (Kd.R_far (p := ⟨gb312, 0, none⟩) (Kd.R_types HO307.out BK312.out (by decide)) (fun _ hk => hk.2) (.int .i64 t304)) (fun _ hk => hk.2) (.slice Ao123 t305.length co123)) (fun _ hk => hk.2) (.slice Ao124 t308.length co124)) (fun _ h_ => h_.1)))); (case side2 => exact (Kd.R_reads' HO307.out).2.1); (case side3 => refine (Kd.R_reads' (e := 58) (base := w.heap.size) (ok := fun k_ => ((((True ∧ some k_ ≠ (.slice Ao25 t258.length co25 : Value).ownBlock) ∧ some k_ ≠ (.slice Ao33 t291.length co33 : Value).ownBlock) ∧ some k_ ≠ (.slice Ao41 t275.length co41 : Value).ownBlock) ∧ some k_ ≠ (.slice Ao115 t301.length co115 : Value).ownBlock)) (n := t308.length) (c := co124) ?_).2.2; exact (by (with_reducible repeat (first | apply Kd.R_alloc | apply Kd.R_drewN | apply Kd.R_drew)); exact (Kd.R_mono (Kd.R_far (p := ⟨gb312, 2, none⟩) (Kd.R_far (p := ⟨gb312, 1, none⟩) (Kd.R_far (p := ⟨gb312, 0, none⟩) (Kd.R_types HO310.out BK312.out (by decide)) (fun _ hk => hk.2) (.int .i64 t304)) (fun _ hk => hk.2) (.slice Ao123 t305.length co123)) (fun _ hk => hk.2) (.slice Ao124 t308.length co124)) (fun _ h_ => h_.1)))); (case side4 => exact (Kd.R_reads' HO310.out).2.1); (case side5 => refine (Kd.R_reads' (e := 3) (base := w.heap.size) (ok := fun k_ => (((some k_ ≠ (.slice Ao32 t290.length co32 : Value).ownBlock ∧ some k_ ≠ (.slice Ao40 t272.length co40 : Value).ownBlock) ∧ some k_ ≠ (.slice Ao114 t298.length co114 : Value).ownBlock) ∧ some k_ ≠ (.slice Ao123 t305.length co123 : Value).ownBlock)) (n := t255.length) (c := co24) ?_).2.2; exact (by (with_reducible repeat (first | apply Kd.R_alloc | apply Kd.R_drewN | apply Kd.R_drew)); exact (Kd.R_mono (Kd.R_far (p := ⟨gb312, 2, none⟩) (Kd.R_far (p := ⟨gb312, 1, none⟩) (Kd.R_far (p := ⟨gb312, 0, none⟩) (Kd.R_types HO_263001.out BK312.out (by decide)) (fun _ hk => hk.2) (.int .i64 t304)) (fun _ hk => hk.2) (.slice Ao123 t305.length co123)) (fun _ hk => hk.2) (.slice Ao124 t308.length co124)) (fun _ h_ => h_.1)))); (case side6 => exact (Kd.R_reads' HO_263001.out).2.1); (case side7 => refine (Kd.R_reads' (e := 58) (base := w.heap.size) (ok := fun k_ => (((some k_ ≠ (.slice Ao33 t291.length co33 : Value).ownBlock ∧ some k_ ≠ (.slice Ao41 t275.length co41 : Value).ownBlock) ∧ some k_ ≠ (.slice Ao115 t301.length co115 : Value).ownBlock) ∧ some k_ ≠ (.slice Ao124 t308.length co124 : Value).ownBlock)) (n := t258.length) (c := co25) ?_).2.2; exact (by (with_reducible repeat (first | apply Kd.R_alloc | apply Kd.R_drewN | apply Kd.R_drew)); exact (Kd.R_mono (Kd.R_far (p := ⟨gb312, 2, none⟩) (Kd.R_far (p := ⟨gb312, 1, none⟩) (Kd.R_far (p := ⟨gb312, 0, none⟩) (Kd.R_types HO_263002.out BK312.out (by decide)) (fun _ hk => hk.2) (.int .i64 t304)) (fun _ hk => hk.2) (.slice Ao123 t305.length co123)) (fun _ hk => hk.2) (.slice Ao124 t308.length co124)) (fun _ h_ => h_.1)))); (case side8 => exact (Kd.R_reads' HO_263002.out).2.1); rintro e w136 ⟨rfl, hb⟩; refine ⟨_, rfl, ?_⟩; have n0_ := Aside0.mk (Kd.R_below (by (with_reducible repeat (first | apply Kd.R_alloc | apply Kd.R_drewN | apply Kd.R_drew)); exact (Kd.R_mono (Kd.R_far (p := ⟨gb312, 2, none⟩) (Kd.R_far (p := ⟨gb312, 1, none⟩) (Kd.R_far (p := ⟨gb312, 0, none⟩) (Kd.R_types HO_263001.out BK312.out (by decide)) (fun _ hk => hk.2) (.int .i64 t304)) (fun _ hk => hk.2) (.slice Ao123 t305.length co123)) (fun _ hk => hk.2) (.slice Ao124 t308.length co124)) (fun _ h_ => h_.1))) hb); have n1_ := Aside0.mk (Kd.R_below (by (with_reducible repeat (first | apply Kd.R_alloc | apply Kd.R_drewN | apply Kd.R_drew)); exact (Kd.R_mono (Kd.R_far (p := ⟨gb312, 2, none⟩) (Kd.R_far (p := ⟨gb312, 1, none⟩) (Kd.R_far (p := ⟨gb312, 0, none⟩) (Kd.R_types HO_263002.out BK312.out (by decide)) (fun _ hk => hk.2) (.int .i64 t304)) (fun _ hk => hk.2) (.slice Ao123 t305.length co123)) (fun _ hk => hk.2) (.slice Ao124 t308.length co124)) (fun _ h_ => h_.1))) hb); have n2_ := Aside0.mk (Kd.R_below (by (with_reducible repeat (first | apply Kd.R_alloc | apply Kd.R_drewN | apply Kd.R_drew)); exact (Kd.R_mono (Kd.R_far (p := ⟨gb312, 2, none⟩) (Kd.R_far (p := ⟨gb312, 1, none⟩) (Kd.R_far (p := ⟨gb312, 0, none⟩) (Kd.R_types HO_271001.out BK312.out (by decide)) (fun _ hk => hk.2) (.int .i64 t304)) (fun _ hk => hk.2) (.slice Ao123 t305.length co123)) (fun _ hk => hk.2) (.slice Ao124 t308.length co124)) (fun _ h_ => h_.1))) hb); have n3_ := Aside0.mk (Kd.R_below (by (with_reducible repeat (first | apply Kd.R_alloc | apply Kd.R_drewN | apply Kd.R_drew)); exact (Kd.R_mono (Kd.R_far (p := ⟨gb312, 2, none⟩) (Kd.R_far (p := ⟨gb312, 1, none⟩) (Kd.R_far (p := ⟨gb312, 0, none⟩) (Kd.R_types HO_271002.out BK312.out (by decide)) (fun _ hk => hk.2) (.int .i64 t304)) (fun _ hk => hk.2) (.slice Ao123 t305.length co123)) (fun _ hk => hk.2) (.slice Ao124 t308.length co124)) (fun _ h_ => h_.1))) hb); have n4_ := Aside0.mk (Kd.R_below (by (with_reducible repeat (first | apply Kd.R_alloc | apply Kd.R_drewN | apply Kd.R_drew)); exact (Kd.R_mono (Kd.R_far (p := ⟨gb312, 2, none⟩) (Kd.R_far (p := ⟨gb312, 1, none⟩) (Kd.R_far (p := ⟨gb312, 0, none⟩) (Kd.R_types HO_280001.out BK312.out (by decide)) (fun _ hk => hk.2) (.int .i64 t304)) (fun _ hk => hk.2) (.slice Ao123 t305.length co123)) (fun _ hk => hk.2) (.slice Ao124 t308.length co124)) (fun _ h_ => h_.1))) hb); have n5_ := Aside0.mk (Kd.R_below (by (with_reducible repeat (first | apply Kd.R_alloc | apply Kd.R_drewN | apply Kd.R_drew)); exact (Kd.R_mono (Kd.R_far (p := ⟨gb312, 2, none⟩) (Kd.R_far (p := ⟨gb312, 1, none⟩) (Kd.R_far (p := ⟨gb312, 0, none⟩) (Kd.R_types HO_280002.out BK312.out (by decide)) (fun _ hk => hk.2) (.int .i64 t304)) (fun _ hk => hk.2) (.slice Ao123 t305.length co123)) (fun _ hk => hk.2) (.slice Ao124 t308.length co124)) (fun _ h_ => h_.1))) hb); have n6_ := Aside0.mk (Kd.R_below (by (with_reducible repeat (first | apply Kd.R_alloc | apply Kd.R_drewN | apply Kd.R_drew)); exact (Kd.R_mono (Kd.R_far (p := ⟨gb312, 2, none⟩) (Kd.R_far (p := ⟨gb312, 1, none⟩) (Kd.R_far (p := ⟨gb312, 0, none⟩) (Kd.R_types HO300.out BK312.out (by decide)) (fun _ hk => hk.2) (.int .i64 t304)) (fun _ hk => hk.2) (.slice Ao123 t305.length co123)) (fun _ hk => hk.2) (.slice Ao124 t308.length co124)) (fun _ h_ => h_.1))) hb); have n7_ := Aside0.mk (Kd.R_below (by (with_reducible repeat (first | apply Kd.R_alloc | apply Kd.R_drewN | apply Kd.R_drew)); exact (Kd.R_mono (Kd.R_far (p := ⟨gb312, 2, none⟩) (Kd.R_far (p := ⟨gb312, 1, none⟩) (Kd.R_far (p := ⟨gb312, 0, none⟩) (Kd.R_types HO303.out BK312.out (by decide)) (fun _ hk => hk.2) (.int .i64 t304)) (fun _ hk => hk.2) (.slice Ao123 t305.length co123)) (fun _ hk => hk.2) (.slice Ao124 t308.length co124)) (fun _ h_ => h_.1))) hb); have n8_ := Aside0.mk (Kd.R_below (by (with_reducible repeat (first | apply Kd.R_alloc | apply Kd.R_drewN | apply Kd.R_drew)); exact (Kd.R_mono (Kd.R_far (p := ⟨gb312, 2, none⟩) (Kd.R_far (p := ⟨gb312, 1, none⟩) (Kd.R_far (p := ⟨gb312, 0, none⟩) (Kd.R_types HO307.out BK312.out (by decide)) (fun _ hk => hk.2) (.int .i64 t304)) (fun _ hk => hk.2) (.slice Ao123 t305.length co123)) (fun _ hk => hk.2) (.slice Ao124 t308.length co124)) (fun _ h_ => h_.1))) hb); have n9_ := Aside0.mk (Kd.R_below (by (with_reducible repeat (first | apply Kd.R_alloc | apply Kd.R_drewN | apply Kd.R_drew)); exact (Kd.R_mono (Kd.R_far (p := ⟨gb312, 2, none⟩) (Kd.R_far (p := ⟨gb312, 1, none⟩) (Kd.R_far (p := ⟨gb312, 0, none⟩) (Kd.R_types HO310.out BK312.out (by decide)) (fun _ hk => hk.2) (.int .i64 t304)) (fun _ hk => hk.2) (.slice Ao123 t305.length co123)) (fun _ hk => hk.2) (.slice Ao124 t308.length co124)) (fun _ h_ => h_.1))) hb); have n10_ := Aside0.mk (blk_below (g := gb245) (o := .cells #[.int .i64 a0_0, .slice A0_1 l0_1.length c0_1, .slice A0_2 l0_2.length c0_2] 43 (0, 0)) (by (with_reducible repeat (first | refine blk_drewN ?_ _ | refine blk_drew ?_ | refine blk_alloc ?_ _)); refine blk_far ?_ NB245_312.out _; (with_reducible repeat (first | refine blk_drewN ?_ _ | refine blk_drew ?_ | refine blk_alloc ?_ _)); refine blk_far ?_ NB245_312.out _; (with_reducible repeat (first | refine blk_drewN ?_ _ | refine blk_drew ?_ | refine blk_alloc ?_ _)); refine blk_far ?_ NB245_312.out _; (with_reducible repeat (first | refine blk_drewN ?_ _ | refine blk_drew ?_ | refine blk_alloc ?_ _)); exact BK245.out) hb); have n11_ := Aside0.mk (blk_below (g := gb262) (o := .cells #[.int .i64 t254, .slice Ao24 t255.length co24, .slice Ao25 t258.length co25] 27 (0, 0)) (by (with_reducible repeat (first | refine blk_drewN ?_ _ | refine blk_drew ?_ | refine blk_alloc ?_ _)); refine blk_far ?_ NB262_312.out _; (with_reducible repeat (first | refine blk_drewN ?_ _ | refine blk_drew ?_ | refine blk_alloc ?_ _)); refine blk_far ?_ NB262_312.out _; (with_reducible repeat (first | refine blk_drewN ?_ _ | refine blk_drew ?_ | refine blk_alloc ?_ _)); refine blk_far ?_ NB262_312.out _; (with_reducible repeat (first | refine blk_drewN ?_ _ | refine blk_drew ?_ | refine blk_alloc ?_ _)); exact BK262.out) hb); have n12_ := Aside0.mk (blk_below (g := gb270) (o := .cells #[.int .i64 t263, .slice Ao32 t290.length co32, .slice Ao33 t291.length co33] 27 (0, 0)) (by (with_reducible repeat (first | refine blk_drewN ?_ _ | refine blk_drew ?_ | refine blk_alloc ?_ _)); refine blk_far ?_ NB270_312.out _; (with_reducible repeat (first | refine blk_drewN ?_ _ | refine blk_drew ?_ | refine blk_alloc ?_ _)); refine blk_far ?_ NB270_312.out _; (with_reducible repeat (first | refine blk_drewN ?_ _ | refine blk_drew ?_ | refine blk_alloc ?_ _)); refine blk_far ?_ NB270_312.out _; (with_reducible repeat (first | refine blk_drewN ?_ _ | refine blk_drew ?_ | refine blk_alloc ?_ _)); exact BK270.out) hb); have n13_ := Aside0.mk (blk_below (g := gb279) (o := .cells #[.int .i64 t271, .slice Ao40 t272.length co40, .slice Ao41 t275.length co41] 27 (0, 0)) (by (with_reducible repeat (first | refine blk_drewN ?_ _ | refine blk_drew ?_ | refine blk_alloc ?_ _)); refine blk_far ?_ NB279_312.out _; (with_reducible repeat (first | refine blk_drewN ?_ _ | refine blk_drew ?_ | refine blk_alloc ?_ _)); refine blk_far ?_ NB279_312.out _; (with_reducible repeat (first | refine blk_drewN ?_ _ | refine blk_drew ?_ | refine blk_alloc ?_ _)); refine blk_far ?_ NB279_312.out _; (with_reducible repeat (first | refine blk_drewN ?_ _ | refine blk_drew ?_ | refine blk_alloc ?_ _)); exact BK279.out) hb); have n14_ := Aside0.mk (blk_below (g := gb312) (o := .cells #[.int .i64 t304, .slice Ao123 t305.length co123, .slice Ao124 t308.length co124] 27 (0, 0)) (by (with_reducible repeat (first | refine blk_drewN ?_ _ | refine blk_drew ?_ | refine blk_alloc ?_ _)); refine blk_put (cs := #[.int .i64 t304, .slice Ao123 t305.length co123, .slice none 0 0]) ?_ 2 _ rfl; (with_reducible repeat (first | refine blk_drewN ?_ _ | refine blk_drew ?_ | refine blk_alloc ?_ _)); refine blk_put (cs := #[.int .i64 t304, .slice none 0 0, .slice none 0 0]) ?_ 1 _ rfl; (with_reducible repeat (first | refine blk_drewN ?_ _ | refine blk_drew ?_ | refine blk_alloc ?_ _)); refine blk_put (cs := #[.int .i64 0, .slice none 0 0, .slice none 0 0]) ?_ 0 _ rfl; (with_reducible repeat (first | refine blk_drewN ?_ _ | refine blk_drew ?_ | refine blk_alloc ?_ _)); exact BK312.out) hb); have n15_ := Aside0.mk (below_step (by repeat (first | (with_reducible first | exact HB.out | apply below_alloc | apply pw_below_drewN | apply below_drew1 | refine below_set ?_ GE245.out | refine below_set ?_ GE262.out | refine below_set ?_ GE270.out | refine below_set ?_ GE279.out | refine below_set ?_ GE312.out) | exact HB.out)) hb); clear HO_263001; clear HO_263002; clear HO_271001; clear HO_271002; clear HO_280001; clear HO_280002; clear HO300; clear HO303; clear HO307; clear HO310; clear BK245; clear BK262; clear BK270; clear BK279; clear BK312; clear HB; have HO_263001 := n0_; have HO_263002 := n1_; have HO_271001 := n2_; have HO_271002 := n3_; have HO_280001 := n4_; have HO_280002 := n5_; have HO300 := n6_; have HO303 := n7_; have HO307 := n8_; have HO310 := n9_; have BK245 := n10_; have BK262 := n11_; have BK270 := n12_; have BK279 := n13_; have BK312 := n14_; have HB := n15_; clear n0_ n1_ n2_ n3_ n4_ n5_ n6_ n7_ n8_ n9_ n10_ n11_ n12_ n13_ n14_ n15_; (try clear hb); (try clear hb2); (try clear hk); (try clear hi)))
                          go_meet
                          case rel => exact ⟨_, ((t311 != t261)), (by first | rfl | (simp; done) | (simp [*]; done)), H', ⟨by have := HJ11.out; have := HJ64.out; first | omega | exact Nat.le_refl _⟩, ⟨by (try simp only [hl271001_64]); (try simp only [hl271002_64]); (with_reducible repeat (first | apply Kd.R_alloc | apply Kd.R_drewN | apply Kd.R_drew)); exact Kd.R_mono HO_263001.out (fun _ hk => ⟨hk.1.1.1, ⟨hk.1.1.2, hk.2⟩⟩)⟩, ⟨by (try simp only [hl271001_64]); (try simp only [hl271002_64]); (with_reducible repeat (first | apply Kd.R_alloc | apply Kd.R_drewN | apply Kd.R_drew)); exact Kd.R_mono HO_263002.out (fun _ hk => ⟨hk.1.1.1, ⟨hk.1.1.2, hk.2⟩⟩)⟩, ⟨by (try simp only [hl271001_64]); (try simp only [hl271002_64]); (with_reducible repeat (first | apply Kd.R_alloc | apply Kd.R_drewN | apply Kd.R_drew)); exact Kd.R_mono HO_271001.out (fun _ hk => ⟨hk.1.1.1, ⟨hk.1.1.2, hk.2⟩⟩)⟩, ⟨by (try simp only [hl271001_64]); (try simp only [hl271002_64]); (with_reducible repeat (first | apply Kd.R_alloc | apply Kd.R_drewN | apply Kd.R_drew)); exact Kd.R_mono HO_271002.out (fun _ hk => ⟨hk.1.1.1, ⟨hk.1.1.2, hk.2⟩⟩)⟩, ⟨by (try simp only [hl271001_64]); (try simp only [hl271002_64]); (with_reducible repeat (first | apply Kd.R_alloc | apply Kd.R_drewN | apply Kd.R_drew)); exact Kd.R_mono HO_280001.out (fun _ hk => ⟨hk.1.1.1, ⟨hk.1.1.2, hk.2⟩⟩)⟩, ⟨by (try simp only [hl271001_64]); (try simp only [hl271002_64]); (with_reducible repeat (first | apply Kd.R_alloc | apply Kd.R_drewN | apply Kd.R_drew)); exact Kd.R_mono HO_280002.out (fun _ hk => ⟨hk.1.1.1, ⟨hk.1.1.2, hk.2⟩⟩)⟩, ⟨by (try simp only [hl271001_64]); (try simp only [hl271002_64]); (with_reducible repeat (first | apply Kd.R_alloc | apply Kd.R_drewN | apply Kd.R_drew)); exact Kd.R_mono HO307.out (fun _ hk => ⟨hk.1.1.1.2, ⟨hk.1.1.2, hk.1.2⟩⟩)⟩, ⟨by (try simp only [hl271001_64]); (try simp only [hl271002_64]); (with_reducible repeat (first | apply Kd.R_alloc | apply Kd.R_drewN | apply Kd.R_drew)); exact Kd.R_mono HO310.out (fun _ hk => ⟨hk.1.1.1.2, ⟨hk.1.1.2, hk.1.2⟩⟩)⟩, ⟨by (try simp only [hl271001_64]); (try simp only [hl271002_64]); (with_reducible repeat (first | refine blk_drewN ?_ _ | refine blk_drew ?_ | refine blk_alloc ?_ _)); exact BK245.out⟩, ⟨by (try simp only [hl271001_64]); (try simp only [hl271002_64]); (with_reducible repeat (first | refine blk_drewN ?_ _ | refine blk_drew ?_ | refine blk_alloc ?_ _)); exact BK262.out⟩, ⟨by (try simp only [hl271001_64]); (try simp only [hl271002_64]); (with_reducible repeat (first | refine blk_drewN ?_ _ | refine blk_drew ?_ | refine blk_alloc ?_ _)); exact BK270.out⟩, ⟨by (try simp only [hl271001_64]); (try simp only [hl271002_64]); (with_reducible repeat (first | refine blk_drewN ?_ _ | refine blk_drew ?_ | refine blk_alloc ?_ _)); exact BK279.out⟩, ⟨by (try simp only [hl271001_64]); (try simp only [hl271002_64]); (with_reducible repeat (first | refine blk_drewN ?_ _ | refine blk_drew ?_ | refine blk_alloc ?_ _)); exact BK312.out⟩, ⟨by repeat (first | (with_reducible first | exact HB.out | apply below_alloc | apply pw_below_drewN | apply below_drew1 | refine below_set ?_ GE245.out | refine below_set ?_ GE262.out | refine below_set ?_ GE270.out | refine below_set ?_ GE279.out | refine below_set ?_ GE312.out) | exact HB.out)⟩⟩
                        · replace c126 := Bool.eq_false_iff.mpr c126
                          subst c126
                          have H1 : (laws_FnExactRetire.j2 kj64 t293 true t271 t294 t295) = some r := by rw [if_neg (show ¬ (false = true) by decide)] at H; exact H
                          clear H
                          have H := H1
                          clear H1
                          have H' := Aside0.mk H
                          clear H
                          have hnb137 := NB312_245.out
                          have hnc137 := NB245_312.out
                          have hnb138 := NB312_262.out
                          have hnc138 := NB262_312.out
                          have hnb139 := NB312_270.out
                          have hnc139 := NB270_312.out
                          have hnb140 := NB312_279.out
                          have hnc140 := NB279_312.out
                          have hcz141_0 : w117.cell? ⟨gb312, 0, none⟩ = some (.int .i64 0) := (blk_cell BK312.out 0).trans rfl
                          have hcz141_1 : w117.cell? ⟨gb312, 1, none⟩ = some (.slice none 0 0) := (blk_cell BK312.out 1).trans rfl
                          have hcz141_2 : w117.cell? ⟨gb312, 2, none⟩ = some (.slice none 0 0) := (blk_cell BK312.out 2).trans rfl
                          have hfz141_0 := blk_frozen BK312.out 0
                          have hfz141_1 := blk_frozen BK312.out 1
                          have hfz141_2 := blk_frozen BK312.out 2
                          have hnb142 := NB262_245.out
                          have hnc142 := NB245_262.out
                          have hnb143 := NB262_270.out
                          have hnc143 := NB270_262.out
                          have hnb144 := NB262_279.out
                          have hnc144 := NB279_262.out
                          have hcz145_0 : w117.cell? ⟨gb262, 0, none⟩ = some (.int .i64 t254) := (blk_cell BK262.out 0).trans rfl
                          have hcz145_1 : w117.cell? ⟨gb262, 1, none⟩ = some (.slice Ao24 t255.length co24) := (blk_cell BK262.out 1).trans rfl
                          have hcz145_2 : w117.cell? ⟨gb262, 2, none⟩ = some (.slice Ao25 t258.length co25) := (blk_cell BK262.out 2).trans rfl
                          have hfz145_0 := blk_frozen BK262.out 0
                          have hfz145_1 := blk_frozen BK262.out 1
                          have hfz145_2 := blk_frozen BK262.out 2
                          go_wp2_with (first | ((with_reducible refine gate_callee (f := 25) rfl ?_); refine goesL_ (some 86) rfl rfl Try.func25 (by kernel_rfl) rfl #[.agg #[.int .i64 t304, .slice Ao123 t305.length co123, .slice Ao124 t308.length co124], .agg #[.int .i64 t254, .slice Ao24 t255.length co24, .slice Ao25 t258.length co25]] rfl (by (try simp only [List.map_toArray, List.map_cons, List.map_nil]); first | done | rfl | (simp only [List.length_drop, List.length_take]; rfl)) ?_; (with_reducible refine (laws_eqEpochs.calls kj64 t304 _ _ t305 _ _ t308 t254 _ _ t255 _ _ t258 false _ ?side1 ?side2 ?side3 ?side4 ?side5 ?side6 ?side7 ?side8 A125.out).mono ?_); (case side1 => refine (Kd.R_reads' (e := 3) (base := w.heap.size) (ok := fun k_ => ((((True ∧ some k_ ≠ (.slice Ao24 t255.length co24 : Value).ownBlock) ∧ some k_ ≠ (.slice Ao32 t290.length co32 : Value).ownBlock) ∧ some k_ ≠ (.slice Ao40 t272.length co40 : Value).ownBlock) ∧ some k_ ≠ (.slice Ao114 t298.length co114 : Value).ownBlock)) (n := t305.length) (c := co123) ?_).2.2; exact (by (with_reducible repeat (first | apply Kd.R_alloc | apply Kd.R_drewN | apply Kd.R_drew)); exact (Kd.R_mono (Kd.R_far (p := ⟨gb312, 2, none⟩) (Kd.R_far (p := ⟨gb312, 1, none⟩) (Kd.R_far (p := ⟨gb312, 0, none⟩) (Kd.R_types HO307.out BK312.out (by decide)) (fun _ hk => hk.2) (.int .i64 t304)) (fun _ hk => hk.2) (.slice Ao123 t305.length co123)) (fun _ hk => hk.2) (.slice Ao124 t308.length co124)) (fun _ h_ => h_.1)))); (case side2 => exact (Kd.R_reads' HO307.out).2.1); (case side3 => refine (Kd.R_reads' (e := 58) (base := w.heap.size) (ok := fun k_ => ((((True ∧ some k_ ≠ (.slice Ao25 t258.length co25 : Value).ownBlock) ∧ some k_ ≠ (.slice Ao33 t291.length co33 : Value).ownBlock) ∧ some k_ ≠ (.slice Ao41 t275.length co41 : Value).ownBlock) ∧ some k_ ≠ (.slice Ao115 t301.length co115 : Value).ownBlock)) (n := t308.length) (c := co124) ?_).2.2; exact (by (with_reducible repeat (first | apply Kd.R_alloc | apply Kd.R_drewN | apply Kd.R_drew)); exact (Kd.R_mono (Kd.R_far (p := ⟨gb312, 2, none⟩) (Kd.R_far (p := ⟨gb312, 1, none⟩) (Kd.R_far (p := ⟨gb312, 0, none⟩) (Kd.R_types HO310.out BK312.out (by decide)) (fun _ hk => hk.2) (.int .i64 t304)) (fun _ hk => hk.2) (.slice Ao123 t305.length co123)) (fun _ hk => hk.2) (.slice Ao124 t308.length co124)) (fun _ h_ => h_.1)))); (case side4 => exact (Kd.R_reads' HO310.out).2.1); (case side5 => refine (Kd.R_reads' (e := 3) (base := w.heap.size) (ok := fun k_ => (((some k_ ≠ (.slice Ao32 t290.length co32 : Value).ownBlock ∧ some k_ ≠ (.slice Ao40 t272.length co40 : Value).ownBlock) ∧ some k_ ≠ (.slice Ao114 t298.length co114 : Value).ownBlock) ∧ some k_ ≠ (.slice Ao123 t305.length co123 : Value).ownBlock)) (n := t255.length) (c := co24) ?_).2.2; exact (by (with_reducible repeat (first | apply Kd.R_alloc | apply Kd.R_drewN | apply Kd.R_drew)); exact (Kd.R_mono (Kd.R_far (p := ⟨gb312, 2, none⟩) (Kd.R_far (p := ⟨gb312, 1, none⟩) (Kd.R_far (p := ⟨gb312, 0, none⟩) (Kd.R_types HO_263001.out BK312.out (by decide)) (fun _ hk => hk.2) (.int .i64 t304)) (fun _ hk => hk.2) (.slice Ao123 t305.length co123)) (fun _ hk => hk.2) (.slice Ao124 t308.length co124)) (fun _ h_ => h_.1)))); (case side6 => exact (Kd.R_reads' HO_263001.out).2.1); (case side7 => refine (Kd.R_reads' (e := 58) (base := w.heap.size) (ok := fun k_ => (((some k_ ≠ (.slice Ao33 t291.length co33 : Value).ownBlock ∧ some k_ ≠ (.slice Ao41 t275.length co41 : Value).ownBlock) ∧ some k_ ≠ (.slice Ao115 t301.length co115 : Value).ownBlock) ∧ some k_ ≠ (.slice Ao124 t308.length co124 : Value).ownBlock)) (n := t258.length) (c := co25) ?_).2.2; exact (by (with_reducible repeat (first | apply Kd.R_alloc | apply Kd.R_drewN | apply Kd.R_drew)); exact (Kd.R_mono (Kd.R_far (p := ⟨gb312, 2, none⟩) (Kd.R_far (p := ⟨gb312, 1, none⟩) (Kd.R_far (p := ⟨gb312, 0, none⟩) (Kd.R_types HO_263002.out BK312.out (by decide)) (fun _ hk => hk.2) (.int .i64 t304)) (fun _ hk => hk.2) (.slice Ao123 t305.length co123)) (fun _ hk => hk.2) (.slice Ao124 t308.length co124)) (fun _ h_ => h_.1)))); (case side8 => exact (Kd.R_reads' HO_263002.out).2.1); rintro e w146 ⟨rfl, hb⟩; refine ⟨_, rfl, ?_⟩; have n0_ := Aside0.mk (Kd.R_below (by (with_reducible repeat (first | apply Kd.R_alloc | apply Kd.R_drewN | apply Kd.R_drew)); exact (Kd.R_mono (Kd.R_far (p := ⟨gb312, 2, none⟩) (Kd.R_far (p := ⟨gb312, 1, none⟩) (Kd.R_far (p := ⟨gb312, 0, none⟩) (Kd.R_types HO_263001.out BK312.out (by decide)) (fun _ hk => hk.2) (.int .i64 t304)) (fun _ hk => hk.2) (.slice Ao123 t305.length co123)) (fun _ hk => hk.2) (.slice Ao124 t308.length co124)) (fun _ h_ => h_.1))) hb); have n1_ := Aside0.mk (Kd.R_below (by (with_reducible repeat (first | apply Kd.R_alloc | apply Kd.R_drewN | apply Kd.R_drew)); exact (Kd.R_mono (Kd.R_far (p := ⟨gb312, 2, none⟩) (Kd.R_far (p := ⟨gb312, 1, none⟩) (Kd.R_far (p := ⟨gb312, 0, none⟩) (Kd.R_types HO_263002.out BK312.out (by decide)) (fun _ hk => hk.2) (.int .i64 t304)) (fun _ hk => hk.2) (.slice Ao123 t305.length co123)) (fun _ hk => hk.2) (.slice Ao124 t308.length co124)) (fun _ h_ => h_.1))) hb); have n2_ := Aside0.mk (Kd.R_below (by (with_reducible repeat (first | apply Kd.R_alloc | apply Kd.R_drewN | apply Kd.R_drew)); exact (Kd.R_mono (Kd.R_far (p := ⟨gb312, 2, none⟩) (Kd.R_far (p := ⟨gb312, 1, none⟩) (Kd.R_far (p := ⟨gb312, 0, none⟩) (Kd.R_types HO_271001.out BK312.out (by decide)) (fun _ hk => hk.2) (.int .i64 t304)) (fun _ hk => hk.2) (.slice Ao123 t305.length co123)) (fun _ hk => hk.2) (.slice Ao124 t308.length co124)) (fun _ h_ => h_.1))) hb); have n3_ := Aside0.mk (Kd.R_below (by (with_reducible repeat (first | apply Kd.R_alloc | apply Kd.R_drewN | apply Kd.R_drew)); exact (Kd.R_mono (Kd.R_far (p := ⟨gb312, 2, none⟩) (Kd.R_far (p := ⟨gb312, 1, none⟩) (Kd.R_far (p := ⟨gb312, 0, none⟩) (Kd.R_types HO_271002.out BK312.out (by decide)) (fun _ hk => hk.2) (.int .i64 t304)) (fun _ hk => hk.2) (.slice Ao123 t305.length co123)) (fun _ hk => hk.2) (.slice Ao124 t308.length co124)) (fun _ h_ => h_.1))) hb); have n4_ := Aside0.mk (Kd.R_below (by (with_reducible repeat (first | apply Kd.R_alloc | apply Kd.R_drewN | apply Kd.R_drew)); exact (Kd.R_mono (Kd.R_far (p := ⟨gb312, 2, none⟩) (Kd.R_far (p := ⟨gb312, 1, none⟩) (Kd.R_far (p := ⟨gb312, 0, none⟩) (Kd.R_types HO_280001.out BK312.out (by decide)) (fun _ hk => hk.2) (.int .i64 t304)) (fun _ hk => hk.2) (.slice Ao123 t305.length co123)) (fun _ hk => hk.2) (.slice Ao124 t308.length co124)) (fun _ h_ => h_.1))) hb); have n5_ := Aside0.mk (Kd.R_below (by (with_reducible repeat (first | apply Kd.R_alloc | apply Kd.R_drewN | apply Kd.R_drew)); exact (Kd.R_mono (Kd.R_far (p := ⟨gb312, 2, none⟩) (Kd.R_far (p := ⟨gb312, 1, none⟩) (Kd.R_far (p := ⟨gb312, 0, none⟩) (Kd.R_types HO_280002.out BK312.out (by decide)) (fun _ hk => hk.2) (.int .i64 t304)) (fun _ hk => hk.2) (.slice Ao123 t305.length co123)) (fun _ hk => hk.2) (.slice Ao124 t308.length co124)) (fun _ h_ => h_.1))) hb); have n6_ := Aside0.mk (Kd.R_below (by (with_reducible repeat (first | apply Kd.R_alloc | apply Kd.R_drewN | apply Kd.R_drew)); exact (Kd.R_mono (Kd.R_far (p := ⟨gb312, 2, none⟩) (Kd.R_far (p := ⟨gb312, 1, none⟩) (Kd.R_far (p := ⟨gb312, 0, none⟩) (Kd.R_types HO300.out BK312.out (by decide)) (fun _ hk => hk.2) (.int .i64 t304)) (fun _ hk => hk.2) (.slice Ao123 t305.length co123)) (fun _ hk => hk.2) (.slice Ao124 t308.length co124)) (fun _ h_ => h_.1))) hb); have n7_ := Aside0.mk (Kd.R_below (by (with_reducible repeat (first | apply Kd.R_alloc | apply Kd.R_drewN | apply Kd.R_drew)); exact (Kd.R_mono (Kd.R_far (p := ⟨gb312, 2, none⟩) (Kd.R_far (p := ⟨gb312, 1, none⟩) (Kd.R_far (p := ⟨gb312, 0, none⟩) (Kd.R_types HO303.out BK312.out (by decide)) (fun _ hk => hk.2) (.int .i64 t304)) (fun _ hk => hk.2) (.slice Ao123 t305.length co123)) (fun _ hk => hk.2) (.slice Ao124 t308.length co124)) (fun _ h_ => h_.1))) hb); have n8_ := Aside0.mk (Kd.R_below (by (with_reducible repeat (first | apply Kd.R_alloc | apply Kd.R_drewN | apply Kd.R_drew)); exact (Kd.R_mono (Kd.R_far (p := ⟨gb312, 2, none⟩) (Kd.R_far (p := ⟨gb312, 1, none⟩) (Kd.R_far (p := ⟨gb312, 0, none⟩) (Kd.R_types HO307.out BK312.out (by decide)) (fun _ hk => hk.2) (.int .i64 t304)) (fun _ hk => hk.2) (.slice Ao123 t305.length co123)) (fun _ hk => hk.2) (.slice Ao124 t308.length co124)) (fun _ h_ => h_.1))) hb); have n9_ := Aside0.mk (Kd.R_below (by (with_reducible repeat (first | apply Kd.R_alloc | apply Kd.R_drewN | apply Kd.R_drew)); exact (Kd.R_mono (Kd.R_far (p := ⟨gb312, 2, none⟩) (Kd.R_far (p := ⟨gb312, 1, none⟩) (Kd.R_far (p := ⟨gb312, 0, none⟩) (Kd.R_types HO310.out BK312.out (by decide)) (fun _ hk => hk.2) (.int .i64 t304)) (fun _ hk => hk.2) (.slice Ao123 t305.length co123)) (fun _ hk => hk.2) (.slice Ao124 t308.length co124)) (fun _ h_ => h_.1))) hb); have n10_ := Aside0.mk (blk_below (g := gb245) (o := .cells #[.int .i64 a0_0, .slice A0_1 l0_1.length c0_1, .slice A0_2 l0_2.length c0_2] 43 (0, 0)) (by (with_reducible repeat (first | refine blk_drewN ?_ _ | refine blk_drew ?_ | refine blk_alloc ?_ _)); refine blk_far ?_ NB245_312.out _; (with_reducible repeat (first | refine blk_drewN ?_ _ | refine blk_drew ?_ | refine blk_alloc ?_ _)); refine blk_far ?_ NB245_312.out _; (with_reducible repeat (first | refine blk_drewN ?_ _ | refine blk_drew ?_ | refine blk_alloc ?_ _)); refine blk_far ?_ NB245_312.out _; (with_reducible repeat (first | refine blk_drewN ?_ _ | refine blk_drew ?_ | refine blk_alloc ?_ _)); exact BK245.out) hb); have n11_ := Aside0.mk (blk_below (g := gb262) (o := .cells #[.int .i64 t254, .slice Ao24 t255.length co24, .slice Ao25 t258.length co25] 27 (0, 0)) (by (with_reducible repeat (first | refine blk_drewN ?_ _ | refine blk_drew ?_ | refine blk_alloc ?_ _)); refine blk_far ?_ NB262_312.out _; (with_reducible repeat (first | refine blk_drewN ?_ _ | refine blk_drew ?_ | refine blk_alloc ?_ _)); refine blk_far ?_ NB262_312.out _; (with_reducible repeat (first | refine blk_drewN ?_ _ | refine blk_drew ?_ | refine blk_alloc ?_ _)); refine blk_far ?_ NB262_312.out _; (with_reducible repeat (first | refine blk_drewN ?_ _ | refine blk_drew ?_ | refine blk_alloc ?_ _)); exact BK262.out) hb); have n12_ := Aside0.mk (blk_below (g := gb270) (o := .cells #[.int .i64 t263, .slice Ao32 t290.length co32, .slice Ao33 t291.length co33] 27 (0, 0)) (by (with_reducible repeat (first | refine blk_drewN ?_ _ | refine blk_drew ?_ | refine blk_alloc ?_ _)); refine blk_far ?_ NB270_312.out _; (with_reducible repeat (first | refine blk_drewN ?_ _ | refine blk_drew ?_ | refine blk_alloc ?_ _)); refine blk_far ?_ NB270_312.out _; (with_reducible repeat (first | refine blk_drewN ?_ _ | refine blk_drew ?_ | refine blk_alloc ?_ _)); refine blk_far ?_ NB270_312.out _; (with_reducible repeat (first | refine blk_drewN ?_ _ | refine blk_drew ?_ | refine blk_alloc ?_ _)); exact BK270.out) hb); have n13_ := Aside0.mk (blk_below (g := gb279) (o := .cells #[.int .i64 t271, .slice Ao40 t272.length co40, .slice Ao41 t275.length co41] 27 (0, 0)) (by (with_reducible repeat (first | refine blk_drewN ?_ _ | refine blk_drew ?_ | refine blk_alloc ?_ _)); refine blk_far ?_ NB279_312.out _; (with_reducible repeat (first | refine blk_drewN ?_ _ | refine blk_drew ?_ | refine blk_alloc ?_ _)); refine blk_far ?_ NB279_312.out _; (with_reducible repeat (first | refine blk_drewN ?_ _ | refine blk_drew ?_ | refine blk_alloc ?_ _)); refine blk_far ?_ NB279_312.out _; (with_reducible repeat (first | refine blk_drewN ?_ _ | refine blk_drew ?_ | refine blk_alloc ?_ _)); exact BK279.out) hb); have n14_ := Aside0.mk (blk_below (g := gb312) (o := .cells #[.int .i64 t304, .slice Ao123 t305.length co123, .slice Ao124 t308.length co124] 27 (0, 0)) (by (with_reducible repeat (first | refine blk_drewN ?_ _ | refine blk_drew ?_ | refine blk_alloc ?_ _)); refine blk_put (cs := #[.int .i64 t304, .slice Ao123 t305.length co123, .slice none 0 0]) ?_ 2 _ rfl; (with_reducible repeat (first | refine blk_drewN ?_ _ | refine blk_drew ?_ | refine blk_alloc ?_ _)); refine blk_put (cs := #[.int .i64 t304, .slice none 0 0, .slice none 0 0]) ?_ 1 _ rfl; (with_reducible repeat (first | refine blk_drewN ?_ _ | refine blk_drew ?_ | refine blk_alloc ?_ _)); refine blk_put (cs := #[.int .i64 0, .slice none 0 0, .slice none 0 0]) ?_ 0 _ rfl; (with_reducible repeat (first | refine blk_drewN ?_ _ | refine blk_drew ?_ | refine blk_alloc ?_ _)); exact BK312.out) hb); have n15_ := Aside0.mk (below_step (by repeat (first | (with_reducible first | exact HB.out | apply below_alloc | apply pw_below_drewN | apply below_drew1 | refine below_set ?_ GE245.out | refine below_set ?_ GE262.out | refine below_set ?_ GE270.out | refine below_set ?_ GE279.out | refine below_set ?_ GE312.out) | exact HB.out)) hb); clear HO_263001; clear HO_263002; clear HO_271001; clear HO_271002; clear HO_280001; clear HO_280002; clear HO300; clear HO303; clear HO307; clear HO310; clear BK245; clear BK262; clear BK270; clear BK279; clear BK312; clear HB; have HO_263001 := n0_; have HO_263002 := n1_; have HO_271001 := n2_; have HO_271002 := n3_; have HO_280001 := n4_; have HO_280002 := n5_; have HO300 := n6_; have HO303 := n7_; have HO307 := n8_; have HO310 := n9_; have BK245 := n10_; have BK262 := n11_; have BK270 := n12_; have BK279 := n13_; have BK312 := n14_; have HB := n15_; clear n0_ n1_ n2_ n3_ n4_ n5_ n6_ n7_ n8_ n9_ n10_ n11_ n12_ n13_ n14_ n15_; (try clear hb); (try clear hb2); (try clear hk); (try clear hi)))
                          go_meet
                          case rel => exact ⟨_, (true), (by first | rfl | (simp; done) | (simp [*]; done)), H', ⟨by have := HJ11.out; have := HJ64.out; first | omega | exact Nat.le_refl _⟩, ⟨by (try simp only [hl271001_64]); (try simp only [hl271002_64]); (with_reducible repeat (first | apply Kd.R_alloc | apply Kd.R_drewN | apply Kd.R_drew)); exact Kd.R_mono HO_263001.out (fun _ hk => ⟨hk.1.1.1, ⟨hk.1.1.2, hk.2⟩⟩)⟩, ⟨by (try simp only [hl271001_64]); (try simp only [hl271002_64]); (with_reducible repeat (first | apply Kd.R_alloc | apply Kd.R_drewN | apply Kd.R_drew)); exact Kd.R_mono HO_263002.out (fun _ hk => ⟨hk.1.1.1, ⟨hk.1.1.2, hk.2⟩⟩)⟩, ⟨by (try simp only [hl271001_64]); (try simp only [hl271002_64]); (with_reducible repeat (first | apply Kd.R_alloc | apply Kd.R_drewN | apply Kd.R_drew)); exact Kd.R_mono HO_271001.out (fun _ hk => ⟨hk.1.1.1, ⟨hk.1.1.2, hk.2⟩⟩)⟩, ⟨by (try simp only [hl271001_64]); (try simp only [hl271002_64]); (with_reducible repeat (first | apply Kd.R_alloc | apply Kd.R_drewN | apply Kd.R_drew)); exact Kd.R_mono HO_271002.out (fun _ hk => ⟨hk.1.1.1, ⟨hk.1.1.2, hk.2⟩⟩)⟩, ⟨by (try simp only [hl271001_64]); (try simp only [hl271002_64]); (with_reducible repeat (first | apply Kd.R_alloc | apply Kd.R_drewN | apply Kd.R_drew)); exact Kd.R_mono HO_280001.out (fun _ hk => ⟨hk.1.1.1, ⟨hk.1.1.2, hk.2⟩⟩)⟩, ⟨by (try simp only [hl271001_64]); (try simp only [hl271002_64]); (with_reducible repeat (first | apply Kd.R_alloc | apply Kd.R_drewN | apply Kd.R_drew)); exact Kd.R_mono HO_280002.out (fun _ hk => ⟨hk.1.1.1, ⟨hk.1.1.2, hk.2⟩⟩)⟩, ⟨by (try simp only [hl271001_64]); (try simp only [hl271002_64]); (with_reducible repeat (first | apply Kd.R_alloc | apply Kd.R_drewN | apply Kd.R_drew)); exact Kd.R_mono HO307.out (fun _ hk => ⟨hk.1.1.1.2, ⟨hk.1.1.2, hk.1.2⟩⟩)⟩, ⟨by (try simp only [hl271001_64]); (try simp only [hl271002_64]); (with_reducible repeat (first | apply Kd.R_alloc | apply Kd.R_drewN | apply Kd.R_drew)); exact Kd.R_mono HO310.out (fun _ hk => ⟨hk.1.1.1.2, ⟨hk.1.1.2, hk.1.2⟩⟩)⟩, ⟨by (try simp only [hl271001_64]); (try simp only [hl271002_64]); (with_reducible repeat (first | refine blk_drewN ?_ _ | refine blk_drew ?_ | refine blk_alloc ?_ _)); exact BK245.out⟩, ⟨by (try simp only [hl271001_64]); (try simp only [hl271002_64]); (with_reducible repeat (first | refine blk_drewN ?_ _ | refine blk_drew ?_ | refine blk_alloc ?_ _)); exact BK262.out⟩, ⟨by (try simp only [hl271001_64]); (try simp only [hl271002_64]); (with_reducible repeat (first | refine blk_drewN ?_ _ | refine blk_drew ?_ | refine blk_alloc ?_ _)); exact BK270.out⟩, ⟨by (try simp only [hl271001_64]); (try simp only [hl271002_64]); (with_reducible repeat (first | refine blk_drewN ?_ _ | refine blk_drew ?_ | refine blk_alloc ?_ _)); exact BK279.out⟩, ⟨by (try simp only [hl271001_64]); (try simp only [hl271002_64]); (with_reducible repeat (first | refine blk_drewN ?_ _ | refine blk_drew ?_ | refine blk_alloc ?_ _)); exact BK312.out⟩, ⟨by repeat (first | (with_reducible first | exact HB.out | apply below_alloc | apply pw_below_drewN | apply below_drew1 | refine below_set ?_ GE245.out | refine below_set ?_ GE262.out | refine below_set ?_ GE270.out | refine below_set ?_ GE279.out | refine below_set ?_ GE312.out) | exact HB.out)⟩⟩
                      case rest =>
                        clear HC102
                        try clear c1
                        try clear c2
                        try clear p2
                        try clear c3
                        try clear c4
                        try clear c4b0
                        try clear c5
                        try clear c6
                        try clear c7
                        try clear c8
                        try clear c9
                        try clear c10
                        try clear c11
                        try clear c12
                        try clear c13
                        try clear c14
                        try clear c20
                        try clear c22
                        try clear c25
                        try clear c26
                        try clear c27
                        try clear c28
                        try clear c29
                        try clear c30
                        try clear c32
                        try clear c36
                        try clear c37
                        try clear c38
                        try clear c43
                        try clear c44
                        try clear c45
                        try clear c46
                        try clear c48
                        try clear c49
                        try clear c52
                        try clear c53
                        try clear c54
                        try clear c56
                        try clear c57
                        try clear c60
                        try clear c63
                        try clear c71
                        try clear c72
                        try clear c73
                        try clear c76
                        try clear c76b0
                        try clear c78
                        try clear c79
                        try clear c80
                        try clear c81
                        try clear c83
                        try clear c84
                        try clear c87
                        try clear c88
                        try clear c89
                        try clear c91
                        try clear c92
                        try clear c95
                        try clear c98
                        try clear c98b0
                        try clear c99
                        try clear c99b0
                        try clear c99b1
                        try clear c103
                        try clear c104
                        try clear c105
                        try clear c110
                        try clear c111
                        try clear c118
                        try clear c119
                        try clear c120
                        try clear c121
                        try clear c126
                        try clear c127
                        try clear c128
                        try clear c129
                        try clear c130
                        try clear c132
                        try clear c133
                        try clear c134
                        try clear c137
                        try clear c138
                        try clear c139
                        try clear c140
                        try clear c142
                        try clear c143
                        try clear c144
                        try clear hcz106_0
                        try clear hcz106_1
                        try clear hcz106_2
                        try clear hcz108_0
                        try clear hcz108_1
                        try clear hcz108_2
                        try clear hcz112_0
                        try clear hcz112_1
                        try clear hcz112_2
                        try clear hcz122_0
                        try clear hcz122_1
                        try clear hcz122_2
                        try clear hcz131_0
                        try clear hcz131_1
                        try clear hcz131_2
                        try clear hcz135_0
                        try clear hcz135_1
                        try clear hcz135_2
                        try clear hcz141_0
                        try clear hcz141_1
                        try clear hcz141_2
                        try clear hcz145_0
                        try clear hcz145_1
                        try clear hcz145_2
                        try clear hcz14_0
                        try clear hcz14_1
                        try clear hcz14_2
                        try clear hcz16_0
                        try clear hcz16_1
                        try clear hcz16_2
                        try clear hcz23_0
                        try clear hcz23_1
                        try clear hcz23_2
                        try clear hcz26_0
                        try clear hcz26_1
                        try clear hcz26_2
                        try clear hcz31_0
                        try clear hcz31_1
                        try clear hcz31_2
                        try clear hcz39_0
                        try clear hcz39_1
                        try clear hcz39_2
                        try clear hcz47_0
                        try clear hcz47_1
                        try clear hcz47_2
                        try clear hcz50_0
                        try clear hcz50_1
                        try clear hcz50_2
                        try clear hcz55_0
                        try clear hcz55_1
                        try clear hcz55_2
                        try clear hcz58_0
                        try clear hcz58_1
                        try clear hcz58_2
                        try clear hcz6_0
                        try clear hcz6_1
                        try clear hcz6_2
                        try clear hcz74_0
                        try clear hcz74_1
                        try clear hcz74_2
                        try clear hcz82_0
                        try clear hcz82_1
                        try clear hcz82_2
                        try clear hcz85_0
                        try clear hcz85_1
                        try clear hcz85_2
                        try clear hcz90_0
                        try clear hcz90_1
                        try clear hcz90_2
                        try clear hcz93_0
                        try clear hcz93_1
                        try clear hcz93_2
                        try clear hfz106_0
                        try clear hfz106_1
                        try clear hfz106_2
                        try clear hfz108_0
                        try clear hfz108_1
                        try clear hfz108_2
                        try clear hfz112_0
                        try clear hfz112_1
                        try clear hfz112_2
                        try clear hfz122_0
                        try clear hfz122_1
                        try clear hfz122_2
                        try clear hfz131_0
                        try clear hfz131_1
                        try clear hfz131_2
                        try clear hfz135_0
                        try clear hfz135_1
                        try clear hfz135_2
                        try clear hfz141_0
                        try clear hfz141_1
                        try clear hfz141_2
                        try clear hfz145_0
                        try clear hfz145_1
                        try clear hfz145_2
                        try clear hfz14_0
                        try clear hfz14_1
                        try clear hfz14_2
                        try clear hfz16_0
                        try clear hfz16_1
                        try clear hfz16_2
                        try clear hfz23_0
                        try clear hfz23_1
                        try clear hfz23_2
                        try clear hfz26_0
                        try clear hfz26_1
                        try clear hfz26_2
                        try clear hfz31_0
                        try clear hfz31_1
                        try clear hfz31_2
                        try clear hfz39_0
                        try clear hfz39_1
                        try clear hfz39_2
                        try clear hfz47_0
                        try clear hfz47_1
                        try clear hfz47_2
                        try clear hfz50_0
                        try clear hfz50_1
                        try clear hfz50_2
                        try clear hfz55_0
                        try clear hfz55_1
                        try clear hfz55_2
                        try clear hfz58_0
                        try clear hfz58_1
                        try clear hfz58_2
                        try clear hfz6_0
                        try clear hfz6_1
                        try clear hfz6_2
                        try clear hfz74_0
                        try clear hfz74_1
                        try clear hfz74_2
                        try clear hfz82_0
                        try clear hfz82_1
                        try clear hfz82_2
                        try clear hfz85_0
                        try clear hfz85_1
                        try clear hfz85_2
                        try clear hfz90_0
                        try clear hfz90_1
                        try clear hfz90_2
                        try clear hfz93_0
                        try clear hfz93_1
                        try clear hfz93_2
                        try clear p2
                        obtain ⟨kq, x92_101, rfl, HA, HJ101, HO_263001, HO_263002, HO_271001, HO_271002, HO_280001, HO_280002, HO_313001, HO_313002, BK245, BK262, BK270, BK279, BK312, HB⟩ := hcut
                        have hl280001_101 := (Kd.R_reads' HO_280001.out).1
                        rw [hl280001_101] at HO_280001
                        (try simp only [hl280001_101])
                        (try simp only [hl280001_101] at BK245)
                        (try simp only [hl280001_101] at BK262)
                        (try simp only [hl280001_101] at BK270)
                        (try simp only [hl280001_101] at BK279)
                        (try simp only [hl280001_101] at BK312)
                        (try simp only [hl280001_101] at HO_263001)
                        (try simp only [hl280001_101] at HO_263002)
                        (try simp only [hl280001_101] at HO_271001)
                        (try simp only [hl280001_101] at HO_271002)
                        (try simp only [hl280001_101] at HO_280002)
                        (try simp only [hl280001_101] at HO_313001)
                        (try simp only [hl280001_101] at HO_313002)
                        have hl280002_101 := (Kd.R_reads' HO_280002.out).1
                        rw [hl280002_101] at HO_280002
                        (try simp only [hl280002_101])
                        (try simp only [hl280002_101] at BK245)
                        (try simp only [hl280002_101] at BK262)
                        (try simp only [hl280002_101] at BK270)
                        (try simp only [hl280002_101] at BK279)
                        (try simp only [hl280002_101] at BK312)
                        (try simp only [hl280002_101] at HO_263001)
                        (try simp only [hl280002_101] at HO_263002)
                        (try simp only [hl280002_101] at HO_271001)
                        (try simp only [hl280002_101] at HO_271002)
                        (try simp only [hl280002_101] at HO_280001)
                        (try simp only [hl280002_101] at HO_313001)
                        (try simp only [hl280002_101] at HO_313002)
                        cases kq with
                        | zero => exact absurd HA.out (by simp [laws_FnExactRetire.j2])
                        | succ kj101 =>
                          have H := HA.out
                          clear HA
                          simp only [laws_FnExactRetire.j2] at H
                          by_cases c147 : x92_101 = true
                          · subst c147
                            have H1 : (none) = some r := by rw [if_pos rfl] at H; exact H
                            clear H
                            have H := H1
                            clear H1
                            exact absurd H (by simp)
                          · replace c147 := Bool.eq_false_iff.mpr c147
                            subst c147
                            have H1 : ((laws_heldEpochs.f kj101 t271 t294 t295 1).bind fun t314 => (if t314 < 0 then (none) else (if t314 = t293 then (some true) else (none)))) = some r := by rw [if_neg (show ¬ (false = true) by decide)] at H; exact H
                            clear H
                            have H := H1
                            clear H1
                            replace H := Option.bind_eq_some_iff.mp H
                            obtain ⟨t314, A1480, H⟩ := H
                            replace H : (if t314 < 0 then (none) else (if t314 = t293 then (some true) else (none))) = some r := H
                            have A148 := Aside0.mk A1480
                            clear A1480
                            by_cases c149 : t314 < 0
                            · rw [if_pos c149] at H
                              exact absurd H (by simp)
                            · rw [if_neg c149] at H
                              have c149b0 : decide (t314 < 0) = false := decide_eq_false c149
                              clear c149
                              by_cases c150 : t314 = t293
                              · rw [if_pos c150] at H
                                have c150b0 : (t314 == t293) = true := beq_iff_eq.mpr c150
                                have c150b1 : (t314 != t293) = false := bne_eq_false_iff_eq.mpr c150
                                clear c150
                                obtain rfl := Option.some.inj H
                                have hnb151 := NB279_245.out
                                have hnc151 := NB245_279.out
                                have hnb152 := NB279_262.out
                                have hnc152 := NB262_279.out
                                have hnb153 := NB279_270.out
                                have hnc153 := NB270_279.out
                                have hnb154 := NB279_312.out
                                have hnc154 := NB312_279.out
                                have hcz155_0 : wc.cell? ⟨gb279, 0, none⟩ = some (.int .i64 t271) := (blk_cell BK279.out 0).trans rfl
                                have hcz155_1 : wc.cell? ⟨gb279, 1, none⟩ = some (.slice Ao40 t294.length co40) := (blk_cell BK279.out 1).trans rfl
                                have hcz155_2 : wc.cell? ⟨gb279, 2, none⟩ = some (.slice Ao41 t295.length co41) := (blk_cell BK279.out 2).trans rfl
                                have hfz155_0 := blk_frozen BK279.out 0
                                have hfz155_1 := blk_frozen BK279.out 1
                                have hfz155_2 := blk_frozen BK279.out 2
                                go_wp2_with (first | ((with_reducible refine gate_callee (f := 27) rfl ?_); refine goesL_ (some 95) rfl rfl Try.func27 (by kernel_rfl) rfl #[.agg #[.int .i64 t271, .slice Ao40 t294.length co40, .slice Ao41 t295.length co41], .int .i64 1] rfl (by (try simp only [List.map_toArray, List.map_cons, List.map_nil]); first | done | rfl | (simp only [List.length_drop, List.length_take]; rfl)) ?_; (with_reducible refine (laws_heldEpochs.calls kj101 t271 _ _ t294 _ _ t295 1 t314 _ ?side1 ?side2 ?side3 ?side4 A148.out).mono ?_); (case side1 => repeat (first | exact (Kd.R_reads' HO_280001.out).2.2 | (with_reducible refine Kd.C_alloc ?_ _) | (with_reducible refine Kd.C_drewN ?_ _) | (with_reducible refine Kd.C_drew ?_))); (case side2 => exact (Kd.R_reads' HO_280001.out).2.1); (case side3 => repeat (first | exact (Kd.R_reads' HO_280002.out).2.2 | (with_reducible refine Kd.C_alloc ?_ _) | (with_reducible refine Kd.C_drewN ?_ _) | (with_reducible refine Kd.C_drew ?_))); (case side4 => exact (Kd.R_reads' HO_280002.out).2.1); rintro e w156 ⟨rfl, hb⟩; refine ⟨_, rfl, ?_⟩; have n0_ := Aside0.mk (Kd.R_below (by (with_reducible repeat (first | apply Kd.R_alloc | apply Kd.R_drewN | apply Kd.R_drew)); exact HO_263001.out) hb); have n1_ := Aside0.mk (Kd.R_below (by (with_reducible repeat (first | apply Kd.R_alloc | apply Kd.R_drewN | apply Kd.R_drew)); exact HO_263002.out) hb); have n2_ := Aside0.mk (Kd.R_below (by (with_reducible repeat (first | apply Kd.R_alloc | apply Kd.R_drewN | apply Kd.R_drew)); exact HO_271001.out) hb); have n3_ := Aside0.mk (Kd.R_below (by (with_reducible repeat (first | apply Kd.R_alloc | apply Kd.R_drewN | apply Kd.R_drew)); exact HO_271002.out) hb); have n4_ := Aside0.mk (Kd.R_below (by (with_reducible repeat (first | apply Kd.R_alloc | apply Kd.R_drewN | apply Kd.R_drew)); exact HO_280001.out) hb); have n5_ := Aside0.mk (Kd.R_below (by (with_reducible repeat (first | apply Kd.R_alloc | apply Kd.R_drewN | apply Kd.R_drew)); exact HO_280002.out) hb); have n6_ := Aside0.mk (Kd.R_below (by (with_reducible repeat (first | apply Kd.R_alloc | apply Kd.R_drewN | apply Kd.R_drew)); exact HO_313001.out) hb); have n7_ := Aside0.mk (Kd.R_below (by (with_reducible repeat (first | apply Kd.R_alloc | apply Kd.R_drewN | apply Kd.R_drew)); exact HO_313002.out) hb); have n8_ := Aside0.mk (blk_below (g := gb245) (o := .cells #[.int .i64 a0_0, .slice A0_1 l0_1.length c0_1, .slice A0_2 l0_2.length c0_2] 43 (0, 0)) (by (with_reducible repeat (first | refine blk_drewN ?_ _ | refine blk_drew ?_ | refine blk_alloc ?_ _)); exact BK245.out) hb); have n9_ := Aside0.mk (blk_below (g := gb262) (o := .cells #[.int .i64 t254, .slice Ao24 t255.length co24, .slice Ao25 t258.length co25] 27 (0, 0)) (by (with_reducible repeat (first | refine blk_drewN ?_ _ | refine blk_drew ?_ | refine blk_alloc ?_ _)); exact BK262.out) hb); have n10_ := Aside0.mk (blk_below (g := gb270) (o := .cells #[.int .i64 t263, .slice Ao32 t290.length co32, .slice Ao33 t291.length co33] 27 (0, 0)) (by (with_reducible repeat (first | refine blk_drewN ?_ _ | refine blk_drew ?_ | refine blk_alloc ?_ _)); exact BK270.out) hb); have n11_ := Aside0.mk (blk_below (g := gb279) (o := .cells #[.int .i64 t271, .slice Ao40 t294.length co40, .slice Ao41 t295.length co41] 27 (0, 0)) (by (with_reducible repeat (first | refine blk_drewN ?_ _ | refine blk_drew ?_ | refine blk_alloc ?_ _)); exact BK279.out) hb); have n12_ := Aside0.mk (blk_below (g := gb312) (o := .cells #[.int .i64 t304, .slice Ao123 t305.length co123, .slice Ao124 t308.length co124] 27 (0, 0)) (by (with_reducible repeat (first | refine blk_drewN ?_ _ | refine blk_drew ?_ | refine blk_alloc ?_ _)); exact BK312.out) hb); have n13_ := Aside0.mk (below_step (by repeat (first | (with_reducible first | exact HB.out | apply below_alloc | apply pw_below_drewN | apply below_drew1 | refine below_set ?_ GE245.out | refine below_set ?_ GE262.out | refine below_set ?_ GE270.out | refine below_set ?_ GE279.out | refine below_set ?_ GE312.out) | exact HB.out)) hb); clear HO_263001; clear HO_263002; clear HO_271001; clear HO_271002; clear HO_280001; clear HO_280002; clear HO_313001; clear HO_313002; clear BK245; clear BK262; clear BK270; clear BK279; clear BK312; clear HB; have HO_263001 := n0_; have HO_263002 := n1_; have HO_271001 := n2_; have HO_271002 := n3_; have HO_280001 := n4_; have HO_280002 := n5_; have HO_313001 := n6_; have HO_313002 := n7_; have BK245 := n8_; have BK262 := n9_; have BK270 := n10_; have BK279 := n11_; have BK312 := n12_; have HB := n13_; clear n0_ n1_ n2_ n3_ n4_ n5_ n6_ n7_ n8_ n9_ n10_ n11_ n12_ n13_; (try clear hb); (try clear hb2); (try clear hk); (try clear hi)))
                                go_ret
                                exact ⟨by first | rfl | (simp [errW_none, errW_some] <;> rfl) | (simp [*, errW_none, errW_some] <;> rfl), by repeat (first | (with_reducible first | exact HB.out | apply below_alloc | apply pw_below_drewN | apply below_drew1 | refine below_set ?_ GE245.out | refine below_set ?_ GE262.out | refine below_set ?_ GE270.out | refine below_set ?_ GE279.out | refine below_set ?_ GE312.out) | exact HB.out)⟩
                              · rw [if_neg c150] at H
                                exact absurd H (by simp)
                    · rw [if_neg c99] at H
                      exact absurd H (by simp)
          · replace c63 := Bool.eq_false_iff.mpr c63
            subst c63
            have H1 : (none) = some r := by rw [if_neg (show ¬ (false = true) by decide)] at H; exact H
            clear H
            have H := H1
            clear H1
            exact absurd H (by simp)

end Go.Proofs.Ytpidphppldimkaa.PFnExactRetire
