/- The contracts of the functions that the law FnExactCollect reaches, each proved: what each computes. Written by programs and by hand. -/
import Derived.Test.YtpidphppldimkaaPFnExactCollectx0
import Derived.Test.YtpidphppldimkaaPFnExactCollectx7
import Derived.Test.YtpidphppldimkaaPFnExactCollectx8
import Derived.Test.YtpidphppldimkaaPFnExactCollectx10
namespace Go.Proofs.Ytpidphppldimkaa.PFnExactCollect
open Go.RowKit Go.Proofs.YtpidphppldimkaaW.PrintWords Go.Proofs.YtpidphppldimkaaW.PrintLast Go.Proofs.YtpidphppldimkaaW.PrintMore
open Go.Proofs.YtpidphppldimkaaW.PrintWords renaming pw_below_drewN → zA, below_set → zB, Kd.R_alloc → zC, Kd.R_drewN → zD, Kd.R_drew → zE, Kd.R_far → zF, Kd.R_mono → zG, Kd.R_below → zH, Kd.R_types → zI, Kd.R_reads' → zJ, blk_alloc → zK, blk_drewN → zL, blk_drew → zM, below_drew1 → zN, below_alloc → zO, blk_cell → zP, blk_frozen → zQ, blk_below → zR, below_step → zS, below_size → zT, Kd.C_alloc → zU, Kd.C_drewN → zV, Kd.C_drew → zW
attribute [local go_sem] max2_int min2_int max_two min_two max_three min_three max_four min_four   -- for this text's walks alone
set_option linter.unusedVariables false
set_option linter.unusedSimpArgs false

/-! ### laws_FnExactCollect: function 12 -/
mutual
def laws_FnExactCollect.j0 : Nat → List Int → List Int → Bool → Int → List Int → List (S75) → Int → List Int → List (S58) → Int → List Int → List (S58) → Int → List Int → List (S58) → Option (Bool)
  | 0, _, _, _, _, _, _, _, _, _, _, _, _, _, _, _ => none
  | k + 1, x5, x8, x41, x241000, x241001, x241002, x260000, x260001, x260002, x268000, x268001, x268002, x279000, x279001, x279002 => if x41 = true then (none) else ((laws_toEpochs.f k x241000 x241001 x241002).bind fun bt281 => ((laws_eqEpochs.f k x268000 x268001 x268002 bt281.1 bt281.2.1 bt281.2.2).bind fun t288 => (if t288 = true then ((laws_markEpochs.f k x268000 x268001 x268002 1).bind fun bt289 => (if bt289.1 < 0 then (laws_FnExactCollect.j1 k x5 x8 true x241000 x241001 x241002 x260000 x260001 x260002 x279000 x279001 x279002) else ((laws_eqEpochs.f k x279000 x279001 x279002 x260000 x260001 x260002).bind fun t292 => (if t292 = true then ((laws_eqIntS.f k x8 x5).bind fun t293 => (laws_FnExactCollect.j1 k x5 x8 (!t293) x241000 x241001 x241002 x260000 x260001 x260002 x279000 x279001 x279002)) else (laws_FnExactCollect.j1 k x5 x8 true x241000 x241001 x241002 x260000 x260001 x260002 x279000 x279001 x279002))))) else (none))))
def laws_FnExactCollect.j1 : Nat → List Int → List Int → Bool → Int → List Int → List (S75) → Int → List Int → List (S58) → Int → List Int → List (S58) → Option (Bool)
  | 0, _, _, _, _, _, _, _, _, _, _, _, _ => none
  | k + 1, x5, x8, x63, x241000, x241001, x241002, x260000, x260001, x260002, x279000, x279001, x279002 => if x63 = true then (none) else ((laws_markEpochs.f k x279000 x279001 x279002 1).bind fun bt294 => ((laws_markIntS.f k x8 bt294.1).bind fun bt297 => ((laws_heldEpochs.f k x279000 bt294.2.1 bt294.2.2 1).bind fun t299 => (if t299 < 0 then (none) else ((laws_heldIntS.f k bt297.2 t299).bind fun t300 => (if t300 < 0 then (none) else (if t300 = bt297.1 then ((laws_toEpochs.f k x241000 x241001 x241002).bind fun bt301 => ((impl_Collect.f k bt301.1 bt301.2.1 bt301.2.2).bind fun bt308 => ((laws_eqEpochs.f k bt308.1 bt308.2.1 bt308.2.2.1 x260000 x260001 x260002).bind fun t319 => (if t319 = true then ((laws_eqIntS.f k bt308.2.2.2 x5).bind fun t320 => (laws_FnExactCollect.j2 k bt297.2 bt297.1 (!t320) x279000 bt294.2.1 bt294.2.2)) else (laws_FnExactCollect.j2 k bt297.2 bt297.1 true x279000 bt294.2.1 bt294.2.2))))) else (none))))))))
def laws_FnExactCollect.j2 : Nat → List Int → Int → Bool → Int → List Int → List (S58) → Option (Bool)
  | 0, _, _, _, _, _, _ => none
  | k + 1, x8, x10, x98, x279000, x279001, x279002 => if x98 = true then (none) else ((laws_heldEpochs.f k x279000 x279001 x279002 1).bind fun t321 => (if t321 < 0 then (none) else ((laws_heldIntS.f k x8 t321).bind fun t322 => (if t322 < 0 then (none) else (if t322 = x10 then (some true) else (none))))))
end
def laws_FnExactCollect.f (k : Nat) (a0_0 : Int) (l0_1 : List Int) (l0_2 : List (S75)) : Option (Bool) := (laws_szEpochs.f a0_0 l0_1 l0_2 1048576).bind fun t241 => (if t241 < 0 then (some true) else ((laws_toEpochs.f k a0_0 l0_1 l0_2).bind fun bt242 => ((spec_Collect.f k bt242.1 bt242.2.1 bt242.2.2).bind fun bt249 => ((laws_toEpochs.f k a0_0 l0_1 l0_2).bind fun bt260 => ((impl_Collect.f k bt260.1 bt260.2.1 bt260.2.2).bind fun bt268 => ((laws_eqEpochs.f k bt268.1 bt268.2.1 bt268.2.2.1 bt249.1 bt249.2.1 bt249.2.2.1).bind fun t279 => (if t279 = true then ((laws_eqIntS.f k bt268.2.2.2 bt249.2.2.2).bind fun t280 => (laws_FnExactCollect.j0 k bt249.2.2.2 bt268.2.2.2 (!t280) a0_0 l0_1 l0_2 bt249.1 bt249.2.1 bt249.2.2.1 bt260.1 bt260.2.1 bt260.2.2 bt268.1 bt268.2.1 bt268.2.2.1)) else (laws_FnExactCollect.j0 k bt249.2.2.2 bt268.2.2.2 true a0_0 l0_1 l0_2 bt249.1 bt249.2.1 bt249.2.2.1 bt260.1 bt260.2.1 bt260.2.2 bt268.1 bt268.2.1 bt268.2.2.1))))))))
theorem laws_FnExactCollect.mono_l : ∀ k, (∀ y0 y1 y2 y3 y4 y5 y6 y7 y8 y9 y10 y11 y12 y13 y14, LeO (laws_FnExactCollect.j0 k y0 y1 y2 y3 y4 y5 y6 y7 y8 y9 y10 y11 y12 y13 y14) (laws_FnExactCollect.j0 (k + 1) y0 y1 y2 y3 y4 y5 y6 y7 y8 y9 y10 y11 y12 y13 y14)) ∧ (∀ y0 y1 y2 y3 y4 y5 y6 y7 y8 y9 y10 y11, LeO (laws_FnExactCollect.j1 k y0 y1 y2 y3 y4 y5 y6 y7 y8 y9 y10 y11) (laws_FnExactCollect.j1 (k + 1) y0 y1 y2 y3 y4 y5 y6 y7 y8 y9 y10 y11)) ∧ (∀ y0 y1 y2 y3 y4 y5, LeO (laws_FnExactCollect.j2 k y0 y1 y2 y3 y4 y5) (laws_FnExactCollect.j2 (k + 1) y0 y1 y2 y3 y4 y5))
  | 0 => ⟨fun _ _ _ _ _ _ _ _ _ _ _ _ _ _ _ r h => by simp [laws_FnExactCollect.j0] at h, fun _ _ _ _ _ _ _ _ _ _ _ _ r h => by simp [laws_FnExactCollect.j1] at h, fun _ _ _ _ _ _ r h => by simp [laws_FnExactCollect.j2] at h⟩
  | k + 1 => by
    obtain ⟨ih0, ih1, ih2⟩ := laws_FnExactCollect.mono_l k
    refine ⟨?_, ?_, ?_⟩
    · intro y0 y1 y2 y3 y4 y5 y6 y7 y8 y9 y10 y11 y12 y13 y14
      unfold laws_FnExactCollect.j0
      repeat' first
      | (with_reducible exact ih0 _ _ _ _ _ _ _ _ _ _ _ _ _ _ _)
      | (with_reducible exact ih1 _ _ _ _ _ _ _ _ _ _ _ _)
      | (with_reducible exact ih2 _ _ _ _ _ _)
      | (with_reducible exact impl_Collect.mono _ _ _ _)
      | (with_reducible exact laws_eqEpochs.mono _ _ _ _ _ _ _)
      | (with_reducible exact laws_eqIntS.mono _ _ _)
      | (with_reducible exact laws_heldEpochs.mono _ _ _ _ _)
      | (with_reducible exact laws_heldIntS.mono _ _ _)
      | (with_reducible exact laws_markEpochs.mono _ _ _ _ _)
      | (with_reducible exact laws_markIntS.mono _ _ _)
      | (with_reducible exact laws_toEpochs.mono _ _ _ _)
      | (with_reducible exact spec_Collect.mono _ _ _ _)
      | (with_reducible exact LeO.refl _)
      | (with_reducible exact LeO.none _)
      | (with_reducible refine LeO.ite ?_ ?_)
      | (with_reducible refine LeO.bind ?_ (fun _ => ?_))
      | exact ih0 _ _ _ _ _ _ _ _ _ _ _ _ _ _ _
      | exact ih1 _ _ _ _ _ _ _ _ _ _ _ _
      | exact ih2 _ _ _ _ _ _
      | exact impl_Collect.mono _ _ _ _
      | exact laws_eqEpochs.mono _ _ _ _ _ _ _
      | exact laws_eqIntS.mono _ _ _
      | exact laws_heldEpochs.mono _ _ _ _ _
      | exact laws_heldIntS.mono _ _ _
      | exact laws_markEpochs.mono _ _ _ _ _
      | exact laws_markIntS.mono _ _ _
      | exact laws_toEpochs.mono _ _ _ _
      | exact spec_Collect.mono _ _ _ _
      | exact LeO.none _
      | refine LeO.ite ?_ ?_
      | refine LeO.bind ?_ (fun _ => ?_)
    · intro y0 y1 y2 y3 y4 y5 y6 y7 y8 y9 y10 y11
      unfold laws_FnExactCollect.j1
      repeat' first
      | (with_reducible exact ih0 _ _ _ _ _ _ _ _ _ _ _ _ _ _ _)
      | (with_reducible exact ih1 _ _ _ _ _ _ _ _ _ _ _ _)
      | (with_reducible exact ih2 _ _ _ _ _ _)
      | (with_reducible exact impl_Collect.mono _ _ _ _)
      | (with_reducible exact laws_eqEpochs.mono _ _ _ _ _ _ _)
      | (with_reducible exact laws_eqIntS.mono _ _ _)
      | (with_reducible exact laws_heldEpochs.mono _ _ _ _ _)
      | (with_reducible exact laws_heldIntS.mono _ _ _)
      | (with_reducible exact laws_markEpochs.mono _ _ _ _ _)
      | (with_reducible exact laws_markIntS.mono _ _ _)
      | (with_reducible exact laws_toEpochs.mono _ _ _ _)
      | (with_reducible exact spec_Collect.mono _ _ _ _)
      | (with_reducible exact LeO.refl _)
      | (with_reducible exact LeO.none _)
      | (with_reducible refine LeO.ite ?_ ?_)
      | (with_reducible refine LeO.bind ?_ (fun _ => ?_))
      | exact ih0 _ _ _ _ _ _ _ _ _ _ _ _ _ _ _
      | exact ih1 _ _ _ _ _ _ _ _ _ _ _ _
      | exact ih2 _ _ _ _ _ _
      | exact impl_Collect.mono _ _ _ _
      | exact laws_eqEpochs.mono _ _ _ _ _ _ _
      | exact laws_eqIntS.mono _ _ _
      | exact laws_heldEpochs.mono _ _ _ _ _
      | exact laws_heldIntS.mono _ _ _
      | exact laws_markEpochs.mono _ _ _ _ _
      | exact laws_markIntS.mono _ _ _
      | exact laws_toEpochs.mono _ _ _ _
      | exact spec_Collect.mono _ _ _ _
      | exact LeO.none _
      | refine LeO.ite ?_ ?_
      | refine LeO.bind ?_ (fun _ => ?_)
    · intro y0 y1 y2 y3 y4 y5
      unfold laws_FnExactCollect.j2
      repeat' first
      | (with_reducible exact ih0 _ _ _ _ _ _ _ _ _ _ _ _ _ _ _)
      | (with_reducible exact ih1 _ _ _ _ _ _ _ _ _ _ _ _)
      | (with_reducible exact ih2 _ _ _ _ _ _)
      | (with_reducible exact impl_Collect.mono _ _ _ _)
      | (with_reducible exact laws_eqEpochs.mono _ _ _ _ _ _ _)
      | (with_reducible exact laws_eqIntS.mono _ _ _)
      | (with_reducible exact laws_heldEpochs.mono _ _ _ _ _)
      | (with_reducible exact laws_heldIntS.mono _ _ _)
      | (with_reducible exact laws_markEpochs.mono _ _ _ _ _)
      | (with_reducible exact laws_markIntS.mono _ _ _)
      | (with_reducible exact laws_toEpochs.mono _ _ _ _)
      | (with_reducible exact spec_Collect.mono _ _ _ _)
      | (with_reducible exact LeO.refl _)
      | (with_reducible exact LeO.none _)
      | (with_reducible refine LeO.ite ?_ ?_)
      | (with_reducible refine LeO.bind ?_ (fun _ => ?_))
      | exact ih0 _ _ _ _ _ _ _ _ _ _ _ _ _ _ _
      | exact ih1 _ _ _ _ _ _ _ _ _ _ _ _
      | exact ih2 _ _ _ _ _ _
      | exact impl_Collect.mono _ _ _ _
      | exact laws_eqEpochs.mono _ _ _ _ _ _ _
      | exact laws_eqIntS.mono _ _ _
      | exact laws_heldEpochs.mono _ _ _ _ _
      | exact laws_heldIntS.mono _ _ _
      | exact laws_markEpochs.mono _ _ _ _ _
      | exact laws_markIntS.mono _ _ _
      | exact laws_toEpochs.mono _ _ _ _
      | exact spec_Collect.mono _ _ _ _
      | exact LeO.none _
      | refine LeO.ite ?_ ?_
      | refine LeO.bind ?_ (fun _ => ?_)
theorem laws_FnExactCollect.mono : ∀ a0 a1 a2 k, LeO (laws_FnExactCollect.f k a0 a1 a2) (laws_FnExactCollect.f (k + 1) a0 a1 a2) := by
  intro a0 a1 a2 k
  obtain ⟨ih0, ih1, ih2⟩ := laws_FnExactCollect.mono_l k
  unfold laws_FnExactCollect.f
  repeat' first
      | (with_reducible exact ih0 _ _ _ _ _ _ _ _ _ _ _ _ _ _ _)
      | (with_reducible exact ih1 _ _ _ _ _ _ _ _ _ _ _ _)
      | (with_reducible exact ih2 _ _ _ _ _ _)
      | (with_reducible exact impl_Collect.mono _ _ _ _)
      | (with_reducible exact laws_eqEpochs.mono _ _ _ _ _ _ _)
      | (with_reducible exact laws_eqIntS.mono _ _ _)
      | (with_reducible exact laws_heldEpochs.mono _ _ _ _ _)
      | (with_reducible exact laws_heldIntS.mono _ _ _)
      | (with_reducible exact laws_markEpochs.mono _ _ _ _ _)
      | (with_reducible exact laws_markIntS.mono _ _ _)
      | (with_reducible exact laws_toEpochs.mono _ _ _ _)
      | (with_reducible exact spec_Collect.mono _ _ _ _)
      | (with_reducible exact LeO.refl _)
      | (with_reducible exact LeO.none _)
      | (with_reducible refine LeO.ite ?_ ?_)
      | (with_reducible refine LeO.bind ?_ (fun _ => ?_))
      | exact ih0 _ _ _ _ _ _ _ _ _ _ _ _ _ _ _
      | exact ih1 _ _ _ _ _ _ _ _ _ _ _ _
      | exact ih2 _ _ _ _ _ _
      | exact impl_Collect.mono _ _ _ _
      | exact laws_eqEpochs.mono _ _ _ _ _ _ _
      | exact laws_eqIntS.mono _ _ _
      | exact laws_heldEpochs.mono _ _ _ _ _
      | exact laws_heldIntS.mono _ _ _
      | exact laws_markEpochs.mono _ _ _ _ _
      | exact laws_markIntS.mono _ _ _
      | exact laws_toEpochs.mono _ _ _ _
      | exact spec_Collect.mono _ _ _ _
      | exact LeO.none _
      | refine LeO.ite ?_ ?_
      | refine LeO.bind ?_ (fun _ => ?_)
set_option maxHeartbeats 8000000 in
set_option maxRecDepth 100000 in
theorem laws_FnExactCollect.calls (k : Nat) (a0_0 : Int) (A0_1 : Option Addr) (c0_1 : Nat) (l0_1 : List Int) (A0_2 : Option Addr) (c0_2 : Nat) (l0_2 : List (S75)) (r : Bool) (w : World) (hr0_1 : Kd.C (Kd.int .i64) w A0_1 l0_1.length l0_1) (hc0_1 : l0_1.length ≤ c0_1) (hr0_2 : Kd.C k75 w A0_2 l0_2.length l0_2) (hc0_2 : l0_2.length ≤ c0_2) (h : laws_FnExactCollect.f k a0_0 l0_1 l0_2 = some r) :
    Calls Try.prog 12 #[.agg #[.int .i64 a0_0, .slice A0_1 l0_1.length c0_1, .slice A0_2 l0_2.length c0_2]] w fun e w' => e = .returned (.bool r) ∧ Below w.heap.size w w' := by
  have hu43 := Try.underlying43
  have hu27 := Try.underlying27
  have HR0_1 := Aside0.mk hr0_1
  have HC0_1 := Aside0.mk hc0_1
  clear hr0_1 hc0_1
  have HR0_2 := Aside0.mk hr0_2
  have HC0_2 := Aside0.mk hc0_2
  clear hr0_2 hc0_2
  have HB := Aside0.mk (Below.refl w.heap.size w)
  have H : ((laws_szEpochs.f a0_0 l0_1 l0_2 1048576).bind fun t241 => (if t241 < 0 then (some true) else ((laws_toEpochs.f k a0_0 l0_1 l0_2).bind fun bt242 => ((spec_Collect.f k bt242.1 bt242.2.1 bt242.2.2).bind fun bt249 => ((laws_toEpochs.f k a0_0 l0_1 l0_2).bind fun bt260 => ((impl_Collect.f k bt260.1 bt260.2.1 bt260.2.2).bind fun bt268 => ((laws_eqEpochs.f k bt268.1 bt268.2.1 bt268.2.2.1 bt249.1 bt249.2.1 bt249.2.2.1).bind fun t279 => (if t279 = true then ((laws_eqIntS.f k bt268.2.2.2 bt249.2.2.2).bind fun t280 => (laws_FnExactCollect.j0 k bt249.2.2.2 bt268.2.2.2 (!t280) a0_0 l0_1 l0_2 bt249.1 bt249.2.1 bt249.2.2.1 bt260.1 bt260.2.1 bt260.2.2 bt268.1 bt268.2.1 bt268.2.2.1)) else (laws_FnExactCollect.j0 k bt249.2.2.2 bt268.2.2.2 true a0_0 l0_1 l0_2 bt249.1 bt249.2.1 bt249.2.2.1 bt260.1 bt260.2.1 bt260.2.2 bt268.1 bt268.2.1 bt268.2.2.1))))))))) = some r := h
  clear h
  replace H := Option.bind_eq_some_iff.mp H
  obtain ⟨t241, A20, H⟩ := H
  replace H : (if t241 < 0 then (some true) else ((laws_toEpochs.f k a0_0 l0_1 l0_2).bind fun bt242 => ((spec_Collect.f k bt242.1 bt242.2.1 bt242.2.2).bind fun bt249 => ((laws_toEpochs.f k a0_0 l0_1 l0_2).bind fun bt260 => ((impl_Collect.f k bt260.1 bt260.2.1 bt260.2.2).bind fun bt268 => ((laws_eqEpochs.f k bt268.1 bt268.2.1 bt268.2.2.1 bt249.1 bt249.2.1 bt249.2.2.1).bind fun t279 => (if t279 = true then ((laws_eqIntS.f k bt268.2.2.2 bt249.2.2.2).bind fun t280 => (laws_FnExactCollect.j0 k bt249.2.2.2 bt268.2.2.2 (!t280) a0_0 l0_1 l0_2 bt249.1 bt249.2.1 bt249.2.2.1 bt260.1 bt260.2.1 bt260.2.2 bt268.1 bt268.2.1 bt268.2.2.1)) else (laws_FnExactCollect.j0 k bt249.2.2.2 bt268.2.2.2 true a0_0 l0_1 l0_2 bt249.1 bt249.2.1 bt249.2.2.1 bt260.1 bt260.2.1 bt260.2.2 bt268.1 bt268.2.1 bt268.2.2.1)))))))) = some r := H
  have A2 := Aside0.mk A20
  clear A20
  by_cases c3 : t241 < 0
  · rw [if_pos c3] at H
    have c3b0 : decide (t241 < 0) = true := decide_eq_true c3
    clear c3
    obtain rfl := Option.some.inj H
    go_enter Try.func12, Try.ntmps12
    go_wp2_with (first | ((with_reducible refine gate_dst (N := 1) rfl ?_); refine box_event ?hg (N := 1) ?hd (cs := #[.int .i64 a0_0, .slice A0_1 l0_1.length c0_1, .slice A0_2 l0_2.length c0_2]) (t := 43) ?hr ?_; (case hd => rfl); (case hg => rfl); (case hr => first | (go_simp; done) | (go_simp; rfl)); intro gb240 hg w4 hbox hb; have n0_ := Aside0.mk (zS (by repeat (first | (with_reducible first | exact HB.out | apply zO | apply zA | apply zN) | exact HB.out)) hb); have n1_ := Aside0.mk (hbox); have n2_ := Aside0.mk ((by rw [hg]; exact (zT (by repeat (first | (with_reducible first | exact HB.out | apply zO | apply zA | apply zN) | exact HB.out))) : w.heap.size ≤ gb240)); have n3_ := Aside0.mk ((by rw [hg]; exact (zT (by repeat (first | (with_reducible first | exact HB.out | apply zO | apply zA | apply zN) | exact HB.out))) : w.heap.size ≤ gb240)); clear HB; have HB := n0_; have BK240 := n1_; have GW240 := n2_; have GE240 := n3_; clear n0_ n1_ n2_ n3_; clear hb hbox hg; have hcz5_0 : w4.cell? ⟨gb240, 0, none⟩ = some (.int .i64 a0_0) := (zP BK240.out 0).trans rfl; have hcz5_1 : w4.cell? ⟨gb240, 1, none⟩ = some (.slice A0_1 l0_1.length c0_1) := (zP BK240.out 1).trans rfl; have hcz5_2 : w4.cell? ⟨gb240, 2, none⟩ = some (.slice A0_2 l0_2.length c0_2) := (zP BK240.out 2).trans rfl; have hfz5_0 := zQ BK240.out 0; have hfz5_1 := zQ BK240.out 1; have hfz5_2 := zQ BK240.out 2) | ((with_reducible refine gate_callee (f := 28) rfl ?_); refine goesL_ (some 16) rfl rfl Try.func28 (by kernel_rfl) rfl #[.agg #[.int .i64 a0_0, .slice A0_1 l0_1.length c0_1, .slice A0_2 l0_2.length c0_2], .int .i64 1048576] rfl (by (try simp only [List.map_toArray, List.map_cons, List.map_nil]); first | done | rfl | (simp only [List.length_drop, List.length_take]; rfl)) ?_; (with_reducible refine (laws_szEpochs.calls a0_0 _ _ l0_1 _ _ l0_2 1048576 t241 _ ?side1 ?side2 ?side3 ?side4 A2.out).mono ?_); (case side1 => repeat (first | exact (Kd.C_below HR0_1.out HB.out) | (with_reducible refine zU ?_ _) | (with_reducible refine zV ?_ _) | (with_reducible refine zW ?_))); (case side2 => exact HC0_1.out); (case side3 => repeat (first | exact (Kd.C_below HR0_2.out HB.out) | (with_reducible refine zU ?_ _) | (with_reducible refine zV ?_ _) | (with_reducible refine zW ?_))); (case side4 => exact HC0_2.out); rintro e w6 ⟨rfl, hb⟩; refine ⟨_, rfl, ?_⟩; have n0_ := Aside0.mk (zR (g := gb240) (o := .cells #[.int .i64 a0_0, .slice A0_1 l0_1.length c0_1, .slice A0_2 l0_2.length c0_2] 43 (0, 0)) (by (with_reducible repeat (first | refine zL ?_ _ | refine zM ?_ | refine zK ?_ _)); exact BK240.out) hb); have n1_ := Aside0.mk (zS (by repeat (first | (with_reducible first | exact HB.out | apply zO | apply zA | apply zN | refine zB ?_ GE240.out) | exact HB.out)) hb); clear BK240; clear HB; have BK240 := n0_; have HB := n1_; clear n0_ n1_; (try clear hb); (try clear hb2); (try clear hk); (try clear hi)))
    go_ret
    exact ⟨by first | rfl | (simp [errW_none, errW_some] <;> rfl) | (simp [*, errW_none, errW_some] <;> rfl), by repeat (first | (with_reducible first | exact HB.out | apply zO | apply zA | apply zN | refine zB ?_ GE240.out) | exact HB.out)⟩
  · rw [if_neg c3] at H
    have c3b0 : decide (t241 < 0) = false := decide_eq_false c3
    clear c3
    replace H := Option.bind_eq_some_iff.mp H
    obtain ⟨⟨t242, t243, t246⟩, A70, H⟩ := H
    replace H : ((spec_Collect.f k t242 t243 t246).bind fun bt249 => ((laws_toEpochs.f k a0_0 l0_1 l0_2).bind fun bt260 => ((impl_Collect.f k bt260.1 bt260.2.1 bt260.2.2).bind fun bt268 => ((laws_eqEpochs.f k bt268.1 bt268.2.1 bt268.2.2.1 bt249.1 bt249.2.1 bt249.2.2.1).bind fun t279 => (if t279 = true then ((laws_eqIntS.f k bt268.2.2.2 bt249.2.2.2).bind fun t280 => (laws_FnExactCollect.j0 k bt249.2.2.2 bt268.2.2.2 (!t280) a0_0 l0_1 l0_2 bt249.1 bt249.2.1 bt249.2.2.1 bt260.1 bt260.2.1 bt260.2.2 bt268.1 bt268.2.1 bt268.2.2.1)) else (laws_FnExactCollect.j0 k bt249.2.2.2 bt268.2.2.2 true a0_0 l0_1 l0_2 bt249.1 bt249.2.1 bt249.2.2.1 bt260.1 bt260.2.1 bt260.2.2 bt268.1 bt268.2.1 bt268.2.2.1)))))) = some r := H
    have A7 := Aside0.mk A70
    clear A70
    replace H := Option.bind_eq_some_iff.mp H
    obtain ⟨⟨t249, t250, t253, t256⟩, A80, H⟩ := H
    replace H : ((laws_toEpochs.f k a0_0 l0_1 l0_2).bind fun bt260 => ((impl_Collect.f k bt260.1 bt260.2.1 bt260.2.2).bind fun bt268 => ((laws_eqEpochs.f k bt268.1 bt268.2.1 bt268.2.2.1 t249 t250 t253).bind fun t279 => (if t279 = true then ((laws_eqIntS.f k bt268.2.2.2 t256).bind fun t280 => (laws_FnExactCollect.j0 k t256 bt268.2.2.2 (!t280) a0_0 l0_1 l0_2 t249 t250 t253 bt260.1 bt260.2.1 bt260.2.2 bt268.1 bt268.2.1 bt268.2.2.1)) else (laws_FnExactCollect.j0 k t256 bt268.2.2.2 true a0_0 l0_1 l0_2 t249 t250 t253 bt260.1 bt260.2.1 bt260.2.2 bt268.1 bt268.2.1 bt268.2.2.1))))) = some r := H
    have A8 := Aside0.mk A80
    clear A80
    replace H := Option.bind_eq_some_iff.mp H
    obtain ⟨⟨t260, t261, t264⟩, A90, H⟩ := H
    replace H : ((impl_Collect.f k t260 t261 t264).bind fun bt268 => ((laws_eqEpochs.f k bt268.1 bt268.2.1 bt268.2.2.1 t249 t250 t253).bind fun t279 => (if t279 = true then ((laws_eqIntS.f k bt268.2.2.2 t256).bind fun t280 => (laws_FnExactCollect.j0 k t256 bt268.2.2.2 (!t280) a0_0 l0_1 l0_2 t249 t250 t253 t260 t261 t264 bt268.1 bt268.2.1 bt268.2.2.1)) else (laws_FnExactCollect.j0 k t256 bt268.2.2.2 true a0_0 l0_1 l0_2 t249 t250 t253 t260 t261 t264 bt268.1 bt268.2.1 bt268.2.2.1)))) = some r := H
    have A9 := Aside0.mk A90
    clear A90
    replace H := Option.bind_eq_some_iff.mp H
    obtain ⟨⟨t268, t269, t272, t275⟩, A100, H⟩ := H
    replace H : ((laws_eqEpochs.f k t268 t269 t272 t249 t250 t253).bind fun t279 => (if t279 = true then ((laws_eqIntS.f k t275 t256).bind fun t280 => (laws_FnExactCollect.j0 k t256 t275 (!t280) a0_0 l0_1 l0_2 t249 t250 t253 t260 t261 t264 t268 t269 t272)) else (laws_FnExactCollect.j0 k t256 t275 true a0_0 l0_1 l0_2 t249 t250 t253 t260 t261 t264 t268 t269 t272))) = some r := H
    have A10 := Aside0.mk A100
    clear A100
    have HC11 := Aside0.mk H
    clear H
    go_enter Try.func12, Try.ntmps12
    go_upto_region 8 with (first | ((with_reducible refine gate_dst (N := 1) rfl ?_); refine box_event ?hg (N := 1) ?hd (cs := #[.int .i64 a0_0, .slice A0_1 l0_1.length c0_1, .slice A0_2 l0_2.length c0_2]) (t := 43) ?hr ?_; (case hd => rfl); (case hg => rfl); (case hr => first | (go_simp; done) | (go_simp; rfl)); intro gb240 hg w12 hbox hb; have n0_ := Aside0.mk (zS (by repeat (first | (with_reducible first | exact HB.out | apply zO | apply zA | apply zN) | exact HB.out)) hb); have n1_ := Aside0.mk (hbox); have n2_ := Aside0.mk ((by rw [hg]; exact (zT (by repeat (first | (with_reducible first | exact HB.out | apply zO | apply zA | apply zN) | exact HB.out))) : w.heap.size ≤ gb240)); have n3_ := Aside0.mk ((by rw [hg]; exact (zT (by repeat (first | (with_reducible first | exact HB.out | apply zO | apply zA | apply zN) | exact HB.out))) : w.heap.size ≤ gb240)); clear HB; have HB := n0_; have BK240 := n1_; have GW240 := n2_; have GE240 := n3_; clear n0_ n1_ n2_ n3_; clear hb hbox hg; have hcz13_0 : w12.cell? ⟨gb240, 0, none⟩ = some (.int .i64 a0_0) := (zP BK240.out 0).trans rfl; have hcz13_1 : w12.cell? ⟨gb240, 1, none⟩ = some (.slice A0_1 l0_1.length c0_1) := (zP BK240.out 1).trans rfl; have hcz13_2 : w12.cell? ⟨gb240, 2, none⟩ = some (.slice A0_2 l0_2.length c0_2) := (zP BK240.out 2).trans rfl; have hfz13_0 := zQ BK240.out 0; have hfz13_1 := zQ BK240.out 1; have hfz13_2 := zQ BK240.out 2) | ((with_reducible refine gate_callee (f := 28) rfl ?_); refine goesL_ (some 16) rfl rfl Try.func28 (by kernel_rfl) rfl #[.agg #[.int .i64 a0_0, .slice A0_1 l0_1.length c0_1, .slice A0_2 l0_2.length c0_2], .int .i64 1048576] rfl (by (try simp only [List.map_toArray, List.map_cons, List.map_nil]); first | done | rfl | (simp only [List.length_drop, List.length_take]; rfl)) ?_; (with_reducible refine (laws_szEpochs.calls a0_0 _ _ l0_1 _ _ l0_2 1048576 t241 _ ?side1 ?side2 ?side3 ?side4 A2.out).mono ?_); (case side1 => repeat (first | exact (Kd.C_below HR0_1.out HB.out) | (with_reducible refine zU ?_ _) | (with_reducible refine zV ?_ _) | (with_reducible refine zW ?_))); (case side2 => exact HC0_1.out); (case side3 => repeat (first | exact (Kd.C_below HR0_2.out HB.out) | (with_reducible refine zU ?_ _) | (with_reducible refine zV ?_ _) | (with_reducible refine zW ?_))); (case side4 => exact HC0_2.out); rintro e w14 ⟨rfl, hb⟩; refine ⟨_, rfl, ?_⟩; have n0_ := Aside0.mk (zR (g := gb240) (o := .cells #[.int .i64 a0_0, .slice A0_1 l0_1.length c0_1, .slice A0_2 l0_2.length c0_2] 43 (0, 0)) (by (with_reducible repeat (first | refine zL ?_ _ | refine zM ?_ | refine zK ?_ _)); exact BK240.out) hb); have n1_ := Aside0.mk (zS (by repeat (first | (with_reducible first | exact HB.out | apply zO | apply zA | apply zN | refine zB ?_ GE240.out) | exact HB.out)) hb); clear BK240; clear HB; have BK240 := n0_; have HB := n1_; clear n0_ n1_; (try clear hb); (try clear hb2); (try clear hk); (try clear hi); have hcz15_0 : w14.cell? ⟨gb240, 0, none⟩ = some (.int .i64 a0_0) := (zP BK240.out 0).trans rfl; have hcz15_1 : w14.cell? ⟨gb240, 1, none⟩ = some (.slice A0_1 l0_1.length c0_1) := (zP BK240.out 1).trans rfl; have hcz15_2 : w14.cell? ⟨gb240, 2, none⟩ = some (.slice A0_2 l0_2.length c0_2) := (zP BK240.out 2).trans rfl; have hfz15_0 := zQ BK240.out 0; have hfz15_1 := zQ BK240.out 1; have hfz15_2 := zQ BK240.out 2) | ((with_reducible refine gate_callee (f := 30) rfl ?_); refine goesL_ (some 21) rfl rfl Try.func30 (by kernel_rfl) rfl #[.agg #[.int .i64 a0_0, .slice A0_1 l0_1.length c0_1, .slice A0_2 l0_2.length c0_2]] rfl (by (try simp only [List.map_toArray, List.map_cons, List.map_nil]); first | done | rfl | (simp only [List.length_drop, List.length_take]; rfl)) ?_; (with_reducible refine (laws_toEpochs.calls k a0_0 _ _ l0_1 _ _ l0_2 t242 t243 t246 _ ?side1 ?side2 ?side3 ?side4 A7.out).mono ?_); (case side1 => repeat (first | exact (Kd.C_below HR0_1.out HB.out) | (with_reducible refine zU ?_ _) | (with_reducible refine zV ?_ _) | (with_reducible refine zW ?_))); (case side2 => exact HC0_1.out); (case side3 => repeat (first | exact (Kd.C_below HR0_2.out HB.out) | (with_reducible refine zU ?_ _) | (with_reducible refine zV ?_ _) | (with_reducible refine zW ?_))); (case side4 => exact HC0_2.out); rintro e w16 ⟨v244, v247, rfl, ho0, ho1, hb⟩; refine ⟨_, rfl, ?_⟩; have n0_ := Aside0.mk (Kd.R_lower ho0 (zT (by repeat (first | (with_reducible first | exact HB.out | apply zO | apply zA | apply zN | refine zB ?_ GE240.out) | exact HB.out)))); have n1_ := Aside0.mk (Kd.R_lower ho1 (zT (by repeat (first | (with_reducible first | exact HB.out | apply zO | apply zA | apply zN | refine zB ?_ GE240.out) | exact HB.out)))); have n2_ := Aside0.mk (zR (g := gb240) (o := .cells #[.int .i64 a0_0, .slice A0_1 l0_1.length c0_1, .slice A0_2 l0_2.length c0_2] 43 (0, 0)) (by (with_reducible repeat (first | refine zL ?_ _ | refine zM ?_ | refine zK ?_ _)); exact BK240.out) hb); have n3_ := Aside0.mk (zS (by repeat (first | (with_reducible first | exact HB.out | apply zO | apply zA | apply zN | refine zB ?_ GE240.out) | exact HB.out)) hb); clear BK240; clear HB; have HO245 := n0_; have HO248 := n1_; have BK240 := n2_; have HB := n3_; clear n0_ n1_ n2_ n3_; (try clear hb); (try clear hb2); (try clear hk); (try clear hi); (try clear ho0); (try clear ho1); obtain ⟨Ao17, co17, eo17⟩ := Kd.R_slice HO245.out; subst eo17; obtain ⟨Ao18, co18, eo18⟩ := Kd.R_slice HO248.out; subst eo18) | ((with_reducible refine gate_callee (f := 38) rfl ?_); refine goesL_ (some 22) rfl rfl Try.func38 (by kernel_rfl) rfl #[.agg #[.int .i64 t242, .slice Ao17 t243.length co17, .slice Ao18 t246.length co18]] rfl (by (try simp only [List.map_toArray, List.map_cons, List.map_nil]); first | done | rfl | (simp only [List.length_drop, List.length_take]; rfl)) ?_; (with_reducible refine (spec_Collect.calls k t242 _ _ t243 _ _ t246 t249 t250 t253 t256 _ ?side1 ?side2 ?side3 ?side4 A8.out).mono ?_); (case side1 => repeat (first | exact (zJ HO245.out).2.2 | (with_reducible refine zU ?_ _) | (with_reducible refine zV ?_ _) | (with_reducible refine zW ?_))); (case side2 => exact (zJ HO245.out).2.1); (case side3 => repeat (first | exact (zJ HO248.out).2.2 | (with_reducible refine zU ?_ _) | (with_reducible refine zV ?_ _) | (with_reducible refine zW ?_))); (case side4 => exact (zJ HO248.out).2.1); rintro e w19 ⟨v251, v254, v257, rfl, ho0, ho1, ho2, hb⟩; refine ⟨_, rfl, ?_⟩; have n0_ := Aside0.mk (zG (Kd.R_told (Kd.R_told (Kd.R_old (by (with_reducible repeat (first | apply zC | apply zD | apply zE)); exact HO245.out) hb) (Kd.R_base ho0)) (Kd.R_base ho2)) (fun _ h_ => h_.1)); have n1_ := Aside0.mk (Kd.R_elder' (by (with_reducible repeat (first | apply zC | apply zD | apply zE)); exact HO248.out) (Kd.R_base ho1) hb); have n2_ := Aside0.mk (Kd.R_lower (Kd.R_new' ho0 (Kd.R_lt (by (with_reducible repeat (first | apply zC | apply zD | apply zE)); exact HO245.out))) (zT (by repeat (first | (with_reducible first | exact HB.out | apply zO | apply zA | apply zN | refine zB ?_ GE240.out) | exact HB.out)))); have n3_ := Aside0.mk (Kd.R_lower (Kd.R_new' ho1 (Kd.R_lt (by (with_reducible repeat (first | apply zC | apply zD | apply zE)); exact HO248.out))) (zT (by repeat (first | (with_reducible first | exact HB.out | apply zO | apply zA | apply zN | refine zB ?_ GE240.out) | exact HB.out)))); have n4_ := Aside0.mk (Kd.R_lower (Kd.R_new' ho2 (Kd.R_lt (by (with_reducible repeat (first | apply zC | apply zD | apply zE)); exact HO245.out))) (zT (by repeat (first | (with_reducible first | exact HB.out | apply zO | apply zA | apply zN | refine zB ?_ GE240.out) | exact HB.out)))); have n5_ := Aside0.mk (zR (g := gb240) (o := .cells #[.int .i64 a0_0, .slice A0_1 l0_1.length c0_1, .slice A0_2 l0_2.length c0_2] 43 (0, 0)) (by (with_reducible repeat (first | refine zL ?_ _ | refine zM ?_ | refine zK ?_ _)); exact BK240.out) hb); have n6_ := Aside0.mk (zS (by repeat (first | (with_reducible first | exact HB.out | apply zO | apply zA | apply zN | refine zB ?_ GE240.out) | exact HB.out)) hb); clear HO245; clear HO248; clear BK240; clear HB; have HO245 := n0_; have HO248 := n1_; have HO252 := n2_; have HO255 := n3_; have HO258 := n4_; have BK240 := n5_; have HB := n6_; clear n0_ n1_ n2_ n3_ n4_ n5_ n6_; (try clear hb); (try clear hb2); (try clear hk); (try clear hi); (try clear ho0); (try clear ho1); (try clear ho2)) | ((with_reducible refine gate_dst (N := 4) rfl ?_); refine box_event ?hg (N := 4) ?hd (cs := #[.int .i64 0, .slice none 0 0, .slice none 0 0]) (t := 27) ?hr ?_; (case hd => rfl); (case hg => rfl); (case hr => first | (go_simp; done) | (go_simp; rfl)); intro gb259 hg w20 hbox hb; have n0_ := Aside0.mk (zH (by (with_reducible repeat (first | apply zC | apply zD | apply zE)); exact HO245.out) hb); have n1_ := Aside0.mk (zH (by (with_reducible repeat (first | apply zC | apply zD | apply zE)); exact HO248.out) hb); have n2_ := Aside0.mk (zH (by (with_reducible repeat (first | apply zC | apply zD | apply zE)); exact HO252.out) hb); have n3_ := Aside0.mk (zH (by (with_reducible repeat (first | apply zC | apply zD | apply zE)); exact HO255.out) hb); have n4_ := Aside0.mk (zH (by (with_reducible repeat (first | apply zC | apply zD | apply zE)); exact HO258.out) hb); have n5_ := Aside0.mk (zR (g := gb240) (o := .cells #[.int .i64 a0_0, .slice A0_1 l0_1.length c0_1, .slice A0_2 l0_2.length c0_2] 43 (0, 0)) (by (with_reducible repeat (first | refine zL ?_ _ | refine zM ?_ | refine zK ?_ _)); exact BK240.out) hb); have n6_ := Aside0.mk (zS (by repeat (first | (with_reducible first | exact HB.out | apply zO | apply zA | apply zN | refine zB ?_ GE240.out) | exact HB.out)) hb); have n7_ := Aside0.mk (hbox); have n8_ := Aside0.mk ((by rw [hg]; exact (zT (by repeat (first | (with_reducible first | exact HB.out | apply zO | apply zA | apply zN | refine zB ?_ GE240.out) | exact HB.out))) : w.heap.size ≤ gb259)); have n9_ := Aside0.mk ((by rw [hg]; exact (zT (by repeat (first | (with_reducible first | exact HB.out | apply zO | apply zA | apply zN | refine zB ?_ GE240.out) | exact HB.out))) : w.heap.size ≤ gb259)); have n10_ := Aside0.mk ((by rw [hg]; exact Nat.ne_of_lt (blk_lt (g := gb240) (o := .cells #[.int .i64 a0_0, .slice A0_1 l0_1.length c0_1, .slice A0_2 l0_2.length c0_2] 43 (0, 0)) (by (with_reducible repeat (first | refine zL ?_ _ | refine zM ?_ | refine zK ?_ _)); exact BK240.out)) : gb240 ≠ gb259)); have n11_ := Aside0.mk ((by rw [hg]; exact Nat.ne_of_gt (blk_lt (g := gb240) (o := .cells #[.int .i64 a0_0, .slice A0_1 l0_1.length c0_1, .slice A0_2 l0_2.length c0_2] 43 (0, 0)) (by (with_reducible repeat (first | refine zL ?_ _ | refine zM ?_ | refine zK ?_ _)); exact BK240.out)) : gb259 ≠ gb240)); clear HO245; clear HO248; clear HO252; clear HO255; clear HO258; clear BK240; clear HB; have HO245 := n0_; have HO248 := n1_; have HO252 := n2_; have HO255 := n3_; have HO258 := n4_; have BK240 := n5_; have HB := n6_; have BK259 := n7_; have GW259 := n8_; have GE259 := n9_; have NB240_259 := n10_; have NB259_240 := n11_; clear n0_ n1_ n2_ n3_ n4_ n5_ n6_ n7_ n8_ n9_ n10_ n11_; clear hb hbox hg; have hnb21 := NB259_240.out; have hnc21 := NB240_259.out; have hcz22_0 : w20.cell? ⟨gb259, 0, none⟩ = some (.int .i64 0) := (zP BK259.out 0).trans rfl; have hcz22_1 : w20.cell? ⟨gb259, 1, none⟩ = some (.slice none 0 0) := (zP BK259.out 1).trans rfl; have hcz22_2 : w20.cell? ⟨gb259, 2, none⟩ = some (.slice none 0 0) := (zP BK259.out 2).trans rfl; have hfz22_0 := zQ BK259.out 0; have hfz22_1 := zQ BK259.out 1; have hfz22_2 := zQ BK259.out 2; obtain ⟨Ao23, co23, eo23⟩ := Kd.R_slice HO252.out; subst eo23; obtain ⟨Ao24, co24, eo24⟩ := Kd.R_slice HO255.out; subst eo24; have hcz25_0 : w20.cell? ⟨gb240, 0, none⟩ = some (.int .i64 a0_0) := (zP BK240.out 0).trans rfl; have hcz25_1 : w20.cell? ⟨gb240, 1, none⟩ = some (.slice A0_1 l0_1.length c0_1) := (zP BK240.out 1).trans rfl; have hcz25_2 : w20.cell? ⟨gb240, 2, none⟩ = some (.slice A0_2 l0_2.length c0_2) := (zP BK240.out 2).trans rfl; have hfz25_0 := zQ BK240.out 0; have hfz25_1 := zQ BK240.out 1; have hfz25_2 := zQ BK240.out 2) | ((with_reducible refine gate_callee (f := 30) rfl ?_); refine goesL_ (some 26) rfl rfl Try.func30 (by kernel_rfl) rfl #[.agg #[.int .i64 a0_0, .slice A0_1 l0_1.length c0_1, .slice A0_2 l0_2.length c0_2]] rfl (by (try simp only [List.map_toArray, List.map_cons, List.map_nil]); first | done | rfl | (simp only [List.length_drop, List.length_take]; rfl)) ?_; (with_reducible refine (laws_toEpochs.calls k a0_0 _ _ l0_1 _ _ l0_2 t260 t261 t264 _ ?side1 ?side2 ?side3 ?side4 A9.out).mono ?_); (case side1 => exact Kd.C_below HR0_1.out (by repeat (first | (with_reducible first | exact HB.out | apply zO | apply zA | apply zN | refine zB ?_ GE240.out | refine zB ?_ GE259.out) | exact HB.out))); (case side2 => exact HC0_1.out); (case side3 => exact Kd.C_below HR0_2.out (by repeat (first | (with_reducible first | exact HB.out | apply zO | apply zA | apply zN | refine zB ?_ GE240.out | refine zB ?_ GE259.out) | exact HB.out))); (case side4 => exact HC0_2.out); rintro e w26 ⟨v262, v265, rfl, ho0, ho1, hb⟩; refine ⟨_, rfl, ?_⟩; have n0_ := Aside0.mk (Kd.R_elder' (by (with_reducible repeat (first | apply zC | apply zD | apply zE)); exact (zG (zF (p := ⟨gb259, 2, none⟩) (zF (p := ⟨gb259, 1, none⟩) (zF (p := ⟨gb259, 0, none⟩) (zI HO245.out BK259.out (by decide)) (fun _ hk => hk.2) (.int .i64 t249)) (fun _ hk => hk.2) (.slice Ao23 t250.length co23)) (fun _ hk => hk.2) (.slice Ao24 t253.length co24)) (fun _ h_ => h_.1))) (Kd.R_base ho0) hb); have n1_ := Aside0.mk (Kd.R_elder' (by (with_reducible repeat (first | apply zC | apply zD | apply zE)); exact (zG (zF (p := ⟨gb259, 2, none⟩) (zF (p := ⟨gb259, 1, none⟩) (zF (p := ⟨gb259, 0, none⟩) (zI HO248.out BK259.out (by decide)) (fun _ hk => hk.2) (.int .i64 t249)) (fun _ hk => hk.2) (.slice Ao23 t250.length co23)) (fun _ hk => hk.2) (.slice Ao24 t253.length co24)) (fun _ h_ => h_.1))) (Kd.R_base ho1) hb); have n2_ := Aside0.mk (Kd.R_elder' (by (with_reducible repeat (first | apply zC | apply zD | apply zE)); exact (zG (zF (p := ⟨gb259, 2, none⟩) (zF (p := ⟨gb259, 1, none⟩) (zF (p := ⟨gb259, 0, none⟩) (zI HO252.out BK259.out (by decide)) (fun _ hk => hk.2) (.int .i64 t249)) (fun _ hk => hk.2) (.slice Ao23 t250.length co23)) (fun _ hk => hk.2) (.slice Ao24 t253.length co24)) (fun _ h_ => h_.1))) (Kd.R_base ho0) hb); have n3_ := Aside0.mk (Kd.R_elder' (by (with_reducible repeat (first | apply zC | apply zD | apply zE)); exact (zG (zF (p := ⟨gb259, 2, none⟩) (zF (p := ⟨gb259, 1, none⟩) (zF (p := ⟨gb259, 0, none⟩) (zI HO255.out BK259.out (by decide)) (fun _ hk => hk.2) (.int .i64 t249)) (fun _ hk => hk.2) (.slice Ao23 t250.length co23)) (fun _ hk => hk.2) (.slice Ao24 t253.length co24)) (fun _ h_ => h_.1))) (Kd.R_base ho1) hb); have n4_ := Aside0.mk (Kd.R_elder' (by (with_reducible repeat (first | apply zC | apply zD | apply zE)); exact (zG (zF (p := ⟨gb259, 2, none⟩) (zF (p := ⟨gb259, 1, none⟩) (zF (p := ⟨gb259, 0, none⟩) (zI HO258.out BK259.out (by decide)) (fun _ hk => hk.2) (.int .i64 t249)) (fun _ hk => hk.2) (.slice Ao23 t250.length co23)) (fun _ hk => hk.2) (.slice Ao24 t253.length co24)) (fun _ h_ => h_.1))) (Kd.R_base ho0) hb); have n5_ := Aside0.mk (Kd.R_lower (Kd.R_new' (Kd.R_new' (Kd.R_new' ho0 (Kd.R_lt (by (with_reducible repeat (first | apply zC | apply zD | apply zE)); exact (zG (zF (p := ⟨gb259, 2, none⟩) (zF (p := ⟨gb259, 1, none⟩) (zF (p := ⟨gb259, 0, none⟩) (zI HO245.out BK259.out (by decide)) (fun _ hk => hk.2) (.int .i64 t249)) (fun _ hk => hk.2) (.slice Ao23 t250.length co23)) (fun _ hk => hk.2) (.slice Ao24 t253.length co24)) (fun _ h_ => h_.1))))) (Kd.R_lt (by (with_reducible repeat (first | apply zC | apply zD | apply zE)); exact (zG (zF (p := ⟨gb259, 2, none⟩) (zF (p := ⟨gb259, 1, none⟩) (zF (p := ⟨gb259, 0, none⟩) (zI HO252.out BK259.out (by decide)) (fun _ hk => hk.2) (.int .i64 t249)) (fun _ hk => hk.2) (.slice Ao23 t250.length co23)) (fun _ hk => hk.2) (.slice Ao24 t253.length co24)) (fun _ h_ => h_.1))))) (Kd.R_lt (by (with_reducible repeat (first | apply zC | apply zD | apply zE)); exact (zG (zF (p := ⟨gb259, 2, none⟩) (zF (p := ⟨gb259, 1, none⟩) (zF (p := ⟨gb259, 0, none⟩) (zI HO258.out BK259.out (by decide)) (fun _ hk => hk.2) (.int .i64 t249)) (fun _ hk => hk.2) (.slice Ao23 t250.length co23)) (fun _ hk => hk.2) (.slice Ao24 t253.length co24)) (fun _ h_ => h_.1))))) (zT (by repeat (first | (with_reducible first | exact HB.out | apply zO | apply zA | apply zN | refine zB ?_ GE240.out | refine zB ?_ GE259.out) | exact HB.out)))); have n6_ := Aside0.mk (Kd.R_lower (Kd.R_new' (Kd.R_new' ho1 (Kd.R_lt (by (with_reducible repeat (first | apply zC | apply zD | apply zE)); exact (zG (zF (p := ⟨gb259, 2, none⟩) (zF (p := ⟨gb259, 1, none⟩) (zF (p := ⟨gb259, 0, none⟩) (zI HO248.out BK259.out (by decide)) (fun _ hk => hk.2) (.int .i64 t249)) (fun _ hk => hk.2) (.slice Ao23 t250.length co23)) (fun _ hk => hk.2) (.slice Ao24 t253.length co24)) (fun _ h_ => h_.1))))) (Kd.R_lt (by (with_reducible repeat (first | apply zC | apply zD | apply zE)); exact (zG (zF (p := ⟨gb259, 2, none⟩) (zF (p := ⟨gb259, 1, none⟩) (zF (p := ⟨gb259, 0, none⟩) (zI HO255.out BK259.out (by decide)) (fun _ hk => hk.2) (.int .i64 t249)) (fun _ hk => hk.2) (.slice Ao23 t250.length co23)) (fun _ hk => hk.2) (.slice Ao24 t253.length co24)) (fun _ h_ => h_.1))))) (zT (by repeat (first | (with_reducible first | exact HB.out | apply zO | apply zA | apply zN | refine zB ?_ GE240.out | refine zB ?_ GE259.out) | exact HB.out)))); have n7_ := Aside0.mk (zR (g := gb240) (o := .cells #[.int .i64 a0_0, .slice A0_1 l0_1.length c0_1, .slice A0_2 l0_2.length c0_2] 43 (0, 0)) (by (with_reducible repeat (first | refine zL ?_ _ | refine zM ?_ | refine zK ?_ _)); refine blk_far ?_ NB240_259.out _; (with_reducible repeat (first | refine zL ?_ _ | refine zM ?_ | refine zK ?_ _)); refine blk_far ?_ NB240_259.out _; (with_reducible repeat (first | refine zL ?_ _ | refine zM ?_ | refine zK ?_ _)); refine blk_far ?_ NB240_259.out _; (with_reducible repeat (first | refine zL ?_ _ | refine zM ?_ | refine zK ?_ _)); exact BK240.out) hb); have n8_ := Aside0.mk (zR (g := gb259) (o := .cells #[.int .i64 t249, .slice Ao23 t250.length co23, .slice Ao24 t253.length co24] 27 (0, 0)) (by (with_reducible repeat (first | refine zL ?_ _ | refine zM ?_ | refine zK ?_ _)); refine blk_put (cs := #[.int .i64 t249, .slice Ao23 t250.length co23, .slice none 0 0]) ?_ 2 _ rfl; (with_reducible repeat (first | refine zL ?_ _ | refine zM ?_ | refine zK ?_ _)); refine blk_put (cs := #[.int .i64 t249, .slice none 0 0, .slice none 0 0]) ?_ 1 _ rfl; (with_reducible repeat (first | refine zL ?_ _ | refine zM ?_ | refine zK ?_ _)); refine blk_put (cs := #[.int .i64 0, .slice none 0 0, .slice none 0 0]) ?_ 0 _ rfl; (with_reducible repeat (first | refine zL ?_ _ | refine zM ?_ | refine zK ?_ _)); exact BK259.out) hb); have n9_ := Aside0.mk (zS (by repeat (first | (with_reducible first | exact HB.out | apply zO | apply zA | apply zN | refine zB ?_ GE240.out | refine zB ?_ GE259.out) | exact HB.out)) hb); clear HO245; clear HO248; clear HO252; clear HO255; clear HO258; clear BK240; clear BK259; clear HB; have HO245 := n0_; have HO248 := n1_; have HO252 := n2_; have HO255 := n3_; have HO258 := n4_; have HO263 := n5_; have HO266 := n6_; have BK240 := n7_; have BK259 := n8_; have HB := n9_; clear n0_ n1_ n2_ n3_ n4_ n5_ n6_ n7_ n8_ n9_; (try clear hb); (try clear hb2); (try clear hk); (try clear hi); (try clear ho0); (try clear ho1)) | ((with_reducible refine gate_dst (N := 6) rfl ?_); refine box_event ?hg (N := 6) ?hd (cs := #[.int .i64 0, .slice none 0 0, .slice none 0 0]) (t := 27) ?hr ?_; (case hd => rfl); (case hg => rfl); (case hr => first | (go_simp; done) | (go_simp; rfl)); intro gb267 hg w27 hbox hb; have n0_ := Aside0.mk (zH (by (with_reducible repeat (first | apply zC | apply zD | apply zE)); exact HO245.out) hb); have n1_ := Aside0.mk (zH (by (with_reducible repeat (first | apply zC | apply zD | apply zE)); exact HO248.out) hb); have n2_ := Aside0.mk (zH (by (with_reducible repeat (first | apply zC | apply zD | apply zE)); exact HO252.out) hb); have n3_ := Aside0.mk (zH (by (with_reducible repeat (first | apply zC | apply zD | apply zE)); exact HO255.out) hb); have n4_ := Aside0.mk (zH (by (with_reducible repeat (first | apply zC | apply zD | apply zE)); exact HO258.out) hb); have n5_ := Aside0.mk (zH (by (with_reducible repeat (first | apply zC | apply zD | apply zE)); exact HO263.out) hb); have n6_ := Aside0.mk (zH (by (with_reducible repeat (first | apply zC | apply zD | apply zE)); exact HO266.out) hb); have n7_ := Aside0.mk (zR (g := gb240) (o := .cells #[.int .i64 a0_0, .slice A0_1 l0_1.length c0_1, .slice A0_2 l0_2.length c0_2] 43 (0, 0)) (by (with_reducible repeat (first | refine zL ?_ _ | refine zM ?_ | refine zK ?_ _)); exact BK240.out) hb); have n8_ := Aside0.mk (zR (g := gb259) (o := .cells #[.int .i64 t249, .slice Ao23 t250.length co23, .slice Ao24 t253.length co24] 27 (0, 0)) (by (with_reducible repeat (first | refine zL ?_ _ | refine zM ?_ | refine zK ?_ _)); exact BK259.out) hb); have n9_ := Aside0.mk (zS (by repeat (first | (with_reducible first | exact HB.out | apply zO | apply zA | apply zN | refine zB ?_ GE240.out | refine zB ?_ GE259.out) | exact HB.out)) hb); have n10_ := Aside0.mk (hbox); have n11_ := Aside0.mk ((by rw [hg]; exact (zT (by repeat (first | (with_reducible first | exact HB.out | apply zO | apply zA | apply zN | refine zB ?_ GE240.out | refine zB ?_ GE259.out) | exact HB.out))) : w.heap.size ≤ gb267)); have n12_ := Aside0.mk ((by rw [hg]; exact (zT (by repeat (first | (with_reducible first | exact HB.out | apply zO | apply zA | apply zN | refine zB ?_ GE240.out | refine zB ?_ GE259.out) | exact HB.out))) : w.heap.size ≤ gb267)); have n13_ := Aside0.mk ((by rw [hg]; exact Nat.ne_of_lt (blk_lt (g := gb240) (o := .cells #[.int .i64 a0_0, .slice A0_1 l0_1.length c0_1, .slice A0_2 l0_2.length c0_2] 43 (0, 0)) (by (with_reducible repeat (first | refine zL ?_ _ | refine zM ?_ | refine zK ?_ _)); exact BK240.out)) : gb240 ≠ gb267)); have n14_ := Aside0.mk ((by rw [hg]; exact Nat.ne_of_gt (blk_lt (g := gb240) (o := .cells #[.int .i64 a0_0, .slice A0_1 l0_1.length c0_1, .slice A0_2 l0_2.length c0_2] 43 (0, 0)) (by (with_reducible repeat (first | refine zL ?_ _ | refine zM ?_ | refine zK ?_ _)); exact BK240.out)) : gb267 ≠ gb240)); have n15_ := Aside0.mk ((by rw [hg]; exact Nat.ne_of_lt (blk_lt (g := gb259) (o := .cells #[.int .i64 t249, .slice Ao23 t250.length co23, .slice Ao24 t253.length co24] 27 (0, 0)) (by (with_reducible repeat (first | refine zL ?_ _ | refine zM ?_ | refine zK ?_ _)); exact BK259.out)) : gb259 ≠ gb267)); have n16_ := Aside0.mk ((by rw [hg]; exact Nat.ne_of_gt (blk_lt (g := gb259) (o := .cells #[.int .i64 t249, .slice Ao23 t250.length co23, .slice Ao24 t253.length co24] 27 (0, 0)) (by (with_reducible repeat (first | refine zL ?_ _ | refine zM ?_ | refine zK ?_ _)); exact BK259.out)) : gb267 ≠ gb259)); clear HO245; clear HO248; clear HO252; clear HO255; clear HO258; clear HO263; clear HO266; clear BK240; clear BK259; clear HB; have HO245 := n0_; have HO248 := n1_; have HO252 := n2_; have HO255 := n3_; have HO258 := n4_; have HO263 := n5_; have HO266 := n6_; have BK240 := n7_; have BK259 := n8_; have HB := n9_; have BK267 := n10_; have GW267 := n11_; have GE267 := n12_; have NB240_267 := n13_; have NB267_240 := n14_; have NB259_267 := n15_; have NB267_259 := n16_; clear n0_ n1_ n2_ n3_ n4_ n5_ n6_ n7_ n8_ n9_ n10_ n11_ n12_ n13_ n14_ n15_ n16_; clear hb hbox hg; have hnb28 := NB267_240.out; have hnc28 := NB240_267.out; have hnb29 := NB267_259.out; have hnc29 := NB259_267.out; have hcz30_0 : w27.cell? ⟨gb267, 0, none⟩ = some (.int .i64 0) := (zP BK267.out 0).trans rfl; have hcz30_1 : w27.cell? ⟨gb267, 1, none⟩ = some (.slice none 0 0) := (zP BK267.out 1).trans rfl; have hcz30_2 : w27.cell? ⟨gb267, 2, none⟩ = some (.slice none 0 0) := (zP BK267.out 2).trans rfl; have hfz30_0 := zQ BK267.out 0; have hfz30_1 := zQ BK267.out 1; have hfz30_2 := zQ BK267.out 2; obtain ⟨Ao31, co31, eo31⟩ := Kd.R_slice HO263.out; subst eo31; obtain ⟨Ao32, co32, eo32⟩ := Kd.R_slice HO266.out; subst eo32) | ((with_reducible refine gate_callee (f := 22) rfl ?_); refine goesL_ (some 29) rfl rfl Try.func22 (by kernel_rfl) rfl #[.agg #[.int .i64 t260, .slice Ao31 t261.length co31, .slice Ao32 t264.length co32]] rfl (by (try simp only [List.map_toArray, List.map_cons, List.map_nil]); first | done | rfl | (simp only [List.length_drop, List.length_take]; rfl)) ?_; (with_reducible refine (impl_Collect.calls k t260 _ _ t261 _ _ t264 t268 t269 t272 t275 _ ?side1 ?side2 ?side3 ?side4 A10.out).mono ?_); (case side1 => refine (zJ (e := 3) (base := w.heap.size) (ok := fun k_ => (((True ∧ some k_ ≠ (.slice Ao17 t243.length co17 : Value).ownBlock) ∧ some k_ ≠ (.slice Ao23 t250.length co23 : Value).ownBlock) ∧ some k_ ≠ (v257 : Value).ownBlock)) (n := t261.length) (c := co31) ?_).2.2; exact (by (with_reducible repeat (first | apply zC | apply zD | apply zE)); exact (zG (zF (p := ⟨gb267, 2, none⟩) (zF (p := ⟨gb267, 1, none⟩) (zF (p := ⟨gb267, 0, none⟩) (zI HO263.out BK267.out (by decide)) (fun _ hk => hk.2) (.int .i64 t260)) (fun _ hk => hk.2) (.slice Ao31 t261.length co31)) (fun _ hk => hk.2) (.slice Ao32 t264.length co32)) (fun _ h_ => h_.1)))); (case side2 => exact (zJ HO263.out).2.1); (case side3 => refine (zJ (e := 58) (base := w.heap.size) (ok := fun k_ => ((True ∧ some k_ ≠ (.slice Ao18 t246.length co18 : Value).ownBlock) ∧ some k_ ≠ (.slice Ao24 t253.length co24 : Value).ownBlock)) (n := t264.length) (c := co32) ?_).2.2; exact (by (with_reducible repeat (first | apply zC | apply zD | apply zE)); exact (zG (zF (p := ⟨gb267, 2, none⟩) (zF (p := ⟨gb267, 1, none⟩) (zF (p := ⟨gb267, 0, none⟩) (zI HO266.out BK267.out (by decide)) (fun _ hk => hk.2) (.int .i64 t260)) (fun _ hk => hk.2) (.slice Ao31 t261.length co31)) (fun _ hk => hk.2) (.slice Ao32 t264.length co32)) (fun _ h_ => h_.1)))); (case side4 => exact (zJ HO266.out).2.1); rintro e w33 ⟨v270, v273, v276, rfl, ho0, ho1, ho2, hb⟩; refine ⟨_, rfl, ?_⟩; have n0_ := Aside0.mk (zG (Kd.R_told (Kd.R_told (Kd.R_old (by (with_reducible repeat (first | apply zC | apply zD | apply zE)); exact (zG (zF (p := ⟨gb267, 2, none⟩) (zF (p := ⟨gb267, 1, none⟩) (zF (p := ⟨gb267, 0, none⟩) (zI HO245.out BK267.out (by decide)) (fun _ hk => hk.2) (.int .i64 t260)) (fun _ hk => hk.2) (.slice Ao31 t261.length co31)) (fun _ hk => hk.2) (.slice Ao32 t264.length co32)) (fun _ h_ => h_.1))) hb) (Kd.R_base ho0)) (Kd.R_base ho2)) (fun _ h_ => h_.1)); have n1_ := Aside0.mk (Kd.R_elder' (by (with_reducible repeat (first | apply zC | apply zD | apply zE)); exact (zG (zF (p := ⟨gb267, 2, none⟩) (zF (p := ⟨gb267, 1, none⟩) (zF (p := ⟨gb267, 0, none⟩) (zI HO248.out BK267.out (by decide)) (fun _ hk => hk.2) (.int .i64 t260)) (fun _ hk => hk.2) (.slice Ao31 t261.length co31)) (fun _ hk => hk.2) (.slice Ao32 t264.length co32)) (fun _ h_ => h_.1))) (Kd.R_base ho1) hb); have n2_ := Aside0.mk (zG (Kd.R_told (Kd.R_told (Kd.R_old (by (with_reducible repeat (first | apply zC | apply zD | apply zE)); exact (zG (zF (p := ⟨gb267, 2, none⟩) (zF (p := ⟨gb267, 1, none⟩) (zF (p := ⟨gb267, 0, none⟩) (zI HO252.out BK267.out (by decide)) (fun _ hk => hk.2) (.int .i64 t260)) (fun _ hk => hk.2) (.slice Ao31 t261.length co31)) (fun _ hk => hk.2) (.slice Ao32 t264.length co32)) (fun _ h_ => h_.1))) hb) (Kd.R_base ho0)) (Kd.R_base ho2)) (fun _ h_ => h_.1)); have n3_ := Aside0.mk (Kd.R_elder' (by (with_reducible repeat (first | apply zC | apply zD | apply zE)); exact (zG (zF (p := ⟨gb267, 2, none⟩) (zF (p := ⟨gb267, 1, none⟩) (zF (p := ⟨gb267, 0, none⟩) (zI HO255.out BK267.out (by decide)) (fun _ hk => hk.2) (.int .i64 t260)) (fun _ hk => hk.2) (.slice Ao31 t261.length co31)) (fun _ hk => hk.2) (.slice Ao32 t264.length co32)) (fun _ h_ => h_.1))) (Kd.R_base ho1) hb); have n4_ := Aside0.mk (zG (Kd.R_told (Kd.R_told (Kd.R_old (by (with_reducible repeat (first | apply zC | apply zD | apply zE)); exact (zG (zF (p := ⟨gb267, 2, none⟩) (zF (p := ⟨gb267, 1, none⟩) (zF (p := ⟨gb267, 0, none⟩) (zI HO258.out BK267.out (by decide)) (fun _ hk => hk.2) (.int .i64 t260)) (fun _ hk => hk.2) (.slice Ao31 t261.length co31)) (fun _ hk => hk.2) (.slice Ao32 t264.length co32)) (fun _ h_ => h_.1))) hb) (Kd.R_base ho0)) (Kd.R_base ho2)) (fun _ h_ => h_.1)); have n5_ := Aside0.mk (zG (Kd.R_told (Kd.R_told (Kd.R_old (by (with_reducible repeat (first | apply zC | apply zD | apply zE)); exact (zG (zF (p := ⟨gb267, 2, none⟩) (zF (p := ⟨gb267, 1, none⟩) (zF (p := ⟨gb267, 0, none⟩) (zI HO263.out BK267.out (by decide)) (fun _ hk => hk.2) (.int .i64 t260)) (fun _ hk => hk.2) (.slice Ao31 t261.length co31)) (fun _ hk => hk.2) (.slice Ao32 t264.length co32)) (fun _ h_ => h_.1))) hb) (Kd.R_base ho0)) (Kd.R_base ho2)) (fun _ h_ => h_.1)); have n6_ := Aside0.mk (Kd.R_elder' (by (with_reducible repeat (first | apply zC | apply zD | apply zE)); exact (zG (zF (p := ⟨gb267, 2, none⟩) (zF (p := ⟨gb267, 1, none⟩) (zF (p := ⟨gb267, 0, none⟩) (zI HO266.out BK267.out (by decide)) (fun _ hk => hk.2) (.int .i64 t260)) (fun _ hk => hk.2) (.slice Ao31 t261.length co31)) (fun _ hk => hk.2) (.slice Ao32 t264.length co32)) (fun _ h_ => h_.1))) (Kd.R_base ho1) hb); have n7_ := Aside0.mk (Kd.R_lower (Kd.R_new' (Kd.R_new' (Kd.R_new' (Kd.R_new' ho0 (Kd.R_lt (by (with_reducible repeat (first | apply zC | apply zD | apply zE)); exact (zG (zF (p := ⟨gb267, 2, none⟩) (zF (p := ⟨gb267, 1, none⟩) (zF (p := ⟨gb267, 0, none⟩) (zI HO245.out BK267.out (by decide)) (fun _ hk => hk.2) (.int .i64 t260)) (fun _ hk => hk.2) (.slice Ao31 t261.length co31)) (fun _ hk => hk.2) (.slice Ao32 t264.length co32)) (fun _ h_ => h_.1))))) (Kd.R_lt (by (with_reducible repeat (first | apply zC | apply zD | apply zE)); exact (zG (zF (p := ⟨gb267, 2, none⟩) (zF (p := ⟨gb267, 1, none⟩) (zF (p := ⟨gb267, 0, none⟩) (zI HO252.out BK267.out (by decide)) (fun _ hk => hk.2) (.int .i64 t260)) (fun _ hk => hk.2) (.slice Ao31 t261.length co31)) (fun _ hk => hk.2) (.slice Ao32 t264.length co32)) (fun _ h_ => h_.1))))) (Kd.R_lt (by (with_reducible repeat (first | apply zC | apply zD | apply zE)); exact (zG (zF (p := ⟨gb267, 2, none⟩) (zF (p := ⟨gb267, 1, none⟩) (zF (p := ⟨gb267, 0, none⟩) (zI HO258.out BK267.out (by decide)) (fun _ hk => hk.2) (.int .i64 t260)) (fun _ hk => hk.2) (.slice Ao31 t261.length co31)) (fun _ hk => hk.2) (.slice Ao32 t264.length co32)) (fun _ h_ => h_.1))))) (Kd.R_lt (by (with_reducible repeat (first | apply zC | apply zD | apply zE)); exact (zG (zF (p := ⟨gb267, 2, none⟩) (zF (p := ⟨gb267, 1, none⟩) (zF (p := ⟨gb267, 0, none⟩) (zI HO263.out BK267.out (by decide)) (fun _ hk => hk.2) (.int .i64 t260)) (fun _ hk => hk.2) (.slice Ao31 t261.length co31)) (fun _ hk => hk.2) (.slice Ao32 t264.length co32)) (fun _ h_ => h_.1))))) (zT (by repeat (first | (with_reducible first | exact HB.out | apply zO | apply zA | apply zN | refine zB ?_ GE240.out | refine zB ?_ GE259.out | refine zB ?_ GE267.out) | exact HB.out)))); have n8_ := Aside0.mk (Kd.R_lower (Kd.R_new' (Kd.R_new' (Kd.R_new' ho1 (Kd.R_lt (by (with_reducible repeat (first | apply zC | apply zD | apply zE)); exact (zG (zF (p := ⟨gb267, 2, none⟩) (zF (p := ⟨gb267, 1, none⟩) (zF (p := ⟨gb267, 0, none⟩) (zI HO248.out BK267.out (by decide)) (fun _ hk => hk.2) (.int .i64 t260)) (fun _ hk => hk.2) (.slice Ao31 t261.length co31)) (fun _ hk => hk.2) (.slice Ao32 t264.length co32)) (fun _ h_ => h_.1))))) (Kd.R_lt (by (with_reducible repeat (first | apply zC | apply zD | apply zE)); exact (zG (zF (p := ⟨gb267, 2, none⟩) (zF (p := ⟨gb267, 1, none⟩) (zF (p := ⟨gb267, 0, none⟩) (zI HO255.out BK267.out (by decide)) (fun _ hk => hk.2) (.int .i64 t260)) (fun _ hk => hk.2) (.slice Ao31 t261.length co31)) (fun _ hk => hk.2) (.slice Ao32 t264.length co32)) (fun _ h_ => h_.1))))) (Kd.R_lt (by (with_reducible repeat (first | apply zC | apply zD | apply zE)); exact (zG (zF (p := ⟨gb267, 2, none⟩) (zF (p := ⟨gb267, 1, none⟩) (zF (p := ⟨gb267, 0, none⟩) (zI HO266.out BK267.out (by decide)) (fun _ hk => hk.2) (.int .i64 t260)) (fun _ hk => hk.2) (.slice Ao31 t261.length co31)) (fun _ hk => hk.2) (.slice Ao32 t264.length co32)) (fun _ h_ => h_.1))))) (zT (by repeat (first | (with_reducible first | exact HB.out | apply zO | apply zA | apply zN | refine zB ?_ GE240.out | refine zB ?_ GE259.out | refine zB ?_ GE267.out) | exact HB.out)))); have n9_ := Aside0.mk (Kd.R_lower (Kd.R_new' (Kd.R_new' (Kd.R_new' (Kd.R_new' ho2 (Kd.R_lt (by (with_reducible repeat (first | apply zC | apply zD | apply zE)); exact (zG (zF (p := ⟨gb267, 2, none⟩) (zF (p := ⟨gb267, 1, none⟩) (zF (p := ⟨gb267, 0, none⟩) (zI HO245.out BK267.out (by decide)) (fun _ hk => hk.2) (.int .i64 t260)) (fun _ hk => hk.2) (.slice Ao31 t261.length co31)) (fun _ hk => hk.2) (.slice Ao32 t264.length co32)) (fun _ h_ => h_.1))))) (Kd.R_lt (by (with_reducible repeat (first | apply zC | apply zD | apply zE)); exact (zG (zF (p := ⟨gb267, 2, none⟩) (zF (p := ⟨gb267, 1, none⟩) (zF (p := ⟨gb267, 0, none⟩) (zI HO252.out BK267.out (by decide)) (fun _ hk => hk.2) (.int .i64 t260)) (fun _ hk => hk.2) (.slice Ao31 t261.length co31)) (fun _ hk => hk.2) (.slice Ao32 t264.length co32)) (fun _ h_ => h_.1))))) (Kd.R_lt (by (with_reducible repeat (first | apply zC | apply zD | apply zE)); exact (zG (zF (p := ⟨gb267, 2, none⟩) (zF (p := ⟨gb267, 1, none⟩) (zF (p := ⟨gb267, 0, none⟩) (zI HO258.out BK267.out (by decide)) (fun _ hk => hk.2) (.int .i64 t260)) (fun _ hk => hk.2) (.slice Ao31 t261.length co31)) (fun _ hk => hk.2) (.slice Ao32 t264.length co32)) (fun _ h_ => h_.1))))) (Kd.R_lt (by (with_reducible repeat (first | apply zC | apply zD | apply zE)); exact (zG (zF (p := ⟨gb267, 2, none⟩) (zF (p := ⟨gb267, 1, none⟩) (zF (p := ⟨gb267, 0, none⟩) (zI HO263.out BK267.out (by decide)) (fun _ hk => hk.2) (.int .i64 t260)) (fun _ hk => hk.2) (.slice Ao31 t261.length co31)) (fun _ hk => hk.2) (.slice Ao32 t264.length co32)) (fun _ h_ => h_.1))))) (zT (by repeat (first | (with_reducible first | exact HB.out | apply zO | apply zA | apply zN | refine zB ?_ GE240.out | refine zB ?_ GE259.out | refine zB ?_ GE267.out) | exact HB.out)))); have n10_ := Aside0.mk (zR (g := gb240) (o := .cells #[.int .i64 a0_0, .slice A0_1 l0_1.length c0_1, .slice A0_2 l0_2.length c0_2] 43 (0, 0)) (by (with_reducible repeat (first | refine zL ?_ _ | refine zM ?_ | refine zK ?_ _)); refine blk_far ?_ NB240_267.out _; (with_reducible repeat (first | refine zL ?_ _ | refine zM ?_ | refine zK ?_ _)); refine blk_far ?_ NB240_267.out _; (with_reducible repeat (first | refine zL ?_ _ | refine zM ?_ | refine zK ?_ _)); refine blk_far ?_ NB240_267.out _; (with_reducible repeat (first | refine zL ?_ _ | refine zM ?_ | refine zK ?_ _)); exact BK240.out) hb); have n11_ := Aside0.mk (zR (g := gb259) (o := .cells #[.int .i64 t249, .slice Ao23 t250.length co23, .slice Ao24 t253.length co24] 27 (0, 0)) (by (with_reducible repeat (first | refine zL ?_ _ | refine zM ?_ | refine zK ?_ _)); refine blk_far ?_ NB259_267.out _; (with_reducible repeat (first | refine zL ?_ _ | refine zM ?_ | refine zK ?_ _)); refine blk_far ?_ NB259_267.out _; (with_reducible repeat (first | refine zL ?_ _ | refine zM ?_ | refine zK ?_ _)); refine blk_far ?_ NB259_267.out _; (with_reducible repeat (first | refine zL ?_ _ | refine zM ?_ | refine zK ?_ _)); exact BK259.out) hb); have n12_ := Aside0.mk (zR (g := gb267) (o := .cells #[.int .i64 t260, .slice Ao31 t261.length co31, .slice Ao32 t264.length co32] 27 (0, 0)) (by (with_reducible repeat (first | refine zL ?_ _ | refine zM ?_ | refine zK ?_ _)); refine blk_put (cs := #[.int .i64 t260, .slice Ao31 t261.length co31, .slice none 0 0]) ?_ 2 _ rfl; (with_reducible repeat (first | refine zL ?_ _ | refine zM ?_ | refine zK ?_ _)); refine blk_put (cs := #[.int .i64 t260, .slice none 0 0, .slice none 0 0]) ?_ 1 _ rfl; (with_reducible repeat (first | refine zL ?_ _ | refine zM ?_ | refine zK ?_ _)); refine blk_put (cs := #[.int .i64 0, .slice none 0 0, .slice none 0 0]) ?_ 0 _ rfl; (with_reducible repeat (first | refine zL ?_ _ | refine zM ?_ | refine zK ?_ _)); exact BK267.out) hb); have n13_ := Aside0.mk (zS (by repeat (first | (with_reducible first | exact HB.out | apply zO | apply zA | apply zN | refine zB ?_ GE240.out | refine zB ?_ GE259.out | refine zB ?_ GE267.out) | exact HB.out)) hb); clear HO245; clear HO248; clear HO252; clear HO255; clear HO258; clear HO263; clear HO266; clear BK240; clear BK259; clear BK267; clear HB; have HO245 := n0_; have HO248 := n1_; have HO252 := n2_; have HO255 := n3_; have HO258 := n4_; have HO263 := n5_; have HO266 := n6_; have HO271 := n7_; have HO274 := n8_; have HO277 := n9_; have BK240 := n10_; have BK259 := n11_; have BK267 := n12_; have HB := n13_; clear n0_ n1_ n2_ n3_ n4_ n5_ n6_ n7_ n8_ n9_ n10_ n11_ n12_ n13_; (try clear hb); (try clear hb2); (try clear hk); (try clear hi); (try clear ho0); (try clear ho1); (try clear ho2)) | ((with_reducible refine gate_dst (N := 7) rfl ?_); refine box_event ?hg (N := 7) ?hd (cs := #[.int .i64 0, .slice none 0 0, .slice none 0 0]) (t := 27) ?hr ?_; (case hd => rfl); (case hg => rfl); (case hr => first | (go_simp; done) | (go_simp; rfl)); intro gb278 hg w34 hbox hb; have n0_ := Aside0.mk (zH (by (with_reducible repeat (first | apply zC | apply zD | apply zE)); exact HO245.out) hb); have n1_ := Aside0.mk (zH (by (with_reducible repeat (first | apply zC | apply zD | apply zE)); exact HO248.out) hb); have n2_ := Aside0.mk (zH (by (with_reducible repeat (first | apply zC | apply zD | apply zE)); exact HO252.out) hb); have n3_ := Aside0.mk (zH (by (with_reducible repeat (first | apply zC | apply zD | apply zE)); exact HO255.out) hb); have n4_ := Aside0.mk (zH (by (with_reducible repeat (first | apply zC | apply zD | apply zE)); exact HO258.out) hb); have n5_ := Aside0.mk (zH (by (with_reducible repeat (first | apply zC | apply zD | apply zE)); exact HO263.out) hb); have n6_ := Aside0.mk (zH (by (with_reducible repeat (first | apply zC | apply zD | apply zE)); exact HO266.out) hb); have n7_ := Aside0.mk (zH (by (with_reducible repeat (first | apply zC | apply zD | apply zE)); exact HO271.out) hb); have n8_ := Aside0.mk (zH (by (with_reducible repeat (first | apply zC | apply zD | apply zE)); exact HO274.out) hb); have n9_ := Aside0.mk (zH (by (with_reducible repeat (first | apply zC | apply zD | apply zE)); exact HO277.out) hb); have n10_ := Aside0.mk (zR (g := gb240) (o := .cells #[.int .i64 a0_0, .slice A0_1 l0_1.length c0_1, .slice A0_2 l0_2.length c0_2] 43 (0, 0)) (by (with_reducible repeat (first | refine zL ?_ _ | refine zM ?_ | refine zK ?_ _)); exact BK240.out) hb); have n11_ := Aside0.mk (zR (g := gb259) (o := .cells #[.int .i64 t249, .slice Ao23 t250.length co23, .slice Ao24 t253.length co24] 27 (0, 0)) (by (with_reducible repeat (first | refine zL ?_ _ | refine zM ?_ | refine zK ?_ _)); exact BK259.out) hb); have n12_ := Aside0.mk (zR (g := gb267) (o := .cells #[.int .i64 t260, .slice Ao31 t261.length co31, .slice Ao32 t264.length co32] 27 (0, 0)) (by (with_reducible repeat (first | refine zL ?_ _ | refine zM ?_ | refine zK ?_ _)); exact BK267.out) hb); have n13_ := Aside0.mk (zS (by repeat (first | (with_reducible first | exact HB.out | apply zO | apply zA | apply zN | refine zB ?_ GE240.out | refine zB ?_ GE259.out | refine zB ?_ GE267.out) | exact HB.out)) hb); have n14_ := Aside0.mk (hbox); have n15_ := Aside0.mk ((by rw [hg]; exact (zT (by repeat (first | (with_reducible first | exact HB.out | apply zO | apply zA | apply zN | refine zB ?_ GE240.out | refine zB ?_ GE259.out | refine zB ?_ GE267.out) | exact HB.out))) : w.heap.size ≤ gb278)); have n16_ := Aside0.mk ((by rw [hg]; exact (zT (by repeat (first | (with_reducible first | exact HB.out | apply zO | apply zA | apply zN | refine zB ?_ GE240.out | refine zB ?_ GE259.out | refine zB ?_ GE267.out) | exact HB.out))) : w.heap.size ≤ gb278)); have n17_ := Aside0.mk ((by rw [hg]; exact Nat.ne_of_lt (blk_lt (g := gb240) (o := .cells #[.int .i64 a0_0, .slice A0_1 l0_1.length c0_1, .slice A0_2 l0_2.length c0_2] 43 (0, 0)) (by (with_reducible repeat (first | refine zL ?_ _ | refine zM ?_ | refine zK ?_ _)); exact BK240.out)) : gb240 ≠ gb278)); have n18_ := Aside0.mk ((by rw [hg]; exact Nat.ne_of_gt (blk_lt (g := gb240) (o := .cells #[.int .i64 a0_0, .slice A0_1 l0_1.length c0_1, .slice A0_2 l0_2.length c0_2] 43 (0, 0)) (by (with_reducible repeat (first | refine zL ?_ _ | refine zM ?_ | refine zK ?_ _)); exact BK240.out)) : gb278 ≠ gb240)); have n19_ := Aside0.mk ((by rw [hg]; exact Nat.ne_of_lt (blk_lt (g := gb259) (o := .cells #[.int .i64 t249, .slice Ao23 t250.length co23, .slice Ao24 t253.length co24] 27 (0, 0)) (by (with_reducible repeat (first | refine zL ?_ _ | refine zM ?_ | refine zK ?_ _)); exact BK259.out)) : gb259 ≠ gb278)); have n20_ := Aside0.mk ((by rw [hg]; exact Nat.ne_of_gt (blk_lt (g := gb259) (o := .cells #[.int .i64 t249, .slice Ao23 t250.length co23, .slice Ao24 t253.length co24] 27 (0, 0)) (by (with_reducible repeat (first | refine zL ?_ _ | refine zM ?_ | refine zK ?_ _)); exact BK259.out)) : gb278 ≠ gb259)); have n21_ := Aside0.mk ((by rw [hg]; exact Nat.ne_of_lt (blk_lt (g := gb267) (o := .cells #[.int .i64 t260, .slice Ao31 t261.length co31, .slice Ao32 t264.length co32] 27 (0, 0)) (by (with_reducible repeat (first | refine zL ?_ _ | refine zM ?_ | refine zK ?_ _)); exact BK267.out)) : gb267 ≠ gb278)); have n22_ := Aside0.mk ((by rw [hg]; exact Nat.ne_of_gt (blk_lt (g := gb267) (o := .cells #[.int .i64 t260, .slice Ao31 t261.length co31, .slice Ao32 t264.length co32] 27 (0, 0)) (by (with_reducible repeat (first | refine zL ?_ _ | refine zM ?_ | refine zK ?_ _)); exact BK267.out)) : gb278 ≠ gb267)); clear HO245; clear HO248; clear HO252; clear HO255; clear HO258; clear HO263; clear HO266; clear HO271; clear HO274; clear HO277; clear BK240; clear BK259; clear BK267; clear HB; have HO245 := n0_; have HO248 := n1_; have HO252 := n2_; have HO255 := n3_; have HO258 := n4_; have HO263 := n5_; have HO266 := n6_; have HO271 := n7_; have HO274 := n8_; have HO277 := n9_; have BK240 := n10_; have BK259 := n11_; have BK267 := n12_; have HB := n13_; have BK278 := n14_; have GW278 := n15_; have GE278 := n16_; have NB240_278 := n17_; have NB278_240 := n18_; have NB259_278 := n19_; have NB278_259 := n20_; have NB267_278 := n21_; have NB278_267 := n22_; clear n0_ n1_ n2_ n3_ n4_ n5_ n6_ n7_ n8_ n9_ n10_ n11_ n12_ n13_ n14_ n15_ n16_ n17_ n18_ n19_ n20_ n21_ n22_; clear hb hbox hg; have hnb35 := NB278_240.out; have hnc35 := NB240_278.out; have hnb36 := NB278_259.out; have hnc36 := NB259_278.out; have hnb37 := NB278_267.out; have hnc37 := NB267_278.out; have hcz38_0 : w34.cell? ⟨gb278, 0, none⟩ = some (.int .i64 0) := (zP BK278.out 0).trans rfl; have hcz38_1 : w34.cell? ⟨gb278, 1, none⟩ = some (.slice none 0 0) := (zP BK278.out 1).trans rfl; have hcz38_2 : w34.cell? ⟨gb278, 2, none⟩ = some (.slice none 0 0) := (zP BK278.out 2).trans rfl; have hfz38_0 := zQ BK278.out 0; have hfz38_1 := zQ BK278.out 1; have hfz38_2 := zQ BK278.out 2; obtain ⟨Ao39, co39, eo39⟩ := Kd.R_slice HO271.out; subst eo39; obtain ⟨Ao40, co40, eo40⟩ := Kd.R_slice HO274.out; subst eo40))
    (try simp only [Act.put, List.setIfInBounds_toArray, List.set_cons_zero, List.set_cons_succ])
    go_cut [41] (fun v41 wc => ∃ (kq : Nat) (x41_10 : Bool), v41 = .bool x41_10 ∧ Aside0 (laws_FnExactCollect.j0 kq t256 t275 x41_10 a0_0 l0_1 l0_2 t249 t250 t253 t260 t261 t264 t268 t269 t272 = some r) ∧ Aside0 (kq ≤ k) ∧ Aside0 (Kd.R (Kd.int .i64) 3 wc w.heap.size (fun k_ => some k_ ≠ (v276 : Value).ownBlock ∧ some k_ ≠ ((.slice Ao23 t250.length co23) : Value).ownBlock ∧ some k_ ≠ ((.slice Ao31 t261.length co31) : Value).ownBlock ∧ some k_ ≠ ((.slice Ao39 t269.length co39) : Value).ownBlock) v257 t256) ∧ Aside0 (Kd.R (Kd.int .i64) 3 wc w.heap.size (fun k_ => some k_ ≠ (v257 : Value).ownBlock ∧ some k_ ≠ ((.slice Ao23 t250.length co23) : Value).ownBlock ∧ some k_ ≠ ((.slice Ao31 t261.length co31) : Value).ownBlock ∧ some k_ ≠ ((.slice Ao39 t269.length co39) : Value).ownBlock) v276 t275) ∧ Aside0 (Kd.R (Kd.int .i64) 3 wc w.heap.size (fun k_ => some k_ ≠ (v257 : Value).ownBlock ∧ some k_ ≠ (v276 : Value).ownBlock ∧ some k_ ≠ ((.slice Ao31 t261.length co31) : Value).ownBlock ∧ some k_ ≠ ((.slice Ao39 t269.length co39) : Value).ownBlock) (.slice Ao23 t250.length co23) t250) ∧ Aside0 (Kd.R k58 58 wc w.heap.size (fun k_ => some k_ ≠ ((.slice Ao32 t264.length co32) : Value).ownBlock ∧ some k_ ≠ ((.slice Ao40 t272.length co40) : Value).ownBlock) (.slice Ao24 t253.length co24) t253) ∧ Aside0 (Kd.R (Kd.int .i64) 3 wc w.heap.size (fun k_ => some k_ ≠ (v257 : Value).ownBlock ∧ some k_ ≠ (v276 : Value).ownBlock ∧ some k_ ≠ ((.slice Ao23 t250.length co23) : Value).ownBlock ∧ some k_ ≠ ((.slice Ao39 t269.length co39) : Value).ownBlock) (.slice Ao31 t261.length co31) t261) ∧ Aside0 (Kd.R k58 58 wc w.heap.size (fun k_ => some k_ ≠ ((.slice Ao24 t253.length co24) : Value).ownBlock ∧ some k_ ≠ ((.slice Ao40 t272.length co40) : Value).ownBlock) (.slice Ao32 t264.length co32) t264) ∧ Aside0 (Kd.R (Kd.int .i64) 3 wc w.heap.size (fun k_ => some k_ ≠ (v257 : Value).ownBlock ∧ some k_ ≠ (v276 : Value).ownBlock ∧ some k_ ≠ ((.slice Ao23 t250.length co23) : Value).ownBlock ∧ some k_ ≠ ((.slice Ao31 t261.length co31) : Value).ownBlock) (.slice Ao39 t269.length co39) t269) ∧ Aside0 (Kd.R k58 58 wc w.heap.size (fun k_ => some k_ ≠ ((.slice Ao24 t253.length co24) : Value).ownBlock ∧ some k_ ≠ ((.slice Ao32 t264.length co32) : Value).ownBlock) (.slice Ao40 t272.length co40) t272) ∧ Aside0 (wc.heap[gb240]? = some (.cells #[.int .i64 a0_0, (.slice A0_1 l0_1.length c0_1), (.slice A0_2 l0_2.length c0_2)] 43 (0, 0))) ∧ Aside0 (wc.heap[gb259]? = some (.cells #[.int .i64 t249, (.slice Ao23 t250.length co23), (.slice Ao24 t253.length co24)] 27 (0, 0))) ∧ Aside0 (wc.heap[gb267]? = some (.cells #[.int .i64 t260, (.slice Ao31 t261.length co31), (.slice Ao32 t264.length co32)] 27 (0, 0))) ∧ Aside0 (wc.heap[gb278]? = some (.cells #[.int .i64 t268, (.slice Ao39 t269.length co39), (.slice Ao40 t272.length co40)] 27 (0, 0))) ∧ Aside0 (Below w.heap.size w wc))
    case first =>
      have H := HC11.out
      clear HC11
      replace H := Option.bind_eq_some_iff.mp H
      obtain ⟨t279, A410, H⟩ := H
      replace H : (if t279 = true then ((laws_eqIntS.f k t275 t256).bind fun t280 => (laws_FnExactCollect.j0 k t256 t275 (!t280) a0_0 l0_1 l0_2 t249 t250 t253 t260 t261 t264 t268 t269 t272)) else (laws_FnExactCollect.j0 k t256 t275 true a0_0 l0_1 l0_2 t249 t250 t253 t260 t261 t264 t268 t269 t272)) = some r := H
      have A41 := Aside0.mk A410
      clear A410
      by_cases c42 : t279 = true
      · subst c42
        have H1 : ((laws_eqIntS.f k t275 t256).bind fun t280 => (laws_FnExactCollect.j0 k t256 t275 (!t280) a0_0 l0_1 l0_2 t249 t250 t253 t260 t261 t264 t268 t269 t272)) = some r := by rw [if_pos rfl] at H; exact H
        clear H
        have H := H1
        clear H1
        replace H := Option.bind_eq_some_iff.mp H
        obtain ⟨t280, A430, H⟩ := H
        replace H : (laws_FnExactCollect.j0 k t256 t275 (!t280) a0_0 l0_1 l0_2 t249 t250 t253 t260 t261 t264 t268 t269 t272) = some r := H
        have A43 := Aside0.mk A430
        clear A430
        have H' := Aside0.mk H
        clear H
        have hnb44 := NB278_240.out
        have hnc44 := NB240_278.out
        have hnb45 := NB278_259.out
        have hnc45 := NB259_278.out
        have hnb46 := NB278_267.out
        have hnc46 := NB267_278.out
        have hcz47_0 : w34.cell? ⟨gb278, 0, none⟩ = some (.int .i64 0) := (zP BK278.out 0).trans rfl
        have hcz47_1 : w34.cell? ⟨gb278, 1, none⟩ = some (.slice none 0 0) := (zP BK278.out 1).trans rfl
        have hcz47_2 : w34.cell? ⟨gb278, 2, none⟩ = some (.slice none 0 0) := (zP BK278.out 2).trans rfl
        have hfz47_0 := zQ BK278.out 0
        have hfz47_1 := zQ BK278.out 1
        have hfz47_2 := zQ BK278.out 2
        have hnb48 := NB259_240.out
        have hnc48 := NB240_259.out
        have hnb49 := NB259_267.out
        have hnc49 := NB267_259.out
        have hcz50_0 : w34.cell? ⟨gb259, 0, none⟩ = some (.int .i64 t249) := (zP BK259.out 0).trans rfl
        have hcz50_1 : w34.cell? ⟨gb259, 1, none⟩ = some (.slice Ao23 t250.length co23) := (zP BK259.out 1).trans rfl
        have hcz50_2 : w34.cell? ⟨gb259, 2, none⟩ = some (.slice Ao24 t253.length co24) := (zP BK259.out 2).trans rfl
        have hfz50_0 := zQ BK259.out 0
        have hfz50_1 := zQ BK259.out 1
        have hfz50_2 := zQ BK259.out 2
        go_wp2_with (first | ((with_reducible refine gate_callee (f := 25) rfl ?_); refine goesL_ (some 34) rfl rfl Try.func25 (by kernel_rfl) rfl #[.agg #[.int .i64 t268, .slice Ao39 t269.length co39, .slice Ao40 t272.length co40], .agg #[.int .i64 t249, .slice Ao23 t250.length co23, .slice Ao24 t253.length co24]] rfl (by (try simp only [List.map_toArray, List.map_cons, List.map_nil]); first | done | rfl | (simp only [List.length_drop, List.length_take]; rfl)) ?_; (with_reducible refine (laws_eqEpochs.calls k t268 _ _ t269 _ _ t272 t249 _ _ t250 _ _ t253 true _ ?side1 ?side2 ?side3 ?side4 ?side5 ?side6 ?side7 ?side8 A41.out).mono ?_); (case side1 => refine (zJ (e := 3) (base := w.heap.size) (ok := fun k_ => ((((some k_ ≠ (v276 : Value).ownBlock ∧ some k_ ≠ (.slice Ao17 t243.length co17 : Value).ownBlock) ∧ some k_ ≠ (.slice Ao23 t250.length co23 : Value).ownBlock) ∧ some k_ ≠ (v257 : Value).ownBlock) ∧ some k_ ≠ (.slice Ao31 t261.length co31 : Value).ownBlock)) (n := t269.length) (c := co39) ?_).2.2; exact (by (with_reducible repeat (first | apply zC | apply zD | apply zE)); exact (zG (zF (p := ⟨gb278, 2, none⟩) (zF (p := ⟨gb278, 1, none⟩) (zF (p := ⟨gb278, 0, none⟩) (zI HO271.out BK278.out (by decide)) (fun _ hk => hk.2) (.int .i64 t268)) (fun _ hk => hk.2) (.slice Ao39 t269.length co39)) (fun _ hk => hk.2) (.slice Ao40 t272.length co40)) (fun _ h_ => h_.1)))); (case side2 => exact (zJ HO271.out).2.1); (case side3 => refine (zJ (e := 58) (base := w.heap.size) (ok := fun k_ => (((True ∧ some k_ ≠ (.slice Ao18 t246.length co18 : Value).ownBlock) ∧ some k_ ≠ (.slice Ao24 t253.length co24 : Value).ownBlock) ∧ some k_ ≠ (.slice Ao32 t264.length co32 : Value).ownBlock)) (n := t272.length) (c := co40) ?_).2.2; exact (by (with_reducible repeat (first | apply zC | apply zD | apply zE)); exact (zG (zF (p := ⟨gb278, 2, none⟩) (zF (p := ⟨gb278, 1, none⟩) (zF (p := ⟨gb278, 0, none⟩) (zI HO274.out BK278.out (by decide)) (fun _ hk => hk.2) (.int .i64 t268)) (fun _ hk => hk.2) (.slice Ao39 t269.length co39)) (fun _ hk => hk.2) (.slice Ao40 t272.length co40)) (fun _ h_ => h_.1)))); (case side4 => exact (zJ HO274.out).2.1); (case side5 => refine (zJ (e := 3) (base := w.heap.size) (ok := fun k_ => ((((some k_ ≠ (v257 : Value).ownBlock ∧ some k_ ≠ (.slice Ao17 t243.length co17 : Value).ownBlock) ∧ some k_ ≠ (.slice Ao31 t261.length co31 : Value).ownBlock) ∧ some k_ ≠ (.slice Ao39 t269.length co39 : Value).ownBlock) ∧ some k_ ≠ (v276 : Value).ownBlock)) (n := t250.length) (c := co23) ?_).2.2; exact (by (with_reducible repeat (first | apply zC | apply zD | apply zE)); exact (zG (zF (p := ⟨gb278, 2, none⟩) (zF (p := ⟨gb278, 1, none⟩) (zF (p := ⟨gb278, 0, none⟩) (zI HO252.out BK278.out (by decide)) (fun _ hk => hk.2) (.int .i64 t268)) (fun _ hk => hk.2) (.slice Ao39 t269.length co39)) (fun _ hk => hk.2) (.slice Ao40 t272.length co40)) (fun _ h_ => h_.1)))); (case side6 => exact (zJ HO252.out).2.1); (case side7 => refine (zJ (e := 58) (base := w.heap.size) (ok := fun k_ => (((True ∧ some k_ ≠ (.slice Ao18 t246.length co18 : Value).ownBlock) ∧ some k_ ≠ (.slice Ao32 t264.length co32 : Value).ownBlock) ∧ some k_ ≠ (.slice Ao40 t272.length co40 : Value).ownBlock)) (n := t253.length) (c := co24) ?_).2.2; exact (by (with_reducible repeat (first | apply zC | apply zD | apply zE)); exact (zG (zF (p := ⟨gb278, 2, none⟩) (zF (p := ⟨gb278, 1, none⟩) (zF (p := ⟨gb278, 0, none⟩) (zI HO255.out BK278.out (by decide)) (fun _ hk => hk.2) (.int .i64 t268)) (fun _ hk => hk.2) (.slice Ao39 t269.length co39)) (fun _ hk => hk.2) (.slice Ao40 t272.length co40)) (fun _ h_ => h_.1)))); (case side8 => exact (zJ HO255.out).2.1); rintro e w51 ⟨rfl, hb⟩; refine ⟨_, rfl, ?_⟩; have n0_ := Aside0.mk (zH (by (with_reducible repeat (first | apply zC | apply zD | apply zE)); exact (zG (zF (p := ⟨gb278, 2, none⟩) (zF (p := ⟨gb278, 1, none⟩) (zF (p := ⟨gb278, 0, none⟩) (zI HO245.out BK278.out (by decide)) (fun _ hk => hk.2) (.int .i64 t268)) (fun _ hk => hk.2) (.slice Ao39 t269.length co39)) (fun _ hk => hk.2) (.slice Ao40 t272.length co40)) (fun _ h_ => h_.1))) hb); have n1_ := Aside0.mk (zH (by (with_reducible repeat (first | apply zC | apply zD | apply zE)); exact (zG (zF (p := ⟨gb278, 2, none⟩) (zF (p := ⟨gb278, 1, none⟩) (zF (p := ⟨gb278, 0, none⟩) (zI HO248.out BK278.out (by decide)) (fun _ hk => hk.2) (.int .i64 t268)) (fun _ hk => hk.2) (.slice Ao39 t269.length co39)) (fun _ hk => hk.2) (.slice Ao40 t272.length co40)) (fun _ h_ => h_.1))) hb); have n2_ := Aside0.mk (zH (by (with_reducible repeat (first | apply zC | apply zD | apply zE)); exact (zG (zF (p := ⟨gb278, 2, none⟩) (zF (p := ⟨gb278, 1, none⟩) (zF (p := ⟨gb278, 0, none⟩) (zI HO252.out BK278.out (by decide)) (fun _ hk => hk.2) (.int .i64 t268)) (fun _ hk => hk.2) (.slice Ao39 t269.length co39)) (fun _ hk => hk.2) (.slice Ao40 t272.length co40)) (fun _ h_ => h_.1))) hb); have n3_ := Aside0.mk (zH (by (with_reducible repeat (first | apply zC | apply zD | apply zE)); exact (zG (zF (p := ⟨gb278, 2, none⟩) (zF (p := ⟨gb278, 1, none⟩) (zF (p := ⟨gb278, 0, none⟩) (zI HO255.out BK278.out (by decide)) (fun _ hk => hk.2) (.int .i64 t268)) (fun _ hk => hk.2) (.slice Ao39 t269.length co39)) (fun _ hk => hk.2) (.slice Ao40 t272.length co40)) (fun _ h_ => h_.1))) hb); have n4_ := Aside0.mk (zH (by (with_reducible repeat (first | apply zC | apply zD | apply zE)); exact (zG (zF (p := ⟨gb278, 2, none⟩) (zF (p := ⟨gb278, 1, none⟩) (zF (p := ⟨gb278, 0, none⟩) (zI HO258.out BK278.out (by decide)) (fun _ hk => hk.2) (.int .i64 t268)) (fun _ hk => hk.2) (.slice Ao39 t269.length co39)) (fun _ hk => hk.2) (.slice Ao40 t272.length co40)) (fun _ h_ => h_.1))) hb); have n5_ := Aside0.mk (zH (by (with_reducible repeat (first | apply zC | apply zD | apply zE)); exact (zG (zF (p := ⟨gb278, 2, none⟩) (zF (p := ⟨gb278, 1, none⟩) (zF (p := ⟨gb278, 0, none⟩) (zI HO263.out BK278.out (by decide)) (fun _ hk => hk.2) (.int .i64 t268)) (fun _ hk => hk.2) (.slice Ao39 t269.length co39)) (fun _ hk => hk.2) (.slice Ao40 t272.length co40)) (fun _ h_ => h_.1))) hb); have n6_ := Aside0.mk (zH (by (with_reducible repeat (first | apply zC | apply zD | apply zE)); exact (zG (zF (p := ⟨gb278, 2, none⟩) (zF (p := ⟨gb278, 1, none⟩) (zF (p := ⟨gb278, 0, none⟩) (zI HO266.out BK278.out (by decide)) (fun _ hk => hk.2) (.int .i64 t268)) (fun _ hk => hk.2) (.slice Ao39 t269.length co39)) (fun _ hk => hk.2) (.slice Ao40 t272.length co40)) (fun _ h_ => h_.1))) hb); have n7_ := Aside0.mk (zH (by (with_reducible repeat (first | apply zC | apply zD | apply zE)); exact (zG (zF (p := ⟨gb278, 2, none⟩) (zF (p := ⟨gb278, 1, none⟩) (zF (p := ⟨gb278, 0, none⟩) (zI HO271.out BK278.out (by decide)) (fun _ hk => hk.2) (.int .i64 t268)) (fun _ hk => hk.2) (.slice Ao39 t269.length co39)) (fun _ hk => hk.2) (.slice Ao40 t272.length co40)) (fun _ h_ => h_.1))) hb); have n8_ := Aside0.mk (zH (by (with_reducible repeat (first | apply zC | apply zD | apply zE)); exact (zG (zF (p := ⟨gb278, 2, none⟩) (zF (p := ⟨gb278, 1, none⟩) (zF (p := ⟨gb278, 0, none⟩) (zI HO274.out BK278.out (by decide)) (fun _ hk => hk.2) (.int .i64 t268)) (fun _ hk => hk.2) (.slice Ao39 t269.length co39)) (fun _ hk => hk.2) (.slice Ao40 t272.length co40)) (fun _ h_ => h_.1))) hb); have n9_ := Aside0.mk (zH (by (with_reducible repeat (first | apply zC | apply zD | apply zE)); exact (zG (zF (p := ⟨gb278, 2, none⟩) (zF (p := ⟨gb278, 1, none⟩) (zF (p := ⟨gb278, 0, none⟩) (zI HO277.out BK278.out (by decide)) (fun _ hk => hk.2) (.int .i64 t268)) (fun _ hk => hk.2) (.slice Ao39 t269.length co39)) (fun _ hk => hk.2) (.slice Ao40 t272.length co40)) (fun _ h_ => h_.1))) hb); have n10_ := Aside0.mk (zR (g := gb240) (o := .cells #[.int .i64 a0_0, .slice A0_1 l0_1.length c0_1, .slice A0_2 l0_2.length c0_2] 43 (0, 0)) (by (with_reducible repeat (first | refine zL ?_ _ | refine zM ?_ | refine zK ?_ _)); refine blk_far ?_ NB240_278.out _; (with_reducible repeat (first | refine zL ?_ _ | refine zM ?_ | refine zK ?_ _)); refine blk_far ?_ NB240_278.out _; (with_reducible repeat (first | refine zL ?_ _ | refine zM ?_ | refine zK ?_ _)); refine blk_far ?_ NB240_278.out _; (with_reducible repeat (first | refine zL ?_ _ | refine zM ?_ | refine zK ?_ _)); exact BK240.out) hb); have n11_ := Aside0.mk (zR (g := gb259) (o := .cells #[.int .i64 t249, .slice Ao23 t250.length co23, .slice Ao24 t253.length co24] 27 (0, 0)) (by (with_reducible repeat (first | refine zL ?_ _ | refine zM ?_ | refine zK ?_ _)); refine blk_far ?_ NB259_278.out _; (with_reducible repeat (first | refine zL ?_ _ | refine zM ?_ | refine zK ?_ _)); refine blk_far ?_ NB259_278.out _; (with_reducible repeat (first | refine zL ?_ _ | refine zM ?_ | refine zK ?_ _)); refine blk_far ?_ NB259_278.out _; (with_reducible repeat (first | refine zL ?_ _ | refine zM ?_ | refine zK ?_ _)); exact BK259.out) hb); have n12_ := Aside0.mk (zR (g := gb267) (o := .cells #[.int .i64 t260, .slice Ao31 t261.length co31, .slice Ao32 t264.length co32] 27 (0, 0)) (by (with_reducible repeat (first | refine zL ?_ _ | refine zM ?_ | refine zK ?_ _)); refine blk_far ?_ NB267_278.out _; (with_reducible repeat (first | refine zL ?_ _ | refine zM ?_ | refine zK ?_ _)); refine blk_far ?_ NB267_278.out _; (with_reducible repeat (first | refine zL ?_ _ | refine zM ?_ | refine zK ?_ _)); refine blk_far ?_ NB267_278.out _; (with_reducible repeat (first | refine zL ?_ _ | refine zM ?_ | refine zK ?_ _)); exact BK267.out) hb); have n13_ := Aside0.mk (zR (g := gb278) (o := .cells #[.int .i64 t268, .slice Ao39 t269.length co39, .slice Ao40 t272.length co40] 27 (0, 0)) (by (with_reducible repeat (first | refine zL ?_ _ | refine zM ?_ | refine zK ?_ _)); refine blk_put (cs := #[.int .i64 t268, .slice Ao39 t269.length co39, .slice none 0 0]) ?_ 2 _ rfl; (with_reducible repeat (first | refine zL ?_ _ | refine zM ?_ | refine zK ?_ _)); refine blk_put (cs := #[.int .i64 t268, .slice none 0 0, .slice none 0 0]) ?_ 1 _ rfl; (with_reducible repeat (first | refine zL ?_ _ | refine zM ?_ | refine zK ?_ _)); refine blk_put (cs := #[.int .i64 0, .slice none 0 0, .slice none 0 0]) ?_ 0 _ rfl; (with_reducible repeat (first | refine zL ?_ _ | refine zM ?_ | refine zK ?_ _)); exact BK278.out) hb); have n14_ := Aside0.mk (zS (by repeat (first | (with_reducible first | exact HB.out | apply zO | apply zA | apply zN | refine zB ?_ GE240.out | refine zB ?_ GE259.out | refine zB ?_ GE267.out | refine zB ?_ GE278.out) | exact HB.out)) hb); clear HO245; clear HO248; clear HO252; clear HO255; clear HO258; clear HO263; clear HO266; clear HO271; clear HO274; clear HO277; clear BK240; clear BK259; clear BK267; clear BK278; clear HB; have HO245 := n0_; have HO248 := n1_; have HO252 := n2_; have HO255 := n3_; have HO258 := n4_; have HO263 := n5_; have HO266 := n6_; have HO271 := n7_; have HO274 := n8_; have HO277 := n9_; have BK240 := n10_; have BK259 := n11_; have BK267 := n12_; have BK278 := n13_; have HB := n14_; clear n0_ n1_ n2_ n3_ n4_ n5_ n6_ n7_ n8_ n9_ n10_ n11_ n12_ n13_ n14_; (try clear hb); (try clear hb2); (try clear hk); (try clear hi); obtain ⟨Ao52, co52, eo52⟩ := Kd.R_slice HO277.out; subst eo52; obtain ⟨Ao53, co53, eo53⟩ := Kd.R_slice HO258.out; subst eo53) | (go_at_call 39; (with_reducible refine (laws_eqIntS.calls k _ _ t275 _ _ t256 t280 _ ?side1 ?side2 ?side3 ?side4 A43.out).mono ?_); (case side1 => repeat (first | exact (zJ HO277.out).2.2 | (with_reducible refine zU ?_ _) | (with_reducible refine zV ?_ _) | (with_reducible refine zW ?_))); (case side2 => exact (zJ HO277.out).2.1); (case side3 => repeat (first | exact (zJ HO258.out).2.2 | (with_reducible refine zU ?_ _) | (with_reducible refine zV ?_ _) | (with_reducible refine zW ?_))); (case side4 => exact (zJ HO258.out).2.1); rintro e w' ⟨rfl, ⟨nd, rfl⟩⟩))
        go_meet
        case rel => exact ⟨_, (!t280), (by first | rfl | (simp; done) | (simp [*]; done)), H', ⟨by first | omega | exact Nat.le_refl _⟩, ⟨by (with_reducible repeat (first | apply zC | apply zD | apply zE)); exact zG HO258.out (fun _ hk => ⟨hk.2, ⟨hk.1.1.1.1, ⟨hk.1.1.2, hk.1.2⟩⟩⟩)⟩, ⟨by (with_reducible repeat (first | apply zC | apply zD | apply zE)); exact zG HO277.out (fun _ hk => ⟨hk.1.2, ⟨hk.1.1.2, ⟨hk.2, hk.1.1.1.1⟩⟩⟩)⟩, ⟨by (with_reducible repeat (first | apply zC | apply zD | apply zE)); exact zG HO252.out (fun _ hk => ⟨hk.1.1.1.1, ⟨hk.2, ⟨hk.1.1.2, hk.1.2⟩⟩⟩)⟩, ⟨by (with_reducible repeat (first | apply zC | apply zD | apply zE)); exact zG HO255.out (fun _ hk => ⟨hk.1.2, hk.2⟩)⟩, ⟨by (with_reducible repeat (first | apply zC | apply zD | apply zE)); exact zG HO263.out (fun _ hk => ⟨hk.1.1.2, ⟨hk.2, ⟨hk.1.1.1.2, hk.1.2⟩⟩⟩)⟩, ⟨by (with_reducible repeat (first | apply zC | apply zD | apply zE)); exact zG HO266.out (fun _ hk => ⟨hk.1.2, hk.2⟩)⟩, ⟨by (with_reducible repeat (first | apply zC | apply zD | apply zE)); exact zG HO271.out (fun _ hk => ⟨hk.1.2, ⟨hk.1.1.1.1, ⟨hk.1.1.2, hk.2⟩⟩⟩)⟩, ⟨by (with_reducible repeat (first | apply zC | apply zD | apply zE)); exact zG HO274.out (fun _ hk => ⟨hk.1.2, hk.2⟩)⟩, ⟨by (with_reducible repeat (first | refine zL ?_ _ | refine zM ?_ | refine zK ?_ _)); exact BK240.out⟩, ⟨by (with_reducible repeat (first | refine zL ?_ _ | refine zM ?_ | refine zK ?_ _)); exact BK259.out⟩, ⟨by (with_reducible repeat (first | refine zL ?_ _ | refine zM ?_ | refine zK ?_ _)); exact BK267.out⟩, ⟨by (with_reducible repeat (first | refine zL ?_ _ | refine zM ?_ | refine zK ?_ _)); exact BK278.out⟩, ⟨by repeat (first | (with_reducible first | exact HB.out | apply zO | apply zA | apply zN | refine zB ?_ GE240.out | refine zB ?_ GE259.out | refine zB ?_ GE267.out | refine zB ?_ GE278.out) | exact HB.out)⟩⟩
      · replace c42 := Bool.eq_false_iff.mpr c42
        subst c42
        have H1 : (laws_FnExactCollect.j0 k t256 t275 true a0_0 l0_1 l0_2 t249 t250 t253 t260 t261 t264 t268 t269 t272) = some r := by rw [if_neg (show ¬ (false = true) by decide)] at H; exact H
        clear H
        have H := H1
        clear H1
        have H' := Aside0.mk H
        clear H
        have hnb54 := NB278_240.out
        have hnc54 := NB240_278.out
        have hnb55 := NB278_259.out
        have hnc55 := NB259_278.out
        have hnb56 := NB278_267.out
        have hnc56 := NB267_278.out
        have hcz57_0 : w34.cell? ⟨gb278, 0, none⟩ = some (.int .i64 0) := (zP BK278.out 0).trans rfl
        have hcz57_1 : w34.cell? ⟨gb278, 1, none⟩ = some (.slice none 0 0) := (zP BK278.out 1).trans rfl
        have hcz57_2 : w34.cell? ⟨gb278, 2, none⟩ = some (.slice none 0 0) := (zP BK278.out 2).trans rfl
        have hfz57_0 := zQ BK278.out 0
        have hfz57_1 := zQ BK278.out 1
        have hfz57_2 := zQ BK278.out 2
        have hnb58 := NB259_240.out
        have hnc58 := NB240_259.out
        have hnb59 := NB259_267.out
        have hnc59 := NB267_259.out
        have hcz60_0 : w34.cell? ⟨gb259, 0, none⟩ = some (.int .i64 t249) := (zP BK259.out 0).trans rfl
        have hcz60_1 : w34.cell? ⟨gb259, 1, none⟩ = some (.slice Ao23 t250.length co23) := (zP BK259.out 1).trans rfl
        have hcz60_2 : w34.cell? ⟨gb259, 2, none⟩ = some (.slice Ao24 t253.length co24) := (zP BK259.out 2).trans rfl
        have hfz60_0 := zQ BK259.out 0
        have hfz60_1 := zQ BK259.out 1
        have hfz60_2 := zQ BK259.out 2
        go_wp2_with (first | ((with_reducible refine gate_callee (f := 25) rfl ?_); refine goesL_ (some 34) rfl rfl Try.func25 (by kernel_rfl) rfl #[.agg #[.int .i64 t268, .slice Ao39 t269.length co39, .slice Ao40 t272.length co40], .agg #[.int .i64 t249, .slice Ao23 t250.length co23, .slice Ao24 t253.length co24]] rfl (by (try simp only [List.map_toArray, List.map_cons, List.map_nil]); first | done | rfl | (simp only [List.length_drop, List.length_take]; rfl)) ?_; (with_reducible refine (laws_eqEpochs.calls k t268 _ _ t269 _ _ t272 t249 _ _ t250 _ _ t253 false _ ?side1 ?side2 ?side3 ?side4 ?side5 ?side6 ?side7 ?side8 A41.out).mono ?_); (case side1 => refine (zJ (e := 3) (base := w.heap.size) (ok := fun k_ => ((((some k_ ≠ (v276 : Value).ownBlock ∧ some k_ ≠ (.slice Ao17 t243.length co17 : Value).ownBlock) ∧ some k_ ≠ (.slice Ao23 t250.length co23 : Value).ownBlock) ∧ some k_ ≠ (v257 : Value).ownBlock) ∧ some k_ ≠ (.slice Ao31 t261.length co31 : Value).ownBlock)) (n := t269.length) (c := co39) ?_).2.2; exact (by (with_reducible repeat (first | apply zC | apply zD | apply zE)); exact (zG (zF (p := ⟨gb278, 2, none⟩) (zF (p := ⟨gb278, 1, none⟩) (zF (p := ⟨gb278, 0, none⟩) (zI HO271.out BK278.out (by decide)) (fun _ hk => hk.2) (.int .i64 t268)) (fun _ hk => hk.2) (.slice Ao39 t269.length co39)) (fun _ hk => hk.2) (.slice Ao40 t272.length co40)) (fun _ h_ => h_.1)))); (case side2 => exact (zJ HO271.out).2.1); (case side3 => refine (zJ (e := 58) (base := w.heap.size) (ok := fun k_ => (((True ∧ some k_ ≠ (.slice Ao18 t246.length co18 : Value).ownBlock) ∧ some k_ ≠ (.slice Ao24 t253.length co24 : Value).ownBlock) ∧ some k_ ≠ (.slice Ao32 t264.length co32 : Value).ownBlock)) (n := t272.length) (c := co40) ?_).2.2; exact (by (with_reducible repeat (first | apply zC | apply zD | apply zE)); exact (zG (zF (p := ⟨gb278, 2, none⟩) (zF (p := ⟨gb278, 1, none⟩) (zF (p := ⟨gb278, 0, none⟩) (zI HO274.out BK278.out (by decide)) (fun _ hk => hk.2) (.int .i64 t268)) (fun _ hk => hk.2) (.slice Ao39 t269.length co39)) (fun _ hk => hk.2) (.slice Ao40 t272.length co40)) (fun _ h_ => h_.1)))); (case side4 => exact (zJ HO274.out).2.1); (case side5 => refine (zJ (e := 3) (base := w.heap.size) (ok := fun k_ => ((((some k_ ≠ (v257 : Value).ownBlock ∧ some k_ ≠ (.slice Ao17 t243.length co17 : Value).ownBlock) ∧ some k_ ≠ (.slice Ao31 t261.length co31 : Value).ownBlock) ∧ some k_ ≠ (.slice Ao39 t269.length co39 : Value).ownBlock) ∧ some k_ ≠ (v276 : Value).ownBlock)) (n := t250.length) (c := co23) ?_).2.2; exact (by (with_reducible repeat (first | apply zC | apply zD | apply zE)); exact (zG (zF (p := ⟨gb278, 2, none⟩) (zF (p := ⟨gb278, 1, none⟩) (zF (p := ⟨gb278, 0, none⟩) (zI HO252.out BK278.out (by decide)) (fun _ hk => hk.2) (.int .i64 t268)) (fun _ hk => hk.2) (.slice Ao39 t269.length co39)) (fun _ hk => hk.2) (.slice Ao40 t272.length co40)) (fun _ h_ => h_.1)))); (case side6 => exact (zJ HO252.out).2.1); (case side7 => refine (zJ (e := 58) (base := w.heap.size) (ok := fun k_ => (((True ∧ some k_ ≠ (.slice Ao18 t246.length co18 : Value).ownBlock) ∧ some k_ ≠ (.slice Ao32 t264.length co32 : Value).ownBlock) ∧ some k_ ≠ (.slice Ao40 t272.length co40 : Value).ownBlock)) (n := t253.length) (c := co24) ?_).2.2; exact (by (with_reducible repeat (first | apply zC | apply zD | apply zE)); exact (zG (zF (p := ⟨gb278, 2, none⟩) (zF (p := ⟨gb278, 1, none⟩) (zF (p := ⟨gb278, 0, none⟩) (zI HO255.out BK278.out (by decide)) (fun _ hk => hk.2) (.int .i64 t268)) (fun _ hk => hk.2) (.slice Ao39 t269.length co39)) (fun _ hk => hk.2) (.slice Ao40 t272.length co40)) (fun _ h_ => h_.1)))); (case side8 => exact (zJ HO255.out).2.1); rintro e w61 ⟨rfl, hb⟩; refine ⟨_, rfl, ?_⟩; have n0_ := Aside0.mk (zH (by (with_reducible repeat (first | apply zC | apply zD | apply zE)); exact (zG (zF (p := ⟨gb278, 2, none⟩) (zF (p := ⟨gb278, 1, none⟩) (zF (p := ⟨gb278, 0, none⟩) (zI HO245.out BK278.out (by decide)) (fun _ hk => hk.2) (.int .i64 t268)) (fun _ hk => hk.2) (.slice Ao39 t269.length co39)) (fun _ hk => hk.2) (.slice Ao40 t272.length co40)) (fun _ h_ => h_.1))) hb); have n1_ := Aside0.mk (zH (by (with_reducible repeat (first | apply zC | apply zD | apply zE)); exact (zG (zF (p := ⟨gb278, 2, none⟩) (zF (p := ⟨gb278, 1, none⟩) (zF (p := ⟨gb278, 0, none⟩) (zI HO248.out BK278.out (by decide)) (fun _ hk => hk.2) (.int .i64 t268)) (fun _ hk => hk.2) (.slice Ao39 t269.length co39)) (fun _ hk => hk.2) (.slice Ao40 t272.length co40)) (fun _ h_ => h_.1))) hb); have n2_ := Aside0.mk (zH (by (with_reducible repeat (first | apply zC | apply zD | apply zE)); exact (zG (zF (p := ⟨gb278, 2, none⟩) (zF (p := ⟨gb278, 1, none⟩) (zF (p := ⟨gb278, 0, none⟩) (zI HO252.out BK278.out (by decide)) (fun _ hk => hk.2) (.int .i64 t268)) (fun _ hk => hk.2) (.slice Ao39 t269.length co39)) (fun _ hk => hk.2) (.slice Ao40 t272.length co40)) (fun _ h_ => h_.1))) hb); have n3_ := Aside0.mk (zH (by (with_reducible repeat (first | apply zC | apply zD | apply zE)); exact (zG (zF (p := ⟨gb278, 2, none⟩) (zF (p := ⟨gb278, 1, none⟩) (zF (p := ⟨gb278, 0, none⟩) (zI HO255.out BK278.out (by decide)) (fun _ hk => hk.2) (.int .i64 t268)) (fun _ hk => hk.2) (.slice Ao39 t269.length co39)) (fun _ hk => hk.2) (.slice Ao40 t272.length co40)) (fun _ h_ => h_.1))) hb); have n4_ := Aside0.mk (zH (by (with_reducible repeat (first | apply zC | apply zD | apply zE)); exact (zG (zF (p := ⟨gb278, 2, none⟩) (zF (p := ⟨gb278, 1, none⟩) (zF (p := ⟨gb278, 0, none⟩) (zI HO258.out BK278.out (by decide)) (fun _ hk => hk.2) (.int .i64 t268)) (fun _ hk => hk.2) (.slice Ao39 t269.length co39)) (fun _ hk => hk.2) (.slice Ao40 t272.length co40)) (fun _ h_ => h_.1))) hb); have n5_ := Aside0.mk (zH (by (with_reducible repeat (first | apply zC | apply zD | apply zE)); exact (zG (zF (p := ⟨gb278, 2, none⟩) (zF (p := ⟨gb278, 1, none⟩) (zF (p := ⟨gb278, 0, none⟩) (zI HO263.out BK278.out (by decide)) (fun _ hk => hk.2) (.int .i64 t268)) (fun _ hk => hk.2) (.slice Ao39 t269.length co39)) (fun _ hk => hk.2) (.slice Ao40 t272.length co40)) (fun _ h_ => h_.1))) hb); have n6_ := Aside0.mk (zH (by (with_reducible repeat (first | apply zC | apply zD | apply zE)); exact (zG (zF (p := ⟨gb278, 2, none⟩) (zF (p := ⟨gb278, 1, none⟩) (zF (p := ⟨gb278, 0, none⟩) (zI HO266.out BK278.out (by decide)) (fun _ hk => hk.2) (.int .i64 t268)) (fun _ hk => hk.2) (.slice Ao39 t269.length co39)) (fun _ hk => hk.2) (.slice Ao40 t272.length co40)) (fun _ h_ => h_.1))) hb); have n7_ := Aside0.mk (zH (by (with_reducible repeat (first | apply zC | apply zD | apply zE)); exact (zG (zF (p := ⟨gb278, 2, none⟩) (zF (p := ⟨gb278, 1, none⟩) (zF (p := ⟨gb278, 0, none⟩) (zI HO271.out BK278.out (by decide)) (fun _ hk => hk.2) (.int .i64 t268)) (fun _ hk => hk.2) (.slice Ao39 t269.length co39)) (fun _ hk => hk.2) (.slice Ao40 t272.length co40)) (fun _ h_ => h_.1))) hb); have n8_ := Aside0.mk (zH (by (with_reducible repeat (first | apply zC | apply zD | apply zE)); exact (zG (zF (p := ⟨gb278, 2, none⟩) (zF (p := ⟨gb278, 1, none⟩) (zF (p := ⟨gb278, 0, none⟩) (zI HO274.out BK278.out (by decide)) (fun _ hk => hk.2) (.int .i64 t268)) (fun _ hk => hk.2) (.slice Ao39 t269.length co39)) (fun _ hk => hk.2) (.slice Ao40 t272.length co40)) (fun _ h_ => h_.1))) hb); have n9_ := Aside0.mk (zH (by (with_reducible repeat (first | apply zC | apply zD | apply zE)); exact (zG (zF (p := ⟨gb278, 2, none⟩) (zF (p := ⟨gb278, 1, none⟩) (zF (p := ⟨gb278, 0, none⟩) (zI HO277.out BK278.out (by decide)) (fun _ hk => hk.2) (.int .i64 t268)) (fun _ hk => hk.2) (.slice Ao39 t269.length co39)) (fun _ hk => hk.2) (.slice Ao40 t272.length co40)) (fun _ h_ => h_.1))) hb); have n10_ := Aside0.mk (zR (g := gb240) (o := .cells #[.int .i64 a0_0, .slice A0_1 l0_1.length c0_1, .slice A0_2 l0_2.length c0_2] 43 (0, 0)) (by (with_reducible repeat (first | refine zL ?_ _ | refine zM ?_ | refine zK ?_ _)); refine blk_far ?_ NB240_278.out _; (with_reducible repeat (first | refine zL ?_ _ | refine zM ?_ | refine zK ?_ _)); refine blk_far ?_ NB240_278.out _; (with_reducible repeat (first | refine zL ?_ _ | refine zM ?_ | refine zK ?_ _)); refine blk_far ?_ NB240_278.out _; (with_reducible repeat (first | refine zL ?_ _ | refine zM ?_ | refine zK ?_ _)); exact BK240.out) hb); have n11_ := Aside0.mk (zR (g := gb259) (o := .cells #[.int .i64 t249, .slice Ao23 t250.length co23, .slice Ao24 t253.length co24] 27 (0, 0)) (by (with_reducible repeat (first | refine zL ?_ _ | refine zM ?_ | refine zK ?_ _)); refine blk_far ?_ NB259_278.out _; (with_reducible repeat (first | refine zL ?_ _ | refine zM ?_ | refine zK ?_ _)); refine blk_far ?_ NB259_278.out _; (with_reducible repeat (first | refine zL ?_ _ | refine zM ?_ | refine zK ?_ _)); refine blk_far ?_ NB259_278.out _; (with_reducible repeat (first | refine zL ?_ _ | refine zM ?_ | refine zK ?_ _)); exact BK259.out) hb); have n12_ := Aside0.mk (zR (g := gb267) (o := .cells #[.int .i64 t260, .slice Ao31 t261.length co31, .slice Ao32 t264.length co32] 27 (0, 0)) (by (with_reducible repeat (first | refine zL ?_ _ | refine zM ?_ | refine zK ?_ _)); refine blk_far ?_ NB267_278.out _; (with_reducible repeat (first | refine zL ?_ _ | refine zM ?_ | refine zK ?_ _)); refine blk_far ?_ NB267_278.out _; (with_reducible repeat (first | refine zL ?_ _ | refine zM ?_ | refine zK ?_ _)); refine blk_far ?_ NB267_278.out _; (with_reducible repeat (first | refine zL ?_ _ | refine zM ?_ | refine zK ?_ _)); exact BK267.out) hb); have n13_ := Aside0.mk (zR (g := gb278) (o := .cells #[.int .i64 t268, .slice Ao39 t269.length co39, .slice Ao40 t272.length co40] 27 (0, 0)) (by (with_reducible repeat (first | refine zL ?_ _ | refine zM ?_ | refine zK ?_ _)); refine blk_put (cs := #[.int .i64 t268, .slice Ao39 t269.length co39, .slice none 0 0]) ?_ 2 _ rfl; (with_reducible repeat (first | refine zL ?_ _ | refine zM ?_ | refine zK ?_ _)); refine blk_put (cs := #[.int .i64 t268, .slice none 0 0, .slice none 0 0]) ?_ 1 _ rfl; (with_reducible repeat (first | refine zL ?_ _ | refine zM ?_ | refine zK ?_ _)); refine blk_put (cs := #[.int .i64 0, .slice none 0 0, .slice none 0 0]) ?_ 0 _ rfl; (with_reducible repeat (first | refine zL ?_ _ | refine zM ?_ | refine zK ?_ _)); exact BK278.out) hb); have n14_ := Aside0.mk (zS (by repeat (first | (with_reducible first | exact HB.out | apply zO | apply zA | apply zN | refine zB ?_ GE240.out | refine zB ?_ GE259.out | refine zB ?_ GE267.out | refine zB ?_ GE278.out) | exact HB.out)) hb); clear HO245; clear HO248; clear HO252; clear HO255; clear HO258; clear HO263; clear HO266; clear HO271; clear HO274; clear HO277; clear BK240; clear BK259; clear BK267; clear BK278; clear HB; have HO245 := n0_; have HO248 := n1_; have HO252 := n2_; have HO255 := n3_; have HO258 := n4_; have HO263 := n5_; have HO266 := n6_; have HO271 := n7_; have HO274 := n8_; have HO277 := n9_; have BK240 := n10_; have BK259 := n11_; have BK267 := n12_; have BK278 := n13_; have HB := n14_; clear n0_ n1_ n2_ n3_ n4_ n5_ n6_ n7_ n8_ n9_ n10_ n11_ n12_ n13_ n14_; (try clear hb); (try clear hb2); (try clear hk); (try clear hi)))
        go_meet
        case rel => exact ⟨_, (true), (by first | rfl | (simp; done) | (simp [*]; done)), H', ⟨by first | omega | exact Nat.le_refl _⟩, ⟨by (with_reducible repeat (first | apply zC | apply zD | apply zE)); exact zG HO258.out (fun _ hk => ⟨hk.2, ⟨hk.1.1.1.1, ⟨hk.1.1.2, hk.1.2⟩⟩⟩)⟩, ⟨by (with_reducible repeat (first | apply zC | apply zD | apply zE)); exact zG HO277.out (fun _ hk => ⟨hk.1.2, ⟨hk.1.1.2, ⟨hk.2, hk.1.1.1.1⟩⟩⟩)⟩, ⟨by (with_reducible repeat (first | apply zC | apply zD | apply zE)); exact zG HO252.out (fun _ hk => ⟨hk.1.1.1.1, ⟨hk.2, ⟨hk.1.1.2, hk.1.2⟩⟩⟩)⟩, ⟨by (with_reducible repeat (first | apply zC | apply zD | apply zE)); exact zG HO255.out (fun _ hk => ⟨hk.1.2, hk.2⟩)⟩, ⟨by (with_reducible repeat (first | apply zC | apply zD | apply zE)); exact zG HO263.out (fun _ hk => ⟨hk.1.1.2, ⟨hk.2, ⟨hk.1.1.1.2, hk.1.2⟩⟩⟩)⟩, ⟨by (with_reducible repeat (first | apply zC | apply zD | apply zE)); exact zG HO266.out (fun _ hk => ⟨hk.1.2, hk.2⟩)⟩, ⟨by (with_reducible repeat (first | apply zC | apply zD | apply zE)); exact zG HO271.out (fun _ hk => ⟨hk.1.2, ⟨hk.1.1.1.1, ⟨hk.1.1.2, hk.2⟩⟩⟩)⟩, ⟨by (with_reducible repeat (first | apply zC | apply zD | apply zE)); exact zG HO274.out (fun _ hk => ⟨hk.1.2, hk.2⟩)⟩, ⟨by (with_reducible repeat (first | refine zL ?_ _ | refine zM ?_ | refine zK ?_ _)); exact BK240.out⟩, ⟨by (with_reducible repeat (first | refine zL ?_ _ | refine zM ?_ | refine zK ?_ _)); exact BK259.out⟩, ⟨by (with_reducible repeat (first | refine zL ?_ _ | refine zM ?_ | refine zK ?_ _)); exact BK267.out⟩, ⟨by (with_reducible repeat (first | refine zL ?_ _ | refine zM ?_ | refine zK ?_ _)); exact BK278.out⟩, ⟨by repeat (first | (with_reducible first | exact HB.out | apply zO | apply zA | apply zN | refine zB ?_ GE240.out | refine zB ?_ GE259.out | refine zB ?_ GE267.out | refine zB ?_ GE278.out) | exact HB.out)⟩⟩
    case rest =>
      clear HC11
      try clear c1
      try clear c2
      try clear p2
      try clear c3
      try clear c3b0
      try clear c4
      try clear c5
      try clear c12
      try clear c21
      try clear c22
      try clear c25
      try clear c28
      try clear c29
      try clear c30
      try clear c35
      try clear c36
      try clear c37
      try clear c38
      try clear c42
      try clear c44
      try clear c45
      try clear c46
      try clear c48
      try clear c49
      try clear c54
      try clear c55
      try clear c56
      try clear c58
      try clear c59
      try clear hcz13_0
      try clear hcz13_1
      try clear hcz13_2
      try clear hcz15_0
      try clear hcz15_1
      try clear hcz15_2
      try clear hcz22_0
      try clear hcz22_1
      try clear hcz22_2
      try clear hcz25_0
      try clear hcz25_1
      try clear hcz25_2
      try clear hcz30_0
      try clear hcz30_1
      try clear hcz30_2
      try clear hcz38_0
      try clear hcz38_1
      try clear hcz38_2
      try clear hcz47_0
      try clear hcz47_1
      try clear hcz47_2
      try clear hcz50_0
      try clear hcz50_1
      try clear hcz50_2
      try clear hcz57_0
      try clear hcz57_1
      try clear hcz57_2
      try clear hcz5_0
      try clear hcz5_1
      try clear hcz5_2
      try clear hcz60_0
      try clear hcz60_1
      try clear hcz60_2
      try clear hfz13_0
      try clear hfz13_1
      try clear hfz13_2
      try clear hfz15_0
      try clear hfz15_1
      try clear hfz15_2
      try clear hfz22_0
      try clear hfz22_1
      try clear hfz22_2
      try clear hfz25_0
      try clear hfz25_1
      try clear hfz25_2
      try clear hfz30_0
      try clear hfz30_1
      try clear hfz30_2
      try clear hfz38_0
      try clear hfz38_1
      try clear hfz38_2
      try clear hfz47_0
      try clear hfz47_1
      try clear hfz47_2
      try clear hfz50_0
      try clear hfz50_1
      try clear hfz50_2
      try clear hfz57_0
      try clear hfz57_1
      try clear hfz57_2
      try clear hfz5_0
      try clear hfz5_1
      try clear hfz5_2
      try clear hfz60_0
      try clear hfz60_1
      try clear hfz60_2
      obtain ⟨kq, x41_10, rfl, HA, HJ10, HO_5, HO_8, HO_260001, HO_260002, HO_268001, HO_268002, HO_279001, HO_279002, BK240, BK259, BK267, BK278, HB⟩ := hcut
      cases kq with
      | zero => exact absurd HA.out (by simp [laws_FnExactCollect.j0])
      | succ kj10 =>
        have H := HA.out
        clear HA
        simp only [laws_FnExactCollect.j0] at H
        by_cases c62 : x41_10 = true
        · subst c62
          have H1 : (none) = some r := by rw [if_pos rfl] at H; exact H
          clear H
          have H := H1
          clear H1
          exact absurd H (by simp)
        · replace c62 := Bool.eq_false_iff.mpr c62
          subst c62
          have H1 : ((laws_toEpochs.f kj10 a0_0 l0_1 l0_2).bind fun bt281 => ((laws_eqEpochs.f kj10 t260 t261 t264 bt281.1 bt281.2.1 bt281.2.2).bind fun t288 => (if t288 = true then ((laws_markEpochs.f kj10 t260 t261 t264 1).bind fun bt289 => (if bt289.1 < 0 then (laws_FnExactCollect.j1 kj10 t256 t275 true a0_0 l0_1 l0_2 t249 t250 t253 t268 t269 t272) else ((laws_eqEpochs.f kj10 t268 t269 t272 t249 t250 t253).bind fun t292 => (if t292 = true then ((laws_eqIntS.f kj10 t275 t256).bind fun t293 => (laws_FnExactCollect.j1 kj10 t256 t275 (!t293) a0_0 l0_1 l0_2 t249 t250 t253 t268 t269 t272)) else (laws_FnExactCollect.j1 kj10 t256 t275 true a0_0 l0_1 l0_2 t249 t250 t253 t268 t269 t272))))) else (none)))) = some r := by rw [if_neg (show ¬ (false = true) by decide)] at H; exact H
          clear H
          have H := H1
          clear H1
          replace H := Option.bind_eq_some_iff.mp H
          obtain ⟨⟨t281, t282, t285⟩, A630, H⟩ := H
          replace H : ((laws_eqEpochs.f kj10 t260 t261 t264 t281 t282 t285).bind fun t288 => (if t288 = true then ((laws_markEpochs.f kj10 t260 t261 t264 1).bind fun bt289 => (if bt289.1 < 0 then (laws_FnExactCollect.j1 kj10 t256 t275 true a0_0 l0_1 l0_2 t249 t250 t253 t268 t269 t272) else ((laws_eqEpochs.f kj10 t268 t269 t272 t249 t250 t253).bind fun t292 => (if t292 = true then ((laws_eqIntS.f kj10 t275 t256).bind fun t293 => (laws_FnExactCollect.j1 kj10 t256 t275 (!t293) a0_0 l0_1 l0_2 t249 t250 t253 t268 t269 t272)) else (laws_FnExactCollect.j1 kj10 t256 t275 true a0_0 l0_1 l0_2 t249 t250 t253 t268 t269 t272))))) else (none))) = some r := H
          have A63 := Aside0.mk A630
          clear A630
          replace H := Option.bind_eq_some_iff.mp H
          obtain ⟨t288, A640, H⟩ := H
          replace H : (if t288 = true then ((laws_markEpochs.f kj10 t260 t261 t264 1).bind fun bt289 => (if bt289.1 < 0 then (laws_FnExactCollect.j1 kj10 t256 t275 true a0_0 l0_1 l0_2 t249 t250 t253 t268 t269 t272) else ((laws_eqEpochs.f kj10 t268 t269 t272 t249 t250 t253).bind fun t292 => (if t292 = true then ((laws_eqIntS.f kj10 t275 t256).bind fun t293 => (laws_FnExactCollect.j1 kj10 t256 t275 (!t293) a0_0 l0_1 l0_2 t249 t250 t253 t268 t269 t272)) else (laws_FnExactCollect.j1 kj10 t256 t275 true a0_0 l0_1 l0_2 t249 t250 t253 t268 t269 t272))))) else (none)) = some r := H
          have A64 := Aside0.mk A640
          clear A640
          by_cases c65 : t288 = true
          · subst c65
            have H1 : ((laws_markEpochs.f kj10 t260 t261 t264 1).bind fun bt289 => (if bt289.1 < 0 then (laws_FnExactCollect.j1 kj10 t256 t275 true a0_0 l0_1 l0_2 t249 t250 t253 t268 t269 t272) else ((laws_eqEpochs.f kj10 t268 t269 t272 t249 t250 t253).bind fun t292 => (if t292 = true then ((laws_eqIntS.f kj10 t275 t256).bind fun t293 => (laws_FnExactCollect.j1 kj10 t256 t275 (!t293) a0_0 l0_1 l0_2 t249 t250 t253 t268 t269 t272)) else (laws_FnExactCollect.j1 kj10 t256 t275 true a0_0 l0_1 l0_2 t249 t250 t253 t268 t269 t272))))) = some r := by rw [if_pos rfl] at H; exact H
            clear H
            have H := H1
            clear H1
            replace H := Option.bind_eq_some_iff.mp H
            obtain ⟨⟨t289, t290, t291⟩, A660, H⟩ := H
            replace H : (if t289 < 0 then (laws_FnExactCollect.j1 kj10 t256 t275 true a0_0 l0_1 l0_2 t249 t250 t253 t268 t269 t272) else ((laws_eqEpochs.f kj10 t268 t269 t272 t249 t250 t253).bind fun t292 => (if t292 = true then ((laws_eqIntS.f kj10 t275 t256).bind fun t293 => (laws_FnExactCollect.j1 kj10 t256 t275 (!t293) a0_0 l0_1 l0_2 t249 t250 t253 t268 t269 t272)) else (laws_FnExactCollect.j1 kj10 t256 t275 true a0_0 l0_1 l0_2 t249 t250 t253 t268 t269 t272)))) = some r := H
            have A66 := Aside0.mk A660
            clear A660
            have HC67 := Aside0.mk H
            clear H
            try go_wp2
            have n0_ := Aside0.mk (zE HO_5.out)
            have n1_ := Aside0.mk (zE HO_8.out)
            have n2_ := Aside0.mk (zE HO_260001.out)
            have n3_ := Aside0.mk (zE HO_260002.out)
            have n4_ := Aside0.mk (zE HO_268001.out)
            have n5_ := Aside0.mk (zE HO_268002.out)
            have n6_ := Aside0.mk (zE HO_279001.out)
            have n7_ := Aside0.mk (zE HO_279002.out)
            have n8_ := Aside0.mk (zM BK240.out)
            have n9_ := Aside0.mk (zM BK259.out)
            have n10_ := Aside0.mk (zM BK267.out)
            have n11_ := Aside0.mk (zM BK278.out)
            have n12_ := Aside0.mk (zN HB.out)
            clear HO_5
            clear HO_8
            clear HO_260001
            clear HO_260002
            clear HO_268001
            clear HO_268002
            clear HO_279001
            clear HO_279002
            clear BK240
            clear BK259
            clear BK267
            clear BK278
            clear HB
            have HO_5 := n0_
            have HO_8 := n1_
            have HO_260001 := n2_
            have HO_260002 := n3_
            have HO_268001 := n4_
            have HO_268002 := n5_
            have HO_279001 := n6_
            have HO_279002 := n7_
            have BK240 := n8_
            have BK259 := n9_
            have BK267 := n10_
            have BK278 := n11_
            have HB := n12_
            clear n0_ n1_ n2_ n3_ n4_ n5_ n6_ n7_ n8_ n9_ n10_ n11_ n12_
            refine start_ (n := 5) (S := fun w' => w'.cell? ⟨gb267, 0, none⟩ = some (.int .i64 t260) ∧ w'.cell? ⟨gb267, 1, none⟩ = some (.slice Ao31 t261.length co31) ∧ w'.cell? ⟨gb267, 2, none⟩ = some (.slice Ao32 t264.length co32) ∧ w'.cell? ⟨gb240, 0, none⟩ = some (.int .i64 a0_0) ∧ w'.cell? ⟨gb240, 1, none⟩ = some (.slice A0_1 l0_1.length c0_1) ∧ w'.cell? ⟨gb240, 2, none⟩ = some (.slice A0_2 l0_2.length c0_2)) (ds := []) #[false, false, false, false, false] (by kernel_rfl) rfl rfl ⟨(zP BK267.out 0).trans rfl, (zP BK267.out 1).trans rfl, (zP BK267.out 2).trans rfl, (zP BK240.out 0).trans rfl, (zP BK240.out 1).trans rfl, (zP BK240.out 2).trans rfl⟩ (fun hHeld => ?_)
            generalize wc.drew = w68 at HO_5 HO_8 HO_260001 HO_260002 HO_268001 HO_268002 HO_279001 HO_279002 BK240 BK259 BK267 BK278 HB hHeld ⊢
            refine take_ (i := 0) (N := some 42) (v := ?_) (a' := ?_) #[true, false, false, false, false] rfl rfl (by kernel_rfl) (fun _ _ _ h => h) (Or.inl ⟨by rfl, ?_⟩) hHeld ?_ ?_
            rotate_left
            · rintro w' ⟨s0, s1, s2, s3, s4, s5⟩
              go_simp
              with_reducible rfl
            rotate_left
            · simp only [Act.put, List.setIfInBounds_toArray, List.set_cons_zero, List.set_cons_succ, i64_w, i32_w]
              rfl
            refine take_ (i := 1) (N := some 43) (v := ?_) (a' := ?_) #[true, true, false, false, false] rfl rfl (by kernel_rfl) (fun _ _ _ h => h) (Or.inl ⟨by rfl, ?_⟩) hHeld ?_ ?_
            rotate_left
            · rintro w' ⟨s0, s1, s2, s3, s4, s5⟩
              go_simp
              with_reducible rfl
            rotate_left
            · simp only [Act.put, List.setIfInBounds_toArray, List.set_cons_zero, List.set_cons_succ, i64_w, i32_w]
              rfl
            refine one_ (i := 2) (N := some 44) #[true, true, true, false, false] rfl rfl (by kernel_rfl) (by decide) (fun K hK => ?_)
            refine goes_ Try.func30 (by kernel_rfl) rfl #[.agg #[.int .i64 a0_0, .slice A0_1 l0_1.length c0_1, .slice A0_2 l0_2.length c0_2]] (by rfl) rfl rfl (by (try simp only [List.map_toArray, List.map_cons, List.map_nil]); first | done | rfl | (simp only [List.length_drop, List.length_take]; rfl)) ?_
            with_reducible refine (laws_toEpochs.calls kj10 a0_0 _ _ l0_1 _ _ l0_2 t281 t282 t285 _ ?side1 ?side2 ?side3 ?side4 A63.out).mono ?_
            (case side1 => repeat (first | exact (Kd.C_below HR0_1.out HB.out) | (with_reducible refine zU ?_ _) | (with_reducible refine zV ?_ _) | (with_reducible refine zW ?_)))
            (case side2 => exact HC0_1.out)
            (case side3 => repeat (first | exact (Kd.C_below HR0_2.out HB.out) | (with_reducible refine zU ?_ _) | (with_reducible refine zV ?_ _) | (with_reducible refine zW ?_)))
            (case side4 => exact HC0_2.out)
            rintro e w69 ⟨v283, v286, rfl, ho0, ho1, hb⟩
            refine ⟨_, rfl, ?_⟩
            have n0_ := Aside0.mk (Kd.R_elder' (by (with_reducible repeat (first | apply zC | apply zD | apply zE)); exact HO_5.out) (Kd.R_base ho0) hb)
            have n1_ := Aside0.mk (Kd.R_elder' (by (with_reducible repeat (first | apply zC | apply zD | apply zE)); exact HO_8.out) (Kd.R_base ho0) hb)
            have n2_ := Aside0.mk (Kd.R_elder' (by (with_reducible repeat (first | apply zC | apply zD | apply zE)); exact HO_260001.out) (Kd.R_base ho0) hb)
            have n3_ := Aside0.mk (Kd.R_elder' (by (with_reducible repeat (first | apply zC | apply zD | apply zE)); exact HO_260002.out) (Kd.R_base ho1) hb)
            have n4_ := Aside0.mk (Kd.R_elder' (by (with_reducible repeat (first | apply zC | apply zD | apply zE)); exact HO_268001.out) (Kd.R_base ho0) hb)
            have n5_ := Aside0.mk (Kd.R_elder' (by (with_reducible repeat (first | apply zC | apply zD | apply zE)); exact HO_268002.out) (Kd.R_base ho1) hb)
            have n6_ := Aside0.mk (Kd.R_elder' (by (with_reducible repeat (first | apply zC | apply zD | apply zE)); exact HO_279001.out) (Kd.R_base ho0) hb)
            have n7_ := Aside0.mk (Kd.R_elder' (by (with_reducible repeat (first | apply zC | apply zD | apply zE)); exact HO_279002.out) (Kd.R_base ho1) hb)
            have n8_ := Aside0.mk (Kd.R_lower (Kd.R_new' (Kd.R_new' (Kd.R_new' (Kd.R_new' (Kd.R_new' ho0 (Kd.R_lt (by (with_reducible repeat (first | apply zC | apply zD | apply zE)); exact HO_5.out))) (Kd.R_lt (by (with_reducible repeat (first | apply zC | apply zD | apply zE)); exact HO_8.out))) (Kd.R_lt (by (with_reducible repeat (first | apply zC | apply zD | apply zE)); exact HO_260001.out))) (Kd.R_lt (by (with_reducible repeat (first | apply zC | apply zD | apply zE)); exact HO_268001.out))) (Kd.R_lt (by (with_reducible repeat (first | apply zC | apply zD | apply zE)); exact HO_279001.out))) (zT (by repeat (first | (with_reducible first | exact HB.out | apply zO | apply zA | apply zN | refine zB ?_ GE240.out | refine zB ?_ GE259.out | refine zB ?_ GE267.out | refine zB ?_ GE278.out) | exact HB.out))))
            have n9_ := Aside0.mk (Kd.R_lower (Kd.R_new' (Kd.R_new' (Kd.R_new' ho1 (Kd.R_lt (by (with_reducible repeat (first | apply zC | apply zD | apply zE)); exact HO_260002.out))) (Kd.R_lt (by (with_reducible repeat (first | apply zC | apply zD | apply zE)); exact HO_268002.out))) (Kd.R_lt (by (with_reducible repeat (first | apply zC | apply zD | apply zE)); exact HO_279002.out))) (zT (by repeat (first | (with_reducible first | exact HB.out | apply zO | apply zA | apply zN | refine zB ?_ GE240.out | refine zB ?_ GE259.out | refine zB ?_ GE267.out | refine zB ?_ GE278.out) | exact HB.out))))
            have n10_ := Aside0.mk (zR (g := gb240) (o := .cells #[.int .i64 a0_0, .slice A0_1 l0_1.length c0_1, .slice A0_2 l0_2.length c0_2] 43 (0, 0)) (by (with_reducible repeat (first | refine zL ?_ _ | refine zM ?_ | refine zK ?_ _)); exact BK240.out) hb)
            have n11_ := Aside0.mk (zR (g := gb259) (o := .cells #[.int .i64 t249, .slice Ao23 t250.length co23, .slice Ao24 t253.length co24] 27 (0, 0)) (by (with_reducible repeat (first | refine zL ?_ _ | refine zM ?_ | refine zK ?_ _)); exact BK259.out) hb)
            have n12_ := Aside0.mk (zR (g := gb267) (o := .cells #[.int .i64 t260, .slice Ao31 t261.length co31, .slice Ao32 t264.length co32] 27 (0, 0)) (by (with_reducible repeat (first | refine zL ?_ _ | refine zM ?_ | refine zK ?_ _)); exact BK267.out) hb)
            have n13_ := Aside0.mk (zR (g := gb278) (o := .cells #[.int .i64 t268, .slice Ao39 t269.length co39, .slice Ao40 t272.length co40] 27 (0, 0)) (by (with_reducible repeat (first | refine zL ?_ _ | refine zM ?_ | refine zK ?_ _)); exact BK278.out) hb)
            have n14_ := Aside0.mk (zS (by repeat (first | (with_reducible first | exact HB.out | apply zO | apply zA | apply zN | refine zB ?_ GE240.out | refine zB ?_ GE259.out | refine zB ?_ GE267.out | refine zB ?_ GE278.out) | exact HB.out)) hb)
            clear HO_5
            clear HO_8
            clear HO_260001
            clear HO_260002
            clear HO_268001
            clear HO_268002
            clear HO_279001
            clear HO_279002
            clear BK240
            clear BK259
            clear BK267
            clear BK278
            clear HB
            have HO_5 := n0_
            have HO_8 := n1_
            have HO_260001 := n2_
            have HO_260002 := n3_
            have HO_268001 := n4_
            have HO_268002 := n5_
            have HO_279001 := n6_
            have HO_279002 := n7_
            have HO284 := n8_
            have HO287 := n9_
            have BK240 := n10_
            have BK259 := n11_
            have BK267 := n12_
            have BK278 := n13_
            have HB := n14_
            clear n0_ n1_ n2_ n3_ n4_ n5_ n6_ n7_ n8_ n9_ n10_ n11_ n12_ n13_ n14_
            (try clear hb)
            (try clear hb2)
            (try clear hk)
            (try clear hi)
            (try clear ho0)
            (try clear ho1)
            obtain ⟨Ao70, co70, eo70⟩ := Kd.R_slice HO284.out
            (first | subst eo70 | (injection eo70 with f1_ f2_ f3_; have f4_ := f1_.symm; have f5_ := f3_.symm; clear f1_ f2_ f3_; subst f4_; subst f5_))
            obtain ⟨Ao71, co71, eo71⟩ := Kd.R_slice HO287.out
            (first | subst eo71 | (injection eo71 with f1_ f2_ f3_; have f4_ := f1_.symm; have f5_ := f3_.symm; clear f1_ f2_ f3_; subst f4_; subst f5_))
            refine hK.out _ _ ⟨(zP BK267.out 0).trans rfl, (zP BK267.out 1).trans rfl, (zP BK267.out 2).trans rfl, (zP BK240.out 0).trans rfl, (zP BK240.out 1).trans rfl, (zP BK240.out 2).trans rfl⟩ (fun hHeld => ?_)
            clear hK K
            refine norm_ (a' := ?_) ?_ ?_
            rotate_left
            · show Act.put _ (some 44) _ = _
              simp only [Act.put, List.setIfInBounds_toArray, List.set_cons_zero, List.set_cons_succ, i64_w, i32_w]
              rfl
            refine one_ (i := 3) (N := some 45) #[true, true, true, true, false] rfl rfl (by kernel_rfl) (by decide) (fun K hK => ?_)
            refine goes_ Try.func25 (by kernel_rfl) rfl #[.agg #[.int .i64 t260, .slice Ao31 t261.length co31, .slice Ao32 t264.length co32], .agg #[.int .i64 t281, .slice Ao70 t282.length co70, .slice Ao71 t285.length co71]] (by rfl) rfl rfl (by (try simp only [List.map_toArray, List.map_cons, List.map_nil]); first | done | rfl | (simp only [List.length_drop, List.length_take]; rfl)) ?_
            with_reducible refine (laws_eqEpochs.calls kj10 t260 _ _ t261 _ _ t264 t281 _ _ t282 _ _ t285 true _ ?side1 ?side2 ?side3 ?side4 ?side5 ?side6 ?side7 ?side8 A64.out).mono ?_
            (case side1 => repeat (first | exact (zJ HO_268001.out).2.2 | (with_reducible refine zU ?_ _) | (with_reducible refine zV ?_ _) | (with_reducible refine zW ?_)))
            (case side2 => exact (zJ HO_268001.out).2.1)
            (case side3 => repeat (first | exact (zJ HO_268002.out).2.2 | (with_reducible refine zU ?_ _) | (with_reducible refine zV ?_ _) | (with_reducible refine zW ?_)))
            (case side4 => exact (zJ HO_268002.out).2.1)
            (case side5 => repeat (first | exact (zJ HO284.out).2.2 | (with_reducible refine zU ?_ _) | (with_reducible refine zV ?_ _) | (with_reducible refine zW ?_)))
            (case side6 => exact (zJ HO284.out).2.1)
            (case side7 => repeat (first | exact (zJ HO287.out).2.2 | (with_reducible refine zU ?_ _) | (with_reducible refine zV ?_ _) | (with_reducible refine zW ?_)))
            (case side8 => exact (zJ HO287.out).2.1)
            rintro e w72 ⟨rfl, hb⟩
            refine ⟨_, rfl, ?_⟩
            have n0_ := Aside0.mk (zH (by (with_reducible repeat (first | apply zC | apply zD | apply zE)); exact HO_5.out) hb)
            have n1_ := Aside0.mk (zH (by (with_reducible repeat (first | apply zC | apply zD | apply zE)); exact HO_8.out) hb)
            have n2_ := Aside0.mk (zH (by (with_reducible repeat (first | apply zC | apply zD | apply zE)); exact HO_260001.out) hb)
            have n3_ := Aside0.mk (zH (by (with_reducible repeat (first | apply zC | apply zD | apply zE)); exact HO_260002.out) hb)
            have n4_ := Aside0.mk (zH (by (with_reducible repeat (first | apply zC | apply zD | apply zE)); exact HO_268001.out) hb)
            have n5_ := Aside0.mk (zH (by (with_reducible repeat (first | apply zC | apply zD | apply zE)); exact HO_268002.out) hb)
            have n6_ := Aside0.mk (zH (by (with_reducible repeat (first | apply zC | apply zD | apply zE)); exact HO_279001.out) hb)
            have n7_ := Aside0.mk (zH (by (with_reducible repeat (first | apply zC | apply zD | apply zE)); exact HO_279002.out) hb)
            have n8_ := Aside0.mk (zH (by (with_reducible repeat (first | apply zC | apply zD | apply zE)); exact HO284.out) hb)
            have n9_ := Aside0.mk (zH (by (with_reducible repeat (first | apply zC | apply zD | apply zE)); exact HO287.out) hb)
            have n10_ := Aside0.mk (zR (g := gb240) (o := .cells #[.int .i64 a0_0, .slice A0_1 l0_1.length c0_1, .slice A0_2 l0_2.length c0_2] 43 (0, 0)) (by (with_reducible repeat (first | refine zL ?_ _ | refine zM ?_ | refine zK ?_ _)); exact BK240.out) hb)
            have n11_ := Aside0.mk (zR (g := gb259) (o := .cells #[.int .i64 t249, .slice Ao23 t250.length co23, .slice Ao24 t253.length co24] 27 (0, 0)) (by (with_reducible repeat (first | refine zL ?_ _ | refine zM ?_ | refine zK ?_ _)); exact BK259.out) hb)
            have n12_ := Aside0.mk (zR (g := gb267) (o := .cells #[.int .i64 t260, .slice Ao31 t261.length co31, .slice Ao32 t264.length co32] 27 (0, 0)) (by (with_reducible repeat (first | refine zL ?_ _ | refine zM ?_ | refine zK ?_ _)); exact BK267.out) hb)
            have n13_ := Aside0.mk (zR (g := gb278) (o := .cells #[.int .i64 t268, .slice Ao39 t269.length co39, .slice Ao40 t272.length co40] 27 (0, 0)) (by (with_reducible repeat (first | refine zL ?_ _ | refine zM ?_ | refine zK ?_ _)); exact BK278.out) hb)
            have n14_ := Aside0.mk (zS (by repeat (first | (with_reducible first | exact HB.out | apply zO | apply zA | apply zN | refine zB ?_ GE240.out | refine zB ?_ GE259.out | refine zB ?_ GE267.out | refine zB ?_ GE278.out) | exact HB.out)) hb)
            clear HO_5
            clear HO_8
            clear HO_260001
            clear HO_260002
            clear HO_268001
            clear HO_268002
            clear HO_279001
            clear HO_279002
            clear HO284
            clear HO287
            clear BK240
            clear BK259
            clear BK267
            clear BK278
            clear HB
            have HO_5 := n0_
            have HO_8 := n1_
            have HO_260001 := n2_
            have HO_260002 := n3_
            have HO_268001 := n4_
            have HO_268002 := n5_
            have HO_279001 := n6_
            have HO_279002 := n7_
            have HO284 := n8_
            have HO287 := n9_
            have BK240 := n10_
            have BK259 := n11_
            have BK267 := n12_
            have BK278 := n13_
            have HB := n14_
            clear n0_ n1_ n2_ n3_ n4_ n5_ n6_ n7_ n8_ n9_ n10_ n11_ n12_ n13_ n14_
            (try clear hb)
            (try clear hb2)
            (try clear hk)
            (try clear hi)
            refine hK.out _ _ ⟨(zP BK267.out 0).trans rfl, (zP BK267.out 1).trans rfl, (zP BK267.out 2).trans rfl, (zP BK240.out 0).trans rfl, (zP BK240.out 1).trans rfl, (zP BK240.out 2).trans rfl⟩ (fun hHeld => ?_)
            clear hK K
            refine norm_ (a' := ?_) ?_ ?_
            rotate_left
            · show Act.put _ (some 45) _ = _
              simp only [Act.put, List.setIfInBounds_toArray, List.set_cons_zero, List.set_cons_succ, i64_w, i32_w]
              rfl
            refine pure_ (i := 4) (N := some 46) (v := ?_) (a' := ?_) #[true, true, true, true, true] rfl rfl (by kernel_rfl) (fun _ _ _ h => h) (Or.inl ⟨by rfl, ?_⟩) ?_ ?_
            rotate_left
            · intro w'
              go_simp
              with_reducible rfl
            rotate_left
            · simp only [Act.put, List.setIfInBounds_toArray, List.set_cons_zero, List.set_cons_succ, i64_w, i32_w]
              rfl
            refine done_ (by kernel_rfl) ?_
            have hnb73 := NB267_240.out
            have hnc73 := NB240_267.out
            have hnb74 := NB267_259.out
            have hnc74 := NB259_267.out
            have hnb75 := NB267_278.out
            have hnc75 := NB278_267.out
            have hcz76_0 : w72.cell? ⟨gb267, 0, none⟩ = some (.int .i64 t260) := (zP BK267.out 0).trans rfl
            have hcz76_1 : w72.cell? ⟨gb267, 1, none⟩ = some (.slice Ao31 t261.length co31) := (zP BK267.out 1).trans rfl
            have hcz76_2 : w72.cell? ⟨gb267, 2, none⟩ = some (.slice Ao32 t264.length co32) := (zP BK267.out 2).trans rfl
            have hfz76_0 := zQ BK267.out 0
            have hfz76_1 := zQ BK267.out 1
            have hfz76_2 := zQ BK267.out 2
            go_upto_region 14 with (first | ((with_reducible refine gate_callee (f := 26) rfl ?_); refine goesL_ (some 49) rfl rfl Try.func26 (by kernel_rfl) rfl #[.agg #[.int .i64 t260, .slice Ao31 t261.length co31, .slice Ao32 t264.length co32], .int .i64 1] rfl (by (try simp only [List.map_toArray, List.map_cons, List.map_nil]); first | done | rfl | (simp only [List.length_drop, List.length_take]; rfl)) ?_; (with_reducible refine (laws_markEpochs.calls kj10 t260 (fun k_ => some k_ = (.slice Ao31 t261.length co31 : Value).ownBlock) (.slice Ao31 t261.length co31) t261 (fun k_ => some k_ = (.slice Ao32 t264.length co32 : Value).ownBlock) (.slice Ao32 t264.length co32) t264 1 t289 t290 t291 w _ ?side1 ?side2 ?side3 A66.out).mono ?_); (case side1 => repeat (first | (with_reducible first | exact HB.out | apply zO | apply zA | apply zN | refine zB ?_ GE240.out | refine zB ?_ GE259.out | refine zB ?_ GE267.out | refine zB ?_ GE278.out) | exact HB.out)); (case side2 => exact Kd.R_tight rfl HO_268001.out); (case side3 => exact Kd.R_tight rfl HO_268002.out); rintro e w77 ⟨rfl, hy0, hy1, hb, hkp⟩; refine ⟨_, rfl, ?_⟩; have n0_ := Aside0.mk (zG (ok' := fun k_ => some k_ ≠ (v276 : Value).ownBlock ∧ some k_ ≠ (.slice Ao23 t250.length co23 : Value).ownBlock ∧ some k_ ≠ (.slice Ao31 t261.length co31 : Value).ownBlock ∧ some k_ ≠ (.slice Ao39 t269.length co39 : Value).ownBlock ∧ some k_ ≠ (.slice Ao70 t282.length co70 : Value).ownBlock) (Kd.R_keptB ((Kd.R_apart' HO_5.out (Kd.R_typed HO_268002.out) (by decide))) hkp (fun k_ hk_ hs_ => Or.elim hs_ (fun e_ => (hk_.1.1.2.2.1) e_) (fun e_ => (hk_.2) e_))) (fun k_ hk_ => ⟨hk_.1.1.1.1, hk_.1.1.1.2.1, hk_.1.1.1.2.2.1, hk_.1.1.1.2.2.2, hk_.1.1.2⟩)); have n1_ := Aside0.mk (zG (ok' := fun k_ => some k_ ≠ (v257 : Value).ownBlock ∧ some k_ ≠ (.slice Ao23 t250.length co23 : Value).ownBlock ∧ some k_ ≠ (.slice Ao31 t261.length co31 : Value).ownBlock ∧ some k_ ≠ (.slice Ao39 t269.length co39 : Value).ownBlock ∧ some k_ ≠ (.slice Ao70 t282.length co70 : Value).ownBlock) (Kd.R_keptB ((Kd.R_apart' HO_8.out (Kd.R_typed HO_268002.out) (by decide))) hkp (fun k_ hk_ hs_ => Or.elim hs_ (fun e_ => (hk_.1.1.2.2.1) e_) (fun e_ => (hk_.2) e_))) (fun k_ hk_ => ⟨hk_.1.1.1.1, hk_.1.1.1.2.1, hk_.1.1.1.2.2.1, hk_.1.1.1.2.2.2, hk_.1.1.2⟩)); have n2_ := Aside0.mk (zG (ok' := fun k_ => some k_ ≠ (v257 : Value).ownBlock ∧ some k_ ≠ (v276 : Value).ownBlock ∧ some k_ ≠ (.slice Ao31 t261.length co31 : Value).ownBlock ∧ some k_ ≠ (.slice Ao39 t269.length co39 : Value).ownBlock ∧ some k_ ≠ (.slice Ao70 t282.length co70 : Value).ownBlock) (Kd.R_keptB ((Kd.R_apart' HO_260001.out (Kd.R_typed HO_268002.out) (by decide))) hkp (fun k_ hk_ hs_ => Or.elim hs_ (fun e_ => (hk_.1.1.2.2.1) e_) (fun e_ => (hk_.2) e_))) (fun k_ hk_ => ⟨hk_.1.1.1.1, hk_.1.1.1.2.1, hk_.1.1.1.2.2.1, hk_.1.1.1.2.2.2, hk_.1.1.2⟩)); have n3_ := Aside0.mk (zG (ok' := fun k_ => some k_ ≠ (.slice Ao32 t264.length co32 : Value).ownBlock ∧ some k_ ≠ (.slice Ao40 t272.length co40 : Value).ownBlock ∧ some k_ ≠ (.slice Ao71 t285.length co71 : Value).ownBlock) (Kd.R_keptB ((Kd.R_apart' HO_260002.out (Kd.R_typed HO_268001.out) (by decide))) hkp (fun k_ hk_ hs_ => Or.elim hs_ (fun e_ => (hk_.2) e_) (fun e_ => (hk_.1.1.1) e_))) (fun k_ hk_ => ⟨hk_.1.1.1.1, hk_.1.1.1.2, hk_.1.1.2⟩)); have n4_ := Aside0.mk (Kd.R_reok rfl hy0 (fun k_ e_ => HO_268001.out.1 k_ e_)); have n5_ := Aside0.mk (Kd.R_reok rfl hy1 (fun k_ e_ => HO_268002.out.1 k_ e_)); have n6_ := Aside0.mk (zG (ok' := fun k_ => some k_ ≠ (v257 : Value).ownBlock ∧ some k_ ≠ (v276 : Value).ownBlock ∧ some k_ ≠ (.slice Ao23 t250.length co23 : Value).ownBlock ∧ some k_ ≠ (.slice Ao31 t261.length co31 : Value).ownBlock ∧ some k_ ≠ (.slice Ao70 t282.length co70 : Value).ownBlock) (Kd.R_keptB ((Kd.R_apart' HO_279001.out (Kd.R_typed HO_268002.out) (by decide))) hkp (fun k_ hk_ hs_ => Or.elim hs_ (fun e_ => (hk_.1.1.2.2.2) e_) (fun e_ => (hk_.2) e_))) (fun k_ hk_ => ⟨hk_.1.1.1.1, hk_.1.1.1.2.1, hk_.1.1.1.2.2.1, hk_.1.1.1.2.2.2, hk_.1.1.2⟩)); have n7_ := Aside0.mk (zG (ok' := fun k_ => some k_ ≠ (.slice Ao24 t253.length co24 : Value).ownBlock ∧ some k_ ≠ (.slice Ao32 t264.length co32 : Value).ownBlock ∧ some k_ ≠ (.slice Ao71 t285.length co71 : Value).ownBlock) (Kd.R_keptB ((Kd.R_apart' HO_279002.out (Kd.R_typed HO_268001.out) (by decide))) hkp (fun k_ hk_ hs_ => Or.elim hs_ (fun e_ => (hk_.2) e_) (fun e_ => (hk_.1.1.2) e_))) (fun k_ hk_ => ⟨hk_.1.1.1.1, hk_.1.1.1.2, hk_.1.1.2⟩)); have n8_ := Aside0.mk (blk_kept (by (with_reducible repeat (first | refine zL ?_ _ | refine zM ?_ | refine zK ?_ _)); exact BK240.out) hkp (fun hs_ => Or.elim hs_ (fun e_ => (fun e_ => (Kd.R_ne HO_268001.out BK240.out (by decide)) e_) e_) (fun e_ => (fun e_ => (Kd.R_ne HO_268002.out BK240.out (by decide)) e_) e_))); have n9_ := Aside0.mk (blk_kept (by (with_reducible repeat (first | refine zL ?_ _ | refine zM ?_ | refine zK ?_ _)); exact BK259.out) hkp (fun hs_ => Or.elim hs_ (fun e_ => (fun e_ => (Kd.R_ne HO_268001.out BK259.out (by decide)) e_) e_) (fun e_ => (fun e_ => (Kd.R_ne HO_268002.out BK259.out (by decide)) e_) e_))); have n10_ := Aside0.mk (blk_kept (by (with_reducible repeat (first | refine zL ?_ _ | refine zM ?_ | refine zK ?_ _)); exact BK267.out) hkp (fun hs_ => Or.elim hs_ (fun e_ => (fun e_ => (Kd.R_ne HO_268001.out BK267.out (by decide)) e_) e_) (fun e_ => (fun e_ => (Kd.R_ne HO_268002.out BK267.out (by decide)) e_) e_))); have n11_ := Aside0.mk (blk_kept (by (with_reducible repeat (first | refine zL ?_ _ | refine zM ?_ | refine zK ?_ _)); exact BK278.out) hkp (fun hs_ => Or.elim hs_ (fun e_ => (fun e_ => (Kd.R_ne HO_268001.out BK278.out (by decide)) e_) e_) (fun e_ => (fun e_ => (Kd.R_ne HO_268002.out BK278.out (by decide)) e_) e_))); have n12_ := Aside0.mk (zG (ok' := fun k_ => some k_ ≠ (v257 : Value).ownBlock ∧ some k_ ≠ (v276 : Value).ownBlock ∧ some k_ ≠ (.slice Ao23 t250.length co23 : Value).ownBlock ∧ some k_ ≠ (.slice Ao31 t261.length co31 : Value).ownBlock ∧ some k_ ≠ (.slice Ao39 t269.length co39 : Value).ownBlock) (Kd.R_keptB ((Kd.R_apart' HO284.out (Kd.R_typed HO_268002.out) (by decide))) hkp (fun k_ hk_ hs_ => Or.elim hs_ (fun e_ => (hk_.1.1.2) e_) (fun e_ => (hk_.2) e_))) (fun k_ hk_ => ⟨hk_.1.1.1.1.1.1.2, hk_.1.1.1.1.1.2, hk_.1.1.1.1.2, hk_.1.1.1.2, hk_.1.1.2⟩)); have n13_ := Aside0.mk (zG (ok' := fun k_ => some k_ ≠ (.slice Ao24 t253.length co24 : Value).ownBlock ∧ some k_ ≠ (.slice Ao32 t264.length co32 : Value).ownBlock ∧ some k_ ≠ (.slice Ao40 t272.length co40 : Value).ownBlock) (Kd.R_keptB ((Kd.R_apart' HO287.out (Kd.R_typed HO_268001.out) (by decide))) hkp (fun k_ hk_ hs_ => Or.elim hs_ (fun e_ => (hk_.2) e_) (fun e_ => (hk_.1.1.2) e_))) (fun k_ hk_ => ⟨hk_.1.1.1.1.2, hk_.1.1.1.2, hk_.1.1.2⟩)); have n14_ := Aside0.mk (hb); clear HO_5; clear HO_8; clear HO_260001; clear HO_260002; clear HO_268001; clear HO_268002; clear HO_279001; clear HO_279002; clear BK240; clear BK259; clear BK267; clear BK278; clear HO284; clear HO287; clear HB; have HO_5 := n0_; have HO_8 := n1_; have HO_260001 := n2_; have HO_260002 := n3_; have HO_268001 := n4_; have HO_268002 := n5_; have HO_279001 := n6_; have HO_279002 := n7_; have BK240 := n8_; have BK259 := n9_; have BK267 := n10_; have BK278 := n11_; have HO284 := n12_; have HO287 := n13_; have HB := n14_; clear n0_ n1_ n2_ n3_ n4_ n5_ n6_ n7_ n8_ n9_ n10_ n11_ n12_ n13_ n14_; (try clear hb); (try clear hkp); (try clear hy0); (try clear hy1)))
            (try simp only [Act.put, List.setIfInBounds_toArray, List.set_cons_zero, List.set_cons_succ])
            go_cut [63] (fun v63 wc => ∃ (kq : Nat) (x63_66 : Bool), v63 = .bool x63_66 ∧ Aside0 (laws_FnExactCollect.j1 kq t256 t275 x63_66 a0_0 l0_1 l0_2 t249 t250 t253 t268 t269 t272 = some r) ∧ Aside0 (kq ≤ kj10) ∧ Aside0 (Kd.R (Kd.int .i64) 3 wc w.heap.size (fun k_ => some k_ ≠ (v276 : Value).ownBlock ∧ some k_ ≠ ((.slice Ao23 t250.length co23) : Value).ownBlock ∧ some k_ ≠ ((.slice Ao31 t261.length co31) : Value).ownBlock ∧ some k_ ≠ ((.slice Ao39 t269.length co39) : Value).ownBlock) v257 t256) ∧ Aside0 (Kd.R (Kd.int .i64) 3 wc w.heap.size (fun k_ => some k_ ≠ (v257 : Value).ownBlock ∧ some k_ ≠ ((.slice Ao23 t250.length co23) : Value).ownBlock ∧ some k_ ≠ ((.slice Ao31 t261.length co31) : Value).ownBlock ∧ some k_ ≠ ((.slice Ao39 t269.length co39) : Value).ownBlock) v276 t275) ∧ Aside0 (Kd.R (Kd.int .i64) 3 wc w.heap.size (fun k_ => some k_ ≠ (v257 : Value).ownBlock ∧ some k_ ≠ (v276 : Value).ownBlock ∧ some k_ ≠ ((.slice Ao31 t261.length co31) : Value).ownBlock ∧ some k_ ≠ ((.slice Ao39 t269.length co39) : Value).ownBlock) (.slice Ao23 t250.length co23) t250) ∧ Aside0 (Kd.R k58 58 wc w.heap.size (fun k_ => some k_ ≠ ((.slice Ao32 t264.length co32) : Value).ownBlock ∧ some k_ ≠ ((.slice Ao40 t272.length co40) : Value).ownBlock) (.slice Ao24 t253.length co24) t253) ∧ Aside0 (Kd.R (Kd.int .i64) 3 wc w.heap.size (fun k_ => some k_ ≠ (v257 : Value).ownBlock ∧ some k_ ≠ (v276 : Value).ownBlock ∧ some k_ ≠ ((.slice Ao23 t250.length co23) : Value).ownBlock ∧ some k_ ≠ ((.slice Ao39 t269.length co39) : Value).ownBlock) (.slice Ao31 t261.length co31) t290) ∧ Aside0 (Kd.R k58 58 wc w.heap.size (fun k_ => some k_ ≠ ((.slice Ao24 t253.length co24) : Value).ownBlock ∧ some k_ ≠ ((.slice Ao40 t272.length co40) : Value).ownBlock) (.slice Ao32 t264.length co32) t291) ∧ Aside0 (Kd.R (Kd.int .i64) 3 wc w.heap.size (fun k_ => some k_ ≠ (v257 : Value).ownBlock ∧ some k_ ≠ (v276 : Value).ownBlock ∧ some k_ ≠ ((.slice Ao23 t250.length co23) : Value).ownBlock ∧ some k_ ≠ ((.slice Ao31 t261.length co31) : Value).ownBlock) (.slice Ao39 t269.length co39) t269) ∧ Aside0 (Kd.R k58 58 wc w.heap.size (fun k_ => some k_ ≠ ((.slice Ao24 t253.length co24) : Value).ownBlock ∧ some k_ ≠ ((.slice Ao32 t264.length co32) : Value).ownBlock) (.slice Ao40 t272.length co40) t272) ∧ Aside0 (wc.heap[gb240]? = some (.cells #[.int .i64 a0_0, (.slice A0_1 l0_1.length c0_1), (.slice A0_2 l0_2.length c0_2)] 43 (0, 0))) ∧ Aside0 (wc.heap[gb259]? = some (.cells #[.int .i64 t249, (.slice Ao23 t250.length co23), (.slice Ao24 t253.length co24)] 27 (0, 0))) ∧ Aside0 (wc.heap[gb267]? = some (.cells #[.int .i64 t260, (.slice Ao31 t261.length co31), (.slice Ao32 t264.length co32)] 27 (0, 0))) ∧ Aside0 (wc.heap[gb278]? = some (.cells #[.int .i64 t268, (.slice Ao39 t269.length co39), (.slice Ao40 t272.length co40)] 27 (0, 0))) ∧ Aside0 (Below w.heap.size w wc))
            case first =>
              have H := HC67.out
              clear HC67
              by_cases c78 : t289 < 0
              · rw [if_pos c78] at H
                have c78b0 : decide (t289 < 0) = true := decide_eq_true c78
                clear c78
                (first | rw [c78b0] | (simp only [i64_w, i32_w]; rw [c78b0]) | skip)
                have H' := Aside0.mk H
                clear H
                go_wp2
                go_meet
                case rel => exact ⟨_, (true), (by first | rfl | (simp; done) | (simp [*]; done)), H', ⟨by have := HJ10.out; first | omega | exact Nat.le_refl _⟩, ⟨by (with_reducible repeat (first | apply zC | apply zD | apply zE)); exact zG HO_5.out (fun _ hk => ⟨hk.1, ⟨hk.2.1, ⟨hk.2.2.1, hk.2.2.2.1⟩⟩⟩)⟩, ⟨by (with_reducible repeat (first | apply zC | apply zD | apply zE)); exact zG HO_8.out (fun _ hk => ⟨hk.1, ⟨hk.2.1, ⟨hk.2.2.1, hk.2.2.2.1⟩⟩⟩)⟩, ⟨by (with_reducible repeat (first | apply zC | apply zD | apply zE)); exact zG HO_260001.out (fun _ hk => ⟨hk.1, ⟨hk.2.1, ⟨hk.2.2.1, hk.2.2.2.1⟩⟩⟩)⟩, ⟨by (with_reducible repeat (first | apply zC | apply zD | apply zE)); exact zG HO_260002.out (fun _ hk => ⟨hk.1, hk.2.1⟩)⟩, ⟨by (with_reducible repeat (first | apply zC | apply zD | apply zE)); exact zG HO_268001.out (fun _ hk => ⟨hk.1.1, ⟨hk.1.2.1, ⟨hk.1.2.2.1, hk.1.2.2.2⟩⟩⟩)⟩, ⟨by (with_reducible repeat (first | apply zC | apply zD | apply zE)); exact zG HO_268002.out (fun _ hk => ⟨hk.1.1, hk.1.2⟩)⟩, ⟨by (with_reducible repeat (first | apply zC | apply zD | apply zE)); exact zG HO_279001.out (fun _ hk => ⟨hk.1, ⟨hk.2.1, ⟨hk.2.2.1, hk.2.2.2.1⟩⟩⟩)⟩, ⟨by (with_reducible repeat (first | apply zC | apply zD | apply zE)); exact zG HO_279002.out (fun _ hk => ⟨hk.1, hk.2.1⟩)⟩, ⟨by (with_reducible repeat (first | refine zL ?_ _ | refine zM ?_ | refine zK ?_ _)); exact BK240.out⟩, ⟨by (with_reducible repeat (first | refine zL ?_ _ | refine zM ?_ | refine zK ?_ _)); exact BK259.out⟩, ⟨by (with_reducible repeat (first | refine zL ?_ _ | refine zM ?_ | refine zK ?_ _)); exact BK267.out⟩, ⟨by (with_reducible repeat (first | refine zL ?_ _ | refine zM ?_ | refine zK ?_ _)); exact BK278.out⟩, ⟨by repeat (first | (with_reducible first | exact HB.out | apply zO | apply zA | apply zN | refine zB ?_ GE240.out | refine zB ?_ GE259.out | refine zB ?_ GE267.out | refine zB ?_ GE278.out) | exact HB.out)⟩⟩
              · rw [if_neg c78] at H
                have c78b0 : decide (t289 < 0) = false := decide_eq_false c78
                clear c78
                (first | rw [c78b0] | (simp only [i64_w, i32_w]; rw [c78b0]) | skip)
                replace H := Option.bind_eq_some_iff.mp H
                obtain ⟨t292, A790, H⟩ := H
                replace H : (if t292 = true then ((laws_eqIntS.f kj10 t275 t256).bind fun t293 => (laws_FnExactCollect.j1 kj10 t256 t275 (!t293) a0_0 l0_1 l0_2 t249 t250 t253 t268 t269 t272)) else (laws_FnExactCollect.j1 kj10 t256 t275 true a0_0 l0_1 l0_2 t249 t250 t253 t268 t269 t272)) = some r := H
                have A79 := Aside0.mk A790
                clear A790
                by_cases c80 : t292 = true
                · subst c80
                  have H1 : ((laws_eqIntS.f kj10 t275 t256).bind fun t293 => (laws_FnExactCollect.j1 kj10 t256 t275 (!t293) a0_0 l0_1 l0_2 t249 t250 t253 t268 t269 t272)) = some r := by rw [if_pos rfl] at H; exact H
                  clear H
                  have H := H1
                  clear H1
                  replace H := Option.bind_eq_some_iff.mp H
                  obtain ⟨t293, A810, H⟩ := H
                  replace H : (laws_FnExactCollect.j1 kj10 t256 t275 (!t293) a0_0 l0_1 l0_2 t249 t250 t253 t268 t269 t272) = some r := H
                  have A81 := Aside0.mk A810
                  clear A810
                  have H' := Aside0.mk H
                  clear H
                  have hnb82 := NB278_240.out
                  have hnc82 := NB240_278.out
                  have hnb83 := NB278_259.out
                  have hnc83 := NB259_278.out
                  have hnb84 := NB278_267.out
                  have hnc84 := NB267_278.out
                  have hcz85_0 : w77.cell? ⟨gb278, 0, none⟩ = some (.int .i64 t268) := (zP BK278.out 0).trans rfl
                  have hcz85_1 : w77.cell? ⟨gb278, 1, none⟩ = some (.slice Ao39 t269.length co39) := (zP BK278.out 1).trans rfl
                  have hcz85_2 : w77.cell? ⟨gb278, 2, none⟩ = some (.slice Ao40 t272.length co40) := (zP BK278.out 2).trans rfl
                  have hfz85_0 := zQ BK278.out 0
                  have hfz85_1 := zQ BK278.out 1
                  have hfz85_2 := zQ BK278.out 2
                  have hnb86 := NB259_240.out
                  have hnc86 := NB240_259.out
                  have hnb87 := NB259_267.out
                  have hnc87 := NB267_259.out
                  have hcz88_0 : w77.cell? ⟨gb259, 0, none⟩ = some (.int .i64 t249) := (zP BK259.out 0).trans rfl
                  have hcz88_1 : w77.cell? ⟨gb259, 1, none⟩ = some (.slice Ao23 t250.length co23) := (zP BK259.out 1).trans rfl
                  have hcz88_2 : w77.cell? ⟨gb259, 2, none⟩ = some (.slice Ao24 t253.length co24) := (zP BK259.out 2).trans rfl
                  have hfz88_0 := zQ BK259.out 0
                  have hfz88_1 := zQ BK259.out 1
                  have hfz88_2 := zQ BK259.out 2
                  go_wp2_with (first | (go_at_call 25; (with_reducible refine (laws_eqEpochs.calls kj10 t268 _ _ t269 _ _ t272 t249 _ _ t250 _ _ t253 true _ ?side1 ?side2 ?side3 ?side4 ?side5 ?side6 ?side7 ?side8 A79.out).mono ?_); (case side1 => repeat (first | exact (zJ HO_279001.out).2.2 | (with_reducible refine zU ?_ _) | (with_reducible refine zV ?_ _) | (with_reducible refine zW ?_))); (case side2 => exact (zJ HO_279001.out).2.1); (case side3 => repeat (first | exact (zJ HO_279002.out).2.2 | (with_reducible refine zU ?_ _) | (with_reducible refine zV ?_ _) | (with_reducible refine zW ?_))); (case side4 => exact (zJ HO_279002.out).2.1); (case side5 => repeat (first | exact (zJ HO_260001.out).2.2 | (with_reducible refine zU ?_ _) | (with_reducible refine zV ?_ _) | (with_reducible refine zW ?_))); (case side6 => exact (zJ HO_260001.out).2.1); (case side7 => repeat (first | exact (zJ HO_260002.out).2.2 | (with_reducible refine zU ?_ _) | (with_reducible refine zV ?_ _) | (with_reducible refine zW ?_))); (case side8 => exact (zJ HO_260002.out).2.1); rintro e w89 ⟨rfl, hb⟩; have n0_ := Aside0.mk (zH (by (with_reducible repeat (first | apply zC | apply zD | apply zE)); exact HO_5.out) hb); have n1_ := Aside0.mk (zH (by (with_reducible repeat (first | apply zC | apply zD | apply zE)); exact HO_8.out) hb); have n2_ := Aside0.mk (zH (by (with_reducible repeat (first | apply zC | apply zD | apply zE)); exact HO_260001.out) hb); have n3_ := Aside0.mk (zH (by (with_reducible repeat (first | apply zC | apply zD | apply zE)); exact HO_260002.out) hb); have n4_ := Aside0.mk (zH (by (with_reducible repeat (first | apply zC | apply zD | apply zE)); exact HO_268001.out) hb); have n5_ := Aside0.mk (zH (by (with_reducible repeat (first | apply zC | apply zD | apply zE)); exact HO_268002.out) hb); have n6_ := Aside0.mk (zH (by (with_reducible repeat (first | apply zC | apply zD | apply zE)); exact HO_279001.out) hb); have n7_ := Aside0.mk (zH (by (with_reducible repeat (first | apply zC | apply zD | apply zE)); exact HO_279002.out) hb); have n8_ := Aside0.mk (zH (by (with_reducible repeat (first | apply zC | apply zD | apply zE)); exact HO284.out) hb); have n9_ := Aside0.mk (zH (by (with_reducible repeat (first | apply zC | apply zD | apply zE)); exact HO287.out) hb); have n10_ := Aside0.mk (zR (g := gb240) (o := .cells #[.int .i64 a0_0, .slice A0_1 l0_1.length c0_1, .slice A0_2 l0_2.length c0_2] 43 (0, 0)) (by (with_reducible repeat (first | refine zL ?_ _ | refine zM ?_ | refine zK ?_ _)); exact BK240.out) hb); have n11_ := Aside0.mk (zR (g := gb259) (o := .cells #[.int .i64 t249, .slice Ao23 t250.length co23, .slice Ao24 t253.length co24] 27 (0, 0)) (by (with_reducible repeat (first | refine zL ?_ _ | refine zM ?_ | refine zK ?_ _)); exact BK259.out) hb); have n12_ := Aside0.mk (zR (g := gb267) (o := .cells #[.int .i64 t260, .slice Ao31 t261.length co31, .slice Ao32 t264.length co32] 27 (0, 0)) (by (with_reducible repeat (first | refine zL ?_ _ | refine zM ?_ | refine zK ?_ _)); exact BK267.out) hb); have n13_ := Aside0.mk (zR (g := gb278) (o := .cells #[.int .i64 t268, .slice Ao39 t269.length co39, .slice Ao40 t272.length co40] 27 (0, 0)) (by (with_reducible repeat (first | refine zL ?_ _ | refine zM ?_ | refine zK ?_ _)); exact BK278.out) hb); have n14_ := Aside0.mk (zS (by repeat (first | (with_reducible first | exact HB.out | apply zO | apply zA | apply zN | refine zB ?_ GE240.out | refine zB ?_ GE259.out | refine zB ?_ GE267.out | refine zB ?_ GE278.out) | exact HB.out)) hb); clear HO_5; clear HO_8; clear HO_260001; clear HO_260002; clear HO_268001; clear HO_268002; clear HO_279001; clear HO_279002; clear HO284; clear HO287; clear BK240; clear BK259; clear BK267; clear BK278; clear HB; have HO_5 := n0_; have HO_8 := n1_; have HO_260001 := n2_; have HO_260002 := n3_; have HO_268001 := n4_; have HO_268002 := n5_; have HO_279001 := n6_; have HO_279002 := n7_; have HO284 := n8_; have HO287 := n9_; have BK240 := n10_; have BK259 := n11_; have BK267 := n12_; have BK278 := n13_; have HB := n14_; clear n0_ n1_ n2_ n3_ n4_ n5_ n6_ n7_ n8_ n9_ n10_ n11_ n12_ n13_ n14_; (try clear hb); (try clear hb2); (try clear hk); (try clear hi); obtain ⟨Ao90, co90, eo90⟩ := Kd.R_slice HO_8.out; subst eo90; obtain ⟨Ao91, co91, eo91⟩ := Kd.R_slice HO_5.out; subst eo91) | (go_at_call 39; (with_reducible refine (laws_eqIntS.calls kj10 _ _ t275 _ _ t256 t293 _ ?side1 ?side2 ?side3 ?side4 A81.out).mono ?_); (case side1 => repeat (first | exact (zJ HO_8.out).2.2 | (with_reducible refine zU ?_ _) | (with_reducible refine zV ?_ _) | (with_reducible refine zW ?_))); (case side2 => exact (zJ HO_8.out).2.1); (case side3 => repeat (first | exact (zJ HO_5.out).2.2 | (with_reducible refine zU ?_ _) | (with_reducible refine zV ?_ _) | (with_reducible refine zW ?_))); (case side4 => exact (zJ HO_5.out).2.1); rintro e w' ⟨rfl, ⟨nd, rfl⟩⟩))
                  go_meet
                  case rel => exact ⟨_, (!t293), (by first | rfl | (simp; done) | (simp [*]; done)), H', ⟨by have := HJ10.out; first | omega | exact Nat.le_refl _⟩, ⟨by (with_reducible repeat (first | apply zC | apply zD | apply zE)); exact zG HO_5.out (fun _ hk => ⟨hk.1, ⟨hk.2.1, ⟨hk.2.2.1, hk.2.2.2.1⟩⟩⟩)⟩, ⟨by (with_reducible repeat (first | apply zC | apply zD | apply zE)); exact zG HO_8.out (fun _ hk => ⟨hk.1, ⟨hk.2.1, ⟨hk.2.2.1, hk.2.2.2.1⟩⟩⟩)⟩, ⟨by (with_reducible repeat (first | apply zC | apply zD | apply zE)); exact zG HO_260001.out (fun _ hk => ⟨hk.1, ⟨hk.2.1, ⟨hk.2.2.1, hk.2.2.2.1⟩⟩⟩)⟩, ⟨by (with_reducible repeat (first | apply zC | apply zD | apply zE)); exact zG HO_260002.out (fun _ hk => ⟨hk.1, hk.2.1⟩)⟩, ⟨by (with_reducible repeat (first | apply zC | apply zD | apply zE)); exact zG HO_268001.out (fun _ hk => ⟨hk.1.1, ⟨hk.1.2.1, ⟨hk.1.2.2.1, hk.1.2.2.2⟩⟩⟩)⟩, ⟨by (with_reducible repeat (first | apply zC | apply zD | apply zE)); exact zG HO_268002.out (fun _ hk => ⟨hk.1.1, hk.1.2⟩)⟩, ⟨by (with_reducible repeat (first | apply zC | apply zD | apply zE)); exact zG HO_279001.out (fun _ hk => ⟨hk.1, ⟨hk.2.1, ⟨hk.2.2.1, hk.2.2.2.1⟩⟩⟩)⟩, ⟨by (with_reducible repeat (first | apply zC | apply zD | apply zE)); exact zG HO_279002.out (fun _ hk => ⟨hk.1, hk.2.1⟩)⟩, ⟨by (with_reducible repeat (first | refine zL ?_ _ | refine zM ?_ | refine zK ?_ _)); exact BK240.out⟩, ⟨by (with_reducible repeat (first | refine zL ?_ _ | refine zM ?_ | refine zK ?_ _)); exact BK259.out⟩, ⟨by (with_reducible repeat (first | refine zL ?_ _ | refine zM ?_ | refine zK ?_ _)); exact BK267.out⟩, ⟨by (with_reducible repeat (first | refine zL ?_ _ | refine zM ?_ | refine zK ?_ _)); exact BK278.out⟩, ⟨by repeat (first | (with_reducible first | exact HB.out | apply zO | apply zA | apply zN | refine zB ?_ GE240.out | refine zB ?_ GE259.out | refine zB ?_ GE267.out | refine zB ?_ GE278.out) | exact HB.out)⟩⟩
                · replace c80 := Bool.eq_false_iff.mpr c80
                  subst c80
                  have H1 : (laws_FnExactCollect.j1 kj10 t256 t275 true a0_0 l0_1 l0_2 t249 t250 t253 t268 t269 t272) = some r := by rw [if_neg (show ¬ (false = true) by decide)] at H; exact H
                  clear H
                  have H := H1
                  clear H1
                  have H' := Aside0.mk H
                  clear H
                  have hnb92 := NB278_240.out
                  have hnc92 := NB240_278.out
                  have hnb93 := NB278_259.out
                  have hnc93 := NB259_278.out
                  have hnb94 := NB278_267.out
                  have hnc94 := NB267_278.out
                  have hcz95_0 : w77.cell? ⟨gb278, 0, none⟩ = some (.int .i64 t268) := (zP BK278.out 0).trans rfl
                  have hcz95_1 : w77.cell? ⟨gb278, 1, none⟩ = some (.slice Ao39 t269.length co39) := (zP BK278.out 1).trans rfl
                  have hcz95_2 : w77.cell? ⟨gb278, 2, none⟩ = some (.slice Ao40 t272.length co40) := (zP BK278.out 2).trans rfl
                  have hfz95_0 := zQ BK278.out 0
                  have hfz95_1 := zQ BK278.out 1
                  have hfz95_2 := zQ BK278.out 2
                  have hnb96 := NB259_240.out
                  have hnc96 := NB240_259.out
                  have hnb97 := NB259_267.out
                  have hnc97 := NB267_259.out
                  have hcz98_0 : w77.cell? ⟨gb259, 0, none⟩ = some (.int .i64 t249) := (zP BK259.out 0).trans rfl
                  have hcz98_1 : w77.cell? ⟨gb259, 1, none⟩ = some (.slice Ao23 t250.length co23) := (zP BK259.out 1).trans rfl
                  have hcz98_2 : w77.cell? ⟨gb259, 2, none⟩ = some (.slice Ao24 t253.length co24) := (zP BK259.out 2).trans rfl
                  have hfz98_0 := zQ BK259.out 0
                  have hfz98_1 := zQ BK259.out 1
                  have hfz98_2 := zQ BK259.out 2
                  go_wp2_with (first | (go_at_call 25; (with_reducible refine (laws_eqEpochs.calls kj10 t268 _ _ t269 _ _ t272 t249 _ _ t250 _ _ t253 false _ ?side1 ?side2 ?side3 ?side4 ?side5 ?side6 ?side7 ?side8 A79.out).mono ?_); (case side1 => repeat (first | exact (zJ HO_279001.out).2.2 | (with_reducible refine zU ?_ _) | (with_reducible refine zV ?_ _) | (with_reducible refine zW ?_))); (case side2 => exact (zJ HO_279001.out).2.1); (case side3 => repeat (first | exact (zJ HO_279002.out).2.2 | (with_reducible refine zU ?_ _) | (with_reducible refine zV ?_ _) | (with_reducible refine zW ?_))); (case side4 => exact (zJ HO_279002.out).2.1); (case side5 => repeat (first | exact (zJ HO_260001.out).2.2 | (with_reducible refine zU ?_ _) | (with_reducible refine zV ?_ _) | (with_reducible refine zW ?_))); (case side6 => exact (zJ HO_260001.out).2.1); (case side7 => repeat (first | exact (zJ HO_260002.out).2.2 | (with_reducible refine zU ?_ _) | (with_reducible refine zV ?_ _) | (with_reducible refine zW ?_))); (case side8 => exact (zJ HO_260002.out).2.1); rintro e w99 ⟨rfl, hb⟩; have n0_ := Aside0.mk (zH (by (with_reducible repeat (first | apply zC | apply zD | apply zE)); exact HO_5.out) hb); have n1_ := Aside0.mk (zH (by (with_reducible repeat (first | apply zC | apply zD | apply zE)); exact HO_8.out) hb); have n2_ := Aside0.mk (zH (by (with_reducible repeat (first | apply zC | apply zD | apply zE)); exact HO_260001.out) hb); have n3_ := Aside0.mk (zH (by (with_reducible repeat (first | apply zC | apply zD | apply zE)); exact HO_260002.out) hb); have n4_ := Aside0.mk (zH (by (with_reducible repeat (first | apply zC | apply zD | apply zE)); exact HO_268001.out) hb); have n5_ := Aside0.mk (zH (by (with_reducible repeat (first | apply zC | apply zD | apply zE)); exact HO_268002.out) hb); have n6_ := Aside0.mk (zH (by (with_reducible repeat (first | apply zC | apply zD | apply zE)); exact HO_279001.out) hb); have n7_ := Aside0.mk (zH (by (with_reducible repeat (first | apply zC | apply zD | apply zE)); exact HO_279002.out) hb); have n8_ := Aside0.mk (zH (by (with_reducible repeat (first | apply zC | apply zD | apply zE)); exact HO284.out) hb); have n9_ := Aside0.mk (zH (by (with_reducible repeat (first | apply zC | apply zD | apply zE)); exact HO287.out) hb); have n10_ := Aside0.mk (zR (g := gb240) (o := .cells #[.int .i64 a0_0, .slice A0_1 l0_1.length c0_1, .slice A0_2 l0_2.length c0_2] 43 (0, 0)) (by (with_reducible repeat (first | refine zL ?_ _ | refine zM ?_ | refine zK ?_ _)); exact BK240.out) hb); have n11_ := Aside0.mk (zR (g := gb259) (o := .cells #[.int .i64 t249, .slice Ao23 t250.length co23, .slice Ao24 t253.length co24] 27 (0, 0)) (by (with_reducible repeat (first | refine zL ?_ _ | refine zM ?_ | refine zK ?_ _)); exact BK259.out) hb); have n12_ := Aside0.mk (zR (g := gb267) (o := .cells #[.int .i64 t260, .slice Ao31 t261.length co31, .slice Ao32 t264.length co32] 27 (0, 0)) (by (with_reducible repeat (first | refine zL ?_ _ | refine zM ?_ | refine zK ?_ _)); exact BK267.out) hb); have n13_ := Aside0.mk (zR (g := gb278) (o := .cells #[.int .i64 t268, .slice Ao39 t269.length co39, .slice Ao40 t272.length co40] 27 (0, 0)) (by (with_reducible repeat (first | refine zL ?_ _ | refine zM ?_ | refine zK ?_ _)); exact BK278.out) hb); have n14_ := Aside0.mk (zS (by repeat (first | (with_reducible first | exact HB.out | apply zO | apply zA | apply zN | refine zB ?_ GE240.out | refine zB ?_ GE259.out | refine zB ?_ GE267.out | refine zB ?_ GE278.out) | exact HB.out)) hb); clear HO_5; clear HO_8; clear HO_260001; clear HO_260002; clear HO_268001; clear HO_268002; clear HO_279001; clear HO_279002; clear HO284; clear HO287; clear BK240; clear BK259; clear BK267; clear BK278; clear HB; have HO_5 := n0_; have HO_8 := n1_; have HO_260001 := n2_; have HO_260002 := n3_; have HO_268001 := n4_; have HO_268002 := n5_; have HO_279001 := n6_; have HO_279002 := n7_; have HO284 := n8_; have HO287 := n9_; have BK240 := n10_; have BK259 := n11_; have BK267 := n12_; have BK278 := n13_; have HB := n14_; clear n0_ n1_ n2_ n3_ n4_ n5_ n6_ n7_ n8_ n9_ n10_ n11_ n12_ n13_ n14_; (try clear hb); (try clear hb2); (try clear hk); (try clear hi)))
                  go_meet
                  case rel => exact ⟨_, (true), (by first | rfl | (simp; done) | (simp [*]; done)), H', ⟨by have := HJ10.out; first | omega | exact Nat.le_refl _⟩, ⟨by (with_reducible repeat (first | apply zC | apply zD | apply zE)); exact zG HO_5.out (fun _ hk => ⟨hk.1, ⟨hk.2.1, ⟨hk.2.2.1, hk.2.2.2.1⟩⟩⟩)⟩, ⟨by (with_reducible repeat (first | apply zC | apply zD | apply zE)); exact zG HO_8.out (fun _ hk => ⟨hk.1, ⟨hk.2.1, ⟨hk.2.2.1, hk.2.2.2.1⟩⟩⟩)⟩, ⟨by (with_reducible repeat (first | apply zC | apply zD | apply zE)); exact zG HO_260001.out (fun _ hk => ⟨hk.1, ⟨hk.2.1, ⟨hk.2.2.1, hk.2.2.2.1⟩⟩⟩)⟩, ⟨by (with_reducible repeat (first | apply zC | apply zD | apply zE)); exact zG HO_260002.out (fun _ hk => ⟨hk.1, hk.2.1⟩)⟩, ⟨by (with_reducible repeat (first | apply zC | apply zD | apply zE)); exact zG HO_268001.out (fun _ hk => ⟨hk.1.1, ⟨hk.1.2.1, ⟨hk.1.2.2.1, hk.1.2.2.2⟩⟩⟩)⟩, ⟨by (with_reducible repeat (first | apply zC | apply zD | apply zE)); exact zG HO_268002.out (fun _ hk => ⟨hk.1.1, hk.1.2⟩)⟩, ⟨by (with_reducible repeat (first | apply zC | apply zD | apply zE)); exact zG HO_279001.out (fun _ hk => ⟨hk.1, ⟨hk.2.1, ⟨hk.2.2.1, hk.2.2.2.1⟩⟩⟩)⟩, ⟨by (with_reducible repeat (first | apply zC | apply zD | apply zE)); exact zG HO_279002.out (fun _ hk => ⟨hk.1, hk.2.1⟩)⟩, ⟨by (with_reducible repeat (first | refine zL ?_ _ | refine zM ?_ | refine zK ?_ _)); exact BK240.out⟩, ⟨by (with_reducible repeat (first | refine zL ?_ _ | refine zM ?_ | refine zK ?_ _)); exact BK259.out⟩, ⟨by (with_reducible repeat (first | refine zL ?_ _ | refine zM ?_ | refine zK ?_ _)); exact BK267.out⟩, ⟨by (with_reducible repeat (first | refine zL ?_ _ | refine zM ?_ | refine zK ?_ _)); exact BK278.out⟩, ⟨by repeat (first | (with_reducible first | exact HB.out | apply zO | apply zA | apply zN | refine zB ?_ GE240.out | refine zB ?_ GE259.out | refine zB ?_ GE267.out | refine zB ?_ GE278.out) | exact HB.out)⟩⟩
            case rest =>
              clear HC67
              try clear c1
              try clear c2
              try clear p2
              try clear c3
              try clear c3b0
              try clear c4
              try clear c5
              try clear c6
              try clear c7
              try clear c8
              try clear c9
              try clear c12
              try clear c21
              try clear c22
              try clear c25
              try clear c26
              try clear c28
              try clear c29
              try clear c30
              try clear c35
              try clear c36
              try clear c37
              try clear c38
              try clear c42
              try clear c44
              try clear c45
              try clear c46
              try clear c48
              try clear c49
              try clear c54
              try clear c55
              try clear c56
              try clear c58
              try clear c59
              try clear c62
              try clear c65
              try clear c73
              try clear c74
              try clear c75
              try clear c78
              try clear c78b0
              try clear c80
              try clear c82
              try clear c83
              try clear c84
              try clear c86
              try clear c87
              try clear c92
              try clear c93
              try clear c94
              try clear c96
              try clear c97
              try clear hcz13_0
              try clear hcz13_1
              try clear hcz13_2
              try clear hcz15_0
              try clear hcz15_1
              try clear hcz15_2
              try clear hcz22_0
              try clear hcz22_1
              try clear hcz22_2
              try clear hcz25_0
              try clear hcz25_1
              try clear hcz25_2
              try clear hcz30_0
              try clear hcz30_1
              try clear hcz30_2
              try clear hcz38_0
              try clear hcz38_1
              try clear hcz38_2
              try clear hcz47_0
              try clear hcz47_1
              try clear hcz47_2
              try clear hcz50_0
              try clear hcz50_1
              try clear hcz50_2
              try clear hcz57_0
              try clear hcz57_1
              try clear hcz57_2
              try clear hcz5_0
              try clear hcz5_1
              try clear hcz5_2
              try clear hcz60_0
              try clear hcz60_1
              try clear hcz60_2
              try clear hcz76_0
              try clear hcz76_1
              try clear hcz76_2
              try clear hcz85_0
              try clear hcz85_1
              try clear hcz85_2
              try clear hcz88_0
              try clear hcz88_1
              try clear hcz88_2
              try clear hcz95_0
              try clear hcz95_1
              try clear hcz95_2
              try clear hcz98_0
              try clear hcz98_1
              try clear hcz98_2
              try clear hfz13_0
              try clear hfz13_1
              try clear hfz13_2
              try clear hfz15_0
              try clear hfz15_1
              try clear hfz15_2
              try clear hfz22_0
              try clear hfz22_1
              try clear hfz22_2
              try clear hfz25_0
              try clear hfz25_1
              try clear hfz25_2
              try clear hfz30_0
              try clear hfz30_1
              try clear hfz30_2
              try clear hfz38_0
              try clear hfz38_1
              try clear hfz38_2
              try clear hfz47_0
              try clear hfz47_1
              try clear hfz47_2
              try clear hfz50_0
              try clear hfz50_1
              try clear hfz50_2
              try clear hfz57_0
              try clear hfz57_1
              try clear hfz57_2
              try clear hfz5_0
              try clear hfz5_1
              try clear hfz5_2
              try clear hfz60_0
              try clear hfz60_1
              try clear hfz60_2
              try clear hfz76_0
              try clear hfz76_1
              try clear hfz76_2
              try clear hfz85_0
              try clear hfz85_1
              try clear hfz85_2
              try clear hfz88_0
              try clear hfz88_1
              try clear hfz88_2
              try clear hfz95_0
              try clear hfz95_1
              try clear hfz95_2
              try clear hfz98_0
              try clear hfz98_1
              try clear hfz98_2
              try clear p2
              obtain ⟨kq, x63_66, rfl, HA, HJ66, HO_5, HO_8, HO_260001, HO_260002, HO_268001, HO_268002, HO_279001, HO_279002, BK240, BK259, BK267, BK278, HB⟩ := hcut
              have hl268001_66 := (zJ HO_268001.out).1
              rw [hl268001_66] at HO_268001
              (try simp only [hl268001_66])
              (try simp only [hl268001_66] at BK240)
              (try simp only [hl268001_66] at BK259)
              (try simp only [hl268001_66] at BK267)
              (try simp only [hl268001_66] at BK278)
              (try simp only [hl268001_66] at HO_5)
              (try simp only [hl268001_66] at HO_8)
              (try simp only [hl268001_66] at HO_260001)
              (try simp only [hl268001_66] at HO_260002)
              (try simp only [hl268001_66] at HO_268002)
              (try simp only [hl268001_66] at HO_279001)
              (try simp only [hl268001_66] at HO_279002)
              have hl268002_66 := (zJ HO_268002.out).1
              rw [hl268002_66] at HO_268002
              (try simp only [hl268002_66])
              (try simp only [hl268002_66] at BK240)
              (try simp only [hl268002_66] at BK259)
              (try simp only [hl268002_66] at BK267)
              (try simp only [hl268002_66] at BK278)
              (try simp only [hl268002_66] at HO_5)
              (try simp only [hl268002_66] at HO_8)
              (try simp only [hl268002_66] at HO_260001)
              (try simp only [hl268002_66] at HO_260002)
              (try simp only [hl268002_66] at HO_268001)
              (try simp only [hl268002_66] at HO_279001)
              (try simp only [hl268002_66] at HO_279002)
              cases kq with
              | zero => exact absurd HA.out (by simp [laws_FnExactCollect.j1])
              | succ kj66 =>
                have H := HA.out
                clear HA
                simp only [laws_FnExactCollect.j1] at H
                by_cases c100 : x63_66 = true
                · subst c100
                  have H1 : (none) = some r := by rw [if_pos rfl] at H; exact H
                  clear H
                  have H := H1
                  clear H1
                  exact absurd H (by simp)
                · replace c100 := Bool.eq_false_iff.mpr c100
                  subst c100
                  have H1 : ((laws_markEpochs.f kj66 t268 t269 t272 1).bind fun bt294 => ((laws_markIntS.f kj66 t275 bt294.1).bind fun bt297 => ((laws_heldEpochs.f kj66 t268 bt294.2.1 bt294.2.2 1).bind fun t299 => (if t299 < 0 then (none) else ((laws_heldIntS.f kj66 bt297.2 t299).bind fun t300 => (if t300 < 0 then (none) else (if t300 = bt297.1 then ((laws_toEpochs.f kj66 a0_0 l0_1 l0_2).bind fun bt301 => ((impl_Collect.f kj66 bt301.1 bt301.2.1 bt301.2.2).bind fun bt308 => ((laws_eqEpochs.f kj66 bt308.1 bt308.2.1 bt308.2.2.1 t249 t250 t253).bind fun t319 => (if t319 = true then ((laws_eqIntS.f kj66 bt308.2.2.2 t256).bind fun t320 => (laws_FnExactCollect.j2 kj66 bt297.2 bt297.1 (!t320) t268 bt294.2.1 bt294.2.2)) else (laws_FnExactCollect.j2 kj66 bt297.2 bt297.1 true t268 bt294.2.1 bt294.2.2))))) else (none)))))))) = some r := by rw [if_neg (show ¬ (false = true) by decide)] at H; exact H
                  clear H
                  have H := H1
                  clear H1
                  replace H := Option.bind_eq_some_iff.mp H
                  obtain ⟨⟨t294, t295, t296⟩, A1010, H⟩ := H
                  replace H : ((laws_markIntS.f kj66 t275 t294).bind fun bt297 => ((laws_heldEpochs.f kj66 t268 t295 t296 1).bind fun t299 => (if t299 < 0 then (none) else ((laws_heldIntS.f kj66 bt297.2 t299).bind fun t300 => (if t300 < 0 then (none) else (if t300 = bt297.1 then ((laws_toEpochs.f kj66 a0_0 l0_1 l0_2).bind fun bt301 => ((impl_Collect.f kj66 bt301.1 bt301.2.1 bt301.2.2).bind fun bt308 => ((laws_eqEpochs.f kj66 bt308.1 bt308.2.1 bt308.2.2.1 t249 t250 t253).bind fun t319 => (if t319 = true then ((laws_eqIntS.f kj66 bt308.2.2.2 t256).bind fun t320 => (laws_FnExactCollect.j2 kj66 bt297.2 bt297.1 (!t320) t268 t295 t296)) else (laws_FnExactCollect.j2 kj66 bt297.2 bt297.1 true t268 t295 t296))))) else (none))))))) = some r := H
                  have A101 := Aside0.mk A1010
                  clear A1010
                  replace H := Option.bind_eq_some_iff.mp H
                  obtain ⟨⟨t297, t298⟩, A1020, H⟩ := H
                  replace H : ((laws_heldEpochs.f kj66 t268 t295 t296 1).bind fun t299 => (if t299 < 0 then (none) else ((laws_heldIntS.f kj66 t298 t299).bind fun t300 => (if t300 < 0 then (none) else (if t300 = t297 then ((laws_toEpochs.f kj66 a0_0 l0_1 l0_2).bind fun bt301 => ((impl_Collect.f kj66 bt301.1 bt301.2.1 bt301.2.2).bind fun bt308 => ((laws_eqEpochs.f kj66 bt308.1 bt308.2.1 bt308.2.2.1 t249 t250 t253).bind fun t319 => (if t319 = true then ((laws_eqIntS.f kj66 bt308.2.2.2 t256).bind fun t320 => (laws_FnExactCollect.j2 kj66 t298 t297 (!t320) t268 t295 t296)) else (laws_FnExactCollect.j2 kj66 t298 t297 true t268 t295 t296))))) else (none)))))) = some r := H
                  have A102 := Aside0.mk A1020
                  clear A1020
                  replace H := Option.bind_eq_some_iff.mp H
                  obtain ⟨t299, A1030, H⟩ := H
                  replace H : (if t299 < 0 then (none) else ((laws_heldIntS.f kj66 t298 t299).bind fun t300 => (if t300 < 0 then (none) else (if t300 = t297 then ((laws_toEpochs.f kj66 a0_0 l0_1 l0_2).bind fun bt301 => ((impl_Collect.f kj66 bt301.1 bt301.2.1 bt301.2.2).bind fun bt308 => ((laws_eqEpochs.f kj66 bt308.1 bt308.2.1 bt308.2.2.1 t249 t250 t253).bind fun t319 => (if t319 = true then ((laws_eqIntS.f kj66 bt308.2.2.2 t256).bind fun t320 => (laws_FnExactCollect.j2 kj66 t298 t297 (!t320) t268 t295 t296)) else (laws_FnExactCollect.j2 kj66 t298 t297 true t268 t295 t296))))) else (none))))) = some r := H
                  have A103 := Aside0.mk A1030
                  clear A1030
                  by_cases c104 : t299 < 0
                  · rw [if_pos c104] at H
                    exact absurd H (by simp)
                  · rw [if_neg c104] at H
                    have c104b0 : decide (t299 < 0) = false := decide_eq_false c104
                    clear c104
                    replace H := Option.bind_eq_some_iff.mp H
                    obtain ⟨t300, A1050, H⟩ := H
                    replace H : (if t300 < 0 then (none) else (if t300 = t297 then ((laws_toEpochs.f kj66 a0_0 l0_1 l0_2).bind fun bt301 => ((impl_Collect.f kj66 bt301.1 bt301.2.1 bt301.2.2).bind fun bt308 => ((laws_eqEpochs.f kj66 bt308.1 bt308.2.1 bt308.2.2.1 t249 t250 t253).bind fun t319 => (if t319 = true then ((laws_eqIntS.f kj66 bt308.2.2.2 t256).bind fun t320 => (laws_FnExactCollect.j2 kj66 t298 t297 (!t320) t268 t295 t296)) else (laws_FnExactCollect.j2 kj66 t298 t297 true t268 t295 t296))))) else (none))) = some r := H
                    have A105 := Aside0.mk A1050
                    clear A1050
                    by_cases c106 : t300 < 0
                    · rw [if_pos c106] at H
                      exact absurd H (by simp)
                    · rw [if_neg c106] at H
                      have c106b0 : decide (t300 < 0) = false := decide_eq_false c106
                      clear c106
                      by_cases c107 : t300 = t297
                      · rw [if_pos c107] at H
                        have c107b0 : (t300 == t297) = true := beq_iff_eq.mpr c107
                        have c107b1 : (t300 != t297) = false := bne_eq_false_iff_eq.mpr c107
                        clear c107
                        replace H := Option.bind_eq_some_iff.mp H
                        obtain ⟨⟨t301, t302, t305⟩, A1080, H⟩ := H
                        replace H : ((impl_Collect.f kj66 t301 t302 t305).bind fun bt308 => ((laws_eqEpochs.f kj66 bt308.1 bt308.2.1 bt308.2.2.1 t249 t250 t253).bind fun t319 => (if t319 = true then ((laws_eqIntS.f kj66 bt308.2.2.2 t256).bind fun t320 => (laws_FnExactCollect.j2 kj66 t298 t297 (!t320) t268 t295 t296)) else (laws_FnExactCollect.j2 kj66 t298 t297 true t268 t295 t296)))) = some r := H
                        have A108 := Aside0.mk A1080
                        clear A1080
                        replace H := Option.bind_eq_some_iff.mp H
                        obtain ⟨⟨t308, t309, t312, t315⟩, A1090, H⟩ := H
                        replace H : ((laws_eqEpochs.f kj66 t308 t309 t312 t249 t250 t253).bind fun t319 => (if t319 = true then ((laws_eqIntS.f kj66 t315 t256).bind fun t320 => (laws_FnExactCollect.j2 kj66 t298 t297 (!t320) t268 t295 t296)) else (laws_FnExactCollect.j2 kj66 t298 t297 true t268 t295 t296))) = some r := H
                        have A109 := Aside0.mk A1090
                        clear A1090
                        have HC110 := Aside0.mk H
                        clear H
                        have hnb111 := NB278_240.out
                        have hnc111 := NB240_278.out
                        have hnb112 := NB278_259.out
                        have hnc112 := NB259_278.out
                        have hnb113 := NB278_267.out
                        have hnc113 := NB267_278.out
                        have hcz114_0 : wc.cell? ⟨gb278, 0, none⟩ = some (.int .i64 t268) := (zP BK278.out 0).trans rfl
                        have hcz114_1 : wc.cell? ⟨gb278, 1, none⟩ = some (.slice Ao39 t269.length co39) := (zP BK278.out 1).trans rfl
                        have hcz114_2 : wc.cell? ⟨gb278, 2, none⟩ = some (.slice Ao40 t272.length co40) := (zP BK278.out 2).trans rfl
                        have hfz114_0 := zQ BK278.out 0
                        have hfz114_1 := zQ BK278.out 1
                        have hfz114_2 := zQ BK278.out 2
                        go_upto_region 29 with (first | ((with_reducible refine gate_callee (f := 26) rfl ?_); refine goesL_ (some 66) rfl rfl Try.func26 (by kernel_rfl) rfl #[.agg #[.int .i64 t268, .slice Ao39 t269.length co39, .slice Ao40 t272.length co40], .int .i64 1] rfl (by (try simp only [List.map_toArray, List.map_cons, List.map_nil]); first | done | rfl | (simp only [List.length_drop, List.length_take]; rfl)) ?_; (with_reducible refine (laws_markEpochs.calls kj66 t268 (fun k_ => some k_ = (.slice Ao39 t269.length co39 : Value).ownBlock) (.slice Ao39 t269.length co39) t269 (fun k_ => some k_ = (.slice Ao40 t272.length co40 : Value).ownBlock) (.slice Ao40 t272.length co40) t272 1 t294 t295 t296 w _ ?side1 ?side2 ?side3 A101.out).mono ?_); (case side1 => repeat (first | (with_reducible first | exact HB.out | apply zO | apply zA | apply zN | refine zB ?_ GE240.out | refine zB ?_ GE259.out | refine zB ?_ GE267.out | refine zB ?_ GE278.out) | exact HB.out)); (case side2 => exact Kd.R_tight rfl HO_279001.out); (case side3 => exact Kd.R_tight rfl HO_279002.out); rintro e w115 ⟨rfl, hy0, hy1, hb, hkp⟩; refine ⟨_, rfl, ?_⟩; have n0_ := Aside0.mk (zG (ok' := fun k_ => some k_ ≠ (v276 : Value).ownBlock ∧ some k_ ≠ (.slice Ao23 t250.length co23 : Value).ownBlock ∧ some k_ ≠ (.slice Ao31 t290.length co31 : Value).ownBlock ∧ some k_ ≠ (.slice Ao39 t269.length co39 : Value).ownBlock) (Kd.R_keptB ((Kd.R_apart' HO_5.out (Kd.R_typed HO_279002.out) (by decide))) hkp (fun k_ hk_ hs_ => Or.elim hs_ (fun e_ => (hk_.1.2.2.2) e_) (fun e_ => (hk_.2) e_))) (fun k_ hk_ => ⟨hk_.1.1.1, hk_.1.1.2.1, hk_.1.1.2.2.1, hk_.1.1.2.2.2⟩)); have n1_ := Aside0.mk (zG (ok' := fun k_ => some k_ ≠ (v257 : Value).ownBlock ∧ some k_ ≠ (.slice Ao23 t250.length co23 : Value).ownBlock ∧ some k_ ≠ (.slice Ao31 t290.length co31 : Value).ownBlock ∧ some k_ ≠ (.slice Ao39 t269.length co39 : Value).ownBlock) (Kd.R_keptB ((Kd.R_apart' HO_8.out (Kd.R_typed HO_279002.out) (by decide))) hkp (fun k_ hk_ hs_ => Or.elim hs_ (fun e_ => (hk_.1.2.2.2) e_) (fun e_ => (hk_.2) e_))) (fun k_ hk_ => ⟨hk_.1.1.1, hk_.1.1.2.1, hk_.1.1.2.2.1, hk_.1.1.2.2.2⟩)); have n2_ := Aside0.mk (zG (ok' := fun k_ => some k_ ≠ (v257 : Value).ownBlock ∧ some k_ ≠ (v276 : Value).ownBlock ∧ some k_ ≠ (.slice Ao31 t290.length co31 : Value).ownBlock ∧ some k_ ≠ (.slice Ao39 t269.length co39 : Value).ownBlock) (Kd.R_keptB ((Kd.R_apart' HO_260001.out (Kd.R_typed HO_279002.out) (by decide))) hkp (fun k_ hk_ hs_ => Or.elim hs_ (fun e_ => (hk_.1.2.2.2) e_) (fun e_ => (hk_.2) e_))) (fun k_ hk_ => ⟨hk_.1.1.1, hk_.1.1.2.1, hk_.1.1.2.2.1, hk_.1.1.2.2.2⟩)); have n3_ := Aside0.mk (zG (ok' := fun k_ => some k_ ≠ (.slice Ao32 t291.length co32 : Value).ownBlock ∧ some k_ ≠ (.slice Ao40 t272.length co40 : Value).ownBlock) (Kd.R_keptB ((Kd.R_apart' HO_260002.out (Kd.R_typed HO_279001.out) (by decide))) hkp (fun k_ hk_ hs_ => Or.elim hs_ (fun e_ => (hk_.2) e_) (fun e_ => (hk_.1.2) e_))) (fun k_ hk_ => ⟨hk_.1.1.1, hk_.1.1.2⟩)); have n4_ := Aside0.mk (zG (ok' := fun k_ => some k_ ≠ (v257 : Value).ownBlock ∧ some k_ ≠ (v276 : Value).ownBlock ∧ some k_ ≠ (.slice Ao23 t250.length co23 : Value).ownBlock ∧ some k_ ≠ (.slice Ao39 t269.length co39 : Value).ownBlock) (Kd.R_keptB ((Kd.R_apart' HO_268001.out (Kd.R_typed HO_279002.out) (by decide))) hkp (fun k_ hk_ hs_ => Or.elim hs_ (fun e_ => (hk_.1.2.2.2) e_) (fun e_ => (hk_.2) e_))) (fun k_ hk_ => ⟨hk_.1.1.1, hk_.1.1.2.1, hk_.1.1.2.2.1, hk_.1.1.2.2.2⟩)); have n5_ := Aside0.mk (zG (ok' := fun k_ => some k_ ≠ (.slice Ao24 t253.length co24 : Value).ownBlock ∧ some k_ ≠ (.slice Ao40 t272.length co40 : Value).ownBlock) (Kd.R_keptB ((Kd.R_apart' HO_268002.out (Kd.R_typed HO_279001.out) (by decide))) hkp (fun k_ hk_ hs_ => Or.elim hs_ (fun e_ => (hk_.2) e_) (fun e_ => (hk_.1.2) e_))) (fun k_ hk_ => ⟨hk_.1.1.1, hk_.1.1.2⟩)); have n6_ := Aside0.mk (Kd.R_reok rfl hy0 (fun k_ e_ => HO_279001.out.1 k_ e_)); have n7_ := Aside0.mk (Kd.R_reok rfl hy1 (fun k_ e_ => HO_279002.out.1 k_ e_)); have n8_ := Aside0.mk (blk_kept (by (with_reducible repeat (first | refine zL ?_ _ | refine zM ?_ | refine zK ?_ _)); exact BK240.out) hkp (fun hs_ => Or.elim hs_ (fun e_ => (fun e_ => (Kd.R_ne HO_279001.out BK240.out (by decide)) e_) e_) (fun e_ => (fun e_ => (Kd.R_ne HO_279002.out BK240.out (by decide)) e_) e_))); have n9_ := Aside0.mk (blk_kept (by (with_reducible repeat (first | refine zL ?_ _ | refine zM ?_ | refine zK ?_ _)); exact BK259.out) hkp (fun hs_ => Or.elim hs_ (fun e_ => (fun e_ => (Kd.R_ne HO_279001.out BK259.out (by decide)) e_) e_) (fun e_ => (fun e_ => (Kd.R_ne HO_279002.out BK259.out (by decide)) e_) e_))); have n10_ := Aside0.mk (blk_kept (by (with_reducible repeat (first | refine zL ?_ _ | refine zM ?_ | refine zK ?_ _)); exact BK267.out) hkp (fun hs_ => Or.elim hs_ (fun e_ => (fun e_ => (Kd.R_ne HO_279001.out BK267.out (by decide)) e_) e_) (fun e_ => (fun e_ => (Kd.R_ne HO_279002.out BK267.out (by decide)) e_) e_))); have n11_ := Aside0.mk (blk_kept (by (with_reducible repeat (first | refine zL ?_ _ | refine zM ?_ | refine zK ?_ _)); exact BK278.out) hkp (fun hs_ => Or.elim hs_ (fun e_ => (fun e_ => (Kd.R_ne HO_279001.out BK278.out (by decide)) e_) e_) (fun e_ => (fun e_ => (Kd.R_ne HO_279002.out BK278.out (by decide)) e_) e_))); have n12_ := Aside0.mk (hb); clear HO_5; clear HO_8; clear HO_260001; clear HO_260002; clear HO_268001; clear HO_268002; clear HO_279001; clear HO_279002; clear BK240; clear BK259; clear BK267; clear BK278; clear HB; have HO_5 := n0_; have HO_8 := n1_; have HO_260001 := n2_; have HO_260002 := n3_; have HO_268001 := n4_; have HO_268002 := n5_; have HO_279001 := n6_; have HO_279002 := n7_; have BK240 := n8_; have BK259 := n9_; have BK267 := n10_; have BK278 := n11_; have HB := n12_; clear n0_ n1_ n2_ n3_ n4_ n5_ n6_ n7_ n8_ n9_ n10_ n11_ n12_; (try clear hb); (try clear hkp); (try clear hy0); (try clear hy1); obtain ⟨Ao116, co116, eo116⟩ := Kd.R_slice HO_8.out; subst eo116) | ((with_reducible refine gate_callee (f := 40) rfl ?_); refine goesL_ (some 69) rfl rfl Try.func40 (by kernel_rfl) rfl #[.slice Ao116 t275.length co116, .int .i64 t294] rfl (by (try simp only [List.map_toArray, List.map_cons, List.map_nil]); first | done | rfl | (simp only [List.length_drop, List.length_take]; rfl)) ?_; (with_reducible refine (laws_markIntS.calls kj66 (fun k_ => some k_ = (.slice Ao116 t275.length co116 : Value).ownBlock) (.slice Ao116 t275.length co116) t275 t294 t297 t298 w _ ?side1 ?side2 A102.out).mono ?_); (case side1 => repeat (first | (with_reducible first | exact HB.out | apply zO | apply zA | apply zN | refine zB ?_ GE240.out | refine zB ?_ GE259.out | refine zB ?_ GE267.out | refine zB ?_ GE278.out) | exact HB.out)); (case side2 => exact Kd.R_tight rfl HO_8.out); rintro e w117 ⟨rfl, hy0, hb, hkp⟩; refine ⟨_, rfl, ?_⟩; have n0_ := Aside0.mk (zG (ok' := fun k_ => some k_ ≠ (.slice Ao116 t275.length co116 : Value).ownBlock ∧ some k_ ≠ (.slice Ao23 t250.length co23 : Value).ownBlock ∧ some k_ ≠ (.slice Ao31 t290.length co31 : Value).ownBlock ∧ some k_ ≠ (.slice Ao39 t269.length co39 : Value).ownBlock) (Kd.R_keptB (HO_5.out) hkp (fun k_ hk_ hs_ => (hk_.1) hs_)) (fun k_ hk_ => ⟨hk_.1.1, hk_.1.2.1, hk_.1.2.2.1, hk_.1.2.2.2⟩)); have n1_ := Aside0.mk (Kd.R_reok rfl hy0 (fun k_ e_ => HO_8.out.1 k_ e_)); have n2_ := Aside0.mk (zG (ok' := fun k_ => some k_ ≠ (v257 : Value).ownBlock ∧ some k_ ≠ (.slice Ao116 t275.length co116 : Value).ownBlock ∧ some k_ ≠ (.slice Ao31 t290.length co31 : Value).ownBlock ∧ some k_ ≠ (.slice Ao39 t269.length co39 : Value).ownBlock) (Kd.R_keptB (HO_260001.out) hkp (fun k_ hk_ hs_ => (hk_.2.1) hs_)) (fun k_ hk_ => ⟨hk_.1.1, hk_.1.2.1, hk_.1.2.2.1, hk_.1.2.2.2⟩)); have n3_ := Aside0.mk (zG (ok' := fun k_ => some k_ ≠ (.slice Ao32 t291.length co32 : Value).ownBlock ∧ some k_ ≠ (.slice Ao40 t272.length co40 : Value).ownBlock) (Kd.R_keptB ((Kd.R_apart' HO_260002.out (Kd.R_typed HO_8.out) (by decide))) hkp (fun k_ hk_ hs_ => (hk_.2) hs_)) (fun k_ hk_ => ⟨hk_.1.1.1, hk_.1.1.2⟩)); have n4_ := Aside0.mk (zG (ok' := fun k_ => some k_ ≠ (v257 : Value).ownBlock ∧ some k_ ≠ (.slice Ao116 t275.length co116 : Value).ownBlock ∧ some k_ ≠ (.slice Ao23 t250.length co23 : Value).ownBlock ∧ some k_ ≠ (.slice Ao39 t269.length co39 : Value).ownBlock) (Kd.R_keptB (HO_268001.out) hkp (fun k_ hk_ hs_ => (hk_.2.1) hs_)) (fun k_ hk_ => ⟨hk_.1.1, hk_.1.2.1, hk_.1.2.2.1, hk_.1.2.2.2⟩)); have n5_ := Aside0.mk (zG (ok' := fun k_ => some k_ ≠ (.slice Ao24 t253.length co24 : Value).ownBlock ∧ some k_ ≠ (.slice Ao40 t272.length co40 : Value).ownBlock) (Kd.R_keptB ((Kd.R_apart' HO_268002.out (Kd.R_typed HO_8.out) (by decide))) hkp (fun k_ hk_ hs_ => (hk_.2) hs_)) (fun k_ hk_ => ⟨hk_.1.1.1, hk_.1.1.2⟩)); have n6_ := Aside0.mk (zG (ok' := fun k_ => some k_ ≠ (v257 : Value).ownBlock ∧ some k_ ≠ (.slice Ao116 t275.length co116 : Value).ownBlock ∧ some k_ ≠ (.slice Ao23 t250.length co23 : Value).ownBlock ∧ some k_ ≠ (.slice Ao31 t290.length co31 : Value).ownBlock) (Kd.R_keptB (HO_279001.out) hkp (fun k_ hk_ hs_ => (hk_.2.1) hs_)) (fun k_ hk_ => ⟨hk_.1.1, hk_.1.2.1, hk_.1.2.2.1, hk_.1.2.2.2⟩)); have n7_ := Aside0.mk (zG (ok' := fun k_ => some k_ ≠ (.slice Ao24 t253.length co24 : Value).ownBlock ∧ some k_ ≠ (.slice Ao32 t291.length co32 : Value).ownBlock) (Kd.R_keptB ((Kd.R_apart' HO_279002.out (Kd.R_typed HO_8.out) (by decide))) hkp (fun k_ hk_ hs_ => (hk_.2) hs_)) (fun k_ hk_ => ⟨hk_.1.1.1, hk_.1.1.2⟩)); have n8_ := Aside0.mk (blk_kept (by (with_reducible repeat (first | refine zL ?_ _ | refine zM ?_ | refine zK ?_ _)); exact BK240.out) hkp (fun hs_ => (fun e_ => (Kd.R_ne HO_8.out BK240.out (by decide)) e_) hs_)); have n9_ := Aside0.mk (blk_kept (by (with_reducible repeat (first | refine zL ?_ _ | refine zM ?_ | refine zK ?_ _)); exact BK259.out) hkp (fun hs_ => (fun e_ => (Kd.R_ne HO_8.out BK259.out (by decide)) e_) hs_)); have n10_ := Aside0.mk (blk_kept (by (with_reducible repeat (first | refine zL ?_ _ | refine zM ?_ | refine zK ?_ _)); exact BK267.out) hkp (fun hs_ => (fun e_ => (Kd.R_ne HO_8.out BK267.out (by decide)) e_) hs_)); have n11_ := Aside0.mk (blk_kept (by (with_reducible repeat (first | refine zL ?_ _ | refine zM ?_ | refine zK ?_ _)); exact BK278.out) hkp (fun hs_ => (fun e_ => (Kd.R_ne HO_8.out BK278.out (by decide)) e_) hs_)); have n12_ := Aside0.mk (hb); clear HO_5; clear HO_8; clear HO_260001; clear HO_260002; clear HO_268001; clear HO_268002; clear HO_279001; clear HO_279002; clear BK240; clear BK259; clear BK267; clear BK278; clear HB; have HO_5 := n0_; have HO_8 := n1_; have HO_260001 := n2_; have HO_260002 := n3_; have HO_268001 := n4_; have HO_268002 := n5_; have HO_279001 := n6_; have HO_279002 := n7_; have BK240 := n8_; have BK259 := n9_; have BK267 := n10_; have BK278 := n11_; have HB := n12_; clear n0_ n1_ n2_ n3_ n4_ n5_ n6_ n7_ n8_ n9_ n10_ n11_ n12_; (try clear hb); (try clear hkp); (try clear hy0); have hcz118_0 : w117.cell? ⟨gb278, 0, none⟩ = some (.int .i64 t268) := (zP BK278.out 0).trans rfl; have hcz118_1 : w117.cell? ⟨gb278, 1, none⟩ = some (.slice Ao39 t269.length co39) := (zP BK278.out 1).trans rfl; have hcz118_2 : w117.cell? ⟨gb278, 2, none⟩ = some (.slice Ao40 t272.length co40) := (zP BK278.out 2).trans rfl; have hfz118_0 := zQ BK278.out 0; have hfz118_1 := zQ BK278.out 1; have hfz118_2 := zQ BK278.out 2) | ((with_reducible refine gate_callee (f := 27) rfl ?_); refine goesL_ (some 72) rfl rfl Try.func27 (by kernel_rfl) rfl #[.agg #[.int .i64 t268, .slice Ao39 t295.length co39, .slice Ao40 t296.length co40], .int .i64 1] rfl (by (try simp only [List.map_toArray, List.map_cons, List.map_nil]); first | done | (rw [show t295.length = t269.length from (zJ HO_279001.out).1.symm, show t296.length = t272.length from (zJ HO_279002.out).1.symm] <;> rfl) | rfl | (simp only [List.length_drop, List.length_take]; rfl)) ?_; (with_reducible refine (laws_heldEpochs.calls kj66 t268 _ _ t295 _ _ t296 1 t299 _ ?side1 ?side2 ?side3 ?side4 A103.out).mono ?_); (case side1 => repeat (first | exact (zJ HO_279001.out).2.2 | (with_reducible refine zU ?_ _) | (with_reducible refine zV ?_ _) | (with_reducible refine zW ?_))); (case side2 => rw [show t295.length = t269.length from (zJ HO_279001.out).1.symm]; exact (zJ HO_279001.out).2.1); (case side3 => repeat (first | exact (zJ HO_279002.out).2.2 | (with_reducible refine zU ?_ _) | (with_reducible refine zV ?_ _) | (with_reducible refine zW ?_))); (case side4 => rw [show t296.length = t272.length from (zJ HO_279002.out).1.symm]; exact (zJ HO_279002.out).2.1); rintro e w119 ⟨rfl, hb⟩; refine ⟨_, rfl, ?_⟩; have n0_ := Aside0.mk (zH (by (with_reducible repeat (first | apply zC | apply zD | apply zE)); exact HO_5.out) hb); have n1_ := Aside0.mk (zH (by (with_reducible repeat (first | apply zC | apply zD | apply zE)); exact HO_8.out) hb); have n2_ := Aside0.mk (zH (by (with_reducible repeat (first | apply zC | apply zD | apply zE)); exact HO_260001.out) hb); have n3_ := Aside0.mk (zH (by (with_reducible repeat (first | apply zC | apply zD | apply zE)); exact HO_260002.out) hb); have n4_ := Aside0.mk (zH (by (with_reducible repeat (first | apply zC | apply zD | apply zE)); exact HO_268001.out) hb); have n5_ := Aside0.mk (zH (by (with_reducible repeat (first | apply zC | apply zD | apply zE)); exact HO_268002.out) hb); have n6_ := Aside0.mk (zH (by (with_reducible repeat (first | apply zC | apply zD | apply zE)); exact HO_279001.out) hb); have n7_ := Aside0.mk (zH (by (with_reducible repeat (first | apply zC | apply zD | apply zE)); exact HO_279002.out) hb); have n8_ := Aside0.mk (zR (g := gb240) (o := .cells #[.int .i64 a0_0, .slice A0_1 l0_1.length c0_1, .slice A0_2 l0_2.length c0_2] 43 (0, 0)) (by (with_reducible repeat (first | refine zL ?_ _ | refine zM ?_ | refine zK ?_ _)); exact BK240.out) hb); have n9_ := Aside0.mk (zR (g := gb259) (o := .cells #[.int .i64 t249, .slice Ao23 t250.length co23, .slice Ao24 t253.length co24] 27 (0, 0)) (by (with_reducible repeat (first | refine zL ?_ _ | refine zM ?_ | refine zK ?_ _)); exact BK259.out) hb); have n10_ := Aside0.mk (zR (g := gb267) (o := .cells #[.int .i64 t260, .slice Ao31 t290.length co31, .slice Ao32 t291.length co32] 27 (0, 0)) (by (with_reducible repeat (first | refine zL ?_ _ | refine zM ?_ | refine zK ?_ _)); exact BK267.out) hb); have n11_ := Aside0.mk (zR (g := gb278) (o := .cells #[.int .i64 t268, .slice Ao39 t269.length co39, .slice Ao40 t272.length co40] 27 (0, 0)) (by (with_reducible repeat (first | refine zL ?_ _ | refine zM ?_ | refine zK ?_ _)); exact BK278.out) hb); have n12_ := Aside0.mk (zS (by repeat (first | (with_reducible first | exact HB.out | apply zO | apply zA | apply zN | refine zB ?_ GE240.out | refine zB ?_ GE259.out | refine zB ?_ GE267.out | refine zB ?_ GE278.out) | exact HB.out)) hb); clear HO_5; clear HO_8; clear HO_260001; clear HO_260002; clear HO_268001; clear HO_268002; clear HO_279001; clear HO_279002; clear BK240; clear BK259; clear BK267; clear BK278; clear HB; have HO_5 := n0_; have HO_8 := n1_; have HO_260001 := n2_; have HO_260002 := n3_; have HO_268001 := n4_; have HO_268002 := n5_; have HO_279001 := n6_; have HO_279002 := n7_; have BK240 := n8_; have BK259 := n9_; have BK267 := n10_; have BK278 := n11_; have HB := n12_; clear n0_ n1_ n2_ n3_ n4_ n5_ n6_ n7_ n8_ n9_ n10_ n11_ n12_; (try clear hb); (try clear hb2); (try clear hk); (try clear hi)) | ((with_reducible refine gate_callee (f := 41) rfl ?_); refine goesL_ (some 77) rfl rfl Try.func41 (by kernel_rfl) rfl #[.slice Ao116 t298.length co116, .int .i64 t299] rfl (by (try simp only [List.map_toArray, List.map_cons, List.map_nil]); first | done | (rw [show t298.length = t275.length from (zJ HO_8.out).1.symm] <;> rfl) | rfl | (simp only [List.length_drop, List.length_take]; rfl)) ?_; (with_reducible refine (laws_heldIntS.calls kj66 _ _ t298 t299 t300 _ ?side1 ?side2 A105.out).mono ?_); (case side1 => repeat (first | exact (zJ HO_8.out).2.2 | (with_reducible refine zU ?_ _) | (with_reducible refine zV ?_ _) | (with_reducible refine zW ?_))); (case side2 => rw [show t298.length = t275.length from (zJ HO_8.out).1.symm]; exact (zJ HO_8.out).2.1); rintro e w' ⟨rfl, ⟨nd, rfl⟩⟩; refine ⟨_, rfl, ?_⟩; (try (rw [drewN_self w119]; generalize hq_ : World.drewN w119 _ = w119; have n0_ : Aside0 (Kd.R (Kd.int .i64) 3 w119 w.heap.size (fun k_ => some k_ ≠ (.slice Ao31 t290.length co31 : Value).ownBlock ∧ some k_ ≠ (.slice Ao39 t269.length co39 : Value).ownBlock ∧ some k_ ≠ (v257 : Value).ownBlock ∧ some k_ ≠ (.slice Ao116 t275.length co116 : Value).ownBlock) (.slice Ao23 t250.length co23) t250) := ⟨by rw [← hq_]; exact (by (with_reducible repeat (first | apply zC | apply zD | apply zE)); exact zG HO_260001.out (fun _ hk => ⟨hk.2.2.1, ⟨hk.2.2.2, ⟨hk.1, hk.2.1⟩⟩⟩))⟩; have n1_ : Aside0 (Kd.R k58 58 w119 w.heap.size (fun k_ => some k_ ≠ (.slice Ao32 t291.length co32 : Value).ownBlock ∧ some k_ ≠ (.slice Ao40 t272.length co40 : Value).ownBlock) (.slice Ao24 t253.length co24) t253) := ⟨by rw [← hq_]; exact (by (with_reducible repeat (first | apply zC | apply zD | apply zE)); exact HO_260002.out)⟩; have n2_ : Aside0 (Kd.R (Kd.int .i64) 3 w119 w.heap.size (fun k_ => some k_ ≠ (.slice Ao23 t250.length co23 : Value).ownBlock ∧ some k_ ≠ (.slice Ao39 t269.length co39 : Value).ownBlock ∧ some k_ ≠ (v257 : Value).ownBlock ∧ some k_ ≠ (.slice Ao116 t275.length co116 : Value).ownBlock) (.slice Ao31 t290.length co31) t290) := ⟨by rw [← hq_]; exact (by (with_reducible repeat (first | apply zC | apply zD | apply zE)); exact zG HO_268001.out (fun _ hk => ⟨hk.2.2.1, ⟨hk.2.2.2, ⟨hk.1, hk.2.1⟩⟩⟩))⟩; have n3_ : Aside0 (Kd.R k58 58 w119 w.heap.size (fun k_ => some k_ ≠ (.slice Ao24 t253.length co24 : Value).ownBlock ∧ some k_ ≠ (.slice Ao40 t272.length co40 : Value).ownBlock) (.slice Ao32 t291.length co32) t291) := ⟨by rw [← hq_]; exact (by (with_reducible repeat (first | apply zC | apply zD | apply zE)); exact HO_268002.out)⟩; have n4_ : Aside0 (Kd.R (Kd.int .i64) 3 w119 w.heap.size (fun k_ => some k_ ≠ (.slice Ao23 t250.length co23 : Value).ownBlock ∧ some k_ ≠ (.slice Ao31 t290.length co31 : Value).ownBlock ∧ some k_ ≠ (v257 : Value).ownBlock ∧ some k_ ≠ (.slice Ao116 t275.length co116 : Value).ownBlock) (.slice Ao39 t269.length co39) t295) := ⟨by rw [← hq_]; exact (by (with_reducible repeat (first | apply zC | apply zD | apply zE)); exact zG HO_279001.out (fun _ hk => ⟨hk.2.2.1, ⟨hk.2.2.2, ⟨hk.1, hk.2.1⟩⟩⟩))⟩; have n5_ : Aside0 (Kd.R k58 58 w119 w.heap.size (fun k_ => some k_ ≠ (.slice Ao24 t253.length co24 : Value).ownBlock ∧ some k_ ≠ (.slice Ao32 t291.length co32 : Value).ownBlock) (.slice Ao40 t272.length co40) t296) := ⟨by rw [← hq_]; exact (by (with_reducible repeat (first | apply zC | apply zD | apply zE)); exact HO_279002.out)⟩; have n6_ : Aside0 (Kd.R (Kd.int .i64) 3 w119 w.heap.size (fun k_ => some k_ ≠ (.slice Ao23 t250.length co23 : Value).ownBlock ∧ some k_ ≠ (.slice Ao31 t290.length co31 : Value).ownBlock ∧ some k_ ≠ (.slice Ao39 t269.length co39 : Value).ownBlock ∧ some k_ ≠ (.slice Ao116 t275.length co116 : Value).ownBlock) v257 t256) := ⟨by rw [← hq_]; exact (by (with_reducible repeat (first | apply zC | apply zD | apply zE)); exact zG HO_5.out (fun _ hk => ⟨hk.2.1, ⟨hk.2.2.1, ⟨hk.2.2.2, hk.1⟩⟩⟩))⟩; have n7_ : Aside0 (Kd.R (Kd.int .i64) 3 w119 w.heap.size (fun k_ => some k_ ≠ (.slice Ao23 t250.length co23 : Value).ownBlock ∧ some k_ ≠ (.slice Ao31 t290.length co31 : Value).ownBlock ∧ some k_ ≠ (.slice Ao39 t269.length co39 : Value).ownBlock ∧ some k_ ≠ (v257 : Value).ownBlock) (.slice Ao116 t275.length co116) t298) := ⟨by rw [← hq_]; exact (by (with_reducible repeat (first | apply zC | apply zD | apply zE)); exact zG HO_8.out (fun _ hk => ⟨hk.2.1, ⟨hk.2.2.1, ⟨hk.2.2.2, hk.1⟩⟩⟩))⟩; have n8_ : Aside0 (w119.heap[gb240]? = some (.cells #[.int .i64 a0_0, .slice A0_1 l0_1.length c0_1, .slice A0_2 l0_2.length c0_2] 43 (0, 0))) := ⟨by rw [← hq_]; exact (by (with_reducible repeat (first | refine zL ?_ _ | refine zM ?_ | refine zK ?_ _)); exact BK240.out)⟩; have n9_ : Aside0 (w119.heap[gb259]? = some (.cells #[.int .i64 t249, .slice Ao23 t250.length co23, .slice Ao24 t253.length co24] 27 (0, 0))) := ⟨by rw [← hq_]; exact (by (with_reducible repeat (first | refine zL ?_ _ | refine zM ?_ | refine zK ?_ _)); exact BK259.out)⟩; have n10_ : Aside0 (w119.heap[gb267]? = some (.cells #[.int .i64 t260, .slice Ao31 t290.length co31, .slice Ao32 t291.length co32] 27 (0, 0))) := ⟨by rw [← hq_]; exact (by (with_reducible repeat (first | refine zL ?_ _ | refine zM ?_ | refine zK ?_ _)); exact BK267.out)⟩; have n11_ : Aside0 (w119.heap[gb278]? = some (.cells #[.int .i64 t268, .slice Ao39 t269.length co39, .slice Ao40 t272.length co40] 27 (0, 0))) := ⟨by rw [← hq_]; exact (by (with_reducible repeat (first | refine zL ?_ _ | refine zM ?_ | refine zK ?_ _)); exact BK278.out)⟩; have n12_ : Aside0 (Below w.heap.size w w119) := ⟨by rw [← hq_]; exact (by repeat (first | (with_reducible first | exact HB.out | apply zO | apply zA | apply zN | refine zB ?_ GE240.out | refine zB ?_ GE259.out | refine zB ?_ GE267.out | refine zB ?_ GE278.out) | exact HB.out))⟩; clear HO_260001 HO_260002 HO_268001 HO_268002 HO_279001 HO_279002 HO_5 HO_8 BK240 BK259 BK267 BK278 HB hq_; have HO_260001 := n0_; have HO_260002 := n1_; have HO_268001 := n2_; have HO_268002 := n3_; have HO_279001 := n4_; have HO_279002 := n5_; have HO_5 := n6_; have HO_8 := n7_; have BK240 := n8_; have BK259 := n9_; have BK267 := n10_; have BK278 := n11_; have HB := n12_; clear n0_ n1_ n2_ n3_ n4_ n5_ n6_ n7_ n8_ n9_ n10_ n11_ n12_)); have hnb120 := NB240_259.out; have hnc120 := NB259_240.out; have hnb121 := NB240_267.out; have hnc121 := NB267_240.out; have hcz122_0 : w119.cell? ⟨gb240, 0, none⟩ = some (.int .i64 a0_0) := (zP BK240.out 0).trans rfl; have hcz122_1 : w119.cell? ⟨gb240, 1, none⟩ = some (.slice A0_1 l0_1.length c0_1) := (zP BK240.out 1).trans rfl; have hcz122_2 : w119.cell? ⟨gb240, 2, none⟩ = some (.slice A0_2 l0_2.length c0_2) := (zP BK240.out 2).trans rfl; have hfz122_0 := zQ BK240.out 0; have hfz122_1 := zQ BK240.out 1; have hfz122_2 := zQ BK240.out 2) | ((with_reducible refine gate_callee (f := 30) rfl ?_); refine goesL_ (some 85) rfl rfl Try.func30 (by kernel_rfl) rfl #[.agg #[.int .i64 a0_0, .slice A0_1 l0_1.length c0_1, .slice A0_2 l0_2.length c0_2]] rfl (by (try simp only [List.map_toArray, List.map_cons, List.map_nil]); first | done | rfl | (simp only [List.length_drop, List.length_take]; rfl)) ?_; (with_reducible refine (laws_toEpochs.calls kj66 a0_0 _ _ l0_1 _ _ l0_2 t301 t302 t305 _ ?side1 ?side2 ?side3 ?side4 A108.out).mono ?_); (case side1 => repeat (first | exact (Kd.C_below HR0_1.out HB.out) | (with_reducible refine zU ?_ _) | (with_reducible refine zV ?_ _) | (with_reducible refine zW ?_))); (case side2 => exact HC0_1.out); (case side3 => repeat (first | exact (Kd.C_below HR0_2.out HB.out) | (with_reducible refine zU ?_ _) | (with_reducible refine zV ?_ _) | (with_reducible refine zW ?_))); (case side4 => exact HC0_2.out); rintro e w123 ⟨v303, v306, rfl, ho0, ho1, hb⟩; refine ⟨_, rfl, ?_⟩; have n0_ := Aside0.mk (Kd.R_elder' (by (with_reducible repeat (first | apply zC | apply zD | apply zE)); exact HO_5.out) (Kd.R_base ho0) hb); have n1_ := Aside0.mk (Kd.R_elder' (by (with_reducible repeat (first | apply zC | apply zD | apply zE)); exact HO_8.out) (Kd.R_base ho0) hb); have n2_ := Aside0.mk (Kd.R_elder' (by (with_reducible repeat (first | apply zC | apply zD | apply zE)); exact HO_260001.out) (Kd.R_base ho0) hb); have n3_ := Aside0.mk (Kd.R_elder' (by (with_reducible repeat (first | apply zC | apply zD | apply zE)); exact HO_260002.out) (Kd.R_base ho1) hb); have n4_ := Aside0.mk (Kd.R_elder' (by (with_reducible repeat (first | apply zC | apply zD | apply zE)); exact HO_268001.out) (Kd.R_base ho0) hb); have n5_ := Aside0.mk (Kd.R_elder' (by (with_reducible repeat (first | apply zC | apply zD | apply zE)); exact HO_268002.out) (Kd.R_base ho1) hb); have n6_ := Aside0.mk (Kd.R_elder' (by (with_reducible repeat (first | apply zC | apply zD | apply zE)); exact HO_279001.out) (Kd.R_base ho0) hb); have n7_ := Aside0.mk (Kd.R_elder' (by (with_reducible repeat (first | apply zC | apply zD | apply zE)); exact HO_279002.out) (Kd.R_base ho1) hb); have n8_ := Aside0.mk (Kd.R_lower (Kd.R_new' (Kd.R_new' (Kd.R_new' (Kd.R_new' (Kd.R_new' ho0 (Kd.R_lt (by (with_reducible repeat (first | apply zC | apply zD | apply zE)); exact HO_5.out))) (Kd.R_lt (by (with_reducible repeat (first | apply zC | apply zD | apply zE)); exact HO_8.out))) (Kd.R_lt (by (with_reducible repeat (first | apply zC | apply zD | apply zE)); exact HO_260001.out))) (Kd.R_lt (by (with_reducible repeat (first | apply zC | apply zD | apply zE)); exact HO_268001.out))) (Kd.R_lt (by (with_reducible repeat (first | apply zC | apply zD | apply zE)); exact HO_279001.out))) (zT (by repeat (first | (with_reducible first | exact HB.out | apply zO | apply zA | apply zN | refine zB ?_ GE240.out | refine zB ?_ GE259.out | refine zB ?_ GE267.out | refine zB ?_ GE278.out) | exact HB.out)))); have n9_ := Aside0.mk (Kd.R_lower (Kd.R_new' (Kd.R_new' (Kd.R_new' ho1 (Kd.R_lt (by (with_reducible repeat (first | apply zC | apply zD | apply zE)); exact HO_260002.out))) (Kd.R_lt (by (with_reducible repeat (first | apply zC | apply zD | apply zE)); exact HO_268002.out))) (Kd.R_lt (by (with_reducible repeat (first | apply zC | apply zD | apply zE)); exact HO_279002.out))) (zT (by repeat (first | (with_reducible first | exact HB.out | apply zO | apply zA | apply zN | refine zB ?_ GE240.out | refine zB ?_ GE259.out | refine zB ?_ GE267.out | refine zB ?_ GE278.out) | exact HB.out)))); have n10_ := Aside0.mk (zR (g := gb240) (o := .cells #[.int .i64 a0_0, .slice A0_1 l0_1.length c0_1, .slice A0_2 l0_2.length c0_2] 43 (0, 0)) (by (with_reducible repeat (first | refine zL ?_ _ | refine zM ?_ | refine zK ?_ _)); exact BK240.out) hb); have n11_ := Aside0.mk (zR (g := gb259) (o := .cells #[.int .i64 t249, .slice Ao23 t250.length co23, .slice Ao24 t253.length co24] 27 (0, 0)) (by (with_reducible repeat (first | refine zL ?_ _ | refine zM ?_ | refine zK ?_ _)); exact BK259.out) hb); have n12_ := Aside0.mk (zR (g := gb267) (o := .cells #[.int .i64 t260, .slice Ao31 t290.length co31, .slice Ao32 t291.length co32] 27 (0, 0)) (by (with_reducible repeat (first | refine zL ?_ _ | refine zM ?_ | refine zK ?_ _)); exact BK267.out) hb); have n13_ := Aside0.mk (zR (g := gb278) (o := .cells #[.int .i64 t268, .slice Ao39 t269.length co39, .slice Ao40 t272.length co40] 27 (0, 0)) (by (with_reducible repeat (first | refine zL ?_ _ | refine zM ?_ | refine zK ?_ _)); exact BK278.out) hb); have n14_ := Aside0.mk (zS (by repeat (first | (with_reducible first | exact HB.out | apply zO | apply zA | apply zN | refine zB ?_ GE240.out | refine zB ?_ GE259.out | refine zB ?_ GE267.out | refine zB ?_ GE278.out) | exact HB.out)) hb); clear HO_5; clear HO_8; clear HO_260001; clear HO_260002; clear HO_268001; clear HO_268002; clear HO_279001; clear HO_279002; clear BK240; clear BK259; clear BK267; clear BK278; clear HB; have HO_5 := n0_; have HO_8 := n1_; have HO_260001 := n2_; have HO_260002 := n3_; have HO_268001 := n4_; have HO_268002 := n5_; have HO_279001 := n6_; have HO_279002 := n7_; have HO304 := n8_; have HO307 := n9_; have BK240 := n10_; have BK259 := n11_; have BK267 := n12_; have BK278 := n13_; have HB := n14_; clear n0_ n1_ n2_ n3_ n4_ n5_ n6_ n7_ n8_ n9_ n10_ n11_ n12_ n13_ n14_; (try clear hb); (try clear hb2); (try clear hk); (try clear hi); (try clear ho0); (try clear ho1); obtain ⟨Ao124, co124, eo124⟩ := Kd.R_slice HO304.out; subst eo124; obtain ⟨Ao125, co125, eo125⟩ := Kd.R_slice HO307.out; subst eo125) | ((with_reducible refine gate_callee (f := 22) rfl ?_); refine goesL_ (some 86) rfl rfl Try.func22 (by kernel_rfl) rfl #[.agg #[.int .i64 t301, .slice Ao124 t302.length co124, .slice Ao125 t305.length co125]] rfl (by (try simp only [List.map_toArray, List.map_cons, List.map_nil]); first | done | rfl | (simp only [List.length_drop, List.length_take]; rfl)) ?_; (with_reducible refine (impl_Collect.calls kj66 t301 _ _ t302 _ _ t305 t308 t309 t312 t315 _ ?side1 ?side2 ?side3 ?side4 A109.out).mono ?_); (case side1 => repeat (first | exact (zJ HO304.out).2.2 | (with_reducible refine zU ?_ _) | (with_reducible refine zV ?_ _) | (with_reducible refine zW ?_))); (case side2 => exact (zJ HO304.out).2.1); (case side3 => repeat (first | exact (zJ HO307.out).2.2 | (with_reducible refine zU ?_ _) | (with_reducible refine zV ?_ _) | (with_reducible refine zW ?_))); (case side4 => exact (zJ HO307.out).2.1); rintro e w126 ⟨v310, v313, v316, rfl, ho0, ho1, ho2, hb⟩; refine ⟨_, rfl, ?_⟩; have n0_ := Aside0.mk (zG (Kd.R_told (Kd.R_told (Kd.R_old (by (with_reducible repeat (first | apply zC | apply zD | apply zE)); exact HO_5.out) hb) (Kd.R_base ho0)) (Kd.R_base ho2)) (fun _ h_ => h_.1)); have n1_ := Aside0.mk (zG (Kd.R_told (Kd.R_told (Kd.R_old (by (with_reducible repeat (first | apply zC | apply zD | apply zE)); exact HO_8.out) hb) (Kd.R_base ho0)) (Kd.R_base ho2)) (fun _ h_ => h_.1)); have n2_ := Aside0.mk (zG (Kd.R_told (Kd.R_told (Kd.R_old (by (with_reducible repeat (first | apply zC | apply zD | apply zE)); exact HO_260001.out) hb) (Kd.R_base ho0)) (Kd.R_base ho2)) (fun _ h_ => h_.1)); have n3_ := Aside0.mk (Kd.R_elder' (by (with_reducible repeat (first | apply zC | apply zD | apply zE)); exact HO_260002.out) (Kd.R_base ho1) hb); have n4_ := Aside0.mk (zG (Kd.R_told (Kd.R_told (Kd.R_old (by (with_reducible repeat (first | apply zC | apply zD | apply zE)); exact HO_268001.out) hb) (Kd.R_base ho0)) (Kd.R_base ho2)) (fun _ h_ => h_.1)); have n5_ := Aside0.mk (Kd.R_elder' (by (with_reducible repeat (first | apply zC | apply zD | apply zE)); exact HO_268002.out) (Kd.R_base ho1) hb); have n6_ := Aside0.mk (zG (Kd.R_told (Kd.R_told (Kd.R_old (by (with_reducible repeat (first | apply zC | apply zD | apply zE)); exact HO_279001.out) hb) (Kd.R_base ho0)) (Kd.R_base ho2)) (fun _ h_ => h_.1)); have n7_ := Aside0.mk (Kd.R_elder' (by (with_reducible repeat (first | apply zC | apply zD | apply zE)); exact HO_279002.out) (Kd.R_base ho1) hb); have n8_ := Aside0.mk (zG (Kd.R_told (Kd.R_told (Kd.R_old (by (with_reducible repeat (first | apply zC | apply zD | apply zE)); exact HO304.out) hb) (Kd.R_base ho0)) (Kd.R_base ho2)) (fun _ h_ => h_.1)); have n9_ := Aside0.mk (Kd.R_elder' (by (with_reducible repeat (first | apply zC | apply zD | apply zE)); exact HO307.out) (Kd.R_base ho1) hb); have n10_ := Aside0.mk (Kd.R_lower (Kd.R_new' (Kd.R_new' (Kd.R_new' (Kd.R_new' (Kd.R_new' (Kd.R_new' ho0 (Kd.R_lt (by (with_reducible repeat (first | apply zC | apply zD | apply zE)); exact HO_5.out))) (Kd.R_lt (by (with_reducible repeat (first | apply zC | apply zD | apply zE)); exact HO_8.out))) (Kd.R_lt (by (with_reducible repeat (first | apply zC | apply zD | apply zE)); exact HO_260001.out))) (Kd.R_lt (by (with_reducible repeat (first | apply zC | apply zD | apply zE)); exact HO_268001.out))) (Kd.R_lt (by (with_reducible repeat (first | apply zC | apply zD | apply zE)); exact HO_279001.out))) (Kd.R_lt (by (with_reducible repeat (first | apply zC | apply zD | apply zE)); exact HO304.out))) (zT (by repeat (first | (with_reducible first | exact HB.out | apply zO | apply zA | apply zN | refine zB ?_ GE240.out | refine zB ?_ GE259.out | refine zB ?_ GE267.out | refine zB ?_ GE278.out) | exact HB.out)))); have n11_ := Aside0.mk (Kd.R_lower (Kd.R_new' (Kd.R_new' (Kd.R_new' (Kd.R_new' ho1 (Kd.R_lt (by (with_reducible repeat (first | apply zC | apply zD | apply zE)); exact HO_260002.out))) (Kd.R_lt (by (with_reducible repeat (first | apply zC | apply zD | apply zE)); exact HO_268002.out))) (Kd.R_lt (by (with_reducible repeat (first | apply zC | apply zD | apply zE)); exact HO_279002.out))) (Kd.R_lt (by (with_reducible repeat (first | apply zC | apply zD | apply zE)); exact HO307.out))) (zT (by repeat (first | (with_reducible first | exact HB.out | apply zO | apply zA | apply zN | refine zB ?_ GE240.out | refine zB ?_ GE259.out | refine zB ?_ GE267.out | refine zB ?_ GE278.out) | exact HB.out)))); have n12_ := Aside0.mk (Kd.R_lower (Kd.R_new' (Kd.R_new' (Kd.R_new' (Kd.R_new' (Kd.R_new' (Kd.R_new' ho2 (Kd.R_lt (by (with_reducible repeat (first | apply zC | apply zD | apply zE)); exact HO_5.out))) (Kd.R_lt (by (with_reducible repeat (first | apply zC | apply zD | apply zE)); exact HO_8.out))) (Kd.R_lt (by (with_reducible repeat (first | apply zC | apply zD | apply zE)); exact HO_260001.out))) (Kd.R_lt (by (with_reducible repeat (first | apply zC | apply zD | apply zE)); exact HO_268001.out))) (Kd.R_lt (by (with_reducible repeat (first | apply zC | apply zD | apply zE)); exact HO_279001.out))) (Kd.R_lt (by (with_reducible repeat (first | apply zC | apply zD | apply zE)); exact HO304.out))) (zT (by repeat (first | (with_reducible first | exact HB.out | apply zO | apply zA | apply zN | refine zB ?_ GE240.out | refine zB ?_ GE259.out | refine zB ?_ GE267.out | refine zB ?_ GE278.out) | exact HB.out)))); have n13_ := Aside0.mk (zR (g := gb240) (o := .cells #[.int .i64 a0_0, .slice A0_1 l0_1.length c0_1, .slice A0_2 l0_2.length c0_2] 43 (0, 0)) (by (with_reducible repeat (first | refine zL ?_ _ | refine zM ?_ | refine zK ?_ _)); exact BK240.out) hb); have n14_ := Aside0.mk (zR (g := gb259) (o := .cells #[.int .i64 t249, .slice Ao23 t250.length co23, .slice Ao24 t253.length co24] 27 (0, 0)) (by (with_reducible repeat (first | refine zL ?_ _ | refine zM ?_ | refine zK ?_ _)); exact BK259.out) hb); have n15_ := Aside0.mk (zR (g := gb267) (o := .cells #[.int .i64 t260, .slice Ao31 t290.length co31, .slice Ao32 t291.length co32] 27 (0, 0)) (by (with_reducible repeat (first | refine zL ?_ _ | refine zM ?_ | refine zK ?_ _)); exact BK267.out) hb); have n16_ := Aside0.mk (zR (g := gb278) (o := .cells #[.int .i64 t268, .slice Ao39 t269.length co39, .slice Ao40 t272.length co40] 27 (0, 0)) (by (with_reducible repeat (first | refine zL ?_ _ | refine zM ?_ | refine zK ?_ _)); exact BK278.out) hb); have n17_ := Aside0.mk (zS (by repeat (first | (with_reducible first | exact HB.out | apply zO | apply zA | apply zN | refine zB ?_ GE240.out | refine zB ?_ GE259.out | refine zB ?_ GE267.out | refine zB ?_ GE278.out) | exact HB.out)) hb); clear HO_5; clear HO_8; clear HO_260001; clear HO_260002; clear HO_268001; clear HO_268002; clear HO_279001; clear HO_279002; clear HO304; clear HO307; clear BK240; clear BK259; clear BK267; clear BK278; clear HB; have HO_5 := n0_; have HO_8 := n1_; have HO_260001 := n2_; have HO_260002 := n3_; have HO_268001 := n4_; have HO_268002 := n5_; have HO_279001 := n6_; have HO_279002 := n7_; have HO304 := n8_; have HO307 := n9_; have HO311 := n10_; have HO314 := n11_; have HO317 := n12_; have BK240 := n13_; have BK259 := n14_; have BK267 := n15_; have BK278 := n16_; have HB := n17_; clear n0_ n1_ n2_ n3_ n4_ n5_ n6_ n7_ n8_ n9_ n10_ n11_ n12_ n13_ n14_ n15_ n16_ n17_; (try clear hb); (try clear hb2); (try clear hk); (try clear hi); (try clear ho0); (try clear ho1); (try clear ho2)) | ((with_reducible refine gate_dst (N := 12) rfl ?_); refine box_event ?hg (N := 12) ?hd (cs := #[.int .i64 0, .slice none 0 0, .slice none 0 0]) (t := 27) ?hr ?_; (case hd => rfl); (case hg => rfl); (case hr => first | (go_simp; done) | (go_simp; rfl)); intro gb318 hg w127 hbox hb; have n0_ := Aside0.mk (zH (by (with_reducible repeat (first | apply zC | apply zD | apply zE)); exact HO_5.out) hb); have n1_ := Aside0.mk (zH (by (with_reducible repeat (first | apply zC | apply zD | apply zE)); exact HO_8.out) hb); have n2_ := Aside0.mk (zH (by (with_reducible repeat (first | apply zC | apply zD | apply zE)); exact HO_260001.out) hb); have n3_ := Aside0.mk (zH (by (with_reducible repeat (first | apply zC | apply zD | apply zE)); exact HO_260002.out) hb); have n4_ := Aside0.mk (zH (by (with_reducible repeat (first | apply zC | apply zD | apply zE)); exact HO_268001.out) hb); have n5_ := Aside0.mk (zH (by (with_reducible repeat (first | apply zC | apply zD | apply zE)); exact HO_268002.out) hb); have n6_ := Aside0.mk (zH (by (with_reducible repeat (first | apply zC | apply zD | apply zE)); exact HO_279001.out) hb); have n7_ := Aside0.mk (zH (by (with_reducible repeat (first | apply zC | apply zD | apply zE)); exact HO_279002.out) hb); have n8_ := Aside0.mk (zH (by (with_reducible repeat (first | apply zC | apply zD | apply zE)); exact HO304.out) hb); have n9_ := Aside0.mk (zH (by (with_reducible repeat (first | apply zC | apply zD | apply zE)); exact HO307.out) hb); have n10_ := Aside0.mk (zH (by (with_reducible repeat (first | apply zC | apply zD | apply zE)); exact HO311.out) hb); have n11_ := Aside0.mk (zH (by (with_reducible repeat (first | apply zC | apply zD | apply zE)); exact HO314.out) hb); have n12_ := Aside0.mk (zH (by (with_reducible repeat (first | apply zC | apply zD | apply zE)); exact HO317.out) hb); have n13_ := Aside0.mk (zR (g := gb240) (o := .cells #[.int .i64 a0_0, .slice A0_1 l0_1.length c0_1, .slice A0_2 l0_2.length c0_2] 43 (0, 0)) (by (with_reducible repeat (first | refine zL ?_ _ | refine zM ?_ | refine zK ?_ _)); exact BK240.out) hb); have n14_ := Aside0.mk (zR (g := gb259) (o := .cells #[.int .i64 t249, .slice Ao23 t250.length co23, .slice Ao24 t253.length co24] 27 (0, 0)) (by (with_reducible repeat (first | refine zL ?_ _ | refine zM ?_ | refine zK ?_ _)); exact BK259.out) hb); have n15_ := Aside0.mk (zR (g := gb267) (o := .cells #[.int .i64 t260, .slice Ao31 t290.length co31, .slice Ao32 t291.length co32] 27 (0, 0)) (by (with_reducible repeat (first | refine zL ?_ _ | refine zM ?_ | refine zK ?_ _)); exact BK267.out) hb); have n16_ := Aside0.mk (zR (g := gb278) (o := .cells #[.int .i64 t268, .slice Ao39 t269.length co39, .slice Ao40 t272.length co40] 27 (0, 0)) (by (with_reducible repeat (first | refine zL ?_ _ | refine zM ?_ | refine zK ?_ _)); exact BK278.out) hb); have n17_ := Aside0.mk (zS (by repeat (first | (with_reducible first | exact HB.out | apply zO | apply zA | apply zN | refine zB ?_ GE240.out | refine zB ?_ GE259.out | refine zB ?_ GE267.out | refine zB ?_ GE278.out) | exact HB.out)) hb); have n18_ := Aside0.mk (hbox); have n19_ := Aside0.mk ((by rw [hg]; exact (zT (by repeat (first | (with_reducible first | exact HB.out | apply zO | apply zA | apply zN | refine zB ?_ GE240.out | refine zB ?_ GE259.out | refine zB ?_ GE267.out | refine zB ?_ GE278.out) | exact HB.out))) : w.heap.size ≤ gb318)); have n20_ := Aside0.mk ((by rw [hg]; exact (zT (by repeat (first | (with_reducible first | exact HB.out | apply zO | apply zA | apply zN | refine zB ?_ GE240.out | refine zB ?_ GE259.out | refine zB ?_ GE267.out | refine zB ?_ GE278.out) | exact HB.out))) : w.heap.size ≤ gb318)); have n21_ := Aside0.mk ((by rw [hg]; exact Nat.ne_of_lt (blk_lt (g := gb240) (o := .cells #[.int .i64 a0_0, .slice A0_1 l0_1.length c0_1, .slice A0_2 l0_2.length c0_2] 43 (0, 0)) (by (with_reducible repeat (first | refine zL ?_ _ | refine zM ?_ | refine zK ?_ _)); exact BK240.out)) : gb240 ≠ gb318)); have n22_ := Aside0.mk ((by rw [hg]; exact Nat.ne_of_gt (blk_lt (g := gb240) (o := .cells #[.int .i64 a0_0, .slice A0_1 l0_1.length c0_1, .slice A0_2 l0_2.length c0_2] 43 (0, 0)) (by (with_reducible repeat (first | refine zL ?_ _ | refine zM ?_ | refine zK ?_ _)); exact BK240.out)) : gb318 ≠ gb240)); have n23_ := Aside0.mk ((by rw [hg]; exact Nat.ne_of_lt (blk_lt (g := gb259) (o := .cells #[.int .i64 t249, .slice Ao23 t250.length co23, .slice Ao24 t253.length co24] 27 (0, 0)) (by (with_reducible repeat (first | refine zL ?_ _ | refine zM ?_ | refine zK ?_ _)); exact BK259.out)) : gb259 ≠ gb318)); have n24_ := Aside0.mk ((by rw [hg]; exact Nat.ne_of_gt (blk_lt (g := gb259) (o := .cells #[.int .i64 t249, .slice Ao23 t250.length co23, .slice Ao24 t253.length co24] 27 (0, 0)) (by (with_reducible repeat (first | refine zL ?_ _ | refine zM ?_ | refine zK ?_ _)); exact BK259.out)) : gb318 ≠ gb259)); have n25_ := Aside0.mk ((by rw [hg]; exact Nat.ne_of_lt (blk_lt (g := gb267) (o := .cells #[.int .i64 t260, .slice Ao31 t290.length co31, .slice Ao32 t291.length co32] 27 (0, 0)) (by (with_reducible repeat (first | refine zL ?_ _ | refine zM ?_ | refine zK ?_ _)); exact BK267.out)) : gb267 ≠ gb318)); have n26_ := Aside0.mk ((by rw [hg]; exact Nat.ne_of_gt (blk_lt (g := gb267) (o := .cells #[.int .i64 t260, .slice Ao31 t290.length co31, .slice Ao32 t291.length co32] 27 (0, 0)) (by (with_reducible repeat (first | refine zL ?_ _ | refine zM ?_ | refine zK ?_ _)); exact BK267.out)) : gb318 ≠ gb267)); have n27_ := Aside0.mk ((by rw [hg]; exact Nat.ne_of_lt (blk_lt (g := gb278) (o := .cells #[.int .i64 t268, .slice Ao39 t269.length co39, .slice Ao40 t272.length co40] 27 (0, 0)) (by (with_reducible repeat (first | refine zL ?_ _ | refine zM ?_ | refine zK ?_ _)); exact BK278.out)) : gb278 ≠ gb318)); have n28_ := Aside0.mk ((by rw [hg]; exact Nat.ne_of_gt (blk_lt (g := gb278) (o := .cells #[.int .i64 t268, .slice Ao39 t269.length co39, .slice Ao40 t272.length co40] 27 (0, 0)) (by (with_reducible repeat (first | refine zL ?_ _ | refine zM ?_ | refine zK ?_ _)); exact BK278.out)) : gb318 ≠ gb278)); clear HO_5; clear HO_8; clear HO_260001; clear HO_260002; clear HO_268001; clear HO_268002; clear HO_279001; clear HO_279002; clear HO304; clear HO307; clear HO311; clear HO314; clear HO317; clear BK240; clear BK259; clear BK267; clear BK278; clear HB; have HO_5 := n0_; have HO_8 := n1_; have HO_260001 := n2_; have HO_260002 := n3_; have HO_268001 := n4_; have HO_268002 := n5_; have HO_279001 := n6_; have HO_279002 := n7_; have HO304 := n8_; have HO307 := n9_; have HO311 := n10_; have HO314 := n11_; have HO317 := n12_; have BK240 := n13_; have BK259 := n14_; have BK267 := n15_; have BK278 := n16_; have HB := n17_; have BK318 := n18_; have GW318 := n19_; have GE318 := n20_; have NB240_318 := n21_; have NB318_240 := n22_; have NB259_318 := n23_; have NB318_259 := n24_; have NB267_318 := n25_; have NB318_267 := n26_; have NB278_318 := n27_; have NB318_278 := n28_; clear n0_ n1_ n2_ n3_ n4_ n5_ n6_ n7_ n8_ n9_ n10_ n11_ n12_ n13_ n14_ n15_ n16_ n17_ n18_ n19_ n20_ n21_ n22_ n23_ n24_ n25_ n26_ n27_ n28_; clear hb hbox hg; have hnb128 := NB318_240.out; have hnc128 := NB240_318.out; have hnb129 := NB318_259.out; have hnc129 := NB259_318.out; have hnb130 := NB318_267.out; have hnc130 := NB267_318.out; have hnb131 := NB318_278.out; have hnc131 := NB278_318.out; have hcz132_0 : w127.cell? ⟨gb318, 0, none⟩ = some (.int .i64 0) := (zP BK318.out 0).trans rfl; have hcz132_1 : w127.cell? ⟨gb318, 1, none⟩ = some (.slice none 0 0) := (zP BK318.out 1).trans rfl; have hcz132_2 : w127.cell? ⟨gb318, 2, none⟩ = some (.slice none 0 0) := (zP BK318.out 2).trans rfl; have hfz132_0 := zQ BK318.out 0; have hfz132_1 := zQ BK318.out 1; have hfz132_2 := zQ BK318.out 2; obtain ⟨Ao133, co133, eo133⟩ := Kd.R_slice HO311.out; subst eo133; obtain ⟨Ao134, co134, eo134⟩ := Kd.R_slice HO314.out; subst eo134))
                        (try simp only [Act.put, List.setIfInBounds_toArray, List.set_cons_zero, List.set_cons_succ])
                        go_cut [98] (fun v98 wc => ∃ (kq : Nat) (x98_109 : Bool), v98 = .bool x98_109 ∧ Aside0 (laws_FnExactCollect.j2 kq t298 t297 x98_109 t268 t295 t296 = some r) ∧ Aside0 (kq ≤ kj66) ∧ Aside0 (Kd.R (Kd.int .i64) 3 wc w.heap.size (fun k_ => some k_ ≠ ((.slice Ao23 t250.length co23) : Value).ownBlock ∧ some k_ ≠ ((.slice Ao31 t290.length co31) : Value).ownBlock ∧ some k_ ≠ ((.slice Ao39 t269.length co39) : Value).ownBlock ∧ some k_ ≠ ((.slice Ao133 t309.length co133) : Value).ownBlock) (.slice Ao116 t275.length co116) t298) ∧ Aside0 (Kd.R (Kd.int .i64) 3 wc w.heap.size (fun k_ => some k_ ≠ ((.slice Ao116 t275.length co116) : Value).ownBlock ∧ some k_ ≠ ((.slice Ao31 t290.length co31) : Value).ownBlock ∧ some k_ ≠ ((.slice Ao39 t269.length co39) : Value).ownBlock ∧ some k_ ≠ ((.slice Ao133 t309.length co133) : Value).ownBlock) (.slice Ao23 t250.length co23) t250) ∧ Aside0 (Kd.R k58 58 wc w.heap.size (fun k_ => some k_ ≠ ((.slice Ao32 t291.length co32) : Value).ownBlock ∧ some k_ ≠ ((.slice Ao40 t272.length co40) : Value).ownBlock ∧ some k_ ≠ ((.slice Ao134 t312.length co134) : Value).ownBlock) (.slice Ao24 t253.length co24) t253) ∧ Aside0 (Kd.R (Kd.int .i64) 3 wc w.heap.size (fun k_ => some k_ ≠ ((.slice Ao116 t275.length co116) : Value).ownBlock ∧ some k_ ≠ ((.slice Ao23 t250.length co23) : Value).ownBlock ∧ some k_ ≠ ((.slice Ao39 t269.length co39) : Value).ownBlock ∧ some k_ ≠ ((.slice Ao133 t309.length co133) : Value).ownBlock) (.slice Ao31 t290.length co31) t290) ∧ Aside0 (Kd.R k58 58 wc w.heap.size (fun k_ => some k_ ≠ ((.slice Ao24 t253.length co24) : Value).ownBlock ∧ some k_ ≠ ((.slice Ao40 t272.length co40) : Value).ownBlock ∧ some k_ ≠ ((.slice Ao134 t312.length co134) : Value).ownBlock) (.slice Ao32 t291.length co32) t291) ∧ Aside0 (Kd.R (Kd.int .i64) 3 wc w.heap.size (fun k_ => some k_ ≠ ((.slice Ao116 t275.length co116) : Value).ownBlock ∧ some k_ ≠ ((.slice Ao23 t250.length co23) : Value).ownBlock ∧ some k_ ≠ ((.slice Ao31 t290.length co31) : Value).ownBlock ∧ some k_ ≠ ((.slice Ao133 t309.length co133) : Value).ownBlock) (.slice Ao39 t269.length co39) t295) ∧ Aside0 (Kd.R k58 58 wc w.heap.size (fun k_ => some k_ ≠ ((.slice Ao24 t253.length co24) : Value).ownBlock ∧ some k_ ≠ ((.slice Ao32 t291.length co32) : Value).ownBlock ∧ some k_ ≠ ((.slice Ao134 t312.length co134) : Value).ownBlock) (.slice Ao40 t272.length co40) t296) ∧ Aside0 (Kd.R (Kd.int .i64) 3 wc w.heap.size (fun k_ => some k_ ≠ ((.slice Ao116 t275.length co116) : Value).ownBlock ∧ some k_ ≠ ((.slice Ao23 t250.length co23) : Value).ownBlock ∧ some k_ ≠ ((.slice Ao31 t290.length co31) : Value).ownBlock ∧ some k_ ≠ ((.slice Ao39 t269.length co39) : Value).ownBlock) (.slice Ao133 t309.length co133) t309) ∧ Aside0 (Kd.R k58 58 wc w.heap.size (fun k_ => some k_ ≠ ((.slice Ao24 t253.length co24) : Value).ownBlock ∧ some k_ ≠ ((.slice Ao32 t291.length co32) : Value).ownBlock ∧ some k_ ≠ ((.slice Ao40 t272.length co40) : Value).ownBlock) (.slice Ao134 t312.length co134) t312) ∧ Aside0 (wc.heap[gb240]? = some (.cells #[.int .i64 a0_0, (.slice A0_1 l0_1.length c0_1), (.slice A0_2 l0_2.length c0_2)] 43 (0, 0))) ∧ Aside0 (wc.heap[gb259]? = some (.cells #[.int .i64 t249, (.slice Ao23 t250.length co23), (.slice Ao24 t253.length co24)] 27 (0, 0))) ∧ Aside0 (wc.heap[gb267]? = some (.cells #[.int .i64 t260, (.slice Ao31 t290.length co31), (.slice Ao32 t291.length co32)] 27 (0, 0))) ∧ Aside0 (wc.heap[gb278]? = some (.cells #[.int .i64 t268, (.slice Ao39 t269.length co39), (.slice Ao40 t272.length co40)] 27 (0, 0))) ∧ Aside0 (wc.heap[gb318]? = some (.cells #[.int .i64 t308, (.slice Ao133 t309.length co133), (.slice Ao134 t312.length co134)] 27 (0, 0))) ∧ Aside0 (Below w.heap.size w wc))
                        case first =>
                          have H := HC110.out
                          clear HC110
                          replace H := Option.bind_eq_some_iff.mp H
                          obtain ⟨t319, A1350, H⟩ := H
                          replace H : (if t319 = true then ((laws_eqIntS.f kj66 t315 t256).bind fun t320 => (laws_FnExactCollect.j2 kj66 t298 t297 (!t320) t268 t295 t296)) else (laws_FnExactCollect.j2 kj66 t298 t297 true t268 t295 t296)) = some r := H
                          have A135 := Aside0.mk A1350
                          clear A1350
                          by_cases c136 : t319 = true
                          · subst c136
                            have H1 : ((laws_eqIntS.f kj66 t315 t256).bind fun t320 => (laws_FnExactCollect.j2 kj66 t298 t297 (!t320) t268 t295 t296)) = some r := by rw [if_pos rfl] at H; exact H
                            clear H
                            have H := H1
                            clear H1
                            replace H := Option.bind_eq_some_iff.mp H
                            obtain ⟨t320, A1370, H⟩ := H
                            replace H : (laws_FnExactCollect.j2 kj66 t298 t297 (!t320) t268 t295 t296) = some r := H
                            have A137 := Aside0.mk A1370
                            clear A1370
                            have H' := Aside0.mk H
                            clear H
                            have hnb138 := NB318_240.out
                            have hnc138 := NB240_318.out
                            have hnb139 := NB318_259.out
                            have hnc139 := NB259_318.out
                            have hnb140 := NB318_267.out
                            have hnc140 := NB267_318.out
                            have hnb141 := NB318_278.out
                            have hnc141 := NB278_318.out
                            have hcz142_0 : w127.cell? ⟨gb318, 0, none⟩ = some (.int .i64 0) := (zP BK318.out 0).trans rfl
                            have hcz142_1 : w127.cell? ⟨gb318, 1, none⟩ = some (.slice none 0 0) := (zP BK318.out 1).trans rfl
                            have hcz142_2 : w127.cell? ⟨gb318, 2, none⟩ = some (.slice none 0 0) := (zP BK318.out 2).trans rfl
                            have hfz142_0 := zQ BK318.out 0
                            have hfz142_1 := zQ BK318.out 1
                            have hfz142_2 := zQ BK318.out 2
                            have hnb143 := NB259_240.out
                            have hnc143 := NB240_259.out
                            have hnb144 := NB259_267.out
                            have hnc144 := NB267_259.out
                            have hnb145 := NB259_278.out
                            have hnc145 := NB278_259.out
                            have hcz146_0 : w127.cell? ⟨gb259, 0, none⟩ = some (.int .i64 t249) := (zP BK259.out 0).trans rfl
                            have hcz146_1 : w127.cell? ⟨gb259, 1, none⟩ = some (.slice Ao23 t250.length co23) := (zP BK259.out 1).trans rfl
                            have hcz146_2 : w127.cell? ⟨gb259, 2, none⟩ = some (.slice Ao24 t253.length co24) := (zP BK259.out 2).trans rfl
                            have hfz146_0 := zQ BK259.out 0
                            have hfz146_1 := zQ BK259.out 1
                            have hfz146_2 := zQ BK259.out 2
                            go_wp2_with (first | ((with_reducible refine gate_callee (f := 25) rfl ?_); refine goesL_ (some 91) rfl rfl Try.func25 (by kernel_rfl) rfl #[.agg #[.int .i64 t308, .slice Ao133 t309.length co133, .slice Ao134 t312.length co134], .agg #[.int .i64 t249, .slice Ao23 t250.length co23, .slice Ao24 t253.length co24]] rfl (by (try simp only [List.map_toArray, List.map_cons, List.map_nil]); first | done | rfl | (simp only [List.length_drop, List.length_take]; rfl)) ?_; (with_reducible refine (laws_eqEpochs.calls kj66 t308 _ _ t309 _ _ t312 t249 _ _ t250 _ _ t253 true _ ?side1 ?side2 ?side3 ?side4 ?side5 ?side6 ?side7 ?side8 A135.out).mono ?_); (case side1 => refine (zJ (e := 3) (base := w.heap.size) (ok := fun k_ => ((((((some k_ ≠ (v316 : Value).ownBlock ∧ some k_ ≠ (v257 : Value).ownBlock) ∧ some k_ ≠ (.slice Ao116 t275.length co116 : Value).ownBlock) ∧ some k_ ≠ (.slice Ao23 t250.length co23 : Value).ownBlock) ∧ some k_ ≠ (.slice Ao31 t290.length co31 : Value).ownBlock) ∧ some k_ ≠ (.slice Ao39 t269.length co39 : Value).ownBlock) ∧ some k_ ≠ (.slice Ao124 t302.length co124 : Value).ownBlock)) (n := t309.length) (c := co133) ?_).2.2; exact (by (with_reducible repeat (first | apply zC | apply zD | apply zE)); exact (zG (zF (p := ⟨gb318, 2, none⟩) (zF (p := ⟨gb318, 1, none⟩) (zF (p := ⟨gb318, 0, none⟩) (zI HO311.out BK318.out (by decide)) (fun _ hk => hk.2) (.int .i64 t308)) (fun _ hk => hk.2) (.slice Ao133 t309.length co133)) (fun _ hk => hk.2) (.slice Ao134 t312.length co134)) (fun _ h_ => by first | exact h_.1 | (revert h_; simp only [and_imp]; intros; (repeat' apply And.intro) <;> assumption))))); (case side2 => exact (zJ HO311.out).2.1); (case side3 => refine (zJ (e := 58) (base := w.heap.size) (ok := fun k_ => ((((True ∧ some k_ ≠ (.slice Ao24 t253.length co24 : Value).ownBlock) ∧ some k_ ≠ (.slice Ao32 t291.length co32 : Value).ownBlock) ∧ some k_ ≠ (.slice Ao40 t272.length co40 : Value).ownBlock) ∧ some k_ ≠ (.slice Ao125 t305.length co125 : Value).ownBlock)) (n := t312.length) (c := co134) ?_).2.2; exact (by (with_reducible repeat (first | apply zC | apply zD | apply zE)); exact (zG (zF (p := ⟨gb318, 2, none⟩) (zF (p := ⟨gb318, 1, none⟩) (zF (p := ⟨gb318, 0, none⟩) (zI HO314.out BK318.out (by decide)) (fun _ hk => hk.2) (.int .i64 t308)) (fun _ hk => hk.2) (.slice Ao133 t309.length co133)) (fun _ hk => hk.2) (.slice Ao134 t312.length co134)) (fun _ h_ => by first | exact h_.1 | (revert h_; simp only [and_imp]; intros; (repeat' apply And.intro) <;> assumption))))); (case side4 => exact (zJ HO314.out).2.1); (case side5 => refine (zJ (e := 3) (base := w.heap.size) (ok := fun k_ => ((((some k_ ≠ (v257 : Value).ownBlock ∧ (some k_ ≠ (.slice Ao116 t275.length co116 : Value).ownBlock ∧ (some k_ ≠ (.slice Ao31 t290.length co31 : Value).ownBlock ∧ some k_ ≠ (.slice Ao39 t269.length co39 : Value).ownBlock))) ∧ some k_ ≠ (.slice Ao124 t302.length co124 : Value).ownBlock) ∧ some k_ ≠ (.slice Ao133 t309.length co133 : Value).ownBlock) ∧ some k_ ≠ (v316 : Value).ownBlock)) (n := t250.length) (c := co23) ?_).2.2; exact (by (with_reducible repeat (first | apply zC | apply zD | apply zE)); exact (zG (zF (p := ⟨gb318, 2, none⟩) (zF (p := ⟨gb318, 1, none⟩) (zF (p := ⟨gb318, 0, none⟩) (zI HO_260001.out BK318.out (by decide)) (fun _ hk => hk.2) (.int .i64 t308)) (fun _ hk => hk.2) (.slice Ao133 t309.length co133)) (fun _ hk => hk.2) (.slice Ao134 t312.length co134)) (fun _ h_ => by first | exact h_.1 | (revert h_; simp only [and_imp]; intros; (repeat' apply And.intro) <;> assumption))))); (case side6 => exact (zJ HO_260001.out).2.1); (case side7 => refine (zJ (e := 58) (base := w.heap.size) (ok := fun k_ => (((some k_ ≠ (.slice Ao32 t291.length co32 : Value).ownBlock ∧ some k_ ≠ (.slice Ao40 t272.length co40 : Value).ownBlock) ∧ some k_ ≠ (.slice Ao125 t305.length co125 : Value).ownBlock) ∧ some k_ ≠ (.slice Ao134 t312.length co134 : Value).ownBlock)) (n := t253.length) (c := co24) ?_).2.2; exact (by (with_reducible repeat (first | apply zC | apply zD | apply zE)); exact (zG (zF (p := ⟨gb318, 2, none⟩) (zF (p := ⟨gb318, 1, none⟩) (zF (p := ⟨gb318, 0, none⟩) (zI HO_260002.out BK318.out (by decide)) (fun _ hk => hk.2) (.int .i64 t308)) (fun _ hk => hk.2) (.slice Ao133 t309.length co133)) (fun _ hk => hk.2) (.slice Ao134 t312.length co134)) (fun _ h_ => by first | exact h_.1 | (revert h_; simp only [and_imp]; intros; (repeat' apply And.intro) <;> assumption))))); (case side8 => exact (zJ HO_260002.out).2.1); rintro e w147 ⟨rfl, hb⟩; refine ⟨_, rfl, ?_⟩; have n0_ := Aside0.mk (zH (by (with_reducible repeat (first | apply zC | apply zD | apply zE)); exact (zG (zF (p := ⟨gb318, 2, none⟩) (zF (p := ⟨gb318, 1, none⟩) (zF (p := ⟨gb318, 0, none⟩) (zI HO_5.out BK318.out (by decide)) (fun _ hk => hk.2) (.int .i64 t308)) (fun _ hk => hk.2) (.slice Ao133 t309.length co133)) (fun _ hk => hk.2) (.slice Ao134 t312.length co134)) (fun _ h_ => by first | exact h_.1 | (revert h_; simp only [and_imp]; intros; (repeat' apply And.intro) <;> assumption)))) hb); have n1_ := Aside0.mk (zH (by (with_reducible repeat (first | apply zC | apply zD | apply zE)); exact (zG (zF (p := ⟨gb318, 2, none⟩) (zF (p := ⟨gb318, 1, none⟩) (zF (p := ⟨gb318, 0, none⟩) (zI HO_8.out BK318.out (by decide)) (fun _ hk => hk.2) (.int .i64 t308)) (fun _ hk => hk.2) (.slice Ao133 t309.length co133)) (fun _ hk => hk.2) (.slice Ao134 t312.length co134)) (fun _ h_ => by first | exact h_.1 | (revert h_; simp only [and_imp]; intros; (repeat' apply And.intro) <;> assumption)))) hb); have n2_ := Aside0.mk (zH (by (with_reducible repeat (first | apply zC | apply zD | apply zE)); exact (zG (zF (p := ⟨gb318, 2, none⟩) (zF (p := ⟨gb318, 1, none⟩) (zF (p := ⟨gb318, 0, none⟩) (zI HO_260001.out BK318.out (by decide)) (fun _ hk => hk.2) (.int .i64 t308)) (fun _ hk => hk.2) (.slice Ao133 t309.length co133)) (fun _ hk => hk.2) (.slice Ao134 t312.length co134)) (fun _ h_ => by first | exact h_.1 | (revert h_; simp only [and_imp]; intros; (repeat' apply And.intro) <;> assumption)))) hb); have n3_ := Aside0.mk (zH (by (with_reducible repeat (first | apply zC | apply zD | apply zE)); exact (zG (zF (p := ⟨gb318, 2, none⟩) (zF (p := ⟨gb318, 1, none⟩) (zF (p := ⟨gb318, 0, none⟩) (zI HO_260002.out BK318.out (by decide)) (fun _ hk => hk.2) (.int .i64 t308)) (fun _ hk => hk.2) (.slice Ao133 t309.length co133)) (fun _ hk => hk.2) (.slice Ao134 t312.length co134)) (fun _ h_ => by first | exact h_.1 | (revert h_; simp only [and_imp]; intros; (repeat' apply And.intro) <;> assumption)))) hb); have n4_ := Aside0.mk (zH (by (with_reducible repeat (first | apply zC | apply zD | apply zE)); exact (zG (zF (p := ⟨gb318, 2, none⟩) (zF (p := ⟨gb318, 1, none⟩) (zF (p := ⟨gb318, 0, none⟩) (zI HO_268001.out BK318.out (by decide)) (fun _ hk => hk.2) (.int .i64 t308)) (fun _ hk => hk.2) (.slice Ao133 t309.length co133)) (fun _ hk => hk.2) (.slice Ao134 t312.length co134)) (fun _ h_ => by first | exact h_.1 | (revert h_; simp only [and_imp]; intros; (repeat' apply And.intro) <;> assumption)))) hb); have n5_ := Aside0.mk (zH (by (with_reducible repeat (first | apply zC | apply zD | apply zE)); exact (zG (zF (p := ⟨gb318, 2, none⟩) (zF (p := ⟨gb318, 1, none⟩) (zF (p := ⟨gb318, 0, none⟩) (zI HO_268002.out BK318.out (by decide)) (fun _ hk => hk.2) (.int .i64 t308)) (fun _ hk => hk.2) (.slice Ao133 t309.length co133)) (fun _ hk => hk.2) (.slice Ao134 t312.length co134)) (fun _ h_ => by first | exact h_.1 | (revert h_; simp only [and_imp]; intros; (repeat' apply And.intro) <;> assumption)))) hb); have n6_ := Aside0.mk (zH (by (with_reducible repeat (first | apply zC | apply zD | apply zE)); exact (zG (zF (p := ⟨gb318, 2, none⟩) (zF (p := ⟨gb318, 1, none⟩) (zF (p := ⟨gb318, 0, none⟩) (zI HO_279001.out BK318.out (by decide)) (fun _ hk => hk.2) (.int .i64 t308)) (fun _ hk => hk.2) (.slice Ao133 t309.length co133)) (fun _ hk => hk.2) (.slice Ao134 t312.length co134)) (fun _ h_ => by first | exact h_.1 | (revert h_; simp only [and_imp]; intros; (repeat' apply And.intro) <;> assumption)))) hb); have n7_ := Aside0.mk (zH (by (with_reducible repeat (first | apply zC | apply zD | apply zE)); exact (zG (zF (p := ⟨gb318, 2, none⟩) (zF (p := ⟨gb318, 1, none⟩) (zF (p := ⟨gb318, 0, none⟩) (zI HO_279002.out BK318.out (by decide)) (fun _ hk => hk.2) (.int .i64 t308)) (fun _ hk => hk.2) (.slice Ao133 t309.length co133)) (fun _ hk => hk.2) (.slice Ao134 t312.length co134)) (fun _ h_ => by first | exact h_.1 | (revert h_; simp only [and_imp]; intros; (repeat' apply And.intro) <;> assumption)))) hb); have n8_ := Aside0.mk (zH (by (with_reducible repeat (first | apply zC | apply zD | apply zE)); exact (zG (zF (p := ⟨gb318, 2, none⟩) (zF (p := ⟨gb318, 1, none⟩) (zF (p := ⟨gb318, 0, none⟩) (zI HO304.out BK318.out (by decide)) (fun _ hk => hk.2) (.int .i64 t308)) (fun _ hk => hk.2) (.slice Ao133 t309.length co133)) (fun _ hk => hk.2) (.slice Ao134 t312.length co134)) (fun _ h_ => by first | exact h_.1 | (revert h_; simp only [and_imp]; intros; (repeat' apply And.intro) <;> assumption)))) hb); have n9_ := Aside0.mk (zH (by (with_reducible repeat (first | apply zC | apply zD | apply zE)); exact (zG (zF (p := ⟨gb318, 2, none⟩) (zF (p := ⟨gb318, 1, none⟩) (zF (p := ⟨gb318, 0, none⟩) (zI HO307.out BK318.out (by decide)) (fun _ hk => hk.2) (.int .i64 t308)) (fun _ hk => hk.2) (.slice Ao133 t309.length co133)) (fun _ hk => hk.2) (.slice Ao134 t312.length co134)) (fun _ h_ => by first | exact h_.1 | (revert h_; simp only [and_imp]; intros; (repeat' apply And.intro) <;> assumption)))) hb); have n10_ := Aside0.mk (zH (by (with_reducible repeat (first | apply zC | apply zD | apply zE)); exact (zG (zF (p := ⟨gb318, 2, none⟩) (zF (p := ⟨gb318, 1, none⟩) (zF (p := ⟨gb318, 0, none⟩) (zI HO311.out BK318.out (by decide)) (fun _ hk => hk.2) (.int .i64 t308)) (fun _ hk => hk.2) (.slice Ao133 t309.length co133)) (fun _ hk => hk.2) (.slice Ao134 t312.length co134)) (fun _ h_ => by first | exact h_.1 | (revert h_; simp only [and_imp]; intros; (repeat' apply And.intro) <;> assumption)))) hb); have n11_ := Aside0.mk (zH (by (with_reducible repeat (first | apply zC | apply zD | apply zE)); exact (zG (zF (p := ⟨gb318, 2, none⟩) (zF (p := ⟨gb318, 1, none⟩) (zF (p := ⟨gb318, 0, none⟩) (zI HO314.out BK318.out (by decide)) (fun _ hk => hk.2) (.int .i64 t308)) (fun _ hk => hk.2) (.slice Ao133 t309.length co133)) (fun _ hk => hk.2) (.slice Ao134 t312.length co134)) (fun _ h_ => by first | exact h_.1 | (revert h_; simp only [and_imp]; intros; (repeat' apply And.intro) <;> assumption)))) hb); have n12_ := Aside0.mk (zH (by (with_reducible repeat (first | apply zC | apply zD | apply zE)); exact (zG (zF (p := ⟨gb318, 2, none⟩) (zF (p := ⟨gb318, 1, none⟩) (zF (p := ⟨gb318, 0, none⟩) (zI HO317.out BK318.out (by decide)) (fun _ hk => hk.2) (.int .i64 t308)) (fun _ hk => hk.2) (.slice Ao133 t309.length co133)) (fun _ hk => hk.2) (.slice Ao134 t312.length co134)) (fun _ h_ => by first | exact h_.1 | (revert h_; simp only [and_imp]; intros; (repeat' apply And.intro) <;> assumption)))) hb); have n13_ := Aside0.mk (zR (g := gb240) (o := .cells #[.int .i64 a0_0, .slice A0_1 l0_1.length c0_1, .slice A0_2 l0_2.length c0_2] 43 (0, 0)) (by (with_reducible repeat (first | refine zL ?_ _ | refine zM ?_ | refine zK ?_ _)); refine blk_far ?_ NB240_318.out _; (with_reducible repeat (first | refine zL ?_ _ | refine zM ?_ | refine zK ?_ _)); refine blk_far ?_ NB240_318.out _; (with_reducible repeat (first | refine zL ?_ _ | refine zM ?_ | refine zK ?_ _)); refine blk_far ?_ NB240_318.out _; (with_reducible repeat (first | refine zL ?_ _ | refine zM ?_ | refine zK ?_ _)); exact BK240.out) hb); have n14_ := Aside0.mk (zR (g := gb259) (o := .cells #[.int .i64 t249, .slice Ao23 t250.length co23, .slice Ao24 t253.length co24] 27 (0, 0)) (by (with_reducible repeat (first | refine zL ?_ _ | refine zM ?_ | refine zK ?_ _)); refine blk_far ?_ NB259_318.out _; (with_reducible repeat (first | refine zL ?_ _ | refine zM ?_ | refine zK ?_ _)); refine blk_far ?_ NB259_318.out _; (with_reducible repeat (first | refine zL ?_ _ | refine zM ?_ | refine zK ?_ _)); refine blk_far ?_ NB259_318.out _; (with_reducible repeat (first | refine zL ?_ _ | refine zM ?_ | refine zK ?_ _)); exact BK259.out) hb); have n15_ := Aside0.mk (zR (g := gb267) (o := .cells #[.int .i64 t260, .slice Ao31 t290.length co31, .slice Ao32 t291.length co32] 27 (0, 0)) (by (with_reducible repeat (first | refine zL ?_ _ | refine zM ?_ | refine zK ?_ _)); refine blk_far ?_ NB267_318.out _; (with_reducible repeat (first | refine zL ?_ _ | refine zM ?_ | refine zK ?_ _)); refine blk_far ?_ NB267_318.out _; (with_reducible repeat (first | refine zL ?_ _ | refine zM ?_ | refine zK ?_ _)); refine blk_far ?_ NB267_318.out _; (with_reducible repeat (first | refine zL ?_ _ | refine zM ?_ | refine zK ?_ _)); exact BK267.out) hb); have n16_ := Aside0.mk (zR (g := gb278) (o := .cells #[.int .i64 t268, .slice Ao39 t269.length co39, .slice Ao40 t272.length co40] 27 (0, 0)) (by (with_reducible repeat (first | refine zL ?_ _ | refine zM ?_ | refine zK ?_ _)); refine blk_far ?_ NB278_318.out _; (with_reducible repeat (first | refine zL ?_ _ | refine zM ?_ | refine zK ?_ _)); refine blk_far ?_ NB278_318.out _; (with_reducible repeat (first | refine zL ?_ _ | refine zM ?_ | refine zK ?_ _)); refine blk_far ?_ NB278_318.out _; (with_reducible repeat (first | refine zL ?_ _ | refine zM ?_ | refine zK ?_ _)); exact BK278.out) hb); have n17_ := Aside0.mk (zR (g := gb318) (o := .cells #[.int .i64 t308, .slice Ao133 t309.length co133, .slice Ao134 t312.length co134] 27 (0, 0)) (by (with_reducible repeat (first | refine zL ?_ _ | refine zM ?_ | refine zK ?_ _)); refine blk_put (cs := #[.int .i64 t308, .slice Ao133 t309.length co133, .slice none 0 0]) ?_ 2 _ rfl; (with_reducible repeat (first | refine zL ?_ _ | refine zM ?_ | refine zK ?_ _)); refine blk_put (cs := #[.int .i64 t308, .slice none 0 0, .slice none 0 0]) ?_ 1 _ rfl; (with_reducible repeat (first | refine zL ?_ _ | refine zM ?_ | refine zK ?_ _)); refine blk_put (cs := #[.int .i64 0, .slice none 0 0, .slice none 0 0]) ?_ 0 _ rfl; (with_reducible repeat (first | refine zL ?_ _ | refine zM ?_ | refine zK ?_ _)); exact BK318.out) hb); have n18_ := Aside0.mk (zS (by repeat (first | (with_reducible first | exact HB.out | apply zO | apply zA | apply zN | refine zB ?_ GE240.out | refine zB ?_ GE259.out | refine zB ?_ GE267.out | refine zB ?_ GE278.out | refine zB ?_ GE318.out) | exact HB.out)) hb); clear HO_5; clear HO_8; clear HO_260001; clear HO_260002; clear HO_268001; clear HO_268002; clear HO_279001; clear HO_279002; clear HO304; clear HO307; clear HO311; clear HO314; clear HO317; clear BK240; clear BK259; clear BK267; clear BK278; clear BK318; clear HB; have HO_5 := n0_; have HO_8 := n1_; have HO_260001 := n2_; have HO_260002 := n3_; have HO_268001 := n4_; have HO_268002 := n5_; have HO_279001 := n6_; have HO_279002 := n7_; have HO304 := n8_; have HO307 := n9_; have HO311 := n10_; have HO314 := n11_; have HO317 := n12_; have BK240 := n13_; have BK259 := n14_; have BK267 := n15_; have BK278 := n16_; have BK318 := n17_; have HB := n18_; clear n0_ n1_ n2_ n3_ n4_ n5_ n6_ n7_ n8_ n9_ n10_ n11_ n12_ n13_ n14_ n15_ n16_ n17_ n18_; (try clear hb); (try clear hb2); (try clear hk); (try clear hi); obtain ⟨Ao148, co148, eo148⟩ := Kd.R_slice HO317.out; subst eo148; obtain ⟨Ao149, co149, eo149⟩ := Kd.R_slice HO_5.out; subst eo149) | (go_at_call 39; (with_reducible refine (laws_eqIntS.calls kj66 _ _ t315 _ _ t256 t320 _ ?side1 ?side2 ?side3 ?side4 A137.out).mono ?_); (case side1 => repeat (first | exact (zJ HO317.out).2.2 | (with_reducible refine zU ?_ _) | (with_reducible refine zV ?_ _) | (with_reducible refine zW ?_))); (case side2 => exact (zJ HO317.out).2.1); (case side3 => repeat (first | exact (zJ HO_5.out).2.2 | (with_reducible refine zU ?_ _) | (with_reducible refine zV ?_ _) | (with_reducible refine zW ?_))); (case side4 => exact (zJ HO_5.out).2.1); rintro e w' ⟨rfl, ⟨nd, rfl⟩⟩))
                            go_meet
                            case rel => exact ⟨_, (!t320), (by first | rfl | (simp; done) | (simp [*]; done)), H', ⟨by have := HJ10.out; have := HJ66.out; first | omega | exact Nat.le_refl _⟩, ⟨by (try simp only [hl268001_66]); (try simp only [hl268002_66]); (with_reducible repeat (first | apply zC | apply zD | apply zE)); exact zG HO_8.out (fun _ hk => by first | exact ⟨hk.1.1.1.2.1, ⟨hk.1.1.1.2.2.1, ⟨hk.1.1.1.2.2.2, hk.1.2⟩⟩⟩ | (revert hk; simp only [and_imp]; intros; (repeat' apply And.intro) <;> assumption))⟩, ⟨by (try simp only [hl268001_66]); (try simp only [hl268002_66]); (with_reducible repeat (first | apply zC | apply zD | apply zE)); exact zG HO_260001.out (fun _ hk => by first | exact ⟨hk.1.1.1.2.1, ⟨hk.1.1.1.2.2.1, ⟨hk.1.1.1.2.2.2, hk.1.2⟩⟩⟩ | (revert hk; simp only [and_imp]; intros; (repeat' apply And.intro) <;> assumption))⟩, ⟨by (try simp only [hl268001_66]); (try simp only [hl268002_66]); (with_reducible repeat (first | apply zC | apply zD | apply zE)); exact zG HO_260002.out (fun _ hk => by first | exact ⟨hk.1.1.1, ⟨hk.1.1.2, hk.2⟩⟩ | (revert hk; simp only [and_imp]; intros; (repeat' apply And.intro) <;> assumption))⟩, ⟨by (try simp only [hl268001_66]); (try simp only [hl268002_66]); (with_reducible repeat (first | apply zC | apply zD | apply zE)); exact zG HO_268001.out (fun _ hk => by first | exact ⟨hk.1.1.1.2.1, ⟨hk.1.1.1.2.2.1, ⟨hk.1.1.1.2.2.2, hk.1.2⟩⟩⟩ | (revert hk; simp only [and_imp]; intros; (repeat' apply And.intro) <;> assumption))⟩, ⟨by (try simp only [hl268001_66]); (try simp only [hl268002_66]); (with_reducible repeat (first | apply zC | apply zD | apply zE)); exact zG HO_268002.out (fun _ hk => by first | exact ⟨hk.1.1.1, ⟨hk.1.1.2, hk.2⟩⟩ | (revert hk; simp only [and_imp]; intros; (repeat' apply And.intro) <;> assumption))⟩, ⟨by (try simp only [hl268001_66]); (try simp only [hl268002_66]); (with_reducible repeat (first | apply zC | apply zD | apply zE)); exact zG HO_279001.out (fun _ hk => by first | exact ⟨hk.1.1.1.2.1, ⟨hk.1.1.1.2.2.1, ⟨hk.1.1.1.2.2.2, hk.1.2⟩⟩⟩ | (revert hk; simp only [and_imp]; intros; (repeat' apply And.intro) <;> assumption))⟩, ⟨by (try simp only [hl268001_66]); (try simp only [hl268002_66]); (with_reducible repeat (first | apply zC | apply zD | apply zE)); exact zG HO_279002.out (fun _ hk => by first | exact ⟨hk.1.1.1, ⟨hk.1.1.2, hk.2⟩⟩ | (revert hk; simp only [and_imp]; intros; (repeat' apply And.intro) <;> assumption))⟩, ⟨by (try simp only [hl268001_66]); (try simp only [hl268002_66]); (with_reducible repeat (first | apply zC | apply zD | apply zE)); exact zG HO311.out (fun _ hk => by first | exact ⟨hk.1.1.1.1.2, ⟨hk.1.1.1.2, ⟨hk.1.1.2, hk.1.2⟩⟩⟩ | (revert hk; simp only [and_imp]; intros; (repeat' apply And.intro) <;> assumption))⟩, ⟨by (try simp only [hl268001_66]); (try simp only [hl268002_66]); (with_reducible repeat (first | apply zC | apply zD | apply zE)); exact zG HO314.out (fun _ hk => by first | exact ⟨hk.1.1.1.2, ⟨hk.1.1.2, hk.1.2⟩⟩ | (revert hk; simp only [and_imp]; intros; (repeat' apply And.intro) <;> assumption))⟩, ⟨by (try simp only [hl268001_66]); (try simp only [hl268002_66]); (with_reducible repeat (first | refine zL ?_ _ | refine zM ?_ | refine zK ?_ _)); exact BK240.out⟩, ⟨by (try simp only [hl268001_66]); (try simp only [hl268002_66]); (with_reducible repeat (first | refine zL ?_ _ | refine zM ?_ | refine zK ?_ _)); exact BK259.out⟩, ⟨by (try simp only [hl268001_66]); (try simp only [hl268002_66]); (with_reducible repeat (first | refine zL ?_ _ | refine zM ?_ | refine zK ?_ _)); exact BK267.out⟩, ⟨by (try simp only [hl268001_66]); (try simp only [hl268002_66]); (with_reducible repeat (first | refine zL ?_ _ | refine zM ?_ | refine zK ?_ _)); exact BK278.out⟩, ⟨by (try simp only [hl268001_66]); (try simp only [hl268002_66]); (with_reducible repeat (first | refine zL ?_ _ | refine zM ?_ | refine zK ?_ _)); exact BK318.out⟩, ⟨by repeat (first | (with_reducible first | exact HB.out | apply zO | apply zA | apply zN | refine zB ?_ GE240.out | refine zB ?_ GE259.out | refine zB ?_ GE267.out | refine zB ?_ GE278.out | refine zB ?_ GE318.out) | exact HB.out)⟩⟩
                          · replace c136 := Bool.eq_false_iff.mpr c136
                            subst c136
                            have H1 : (laws_FnExactCollect.j2 kj66 t298 t297 true t268 t295 t296) = some r := by rw [if_neg (show ¬ (false = true) by decide)] at H; exact H
                            clear H
                            have H := H1
                            clear H1
                            have H' := Aside0.mk H
                            clear H
                            have hnb150 := NB318_240.out
                            have hnc150 := NB240_318.out
                            have hnb151 := NB318_259.out
                            have hnc151 := NB259_318.out
                            have hnb152 := NB318_267.out
                            have hnc152 := NB267_318.out
                            have hnb153 := NB318_278.out
                            have hnc153 := NB278_318.out
                            have hcz154_0 : w127.cell? ⟨gb318, 0, none⟩ = some (.int .i64 0) := (zP BK318.out 0).trans rfl
                            have hcz154_1 : w127.cell? ⟨gb318, 1, none⟩ = some (.slice none 0 0) := (zP BK318.out 1).trans rfl
                            have hcz154_2 : w127.cell? ⟨gb318, 2, none⟩ = some (.slice none 0 0) := (zP BK318.out 2).trans rfl
                            have hfz154_0 := zQ BK318.out 0
                            have hfz154_1 := zQ BK318.out 1
                            have hfz154_2 := zQ BK318.out 2
                            have hnb155 := NB259_240.out
                            have hnc155 := NB240_259.out
                            have hnb156 := NB259_267.out
                            have hnc156 := NB267_259.out
                            have hnb157 := NB259_278.out
                            have hnc157 := NB278_259.out
                            have hcz158_0 : w127.cell? ⟨gb259, 0, none⟩ = some (.int .i64 t249) := (zP BK259.out 0).trans rfl
                            have hcz158_1 : w127.cell? ⟨gb259, 1, none⟩ = some (.slice Ao23 t250.length co23) := (zP BK259.out 1).trans rfl
                            have hcz158_2 : w127.cell? ⟨gb259, 2, none⟩ = some (.slice Ao24 t253.length co24) := (zP BK259.out 2).trans rfl
                            have hfz158_0 := zQ BK259.out 0
                            have hfz158_1 := zQ BK259.out 1
                            have hfz158_2 := zQ BK259.out 2
                            go_wp2_with (first | ((with_reducible refine gate_callee (f := 25) rfl ?_); refine goesL_ (some 91) rfl rfl Try.func25 (by kernel_rfl) rfl #[.agg #[.int .i64 t308, .slice Ao133 t309.length co133, .slice Ao134 t312.length co134], .agg #[.int .i64 t249, .slice Ao23 t250.length co23, .slice Ao24 t253.length co24]] rfl (by (try simp only [List.map_toArray, List.map_cons, List.map_nil]); first | done | rfl | (simp only [List.length_drop, List.length_take]; rfl)) ?_; (with_reducible refine (laws_eqEpochs.calls kj66 t308 _ _ t309 _ _ t312 t249 _ _ t250 _ _ t253 false _ ?side1 ?side2 ?side3 ?side4 ?side5 ?side6 ?side7 ?side8 A135.out).mono ?_); (case side1 => refine (zJ (e := 3) (base := w.heap.size) (ok := fun k_ => ((((((some k_ ≠ (v316 : Value).ownBlock ∧ some k_ ≠ (v257 : Value).ownBlock) ∧ some k_ ≠ (.slice Ao116 t275.length co116 : Value).ownBlock) ∧ some k_ ≠ (.slice Ao23 t250.length co23 : Value).ownBlock) ∧ some k_ ≠ (.slice Ao31 t290.length co31 : Value).ownBlock) ∧ some k_ ≠ (.slice Ao39 t269.length co39 : Value).ownBlock) ∧ some k_ ≠ (.slice Ao124 t302.length co124 : Value).ownBlock)) (n := t309.length) (c := co133) ?_).2.2; exact (by (with_reducible repeat (first | apply zC | apply zD | apply zE)); exact (zG (zF (p := ⟨gb318, 2, none⟩) (zF (p := ⟨gb318, 1, none⟩) (zF (p := ⟨gb318, 0, none⟩) (zI HO311.out BK318.out (by decide)) (fun _ hk => hk.2) (.int .i64 t308)) (fun _ hk => hk.2) (.slice Ao133 t309.length co133)) (fun _ hk => hk.2) (.slice Ao134 t312.length co134)) (fun _ h_ => by first | exact h_.1 | (revert h_; simp only [and_imp]; intros; (repeat' apply And.intro) <;> assumption))))); (case side2 => exact (zJ HO311.out).2.1); (case side3 => refine (zJ (e := 58) (base := w.heap.size) (ok := fun k_ => ((((True ∧ some k_ ≠ (.slice Ao24 t253.length co24 : Value).ownBlock) ∧ some k_ ≠ (.slice Ao32 t291.length co32 : Value).ownBlock) ∧ some k_ ≠ (.slice Ao40 t272.length co40 : Value).ownBlock) ∧ some k_ ≠ (.slice Ao125 t305.length co125 : Value).ownBlock)) (n := t312.length) (c := co134) ?_).2.2; exact (by (with_reducible repeat (first | apply zC | apply zD | apply zE)); exact (zG (zF (p := ⟨gb318, 2, none⟩) (zF (p := ⟨gb318, 1, none⟩) (zF (p := ⟨gb318, 0, none⟩) (zI HO314.out BK318.out (by decide)) (fun _ hk => hk.2) (.int .i64 t308)) (fun _ hk => hk.2) (.slice Ao133 t309.length co133)) (fun _ hk => hk.2) (.slice Ao134 t312.length co134)) (fun _ h_ => by first | exact h_.1 | (revert h_; simp only [and_imp]; intros; (repeat' apply And.intro) <;> assumption))))); (case side4 => exact (zJ HO314.out).2.1); (case side5 => refine (zJ (e := 3) (base := w.heap.size) (ok := fun k_ => ((((some k_ ≠ (v257 : Value).ownBlock ∧ (some k_ ≠ (.slice Ao116 t275.length co116 : Value).ownBlock ∧ (some k_ ≠ (.slice Ao31 t290.length co31 : Value).ownBlock ∧ some k_ ≠ (.slice Ao39 t269.length co39 : Value).ownBlock))) ∧ some k_ ≠ (.slice Ao124 t302.length co124 : Value).ownBlock) ∧ some k_ ≠ (.slice Ao133 t309.length co133 : Value).ownBlock) ∧ some k_ ≠ (v316 : Value).ownBlock)) (n := t250.length) (c := co23) ?_).2.2; exact (by (with_reducible repeat (first | apply zC | apply zD | apply zE)); exact (zG (zF (p := ⟨gb318, 2, none⟩) (zF (p := ⟨gb318, 1, none⟩) (zF (p := ⟨gb318, 0, none⟩) (zI HO_260001.out BK318.out (by decide)) (fun _ hk => hk.2) (.int .i64 t308)) (fun _ hk => hk.2) (.slice Ao133 t309.length co133)) (fun _ hk => hk.2) (.slice Ao134 t312.length co134)) (fun _ h_ => by first | exact h_.1 | (revert h_; simp only [and_imp]; intros; (repeat' apply And.intro) <;> assumption))))); (case side6 => exact (zJ HO_260001.out).2.1); (case side7 => refine (zJ (e := 58) (base := w.heap.size) (ok := fun k_ => (((some k_ ≠ (.slice Ao32 t291.length co32 : Value).ownBlock ∧ some k_ ≠ (.slice Ao40 t272.length co40 : Value).ownBlock) ∧ some k_ ≠ (.slice Ao125 t305.length co125 : Value).ownBlock) ∧ some k_ ≠ (.slice Ao134 t312.length co134 : Value).ownBlock)) (n := t253.length) (c := co24) ?_).2.2; exact (by (with_reducible repeat (first | apply zC | apply zD | apply zE)); exact (zG (zF (p := ⟨gb318, 2, none⟩) (zF (p := ⟨gb318, 1, none⟩) (zF (p := ⟨gb318, 0, none⟩) (zI HO_260002.out BK318.out (by decide)) (fun _ hk => hk.2) (.int .i64 t308)) (fun _ hk => hk.2) (.slice Ao133 t309.length co133)) (fun _ hk => hk.2) (.slice Ao134 t312.length co134)) (fun _ h_ => by first | exact h_.1 | (revert h_; simp only [and_imp]; intros; (repeat' apply And.intro) <;> assumption))))); (case side8 => exact (zJ HO_260002.out).2.1); rintro e w159 ⟨rfl, hb⟩; refine ⟨_, rfl, ?_⟩; have n0_ := Aside0.mk (zH (by (with_reducible repeat (first | apply zC | apply zD | apply zE)); exact (zG (zF (p := ⟨gb318, 2, none⟩) (zF (p := ⟨gb318, 1, none⟩) (zF (p := ⟨gb318, 0, none⟩) (zI HO_5.out BK318.out (by decide)) (fun _ hk => hk.2) (.int .i64 t308)) (fun _ hk => hk.2) (.slice Ao133 t309.length co133)) (fun _ hk => hk.2) (.slice Ao134 t312.length co134)) (fun _ h_ => by first | exact h_.1 | (revert h_; simp only [and_imp]; intros; (repeat' apply And.intro) <;> assumption)))) hb); have n1_ := Aside0.mk (zH (by (with_reducible repeat (first | apply zC | apply zD | apply zE)); exact (zG (zF (p := ⟨gb318, 2, none⟩) (zF (p := ⟨gb318, 1, none⟩) (zF (p := ⟨gb318, 0, none⟩) (zI HO_8.out BK318.out (by decide)) (fun _ hk => hk.2) (.int .i64 t308)) (fun _ hk => hk.2) (.slice Ao133 t309.length co133)) (fun _ hk => hk.2) (.slice Ao134 t312.length co134)) (fun _ h_ => by first | exact h_.1 | (revert h_; simp only [and_imp]; intros; (repeat' apply And.intro) <;> assumption)))) hb); have n2_ := Aside0.mk (zH (by (with_reducible repeat (first | apply zC | apply zD | apply zE)); exact (zG (zF (p := ⟨gb318, 2, none⟩) (zF (p := ⟨gb318, 1, none⟩) (zF (p := ⟨gb318, 0, none⟩) (zI HO_260001.out BK318.out (by decide)) (fun _ hk => hk.2) (.int .i64 t308)) (fun _ hk => hk.2) (.slice Ao133 t309.length co133)) (fun _ hk => hk.2) (.slice Ao134 t312.length co134)) (fun _ h_ => by first | exact h_.1 | (revert h_; simp only [and_imp]; intros; (repeat' apply And.intro) <;> assumption)))) hb); have n3_ := Aside0.mk (zH (by (with_reducible repeat (first | apply zC | apply zD | apply zE)); exact (zG (zF (p := ⟨gb318, 2, none⟩) (zF (p := ⟨gb318, 1, none⟩) (zF (p := ⟨gb318, 0, none⟩) (zI HO_260002.out BK318.out (by decide)) (fun _ hk => hk.2) (.int .i64 t308)) (fun _ hk => hk.2) (.slice Ao133 t309.length co133)) (fun _ hk => hk.2) (.slice Ao134 t312.length co134)) (fun _ h_ => by first | exact h_.1 | (revert h_; simp only [and_imp]; intros; (repeat' apply And.intro) <;> assumption)))) hb); have n4_ := Aside0.mk (zH (by (with_reducible repeat (first | apply zC | apply zD | apply zE)); exact (zG (zF (p := ⟨gb318, 2, none⟩) (zF (p := ⟨gb318, 1, none⟩) (zF (p := ⟨gb318, 0, none⟩) (zI HO_268001.out BK318.out (by decide)) (fun _ hk => hk.2) (.int .i64 t308)) (fun _ hk => hk.2) (.slice Ao133 t309.length co133)) (fun _ hk => hk.2) (.slice Ao134 t312.length co134)) (fun _ h_ => by first | exact h_.1 | (revert h_; simp only [and_imp]; intros; (repeat' apply And.intro) <;> assumption)))) hb); have n5_ := Aside0.mk (zH (by (with_reducible repeat (first | apply zC | apply zD | apply zE)); exact (zG (zF (p := ⟨gb318, 2, none⟩) (zF (p := ⟨gb318, 1, none⟩) (zF (p := ⟨gb318, 0, none⟩) (zI HO_268002.out BK318.out (by decide)) (fun _ hk => hk.2) (.int .i64 t308)) (fun _ hk => hk.2) (.slice Ao133 t309.length co133)) (fun _ hk => hk.2) (.slice Ao134 t312.length co134)) (fun _ h_ => by first | exact h_.1 | (revert h_; simp only [and_imp]; intros; (repeat' apply And.intro) <;> assumption)))) hb); have n6_ := Aside0.mk (zH (by (with_reducible repeat (first | apply zC | apply zD | apply zE)); exact (zG (zF (p := ⟨gb318, 2, none⟩) (zF (p := ⟨gb318, 1, none⟩) (zF (p := ⟨gb318, 0, none⟩) (zI HO_279001.out BK318.out (by decide)) (fun _ hk => hk.2) (.int .i64 t308)) (fun _ hk => hk.2) (.slice Ao133 t309.length co133)) (fun _ hk => hk.2) (.slice Ao134 t312.length co134)) (fun _ h_ => by first | exact h_.1 | (revert h_; simp only [and_imp]; intros; (repeat' apply And.intro) <;> assumption)))) hb); have n7_ := Aside0.mk (zH (by (with_reducible repeat (first | apply zC | apply zD | apply zE)); exact (zG (zF (p := ⟨gb318, 2, none⟩) (zF (p := ⟨gb318, 1, none⟩) (zF (p := ⟨gb318, 0, none⟩) (zI HO_279002.out BK318.out (by decide)) (fun _ hk => hk.2) (.int .i64 t308)) (fun _ hk => hk.2) (.slice Ao133 t309.length co133)) (fun _ hk => hk.2) (.slice Ao134 t312.length co134)) (fun _ h_ => by first | exact h_.1 | (revert h_; simp only [and_imp]; intros; (repeat' apply And.intro) <;> assumption)))) hb); have n8_ := Aside0.mk (zH (by (with_reducible repeat (first | apply zC | apply zD | apply zE)); exact (zG (zF (p := ⟨gb318, 2, none⟩) (zF (p := ⟨gb318, 1, none⟩) (zF (p := ⟨gb318, 0, none⟩) (zI HO304.out BK318.out (by decide)) (fun _ hk => hk.2) (.int .i64 t308)) (fun _ hk => hk.2) (.slice Ao133 t309.length co133)) (fun _ hk => hk.2) (.slice Ao134 t312.length co134)) (fun _ h_ => by first | exact h_.1 | (revert h_; simp only [and_imp]; intros; (repeat' apply And.intro) <;> assumption)))) hb); have n9_ := Aside0.mk (zH (by (with_reducible repeat (first | apply zC | apply zD | apply zE)); exact (zG (zF (p := ⟨gb318, 2, none⟩) (zF (p := ⟨gb318, 1, none⟩) (zF (p := ⟨gb318, 0, none⟩) (zI HO307.out BK318.out (by decide)) (fun _ hk => hk.2) (.int .i64 t308)) (fun _ hk => hk.2) (.slice Ao133 t309.length co133)) (fun _ hk => hk.2) (.slice Ao134 t312.length co134)) (fun _ h_ => by first | exact h_.1 | (revert h_; simp only [and_imp]; intros; (repeat' apply And.intro) <;> assumption)))) hb); have n10_ := Aside0.mk (zH (by (with_reducible repeat (first | apply zC | apply zD | apply zE)); exact (zG (zF (p := ⟨gb318, 2, none⟩) (zF (p := ⟨gb318, 1, none⟩) (zF (p := ⟨gb318, 0, none⟩) (zI HO311.out BK318.out (by decide)) (fun _ hk => hk.2) (.int .i64 t308)) (fun _ hk => hk.2) (.slice Ao133 t309.length co133)) (fun _ hk => hk.2) (.slice Ao134 t312.length co134)) (fun _ h_ => by first | exact h_.1 | (revert h_; simp only [and_imp]; intros; (repeat' apply And.intro) <;> assumption)))) hb); have n11_ := Aside0.mk (zH (by (with_reducible repeat (first | apply zC | apply zD | apply zE)); exact (zG (zF (p := ⟨gb318, 2, none⟩) (zF (p := ⟨gb318, 1, none⟩) (zF (p := ⟨gb318, 0, none⟩) (zI HO314.out BK318.out (by decide)) (fun _ hk => hk.2) (.int .i64 t308)) (fun _ hk => hk.2) (.slice Ao133 t309.length co133)) (fun _ hk => hk.2) (.slice Ao134 t312.length co134)) (fun _ h_ => by first | exact h_.1 | (revert h_; simp only [and_imp]; intros; (repeat' apply And.intro) <;> assumption)))) hb); have n12_ := Aside0.mk (zH (by (with_reducible repeat (first | apply zC | apply zD | apply zE)); exact (zG (zF (p := ⟨gb318, 2, none⟩) (zF (p := ⟨gb318, 1, none⟩) (zF (p := ⟨gb318, 0, none⟩) (zI HO317.out BK318.out (by decide)) (fun _ hk => hk.2) (.int .i64 t308)) (fun _ hk => hk.2) (.slice Ao133 t309.length co133)) (fun _ hk => hk.2) (.slice Ao134 t312.length co134)) (fun _ h_ => by first | exact h_.1 | (revert h_; simp only [and_imp]; intros; (repeat' apply And.intro) <;> assumption)))) hb); have n13_ := Aside0.mk (zR (g := gb240) (o := .cells #[.int .i64 a0_0, .slice A0_1 l0_1.length c0_1, .slice A0_2 l0_2.length c0_2] 43 (0, 0)) (by (with_reducible repeat (first | refine zL ?_ _ | refine zM ?_ | refine zK ?_ _)); refine blk_far ?_ NB240_318.out _; (with_reducible repeat (first | refine zL ?_ _ | refine zM ?_ | refine zK ?_ _)); refine blk_far ?_ NB240_318.out _; (with_reducible repeat (first | refine zL ?_ _ | refine zM ?_ | refine zK ?_ _)); refine blk_far ?_ NB240_318.out _; (with_reducible repeat (first | refine zL ?_ _ | refine zM ?_ | refine zK ?_ _)); exact BK240.out) hb); have n14_ := Aside0.mk (zR (g := gb259) (o := .cells #[.int .i64 t249, .slice Ao23 t250.length co23, .slice Ao24 t253.length co24] 27 (0, 0)) (by (with_reducible repeat (first | refine zL ?_ _ | refine zM ?_ | refine zK ?_ _)); refine blk_far ?_ NB259_318.out _; (with_reducible repeat (first | refine zL ?_ _ | refine zM ?_ | refine zK ?_ _)); refine blk_far ?_ NB259_318.out _; (with_reducible repeat (first | refine zL ?_ _ | refine zM ?_ | refine zK ?_ _)); refine blk_far ?_ NB259_318.out _; (with_reducible repeat (first | refine zL ?_ _ | refine zM ?_ | refine zK ?_ _)); exact BK259.out) hb); have n15_ := Aside0.mk (zR (g := gb267) (o := .cells #[.int .i64 t260, .slice Ao31 t290.length co31, .slice Ao32 t291.length co32] 27 (0, 0)) (by (with_reducible repeat (first | refine zL ?_ _ | refine zM ?_ | refine zK ?_ _)); refine blk_far ?_ NB267_318.out _; (with_reducible repeat (first | refine zL ?_ _ | refine zM ?_ | refine zK ?_ _)); refine blk_far ?_ NB267_318.out _; (with_reducible repeat (first | refine zL ?_ _ | refine zM ?_ | refine zK ?_ _)); refine blk_far ?_ NB267_318.out _; (with_reducible repeat (first | refine zL ?_ _ | refine zM ?_ | refine zK ?_ _)); exact BK267.out) hb); have n16_ := Aside0.mk (zR (g := gb278) (o := .cells #[.int .i64 t268, .slice Ao39 t269.length co39, .slice Ao40 t272.length co40] 27 (0, 0)) (by (with_reducible repeat (first | refine zL ?_ _ | refine zM ?_ | refine zK ?_ _)); refine blk_far ?_ NB278_318.out _; (with_reducible repeat (first | refine zL ?_ _ | refine zM ?_ | refine zK ?_ _)); refine blk_far ?_ NB278_318.out _; (with_reducible repeat (first | refine zL ?_ _ | refine zM ?_ | refine zK ?_ _)); refine blk_far ?_ NB278_318.out _; (with_reducible repeat (first | refine zL ?_ _ | refine zM ?_ | refine zK ?_ _)); exact BK278.out) hb); have n17_ := Aside0.mk (zR (g := gb318) (o := .cells #[.int .i64 t308, .slice Ao133 t309.length co133, .slice Ao134 t312.length co134] 27 (0, 0)) (by (with_reducible repeat (first | refine zL ?_ _ | refine zM ?_ | refine zK ?_ _)); refine blk_put (cs := #[.int .i64 t308, .slice Ao133 t309.length co133, .slice none 0 0]) ?_ 2 _ rfl; (with_reducible repeat (first | refine zL ?_ _ | refine zM ?_ | refine zK ?_ _)); refine blk_put (cs := #[.int .i64 t308, .slice none 0 0, .slice none 0 0]) ?_ 1 _ rfl; (with_reducible repeat (first | refine zL ?_ _ | refine zM ?_ | refine zK ?_ _)); refine blk_put (cs := #[.int .i64 0, .slice none 0 0, .slice none 0 0]) ?_ 0 _ rfl; (with_reducible repeat (first | refine zL ?_ _ | refine zM ?_ | refine zK ?_ _)); exact BK318.out) hb); have n18_ := Aside0.mk (zS (by repeat (first | (with_reducible first | exact HB.out | apply zO | apply zA | apply zN | refine zB ?_ GE240.out | refine zB ?_ GE259.out | refine zB ?_ GE267.out | refine zB ?_ GE278.out | refine zB ?_ GE318.out) | exact HB.out)) hb); clear HO_5; clear HO_8; clear HO_260001; clear HO_260002; clear HO_268001; clear HO_268002; clear HO_279001; clear HO_279002; clear HO304; clear HO307; clear HO311; clear HO314; clear HO317; clear BK240; clear BK259; clear BK267; clear BK278; clear BK318; clear HB; have HO_5 := n0_; have HO_8 := n1_; have HO_260001 := n2_; have HO_260002 := n3_; have HO_268001 := n4_; have HO_268002 := n5_; have HO_279001 := n6_; have HO_279002 := n7_; have HO304 := n8_; have HO307 := n9_; have HO311 := n10_; have HO314 := n11_; have HO317 := n12_; have BK240 := n13_; have BK259 := n14_; have BK267 := n15_; have BK278 := n16_; have BK318 := n17_; have HB := n18_; clear n0_ n1_ n2_ n3_ n4_ n5_ n6_ n7_ n8_ n9_ n10_ n11_ n12_ n13_ n14_ n15_ n16_ n17_ n18_; (try clear hb); (try clear hb2); (try clear hk); (try clear hi)))
                            go_meet
                            case rel => exact ⟨_, (true), (by first | rfl | (simp; done) | (simp [*]; done)), H', ⟨by have := HJ10.out; have := HJ66.out; first | omega | exact Nat.le_refl _⟩, ⟨by (try simp only [hl268001_66]); (try simp only [hl268002_66]); (with_reducible repeat (first | apply zC | apply zD | apply zE)); exact zG HO_8.out (fun _ hk => by first | exact ⟨hk.1.1.1.2.1, ⟨hk.1.1.1.2.2.1, ⟨hk.1.1.1.2.2.2, hk.1.2⟩⟩⟩ | (revert hk; simp only [and_imp]; intros; (repeat' apply And.intro) <;> assumption))⟩, ⟨by (try simp only [hl268001_66]); (try simp only [hl268002_66]); (with_reducible repeat (first | apply zC | apply zD | apply zE)); exact zG HO_260001.out (fun _ hk => by first | exact ⟨hk.1.1.1.2.1, ⟨hk.1.1.1.2.2.1, ⟨hk.1.1.1.2.2.2, hk.1.2⟩⟩⟩ | (revert hk; simp only [and_imp]; intros; (repeat' apply And.intro) <;> assumption))⟩, ⟨by (try simp only [hl268001_66]); (try simp only [hl268002_66]); (with_reducible repeat (first | apply zC | apply zD | apply zE)); exact zG HO_260002.out (fun _ hk => by first | exact ⟨hk.1.1.1, ⟨hk.1.1.2, hk.2⟩⟩ | (revert hk; simp only [and_imp]; intros; (repeat' apply And.intro) <;> assumption))⟩, ⟨by (try simp only [hl268001_66]); (try simp only [hl268002_66]); (with_reducible repeat (first | apply zC | apply zD | apply zE)); exact zG HO_268001.out (fun _ hk => by first | exact ⟨hk.1.1.1.2.1, ⟨hk.1.1.1.2.2.1, ⟨hk.1.1.1.2.2.2, hk.1.2⟩⟩⟩ | (revert hk; simp only [and_imp]; intros; (repeat' apply And.intro) <;> assumption))⟩, ⟨by (try simp only [hl268001_66]); (try simp only [hl268002_66]); (with_reducible repeat (first | apply zC | apply zD | apply zE)); exact zG HO_268002.out (fun _ hk => by first | exact ⟨hk.1.1.1, ⟨hk.1.1.2, hk.2⟩⟩ | (revert hk; simp only [and_imp]; intros; (repeat' apply And.intro) <;> assumption))⟩, ⟨by (try simp only [hl268001_66]); (try simp only [hl268002_66]); (with_reducible repeat (first | apply zC | apply zD | apply zE)); exact zG HO_279001.out (fun _ hk => by first | exact ⟨hk.1.1.1.2.1, ⟨hk.1.1.1.2.2.1, ⟨hk.1.1.1.2.2.2, hk.1.2⟩⟩⟩ | (revert hk; simp only [and_imp]; intros; (repeat' apply And.intro) <;> assumption))⟩, ⟨by (try simp only [hl268001_66]); (try simp only [hl268002_66]); (with_reducible repeat (first | apply zC | apply zD | apply zE)); exact zG HO_279002.out (fun _ hk => by first | exact ⟨hk.1.1.1, ⟨hk.1.1.2, hk.2⟩⟩ | (revert hk; simp only [and_imp]; intros; (repeat' apply And.intro) <;> assumption))⟩, ⟨by (try simp only [hl268001_66]); (try simp only [hl268002_66]); (with_reducible repeat (first | apply zC | apply zD | apply zE)); exact zG HO311.out (fun _ hk => by first | exact ⟨hk.1.1.1.1.2, ⟨hk.1.1.1.2, ⟨hk.1.1.2, hk.1.2⟩⟩⟩ | (revert hk; simp only [and_imp]; intros; (repeat' apply And.intro) <;> assumption))⟩, ⟨by (try simp only [hl268001_66]); (try simp only [hl268002_66]); (with_reducible repeat (first | apply zC | apply zD | apply zE)); exact zG HO314.out (fun _ hk => by first | exact ⟨hk.1.1.1.2, ⟨hk.1.1.2, hk.1.2⟩⟩ | (revert hk; simp only [and_imp]; intros; (repeat' apply And.intro) <;> assumption))⟩, ⟨by (try simp only [hl268001_66]); (try simp only [hl268002_66]); (with_reducible repeat (first | refine zL ?_ _ | refine zM ?_ | refine zK ?_ _)); exact BK240.out⟩, ⟨by (try simp only [hl268001_66]); (try simp only [hl268002_66]); (with_reducible repeat (first | refine zL ?_ _ | refine zM ?_ | refine zK ?_ _)); exact BK259.out⟩, ⟨by (try simp only [hl268001_66]); (try simp only [hl268002_66]); (with_reducible repeat (first | refine zL ?_ _ | refine zM ?_ | refine zK ?_ _)); exact BK267.out⟩, ⟨by (try simp only [hl268001_66]); (try simp only [hl268002_66]); (with_reducible repeat (first | refine zL ?_ _ | refine zM ?_ | refine zK ?_ _)); exact BK278.out⟩, ⟨by (try simp only [hl268001_66]); (try simp only [hl268002_66]); (with_reducible repeat (first | refine zL ?_ _ | refine zM ?_ | refine zK ?_ _)); exact BK318.out⟩, ⟨by repeat (first | (with_reducible first | exact HB.out | apply zO | apply zA | apply zN | refine zB ?_ GE240.out | refine zB ?_ GE259.out | refine zB ?_ GE267.out | refine zB ?_ GE278.out | refine zB ?_ GE318.out) | exact HB.out)⟩⟩
                        case rest =>
                          clear HC110
                          try clear c1
                          try clear c2
                          try clear p2
                          try clear c3
                          try clear c3b0
                          try clear c4
                          try clear c5
                          try clear c6
                          try clear c7
                          try clear c8
                          try clear c9
                          try clear c10
                          try clear c11
                          try clear c12
                          try clear c13
                          try clear c14
                          try clear c15
                          try clear c21
                          try clear c22
                          try clear c25
                          try clear c26
                          try clear c27
                          try clear c28
                          try clear c29
                          try clear c30
                          try clear c35
                          try clear c36
                          try clear c37
                          try clear c38
                          try clear c40
                          try clear c41
                          try clear c42
                          try clear c44
                          try clear c45
                          try clear c46
                          try clear c48
                          try clear c49
                          try clear c54
                          try clear c55
                          try clear c56
                          try clear c58
                          try clear c59
                          try clear c62
                          try clear c65
                          try clear c73
                          try clear c74
                          try clear c75
                          try clear c78
                          try clear c78b0
                          try clear c80
                          try clear c82
                          try clear c83
                          try clear c84
                          try clear c86
                          try clear c87
                          try clear c92
                          try clear c93
                          try clear c94
                          try clear c96
                          try clear c97
                          try clear c100
                          try clear c104
                          try clear c104b0
                          try clear c106
                          try clear c106b0
                          try clear c107
                          try clear c107b0
                          try clear c107b1
                          try clear c111
                          try clear c112
                          try clear c113
                          try clear c120
                          try clear c121
                          try clear c128
                          try clear c129
                          try clear c130
                          try clear c131
                          try clear c136
                          try clear c138
                          try clear c139
                          try clear c140
                          try clear c141
                          try clear c143
                          try clear c144
                          try clear c145
                          try clear c150
                          try clear c151
                          try clear c152
                          try clear c153
                          try clear c155
                          try clear c156
                          try clear c157
                          try clear hcz114_0
                          try clear hcz114_1
                          try clear hcz114_2
                          try clear hcz118_0
                          try clear hcz118_1
                          try clear hcz118_2
                          try clear hcz122_0
                          try clear hcz122_1
                          try clear hcz122_2
                          try clear hcz132_0
                          try clear hcz132_1
                          try clear hcz132_2
                          try clear hcz13_0
                          try clear hcz13_1
                          try clear hcz13_2
                          try clear hcz142_0
                          try clear hcz142_1
                          try clear hcz142_2
                          try clear hcz146_0
                          try clear hcz146_1
                          try clear hcz146_2
                          try clear hcz154_0
                          try clear hcz154_1
                          try clear hcz154_2
                          try clear hcz158_0
                          try clear hcz158_1
                          try clear hcz158_2
                          try clear hcz15_0
                          try clear hcz15_1
                          try clear hcz15_2
                          try clear hcz22_0
                          try clear hcz22_1
                          try clear hcz22_2
                          try clear hcz25_0
                          try clear hcz25_1
                          try clear hcz25_2
                          try clear hcz30_0
                          try clear hcz30_1
                          try clear hcz30_2
                          try clear hcz38_0
                          try clear hcz38_1
                          try clear hcz38_2
                          try clear hcz47_0
                          try clear hcz47_1
                          try clear hcz47_2
                          try clear hcz50_0
                          try clear hcz50_1
                          try clear hcz50_2
                          try clear hcz57_0
                          try clear hcz57_1
                          try clear hcz57_2
                          try clear hcz5_0
                          try clear hcz5_1
                          try clear hcz5_2
                          try clear hcz60_0
                          try clear hcz60_1
                          try clear hcz60_2
                          try clear hcz76_0
                          try clear hcz76_1
                          try clear hcz76_2
                          try clear hcz85_0
                          try clear hcz85_1
                          try clear hcz85_2
                          try clear hcz88_0
                          try clear hcz88_1
                          try clear hcz88_2
                          try clear hcz95_0
                          try clear hcz95_1
                          try clear hcz95_2
                          try clear hcz98_0
                          try clear hcz98_1
                          try clear hcz98_2
                          try clear hfz114_0
                          try clear hfz114_1
                          try clear hfz114_2
                          try clear hfz118_0
                          try clear hfz118_1
                          try clear hfz118_2
                          try clear hfz122_0
                          try clear hfz122_1
                          try clear hfz122_2
                          try clear hfz132_0
                          try clear hfz132_1
                          try clear hfz132_2
                          try clear hfz13_0
                          try clear hfz13_1
                          try clear hfz13_2
                          try clear hfz142_0
                          try clear hfz142_1
                          try clear hfz142_2
                          try clear hfz146_0
                          try clear hfz146_1
                          try clear hfz146_2
                          try clear hfz154_0
                          try clear hfz154_1
                          try clear hfz154_2
                          try clear hfz158_0
                          try clear hfz158_1
                          try clear hfz158_2
                          try clear hfz15_0
                          try clear hfz15_1
                          try clear hfz15_2
                          try clear hfz22_0
                          try clear hfz22_1
                          try clear hfz22_2
                          try clear hfz25_0
                          try clear hfz25_1
                          try clear hfz25_2
                          try clear hfz30_0
                          try clear hfz30_1
                          try clear hfz30_2
                          try clear hfz38_0
                          try clear hfz38_1
                          try clear hfz38_2
                          try clear hfz47_0
                          try clear hfz47_1
                          try clear hfz47_2
                          try clear hfz50_0
                          try clear hfz50_1
                          try clear hfz50_2
                          try clear hfz57_0
                          try clear hfz57_1
                          try clear hfz57_2
                          try clear hfz5_0
                          try clear hfz5_1
                          try clear hfz5_2
                          try clear hfz60_0
                          try clear hfz60_1
                          try clear hfz60_2
                          try clear hfz76_0
                          try clear hfz76_1
                          try clear hfz76_2
                          try clear hfz85_0
                          try clear hfz85_1
                          try clear hfz85_2
                          try clear hfz88_0
                          try clear hfz88_1
                          try clear hfz88_2
                          try clear hfz95_0
                          try clear hfz95_1
                          try clear hfz95_2
                          try clear hfz98_0
                          try clear hfz98_1
                          try clear hfz98_2
                          try clear p2
                          obtain ⟨kq, x98_109, rfl, HA, HJ109, HO_8, HO_260001, HO_260002, HO_268001, HO_268002, HO_279001, HO_279002, HO_319001, HO_319002, BK240, BK259, BK267, BK278, BK318, HB⟩ := hcut
                          have hl8_109 := (zJ HO_8.out).1
                          rw [hl8_109] at HO_8
                          (try simp only [hl8_109])
                          (try simp only [hl8_109] at BK240)
                          (try simp only [hl8_109] at BK259)
                          (try simp only [hl8_109] at BK267)
                          (try simp only [hl8_109] at BK278)
                          (try simp only [hl8_109] at BK318)
                          (try simp only [hl8_109] at HO_260001)
                          (try simp only [hl8_109] at HO_260002)
                          (try simp only [hl8_109] at HO_268001)
                          (try simp only [hl8_109] at HO_268002)
                          (try simp only [hl8_109] at HO_279001)
                          (try simp only [hl8_109] at HO_279002)
                          (try simp only [hl8_109] at HO_319001)
                          (try simp only [hl8_109] at HO_319002)
                          have hl279001_109 := (zJ HO_279001.out).1
                          rw [hl279001_109] at HO_279001
                          (try simp only [hl279001_109])
                          (try simp only [hl279001_109] at BK240)
                          (try simp only [hl279001_109] at BK259)
                          (try simp only [hl279001_109] at BK267)
                          (try simp only [hl279001_109] at BK278)
                          (try simp only [hl279001_109] at BK318)
                          (try simp only [hl279001_109] at HO_8)
                          (try simp only [hl279001_109] at HO_260001)
                          (try simp only [hl279001_109] at HO_260002)
                          (try simp only [hl279001_109] at HO_268001)
                          (try simp only [hl279001_109] at HO_268002)
                          (try simp only [hl279001_109] at HO_279002)
                          (try simp only [hl279001_109] at HO_319001)
                          (try simp only [hl279001_109] at HO_319002)
                          have hl279002_109 := (zJ HO_279002.out).1
                          rw [hl279002_109] at HO_279002
                          (try simp only [hl279002_109])
                          (try simp only [hl279002_109] at BK240)
                          (try simp only [hl279002_109] at BK259)
                          (try simp only [hl279002_109] at BK267)
                          (try simp only [hl279002_109] at BK278)
                          (try simp only [hl279002_109] at BK318)
                          (try simp only [hl279002_109] at HO_8)
                          (try simp only [hl279002_109] at HO_260001)
                          (try simp only [hl279002_109] at HO_260002)
                          (try simp only [hl279002_109] at HO_268001)
                          (try simp only [hl279002_109] at HO_268002)
                          (try simp only [hl279002_109] at HO_279001)
                          (try simp only [hl279002_109] at HO_319001)
                          (try simp only [hl279002_109] at HO_319002)
                          cases kq with
                          | zero => exact absurd HA.out (by simp [laws_FnExactCollect.j2])
                          | succ kj109 =>
                            have H := HA.out
                            clear HA
                            simp only [laws_FnExactCollect.j2] at H
                            by_cases c160 : x98_109 = true
                            · subst c160
                              have H1 : (none) = some r := by rw [if_pos rfl] at H; exact H
                              clear H
                              have H := H1
                              clear H1
                              exact absurd H (by simp)
                            · replace c160 := Bool.eq_false_iff.mpr c160
                              subst c160
                              have H1 : ((laws_heldEpochs.f kj109 t268 t295 t296 1).bind fun t321 => (if t321 < 0 then (none) else ((laws_heldIntS.f kj109 t298 t321).bind fun t322 => (if t322 < 0 then (none) else (if t322 = t297 then (some true) else (none)))))) = some r := by rw [if_neg (show ¬ (false = true) by decide)] at H; exact H
                              clear H
                              have H := H1
                              clear H1
                              replace H := Option.bind_eq_some_iff.mp H
                              obtain ⟨t321, A1610, H⟩ := H
                              replace H : (if t321 < 0 then (none) else ((laws_heldIntS.f kj109 t298 t321).bind fun t322 => (if t322 < 0 then (none) else (if t322 = t297 then (some true) else (none))))) = some r := H
                              have A161 := Aside0.mk A1610
                              clear A1610
                              by_cases c162 : t321 < 0
                              · rw [if_pos c162] at H
                                exact absurd H (by simp)
                              · rw [if_neg c162] at H
                                have c162b0 : decide (t321 < 0) = false := decide_eq_false c162
                                clear c162
                                replace H := Option.bind_eq_some_iff.mp H
                                obtain ⟨t322, A1630, H⟩ := H
                                replace H : (if t322 < 0 then (none) else (if t322 = t297 then (some true) else (none))) = some r := H
                                have A163 := Aside0.mk A1630
                                clear A1630
                                by_cases c164 : t322 < 0
                                · rw [if_pos c164] at H
                                  exact absurd H (by simp)
                                · rw [if_neg c164] at H
                                  have c164b0 : decide (t322 < 0) = false := decide_eq_false c164
                                  clear c164
                                  by_cases c165 : t322 = t297
                                  · rw [if_pos c165] at H
                                    have c165b0 : (t322 == t297) = true := beq_iff_eq.mpr c165
                                    have c165b1 : (t322 != t297) = false := bne_eq_false_iff_eq.mpr c165
                                    clear c165
                                    obtain rfl := Option.some.inj H
                                    have hnb166 := NB278_240.out
                                    have hnc166 := NB240_278.out
                                    have hnb167 := NB278_259.out
                                    have hnc167 := NB259_278.out
                                    have hnb168 := NB278_267.out
                                    have hnc168 := NB267_278.out
                                    have hnb169 := NB278_318.out
                                    have hnc169 := NB318_278.out
                                    have hcz170_0 : wc.cell? ⟨gb278, 0, none⟩ = some (.int .i64 t268) := (zP BK278.out 0).trans rfl
                                    have hcz170_1 : wc.cell? ⟨gb278, 1, none⟩ = some (.slice Ao39 t295.length co39) := (zP BK278.out 1).trans rfl
                                    have hcz170_2 : wc.cell? ⟨gb278, 2, none⟩ = some (.slice Ao40 t296.length co40) := (zP BK278.out 2).trans rfl
                                    have hfz170_0 := zQ BK278.out 0
                                    have hfz170_1 := zQ BK278.out 1
                                    have hfz170_2 := zQ BK278.out 2
                                    go_wp2_with (first | ((with_reducible refine gate_callee (f := 27) rfl ?_); refine goesL_ (some 101) rfl rfl Try.func27 (by kernel_rfl) rfl #[.agg #[.int .i64 t268, .slice Ao39 t295.length co39, .slice Ao40 t296.length co40], .int .i64 1] rfl (by (try simp only [List.map_toArray, List.map_cons, List.map_nil]); first | done | rfl | (simp only [List.length_drop, List.length_take]; rfl)) ?_; (with_reducible refine (laws_heldEpochs.calls kj109 t268 _ _ t295 _ _ t296 1 t321 _ ?side1 ?side2 ?side3 ?side4 A161.out).mono ?_); (case side1 => repeat (first | exact (zJ HO_279001.out).2.2 | (with_reducible refine zU ?_ _) | (with_reducible refine zV ?_ _) | (with_reducible refine zW ?_))); (case side2 => exact (zJ HO_279001.out).2.1); (case side3 => repeat (first | exact (zJ HO_279002.out).2.2 | (with_reducible refine zU ?_ _) | (with_reducible refine zV ?_ _) | (with_reducible refine zW ?_))); (case side4 => exact (zJ HO_279002.out).2.1); rintro e w171 ⟨rfl, hb⟩; refine ⟨_, rfl, ?_⟩; have n0_ := Aside0.mk (zH (by (with_reducible repeat (first | apply zC | apply zD | apply zE)); exact HO_8.out) hb); have n1_ := Aside0.mk (zH (by (with_reducible repeat (first | apply zC | apply zD | apply zE)); exact HO_260001.out) hb); have n2_ := Aside0.mk (zH (by (with_reducible repeat (first | apply zC | apply zD | apply zE)); exact HO_260002.out) hb); have n3_ := Aside0.mk (zH (by (with_reducible repeat (first | apply zC | apply zD | apply zE)); exact HO_268001.out) hb); have n4_ := Aside0.mk (zH (by (with_reducible repeat (first | apply zC | apply zD | apply zE)); exact HO_268002.out) hb); have n5_ := Aside0.mk (zH (by (with_reducible repeat (first | apply zC | apply zD | apply zE)); exact HO_279001.out) hb); have n6_ := Aside0.mk (zH (by (with_reducible repeat (first | apply zC | apply zD | apply zE)); exact HO_279002.out) hb); have n7_ := Aside0.mk (zH (by (with_reducible repeat (first | apply zC | apply zD | apply zE)); exact HO_319001.out) hb); have n8_ := Aside0.mk (zH (by (with_reducible repeat (first | apply zC | apply zD | apply zE)); exact HO_319002.out) hb); have n9_ := Aside0.mk (zR (g := gb240) (o := .cells #[.int .i64 a0_0, .slice A0_1 l0_1.length c0_1, .slice A0_2 l0_2.length c0_2] 43 (0, 0)) (by (with_reducible repeat (first | refine zL ?_ _ | refine zM ?_ | refine zK ?_ _)); exact BK240.out) hb); have n10_ := Aside0.mk (zR (g := gb259) (o := .cells #[.int .i64 t249, .slice Ao23 t250.length co23, .slice Ao24 t253.length co24] 27 (0, 0)) (by (with_reducible repeat (first | refine zL ?_ _ | refine zM ?_ | refine zK ?_ _)); exact BK259.out) hb); have n11_ := Aside0.mk (zR (g := gb267) (o := .cells #[.int .i64 t260, .slice Ao31 t290.length co31, .slice Ao32 t291.length co32] 27 (0, 0)) (by (with_reducible repeat (first | refine zL ?_ _ | refine zM ?_ | refine zK ?_ _)); exact BK267.out) hb); have n12_ := Aside0.mk (zR (g := gb278) (o := .cells #[.int .i64 t268, .slice Ao39 t295.length co39, .slice Ao40 t296.length co40] 27 (0, 0)) (by (with_reducible repeat (first | refine zL ?_ _ | refine zM ?_ | refine zK ?_ _)); exact BK278.out) hb); have n13_ := Aside0.mk (zR (g := gb318) (o := .cells #[.int .i64 t308, .slice Ao133 t309.length co133, .slice Ao134 t312.length co134] 27 (0, 0)) (by (with_reducible repeat (first | refine zL ?_ _ | refine zM ?_ | refine zK ?_ _)); exact BK318.out) hb); have n14_ := Aside0.mk (zS (by repeat (first | (with_reducible first | exact HB.out | apply zO | apply zA | apply zN | refine zB ?_ GE240.out | refine zB ?_ GE259.out | refine zB ?_ GE267.out | refine zB ?_ GE278.out | refine zB ?_ GE318.out) | exact HB.out)) hb); clear HO_8; clear HO_260001; clear HO_260002; clear HO_268001; clear HO_268002; clear HO_279001; clear HO_279002; clear HO_319001; clear HO_319002; clear BK240; clear BK259; clear BK267; clear BK278; clear BK318; clear HB; have HO_8 := n0_; have HO_260001 := n1_; have HO_260002 := n2_; have HO_268001 := n3_; have HO_268002 := n4_; have HO_279001 := n5_; have HO_279002 := n6_; have HO_319001 := n7_; have HO_319002 := n8_; have BK240 := n9_; have BK259 := n10_; have BK267 := n11_; have BK278 := n12_; have BK318 := n13_; have HB := n14_; clear n0_ n1_ n2_ n3_ n4_ n5_ n6_ n7_ n8_ n9_ n10_ n11_ n12_ n13_ n14_; (try clear hb); (try clear hb2); (try clear hk); (try clear hi)) | ((with_reducible refine gate_callee (f := 41) rfl ?_); refine goesL_ (some 106) rfl rfl Try.func41 (by kernel_rfl) rfl #[.slice Ao116 t298.length co116, .int .i64 t321] rfl (by (try simp only [List.map_toArray, List.map_cons, List.map_nil]); first | done | rfl | (simp only [List.length_drop, List.length_take]; rfl)) ?_; (with_reducible refine (laws_heldIntS.calls kj109 _ _ t298 t321 t322 _ ?side1 ?side2 A163.out).mono ?_); (case side1 => repeat (first | exact (zJ HO_8.out).2.2 | (with_reducible refine zU ?_ _) | (with_reducible refine zV ?_ _) | (with_reducible refine zW ?_))); (case side2 => exact (zJ HO_8.out).2.1); rintro e w' ⟨rfl, ⟨nd, rfl⟩⟩; refine ⟨_, rfl, ?_⟩))
                                    go_ret
                                    exact ⟨by first | rfl | (simp [errW_none, errW_some] <;> rfl) | (simp [*, errW_none, errW_some] <;> rfl), by repeat (first | (with_reducible first | exact HB.out | apply zO | apply zA | apply zN | refine zB ?_ GE240.out | refine zB ?_ GE259.out | refine zB ?_ GE267.out | refine zB ?_ GE278.out | refine zB ?_ GE318.out) | exact HB.out)⟩
                                  · rw [if_neg c165] at H
                                    exact absurd H (by simp)
                      · rw [if_neg c107] at H
                        exact absurd H (by simp)
          · replace c65 := Bool.eq_false_iff.mpr c65
            subst c65
            have H1 : (none) = some r := by rw [if_neg (show ¬ (false = true) by decide)] at H; exact H
            clear H
            have H := H1
            clear H1
            exact absurd H (by simp)

end Go.Proofs.Ytpidphppldimkaa.PFnExactCollect
