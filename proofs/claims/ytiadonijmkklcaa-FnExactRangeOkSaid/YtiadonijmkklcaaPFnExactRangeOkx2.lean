/- The contracts of the functions that the law FnExactRangeOk reaches, each proved: what each computes. Written by programs and by hand. -/
import Derived.Test.YtiadonijmkklcaaPFnExactRangeOkx0
namespace Go.Proofs.Ytiadonijmkklcaa.PFnExactRangeOk
open Go.RowKit Go.Proofs.YtiadonijmkklcaaW.PrintWords Go.Proofs.YtiadonijmkklcaaW.PrintLast Go.Proofs.YtiadonijmkklcaaW.PrintMore
attribute [local go_sem] max2_int min2_int max_two min_two max_three min_three max_four min_four   -- for this text's walks alone
set_option linter.unusedVariables false
set_option linter.unusedSimpArgs false

/-! ### hand: IndexFunc: function 36 -/
/-- The first place from i on at which p holds; -1: none. -/
def impl_Value_36.idx (p : S44 → Bool) : List S44 → Int → Int
  | [], _ => -1
  | x :: r, i => if p x = true then i else impl_Value_36.idx p r (i + 1)
theorem impl_Value_36.idx_ge (p : S44 → Bool) : ∀ (l : List S44) (i : Int), 0 ≤ i → decide (0 ≤ impl_Value_36.idx p l i) = l.any p
  | [], i, _ => by rw [impl_Value_36.idx]; rfl
  | x :: r, i, h => by
    rw [impl_Value_36.idx, List.any_cons]
    by_cases c : p x = true
    · rw [if_pos c, c]; simp; exact h
    · rw [if_neg c, impl_Value_36.idx_ge p r (i + 1) (by omega)]
      simp [c]
set_option maxHeartbeats 8000000 in
set_option maxRecDepth 100000 in
theorem impl_Value_36.calls (p : S44 → Bool) (g : Nat) (lb : Array Value) (eg0 : Enters Try.prog g) (A0 : Option Addr) (c0 : Nat) (l0 : List S44) (w : World)
    (hr0 : Kd.C k44 w A0 l0.length l0) (hp : ∀ (W : World) (x : S44), Below w.heap.size w W → Calls Try.prog g (#[.agg #[.int .i64 x.f0, .int .i64 x.f1, .string x.f2]] ++ lb) W fun e w' => e = .returned (.bool (p x)) ∧ Below W.heap.size W w') :
    Calls Try.prog 36 #[.slice A0 l0.length c0, .func (.func g) #[] lb] w fun e w' => e = .returned (.int .i64 (impl_Value_36.idx p l0 0)) ∧ Below w.heap.size w w' := by
  have eg : ∀ args w, (callFunc g args).run Try.prog w = .ok (.enter g args) w := eg0
  clear eg0
  have HR0 := Aside0.mk hr0
  have HP := Aside0.mk hp
  have HM : l0.length ≤ 9223372036854775807 := Kd.C_max hr0
  clear hr0 hp
  generalize hr : impl_Value_36.idx p l0 0 = r
  go_enter Try.func36, Try.ntmps36
  go_wp2
  go_loopg [5, 8] l0.length (fun gg _ s8 wr => ∃ kk : Nat, kk ≤ l0.length ∧ l0.length - kk ≤ gg ∧ s8 = .int .i64 kk ∧ Aside0 (Below w.heap.size w wr) ∧ Aside0 (impl_Value_36.idx p (l0.drop kk) kk = r))
  case atStart => exact ⟨0, Nat.zero_le _, by omega, rfl, ⟨Below.refl _ w⟩, ⟨hr⟩⟩
  case round =>
    obtain ⟨kk, hkk, hg, rfl, BW, HI⟩ := hrel
    by_cases hlt : kk < l0.length
    · have hltz : (kk : Int) < (l0.length : Int) := by omega
      have hd := HI.out
      rw [List.drop_eq_getElem_cons hlt, impl_Value_36.idx] at hd
      obtain ⟨ad, rfl, hc0_, hc1_, hc2_⟩ := at_T44 (Kd.C_below HR0.out BW.out) (kk : Int) (by omega) hltz
      simp only [Int.toNat_natCast] at hc0_ hc1_ hc2_
      have hx : rd_T44 l0 (kk : Int) = l0[kk] := by simp [rd_T44, List.getD_eq_getElem?_getD, List.getElem?_eq_getElem hlt]
      generalize rd_T44 l0 (kk : Int) = y at *
      rw [← hx] at hd
      clear hx
      have hcall := HP.out wr y BW.out
      cases hq : p y with
      | true =>
        rw [hq] at hcall hd
        rw [if_pos rfl] at hd
        clear HI hr
        subst hd
        go_wp2_with (go_at_fn g; refine hcall.mono ?_; rintro e w' ⟨rfl, hb'⟩)
        go_ret
        exact ⟨rfl, below_step BW.out hb'⟩
      | false =>
        rw [hq] at hcall hd
        rw [if_neg (by simp)] at hd
        have HD := Aside0.mk hd
        clear hd hr HI
        go_wp2_with (go_at_fn g; refine hcall.mono ?_; rintro e w' ⟨rfl, hb'⟩)
        go_roundg (l0.length - (kk + 1))
        case measure => omega
        case rel => exact ⟨kk + 1, by omega, by omega, by go_num, ⟨below_step BW.out hb'⟩, ⟨by simpa using HD.out⟩⟩
    · have hltz : ¬ (kk : Int) < (l0.length : Int) := by omega
      have hd := HI.out
      rw [List.drop_eq_nil_of_le (by omega), impl_Value_36.idx] at hd
      clear HI hr
      subst hd
      go_wp2
      go_ret
      exact ⟨rfl, BW.out⟩
end Go.Proofs.Ytiadonijmkklcaa.PFnExactRangeOk
