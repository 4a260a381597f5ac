/- The plain laws of two words: a step of what is right is right (4), and each want is decided once. -/
import Derived.Test.YtmfiegjncfgohaaB34
namespace Go.Proofs.Ytmfiegjncfgohaa.Den
open Go.RowKit
set_option linter.unusedSimpArgs false
set_option linter.unusedVariables false
def sumW (f : Want → Nat) : List Want → Nat
  | [] => 0
  | x :: r => f x + sumW f r
theorem sumW_set (f : Want → Nat) : ∀ {l : List Want} {t : Nat} {x : Want} (y : Want), l[t]? = some x → sumW f (l.set t y) + f x = sumW f l + f y
  | [], t, x, y, h => by simp at h
  | z :: r, 0, x, y, h => by
    simp only [List.getElem?_cons_zero, Option.some.injEq] at h
    subst h
    simp only [List.set_cons_zero, sumW]
    omega
  | z :: r, t + 1, x, y, h => by
    have := sumW_set f y (show r[t]? = some x by simpa using h)
    simp only [List.set_cons_succ, sumW]
    omega
theorem sumW_le {f : Want → Nat} (hf : ∀ x, f x ≤ 1) : ∀ l : List Want, sumW f l ≤ l.length
  | [] => Nat.le_refl _
  | x :: r => by
    have := sumW_le hf r
    have := hf x
    simp only [sumW, List.length_cons]
    omega
def gotN (x : Want) : Nat := if x.got = 0 then 0 else 1
/-- What was decided for one, in turn. -/
def toldOf (t : Nat) (l : List Ev) : List Bool := (l.filter fun e => decide (e.who = (t : Int))).map (·.yes)
theorem toldOf_snoc (t : Nat) (l : List Ev) (e : Ev) : toldOf t (l ++ [e]) = toldOf t l ++ if e.who = (t : Int) then [e.yes] else [] := by
  unfold toldOf
  rw [List.filter_append, List.map_append]
  congr 1
  by_cases h : e.who = (t : Int) <;> simp [h]
/-- Each want is decided once: when it has got something. -/
structure CInv (b : Bo) : Prop where
  cnt : b.evs.length = sumW gotN b.wants
  each : ∀ (t : Nat) (x : Want), b.wants[t]? = some x → toldOf t b.evs = if x.got = 0 then [] else [decide (x.got = 2)]
theorem CInv.few {b : Bo} (h : CInv b) (ho : bothOk b = true) : b.evs.length ≤ 6 := by
  have := (headOk_iff.1 (bothOk_iff.1 ho).1).1
  have h2 := sumW_le (f := gotN) (fun x => by unfold gotN; split <;> decide) b.wants
  have := h.cnt
  omega
theorem CInv.put {b b' : Bo} (h : CInv b) {t : Nat} {x y : Want} (hx : b.wants[t]? = some x) (hw : b'.wants = b.wants.set t y) (he : b'.evs = b.evs) (hg : y.got = x.got) : CInv b' := by
  have htl := (List.getElem?_eq_some_iff.1 hx).1
  refine ⟨?_, fun k z hz => ?_⟩
  · have := sumW_set gotN y hx
    have h2 : gotN y = gotN x := by unfold gotN; rw [hg]
    have := h.cnt
    rw [hw, he]
    omega
  · rw [he]
    rw [hw, List.getElem?_set] at hz
    split at hz
    · rename_i q
      subst q
      obtain rfl := Option.some.inj hz
      rw [h.each t x hx, hg]
    · exact h.each k z hz
theorem CInv.add {b b' : Bo} (h : CInv b) {t : Nat} {x y : Want} {s : Int} (hx : b.wants[t]? = some x) (hw : b'.wants = b.wants.set t y) (he : b'.evs = b.evs ++ [⟨t, decide (y.got = 2), s⟩]) (h0 : x.got = 0) (h1 : y.got ≠ 0) : CInv b' := by
  have htl := (List.getElem?_eq_some_iff.1 hx).1
  refine ⟨?_, fun k z hz => ?_⟩
  · have := sumW_set gotN y hx
    have h2 : gotN y = 1 := by unfold gotN; rw [if_neg h1]
    have h3 : gotN x = 0 := by unfold gotN; rw [if_pos h0]
    have := h.cnt
    rw [hw, he, List.length_append]
    simp only [List.length_singleton]
    omega
  · rw [he, toldOf_snoc]
    rw [hw, List.getElem?_set] at hz
    split at hz
    · rename_i q
      subst q
      obtain rfl := Option.some.inj hz
      rw [h.each t x hx, if_pos h0, if_neg h1, if_pos rfl]
      rfl
    · rename_i q
      rw [h.each k z hz, if_neg (show ¬ (t : Int) = (k : Int) by omega), List.append_nil]
theorem CInv.take {b : Bo} (h : CInv b) (ho : bothOk b = true) {k : Nat} (saw : Int) (hk : k < b.wants.length) (hm : b.mark = (k : Int) + 1) : CInv (takeB b k saw) := by
  obtain ⟨z, hz⟩ : ∃ z, b.wants[k]? = some z := ⟨_, List.getElem?_eq_getElem hk⟩
  have hzd : b.wants.getD k default = z := by rw [List.getD_eq_getElem?_getD, hz]; rfl
  obtain ⟨hph, hold⟩ := mark_late ho hz hm
  have hzo := (bothOk_iff.1 ho).2.2.1 k z hz
  have hg0 := (hzo.mid hph).1 hm
  have e : takeB b k saw = { b with w := if saw = z.if_ then z.new else z.old, mark := 0, wants := b.wants.set k { z with got := if saw = z.if_ then 2 else 1 }, evs := b.evs ++ [⟨k, decide (saw = z.if_), saw⟩] } := by unfold takeB; rw [hzd]
  rw [e]
  refine h.add (t := k) (y := { z with got := if saw = z.if_ then 2 else 1 }) (s := saw) hz rfl ?_ hg0 ?_
  · show b.evs ++ _ = b.evs ++ _
    by_cases q : saw = z.if_ <;> simp [q]
  · show (if saw = z.if_ then (2 : Int) else 1) ≠ 0
    split <;> decide
theorem last_set {b : Bo} {t : Nat} {x : Want} (y : Want) (hx : b.wants[t]? = some x) (hy : y.old = x.old) (k : Nat) : ((b.wants.set t y).getD k default).old = (b.wants.getD k default).old := by
  rw [getD_set]
  split
  · rename_i q
    rw [q.1, List.getD_eq_getElem?_getD, hx, hy]
    rfl
  · rfl
theorem stepB_ok {b : Bo} (ho : bothOk b = true) (hc : CInv b) {t : Nat} (ht : t < b.wants.length) : bothOk (stepB b t) = true ∧ CInv (stepB b t) := by
  obtain ⟨x, hx⟩ : ∃ x, b.wants[t]? = some x := ⟨_, List.getElem?_eq_getElem ht⟩
  have hd : b.wants.getD t default = x := by rw [List.getD_eq_getElem?_getD, hx]; rfl
  obtain ⟨h1, h2, h3, h4, h5⟩ := bothOk_iff.1 ho
  have hh := headOk_iff.1 h1
  have hw := h3 t x hx
  have hfew := hc.few ho
  have hph := hw.phase
  have hwho := hw.who
  have hnw := hw.nowho
  have hmid := hw.mid
  have hrest := hw.rest
  have hl5 : ∀ (y : Want), y.old = x.old → b.mark = 0 ∨ ((b.wants.set t y).getD (b.mark - 1).toNat default).old = b.w := fun y hy => by
    rw [last_set y hx hy]; exact h5
  have hsame : ∀ y : Want, y.old = x.old → WOk b.mark b.sn.length b.wants.length t y → bothOk (putW b t y) = true := fun y hy hyo =>
    ok_put ho ht rfl hh.2.2.2.1 rfl rfl hh.2.2.1 (fun e he => .inl he) hh.2.2.2.2.2 hyo (fun k z _ _ h => h) (hl5 y hy)
  unfold stepB
  rw [hd]
  by_cases p0 : x.phase = 0
  · simp only [if_pos p0]
    refine ⟨hsame _ rfl ⟨hw.if_, hw.old, hw.new, hw.saw, by simp, hw.from_, hw.got, by simp only; omega, by simp only; omega, by simp, by simp, by simp only; omega⟩, hc.put hx rfl rfl rfl⟩
  by_cases p1 : x.phase = 1
  · have hr1 := hrest (by omega) (by omega)
    by_cases q0 : b.mark = 0
    · by_cases q1 : b.w = x.old
      · simp only [if_neg p0, if_pos p1, if_neg (not_not_intro q0), if_pos q1]
        refine ⟨ok_put ho (t := t) (y := { x with phase := 2, from_ := (b.sn.length : Int) - 1 }) ht rfl hh.2.2.2.1 rfl rfl hh.2.2.1 (fun e he => .inl he) (by show (0 : Int) ≤ (t : Int) + 1 ∧ (t : Int) + 1 ≤ _; omega) ?_ (fun k z hk hz h => h.mark0 hk (.inl q0) (.inr rfl)) (.inr ?_), hc.put hx rfl rfl rfl⟩
        · exact ⟨hw.if_, hw.old, hw.new, hw.saw, by simp, by simp only; omega, hw.got, by simp only; omega, by simp only; omega, fun _ => by show (t : Int) + 1 = (t : Int) + 1 ↔ x.got = 0; omega, by simp, by simp⟩
        · show ((b.wants.set t _).getD ((t : Int) + 1 - 1).toNat default).old = b.w
          rw [last_set { x with phase := 2, from_ := (b.sn.length : Int) - 1 } hx rfl, show ((t : Int) + 1 - 1).toNat = t by omega, hd, q1]
      · simp only [if_neg p0, if_pos p1, if_neg (not_not_intro q0), if_neg q1]
        refine ⟨ok_put ho (t := t) (y := { x with phase := 4, got := 1 }) ht rfl hh.2.2.2.1 rfl rfl (by show (b.evs ++ _).length ≤ 60; simp; omega) (fun e he => ?_) hh.2.2.2.2.2 ?_ (fun k z hk hz h => h) (hl5 _ rfl), hc.add (t := t) (s := 0) (y := { x with phase := 4, got := 1 }) hx rfl ?_ (by omega) (by simp)⟩
        · rcases List.mem_append.1 he with he | he
          · exact .inl he
          · rw [List.mem_singleton.1 he]
            exact .inr ⟨by show 0 ≤ (t : Int) ∧ (t : Int) ≤ _; omega, by simp⟩
        · exact ⟨hw.if_, hw.old, hw.new, hw.saw, by simp, hw.from_, by simp, by simp only; omega, by simp only; omega, by simp, fun _ => ⟨by simp, by show ¬ b.mark = _; omega⟩, by simp⟩
        · show b.evs ++ _ = b.evs ++ _
          simp
    · simp only [if_neg p0, if_pos p1, if_pos q0]
      refine ⟨hsame _ rfl ⟨hw.if_, hw.old, hw.new, hw.saw, by simp, hw.from_, hw.got, by simp only; omega, by simp, by simp, by simp, by simp only; omega⟩, hc.put hx rfl rfl rfl⟩
  by_cases p25 : x.phase = 2 ∨ x.phase = 5
  · simp only [if_neg p0, if_neg p1, if_pos p25]
    have hs : 0 ≤ b.sn.getD (b.sn.length - 1) 0 ∧ b.sn.getD (b.sn.length - 1) 0 ≤ 9 := by
      rw [List.getD_eq_getElem?_getD, List.getElem?_eq_getElem (by omega)]
      exact h2 _ (List.getElem_mem _)
    refine ⟨hsame _ rfl ⟨hw.if_, hw.old, hw.new, hs, by simp only; omega, hw.from_, hw.got, by simp only; omega, by simp only; omega, by simp only; omega, by simp only; omega, by simp only; omega⟩, hc.put hx rfl rfl rfl⟩
  have pt : ∀ {c : Bo} {p : Int}, bothOk c = true → CInv c → c.wants.length = b.wants.length → (∀ u, c.wants[t]? = some u → u.old = x.old ∧ WOk c.mark c.sn.length c.wants.length t { u with phase := p, who := 0, saw := 0 }) → bothOk (putW c t { c.wants.getD t default with phase := p, who := 0, saw := 0 }) = true ∧ CInv (putW c t { c.wants.getD t default with phase := p, who := 0, saw := 0 }) := fun {c p} hco hcc hl hp => by
    obtain ⟨u, hu⟩ : ∃ u, c.wants[t]? = some u := ⟨_, List.getElem?_eq_getElem (by omega)⟩
    have hud : c.wants.getD t default = u := by rw [List.getD_eq_getElem?_getD, hu]; rfl
    obtain ⟨_, hyo⟩ := hp u hu
    obtain ⟨h1, h2, h3, h4, h5⟩ := bothOk_iff.1 hco
    have hh := headOk_iff.1 h1
    rw [hud]
    refine ⟨ok_put hco (by omega) rfl hh.2.2.2.1 rfl rfl hh.2.2.1 (fun e he => .inl he) hh.2.2.2.2.2 hyo (fun k z _ _ h => h) ?_, hcc.put hu rfl rfl rfl⟩
    show c.mark = 0 ∨ ((c.wants.set t _).getD (c.mark - 1).toNat default).old = c.w
    rw [last_set { u with phase := p, who := 0, saw := 0 } hu rfl]
    exact h5
  have tk : ∀ {k : Nat}, b.mark = (k : Int) + 1 → k < b.wants.length → bothOk (takeB b k x.saw) = true ∧ CInv (takeB b k x.saw) := fun hm hk =>
    ⟨takeB_ok ho hk hm hw.saw (by omega), hc.take ho x.saw hk hm⟩
  by_cases p3 : x.phase = 3
  · simp only [if_neg p0, if_neg p1, if_neg p25, if_pos p3]
    split
    · rename_i hm
      obtain ⟨k1, k2⟩ := tk hm ht
      refine pt k1 k2 (takeB_wl ..) fun u hu => ?_
      have hu2 := (bothOk_iff.1 k1).2.2.1 t u hu
      have e : u = { x with got := if x.saw = x.if_ then 2 else 1 } := by
        unfold takeB at hu
        rw [hd] at hu
        simp only [List.getElem?_set_self ht, Option.some.injEq] at hu
        exact hu.symm
      have hg : 0 < u.got := by
        rw [e]
        show 0 < (if x.saw = x.if_ then (2 : Int) else 1)
        split <;> decide
      have hm0 : (takeB b t x.saw).mark = 0 := rfl
      rw [hm0]
      exact ⟨by rw [e], hu2.if_, hu2.old, hu2.new, by simp, by simp, hu2.from_, hu2.got, by simp, by simp, by simp, fun _ => ⟨hg, by omega⟩, by simp⟩
    · rename_i hm
      refine pt ho hc rfl fun u hu => ?_
      rw [hx] at hu
      obtain rfl := Option.some.inj hu
      have := hw.got
      exact ⟨rfl, hw.if_, hw.old, hw.new, by simp, by simp, hw.from_, hw.got, by simp, by simp, by simp, fun _ => ⟨by simp only; omega, hm⟩, by simp⟩
  by_cases p6 : x.phase = 6
  · simp only [if_neg p0, if_neg p1, if_neg p25, if_neg p3, if_pos p6]
    have hr := hrest (by omega) (by omega)
    split
    · rename_i hm
      have hw1 := hwho.1 (by omega)
      obtain ⟨k1, k2⟩ := tk (k := (x.who - 1).toNat) (by omega) (by omega)
      refine pt k1 k2 (takeB_wl ..) fun u hu => ?_
      have hne : (x.who - 1).toNat ≠ t := fun e => by omega
      have e : u = x := by
        unfold takeB at hu
        simp only [List.getElem?_set_ne hne, hx, Option.some.injEq] at hu
        exact hu.symm
      subst e
      have hu2 := (bothOk_iff.1 k1).2.2.1 t u hu
      have hm0 : (takeB b (u.who - 1).toNat u.saw).mark = 0 := rfl
      rw [hm0]
      exact ⟨rfl, hu2.if_, hu2.old, hu2.new, by simp, by simp, hu2.from_, hu2.got, by simp, by simp, by simp, by simp, fun _ _ => ⟨hr.1, by omega⟩⟩
    · rename_i hm
      refine pt ho hc rfl fun u hu => ?_
      rw [hx] at hu
      obtain rfl := Option.some.inj hu
      exact ⟨rfl, hw.if_, hw.old, hw.new, by simp, by simp, hw.from_, hw.got, by simp, by simp, by simp, by simp, fun _ _ => hr⟩
  · simp only [if_neg p0, if_neg p1, if_neg p25, if_neg p3, if_neg p6]
    exact ⟨ho, hc⟩
end Go.Proofs.Ytmfiegjncfgohaa.Den
