/- Lemmas for the law FnEachStep, part 3. No condition. -/
import Derived.Test.YtoeieoapnhhaeaaGreatProg
import Derived.Test.YtoeieoapnhhaeaaGreatS2
namespace Go.Proofs.YtoeieoapnhhaeaaGreat.Den
set_option linter.unusedSimpArgs false
set_option linter.unusedVariables false
def RowsQ (a b c d s : Int) : Prop :=
  (0 ≤ a ∧ a ≤ 6) ∧ (0 ≤ b ∧ b ≤ 6) ∧ (0 ≤ c ∧ c ≤ 6) ∧ (0 ≤ d ∧ d ≤ 6) ∧ (a ≠ 0 → b ≠ a ∧ c ≠ a ∧ d ≠ a) ∧ (b ≠ 0 → c ≠ b ∧ d ≠ b) ∧ (c ≠ 0 → d ≠ c) ∧ 0 ≤ s ∧ s ≤ 5
theorem rows_form {r : MRw} : rowsOk r = true ↔ ∃ a b c d, r.held = [a, b, c, d] ∧ RowsQ a b c d r.state := by
  constructor
  · intro h
    obtain ⟨l, s⟩ := r
    simp only [rowsOk, Bool.and_eq_true, decide_eq_true_eq] at h
    obtain ⟨⟨h1, h2⟩, h3⟩ := h
    match l, h2 with
    | [a, b, c, d], _ =>
      refine ⟨a, b, c, d, rfl, ?_⟩
      simp [heldOk, valOk, isIn] at h1 h3
      unfold RowsQ
      simp only
      omega
  · rintro ⟨a, b, c, d, h, hq⟩
    obtain ⟨l, s⟩ := r
    simp only at h hq
    subst h
    unfold RowsQ at hq
    simp [rowsOk, heldOk, valOk, isIn]
    omega
theorem key_form (a b c d s u : Int) : keyOf ⟨[a, b, c, d], s⟩ u = if a = u then 0 else if b = u then 1 else if c = u then 2 else if d = u then 3 else -1 := by
  simp [keyOf, idxL]
theorem held_form (a b c d s : Int) {k : Int} (h : 0 ≤ k ∧ k < 4) : heldAt ⟨[a, b, c, d], s⟩ k = if k = 0 then a else if k = 1 then b else if k = 2 then c else d := by
  have : k = 0 ∨ k = 1 ∨ k = 2 ∨ k = 3 := by omega
  rcases this with h | h | h | h <;> subst h <;> simp [heldAt]
theorem set_form (a b c d v : Int) {k : Int} (h : 0 ≤ k ∧ k < 4) : ([a, b, c, d]).set k.toNat v =
    [if k = 0 then v else a, if k = 1 then v else b, if k = 2 then v else c, if k = 3 then v else d] := by
  have : k = 0 ∨ k = 1 ∨ k = 2 ∨ k = 3 := by omega
  rcases this with h | h | h | h <;> subst h <;> simp
def oneIf (v c : Int) : Int := if (1 ≤ v ∧ v ≤ 6) ∧ v % 3 = c then 1 else 0
theorem one_form (v c : Int) : (if valOk v && decide (classOf v = c) then (1:Int) else 0) = oneIf v c := by
  simp only [oneIf, classOf, valOk, isIn]
  by_cases h : 1 ≤ v ∧ v ≤ 6 <;> simp [h]
theorem many_form (a b c d s u : Int) : howMany ⟨[a, b, c, d], s⟩ u = oneIf a u + (oneIf b u + (oneIf c u + oneIf d u)) := by
  simp only [howMany, manyL, one_form, Int.add_zero]
theorem one_bd (v c : Int) : 0 ≤ oneIf v c ∧ oneIf v c ≤ 1 := by
  unfold oneIf; split <;> omega
theorem key_bd {r : MRw} (h : rowsOk r = true) (u : Int) : -1 ≤ keyOf r u ∧ keyOf r u < 4 := by
  obtain ⟨a, b, c, d, h1, h2⟩ := rows_form.1 h
  obtain ⟨l, s⟩ := r
  simp only at h1; subst h1
  rw [key_form]
  repeat' split
  all_goals omega
theorem held_bd {r : MRw} (h : rowsOk r = true) {k : Int} (hk : 0 ≤ k ∧ k < 4) : 0 ≤ heldAt r k ∧ heldAt r k ≤ 6 := by
  obtain ⟨a, b, c, d, h1, h2⟩ := rows_form.1 h
  obtain ⟨l, s⟩ := r
  simp only at h1; subst h1
  rw [held_form _ _ _ _ _ hk]
  unfold RowsQ at h2
  repeat' split
  all_goals omega
theorem state_bd {r : MRw} (h : rowsOk r = true) : 0 ≤ r.state ∧ r.state ≤ 5 := by
  obtain ⟨a, b, c, d, h1, h2⟩ := rows_form.1 h
  unfold RowsQ at h2
  omega
theorem key_held {r : MRw} (h : rowsOk r = true) {k : Int} (hk : 0 ≤ k ∧ k < 4) (h0 : heldAt r k ≠ 0) : keyOf r (heldAt r k) = k := by
  obtain ⟨a, b, c, d, h1, h2⟩ := rows_form.1 h
  obtain ⟨l, s⟩ := r
  simp only at h1; subst h1
  have : k = 0 ∨ k = 1 ∨ k = 2 ∨ k = 3 := by omega
  unfold RowsQ at h2
  rw [held_form _ _ _ _ _ hk] at h0 ⊢
  rw [key_form]
  rcases this with h | h | h | h <;> subst h <;> simp at h0 ⊢ <;> grind
theorem rows_set {r : MRw} (h : rowsOk r = true) {k v : Int} (hk : 0 ≤ k ∧ k < 4) (hv : 0 ≤ v ∧ v ≤ 6) (hn : v = 0 ∨ keyOf r v < 0 ∨ keyOf r v = k) :
    rowsOk { r with held := r.held.set k.toNat v } = true := by
  obtain ⟨a, b, c, d, h1, h2⟩ := rows_form.1 h
  obtain ⟨l, s⟩ := r
  simp only at h1; subst h1
  refine rows_form.2 ?_
  simp only
  rw [set_form _ _ _ _ _ hk]
  refine ⟨_, _, _, _, rfl, ?_⟩
  rw [key_form] at hn
  have : k = 0 ∨ k = 1 ∨ k = 2 ∨ k = 3 := by omega
  unfold RowsQ at h2 ⊢
  rcases this with h | h | h | h <;> subst h <;> simp at hn ⊢ <;> grind
theorem held_set {r : MRw} (h : rowsOk r = true) {k v : Int} (hk : 0 ≤ k ∧ k < 4) {p : Int} (hp : 0 ≤ p ∧ p < 4) :
    heldAt { r with held := r.held.set k.toNat v } p = if p = k then v else heldAt r p := by
  obtain ⟨a, b, c, d, h1, h2⟩ := rows_form.1 h
  obtain ⟨l, s⟩ := r
  simp only at h1; subst h1
  simp only
  rw [set_form _ _ _ _ _ hk, held_form _ _ _ _ _ hp, held_form _ _ _ _ _ hp]
  grind
theorem key_set {r : MRw} (h : rowsOk r = true) {k v : Int} (hk : 0 ≤ k ∧ k < 4) (hv : 0 ≤ v ∧ v ≤ 6) (hn : v = 0 ∨ keyOf r v < 0) {u : Int} (hu : 1 ≤ u) :
    keyOf { r with held := r.held.set k.toNat v } u = if u = v then k else if u = heldAt r k then -1 else keyOf r u := by
  obtain ⟨a, b, c, d, h1, h2⟩ := rows_form.1 h
  obtain ⟨l, s⟩ := r
  simp only at h1; subst h1
  simp only
  rw [key_form] at hn
  rw [set_form _ _ _ _ _ hk, held_form _ _ _ _ _ hk, key_form, key_form]
  unfold RowsQ at h2
  have : k = 0 ∨ k = 1 ∨ k = 2 ∨ k = 3 := by omega
  rcases this with h | h | h | h <;> subst h <;> simp at hn ⊢ <;> grind
theorem many_set {r : MRw} (h : rowsOk r = true) {k v : Int} (hk : 0 ≤ k ∧ k < 4) (u : Int) :
    howMany { r with held := r.held.set k.toNat v } u = howMany r u + oneIf v u - oneIf (heldAt r k) u := by
  obtain ⟨a, b, c, d, h1, h2⟩ := rows_form.1 h
  obtain ⟨l, s⟩ := r
  simp only at h1; subst h1
  simp only
  rw [set_form _ _ _ _ _ hk, held_form _ _ _ _ _ hk, many_form, many_form]
  have : k = 0 ∨ k = 1 ∨ k = 2 ∨ k = 3 := by omega
  rcases this with h | h | h | h <;> subst h <;> simp <;> omega
theorem many_pos {r : MRw} (h : rowsOk r = true) {k : Int} (hk : 0 ≤ k ∧ k < 4) (u : Int) : 0 ≤ howMany r u - oneIf (heldAt r k) u := by
  obtain ⟨a, b, c, d, h1, h2⟩ := rows_form.1 h
  obtain ⟨l, s⟩ := r
  simp only at h1; subst h1
  rw [held_form _ _ _ _ _ hk, many_form]
  have ha := one_bd a u
  have hb := one_bd b u
  have hc := one_bd c u
  have hd := one_bd d u
  have : k = 0 ∨ k = 1 ∨ k = 2 ∨ k = 3 := by omega
  rcases this with h | h | h | h <;> subst h <;> simp <;> omega
end Go.Proofs.YtoeieoapnhhaeaaGreat.Den
namespace Go.Proofs.YtoeieoapnhhaeaaGreat.Den
set_option linter.unusedSimpArgs false
set_option linter.unusedVariables false
section
variable {α : Type} [Inhabited α] (lt : α → α → Bool)
theorem posJ_le (x : α) (L : List α) : ∀ j, posJ lt x L j ≤ j
  | 0 => Nat.le_refl _
  | j + 1 => by
    unfold posJ
    split
    · exact Nat.le_succ_of_le (posJ_le x L j)
    · exact Nat.le_refl _
theorem insP_len (x : α) (L : List α) : (insP lt x L).length = L.length + 1 := by
  have := posJ_le lt x L L.length
  simp [insP]
  omega
theorem sortTo_len (xs : List α) : ∀ i, (sortTo lt xs i).length = i
  | 0 => rfl
  | i + 1 => by unfold sortTo; rw [insP_len, sortTo_len xs i]
theorem insP_mem {x y : α} {L : List α} : y ∈ insP lt x L ↔ y = x ∨ y ∈ L := by
  unfold insP
  have : L = L.take (posJ lt x L L.length) ++ L.drop (posJ lt x L L.length) := (List.take_append_drop _ _).symm
  constructor
  · intro h
    rcases List.mem_append.1 h with h | h
    · exact .inr (List.mem_of_mem_take h)
    · rcases List.mem_cons.1 h with h | h
      · exact .inl h
      · exact .inr (List.mem_of_mem_drop h)
  · intro h
    rcases h with h | h
    · simp [h]
    · rw [this] at h
      rcases List.mem_append.1 h with h | h
      · exact List.mem_append_left _ h
      · exact List.mem_append_right _ (List.mem_cons_of_mem _ h)
theorem sortTo_mem {xs : List α} : ∀ {i : Nat} {y : α}, i ≤ xs.length → (y ∈ sortTo lt xs i ↔ y ∈ xs.take i)
  | 0, y, _ => by simp [sortTo]
  | i + 1, y, hi => by
    unfold sortTo
    rw [insP_mem, sortTo_mem (by omega), List.take_succ_eq_append_getElem (by omega), getElem!_pos xs i (by omega)]
    simp only [List.mem_append, List.mem_singleton]
    exact Or.comm
end
theorem mem_sortE {x : MEn} {l : List MEn} : x ∈ sortE l ↔ x ∈ l := by
  unfold sortE; rw [sortTo_mem ltE (Nat.le_refl _)]; simp
theorem mem_sortI {x : Int} {l : List Int} : x ∈ sortI l ↔ x ∈ l := by
  unfold sortI; rw [sortTo_mem ltI (Nat.le_refl _)]; simp
def newOf (old to more : Int) : Int := if more = 1 then old + 1 else if more = -1 then (if 0 < old - 1 then old - 1 else 0) else to
theorem mem_putE {got : List MPr} {p to more : Int} {e : MEn} : e ∈ putE got p to more ↔ 0 ≤ p ∧ ∃ old, readP got p = some old ∧ e = ⟨p, old, newOf old to more⟩ := by
  unfold putE newOf
  by_cases hp : p < 0
  · simp [hp]; omega
  · rw [if_neg hp]
    cases h : readP got p with
    | none => simp
    | some old => simp; omega
theorem tree_miss {o : MOp} {got : List MPr} : (askedA o got).miss = ((treeOf o).run got []).2 ∧ (askedA o got).places = ((treeOf o).run got []).1 := by
  have := asked_tree o got
  rw [← this]
  simp
def MTr.allP (got : List MPr) (P : Int → Prop) : MTr → Prop
  | .done => True
  | .ask p k => (0 ≤ p → P p) ∧ (k (readN got p)).allP got P
theorem allP_ite {got : List MPr} {P : Int → Prop} {b : Prop} [Decidable b] {x y : MTr} (hx : b → x.allP got P) (hy : ¬ b → y.allP got P) : (iteT b x y).allP got P := by
  unfold iteT; split
  · exact hx ‹_›
  · exact hy ‹_›
theorem run_in {got : List MPr} {P : Int → Prop} {t : MTr} : ∀ {ps : List Int} {q : Int}, t.allP got P → q ∈ (t.run got ps).1 → q ∈ ps ∨ P q := by
  induction t with
  | done => intro ps q _ h; exact Or.inl h
  | ask p k ih =>
    intro ps q ha h
    simp only [MTr.run] at h
    by_cases hc : p < 0 ∨ readP got p = none
    · rw [if_pos hc] at h
      exact Or.inl h
    · rw [if_neg hc] at h
      rcases ih _ ha.2 h with h | h
      · rcases List.mem_append.1 h with h | h
        · exact Or.inl h
        · simp only [List.mem_singleton] at h
          subst h
          exact Or.inr (ha.1 (by omega))
      · exact Or.inr h
def SevenP (o : MOp) (got : List MPr) (q : Int) : Prop :=
  q = rowAt o.k ∨ q = 13 ∨ q = ownerAt (readN got (rowAt o.k)) ∨ q = viaAt (readN got (rowAt o.k)) ∨ q = ownerAt o.v ∨ q = viaAt o.v ∨
            (classOf (readN got (rowAt o.k)) ≠ classOf o.v ∧ (q = countAt (classOf (readN got (rowAt o.k))) ∨ q = countAt (classOf o.v)))
theorem seven {o : MOp} {got : List MPr} (ho : opOk o = true) (hk : o.kind = 1 ∨ o.kind = 2 ∨ o.kind = 3) : (treeOf o).allP got (SevenP o got) := by
  unfold opOk at ho
  rcases hk with hk | hk | hk
  · have hv : valOk o.v = true := by simp [hk] at ho; exact ho.2
    have hc : classOf 0 ≠ classOf o.v := by
      simp only [classOf, hv, if_true]
      simp [valOk, isIn] at hv ⊢
      omega
    simp only [treeOf, hk, if_true, MTr.allP, treeWay, treeVs]
    refine ⟨fun _ => by simp [SevenP], allP_ite (fun _ => trivial) fun h1 => ⟨fun _ => by simp [SevenP], allP_ite (fun _ => trivial) fun h2 => ⟨fun _ => ?_, fun _ => by simp [SevenP], allP_ite (fun _ => trivial) fun h3 => ⟨fun _ => by simp [SevenP], trivial⟩⟩⟩⟩
    have h1 : readN got (rowAt o.k) = 0 := by simpa using h1
    simp [SevenP, h1, hc]
  · have hv : valOk o.v = true := by simp [hk] at ho; exact ho.2
    simp only [treeOf, hk, if_true, MTr.allP, treeWay, treeVs, show ¬ ((2:Int) = 1) by decide, if_false]
    refine ⟨fun _ => by simp [SevenP], allP_ite (fun _ => trivial) fun h1 => ⟨fun _ => by simp [SevenP], allP_ite (fun _ => trivial) fun h2 => ⟨fun _ => by simp [SevenP], allP_ite (fun _ => ?_) fun h4 => ⟨fun _ => by simp [SevenP, h4], fun _ => by simp [SevenP, h4], ?_⟩⟩⟩⟩
    · exact ⟨fun _ => by simp [SevenP], allP_ite (fun _ => trivial) fun h3 => ⟨fun _ => by simp [SevenP], fun _ => by simp [SevenP], trivial⟩⟩
    · exact ⟨fun _ => by simp [SevenP], allP_ite (fun _ => trivial) fun h3 => ⟨fun _ => by simp [SevenP], fun _ => by simp [SevenP], trivial⟩⟩
  · have hv : o.v = 0 := by simp [hk] at ho; exact ho.2
    have hc : classOf o.v = -1 := by rw [hv]; simp [classOf, valOk, isIn]
    simp only [treeOf, hk, if_true, MTr.allP, treeWay, treeVs, show ¬ ((3:Int) = 1) by decide, show ¬ ((3:Int) = 2) by decide, if_false]
    refine ⟨fun _ => by simp [SevenP], allP_ite (fun _ => trivial) fun h1 => ⟨fun _ => by simp [SevenP], fun h2 => ?_, fun _ => by simp [SevenP], allP_ite (fun _ => trivial) fun h3 => ⟨fun _ => by simp [SevenP], trivial⟩⟩⟩
    have : classOf (readN got (rowAt o.k)) ≠ classOf o.v := by
      rw [hc]; intro e; rw [e] at h2; simp [countAt, classOk, isIn] at h2
    simp [SevenP, this]
theorem plan_covers {o : MOp} {got : List MPr} {res : MRs} {list : List MEn} (ho : opOk o = true) (hr : RunP o got) (hp : planOf o got = some ⟨false, res, list⟩) :
    (∀ x ∈ got, ∃ e ∈ list, e.pos = x.pos ∧ e.old = x.n) ∧ (∀ e ∈ list, readP got e.pos = some e.old ∧ e.pos ∈ (askedA o got).places) := by
  have hpl := hr.places
  have htm := tree_miss (o := o) (got := got)
  unfold planOf at hp
  rw [if_pos ho] at hp
  simp only at hp
  by_cases hm : 0 ≤ (askedA o got).miss
  · rw [if_pos hm] at hp; exact absurd hp (by simp)
  rw [if_neg hm] at hp
  cases ha : atOnce o got with
  | some s => rw [ha] at hp; simp at hp
  | none =>
    rw [ha] at hp
    simp only at hp
    by_cases hk : o.kind = 1 ∨ o.kind = 2 ∨ o.kind = 3
    · rw [if_pos hk] at hp
      have h9 : o.kind ≠ 9 := by omega
      simp only [Option.some.injEq, MPl.mk.injEq, true_and, h9, if_false] at hp
      obtain ⟨h1, h2⟩ := hp
      refine ⟨?_, ?_⟩
      · intro x hx
        have hq := hpl.1 x hx
        have hrd := hpl.2 x hx
        have h0 : 0 ≤ x.pos := by
          have := run_places got (treeOf o) [] x.pos hq
          simp at this; exact this.1
        rw [← h2]
        simp only [changesE, mem_sortE, putsE, List.mem_append]
        have key : ∀ {to more : Int}, ⟨x.pos, x.n, newOf x.n to more⟩ ∈ putE got x.pos to more := fun {to more} => mem_putE.2 ⟨h0, _, hrd, rfl⟩
        have hcases : SevenP o got x.pos := by
          rcases run_in (seven ho hk) hq with h | h
          · exact absurd h (by simp)
          · exact h
        rcases hcases with h | h | h | h | h | h | ⟨hc, h | h⟩
        · exact ⟨⟨x.pos, x.n, newOf x.n o.v 0⟩, by rw [← h]; simp only [key, true_or, or_true], rfl, rfl⟩
        · exact ⟨⟨x.pos, x.n, newOf x.n (readN got 13) 0⟩, by rw [← h]; simp only [key, true_or, or_true], rfl, rfl⟩
        · exact ⟨⟨x.pos, x.n, newOf x.n 0 0⟩, by rw [← h]; simp only [key, true_or, or_true], rfl, rfl⟩
        · exact ⟨⟨x.pos, x.n, newOf x.n 0 0⟩, by rw [← h]; simp only [key, true_or, or_true], rfl, rfl⟩
        · exact ⟨⟨x.pos, x.n, newOf x.n (o.k + 1) 0⟩, by rw [← h]; simp only [key, true_or, or_true], rfl, rfl⟩
        · exact ⟨⟨x.pos, x.n, newOf x.n (o.k + 1) 0⟩, by rw [← h]; simp only [key, true_or, or_true], rfl, rfl⟩
        · exact ⟨⟨x.pos, x.n, newOf x.n 0 (-1)⟩, by rw [if_neg hc, ← h]; simp only [List.mem_append, key, true_or, or_true], rfl, rfl⟩
        · exact ⟨⟨x.pos, x.n, newOf x.n 0 1⟩, by rw [if_neg hc, ← h]; simp only [List.mem_append, key, true_or, or_true], rfl, rfl⟩
      · intro e he
        rw [← h2] at he
        have : ∃ p to more, e ∈ putE got p to more := by
          simp only [changesE, mem_sortE, putsE, List.mem_append] at he
          rcases he with ((((((he | he) | he) | he) | he) | he) | he)
          · exact ⟨_, _, _, he⟩
          · exact ⟨_, _, _, he⟩
          · exact ⟨_, _, _, he⟩
          · exact ⟨_, _, _, he⟩
          · exact ⟨_, _, _, he⟩
          · exact ⟨_, _, _, he⟩
          · split at he
            · simp at he
            · rcases List.mem_append.1 he with he | he
              · exact ⟨_, _, _, he⟩
              · exact ⟨_, _, _, he⟩
        obtain ⟨p, to, more, he⟩ := this
        obtain ⟨_, old, ho, rfl⟩ := mem_putE.1 he
        exact ⟨ho, by rw [htm.2]; exact hpl.1 _ (readP_mem ho)⟩
    · rw [if_neg hk] at hp
      simp only [Option.some.injEq, MPl.mk.injEq, true_and] at hp
      obtain ⟨_, h2⟩ := hp
      refine ⟨?_, ?_⟩
      · intro x hx
        have hq := hpl.1 x hx
        have hrd := hpl.2 x hx
        rw [← htm.2] at hq
        refine ⟨_, by rw [← h2]; exact List.mem_map.2 ⟨x.pos, mem_sortI.2 hq, rfl⟩, rfl, ?_⟩
        simp [readN, hrd]
      · intro e he
        rw [← h2] at he
        obtain ⟨p, hp, rfl⟩ := List.mem_map.1 he
        have hp := mem_sortI.1 hp
        refine ⟨?_, hp⟩
        rw [htm.2] at hp
        have := run_places got (treeOf o) [] p hp
        simp only [List.not_mem_nil, false_or] at this
        obtain ⟨n, hn⟩ := Option.ne_none_iff_exists'.1 this.2
        simp [readN, hn]
end Go.Proofs.YtoeieoapnhhaeaaGreat.Den
namespace Go.Proofs.YtoeieoapnhhaeaaGreat.Den
set_option linter.unusedSimpArgs false
set_option linter.unusedVariables false
theorem readN_snoc (got : List MPr) (x : MPr) (q : Int) : readN (got ++ [x]) q = if x.pos = q then x.n else readN got q := by
  simp only [readN, readP_snoc]
  split <;> rfl
theorem run_cases {got : List MPr} {p : Int} {k : Int → MTr} {ps : List Int} {m : Int} (hm : ((MTr.ask p k).run got ps).2 = m) (h0 : 0 ≤ m) :
    (readP got p = none ∧ m = p ∧ (MTr.ask p k).run got ps = (ps, p)) ∨ (readP got p ≠ none ∧ m ≠ p ∧ ((k (readN got p)).run got (ps ++ [p])).2 = m) := by
  have hmi := run_miss got (.ask p k) ps (by rw [hm]; exact h0)
  rw [hm] at hmi
  simp only [MTr.run] at hm ⊢
  by_cases hc : readP got p = none
  · simp only [hc, or_true, if_true] at hm ⊢
    exact Or.inl ⟨trivial, hm.symm, trivial⟩
  · by_cases hp : p < 0
    · simp only [hp, true_or, if_true] at hm
      omega
    · simp only [hp, hc, or_false, if_false] at hm
      refine Or.inr ⟨hc, ?_, hm⟩
      intro e; rw [e] at hmi; exact hc hmi
theorem run_ite {got : List MPr} {b : Prop} [Decidable b] {y : MTr} {ps : List Int} {m : Int} (hm : ((iteT b .done y).run got ps).2 = m) (h0 : 0 ≤ m) :
    ¬ b ∧ (y.run got ps).2 = m := by
  unfold iteT at hm
  by_cases hb : b
  · simp [hb, MTr.run] at hm; omega
  · simp only [hb, if_false] at hm
    exact ⟨hb, hm⟩
theorem got_nil {o : MOp} {got : List MPr} (hr : RunP o got) {p : Int} {k : Int → MTr} (ht : treeOf o = .ask p k) (hn : (MTr.ask p k).run got [] = ([], p)) : got = [] := by
  have := hr.places.1
  rw [ht, hn] at this
  cases got with
  | nil => rfl
  | cons x r => exact absurd (this x (by simp)) (by simp)
theorem wd_row (r : MRw) {p : Int} (h : p < 4) : wd r p = heldAt r p := by simp [wd, h]
theorem wd_owner (r : MRw) {v : Int} (h : 1 ≤ v ∧ v ≤ 6) : wd r (3 + v) = keyOf r v + 1 := by
  have h1 : ¬ (3 + v < 4) := by omega
  have h2 : 3 + v < 10 := by omega
  have h3 : 3 + v - 3 = v := by omega
  simp [wd, h1, h2, h3]
theorem wd_count (r : MRw) {c : Int} (h : 0 ≤ c ∧ c ≤ 2) : wd r (10 + c) = howMany r c := by
  have h1 : ¬ (10 + c < 4) := by omega
  have h2 : ¬ (10 + c < 10) := by omega
  have h3 : 10 + c < 13 := by omega
  have h4 : 10 + c - 10 = c := by omega
  simp [wd, h1, h2, h3, h4]
theorem wd_state (r : MRw) : wd r 13 = r.state := by simp [wd]
theorem wd_via (r : MRw) {v : Int} (h : 1 ≤ v ∧ v ≤ 6) : wd r (13 + v) = if 0 ≤ keyOf r v ∧ keyOf r v < r.state - 1 then keyOf r v + 1 else 0 := by
  have h1 : ¬ (13 + v < 4) := by omega
  have h2 : ¬ (13 + v < 10) := by omega
  have h3 : ¬ (13 + v < 13) := by omega
  have h4 : ¬ (13 + v = 13) := by omega
  have h5 : 13 + v - 13 = v := by omega
  simp [wd, h1, h2, h3, h4, h5]
theorem op_k {o : MOp} (ho : opOk o = true) (hk : o.kind = 1 ∨ o.kind = 2 ∨ o.kind = 3 ∨ o.kind = 4) : 0 ≤ o.k ∧ o.k ≤ 3 := by
  unfold opOk at ho
  rcases hk with h | h | h | h <;> simp [h, keyOk, isIn] at ho <;> omega
theorem op_v {o : MOp} (ho : opOk o = true) (hk : o.kind = 1 ∨ o.kind = 2 ∨ o.kind = 5 ∨ o.kind = 10) : 1 ≤ o.v ∧ o.v ≤ 6 := by
  unfold opOk at ho
  rcases hk with h | h | h | h <;> simp [h, valOk, isIn] at ho <;> omega
theorem op_c {o : MOp} (ho : opOk o = true) (hk : o.kind = 6) : 0 ≤ o.k ∧ o.k ≤ 2 := by
  unfold opOk at ho
  simp [hk, classOk, isIn] at ho
  omega
theorem op_kind {o : MOp} (ho : opOk o = true) : 1 ≤ o.kind ∧ o.kind ≤ 10 := by
  unfold opOk at ho
  repeat' split at ho
  all_goals first | omega | simp at ho
theorem rowAt_eq {k : Int} (h : 0 ≤ k ∧ k ≤ 3) : rowAt k = k := by simp [rowAt, keyOk, isIn, h]
theorem ownerAt_eq {v : Int} (h : 1 ≤ v ∧ v ≤ 6) : ownerAt v = 3 + v := by simp [ownerAt, valOk, isIn, h]
theorem viaAt_eq {v : Int} (h : 1 ≤ v ∧ v ≤ 6) : viaAt v = 13 + v := by simp [viaAt, valOk, isIn, h]
theorem countAt_eq {c : Int} (h : 0 ≤ c ∧ c ≤ 2) : countAt c = 10 + c := by simp [countAt, classOk, isIn, h]
theorem classOf_eq {v : Int} (h : 1 ≤ v ∧ v ≤ 6) : classOf v = v % 3 := by simp [classOf, valOk, isIn, h]
theorem after_no {r : MRw} {o : MOp} {s : MRs} (h : s.code ≠ 0 ∨ o.kind = 4 ∨ o.kind = 5 ∨ o.kind = 6 ∨ o.kind = 7 ∨ o.kind = 10) : afterR r o s = r := by
  unfold afterR
  rcases h with h | h | h | h | h | h <;> simp [h]
theorem set_self {r : MRw} (h : rowsOk r = true) {k : Int} (hk : 0 ≤ k ∧ k ≤ 3) : { r with held := r.held.set k.toNat (heldAt r k) } = r := by
  obtain ⟨a, b, c, d, h1, h2⟩ := rows_form.1 h
  obtain ⟨l, s⟩ := r
  simp only at h1; subst h1
  have : k = 0 ∨ k = 1 ∨ k = 2 ∨ k = 3 := by omega
  rcases this with h | h | h | h <;> subst h <;> simp [heldAt]
theorem once_ok {r : MRw} {o : MOp} {got : List MPr} {res : MRs} {m : Int} (hr : rowsOk r = true) (ho : opOk o = true) (hrun : RunP o got) (hm : ((treeOf o).run got []).2 = m) (h0 : 0 ≤ m)
    (hs : atOnce o (got ++ [⟨m, wd r m⟩]) = some res) : allowed r o res = true ∧ afterR r o res = r := by
  have hkind := op_kind ho
  have hkb : ∀ u, -1 ≤ keyOf r u := fun u => (key_bd hr u).1
  have hcases : o.kind = 1 ∨ o.kind = 2 ∨ o.kind = 3 ∨ o.kind = 4 ∨ o.kind = 5 ∨ o.kind = 6 ∨ o.kind = 7 ∨ o.kind = 8 ∨ o.kind = 9 ∨ o.kind = 10 := by omega
  rcases hcases with hk | hk | hk | hk | hk | hk | hk | hk | hk | hk
  · have hK := op_k ho (by simp [hk])
    have hV := op_v ho (by simp [hk])
    have ht : treeOf o = .ask (rowAt o.k) fun row => iteT (row ≠ 0) .done (.ask (ownerAt o.v) fun owner => iteT (owner ≠ 0) .done (.ask (countAt (classOf o.v)) fun _ => treeWay o.k [o.v])) := by simp [treeOf, hk]
    rw [ht] at hm
    simp only [atOnce, hk, rowAt_eq hK, ownerAt_eq hV, readN_snoc, true_and, false_and, or_self, if_false, show ¬ ((1:Int) = 2) by decide, show ¬ ((1:Int) = 3) by decide, show ¬ ((1:Int) = 4) by decide, show ¬ ((1:Int) = 5) by decide, show ¬ ((1:Int) = 6) by decide, show ¬ ((1:Int) = 8) by decide, show ¬ ((1:Int) = 9) by decide, show ¬ ((1:Int) = 10) by decide] at hs
    rw [rowAt_eq hK, ownerAt_eq hV] at hm
    rw [rowAt_eq hK, ownerAt_eq hV] at ht
    rcases run_cases hm h0 with ⟨h1, h2, h3⟩ | ⟨h1, h2, hm⟩
    · have hg := got_nil hrun ht h3
      subst hg
      subst h2
      have hne : ¬ (o.k = 3 + o.v) := by omega
      simp only [if_true, wd_row r (show o.k < 4 by omega), hne, if_false] at hs
      by_cases hz : heldAt r o.k = 0
      · simp [hz, readN, readP] at hs
      · simp [hz] at hs
        subst hs
        exact ⟨by simp [allowed, hr, ho, refusal, hk, hz], after_no (by simp)⟩
    · obtain ⟨h4, hm⟩ := run_ite hm h0
      simp only [h2, if_false] at hs
      have h4 : readN got o.k = 0 := by simpa using h4
      rcases run_cases hm h0 with ⟨h5, h6, h7⟩ | ⟨h5, h6, hm⟩
      · subst h6
        simp only [if_true, wd_owner r hV, h4, ne_eq, not_true, if_false] at hs
        by_cases hz : keyOf r o.v + 1 = 0
        · simp [hz] at hs
        · simp only [hz, not_false_iff, if_true, Option.some.injEq] at hs
          subst hs
          have hz2 : 0 ≤ keyOf r o.v := by have := hkb o.v; omega
          exact ⟨by simp [allowed, hr, ho, refusal, hk, hz2], after_no (by simp)⟩
      · obtain ⟨h8, hm⟩ := run_ite hm h0
        have h8 : readN got (3 + o.v) = 0 := by simpa using h8
        simp [h4, h6, h8] at hs
  · have hK := op_k ho (by simp [hk])
    have hV := op_v ho (by simp [hk])
    have ht : treeOf o = .ask (rowAt o.k) fun row => iteT (row = 0 ∨ row = o.v) .done (.ask (ownerAt o.v) fun owner => iteT (owner ≠ 0) .done (.ask (ownerAt row) fun _ => iteT (classOf row = classOf o.v) (treeWay o.k [row, o.v]) (.ask (countAt (classOf row)) fun _ => .ask (countAt (classOf o.v)) fun _ => treeWay o.k [row, o.v]))) := by simp [treeOf, hk]
    rw [ht] at hm
    simp only [atOnce, hk, rowAt_eq hK, ownerAt_eq hV, readN_snoc, true_and, false_and, true_or, or_self, if_false, show ¬ ((2:Int) = 1) by decide, show ¬ ((2:Int) = 3) by decide, show ¬ ((2:Int) = 4) by decide, show ¬ ((2:Int) = 5) by decide, show ¬ ((2:Int) = 6) by decide, show ¬ ((2:Int) = 8) by decide, show ¬ ((2:Int) = 9) by decide, show ¬ ((2:Int) = 10) by decide] at hs
    rw [rowAt_eq hK, ownerAt_eq hV] at hm
    rw [rowAt_eq hK, ownerAt_eq hV] at ht
    rcases run_cases hm h0 with ⟨h1, h2, h3⟩ | ⟨h1, h2, hm⟩
    · have hg := got_nil hrun ht h3
      subst hg
      subst h2
      have hne : ¬ (o.k = 3 + o.v) := by omega
      simp only [if_true, wd_row r (show o.k < 4 by omega), hne, if_false] at hs
      by_cases hz : heldAt r o.k = 0
      · simp [hz] at hs
        subst hs
        exact ⟨by simp [allowed, hr, ho, refusal, hk, hz], after_no (by simp)⟩
      · by_cases hy : heldAt r o.k = o.v
        · simp only [hy, if_true] at hs
          rw [← hy, if_neg hz] at hs
          simp only [Option.some.injEq] at hs
          subst hs
          have hkk := key_held hr (k := o.k) (by omega) hz
          rw [hy] at hkk
          have hal : allowed r o ⟨0, []⟩ = true := by simp [allowed, hr, ho, success, hk, hz, hkk]
          refine ⟨hal, ?_⟩
          simp only [afterR, hal, hk, Bool.true_and, decide_true, if_true, or_true]
          rw [← hy]
          exact set_self hr hK
        · simp [hz, hy, readN, readP] at hs
    · obtain ⟨h4, hm⟩ := run_ite hm h0
      simp only [not_or] at h4
      simp only [h2, if_false] at hs
      rcases run_cases hm h0 with ⟨h5, h6, h7⟩ | ⟨h5, h6, hm⟩
      · subst h6
        simp only [if_true, wd_owner r hV, h4, ne_eq, not_true, if_false] at hs
        by_cases hz : keyOf r o.v + 1 = 0
        · simp [hz] at hs
        · simp only [hz, not_false_iff, if_true, Option.some.injEq] at hs
          subst hs
          have hz2 : 0 ≤ keyOf r o.v := by have := hkb o.v; omega
          exact ⟨by simp [allowed, hr, ho, refusal, hk, hz2], after_no (by simp)⟩
      · obtain ⟨h8, hm⟩ := run_ite hm h0
        have h8 : readN got (3 + o.v) = 0 := by simpa using h8
        simp [h4, h6, h8] at hs
  · have hK := op_k ho (by simp [hk])
    have ht : treeOf o = .ask (rowAt o.k) fun row => iteT (row = 0) .done (.ask (ownerAt row) fun _ => .ask (countAt (classOf row)) fun _ => treeWay o.k [row]) := by simp [treeOf, hk]
    rw [ht] at hm
    simp only [atOnce, hk, rowAt_eq hK, readN_snoc, true_and, false_and, true_or, or_true, or_self, if_false, show ¬ ((3:Int) = 1) by decide, show ¬ ((3:Int) = 2) by decide, show ¬ ((3:Int) = 4) by decide, show ¬ ((3:Int) = 5) by decide, show ¬ ((3:Int) = 6) by decide, show ¬ ((3:Int) = 8) by decide, show ¬ ((3:Int) = 9) by decide, show ¬ ((3:Int) = 10) by decide] at hs
    rw [rowAt_eq hK] at hm
    rcases run_cases hm h0 with ⟨h1, h2, h3⟩ | ⟨h1, h2, hm⟩
    · subst h2
      simp only [if_true, wd_row r (show o.k < 4 by omega)] at hs
      by_cases hz : heldAt r o.k = 0
      · simp [hz] at hs
        subst hs
        exact ⟨by simp [allowed, hr, ho, refusal, hk, hz], after_no (by simp)⟩
      · simp [hz] at hs
    · obtain ⟨h4, hm⟩ := run_ite hm h0
      simp [h2, h4] at hs
  · have hK := op_k ho (by simp [hk])
    have ht : treeOf o = .ask (rowAt o.k) fun _ => .done := by simp [treeOf, hk]
    rw [ht] at hm
    simp only [atOnce, hk, rowAt_eq hK, readN_snoc, true_and, false_and, true_or, or_true, or_self, if_false, show ¬ ((4:Int) = 1) by decide, show ¬ ((4:Int) = 2) by decide, show ¬ ((4:Int) = 3) by decide, show ¬ ((4:Int) = 5) by decide, show ¬ ((4:Int) = 6) by decide, show ¬ ((4:Int) = 8) by decide, show ¬ ((4:Int) = 9) by decide, show ¬ ((4:Int) = 10) by decide] at hs
    rw [rowAt_eq hK] at hm
    rcases run_cases hm h0 with ⟨h1, h2, h3⟩ | ⟨h1, h2, hm⟩
    · subst h2
      simp only [if_true, wd_row r (show o.k < 4 by omega)] at hs
      by_cases hz : heldAt r o.k = 0
      · simp [hz] at hs
        subst hs
        exact ⟨by simp [allowed, hr, ho, refusal, hk, hz], after_no (by simp)⟩
      · simp [hz] at hs
        subst hs
        exact ⟨by simp [allowed, hr, ho, success, hk, hz], after_no (by simp [hk])⟩
    · simp [MTr.run] at hm; omega
  · have hV := op_v ho (by simp [hk])
    have ht : treeOf o = .ask (ownerAt o.v) fun _ => .done := by simp [treeOf, hk]
    rw [ht] at hm
    simp only [atOnce, hk, ownerAt_eq hV, readN_snoc, true_and, false_and, true_or, or_true, or_self, if_false, show ¬ ((5:Int) = 1) by decide, show ¬ ((5:Int) = 2) by decide, show ¬ ((5:Int) = 3) by decide, show ¬ ((5:Int) = 4) by decide, show ¬ ((5:Int) = 6) by decide, show ¬ ((5:Int) = 8) by decide, show ¬ ((5:Int) = 9) by decide, show ¬ ((5:Int) = 10) by decide] at hs
    rw [ownerAt_eq hV] at hm
    rcases run_cases hm h0 with ⟨h1, h2, h3⟩ | ⟨h1, h2, hm⟩
    · subst h2
      simp only [if_true, wd_owner r hV] at hs
      by_cases hz : keyOf r o.v + 1 = 0
      · simp [hz] at hs
        subst hs
        have hz2 : keyOf r o.v < 0 := by omega
        exact ⟨by simp [allowed, hr, ho, refusal, hk, hz2], after_no (by simp)⟩
      · simp only [hz, if_false, if_true, Option.some.injEq, show keyOf r o.v + 1 - 1 = keyOf r o.v by omega] at hs
        subst hs
        have hz2 : 0 ≤ keyOf r o.v := by have := hkb o.v; omega
        exact ⟨by simp [allowed, hr, ho, success, hk, hz2], after_no (by simp [hk])⟩
    · simp [MTr.run] at hm; omega
  · have hC := op_c ho hk
    have ht : treeOf o = .ask (countAt o.k) fun _ => .done := by simp [treeOf, hk]
    rw [ht] at hm
    simp only [atOnce, hk, countAt_eq hC, readN_snoc, true_and, false_and, true_or, or_true, or_self, if_false, show ¬ ((6:Int) = 1) by decide, show ¬ ((6:Int) = 2) by decide, show ¬ ((6:Int) = 3) by decide, show ¬ ((6:Int) = 4) by decide, show ¬ ((6:Int) = 5) by decide, show ¬ ((6:Int) = 8) by decide, show ¬ ((6:Int) = 9) by decide, show ¬ ((6:Int) = 10) by decide] at hs
    rw [countAt_eq hC] at hm
    rcases run_cases hm h0 with ⟨h1, h2, h3⟩ | ⟨h1, h2, hm⟩
    · subst h2
      simp only [if_true, wd_count r hC, Option.some.injEq] at hs
      subst hs
      exact ⟨by simp [allowed, hr, ho, success, hk], after_no (by simp [hk])⟩
    · simp [MTr.run] at hm; omega
  · simp [atOnce, hk] at hs
  · have ht : treeOf o = .ask 13 fun _ => .done := by simp [treeOf, hk]
    rw [ht] at hm
    rcases run_cases hm h0 with ⟨h1, h2, h3⟩ | ⟨h1, h2, hm⟩
    · subst h2
      simp only [atOnce, hk, readN_snoc, if_true, wd_state] at hs
      by_cases hz : r.state = 0
      · simp [hz] at hs
      · simp [hz] at hs
        subst hs
        exact ⟨by simp [allowed, hr, ho, refusal, hk, hz], after_no (by simp)⟩
    · simp [MTr.run] at hm; omega
  · have ht : treeOf o = .ask 13 fun s => iteT (s < 1 ∨ 4 < s) .done (.ask (rowAt (s - 1)) fun row => iteT (valOk row = false) .done (.ask (viaAt row) fun _ => .done)) := by simp [treeOf, hk]
    rw [ht] at hm
    have hsb := state_bd hr
    rcases run_cases hm h0 with ⟨h1, h2, h3⟩ | ⟨h1, h2, hm⟩
    · subst h2
      simp only [atOnce, hk, readN_snoc, if_true, wd_state] at hs
      by_cases hz : r.state < 1 ∨ 4 < r.state
      · simp [hz] at hs
        subst hs
        have : r.state = 0 ∨ r.state = 5 := by omega
        exact ⟨by rcases this with h | h <;> simp [allowed, hr, ho, refusal, hk, madeR, h], after_no (by simp)⟩
      · simp [hz] at hs
    · obtain ⟨h4, hm⟩ := run_ite hm h0
      simp [atOnce, hk, readN_snoc, h2, h4] at hs
  · have ht : treeOf o = .ask 13 fun s => iteT (s ≠ 5) .done (.ask (viaAt o.v) fun _ => .done) := by simp [treeOf, hk]
    rw [ht] at hm
    rcases run_cases hm h0 with ⟨h1, h2, h3⟩ | ⟨h1, h2, hm⟩
    · subst h2
      simp only [atOnce, hk, readN_snoc, if_true, wd_state] at hs
      by_cases hz : r.state = 5
      · simp [hz] at hs
      · simp [hz] at hs
        subst hs
        exact ⟨by simp [allowed, hr, ho, refusal, hk, madeR, hz], after_no (by simp)⟩
    · obtain ⟨h4, hm⟩ := run_ite hm h0
      have h4 : readN got 13 = 5 := by simpa using h4
      simp [atOnce, hk, readN_snoc, h2, h4] at hs
theorem plan_now {o : MOp} {got : List MPr} {p : MPl} (hp : planOf o got = some p) (hn : p.now = true) : atOnce o got = some p.res ∧ p.list = [] := by
  unfold planOf at hp
  split at hp
  · simp only at hp
    split at hp
    · simp at hp
    · split at hp
      · rename_i s hs
        simp only [Option.some.injEq] at hp
        subst hp
        exact ⟨hs, rfl⟩
      · split at hp
        · simp only [Option.some.injEq] at hp; subst hp; simp at hn
        · simp only [Option.some.injEq] at hp; subst hp; simp at hn
  · simp at hp
end Go.Proofs.YtoeieoapnhhaeaaGreat.Den
namespace Go.Proofs.YtoeieoapnhhaeaaGreat.Den
set_option linter.unusedSimpArgs false
set_option linter.unusedVariables false
theorem held_key {r : MRw} (h : rowsOk r = true) {u : Int} (hk : 0 ≤ keyOf r u) : heldAt r (keyOf r u) = u := by
  obtain ⟨a, b, c, d, h1, h2⟩ := rows_form.1 h
  obtain ⟨l, s⟩ := r
  simp only at h1; subst h1
  have hb := key_bd h u
  rw [held_form _ _ _ _ _ (by omega)]
  rw [key_form] at hk ⊢
  grind
theorem one_zero (c : Int) : oneIf 0 c = 0 := by simp [oneIf]
theorem one_is {v c : Int} (hv : 1 ≤ v ∧ v ≤ 6) : oneIf v c = if v % 3 = c then 1 else 0 := by simp [oneIf, hv]
def setR (r : MRw) (k v : Int) : MRw := { r with held := r.held.set k.toNat v }
theorem change_ok {r : MRw} {o : MOp} {got : List MPr} {row : Int} {W : List Int} (hr : rowsOk r = true) (hK : 0 ≤ o.k ∧ o.k ≤ 3) (hrow : heldAt r o.k = row)
    (hv : 0 ≤ o.v ∧ o.v ≤ 6) (hne : row ≠ o.v) (hnv : o.v = 0 ∨ keyOf r o.v < 0)
    (H1 : ∀ p, readP got p = if p ∈ W then some (wd r p) else none)
    (w1 : o.k ∈ W) (w2 : (13 : Int) ∈ W) (w3 : 1 ≤ o.v → 3 + o.v ∈ W) (w4 : 1 ≤ row → 3 + row ∈ W)
    (w5 : classOf row ≠ classOf o.v → 1 ≤ o.v → 10 + o.v % 3 ∈ W) (w6 : classOf row ≠ classOf o.v → 1 ≤ row → 10 + row % 3 ∈ W)
    (w7 : o.k + 1 < r.state → 1 ≤ o.v → 13 + o.v ∈ W) (w8 : o.k + 1 < r.state → 1 ≤ row → 13 + row ∈ W)
    (w9 : r.state ≤ o.k + 1 → ∀ u, 1 ≤ u → 13 + u ∉ W) :
    (∀ e ∈ changesE o got row r.state, wd (setR r o.k o.v) e.pos = e.new) ∧
    (∀ p, 0 ≤ p → p < 20 → (∀ e ∈ changesE o got row r.state, e.pos ≠ p) → wd (setR r o.k o.v) p = wd r p) := by
  have hrb := held_bd hr (k := o.k) (by omega)
  rw [hrow] at hrb
  have hA : ∀ p, 0 ≤ p ∧ p < 4 → wd (setR r o.k o.v) p = if p = o.k then o.v else wd r p := by
    intro p hp
    rw [wd_row _ hp.2, wd_row _ hp.2]
    exact held_set hr (by omega) hp
  have hB : ∀ u, 1 ≤ u ∧ u ≤ 6 → wd (setR r o.k o.v) (3 + u) = if u = o.v then o.k + 1 else if u = row then 0 else wd r (3 + u) := by
    intro u hu
    rw [wd_owner _ hu, wd_owner _ hu, setR, key_set hr (by omega) hv hnv hu.1, hrow]
    repeat' split
    all_goals omega
  have hC : ∀ c, 0 ≤ c ∧ c ≤ 2 → wd (setR r o.k o.v) (10 + c) = wd r (10 + c) + oneIf o.v c - oneIf row c := by
    intro c hc
    rw [wd_count _ hc, wd_count _ hc, setR, many_set hr (by omega), hrow]
  have hD : wd (setR r o.k o.v) 13 = wd r 13 := by rw [wd_state, wd_state]; rfl
  have hE : ∀ u, 1 ≤ u ∧ u ≤ 6 → wd (setR r o.k o.v) (13 + u) = if u = o.v then (if o.k < r.state - 1 then o.k + 1 else 0) else if u = row then 0 else wd r (13 + u) := by
    intro u hu
    rw [wd_via _ hu, wd_via _ hu, setR, key_set hr (by omega) hv hnv hu.1, hrow]
    simp only
    by_cases h1 : u = o.v
    · simp only [h1, if_true]
      simp [hK.1]
    · by_cases h2 : u = row
      · simp [h1, h2, hne]
      · simp only [h1, h2, if_false]
  have hmem : ∀ {p}, p ∈ W → 0 ≤ p → ∀ {to more}, ⟨p, wd r p, newOf (wd r p) to more⟩ ∈ putE got p to more := by
    intro p hp h0 to more
    exact mem_putE.2 ⟨h0, _, by rw [H1, if_pos hp], rfl⟩
  have hW : ∀ {p to more e}, e ∈ putE got p to more → p ∈ W ∧ 0 ≤ p ∧ e = ⟨p, wd r p, newOf (wd r p) to more⟩ := by
    intro p to more e he
    obtain ⟨h0, old, h2, h3⟩ := mem_putE.1 he
    rw [H1] at h2
    by_cases hp : p ∈ W
    · rw [if_pos hp] at h2
      simp only [Option.some.injEq] at h2
      subst h2
      exact ⟨hp, h0, h3⟩
    · rw [if_neg hp] at h2; simp at h2
  have hval : ∀ {v}, 0 ≤ v ∧ v ≤ 6 → 0 ≤ ownerAt v → 1 ≤ v := by
    intro v hv h
    by_cases h0 : v = 0
    · subst h0; simp [ownerAt, valOk, isIn] at h
    · omega
  have hval2 : ∀ {v}, 0 ≤ v ∧ v ≤ 6 → 0 ≤ viaAt v → 1 ≤ v := by
    intro v hv h
    by_cases h0 : v = 0
    · subst h0; simp [viaAt, valOk, isIn] at h
    · omega
  have hval3 : ∀ {v}, 0 ≤ v ∧ v ≤ 6 → 0 ≤ countAt (classOf v) → 1 ≤ v := by
    intro v hv h
    by_cases h0 : v = 0
    · subst h0; simp [classOf, countAt, classOk, valOk, isIn] at h
    · omega
  have hcls : ∀ {v}, 1 ≤ v ∧ v ≤ 6 → countAt (classOf v) = 10 + v % 3 := by
    intro v hv
    rw [classOf_eq hv, countAt_eq (by omega)]
  have hdiff : classOf row ≠ classOf o.v → 1 ≤ row → 1 ≤ o.v → ¬ (row % 3 = o.v % 3) := by
    intro hd h1 h2 e
    rw [classOf_eq (by omega), classOf_eq (by omega)] at hd
    exact hd e
  constructor
  · intro e he
    simp only [changesE, mem_sortE, putsE, List.mem_append] at he
    rcases he with ((((((he | he) | he) | he) | he) | he) | he)
    · obtain ⟨_, _, rfl⟩ := hW he
      simp only
      rw [rowAt_eq hK, hA _ (by omega)]
      simp [newOf]
    · obtain ⟨_, _, rfl⟩ := hW he
      simp only
      rw [hD, wd_state]
      simp [newOf]
    · obtain ⟨h1, h2, rfl⟩ := hW he
      have h3 := hval hrb h2
      simp only
      rw [ownerAt_eq (by omega), hB _ (by omega)]
      simp [newOf, hne]
    · obtain ⟨h1, h2, rfl⟩ := hW he
      have h3 := hval2 hrb h2
      simp only
      rw [viaAt_eq (by omega), hE _ (by omega)]
      simp [newOf, hne]
    · obtain ⟨h1, h2, rfl⟩ := hW he
      have h3 := hval hv h2
      simp only
      rw [ownerAt_eq (by omega), hB _ (by omega)]
      simp [newOf]
    · obtain ⟨h1, h2, rfl⟩ := hW he
      have h3 := hval2 hv h2
      simp only
      rw [viaAt_eq (by omega)] at h1 ⊢
      rw [hE _ (by omega)]
      have : o.k < r.state - 1 := by
        by_cases hs : r.state ≤ o.k + 1
        · exact absurd h1 (w9 hs _ h3)
        · omega
      simp [newOf, this]
    · by_cases hc : classOf row = classOf o.v
      · simp [hc] at he
      · rw [if_neg hc] at he
        rcases List.mem_append.1 he with he | he
        · obtain ⟨h1, h2, rfl⟩ := hW he
          have h3 := hval3 hrb h2
          simp only
          rw [hcls (by omega), hC _ (by omega)]
          have hp := many_pos hr (k := o.k) (by omega) (row % 3)
          rw [hrow] at hp
          have h5 : oneIf row (row % 3) = 1 := by rw [one_is (by omega)]; simp
          have h6 : oneIf o.v (row % 3) = 0 := by
            by_cases h0 : o.v = 0
            · rw [h0, one_zero]
            · rw [one_is (by omega), if_neg]
              intro e; exact hdiff hc h3 (by omega) e.symm
          rw [wd_count _ (by omega), h5, h6]
          rw [h5] at hp
          have : newOf (howMany r (row % 3)) 0 (-1) = if 0 < howMany r (row % 3) - 1 then howMany r (row % 3) - 1 else 0 := by simp [newOf]
          rw [this]
          split <;> omega
        · obtain ⟨h1, h2, rfl⟩ := hW he
          have h3 := hval3 hv h2
          simp only
          rw [hcls (by omega), hC _ (by omega)]
          have h5 : oneIf o.v (o.v % 3) = 1 := by rw [one_is (by omega)]; simp
          have h6 : oneIf row (o.v % 3) = 0 := by
            by_cases h0 : row = 0
            · rw [h0, one_zero]
            · rw [one_is (by omega), if_neg]
              intro e; exact hdiff hc (by omega) h3 e
          rw [h5, h6]
          simp only [newOf, if_true]
          omega
  · intro p h0 h20 hp
    have hall : ∀ e, e ∈ changesE o got row r.state → e.pos ≠ p := hp
    simp only [changesE, mem_sortE, putsE, List.mem_append] at hall
    have e1 : p ≠ o.k := by
      intro e
      refine hall ⟨o.k, wd r o.k, newOf (wd r o.k) o.v 0⟩ ?_ e.symm
      rw [rowAt_eq hK]; simp only [hmem w1 hK.1, true_or]
    have e2 : p ≠ 13 := by
      intro e
      refine hall ⟨13, wd r 13, newOf (wd r 13) r.state 0⟩ ?_ e.symm
      simp only [hmem w2 (by decide), true_or, or_true]
    have e3 : 1 ≤ o.v → p ≠ 3 + o.v := by
      intro h e
      refine hall ⟨3 + o.v, wd r (3 + o.v), newOf (wd r (3 + o.v)) (o.k + 1) 0⟩ ?_ e.symm
      rw [ownerAt_eq (v := o.v) (by omega)]
      simp only [hmem (w3 h) (by omega), true_or, or_true]
    have e4 : 1 ≤ row → p ≠ 3 + row := by
      intro h e
      refine hall ⟨3 + row, wd r (3 + row), newOf (wd r (3 + row)) 0 0⟩ ?_ e.symm
      rw [ownerAt_eq (v := row) (by omega)]
      simp only [hmem (w4 h) (by omega), true_or, or_true]
    have e5 : classOf row ≠ classOf o.v → 1 ≤ o.v → p ≠ 10 + o.v % 3 := by
      intro hc h e
      refine hall ⟨10 + o.v % 3, wd r (10 + o.v % 3), newOf (wd r (10 + o.v % 3)) 0 1⟩ ?_ e.symm
      rw [if_neg hc, hcls (v := o.v) (by omega)]
      simp only [List.mem_append, hmem (w5 hc h) (by omega), true_or, or_true]
    have e6 : classOf row ≠ classOf o.v → 1 ≤ row → p ≠ 10 + row % 3 := by
      intro hc h e
      refine hall ⟨10 + row % 3, wd r (10 + row % 3), newOf (wd r (10 + row % 3)) 0 (-1)⟩ ?_ e.symm
      rw [if_neg hc, hcls (v := row) (by omega)]
      simp only [List.mem_append, hmem (w6 hc h) (by omega), true_or, or_true]
    have e7 : o.k + 1 < r.state → 1 ≤ o.v → p ≠ 13 + o.v := by
      intro hs h e
      refine hall ⟨13 + o.v, wd r (13 + o.v), newOf (wd r (13 + o.v)) (o.k + 1) 0⟩ ?_ e.symm
      rw [viaAt_eq (v := o.v) (by omega)]
      simp only [hmem (w7 hs h) (by omega), true_or, or_true]
    have e8 : o.k + 1 < r.state → 1 ≤ row → p ≠ 13 + row := by
      intro hs h e
      refine hall ⟨13 + row, wd r (13 + row), newOf (wd r (13 + row)) 0 0⟩ ?_ e.symm
      rw [viaAt_eq (v := row) (by omega)]
      simp only [hmem (w8 hs h) (by omega), true_or, or_true]
    clear hall hp hmem hW
    by_cases h4 : p < 4
    · rw [hA p ⟨h0, h4⟩, if_neg e1]
    by_cases h10 : p < 10
    · obtain ⟨u, rfl⟩ : ∃ u, p = 3 + u := ⟨p - 3, by omega⟩
      rw [hB u (by omega), if_neg (by intro e; subst e; exact e3 (by omega) rfl), if_neg (by intro e; subst e; exact e4 (by omega) rfl)]
    by_cases h13 : p < 13
    · obtain ⟨c, rfl⟩ : ∃ c, p = 10 + c := ⟨p - 10, by omega⟩
      rw [hC c (by omega)]
      by_cases hc : classOf row = classOf o.v
      · clear hdiff hcls hval hval2 hval3 hE hB hA e1 e2 e3 e4 e5 e6 e7 e8 w1 w2 w3 w4 w5 w6 w7 w8 w9 H1
        have : oneIf row c = oneIf o.v c := by
          by_cases ha : row = 0
          · by_cases hb : o.v = 0
            · rw [ha, hb]
            · rw [ha, classOf_eq (v := o.v) (by omega)] at hc
              simp [classOf, valOk, isIn] at hc
              omega
          · by_cases hb : o.v = 0
            · rw [hb, classOf_eq (v := row) (by omega)] at hc
              simp [classOf, valOk, isIn] at hc
              omega
            · rw [classOf_eq (v := row) (by omega), classOf_eq (v := o.v) (by omega)] at hc
              rw [one_is (by omega), one_is (by omega), hc]
        omega
      · have ha : oneIf row c = 0 := by
          by_cases ha : row = 0
          · rw [ha, one_zero]
          · rw [one_is (by omega), if_neg]
            intro e; subst e; exact e6 hc (by omega) rfl
        have hb : oneIf o.v c = 0 := by
          by_cases ha : o.v = 0
          · rw [ha, one_zero]
          · rw [one_is (by omega), if_neg]
            intro e; subst e; exact e5 hc (by omega) rfl
        omega
    · obtain ⟨u, rfl⟩ : ∃ u, p = 13 + u := ⟨p - 13, by omega⟩
      have hu : 1 ≤ u ∧ u ≤ 6 := by omega
      rw [hE u hu]
      clear hdiff hcls hval hval2 hval3 hE hB hA hC e1 e2 e3 e4 e5 e6 w1 w2 w3 w4 w5 w6 w7 w8 w9 H1 h4 h10 h13
      by_cases h1 : u = o.v
      · have hs : ¬ (o.k + 1 < r.state) := fun hs => e7 hs (h1 ▸ hu.1) (by rw [h1])
        have hkk : keyOf r u < 0 := by
          rcases hnv with h | h
          · omega
          · rw [h1]; exact h
        have hx : ¬ (0 ≤ keyOf r u ∧ keyOf r u < r.state - 1) := by omega
        have hy : ¬ (o.k < r.state - 1) := by omega
        rw [if_pos h1, if_neg hy, wd_via r hu, if_neg hx]
      · rw [if_neg h1]
        by_cases h2 : u = row
        · have hs : ¬ (o.k + 1 < r.state) := fun hs => e8 hs (h2 ▸ hu.1) (by rw [h2])
          have hkk := key_held hr (k := o.k) (by omega) (by rw [hrow]; omega)
          rw [hrow, ← h2] at hkk
          have hx : ¬ (0 ≤ keyOf r u ∧ keyOf r u < r.state - 1) := by omega
          rw [if_pos h2, wd_via r hu, if_neg hx]
        · rw [if_neg h2]
end Go.Proofs.YtoeieoapnhhaeaaGreat.Den
namespace Go.Proofs.YtoeieoapnhhaeaaGreat.Den
set_option linter.unusedSimpArgs false
set_option linter.unusedVariables false
def PlanGood (r : MRw) (o : MOp) (res : MRs) (list : List MEn) : Prop :=
  allowed r o res = true ∧ rowsOk (afterR r o res) = true ∧ (∀ e ∈ list, wd (afterR r o res) e.pos = e.new) ∧
    (∀ p, 0 ≤ p → p < 20 → (∀ e ∈ list, e.pos ≠ p) → wd (afterR r o res) p = wd r p)
theorem after_set {r : MRw} {o : MOp} {s : MRs} (ha : allowed r o s = true) (h0 : s.code = 0) (hk : o.kind = 1 ∨ o.kind = 2 ∨ (o.kind = 3 ∧ o.v = 0)) : afterR r o s = setR r o.k o.v := by
  unfold afterR setR
  simp only [ha, h0, Bool.true_and, decide_true, if_true]
  rcases hk with h | h | ⟨h, hv⟩
  · simp [h]
  · simp [h]
  · simp [h, hv]
theorem walk_ite {f : Int → Int} {b : Prop} [Decidable b] {x y : MTr} {ps : List Int} : (iteT b x y).walk f ps = if b then x.walk f ps else y.walk f ps := by
  unfold iteT; split <;> rfl
theorem ask_walk {f : Int → Int} {p : Int} {k : Int → MTr} {ps : List Int} (h : 0 ≤ p) : (MTr.ask p k).walk f ps = (k (f p)).walk f (ps ++ [p]) := by
  have : ¬ p < 0 := by omega
  simp [MTr.walk, this]
theorem done_walk {f : Int → Int} {ps : List Int} : MTr.done.walk f ps = ps := rfl
theorem plan_ok {r : MRw} {o : MOp} {got : List MPr} {res : MRs} {list : List MEn} (hr : rowsOk r = true) (ho : opOk o = true) (hrun : RunP o got)
    (hg : ∀ x ∈ got, x.n = wd r x.pos) (hp : planOf o got = some ⟨false, res, list⟩) : PlanGood r o res list := by
  have hpl := hrun.places
  have htm := tree_miss (o := o) (got := got)
  have hcov := plan_covers ho hrun hp
  unfold planOf at hp
  rw [if_pos ho] at hp
  simp only at hp
  by_cases hm : 0 ≤ (askedA o got).miss
  · rw [if_pos hm] at hp; exact absurd hp (by simp)
  rw [if_neg hm] at hp
  have hw := run_walk got (wd r) (fun q n h => hg _ (readP_mem h)) (treeOf o) [] (by rw [← htm.1]; omega)
  obtain ⟨W, hW⟩ : ∃ W, W = (treeOf o).walk (wd r) [] := ⟨_, rfl⟩
  rw [← hW] at hw
  have H1 : ∀ p, readP got p = if p ∈ W then some (wd r p) else none := by
    intro p
    by_cases hpW : p ∈ W
    · rw [if_pos hpW]
      rw [← hw] at hpW
      have := run_places got (treeOf o) [] p hpW
      simp only [List.not_mem_nil, false_or] at this
      obtain ⟨n, hn⟩ := Option.ne_none_iff_exists'.1 this.2
      have hx := hg _ (readP_mem hn)
      simp only at hx
      rw [hn, hx]
    · rw [if_neg hpW]
      cases hh : readP got p with
      | none => rfl
      | some n =>
        have := hpl.1 _ (readP_mem hh)
        rw [hw] at this
        exact absurd this hpW
  have HN : ∀ p, p ∈ W → readN got p = wd r p := by
    intro p h
    simp [readN, H1, h]
  have hplaces : (askedA o got).places = W := by rw [htm.2, hw]
  cases ha : atOnce o got with
  | some s => rw [ha] at hp; simp at hp
  | none =>
  rw [ha] at hp
  simp only at hp
  have hkind := op_kind ho
  have hkb : ∀ u, -1 ≤ keyOf r u := fun u => (key_bd hr u).1
  have hsb := state_bd hr
  have hcases : o.kind = 1 ∨ o.kind = 2 ∨ o.kind = 3 ∨ o.kind = 4 ∨ o.kind = 5 ∨ o.kind = 6 ∨ o.kind = 7 ∨ o.kind = 8 ∨ o.kind = 9 ∨ o.kind = 10 := by omega
  rcases hcases with hk | hk | hk | hk | hk | hk | hk | hk | hk | hk
  · have hK := op_k ho (by simp [hk])
    have hV := op_v ho (by simp [hk])
    have ht : treeOf o = .ask (rowAt o.k) fun row => iteT (row ≠ 0) .done (.ask (ownerAt o.v) fun owner => iteT (owner ≠ 0) .done (.ask (countAt (classOf o.v)) fun _ => treeWay o.k [o.v])) := by simp [treeOf, hk]
    rw [ht, rowAt_eq hK, ownerAt_eq hV, classOf_eq hV, countAt_eq (by omega), ask_walk hK.1, wd_row r (by omega), walk_ite] at hW
    have hrow : heldAt r o.k = 0 := by
      by_cases hz : heldAt r o.k = 0
      · exact hz
      · exfalso
        rw [if_pos hz] at hW
        have : readN got o.k = heldAt r o.k := by rw [HN _ (by rw [hW]; simp [done_walk]), wd_row r (by omega)]
        simp [atOnce, hk, rowAt_eq hK, this, hz] at ha
    rw [if_neg (by simp [hrow]), ask_walk (by omega), wd_owner r hV, walk_ite] at hW
    have hkey : keyOf r o.v + 1 = 0 := by
      by_cases hz : keyOf r o.v + 1 = 0
      · exact hz
      · exfalso
        rw [if_pos hz] at hW
        have h1 : readN got o.k = heldAt r o.k := by rw [HN _ (by rw [hW]; simp [done_walk]), wd_row r (by omega)]
        have h2 : readN got (3 + o.v) = keyOf r o.v + 1 := by rw [HN _ (by rw [hW]; simp [done_walk]), wd_owner r hV]
        simp [atOnce, hk, rowAt_eq hK, ownerAt_eq hV, h1, h2, hrow, hz] at ha
    rw [if_neg (by simp [hkey]), ask_walk (by omega), treeWay, ask_walk (by decide), wd_state, walk_ite, treeVs, viaAt_eq hV, ask_walk (by omega), treeVs, done_walk, done_walk] at hW
    simp only [List.nil_append, List.cons_append] at hW
    have hkey : keyOf r o.v < 0 := by omega
    have h9 : o.kind ≠ 9 := by omega
    have hs0 : readN got 13 = r.state := by rw [HN _ (by rw [hW]; split <;> simp), wd_state]
    have hs1 : readN got o.k = 0 := by rw [HN _ (by rw [hW]; split <;> simp), wd_row r (by omega), hrow]
    simp only [hk, true_or, if_true, Option.some.injEq, MPl.mk.injEq, true_and, rowAt_eq hK, hs0, hs1, show ¬ ((1:Int) = 9) by decide, if_false] at hp
    obtain ⟨rfl, rfl⟩ := hp
    have hal : allowed r o ⟨0, []⟩ = true := by simp [allowed, hr, ho, success, hk, hrow, hkey]
    unfold PlanGood
    rw [after_set hal rfl (by simp [hk])]
    have hch := change_ok hr hK hrow (by omega) (by omega) (Or.inr hkey) H1 (by rw [hW]; split <;> simp) (by rw [hW]; split <;> simp) (fun _ => by rw [hW]; split <;> simp) (by omega)
      (fun _ _ => by rw [hW]; split <;> simp) (fun _ h => by omega) (fun h _ => by rw [hW, if_neg (by omega)]; simp) (fun _ h => by omega)
      (fun h u hu => by rw [hW, if_pos h]; simp; omega)
    exact ⟨hal, rows_set hr (by omega) (by omega) (Or.inr (Or.inl hkey)), hch⟩
  · have hK := op_k ho (by simp [hk])
    have hV := op_v ho (by simp [hk])
    have ht : treeOf o = .ask (rowAt o.k) fun row => iteT (row = 0 ∨ row = o.v) .done (.ask (ownerAt o.v) fun owner => iteT (owner ≠ 0) .done (.ask (ownerAt row) fun _ => iteT (classOf row = classOf o.v) (treeWay o.k [row, o.v]) (.ask (countAt (classOf row)) fun _ => .ask (countAt (classOf o.v)) fun _ => treeWay o.k [row, o.v]))) := by simp [treeOf, hk]
    have hrb := held_bd hr (k := o.k) (by omega)
    obtain ⟨row, hrow⟩ : ∃ row, heldAt r o.k = row := ⟨_, rfl⟩
    rw [hrow] at hrb
    rw [ht, rowAt_eq hK, ownerAt_eq hV, ask_walk hK.1, wd_row r (by omega), hrow, walk_ite] at hW
    have hrz : ¬ (row = 0 ∨ row = o.v) := by
      intro hz
      rw [if_pos hz] at hW
      have : readN got o.k = row := by rw [HN _ (by rw [hW]; simp [done_walk]), wd_row r (by omega), hrow]
      rcases hz with hz | hz
      · simp [atOnce, hk, rowAt_eq hK, this, hz] at ha
      · simp [atOnce, hk, rowAt_eq hK, this, hz] at ha
        split at ha <;> simp at ha
    have hR : 1 ≤ row ∧ row ≤ 6 := by omega
    rw [if_neg hrz, ask_walk (by omega), wd_owner r hV, walk_ite] at hW
    simp only [not_or] at hrz
    have hkey : keyOf r o.v + 1 = 0 := by
      by_cases hz : keyOf r o.v + 1 = 0
      · exact hz
      · exfalso
        rw [if_pos hz] at hW
        have h1 : readN got o.k = row := by rw [HN _ (by rw [hW]; simp [done_walk]), wd_row r (by omega), hrow]
        have h2 : readN got (3 + o.v) = keyOf r o.v + 1 := by rw [HN _ (by rw [hW]; simp [done_walk]), wd_owner r hV]
        simp [atOnce, hk, rowAt_eq hK, ownerAt_eq hV, h1, h2, hrz, hz] at ha
    rw [if_neg (by simp [hkey]), ownerAt_eq hR, ask_walk (by omega), walk_ite, classOf_eq hR, classOf_eq hV, countAt_eq (by omega), countAt_eq (by omega),
      ask_walk (by omega), ask_walk (by omega), treeWay, ask_walk (by decide), ask_walk (by decide), wd_state, walk_ite, walk_ite, treeVs, viaAt_eq hR, ask_walk (by omega), ask_walk (by omega), treeVs, viaAt_eq hV, ask_walk (by omega), ask_walk (by omega), treeVs,
      done_walk, done_walk, done_walk, done_walk] at hW
    simp only [List.nil_append, List.cons_append] at hW
    have hkey : keyOf r o.v < 0 := by omega
    have hs0 : readN got 13 = r.state := by rw [HN _ (by rw [hW]; split <;> split <;> simp), wd_state]
    have hs1 : readN got o.k = row := by rw [HN _ (by rw [hW]; split <;> split <;> simp), wd_row r (by omega), hrow]
    simp only [hk, true_or, or_true, if_true, Option.some.injEq, MPl.mk.injEq, true_and, rowAt_eq hK, hs0, hs1, show ¬ ((2:Int) = 9) by decide, if_false] at hp
    obtain ⟨rfl, rfl⟩ := hp
    have hal : allowed r o ⟨0, []⟩ = true := by simp [allowed, hr, ho, success, hk, hrow, hrz, hkey]
    unfold PlanGood
    rw [after_set hal rfl (by simp [hk])]
    have hcl : classOf row ≠ classOf o.v → ¬ (row % 3 = o.v % 3) := by rw [classOf_eq hR, classOf_eq hV]; exact id
    have hch := change_ok hr hK hrow (by omega) hrz.2 (Or.inr hkey) H1 (by rw [hW]; split <;> split <;> simp) (by rw [hW]; split <;> split <;> simp) (fun _ => by rw [hW]; split <;> split <;> simp) (fun _ => by rw [hW]; split <;> split <;> simp)
      (fun h _ => by rw [hW, if_neg (hcl h)]; split <;> simp) (fun h _ => by rw [hW, if_neg (hcl h)]; split <;> simp)
      (fun h _ => by rw [hW]; simp only [show ¬ (r.state ≤ o.k + 1) by omega, if_false]; split <;> simp) (fun h _ => by rw [hW]; simp only [show ¬ (r.state ≤ o.k + 1) by omega, if_false]; split <;> simp)
      (fun h u hu => by rw [hW]; simp only [h, if_true]; split <;> simp <;> omega)
    exact ⟨hal, rows_set hr (by omega) (by omega) (Or.inr (Or.inl hkey)), hch⟩
  · have hK := op_k ho (by simp [hk])
    have hV : o.v = 0 := by simp [opOk, hk] at ho; exact ho.2
    have ht : treeOf o = .ask (rowAt o.k) fun row => iteT (row = 0) .done (.ask (ownerAt row) fun _ => .ask (countAt (classOf row)) fun _ => treeWay o.k [row]) := by simp [treeOf, hk]
    have hrb := held_bd hr (k := o.k) (by omega)
    obtain ⟨row, hrow⟩ : ∃ row, heldAt r o.k = row := ⟨_, rfl⟩
    rw [hrow] at hrb
    rw [ht, rowAt_eq hK, ask_walk hK.1, wd_row r (by omega), hrow, walk_ite] at hW
    have hrz : ¬ (row = 0) := by
      intro hz
      rw [if_pos hz] at hW
      have : readN got o.k = row := by rw [HN _ (by rw [hW]; simp [done_walk]), wd_row r (by omega), hrow]
      simp [atOnce, hk, rowAt_eq hK, this, hz] at ha
    have hR : 1 ≤ row ∧ row ≤ 6 := by omega
    rw [if_neg hrz, ownerAt_eq hR, ask_walk (by omega), classOf_eq hR, countAt_eq (by omega), ask_walk (by omega), treeWay, ask_walk (by decide), wd_state, walk_ite, treeVs, viaAt_eq hR, ask_walk (by omega), treeVs, done_walk, done_walk] at hW
    simp only [List.nil_append, List.cons_append] at hW
    have hs0 : readN got 13 = r.state := by rw [HN _ (by rw [hW]; split <;> simp), wd_state]
    have hs1 : readN got o.k = row := by rw [HN _ (by rw [hW]; split <;> simp), wd_row r (by omega), hrow]
    simp only [hk, true_or, or_true, if_true, Option.some.injEq, MPl.mk.injEq, true_and, rowAt_eq hK, hs0, hs1, show ¬ ((3:Int) = 9) by decide, if_false] at hp
    obtain ⟨rfl, rfl⟩ := hp
    have hal : allowed r o ⟨0, []⟩ = true := by simp [allowed, hr, ho, success, hk, hrow, hrz]
    unfold PlanGood
    rw [after_set hal rfl (by simp [hk, hV])]
    have hch := change_ok hr hK hrow (by omega) (by omega) (Or.inl hV) H1 (by rw [hW]; split <;> simp) (by rw [hW]; split <;> simp) (by omega) (fun _ => by rw [hW]; split <;> simp)
      (fun h _ => by omega) (fun h _ => by rw [hW]; split <;> simp)
      (fun h _ => by omega) (fun h _ => by rw [hW, if_neg (by omega)]; simp)
      (fun h u hu => by rw [hW, if_pos h]; simp; omega)
    exact ⟨hal, rows_set hr (by omega) (by omega) (Or.inl hV), hch⟩
  · have hK := op_k ho (by simp [hk])
    exfalso
    simp [atOnce, hk] at ha
    split at ha <;> simp at ha
  · exfalso
    simp [atOnce, hk] at ha
    split at ha <;> simp at ha
  · exfalso
    simp [atOnce, hk] at ha
  · have ht : treeOf o = .ask 0 fun _ => .ask 1 fun _ => .ask 2 fun _ => .ask 3 fun _ => .done := by simp [treeOf, hk]
    rw [ht, ask_walk (by decide), ask_walk (by decide), ask_walk (by decide), ask_walk (by decide), done_walk] at hW
    simp only [List.nil_append, List.cons_append] at hW
    have hsort : sortI W = W := by rw [hW]; decide
    rw [hplaces, hsort] at hp
    simp only [hk, show ¬ ((7:Int) = 1 ∨ (7:Int) = 2 ∨ (7:Int) = 3) by decide, show ¬ ((7:Int) = 9) by decide, if_false, if_true, Option.some.injEq, MPl.mk.injEq, true_and] at hp
    obtain ⟨rfl, rfl⟩ := hp
    have hheld : r.held = W.map (readN got) := by
      obtain ⟨a, b, c, d, h1, h2⟩ := rows_form.1 hr
      rw [hW]
      simp only [List.map_cons, List.map_nil]
      rw [HN 0 (by simp [hW]), HN 1 (by simp [hW]), HN 2 (by simp [hW]), HN 3 (by simp [hW]), wd_row r (by decide), wd_row r (by decide), wd_row r (by decide), wd_row r (by decide)]
      simp [heldAt, h1]
    have hal : allowed r o ⟨0, W.map (readN got)⟩ = true := by simp [allowed, hr, ho, success, hk, hheld]
    unfold PlanGood
    rw [after_no (by simp [hk])]
    refine ⟨hal, hr, ?_, fun _ _ _ _ => rfl⟩
    intro e he
    obtain ⟨p, hpw, rfl⟩ := List.mem_map.1 he
    simp [become, hk, HN p hpw]
  · have ht : treeOf o = .ask 13 fun _ => .done := by simp [treeOf, hk]
    rw [ht, ask_walk (by decide), done_walk] at hW
    simp only [List.nil_append] at hW
    have hs0 : readN got 13 = r.state := by rw [HN _ (by rw [hW]; simp), wd_state]
    have hz : r.state = 0 := by
      simp [atOnce, hk, hs0] at ha
      exact ha
    have hsort : sortI W = W := by rw [hW]; rfl
    rw [hplaces, hsort, hW] at hp
    simp only [hk, show ¬ ((8:Int) = 1 ∨ (8:Int) = 2 ∨ (8:Int) = 3) by decide, show ¬ ((8:Int) = 9) by decide, show ¬ ((8:Int) = 7) by decide, show ¬ ((8:Int) = 10) by decide, if_false, Option.some.injEq, MPl.mk.injEq, true_and, List.map_cons, List.map_nil, hs0, hz] at hp
    obtain ⟨rfl, rfl⟩ := hp
    have hal : allowed r o ⟨0, []⟩ = true := by simp [allowed, hr, ho, success, hk, hz]
    have haf : afterR r o ⟨0, []⟩ = { r with state := r.state + 1 } := by simp [afterR, hal, hk]
    unfold PlanGood
    rw [haf]
    have hr2 : rowsOk { r with state := r.state + 1 } = true := by
      obtain ⟨a, b, c, d, h1, h2⟩ := rows_form.1 hr
      refine rows_form.2 ⟨a, b, c, d, h1, ?_⟩
      unfold RowsQ at h2 ⊢
      simp only; omega
    refine ⟨hal, hr2, ?_, ?_⟩
    · intro e he
      simp only [List.mem_singleton] at he
      subst he
      simp only [wd_state, become, hk, if_true]
      omega
    · intro p h0 h20 hp
      have hp := hp _ (List.mem_singleton.2 rfl)
      simp only at hp
      have hkey : ∀ u, keyOf { r with state := r.state + 1 } u = keyOf r u := fun _ => rfl
      have hmany : ∀ u, howMany { r with state := r.state + 1 } u = howMany r u := fun _ => rfl
      have hheld : ∀ u, heldAt { r with state := r.state + 1 } u = heldAt r u := fun _ => rfl
      simp only [wd, hkey, hmany, hheld]
      repeat' split
      all_goals omega
  · have ht : treeOf o = .ask 13 fun s => iteT (s < 1 ∨ 4 < s) .done (.ask (rowAt (s - 1)) fun row => iteT (valOk row = false) .done (.ask (viaAt row) fun _ => .done)) := by simp [treeOf, hk]
    rw [ht, ask_walk (by decide), wd_state, walk_ite] at hW
    have hz : ¬ (r.state < 1 ∨ 4 < r.state) := by
      intro hz
      rw [if_pos hz] at hW
      have hs0 : readN got 13 = r.state := by rw [HN _ (by rw [hW]; simp [done_walk]), wd_state]
      simp [atOnce, hk, hs0, hz] at ha
    obtain ⟨row, hrow⟩ : ∃ row, heldAt r (r.state - 1) = row := ⟨_, rfl⟩
    have hrb := held_bd hr (k := r.state - 1) (by omega)
    rw [hrow] at hrb
    rw [if_neg hz, rowAt_eq (by omega), ask_walk (by omega), wd_row r (by omega), hrow, walk_ite, done_walk] at hW
    simp only [List.nil_append, List.cons_append] at hW
    have hs0 : readN got 13 = r.state := by rw [HN _ (by rw [hW]; split <;> simp [MTr.walk]; split <;> simp), wd_state]
    have hs1 : readN got (r.state - 1) = row := by rw [HN _ (by rw [hW]; split <;> simp [MTr.walk]; split <;> simp), wd_row r (by omega), hrow]
    simp only [hk, show ¬ ((9:Int) = 1 ∨ (9:Int) = 2 ∨ (9:Int) = 3) by decide, show ¬ ((9:Int) = 7) by decide, show ¬ ((9:Int) = 10) by decide, if_false, if_true, Option.some.injEq, MPl.mk.injEq, true_and, hs0, rowAt_eq (show 0 ≤ r.state - 1 ∧ r.state - 1 ≤ 3 by omega), hs1, hplaces] at hp
    obtain ⟨rfl, rfl⟩ := hp
    have hal : allowed r o ⟨0, []⟩ = true := by
      have h1 : ¬ r.state = 0 := by omega
      have h2 : ¬ r.state = 5 := by omega
      simp [allowed, hr, ho, success, hk, madeR, h1, h2]
    have haf : afterR r o ⟨0, []⟩ = { r with state := r.state + 1 } := by simp [afterR, hal, hk]
    unfold PlanGood
    rw [haf]
    have hr2 : rowsOk { r with state := r.state + 1 } = true := by
      obtain ⟨a, b, c, d, h1, h2⟩ := rows_form.1 hr
      refine rows_form.2 ⟨a, b, c, d, h1, ?_⟩
      unfold RowsQ at h2 ⊢
      simp only; omega
    have hkey : ∀ u, keyOf { r with state := r.state + 1 } u = keyOf r u := fun _ => rfl
    have hmany : ∀ u, howMany { r with state := r.state + 1 } u = howMany r u := fun _ => rfl
    have hheld : ∀ u, heldAt { r with state := r.state + 1 } u = heldAt r u := fun _ => rfl
    have hWmem : ∀ p, p ∈ W ↔ p = 13 ∨ p = r.state - 1 ∨ (1 ≤ row ∧ p = 13 + row) := by
      intro p
      rw [hW]
      by_cases hv : 1 ≤ row
      · rw [viaAt_eq ⟨hv, hrb.2⟩, ask_walk (by omega), done_walk, if_neg (by simp [valOk, isIn]; omega)]
        simp [hv]
      · rw [if_pos (by simp [valOk, isIn]; omega)]
        simp [hv]
    refine ⟨hal, hr2, ?_, ?_⟩
    · intro e he
      obtain ⟨p, hpw, rfl⟩ := List.mem_map.1 he
      have hpw := mem_sortI.1 hpw
      rw [HN p hpw]
      rcases (hWmem p).1 hpw with h | h | ⟨h1, h⟩
      · subst h
        simp [wd_state, become, hk]
      · subst h
        have h1 : ¬ (r.state - 1 = 13) := by omega
        have h2 : ¬ (r.state - 1 = viaAt row) := by
          unfold viaAt; split <;> omega
        simp only [become, hk, show ¬ ((9:Int) = 8) by decide, if_false, if_true, h1, h2]
        rw [wd_row _ (by omega), wd_row _ (by omega), hheld]
      · subst h
        have h2 : ¬ (13 + row = 13) := by omega
        simp only [become, hk, show ¬ ((9:Int) = 8) by decide, if_false, if_true, h2, viaAt_eq ⟨h1, hrb.2⟩]
        rw [wd_via _ ⟨h1, hrb.2⟩, hkey]
        have := key_held hr (k := r.state - 1) (by omega) (by rw [hrow]; omega)
        rw [hrow] at this
        rw [this]
        simp only
        split <;> omega
    · intro p h0 h20 hp
      have hpW : p ∉ W := by
        intro h
        exact hp ⟨p, _, _⟩ (List.mem_map.2 ⟨p, mem_sortI.2 h, rfl⟩) rfl
      rw [hWmem] at hpW
      simp only [not_or] at hpW
      have hneq : 13 < p → keyOf r (p - 13) ≠ r.state - 1 := by
        intro hp13 e
        have := held_key hr (u := p - 13) (by omega)
        rw [e, hrow] at this
        exact hpW.2.2 ⟨by omega, by omega⟩
      simp only [wd, hkey, hmany, hheld]
      repeat' split
      all_goals omega
  · have hV := op_v ho (by simp [hk])
    have ht : treeOf o = .ask 13 fun s => iteT (s ≠ 5) .done (.ask (viaAt o.v) fun _ => .done) := by simp [treeOf, hk]
    rw [ht, ask_walk (by decide), wd_state, walk_ite] at hW
    have hz : r.state = 5 := by
      by_cases hz : r.state = 5
      · exact hz
      · exfalso
        rw [if_pos hz] at hW
        have hs0 : readN got 13 = r.state := by rw [HN _ (by rw [hW]; simp [done_walk]), wd_state]
        simp [atOnce, hk, hs0, hz] at ha
    rw [if_neg (by simp [hz]), viaAt_eq hV, ask_walk (by omega), done_walk] at hW
    simp only [List.nil_append, List.cons_append] at hW
    have hs1 : readN got (13 + o.v) = keyOf r o.v + 1 := by
      rw [HN _ (by rw [hW]; simp), wd_via r hV]
      have := hkb o.v
      have h2 := (key_bd hr o.v).2
      split <;> omega
    simp only [hk, show ¬ ((10:Int) = 1 ∨ (10:Int) = 2 ∨ (10:Int) = 3) by decide, show ¬ ((10:Int) = 7) by decide, if_false, if_true, Option.some.injEq, MPl.mk.injEq, true_and, viaAt_eq hV, hs1, hplaces, show keyOf r o.v + 1 - 1 = keyOf r o.v by omega] at hp
    obtain ⟨rfl, rfl⟩ := hp
    unfold PlanGood
    rw [after_no (by simp [hk])]
    refine ⟨?_, hr, ?_, fun _ _ _ _ => rfl⟩
    · by_cases hk0 : keyOf r o.v + 1 = 0
      · have : keyOf r o.v < 0 := by omega
        rw [if_pos hk0]
        simp [allowed, hr, ho, refusal, hk, madeR, hz, this]
      · have : 0 ≤ keyOf r o.v := by have := hkb o.v; omega
        rw [if_neg hk0]
        simp [allowed, hr, ho, success, hk, madeR, hz, this]
    · intro e he
      obtain ⟨p, hpw, rfl⟩ := List.mem_map.1 he
      have hpw := mem_sortI.1 hpw
      simp [become, hk, HN p hpw]
end Go.Proofs.YtoeieoapnhhaeaaGreat.Den
namespace Go.Proofs.YtoeieoapnhhaeaaGreat.Den
set_option linter.unusedSimpArgs false
set_option linter.unusedVariables false
structure MWd where
  n : Int
  t : Int
  seq : Int
deriving DecidableEq, Inhabited
structure MDc where
  seq : Int
  status : Int
  list : List MEn
  res : MRs
deriving DecidableEq, Inhabited
structure MHl where
  t : Int
  seq : Int
  pos : Int
  fin : Int
deriving DecidableEq, Inhabited
structure MTh where
  ops : List MOp
  pc : Int
  on : Bool
  got : List MPr
  stack : List MHl
deriving DecidableEq, Inhabited
structure MCl where
  t : Int
  op : MOp
  start : Int
  lin : Int
  fin : Int
  res : MRs
deriving DecidableEq, Inhabited
structure MMe where
  words : List MWd
  descs : List MDc
deriving DecidableEq, Inhabited
structure MMa where
  mem : MMe
  ths : List MTh
  time : Int
  calls : List MCl
  order : List Int
  first : MRw
deriving DecidableEq, Inhabited
def atI {α : Type} [Inhabited α] (l : List α) (i : Int) : α := l.getD i.toNat default
def setI {α : Type} (l : List α) (i : Int) (x : α) : List α := l.set i.toNat x
def allAt {α : Type} (p : Nat → α → Bool) : Nat → List α → Bool
  | _, [] => true
  | i, x :: r => p i x && allAt p (i + 1) r
theorem allAt_iff {α : Type} {p : Nat → α → Bool} : ∀ {l : List α} {i : Nat}, allAt p i l = true ↔ ∀ j (h : j < l.length), p (i + j) l[j] = true
  | [], i => by simp [allAt]
  | x :: r, i => by
    simp only [allAt, Bool.and_eq_true, allAt_iff (l := r)]
    constructor
    · rintro ⟨h1, h2⟩ j hj
      cases j with
      | zero => exact h1
      | succ j => have := h2 j (by simpa using hj); rw [show i + 1 + j = i + (j + 1) by omega] at this; exact this
    · intro h
      refine ⟨h 0 (by simp), fun j hj => ?_⟩
      have := h (j + 1) (by simpa using hj)
      rw [show i + (j + 1) = i + 1 + j by omega] at this
      exact this
def placeOk (n : Int) : Bool := isIn n 0 19
def numOk (n : Int) : Bool := isIn n 0 1000
def wordOk (w : MWd) (n : Int) : Bool :=
  if w.t = 0 then numOk w.n && decide (w.seq = 0) else decide (w.n = 0) && (isIn w.t 1 n && isIn w.seq 1 1000000)
def entOk (l : List MEn) (i : Nat) (e : MEn) : Bool := placeOk e.pos && (numOk e.old && (numOk e.new && (decide (i = 0) || decide ((l.getD (i - 1) default).pos < e.pos))))
def descOk (d : MDc) : Bool :=
  if d.seq = 0 then decide (d.status = 0) && (decide (d.list.length = 0) && (decide (d.res.code = 0) && decide (d.res.list.length = 0)))
  else allAt (entOk d.list) 0 d.list && (isIn d.seq 1 1000000 && (isIn d.status 1 3 && decide (d.list.length ≤ 20)))
def entryOf (l : List MEn) (p : Int) : Option MEn := l.find? fun e => decide (e.pos = p)
def valueAt (words : List MWd) (descs : List MDc) (p : Int) : Int :=
  if isIn p 0 ((words.length : Int) - 1) then
    let w := atI words p
    if w.t = 0 then w.n
    else if isIn w.t 1 descs.length then
      let d := atI descs (w.t - 1)
      let e := (entryOf d.list p).getD default
      if d.seq = w.seq ∧ d.status = 2 then e.new else e.old
    else 0
  else 0
def meaning (words : List MWd) (descs : List MDc) : List Int := (List.range words.length).map fun (i : Nat) => valueAt words descs (i : Int)
def wordIn (m : MMe) (i : Nat) (w : MWd) : Bool :=
  wordOk w m.descs.length && (decide (w.t = 0) || ((entryOf (atI m.descs (w.t - 1)).list i).isSome && decide ((atI m.descs (w.t - 1)).seq = w.seq)))
def memOk (m : MMe) : Bool :=
  decide (m.words.length = 20) && (isIn m.descs.length 1 4 && (m.descs.all descOk && allAt (wordIn m) 0 m.words))
def memNew (r : MRw) (n : Nat) : MMe := ⟨(wordsOf r).map fun n => ⟨n, 0, 0⟩, List.replicate n ⟨0, 0, [], ⟨0, []⟩⟩⟩
def markOf (h : MHl) : MWd := ⟨0, h.t + 1, h.seq⟩
def h00 : MHl := ⟨0, 0, 0, 0⟩
def statusD (m : MMe) (t : Int) (s : Int) : MMe := { m with descs := setI m.descs t { atI m.descs t with status := s } }
def layM (m : MMe) (h : MHl) : MMe × MHl × MHl × Int :=
  let d := atI m.descs h.t
  if (d.list.length : Int) ≤ h.pos then (statusD m h.t 2, h, h00, 3)
  else
    let e := atI d.list h.pos
    let w := atI m.words e.pos
    if w = markOf h then (m, { h with pos := h.pos + 1 }, h00, 0)
    else if w.t ≠ 0 then (m, h, ⟨w.t - 1, w.seq, 0, 0⟩, 1)
    else if w.n = e.old then ({ m with words := setI m.words e.pos (markOf h) }, { h with pos := h.pos + 1 }, h00, 0)
    else (statusD m h.t 3, h, h00, 0)
def assistM (m : MMe) (h : MHl) : MMe × MHl × MHl × Int :=
  let d := atI m.descs h.t
  if memOk m && (isIn h.t 0 ((m.descs.length : Int) - 1) && (decide (1 ≤ h.seq) && decide (d.seq = h.seq))) then
    if d.status = 1 then layM m h
    else if d.status = 0 ∨ (d.list.length : Int) ≤ h.fin then (m, h, h00, 2)
    else
      let e := atI d.list h.fin
      let w := atI m.words e.pos
      (if w = markOf h then { m with words := setI m.words e.pos ⟨if d.status = 2 then e.new else e.old, 0, 0⟩ } else m, { h with fin := h.fin + 1 }, h00, 0)
  else (m, h, h00, 2)
def beginM (m : MMe) (t : Int) (list : List MEn) (s : MRs) : Option (MMe × MHl) :=
  if memOk m && (isIn t 0 ((m.descs.length : Int) - 1) && !(m.words.any fun w => decide (w.t = t + 1))) then
    let q := (atI m.descs t).seq + 1
    let next : MMe := { m with descs := setI m.descs t ⟨q, 1, list, s⟩ }
    if memOk next then some (next, ⟨t, q, 0, 0⟩) else none
  else none
def pairIn (p : MPr) : Bool := placeOk p.pos && numOk p.n
def helpIn (n : Int) (h : MHl) : Bool := isIn h.t 0 (n - 1) && (isIn h.seq 1 1000000 && (isIn h.pos 0 20 && isIn h.fin 0 20))
def threadOk (x : MTh) (n : Int) : Bool :=
  (!decide (8 < x.ops.length) && (x.ops.all opOk && (isIn x.pc 0 x.ops.length && (!(x.on && decide (x.pc = x.ops.length)) && (!decide (12 < x.got.length) && !decide (2 < x.stack.length)))))) &&
  (!(!x.on && decide (0 < x.got.length + x.stack.length)) && (x.got.all pairIn && x.stack.all (helpIn n)))
def pushT (x : MTh) (h : MHl) : MTh := { x with stack := x.stack ++ [h] }
def topT (x : MTh) : MHl := x.stack.getLastD h00
def swapT (x : MTh) (h : MHl) : MTh := if x.stack = [] then x else { x with stack := x.stack.dropLast ++ [h] }
def popT (x : MTh) : MTh := { x with stack := x.stack.dropLast }
def linsN (calls : List MCl) : Int := ((calls.filter fun c => decide (0 ≤ c.lin)).length : Int)
def orderIn (m : MMa) (i : Nat) (k : Int) : Bool :=
  isIn k 0 ((m.calls.length : Int) - 1) && (decide (0 ≤ (atI m.calls k).lin) && (!((m.order.take i).contains k) && (decide (i = 0) || decide ((atI m.calls (m.order.getD (i - 1) 0)).lin ≤ (atI m.calls k).lin))))
def orderOk (m : MMa) : Bool := allAt (orderIn m) 0 m.order && decide (linsN m.calls = m.order.length)
def endedN (calls : List MCl) (t : Int) : Int := ((calls.filter fun c => decide (c.t = t) && decide (0 ≤ c.fin)).length : Int)
def openN (calls : List MCl) (t : Int) : Int := ((calls.filter fun c => decide (c.t = t) && !decide (0 ≤ c.fin)).length : Int)
def lastDn (calls : List MCl) (t : Int) : Nat → Int
  | 0 => -1
  | i + 1 => if (calls.getD i default).t = t then (i : Int) else lastDn calls t i
def openDn (calls : List MCl) (t : Int) : Nat → Int
  | 0 => -1
  | i + 1 => if (calls.getD i default).t = t ∧ (calls.getD i default).fin < 0 then (i : Int) else openDn calls t i
def openCall (m : MMa) (t : Int) : Int := openDn m.calls t m.calls.length
def callsOk (m : MMa) (t : Int) : Bool :=
  let x := atI m.ths t
  let last := lastDn m.calls t m.calls.length
  decide (endedN m.calls t = x.pc) &&
  (if x.on then decide (0 ≤ last) && (decide (openN m.calls t = 1) && (decide ((atI m.calls last).fin = -1) && decide ((atI m.calls last).op = atI x.ops x.pc)))
   else decide (openN m.calls t = 0))
def whenOk (m : MMa) (c : MCl) (x : Int) : Bool := decide (x = -1) || isIn x c.start m.time
def callOk (m : MMa) (c : MCl) : Bool :=
  isIn c.t 0 ((m.ths.length : Int) - 1) && (opOk c.op && (isIn c.start 0 m.time && (whenOk m c c.lin && whenOk m c c.fin)))
def machineOk (m : MMa) : Bool :=
  memOk m.mem && (decide (m.mem.descs.length = m.ths.length) && (isIn m.time 0 100000 && (!decide (40 < m.calls.length) && (rowsOk m.first &&
    (m.calls.all (callOk m) && (allAt (fun i x => threadOk x m.ths.length && callsOk m i) 0 m.ths && orderOk m))))))
def machineNew (r : MRw) (l : List (List MOp)) : MMa := ⟨memNew r l.length, l.map fun ops => ⟨ops, 0, false, [], []⟩, 0, [], [], r⟩
def soC (m : MMa) (t : Int) (s : MRs) : MMa :=
  let k := openCall m t
  if k < 0 then m else { m with calls := setI m.calls k { atI m.calls k with lin := m.time, res := s }, order := m.order ++ [k] }
def endC (m : MMa) (t : Int) (s : MRs) : MMa :=
  let k := openCall m t
  let x := atI m.ths t
  { m with calls := (if 0 ≤ k then setI m.calls k { atI m.calls k with fin := m.time, res := s } else m.calls), ths := setI m.ths t ⟨x.ops, x.pc + 1, false, [], []⟩ }
def setT (m : MMa) (t : Int) (x : MTh) : MMa := { m with ths := setI m.ths t x }
def assistT (m : MMa) (t : Int) : MMa :=
  let x := atI m.ths t
  let h := topT x
  let a := assistM m.mem h
  let m := { m with mem := a.1 }
  if a.2.2.2 = 1 then
    if h.t = t ∧ x.stack.length = 1 then setT m t (pushT x a.2.2.1) else setT m t (swapT x a.2.2.1)
  else if a.2.2.2 = 2 then
    if h.t ≠ t then setT m t (popT x)
    else if (atI m.mem.descs t).status = 2 then endC (setT m t { x with stack := [] }) t (atI m.mem.descs t).res
    else setT m t { x with stack := [], got := [] }
  else if a.2.2.2 = 3 then setT (soC m h.t (atI m.mem.descs h.t).res) t (swapT x a.2.1)
  else setT m t (swapT x a.2.1)
def planT (m : MMa) (t : Int) (x : MTh) (o : MOp) : Option MMa :=
  match planOf o x.got with
  | none => some (setT m t x)
  | some p =>
    if p.now then some (endC (soC (setT m t x) t p.res) t p.res)
    else
      match beginM m.mem t p.list p.res with
      | none => none
      | some (mem, h) => some (setT { m with mem := mem } t (pushT x h))
def workT (m : MMa) (t : Int) : Option MMa :=
  let x := atI m.ths t
  let o := atI x.ops x.pc
  let p := nextP o x.got
  if 0 ≤ p then
    let w := atI m.mem.words p
    if w.t ≠ 0 then some (setT m t (pushT x ⟨w.t - 1, w.seq, 0, 0⟩))
    else planT m t { x with got := x.got ++ [⟨p, w.n⟩] } o
  else planT m t x o
def stepRaw (m : MMa) (t : Int) : Option MMa :=
  let m := { m with time := m.time + 1 }
  let x := atI m.ths t
  if x.on = false then
    some (setT { m with calls := m.calls ++ [⟨t, atI x.ops x.pc, m.time, -1, -1, ⟨0, []⟩⟩] } t { x with on := true })
  else if x.stack ≠ [] then some (assistT m t)
  else workT m t
def stepM (m : MMa) (t : Int) : MMa × Bool :=
  if machineOk m && (isIn t 0 ((m.ths.length : Int) - 1) && (!decide ((atI m.ths t).pc = (atI m.ths t).ops.length) && !decide (m.time = 100000))) then
    match stepRaw m t with
    | none => (m, false)
    | some n => if machineOk n then (n, true) else (m, false)
  else (m, false)
end Go.Proofs.YtoeieoapnhhaeaaGreat.Den
namespace Go.Proofs.YtoeieoapnhhaeaaGreat.Den
set_option linter.unusedSimpArgs false
set_option linter.unusedVariables false
section
variable {α : Type} [Inhabited α]
omit [Inhabited α] in
theorem setI_len (l : List α) (i : Int) (x : α) : (setI l i x).length = l.length := by simp [setI]
theorem atI_set_same {l : List α} {i : Int} {x : α} (h : 0 ≤ i ∧ i < (l.length : Int)) : atI (setI l i x) i = x := by
  have : i.toNat < l.length := by omega
  simp [atI, setI, this]
theorem atI_set_ne {l : List α} {i j : Int} {x : α} (h0 : 0 ≤ i) (h1 : 0 ≤ j) (h : i ≠ j) : atI (setI l i x) j = atI l j := by
  have : i.toNat ≠ j.toNat := by omega
  simp only [atI, setI, List.getD_eq_getElem?_getD]
  rw [List.getElem?_set_ne this]
theorem atI_get {l : List α} {i : Int} (h : 0 ≤ i ∧ i < (l.length : Int)) : ∃ hi : i.toNat < l.length, atI l i = l[i.toNat] := by
  have hi : i.toNat < l.length := by omega
  exact ⟨hi, by simp [atI, hi]⟩
theorem atI_mem {l : List α} {i : Int} (h : 0 ≤ i ∧ i < (l.length : Int)) : atI l i ∈ l := by
  obtain ⟨hi, e⟩ := atI_get h
  rw [e]; exact List.getElem_mem hi
theorem atI_nat (l : List α) (i : Nat) : atI l (i : Int) = l.getD i default := by simp [atI]
end
structure MemQ (m : MMe) : Prop where
  w20 : m.words.length = 20
  n1 : 1 ≤ m.descs.length
  n4 : m.descs.length ≤ 4
  desc : ∀ t : Int, 0 ≤ t → t < m.descs.length → descOk (atI m.descs t) = true
  word : ∀ p : Int, 0 ≤ p → p < 20 → wordIn m p.toNat (atI m.words p) = true
theorem memQ {m : MMe} (h : memOk m = true) : MemQ m := by
  simp only [memOk, Bool.and_eq_true, decide_eq_true_eq, isIn_iff, List.all_eq_true, allAt_iff] at h
  obtain ⟨h1, ⟨h2, h3⟩, h4, h5⟩ := h
  refine ⟨h1, by omega, by omega, fun t h0 ht => h4 _ (atI_mem ⟨h0, ht⟩), fun p h0 hp => ?_⟩
  obtain ⟨hi, e⟩ := atI_get (l := m.words) (i := p) ⟨h0, by omega⟩
  have := h5 p.toNat hi
  rw [e]; simpa using this
theorem MemQ.mark {m : MMe} (h : MemQ m) {p : Int} (h0 : 0 ≤ p) (h20 : p < 20) (ht : (atI m.words p).t ≠ 0) :
    (atI m.words p).n = 0 ∧ 0 ≤ (atI m.words p).t - 1 ∧ (atI m.words p).t - 1 < m.descs.length ∧ 1 ≤ (atI m.words p).seq ∧ (atI m.words p).seq ≤ 1000000 ∧
    (∃ e, entryOf (atI m.descs ((atI m.words p).t - 1)).list p = some e) ∧ (atI m.descs ((atI m.words p).t - 1)).seq = (atI m.words p).seq := by
  have := h.word p h0 h20
  generalize atI m.words p = w at this ht
  simp only [wordIn, wordOk, ht, if_false, Bool.and_eq_true, decide_eq_true_eq, isIn_iff, decide_false, Bool.false_or, Option.isSome_iff_exists] at this
  obtain ⟨⟨h1, h2, h3⟩, h4, h5⟩ := this
  rw [show ((p.toNat : Nat) : Int) = p by omega] at h4
  exact ⟨h1, by omega, by omega, by omega, by omega, h4, h5⟩
theorem MemQ.plain {m : MMe} (h : MemQ m) {p : Int} (h0 : 0 ≤ p) (h20 : p < 20) (ht : (atI m.words p).t = 0) : 0 ≤ (atI m.words p).n ∧ (atI m.words p).n ≤ 1000 := by
  have := h.word p h0 h20
  generalize atI m.words p = w at this ht
  simp only [wordIn, wordOk, ht, if_true, Bool.and_eq_true, decide_eq_true_eq, numOk, isIn_iff] at this
  omega
structure DescQ (d : MDc) : Prop where
  s1 : 1 ≤ d.seq
  s2 : d.seq ≤ 1000000
  st : 1 ≤ d.status ∧ d.status ≤ 3
  len : d.list.length ≤ 20
  ent : ∀ e ∈ d.list, 0 ≤ e.pos ∧ e.pos < 20
  asc : ∀ i j : Nat, i < j → j < d.list.length → (atI d.list i).pos < (atI d.list j).pos
theorem descQ {d : MDc} (h : descOk d = true) (h0 : d.seq ≠ 0) : DescQ d := by
  simp only [descOk, h0, if_false, Bool.and_eq_true, decide_eq_true_eq, isIn_iff, allAt_iff, entOk, placeOk] at h
  obtain ⟨h1, h2, h3, h4⟩ := h
  refine ⟨by omega, by omega, h3, h4, fun e he => ?_, fun i j hij hj => ?_⟩
  · obtain ⟨j, hj, rfl⟩ := List.mem_iff_getElem.1 he
    have := (h1 j hj).1
    omega
  · have step : ∀ k : Nat, k + 1 < d.list.length → (atI d.list k).pos < (atI d.list (k + 1 : Nat)).pos := by
      intro k hk
      have := (h1 (k + 1) hk).2.2.2
      have hz : ¬ (0 + (k + 1) = 0) := by omega
      have e1 : 0 + (k + 1) - 1 = k := by omega
      simp only [hz, decide_false, Bool.false_or, decide_eq_true_eq, e1, Bool.or_eq_true, false_or, Bool.false_eq_true] at this
      rw [atI_nat, atI_nat, List.getD_eq_getElem?_getD (i := k + 1), List.getElem?_eq_getElem hk, Option.getD_some]
      exact this
    induction j with
    | zero => omega
    | succ j ih =>
      have := step j hj
      by_cases hh : i = j
      · subst hh; exact this
      · have := ih (by omega) (by omega)
        omega
theorem entry_mem {l : List MEn} {p : Int} {e : MEn} (h : entryOf l p = some e) : e ∈ l ∧ e.pos = p := by
  unfold entryOf at h
  exact ⟨List.mem_of_find?_eq_some h, by simpa using List.find?_some h⟩
theorem DescQ.entry {d : MDc} (h : DescQ d) {e : MEn} (he : e ∈ d.list) : entryOf d.list e.pos = some e := by
  cases hx : entryOf d.list e.pos with
  | none =>
    simp only [entryOf, List.find?_eq_none, decide_eq_true_eq] at hx
    exact absurd rfl (hx e he)
  | some y =>
    obtain ⟨h1, h2⟩ := entry_mem hx
    obtain ⟨i, hi, rfl⟩ := List.mem_iff_getElem.1 he
    obtain ⟨j, hj, rfl⟩ := List.mem_iff_getElem.1 h1
    have ei : atI d.list (i : Int) = d.list[i] := by simp [atI, hi]
    have ej : atI d.list (j : Int) = d.list[j] := by simp [atI, hj]
    rcases Nat.lt_trichotomy i j with hl | hl | hl
    · have := h.asc i j hl hj
      rw [ei, ej] at this; omega
    · subst hl; rfl
    · have := h.asc j i hl hi
      rw [ei, ej] at this; omega
def valP (m : MMe) (p : Int) : Int :=
  if (atI m.words p).t = 0 then (atI m.words p).n
  else if (atI m.descs ((atI m.words p).t - 1)).status = 2 then ((entryOf (atI m.descs ((atI m.words p).t - 1)).list p).getD default).new
  else ((entryOf (atI m.descs ((atI m.words p).t - 1)).list p).getD default).old
theorem MemQ.val {m : MMe} (h : MemQ m) {p : Int} (h0 : 0 ≤ p) (h20 : p < 20) : valueAt m.words m.descs p = valP m p := by
  have hl := h.w20
  unfold valueAt valP
  rw [if_pos (isIn_iff.2 (by omega))]
  simp only
  by_cases ht : (atI m.words p).t = 0
  · rw [if_pos ht, if_pos ht]
  · obtain ⟨_, h1, h2, _, _, _, h3⟩ := h.mark h0 h20 ht
    rw [if_neg ht, if_neg ht, if_pos (isIn_iff.2 (by omega))]
    simp only [h3, true_and]
theorem valP_ne {m : MMe} {q p : Int} {w : MWd} (hq : 0 ≤ q) (hp : 0 ≤ p) (h : q ≠ p) : valP { m with words := setI m.words q w } p = valP m p := by
  unfold valP
  simp only
  rw [atI_set_ne hq hp h]
theorem valP_same {m : MMe} {q : Int} {w : MWd} (hq : 0 ≤ q ∧ q < (m.words.length : Int)) : valP { m with words := setI m.words q w } q =
    if w.t = 0 then w.n
    else if (atI m.descs (w.t - 1)).status = 2 then ((entryOf (atI m.descs (w.t - 1)).list q).getD default).new
    else ((entryOf (atI m.descs (w.t - 1)).list q).getD default).old := by
  unfold valP
  simp only
  rw [atI_set_same hq]
def Means (m : MMe) (r : MRw) : Prop := ∀ p : Int, 0 ≤ p → p < 20 → valP m p = wd r p
theorem Means.list {m : MMe} {r : MRw} (h : MemQ m) (hr : rowsOk r = true) (hm : Means m r) : meaning m.words m.descs = wordsOf r := by
  simp only [meaning, wordsOf, hr, if_true, h.w20]
  refine List.map_congr_left fun i hi => ?_
  have hi : i < 20 := by simpa using hi
  rw [h.val (by omega) (by omega)]
  exact hm i (by omega) (by omega)
structure Keeps (m m' : MMe) : Prop where
  dl : m'.descs.length = m.descs.length
  seq : ∀ t, 0 ≤ t → t < (m.descs.length : Int) → (atI m'.descs t).seq = (atI m.descs t).seq
  list : ∀ t, 0 ≤ t → t < (m.descs.length : Int) → (atI m'.descs t).list = (atI m.descs t).list
  res : ∀ t, 0 ≤ t → t < (m.descs.length : Int) → (atI m'.descs t).res = (atI m.descs t).res
  open_ : ∀ t, 0 ≤ t → t < (m.descs.length : Int) → (atI m'.descs t).status = 1 → (atI m.descs t).status = 1
  marks : ∀ t, 0 ≤ t → t < (m.descs.length : Int) → (atI m'.descs t).status = 1 → ∀ p, 0 ≤ p → p < 20 → atI m.words p = ⟨0, t + 1, (atI m.descs t).seq⟩ → atI m'.words p = ⟨0, t + 1, (atI m.descs t).seq⟩
theorem Keeps.refl (m : MMe) : Keeps m m := ⟨rfl, fun _ _ _ => rfl, fun _ _ _ => rfl, fun _ _ _ => rfl, fun _ _ _ h => h, fun _ _ _ _ _ _ _ h => h⟩
theorem status_at {m : MMe} {t s : Int} (ht : 0 ≤ t ∧ t < (m.descs.length : Int)) (k : Int) (hk : 0 ≤ k) :
    atI (statusD m t s).descs k = if t = k then { atI m.descs t with status := s } else atI m.descs k := by
  unfold statusD
  by_cases h : t = k
  · subst h; simp only [if_true]; exact atI_set_same ht
  · simp only [h, if_false]; exact atI_set_ne ht.1 hk h
theorem keeps_status {m : MMe} {t s : Int} (ht : 0 ≤ t ∧ t < (m.descs.length : Int)) (hs : s ≠ 1) : Keeps m (statusD m t s) := by
  refine ⟨by simp [statusD, setI_len], fun k h0 h1 => ?_, fun k h0 h1 => ?_, fun k h0 h1 => ?_, fun k h0 h1 => ?_, fun k h0 h1 _ p _ _ h => h⟩
  all_goals rw [status_at ht k h0]
  all_goals by_cases h : t = k
  all_goals simp [h, hs]
theorem keeps_words {m : MMe} {q : Int} {w : MWd} (hq : 0 ≤ q ∧ q < 20) (hl : m.words.length = 20)
    (h : ∀ t, 0 ≤ t → t < (m.descs.length : Int) → (atI m.descs t).status = 1 → atI m.words q = ⟨0, t + 1, (atI m.descs t).seq⟩ → w = ⟨0, t + 1, (atI m.descs t).seq⟩) :
    Keeps m { m with words := setI m.words q w } := by
  refine ⟨rfl, fun _ _ _ => rfl, fun _ _ _ => rfl, fun _ _ _ => rfl, fun _ _ _ h => h, fun t h0 h1 hs p hp0 hp1 hw => ?_⟩
  by_cases hpq : q = p
  · subst hpq
    rw [atI_set_same (by omega)]
    exact h t h0 h1 hs hw
  · rw [atI_set_ne hq.1 hp0 hpq]
    exact hw
inductive Helped (m : MMe) (h : MHl) : MMe × MHl × MHl × Int → Prop
  | pop : (atI m.descs h.t).seq ≠ h.seq ∨ (atI m.descs h.t).status ≠ 1 → Helped m h (m, h, h00, 2)
  | yes : (atI m.descs h.t).seq = h.seq → (atI m.descs h.t).status = 1 → ((atI m.descs h.t).list.length : Int) ≤ h.pos → Helped m h (statusD m h.t 2, h, h00, 3)
  | push (w : MWd) (p : Int) : 0 ≤ p → p < 20 → atI m.words p = w → w.t ≠ 0 → Helped m h (m, h, ⟨w.t - 1, w.seq, 0, 0⟩, 1)
  | go (m' : MMe) (h' : MHl) : Keeps m m' → (∀ p : Int, 0 ≤ p → p < 20 → valP m' p = valP m p) → h'.t = h.t → h'.seq = h.seq →
      (h'.pos = h.pos ∨ (h'.pos = h.pos + 1 ∧ 0 ≤ h.pos ∧ h.pos < (atI m.descs h.t).list.length ∧ (atI m'.words (atI (atI m.descs h.t).list h.pos).pos = markOf h))) → Helped m h (m', h', h00, 0)
theorem assist_does {m : MMe} {h : MHl} (hm : memOk m = true) (ht : 0 ≤ h.t ∧ h.t < (m.descs.length : Int)) (hs : 1 ≤ h.seq) (hp : 0 ≤ h.pos) (hf : 0 ≤ h.fin) : Helped m h (assistM m h) := by
  have hq := memQ hm
  unfold assistM
  simp only [hm, Bool.true_and, isIn_iff, Bool.and_eq_true, decide_eq_true_eq]
  by_cases hseq : (atI m.descs h.t).seq = h.seq
  · rw [if_pos ⟨by omega, hs, hseq⟩]
    have hdo := hq.desc h.t ht.1 ht.2
    have hd := descQ hdo (by omega)
    by_cases hst : (atI m.descs h.t).status = 1
    · rw [if_pos hst]
      unfold layM
      simp only
      by_cases hlen : ((atI m.descs h.t).list.length : Int) ≤ h.pos
      · rw [if_pos hlen]
        exact .yes hseq hst hlen
      · rw [if_neg hlen]
        obtain ⟨e, he⟩ : ∃ e, atI (atI m.descs h.t).list h.pos = e := ⟨_, rfl⟩
        have hem : e ∈ (atI m.descs h.t).list := by rw [← he]; exact atI_mem ⟨hp, by omega⟩
        have hep := hd.ent e hem
        rw [he]
        by_cases hw : atI m.words e.pos = markOf h
        · rw [if_pos hw]
          exact .go _ _ (.refl m) (fun _ _ _ => rfl) rfl rfl (.inr ⟨rfl, hp, by omega, by rw [he]; exact hw⟩)
        · rw [if_neg hw]
          by_cases hwt : (atI m.words e.pos).t = 0
          · rw [if_neg (by simpa using hwt)]
            by_cases hwn : (atI m.words e.pos).n = e.old
            · rw [if_pos hwn]
              refine .go _ _ (keeps_words hep hq.w20 fun t _ _ _ hx => ?_) (fun p h0 h1 => ?_) rfl rfl (.inr ⟨rfl, hp, by omega, ?_⟩)
              · rw [hx] at hwt; simp at hwt; omega
              · by_cases hpe : e.pos = p
                · subst hpe
                  have hz : ¬ ((markOf h).t = 0) := by simp only [markOf]; omega
                  rw [valP_same (by have := hq.w20; omega), if_neg hz]
                  simp only [markOf, show h.t + 1 - 1 = h.t by omega, hst, hd.entry hem, Option.getD_some]
                  unfold valP
                  rw [if_pos hwt]
                  simp [hwn]
                · exact valP_ne hep.1 h0 hpe
              · rw [he]
                exact atI_set_same (by have := hq.w20; omega)
            · rw [if_neg hwn]
              refine .go _ _ (keeps_status ht (by decide)) (fun p h0 h1 => ?_) rfl rfl (.inl rfl)
              unfold valP
              by_cases hz : (atI m.words p).t = 0
              · simp [statusD, hz]
              · obtain ⟨_, q1, q2, _, _, _, _⟩ := hq.mark h0 h1 hz
                rw [show (statusD m h.t 3).words = m.words from rfl, if_neg hz, if_neg hz, status_at ht _ q1]
                by_cases hk : h.t = (atI m.words p).t - 1
                · simp [← hk, hst]
                · simp [hk]
          · rw [if_pos (by simpa using hwt)]
            exact .push _ e.pos hep.1 hep.2 rfl hwt
    · rw [if_neg hst]
      by_cases hpop : (atI m.descs h.t).status = 0 ∨ ((atI m.descs h.t).list.length : Int) ≤ h.fin
      · rw [if_pos hpop]
        exact .pop (.inr hst)
      · rw [if_neg hpop]
        have hlen : ¬ ((atI m.descs h.t).list.length : Int) ≤ h.fin := fun hh => hpop (.inr hh)
        obtain ⟨e, he⟩ : ∃ e, atI (atI m.descs h.t).list h.fin = e := ⟨_, rfl⟩
        have hem : e ∈ (atI m.descs h.t).list := by rw [← he]; exact atI_mem ⟨hf, by omega⟩
        have hep := hd.ent e hem
        rw [he]
        by_cases hw : atI m.words e.pos = markOf h
        · rw [if_pos hw]
          refine .go _ _ (keeps_words hep hq.w20 fun t h0 h1 h2 hx => ?_) (fun p h0 h1 => ?_) rfl rfl (.inl rfl)
          · rw [hw] at hx
            simp only [markOf, MWd.mk.injEq, true_and] at hx
            have : h.t = t := by omega
            rw [this] at hst
            exact absurd h2 hst
          · by_cases hpe : e.pos = p
            · subst hpe
              have hz : ¬ ((markOf h).t = 0) := by simp only [markOf]; omega
              rw [valP_same (by have := hq.w20; omega), if_pos rfl]
              unfold valP
              rw [hw, if_neg hz]
              simp only [markOf, show h.t + 1 - 1 = h.t by omega, hd.entry hem, Option.getD_some]
            · exact valP_ne hep.1 h0 hpe
        · rw [if_neg hw]
          exact .go _ _ (.refl m) (fun _ _ _ => rfl) rfl rfl (.inl rfl)
  · rw [if_neg (by intro hh; exact hseq hh.2.2)]
    exact .pop (.inl hseq)
end Go.Proofs.YtoeieoapnhhaeaaGreat.Den
namespace Go.Proofs.YtoeieoapnhhaeaaGreat.Den
set_option linter.unusedSimpArgs false
set_option linter.unusedVariables false
theorem next_tree {o : MOp} (ho : opOk o = true) (got : List MPr) : nextP o got = ((treeOf o).run got []).2 := by
  simp [nextP, ho, tree_miss.1]
theorem next_nil {o : MOp} (ho : opOk o = true) : 0 ≤ nextP o [] := by
  rw [next_tree ho]
  have hkind := op_kind ho
  have key : ∀ (p : Int) (k : Int → MTr), 0 ≤ p → 0 ≤ ((MTr.ask p k).run [] []).2 := by
    intro p k hp
    simp only [MTr.run, readP, List.reverse_nil, List.find?_nil, Option.map_none, or_true, if_true]
    exact hp
  have hcases : o.kind = 1 ∨ o.kind = 2 ∨ o.kind = 3 ∨ o.kind = 4 ∨ o.kind = 5 ∨ o.kind = 6 ∨ o.kind = 7 ∨ o.kind = 8 ∨ o.kind = 9 ∨ o.kind = 10 := by omega
  rcases hcases with hk | hk | hk | hk | hk | hk | hk | hk | hk | hk
  · have hK := op_k ho (by simp [hk]); simp only [treeOf, hk, if_true]; exact key _ _ (by rw [rowAt_eq hK]; omega)
  · have hK := op_k ho (by simp [hk]); simp [treeOf, hk]; exact key _ _ (by rw [rowAt_eq hK]; omega)
  · have hK := op_k ho (by simp [hk]); simp [treeOf, hk]; exact key _ _ (by rw [rowAt_eq hK]; omega)
  · have hK := op_k ho (by simp [hk]); simp [treeOf, hk]; exact key _ _ (by rw [rowAt_eq hK]; omega)
  · have hV := op_v ho (by simp [hk]); simp [treeOf, hk]; exact key _ _ (by rw [ownerAt_eq hV]; omega)
  · have hC := op_c ho hk; simp [treeOf, hk]; exact key _ _ (by rw [countAt_eq hC]; omega)
  · simp [treeOf, hk]; exact key _ _ (by omega)
  · simp [treeOf, hk]; exact key _ _ (by omega)
  · simp [treeOf, hk]; exact key _ _ (by omega)
  · simp [treeOf, hk]; exact key _ _ (by omega)
theorem yes_means {m : MMe} {r : MRw} {t : Int} {o : MOp} {got : List MPr} (hm : MemQ m) (ht : 0 ≤ t ∧ t < (m.descs.length : Int)) (hst : (atI m.descs t).status = 1) (hs : 1 ≤ (atI m.descs t).seq)
    (hall : ∀ e ∈ (atI m.descs t).list, atI m.words e.pos = ⟨0, t + 1, (atI m.descs t).seq⟩) (hmeans : Means m r) (hr : rowsOk r = true) (ho : opOk o = true) (hrun : RunP o got)
    (hp : planOf o got = some ⟨false, (atI m.descs t).res, (atI m.descs t).list⟩) :
    allowed r o (atI m.descs t).res = true ∧ rowsOk (afterR r o (atI m.descs t).res) = true ∧ Means (statusD m t 2) (afterR r o (atI m.descs t).res) := by
  have hd := descQ (hm.desc t ht.1 ht.2) (by omega)
  have hcov := plan_covers ho hrun hp
  have hg : ∀ x ∈ got, x.n = wd r x.pos := by
    intro x hx
    obtain ⟨e, he, h1, h2⟩ := hcov.1 x hx
    have hep := hd.ent e he
    have := hmeans e.pos hep.1 hep.2
    unfold valP at this
    have hz : ¬ (t + 1 = 0) := by omega
    have h21 : ¬ ((1:Int) = 2) := by decide
    rw [hall e he] at this
    simp only [hz, if_false, show t + 1 - 1 = t by omega, hst, h21, hd.entry he, Option.getD_some] at this
    rw [← h1, ← this, h2]
  obtain ⟨h1, h2, h3, h4⟩ := plan_ok hr ho hrun hg hp
  refine ⟨h1, h2, fun p h0 h20 => ?_⟩
  have hwords : (statusD m t 2).words = m.words := rfl
  by_cases hex : ∃ e ∈ (atI m.descs t).list, e.pos = p
  · obtain ⟨e, he, rfl⟩ := hex
    unfold valP
    have hz : ¬ (t + 1 = 0) := by omega
    rw [hwords, hall e he]
    simp only [hz, if_false, show t + 1 - 1 = t by omega]
    rw [status_at ht t ht.1]
    simp only [if_true, hd.entry he, Option.getD_some]
    exact (h3 e he).symm
  · have hno : ∀ e ∈ (atI m.descs t).list, e.pos ≠ p := fun e he hh => hex ⟨e, he, hh⟩
    rw [h4 p h0 h20 hno, ← hmeans p h0 h20]
    unfold valP
    rw [hwords]
    by_cases hz : (atI m.words p).t = 0
    · rw [if_pos hz, if_pos hz]
    · obtain ⟨_, q1, q2, _, _, ⟨e, he⟩, _⟩ := hm.mark h0 h20 hz
      rw [if_neg hz, if_neg hz, status_at ht _ q1]
      by_cases hk : t = (atI m.words p).t - 1
      · rw [← hk] at he
        obtain ⟨a, b⟩ := entry_mem he
        exact absurd b (hno e a)
      · rw [if_neg hk]
def opX (x : MTh) : MOp := atI x.ops x.pc
def HlI (m : MMe) (h : MHl) : Prop :=
  h.seq ≤ (atI m.descs h.t).seq ∧ (h.seq = (atI m.descs h.t).seq → (atI m.descs h.t).status = 1 → ∀ j : Int, 0 ≤ j → j < h.pos → j < ((atI m.descs h.t).list.length : Int) → atI m.words (atI (atI m.descs h.t).list j).pos = markOf h)
structure ThI (m : MMe) (t : Int) (x : MTh) : Prop where
  opn : (atI m.descs t).status = 1 → x.on = true ∧ (∃ h rest, x.stack = h :: rest ∧ h.t = t) ∧ RunP (opX x) x.got ∧ planOf (opX x) x.got = some ⟨false, (atI m.descs t).res, (atI m.descs t).list⟩
  run : x.on = true → (∀ h rest, x.stack = h :: rest → h.t ≠ t) → RunP (opX x) x.got ∧ 0 ≤ nextP (opX x) x.got
  own : ∀ h ∈ x.stack, h.t = t → h.seq = (atI m.descs t).seq
  hlp : ∀ h ∈ x.stack, HlI m h
def RangeH (n : Int) (h : MHl) : Prop := 0 ≤ h.t ∧ h.t < n ∧ 1 ≤ h.seq ∧ 0 ≤ h.pos ∧ 0 ≤ h.fin
theorem Keeps.hl {m m' : MMe} (k : Keeps m m') (hm : MemQ m) {h : MHl} (hr : RangeH m.descs.length h) (hh : HlI m h) : HlI m' h := by
  obtain ⟨h1, h2⟩ := hh
  obtain ⟨r1, r2, r3, _, _⟩ := hr
  unfold HlI
  rw [k.seq _ r1 r2, k.list _ r1 r2]
  refine ⟨h1, fun hs ho j j0 j1 j2 => ?_⟩
  have hw := h2 hs (k.open_ _ r1 r2 ho) j j0 j1 j2
  have hd := descQ (hm.desc h.t r1 r2) (by omega)
  have he := hd.ent _ (atI_mem (l := (atI m.descs h.t).list) (i := j) ⟨j0, j2⟩)
  have := k.marks _ r1 r2 ho _ he.1 he.2 (by rw [hw, markOf, hs])
  rw [this, markOf, hs]
theorem Keeps.th {m m' : MMe} (k : Keeps m m') (hm : MemQ m) {t : Int} (ht : 0 ≤ t ∧ t < (m.descs.length : Int)) {x : MTh} (hr : ∀ h ∈ x.stack, RangeH m.descs.length h) (hx : ThI m t x) : ThI m' t x := by
  refine ⟨fun h => ?_, hx.run, fun h hh e => ?_, fun h hh => k.hl hm (hr h hh) (hx.hlp h hh)⟩
  · rw [k.res _ ht.1 ht.2, k.list _ ht.1 ht.2]
    exact hx.opn (k.open_ _ ht.1 ht.2 h)
  · rw [k.seq _ ht.1 ht.2]
    exact hx.own h hh e
structure MaQ (m : MMa) : Prop where
  mem : MemQ m.mem
  len : m.mem.descs.length = m.ths.length
  first : rowsOk m.first = true
  th : ∀ t, 0 ≤ t → t < (m.ths.length : Int) → threadOk (atI m.ths t) m.ths.length = true ∧ callsOk m t = true
theorem maQ {m : MMa} (h : machineOk m = true) : MaQ m := by
  simp only [machineOk, Bool.and_eq_true, decide_eq_true_eq, allAt_iff] at h
  obtain ⟨h1, h2, _, _, h5, _, h7, _⟩ := h
  refine ⟨memQ h1, h2, h5, fun t h0 ht => ?_⟩
  obtain ⟨hi, e⟩ := atI_get (l := m.ths) (i := t) ⟨h0, ht⟩
  have := h7 t.toNat hi
  rw [e]
  rw [show ((0 + t.toNat : Nat) : Int) = t by omega] at this
  exact this
structure ThQ (n : Int) (x : MTh) : Prop where
  ops : ∀ o ∈ x.ops, opOk o = true
  pc : 0 ≤ x.pc ∧ x.pc ≤ x.ops.length
  on : x.on = true → x.pc < x.ops.length
  off : x.on = false → x.got = [] ∧ x.stack = []
  st2 : x.stack.length ≤ 2
  help : ∀ h ∈ x.stack, RangeH n h
theorem thQ {n : Int} {x : MTh} (h : threadOk x n = true) : ThQ n x := by
  simp only [threadOk, Bool.and_eq_true, decide_eq_true_eq, List.all_eq_true, isIn_iff, Bool.not_eq_true', Bool.and_eq_false_iff, decide_eq_false_iff_not, Bool.not_eq_false'] at h
  obtain ⟨⟨h1, h2, h3, h4, h5, h6⟩, h7, h8, h9⟩ := h
  refine ⟨h2, h3, fun ho => ?_, fun ho => ?_, by omega, fun y hy => ?_⟩
  · rcases h4 with h4 | h4
    · rw [ho] at h4; cases h4
    · omega
  · rcases h7 with h7 | h7
    · rw [ho] at h7; cases h7
    · have a : x.got.length = 0 := by omega
      have b : x.stack.length = 0 := by omega
      exact ⟨List.length_eq_zero_iff.1 a, List.length_eq_zero_iff.1 b⟩
  · have := h9 y hy
    simp only [helpIn, Bool.and_eq_true, isIn_iff] at this
    exact ⟨by omega, by omega, by omega, by omega, by omega⟩
theorem ThQ.op {n : Int} {x : MTh} (h : ThQ n x) (hp : x.pc < x.ops.length) : opOk (opX x) = true := h.ops _ (atI_mem ⟨h.pc.1, hp⟩)
structure MInv (m : MMa) (r : MRw) : Prop where
  ok : machineOk m = true
  rows : rowsOk r = true
  means : Means m.mem r
  thr : ∀ t, 0 ≤ t → t < (m.ths.length : Int) → ThI m.mem t (atI m.ths t)
theorem last_dn (calls : List MCl) (t : Int) : ∀ (n : Nat) (k : Int), lastDn calls t n = k → 0 ≤ k → k < n ∧ (atI calls k).t = t ∧ ((atI calls k).fin < 0 → openDn calls t n = k)
  | 0, k, h, h0 => by simp [lastDn] at h; omega
  | n + 1, k, h, h0 => by
    unfold lastDn at h
    unfold openDn
    by_cases hc : (calls.getD n default).t = t
    · rw [if_pos hc] at h
      subst h
      rw [atI_nat]
      exact ⟨by omega, hc, fun hf => by rw [if_pos ⟨hc, hf⟩]⟩
    · rw [if_neg hc] at h
      obtain ⟨h1, h2, h3⟩ := last_dn calls t n k h h0
      exact ⟨by omega, h2, fun hf => by rw [if_neg (by simp only [not_and]; intro hh; exact absurd hh hc)]; exact h3 hf⟩
theorem call_open {m : MMa} {t : Int} (h : callsOk m t = true) (hon : (atI m.ths t).on = true) :
    0 ≤ openCall m t ∧ openCall m t < (m.calls.length : Int) ∧ (atI m.calls (openCall m t)).op = opX (atI m.ths t) ∧ (atI m.calls (openCall m t)).t = t ∧ (atI m.calls (openCall m t)).fin = -1 := by
  simp only [callsOk, hon, if_true, Bool.and_eq_true, decide_eq_true_eq] at h
  obtain ⟨_, h1, _, h2, h3⟩ := h
  obtain ⟨q1, q2, q3⟩ := last_dn m.calls t m.calls.length _ rfl h1
  have := q3 (by omega)
  unfold openCall
  rw [this]
  exact ⟨h1, q1, h3, q2, h2⟩
theorem openDn_congr {l l' : List MCl} {t : Int} : ∀ (n : Nat), (∀ i, i < n → (l'.getD i default).t = (l.getD i default).t ∧ (l'.getD i default).fin = (l.getD i default).fin) → openDn l' t n = openDn l t n
  | 0, _ => rfl
  | n + 1, h => by
    unfold openDn
    rw [(h n (by omega)).1, (h n (by omega)).2, openDn_congr n fun i hi => h i (by omega)]
end Go.Proofs.YtoeieoapnhhaeaaGreat.Den
namespace Go.Proofs.YtoeieoapnhhaeaaGreat.Den
set_option linter.unusedSimpArgs false
set_option linter.unusedVariables false
def StepGood (m : MMa) (r : MRw) (n : MMa) : Prop :=
  (n.order = m.order ∧ MInv n r) ∨ ∃ k : Int, n.order = m.order ++ [k] ∧ 0 ≤ k ∧ k < (n.calls.length : Int) ∧ allowed r (atI n.calls k).op (atI n.calls k).res = true ∧ (atI n.calls k).lin = n.time ∧
    MInv n (afterR r (atI n.calls k).op (atI n.calls k).res)
theorem inv_put {m n : MMa} {r r' : MRw} {t : Int} {x' : MTh} (hi : MInv m r) (ht : 0 ≤ t ∧ t < (m.ths.length : Int)) (hk : Keeps m.mem n.mem) (hths : n.ths = setI m.ths t x') (hok : machineOk n = true) (hr : rowsOk r' = true)
    (hme : Means n.mem r') (hx : ThI n.mem t x') : MInv n r' := by
  have hq := maQ hi.ok
  refine ⟨hok, hr, hme, fun i h0 h1 => ?_⟩
  rw [hths, setI_len] at h1
  rw [hths]
  by_cases hit : t = i
  · subst hit
    rw [atI_set_same ht]
    exact hx
  · rw [atI_set_ne ht.1 h0 hit]
    refine hk.th hq.mem (by rw [hq.len]; exact ⟨h0, h1⟩) ?_ (hi.thr i h0 h1)
    rw [hq.len]
    exact (thQ (hq.th i h0 h1).1).help
theorem last_split {x : MTh} {h : MHl} (hne : x.stack ≠ []) (hh : topT x = h) : x.stack = x.stack.dropLast ++ [h] := by
  unfold topT at hh
  rw [List.getLastD_eq_getLast?, List.getLast?_eq_some_getLast hne, Option.getD_some] at hh
  rw [← hh]
  exact (List.dropLast_concat_getLast hne).symm
theorem head_app {h : MHl} {l : List MHl} {y : MHl} {r : List MHl} (e : l ++ [h] = y :: r) (hl : l ≠ []) : ∃ r', l = y :: r' := by
  cases l with
  | nil => exact absurd rfl hl
  | cons a l => simp at e; exact ⟨l, by rw [e.1]⟩
theorem th_swap {m' : MMe} {t : Int} {x : MTh} {h h' : MHl} (hx : ThI m' t x) (hne : x.stack ≠ []) (hh : topT x = h)
    (h1 : x.stack.length = 1 → (h'.t = t ↔ h.t = t) ∨ h.t ≠ t) (h2 : h'.t = t → h'.seq = (atI m'.descs t).seq) (h3 : HlI m' h') (h4 : x.stack.length = 1 → h.t = t → h'.t = t) :
    ThI m' t (swapT x h') := by
  have hs := last_split hne hh
  have hsw : swapT x h' = { x with stack := x.stack.dropLast ++ [h'] } := by unfold swapT; rw [if_neg hne]
  rw [hsw]
  by_cases hd : x.stack.dropLast = []
  · have hst : x.stack = [h] := by rw [hs, hd]; rfl
    have hl : x.stack.length = 1 := by rw [hst]; rfl
    rw [hd]
    refine ⟨fun ho => ?_, fun hon hhd => ?_, fun y hy e => ?_, fun y hy => ?_⟩
    · obtain ⟨a, ⟨g, rest, b, c⟩, d, e⟩ := hx.opn ho
      rw [hst] at b
      simp only [List.cons.injEq] at b
      exact ⟨a, ⟨h', [], rfl, h4 hl (by rw [b.1]; exact c)⟩, d, e⟩
    · refine hx.run hon fun g rest e => ?_
      rw [hst] at e
      simp only [List.cons.injEq] at e
      rw [← e.1]
      intro hc
      exact hhd h' [] rfl (h4 hl hc)
    · simp only [List.nil_append, List.mem_singleton] at hy
      subst hy; exact h2 e
    · simp only [List.nil_append, List.mem_singleton] at hy
      subst hy; exact h3
  · refine ⟨fun ho => ?_, fun hon hhd => ?_, fun y hy e => ?_, fun y hy => ?_⟩
    · obtain ⟨a, ⟨g, rest, b, c⟩, d, e⟩ := hx.opn ho
      rw [hs] at b
      obtain ⟨r', hr'⟩ := head_app b hd
      exact ⟨a, ⟨g, r' ++ [h'], by simp only; rw [hr']; rfl, c⟩, d, e⟩
    · refine hx.run hon fun g rest e => ?_
      rw [hs] at e
      obtain ⟨r', hr'⟩ := head_app e hd
      exact hhd g (r' ++ [h']) (by simp only; rw [hr']; rfl)
    · rcases List.mem_append.1 hy with hy | hy
      · exact hx.own y (by rw [hs]; exact List.mem_append_left _ hy) e
      · simp only [List.mem_singleton] at hy
        subst hy; exact h2 e
    · rcases List.mem_append.1 hy with hy | hy
      · exact hx.hlp y (by rw [hs]; exact List.mem_append_left _ hy)
      · simp only [List.mem_singleton] at hy
        subst hy; exact h3
theorem met {m : MMe} (hm : MemQ m) {p : Int} (h0 : 0 ≤ p) (h20 : p < 20) (hw : (atI m.words p).t ≠ 0) :
    HlI m ⟨(atI m.words p).t - 1, (atI m.words p).seq, 0, 0⟩ ∧ ∀ t, (atI m.words p).t - 1 = t → (atI m.words p).seq = (atI m.descs t).seq := by
  obtain ⟨_, q1, q2, _, _, _, h⟩ := hm.mark h0 h20 hw
  refine ⟨⟨?_, fun _ _ j j0 j1 => ?_⟩, fun t e => ?_⟩
  · simp only [h]; omega
  · simp only at j1; omega
  · rw [← e, h]
theorem th_empty {m : MMe} {t : Int} {x : MTh} (hst : (atI m.descs t).status ≠ 1) (hs : x.stack = []) (hr : x.on = true → RunP (opX x) x.got ∧ 0 ≤ nextP (opX x) x.got) : ThI m t x :=
  ⟨fun h => absurd h hst, fun h _ => hr h, fun h hh => by rw [hs] at hh; simp at hh, fun h hh => by rw [hs] at hh; simp at hh⟩
theorem setC_op {calls : List MCl} {k : Int} {c : MCl} (hk : 0 ≤ k ∧ k < (calls.length : Int)) (ht : c.t = (atI calls k).t) (hf : c.fin = (atI calls k).fin) (t : Int) : openDn (setI calls k c) t (setI calls k c).length = openDn calls t calls.length := by
  rw [setI_len]
  refine openDn_congr _ fun i hi => ?_
  have e1 := atI_nat (setI calls k c) i
  have e2 := atI_nat calls i
  rw [← e1, ← e2]
  by_cases h : k = (i : Int)
  · rw [← h, atI_set_same hk]; exact ⟨ht, hf⟩
  · rw [atI_set_ne hk.1 (by omega) h]; exact ⟨rfl, rfl⟩
theorem so_does {m : MMa} {t : Int} {s : MRs} (hk : 0 ≤ openCall m t ∧ openCall m t < (m.calls.length : Int)) :
    (soC m t s).order = m.order ++ [openCall m t] ∧ (soC m t s).calls.length = m.calls.length ∧ (atI (soC m t s).calls (openCall m t)).lin = m.time ∧ (atI (soC m t s).calls (openCall m t)).res = s ∧
    (atI (soC m t s).calls (openCall m t)).op = (atI m.calls (openCall m t)).op ∧ (soC m t s).mem = m.mem ∧ (soC m t s).ths = m.ths ∧ (soC m t s).time = m.time ∧ openCall (soC m t s) t = openCall m t := by
  have hn : ¬ openCall m t < 0 := by omega
  have he : soC m t s = { m with calls := setI m.calls (openCall m t) { atI m.calls (openCall m t) with lin := m.time, res := s }, order := m.order ++ [openCall m t] } := by
    unfold soC; simp only; rw [if_neg hn]
  rw [he]
  simp only [setI_len, atI_set_same hk]
  refine ⟨trivial, trivial, trivial, trivial, trivial, trivial, trivial, trivial, ?_⟩
  unfold openCall
  exact setC_op (c := { atI m.calls (openCall m t) with lin := m.time, res := s }) hk rfl rfl t
end Go.Proofs.YtoeieoapnhhaeaaGreat.Den
namespace Go.Proofs.YtoeieoapnhhaeaaGreat.Den
set_option linter.unusedSimpArgs false
set_option linter.unusedVariables false
theorem begin_does {m m' : MMe} {t : Int} {list : List MEn} {s : MRs} {h : MHl} (hb : beginM m t list s = some (m', h)) :
    0 ≤ t ∧ t < (m.descs.length : Int) ∧ (∀ w ∈ m.words, w.t ≠ t + 1) ∧ m' = { m with descs := setI m.descs t ⟨(atI m.descs t).seq + 1, 1, list, s⟩ } ∧ h = ⟨t, (atI m.descs t).seq + 1, 0, 0⟩ := by
  unfold beginM at hb
  split at hb
  · rename_i hc
    simp only [Bool.and_eq_true, isIn_iff, Bool.not_eq_true', List.any_eq_false, decide_eq_true_eq] at hc
    simp only at hb
    split at hb
    · simp only [Option.some.injEq, Prod.mk.injEq] at hb
      exact ⟨by omega, by omega, hc.2.2, hb.1.symm, hb.2.symm⟩
    · cases hb
  · cases hb
theorem plan_none {o : MOp} {got : List MPr} (ho : opOk o = true) (h : planOf o got = none) : 0 ≤ nextP o got := by
  unfold planOf at h
  rw [if_pos ho] at h
  simp only at h
  by_cases hm : 0 ≤ (askedA o got).miss
  · simpa [nextP, ho] using hm
  · rw [if_neg hm] at h
    split at h
    · cases h
    · split at h <;> cases h
theorem assist_good {m n : MMa} {r : MRw} {t : Int} (hi : MInv m r) (ht : 0 ≤ t ∧ t < (m.ths.length : Int)) (hon : (atI m.ths t).on = true) (hne : (atI m.ths t).stack ≠ [])
    (hn : n = assistT { m with time := m.time + 1 } t) (hok : machineOk n = true) : StepGood m r n := by
  have hq := maQ hi.ok
  have hthq := thQ (hq.th t ht.1 ht.2).1
  have hx := hi.thr t ht.1 ht.2
  obtain ⟨x, hxe⟩ : ∃ x, atI m.ths t = x := ⟨_, rfl⟩
  rw [hxe] at hthq hx hon hne
  obtain ⟨h, hh⟩ : ∃ h, topT x = h := ⟨_, rfl⟩
  have hsp := last_split hne hh
  have hmem : h ∈ x.stack := by rw [hsp]; simp
  have hrange := hthq.help h hmem
  rw [← hq.len] at hrange
  obtain ⟨r1, r2, r3, r4, r5⟩ := hrange
  have ht' : 0 ≤ t ∧ t < (m.mem.descs.length : Int) := by rw [hq.len]; exact ht
  have hdo : Helped m.mem h (assistM m.mem h) := by
    have hmok : memOk m.mem = true := by
      have := hi.ok
      simp only [machineOk, Bool.and_eq_true] at this
      exact this.1
    exact assist_does hmok ⟨r1, r2⟩ r3 r4 r5
  have hlh := hx.hlp h hmem
  unfold assistT at hn
  simp only [hxe, hh] at hn
  generalize hA : assistM m.mem h = A at hn hdo
  cases hdo with
  | pop hwhy =>
    simp only [show ¬ ((2:Int) = 1) by decide, if_false, if_true] at hn
    by_cases hht : h.t = t
    · have hst : (atI m.mem.descs t).status ≠ 1 := by
        have := hx.own h hmem hht
        rw [hht] at hwhy
        rcases hwhy with hw | hw
        · exact absurd this.symm hw
        · exact hw
      simp only [hht, ne_eq, not_true, if_false] at hn
      by_cases h2 : (atI m.mem.descs t).status = 2
      · rw [if_pos h2] at hn
        refine .inl ⟨by rw [hn]; rfl, inv_put (x' := ⟨x.ops, x.pc + 1, false, [], []⟩) hi ht ?_ ?_ hok hi.rows ?_ ?_⟩
        · rw [hn]; exact .refl _
        · rw [hn]
          simp only [endC, setT]
          rw [atI_set_same ht]
          simp only [setI, List.set_set]
        · rw [hn]; exact hi.means
        · rw [hn]
          exact th_empty hst rfl (fun hc => by simp at hc)
      · rw [if_neg h2] at hn
        refine .inl ⟨by rw [hn]; rfl, inv_put (x' := { x with stack := [], got := [] }) hi ht ?_ ?_ hok hi.rows ?_ ?_⟩
        · rw [hn]; exact .refl _
        · rw [hn]; rfl
        · rw [hn]; exact hi.means
        · rw [hn]
          exact th_empty hst rfl (fun hc => ⟨.nil, next_nil (hthq.op (hthq.on hon))⟩)
    · simp only [hht, ne_eq, not_false_eq_true, if_true] at hn
      refine .inl ⟨by rw [hn]; rfl, inv_put (x' := popT x) hi ht ?_ ?_ hok hi.rows ?_ ?_⟩
      · rw [hn]; exact .refl _
      · rw [hn]; rfl
      · rw [hn]; exact hi.means
      · rw [hn]
        show ThI m.mem t (popT x)
        unfold popT
        by_cases hd : x.stack.dropLast = []
        · have hst : x.stack = [h] := by rw [hsp, hd]; rfl
          have hs1 : (atI m.mem.descs t).status ≠ 1 := by
            intro ho
            obtain ⟨_, ⟨g, rest, b, c⟩, _⟩ := hx.opn ho
            rw [hst] at b
            simp only [List.cons.injEq] at b
            rw [← b.1] at c; exact hht c
          refine th_empty hs1 hd (fun hc => hx.run hc fun g rest e => ?_)
          rw [hst] at e
          simp only [List.cons.injEq] at e
          rw [← e.1]; exact hht
        · refine ⟨fun ho => ?_, fun ho hhd => hx.run ho fun g rest e => ?_, fun y hy => hx.own y (List.dropLast_subset _ hy), fun y hy => hx.hlp y (List.dropLast_subset _ hy)⟩
          · obtain ⟨a, ⟨g, rest, b, c⟩, d, e⟩ := hx.opn ho
            rw [hsp] at b
            obtain ⟨r', hr'⟩ := head_app b hd
            exact ⟨a, ⟨g, r', hr', c⟩, d, e⟩
          · rw [hsp] at e
            obtain ⟨r', hr'⟩ := head_app e hd
            exact hhd g r' hr'
  | yes hseq hst hlen =>
    simp only [show ¬ ((3:Int) = 1) by decide, show ¬ ((3:Int) = 2) by decide, if_false, if_true] at hn
    have hT : 0 ≤ h.t ∧ h.t < (m.ths.length : Int) := by rw [← hq.len]; exact ⟨r1, r2⟩
    have hX := hi.thr h.t hT.1 hT.2
    obtain ⟨xon, _, xrun, xplan⟩ := hX.opn hst
    have hXq := thQ (hq.th h.t hT.1 hT.2).1
    have hop := hXq.op (hXq.on xon)
    have hd := descQ (hq.mem.desc h.t r1 r2) (by omega)
    have hall : ∀ e ∈ (atI m.mem.descs h.t).list, atI m.mem.words e.pos = ⟨0, h.t + 1, (atI m.mem.descs h.t).seq⟩ := by
      intro e he
      obtain ⟨j, hj, rfl⟩ := List.mem_iff_getElem.1 he
      have := hlh.2 hseq.symm hst (j : Int) (by omega) (by omega) (by omega)
      rw [atI_nat, List.getD_eq_getElem?_getD, List.getElem?_eq_getElem hj, Option.getD_some] at this
      rw [this, hseq]; rfl
    obtain ⟨y1, y2, y3⟩ := yes_means hq.mem ⟨r1, r2⟩ hst (by omega) hall hi.means hi.rows hop xrun xplan
    have hco := call_open (hq.th h.t hT.1 hT.2).2 xon
    have hres : (atI (statusD m.mem h.t 2).descs h.t).res = (atI m.mem.descs h.t).res := by
      rw [status_at ⟨r1, r2⟩ h.t r1]; simp
    rw [hres] at hn
    have hso := so_does (m := { m with time := m.time + 1, mem := statusD m.mem h.t 2 }) (t := h.t) (s := (atI m.mem.descs h.t).res) ⟨hco.1, hco.2.1⟩
    have hoc : openCall { m with time := m.time + 1, mem := statusD m.mem h.t 2 } h.t = openCall m h.t := rfl
    rw [hoc] at hso
    obtain ⟨s1, s2, s3, s4, s5, s6, s7, s8, _⟩ := hso
    have hk := keeps_status (m := m.mem) (t := h.t) (s := 2) ⟨r1, r2⟩ (by decide)
    have hcop : (atI n.calls (openCall m h.t)).op = opX (atI m.ths h.t) := by rw [hn]; simp only [setT]; rw [s5]; exact hco.2.2.1
    have hcres : (atI n.calls (openCall m h.t)).res = (atI m.mem.descs h.t).res := by rw [hn]; simp only [setT]; rw [s4]
    refine .inr ⟨openCall m h.t, by rw [hn]; simp only [setT]; rw [s1], hco.1, by rw [hn]; simp only [setT]; rw [s2]; exact hco.2.1, by rw [hcop, hcres]; exact y1, by rw [hn]; simp only [setT]; rw [s3, s8], ?_⟩
    rw [hcop, hcres]
    refine inv_put (x' := swapT x h) hi ht ?_ ?_ hok y2 ?_ ?_
    · rw [hn]; simp only [setT]; rw [s6]; exact hk
    · rw [hn]; simp only [setT]; rw [s7]
    · rw [hn]; simp only [setT]; rw [s6]; exact y3
    · rw [hn]; simp only [setT]; rw [s6]
      have hx2 := hk.th hq.mem ht' (by rw [hq.len]; exact hthq.help) hx
      exact th_swap hx2 hne hh (fun _ => .inl Iff.rfl) (hx2.own h hmem) (hx2.hlp h hmem) (fun _ e => e)
  | push w p hp0 hp20 hw hwt =>
    simp only [if_true] at hn
    subst hw
    obtain ⟨m1, m2⟩ := met hq.mem hp0 hp20 hwt
    by_cases hc : h.t = t ∧ x.stack.length = 1
    · rw [if_pos hc] at hn
      have hst : x.stack = [h] := by
        have : x.stack.dropLast = [] := by
          have := congrArg List.length hsp
          simp at this
          exact List.length_eq_zero_iff.1 (by simp; omega)
        rw [hsp, this]; rfl
      refine .inl ⟨by rw [hn]; rfl, inv_put (x' := pushT x ⟨(atI m.mem.words p).t - 1, (atI m.mem.words p).seq, 0, 0⟩) hi ht ?_ ?_ hok hi.rows ?_ ?_⟩
      · rw [hn]; exact .refl _
      · rw [hn]; rfl
      · rw [hn]; exact hi.means
      · rw [hn]
        show ThI m.mem t _
        unfold pushT
        rw [hst]
        refine ⟨fun ho => ?_, fun ho hhd => absurd hc.1 (hhd h _ rfl), fun y hy e => ?_, fun y hy => ?_⟩
        · obtain ⟨a, _, d, e⟩ := hx.opn ho
          exact ⟨a, ⟨h, _, rfl, hc.1⟩, d, e⟩
        · simp only [List.cons_append, List.nil_append, List.mem_cons, List.not_mem_nil, or_false] at hy
          rcases hy with hy | hy
          · subst hy; exact hx.own _ hmem e
          · subst hy; exact m2 t e
        · simp only [List.cons_append, List.nil_append, List.mem_cons, List.not_mem_nil, or_false] at hy
          rcases hy with hy | hy
          · subst hy; exact hlh
          · subst hy; exact m1
    · rw [if_neg hc] at hn
      refine .inl ⟨by rw [hn]; rfl, inv_put (x' := swapT x ⟨(atI m.mem.words p).t - 1, (atI m.mem.words p).seq, 0, 0⟩) hi ht ?_ ?_ hok hi.rows ?_ ?_⟩
      · rw [hn]; exact .refl _
      · rw [hn]; rfl
      · rw [hn]; exact hi.means
      · rw [hn]
        show ThI m.mem t _
        refine th_swap hx hne hh (fun hl => .inr fun e => hc ⟨e, hl⟩) (fun e => m2 t e) m1 (fun hl e => absurd ⟨e, hl⟩ hc)
  | go m' h' hk hval e1 e2 hpos =>
    simp only [show ¬ ((0:Int) = 1) by decide, show ¬ ((0:Int) = 2) by decide, show ¬ ((0:Int) = 3) by decide, if_false] at hn
    refine .inl ⟨by rw [hn]; rfl, inv_put (x' := swapT x h') hi ht ?_ ?_ hok hi.rows ?_ ?_⟩
    · rw [hn]; exact hk
    · rw [hn]; rfl
    · rw [hn]
      intro p h0 h20
      show valP m' p = _
      rw [hval p h0 h20]
      exact hi.means p h0 h20
    · rw [hn]
      show ThI m' t _
      have hx2 := hk.th hq.mem ht' (by rw [hq.len]; exact hthq.help) hx
      have hl2 := hx2.hlp h hmem
      refine th_swap hx2 hne hh (fun _ => .inl (by rw [e1])) (fun e => by rw [e2]; exact hx2.own h hmem (by rw [← e1]; exact e)) ?_ (fun _ e => by rw [e1]; exact e)
      obtain ⟨l1, l2⟩ := hl2
      unfold HlI
      rw [e1, e2]
      refine ⟨l1, fun a b j j0 j1 j2 => ?_⟩
      have hmk : markOf h' = markOf h := by simp only [markOf, e1, e2]
      rw [hmk]
      rcases hpos with hpos | ⟨hpos, _, _, hmark⟩
      · exact l2 a b j j0 (by omega) j2
      · by_cases hj : j < h.pos
        · exact l2 a b j j0 hj j2
        · have : j = h.pos := by omega
          subst this
          rw [hk.list _ r1 r2]
          exact hmark
end Go.Proofs.YtoeieoapnhhaeaaGreat.Den
namespace Go.Proofs.YtoeieoapnhhaeaaGreat.Den
set_option linter.unusedSimpArgs false
set_option linter.unusedVariables false
theorem allP_if {got : List MPr} {P : Int → Prop} {b : Prop} [Decidable b] {x y : MTr} (hx : x.allP got P) (hy : y.allP got P) : (if b then x else y).allP got P := by
  split
  · exact hx
  · exact hy
theorem next_lt {o : MOp} (ho : opOk o = true) (got : List MPr) : nextP o got < 20 := by
  rw [next_tree ho]
  have key : ∀ (t : MTr) (ps : List Int), t.allP got (fun y => y < 20) → (t.run got ps).2 < 20 := by
    intro tr
    induction tr with
    | done => intro ps _; simp [MTr.run]
    | ask a k ih =>
      intro ps h2
      simp only [MTr.run]
      by_cases hc : a < 0 ∨ readP got a = none
      · rw [if_pos hc]
        simp only
        by_cases h0 : 0 ≤ a
        · exact h2.1 h0
        · omega
      · rw [if_neg hc]
        exact ih _ _ h2.2
  refine key (treeOf o) [] ?_
  have b1 : ∀ k, rowAt k < 20 := by
    intro k
    by_cases h : 0 ≤ k ∧ k ≤ 3
    · rw [rowAt_eq h]; omega
    · simp [rowAt, keyOk, isIn, h]
  have b2 : ∀ k, ownerAt k < 20 := by
    intro k
    by_cases h : 1 ≤ k ∧ k ≤ 6
    · rw [ownerAt_eq h]; omega
    · simp [ownerAt, valOk, isIn, h]
  have b3 : ∀ k, countAt k < 20 := by
    intro k
    by_cases h : 0 ≤ k ∧ k ≤ 2
    · rw [countAt_eq h]; omega
    · simp [countAt, classOk, isIn, h]
  have b4 : ∀ k, viaAt k < 20 := by
    intro k
    by_cases h : 1 ≤ k ∧ k ≤ 6
    · rw [viaAt_eq h]; omega
    · simp [viaAt, valOk, isIn, h]
  have b5 : ∀ (vs : List Int), (treeVs vs).allP got (fun y => y < 20) := by
    intro vs
    induction vs with
    | nil => trivial
    | cons v r ih => exact ⟨fun _ => b4 v, ih⟩
  have b6 : ∀ k vs, (treeWay k vs).allP got (fun y => y < 20) := fun k vs => ⟨fun _ => by decide, allP_ite (fun _ => trivial) fun _ => b5 vs⟩
  unfold treeOf
  refine allP_if ?_ (allP_if ?_ (allP_if ?_ (allP_if ?_ (allP_if ?_ (allP_if ?_ (allP_if ?_ (allP_if ?_ (allP_if ?_ (allP_if ?_ trivial)))))))))
  · exact ⟨fun _ => b1 _, allP_ite (fun _ => trivial) fun _ => ⟨fun _ => b2 _, allP_ite (fun _ => trivial) fun _ => ⟨fun _ => b3 _, b6 _ _⟩⟩⟩
  · exact ⟨fun _ => b1 _, allP_ite (fun _ => trivial) fun _ => ⟨fun _ => b2 _, allP_ite (fun _ => trivial) fun _ => ⟨fun _ => b2 _, allP_ite (fun _ => b6 _ _) fun _ => ⟨fun _ => b3 _, fun _ => b3 _, b6 _ _⟩⟩⟩⟩
  · exact ⟨fun _ => b1 _, allP_ite (fun _ => trivial) fun _ => ⟨fun _ => b2 _, fun _ => b3 _, b6 _ _⟩⟩
  · exact ⟨fun _ => b1 _, trivial⟩
  · exact ⟨fun _ => b2 _, trivial⟩
  · exact ⟨fun _ => b3 _, trivial⟩
  · exact ⟨fun _ => by decide, fun _ => by decide, fun _ => by decide, fun _ => by decide, trivial⟩
  · exact ⟨fun _ => by decide, trivial⟩
  · exact ⟨fun _ => by decide, allP_ite (fun _ => trivial) fun _ => ⟨fun _ => b1 _, allP_ite (fun _ => trivial) fun _ => ⟨fun _ => b4 _, trivial⟩⟩⟩
  · exact ⟨fun _ => by decide, allP_ite (fun _ => trivial) fun _ => ⟨fun _ => b4 _, trivial⟩⟩
theorem work_good {m n : MMa} {r : MRw} {t : Int} (hi : MInv m r) (ht : 0 ≤ t ∧ t < (m.ths.length : Int)) (hon : (atI m.ths t).on = true) (hst : (atI m.ths t).stack = [])
    (hn : workT { m with time := m.time + 1 } t = some n) (hok : machineOk n = true) : StepGood m r n := by
  have hq := maQ hi.ok
  have hthq := thQ (hq.th t ht.1 ht.2).1
  have hcq := (hq.th t ht.1 ht.2).2
  have hco := call_open hcq hon
  have hx := hi.thr t ht.1 ht.2
  obtain ⟨x, hxe⟩ : ∃ x, atI m.ths t = x := ⟨_, rfl⟩
  rw [hxe] at hthq hx hon hst hco
  have hop := hthq.op (hthq.on hon)
  have ht' : 0 ≤ t ∧ t < (m.mem.descs.length : Int) := by rw [hq.len]; exact ht
  have hs1 : (atI m.mem.descs t).status ≠ 1 := by
    intro ho
    obtain ⟨_, ⟨g, rest, b, c⟩, _⟩ := hx.opn ho
    rw [hst] at b; cases b
  obtain ⟨hrun, hnext⟩ := hx.run hon (fun g rest e => by rw [hst] at e; cases e)
  unfold workT at hn
  simp only [hxe] at hn
  rw [show atI x.ops x.pc = opX x from rfl, if_pos hnext] at hn
  obtain ⟨p, hp⟩ : ∃ p, nextP (opX x) x.got = p := ⟨_, rfl⟩
  rw [hp] at hn hnext
  have hp20 : p < 20 := by rw [← hp]; exact next_lt hop _
  by_cases hwt : (atI m.mem.words p).t = 0
  · rw [if_neg (by simpa using hwt)] at hn
    have hval : (atI m.mem.words p).n = wd r p := by
      have := hi.means p hnext hp20
      unfold valP at this
      rw [if_pos hwt] at this
      exact this
    have hp2 : ((treeOf (opX x)).run x.got []).2 = p := by rw [← next_tree hop]; exact hp
    have hrun2 : RunP (opX x) (x.got ++ [⟨p, (atI m.mem.words p).n⟩]) := by
      rw [← hp2]
      exact .snoc _ hrun (by rw [hp2]; exact hnext)
    unfold planT at hn
    simp only at hn
    have hox : opX { x with got := x.got ++ [⟨p, (atI m.mem.words p).n⟩] } = opX x := rfl
    cases hpl : planOf (opX x) (x.got ++ [⟨p, (atI m.mem.words p).n⟩]) with
    | none =>
      rw [hpl] at hn
      simp only [Option.some.injEq] at hn
      subst hn
      refine .inl ⟨rfl, inv_put (x' := { x with got := x.got ++ [⟨p, (atI m.mem.words p).n⟩] }) hi ht (.refl _) rfl hok hi.rows hi.means ?_⟩
      exact th_empty hs1 hst fun _ => ⟨hrun2, plan_none hop hpl⟩
    | some pl =>
      rw [hpl] at hn
      simp only at hn
      cases hnow : pl.now with
      | true =>
        rw [hnow, if_pos rfl] at hn
        simp only [Option.some.injEq] at hn
        have ⟨ha, _⟩ := plan_now hpl hnow
        rw [hval] at ha
        obtain ⟨a1, a2⟩ := once_ok hi.rows hop hrun hp2 hnext ha
        obtain ⟨X, hX⟩ : ∃ X, setT { m with time := m.time + 1 } t { x with got := x.got ++ [⟨p, (atI m.mem.words p).n⟩] } = X := ⟨_, rfl⟩
        rw [hX] at hn
        have hXc : X.calls = m.calls := by rw [← hX]; rfl
        have hoc : openCall X t = openCall m t := by unfold openCall; rw [hXc]
        have hso := so_does (m := X) (t := t) (s := pl.res) (by rw [hoc, hXc]; exact ⟨hco.1, hco.2.1⟩)
        rw [hoc] at hso
        obtain ⟨s1, s2, s3, s4, s5, s6, s7, s8, s9⟩ := hso
        have hk0 : 0 ≤ openCall m t := hco.1
        have hend : endC (soC X t pl.res) t pl.res = { soC X t pl.res with calls := setI (soC X t pl.res).calls (openCall m t) { atI (soC X t pl.res).calls (openCall m t) with fin := (soC X t pl.res).time, res := pl.res }, ths := setI (soC X t pl.res).ths t ⟨(atI (soC X t pl.res).ths t).ops, (atI (soC X t pl.res).ths t).pc + 1, false, [], []⟩ } := by
          unfold endC
          simp only
          rw [s9, if_pos hk0]
        rw [hend] at hn
        have hkr : 0 ≤ openCall m t ∧ openCall m t < ((soC X t pl.res).calls.length : Int) := by rw [s2, hXc]; exact ⟨hco.1, hco.2.1⟩
        have c1 : (atI n.calls (openCall m t)).op = opX x := by
          rw [← hn]; simp only; rw [atI_set_same hkr]; simp only; rw [s5, hXc]; exact hco.2.2.1
        have c2 : (atI n.calls (openCall m t)).res = pl.res := by
          rw [← hn]; simp only; rw [atI_set_same hkr]
        have c3 : (atI n.calls (openCall m t)).lin = n.time := by
          rw [← hn]; simp only; rw [atI_set_same hkr]; simp only; rw [s3, s8]
        refine .inr ⟨openCall m t, by rw [← hn]; simp only; rw [s1, ← hX]; rfl, hkr.1, by rw [← hn]; simp only; rw [setI_len]; exact hkr.2, by rw [c1, c2]; exact a1, c3, ?_⟩
        rw [c1, c2, a2]
        have hths : (soC X t pl.res).ths = setI m.ths t { x with got := x.got ++ [⟨p, (atI m.mem.words p).n⟩] } := by rw [s7, ← hX]; rfl
        have hmem : (soC X t pl.res).mem = m.mem := by rw [s6, ← hX]; rfl
        refine inv_put (x' := ⟨x.ops, x.pc + 1, false, [], []⟩) hi ht ?_ ?_ hok hi.rows ?_ ?_
        · rw [← hn]; simp only; rw [hmem]; exact .refl _
        · rw [← hn]; simp only; rw [hths, atI_set_same ht]; simp only [setI, List.set_set]
        · rw [← hn]; simp only; rw [hmem]; exact hi.means
        · rw [← hn]; simp only; rw [hmem]
          exact th_empty hs1 rfl (fun hc => by simp at hc)
      | false =>
        rw [hnow, if_neg (by simp)] at hn
        cases hbe : beginM m.mem t pl.list pl.res with
        | none => rw [hbe] at hn; cases hn
        | some q =>
          obtain ⟨m', h⟩ := q
          rw [hbe] at hn
          simp only [Option.some.injEq] at hn
          obtain ⟨b1, b2, b3, b4, b5⟩ := begin_does hbe
          have hwords : m'.words = m.mem.words := by rw [b4]
          have hdt : atI m'.descs t = ⟨(atI m.mem.descs t).seq + 1, 1, pl.list, pl.res⟩ := by rw [b4]; exact atI_set_same ht'
          have hdi : ∀ i, 0 ≤ i → i ≠ t → atI m'.descs i = atI m.mem.descs i := by
            intro i h0 hit
            rw [b4]; exact atI_set_ne ht.1 h0 (fun e => hit e.symm)
          have hmark : ∀ q, 0 ≤ q → q < 20 → (atI m.mem.words q).t ≠ t + 1 := by
            intro q h0 hq2
            exact b3 _ (atI_mem ⟨h0, by have := hq.mem.w20; omega⟩)
          subst hn
          refine .inl ⟨rfl, hok, hi.rows, ?_, ?_⟩
          · intro q h0 h20
            show valP m' q = _
            rw [← hi.means q h0 h20]
            unfold valP
            rw [hwords]
            by_cases hz : (atI m.mem.words q).t = 0
            · rw [if_pos hz, if_pos hz]
            · obtain ⟨_, q1, _⟩ := hq.mem.mark h0 h20 hz
              rw [if_neg hz, if_neg hz, hdi _ q1 (by have := hmark q h0 h20; omega)]
          · intro i h0 h1
            simp only [setT, setI_len] at h1
            show ThI m' i (atI (setI m.ths t (pushT _ h)) i)
            by_cases hit : i = t
            · subst hit
              rw [atI_set_same ht]
              unfold pushT
              simp only [hst, List.nil_append]
              refine ⟨fun _ => ⟨hon, ⟨h, [], rfl, by rw [b5]⟩, hrun2, ?_⟩, fun _ hhd => absurd (by rw [b5]) (hhd h [] rfl), fun y hy e => ?_, fun y hy => ?_⟩
              · rw [hdt]
                have : pl = ⟨false, pl.res, pl.list⟩ := by
                  obtain ⟨a, b, c⟩ := pl
                  simp only at hnow
                  rw [hnow]
                simp only
                rw [← this]
                exact hpl
              · simp only [List.mem_singleton] at hy
                subst hy
                rw [hdt, b5]
              · simp only [List.mem_singleton] at hy
                subst hy
                unfold HlI
                rw [b5]
                simp only
                rw [hdt]
                simp only
                exact ⟨by omega, fun _ _ j j0 j1 => by omega⟩
            · rw [atI_set_ne ht.1 h0 (fun e => hit e.symm)]
              have hxi := hi.thr i h0 h1
              have hhi := (thQ (hq.th i h0 h1).1).help
              refine ⟨fun ho => ?_, hxi.run, fun y hy e => ?_, fun y hy => ?_⟩
              · rw [hdi i h0 hit] at ho ⊢
                exact hxi.opn ho
              · rw [hdi i h0 hit]
                exact hxi.own y hy e
              · have hyl := hxi.hlp y hy
                have hyr := hhi y hy
                unfold HlI at hyl ⊢
                rw [hwords]
                by_cases hyt : y.t = t
                · rw [hyt] at hyl ⊢
                  rw [hdt]
                  simp only
                  exact ⟨by omega, fun e => by omega⟩
                · rw [hdi _ hyr.1 hyt]
                  exact hyl
  · rw [if_pos (by simpa using hwt)] at hn
    simp only [Option.some.injEq] at hn
    subst hn
    obtain ⟨m1, m2⟩ := met hq.mem hnext hp20 hwt
    refine .inl ⟨rfl, inv_put (x' := pushT x ⟨(atI m.mem.words p).t - 1, (atI m.mem.words p).seq, 0, 0⟩) hi ht (.refl _) rfl hok hi.rows hi.means ?_⟩
    show ThI m.mem t _
    unfold pushT
    rw [hst]
    refine ⟨fun ho => absurd ho hs1, fun _ _ => ⟨hrun, by rw [← hp] at hnext; exact hnext⟩, fun y hy e => ?_, fun y hy => ?_⟩
    · simp only [List.nil_append, List.mem_singleton] at hy
      subst hy; exact m2 t e
    · simp only [List.nil_append, List.mem_singleton] at hy
      subst hy; exact m1
theorem step_good {m n : MMa} {r : MRw} {t : Int} (hi : MInv m r) (hs : stepM m t = (n, true)) : StepGood m r n := by
  have hq := maQ hi.ok
  unfold stepM at hs
  split at hs
  · rename_i hc
    simp only [Bool.and_eq_true, isIn_iff, Bool.not_eq_true', decide_eq_false_iff_not] at hc
    obtain ⟨_, ht0, hpc, _⟩ := hc
    have ht : 0 ≤ t ∧ t < (m.ths.length : Int) := by omega
    have hthq := thQ (hq.th t ht.1 ht.2).1
    have hx := hi.thr t ht.1 ht.2
    cases hraw : stepRaw m t with
    | none => rw [hraw] at hs; simp at hs
    | some n' =>
      rw [hraw] at hs
      simp only at hs
      split at hs
      · rename_i hok
        simp only [Prod.mk.injEq, and_true] at hs
        subst hs
        unfold stepRaw at hraw
        simp only at hraw
        cases hon : (atI m.ths t).on with
        | false =>
          rw [hon, if_pos rfl] at hraw
          simp only [Option.some.injEq] at hraw
          obtain ⟨hg, hst⟩ := hthq.off hon
          have hs1 : (atI m.mem.descs t).status ≠ 1 := by
            intro ho
            have := (hx.opn ho).1
            rw [hon] at this; cases this
          refine .inl ⟨by rw [← hraw]; rfl, inv_put (x' := { atI m.ths t with on := true }) hi ht ?_ ?_ hok hi.rows ?_ ?_⟩
          · rw [← hraw]; exact .refl _
          · rw [← hraw]; rfl
          · rw [← hraw]; exact hi.means
          · rw [← hraw]
            refine th_empty hs1 hst fun _ => ?_
            simp only [hg]
            have hpb := hthq.pc
            exact ⟨.nil, next_nil (hthq.op (by omega))⟩
        | true =>
          rw [hon] at hraw
          simp only [Bool.true_eq_false, if_false] at hraw
          by_cases hst : (atI m.ths t).stack = []
          · rw [if_neg (by simpa using hst)] at hraw
            exact work_good hi ht hon hst hraw hok
          · rw [if_pos hst] at hraw
            simp only [Option.some.injEq] at hraw
            exact assist_good hi ht hon hst hraw.symm hok
      · simp at hs
  · simp at hs
end Go.Proofs.YtoeieoapnhhaeaaGreat.Den
namespace Go.Proofs.YtoeieoapnhhaeaaGreat.Den
set_option linter.unusedSimpArgs false
set_option linter.unusedVariables false
theorem wd_bd {r : MRw} (h : rowsOk r = true) {p : Int} (h0 : 0 ≤ p) : 0 ≤ wd r p ∧ wd r p ≤ 1000 := by
  have hs := state_bd h
  unfold wd
  by_cases h4 : p < 4
  · have := held_bd h (k := p) ⟨h0, h4⟩
    rw [if_pos h4]; omega
  rw [if_neg h4]
  by_cases h10 : p < 10
  · have := key_bd h (p - 3)
    rw [if_pos h10]; omega
  rw [if_neg h10]
  by_cases h13 : p < 13
  · rw [if_pos h13]
    obtain ⟨a, b, c, d, h1, h2⟩ := rows_form.1 h
    obtain ⟨l, s⟩ := r
    simp only at h1; subst h1
    rw [many_form]
    have ha := one_bd a (p - 10)
    have hb := one_bd b (p - 10)
    have hc := one_bd c (p - 10)
    have hd := one_bd d (p - 10)
    omega
  rw [if_neg h13]
  split
  · omega
  · have := key_bd h (p - 13)
    split <;> omega
theorem words_at {r : MRw} (h : rowsOk r = true) (n : Nat) {p : Int} (h0 : 0 ≤ p) (h20 : p < 20) : atI (memNew r n).words p = ⟨wd r p, 0, 0⟩ := by
  have hp : p.toNat < 20 := by omega
  simp [atI, memNew, wordsOf, h, hp]
  rw [show max p 0 = p by omega]
theorem descs_at (r : MRw) (n : Nat) {t : Int} (h0 : 0 ≤ t) (h1 : t < n) : atI (memNew r n).descs t = ⟨0, 0, [], ⟨0, []⟩⟩ := by
  have hp : t.toNat < n := by omega
  simp [atI, memNew, hp]
theorem mem_new_ok {r : MRw} (h : rowsOk r = true) {n : Nat} (h1 : 1 ≤ n) (h4 : n ≤ 4) : memOk (memNew r n) = true := by
  have hl : (memNew r n).words.length = 20 := by simp [memNew, wordsOf, h]
  have hd : (memNew r n).descs.length = n := by simp [memNew]
  simp only [memOk, Bool.and_eq_true, decide_eq_true_eq, isIn_iff, List.all_eq_true, allAt_iff]
  refine ⟨hl, by rw [hd]; omega, fun d hdm => ?_, fun j hj => ?_⟩
  · simp only [memNew, List.mem_replicate] at hdm
    rw [hdm.2]; simp [descOk]
  · have := words_at h n (p := (j : Int)) (by omega) (by rw [hl] at hj; omega)
    rw [atI_nat, List.getD_eq_getElem?_getD, List.getElem?_eq_getElem hj, Option.getD_some] at this
    rw [this]
    have hb := wd_bd h (p := (j : Int)) (by omega)
    simp [wordIn, wordOk, numOk, isIn, hb]
theorem machine_new_ok {r : MRw} (h : rowsOk r = true) {l : List (List MOp)} (h1 : 1 ≤ l.length) (h4 : l.length ≤ 4) (ho : ∀ ops ∈ l, ops.length ≤ 8 ∧ ∀ o ∈ ops, opOk o = true) : machineOk (machineNew r l) = true := by
  simp only [machineOk, Bool.and_eq_true, decide_eq_true_eq, isIn_iff, List.all_eq_true, allAt_iff]
  refine ⟨mem_new_ok h h1 h4, by simp [machineNew, memNew], by simp [machineNew], by simp [machineNew], h, fun c hc => by simp [machineNew] at hc, fun j hj => ?_, ?_⟩
  · have hj' : j < l.length := by simpa [machineNew] using hj
    have hx : (machineNew r l).ths[j] = ⟨l[j], 0, false, [], []⟩ := by simp [machineNew]
    obtain ⟨q1, q2⟩ := ho _ (List.getElem_mem hj')
    rw [hx]
    refine ⟨?_, ?_⟩
    · simp only [threadOk, Bool.false_and, Bool.not_false, List.all_nil, List.length_nil, Bool.and_true, Bool.true_and, Bool.and_eq_true, List.all_eq_true, decide_eq_true_eq, isIn_iff, Bool.not_eq_true', decide_eq_false_iff_not]
      exact ⟨⟨by omega, q2, by omega, by omega, by omega⟩, by simp⟩
    · have hx2 : atI (machineNew r l).ths ((0 + j : Nat) : Int) = ⟨l[j], 0, false, [], []⟩ := by
        rw [Nat.zero_add, atI_nat, List.getD_eq_getElem?_getD, List.getElem?_eq_getElem hj, Option.getD_some, hx]
      unfold callsOk
      rw [hx2]
      simp [machineNew, endedN, openN]
  · simp [orderOk, machineNew, allAt, linsN]
theorem machine_new_inv {r : MRw} (h : rowsOk r = true) {l : List (List MOp)} (h1 : 1 ≤ l.length) (h4 : l.length ≤ 4) (ho : ∀ ops ∈ l, ops.length ≤ 8 ∧ ∀ o ∈ ops, opOk o = true) : MInv (machineNew r l) r := by
  refine ⟨machine_new_ok h h1 h4 ho, h, fun p h0 h20 => ?_, fun t h0 ht => ?_⟩
  · unfold valP
    rw [show (machineNew r l).mem = memNew r l.length from rfl, words_at h _ h0 h20]
    simp
  · have hl : (machineNew r l).ths.length = l.length := by simp [machineNew]
    rw [hl] at ht
    have hx : ∃ ops, atI (machineNew r l).ths t = ⟨ops, 0, false, [], []⟩ := by
      have : t.toNat < l.length := by omega
      exact ⟨l[t.toNat], by simp [atI, machineNew, this]⟩
    obtain ⟨ops, hx⟩ := hx
    rw [hx]
    refine th_empty ?_ rfl (fun hc => by simp at hc)
    rw [show (machineNew r l).mem = memNew r l.length from rfl, descs_at r _ h0 ht]
    decide
def rowsIn (w : List Int) : MRw := if w.length = 20 then ⟨w.take 4, atI w 13⟩ else ⟨[], 0⟩
def wholeW (w : List Int) : Bool := rowsOk (rowsIn w) && decide (wordsOf (rowsIn w) = w)
theorem words_len {r : MRw} (h : rowsOk r = true) : (wordsOf r).length = 20 := by simp [wordsOf, h]
theorem whole_words {r : MRw} (h : rowsOk r = true) : wholeW (wordsOf r) = true := by
  have hr : rowsIn (wordsOf r) = r := by
    unfold rowsIn
    rw [if_pos (words_len h)]
    obtain ⟨a, b, c, d, h1, h2⟩ := rows_form.1 h
    obtain ⟨hl, s⟩ := r
    simp only at h1; subst h1
    simp only [wordsOf, h, if_true]
    have e : (List.range 20).take 4 = [0, 1, 2, 3] := by decide
    rw [← List.map_take, e]
    simp [wd, heldAt, atI]
  simp [wholeW, hr, h]
theorem MInv.whole {m : MMa} {r : MRw} (hi : MInv m r) : meaning m.mem.words m.mem.descs = wordsOf r ∧ wholeW (meaning m.mem.words m.mem.descs) = true := by
  have := hi.means.list (maQ hi.ok).mem hi.rows
  exact ⟨this, by rw [this]; exact whole_words hi.rows⟩
end Go.Proofs.YtoeieoapnhhaeaaGreat.Den
namespace Go.Proofs.YtoeieoapnhhaeaaGreat.Den
open Go.RowKit
set_option linter.unusedSimpArgs false
set_option linter.unusedVariables false
set_option maxRecDepth 100000
set_option maxHeartbeats 1000000
theorem dS : DrawSound Tryz.prog := draw_sound (by kernel_rfl)
def A29 : AFn := ⟨15, [.tmp 6],
 .seq (.reg [zo 6 (zT false)] [0, 1, 2]) (.seq (.reg [zm 7 0, zm 8 1, zo 9 (zB .geq 7 8), zm 10 9, zt 11 (zM 0) 10, zt 12 (zM 2) 10, zt 13 (zB .leq 11 12) 10, zo 14 (zq 10 13), zm 6 14] [6])
 .ret)⟩
theorem a29 : agreeFn Tryz.prog Tryz.f29 A29 = true := by kernel_rfl
def A62 : AFn := ⟨15, [.tmp 6],
 .seq (.reg [zo 6 (zT false)] [0, 1, 2]) (.seq (.reg [zm 7 0, zm 8 1, zo 9 (zB .geq 7 8), zm 10 9, zt 11 (zM 0) 10, zt 12 (zM 2) 10, zt 13 (zB .leq 11 12) 10, zo 14 (zq 10 13), zm 6 14] [6])
 .ret)⟩
theorem a62 : agreeFn Tryz.prog Tryz.f62 A62 = true := by kernel_rfl
theorem c_from (a lo hi : Int) (l : List (Option Blk)) (K : AV → AHeap → Prop) (h : K (.s (.bool (decide (lo ≤ a ∧ a ≤ hi)))) (hp l)) : Spec Tryz.prog 29 [.s (.int .i64 a), .s (.int .i64 lo), .s (.int .i64 hi)] (hp l) K := by
  refine spec_of_awp dS Tryz.func29 a29 (by simp [A29]) ?_
  by_cases h1 : lo ≤ a
  · simp only [ne_eq, S1, S2, S3, S4, S5, S6, S7, S8, S9, S10, S11, S12, S13, S14, guarded, opWp, onX, onO, onFn, chks, chkOne, xop, evf, fget, fput, fkeep, finit, aress, ares, abin, pickv, AV.cells, reduceCtorEq, reduceIte, Nat.reduceEqDiff, Nat.reduceAdd, bound, capsOf, Nat.reduceLeDiff, AHeap.cell, AHeap.row, AHeap.cells, AHeap.put, AHeap.has, afill, Nat.reduceLT, List.reduceReplicate, alen, afillRows, afresh, aappend, srcRows, Nat.reduceSub, Nat.reduceMul, A29, h1]
    simpa [h1] using h
  · simp only [ne_eq, S1, S2, S3, S4, S5, S6, S7, S8, S9, S10, S11, S12, S13, S14, guarded, opWp, onX, onO, onFn, chks, chkOne, xop, evf, fget, fput, fkeep, finit, aress, ares, abin, pickv, AV.cells, reduceCtorEq, reduceIte, Nat.reduceEqDiff, Nat.reduceAdd, bound, capsOf, Nat.reduceLeDiff, AHeap.cell, AHeap.row, AHeap.cells, AHeap.put, AHeap.has, afill, Nat.reduceLT, List.reduceReplicate, alen, afillRows, afresh, aappend, srcRows, Nat.reduceSub, Nat.reduceMul, A29, h1]
    simpa [h1] using h
theorem c_l1In (a lo hi : Int) (l : List (Option Blk)) (K : AV → AHeap → Prop) (h : K (.s (.bool (decide (lo ≤ a ∧ a ≤ hi)))) (hp l)) : Spec Tryz.prog 62 [.s (.int .i64 a), .s (.int .i64 lo), .s (.int .i64 hi)] (hp l) K := by
  refine spec_of_awp dS Tryz.func62 a62 (by simp [A62]) ?_
  by_cases h1 : lo ≤ a
  · simp only [ne_eq, S1, S2, S3, S4, S5, S6, S7, S8, S9, S10, S11, S12, S13, S14, guarded, opWp, onX, onO, onFn, chks, chkOne, xop, evf, fget, fput, fkeep, finit, aress, ares, abin, pickv, AV.cells, reduceCtorEq, reduceIte, Nat.reduceEqDiff, Nat.reduceAdd, bound, capsOf, Nat.reduceLeDiff, AHeap.cell, AHeap.row, AHeap.cells, AHeap.put, AHeap.has, afill, Nat.reduceLT, List.reduceReplicate, alen, afillRows, afresh, aappend, srcRows, Nat.reduceSub, Nat.reduceMul, A62, h1]
    simpa [h1] using h
  · simp only [ne_eq, S1, S2, S3, S4, S5, S6, S7, S8, S9, S10, S11, S12, S13, S14, guarded, opWp, onX, onO, onFn, chks, chkOne, xop, evf, fget, fput, fkeep, finit, aress, ares, abin, pickv, AV.cells, reduceCtorEq, reduceIte, Nat.reduceEqDiff, Nat.reduceAdd, bound, capsOf, Nat.reduceLeDiff, AHeap.cell, AHeap.row, AHeap.cells, AHeap.put, AHeap.has, afill, Nat.reduceLT, List.reduceReplicate, alen, afillRows, afresh, aappend, srcRows, Nat.reduceSub, Nat.reduceMul, A62, h1]
    simpa [h1] using h
end Go.Proofs.YtoeieoapnhhaeaaGreat.Den
namespace Go.Proofs.YtoeieoapnhhaeaaGreat.Den
open Go.RowKit
set_option linter.unusedSimpArgs false
set_option linter.unusedVariables false
set_option maxRecDepth 100000
set_option maxHeartbeats 1000000
def bytes (xs : List Int) : List (List SV) := xs.map fun x => [.int .u8 x]
def ints (xs : List Int) : List (List SV) := xs.map fun x => [.int .i64 x]
theorem bytes_len (l : List Int) : (bytes l).length = l.length := List.length_map ..
theorem ints_len (l : List Int) : (ints l).length = l.length := List.length_map ..
theorem bytes_get {l : List Int} {i : Nat} (h : i < l.length) : (bytes l)[i]? = some [.int .u8 l[i]] := by simp [bytes, h]
theorem ints_get {l : List Int} {i : Nat} (h : i < l.length) : (ints l)[i]? = some [.int .i64 l[i]] := by simp [ints, h]
theorem ints_snoc (l : List Int) (a : Int) : ints l ++ [[.int .i64 a]] = ints (l ++ [a]) := by simp [ints]
theorem ints_ren (ρ : Nat → Nat) (l : List Int) : (ints l).map (List.map (SV.ren ρ)) = ints l := ren_rows (fun _ => rfl) l
theorem ints_all {p : SV → Bool} (hp : ∀ n, p (.int .i64 n) = true) (l : List Int) : ∀ r ∈ ints l, ∀ x ∈ r, p x = true := by
  intro r hr x hx
  obtain ⟨s, _, rfl⟩ := List.mem_map.1 hr
  simp at hx
  subst hx
  exact hp _
theorem ints_base (l : List Int) : ∀ r ∈ ints l, ∀ x ∈ r, SV.base x = true := ints_all (fun _ => rfl) l
def cur (xs : List Int) (i h : Int) : Blk := ⟨3, 89, [[.lst 1 (bytes xs), .int .i64 i, .int .i64 h]]⟩
theorem cur_ren (ρ : Nat → Nat) (xs : List Int) (i h : Int) : (cur xs i h).ren ρ = cur xs i h := rfl
structure Bv (xs : List Int) : Prop where
  b : ∀ x ∈ xs, 0 ≤ x ∧ x ≤ 255
  l : xs.length ≤ 1048576
theorem and_b (a m : Int) (hm : 0 ≤ m ∧ m ≤ 2000000000) : 0 ≤ IntKind.i64.wrap ((BitVec.ofInt IntKind.i64.bits a &&& BitVec.ofInt IntKind.i64.bits m).toNat) ∧ IntKind.i64.wrap ((BitVec.ofInt IntKind.i64.bits a &&& BitVec.ofInt IntKind.i64.bits m).toNat) ≤ m := by
  have h1 : (BitVec.ofInt IntKind.i64.bits a &&& BitVec.ofInt IntKind.i64.bits m).toNat ≤ (BitVec.ofInt IntKind.i64.bits m).toNat := by rw [BitVec.toNat_and]; exact Nat.and_le_right
  have h2 : ((BitVec.ofInt IntKind.i64.bits m).toNat : Int) = m := by
    show ((BitVec.ofInt 64 m).toNat : Int) = m
    rw [BitVec.toNat_ofInt]
    omega
  rw [wrap_id (by omega) (by omega)]
  omega
def A53 : AFn := ⟨58, [.tmp 2],
 .seq (.reg [zo 2 (zn 0)] [0]) (.seq (.reg [zm 4 0, zm 5 0, zo 6 (zk 5), zo 7 (zF 2 6), zo 8 (zL 7), zo 9 (zK .mul 8 6364136223846793005), zo 10 (zK .add 9 1442695040888963407), zo 11 (zk 4), zo 12 (zF 2 11), zu (zS 1 12 10)] [0]) (.seq (.dreg [zx 0 (zm 13 0), zx 1 (zo 14 (zk 13)), zx 2 (zo 15 (zF 2 14)), zx 3 (zo 16 (zL 15)), zx 4 (zo 17 (.bin .shr (.t 16) (.c (.int .u64 33)))), zx 5 (zm 18 0), zx 6 (zo 19 (zk 18)), zx 7 (zo 20 (zF 2 19)), zx 8 (zo 21 (zL 20)), zx 9 (zo 22 (.bin .shr (.t 21) (.c (.int .u64 45)))), zx 10 (zo 23 (zB .xor 17 22)), zx 11 (zo 24 (zK .and 23 255)), zx 12 (zm 3 24)] [0, 3]) (.seq (.seq (.dreg [zx 0 (zm 25 0), zx 1 (zo 26 (zk 25)), zx 2 (zo 27 (zF 1 26)), zx 3 (zo 28 (zL 27)), zx 4 (zm 29 0), zx 5 (zo 30 (zk 29)), zx 6 (zo 31 (zF 0 30)), zx 7 (zo 32 (zL 31)), zx 8 (zo 33 (zl 32)), zx 9 (zo 34 (zB .lss 28 33))] [0, 3, 34]) (.cond (.t 34) (.seq (.dreg [zx 0 (zm 35 3), zx 1 (zm 36 0), zx 2 (zo 37 (zk 36)), zx 3 (zo 38 (zF 0 37)), zx 4 (zo 39 (zL 38)), zx 5 (zm 40 0), zx 6 (zo 41 (zk 40)), zx 7 (zo 42 (zF 1 41)), zx 8 (zo 43 (zL 42)), zx 9 (zo 44 (zI 1 39 43)), zx 10 (zo 45 (zL 44)), zx 11 (zo 46 (.toInt .i64 (.t 45))), zx 12 (zo 47 (zB .add 35 46)), zx 13 (zo 48 (zK .and 47 255)), zy 14 (zm 3 48)] [0, 3]) (.reg [zm 49 0, zm 50 0, zo 51 (zk 50), zo 52 (zF 1 51), zo 53 (zL 52), zo 54 (zK .add 53 1), zo 55 (zk 49), zo 56 (zF 1 55), zu (zS 1 56 54)] [3]))
 .skip)) (.seq (.reg [zm 57 3, zm 2 57] [2])
 .ret))))⟩
theorem a53 : agreeFn Tryz.prog Tryz.f53 A53 = true := by kernel_rfl
def A19 : AFn := ⟨37, [.tmp 4],
 .seq (.reg [zo 4 (zn 0)] [0, 1]) (.seq (.seq (.reg [zm 9 1, zo 10 (zK .leq 9 0)] [0, 1, 10]) (.cond (.t 10) (.seq (.reg [zo 4 (zn 0)] [4])
 .ret)
 .skip)) (.seq (.seq (.reg [zm 11 1, zo 12 (zK .leq 11 256)] [0, 1, 12]) (.cond (.t 12) (.seq (.reg [zm 13 0, zo 14 (zC 53 [13]), zm 15 1, zo 16 (zB .rem 14 15), zm 4 16] [4])
 .ret)
 .skip)) (.seq (.reg [zm 17 0, zo 18 (zC 53 [17]), zm 5 18] [0, 1, 5]) (.seq (.reg [zm 19 0, zo 20 (zC 53 [19]), zm 6 20] [0, 1, 5, 6]) (.seq (.reg [zm 21 0, zo 22 (zC 53 [21]), zm 7 22] [0, 1, 5, 6, 7]) (.seq (.reg [zm 23 0, zo 24 (zC 53 [23]), zm 8 24] [1, 5, 6, 7, 8]) (.seq (.reg [zm 25 5, zo 26 (zK .mul 25 16777216), zm 27 6, zo 28 (zK .mul 27 65536), zo 29 (zB .add 26 28), zm 30 7, zo 31 (zK .mul 30 256), zo 32 (zB .add 29 31), zm 33 8, zo 34 (zB .add 32 33), zm 35 1, zo 36 (zB .rem 34 35), zm 4 36] [4])
 .ret)))))))⟩
theorem a19 : agreeFn Tryz.prog Tryz.f19 A19 = true := by kernel_rfl
def A51 : AFn := ⟨12, [.tmp 4],
 .seq (.reg [zo 4 (zn 0)] [0, 1]) (.seq (.reg [zm 5 1, zm 6 0, zm 7 1, zo 8 (zl 7), zo 9 (zC 19 [6, 8]), zo 10 (zI 1 5 9), zo 11 (zL 10), zm 4 11] [4])
 .ret)⟩
theorem a51 : agreeFn Tryz.prog Tryz.f51 A51 = true := by kernel_rfl
def A16 : AFn := ⟨32, [.tmp 2],
 .seq (.reg [zo 2 (.mov (.c (.nilp)))] [0]) (.seq (.reg [zm 5 0, zo 6 (zl 5), zo 7 (.bin .add (.c (.int .i64 27323)) (.t 6)), zm 3 7] [0, 3]) (.seq (.seq (.reg [zo 4 (zn 0)] [0, 3, 4]) (.block 0 (.loop (.seq (.seq (.reg [zm 8 4, zm 9 0, zo 10 (zl 9), zo 11 (zB .lss 8 10), zm 12 11, zt 13 (zM 4) 12, zt 14 (zK .lss 13 4000) 12, zo 15 (zq 12 14)] [0, 3, 4, 15]) (.cond (.t 15) .skip
 (.exit 0))) (.seq (.block 1 (.reg [zm 18 3, zo 19 (zK .mul 18 131), zm 20 0, zm 21 4, zo 22 (zI 1 20 21), zo 23 (zL 22), zo 24 (.toInt .i64 (.t 23)), zo 25 (zB .add 19 24), zo 26 (zK .add 25 7), zo 27 (zK .and 26 1073741823), zm 3 27] [0, 3, 4])) (.reg [zm 16 4, zo 17 (zK .add 16 1), zm 4 17] [0, 3, 4])))))) (.seq (.reg [zm 28 0, zm 29 3, zo 30 (.build [.nils, .int .i64 0, .int .i64 0] [(0, 1, (.t 28)), (2, 1, (.t 29))]), zo 31 (zb 89 30), zm 2 31] [2])
 .ret)))⟩
theorem a16 : agreeFn Tryz.prog Tryz.f16 A16 = true := by kernel_rfl
def Drew (xs : List Int) (p : Int → Prop) (v : AV) (ys bs : List (Option Blk)) : Prop := ∃ r i h : Int, v = .s (.int .i64 r) ∧ p r ∧ 0 ≤ i ∧ i ≤ xs.length ∧ ys = [some (cur xs i h)] ∧ bs = []
theorem b_l1Byte (xs : List Int) (i h : Int) (hb : Bv xs) (hi : 0 ≤ i ∧ i ≤ xs.length) : Spec Tryz.prog 53 [.s (.ptr 0 0 0)] (hp [some (cur xs i h)]) fun v G => ∃ ys bs, ys.length = [0].length ∧ Drew xs (fun r => 0 ≤ r ∧ r ≤ 255) v ys bs ∧ G = hp (ys ++ bs) := by
  refine spec_of_awp dS Tryz.func53 a53 (by simp [A53]) ?_
  have hl := hb.l
  have n33 : (0 : Int) ≤ 33 := by decide
  have n45 : (0 : Int) ≤ 45 := by decide
  have wi : IntKind.i64.wrap (i + 1) = i + 1 := wrap_id (by omega) (by omega)
  obtain ⟨j, rfl⟩ := Int.eq_ofNat_of_zero_le hi.1
  by_cases hix : (j : Int) < (xs.length : Int)
  · have hj : j < xs.length := by omega
    have hxi := hb.b _ (List.getElem_mem hj)
    have hw8 : IntKind.i64.wrap xs[j] = xs[j] := wrap_id (by omega) (by omega)
    have hj0 : (0 : Int) ≤ (j : Int) := hi.1
    simp only [ne_eq, S1, S2, S3, S4, S5, S6, S7, S8, S9, S10, S11, S12, S13, S14, guarded, opWp, onX, onO, onFn, chks, chkOne, xop, evf, fget, fput, fkeep, finit, aress, ares, abin, pickv, AV.cells, reduceCtorEq, reduceIte, Nat.reduceEqDiff, Nat.reduceAdd, bound, capsOf, Nat.reduceLeDiff, AHeap.cell, AHeap.row, AHeap.cells, AHeap.put, AHeap.has, afill, Nat.reduceLT, List.reduceReplicate, alen, afillRows, afresh, aappend, srcRows, Nat.reduceSub, Nat.reduceMul, ints_len, A53, cur, n33, n45, bytes_len, hix, bytes_get hj, hw8, wi, hj0]
    exact ⟨_, [], rfl, ⟨_, _, _, rfl, and_b _ 255 (by decide), by omega, by omega, rfl, rfl⟩, rfl⟩
  · simp only [ne_eq, S1, S2, S3, S4, S5, S6, S7, S8, S9, S10, S11, S12, S13, S14, guarded, opWp, onX, onO, onFn, chks, chkOne, xop, evf, fget, fput, fkeep, finit, aress, ares, abin, pickv, AV.cells, reduceCtorEq, reduceIte, Nat.reduceEqDiff, Nat.reduceAdd, bound, capsOf, Nat.reduceLeDiff, AHeap.cell, AHeap.row, AHeap.cells, AHeap.put, AHeap.has, afill, Nat.reduceLT, List.reduceReplicate, alen, afillRows, afresh, aappend, srcRows, Nat.reduceSub, Nat.reduceMul, ints_len, A53, cur, n33, n45, bytes_len, hix, wi]
    exact ⟨_, [], rfl, ⟨_, _, _, rfl, and_b _ 255 (by decide), hi.1, hi.2, rfl, rfl⟩, rfl⟩
theorem c_drew {f : FuncId} {xs : List Int} {i h : Int} {p : Int → Prop} {args0 args : List AV} {c : Nat} {l : List (Option Blk)} {K : AV → AHeap → Prop} (b : Spec Tryz.prog f args0 (hp [some (cur xs i h)]) fun v G => ∃ ys bs, ys.length = [0].length ∧ Drew xs p v ys bs ∧ G = hp (ys ++ bs)) (hc : l[c]? = some (some (cur xs i h))) (ha : args = args0.map (AV.ren (emb [c] l.length)))
    (hk : ∀ r i' h' : Int, p r → 0 ≤ i' ∧ i' ≤ xs.length → K (.s (.int .i64 r)) (hp (l.set c (some (cur xs i' h'))))) : Spec Tryz.prog f args (hp l) K :=
  Spec.frE [c] b (.cons hc .nil) (by simp) ha fun v ys bs _ ⟨r, i', h', hv, hp, h1, h2, h3, h4⟩ => by
    subst hv
    subst h3
    subst h4
    have := hk r i' h' hp ⟨h1, h2⟩
    simpa [AV.ren, AV.ren0, SV.ren, wr, cur_ren] using this
theorem c_l1Byte (xs : List Int) (i h : Int) (c : Nat) (l : List (Option Blk)) (hc : l[c]? = some (some (cur xs i h))) (hb : Bv xs) (hi : 0 ≤ i ∧ i ≤ xs.length) (K : AV → AHeap → Prop) (hk : ∀ r i' h' : Int, 0 ≤ r ∧ r ≤ 255 → 0 ≤ i' ∧ i' ≤ xs.length → K (.s (.int .i64 r)) (hp (l.set c (some (cur xs i' h'))))) : Spec Tryz.prog 53 [.s (.ptr c 0 0)] (hp l) K :=
  c_drew (b_l1Byte xs i h hb hi) hc rfl hk
theorem b_l1Below (xs : List Int) (n i h : Int) (hb : Bv xs) (hi : 0 ≤ i ∧ i ≤ xs.length) (hn : 1 ≤ n ∧ n ≤ 256) : Spec Tryz.prog 19 [.s (.ptr 0 0 0), .s (.int .i64 n)] (hp [some (cur xs i h)]) fun v G => ∃ ys bs, ys.length = [0].length ∧ Drew xs (fun r => 0 ≤ r ∧ r < n) v ys bs ∧ G = hp (ys ++ bs) := by
  refine spec_of_awp dS Tryz.func19 a19 (by simp [A19]) ?_
  have h1 : ¬ n ≤ 0 := by omega
  have h2 : n ≤ 256 := hn.2
  have h3 : ¬ n = 0 := by omega
  simp only [ne_eq, S1, S2, S3, S4, S5, S6, S7, S8, S9, S10, S11, S12, S13, S14, guarded, opWp, onX, onO, onFn, chks, chkOne, xop, evf, fget, fput, fkeep, finit, aress, ares, abin, pickv, AV.cells, reduceCtorEq, reduceIte, Nat.reduceEqDiff, Nat.reduceAdd, bound, capsOf, Nat.reduceLeDiff, AHeap.cell, AHeap.row, AHeap.cells, AHeap.put, AHeap.has, afill, Nat.reduceLT, List.reduceReplicate, alen, afillRows, afresh, aappend, srcRows, Nat.reduceSub, Nat.reduceMul, ints_len, A19, h1, h2]
  refine c_l1Byte xs i h 0 _ rfl hb hi _ fun r i' h' hr hi' => ?_
  simp only [ne_eq, S1, S2, S3, S4, S5, S6, S7, S8, S9, S10, S11, S12, S13, S14, guarded, opWp, onX, onO, onFn, chks, chkOne, xop, evf, fget, fput, fkeep, finit, aress, ares, abin, pickv, AV.cells, reduceCtorEq, reduceIte, Nat.reduceEqDiff, Nat.reduceAdd, bound, capsOf, Nat.reduceLeDiff, AHeap.cell, AHeap.row, AHeap.cells, AHeap.put, AHeap.has, afill, Nat.reduceLT, List.reduceReplicate, alen, afillRows, afresh, aappend, srcRows, Nat.reduceSub, Nat.reduceMul, ints_len, h3]
  refine ⟨_, [], rfl, ⟨_, i', h', rfl, ?_, hi'.1, hi'.2, rfl, rfl⟩, rfl⟩
  rw [Int.tmod_eq_emod_of_nonneg hr.1]
  exact ⟨Int.emod_nonneg _ h3, Int.emod_lt_of_pos _ (by omega)⟩
theorem c_l1Below (xs : List Int) (n i h : Int) (c : Nat) (l : List (Option Blk)) (hc : l[c]? = some (some (cur xs i h))) (hb : Bv xs) (hi : 0 ≤ i ∧ i ≤ xs.length) (hn : 1 ≤ n ∧ n ≤ 256) (K : AV → AHeap → Prop) (hk : ∀ r i' h' : Int, 0 ≤ r ∧ r < n → 0 ≤ i' ∧ i' ≤ xs.length → K (.s (.int .i64 r)) (hp (l.set c (some (cur xs i' h'))))) : Spec Tryz.prog 19 [.s (.ptr c 0 0), .s (.int .i64 n)] (hp l) K :=
  c_drew (b_l1Below xs n i h hb hi hn) hc rfl hk
theorem b_l1PickInt (xs ys : List Int) (i h : Int) (hb : Bv xs) (hi : 0 ≤ i ∧ i ≤ xs.length) (hn : 1 ≤ ys.length ∧ ys.length ≤ 256) : Spec Tryz.prog 51 [.s (.ptr 0 0 0), .s (.sl 1 0 ys.length ys.length)] (hp [some (cur xs i h), some ⟨1, 3, ints ys⟩]) fun v G => ∃ zs bs, zs.length = [0, 1].length ∧ (∃ r i h : Int, v = .s (.int .i64 r) ∧ r ∈ ys ∧ 0 ≤ i ∧ i ≤ xs.length ∧ zs = [some (cur xs i h), some ⟨1, 3, ints ys⟩] ∧ bs = []) ∧ G = hp (zs ++ bs) := by
  refine spec_of_awp dS Tryz.func51 a51 (by simp [A51]) ?_
  simp only [ne_eq, S1, S2, S3, S4, S5, S6, S7, S8, S9, S10, S11, S12, S13, S14, guarded, opWp, onX, onO, onFn, chks, chkOne, xop, evf, fget, fput, fkeep, finit, aress, ares, abin, pickv, AV.cells, reduceCtorEq, reduceIte, Nat.reduceEqDiff, Nat.reduceAdd, bound, capsOf, Nat.reduceLeDiff, AHeap.cell, AHeap.row, AHeap.cells, AHeap.put, AHeap.has, afill, Nat.reduceLT, List.reduceReplicate, alen, afillRows, afresh, aappend, srcRows, Nat.reduceSub, Nat.reduceMul, ints_len, A51]
  refine c_l1Below xs ys.length i h 0 _ rfl hb hi (by omega) _ fun r i' h' hr hi' => ?_
  obtain ⟨j, rfl⟩ := Int.eq_ofNat_of_zero_le hr.1
  have hj : j < ys.length := by omega
  simp only [ne_eq, S1, S2, S3, S4, S5, S6, S7, S8, S9, S10, S11, S12, S13, S14, guarded, opWp, onX, onO, onFn, chks, chkOne, xop, evf, fget, fput, fkeep, finit, aress, ares, abin, pickv, AV.cells, reduceCtorEq, reduceIte, Nat.reduceEqDiff, Nat.reduceAdd, bound, capsOf, Nat.reduceLeDiff, AHeap.cell, AHeap.row, AHeap.cells, AHeap.put, AHeap.has, afill, Nat.reduceLT, List.reduceReplicate, alen, afillRows, afresh, aappend, srcRows, Nat.reduceSub, Nat.reduceMul, ints_len, hr.1, hr.2, ints_get hj]
  exact ⟨_, [], rfl, ⟨_, i', h', rfl, List.getElem_mem hj, hi'.1, hi'.2, rfl, rfl⟩, rfl⟩
theorem c_l1PickInt (xs ys : List Int) (i h : Int) (c b : Nat) (l : List (Option Blk)) (hc : l[c]? = some (some (cur xs i h))) (hy : l[b]? = some (some ⟨1, 3, ints ys⟩)) (hne : c ≠ b) (hb : Bv xs) (hi : 0 ≤ i ∧ i ≤ xs.length) (hn : 1 ≤ ys.length ∧ ys.length ≤ 256) (n : Nat) (hyn : n = ys.length) (K : AV → AHeap → Prop) (hk : ∀ r i' h' : Int, r ∈ ys → 0 ≤ i' ∧ i' ≤ xs.length → K (.s (.int .i64 r)) (hp ((l.set c (some (cur xs i' h'))).set b (some ⟨1, 3, ints ys⟩)))) : Spec Tryz.prog 51 [.s (.ptr c 0 0), .s (.sl b 0 n n)] (hp l) K := by
  subst hyn
  refine Spec.frE [c, b] (b_l1PickInt xs ys i h hb hi hn) (.cons hc (.cons (by simpa [Blk.ren, ints_ren] using hy) .nil)) (by simp [hne]) rfl fun v zs bs _ ⟨r, i', h', hv, hp, h1, h2, h3, h4⟩ => ?_
  subst hv
  subst h3
  subst h4
  have := hk r i' h' hp ⟨h1, h2⟩
  simpa [AV.ren, AV.ren0, SV.ren, wr, cur_ren, blk_ren_mk, ints_ren] using this
theorem b_l1New (xs : List Int) (hb : Bv xs) : Spec Tryz.prog 16 [.s (.lst 1 (bytes xs))] (hp []) fun v G => ∃ ys bs, ys.length = ([] : List Nat).length ∧ (∃ h, v = .s (.ptr 0 0 0) ∧ ys = [] ∧ bs = [some (cur xs 0 h)]) ∧ G = hp (ys ++ bs) := by
  have hl := hb.l
  refine spec_of_awp dS Tryz.func16 a16 (by simp [A16]) ?_
  simp only [ne_eq, S1, S2, S3, S4, S5, S6, S7, S8, S9, S10, S11, S12, S13, S14, guarded, opWp, onX, onO, onFn, chks, chkOne, xop, evf, fget, fput, fkeep, finit, aress, ares, abin, pickv, AV.cells, reduceCtorEq, reduceIte, Nat.reduceEqDiff, Nat.reduceAdd, bound, capsOf, Nat.reduceLeDiff, AHeap.cell, AHeap.row, AHeap.cells, AHeap.put, AHeap.has, afill, Nat.reduceLT, List.reduceReplicate, alen, afillRows, afresh, aappend, srcRows, Nat.reduceSub, Nat.reduceMul, ints_len, A16, bytes_len]
  refine awp_loop (fun m s => ∃ (i : Nat) (h : Int), i + m = xs.length ∧ s = ⟨[(0, .s (.lst 1 (bytes xs))), (3, .s (.int .i64 h)), (4, .s (.int .i64 i))], hp []⟩) xs.length ⟨_, W.refl (Nat.zero_le _), 0, _, by omega, rfl⟩ ?_
  rintro m s ⟨i, h, him, rfl⟩
  have fin : ∃ ys bs, ys.length = ([] : List Nat).length ∧ (∃ h', AV.s (.ptr 0 0 0) = .s (.ptr 0 0 0) ∧ ys = [] ∧ bs = [some (cur xs 0 h')]) ∧ hp [some ⟨3, 89, [[.lst 1 (bytes xs), .int .i64 0, .int .i64 h]]⟩] = hp (ys ++ bs) := ⟨[], _, rfl, ⟨h, rfl, rfl, rfl⟩, rfl⟩
  by_cases hi : i < xs.length
  · have h1 : (i : Int) < (xs.length : Int) := by omega
    have h0 : (0 : Int) ≤ (i : Int) := by omega
    have w2 : IntKind.i64.wrap ((i : Int) + 1) = (i + 1 : Nat) := wrap_id (by omega) (by omega)
    by_cases h4 : (i : Int) < 4000
    · simp only [ne_eq, S1, S2, S3, S4, S5, S6, S7, S8, S9, S10, S11, S12, S13, S14, guarded, opWp, onX, onO, onFn, chks, chkOne, xop, evf, fget, fput, fkeep, finit, aress, ares, abin, pickv, AV.cells, reduceCtorEq, reduceIte, Nat.reduceEqDiff, Nat.reduceAdd, bound, capsOf, Nat.reduceLeDiff, AHeap.cell, AHeap.row, AHeap.cells, AHeap.put, AHeap.has, afill, Nat.reduceLT, List.reduceReplicate, alen, afillRows, afresh, aappend, srcRows, Nat.reduceSub, Nat.reduceMul, ints_len, h1, h0, h4, bytes_len, bytes_get hi, w2]
      exact ⟨m - 1, by omega, _, W.refl (Nat.zero_le _), i + 1, _, by omega, rfl⟩
    · simp only [ne_eq, S1, S2, S3, S4, S5, S6, S7, S8, S9, S10, S11, S12, S13, S14, guarded, opWp, onX, onO, onFn, chks, chkOne, xop, evf, fget, fput, fkeep, finit, aress, ares, abin, pickv, AV.cells, reduceCtorEq, reduceIte, Nat.reduceEqDiff, Nat.reduceAdd, bound, capsOf, Nat.reduceLeDiff, AHeap.cell, AHeap.row, AHeap.cells, AHeap.put, AHeap.has, afill, Nat.reduceLT, List.reduceReplicate, alen, afillRows, afresh, aappend, srcRows, Nat.reduceSub, Nat.reduceMul, ints_len, h1, h4, bytes_len]
      simpa using fin
  · have h1 : ¬ (i : Int) < (xs.length : Int) := by omega
    simp only [ne_eq, S1, S2, S3, S4, S5, S6, S7, S8, S9, S10, S11, S12, S13, S14, guarded, opWp, onX, onO, onFn, chks, chkOne, xop, evf, fget, fput, fkeep, finit, aress, ares, abin, pickv, AV.cells, reduceCtorEq, reduceIte, Nat.reduceEqDiff, Nat.reduceAdd, bound, capsOf, Nat.reduceLeDiff, AHeap.cell, AHeap.row, AHeap.cells, AHeap.put, AHeap.has, afill, Nat.reduceLT, List.reduceReplicate, alen, afillRows, afresh, aappend, srcRows, Nat.reduceSub, Nat.reduceMul, ints_len, h1, bytes_len]
    simpa using fin
theorem c_l1New (xs : List Int) (hb : Bv xs) (l : List (Option Blk)) (K : AV → AHeap → Prop) (hk : ∀ h, K (.s (.ptr l.length 0 0)) (hp (l ++ [some (cur xs 0 h)]))) : Spec Tryz.prog 16 [.s (.lst 1 (bytes xs))] (hp l) K :=
  Spec.frE [] (b_l1New xs hb) .nil (by simp) rfl fun v ys bs _ ⟨h, hv, h1, h2⟩ => by
    subst hv
    subst h1
    subst h2
    have := hk h
    simpa [AV.ren, AV.ren0, SV.ren, wr, cur_ren, emb_nil] using this
end Go.Proofs.YtoeieoapnhhaeaaGreat.Den
namespace Go.Proofs.YtoeieoapnhhaeaaGreat.Den
open Go.RowKit
set_option linter.unusedSimpArgs false
set_option linter.unusedVariables false
set_option maxRecDepth 100000
def A4 : AFn := ⟨6, [.tmp 2],
 .seq (.reg [zo 2 (zT false)] [0]) (.seq (.reg [zm 3 0, zo 4 (zl 3), zo 5 (zK .gtr 4 1048576), zm 2 5] [2])
 .ret)⟩
theorem a4 : agreeFn Tryz.prog Tryz.f4 A4 = true := by kernel_rfl
theorem c_big (xs : List Int) (l : List (Option Blk)) (K : AV → AHeap → Prop) (h : K (.s (.bool (decide (1048576 < xs.length)))) (hp l)) : Spec Tryz.prog 4 [.s (.lst 1 (bytes xs))] (hp l) K := by
  refine spec_of_awp dS Tryz.func4 a4 (by simp [A4]) ?_
  simp only [ne_eq, S1, S2, S3, S4, S5, S6, S7, S8, S9, S10, S11, S12, S13, S14, guarded, opWp, onX, onO, onFn, chks, chkOne, xop, evf, fget, fput, fkeep, finit, aress, ares, abin, pickv, AV.cells, reduceCtorEq, reduceIte, Nat.reduceEqDiff, Nat.reduceAdd, bound, capsOf, Nat.reduceLeDiff, AHeap.cell, AHeap.row, AHeap.cells, AHeap.put, AHeap.has, afill, Nat.reduceLT, List.reduceReplicate, alen, afillRows, afresh, aappend, srcRows, Nat.reduceSub, Nat.reduceMul, ints_len, A4, bytes_len]
  have e : decide ((1048576 : Int) < (xs.length : Int)) = decide (1048576 < xs.length) := by
    by_cases h : 1048576 < xs.length
    · rw [decide_eq_true h, decide_eq_true (by omega)]
    · rw [decide_eq_false h, decide_eq_false (by omega)]
  rw [e]
  exact h
end Go.Proofs.YtoeieoapnhhaeaaGreat.Den
namespace Go.Proofs.YtoeieoapnhhaeaaGreat.Den
open Go.RowKit
set_option linter.unusedSimpArgs false
set_option linter.unusedVariables false
set_option maxRecDepth 100000
set_option maxHeartbeats 2000000
theorem rows_all {α : Type} {f : α → List SV} {p : SV → Bool} (h : ∀ x, (f x).all p = true) (l : List α) : ∀ r ∈ l.map f, ∀ x ∈ r, p x = true := by
  intro r hr x hx
  obtain ⟨s, _, rfl⟩ := List.mem_map.1 hr
  exact List.all_eq_true.1 (h s) x hx
theorem le_maxLen {n : Nat} (h : n ≤ 9000000) : n ≤ maxLen := Nat.le_trans h (by decide)
theorem one_base {sz ty : Nat} {rows : List (List SV)} (h : ∀ r ∈ rows, ∀ x ∈ r, SV.base x = true) : ∀ k, some k ∈ [some (⟨sz, ty, rows⟩ : Blk)] → ∀ r ∈ k.rows, ∀ x ∈ r, SV.base x = true := fun k hk => by
  simp at hk
  subst hk
  exact h
theorem enc_j {α : Type} {f : α → List SV} (h : ∀ x, (f x).all SV.data = true) (l : List α) : (l.map f).length = l.length ∧ dataR (l.map f) ∧ ∀ σ F H, RowsLe (Wk σ F H) (l.map f) (l.map f) :=
  ⟨List.length_map .., rows_all h l, fun _ _ _ => same_rows (rows_all h l)⟩
theorem ints_j (l : List Int) : (ints l).length = l.length ∧ dataR (ints l) ∧ ∀ σ F H, RowsLe (Wk σ F H) (ints l) (ints l) := enc_j (fun _ => rfl) l
theorem ints_all' (l : List Int) : (ints l).take l.length = ints l := List.take_of_length_le (by rw [ints_len]; exact Nat.le_refl _)
theorem ints_take (l : List Int) (i : Nat) : (ints l).take i = ints (l.take i) := by simp [ints, List.map_take]
theorem ints_set (l : List Int) (i : Nat) (x : Int) : (ints l).set i [.int .i64 x] = ints (l.set i x) := by simp [ints]
def encOp (x : MOp) : List SV := [.int .i64 x.kind, .int .i64 x.k, .int .i64 x.v]
def ops (l : List MOp) : List (List SV) := l.map encOp
theorem ops_j (l : List MOp) : (ops l).length = l.length ∧ dataR (ops l) ∧ ∀ σ F H, RowsLe (Wk σ F H) (ops l) (ops l) := enc_j (fun _ => rfl) l
theorem ops_len (l : List MOp) : (ops l).length = l.length := List.length_map ..
theorem ops_get {l : List MOp} {i : Nat} (h : i < l.length) : (ops l)[i]? = some [.int .i64 l[i].kind, .int .i64 l[i].k, .int .i64 l[i].v] := by simp [ops, encOp, h]
theorem ops_base (l : List MOp) : ∀ r ∈ ops l, ∀ x ∈ r, SV.base x = true := rows_all (fun _ => rfl) l
theorem ops_all' (l : List MOp) : (ops l).take l.length = ops l := List.take_of_length_le (by rw [ops_len]; exact Nat.le_refl _)
def encPr (x : MPr) : List SV := [.int .i64 x.pos, .int .i64 x.n]
def prs (l : List MPr) : List (List SV) := l.map encPr
theorem prs_j (l : List MPr) : (prs l).length = l.length ∧ dataR (prs l) ∧ ∀ σ F H, RowsLe (Wk σ F H) (prs l) (prs l) := enc_j (fun _ => rfl) l
theorem prs_len (l : List MPr) : (prs l).length = l.length := List.length_map ..
theorem prs_get {l : List MPr} {i : Nat} (h : i < l.length) : (prs l)[i]? = some [.int .i64 l[i].pos, .int .i64 l[i].n] := by simp [prs, encPr, h]
theorem prs_ren (ρ : Nat → Nat) (l : List MPr) : (prs l).map (List.map (SV.ren ρ)) = prs l := ren_rows (fun _ => rfl) l
theorem prs_base (l : List MPr) : ∀ r ∈ prs l, ∀ x ∈ r, SV.base x = true := rows_all (fun _ => rfl) l
theorem prs_snoc (l : List MPr) (x : MPr) : prs l ++ [[.int .i64 x.pos, .int .i64 x.n]] = prs (l ++ [x]) := by simp [prs, encPr]
theorem prs_all' (l : List MPr) : (prs l).take l.length = prs l := List.take_of_length_le (by rw [prs_len]; exact Nat.le_refl _)
def encEn (x : MEn) : List SV := [.int .i64 x.pos, .int .i64 x.old, .int .i64 x.new]
def ens (l : List MEn) : List (List SV) := l.map encEn
theorem ens_j (l : List MEn) : (ens l).length = l.length ∧ dataR (ens l) ∧ ∀ σ F H, RowsLe (Wk σ F H) (ens l) (ens l) := enc_j (fun _ => rfl) l
theorem ens_len (l : List MEn) : (ens l).length = l.length := List.length_map ..
theorem ens_get {l : List MEn} {i : Nat} (h : i < l.length) : (ens l)[i]? = some [.int .i64 l[i].pos, .int .i64 l[i].old, .int .i64 l[i].new] := by simp [ens, encEn, h]
theorem ens_ren (ρ : Nat → Nat) (l : List MEn) : (ens l).map (List.map (SV.ren ρ)) = ens l := ren_rows (fun _ => rfl) l
theorem ens_base (l : List MEn) : ∀ r ∈ ens l, ∀ x ∈ r, SV.base x = true := rows_all (fun _ => rfl) l
theorem ens_snoc (l : List MEn) (x : MEn) : ens l ++ [[.int .i64 x.pos, .int .i64 x.old, .int .i64 x.new]] = ens (l ++ [x]) := by simp [ens, encEn]
theorem ens_set (l : List MEn) (i : Nat) (x : MEn) : (ens l).set i [.int .i64 x.pos, .int .i64 x.old, .int .i64 x.new] = ens (l.set i x) := by simp [ens, encEn]
theorem ens_all' (l : List MEn) : (ens l).take l.length = ens l := List.take_of_length_le (by rw [ens_len]; exact Nat.le_refl _)
def encWd (x : MWd) : List SV := [.int .i64 x.n, .int .i64 x.t, .int .i64 x.seq]
def wds (l : List MWd) : List (List SV) := l.map encWd
theorem wds_j (l : List MWd) : (wds l).length = l.length ∧ dataR (wds l) ∧ ∀ σ F H, RowsLe (Wk σ F H) (wds l) (wds l) := enc_j (fun _ => rfl) l
theorem wds_len (l : List MWd) : (wds l).length = l.length := List.length_map ..
theorem wds_get {l : List MWd} {i : Nat} (h : i < l.length) : (wds l)[i]? = some [.int .i64 l[i].n, .int .i64 l[i].t, .int .i64 l[i].seq] := by simp [wds, encWd, h]
theorem wds_ren (ρ : Nat → Nat) (l : List MWd) : (wds l).map (List.map (SV.ren ρ)) = wds l := ren_rows (fun _ => rfl) l
theorem wds_base (l : List MWd) : ∀ r ∈ wds l, ∀ x ∈ r, SV.base x = true := rows_all (fun _ => rfl) l
theorem wds_set (l : List MWd) (i : Nat) (x : MWd) : (wds l).set i [.int .i64 x.n, .int .i64 x.t, .int .i64 x.seq] = wds (l.set i x) := by simp [wds, encWd]
theorem wds_all' (l : List MWd) : (wds l).take l.length = wds l := List.take_of_length_le (by rw [wds_len]; exact Nat.le_refl _)
def encHl (x : MHl) : List SV := [.int .i64 x.t, .int .i64 x.seq, .int .i64 x.pos, .int .i64 x.fin]
def hls (l : List MHl) : List (List SV) := l.map encHl
theorem hls_j (l : List MHl) : (hls l).length = l.length ∧ dataR (hls l) ∧ ∀ σ F H, RowsLe (Wk σ F H) (hls l) (hls l) := enc_j (fun _ => rfl) l
theorem hls_len (l : List MHl) : (hls l).length = l.length := List.length_map ..
theorem hls_get {l : List MHl} {i : Nat} (h : i < l.length) : (hls l)[i]? = some [.int .i64 l[i].t, .int .i64 l[i].seq, .int .i64 l[i].pos, .int .i64 l[i].fin] := by simp [hls, encHl, h]
theorem hls_base (l : List MHl) : ∀ r ∈ hls l, ∀ x ∈ r, SV.base x = true := rows_all (fun _ => rfl) l
theorem hls_snoc (l : List MHl) (x : MHl) : hls l ++ [[.int .i64 x.t, .int .i64 x.seq, .int .i64 x.pos, .int .i64 x.fin]] = hls (l ++ [x]) := by simp [hls, encHl]
theorem hls_set (l : List MHl) (i : Nat) (x : MHl) : (hls l).set i [.int .i64 x.t, .int .i64 x.seq, .int .i64 x.pos, .int .i64 x.fin] = hls (l.set i x) := by simp [hls, encHl]
theorem hls_take (l : List MHl) (i : Nat) : (hls l).take i = hls (l.take i) := by simp [hls, List.map_take]
theorem hls_all' (l : List MHl) : (hls l).take l.length = hls l := List.take_of_length_le (by rw [hls_len]; exact Nat.le_refl _)
def encDc (x : MDc) : List SV := [.int .i64 x.seq, .int .i64 x.status, .lst 3 (ens x.list), .int .i64 x.res.code, .lst 1 (ints x.res.list)]
def dcs (l : List MDc) : List (List SV) := l.map encDc
theorem dcs_j (l : List MDc) : (dcs l).length = l.length ∧ dataR (dcs l) ∧ ∀ σ F H, RowsLe (Wk σ F H) (dcs l) (dcs l) := enc_j (fun _ => rfl) l
theorem dcs_len (l : List MDc) : (dcs l).length = l.length := List.length_map ..
theorem dcs_get {l : List MDc} {i : Nat} (h : i < l.length) : (dcs l)[i]? = some [.int .i64 l[i].seq, .int .i64 l[i].status, .lst 3 (ens l[i].list), .int .i64 l[i].res.code, .lst 1 (ints l[i].res.list)] := by simp [dcs, encDc, h]
theorem dcs_ren (ρ : Nat → Nat) (l : List MDc) : (dcs l).map (List.map (SV.ren ρ)) = dcs l := ren_rows (fun _ => rfl) l
theorem dcs_set (l : List MDc) (i : Nat) (x : MDc) : (dcs l).set i [.int .i64 x.seq, .int .i64 x.status, .lst 3 (ens x.list), .int .i64 x.res.code, .lst 1 (ints x.res.list)] = dcs (l.set i x) := by simp [dcs, encDc]
theorem dcs_all' (l : List MDc) : (dcs l).take l.length = dcs l := List.take_of_length_le (by rw [dcs_len]; exact Nat.le_refl _)
def encTh (x : MTh) : List SV := [.lst 3 (ops x.ops), .int .i64 x.pc, .bool x.on, .lst 2 (prs x.got), .lst 4 (hls x.stack)]
def ths (l : List MTh) : List (List SV) := l.map encTh
theorem ths_j (l : List MTh) : (ths l).length = l.length ∧ dataR (ths l) ∧ ∀ σ F H, RowsLe (Wk σ F H) (ths l) (ths l) := enc_j (fun _ => rfl) l
theorem ths_len (l : List MTh) : (ths l).length = l.length := List.length_map ..
theorem ths_get {l : List MTh} {i : Nat} (h : i < l.length) : (ths l)[i]? = some [.lst 3 (ops l[i].ops), .int .i64 l[i].pc, .bool l[i].on, .lst 2 (prs l[i].got), .lst 4 (hls l[i].stack)] := by simp [ths, encTh, h]
theorem ths_ren (ρ : Nat → Nat) (l : List MTh) : (ths l).map (List.map (SV.ren ρ)) = ths l := ren_rows (fun _ => rfl) l
theorem ths_set (l : List MTh) (i : Nat) (x : MTh) : (ths l).set i [.lst 3 (ops x.ops), .int .i64 x.pc, .bool x.on, .lst 2 (prs x.got), .lst 4 (hls x.stack)] = ths (l.set i x) := by simp [ths, encTh]
theorem ths_all' (l : List MTh) : (ths l).take l.length = ths l := List.take_of_length_le (by rw [ths_len]; exact Nat.le_refl _)
def encCl (x : MCl) : List SV := [.int .i64 x.t, .int .i64 x.op.kind, .int .i64 x.op.k, .int .i64 x.op.v, .int .i64 x.start, .int .i64 x.lin, .int .i64 x.fin, .int .i64 x.res.code, .lst 1 (ints x.res.list)]
def cls (l : List MCl) : List (List SV) := l.map encCl
theorem cls_j (l : List MCl) : (cls l).length = l.length ∧ dataR (cls l) ∧ ∀ σ F H, RowsLe (Wk σ F H) (cls l) (cls l) := enc_j (fun _ => rfl) l
theorem cls_len (l : List MCl) : (cls l).length = l.length := List.length_map ..
theorem cls_get {l : List MCl} {i : Nat} (h : i < l.length) : (cls l)[i]? = some [.int .i64 l[i].t, .int .i64 l[i].op.kind, .int .i64 l[i].op.k, .int .i64 l[i].op.v, .int .i64 l[i].start, .int .i64 l[i].lin, .int .i64 l[i].fin, .int .i64 l[i].res.code, .lst 1 (ints l[i].res.list)] := by simp [cls, encCl, h]
theorem cls_ren (ρ : Nat → Nat) (l : List MCl) : (cls l).map (List.map (SV.ren ρ)) = cls l := ren_rows (fun _ => rfl) l
theorem cls_all' (l : List MCl) : (cls l).take l.length = cls l := List.take_of_length_le (by rw [cls_len]; exact Nat.le_refl _)
def encOps (x : (List MOp)) : List SV := [.lst 3 (ops x)]
def opss (l : List (List MOp)) : List (List SV) := l.map encOps
theorem opss_j (l : List (List MOp)) : (opss l).length = l.length ∧ dataR (opss l) ∧ ∀ σ F H, RowsLe (Wk σ F H) (opss l) (opss l) := enc_j (fun _ => rfl) l
theorem opss_len (l : List (List MOp)) : (opss l).length = l.length := List.length_map ..
theorem opss_get {l : List (List MOp)} {i : Nat} (h : i < l.length) : (opss l)[i]? = some [.lst 3 (ops l[i])] := by simp [opss, encOps, h]
theorem opss_all' (l : List (List MOp)) : (opss l).take l.length = opss l := List.take_of_length_le (by rw [opss_len]; exact Nat.le_refl _)
def rwF (r : MRw) : List SV := [.lst 1 (ints r.held), .int .i64 r.state]
def resF (s : MRs) : List SV := [.int .i64 s.code, .lst 1 (ints s.list)]
def memF (m : MMe) : List SV := [.lst 3 (wds m.words), .lst 5 (dcs m.descs)]
def maF (m : MMa) : List SV := [.lst 3 (wds m.mem.words), .lst 5 (dcs m.mem.descs), .lst 5 (ths m.ths), .int .i64 m.time, .lst 9 (cls m.calls), .lst 1 (ints m.order), .lst 1 (ints m.first.held), .int .i64 m.first.state]
theorem LL : type_of% (And.intro (And.intro (And.intro @ints_len @ops_len) (And.intro @prs_len (And.intro @ens_len @wds_len))) (And.intro (And.intro @hls_len @dcs_len) (And.intro @ths_len (And.intro @cls_len @opss_len)))) := (And.intro (And.intro (And.intro @ints_len @ops_len) (And.intro @prs_len (And.intro @ens_len @wds_len))) (And.intro (And.intro @hls_len @dcs_len) (And.intro @ths_len (And.intro @cls_len @opss_len))))
theorem JJ : type_of% (And.intro (And.intro (And.intro @ints_j @ops_j) (And.intro @prs_j (And.intro @ens_j @wds_j))) (And.intro (And.intro @hls_j @dcs_j) (And.intro @ths_j (And.intro @cls_j @opss_j)))) := (And.intro (And.intro (And.intro @ints_j @ops_j) (And.intro @prs_j (And.intro @ens_j @wds_j))) (And.intro (And.intro @hls_j @dcs_j) (And.intro @ths_j (And.intro @cls_j @opss_j))))
end Go.Proofs.YtoeieoapnhhaeaaGreat.Den
namespace Go.Proofs.YtoeieoapnhhaeaaGreat.Den
open Go.RowKit
set_option linter.unusedSimpArgs false
set_option linter.unusedVariables false
set_option maxRecDepth 100000
set_option maxHeartbeats 1000000
def A85 : AFn := ⟨5, [.tmp 2],
 .seq (.reg [zo 2 (zT false)] [0]) (.seq (.reg [zm 3 0, zo 4 (.call 29 [(.t 3), (.c (.int .i64 0)), (.c (.int .i64 3))]), zm 2 4] [2])
 .ret)⟩
theorem a85 : agreeFn Tryz.prog Tryz.f85 A85 = true := by kernel_rfl
def A83 : AFn := ⟨5, [.tmp 2],
 .seq (.reg [zo 2 (zT false)] [0]) (.seq (.reg [zm 3 0, zo 4 (.call 29 [(.t 3), (.c (.int .i64 1)), (.c (.int .i64 6))]), zm 2 4] [2])
 .ret)⟩
theorem a83 : agreeFn Tryz.prog Tryz.f83 A83 = true := by kernel_rfl
def A86 : AFn := ⟨5, [.tmp 2],
 .seq (.reg [zo 2 (zT false)] [0]) (.seq (.reg [zm 3 0, zo 4 (.call 29 [(.t 3), (.c (.int .i64 0)), (.c (.int .i64 2))]), zm 2 4] [2])
 .ret)⟩
theorem a86 : agreeFn Tryz.prog Tryz.f86 A86 = true := by kernel_rfl
def A45 : AFn := ⟨8, [.tmp 2],
 .seq (.reg [zo 2 (zn 0)] [0]) (.seq (.seq (.reg [zm 3 0, zo 4 (zC 83 [3]), zo 5 (zv 4)] [0, 5]) (.cond (.t 5) (.seq (.reg [zo 2 (zn (-1))] [2])
 .ret)
 .skip)) (.seq (.reg [zm 6 0, zo 7 (zK .rem 6 3), zm 2 7] [2])
 .ret))⟩
theorem a45 : agreeFn Tryz.prog Tryz.f45 A45 = true := by kernel_rfl
def A91 : AFn := ⟨8, [.tmp 4],
 .seq (.reg [zo 4 (zn 0)] [0, 1]) (.seq (.seq (.reg [zm 5 0, zo 6 (zv 5)] [1, 6]) (.cond (.t 6) (.seq (.reg [zo 4 (zn (-1))] [4])
 .ret)
 .skip)) (.seq (.reg [zm 7 1, zm 4 7] [4])
 .ret))⟩
theorem a91 : agreeFn Tryz.prog Tryz.f91 A91 = true := by kernel_rfl
def A129 : AFn := ⟨7, [.tmp 2],
 .seq (.reg [zo 2 (zn 0)] [0]) (.seq (.reg [zm 3 0, zo 4 (zC 85 [3]), zm 5 0, zo 6 (zC 91 [4, 5]), zm 2 6] [2])
 .ret)⟩
theorem a129 : agreeFn Tryz.prog Tryz.f129 A129 = true := by kernel_rfl
def A43 : AFn := ⟨8, [.tmp 2],
 .seq (.reg [zo 2 (zn 0)] [0]) (.seq (.reg [zm 3 0, zo 4 (zC 83 [3]), zm 5 0, zo 6 (.bin .add (.c (.int .i64 3)) (.t 5)), zo 7 (zC 91 [4, 6]), zm 2 7] [2])
 .ret)⟩
theorem a43 : agreeFn Tryz.prog Tryz.f43 A43 = true := by kernel_rfl
def A44 : AFn := ⟨8, [.tmp 2],
 .seq (.reg [zo 2 (zn 0)] [0]) (.seq (.reg [zm 3 0, zo 4 (zC 86 [3]), zm 5 0, zo 6 (.bin .add (.c (.int .i64 10)) (.t 5)), zo 7 (zC 91 [4, 6]), zm 2 7] [2])
 .ret)⟩
theorem a44 : agreeFn Tryz.prog Tryz.f44 A44 = true := by kernel_rfl
def A47 : AFn := ⟨1, [.tmp 0],
 .seq (.reg [zo 0 (zn 0)] []) (.seq (.reg [zo 0 (zn 13)] [0])
 .ret)⟩
theorem a47 : agreeFn Tryz.prog Tryz.f47 A47 = true := by kernel_rfl
def A46 : AFn := ⟨9, [.tmp 2],
 .seq (.reg [zo 2 (zn 0)] [0]) (.seq (.reg [zm 3 0, zo 4 (zC 83 [3]), zo 5 (zC 47 []), zm 6 0, zo 7 (zB .add 5 6), zo 8 (zC 91 [4, 7]), zm 2 8] [2])
 .ret)⟩
theorem a46 : agreeFn Tryz.prog Tryz.f46 A46 = true := by kernel_rfl
def A102 : AFn := ⟨5, [.tmp 2],
 .seq (.reg [zo 2 (zT false)] [0]) (.seq (.reg [zm 3 0, zo 4 (.call 29 [(.t 3), (.c (.int .i64 0)), (.c (.int .i64 19))]), zm 2 4] [2])
 .ret)⟩
theorem a102 : agreeFn Tryz.prog Tryz.f102 A102 = true := by kernel_rfl
def A103 : AFn := ⟨5, [.tmp 2],
 .seq (.reg [zo 2 (zT false)] [0]) (.seq (.reg [zm 3 0, zo 4 (.call 29 [(.t 3), (.c (.int .i64 0)), (.c (.int .i64 1000))]), zm 2 4] [2])
 .ret)⟩
theorem a103 : agreeFn Tryz.prog Tryz.f103 A103 = true := by kernel_rfl
theorem c_KeyOk (k : Int) (l : List (Option Blk)) (K : AV → AHeap → Prop) (h : K (.s (.bool (keyOk k))) (hp l)) : Spec Tryz.prog 85 [.s (.int .i64 k)] (hp l) K := by
  refine spec_of_awp dS Tryz.func85 a85 (by simp [A85]) ?_
  simp only [S, LL, A85, ne_eq, xop, simprocAttr]
  refine c_from _ _ _ _ _ ?_
  simp only [S, LL, ne_eq, xop, simprocAttr]
  exact h
theorem c_ValOk (k : Int) (l : List (Option Blk)) (K : AV → AHeap → Prop) (h : K (.s (.bool (valOk k))) (hp l)) : Spec Tryz.prog 83 [.s (.int .i64 k)] (hp l) K := by
  refine spec_of_awp dS Tryz.func83 a83 (by simp [A83]) ?_
  simp only [S, LL, A83, ne_eq, xop, simprocAttr]
  refine c_from _ _ _ _ _ ?_
  simp only [S, LL, ne_eq, xop, simprocAttr]
  exact h
theorem c_isClass (k : Int) (l : List (Option Blk)) (K : AV → AHeap → Prop) (h : K (.s (.bool (classOk k))) (hp l)) : Spec Tryz.prog 86 [.s (.int .i64 k)] (hp l) K := by
  refine spec_of_awp dS Tryz.func86 a86 (by simp [A86]) ?_
  simp only [S, LL, A86, ne_eq, xop, simprocAttr]
  refine c_from _ _ _ _ _ ?_
  simp only [S, LL, ne_eq, xop, simprocAttr]
  exact h
theorem c_isPlace (k : Int) (l : List (Option Blk)) (K : AV → AHeap → Prop) (h : K (.s (.bool (placeOk k))) (hp l)) : Spec Tryz.prog 102 [.s (.int .i64 k)] (hp l) K := by
  refine spec_of_awp dS Tryz.func102 a102 (by simp [A102]) ?_
  simp only [S, LL, A102, ne_eq, xop, simprocAttr]
  refine c_from _ _ _ _ _ ?_
  simp only [S, LL, ne_eq, xop, simprocAttr]
  exact h
theorem c_isWordNum (k : Int) (l : List (Option Blk)) (K : AV → AHeap → Prop) (h : K (.s (.bool (numOk k))) (hp l)) : Spec Tryz.prog 103 [.s (.int .i64 k)] (hp l) K := by
  refine spec_of_awp dS Tryz.func103 a103 (by simp [A103]) ?_
  simp only [S, LL, A103, ne_eq, xop, simprocAttr]
  refine c_from _ _ _ _ _ ?_
  simp only [S, LL, ne_eq, xop, simprocAttr]
  exact h
theorem c_ClassOf (v : Int) (l : List (Option Blk)) (K : AV → AHeap → Prop) (h : K (.s (.int .i64 (classOf v))) (hp l)) : Spec Tryz.prog 45 [.s (.int .i64 v)] (hp l) K := by
  refine spec_of_awp dS Tryz.func45 a45 (by simp [A45]) ?_
  simp only [S, LL, A45, ne_eq, xop, simprocAttr]
  refine c_ValOk _ _ _ ?_
  cases hv : valOk v
  · simp only [S, LL, ne_eq, xop, simprocAttr]
    simpa [classOf, hv] using h
  · have h3 : ¬ ((3 : Int) = 0) := by decide
    have hv2 := isIn_iff.1 hv
    have w : v.tmod 3 = v % 3 := Int.tmod_eq_emod_of_nonneg (by omega)
    simp only [S, LL, h3, w, ne_eq, xop, simprocAttr]
    simpa [classOf, hv] using h
theorem c_placed (b : Bool) (n : Int) (l : List (Option Blk)) (K : AV → AHeap → Prop) (h : K (.s (.int .i64 (if b then n else -1))) (hp l)) : Spec Tryz.prog 91 [.s (.bool b), .s (.int .i64 n)] (hp l) K := by
  refine spec_of_awp dS Tryz.func91 a91 (by simp [A91]) ?_
  cases b
  · simp only [S, LL, A91, ne_eq, xop, simprocAttr]
    simpa using h
  · simp only [S, LL, A91, ne_eq, xop, simprocAttr]
    simpa using h
theorem c_RowAt (k : Int) (l : List (Option Blk)) (K : AV → AHeap → Prop) (h : K (.s (.int .i64 (rowAt k))) (hp l)) : Spec Tryz.prog 129 [.s (.int .i64 k)] (hp l) K := by
  refine spec_of_awp dS Tryz.func129 a129 (by simp [A129]) ?_
  simp only [S, LL, A129, ne_eq, xop, simprocAttr]
  refine c_KeyOk _ _ _ ?_
  simp only [S, LL, ne_eq, xop, simprocAttr]
  refine c_placed _ _ _ _ ?_
  simp only [S, LL, ne_eq, xop, simprocAttr]
  exact h
def vb (v : Int) : Prop := -1000000 ≤ v ∧ v ≤ 1000000
theorem c_OwnerAt (v : Int) (hv : vb v) (l : List (Option Blk)) (K : AV → AHeap → Prop) (h : K (.s (.int .i64 (ownerAt v))) (hp l)) : Spec Tryz.prog 43 [.s (.int .i64 v)] (hp l) K := by
  refine spec_of_awp dS Tryz.func43 a43 (by simp [A43]) ?_
  unfold vb at hv
  have w : IntKind.i64.wrap (3 + v) = 3 + v := wrap_id (by omega) (by omega)
  simp only [S, LL, A43, w, ne_eq, xop, simprocAttr]
  refine c_ValOk _ _ _ ?_
  simp only [S, LL, w, ne_eq, xop, simprocAttr]
  refine c_placed _ _ _ _ ?_
  simp only [S, LL, ne_eq, xop, simprocAttr]
  exact h
theorem c_CountAt (v : Int) (hv : vb v) (l : List (Option Blk)) (K : AV → AHeap → Prop) (h : K (.s (.int .i64 (countAt v))) (hp l)) : Spec Tryz.prog 44 [.s (.int .i64 v)] (hp l) K := by
  refine spec_of_awp dS Tryz.func44 a44 (by simp [A44]) ?_
  unfold vb at hv
  have w : IntKind.i64.wrap (10 + v) = 10 + v := wrap_id (by omega) (by omega)
  simp only [S, LL, A44, w, ne_eq, xop, simprocAttr]
  refine c_isClass _ _ _ ?_
  simp only [S, LL, w, ne_eq, xop, simprocAttr]
  refine c_placed _ _ _ _ ?_
  simp only [S, LL, ne_eq, xop, simprocAttr]
  exact h
theorem c_StateAt (l : List (Option Blk)) (K : AV → AHeap → Prop) (h : K (.s (.int .i64 13)) (hp l)) : Spec Tryz.prog 47 [] (hp l) K := by
  refine spec_of_awp dS Tryz.func47 a47 (by simp [A47]) ?_
  simp only [S, LL, A47, ne_eq, xop, simprocAttr]
  exact h
theorem c_ViaAt (v : Int) (hv : vb v) (l : List (Option Blk)) (K : AV → AHeap → Prop) (h : K (.s (.int .i64 (viaAt v))) (hp l)) : Spec Tryz.prog 46 [.s (.int .i64 v)] (hp l) K := by
  refine spec_of_awp dS Tryz.func46 a46 (by simp [A46]) ?_
  unfold vb at hv
  have w : IntKind.i64.wrap (13 + v) = 13 + v := wrap_id (by omega) (by omega)
  simp only [S, LL, A46, w, ne_eq, xop, simprocAttr]
  refine c_ValOk _ _ _ ?_
  simp only [S, LL, w, ne_eq, xop, simprocAttr]
  refine c_StateAt _ _ ?_
  simp only [S, LL, w, ne_eq, xop, simprocAttr]
  refine c_placed _ _ _ _ ?_
  simp only [S, LL, ne_eq, xop, simprocAttr]
  exact h
end Go.Proofs.YtoeieoapnhhaeaaGreat.Den
namespace Go.Proofs.YtoeieoapnhhaeaaGreat.Den
open Go.RowKit
set_option linter.unusedSimpArgs false
set_option linter.unusedVariables false
set_option maxRecDepth 100000
set_option maxHeartbeats 2000000
def idxP {α : Type} (p : α → Bool) : List α → Nat → Int
  | [], _ => -1
  | x :: r, i => if p x = true then (i : Int) else idxP p r (i + 1)
theorem idxP_drop {α : Type} {p : α → Bool} {l : List α} {i : Nat} (h : i < l.length) : idxP p (l.drop i) i = if p l[i] = true then (i : Int) else idxP p (l.drop (i + 1)) (i + 1) := by
  rw [List.drop_eq_getElem_cons h]; rfl
theorem idxP_any {α : Type} {p : α → Bool} : ∀ (l : List α) (i : Nat), decide (0 ≤ idxP p l i) = l.any p
  | [], i => rfl
  | x :: r, i => by
    unfold idxP
    rw [List.any_cons]
    split
    · rename_i h; rw [h]; simp
    · rename_i h
      rw [idxP_any r (i + 1)]
      simp only [Bool.not_eq_true] at h
      rw [h]; rfl
def A136 : AFn := ⟨19, [.tmp 4],
 .seq (.reg [zo 4 (zn 0)] [0, 1]) (.seq (.seq (.reg [zm 6 0, zo 7 (zl 6), zo 8 (zn 0)] [0, 1, 7, 8]) (.block 0 (.loop (.seq (.reg [zo 9 (zB .lss 8 7)] [0, 1, 7, 8, 9]) (.seq (.cond (.t 9) .skip
 (.exit 0)) (.seq (.block 1 (.seq (.reg [zm 10 8, zm 5 10] [0, 1, 5, 7, 8]) (.seq (.reg [zm 11 1, zm 12 0, zm 13 5, zo 14 (zI 5 12 13), zo 15 (zN 5 14), zo 16 (.callv (.t 11) [(.t 15)])] [0, 1, 5, 7, 8, 16]) (.cond (.t 16) (.seq (.reg [zm 17 5, zm 4 17] [4])
 .ret)
 .skip)))) (.reg [zo 18 (zK .add 8 1), zm 8 18] [0, 1, 7, 8]))))))) (.seq (.reg [zo 4 (zn (-1))] [4])
 .ret))⟩
theorem a136 : agreeFn Tryz.prog Tryz.f136 A136 = true := by kernel_rfl
def A94 : AFn := ⟨9, [.tmp 4],
 .seq (.reg [zo 4 (zT false)] [0, 1]) (.seq (.reg [zm 5 0, zm 6 1, zo 7 (zC 136 [5, 6]), zo 8 (zK .geq 7 0), zm 4 8] [4])
 .ret)⟩
theorem a94 : agreeFn Tryz.prog Tryz.f94 A94 = true := by kernel_rfl
def A137 : AFn := ⟨19, [.tmp 4],
 .seq (.reg [zo 4 (zn 0)] [0, 1]) (.seq (.seq (.reg [zm 6 0, zo 7 (zl 6), zo 8 (zn 0)] [0, 1, 7, 8]) (.block 0 (.loop (.seq (.reg [zo 9 (zB .lss 8 7)] [0, 1, 7, 8, 9]) (.seq (.cond (.t 9) .skip
 (.exit 0)) (.seq (.block 1 (.seq (.reg [zm 10 8, zm 5 10] [0, 1, 5, 7, 8]) (.seq (.reg [zm 11 1, zm 12 0, zm 13 5, zo 14 (zI 3 12 13), zo 15 (zN 3 14), zo 16 (.callv (.t 11) [(.t 15)])] [0, 1, 5, 7, 8, 16]) (.cond (.t 16) (.seq (.reg [zm 17 5, zm 4 17] [4])
 .ret)
 .skip)))) (.reg [zo 18 (zK .add 8 1), zm 8 18] [0, 1, 7, 8]))))))) (.seq (.reg [zo 4 (zn (-1))] [4])
 .ret))⟩
theorem a137 : agreeFn Tryz.prog Tryz.f137 A137 = true := by kernel_rfl
def A98 : AFn := ⟨9, [.tmp 4],
 .seq (.reg [zo 4 (zT false)] [0, 1]) (.seq (.reg [zm 5 0, zm 6 1, zo 7 (zC 137 [5, 6]), zo 8 (zK .geq 7 0), zm 4 8] [4])
 .ret)⟩
theorem a98 : agreeFn Tryz.prog Tryz.f98 A98 = true := by kernel_rfl
def A138 : AFn := ⟨19, [.tmp 4],
 .seq (.reg [zo 4 (zn 0)] [0, 1]) (.seq (.seq (.reg [zm 6 0, zo 7 (zl 6), zo 8 (zn 0)] [0, 1, 7, 8]) (.block 0 (.loop (.seq (.reg [zo 9 (zB .lss 8 7)] [0, 1, 7, 8, 9]) (.seq (.cond (.t 9) .skip
 (.exit 0)) (.seq (.block 1 (.seq (.reg [zm 10 8, zm 5 10] [0, 1, 5, 7, 8]) (.seq (.reg [zm 11 1, zm 12 0, zm 13 5, zo 14 (zI 2 12 13), zo 15 (zN 2 14), zo 16 (.callv (.t 11) [(.t 15)])] [0, 1, 5, 7, 8, 16]) (.cond (.t 16) (.seq (.reg [zm 17 5, zm 4 17] [4])
 .ret)
 .skip)))) (.reg [zo 18 (zK .add 8 1), zm 8 18] [0, 1, 7, 8]))))))) (.seq (.reg [zo 4 (zn (-1))] [4])
 .ret))⟩
theorem a138 : agreeFn Tryz.prog Tryz.f138 A138 = true := by kernel_rfl
def A100 : AFn := ⟨9, [.tmp 4],
 .seq (.reg [zo 4 (zT false)] [0, 1]) (.seq (.reg [zm 5 0, zm 6 1, zo 7 (zC 138 [5, 6]), zo 8 (zK .geq 7 0), zm 4 8] [4])
 .ret)⟩
theorem a100 : agreeFn Tryz.prog Tryz.f100 A100 = true := by kernel_rfl
def A139 : AFn := ⟨19, [.tmp 4],
 .seq (.reg [zo 4 (zn 0)] [0, 1]) (.seq (.seq (.reg [zm 6 0, zo 7 (zl 6), zo 8 (zn 0)] [0, 1, 7, 8]) (.block 0 (.loop (.seq (.reg [zo 9 (zB .lss 8 7)] [0, 1, 7, 8, 9]) (.seq (.cond (.t 9) .skip
 (.exit 0)) (.seq (.block 1 (.seq (.reg [zm 10 8, zm 5 10] [0, 1, 5, 7, 8]) (.seq (.reg [zm 11 1, zm 12 0, zm 13 5, zo 14 (zI 4 12 13), zo 15 (zN 4 14), zo 16 (.callv (.t 11) [(.t 15)])] [0, 1, 5, 7, 8, 16]) (.cond (.t 16) (.seq (.reg [zm 17 5, zm 4 17] [4])
 .ret)
 .skip)))) (.reg [zo 18 (zK .add 8 1), zm 8 18] [0, 1, 7, 8]))))))) (.seq (.reg [zo 4 (zn (-1))] [4])
 .ret))⟩
theorem a139 : agreeFn Tryz.prog Tryz.f139 A139 = true := by kernel_rfl
def A104 : AFn := ⟨9, [.tmp 4],
 .seq (.reg [zo 4 (zT false)] [0, 1]) (.seq (.reg [zm 5 0, zm 6 1, zo 7 (zC 139 [5, 6]), zo 8 (zK .geq 7 0), zm 4 8] [4])
 .ret)⟩
theorem a104 : agreeFn Tryz.prog Tryz.f104 A104 = true := by kernel_rfl
def A150 : AFn := ⟨19, [.tmp 4],
 .seq (.reg [zo 4 (zn 0)] [0, 1]) (.seq (.seq (.reg [zm 6 0, zo 7 (zl 6), zo 8 (zn 0)] [0, 1, 7, 8]) (.block 0 (.loop (.seq (.reg [zo 9 (zB .lss 8 7)] [0, 1, 7, 8, 9]) (.seq (.cond (.t 9) .skip
 (.exit 0)) (.seq (.block 1 (.seq (.reg [zm 10 8, zm 5 10] [0, 1, 5, 7, 8]) (.seq (.reg [zm 11 1, zm 12 0, zm 13 5, zo 14 (zI 3 12 13), zo 15 (zN 3 14), zo 16 (.callv (.t 11) [(.t 15)])] [0, 1, 5, 7, 8, 16]) (.cond (.t 16) (.seq (.reg [zm 17 5, zm 4 17] [4])
 .ret)
 .skip)))) (.reg [zo 18 (zK .add 8 1), zm 8 18] [0, 1, 7, 8]))))))) (.seq (.reg [zo 4 (zn (-1))] [4])
 .ret))⟩
theorem a150 : agreeFn Tryz.prog Tryz.f150 A150 = true := by kernel_rfl
def A133 : AFn := ⟨9, [.tmp 4],
 .seq (.reg [zo 4 (zT false)] [0, 1]) (.seq (.reg [zm 5 0, zm 6 1, zo 7 (zC 150 [5, 6]), zo 8 (zK .geq 7 0), zm 4 8] [4])
 .ret)⟩
theorem a133 : agreeFn Tryz.prog Tryz.f133 A133 = true := by kernel_rfl
def A55 : AFn := ⟨8, [.tmp 2],
 .seq (.reg [zo 2 (.mov (.c (.nils)))] [0]) (.seq (.seq (.reg [zm 3 0, zo 4 (.eqnil false (.t 3) (.c (.nils)))] [0, 4]) (.cond (.t 4) (.seq (.reg [zo 2 (.mov (.c (.nils)))] [2])
 .ret)
 .skip)) (.seq (.reg [zo 5 (.mkrow 3 1 [.int .i64 0] 0 []), zm 6 0, zo 7 (.append 3 1 8 (.t 5) (.t 6)), zm 2 7] [2])
 .ret))⟩
theorem a55 : agreeFn Tryz.prog Tryz.f55 A55 = true := by kernel_rfl
def A56 : AFn := ⟨8, [.tmp 2],
 .seq (.reg [zo 2 (.mov (.c (.nils)))] [0]) (.seq (.seq (.reg [zm 3 0, zo 4 (.eqnil false (.t 3) (.c (.nils)))] [0, 4]) (.cond (.t 4) (.seq (.reg [zo 2 (.mov (.c (.nils)))] [2])
 .ret)
 .skip)) (.seq (.reg [zo 5 (.mkrow 43 3 [.int .i64 0, .int .i64 0, .int .i64 0] 0 []), zm 6 0, zo 7 (.append 43 3 24 (.t 5) (.t 6)), zm 2 7] [2])
 .ret))⟩
theorem a56 : agreeFn Tryz.prog Tryz.f56 A56 = true := by kernel_rfl
def A120 : AFn := ⟨8, [.tmp 2],
 .seq (.reg [zo 2 (.mov (.c (.nils)))] [0]) (.seq (.seq (.reg [zm 3 0, zo 4 (.eqnil false (.t 3) (.c (.nils)))] [0, 4]) (.cond (.t 4) (.seq (.reg [zo 2 (.mov (.c (.nils)))] [2])
 .ret)
 .skip)) (.seq (.reg [zo 5 (.mkrow 96 3 [.int .i64 0, .int .i64 0, .int .i64 0] 0 []), zm 6 0, zo 7 (.append 96 3 24 (.t 5) (.t 6)), zm 2 7] [2])
 .ret))⟩
theorem a120 : agreeFn Tryz.prog Tryz.f120 A120 = true := by kernel_rfl
def A121 : AFn := ⟨8, [.tmp 2],
 .seq (.reg [zo 2 (.mov (.c (.nils)))] [0]) (.seq (.seq (.reg [zm 3 0, zo 4 (.eqnil false (.t 3) (.c (.nils)))] [0, 4]) (.cond (.t 4) (.seq (.reg [zo 2 (.mov (.c (.nils)))] [2])
 .ret)
 .skip)) (.seq (.reg [zo 5 (.mkrow 130 3 [.int .i64 0, .int .i64 0, .int .i64 0] 0 []), zm 6 0, zo 7 (.append 130 3 24 (.t 5) (.t 6)), zm 2 7] [2])
 .ret))⟩
theorem a121 : agreeFn Tryz.prog Tryz.f121 A121 = true := by kernel_rfl
def A122 : AFn := ⟨8, [.tmp 2],
 .seq (.reg [zo 2 (.mov (.c (.nils)))] [0]) (.seq (.seq (.reg [zm 3 0, zo 4 (.eqnil false (.t 3) (.c (.nils)))] [0, 4]) (.cond (.t 4) (.seq (.reg [zo 2 (.mov (.c (.nils)))] [2])
 .ret)
 .skip)) (.seq (.reg [zo 5 (.mkrow 120 2 [.int .i64 0, .int .i64 0] 0 []), zm 6 0, zo 7 (.append 120 2 16 (.t 5) (.t 6)), zm 2 7] [2])
 .ret))⟩
theorem a122 : agreeFn Tryz.prog Tryz.f122 A122 = true := by kernel_rfl
def A123 : AFn := ⟨8, [.tmp 2],
 .seq (.reg [zo 2 (.mov (.c (.nils)))] [0]) (.seq (.seq (.reg [zm 3 0, zo 4 (.eqnil false (.t 3) (.c (.nils)))] [0, 4]) (.cond (.t 4) (.seq (.reg [zo 2 (.mov (.c (.nils)))] [2])
 .ret)
 .skip)) (.seq (.reg [zo 5 (.mkrow 108 4 [.int .i64 0, .int .i64 0, .int .i64 0, .int .i64 0] 0 []), zm 6 0, zo 7 (.append 108 4 32 (.t 5) (.t 6)), zm 2 7] [2])
 .ret))⟩
theorem a123 : agreeFn Tryz.prog Tryz.f123 A123 = true := by kernel_rfl
theorem b_idxDc (f : FuncId) (caps : List (Nat × Nat × Nat)) (H : AHeap) (xs : List MDc) (p : MDc → Bool) (hl : xs.length ≤ 2000000) (hc : callee Tryz.prog f = true) (hp : ∀ x ∈ xs, Spec Tryz.prog f (.agg (encDc x) :: caps.map capAV) H fun v G => v = .s (.bool (p x)) ∧ G = H) : Spec Tryz.prog 136 [.s (.lst 5 (dcs xs)), .s (.fn f caps)] H fun v G => v = .s (.int .i64 (idxP p xs 0)) ∧ G = H := by
  refine spec_of_awp dS Tryz.func136 a136 (by simp [A136]) ?_
  simp only [S, LL, A136, ne_eq, xop, simprocAttr]
  refine awp_loop (fun m s => ∃ (i : Nat), i + m = xs.length ∧ idxP p xs 0 = idxP p (xs.drop i) i ∧ s = ⟨[(0, .s (.lst 5 (dcs xs))), (1, .s (.fn f caps)), (7, .s (.int .i64 xs.length)), (8, .s (.int .i64 i))], H⟩) xs.length ⟨_, W.refl (Nat.le_refl _), 0, by omega, rfl, rfl⟩ ?_
  rintro m s ⟨i, him, hd, rfl⟩
  by_cases hi : i < xs.length
  · have h1 : (i : Int) < (xs.length : Int) := by omega
    have h0 : (0 : Int) ≤ (i : Int) := by omega
    have w2 : IntKind.i64.wrap ((i : Int) + 1) = (i + 1 : Nat) := wrap_id (by omega) (by omega)
    rw [idxP_drop hi] at hd
    simp only [S, LL, h1, h0, dcs_get hi, w2, hc, ne_eq, xop, simprocAttr]
    refine (hp xs[i] (List.getElem_mem hi)).mono ?_
    rintro v G ⟨rfl, rfl⟩
    cases hx : p xs[i]
    · rw [hx, if_neg (by decide)] at hd
      simp only [S, LL, w2, ne_eq, xop, simprocAttr]
      exact ⟨m - 1, by omega, _, W.refl (Nat.le_refl _), i + 1, by omega, hd, rfl⟩
    · rw [hx, if_pos rfl] at hd
      simp only [S, LL, ne_eq, xop, simprocAttr]
      rw [hd]
  · have h1 : ¬ (i : Int) < (xs.length : Int) := by omega
    rw [List.drop_of_length_le (by omega)] at hd
    simp only [S, LL, h1, ne_eq, xop, simprocAttr]
    rw [hd]
    rfl
theorem b_anyDc (f : FuncId) (caps : List (Nat × Nat × Nat)) (H : AHeap) (xs : List MDc) (p : MDc → Bool) (hl : xs.length ≤ 2000000) (hc : callee Tryz.prog f = true) (hp : ∀ x ∈ xs, Spec Tryz.prog f (.agg (encDc x) :: caps.map capAV) H fun v G => v = .s (.bool (p x)) ∧ G = H) : Spec Tryz.prog 94 [.s (.lst 5 (dcs xs)), .s (.fn f caps)] H fun v G => v = .s (.bool (xs.any p)) ∧ G = H := by
  refine spec_of_awp dS Tryz.func94 a94 (by simp [A94]) ?_
  simp only [S, LL, A94, ne_eq, xop, simprocAttr]
  refine (b_idxDc f caps H xs p hl hc hp).mono ?_
  rintro v G ⟨rfl, rfl⟩
  simp only [S, LL, idxP_any, ne_eq, xop, simprocAttr]
theorem b_idxOp (f : FuncId) (caps : List (Nat × Nat × Nat)) (H : AHeap) (xs : List MOp) (p : MOp → Bool) (hl : xs.length ≤ 2000000) (hc : callee Tryz.prog f = true) (hp : ∀ x ∈ xs, Spec Tryz.prog f (.agg (encOp x) :: caps.map capAV) H fun v G => v = .s (.bool (p x)) ∧ G = H) : Spec Tryz.prog 137 [.s (.lst 3 (ops xs)), .s (.fn f caps)] H fun v G => v = .s (.int .i64 (idxP p xs 0)) ∧ G = H := by
  refine spec_of_awp dS Tryz.func137 a137 (by simp [A137]) ?_
  simp only [S, LL, A137, ne_eq, xop, simprocAttr]
  refine awp_loop (fun m s => ∃ (i : Nat), i + m = xs.length ∧ idxP p xs 0 = idxP p (xs.drop i) i ∧ s = ⟨[(0, .s (.lst 3 (ops xs))), (1, .s (.fn f caps)), (7, .s (.int .i64 xs.length)), (8, .s (.int .i64 i))], H⟩) xs.length ⟨_, W.refl (Nat.le_refl _), 0, by omega, rfl, rfl⟩ ?_
  rintro m s ⟨i, him, hd, rfl⟩
  by_cases hi : i < xs.length
  · have h1 : (i : Int) < (xs.length : Int) := by omega
    have h0 : (0 : Int) ≤ (i : Int) := by omega
    have w2 : IntKind.i64.wrap ((i : Int) + 1) = (i + 1 : Nat) := wrap_id (by omega) (by omega)
    rw [idxP_drop hi] at hd
    simp only [S, LL, h1, h0, ops_get hi, w2, hc, ne_eq, xop, simprocAttr]
    refine (hp xs[i] (List.getElem_mem hi)).mono ?_
    rintro v G ⟨rfl, rfl⟩
    cases hx : p xs[i]
    · rw [hx, if_neg (by decide)] at hd
      simp only [S, LL, w2, ne_eq, xop, simprocAttr]
      exact ⟨m - 1, by omega, _, W.refl (Nat.le_refl _), i + 1, by omega, hd, rfl⟩
    · rw [hx, if_pos rfl] at hd
      simp only [S, LL, ne_eq, xop, simprocAttr]
      rw [hd]
  · have h1 : ¬ (i : Int) < (xs.length : Int) := by omega
    rw [List.drop_of_length_le (by omega)] at hd
    simp only [S, LL, h1, ne_eq, xop, simprocAttr]
    rw [hd]
    rfl
theorem b_anyOp (f : FuncId) (caps : List (Nat × Nat × Nat)) (H : AHeap) (xs : List MOp) (p : MOp → Bool) (hl : xs.length ≤ 2000000) (hc : callee Tryz.prog f = true) (hp : ∀ x ∈ xs, Spec Tryz.prog f (.agg (encOp x) :: caps.map capAV) H fun v G => v = .s (.bool (p x)) ∧ G = H) : Spec Tryz.prog 98 [.s (.lst 3 (ops xs)), .s (.fn f caps)] H fun v G => v = .s (.bool (xs.any p)) ∧ G = H := by
  refine spec_of_awp dS Tryz.func98 a98 (by simp [A98]) ?_
  simp only [S, LL, A98, ne_eq, xop, simprocAttr]
  refine (b_idxOp f caps H xs p hl hc hp).mono ?_
  rintro v G ⟨rfl, rfl⟩
  simp only [S, LL, idxP_any, ne_eq, xop, simprocAttr]
theorem b_idxPr (f : FuncId) (caps : List (Nat × Nat × Nat)) (H : AHeap) (xs : List MPr) (p : MPr → Bool) (hl : xs.length ≤ 2000000) (hc : callee Tryz.prog f = true) (hp : ∀ x ∈ xs, Spec Tryz.prog f (.agg (encPr x) :: caps.map capAV) H fun v G => v = .s (.bool (p x)) ∧ G = H) : Spec Tryz.prog 138 [.s (.lst 2 (prs xs)), .s (.fn f caps)] H fun v G => v = .s (.int .i64 (idxP p xs 0)) ∧ G = H := by
  refine spec_of_awp dS Tryz.func138 a138 (by simp [A138]) ?_
  simp only [S, LL, A138, ne_eq, xop, simprocAttr]
  refine awp_loop (fun m s => ∃ (i : Nat), i + m = xs.length ∧ idxP p xs 0 = idxP p (xs.drop i) i ∧ s = ⟨[(0, .s (.lst 2 (prs xs))), (1, .s (.fn f caps)), (7, .s (.int .i64 xs.length)), (8, .s (.int .i64 i))], H⟩) xs.length ⟨_, W.refl (Nat.le_refl _), 0, by omega, rfl, rfl⟩ ?_
  rintro m s ⟨i, him, hd, rfl⟩
  by_cases hi : i < xs.length
  · have h1 : (i : Int) < (xs.length : Int) := by omega
    have h0 : (0 : Int) ≤ (i : Int) := by omega
    have w2 : IntKind.i64.wrap ((i : Int) + 1) = (i + 1 : Nat) := wrap_id (by omega) (by omega)
    rw [idxP_drop hi] at hd
    simp only [S, LL, h1, h0, prs_get hi, w2, hc, ne_eq, xop, simprocAttr]
    refine (hp xs[i] (List.getElem_mem hi)).mono ?_
    rintro v G ⟨rfl, rfl⟩
    cases hx : p xs[i]
    · rw [hx, if_neg (by decide)] at hd
      simp only [S, LL, w2, ne_eq, xop, simprocAttr]
      exact ⟨m - 1, by omega, _, W.refl (Nat.le_refl _), i + 1, by omega, hd, rfl⟩
    · rw [hx, if_pos rfl] at hd
      simp only [S, LL, ne_eq, xop, simprocAttr]
      rw [hd]
  · have h1 : ¬ (i : Int) < (xs.length : Int) := by omega
    rw [List.drop_of_length_le (by omega)] at hd
    simp only [S, LL, h1, ne_eq, xop, simprocAttr]
    rw [hd]
    rfl
theorem b_anyPr (f : FuncId) (caps : List (Nat × Nat × Nat)) (H : AHeap) (xs : List MPr) (p : MPr → Bool) (hl : xs.length ≤ 2000000) (hc : callee Tryz.prog f = true) (hp : ∀ x ∈ xs, Spec Tryz.prog f (.agg (encPr x) :: caps.map capAV) H fun v G => v = .s (.bool (p x)) ∧ G = H) : Spec Tryz.prog 100 [.s (.lst 2 (prs xs)), .s (.fn f caps)] H fun v G => v = .s (.bool (xs.any p)) ∧ G = H := by
  refine spec_of_awp dS Tryz.func100 a100 (by simp [A100]) ?_
  simp only [S, LL, A100, ne_eq, xop, simprocAttr]
  refine (b_idxPr f caps H xs p hl hc hp).mono ?_
  rintro v G ⟨rfl, rfl⟩
  simp only [S, LL, idxP_any, ne_eq, xop, simprocAttr]
theorem b_idxHl (f : FuncId) (caps : List (Nat × Nat × Nat)) (H : AHeap) (xs : List MHl) (p : MHl → Bool) (hl : xs.length ≤ 2000000) (hc : callee Tryz.prog f = true) (hp : ∀ x ∈ xs, Spec Tryz.prog f (.agg (encHl x) :: caps.map capAV) H fun v G => v = .s (.bool (p x)) ∧ G = H) : Spec Tryz.prog 139 [.s (.lst 4 (hls xs)), .s (.fn f caps)] H fun v G => v = .s (.int .i64 (idxP p xs 0)) ∧ G = H := by
  refine spec_of_awp dS Tryz.func139 a139 (by simp [A139]) ?_
  simp only [S, LL, A139, ne_eq, xop, simprocAttr]
  refine awp_loop (fun m s => ∃ (i : Nat), i + m = xs.length ∧ idxP p xs 0 = idxP p (xs.drop i) i ∧ s = ⟨[(0, .s (.lst 4 (hls xs))), (1, .s (.fn f caps)), (7, .s (.int .i64 xs.length)), (8, .s (.int .i64 i))], H⟩) xs.length ⟨_, W.refl (Nat.le_refl _), 0, by omega, rfl, rfl⟩ ?_
  rintro m s ⟨i, him, hd, rfl⟩
  by_cases hi : i < xs.length
  · have h1 : (i : Int) < (xs.length : Int) := by omega
    have h0 : (0 : Int) ≤ (i : Int) := by omega
    have w2 : IntKind.i64.wrap ((i : Int) + 1) = (i + 1 : Nat) := wrap_id (by omega) (by omega)
    rw [idxP_drop hi] at hd
    simp only [S, LL, h1, h0, hls_get hi, w2, hc, ne_eq, xop, simprocAttr]
    refine (hp xs[i] (List.getElem_mem hi)).mono ?_
    rintro v G ⟨rfl, rfl⟩
    cases hx : p xs[i]
    · rw [hx, if_neg (by decide)] at hd
      simp only [S, LL, w2, ne_eq, xop, simprocAttr]
      exact ⟨m - 1, by omega, _, W.refl (Nat.le_refl _), i + 1, by omega, hd, rfl⟩
    · rw [hx, if_pos rfl] at hd
      simp only [S, LL, ne_eq, xop, simprocAttr]
      rw [hd]
  · have h1 : ¬ (i : Int) < (xs.length : Int) := by omega
    rw [List.drop_of_length_le (by omega)] at hd
    simp only [S, LL, h1, ne_eq, xop, simprocAttr]
    rw [hd]
    rfl
theorem b_anyHl (f : FuncId) (caps : List (Nat × Nat × Nat)) (H : AHeap) (xs : List MHl) (p : MHl → Bool) (hl : xs.length ≤ 2000000) (hc : callee Tryz.prog f = true) (hp : ∀ x ∈ xs, Spec Tryz.prog f (.agg (encHl x) :: caps.map capAV) H fun v G => v = .s (.bool (p x)) ∧ G = H) : Spec Tryz.prog 104 [.s (.lst 4 (hls xs)), .s (.fn f caps)] H fun v G => v = .s (.bool (xs.any p)) ∧ G = H := by
  refine spec_of_awp dS Tryz.func104 a104 (by simp [A104]) ?_
  simp only [S, LL, A104, ne_eq, xop, simprocAttr]
  refine (b_idxHl f caps H xs p hl hc hp).mono ?_
  rintro v G ⟨rfl, rfl⟩
  simp only [S, LL, idxP_any, ne_eq, xop, simprocAttr]
theorem b_idxWd (f : FuncId) (caps : List (Nat × Nat × Nat)) (H : AHeap) (xs : List MWd) (p : MWd → Bool) (hl : xs.length ≤ 2000000) (hc : callee Tryz.prog f = true) (hp : ∀ x ∈ xs, Spec Tryz.prog f (.agg (encWd x) :: caps.map capAV) H fun v G => v = .s (.bool (p x)) ∧ G = H) : Spec Tryz.prog 150 [.s (.lst 3 (wds xs)), .s (.fn f caps)] H fun v G => v = .s (.int .i64 (idxP p xs 0)) ∧ G = H := by
  refine spec_of_awp dS Tryz.func150 a150 (by simp [A150]) ?_
  simp only [S, LL, A150, ne_eq, xop, simprocAttr]
  refine awp_loop (fun m s => ∃ (i : Nat), i + m = xs.length ∧ idxP p xs 0 = idxP p (xs.drop i) i ∧ s = ⟨[(0, .s (.lst 3 (wds xs))), (1, .s (.fn f caps)), (7, .s (.int .i64 xs.length)), (8, .s (.int .i64 i))], H⟩) xs.length ⟨_, W.refl (Nat.le_refl _), 0, by omega, rfl, rfl⟩ ?_
  rintro m s ⟨i, him, hd, rfl⟩
  by_cases hi : i < xs.length
  · have h1 : (i : Int) < (xs.length : Int) := by omega
    have h0 : (0 : Int) ≤ (i : Int) := by omega
    have w2 : IntKind.i64.wrap ((i : Int) + 1) = (i + 1 : Nat) := wrap_id (by omega) (by omega)
    rw [idxP_drop hi] at hd
    simp only [S, LL, h1, h0, wds_get hi, w2, hc, ne_eq, xop, simprocAttr]
    refine (hp xs[i] (List.getElem_mem hi)).mono ?_
    rintro v G ⟨rfl, rfl⟩
    cases hx : p xs[i]
    · rw [hx, if_neg (by decide)] at hd
      simp only [S, LL, w2, ne_eq, xop, simprocAttr]
      exact ⟨m - 1, by omega, _, W.refl (Nat.le_refl _), i + 1, by omega, hd, rfl⟩
    · rw [hx, if_pos rfl] at hd
      simp only [S, LL, ne_eq, xop, simprocAttr]
      rw [hd]
  · have h1 : ¬ (i : Int) < (xs.length : Int) := by omega
    rw [List.drop_of_length_le (by omega)] at hd
    simp only [S, LL, h1, ne_eq, xop, simprocAttr]
    rw [hd]
    rfl
theorem b_anyWd (f : FuncId) (caps : List (Nat × Nat × Nat)) (H : AHeap) (xs : List MWd) (p : MWd → Bool) (hl : xs.length ≤ 2000000) (hc : callee Tryz.prog f = true) (hp : ∀ x ∈ xs, Spec Tryz.prog f (.agg (encWd x) :: caps.map capAV) H fun v G => v = .s (.bool (p x)) ∧ G = H) : Spec Tryz.prog 133 [.s (.lst 3 (wds xs)), .s (.fn f caps)] H fun v G => v = .s (.bool (xs.any p)) ∧ G = H := by
  refine spec_of_awp dS Tryz.func133 a133 (by simp [A133]) ?_
  simp only [S, LL, A133, ne_eq, xop, simprocAttr]
  refine (b_idxWd f caps H xs p hl hc hp).mono ?_
  rintro v G ⟨rfl, rfl⟩
  simp only [S, LL, idxP_any, ne_eq, xop, simprocAttr]
theorem b_cloneI (xs : List Int) (hl : xs.length ≤ 2000000) : Spec Tryz.prog 55 [.s (.lst 1 (ints xs))] (hp []) fun v G => v = .s (.sl 0 0 xs.length xs.length) ∧ G = hp [some ⟨1, 3, ints xs⟩] := by
  refine Spec.leave ?_
  cases xs with
  | nil =>
    refine Spec.nil_or (pre := []) (post := []) ?_ ?_
    · refine spec_of_awp dS Tryz.func55 a55 (by simp [A55]) ?_
      simp only [S, LL, A55, ne_eq, xop, simprocAttr]
      exact ⟨_, [some ⟨1, 3, []⟩], ⟨[none], [], (by simp [J, JJ]), (by simp), rfl, (by simp), (by simp), (by simp [J, JJ])⟩, rfl, rfl⟩
    · refine spec_of_awp dS Tryz.func55 a55 (by simp [A55]) ?_
      simp only [S, LL, A55, ne_eq, xop, simprocAttr]
      exact ⟨_, [some ⟨1, 3, []⟩], ⟨[some 0], [], (by simp [J, JJ]), (by simp), rfl, (by simp), (by simp), (by simp [J, JJ])⟩, rfl, rfl⟩
  | cons x xs =>
    refine spec_of_awp dS Tryz.func55 a55 (by simp [A55]) ?_
    have e : ints (x :: xs) = [.int .i64 x] :: ints xs := rfl
    have f1 : (xs.length + 1) * 8 ≤ 140737488355328 := by simp at hl; omega
    have f2 : xs.length + 1 ≤ maxLen := le_maxLen (by simp at hl; omega)
    have f3 : ¬ xs.length + 1 ≤ 0 := by omega
    simp only [S, LL, A55, e, f1, f2, f3, ne_eq, xop, simprocAttr]
    exact ⟨_, [some ⟨1, 3, [.int .i64 x] :: ints xs⟩], ⟨[some 1], [], (by simp [J, JJ]), (by simp), rfl, (by simp), (by simp), (by simp [J, JJ])⟩, rfl, rfl⟩
theorem c_cloneI (xs : List Int) (hl : xs.length ≤ 2000000) (l : List (Option Blk)) (args : List AV) (ha : AVsLe (Lent l) args [.s (.lst 1 (ints xs))]) (K : AV → AHeap → Prop) (h : K (.s (.sl l.length 0 xs.length xs.length)) (hp (l ++ [some ⟨1, 3, ints xs⟩]))) : Spec Tryz.prog 55 args (hp l) K :=
  Spec.lend1 (b_cloneI xs hl) ha rfl (one_base (ints_base xs)) (by simpa [AV.ren, AV.ren0, SV.ren, emb_nil] using h)
theorem b_cloneOp (xs : List MOp) (hl : xs.length ≤ 2000000) : Spec Tryz.prog 56 [.s (.lst 3 (ops xs))] (hp []) fun v G => v = .s (.sl 0 0 xs.length xs.length) ∧ G = hp [some ⟨3, 43, ops xs⟩] := by
  refine Spec.leave ?_
  cases xs with
  | nil =>
    refine Spec.nil_or (pre := []) (post := []) ?_ ?_
    · refine spec_of_awp dS Tryz.func56 a56 (by simp [A56]) ?_
      simp only [S, LL, A56, ne_eq, xop, simprocAttr]
      exact ⟨_, [some ⟨3, 43, []⟩], ⟨[none], [], (by simp [J, JJ]), (by simp), rfl, (by simp), (by simp), (by simp [J, JJ])⟩, rfl, rfl⟩
    · refine spec_of_awp dS Tryz.func56 a56 (by simp [A56]) ?_
      simp only [S, LL, A56, ne_eq, xop, simprocAttr]
      exact ⟨_, [some ⟨3, 43, []⟩], ⟨[some 0], [], (by simp [J, JJ]), (by simp), rfl, (by simp), (by simp), (by simp [J, JJ])⟩, rfl, rfl⟩
  | cons x xs =>
    refine spec_of_awp dS Tryz.func56 a56 (by simp [A56]) ?_
    have e : ops (x :: xs) = encOp x :: ops xs := rfl
    have f1 : (xs.length + 1) * 24 ≤ 140737488355328 := by simp at hl; omega
    have f2 : xs.length + 1 ≤ maxLen := le_maxLen (by simp at hl; omega)
    have f3 : ¬ xs.length + 1 ≤ 0 := by omega
    simp only [S, LL, A56, e, f1, f2, f3, ne_eq, xop, simprocAttr]
    exact ⟨_, [some ⟨3, 43, encOp x :: ops xs⟩], ⟨[some 1], [], (by simp [J, JJ, encOp]), (by simp), rfl, (by simp), (by simp), (by simp [J, JJ, encOp])⟩, rfl, rfl⟩
theorem c_cloneOp (xs : List MOp) (hl : xs.length ≤ 2000000) (l : List (Option Blk)) (args : List AV) (ha : AVsLe (Lent l) args [.s (.lst 3 (ops xs))]) (K : AV → AHeap → Prop) (h : K (.s (.sl l.length 0 xs.length xs.length)) (hp (l ++ [some ⟨3, 43, ops xs⟩]))) : Spec Tryz.prog 56 args (hp l) K :=
  Spec.lend1 (b_cloneOp xs hl) ha rfl (one_base (ops_base xs)) (by simpa [AV.ren, AV.ren0, SV.ren, emb_nil] using h)
theorem b_cloneWd (xs : List MWd) (hl : xs.length ≤ 2000000) : Spec Tryz.prog 120 [.s (.lst 3 (wds xs))] (hp []) fun v G => v = .s (.sl 0 0 xs.length xs.length) ∧ G = hp [some ⟨3, 96, wds xs⟩] := by
  refine Spec.leave ?_
  cases xs with
  | nil =>
    refine Spec.nil_or (pre := []) (post := []) ?_ ?_
    · refine spec_of_awp dS Tryz.func120 a120 (by simp [A120]) ?_
      simp only [S, LL, A120, ne_eq, xop, simprocAttr]
      exact ⟨_, [some ⟨3, 96, []⟩], ⟨[none], [], (by simp [J, JJ]), (by simp), rfl, (by simp), (by simp), (by simp [J, JJ])⟩, rfl, rfl⟩
    · refine spec_of_awp dS Tryz.func120 a120 (by simp [A120]) ?_
      simp only [S, LL, A120, ne_eq, xop, simprocAttr]
      exact ⟨_, [some ⟨3, 96, []⟩], ⟨[some 0], [], (by simp [J, JJ]), (by simp), rfl, (by simp), (by simp), (by simp [J, JJ])⟩, rfl, rfl⟩
  | cons x xs =>
    refine spec_of_awp dS Tryz.func120 a120 (by simp [A120]) ?_
    have e : wds (x :: xs) = encWd x :: wds xs := rfl
    have f1 : (xs.length + 1) * 24 ≤ 140737488355328 := by simp at hl; omega
    have f2 : xs.length + 1 ≤ maxLen := le_maxLen (by simp at hl; omega)
    have f3 : ¬ xs.length + 1 ≤ 0 := by omega
    simp only [S, LL, A120, e, f1, f2, f3, ne_eq, xop, simprocAttr]
    exact ⟨_, [some ⟨3, 96, encWd x :: wds xs⟩], ⟨[some 1], [], (by simp [J, JJ, encWd]), (by simp), rfl, (by simp), (by simp), (by simp [J, JJ, encWd])⟩, rfl, rfl⟩
theorem c_cloneWd (xs : List MWd) (hl : xs.length ≤ 2000000) (l : List (Option Blk)) (args : List AV) (ha : AVsLe (Lent l) args [.s (.lst 3 (wds xs))]) (K : AV → AHeap → Prop) (h : K (.s (.sl l.length 0 xs.length xs.length)) (hp (l ++ [some ⟨3, 96, wds xs⟩]))) : Spec Tryz.prog 120 args (hp l) K :=
  Spec.lend1 (b_cloneWd xs hl) ha rfl (one_base (wds_base xs)) (by simpa [AV.ren, AV.ren0, SV.ren, emb_nil] using h)
theorem b_cloneEn (xs : List MEn) (hl : xs.length ≤ 2000000) : Spec Tryz.prog 121 [.s (.lst 3 (ens xs))] (hp []) fun v G => v = .s (.sl 0 0 xs.length xs.length) ∧ G = hp [some ⟨3, 130, ens xs⟩] := by
  refine Spec.leave ?_
  cases xs with
  | nil =>
    refine Spec.nil_or (pre := []) (post := []) ?_ ?_
    · refine spec_of_awp dS Tryz.func121 a121 (by simp [A121]) ?_
      simp only [S, LL, A121, ne_eq, xop, simprocAttr]
      exact ⟨_, [some ⟨3, 130, []⟩], ⟨[none], [], (by simp [J, JJ]), (by simp), rfl, (by simp), (by simp), (by simp [J, JJ])⟩, rfl, rfl⟩
    · refine spec_of_awp dS Tryz.func121 a121 (by simp [A121]) ?_
      simp only [S, LL, A121, ne_eq, xop, simprocAttr]
      exact ⟨_, [some ⟨3, 130, []⟩], ⟨[some 0], [], (by simp [J, JJ]), (by simp), rfl, (by simp), (by simp), (by simp [J, JJ])⟩, rfl, rfl⟩
  | cons x xs =>
    refine spec_of_awp dS Tryz.func121 a121 (by simp [A121]) ?_
    have e : ens (x :: xs) = encEn x :: ens xs := rfl
    have f1 : (xs.length + 1) * 24 ≤ 140737488355328 := by simp at hl; omega
    have f2 : xs.length + 1 ≤ maxLen := le_maxLen (by simp at hl; omega)
    have f3 : ¬ xs.length + 1 ≤ 0 := by omega
    simp only [S, LL, A121, e, f1, f2, f3, ne_eq, xop, simprocAttr]
    exact ⟨_, [some ⟨3, 130, encEn x :: ens xs⟩], ⟨[some 1], [], (by simp [J, JJ, encEn]), (by simp), rfl, (by simp), (by simp), (by simp [J, JJ, encEn])⟩, rfl, rfl⟩
theorem c_cloneEn (xs : List MEn) (hl : xs.length ≤ 2000000) (l : List (Option Blk)) (args : List AV) (ha : AVsLe (Lent l) args [.s (.lst 3 (ens xs))]) (K : AV → AHeap → Prop) (h : K (.s (.sl l.length 0 xs.length xs.length)) (hp (l ++ [some ⟨3, 130, ens xs⟩]))) : Spec Tryz.prog 121 args (hp l) K :=
  Spec.lend1 (b_cloneEn xs hl) ha rfl (one_base (ens_base xs)) (by simpa [AV.ren, AV.ren0, SV.ren, emb_nil] using h)
theorem b_clonePr (xs : List MPr) (hl : xs.length ≤ 2000000) : Spec Tryz.prog 122 [.s (.lst 2 (prs xs))] (hp []) fun v G => v = .s (.sl 0 0 xs.length xs.length) ∧ G = hp [some ⟨2, 120, prs xs⟩] := by
  refine Spec.leave ?_
  cases xs with
  | nil =>
    refine Spec.nil_or (pre := []) (post := []) ?_ ?_
    · refine spec_of_awp dS Tryz.func122 a122 (by simp [A122]) ?_
      simp only [S, LL, A122, ne_eq, xop, simprocAttr]
      exact ⟨_, [some ⟨2, 120, []⟩], ⟨[none], [], (by simp [J, JJ]), (by simp), rfl, (by simp), (by simp), (by simp [J, JJ])⟩, rfl, rfl⟩
    · refine spec_of_awp dS Tryz.func122 a122 (by simp [A122]) ?_
      simp only [S, LL, A122, ne_eq, xop, simprocAttr]
      exact ⟨_, [some ⟨2, 120, []⟩], ⟨[some 0], [], (by simp [J, JJ]), (by simp), rfl, (by simp), (by simp), (by simp [J, JJ])⟩, rfl, rfl⟩
  | cons x xs =>
    refine spec_of_awp dS Tryz.func122 a122 (by simp [A122]) ?_
    have e : prs (x :: xs) = encPr x :: prs xs := rfl
    have f1 : (xs.length + 1) * 16 ≤ 140737488355328 := by simp at hl; omega
    have f2 : xs.length + 1 ≤ maxLen := le_maxLen (by simp at hl; omega)
    have f3 : ¬ xs.length + 1 ≤ 0 := by omega
    simp only [S, LL, A122, e, f1, f2, f3, ne_eq, xop, simprocAttr]
    exact ⟨_, [some ⟨2, 120, encPr x :: prs xs⟩], ⟨[some 1], [], (by simp [J, JJ, encPr]), (by simp), rfl, (by simp), (by simp), (by simp [J, JJ, encPr])⟩, rfl, rfl⟩
theorem c_clonePr (xs : List MPr) (hl : xs.length ≤ 2000000) (l : List (Option Blk)) (args : List AV) (ha : AVsLe (Lent l) args [.s (.lst 2 (prs xs))]) (K : AV → AHeap → Prop) (h : K (.s (.sl l.length 0 xs.length xs.length)) (hp (l ++ [some ⟨2, 120, prs xs⟩]))) : Spec Tryz.prog 122 args (hp l) K :=
  Spec.lend1 (b_clonePr xs hl) ha rfl (one_base (prs_base xs)) (by simpa [AV.ren, AV.ren0, SV.ren, emb_nil] using h)
theorem b_cloneHl (xs : List MHl) (hl : xs.length ≤ 2000000) : Spec Tryz.prog 123 [.s (.lst 4 (hls xs))] (hp []) fun v G => v = .s (.sl 0 0 xs.length xs.length) ∧ G = hp [some ⟨4, 108, hls xs⟩] := by
  refine Spec.leave ?_
  cases xs with
  | nil =>
    refine Spec.nil_or (pre := []) (post := []) ?_ ?_
    · refine spec_of_awp dS Tryz.func123 a123 (by simp [A123]) ?_
      simp only [S, LL, A123, ne_eq, xop, simprocAttr]
      exact ⟨_, [some ⟨4, 108, []⟩], ⟨[none], [], (by simp [J, JJ]), (by simp), rfl, (by simp), (by simp), (by simp [J, JJ])⟩, rfl, rfl⟩
    · refine spec_of_awp dS Tryz.func123 a123 (by simp [A123]) ?_
      simp only [S, LL, A123, ne_eq, xop, simprocAttr]
      exact ⟨_, [some ⟨4, 108, []⟩], ⟨[some 0], [], (by simp [J, JJ]), (by simp), rfl, (by simp), (by simp), (by simp [J, JJ])⟩, rfl, rfl⟩
  | cons x xs =>
    refine spec_of_awp dS Tryz.func123 a123 (by simp [A123]) ?_
    have e : hls (x :: xs) = encHl x :: hls xs := rfl
    have f1 : (xs.length + 1) * 32 ≤ 140737488355328 := by simp at hl; omega
    have f2 : xs.length + 1 ≤ maxLen := le_maxLen (by simp at hl; omega)
    have f3 : ¬ xs.length + 1 ≤ 0 := by omega
    simp only [S, LL, A123, e, f1, f2, f3, ne_eq, xop, simprocAttr]
    exact ⟨_, [some ⟨4, 108, encHl x :: hls xs⟩], ⟨[some 1], [], (by simp [J, JJ, encHl]), (by simp), rfl, (by simp), (by simp), (by simp [J, JJ, encHl])⟩, rfl, rfl⟩
theorem c_cloneHl (xs : List MHl) (hl : xs.length ≤ 2000000) (l : List (Option Blk)) (args : List AV) (ha : AVsLe (Lent l) args [.s (.lst 4 (hls xs))]) (K : AV → AHeap → Prop) (h : K (.s (.sl l.length 0 xs.length xs.length)) (hp (l ++ [some ⟨4, 108, hls xs⟩]))) : Spec Tryz.prog 123 args (hp l) K :=
  Spec.lend1 (b_cloneHl xs hl) ha rfl (one_base (hls_base xs)) (by simpa [AV.ren, AV.ren0, SV.ren, emb_nil] using h)
end Go.Proofs.YtoeieoapnhhaeaaGreat.Den
namespace Go.Proofs.YtoeieoapnhhaeaaGreat.Den
open Go.RowKit
set_option linter.unusedSimpArgs false
set_option linter.unusedVariables false
set_option maxRecDepth 100000
set_option maxHeartbeats 2000000
def A135 : AFn := ⟨19, [.tmp 4],
 .seq (.reg [zo 4 (zn 0)] [0, 1]) (.seq (.seq (.reg [zm 6 0, zo 7 (zl 6), zo 8 (zn 0)] [0, 1, 7, 8]) (.block 0 (.loop (.seq (.reg [zo 9 (zB .lss 8 7)] [0, 1, 7, 8, 9]) (.seq (.cond (.t 9) .skip
 (.exit 0)) (.seq (.block 1 (.seq (.reg [zm 10 8, zm 5 10] [0, 1, 5, 7, 8]) (.seq (.reg [zm 11 1, zm 12 0, zm 13 5, zo 14 (zI 1 12 13), zo 15 (zL 14), zo 16 (zB .eql 11 15)] [0, 1, 5, 7, 8, 16]) (.cond (.t 16) (.seq (.reg [zm 17 5, zm 4 17] [4])
 .ret)
 .skip)))) (.reg [zo 18 (zK .add 8 1), zm 8 18] [0, 1, 7, 8]))))))) (.seq (.reg [zo 4 (zn (-1))] [4])
 .ret))⟩
theorem a135 : agreeFn Tryz.prog Tryz.f135 A135 = true := by kernel_rfl
def A84 : AFn := ⟨9, [.tmp 4],
 .seq (.reg [zo 4 (zT false)] [0, 1]) (.seq (.reg [zm 5 0, zm 6 1, zo 7 (zC 135 [5, 6]), zo 8 (zK .geq 7 0), zm 4 8] [4])
 .ret)⟩
theorem a84 : agreeFn Tryz.prog Tryz.f84 A84 = true := by kernel_rfl
def A41 : AFn := ⟨26, [.tmp 4],
 .seq (.reg [zo 4 (zT false)] [0, 1]) (.seq (.seq (.reg [zm 6 0, zo 7 (zl 6), zm 8 1, zo 9 (zl 8), zo 10 (zB .neq 7 9)] [0, 1, 10]) (.cond (.t 10) (.seq (.reg [zo 4 (zT false)] [4])
 .ret)
 .skip)) (.seq (.seq (.reg [zm 11 0, zo 12 (zl 11), zo 13 (zn 0)] [0, 1, 12, 13]) (.block 0 (.loop (.seq (.reg [zo 14 (zB .lss 13 12)] [0, 1, 12, 13, 14]) (.seq (.cond (.t 14) .skip
 (.exit 0)) (.seq (.block 1 (.seq (.reg [zm 15 13, zm 5 15] [0, 1, 5, 12, 13]) (.seq (.dreg [zx 0 (zm 16 0), zx 1 (zm 17 5), zx 2 (zo 18 (zI 1 16 17)), zx 3 (zo 19 (zL 18)), zx 4 (zm 20 1), zx 5 (zm 21 5), zx 6 (zo 22 (zI 1 20 21)), zx 7 (zo 23 (zL 22)), zx 8 (zo 24 (zB .neq 19 23))] [0, 1, 12, 13, 24]) (.cond (.t 24) (.seq (.reg [zo 4 (zT false)] [4])
 .ret)
 .skip)))) (.reg [zo 25 (zK .add 13 1), zm 13 25] [0, 1, 12, 13]))))))) (.seq (.reg [zo 4 (zT true)] [4])
 .ret)))⟩
theorem a41 : agreeFn Tryz.prog Tryz.f41 A41 = true := by kernel_rfl
def A87 : AFn := ⟨9, [.tmp 4],
 .seq (.reg [zo 2 (zb 26 0), zo 4 (zn 0)] [1, 2]) (.seq (.reg [zo 5 (zF 0 2), zo 6 (zL 5), zm 7 1, zo 8 (zC 135 [6, 7]), zm 4 8] [4])
 .ret)⟩
theorem a87 : agreeFn Tryz.prog Tryz.f87 A87 = true := by kernel_rfl
def A89 : AFn := ⟨27, [.tmp 4],
 .seq (.reg [zo 2 (zb 26 0), zo 4 (zn 0)] [1, 2]) (.seq (.reg [zo 5 (zn 0)] [1, 2, 5]) (.seq (.seq (.reg [zo 8 (zF 0 2), zo 9 (zL 8), zo 10 (zl 9), zo 11 (zn 0)] [1, 5, 9, 10, 11]) (.block 0 (.loop (.seq (.reg [zo 12 (zB .lss 11 10)] [1, 5, 9, 10, 11, 12]) (.seq (.cond (.t 12) .skip
 (.exit 0)) (.seq (.block 1 (.seq (.reg [zo 13 (zI 1 9 11), zo 14 (zL 13), zm 7 14] [1, 5, 7, 9, 10, 11]) (.seq (.reg [zm 15 7, zo 16 (zC 83 [15]), zm 17 16, zt 18 (zM 7) 17, zt 19 (zC 45 [18]) 17, zt 20 (zM 1) 17, zt 21 (zB .eql 19 20) 17, zo 22 (zq 17 21)] [1, 5, 9, 10, 11, 22]) (.cond (.t 22) (.reg [zm 23 5, zo 24 (zK .add 23 1), zm 5 24] [1, 5, 9, 10, 11])
 .skip)))) (.reg [zo 25 (zK .add 11 1), zm 11 25] [1, 5, 9, 10, 11]))))))) (.seq (.reg [zm 26 5, zm 4 26] [4])
 .ret)))⟩
theorem a89 : agreeFn Tryz.prog Tryz.f89 A89 = true := by kernel_rfl
def A37 : AFn := ⟨38, [.tmp 2],
 .seq (.reg [zo 1 (zb 26 0), zo 2 (zT false)] [1]) (.seq (.seq (.reg [zo 5 (zF 0 1), zo 6 (zL 5), zo 7 (zl 6), zo 8 (zn 0)] [1, 6, 7, 8]) (.block 0 (.loop (.seq (.reg [zo 9 (zB .lss 8 7)] [1, 6, 7, 8, 9]) (.seq (.cond (.t 9) .skip
 (.exit 0)) (.seq (.block 1 (.seq (.reg [zm 10 8, zo 11 (zI 1 6 8), zo 12 (zL 11), zm 3 10, zm 4 12] [1, 3, 4, 6, 7, 8]) (.seq (.reg [zm 13 4, zo 14 (zK .neq 13 0), zm 15 14, zt 16 (zM 4) 15, zt 17 (zC 83 [16]) 15, zt 18 (zv 17) 15, zt 19 (zM 18) 15, zf 20 (zF 0 1) 19, zf 21 (zL 20) 19, zf 22 (zM 3) 19, zf 23 (.slice 1 (.t 21) none (some (.t 22)) none) 19, zf 24 (zM 4) 19, zf 25 (zC 84 [23, 24]) 19, zt 26 (zp 19 25) 15, zo 27 (zq 15 26)] [1, 6, 7, 8, 27]) (.cond (.t 27) (.seq (.reg [zo 2 (zT false)] [2])
 .ret)
 .skip)))) (.reg [zo 28 (zK .add 8 1), zm 8 28] [1, 6, 7, 8]))))))) (.seq (.reg [zo 29 (zF 0 1), zo 30 (zL 29), zo 31 (zl 30), zo 32 (zK .eql 31 4), zm 33 32, zt 34 (zF 1 1) 33, zt 35 (zL 34) 33, zt 36 (.call 29 [(.t 35), (.c (.int .i64 0)), (.c (.int .i64 5))]) 33, zo 37 (zq 33 36), zm 2 37] [2])
 .ret))⟩
theorem a37 : agreeFn Tryz.prog Tryz.f37 A37 = true := by kernel_rfl
def A22 : AFn := ⟨9, [.celln 2 2],
 .seq (.reg [zo 1 (zb 26 0), zo 2 (.alloc 26 2 [.nils, .int .i64 0])] [1, 2]) (.seq (.dreg [zx 0 (zo 3 (zF 0 1)), zx 1 (zo 4 (zL 3)), zx 3 (zo 6 (zF 1 1)), zx 4 (zo 7 (zL 6)), (2, .heavy, ⟨some 5, zC 55 [4], none, [(zL 6, 7, none)]⟩), zx 5 (zo 8 (.build [.nils, .int .i64 0] [(0, 1, (.t 5)), (1, 1, (.t 7))])), zy 6 (zu (zS 2 2 8))] [2])
 .ret)⟩
theorem a22 : agreeFn Tryz.prog Tryz.f22 A22 = true := by kernel_rfl
theorem idxL_drop {xs : List Int} {v : Int} {i : Nat} (h : i < xs.length) : idxL (xs.drop i) v i = if xs[i] = v then (i : Int) else idxL (xs.drop (i + 1)) v ((i + 1 : Nat) : Int) := by
  rw [List.drop_eq_getElem_cons h]; rfl
theorem b_index (xs : List Int) (v : Int) (hl : xs.length ≤ 2000000) : Spec Tryz.prog 135 [.s (.lst 1 (ints xs)), .s (.int .i64 v)] (hp []) fun u G => u = .s (.int .i64 (idxL xs v 0)) ∧ G = hp [] := by
  refine spec_of_awp dS Tryz.func135 a135 (by simp [A135]) ?_
  simp only [S, LL, A135, ne_eq, xop, simprocAttr]
  refine awp_loop (fun m s => ∃ (i : Nat), i + m = xs.length ∧ idxL xs v 0 = idxL (xs.drop i) v i ∧ s = ⟨[(0, .s (.lst 1 (ints xs))), (1, .s (.int .i64 v)), (7, .s (.int .i64 xs.length)), (8, .s (.int .i64 i))], hp []⟩) xs.length ⟨_, W.refl (Nat.le_refl _), 0, by omega, rfl, rfl⟩ ?_
  rintro m s ⟨i, him, hd, rfl⟩
  by_cases hi : i < xs.length
  · have h1 : (i : Int) < (xs.length : Int) := by omega
    have h0 : (0 : Int) ≤ (i : Int) := by omega
    have w2 : IntKind.i64.wrap ((i : Int) + 1) = (i + 1 : Nat) := wrap_id (by omega) (by omega)
    rw [idxL_drop hi] at hd
    by_cases hx : xs[i] = v
    · rw [if_pos hx] at hd
      have hx2 : v = xs[i] := hx.symm
      simp only [S, LL, h1, h0, ints_get hi, w2, eq_true hx, eq_true hx2, ne_eq, xop, simprocAttr]
      rw [hd]
    · rw [if_neg hx] at hd
      have hx2 : ¬ v = xs[i] := fun e => hx e.symm
      simp only [S, LL, h1, h0, ints_get hi, w2, hx, hx2, ne_eq, xop, simprocAttr]
      exact ⟨m - 1, by omega, _, W.refl (Nat.le_refl _), i + 1, by omega, hd, rfl⟩
  · have h1 : ¬ (i : Int) < (xs.length : Int) := by omega
    rw [List.drop_of_length_le (by omega)] at hd
    simp only [S, LL, h1, ne_eq, xop, simprocAttr]
    rw [hd]
    rfl
theorem c_index (xs : List Int) (v : Int) (hl : xs.length ≤ 2000000) (l : List (Option Blk)) (args : List AV) (ha : AVsLe (Lent l) args [.s (.lst 1 (ints xs)), .s (.int .i64 v)]) (K : AV → AHeap → Prop) (h : K (.s (.int .i64 (idxL xs v 0))) (hp l)) : Spec Tryz.prog 135 args (hp l) K :=
  Spec.obs ((b_index xs v hl).mono fun _ _ h => h.1) ha rfl h
theorem idxL_has (xs : List Int) (v : Int) : ∀ i : Nat, decide (0 ≤ idxL xs v i) = xs.contains v := by
  induction xs with
  | nil => intro i; simp [idxL]
  | cons x r ih =>
    intro i
    unfold idxL
    rw [List.contains_cons]
    by_cases h : x = v
    · subst h; simp
    · have h2 : (v == x) = false := by simp; exact fun e => h e.symm
      rw [if_neg h, h2, Bool.false_or]
      exact ih (i + 1)
theorem c_contains (xs : List Int) (v : Int) (hl : xs.length ≤ 2000000) (l : List (Option Blk)) (args : List AV) (ha : AVsLe (Lent l) args [.s (.lst 1 (ints xs)), .s (.int .i64 v)]) (K : AV → AHeap → Prop) (h : K (.s (.bool (xs.contains v))) (hp l)) : Spec Tryz.prog 84 args (hp l) K := by
  refine Spec.obs (v0 := .s (.bool (xs.contains v))) ?_ ha rfl h
  refine spec_of_awp dS Tryz.func84 a84 (by simp [A84]) ?_
  simp only [S, LL, A84, ne_eq, xop, simprocAttr]
  refine c_index xs v hl _ _ (by simp [J, JJ]) _ ?_
  have := idxL_has xs v 0
  simp only [S, LL, ne_eq, xop, simprocAttr]
  rw [← this]
  rfl
theorem c_keyOf (r : MRw) (v : Int) (hl : r.held.length ≤ 2000000) (l : List (Option Blk)) (args : List AV) (ha : AVsLe (Lent l) args [.agg (rwF r), .s (.int .i64 v)]) (K : AV → AHeap → Prop) (h : K (.s (.int .i64 (keyOf r v))) (hp l)) : Spec Tryz.prog 87 args (hp l) K := by
  refine Spec.obs (v0 := .s (.int .i64 (keyOf r v))) ?_ ha rfl h
  refine spec_of_awp dS Tryz.func87 a87 (by simp [A87]) ?_
  simp only [S, LL, A87, rwF, ne_eq, xop, simprocAttr]
  refine c_index r.held v hl _ _ (by simp [J, JJ]) _ ?_
  simp only [S, LL, ne_eq, xop, simprocAttr]
  rfl
theorem many_b (xs : List Int) (c : Int) : 0 ≤ manyL xs c ∧ manyL xs c ≤ xs.length := by
  induction xs with
  | nil => simp [manyL]
  | cons x r ih =>
    unfold manyL
    simp only [List.length_cons]
    split <;> omega
theorem many_app (xs ys : List Int) (c : Int) : manyL (xs ++ ys) c = manyL xs c + manyL ys c := by
  induction xs with
  | nil => simp [manyL]
  | cons x r ih => simp only [List.cons_append, manyL, ih]; omega
theorem many_drop {xs : List Int} {c : Int} {i : Nat} (h : i < xs.length) : manyL (xs.drop i) c = (if valOk xs[i] && decide (classOf xs[i] = c) then 1 else 0) + manyL (xs.drop (i + 1)) c := by
  rw [List.drop_eq_getElem_cons h]; rfl
theorem c_howMany (r : MRw) (c : Int) (hl : r.held.length ≤ 2000000) (l : List (Option Blk)) (args : List AV) (ha : AVsLe (Lent l) args [.agg (rwF r), .s (.int .i64 c)]) (K : AV → AHeap → Prop) (h : K (.s (.int .i64 (howMany r c))) (hp l)) : Spec Tryz.prog 89 args (hp l) K := by
  refine Spec.obs (v0 := .s (.int .i64 (howMany r c))) ?_ ha rfl h
  obtain ⟨xs, s⟩ := r
  refine spec_of_awp dS Tryz.func89 a89 (by simp [A89]) ?_
  simp only [S, LL, A89, rwF, ne_eq, xop, simprocAttr]
  refine awp_loop (fun m s => ∃ (i : Nat) (n : Int), i + m = xs.length ∧ manyL xs c = n + manyL (xs.drop i) c ∧ 0 ≤ n ∧ n ≤ i ∧ s = ⟨[(1, .s (.int .i64 c)), (5, .s (.int .i64 n)), (9, .s (.lst 1 (ints xs))), (10, .s (.int .i64 xs.length)), (11, .s (.int .i64 i))], hp []⟩) xs.length ⟨_, W.to [] [] (by simp [J, JJ]) (by simp) rfl (by simp) (by simp) (by simp [J, fget, JJ] <;> omega), 0, 0, by omega, by simp, by omega, by omega, rfl⟩ ?_
  rintro m s ⟨i, n, him, hd, h0n, hni, rfl⟩
  by_cases hi : i < xs.length
  · have h1 : (i : Int) < (xs.length : Int) := by omega
    have h0 : (0 : Int) ≤ (i : Int) := by omega
    have hl' : xs.length ≤ 2000000 := hl
    have w2 : IntKind.i64.wrap ((i : Int) + 1) = (i + 1 : Nat) := wrap_id (by omega) (by omega)
    have w3 : IntKind.i64.wrap (n + 1) = n + 1 := wrap_id (by omega) (by omega)
    rw [many_drop hi] at hd
    simp only [S, LL, h1, h0, ints_get hi, w2, ne_eq, xop, simprocAttr]
    refine c_ValOk _ _ _ ?_
    cases hv : valOk xs[i]
    · simp only [S, LL, w2, ne_eq, xop, simprocAttr]
      exact ⟨m - 1, by omega, _, W.to [] [] (by simp [J, JJ]) (by simp) rfl (by simp) (by simp) (by simp [J, fget, JJ] <;> omega), i + 1, n, by omega, by simpa [hv] using hd, h0n, by omega, rfl⟩
    · simp only [S, LL, ne_eq, xop, simprocAttr]
      refine c_ClassOf _ _ _ ?_
      by_cases hc : classOf xs[i] = c
      · simp only [S, LL, eq_true hc, w2, w3, ne_eq, xop, simprocAttr]
        exact ⟨m - 1, by omega, _, W.to [] [] (by simp [J, JJ]) (by simp) rfl (by simp) (by simp) (by simp [J, fget, JJ] <;> omega), i + 1, n + 1, by omega, by simp [hv, hc] at hd; omega, by omega, by omega, rfl⟩
      · simp only [S, LL, hc, w2, w3, ne_eq, xop, simprocAttr]
        exact ⟨m - 1, by omega, _, W.to [] [] (by simp [J, JJ]) (by simp) rfl (by simp) (by simp) (by simp [J, fget, JJ] <;> omega), i + 1, n, by omega, by simpa [hv, hc] using hd, h0n, by omega, rfl⟩
  · have h1 : ¬ (i : Int) < (xs.length : Int) := by omega
    rw [List.drop_of_length_le (by omega)] at hd
    simp only [manyL, Int.add_zero] at hd
    simp only [S, LL, h1, ne_eq, xop, simprocAttr]
    rw [← hd]
    rfl
theorem c_equal (xs ys : List Int) (hx : xs.length ≤ 2000000) (hy : ys.length ≤ 2000000) (l : List (Option Blk)) (args : List AV) (ha : AVsLe (Lent l) args [.s (.lst 1 (ints xs)), .s (.lst 1 (ints ys))]) (K : AV → AHeap → Prop) (h : K (.s (.bool (decide (xs = ys)))) (hp l)) : Spec Tryz.prog 41 args (hp l) K := by
  refine Spec.obs (v0 := .s (.bool (decide (xs = ys)))) ?_ ha rfl h
  refine spec_of_awp dS Tryz.func41 a41 (by simp [A41]) ?_
  by_cases hlen : (xs.length : Int) = ys.length
  · simp only [S, LL, A41, eq_true hlen, ne_eq, xop, simprocAttr]
    refine awp_loop (fun m s => ∃ (i : Nat), i + m = xs.length ∧ (xs = ys ↔ xs.drop i = ys.drop i) ∧ s = ⟨[(0, .s (.lst 1 (ints xs))), (1, .s (.lst 1 (ints ys))), (12, .s (.int .i64 xs.length)), (13, .s (.int .i64 i))], hp []⟩) xs.length ⟨_, W.refl (Nat.le_refl _), 0, by omega, by simp, rfl⟩ ?_
    rintro m s ⟨i, him, hd, rfl⟩
    by_cases hi : i < xs.length
    · have h1 : (i : Int) < (xs.length : Int) := by omega
      have h0 : (0 : Int) ≤ (i : Int) := by omega
      have hi2 : i < ys.length := by omega
      have h2 : (i : Int) < (ys.length : Int) := by omega
      have w2 : IntKind.i64.wrap ((i : Int) + 1) = (i + 1 : Nat) := wrap_id (by omega) (by omega)
      rw [List.drop_eq_getElem_cons hi, List.drop_eq_getElem_cons hi2, List.cons.injEq] at hd
      by_cases hc : xs[i] = ys[i]
      · simp only [S, LL, h1, h2, h0, ints_get hi, ints_get hi2, eq_true hc, w2, ne_eq, xop, simprocAttr]
        exact ⟨m - 1, by omega, _, W.refl (Nat.le_refl _), i + 1, by omega, by simpa [hc] using hd, rfl⟩
      · simp only [S, LL, h1, h2, h0, ints_get hi, ints_get hi2, hc, w2, ne_eq, xop, simprocAttr]
        have : xs ≠ ys := fun e => hc (hd.1 e).1
        simp [this]
    · have h1 : ¬ (i : Int) < (xs.length : Int) := by omega
      rw [List.drop_of_length_le (by omega), List.drop_of_length_le (by omega)] at hd
      simp only [S, LL, h1, ne_eq, xop, simprocAttr]
      simp [hd.2 rfl]
  · simp only [S, LL, A41, hlen, ne_eq, xop, simprocAttr]
    have : xs ≠ ys := fun e => hlen (by rw [e])
    simp [this]
theorem heldOk_drop {xs : List Int} {i : Nat} (h : i < xs.length) : heldOk (xs.take i) (xs.drop i) = ((decide (xs[i] = 0) || (valOk xs[i] && !((xs.take i).contains xs[i]))) && heldOk (xs.take (i + 1)) (xs.drop (i + 1))) := by
  rw [List.drop_eq_getElem_cons h, List.take_succ_eq_append_getElem h]; rfl
theorem c_rowsOk (r : MRw) (hl : r.held.length ≤ 2000000) (l : List (Option Blk)) (args : List AV) (ha : AVsLe (Lent l) args [.agg (rwF r)]) (K : AV → AHeap → Prop) (h : K (.s (.bool (rowsOk r))) (hp l)) : Spec Tryz.prog 37 args (hp l) K := by
  refine Spec.obs (v0 := .s (.bool (rowsOk r))) ?_ ha rfl h
  obtain ⟨xs, s⟩ := r
  have hl : xs.length ≤ 2000000 := hl
  refine spec_of_awp dS Tryz.func37 a37 (by simp [A37]) ?_
  simp only [S, LL, A37, rwF, ne_eq, xop, simprocAttr]
  refine awp_loop (fun m st => ∃ (i : Nat), i + m = xs.length ∧ heldOk [] xs = heldOk (xs.take i) (xs.drop i) ∧ st = ⟨[(1, .s (.ptr 0 0 0)), (6, .s (.lst 1 (ints xs))), (7, .s (.int .i64 xs.length)), (8, .s (.int .i64 i))], hp [some ⟨2, 26, [rwF ⟨xs, s⟩]⟩]⟩) xs.length ⟨_, W.to [some 0] [] (by simp [J, JJ, rwF]) (by simp) rfl (by simp) (by simp) (by simp [J, fget, JJ, rwF] <;> omega), 0, by omega, rfl, rfl⟩ ?_
  rintro m st ⟨i, him, hd, rfl⟩
  by_cases hi : i < xs.length
  · have h1 : (i : Int) < (xs.length : Int) := by omega
    have h0 : (0 : Int) ≤ (i : Int) := by omega
    have h2 : (i : Int) ≤ (xs.length : Int) := by omega
    have w2 : IntKind.i64.wrap ((i : Int) + 1) = (i + 1 : Nat) := wrap_id (by omega) (by omega)
    have hle : i ≤ xs.length := by omega
    rw [heldOk_drop hi] at hd
    by_cases hz : xs[i] = 0
    · simp only [S, LL, h1, h0, h2, ints_get hi, eq_true hz, w2, rwF, ne_eq, xop, simprocAttr]
      exact ⟨m - 1, by omega, _, W.to [some 0] [] (by simp [J, JJ, rwF]) (by simp) rfl (by simp) (by simp) (by simp [J, fget, JJ, rwF] <;> omega), i + 1, by omega, by simpa [hz] using hd, rfl⟩
    · simp only [S, LL, h1, h0, h2, hle, ints_get hi, hz, w2, rwF, ne_eq, xop, simprocAttr]
      refine c_ValOk _ _ _ ?_
      cases hv : valOk xs[i]
      · simp only [S, LL, ne_eq, xop, simprocAttr]
        have : heldOk [] xs = false := by rw [hd]; simp [hz, hv]
        simp [rowsOk, this]
      · simp only [S, LL, h1, h0, h2, hle, ints_take, List.drop_zero, ne_eq, xop, simprocAttr]
        refine c_contains (xs.take i) xs[i] (by rw [List.length_take]; omega) _ _ (by simp [J, JJ]) _ ?_
        cases hc : (xs.take i).contains xs[i]
        · simp only [S, LL, w2, ne_eq, xop, simprocAttr]
          refine ⟨m - 1, by omega, _, W.to [some 0] [] (by simp [J, JJ, rwF]) (by simp) rfl (by simp) (by simp) (by simp [J, fget, JJ, rwF] <;> omega), i + 1, by omega, ?_, rfl⟩
          rw [hd, hc, hv]; simp
        · simp only [S, LL, ne_eq, xop, simprocAttr]
          have : heldOk [] xs = false := by rw [hd, hc, hv]; simp [hz]
          simp [rowsOk, this]
  · have h1 : ¬ (i : Int) < (xs.length : Int) := by omega
    rw [List.drop_of_length_le (by omega)] at hd
    by_cases h4 : (xs.length : Int) = 4
    · simp only [S, LL, h1, eq_true h4, rwF, ne_eq, xop, simprocAttr]
      refine c_from _ _ _ _ _ ?_
      simp only [S, LL, ne_eq, xop, simprocAttr]
      have h4' : xs.length = 4 := by omega
      simp [rowsOk, hd, heldOk, h4', isIn]
    · simp only [S, LL, h1, h4, rwF, ne_eq, xop, simprocAttr]
      have h4' : ¬ xs.length = 4 := by omega
      simp [rowsOk, h4']
theorem b_copyRows (r : MRw) (hl : r.held.length ≤ 2000000) : Spec Tryz.prog 22 [.agg (rwF r)] (hp []) fun v G => v = .agg [.sl 0 0 r.held.length r.held.length, .int .i64 r.state] ∧ G = hp [some ⟨1, 3, ints r.held⟩] := by
  refine Spec.leave ?_
  refine spec_of_awp dS Tryz.func22 a22 (by simp [A22]) ?_
  simp only [S, LL, A22, rwF, ne_eq, xop, simprocAttr]
  refine c_cloneI r.held hl _ _ (by simp [J, JJ]) _ ?_
  simp only [S, LL, ne_eq, xop, simprocAttr]
  exact ⟨_, [some ⟨1, 3, ints r.held⟩], ⟨[some 2], [], (by simp [J, JJ]), (by simp), rfl, (by simp), (by simp), (by simp [J, JJ])⟩, rfl, rfl⟩
theorem c_copyRows (r : MRw) (hl : r.held.length ≤ 2000000) (l : List (Option Blk)) (args : List AV) (ha : AVsLe (Lent l) args [.agg (rwF r)]) (K : AV → AHeap → Prop) (h : K (.agg [.sl l.length 0 r.held.length r.held.length, .int .i64 r.state]) (hp (l ++ [some ⟨1, 3, ints r.held⟩]))) : Spec Tryz.prog 22 args (hp l) K :=
  Spec.lend1 (b_copyRows r hl) ha rfl (one_base (ints_base _)) (by simpa [AV.ren, AV.ren0, SV.ren, emb_nil] using h)
end Go.Proofs.YtoeieoapnhhaeaaGreat.Den
namespace Go.Proofs.YtoeieoapnhhaeaaGreat.Den
open Go.RowKit
set_option linter.unusedSimpArgs false
set_option linter.unusedVariables false
set_option maxRecDepth 100000
set_option maxHeartbeats 2000000
theorem idxL_lo : ∀ (xs : List Int) (u j : Int), 0 ≤ j → idxL xs u j = -1 ∨ (j ≤ idxL xs u j ∧ idxL xs u j < j + xs.length)
  | [], _, _, _ => .inl rfl
  | x :: r, u, j, hj => by
    unfold idxL
    by_cases h : x = u
    · rw [if_pos h]; simp only [List.length_cons]; omega
    · rw [if_neg h]
      have := idxL_lo r u (j + 1) (by omega)
      simp only [List.length_cons]; omega
theorem idxL_snoc (v u : Int) : ∀ (xs : List Int) (j : Int), 0 ≤ j → idxL (xs ++ [v]) u j = if 0 ≤ idxL xs u j then idxL xs u j else if v = u then j + xs.length else -1
  | [], j, hj => by simp [idxL]
  | x :: r, j, hj => by
    have e0 : (x :: r) ++ [v] = x :: (r ++ [v]) := rfl
    have e1 : ∀ (y : List Int), idxL (x :: y) u j = if x = u then j else idxL y u (j + 1) := fun _ => rfl
    have ih := idxL_snoc v u r (j + 1) (by omega)
    have el : (x :: r).length = r.length + 1 := rfl
    rw [e0, e1, e1, el]
    by_cases h : x = u
    · simp only [h, if_true, hj]
    · simp only [h, if_false, ih]
      split
      · rfl
      · split <;> omega
theorem idxL_not {v : Int} : ∀ (xs : List Int) (j : Int), xs.contains v = false → idxL xs v j = -1
  | [], _, _ => rfl
  | x :: r, j, h => by
    rw [List.contains_cons, Bool.or_eq_false_iff] at h
    have h1 : ¬ x = v := by have := h.1; simp at this; exact fun e => this e.symm
    unfold idxL
    rw [if_neg h1]
    exact idxL_not r (j + 1) h.2
def wdI (r : MRw) (i : Nat) (p : Int) : Int :=
  if p < 4 then heldAt r p
  else if p < 10 then idxL (r.held.take i) (p - 3) 0 + 1
  else if p < 13 then manyL (r.held.take i) (p - 10)
  else if p = 13 then 0
  else if 0 ≤ idxL (r.held.take i) (p - 13) 0 ∧ idxL (r.held.take i) (p - 13) 0 < r.state - 1 then idxL (r.held.take i) (p - 13) 0 + 1 else 0
def wL (r : MRw) (i : Nat) : List Int := (List.range 20).map fun (p : Nat) => wdI r i (p : Int)
theorem wL_len (r : MRw) (i : Nat) : (wL r i).length = 20 := by simp [wL]
theorem wL_get {r : MRw} {i p : Nat} (h : p < (wL r i).length) : (wL r i)[p] = wdI r i (p : Int) := by simp [wL]
theorem wdI_zero {r : MRw} {i : Nat} (hi : i < r.held.length) (hz : r.held[i] = 0) : wL r (i + 1) = wL r i := by
  refine List.map_congr_left fun p hp => ?_
  have hp : p < 20 := by simpa using hp
  have e : r.held.take (i + 1) = r.held.take i ++ [0] := by rw [List.take_succ_eq_append_getElem hi, hz]
  have k : ∀ u : Int, u ≠ 0 → idxL (r.held.take i ++ [0]) u 0 = idxL (r.held.take i) u 0 := by
    intro u hu
    have hx : ¬ (0 : Int) = u := fun e => hu e.symm
    rw [idxL_snoc _ _ _ _ (Int.le_refl 0)]
    simp only [hx, if_false]
    have := idxL_lo (r.held.take i) u 0 (Int.le_refl 0)
    split <;> omega
  unfold wdI
  rw [e, many_app]
  have m0 : ∀ c, manyL [0] c = 0 := by intro c; simp [manyL, valOk, isIn]
  rw [m0, Int.add_zero]
  by_cases h4 : (p : Int) < 4
  · rw [if_pos h4, if_pos h4]
  rw [if_neg h4, if_neg h4]
  by_cases h10 : (p : Int) < 10
  · rw [if_pos h10, if_pos h10, k _ (by omega)]
  rw [if_neg h10, if_neg h10]
  by_cases h13 : (p : Int) < 13
  · rw [if_pos h13, if_pos h13]
  rw [if_neg h13, if_neg h13]
  by_cases hs : (p : Int) = 13
  · rw [if_pos hs, if_pos hs]
  rw [if_neg hs, if_neg hs, k _ (by omega)]
theorem wdI_put {r : MRw} {i n : Nat} (hi : i < r.held.length) (hv : r.held[i] = (n : Int)) (hn : 1 ≤ n ∧ n ≤ 6) (hnot : (r.held.take i).contains (n : Int) = false) {W1 : List Int}
    (h1 : W1 = ((wL r i).set (3 + n) ((i : Int) + 1)).set (10 + n % 3) (wdI r i ((10 + n % 3 : Nat) : Int) + 1)) :
    wL r (i + 1) = if (i : Int) < r.state - 1 then W1.set (13 + n) ((i : Int) + 1) else W1 := by
  have e : r.held.take (i + 1) = r.held.take i ++ [(n : Int)] := by rw [List.take_succ_eq_append_getElem hi, hv]
  have hlen : (r.held.take i).length = i := List.length_take_of_le (by omega)
  have hno := idxL_not (r.held.take i) 0 hnot
  have k : ∀ u : Int, idxL (r.held.take i ++ [(n : Int)]) u 0 = if u = n then (i : Int) else idxL (r.held.take i) u 0 := by
    intro u
    rw [idxL_snoc _ _ _ _ (Int.le_refl 0), hlen]
    have := idxL_lo (r.held.take i) u 0 (Int.le_refl 0)
    by_cases hu : u = n
    · subst hu
      rw [hno]
      simp
    · have hx : ¬ (n : Int) = u := fun e => hu e.symm
      simp only [hu, hx, if_false]
      split <;> omega
  have hval : valOk (n : Int) = true := isIn_iff.2 (by omega)
  have m1 : ∀ c, manyL [(n : Int)] c = if c = ((n % 3 : Nat) : Int) then 1 else 0 := by
    intro c
    simp only [manyL, hval, Bool.true_and, Int.add_zero, classOf_eq (show 1 ≤ (n : Int) ∧ (n : Int) ≤ 6 by omega)]
    by_cases hc : c = ((n % 3 : Nat) : Int)
    · rw [if_pos hc]; simp [hc]
    · rw [if_neg hc, if_neg]
      simp only [decide_eq_true_eq]
      intro e; apply hc; rw [← e]; omega
  have hW1 : W1.length = 20 := by rw [h1]; simp [wL_len]
  refine List.ext_getElem ?_ fun p p1 p2 => ?_
  · rw [wL_len]; split <;> simp [hW1]
  · rw [wL_len] at p1
    rw [wL_get]
    have hW1p : ∀ h, W1[p]'h = if 10 + n % 3 = p then wdI r i ((10 + n % 3 : Nat) : Int) + 1 else if 3 + n = p then (i : Int) + 1 else wdI r i (p : Int) := by
      intro h
      simp only [h1, List.getElem_set, wL_get]
    have hR : (if (i : Int) < r.state - 1 then W1.set (13 + n) ((i : Int) + 1) else W1)[p] = if (i : Int) < r.state - 1 ∧ 13 + n = p then (i : Int) + 1 else if 10 + n % 3 = p then wdI r i ((10 + n % 3 : Nat) : Int) + 1 else if 3 + n = p then (i : Int) + 1 else wdI r i (p : Int) := by
      by_cases hs : (i : Int) < r.state - 1
      · simp only [hs, if_true, true_and, List.getElem_set, hW1p]
      · simp only [hs, if_false, false_and, hW1p]
    rw [hR]
    unfold wdI
    simp only [e, many_app, m1, k]
    by_cases h4 : (p : Int) < 4
    · have a : ¬ ((i : Int) < r.state - 1 ∧ 13 + n = p) := by omega
      have b : ¬ 10 + n % 3 = p := by omega
      have c : ¬ 3 + n = p := by omega
      rw [if_pos h4, if_neg a, if_neg b, if_neg c, if_pos h4]
    by_cases h10 : (p : Int) < 10
    · have a : ¬ ((i : Int) < r.state - 1 ∧ 13 + n = p) := by omega
      have b : ¬ 10 + n % 3 = p := by omega
      rw [if_neg h4, if_pos h10, if_neg a, if_neg b, if_neg h4, if_pos h10]
      by_cases c : 3 + n = p
      · rw [if_pos (by omega), if_pos c]
      · rw [if_neg (by omega), if_neg c]
    by_cases h13 : (p : Int) < 13
    · have a : ¬ ((i : Int) < r.state - 1 ∧ 13 + n = p) := by omega
      have c : ¬ 3 + n = p := by omega
      rw [if_neg h4, if_neg h10, if_pos h13, if_neg a, if_neg c, if_neg h4, if_neg h10, if_pos h13]
      by_cases b : 10 + n % 3 = p
      · have b1 : ¬ ((10 + n % 3 : Nat) : Int) < 4 := by omega
        have b2 : ¬ ((10 + n % 3 : Nat) : Int) < 10 := by omega
        have b3 : ((10 + n % 3 : Nat) : Int) < 13 := by omega
        rw [if_pos (by omega), if_pos b, if_neg b1, if_neg b2, if_pos b3, ← b]
      · rw [if_neg (by omega), if_neg b, Int.add_zero]
    have b : ¬ 10 + n % 3 = p := by omega
    have c : ¬ 3 + n = p := by omega
    by_cases hs : (p : Int) = 13
    · have a : ¬ ((i : Int) < r.state - 1 ∧ 13 + n = p) := by omega
      rw [if_neg h4, if_neg h10, if_neg h13, if_pos hs, if_neg a, if_neg b, if_neg c, if_neg h4, if_neg h10, if_neg h13, if_pos hs]
    · rw [if_neg h4, if_neg h10, if_neg h13, if_neg hs, if_neg b, if_neg c, if_neg h4, if_neg h10, if_neg h13, if_neg hs]
      by_cases hpn : 13 + n = p
      · have hu : (p : Int) - 13 = n := by omega
        rw [if_pos hu, hu, hno]
        by_cases hst : (i : Int) < r.state - 1
        · rw [if_pos (by omega), if_pos ⟨hst, hpn⟩]
        · rw [if_neg (by omega), if_neg (by omega), if_neg (by omega)]
      · have hu : ¬ (p : Int) - 13 = n := by omega
        have a : ¬ ((i : Int) < r.state - 1 ∧ 13 + n = p) := fun h => hpn h.2
        rw [if_neg hu, if_neg a]
theorem wL_end {r : MRw} (h : rowsOk r = true) : (wL r 4).set 13 r.state = wordsOf r := by
  obtain ⟨a, b, c, d, h1, h2⟩ := rows_form.1 h
  have ht : r.held.take 4 = r.held := by rw [h1]; rfl
  refine List.ext_getElem (by simp [wL_len, words_len h]) fun p p1 p2 => ?_
  have hw : (wordsOf r)[p] = wd r (p : Int) := by
    have := p2
    simp only [wordsOf, h, if_true]
    simp
  rw [hw, List.getElem_set]
  by_cases hp : 13 = p
  · subst hp
    rw [if_pos rfl]; rfl
  · rw [if_neg hp, wL_get]
    have hp' : ¬ (p : Int) = 13 := by omega
    unfold wdI wd
    rw [ht, if_neg hp', if_neg hp']
    rfl
theorem wL_zero {r : MRw} (h : rowsOk r = true) : r.held ++ List.replicate 16 0 = wL r 0 := by
  obtain ⟨a, b, c, d, h1, h2⟩ := rows_form.1 h
  obtain ⟨l, s⟩ := r
  simp only at h1; subst h1
  rfl
end Go.Proofs.YtoeieoapnhhaeaaGreat.Den
namespace Go.Proofs.YtoeieoapnhhaeaaGreat.Den
open Go.RowKit
set_option linter.unusedSimpArgs false
set_option linter.unusedVariables false
set_option maxRecDepth 100000
set_option maxHeartbeats 4000000
def A14 : AFn := ⟨56, [.tmp 2],
 .seq (.reg [zo 1 (zb 26 0), zo 2 (.mov (.c (.nils)))] [1]) (.seq (.seq (.reg [zo 6 (zN 2 1), zo 7 (zC 37 [6]), zo 8 (zv 7)] [1, 8]) (.cond (.t 8) (.seq (.reg [zo 2 (.mov (.c (.nils)))] [2])
 .ret)
 .skip)) (.seq (.reg [zo 9 (.mkslice 3 1 8 [.int .i64 0] (.c (.int .i64 20)) (.c (.int .i64 20))), zm 3 9] [1, 3]) (.seq (.reg [zm 10 3, zo 11 (zF 0 1), zo 12 (zL 11), zo 13 (.cpy 1 (.t 10) (.t 12))] [1, 3]) (.seq (.seq (.reg [zo 14 (zF 0 1), zo 15 (zL 14), zo 16 (zl 15), zo 17 (zn 0)] [1, 3, 15, 16, 17]) (.block 0 (.loop (.seq (.reg [zo 18 (zB .lss 17 16)] [1, 3, 15, 16, 17, 18]) (.seq (.cond (.t 18) .skip
 (.exit 0)) (.seq (.block 1 (.seq (.reg [zm 19 17, zo 20 (zI 1 15 17), zo 21 (zL 20), zm 4 19, zm 5 21] [1, 3, 4, 5, 15, 16, 17]) (.seq (.seq (.reg [zm 22 5, zo 23 (zK .eql 22 0)] [1, 3, 4, 5, 15, 16, 17, 23]) (.cond (.t 23) (.exit 1)
 .skip)) (.seq (.reg [zm 24 3, zm 25 5, zo 26 (zC 43 [25]), zm 27 4, zo 28 (zK .add 27 1), zo 29 (zI 1 24 26), zu (zS 1 29 28)] [1, 3, 4, 5, 15, 16, 17]) (.seq (.reg [zm 30 3, zm 31 5, zo 32 (zC 45 [31]), zo 33 (zC 44 [32]), zo 34 (zI 1 30 33), zo 35 (zL 34), zo 36 (zK .add 35 1), zo 37 (zI 1 30 33), zu (zS 1 37 36)] [1, 3, 4, 5, 15, 16, 17]) (.seq (.reg [zm 38 4, zo 39 (zF 1 1), zo 40 (zL 39), zo 41 (zK .sub 40 1), zo 42 (zB .lss 38 41)] [1, 3, 4, 5, 15, 16, 17, 42]) (.cond (.t 42) (.reg [zm 43 3, zm 44 5, zo 45 (zC 46 [44]), zm 46 4, zo 47 (zK .add 46 1), zo 48 (zI 1 43 45), zu (zS 1 48 47)] [1, 3, 15, 16, 17])
 .skip))))))) (.reg [zo 49 (zK .add 17 1), zm 17 49] [1, 3, 15, 16, 17]))))))) (.seq (.dreg [zx 0 (zm 50 3), zx 2 (zo 52 (zF 1 1)), zx 3 (zo 53 (zL 52)), (1, .heavy, ⟨some 51, zC 47 [], none, [(zL 52, 53, none)]⟩), zx 4 (zo 54 (zI 1 50 51)), zy 5 (zu (zS 1 54 53))] [3]) (.seq (.reg [zm 55 3, zm 2 55] [2])
 .ret))))))⟩
theorem a14 : agreeFn Tryz.prog Tryz.f14 A14 = true := by kernel_rfl
def A48 : AFn := ⟨15, [.celln 2 2],
 .seq (.reg [zo 2 (.alloc 26 2 [.nils, .int .i64 0])] [0, 2]) (.seq (.seq (.reg [zm 3 0, zo 4 (zl 3), zo 5 (zK .neq 4 20)] [0, 2, 5]) (.cond (.t 5) (.seq (.reg [zo 6 (.build [.nils, .int .i64 0] []), zu (zS 2 2 6)] [2])
 .ret)
 .skip)) (.seq (.reg [zm 7 0, zo 8 (.slice 1 (.t 7) none (some (.c (.int .i64 4))) none), zo 9 (zC 55 [8]), zm 10 0, zo 11 (zC 47 []), zo 12 (zI 1 10 11), zo 13 (zL 12), zo 14 (.build [.nils, .int .i64 0] [(0, 1, (.t 9)), (1, 1, (.t 13))]), zu (zS 2 2 14)] [2])
 .ret))⟩
theorem a48 : agreeFn Tryz.prog Tryz.f48 A48 = true := by kernel_rfl
def A15 : AFn := ⟨14, [.tmp 2],
 .seq (.reg [zo 2 (zT false)] [0]) (.seq (.reg [zm 4 0, zo 5 (zC 48 [4]), zo 3 (.alloc 26 2 [.nils, .int .i64 0]), zu (zS 2 3 5)] [0, 3]) (.seq (.reg [zo 6 (zN 2 3), zo 7 (zC 37 [6]), zm 8 7, zt 9 (zN 2 3) 8, zt 10 (zC 14 [9]) 8, zt 11 (zM 0) 8, zt 12 (zC 41 [10, 11]) 8, zo 13 (zq 8 12), zm 2 13] [2])
 .ret))⟩
theorem a15 : agreeFn Tryz.prog Tryz.f15 A15 = true := by kernel_rfl
theorem held4 {r : MRw} (h : rowsOk r = true) : r.held.length = 4 := by
  obtain ⟨a, b, c, d, h1, h2⟩ := rows_form.1 h
  rw [h1]; rfl
theorem held_ok {r : MRw} (h : rowsOk r = true) {i : Nat} (hi : i < r.held.length) : r.held[i] = 0 ∨ (∃ n : Nat, r.held[i] = (n : Int) ∧ 1 ≤ n ∧ n ≤ 6 ∧ (r.held.take i).contains (n : Int) = false) := by
  have h1 : heldOk [] r.held = true := by simp only [rowsOk, Bool.and_eq_true] at h; exact h.1.1
  have key : ∀ k, k ≤ i → heldOk (r.held.take k) (r.held.drop k) = true := by
    intro k
    induction k with
    | zero => intro _; simpa using h1
    | succ k ih =>
      intro hk
      have := ih (by omega)
      rw [heldOk_drop (by omega), Bool.and_eq_true] at this
      exact this.2
  have := key i (Nat.le_refl _)
  rw [heldOk_drop hi, Bool.and_eq_true] at this
  have := this.1
  simp only [Bool.or_eq_true, decide_eq_true_eq, Bool.and_eq_true, Bool.not_eq_true'] at this
  rcases this with h0 | ⟨h2, h3⟩
  · exact .inl h0
  · have hb := isIn_iff.1 h2
    refine .inr ⟨r.held[i].toNat, by omega, by omega, by omega, ?_⟩
    rw [show ((r.held[i].toNat : Nat) : Int) = r.held[i] by omega]
    exact h3
theorem b_wordsOf (r : MRw) (h : rowsOk r = true) : Spec Tryz.prog 14 [.agg (rwF r)] (hp []) fun v G => v = .s (.sl 0 0 20 20) ∧ G = hp [some ⟨1, 3, ints (wordsOf r)⟩] := by
  refine Spec.leave ?_
  have h4 := held4 h
  have hst := state_bd h
  have hz := wL_zero h
  have hend := wL_end h
  have hok := fun i hi => held_ok h (i := i) hi
  have hput := fun {i n} => @wdI_put r i n
  have hzer := fun {i} => @wdI_zero r i
  have hwl := wL_len r
  have hwg := fun {i p} => @wL_get r i p
  refine spec_of_awp dS Tryz.func14 a14 (by simp [A14]) ?_
  simp only [S, LL, A14, rwF, ne_eq, xop, reduceCtorEq, reduceIte, Nat.reduceEqDiff, Nat.reduceAdd, Nat.reduceLeDiff, Nat.reduceLT, List.reduceReplicate, Nat.reduceSub, Nat.reduceMul]
  refine c_rowsOk r (by omega) _ _ (by simp [J, JJ, rwF]) _ ?_
  rw [h]
  obtain ⟨xs, s⟩ := r
  simp only at h4 hst
  have n20 : (20 : Int).toNat = 20 := rfl
  have c1 : (0 : Int) ≤ 20 ∧ (20 : Int) ≤ 20 ∧ (20 : Int) * ((8 : Nat) : Int) ≤ 140737488355328 ∧ (20 : Int) ≤ 9223372036854775807 := by decide

  obtain ⟨a, b, c, d, hx, hq⟩ := rows_form.1 h
  simp only at hx
  have hin : ints xs = [[.int .i64 a], [.int .i64 b], [.int .i64 c], [.int .i64 d]] := by rw [hx]; rfl
  have hz2 : [[SV.int IntKind.i64 a], [.int .i64 b], [.int .i64 c], [.int .i64 d], [.int .i64 0], [.int .i64 0], [.int .i64 0], [.int .i64 0], [.int .i64 0], [.int .i64 0], [.int .i64 0], [.int .i64 0], [.int .i64 0], [.int .i64 0], [.int .i64 0], [.int .i64 0], [.int .i64 0], [.int .i64 0], [.int .i64 0], [.int .i64 0]] = ints (wL ⟨xs, s⟩ 0) := by rw [← hz, hx]; rfl
  simp only [S, LL, c1, n20, hin, cutTo, Option.bind, Option.map, AHeap.wrowsx, List.take, List.drop, List.length, List.cons_append, List.nil_append, hz2, ne_eq, xop, reduceCtorEq, reduceIte, Nat.reduceEqDiff, Nat.reduceAdd, Nat.reduceLeDiff, Nat.reduceLT, List.reduceReplicate, Nat.reduceSub, Nat.reduceMul]
  simp only [← hin]
  clear hin hz2 hx hq hz a b c d
  refine awp_loop (fun m st => ∃ (i : Nat), i + m = 4 ∧ st = ⟨[(1, .s (.ptr 0 0 0)), (3, .s (.sl 1 0 20 20)), (15, .s (.lst 1 (ints xs))), (16, .s (.int .i64 xs.length)), (17, .s (.int .i64 i))], hp [some ⟨2, 26, [rwF ⟨xs, s⟩]⟩, some ⟨1, 3, ints (wL ⟨xs, s⟩ i)⟩]⟩) 4 ⟨_, W.to [some 0, some 1] [] (by simp [J, JJ, rwF]) (by simp) rfl (by simp) (by simp) (by simp [J, fget, JJ, rwF] <;> omega), 0, by omega, rfl⟩ ?_
  rintro m st ⟨i, him, rfl⟩
  by_cases hi : i < xs.length
  · have h1 : (i : Int) < (xs.length : Int) := by omega
    have h0 : (0 : Int) ≤ (i : Int) := by omega
    have w2 : IntKind.i64.wrap ((i : Int) + 1) = (i + 1 : Nat) := wrap_id (by omega) (by omega)
    have w3 : IntKind.i64.wrap (s - 1) = s - 1 := wrap_id (by omega) (by omega)
    have hw0 := hwl i
    rcases hok i hi with hv | ⟨n, hv, hn1, hn6, hnot⟩
    · have hzr := hzer hi hv
      have hv' : xs[i] = 0 := hv
      simp only [S, LL, h1, h0, ints_get hi, eq_true hv', w2, rwF, ne_eq, xop, reduceCtorEq, reduceIte, Nat.reduceEqDiff, Nat.reduceAdd, Nat.reduceLeDiff, Nat.reduceLT, List.reduceReplicate, Nat.reduceSub, Nat.reduceMul]
      rw [← hzr]
      exact ⟨m - 1, by omega, _, W.to [some 0, some 1] [] (by simp [J, JJ, rwF]) (by simp) rfl (by simp) (by simp) (by simp [J, fget, JJ, rwF] <;> omega), i + 1, by omega, rfl⟩
    · have hv' : xs[i] = (n : Int) := hv
      have hp1 := hput hi hv ⟨hn1, hn6⟩ hnot rfl
      have hnz : ¬ (n : Int) = 0 := by omega
      have hb : 1 ≤ (n : Int) ∧ (n : Int) ≤ 6 := by omega
      have vbn : vb (n : Int) := by unfold vb; omega
      have vbc : vb (classOf (n : Int)) := by rw [classOf_eq hb]; unfold vb; omega
      have e1 : ownerAt (n : Int) = ((3 + n : Nat) : Int) := by rw [ownerAt_eq hb]; omega
      have e2 : countAt (classOf (n : Int)) = ((10 + n % 3 : Nat) : Int) := by rw [classOf_eq hb, countAt_eq (by omega)]; omega
      have e3 : viaAt (n : Int) = ((13 + n : Nat) : Int) := by rw [viaAt_eq hb]; omega
      have g : (i : Int) + 1 = ((i + 1 : Nat) : Int) := by omega
      have l1 : (wL ⟨xs, s⟩ i).length = 20 := hw0
      obtain ⟨Ws, hW⟩ : ∃ Ws, Ws = wL ⟨xs, s⟩ i := ⟨_, rfl⟩
      rw [← hW] at l1 hp1 ⊢
      have b1 : ((3 + n : Nat) : Int) < (20 : Nat) := by omega
      have b2 : ((10 + n % 3 : Nat) : Int) < (20 : Nat) := by omega
      have b3 : ((13 + n : Nat) : Int) < (20 : Nat) := by omega
      have z1 : (0 : Int) ≤ ((3 + n : Nat) : Int) := by omega
      have z2 : (0 : Int) ≤ ((10 + n % 3 : Nat) : Int) := by omega
      have z3 : (0 : Int) ≤ ((13 + n : Nat) : Int) := by omega
      obtain ⟨c0, hc0⟩ : ∃ c0, c0 = wdI ⟨xs, s⟩ i ((10 + n % 3 : Nat) : Int) := ⟨_, rfl⟩
      have hc0b : 0 ≤ c0 ∧ c0 ≤ 4 := by
        have q1 : ¬ ((10 + n % 3 : Nat) : Int) < 4 := by omega
        have q2 : ¬ ((10 + n % 3 : Nat) : Int) < 10 := by omega
        have q3 : ((10 + n % 3 : Nat) : Int) < 13 := by omega
        rw [hc0]
        unfold wdI
        rw [if_neg q1, if_neg q2, if_pos q3]
        have hm := many_b (xs.take i) (((10 + n % 3 : Nat) : Int) - 10)
        rw [List.length_take] at hm
        show 0 ≤ manyL (xs.take i) (((10 + n % 3 : Nat) : Int) - 10) ∧ manyL (xs.take i) (((10 + n % 3 : Nat) : Int) - 10) ≤ 4
        exact ⟨hm.1, by have := hm.2; omega⟩
      have wc : IntKind.i64.wrap (c0 + 1) = c0 + 1 := wrap_id (by omega) (by omega)
      have g1 : (ints Ws)[3 + n]? = some [.int .i64 (Ws[3 + n]'(by omega))] := ints_get (by omega)
      have g2 : (ints (Ws.set (3 + n) ((i + 1 : Nat) : Int)))[10 + n % 3]? = some [.int .i64 c0] := by
        rw [ints_get (by simp; omega)]
        simp only [List.getElem_set]
        rw [if_neg (by omega)]
        rw [hc0]
        have := hwg (i := i) (p := 10 + n % 3) (by rw [hw0]; omega)
        rw [← this]
        simp only [hW]
      rw [← hc0, g] at hp1
      obtain ⟨W2, hW2⟩ : ∃ W2, W2 = (Ws.set (3 + n) ((i + 1 : Nat) : Int)).set (10 + n % 3) (c0 + 1) := ⟨_, rfl⟩
      have l2 : W2.length = 20 := by rw [hW2]; simp [l1]
      have g3 : (ints W2)[13 + n]? = some [.int .i64 (W2[13 + n]'(by omega))] := ints_get (by omega)
      simp only [S, LL, h1, h0, ints_get hi, hv', hnz, w2, rwF, ne_eq, xop, reduceCtorEq, reduceIte, Nat.reduceEqDiff, Nat.reduceAdd, Nat.reduceLeDiff, Nat.reduceLT, List.reduceReplicate, Nat.reduceSub, Nat.reduceMul]
      refine c_OwnerAt _ vbn _ _ ?_
      rw [e1]
      simp only [S, LL, w2, z1, b1, l1, ints_set, g1, List.drop, ne_eq, xop, reduceCtorEq, reduceIte, Nat.reduceEqDiff, Nat.reduceAdd, Nat.reduceLeDiff, Nat.reduceLT, List.reduceReplicate, Nat.reduceSub, Nat.reduceMul]
      refine c_ClassOf _ _ _ ?_
      simp only [S, LL, ne_eq, xop, reduceCtorEq, reduceIte, Nat.reduceEqDiff, Nat.reduceAdd, Nat.reduceLeDiff, Nat.reduceLT, List.reduceReplicate, Nat.reduceSub, Nat.reduceMul]
      refine c_CountAt _ vbc _ _ ?_
      rw [e2]
      simp only [S, LL, z2, b2, l1, List.length_set, g2, wc, ints_set, List.drop, w3, ne_eq, xop, reduceCtorEq, reduceIte, Nat.reduceEqDiff, Nat.reduceAdd, Nat.reduceLeDiff, Nat.reduceLT, List.reduceReplicate, Nat.reduceSub, Nat.reduceMul]
      rw [← hW2]
      rw [← hW2] at hp1
      by_cases hs : (i : Int) < s - 1
      · simp only [S, LL, hs, ne_eq, xop, reduceCtorEq, reduceIte, Nat.reduceEqDiff, Nat.reduceAdd, Nat.reduceLeDiff, Nat.reduceLT, List.reduceReplicate, Nat.reduceSub, Nat.reduceMul]
        refine c_ViaAt _ vbn _ _ ?_
        rw [e3]
        rw [if_pos hs] at hp1
        simp only [S, LL, w2, z3, b3, l2, g3, ints_set, List.drop, ne_eq, xop, reduceCtorEq, reduceIte, Nat.reduceEqDiff, Nat.reduceAdd, Nat.reduceLeDiff, Nat.reduceLT, List.reduceReplicate, Nat.reduceSub, Nat.reduceMul]
        rw [← hp1]
        exact ⟨m - 1, by omega, _, W.to [some 0, some 1] [] (by simp [J, JJ, rwF]) (by simp) rfl (by simp) (by simp) (by simp [J, fget, JJ, rwF] <;> omega), i + 1, by omega, rfl⟩
      · simp only [S, LL, hs, w2, ne_eq, xop, reduceCtorEq, reduceIte, Nat.reduceEqDiff, Nat.reduceAdd, Nat.reduceLeDiff, Nat.reduceLT, List.reduceReplicate, Nat.reduceSub, Nat.reduceMul]
        rw [if_neg hs] at hp1
        rw [← hp1]
        exact ⟨m - 1, by omega, _, W.to [some 0, some 1] [] (by simp [J, JJ, rwF]) (by simp) rfl (by simp) (by simp) (by simp [J, fget, JJ, rwF] <;> omega), i + 1, by omega, rfl⟩
  · have h1 : ¬ (i : Int) < (xs.length : Int) := by omega
    have hi4 : i = 4 := by omega
    subst hi4
    have l4 := hwl 4
    have g4 : (ints (wL ⟨xs, s⟩ 4))[13]? = some [.int .i64 ((wL ⟨xs, s⟩ 4)[13]'(by omega))] := ints_get (by omega)
    simp only [S, LL, h1, rwF, ne_eq, xop, reduceCtorEq, reduceIte, Nat.reduceEqDiff, Nat.reduceAdd, Nat.reduceLeDiff, Nat.reduceLT, List.reduceReplicate, Nat.reduceSub, Nat.reduceMul]
    refine c_StateAt _ _ ?_
    have n13 : (13 : Int).toNat = 13 := rfl
    have z0 : (0 : Int) ≤ 13 := by decide
    have z4 : (13 : Int) < 20 := by decide
    have z5 : ((20 : Nat) : Int) = 20 := rfl
    simp only [S, LL, l4, n13, z0, z4, z5, g4, ints_set, List.drop, ne_eq, xop, reduceCtorEq, reduceIte, Nat.reduceEqDiff, Nat.reduceAdd, Nat.reduceLeDiff, Nat.reduceLT, List.reduceReplicate, Nat.reduceSub, Nat.reduceMul]
    have hend' : (wL ⟨xs, s⟩ 4).set 13 s = wordsOf ⟨xs, s⟩ := hend
    rw [hend']
    exact ⟨_, [some ⟨1, 3, ints (wordsOf ⟨xs, s⟩)⟩], ⟨[some 1], [], (by simp [J, JJ]), (by simp), rfl, (by simp), (by simp), (by simp [J, JJ])⟩, rfl, rfl⟩
theorem c_wordsOf (r : MRw) (h : rowsOk r = true) (l : List (Option Blk)) (args : List AV) (ha : AVsLe (Lent l) args [.agg (rwF r)]) (K : AV → AHeap → Prop) (hk : K (.s (.sl l.length 0 20 20)) (hp (l ++ [some ⟨1, 3, ints (wordsOf r)⟩]))) : Spec Tryz.prog 14 args (hp l) K :=
  Spec.lend1 (b_wordsOf r h) ha rfl (one_base (ints_base _)) (by simpa [AV.ren, AV.ren0, SV.ren, emb_nil] using hk)
theorem b_rowsIn (w : List Int) (hl : w.length = 20) : Spec Tryz.prog 48 [.s (.lst 1 (ints w))] (hp []) fun v G => v = .agg [.sl 0 0 4 4, .int .i64 (rowsIn w).state] ∧ G = hp [some ⟨1, 3, ints (rowsIn w).held⟩] := by
  refine Spec.leave ?_
  have hr : rowsIn w = ⟨w.take 4, atI w 13⟩ := by unfold rowsIn; rw [if_pos hl]
  rw [hr]
  have c0 : (w.length : Int) = 20 := by omega
  have g : (ints w)[13]? = some [.int .i64 (w[13]'(by omega))] := ints_get (by omega)
  have e13 : w[13]'(by omega) = atI w 13 := by
    have : (13 : Nat) < w.length := by omega
    simp [atI, this]
  have n13 : (13 : Int).toNat = 13 := rfl
  have n4 : (4 : Int).toNat = 4 := rfl
  have z0 : (0 : Int) ≤ 13 := by decide
  have z4 : (13 : Int) < 20 := by decide
  have z5 : (0 : Int) ≤ 4 := by decide
  have z6 : (4 : Int) ≤ 20 := by decide
  have z7 : (4 : Nat) ≤ w.length := by omega
  have z8 : (4 : Nat) ≤ 20 := by decide
  have hlt : (w.take 4).length = 4 := by rw [List.length_take]; omega
  refine spec_of_awp dS Tryz.func48 a48 (by simp [A48]) ?_
  simp only [S, LL, A48, c0, n4, z5, z6, z7, z8, ints_take, List.drop_zero, ne_eq, xop, reduceCtorEq, reduceIte, Nat.reduceEqDiff, Nat.reduceAdd, Nat.reduceLeDiff, Nat.reduceLT, List.reduceReplicate, Nat.reduceSub, Nat.reduceMul]
  refine c_cloneI (w.take 4) (by omega) _ _ (by simp [J, JJ]) _ ?_
  simp only [S, LL, hlt, ne_eq, xop, reduceCtorEq, reduceIte, Nat.reduceEqDiff, Nat.reduceAdd, Nat.reduceLeDiff, Nat.reduceLT, List.reduceReplicate, Nat.reduceSub, Nat.reduceMul]
  refine c_StateAt _ _ ?_
  simp only [S, LL, c0, n13, z0, z4, g, e13, ne_eq, xop, reduceCtorEq, reduceIte, Nat.reduceEqDiff, Nat.reduceAdd, Nat.reduceLeDiff, Nat.reduceLT, List.reduceReplicate, Nat.reduceSub, Nat.reduceMul]
  exact ⟨_, [some ⟨1, 3, ints (w.take 4)⟩], ⟨[some 1], [], (by simp [J, JJ]), (by simp), rfl, (by simp), (by simp), (by simp [J, JJ])⟩, rfl, rfl⟩
theorem c_whole (w : List Int) (h : wholeW w = true) (hl : w.length = 20) (l : List (Option Blk)) (args : List AV) (ha : AVsLe (Lent l) args [.s (.lst 1 (ints w))]) (K : AV → AHeap → Prop) (hk : K (.s (.bool true)) (hp l)) : Spec Tryz.prog 15 args (hp l) K := by
  refine Spec.obs (v0 := .s (.bool true)) ?_ ha rfl hk
  simp only [wholeW, Bool.and_eq_true, decide_eq_true_eq] at h
  obtain ⟨h1, h2⟩ := h
  have h4 := held4 h1
  refine spec_of_awp dS Tryz.func15 a15 (by simp [A15]) ?_
  simp only [S, LL, A15, ne_eq, xop, reduceCtorEq, reduceIte, Nat.reduceEqDiff, Nat.reduceAdd, Nat.reduceLeDiff, Nat.reduceLT, List.reduceReplicate, Nat.reduceSub, Nat.reduceMul]
  refine Spec.lend1 (b_rowsIn w hl) (by simp [J, JJ]) rfl (one_base (ints_base _)) ?_
  simp only [S, LL, AV.ren, AV.ren0, SV.ren, emb_nil, ne_eq, xop, reduceCtorEq, reduceIte, Nat.reduceEqDiff, Nat.reduceAdd, Nat.reduceLeDiff, Nat.reduceLT, List.reduceReplicate, Nat.reduceSub, Nat.reduceMul]
  refine c_rowsOk (rowsIn w) (by omega) _ _ (by simp [J, JJ, rwF, h4]) _ ?_
  rw [h1]
  simp only [S, LL, ne_eq, xop, reduceCtorEq, reduceIte, Nat.reduceEqDiff, Nat.reduceAdd, Nat.reduceLeDiff, Nat.reduceLT, List.reduceReplicate, Nat.reduceSub, Nat.reduceMul]
  refine c_wordsOf _ h1 _ _ (by simp [J, JJ, rwF, h4]) _ ?_
  rw [h2]
  simp only [S, LL, ne_eq, xop, reduceCtorEq, reduceIte, Nat.reduceEqDiff, Nat.reduceAdd, Nat.reduceLeDiff, Nat.reduceLT, List.reduceReplicate, Nat.reduceSub, Nat.reduceMul]
  refine c_equal w w (by omega) (by omega) _ _ (by simp [J, JJ, hl]) _ ?_
  simp only [S, LL, decide_true, ne_eq, xop, reduceCtorEq, reduceIte, Nat.reduceEqDiff, Nat.reduceAdd, Nat.reduceLeDiff, Nat.reduceLT, List.reduceReplicate, Nat.reduceSub, Nat.reduceMul]
end Go.Proofs.YtoeieoapnhhaeaaGreat.Den
