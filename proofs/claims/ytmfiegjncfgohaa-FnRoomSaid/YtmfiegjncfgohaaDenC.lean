/- The abstract calculus, part C: reading, making and writing blocks, over the relation. -/
import Derived.Test.YtmfiegjncfgohaaDenB
namespace Go.Proofs.Ytmfiegjncfgohaa.Den
open Go.RowKit
set_option linter.unusedVariables false

theorem flat_get {α : Type} {sz : Nat} : ∀ {rows : List (List α)}, (∀ r ∈ rows, r.length = sz) → ∀ {i : Nat} {r : List α}, rows[i]? = some r → ∀ {j : Nat} {x : α}, r[j]? = some x → rows.flatten[i * sz + j]? = some x
  | [], _, i, r, h, _, _, _ => by simp at h
  | r0 :: rows, hl, 0, r, h, j, x, hx => by
    simp at h; subst h
    have hj : j < r0.length := (List.getElem?_eq_some_iff.1 hx).1
    simp [List.getElem?_append_left hj, hx]
  | r0 :: rows, hl, i + 1, r, h, j, x, hx => by
    have h0 : r0.length = sz := hl r0 (by simp)
    rw [List.flatten_cons, List.getElem?_append_right (by rw [h0, Nat.add_mul]; omega)]
    have := flat_get (rows := rows) (fun r' hr' => hl r' (List.mem_cons_of_mem _ hr')) (by simpa using h) hx
    rw [← this]
    congr 1
    rw [h0, Nat.add_mul]; omega
theorem flat_len {α : Type} {sz : Nat} : ∀ {rows : List (List α)}, (∀ r ∈ rows, r.length = sz) → rows.flatten.length = rows.length * sz
  | [], _ => by simp
  | r :: rows, h => by
    rw [List.flatten_cons, List.length_append, flat_len (fun r hr => h r (by simp [hr])), h r (by simp), List.length_cons, Nat.add_mul]
    omega

/-- The values of a stretch of cells. -/
theorem pick_vals {φ : Phi} {w : World} {p : Place} : ∀ (l : List SV) (k : Nat), (∀ (q : Nat) x, l[q]? = some x → ∃ v, w.cell? (p.at (k + q)) = some v ∧ SR φ x v) →
    ∃ vs : List Value, SRs φ l vs ∧ ∀ (q : Nat) v, vs[q]? = some v → w.cell? (p.at (k + q)) = some v
  | [], k, _ => ⟨[], .nil, fun q v h => by simp at h⟩
  | x :: l, k, h => by
    obtain ⟨v, hv, hr⟩ := h 0 x rfl
    obtain ⟨vs, h1, h2⟩ := pick_vals l (k + 1) (fun q y hy => by
      have := h (q + 1) y (by simpa using hy)
      rwa [show k + (q + 1) = k + 1 + q by omega] at this)
    refine ⟨v :: vs, .cons hr h1, fun q u hu => ?_⟩
    cases q with
    | zero => simp at hu; subst hu; simpa using hv
    | succ q => have := h2 q u (by simpa using hu); rwa [show k + 1 + q = k + (q + 1) by omega] at this

theorem Rel.row {φ : Phi} {base : Nat} {H : AHeap} {w : World} (h : Rel φ base H w) {b i : Nat} {r : List SV} (hr : H.row b i = some r) :
    ∃ p, φ b = some p ∧ r.length = p.sz ∧ ∀ (j : Nat) x, r[j]? = some x → ∃ v, w.cell? (p.at (i * p.sz + j)) = some v ∧ SR φ x v := by
  unfold AHeap.row at hr
  cases hb : H.get b with
  | none => rw [hb] at hr; cases hr
  | some k =>
    rw [hb] at hr
    obtain ⟨p, hp, ok⟩ := h.blk b k hb
    obtain ⟨hl, hc⟩ := ok.rows i r hr
    refine ⟨p, hp, by rw [ok.sz]; exact hl, fun j x hx => ?_⟩
    rw [ok.sz]
    exact hc j x hx

theorem Rel.cells {φ : Phi} {base : Nat} {H : AHeap} {w : World} (h : Rel φ base H w) {b i j n : Nat} {l : List SV} (hl : H.cells b i j n = some l) :
    ∃ p vs, φ b = some p ∧ l.length = n ∧ SRs φ l vs ∧ ∀ (q : Nat) v, vs[q]? = some v → w.cell? (p.at (i * p.sz + j + q)) = some v := by
  unfold AHeap.cells at hl
  cases hr : H.row b i with
  | none => rw [hr] at hl; cases hl
  | some r =>
    rw [hr] at hl
    simp only [Option.bind_some] at hl
    split at hl
    · rename_i hle
      obtain ⟨p, hp, hrl, hc⟩ := h.row hr
      obtain rfl := (Option.some.inj hl).symm
      obtain ⟨vs, h1, h2⟩ := pick_vals (φ := φ) (w := w) (p := p) ((r.drop j).take n) (i * p.sz + j) (fun q x hx => by
        rw [List.getElem?_take] at hx
        split at hx
        · rw [List.getElem?_drop] at hx
          have := hc (j + q) x hx
          rwa [← Nat.add_assoc] at this
        · cases hx)
      exact ⟨p, vs, hp, by simp; omega, h1, h2⟩
    · cases hl

theorem Rel.cell {φ : Phi} {base : Nat} {H : AHeap} {w : World} (h : Rel φ base H w) {b i j : Nat} {x : SV} (hx : H.cell b i j = some x) :
    ∃ p v, φ b = some p ∧ w.cell? (p.at (i * p.sz + j)) = some v ∧ SR φ x v := by
  unfold AHeap.cell at hx
  cases hr : H.row b i with
  | none => rw [hr] at hx; cases hx
  | some r =>
    rw [hr] at hx
    obtain ⟨p, hp, hrl, hc⟩ := h.row hr
    obtain ⟨v, h1, h2⟩ := hc j x hx
    exact ⟨p, v, hp, h1, h2⟩

theorem BlkOk.real {φ : Phi} {base : Nat} {w : World} {p : Place} {k : Blk} (ok : BlkOk φ base w p k) (hc : p.cap ≠ 0) : p.off = 0 ∧ base ≤ p.blk ∧ k.rows.length ≤ p.cap ∧ p.cap ≤ maxLen ∧ ∃ cells, w.heap[p.blk]? = some (.cells cells k.ty (0, 0)) ∧ cells.size = p.cap * k.sz := ok.own.resolve_left fun h => hc h.2
theorem BlkOk.cap_of {φ : Phi} {base : Nat} {w : World} {p : Place} {k : Blk} (ok : BlkOk φ base w p k) (hr : k.rows ≠ []) : p.cap ≠ 0 := by
  rcases ok.own with h | h
  · exact absurd h.1 hr
  · have := List.length_pos_iff.2 hr
    have := h.2.2.1
    omega
theorem Rel.blk_lt {φ : Phi} {base : Nat} {H : AHeap} {w : World} (h : Rel φ base H w) {b : Nat} {k : Blk} {p : Place} (hb : H.get b = some k) (hp : φ b = some p) (ho : p.cap ≠ 0) : p.blk < w.heap.size ∧ base ≤ p.blk := by
  obtain ⟨p', hp', ok⟩ := h.blk b k hb
  rw [hp] at hp'
  obtain rfl := Option.some.inj hp'
  obtain ⟨_, h1, _, _, cells, hc, _⟩ := ok.real ho
  exact ⟨(Array.getElem?_eq_some_iff.1 hc).1, h1⟩
theorem Rel.get_lt {φ : Phi} {base : Nat} {H : AHeap} {w : World} (h : Rel φ base H w) {b : Nat} {k : Blk} (hb : H.get b = some k) : b < H.nx := by
  rcases Nat.lt_or_ge b H.nx with h1 | h1
  · exact h1
  · rw [(h.new b h1).1] at hb; cases hb

theorem cell_of_heap {w w' : World} {a : Addr} (h : w'.heap[a.block]? = w.heap[a.block]?) : w'.cell? a = w.cell? a := World.cell?_of_block h

/-- A block is as it was where its place is. -/
theorem BlkOk.move {φ φ' : Phi} {base : Nat} {w w' : World} {p : Place} {k : Blk} (h : BlkOk φ base w p k) (he : Ext φ φ') (hw : p.cap ≠ 0 → w'.heap[p.blk]? = w.heap[p.blk]?) : BlkOk φ' base w' p k where
  sz := h.sz
  rows := fun i r hr => by
    obtain ⟨hl, hc⟩ := h.rows i r hr
    refine ⟨hl, fun j x hx => ?_⟩
    obtain ⟨v, hv, hs⟩ := hc j x hx
    exact ⟨v, by rw [cell_of_heap (a := p.at (i * k.sz + j)) (hw (h.cap_of fun e => by rw [e] at hr; cases hr))]; exact hv, hs.ext he⟩
  own := by
    by_cases hc : p.cap = 0
    · rcases h.own with o | o
      · exact .inl o
      · exact .inl ⟨List.length_eq_zero_iff.1 (by have := o.2.2.1; omega), hc⟩
    · rw [hw hc]; exact h.own

/-- The same blocks, fewer of them. -/
theorem Mine.of_del {φ : Phi} {H : AHeap} {b r : Nat} (h : Mine φ (H.del b) r) : Mine φ H r := by
  obtain ⟨c, k, p, hc, h1, h2, h3⟩ := h
  simp only [AHeap.del] at hc
  split at hc
  · cases hc
  · exact ⟨c, k, p, hc, h1, h2, h3⟩
theorem Rel.del {φ : Phi} {base : Nat} {H : AHeap} {w : World} (h : Rel φ base H w) (b : Nat) : Rel φ base (H.del b) w where
  blk := fun c k hc => by
    simp only [AHeap.del] at hc
    split at hc
    · cases hc
    · exact h.blk c k hc
  inj := fun c c' k k' p p' hc hc' => by
    simp only [AHeap.del] at hc hc'
    split at hc
    · cases hc
    · split at hc'
      · cases hc'
      · exact h.inj c c' k k' p p' hc hc'
  new := fun c hc => by
    have := h.new c hc
    refine ⟨?_, this.2⟩
    simp only [AHeap.del]
    split
    · rfl
    · exact this.1
  base := h.base
  fz := fun r o hr => ⟨(h.fz r o hr).1, fun hm => (h.fz r o hr).2 hm.of_del⟩
theorem Goes.del {φ : Phi} {base : Nat} {H : AHeap} {w : World} (h : Rel φ base H w) (b : Nat) : Goes φ base H w φ (H.del b) w :=
  ⟨h.del b, Nat.le_refl _, Ext.refl _, Below.refl _ _, fun _ _ _ => rfl, fun _ hm => .inr hm.of_del, fun _ _ hr => .inl hr⟩

/-- Cells that hold rows. -/
def Holds (φ : Phi) (cells : Array Value) (sz : Nat) (rows : List (List SV)) : Prop :=
  ∀ (i : Nat) r, rows[i]? = some r → r.length = sz ∧ ∀ (j : Nat) x, r[j]? = some x → ∃ v, cells[i * sz + j]? = some v ∧ SR φ x v
theorem Holds.of_flat {φ : Phi} {cells : Array Value} {sz : Nat} {rows : List (List SV)} {vs : List Value} (hl : ∀ r ∈ rows, r.length = sz) (h : SRs φ rows.flatten vs) (hc : ∀ (q : Nat) v, vs[q]? = some v → cells[q]? = some v) : Holds φ cells sz rows := by
  intro i r hr
  refine ⟨hl r (List.mem_of_getElem? hr), fun j x hx => ?_⟩
  obtain ⟨v, hv, hs⟩ := h.get _ _ (flat_get hl hr hx)
  exact ⟨v, hc _ _ hv, hs⟩

def setPlace (φ : Phi) (b : Nat) (p : Place) : Phi := ⟨fun c => if c = b then some p else φ c, φ.fz⟩
theorem ext_setPlace {φ : Phi} {b : Nat} {p : Place} (h : φ b = none) : Ext φ (setPlace φ b p) := ⟨fun c q hc => by
  show (if c = b then some p else φ c) = some q
  split
  · subst_vars; rw [h] at hc; cases hc
  · exact hc, fun _ _ h => h⟩
theorem setPlace_same {φ : Phi} {b : Nat} {p : Place} : (setPlace φ b p) b = some p := if_pos rfl
theorem setPlace_look {φ : Phi} {b : Nat} {p : Place} {c : Nat} {q : Place} (h : (setPlace φ b p) c = some q) : (c = b ∧ q = p) ∨ (c ≠ b ∧ φ c = some q) := by
  have h : (if c = b then some p else φ c) = some q := h
  split at h
  · exact .inl ⟨‹_›, (Option.some.inj h).symm⟩
  · exact .inr ⟨‹_›, h⟩
theorem setPlace_none {φ : Phi} {b : Nat} {p : Place} {c : Nat} (h : c ≠ b) : (setPlace φ b p) c = φ c := if_neg h

/-- A new block. -/
theorem Goes.push {φ : Phi} {base : Nat} {H : AHeap} {w w' : World} (h : Rel φ base H w) {cells : Array Value} {sz ty cap : Nat} {rows : List (List SV)}
    (hh : w'.heap = w.heap.push (.cells cells ty)) (hos : w'.os = w.os) (htp : w'.tape = w.tape) (hout : w'.output = w.output)
    (hrows : Holds φ cells sz rows) (hsz : cells.size = cap * sz) (hcap : rows.length ≤ cap) (hmx : cap ≤ maxLen) :
    Goes φ base H w (setPlace φ H.nx ⟨w.heap.size, 0, cap, sz⟩) (H.push ⟨sz, ty, rows⟩) w' := by
  have hold : ∀ r, r < w.heap.size → w'.heap[r]? = w.heap[r]? := fun r hr => by rw [hh, Array.getElem?_push, if_neg (by omega)]
  have hnew : w'.heap[w.heap.size]? = some (.cells cells ty) := by rw [hh, Array.getElem?_push, if_pos rfl]
  have hsize : w'.heap.size = w.heap.size + 1 := by rw [hh]; simp
  have he : Ext φ (setPlace φ H.nx ⟨w.heap.size, 0, cap, sz⟩) := ext_setPlace (h.new H.nx (Nat.le_refl _)).2
  have mine : ∀ r, Mine (setPlace φ H.nx ⟨w.heap.size, 0, cap, sz⟩) (H.push ⟨sz, ty, rows⟩) r → r = w.heap.size ∨ Mine φ H r := fun r hr => by
    obtain ⟨b, k, p, hb, hp, hc, rfl⟩ := hr
    simp only [AHeap.push] at hb
    rcases setPlace_look hp with ⟨e1, rfl⟩ | ⟨e1, e2⟩
    · exact .inl rfl
    · rw [if_neg e1] at hb
      exact .inr ⟨b, k, p, hb, e2, hc, rfl⟩
  refine ⟨⟨fun b k hb => ?_, fun b b' k k' p p' hb hb' hp hp' hc hc' e => ?_, fun b hb => ?_, by rw [hsize]; have := h.base; omega, fun r o hr => ?_, nofull rfl⟩, by simp [AHeap.push], he, ⟨hos, htp, hout, by omega, fun r hr => hold r (by have := h.base; omega)⟩, fun r hr _ => hold r hr, fun r hr => (mine r hr).imp (fun e => Nat.le_of_eq e.symm) id, fun r o hr => .inl hr⟩
  · simp only [AHeap.push] at hb
    split at hb
    · subst_vars
      obtain rfl := Option.some.inj hb
      refine ⟨_, setPlace_same, ⟨rfl, fun i r hr => ?_, .inr ⟨rfl, h.base, hcap, hmx, cells, hnew, hsz⟩⟩⟩
      obtain ⟨hl, hc⟩ := hrows i r hr
      refine ⟨hl, fun j x hx => ?_⟩
      obtain ⟨v, hv, hs⟩ := hc j x hx
      refine ⟨v, ?_, hs.ext he⟩
      simp only [Place.at, Nat.zero_add]
      rw [cell_of_row w' _ _ _ _ _ hnew]
      exact hv
    · obtain ⟨p, hp, ok⟩ := h.blk b k hb
      exact ⟨p, he.pl b p hp, ok.move he (fun hc => hold _ (h.blk_lt hb hp hc).1)⟩
  · simp only [AHeap.push] at hb hb'
    rcases setPlace_look hp with ⟨e1, e2⟩ | ⟨e1, e2⟩ <;> rcases setPlace_look hp' with ⟨e3, e4⟩ | ⟨e3, e4⟩
    · rw [e1, e3]
    · rw [if_neg e3] at hb'
      have := (h.blk_lt hb' e4 hc').1
      rw [← e, e2] at this
      exact absurd this (Nat.lt_irrefl _)
    · rw [if_neg e1] at hb
      have := (h.blk_lt hb e2 hc).1
      rw [e, e4] at this
      exact absurd this (Nat.lt_irrefl _)
    · rw [if_neg e1] at hb
      rw [if_neg e3] at hb'
      exact h.inj b b' k k' p p' hb hb' e2 e4 hc hc' e
  · simp only [AHeap.push] at hb
    have := h.new b (by omega)
    refine ⟨?_, ?_⟩
    · simp only [AHeap.push]; rw [if_neg (by omega)]; exact this.1
    · rw [setPlace_none (by omega)]; exact this.2
  · have hr : φ.fz r = some o := hr
    obtain ⟨h1, h2⟩ := h.fz r o hr
    have hlt : r < w.heap.size := (Array.getElem?_eq_some_iff.1 h1).1
    refine ⟨by rw [hold r hlt]; exact h1, fun hm => ?_⟩
    rcases mine r hm with e | hm
    · omega
    · exact h2 hm

/-- A block of one's own whose cells become others, its rows with them. -/
theorem Goes.upd {φ : Phi} {base : Nat} {H : AHeap} {w w' : World} (h : Rel φ base H w) {b : Nat} {k : Blk} {p : Place} (hb : H.get b = some k) (hp : φ b = some p) (ho : p.cap ≠ 0)
    {cells : Array Value} {rows : List (List SV)} (hnew : w'.heap[p.blk]? = some (.cells cells k.ty (0, 0))) (hother : ∀ r, r ≠ p.blk → w'.heap[r]? = w.heap[r]?) (hsize : w'.heap.size = w.heap.size) (hos : w'.os = w.os) (htp : w'.tape = w.tape) (hout : w'.output = w.output)
    (hrows : Holds φ cells k.sz rows) (hsz : cells.size = p.cap * k.sz) (hcap : rows.length ≤ p.cap) :
    Goes φ base H w φ (H.upd b { k with rows := rows }) w' := by
  obtain ⟨p', hp', ok⟩ := h.blk b k hb
  rw [hp] at hp'
  obtain rfl := Option.some.inj hp'
  obtain ⟨o1, o2, o3, o4, cells0, o5, o6⟩ := ok.real ho
  have hmb : Mine φ H p.blk := ⟨b, k, p, hb, hp, ho, rfl⟩
  have mine : ∀ r, Mine φ (H.upd b { k with rows := rows }) r → Mine φ H r := fun r hr => by
    obtain ⟨c, k1, p1, hc, h1, h2, h3⟩ := hr
    simp only [AHeap.upd] at hc
    split at hc
    · subst_vars; exact ⟨_, k, p1, hb, h1, h2, rfl⟩
    · exact ⟨c, k1, p1, hc, h1, h2, h3⟩
  refine ⟨⟨fun c k' hc => ?_, fun c c' k1 k2 p1 p2 hc hc' hp1 hp2 hn1 hn2 e => ?_, fun c hc => ?_, by rw [hsize]; exact h.base, fun r o hr => ?_, nofull rfl⟩, Nat.le_refl _, Ext.refl _, ⟨hos, htp, hout, by omega, fun r hr => hother r (by omega)⟩, fun r hr hm => hother r (fun e => hm (e ▸ hmb)), fun r hr => .inr (mine r hr), fun r o hr => .inl hr⟩
  · simp only [AHeap.upd] at hc
    split at hc
    · subst_vars
      obtain rfl := Option.some.inj hc
      refine ⟨p, hp, ⟨ok.sz, fun i r hr => ?_, .inr ⟨o1, o2, hcap, o4, cells, hnew, hsz⟩⟩⟩
      obtain ⟨hl, hc⟩ := hrows i r hr
      refine ⟨hl, fun j x hx => ?_⟩
      obtain ⟨v, hv, hs⟩ := hc j x hx
      refine ⟨v, ?_, hs⟩
      simp only [Place.at, o1, Nat.zero_add]
      rw [cell_of_row w' _ _ _ _ _ hnew]
      exact hv
    · rename_i hne
      obtain ⟨q, hq, okq⟩ := h.blk c k' hc
      exact ⟨q, hq, okq.move (Ext.refl _) (fun hc' => hother _ (fun e => hne (h.inj c b k' k q p hc hb hq hp hc' ho e)))⟩
  · simp only [AHeap.upd] at hc hc'
    have back : ∀ {c : Nat} {k1 : Blk}, (if c = b then some { k with rows := rows } else H.get c) = some k1 → ∃ k0, H.get c = some k0 := fun {c k1} hc => by
      split at hc
      · subst_vars; exact ⟨k, hb⟩
      · exact ⟨k1, hc⟩
    obtain ⟨ka, ha⟩ := back hc
    obtain ⟨kb, hb'⟩ := back hc'
    exact h.inj c c' ka kb p1 p2 ha hb' hp1 hp2 hn1 hn2 e
  · have := h.new c hc
    refine ⟨?_, this.2⟩
    simp only [AHeap.upd]
    split
    · subst_vars; rw [this.1] at hb; cases hb
    · exact this.1
  · obtain ⟨h1, h2⟩ := h.fz r o hr
    exact ⟨by rw [hother r (fun e => h2 (e ▸ hmb))]; exact h1, fun hm => h2 (mine r hm)⟩

end Go.Proofs.Ytmfiegjncfgohaa.Den
