/- The abstract calculus, part T: slices that read as lists; heaps that grow; entering a law. -/
import Derived.Test.YtpidphppldimkaaDenR
import Derived.Deep.Slices
import Derived.ChangeSame
import Derived.ProofKit
import Derived.OpenShut
import Derived.ChangeOld
import Derived.Carry
import Derived.SizedLaws
namespace Go.Proofs.Ytpidphppldimkaa.Den
open Go.RowKit
set_option linter.unusedVariables false

def Wf (H : AHeap) : Prop := ∀ b, H.nx ≤ b → H.get b = none
structure Sub (H H' : AHeap) : Prop where
  nx : H.nx ≤ H'.nx
  get : ∀ b k, H.get b = some k → H'.get b = some k
theorem Sub.refl (H : AHeap) : Sub H H := ⟨Nat.le_refl _, fun _ _ h => h⟩
theorem Sub.trans {H H1 H2 : AHeap} (h : Sub H H1) (k : Sub H1 H2) : Sub H H2 := ⟨Nat.le_trans h.nx k.nx, fun b x hb => k.get b x (h.get b x hb)⟩
theorem Wf.lt {H : AHeap} (h : Wf H) {b : Nat} {k : Blk} (hb : H.get b = some k) : b < H.nx := by
  rcases Nat.lt_or_ge b H.nx with h1 | h1
  · exact h1
  · rw [h b h1] at hb; cases hb
theorem Wf.push {H : AHeap} (h : Wf H) (k : Blk) : Wf (H.push k) := fun b hb => by
  have hb : H.nx + 1 ≤ b := hb
  rw [get_push_old (by omega)]
  exact h b (by omega)
theorem Wf.upd {H : AHeap} (h : Wf H) {b : Nat} (hb : b < H.nx) (k : Blk) : Wf (H.upd b k) := fun c hc => by
  have hc : H.nx ≤ c := hc
  rw [get_upd_ne (by omega)]
  exact h c hc
theorem Wf.del {H : AHeap} (h : Wf H) (b : Nat) : Wf (H.del b) := fun c hc => by
  have hc : H.nx ≤ c := hc
  show (if c = b then none else H.get c) = none
  split
  · rfl
  · exact h c hc
theorem Sub.push {H0 H : AHeap} (h : Sub H0 H) (hw : Wf H) (k : Blk) : Sub H0 (H.push k) := ⟨Nat.le_trans h.nx (Nat.le_succ _), fun b x hb => by
  have h1 := h.get b x hb
  have := hw.lt h1
  rw [get_push_old (by omega)]
  exact h1⟩
/-- A block that is not of the old ones. -/
theorem Sub.upd {H0 H : AHeap} (h : Sub H0 H) {b : Nat} (hb : H0.get b = none) (k : Blk) : Sub H0 (H.upd b k) := ⟨h.nx, fun c x hc => by
  have hne : c ≠ b := fun e => by rw [e, hb] at hc; cases hc
  rw [get_upd_ne hne]
  exact h.get c x hc⟩
theorem Sub.del {H0 H : AHeap} (h : Sub H0 H) {b : Nat} (hb : H0.get b = none) : Sub H0 (H.del b) := ⟨h.nx, fun c x hc => by
  have hne : c ≠ b := fun e => by rw [e, hb] at hc; cases hc
  rw [get_del_ne hne]
  exact h.get c x hc⟩
theorem wf_of {φ : Phi} {base : Nat} {H : AHeap} {w : World} (h : Rel φ base H w) : Wf H := fun b hb => (h.new b hb).1
theorem spec_wf {P : Program} {f : FuncId} {args : List AV} {H : AHeap} {K : AV → AHeap → Prop} (h : Wf H → Spec P f args H K) : Spec P f args H K :=
  fun φ base w cargs hr ha => h (wf_of hr) φ base w cargs hr ha

theorem le_maxLen {n : Nat} (h : n ≤ 2000000) : n ≤ maxLen := Nat.le_trans h (by decide)
/-- A slice that reads as these elements. -/
def Sl (H : AHeap) (s : SV) (sz ty : Nat) (rs : List (List SV)) : Prop :=
  (s = .nils ∧ rs = []) ∨ ∃ b i c k, s = .sl b i rs.length c ∧ H.get b = some k ∧ k.sz = sz ∧ k.ty = ty ∧ i + rs.length ≤ k.rows.length ∧ (k.rows.drop i).take rs.length = rs ∧ rs.length ≤ c
/-- .. that is alone in a block of one's own. -/
def Ow (H : AHeap) (s : SV) (sz ty : Nat) (rs : List (List SV)) : Prop :=
  (s = .nils ∧ rs = []) ∨ ∃ b c k, s = .sl b 0 rs.length c ∧ H.get b = some k ∧ k.own = true ∧ k.sz = sz ∧ k.ty = ty ∧ rs.length ≤ k.rows.length ∧ k.rows.take rs.length = rs ∧ rs.length ≤ c
/-- Its block is none of the old ones. -/
def New (H : AHeap) : SV → Prop
  | .sl b _ _ _ => H.get b = none
  | _ => True

section
variable {H H' : AHeap} {s : SV} {sz ty : Nat} {rs : List (List SV)}
theorem Ow.sl (h : Ow H s sz ty rs) : Sl H s sz ty rs := by
  rcases h with h | ⟨b, c, k, h1, h2, h3, h4, h5, h6, h7, h8⟩
  · exact .inl h
  · exact .inr ⟨b, 0, c, k, h1, h2, h4, h5, by omega, by simpa using h7, h8⟩
theorem Sl.sub (h : Sl H s sz ty rs) (hs : Sub H H') : Sl H' s sz ty rs := by
  rcases h with h | ⟨b, i, c, k, h1, h2, h3⟩
  · exact .inl h
  · exact .inr ⟨b, i, c, k, h1, hs.get b k h2, h3⟩
theorem Ow.sub (h : Ow H s sz ty rs) (hs : Sub H H') : Ow H' s sz ty rs := by
  rcases h with h | ⟨b, c, k, h1, h2, h3⟩
  · exact .inl h
  · exact .inr ⟨b, c, k, h1, hs.get b k h2, h3⟩
theorem Sl.len (h : Sl H s sz ty rs) : alen (.s s) = some rs.length := by
  rcases h with ⟨rfl, rfl⟩ | ⟨b, i, c, k, rfl, _⟩ <;> rfl
theorem Sl.src (h : Sl H s sz ty rs) : srcRows H sz (.s s) = some rs := by
  rcases h with ⟨rfl, rfl⟩ | ⟨b, i, c, k, rfl, h2, h3, h4, h5, h6, _⟩
  · rfl
  · simp only [srcRows, h2, Option.bind_some]
    rw [if_pos ⟨h3, h5⟩, h6]
/-- An element, at its place. -/
theorem Sl.at (h : Sl H s sz ty rs) {j : Nat} (hj : j < rs.length) : ∃ b i c k, s = .sl b i rs.length c ∧ H.get b = some k ∧ k.sz = sz ∧ rs.length ≤ c ∧ k.rows[i + j]? = some rs[j] := by
  rcases h with ⟨rfl, rfl⟩ | ⟨b, i, c, k, rfl, h2, h3, h4, h5, h6, h7⟩
  · cases hj
  · refine ⟨b, i, c, k, rfl, h2, h3, h7, ?_⟩
    have : ((k.rows.drop i).take rs.length)[j]? = rs[j]? := by rw [h6]
    rw [List.getElem?_take, if_pos hj, List.getElem?_drop] at this
    rw [this, List.getElem?_eq_getElem hj]
theorem Sl.take {b i n c : Nat} (h : Sl H (.sl b i n c) sz ty rs) {j : Nat} (hj : j ≤ rs.length) : Sl H (.sl b i j c) sz ty (rs.take j) := by
  rcases h with ⟨e, _⟩ | ⟨b', i', c', k, e, h2, h3, h4, h5, h6, h7⟩
  · cases e
  · injection e with e1 e2 e3 e4
    subst e1 e2 e3 e4
    have hl : (rs.take j).length = j := by simp; omega
    refine .inr ⟨b, i, c, k, by rw [hl], h2, h3, h4, by rw [hl]; omega, ?_, by rw [hl]; omega⟩
    rw [hl]
    conv => rhs; rw [← h6]
    rw [List.take_take, Nat.min_eq_left hj]
theorem New.sub {H0 : AHeap} (h : New H s) (hs : Sub H0 H) : New H0 s := by
  cases s <;> try exact trivial
  case sl b i n c =>
    have h : H.get b = none := h
    show H0.get b = none
    cases hb : H0.get b with
    | none => rfl
    | some k => rw [hs.get b k hb] at h; cases h

/-- Not the same block. -/
def Apart : SV → SV → Prop
  | .sl b _ _ _, .sl b' _ _ _ => b ≠ b'
  | _, _ => True
theorem New.apart {t : SV} (h : New H t) (hs : Sl H s sz ty rs) : Apart s t := by
  rcases hs with ⟨rfl, _⟩ | ⟨b, i, c, k, rfl, h2, _⟩
  · trivial
  · cases t <;> try exact trivial
    intro e
    subst e
    have h : H.get b = none := h
    rw [h] at h2
    cases h2
/-- An element of one's own, read and written. -/
theorem Ow.set (h : Ow H s sz ty rs) {j : Nat} (hj : j < rs.length) : ∃ b n c rows, s = .sl b 0 n c ∧ n = rs.length ∧ H.get b = some ⟨sz, ty, true, rows⟩ ∧ rows[j]? = some rs[j] ∧ ∀ (H' : AHeap) r, H'.get b = some ⟨sz, ty, true, rows⟩ → Ow (H'.upd b ⟨sz, ty, true, rows.set j r⟩) s sz ty (rs.set j r) := by
  rcases h with ⟨rfl, rfl⟩ | ⟨b, c, ⟨ksz, kty, kown, krows⟩, rfl, h2, h3, h4, h5, h6, h7, h8⟩
  · cases hj
  · simp only at h3 h4 h5 h6 h7
    subst h3 h4 h5
    refine ⟨b, _, c, krows, rfl, rfl, h2, ?_, fun H' r _ => .inr ⟨b, c, ⟨ksz, kty, true, krows.set j r⟩, by rw [List.length_set], get_upd_same, rfl, rfl, rfl, by rw [List.length_set, List.length_set]; exact h6, ?_, by rw [List.length_set]; exact h8⟩⟩
    · have : (krows.take rs.length)[j]? = rs[j]? := by rw [h7]
      rw [List.getElem?_take, if_pos hj] at this
      rw [this, List.getElem?_eq_getElem hj]
    · show (krows.set j r).take (rs.set j r).length = rs.set j r
      rw [List.length_set, List.take_set, h7]
/-- A block that is not the slice's. -/
def OffS : SV → Nat → Prop
  | .sl b' _ _ _, b => b ≠ b'
  | _, _ => True
theorem Wf.updS (hw : Wf H) {b : Nat} {k0 : Blk} (hb : H.get b = some k0) (k : Blk) : Wf (H.upd b k) := hw.upd (hw.lt hb) k
theorem Sub.updN {H0 : AHeap} (h : Sub H0 H) (hw : Wf H0) {b : Nat} (hb : H0.nx ≤ b) (k : Blk) : Sub H0 (H.upd b k) := h.upd (hw b hb) k
/-- A slice whose block came after b. -/
theorem Ow.updN (ho : Ow H s sz ty rs) {H0 : AHeap} (hn : New H0 s) {b : Nat} {k0 : Blk} (hb : H0.get b = some k0) (k : Blk) : Ow (H.upd b k) s sz ty rs := by
  rcases ho with h | ⟨b', c, k', rfl, h2, h3⟩
  · exact .inl h
  · have hn : H0.get b' = none := hn
    exact .inr ⟨b', c, k', rfl, by rw [get_upd_ne (fun e => by rw [e, hb] at hn; cases hn)]; exact h2, h3⟩
theorem Sl.updN (ho : Sl H s sz ty rs) {H0 : AHeap} (hn : New H0 s) {b : Nat} {k0 : Blk} (hb : H0.get b = some k0) (k : Blk) : Sl (H.upd b k) s sz ty rs := by
  rcases ho with h | ⟨b', i, c, k', rfl, h2, h3⟩
  · exact .inl h
  · have hn : H0.get b' = none := hn
    exact .inr ⟨b', i, c, k', rfl, by rw [get_upd_ne (fun e => by rw [e, hb] at hn; cases hn)]; exact h2, h3⟩
/-- A slice of another block. -/
theorem Ow.updA (ho : Ow H s sz ty rs) {b n c i : Nat} (hn : Apart (.sl b i n c) s) (k : Blk) : Ow (H.upd b k) s sz ty rs := by
  rcases ho with h | ⟨b', c', k', rfl, h2, h3⟩
  · exact .inl h
  · have hn : b ≠ b' := hn
    exact .inr ⟨b', c', k', rfl, by rw [get_upd_ne (fun e => hn e.symm)]; exact h2, h3⟩
theorem Sl.updA (ho : Sl H s sz ty rs) {b n c i : Nat} (hn : Apart (.sl b i n c) s) (k : Blk) : Sl (H.upd b k) s sz ty rs := by
  rcases ho with h | ⟨b', i', c', k', rfl, h2, h3⟩
  · exact .inl h
  · have hn : b ≠ b' := hn
    exact .inr ⟨b', i', c', k', rfl, by rw [get_upd_ne (fun e => hn e.symm)]; exact h2, h3⟩
/-- A block that was there before a new slice's. -/
theorem New.ne {H0 : AHeap} {b n c i b0 : Nat} {k0 : Blk} (hn : New H0 (.sl b i n c)) (hb : H0.get b0 = some k0) : b0 ≠ b := fun e => by
  have hn : H0.get b = none := hn
  rw [← e, hb] at hn
  cases hn
theorem Ow.updO (ho : Ow H s sz ty rs) {b : Nat} (h : OffS s b) (k : Blk) : Ow (H.upd b k) s sz ty rs := by
  rcases ho with h' | ⟨b', c', k', rfl, h2, h3⟩
  · exact .inl h'
  · have h : b ≠ b' := h
    exact .inr ⟨b', c', k', rfl, by rw [get_upd_ne (fun e => h e.symm)]; exact h2, h3⟩
theorem Sl.off (h : Sl H s sz ty rs) (hw : Wf H) {b : Nat} (hb : H.nx ≤ b) : OffS s b := by
  rcases h with ⟨rfl, _⟩ | ⟨b', i, c, k, rfl, h2, _⟩
  · trivial
  · intro e
    subst e
    have := hw.lt h2
    omega
theorem Sub.push1 (hw : Wf H) (k : Blk) : Sub H (H.push k) := (Sub.refl H).push hw k
/-- All is kept but a slice, which became another. -/
structure Kept (s : SV) (H : AHeap) (s' : SV) (H' : AHeap) : Prop where
  nx : H.nx ≤ H'.nx
  get : ∀ b k, H.get b = some k → OffS s b → H'.get b = some k
  off : ∀ b k, H.get b = some k → OffS s b → OffS s' b
theorem New.off {b : Nat} {k : Blk} (h : New H s) (hb : H.get b = some k) : OffS s b := by
  cases s <;> try exact trivial
  intro e
  subst e
  have h : H.get _ = none := h
  rw [h] at hb
  cases hb
theorem Kept.sub {s' : SV} (h : Kept s H s' H') {H0 : AHeap} (hs : Sub H0 H) (hn : New H0 s) : Sub H0 H' :=
  ⟨Nat.le_trans hs.nx h.nx, fun b k hb => h.get b k (hs.get b k hb) (hn.off hb)⟩
theorem Kept.new {s' : SV} (h : Kept s H s' H') {H0 : AHeap} (hs : Sub H0 H) (hn : New H0 s) : New H0 s' := by
  cases s' <;> try exact trivial
  case sl b i n c =>
    show H0.get b = none
    cases hb : H0.get b with
    | none => rfl
    | some k => exact absurd rfl (h.off b k (hs.get b k hb) (hn.off hb))
theorem Kept.ow {s' t : SV} {sz ty : Nat} {rs : List (List SV)} (h : Kept s H s' H') (ht : Ow H t sz ty rs) (ha : Apart s t) : Ow H' t sz ty rs := by
  rcases ht with ht | ⟨b, c, k, rfl, h2, h3⟩
  · exact .inl ht
  · exact .inr ⟨b, c, k, rfl, h.get b k h2 (by cases s <;> first | trivial | exact fun e => ha e.symm), h3⟩
theorem Kept.sl {s' t : SV} {sz ty : Nat} {rs : List (List SV)} (h : Kept s H s' H') (ht : Sl H t sz ty rs) (ha : Apart s t) : Sl H' t sz ty rs := by
  rcases ht with ht | ⟨b, i, c, k, rfl, h2, h3⟩
  · exact .inl ht
  · exact .inr ⟨b, i, c, k, rfl, h.get b k h2 (by cases s <;> first | trivial | exact fun e => ha e.symm), h3⟩
theorem Kept.apart {s' t : SV} {sz ty : Nat} {rs : List (List SV)} (h : Kept s H s' H') (ht : Sl H t sz ty rs) (ha : Apart s t) : Apart s' t := by
  rcases ht with ⟨rfl, _⟩ | ⟨b, i, c, k, rfl, h2, h3⟩
  · cases s' <;> exact trivial
  · have := h.off b k h2 (by cases s <;> first | trivial | exact fun e => ha e.symm)
    cases s' <;> first | exact trivial | exact fun e => this e.symm
theorem Apart.symm {s t : SV} (h : Apart s t) : Apart t s := by
  cases s <;> cases t <;> first | exact trivial | exact fun e => h e.symm
/-- What an append does. -/
theorem append_ow (hw : Wf H) (h : Ow H s sz ty rs) {new : List (List SV)} {by_ : Nat} (hb : (rs.length + new.length) * by_ ≤ 140737488355328) (hm : rs.length + new.length ≤ maxLen) :
    ∃ s' H', aappend H ty sz by_ (.s s) new = some (.s s', H') ∧ Ow H' s' sz ty (rs ++ new) ∧ Wf H' ∧ Kept s H s' H' := by
  rcases h with ⟨rfl, rfl⟩ | ⟨b, c, k, rfl, h2, h3, h4, h5, h6, h7, h8⟩
  · by_cases hn : new = []
    · subst hn
      exact ⟨.nils, H, by simp [aappend], .inl ⟨rfl, rfl⟩, hw, Nat.le_refl _, fun _ _ h _ => h, fun _ _ _ h => h⟩
    · refine ⟨.sl H.nx 0 new.length new.length, H.push ⟨sz, ty, true, new⟩, ?_, .inr ⟨H.nx, new.length, ⟨sz, ty, true, new⟩, by simp, get_push_new, rfl, rfl, rfl, by simp, by simp, by simp⟩, hw.push _, Nat.le_succ _, fun b k hb _ => (Sub.push1 hw _).get b k hb, fun b k hb _ => Nat.ne_of_lt (hw.lt hb)⟩
      · simp only [aappend]
        rw [if_neg hn, if_pos ⟨by simpa using hb, by simpa using hm⟩]
  · by_cases hn : new = []
    · subst hn
      exact ⟨.sl b 0 rs.length c, H, by simp [aappend], .inr ⟨b, c, k, by simp, h2, h3, h4, h5, by simpa using h6, by simpa using h7, by simpa using h8⟩, hw, Nat.le_refl _, fun _ _ h _ => h, fun _ _ _ h => h⟩
    · by_cases hc : rs.length + new.length ≤ c
      · refine ⟨.sl b 0 (rs.length + new.length) c, H.upd b { k with rows := k.rows.take rs.length ++ new ++ k.rows.drop (rs.length + new.length) }, ?_, .inr ⟨b, c, _, by simp, get_upd_same, h3, h4, h5, ?_, ?_, by simpa using hc⟩, hw.upd (hw.lt h2) _, Nat.le_refl _, fun b' k' hb' ho => (get_upd_ne (h := ho)).trans hb', fun _ _ _ ho => ho⟩
        · simp only [aappend, h2, Option.bind_some]
          rw [if_neg hn, if_pos ⟨h3, h4, h5, trivial, h6, hb, hm⟩, if_pos hc]
        · simp; omega
        · rw [h7, List.length_append, ← List.length_append, List.take_left']
          rfl
      · refine ⟨.sl H.nx 0 (rs.length + new.length) (rs.length + new.length), (H.del b).push ⟨sz, ty, true, k.rows.take rs.length ++ new⟩, ?_, .inr ⟨H.nx, rs.length + new.length, ⟨sz, ty, true, k.rows.take rs.length ++ new⟩, by simp, get_push_new, rfl, rfl, rfl, by rw [h7]; simp, by rw [h7, List.take_length], by simp⟩, (hw.del b).push _, Nat.le_succ _, fun b' k' hb' ho => (get_push_old (H := H.del b) (Nat.ne_of_lt (hw.lt hb'))).trans ((get_del_ne ho).trans hb'), fun b' k' hb' _ => Nat.ne_of_lt (hw.lt hb')⟩
        · simp only [aappend, h2, Option.bind_some]
          rw [if_neg hn, if_pos ⟨h3, h4, h5, trivial, h6, hb, hm⟩, if_neg hc]
theorem aappend_new (hw : Wf H) {by_ : Nat} (hb : rs.length * by_ ≤ 140737488355328) (hm : rs.length ≤ maxLen) : ∃ s' H', aappend (H.push ⟨sz, ty, true, []⟩) ty sz by_ (.s (.sl H.nx 0 0 0)) rs = some (.s s', H') ∧ Ow H' s' sz ty rs ∧ Wf H' ∧ Sub H H' ∧ New H s' := by
  have h : Ow (H.push ⟨sz, ty, true, []⟩) (.sl H.nx 0 0 0) sz ty [] := .inr ⟨H.nx, 0, ⟨sz, ty, true, []⟩, rfl, get_push_new, rfl, rfl, rfl, Nat.le_refl _, rfl, Nat.le_refl _⟩
  obtain ⟨s', H', h1, h2, h3, h4⟩ := append_ow (hw.push _) h (new := rs) (by_ := by_) (by simpa using hb) (by simpa using hm)
  have hn : New H (.sl H.nx 0 0 0) := hw _ (Nat.le_refl _)
  exact ⟨s', H', h1, by simpa using h2, h3, h4.sub (Sub.push1 hw _) hn, h4.new (Sub.push1 hw _) hn⟩
theorem Sl.src_push (hw : Wf H) (h : Sl H s sz ty rs) (k : Blk) : srcRows (H.push k) sz (.s s) = some rs := (h.sub ((Sub.refl H).push hw k)).src
end

/-! ### A law's argument: a slice of bytes -/
def codeOf (xs : List Int) : List (List SV) := xs.map fun x => [.int .u8 x]
open Go.ChangeShapes Go.WideShapes Go.Deep in
theorem enter_bytes {P : Program} {t e : TypeId} (ht : P.underlying t = some (.slice e)) (he : P.underlying e = some (.int .u8)) (hc : P.cellsOf e = 1) {T : Type} (enc : TypeId × Value → T) (W : World) (spare : Nat → Bool) (held : Bool) (fuel : Nat) (v : Value) (y : DataW T × List MemPlace)
    (h : DataW.trod enc P W 0 spare held fuel t [v] = some y) (hlt : ∀ p ∈ y.2, p.block < W.heap.size) : ∃ (φ : Phi) (H : AHeap) (s : SV) (xs : List Int), Rel φ W.heap.size H W ∧ VR φ (.s s) v ∧ Sl H s 1 e (codeOf xs) ∧ (∀ x ∈ xs, 0 ≤ x ∧ x ≤ 255) ∧ H.nx = 1 ∧ xs.length ≤ maxLen := by
  rcases open_slice1 ht hc h with ⟨h0, _⟩ | ⟨a, len, cap, m, n, V, D, Pl, h0, hb, hl, hm, hmm, hy, hi⟩
  · obtain rfl : v = .slice none 0 0 := by simpa using h0
    refine ⟨fun _ => none, ⟨fun _ => none, 1⟩, .nils, [], ⟨fun b k hk => (by cases hk), fun b b' k k' p p' hk => (by cases hk), fun b _ => ⟨rfl, rfl⟩, Nat.le_refl _⟩, rfl, .inl ⟨rfl, rfl⟩, fun x hx => (by cases hx), rfl, Nat.zero_le _⟩
  · obtain rfl : v = .slice (some a) len cap := by simpa using h0
    have hlm : len ≤ m := by rw [hmm]; split <;> omega
    have hval : ∀ i, i < len → ∃ x : Int, V i = .int .u8 x ∧ 0 ≤ x ∧ x ≤ 255 := fun i hil => by
      obtain ⟨_, htr⟩ := hi i (by omega)
      obtain ⟨x, hx, _, hw⟩ := DataW.trod_int he htr
      refine ⟨x, by simpa using hx, ?_⟩
      simp only [Lit.wf, Bool.and_eq_true, decide_eq_true_eq] at hw
      have e1 : IntKind.u8.min = 0 := by decide
      have e2 : IntKind.u8.max = 255 := by decide
      rw [e1, e2] at hw
      exact hw
    obtain ⟨X, hX⟩ := choose_lt (α := Int) hval
    have hxs : ((List.range len).map X).length = len := by simp
    have hget : ∀ i, i < len → ((List.range len).map X)[i]? = some (X i) := fun i hil => by simp [hil]
    have hall : ∀ x ∈ (List.range len).map X, 0 ≤ x ∧ x ≤ 255 := fun x hx => by
      obtain ⟨i, hil, rfl⟩ := List.mem_map.1 hx
      exact (hX i (List.mem_range.1 hil)).2
    have hcl : (codeOf ((List.range len).map X)).length = len := by simp [codeOf]
    by_cases h00 : len = 0
    · subst h00
      refine ⟨fun b => if b = 0 then some ⟨0, 1, 0, 1⟩ else none, ⟨fun b => if b = 0 then some ⟨1, e, false, []⟩ else none, 1⟩, .sl 0 0 0 0, [], ?_, ?_, .inr ⟨0, 0, 0, ⟨1, e, false, []⟩, rfl, rfl, rfl, rfl, Nat.le_refl _, rfl, Nat.le_refl _⟩, fun x hx => (by cases hx), rfl, Nat.zero_le _⟩
      · refine ⟨fun b k hk => ?_, fun b b' k k' p p' hk hk' ho => ?_, fun b hb => ?_, Nat.le_refl _⟩
        · simp only at hk
          split at hk
          · subst_vars
            obtain rfl := Option.some.inj hk
            exact ⟨_, if_pos rfl, ⟨rfl, fun i r hr => (by cases hr), fun e => (by cases e), fun _ hne => absurd rfl hne⟩⟩
          · cases hk
        · simp only at hk
          split at hk
          · obtain rfl := Option.some.inj hk; cases ho
          · cases hk
        · have : b ≠ 0 := by have hb : 1 ≤ b := hb; omega
          simp [this]
      · exact ⟨a, cap, rfl, Nat.le_refl _, Nat.zero_le _, hm, .inl (.inr ⟨⟨0, 1, 0, 1⟩, rfl, by decide, rfl, rfl⟩)⟩
    · have hc0 := (hi 0 (by omega)).1
      have hadd0 : a.add 0 = a := by unfold Addr.add; rw [if_pos rfl]
      rw [hadd0] at hc0
      have hspot : a.spot = none := by
        unfold World.cell? at hc0
        split at hc0
        · split at hc0
          · cases hc0
          · simpa using ‹¬ a.spot.isSome = true›
        · cases hc0
      have hblk : a.block < W.heap.size := World.block_lt_of_cell? W a hc0
      have hat : ∀ j, a.add j = Place.at ⟨a.block, a.off, cap, 1⟩ j := fun j => by
        unfold Addr.add Place.at
        split
        · subst_vars; cases a; simp_all
        · simp
      refine ⟨fun b => if b = 0 then some ⟨a.block, a.off, cap, 1⟩ else none, ⟨fun b => if b = 0 then some ⟨1, e, false, codeOf ((List.range len).map X)⟩ else none, 1⟩, .sl 0 0 len len, (List.range len).map X, ?_, ?_, .inr ⟨0, 0, len, ⟨1, e, false, codeOf ((List.range len).map X)⟩, by rw [hcl], rfl, rfl, rfl, by simp [codeOf], by rw [List.drop_zero, List.take_length], by rw [hcl]; exact Nat.le_refl _⟩, hall, rfl, by rw [hxs]; omega⟩
      · refine ⟨fun b k hk => ?_, fun b b' k k' p p' hk hk' ho => ?_, fun b hb => ?_, Nat.le_refl _⟩
        · simp only at hk
          split at hk
          · subst_vars
            obtain rfl := Option.some.inj hk
            refine ⟨_, if_pos rfl, ⟨rfl, fun i r hr => ?_, fun e => (by cases e), fun _ _ => hblk⟩⟩
            have hil : i < len := by have := (List.getElem?_eq_some_iff.1 hr).1; simpa [codeOf] using this
            have hr' : r = [.int .u8 (X i)] := by
              simp only [codeOf, List.getElem?_map, hget i hil, Option.map_some] at hr
              exact (Option.some.inj hr).symm
            subst hr'
            refine ⟨rfl, fun j x hx => ?_⟩
            cases j with
            | succ j => simp at hx
            | zero =>
              simp at hx
              subst hx
              refine ⟨.int .u8 (X i), ?_, rfl⟩
              have := (hi i (by omega)).1
              rw [hat, (hX i hil).1] at this
              simpa using this
          · cases hk
        · simp only at hk
          split at hk
          · obtain rfl := Option.some.inj hk; cases ho
          · cases hk
        · have : b ≠ 0 := by have hb : 1 ≤ b := hb; omega
          simp [this]
      · refine ⟨a, cap, rfl, Nat.le_refl _, hl, hm, .inr ⟨⟨a.block, a.off, cap, 1⟩, rfl, ?_, by simp⟩⟩
        have := hat 0
        rw [hadd0] at this
        simpa using this

end Go.Proofs.Ytpidphppldimkaa.Den
