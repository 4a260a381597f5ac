/- The abstract calculus, part A: abstract values, the abstract heap, how they stand to the model's world. -/
import Derived.Control
import Derived.Calls
import Derived.Orders
import Derived.Below
import Derived.Laws.Sem
import Derived.Laws.Cells
import Derived.Laws.Rows
import Derived.Laws.Append
import Derived.Laws.AppendOwn
import Derived.Laws.CopyRow
import Derived.Laws.MakeOwn
import Derived.Laws.Slices
import Derived.KernelRfl
namespace Go.Proofs.Ytpidphppldimkaa.Den
open Go.RowKit
set_option linter.unusedVariables false

inductive SV where
  | any
  | int (k : IntKind) (n : Int)
  | bool (b : Bool)
  | str (s : ByteArray)
  | nilp
  | ptr (b i j : Nat)
  | nils
  | sl (b i n c : Nat)
  | nilf
  | fn (f : Nat) (caps : List (Nat × Nat × Nat))
  deriving DecidableEq, Inhabited

inductive AV where
  | no
  | s (x : SV)
  | agg (l : List SV)
  | tup (l : List AV)
  deriving Inhabited

/-- A block: elements of so many cells. -/
structure Blk where
  sz : Nat
  ty : TypeId
  own : Bool
  rows : List (List SV)

structure AHeap where
  get : Nat → Option Blk
  nx : Nat

/-- Where a block lies: from an offset on, room for so many elements, of so many cells each. -/
structure Place where
  blk : Nat
  off : Nat
  cap : Nat
  sz : Nat

def Place.at (p : Place) (k : Nat) : Addr := ⟨p.blk, p.off + k, none⟩
theorem Place.at_add (p : Place) (k j : Nat) : (p.at k).add j = p.at (k + j) := by
  unfold Place.at Addr.add
  split
  · subst_vars; rfl
  · simp [Nat.add_assoc]
theorem Place.at_block (p : Place) (k : Nat) : (p.at k).block = p.blk := rfl

abbrev Phi := Nat → Option Place

def PtrAt (φ : Phi) (b i j : Nat) (a : Addr) : Prop := ∃ p, φ b = some p ∧ a = p.at (i * p.sz + j)

inductive PtrsAt (φ : Phi) : List (Nat × Nat × Nat) → List Value → Prop
  | nil : PtrsAt φ [] []
  | cons {b i j a l vs} : PtrAt φ b i j a → PtrsAt φ l vs → PtrsAt φ ((b, i, j) :: l) (.pointer (some a) :: vs)

def SlAt (φ : Phi) (b i n c : Nat) (v : Value) : Prop :=
  ∃ a c', v = .slice (some a) n c' ∧ n ≤ c ∧ c ≤ c' ∧ c' ≤ maxLen ∧ ((c' = 0 ∨ ∃ p, φ b = some p ∧ p.off ≠ 0 ∧ n = 0 ∧ c = 0) ∨ ∃ p, φ b = some p ∧ a = p.at (i * p.sz) ∧ i + c' ≤ p.cap)

def SR (φ : Phi) : SV → Value → Prop
  | .any, v => v.oneCell' = true
  | .int k n, v => v = .int k n
  | .bool b, v => v = .bool b
  | .str s, v => v = .string s
  | .nilp, v => v = .pointer none
  | .ptr b i j, v => ∃ a, v = .pointer (some a) ∧ PtrAt φ b i j a
  | .nils, v => v = .slice none 0 0
  | .sl b i n c, v => SlAt φ b i n c v
  | .nilf, v => v = .nilFunc
  | .fn f caps, v => ∃ cs : Array Value, v = .func (.func f) #[] cs ∧ PtrsAt φ caps cs.toList

def Ext (φ φ' : Phi) : Prop := ∀ b p, φ b = some p → φ' b = some p
theorem Ext.refl (φ : Phi) : Ext φ φ := fun _ _ h => h
theorem Ext.trans {φ φ1 φ2 : Phi} (h : Ext φ φ1) (k : Ext φ1 φ2) : Ext φ φ2 := fun b p hb => k b p (h b p hb)
theorem PtrAt.ext {φ φ' : Phi} (h : Ext φ φ') {b i j a} (k : PtrAt φ b i j a) : PtrAt φ' b i j a := by
  obtain ⟨p, hp, e⟩ := k; exact ⟨p, h b p hp, e⟩
theorem PtrsAt.ext {φ φ' : Phi} (h : Ext φ φ') {l vs} (k : PtrsAt φ l vs) : PtrsAt φ' l vs := by
  induction k with
  | nil => exact .nil
  | cons hx _ ih => exact .cons (hx.ext h) ih
theorem SlAt.ext {φ φ' : Phi} (h : Ext φ φ') {b i n c v} (k : SlAt φ b i n c v) : SlAt φ' b i n c v := by
  obtain ⟨a, c', e, h1, h2, h3, h4⟩ := k
  exact ⟨a, c', e, h1, h2, h3, h4.imp (fun h5 => h5.imp id fun ⟨p, hp, r⟩ => ⟨p, h b p hp, r⟩) fun ⟨p, hp, r⟩ => ⟨p, h b p hp, r⟩⟩
theorem SR.ext {φ φ' : Phi} (h : Ext φ φ') {x : SV} {v : Value} (k : SR φ x v) : SR φ' x v := by
  cases x <;> simp only [SR] at k ⊢ <;> try exact k
  case ptr => obtain ⟨a, e, r⟩ := k; exact ⟨a, e, r.ext h⟩
  case sl => exact k.ext h
  case fn => obtain ⟨cs, e, r⟩ := k; exact ⟨cs, e, r.ext h⟩

theorem SR.one {φ : Phi} {x : SV} {v : Value} (h : SR φ x v) : v.oneCell' = true := by
  cases x <;> simp only [SR] at h
  case any => exact h
  case sl => obtain ⟨a, c', rfl, _⟩ := h; rfl
  case ptr => obtain ⟨a, rfl, _⟩ := h; rfl
  case fn => obtain ⟨a, rfl, _⟩ := h; rfl
  all_goals (subst h; rfl)

/-- Pointwise. -/
inductive SRs (φ : Phi) : List SV → List Value → Prop
  | nil : SRs φ [] []
  | cons {x v l vs} : SR φ x v → SRs φ l vs → SRs φ (x :: l) (v :: vs)

theorem SRs.length {φ : Phi} {l : List SV} {vs : List Value} (h : SRs φ l vs) : l.length = vs.length := by
  induction h with
  | nil => rfl
  | cons _ _ ih => simp [ih]
theorem SRs.one {φ : Phi} {l : List SV} {vs : List Value} (h : SRs φ l vs) : ∀ v ∈ vs, v.oneCell' = true := by
  induction h with
  | nil => simp
  | cons hx _ ih => intro v hv; rcases List.mem_cons.1 hv with rfl | hv; exact hx.one; exact ih v hv
theorem SRs.append {φ : Phi} {l l' : List SV} {vs vs' : List Value} (h : SRs φ l vs) (h' : SRs φ l' vs') : SRs φ (l ++ l') (vs ++ vs') := by
  induction h with
  | nil => exact h'
  | cons hx _ ih => exact .cons hx ih
theorem SRs.get {φ : Phi} {l : List SV} {vs : List Value} (h : SRs φ l vs) : ∀ (j : Nat) x, l[j]? = some x → ∃ v, vs[j]? = some v ∧ SR φ x v := by
  induction h with
  | nil => intro j x hx; simp at hx
  | cons hx _ ih =>
    intro j x h
    cases j with
    | zero => simp at h; subst h; exact ⟨_, rfl, hx⟩
    | succ j => simp only [List.getElem?_cons_succ] at h ⊢; exact ih j x h
theorem SRs.of_get {φ : Phi} : ∀ {l : List SV} {vs : List Value}, l.length = vs.length → (∀ (j : Nat) x v, l[j]? = some x → vs[j]? = some v → SR φ x v) → SRs φ l vs
  | [], [], _, _ => .nil
  | x :: l, v :: vs, hl, h => .cons (h 0 x v rfl rfl) (SRs.of_get (by simpa using hl) (fun j x v hx hv => h (j + 1) x v (by simpa using hx) (by simpa using hv)))
  | [], _ :: _, hl, _ => by simp at hl
  | _ :: _, [], hl, _ => by simp at hl
theorem SRs.drop {φ : Phi} {l : List SV} {vs : List Value} (h : SRs φ l vs) : ∀ k, SRs φ (l.drop k) (vs.drop k) := by
  induction h with
  | nil => intro k; simp; exact .nil
  | cons hx hr ih => intro k; cases k with | zero => exact .cons hx hr | succ k => exact ih k
theorem SRs.take {φ : Phi} {l : List SV} {vs : List Value} (h : SRs φ l vs) : ∀ k, SRs φ (l.take k) (vs.take k) := by
  induction h with
  | nil => intro k; simp; exact .nil
  | cons hx hr ih => intro k; cases k with | zero => exact .nil | succ k => exact .cons hx (ih k)

theorem SRs.ext {φ φ' : Phi} (h : Ext φ φ') {l vs} (k : SRs φ l vs) : SRs φ' l vs := by
  induction k with
  | nil => exact .nil
  | cons hx _ ih => exact .cons (hx.ext h) ih

def VR0 (φ : Phi) : AV → Value → Prop
  | .no, _ => True
  | .s x, v => SR φ x v
  | .agg l, v => ∃ cs : Array Value, v = .agg cs ∧ SRs φ l cs.toList
  | .tup _, _ => False

inductive VRs0 (φ : Phi) : List AV → List Value → Prop
  | nil : VRs0 φ [] []
  | cons {x v l vs} : VR0 φ x v → VRs0 φ l vs → VRs0 φ (x :: l) (v :: vs)

def VR (φ : Phi) : AV → Value → Prop
  | .tup l, v => ∃ vs : Array Value, v = .tuple vs ∧ VRs0 φ l vs.toList
  | x, v => VR0 φ x v

inductive VRs (φ : Phi) : List AV → List Value → Prop
  | nil : VRs φ [] []
  | cons {x v l vs} : VR φ x v → VRs φ l vs → VRs φ (x :: l) (v :: vs)

theorem VRs.get {φ : Phi} {l : List AV} {vs : List Value} (h : VRs φ l vs) : ∀ j : Nat, VR φ (l.getD j .no) (vs.getD j undef) := by
  induction h with
  | nil => intro j; simp; exact trivial
  | cons hx _ ih =>
    intro j
    cases j with
    | zero => exact hx
    | succ j => simpa using ih j
theorem VRs.length {φ : Phi} {l : List AV} {vs : List Value} (h : VRs φ l vs) : l.length = vs.length := by
  induction h with
  | nil => rfl
  | cons _ _ ih => simp [ih]
theorem VRs0.get {φ : Phi} {l : List AV} {vs : List Value} (h : VRs0 φ l vs) : ∀ (j : Nat) x, l[j]? = some x → ∃ v, vs[j]? = some v ∧ VR0 φ x v := by
  induction h with
  | nil => intro j x h; simp at h
  | cons hx _ ih =>
    intro j x h
    cases j with
    | zero => simp at h; subst h; exact ⟨_, rfl, hx⟩
    | succ j => simp only [List.getElem?_cons_succ] at h ⊢; exact ih j x h
theorem VR.of0 {φ : Phi} {x : AV} {v : Value} (h : VR0 φ x v) : VR φ x v := by
  cases x <;> first | exact h | exact h.elim

theorem VR0.ext {φ φ' : Phi} (h : Ext φ φ') {x : AV} {v : Value} (k : VR0 φ x v) : VR0 φ' x v := by
  cases x with
  | no => trivial
  | s x => exact SR.ext h k
  | agg l => obtain ⟨cs, e, r⟩ := k; exact ⟨cs, e, r.ext h⟩
  | tup l => exact k
theorem VRs0.ext {φ φ' : Phi} (h : Ext φ φ') {l vs} (k : VRs0 φ l vs) : VRs0 φ' l vs := by
  induction k with
  | nil => exact .nil
  | cons hx _ ih => exact .cons (hx.ext h) ih
theorem VR.ext {φ φ' : Phi} (h : Ext φ φ') {x : AV} {v : Value} (k : VR φ x v) : VR φ' x v := by
  cases x with
  | no => trivial
  | s x => exact VR0.ext h (x := .s x) k
  | agg l => exact VR0.ext h (x := .agg l) k
  | tup l => obtain ⟨vs, e, r⟩ := k; exact ⟨vs, e, r.ext h⟩
theorem VRs.ext {φ φ' : Phi} (h : Ext φ φ') {l vs} (k : VRs φ l vs) : VRs φ' l vs := by
  induction k with
  | nil => exact .nil
  | cons hx _ ih => exact .cons (hx.ext h) ih

/-- The cells of an element as they stand in memory. -/
def RowAt (φ : Phi) (w : World) (p : Place) (sz i : Nat) (r : List SV) : Prop :=
  r.length = sz ∧ ∀ j x, r[j]? = some x → ∃ v, w.cell? (p.at (i * sz + j)) = some v ∧ SR φ x v

structure BlkOk (φ : Phi) (base : Nat) (w : World) (p : Place) (k : Blk) : Prop where
  sz : p.sz = k.sz
  rows : ∀ i r, k.rows[i]? = some r → RowAt φ w p k.sz i r
  own : k.own = true → p.off = 0 ∧ base ≤ p.blk ∧ k.rows.length ≤ p.cap ∧ p.cap ≤ maxLen ∧ ∃ cells, w.heap[p.blk]? = some (.cells cells k.ty (0, 0)) ∧ cells.size = p.cap * k.sz
  given : k.own = false → k.rows ≠ [] → p.blk < base

structure Rel (φ : Phi) (base : Nat) (H : AHeap) (w : World) : Prop where
  blk : ∀ b k, H.get b = some k → ∃ p, φ b = some p ∧ BlkOk φ base w p k
  inj : ∀ b b' k k' p p', H.get b = some k → H.get b' = some k' → k.own = true → k'.own = true → φ b = some p → φ b' = some p' → p.blk = p'.blk → b = b'
  new : ∀ b, H.nx ≤ b → H.get b = none ∧ φ b = none
  base : base ≤ w.heap.size

/-- The blocks that are H's own, as the world numbers them. -/
def Mine (φ : Phi) (H : AHeap) (r : Nat) : Prop := ∃ b k p, H.get b = some k ∧ k.own = true ∧ φ b = some p ∧ p.blk = r

/-- What a piece of code does to a world, seen over H. -/
structure Goes (φ : Phi) (base : Nat) (H : AHeap) (w : World) (φ' : Phi) (H' : AHeap) (w' : World) : Prop where
  rel : Rel φ' base H' w'
  nx : H.nx ≤ H'.nx
  ext : Ext φ φ'
  below : Below base w w'
  kept : ∀ r, r < w.heap.size → ¬ Mine φ H r → w'.heap[r]? = w.heap[r]?
  mine : ∀ r, Mine φ' H' r → w.heap.size ≤ r ∨ Mine φ H r

theorem Goes.refl {φ : Phi} {base : Nat} {H : AHeap} {w : World} (h : Rel φ base H w) : Goes φ base H w φ H w :=
  ⟨h, Nat.le_refl _, Ext.refl _, Below.refl _ _, fun _ _ _ => rfl, fun _ h => .inr h⟩
theorem Goes.trans {φ φ1 φ2 : Phi} {base : Nat} {H H1 H2 : AHeap} {w w1 w2 : World} (h : Goes φ base H w φ1 H1 w1) (k : Goes φ1 base H1 w1 φ2 H2 w2) : Goes φ base H w φ2 H2 w2 where
  rel := k.rel
  nx := Nat.le_trans h.nx k.nx
  ext := h.ext.trans k.ext
  below := h.below.trans k.below
  kept := fun r hr hm => by
    have h1 := h.kept r hr hm
    have hr' : r < w1.heap.size := Nat.lt_of_lt_of_le hr h.below.size
    rw [k.kept r hr' (fun hm' => (h.mine r hm').elim (fun he => by omega) hm), h1]
  mine := fun r hr => (k.mine r hr).elim (fun he => .inl (Nat.le_trans h.below.size he)) (fun hm => h.mine r hm)

/-- A draw changes nothing that is seen. -/
theorem Rel.congr {φ : Phi} {base : Nat} {H : AHeap} {w w' : World} (h : Rel φ base H w) (e : w'.heap = w.heap) : Rel φ base H w' where
  blk := fun b k hb => by
    obtain ⟨p, hp, h1⟩ := h.blk b k hb
    refine ⟨p, hp, ⟨h1.sz, fun i r hr => ?_, by rw [e]; exact h1.own, h1.given⟩⟩
    obtain ⟨hl, hc⟩ := h1.rows i r hr
    refine ⟨hl, fun j x hx => ?_⟩
    obtain ⟨v, hv, hr⟩ := hc j x hx
    exact ⟨v, by simpa [World.cell?, e] using hv, hr⟩
  inj := h.inj
  new := h.new
  base := by rw [e]; exact h.base

/-! ### The frame: places and what they hold -/
abbrev Fr := List (Nat × AV)
def fget : List (Nat × AV) → Nat → AV
  | [], _ => .no
  | (t, v) :: l, u => if t = u then v else fget l u
def FR (φ : Phi) (N : Nat) (f : List (Nat × AV)) (a : Act) : Prop :=
  a.tmps.size = N ∧ a.defers = [] ∧ ∀ t, VR φ (fget f t) (a.tmps.getD t undef)

theorem FR.put {φ : Phi} {N : Nat} {f : List (Nat × AV)} {a : Act} (h : FR φ N f a) {t : Nat} (ht : t < N) {x : AV} {v : Value} (hv : VR φ x v) : FR φ N ((t, x) :: f) (a.put (some t) v) := by
  obtain ⟨h1, h2, h3⟩ := h
  refine ⟨by simp [Act.put, h1], h2, fun u => ?_⟩
  have hg : (a.put (some t) v).tmps.getD u undef = if t = u then v else a.tmps.getD u undef := by
    simp only [Act.put, Array.getD_eq_getD_getElem?, Array.getElem?_setIfInBounds]
    split <;> simp_all
  rw [hg]
  unfold fget
  split
  · exact hv
  · exact h3 u
theorem FR.put_none {φ : Phi} {N : Nat} {f : List (Nat × AV)} {a : Act} (h : FR φ N f a) {v : Value} : FR φ N f (a.put none v) := h

theorem FR.ext {φ φ' : Phi} (e : Ext φ φ') {N : Nat} {f : List (Nat × AV)} {a : Act} (h : FR φ N f a) : FR φ' N f a := ⟨h.1, h.2.1, fun t => (h.2.2 t).ext e⟩

/-- What is kept of a frame. -/
def fkeep (ks : List Nat) (f : List (Nat × AV)) : List (Nat × AV) := ks.map fun t => (t, fget f t)
theorem fget_keep (ks : List Nat) (f : List (Nat × AV)) (u : Nat) : fget (fkeep ks f) u = fget f u ∨ fget (fkeep ks f) u = .no := by
  induction ks with
  | nil => exact .inr rfl
  | cons t ks ih =>
    simp only [fkeep, List.map_cons, fget]
    split
    · subst_vars; exact .inl rfl
    · exact ih
theorem VR_no {φ : Phi} {v : Value} : VR φ .no v := trivial
theorem FR.keep {φ : Phi} {N : Nat} {f : List (Nat × AV)} {a : Act} (h : FR φ N f a) (ks : List Nat) : FR φ N (fkeep ks f) a :=
  ⟨h.1, h.2.1, fun u => by rcases fget_keep ks f u with e | e <;> rw [e]; exact h.2.2 u; exact VR_no⟩

end Go.Proofs.Ytpidphppldimkaa.Den
