/- The abstract calculus, part A: abstract values, the abstract heap, how they stand to the model's world. -/
import Derived.Control
import Derived.Calls
import Derived.Orders
import Derived.Below
import Derived.Laws.Sem
import Derived.Laws.Cells
import Derived.Laws.Rows
import Derived.Laws.Append
import Derived.Laws.AppendOwn
import Derived.Laws.CopyRow
import Derived.Laws.MakeOwn
import Derived.Laws.Slices
import Derived.KernelRfl
namespace Go.Proofs.Ytmfiegjncfgohaa.Den
open Go.RowKit
set_option linter.unusedVariables false

inductive SV where
  | any
  | int (k : IntKind) (n : Int)
  | bool (b : Bool)
  | str (s : ByteArray)
  | nilp
  | ptr (b i j : Nat)
  | nils
  | sl (b i n c : Nat)
  | nilf
  | fn (f : Nat) (caps : List (Nat × Nat × Nat))
  /-- An empty slice without room. -/
  | emp
  /-- An empty slice that is not nil. -/
  | nemp
  /-- A slice whose elements no one changes any more. -/
  | lst (sz : Nat) (rows : List (List SV))
  /-- A place in an element of such a slice. -/
  | fptr (row : List SV) (j : Nat)
  deriving Inhabited

mutual
def SV.beq : SV → SV → Bool
  | .any, .any => true
  | .int k n, .int k' n' => decide (k = k') && decide (n = n')
  | .bool b, .bool b' => b == b'
  | .str s, .str s' => decide (s = s')
  | .nilp, .nilp => true
  | .ptr b i j, .ptr b' i' j' => b == b' && i == i' && j == j'
  | .nils, .nils => true
  | .sl b i n c, .sl b' i' n' c' => b == b' && i == i' && n == n' && c == c'
  | .nilf, .nilf => true
  | .fn f cs, .fn f' cs' => f == f' && decide (cs = cs')
  | .emp, .emp => true
  | .nemp, .nemp => true
  | .lst s r, .lst s' r' => s == s' && SV.beqss r r'
  | .fptr r j, .fptr r' j' => SV.beqs r r' && j == j'
  | _, _ => false
def SV.beqs : List SV → List SV → Bool
  | [], [] => true
  | x :: l, y :: l' => SV.beq x y && SV.beqs l l'
  | _, _ => false
def SV.beqss : List (List SV) → List (List SV) → Bool
  | [], [] => true
  | x :: l, y :: l' => SV.beqs x y && SV.beqss l l'
  | _, _ => false
end
mutual
theorem SV.of_beq : ∀ {x y : SV}, SV.beq x y = true → x = y := by
  intro x y h
  cases x <;> cases y <;> first | rfl | (simp [SV.beq] at h; done) | skip
  case int.int => simp [SV.beq] at h; rw [h.1, h.2]
  case bool.bool => simp [SV.beq] at h; rw [h]
  case str.str => simp [SV.beq] at h; rw [h]
  case ptr.ptr => simp [SV.beq] at h; rw [h.1.1, h.1.2, h.2]
  case sl.sl => simp [SV.beq] at h; rw [h.1.1.1, h.1.1.2, h.1.2, h.2]
  case fn.fn => simp [SV.beq] at h; rw [h.1, h.2]
  case lst.lst => simp [SV.beq] at h; rw [h.1, SV.of_beqss h.2]
  case fptr.fptr => simp [SV.beq] at h; rw [SV.of_beqs h.1, h.2]
theorem SV.of_beqs : ∀ {x y : List SV}, SV.beqs x y = true → x = y
  | [], [], _ => rfl
  | x :: l, y :: l', h => by simp only [SV.beqs, Bool.and_eq_true] at h; rw [SV.of_beq h.1, SV.of_beqs h.2]
  | [], _ :: _, h => by simp [SV.beqs] at h
  | _ :: _, [], h => by simp [SV.beqs] at h
theorem SV.of_beqss : ∀ {x y : List (List SV)}, SV.beqss x y = true → x = y
  | [], [], _ => rfl
  | x :: l, y :: l', h => by simp only [SV.beqss, Bool.and_eq_true] at h; rw [SV.of_beqs h.1, SV.of_beqss h.2]
  | [], _ :: _, h => by simp [SV.beqss] at h
  | _ :: _, [], h => by simp [SV.beqss] at h
end
mutual
theorem SV.beq_self : ∀ (x : SV), SV.beq x x = true := by
  intro x
  cases x <;> simp [SV.beq]
  case lst => exact SV.beqss_self _
  case fptr => exact SV.beqs_self _
theorem SV.beqs_self : ∀ (x : List SV), SV.beqs x x = true
  | [] => rfl
  | x :: l => by simp [SV.beqs, SV.beq_self x, SV.beqs_self l]
theorem SV.beqss_self : ∀ (x : List (List SV)), SV.beqss x x = true
  | [] => rfl
  | x :: l => by simp [SV.beqss, SV.beqs_self x, SV.beqss_self l]
end
instance : DecidableEq SV := fun x y => if h : SV.beq x y = true then .isTrue (SV.of_beq h) else .isFalse fun e => h (by rw [e]; exact SV.beq_self y)

inductive AV where
  | no
  | s (x : SV)
  | agg (l : List SV)
  | tup (l : List AV)
  deriving Inhabited

/-- A block of one's own: elements of so many cells. -/
structure Blk where
  sz : Nat
  ty : TypeId
  rows : List (List SV)

structure AHeap where
  get : Nat → Option Blk
  nx : Nat
  /-- A block whose room is known, and how many elements it has room for. -/
  full : Option (Nat × Nat)

/-- Where a block lies: from an offset on, room for so many elements, of so many cells each. -/
structure Place where
  blk : Nat
  off : Nat
  cap : Nat
  sz : Nat

def Place.at (p : Place) (k : Nat) : Addr := ⟨p.blk, p.off + k, none⟩
theorem Place.at_add (p : Place) (k j : Nat) : (p.at k).add j = p.at (k + j) := by
  unfold Place.at Addr.add
  split
  · subst_vars; rfl
  · simp [Nat.add_assoc]
theorem Place.at_block (p : Place) (k : Nat) : (p.at k).block = p.blk := rfl

/-- Where the blocks lie; and what no one changes any more. -/
structure Phi where
  pl : Nat → Option Place
  fz : Nat → Option Obj
instance : CoeFun Phi (fun _ => Nat → Option Place) := ⟨Phi.pl⟩

def ocell : Obj → Nat → Option Value
  | .cells c _ _, i => c[i]?
  | _, _ => none
theorem cell_of_obj {w : World} {b : Nat} {o : Obj} (h : w.heap[b]? = some o) (i : Nat) : w.cell? ⟨b, i, none⟩ = ocell o i := by
  cases o <;> simp [World.cell?, h, ocell]

def PtrAt (φ : Phi) (b i j : Nat) (a : Addr) : Prop := ∃ p, φ b = some p ∧ a = p.at (i * p.sz + j)

inductive PtrsAt (φ : Phi) : List (Nat × Nat × Nat) → List Value → Prop
  | nil : PtrsAt φ [] []
  | cons {b i j a l vs} : PtrAt φ b i j a → PtrsAt φ l vs → PtrsAt φ ((b, i, j) :: l) (.pointer (some a) :: vs)

def SlAt (φ : Phi) (b i n c : Nat) (v : Value) : Prop :=
  ∃ a c' p, v = .slice a n c' ∧ n ≤ c ∧ c ≤ c' ∧ c' ≤ maxLen ∧ φ b = some p ∧ (c' = 0 ∨ a = some (p.at (i * p.sz)) ∧ i + c' = p.cap)

mutual
/-- What is plain, and slices that no one changes any more. -/
def DR (fz : Nat → Option Obj) : SV → Value → Prop
  | .any, v => v.oneCell' = true
  | .int k n, v => v = .int k n
  | .bool b, v => v = .bool b
  | .str s, v => v = .string s
  | .nilp, v => v = .pointer none
  | .nils, v => v = .slice none 0 0
  | .nilf, v => v = .nilFunc
  | .emp, v => ∃ a, v = .slice a 0 0
  | .nemp, v => ∃ a c, v = .slice (some a) 0 c
  | .lst sz rows, v => (rows = [] ∧ ∃ a c, v = .slice a 0 c ∧ c ≤ maxLen ∧ (a = none → c = 0)) ∨ ∃ b off c o, v = .slice (some ⟨b, off, none⟩) rows.length c ∧ rows.length ≤ c ∧ c ≤ maxLen ∧ fz b = some o ∧ DRss fz sz rows o off
  | .fptr row j, v => ∃ b off o, v = .pointer (some ⟨b, off + j, none⟩) ∧ fz b = some o ∧ DRs fz row o off
  | .ptr _ _ _, _ => False
  | .sl _ _ _ _, _ => False
  | .fn _ _, _ => False
def DRs (fz : Nat → Option Obj) : List SV → Obj → Nat → Prop
  | [], _, _ => True
  | x :: l, o, off => (∃ v, ocell o off = some v ∧ DR fz x v) ∧ DRs fz l o (off + 1)
def DRss (fz : Nat → Option Obj) (sz : Nat) : List (List SV) → Obj → Nat → Prop
  | [], _, _ => True
  | r :: l, o, off => (r.length = sz ∧ DRs fz r o off) ∧ DRss fz sz l o (off + sz)
end

def SR (φ : Phi) : SV → Value → Prop
  | .ptr b i j, v => ∃ a, v = .pointer (some a) ∧ PtrAt φ b i j a
  | .sl b i n c, v => SlAt φ b i n c v
  | .fn f caps, v => ∃ cs : Array Value, v = .func (.func f) #[] cs ∧ PtrsAt φ caps cs.toList
  | x, v => DR φ.fz x v

mutual
theorem DR.ext {fz fz' : Nat → Option Obj} (h : ∀ r o, fz r = some o → fz' r = some o) : ∀ {x : SV} {v : Value}, DR fz x v → DR fz' x v := by
  intro x v k
  cases x <;> simp only [DR] at k ⊢ <;> try exact k
  case lst sz rows =>
    rcases k with k | ⟨b, off, c, o, e, h1, h2, h3, h4⟩
    · exact .inl k
    · exact .inr ⟨b, off, c, o, e, h1, h2, h b o h3, DRss.ext h h4⟩
  case fptr row j =>
    obtain ⟨b, off, o, e, h1, h2⟩ := k
    exact ⟨b, off, o, e, h b o h1, DRs.ext h h2⟩
theorem DRs.ext {fz fz' : Nat → Option Obj} (h : ∀ r o, fz r = some o → fz' r = some o) : ∀ {l : List SV} {o : Obj} {off : Nat}, DRs fz l o off → DRs fz' l o off
  | [], _, _, _ => by simp only [DRs]
  | x :: l, o, off, k => by
    simp only [DRs] at k ⊢
    obtain ⟨⟨v, h1, h2⟩, k⟩ := k
    exact ⟨⟨v, h1, DR.ext h h2⟩, DRs.ext h k⟩
theorem DRss.ext {fz fz' : Nat → Option Obj} (h : ∀ r o, fz r = some o → fz' r = some o) {sz : Nat} : ∀ {l : List (List SV)} {o : Obj} {off : Nat}, DRss fz sz l o off → DRss fz' sz l o off
  | [], _, _, _ => by simp only [DRss]
  | r :: l, o, off, k => by
    simp only [DRss] at k ⊢
    exact ⟨⟨k.1.1, DRs.ext h k.1.2⟩, DRss.ext h k.2⟩
end
theorem DR.one {fz : Nat → Option Obj} {x : SV} {v : Value} (h : DR fz x v) : v.oneCell' = true := by
  cases x <;> simp only [DR] at h
  case any => exact h
  case emp => obtain ⟨a, rfl⟩ := h; rfl
  case nemp => obtain ⟨a, c, rfl⟩ := h; rfl
  case lst =>
    rcases h with ⟨_, a, c, rfl, _⟩ | ⟨b, off, c, o, rfl, _⟩ <;> rfl
  case fptr => obtain ⟨b, off, o, rfl, _⟩ := h; rfl
  all_goals first | (subst h; rfl) | exact h.elim
theorem DRs.get {fz : Nat → Option Obj} : ∀ {l : List SV} {o : Obj} {off : Nat}, DRs fz l o off → ∀ (j : Nat) x, l[j]? = some x → ∃ v, ocell o (off + j) = some v ∧ DR fz x v
  | [], _, _, _, j, x, hx => by simp at hx
  | y :: l, o, off, h, j, x, hx => by
    simp only [DRs] at h
    cases j with
    | zero => simp at hx; subst hx; exact h.1
    | succ j =>
      have := DRs.get h.2 j x (by simpa using hx)
      rwa [show off + 1 + j = off + (j + 1) by omega] at this
theorem DRss.get {fz : Nat → Option Obj} {sz : Nat} : ∀ {l : List (List SV)} {o : Obj} {off : Nat}, DRss fz sz l o off → ∀ (i : Nat) r, l[i]? = some r → r.length = sz ∧ DRs fz r o (off + i * sz)
  | [], _, _, _, j, x, hx => by simp at hx
  | y :: l, o, off, h, j, x, hx => by
    simp only [DRss] at h
    cases j with
    | zero => simp at hx; subst hx; simpa using h.1
    | succ j =>
      have := DRss.get h.2 j x (by simpa using hx)
      rwa [show off + sz + j * sz = off + (j + 1) * sz by rw [Nat.add_mul]; omega] at this
theorem DRs.of_get {fz : Nat → Option Obj} : ∀ {l : List SV} {o : Obj} {off : Nat}, (∀ (j : Nat) x, l[j]? = some x → ∃ v, ocell o (off + j) = some v ∧ DR fz x v) → DRs fz l o off
  | [], _, _, _ => by simp only [DRs]
  | y :: l, o, off, h => by
    simp only [DRs]
    refine ⟨h 0 y rfl, DRs.of_get fun j x hx => ?_⟩
    have := h (j + 1) x (by simpa using hx)
    rwa [show off + (j + 1) = off + 1 + j by omega] at this
theorem DRss.of_get {fz : Nat → Option Obj} {sz : Nat} : ∀ {l : List (List SV)} {o : Obj} {off : Nat}, (∀ (i : Nat) r, l[i]? = some r → r.length = sz ∧ DRs fz r o (off + i * sz)) → DRss fz sz l o off
  | [], _, _, _ => by simp only [DRss]
  | y :: l, o, off, h => by
    simp only [DRss]
    refine ⟨by simpa using h 0 y rfl, DRss.of_get fun j x hx => ?_⟩
    have := h (j + 1) x (by simpa using hx)
    rwa [show off + (j + 1) * sz = off + sz + j * sz by rw [Nat.add_mul]; omega] at this
theorem DRss.drop {fz : Nat → Option Obj} {sz : Nat} {l : List (List SV)} {o : Obj} {off : Nat} (h : DRss fz sz l o off) (k : Nat) : DRss fz sz (l.drop k) o (off + k * sz) :=
  DRss.of_get fun i r hr => by
    rw [List.getElem?_drop] at hr
    have := h.get (k + i) r hr
    rwa [Nat.add_mul, ← Nat.add_assoc] at this
theorem DRss.take {fz : Nat → Option Obj} {sz : Nat} {l : List (List SV)} {o : Obj} {off : Nat} (h : DRss fz sz l o off) (k : Nat) : DRss fz sz (l.take k) o off :=
  DRss.of_get fun i r hr => by
    rw [List.getElem?_take] at hr
    split at hr
    · exact h.get i r hr
    · cases hr

structure Ext (φ φ' : Phi) : Prop where
  pl : ∀ b p, φ b = some p → φ' b = some p
  fz : ∀ r o, φ.fz r = some o → φ'.fz r = some o
theorem Ext.refl (φ : Phi) : Ext φ φ := ⟨fun _ _ h => h, fun _ _ h => h⟩
theorem Ext.trans {φ φ1 φ2 : Phi} (h : Ext φ φ1) (k : Ext φ1 φ2) : Ext φ φ2 := ⟨fun b p hb => k.pl b p (h.pl b p hb), fun r o hr => k.fz r o (h.fz r o hr)⟩
theorem PtrAt.ext {φ φ' : Phi} (h : Ext φ φ') {b i j a} (k : PtrAt φ b i j a) : PtrAt φ' b i j a := by
  obtain ⟨p, hp, e⟩ := k; exact ⟨p, h.pl b p hp, e⟩
theorem PtrsAt.ext {φ φ' : Phi} (h : Ext φ φ') {l vs} (k : PtrsAt φ l vs) : PtrsAt φ' l vs := by
  induction k with
  | nil => exact .nil
  | cons hx _ ih => exact .cons (hx.ext h) ih
theorem SlAt.ext {φ φ' : Phi} (h : Ext φ φ') {b i n c v} (k : SlAt φ b i n c v) : SlAt φ' b i n c v := by
  obtain ⟨a, c', p, e, h1, h2, h3, h4, h5⟩ := k
  exact ⟨a, c', p, e, h1, h2, h3, h.pl b p h4, h5⟩
theorem SR.dr {φ : Phi} {x : SV} {v : Value} (h : DR φ.fz x v) : SR φ x v := by
  cases x <;> first | exact h | (simp only [DR] at h)
theorem SR.ext {φ φ' : Phi} (h : Ext φ φ') {x : SV} {v : Value} (k : SR φ x v) : SR φ' x v := by
  cases x <;> simp only [SR] at k ⊢ <;> try exact k.ext h.fz
  case ptr => obtain ⟨a, e, r⟩ := k; exact ⟨a, e, r.ext h⟩
  case sl => exact k.ext h
  case fn => obtain ⟨cs, e, r⟩ := k; exact ⟨cs, e, r.ext h⟩

theorem SR.one {φ : Phi} {x : SV} {v : Value} (h : SR φ x v) : v.oneCell' = true := by
  cases x <;> simp only [SR] at h
  case sl => obtain ⟨a, c', p, rfl, _⟩ := h; rfl
  case ptr => obtain ⟨a, rfl, _⟩ := h; rfl
  case fn => obtain ⟨a, rfl, _⟩ := h; rfl
  all_goals exact h.one

/-- Pointwise. -/
inductive SRs (φ : Phi) : List SV → List Value → Prop
  | nil : SRs φ [] []
  | cons {x v l vs} : SR φ x v → SRs φ l vs → SRs φ (x :: l) (v :: vs)

theorem SRs.length {φ : Phi} {l : List SV} {vs : List Value} (h : SRs φ l vs) : l.length = vs.length := by
  induction h with
  | nil => rfl
  | cons _ _ ih => simp [ih]
theorem SRs.one {φ : Phi} {l : List SV} {vs : List Value} (h : SRs φ l vs) : ∀ v ∈ vs, v.oneCell' = true := by
  induction h with
  | nil => simp
  | cons hx _ ih => intro v hv; rcases List.mem_cons.1 hv with rfl | hv; exact hx.one; exact ih v hv
theorem SRs.append {φ : Phi} {l l' : List SV} {vs vs' : List Value} (h : SRs φ l vs) (h' : SRs φ l' vs') : SRs φ (l ++ l') (vs ++ vs') := by
  induction h with
  | nil => exact h'
  | cons hx _ ih => exact .cons hx ih
theorem SRs.get {φ : Phi} {l : List SV} {vs : List Value} (h : SRs φ l vs) : ∀ (j : Nat) x, l[j]? = some x → ∃ v, vs[j]? = some v ∧ SR φ x v := by
  induction h with
  | nil => intro j x hx; simp at hx
  | cons hx _ ih =>
    intro j x h
    cases j with
    | zero => simp at h; subst h; exact ⟨_, rfl, hx⟩
    | succ j => simp only [List.getElem?_cons_succ] at h ⊢; exact ih j x h
theorem SRs.of_get {φ : Phi} : ∀ {l : List SV} {vs : List Value}, l.length = vs.length → (∀ (j : Nat) x v, l[j]? = some x → vs[j]? = some v → SR φ x v) → SRs φ l vs
  | [], [], _, _ => .nil
  | x :: l, v :: vs, hl, h => .cons (h 0 x v rfl rfl) (SRs.of_get (by simpa using hl) (fun j x v hx hv => h (j + 1) x v (by simpa using hx) (by simpa using hv)))
  | [], _ :: _, hl, _ => by simp at hl
  | _ :: _, [], hl, _ => by simp at hl
theorem SRs.drop {φ : Phi} {l : List SV} {vs : List Value} (h : SRs φ l vs) : ∀ k, SRs φ (l.drop k) (vs.drop k) := by
  induction h with
  | nil => intro k; simp; exact .nil
  | cons hx hr ih => intro k; cases k with | zero => exact .cons hx hr | succ k => exact ih k
theorem SRs.take {φ : Phi} {l : List SV} {vs : List Value} (h : SRs φ l vs) : ∀ k, SRs φ (l.take k) (vs.take k) := by
  induction h with
  | nil => intro k; simp; exact .nil
  | cons hx hr ih => intro k; cases k with | zero => exact .nil | succ k => exact .cons hx (ih k)

theorem SRs.ext {φ φ' : Phi} (h : Ext φ φ') {l vs} (k : SRs φ l vs) : SRs φ' l vs := by
  induction k with
  | nil => exact .nil
  | cons hx _ ih => exact .cons (hx.ext h) ih

def VR0 (φ : Phi) : AV → Value → Prop
  | .no, _ => True
  | .s x, v => SR φ x v
  | .agg l, v => ∃ cs : Array Value, v = .agg cs ∧ SRs φ l cs.toList
  | .tup _, _ => False

inductive VRs0 (φ : Phi) : List AV → List Value → Prop
  | nil : VRs0 φ [] []
  | cons {x v l vs} : VR0 φ x v → VRs0 φ l vs → VRs0 φ (x :: l) (v :: vs)

def VR (φ : Phi) : AV → Value → Prop
  | .tup l, v => ∃ vs : Array Value, v = .tuple vs ∧ VRs0 φ l vs.toList
  | x, v => VR0 φ x v

inductive VRs (φ : Phi) : List AV → List Value → Prop
  | nil : VRs φ [] []
  | cons {x v l vs} : VR φ x v → VRs φ l vs → VRs φ (x :: l) (v :: vs)

theorem VRs.get {φ : Phi} {l : List AV} {vs : List Value} (h : VRs φ l vs) : ∀ j : Nat, VR φ (l.getD j .no) (vs.getD j undef) := by
  induction h with
  | nil => intro j; simp; exact trivial
  | cons hx _ ih =>
    intro j
    cases j with
    | zero => exact hx
    | succ j => simpa using ih j
theorem VRs.length {φ : Phi} {l : List AV} {vs : List Value} (h : VRs φ l vs) : l.length = vs.length := by
  induction h with
  | nil => rfl
  | cons _ _ ih => simp [ih]
theorem VRs0.get {φ : Phi} {l : List AV} {vs : List Value} (h : VRs0 φ l vs) : ∀ (j : Nat) x, l[j]? = some x → ∃ v, vs[j]? = some v ∧ VR0 φ x v := by
  induction h with
  | nil => intro j x h; simp at h
  | cons hx _ ih =>
    intro j x h
    cases j with
    | zero => simp at h; subst h; exact ⟨_, rfl, hx⟩
    | succ j => simp only [List.getElem?_cons_succ] at h ⊢; exact ih j x h
theorem VR.of0 {φ : Phi} {x : AV} {v : Value} (h : VR0 φ x v) : VR φ x v := by
  cases x <;> first | exact h | exact h.elim

theorem VR0.ext {φ φ' : Phi} (h : Ext φ φ') {x : AV} {v : Value} (k : VR0 φ x v) : VR0 φ' x v := by
  cases x with
  | no => trivial
  | s x => exact SR.ext h k
  | agg l => obtain ⟨cs, e, r⟩ := k; exact ⟨cs, e, r.ext h⟩
  | tup l => exact k
theorem VRs0.ext {φ φ' : Phi} (h : Ext φ φ') {l vs} (k : VRs0 φ l vs) : VRs0 φ' l vs := by
  induction k with
  | nil => exact .nil
  | cons hx _ ih => exact .cons (hx.ext h) ih
theorem VR.ext {φ φ' : Phi} (h : Ext φ φ') {x : AV} {v : Value} (k : VR φ x v) : VR φ' x v := by
  cases x with
  | no => trivial
  | s x => exact VR0.ext h (x := .s x) k
  | agg l => exact VR0.ext h (x := .agg l) k
  | tup l => obtain ⟨vs, e, r⟩ := k; exact ⟨vs, e, r.ext h⟩
theorem VRs.ext {φ φ' : Phi} (h : Ext φ φ') {l vs} (k : VRs φ l vs) : VRs φ' l vs := by
  induction k with
  | nil => exact .nil
  | cons hx _ ih => exact .cons (hx.ext h) ih

/-- The cells of an element as they stand in memory. -/
def RowAt (φ : Phi) (w : World) (p : Place) (sz i : Nat) (r : List SV) : Prop :=
  r.length = sz ∧ ∀ j x, r[j]? = some x → ∃ v, w.cell? (p.at (i * sz + j)) = some v ∧ SR φ x v

structure BlkOk (φ : Phi) (base : Nat) (w : World) (p : Place) (k : Blk) : Prop where
  sz : p.sz = k.sz
  rows : ∀ i r, k.rows[i]? = some r → RowAt φ w p k.sz i r
  own : (k.rows = [] ∧ p.cap = 0) ∨ (p.off = 0 ∧ base ≤ p.blk ∧ k.rows.length ≤ p.cap ∧ p.cap ≤ maxLen ∧ ∃ cells, w.heap[p.blk]? = some (.cells cells k.ty (0, 0)) ∧ cells.size = p.cap * k.sz)

/-- The blocks that are H's own, as the world numbers them. -/
def Mine (φ : Phi) (H : AHeap) (r : Nat) : Prop := ∃ b k p, H.get b = some k ∧ φ b = some p ∧ p.cap ≠ 0 ∧ p.blk = r

structure Rel (φ : Phi) (base : Nat) (H : AHeap) (w : World) : Prop where
  blk : ∀ b k, H.get b = some k → ∃ p, φ b = some p ∧ BlkOk φ base w p k
  inj : ∀ b b' k k' p p', H.get b = some k → H.get b' = some k' → φ b = some p → φ b' = some p' → p.cap ≠ 0 → p'.cap ≠ 0 → p.blk = p'.blk → b = b'
  new : ∀ b, H.nx ≤ b → H.get b = none ∧ φ b = none
  base : base ≤ w.heap.size
  fz : ∀ r o, φ.fz r = some o → w.heap[r]? = some o ∧ ¬ Mine φ H r
  full : ∀ b F, H.full = some (b, F) → ∃ p, φ b = some p ∧ p.cap = F := by exact fun b F h => nomatch (show (none : Option (Nat × Nat)) = some (b, F) from h)

theorem nofull {H : AHeap} {φ : Phi} (h : H.full = none) : ∀ b F, H.full = some (b, F) → ∃ p, φ b = some p ∧ p.cap = F := fun b F h' => by rw [h] at h'; cases h'

/-- What a piece of code does to a world, seen over H. -/
structure Goes (φ : Phi) (base : Nat) (H : AHeap) (w : World) (φ' : Phi) (H' : AHeap) (w' : World) : Prop where
  rel : Rel φ' base H' w'
  nx : H.nx ≤ H'.nx
  ext : Ext φ φ'
  below : Below base w w'
  kept : ∀ r, r < w.heap.size → ¬ Mine φ H r → w'.heap[r]? = w.heap[r]?
  mine : ∀ r, Mine φ' H' r → w.heap.size ≤ r ∨ Mine φ H r
  fzn : ∀ r o, φ'.fz r = some o → φ.fz r = some o ∨ w.heap.size ≤ r ∨ Mine φ H r

theorem Goes.refl {φ : Phi} {base : Nat} {H : AHeap} {w : World} (h : Rel φ base H w) : Goes φ base H w φ H w :=
  ⟨h, Nat.le_refl _, Ext.refl _, Below.refl _ _, fun _ _ _ => rfl, fun _ h => .inr h, fun _ _ h => .inl h⟩
theorem Goes.trans {φ φ1 φ2 : Phi} {base : Nat} {H H1 H2 : AHeap} {w w1 w2 : World} (h : Goes φ base H w φ1 H1 w1) (k : Goes φ1 base H1 w1 φ2 H2 w2) : Goes φ base H w φ2 H2 w2 where
  rel := k.rel
  nx := Nat.le_trans h.nx k.nx
  ext := h.ext.trans k.ext
  below := h.below.trans k.below
  kept := fun r hr hm => by
    have h1 := h.kept r hr hm
    have hr' : r < w1.heap.size := Nat.lt_of_lt_of_le hr h.below.size
    rw [k.kept r hr' (fun hm' => (h.mine r hm').elim (fun he => by omega) hm), h1]
  mine := fun r hr => (k.mine r hr).elim (fun he => .inl (Nat.le_trans h.below.size he)) (fun hm => h.mine r hm)
  fzn := fun r o hr => (k.fzn r o hr).elim (fun hf => h.fzn r o hf) fun hf => .inr (hf.elim (fun he => .inl (Nat.le_trans h.below.size he)) fun hm => h.mine r hm)

/-- A draw changes nothing that is seen. -/
theorem Rel.congr {φ : Phi} {base : Nat} {H : AHeap} {w w' : World} (h : Rel φ base H w) (e : w'.heap = w.heap) : Rel φ base H w' where
  blk := fun b k hb => by
    obtain ⟨p, hp, h1⟩ := h.blk b k hb
    refine ⟨p, hp, ⟨h1.sz, fun i r hr => ?_, by rw [e]; exact h1.own⟩⟩
    obtain ⟨hl, hc⟩ := h1.rows i r hr
    refine ⟨hl, fun j x hx => ?_⟩
    obtain ⟨v, hv, hr⟩ := hc j x hx
    exact ⟨v, by simpa [World.cell?, e] using hv, hr⟩
  inj := h.inj
  new := h.new
  base := by rw [e]; exact h.base
  fz := by rw [e]; exact h.fz
  full := h.full

/-! ### The frame: places and what they hold -/
abbrev Fr := List (Nat × AV)
def fget : List (Nat × AV) → Nat → AV
  | [], _ => .no
  | (t, v) :: l, u => if t = u then v else fget l u
def FR (φ : Phi) (N : Nat) (f : List (Nat × AV)) (a : Act) : Prop :=
  a.tmps.size = N ∧ a.defers = [] ∧ ∀ t, VR φ (fget f t) (a.tmps.getD t undef)

theorem FR.put {φ : Phi} {N : Nat} {f : List (Nat × AV)} {a : Act} (h : FR φ N f a) {t : Nat} (ht : t < N) {x : AV} {v : Value} (hv : VR φ x v) : FR φ N ((t, x) :: f) (a.put (some t) v) := by
  obtain ⟨h1, h2, h3⟩ := h
  refine ⟨by simp [Act.put, h1], h2, fun u => ?_⟩
  have hg : (a.put (some t) v).tmps.getD u undef = if t = u then v else a.tmps.getD u undef := by
    simp only [Act.put, Array.getD_eq_getD_getElem?, Array.getElem?_setIfInBounds]
    split <;> simp_all
  rw [hg]
  unfold fget
  split
  · exact hv
  · exact h3 u
theorem FR.put_none {φ : Phi} {N : Nat} {f : List (Nat × AV)} {a : Act} (h : FR φ N f a) {v : Value} : FR φ N f (a.put none v) := h

theorem FR.ext {φ φ' : Phi} (e : Ext φ φ') {N : Nat} {f : List (Nat × AV)} {a : Act} (h : FR φ N f a) : FR φ' N f a := ⟨h.1, h.2.1, fun t => (h.2.2 t).ext e⟩

/-- What is kept of a frame. -/
def fkeep (ks : List Nat) (f : List (Nat × AV)) : List (Nat × AV) := ks.map fun t => (t, fget f t)
theorem fget_keep (ks : List Nat) (f : List (Nat × AV)) (u : Nat) : fget (fkeep ks f) u = fget f u ∨ fget (fkeep ks f) u = .no := by
  induction ks with
  | nil => exact .inr rfl
  | cons t ks ih =>
    simp only [fkeep, List.map_cons, fget]
    split
    · subst_vars; exact .inl rfl
    · exact ih
theorem VR_no {φ : Phi} {v : Value} : VR φ .no v := trivial
theorem FR.keep {φ : Phi} {N : Nat} {f : List (Nat × AV)} {a : Act} (h : FR φ N f a) (ks : List Nat) : FR φ N (fkeep ks f) a :=
  ⟨h.1, h.2.1, fun u => by rcases fget_keep ks f u with e | e <;> rw [e]; exact h.2.2 u; exact VR_no⟩

end Go.Proofs.Ytmfiegjncfgohaa.Den
