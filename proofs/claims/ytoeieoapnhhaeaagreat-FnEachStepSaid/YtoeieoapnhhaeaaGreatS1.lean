/- Lemmas for the law FnEachStep, part 1. No condition. -/
import Derived.Below
import Derived.Calls
import Derived.Control
import Derived.KernelRfl
import Derived.Laws.Append
import Derived.Laws.AppendOwn
import Derived.Laws.AppendOwnNone
import Derived.Laws.BytesString
import Derived.Laws.Cells
import Derived.Laws.CopyRow
import Derived.Laws.Entries
import Derived.Laws.MakeOwn
import Derived.Laws.Rows
import Derived.Laws.Sem
import Derived.Laws.Slices
import Derived.Laws.Small
import Derived.Laws.StructEq
import Derived.Laws.Tables
import Derived.Laws.Unary
import Derived.Lib.AppendZerosOnto
import Derived.Lib.SliceRun
import Derived.Orders
import Derived.WalkSpells
namespace Go.Proofs.YtoeieoapnhhaeaaGreat.Den
open Go.RowKit
set_option linter.unusedVariables false
inductive SV where
  | any
  | int (k : IntKind) (n : Int)
  | bool (b : Bool)
  | str (s : ByteArray)
  | nilp
  | ptr (b i j : Nat)
  | nils
  | sl (b i n c : Nat)
  | nilf
  | fn (f : Nat) (caps : List (Nat × Nat × Nat))

  | emp

  | nemp

  | lst (sz : Nat) (rows : List (List SV))

  | fptr (row : List SV) (j : Nat)
  deriving Inhabited
mutual
def SV.beq : SV → SV → Bool
  | .any, .any => true
  | .int k n, .int k' n' => decide (k = k') && decide (n = n')
  | .bool b, .bool b' => b == b'
  | .str s, .str s' => decide (s = s')
  | .nilp, .nilp => true
  | .ptr b i j, .ptr b' i' j' => b == b' && i == i' && j == j'
  | .nils, .nils => true
  | .sl b i n c, .sl b' i' n' c' => b == b' && i == i' && n == n' && c == c'
  | .nilf, .nilf => true
  | .fn f cs, .fn f' cs' => f == f' && decide (cs = cs')
  | .emp, .emp => true
  | .nemp, .nemp => true
  | .lst s r, .lst s' r' => s == s' && SV.beqss r r'
  | .fptr r j, .fptr r' j' => SV.beqs r r' && j == j'
  | _, _ => false
def SV.beqs : List SV → List SV → Bool
  | [], [] => true
  | x :: l, y :: l' => SV.beq x y && SV.beqs l l'
  | _, _ => false
def SV.beqss : List (List SV) → List (List SV) → Bool
  | [], [] => true
  | x :: l, y :: l' => SV.beqs x y && SV.beqss l l'
  | _, _ => false
end
mutual
theorem SV.of_beq : ∀ {x y : SV}, SV.beq x y = true → x = y := by
  intro x y h
  cases x <;> cases y <;> first | rfl | (simp [SV.beq] at h; done) | skip
  case int.int => simp [SV.beq] at h; rw [h.1, h.2]
  case bool.bool => simp [SV.beq] at h; rw [h]
  case str.str => simp [SV.beq] at h; rw [h]
  case ptr.ptr => simp [SV.beq] at h; rw [h.1.1, h.1.2, h.2]
  case sl.sl => simp [SV.beq] at h; rw [h.1.1.1, h.1.1.2, h.1.2, h.2]
  case fn.fn => simp [SV.beq] at h; rw [h.1, h.2]
  case lst.lst => simp [SV.beq] at h; rw [h.1, SV.of_beqss h.2]
  case fptr.fptr => simp [SV.beq] at h; rw [SV.of_beqs h.1, h.2]
theorem SV.of_beqs : ∀ {x y : List SV}, SV.beqs x y = true → x = y
  | [], [], _ => rfl
  | x :: l, y :: l', h => by simp only [SV.beqs, Bool.and_eq_true] at h; rw [SV.of_beq h.1, SV.of_beqs h.2]
  | [], _ :: _, h => by simp [SV.beqs] at h
  | _ :: _, [], h => by simp [SV.beqs] at h
theorem SV.of_beqss : ∀ {x y : List (List SV)}, SV.beqss x y = true → x = y
  | [], [], _ => rfl
  | x :: l, y :: l', h => by simp only [SV.beqss, Bool.and_eq_true] at h; rw [SV.of_beqs h.1, SV.of_beqss h.2]
  | [], _ :: _, h => by simp [SV.beqss] at h
  | _ :: _, [], h => by simp [SV.beqss] at h
end
mutual
theorem SV.beq_self : ∀ (x : SV), SV.beq x x = true := by
  intro x
  cases x <;> simp [SV.beq]
  case lst => exact SV.beqss_self _
  case fptr => exact SV.beqs_self _
theorem SV.beqs_self : ∀ (x : List SV), SV.beqs x x = true
  | [] => rfl
  | x :: l => by simp [SV.beqs, SV.beq_self x, SV.beqs_self l]
theorem SV.beqss_self : ∀ (x : List (List SV)), SV.beqss x x = true
  | [] => rfl
  | x :: l => by simp [SV.beqss, SV.beqs_self x, SV.beqss_self l]
end
instance : DecidableEq SV := fun x y => if h : SV.beq x y = true then .isTrue (SV.of_beq h) else .isFalse fun e => h (by rw [e]; exact SV.beq_self y)
inductive AV where
  | no
  | s (x : SV)
  | agg (l : List SV)
  | tup (l : List AV)
  deriving Inhabited
structure Blk where
  sz : Nat
  ty : TypeId
  rows : List (List SV)
structure AHeap where
  get : Nat → Option Blk
  nx : Nat

  full : Option (Nat × Nat)
structure Place where
  blk : Nat
  off : Nat
  cap : Nat
  sz : Nat
def Place.at (p : Place) (k : Nat) : Addr := ⟨p.blk, p.off + k, none⟩
theorem Place.at_add (p : Place) (k j : Nat) : (p.at k).add j = p.at (k + j) := by
  unfold Place.at Addr.add
  split
  · subst_vars; rfl
  · simp [Nat.add_assoc]
structure Phi where
  pl : Nat → Option Place
  fz : Nat → Option Obj
instance : CoeFun Phi (fun _ => Nat → Option Place) := ⟨Phi.pl⟩
def ocell : Obj → Nat → Option Value
  | .cells c _ _, i => c[i]?
  | _, _ => none
theorem cell_of_obj {w : World} {b : Nat} {o : Obj} (h : w.heap[b]? = some o) (i : Nat) : w.cell? ⟨b, i, none⟩ = ocell o i := by
  cases o <;> simp [World.cell?, h, ocell]
def PtrAt (φ : Phi) (b i j : Nat) (a : Addr) : Prop := ∃ p, φ b = some p ∧ a = p.at (i * p.sz + j)
inductive PtrsAt (φ : Phi) : List (Nat × Nat × Nat) → List Value → Prop
  | nil : PtrsAt φ [] []
  | cons {b i j a l vs} : PtrAt φ b i j a → PtrsAt φ l vs → PtrsAt φ ((b, i, j) :: l) (.pointer (some a) :: vs)
def SlAt (φ : Phi) (b i n c : Nat) (v : Value) : Prop :=
  ∃ a c' p, v = .slice a n c' ∧ n ≤ c ∧ c ≤ c' ∧ c' ≤ maxLen ∧ φ b = some p ∧ (c' = 0 ∨ a = some (p.at (i * p.sz)) ∧ i + c' = p.cap)
mutual

def DR (fz : Nat → Option Obj) : SV → Value → Prop
  | .any, v => v.oneCell' = true
  | .int k n, v => v = .int k n
  | .bool b, v => v = .bool b
  | .str s, v => v = .string s
  | .nilp, v => v = .pointer none
  | .nils, v => v = .slice none 0 0
  | .nilf, v => v = .nilFunc
  | .emp, v => ∃ a, v = .slice a 0 0
  | .nemp, v => ∃ a c, v = .slice (some a) 0 c
  | .lst sz rows, v => (rows = [] ∧ ∃ a c, v = .slice a 0 c ∧ c ≤ maxLen ∧ (a = none → c = 0)) ∨ ∃ b off c o, v = .slice (some ⟨b, off, none⟩) rows.length c ∧ rows.length ≤ c ∧ c ≤ maxLen ∧ fz b = some o ∧ DRss fz sz rows o off
  | .fptr row j, v => ∃ b off o, v = .pointer (some ⟨b, off + j, none⟩) ∧ fz b = some o ∧ DRs fz row o off
  | .ptr _ _ _, _ => False
  | .sl _ _ _ _, _ => False
  | .fn _ _, _ => False
def DRs (fz : Nat → Option Obj) : List SV → Obj → Nat → Prop
  | [], _, _ => True
  | x :: l, o, off => (∃ v, ocell o off = some v ∧ DR fz x v) ∧ DRs fz l o (off + 1)
def DRss (fz : Nat → Option Obj) (sz : Nat) : List (List SV) → Obj → Nat → Prop
  | [], _, _ => True
  | r :: l, o, off => (r.length = sz ∧ DRs fz r o off) ∧ DRss fz sz l o (off + sz)
end
def SR (φ : Phi) : SV → Value → Prop
  | .ptr b i j, v => ∃ a, v = .pointer (some a) ∧ PtrAt φ b i j a
  | .sl b i n c, v => SlAt φ b i n c v
  | .fn f caps, v => ∃ cs : Array Value, v = .func (.func f) #[] cs ∧ PtrsAt φ caps cs.toList
  | x, v => DR φ.fz x v
mutual
theorem DR.ext {fz fz' : Nat → Option Obj} (h : ∀ r o, fz r = some o → fz' r = some o) : ∀ {x : SV} {v : Value}, DR fz x v → DR fz' x v := by
  intro x v k
  cases x <;> simp only [DR] at k ⊢ <;> try exact k
  case lst sz rows =>
    rcases k with k | ⟨b, off, c, o, e, h1, h2, h3, h4⟩
    · exact .inl k
    · exact .inr ⟨b, off, c, o, e, h1, h2, h b o h3, DRss.ext h h4⟩
  case fptr row j =>
    obtain ⟨b, off, o, e, h1, h2⟩ := k
    exact ⟨b, off, o, e, h b o h1, DRs.ext h h2⟩
theorem DRs.ext {fz fz' : Nat → Option Obj} (h : ∀ r o, fz r = some o → fz' r = some o) : ∀ {l : List SV} {o : Obj} {off : Nat}, DRs fz l o off → DRs fz' l o off
  | [], _, _, _ => by simp only [DRs]
  | x :: l, o, off, k => by
    simp only [DRs] at k ⊢
    obtain ⟨⟨v, h1, h2⟩, k⟩ := k
    exact ⟨⟨v, h1, DR.ext h h2⟩, DRs.ext h k⟩
theorem DRss.ext {fz fz' : Nat → Option Obj} (h : ∀ r o, fz r = some o → fz' r = some o) {sz : Nat} : ∀ {l : List (List SV)} {o : Obj} {off : Nat}, DRss fz sz l o off → DRss fz' sz l o off
  | [], _, _, _ => by simp only [DRss]
  | r :: l, o, off, k => by
    simp only [DRss] at k ⊢
    exact ⟨⟨k.1.1, DRs.ext h k.1.2⟩, DRss.ext h k.2⟩
end
theorem DR.one {fz : Nat → Option Obj} {x : SV} {v : Value} (h : DR fz x v) : v.oneCell' = true := by
  cases x <;> simp only [DR] at h
  case any => exact h
  case emp => obtain ⟨a, rfl⟩ := h; rfl
  case nemp => obtain ⟨a, c, rfl⟩ := h; rfl
  case lst =>
    rcases h with ⟨_, a, c, rfl, _⟩ | ⟨b, off, c, o, rfl, _⟩ <;> rfl
  case fptr => obtain ⟨b, off, o, rfl, _⟩ := h; rfl
  all_goals first | (subst h; rfl) | exact h.elim
theorem DRs.get {fz : Nat → Option Obj} : ∀ {l : List SV} {o : Obj} {off : Nat}, DRs fz l o off → ∀ (j : Nat) x, l[j]? = some x → ∃ v, ocell o (off + j) = some v ∧ DR fz x v
  | [], _, _, _, j, x, hx => by simp at hx
  | y :: l, o, off, h, j, x, hx => by
    simp only [DRs] at h
    cases j with
    | zero => simp at hx; subst hx; exact h.1
    | succ j =>
      have := DRs.get h.2 j x (by simpa using hx)
      rwa [show off + 1 + j = off + (j + 1) by omega] at this
theorem DRss.get {fz : Nat → Option Obj} {sz : Nat} : ∀ {l : List (List SV)} {o : Obj} {off : Nat}, DRss fz sz l o off → ∀ (i : Nat) r, l[i]? = some r → r.length = sz ∧ DRs fz r o (off + i * sz)
  | [], _, _, _, j, x, hx => by simp at hx
  | y :: l, o, off, h, j, x, hx => by
    simp only [DRss] at h
    cases j with
    | zero => simp at hx; subst hx; simpa using h.1
    | succ j =>
      have := DRss.get h.2 j x (by simpa using hx)
      rwa [show off + sz + j * sz = off + (j + 1) * sz by rw [Nat.add_mul]; omega] at this
theorem DRs.of_get {fz : Nat → Option Obj} : ∀ {l : List SV} {o : Obj} {off : Nat}, (∀ (j : Nat) x, l[j]? = some x → ∃ v, ocell o (off + j) = some v ∧ DR fz x v) → DRs fz l o off
  | [], _, _, _ => by simp only [DRs]
  | y :: l, o, off, h => by
    simp only [DRs]
    refine ⟨h 0 y rfl, DRs.of_get fun j x hx => ?_⟩
    have := h (j + 1) x (by simpa using hx)
    rwa [show off + (j + 1) = off + 1 + j by omega] at this
theorem DRss.of_get {fz : Nat → Option Obj} {sz : Nat} : ∀ {l : List (List SV)} {o : Obj} {off : Nat}, (∀ (i : Nat) r, l[i]? = some r → r.length = sz ∧ DRs fz r o (off + i * sz)) → DRss fz sz l o off
  | [], _, _, _ => by simp only [DRss]
  | y :: l, o, off, h => by
    simp only [DRss]
    refine ⟨by simpa using h 0 y rfl, DRss.of_get fun j x hx => ?_⟩
    have := h (j + 1) x (by simpa using hx)
    rwa [show off + (j + 1) * sz = off + sz + j * sz by rw [Nat.add_mul]; omega] at this
theorem DRss.drop {fz : Nat → Option Obj} {sz : Nat} {l : List (List SV)} {o : Obj} {off : Nat} (h : DRss fz sz l o off) (k : Nat) : DRss fz sz (l.drop k) o (off + k * sz) :=
  DRss.of_get fun i r hr => by
    rw [List.getElem?_drop] at hr
    have := h.get (k + i) r hr
    rwa [Nat.add_mul, ← Nat.add_assoc] at this
theorem DRss.take {fz : Nat → Option Obj} {sz : Nat} {l : List (List SV)} {o : Obj} {off : Nat} (h : DRss fz sz l o off) (k : Nat) : DRss fz sz (l.take k) o off :=
  DRss.of_get fun i r hr => by
    rw [List.getElem?_take] at hr
    split at hr
    · exact h.get i r hr
    · cases hr
structure Ext (φ φ' : Phi) : Prop where
  pl : ∀ b p, φ b = some p → φ' b = some p
  fz : ∀ r o, φ.fz r = some o → φ'.fz r = some o
theorem Ext.refl (φ : Phi) : Ext φ φ := ⟨fun _ _ h => h, fun _ _ h => h⟩
theorem Ext.trans {φ φ1 φ2 : Phi} (h : Ext φ φ1) (k : Ext φ1 φ2) : Ext φ φ2 := ⟨fun b p hb => k.pl b p (h.pl b p hb), fun r o hr => k.fz r o (h.fz r o hr)⟩
theorem PtrAt.ext {φ φ' : Phi} (h : Ext φ φ') {b i j a} (k : PtrAt φ b i j a) : PtrAt φ' b i j a := by
  obtain ⟨p, hp, e⟩ := k; exact ⟨p, h.pl b p hp, e⟩
theorem PtrsAt.ext {φ φ' : Phi} (h : Ext φ φ') {l vs} (k : PtrsAt φ l vs) : PtrsAt φ' l vs := by
  induction k with
  | nil => exact .nil
  | cons hx _ ih => exact .cons (hx.ext h) ih
theorem SlAt.ext {φ φ' : Phi} (h : Ext φ φ') {b i n c v} (k : SlAt φ b i n c v) : SlAt φ' b i n c v := by
  obtain ⟨a, c', p, e, h1, h2, h3, h4, h5⟩ := k
  exact ⟨a, c', p, e, h1, h2, h3, h.pl b p h4, h5⟩
theorem SR.dr {φ : Phi} {x : SV} {v : Value} (h : DR φ.fz x v) : SR φ x v := by
  cases x <;> first | exact h | (simp only [DR] at h)
theorem SR.ext {φ φ' : Phi} (h : Ext φ φ') {x : SV} {v : Value} (k : SR φ x v) : SR φ' x v := by
  cases x <;> simp only [SR] at k ⊢ <;> try exact k.ext h.fz
  case ptr => obtain ⟨a, e, r⟩ := k; exact ⟨a, e, r.ext h⟩
  case sl => exact k.ext h
  case fn => obtain ⟨cs, e, r⟩ := k; exact ⟨cs, e, r.ext h⟩
theorem SR.one {φ : Phi} {x : SV} {v : Value} (h : SR φ x v) : v.oneCell' = true := by
  cases x <;> simp only [SR] at h
  case sl => obtain ⟨a, c', p, rfl, _⟩ := h; rfl
  case ptr => obtain ⟨a, rfl, _⟩ := h; rfl
  case fn => obtain ⟨a, rfl, _⟩ := h; rfl
  all_goals exact h.one
inductive SRs (φ : Phi) : List SV → List Value → Prop
  | nil : SRs φ [] []
  | cons {x v l vs} : SR φ x v → SRs φ l vs → SRs φ (x :: l) (v :: vs)
theorem SRs.length {φ : Phi} {l : List SV} {vs : List Value} (h : SRs φ l vs) : l.length = vs.length := by
  induction h with
  | nil => rfl
  | cons _ _ ih => simp [ih]
theorem SRs.one {φ : Phi} {l : List SV} {vs : List Value} (h : SRs φ l vs) : ∀ v ∈ vs, v.oneCell' = true := by
  induction h with
  | nil => simp
  | cons hx _ ih => intro v hv; rcases List.mem_cons.1 hv with rfl | hv; exact hx.one; exact ih v hv
theorem SRs.append {φ : Phi} {l l' : List SV} {vs vs' : List Value} (h : SRs φ l vs) (h' : SRs φ l' vs') : SRs φ (l ++ l') (vs ++ vs') := by
  induction h with
  | nil => exact h'
  | cons hx _ ih => exact .cons hx ih
theorem SRs.get {φ : Phi} {l : List SV} {vs : List Value} (h : SRs φ l vs) : ∀ (j : Nat) x, l[j]? = some x → ∃ v, vs[j]? = some v ∧ SR φ x v := by
  induction h with
  | nil => intro j x hx; simp at hx
  | cons hx _ ih =>
    intro j x h
    cases j with
    | zero => simp at h; subst h; exact ⟨_, rfl, hx⟩
    | succ j => simp only [List.getElem?_cons_succ] at h ⊢; exact ih j x h
theorem SRs.of_get {φ : Phi} : ∀ {l : List SV} {vs : List Value}, l.length = vs.length → (∀ (j : Nat) x v, l[j]? = some x → vs[j]? = some v → SR φ x v) → SRs φ l vs
  | [], [], _, _ => .nil
  | x :: l, v :: vs, hl, h => .cons (h 0 x v rfl rfl) (SRs.of_get (by simpa using hl) (fun j x v hx hv => h (j + 1) x v (by simpa using hx) (by simpa using hv)))
  | [], _ :: _, hl, _ => by simp at hl
  | _ :: _, [], hl, _ => by simp at hl
theorem SRs.drop {φ : Phi} {l : List SV} {vs : List Value} (h : SRs φ l vs) : ∀ k, SRs φ (l.drop k) (vs.drop k) := by
  induction h with
  | nil => intro k; simp; exact .nil
  | cons hx hr ih => intro k; cases k with | zero => exact .cons hx hr | succ k => exact ih k
theorem SRs.take {φ : Phi} {l : List SV} {vs : List Value} (h : SRs φ l vs) : ∀ k, SRs φ (l.take k) (vs.take k) := by
  induction h with
  | nil => intro k; simp; exact .nil
  | cons hx hr ih => intro k; cases k with | zero => exact .nil | succ k => exact .cons hx (ih k)
theorem SRs.ext {φ φ' : Phi} (h : Ext φ φ') {l vs} (k : SRs φ l vs) : SRs φ' l vs := by
  induction k with
  | nil => exact .nil
  | cons hx _ ih => exact .cons (hx.ext h) ih
def VR0 (φ : Phi) : AV → Value → Prop
  | .no, _ => True
  | .s x, v => SR φ x v
  | .agg l, v => ∃ cs : Array Value, v = .agg cs ∧ SRs φ l cs.toList
  | .tup _, _ => False
inductive VRs0 (φ : Phi) : List AV → List Value → Prop
  | nil : VRs0 φ [] []
  | cons {x v l vs} : VR0 φ x v → VRs0 φ l vs → VRs0 φ (x :: l) (v :: vs)
def VR (φ : Phi) : AV → Value → Prop
  | .tup l, v => ∃ vs : Array Value, v = .tuple vs ∧ VRs0 φ l vs.toList
  | x, v => VR0 φ x v
inductive VRs (φ : Phi) : List AV → List Value → Prop
  | nil : VRs φ [] []
  | cons {x v l vs} : VR φ x v → VRs φ l vs → VRs φ (x :: l) (v :: vs)
theorem VRs.get {φ : Phi} {l : List AV} {vs : List Value} (h : VRs φ l vs) : ∀ j : Nat, VR φ (l.getD j .no) (vs.getD j undef) := by
  induction h with
  | nil => intro j; simp; exact trivial
  | cons hx _ ih =>
    intro j
    cases j with
    | zero => exact hx
    | succ j => simpa using ih j
theorem VRs.length {φ : Phi} {l : List AV} {vs : List Value} (h : VRs φ l vs) : l.length = vs.length := by
  induction h with
  | nil => rfl
  | cons _ _ ih => simp [ih]
theorem VRs0.get {φ : Phi} {l : List AV} {vs : List Value} (h : VRs0 φ l vs) : ∀ (j : Nat) x, l[j]? = some x → ∃ v, vs[j]? = some v ∧ VR0 φ x v := by
  induction h with
  | nil => intro j x h; simp at h
  | cons hx _ ih =>
    intro j x h
    cases j with
    | zero => simp at h; subst h; exact ⟨_, rfl, hx⟩
    | succ j => simp only [List.getElem?_cons_succ] at h ⊢; exact ih j x h
theorem VR.of0 {φ : Phi} {x : AV} {v : Value} (h : VR0 φ x v) : VR φ x v := by
  cases x <;> first | exact h | exact h.elim
theorem VR0.ext {φ φ' : Phi} (h : Ext φ φ') {x : AV} {v : Value} (k : VR0 φ x v) : VR0 φ' x v := by
  cases x with
  | no => trivial
  | s x => exact SR.ext h k
  | agg l => obtain ⟨cs, e, r⟩ := k; exact ⟨cs, e, r.ext h⟩
  | tup l => exact k
theorem VRs0.ext {φ φ' : Phi} (h : Ext φ φ') {l vs} (k : VRs0 φ l vs) : VRs0 φ' l vs := by
  induction k with
  | nil => exact .nil
  | cons hx _ ih => exact .cons (hx.ext h) ih
theorem VR.ext {φ φ' : Phi} (h : Ext φ φ') {x : AV} {v : Value} (k : VR φ x v) : VR φ' x v := by
  cases x with
  | no => trivial
  | s x => exact VR0.ext h (x := .s x) k
  | agg l => exact VR0.ext h (x := .agg l) k
  | tup l => obtain ⟨vs, e, r⟩ := k; exact ⟨vs, e, r.ext h⟩
theorem VRs.ext {φ φ' : Phi} (h : Ext φ φ') {l vs} (k : VRs φ l vs) : VRs φ' l vs := by
  induction k with
  | nil => exact .nil
  | cons hx _ ih => exact .cons (hx.ext h) ih
def RowAt (φ : Phi) (w : World) (p : Place) (sz i : Nat) (r : List SV) : Prop :=
  r.length = sz ∧ ∀ j x, r[j]? = some x → ∃ v, w.cell? (p.at (i * sz + j)) = some v ∧ SR φ x v
structure BlkOk (φ : Phi) (base : Nat) (w : World) (p : Place) (k : Blk) : Prop where
  sz : p.sz = k.sz
  rows : ∀ i r, k.rows[i]? = some r → RowAt φ w p k.sz i r
  own : (k.rows = [] ∧ p.cap = 0) ∨ (p.off = 0 ∧ base ≤ p.blk ∧ k.rows.length ≤ p.cap ∧ p.cap ≤ maxLen ∧ ∃ cells, w.heap[p.blk]? = some (.cells cells k.ty (0, 0)) ∧ cells.size = p.cap * k.sz)
def Mine (φ : Phi) (H : AHeap) (r : Nat) : Prop := ∃ b k p, H.get b = some k ∧ φ b = some p ∧ p.cap ≠ 0 ∧ p.blk = r
structure Rel (φ : Phi) (base : Nat) (H : AHeap) (w : World) : Prop where
  blk : ∀ b k, H.get b = some k → ∃ p, φ b = some p ∧ BlkOk φ base w p k
  inj : ∀ b b' k k' p p', H.get b = some k → H.get b' = some k' → φ b = some p → φ b' = some p' → p.cap ≠ 0 → p'.cap ≠ 0 → p.blk = p'.blk → b = b'
  new : ∀ b, H.nx ≤ b → H.get b = none ∧ φ b = none
  base : base ≤ w.heap.size
  fz : ∀ r o, φ.fz r = some o → w.heap[r]? = some o ∧ ¬ Mine φ H r
  full : ∀ b F, H.full = some (b, F) → ∃ p, φ b = some p ∧ p.cap = F := by exact fun b F h => nomatch (show (none : Option (Nat × Nat)) = some (b, F) from h)
theorem nofull {H : AHeap} {φ : Phi} (h : H.full = none) : ∀ b F, H.full = some (b, F) → ∃ p, φ b = some p ∧ p.cap = F := fun b F h' => by rw [h] at h'; cases h'
structure Goes (φ : Phi) (base : Nat) (H : AHeap) (w : World) (φ' : Phi) (H' : AHeap) (w' : World) : Prop where
  rel : Rel φ' base H' w'
  nx : H.nx ≤ H'.nx
  ext : Ext φ φ'
  below : Below base w w'
  kept : ∀ r, r < w.heap.size → ¬ Mine φ H r → w'.heap[r]? = w.heap[r]?
  mine : ∀ r, Mine φ' H' r → w.heap.size ≤ r ∨ Mine φ H r
  fzn : ∀ r o, φ'.fz r = some o → φ.fz r = some o ∨ w.heap.size ≤ r ∨ Mine φ H r
theorem Goes.refl {φ : Phi} {base : Nat} {H : AHeap} {w : World} (h : Rel φ base H w) : Goes φ base H w φ H w :=
  ⟨h, Nat.le_refl _, Ext.refl _, Below.refl _ _, fun _ _ _ => rfl, fun _ h => .inr h, fun _ _ h => .inl h⟩
theorem Goes.trans {φ φ1 φ2 : Phi} {base : Nat} {H H1 H2 : AHeap} {w w1 w2 : World} (h : Goes φ base H w φ1 H1 w1) (k : Goes φ1 base H1 w1 φ2 H2 w2) : Goes φ base H w φ2 H2 w2 where
  rel := k.rel
  nx := Nat.le_trans h.nx k.nx
  ext := h.ext.trans k.ext
  below := h.below.trans k.below
  kept := fun r hr hm => by
    have h1 := h.kept r hr hm
    have hr' : r < w1.heap.size := Nat.lt_of_lt_of_le hr h.below.size
    rw [k.kept r hr' (fun hm' => (h.mine r hm').elim (fun he => by omega) hm), h1]
  mine := fun r hr => (k.mine r hr).elim (fun he => .inl (Nat.le_trans h.below.size he)) (fun hm => h.mine r hm)
  fzn := fun r o hr => (k.fzn r o hr).elim (fun hf => h.fzn r o hf) fun hf => .inr (hf.elim (fun he => .inl (Nat.le_trans h.below.size he)) fun hm => h.mine r hm)
theorem Rel.congr {φ : Phi} {base : Nat} {H : AHeap} {w w' : World} (h : Rel φ base H w) (e : w'.heap = w.heap) : Rel φ base H w' where
  blk := fun b k hb => by
    obtain ⟨p, hp, h1⟩ := h.blk b k hb
    refine ⟨p, hp, ⟨h1.sz, fun i r hr => ?_, by rw [e]; exact h1.own⟩⟩
    obtain ⟨hl, hc⟩ := h1.rows i r hr
    refine ⟨hl, fun j x hx => ?_⟩
    obtain ⟨v, hv, hr⟩ := hc j x hx
    exact ⟨v, by simpa [World.cell?, e] using hv, hr⟩
  inj := h.inj
  new := h.new
  base := by rw [e]; exact h.base
  fz := by rw [e]; exact h.fz
  full := h.full
abbrev Fr := List (Nat × AV)
def fget : List (Nat × AV) → Nat → AV
  | [], _ => .no
  | (t, v) :: l, u => if t = u then v else fget l u
def FR (φ : Phi) (N : Nat) (f : List (Nat × AV)) (a : Act) : Prop :=
  a.tmps.size = N ∧ a.defers = [] ∧ ∀ t, VR φ (fget f t) (a.tmps.getD t undef)
theorem FR.put {φ : Phi} {N : Nat} {f : List (Nat × AV)} {a : Act} (h : FR φ N f a) {t : Nat} (ht : t < N) {x : AV} {v : Value} (hv : VR φ x v) : FR φ N ((t, x) :: f) (a.put (some t) v) := by
  obtain ⟨h1, h2, h3⟩ := h
  refine ⟨by simp [Act.put, h1], h2, fun u => ?_⟩
  have hg : (a.put (some t) v).tmps.getD u undef = if t = u then v else a.tmps.getD u undef := by
    simp only [Act.put, Array.getD_eq_getD_getElem?, Array.getElem?_setIfInBounds]
    split <;> simp_all
  rw [hg]
  unfold fget
  split
  · exact hv
  · exact h3 u
theorem FR.ext {φ φ' : Phi} (e : Ext φ φ') {N : Nat} {f : List (Nat × AV)} {a : Act} (h : FR φ N f a) : FR φ' N f a := ⟨h.1, h.2.1, fun t => (h.2.2 t).ext e⟩
def fkeep (ks : List Nat) (f : List (Nat × AV)) : List (Nat × AV) := ks.map fun t => (t, fget f t)
theorem fget_keep (ks : List Nat) (f : List (Nat × AV)) (u : Nat) : fget (fkeep ks f) u = fget f u ∨ fget (fkeep ks f) u = .no := by
  induction ks with
  | nil => exact .inr rfl
  | cons t ks ih =>
    simp only [fkeep, List.map_cons, fget]
    split
    · subst_vars; exact .inl rfl
    · exact ih
theorem VR_no {φ : Phi} {v : Value} : VR φ .no v := trivial
theorem FR.keep {φ : Phi} {N : Nat} {f : List (Nat × AV)} {a : Act} (h : FR φ N f a) (ks : List Nat) : FR φ N (fkeep ks f) a :=
  ⟨h.1, h.2.1, fun u => by rcases fget_keep ks f u with e | e <;> rw [e]; exact h.2.2 u; exact VR_no⟩
end Go.Proofs.YtoeieoapnhhaeaaGreat.Den
namespace Go.Proofs.YtoeieoapnhhaeaaGreat.Den
open Go.RowKit
set_option linter.unusedVariables false
inductive Opd where
  | t (n : Nat)
  | c (x : SV)
  | ca (l : List SV)
  deriving DecidableEq, Inhabited
inductive AOp where
  | mov (x : Opd)
  | pick (c a b : Opd)
  | alloc (ty sz : Nat) (zero : List SV)
  | box (ty : Nat) (x : Opd)
  | build (zero : List SV) (parts : List (Nat × Nat × Opd))
  | mkrow (ty sz : Nat) (zero : List SV) (len : Nat) (parts : List (Nat × Opd))
  | load1 (a : Opd)
  | loadn (sz : Nat) (a : Opd)
  | store (sz : Nat) (a x : Opd)
  | nilck (x : Opd)
  | bin (op : BinOp) (x y : Opd)
  | eqb (neg : Bool) (x y : Opd)
  | eqnil (neg : Bool) (x y : Opd)
  | eqagg (neg : Bool) (ks : List Nat) (x y : Opd)
  | un (op : UnOp) (x : Opd)
  | toInt (k : IntKind) (x : Opd)
  | mkfn (f : Nat) (caps : List Opd)
  | mkslice (ty sz bytes : Nat) (zero : List SV) (l c : Opd)
  | slice (sz : Nat) (x : Opd) (lo hi mx : Option Opd)
  | sslice (x : Opd) (lo hi : Option Opd)
  | faddr (off : Nat) (x : Opd)
  | field1 (off : Nat) (x : Opd)
  | fieldn (off sz : Nat) (x : Opd)
  | iaddr (sz : Nat) (x i : Opd)
  | sidx (x i : Opd)
  | extract (x : Opd) (k : Nat)
  | len (x : Opd)
  | slen (x : Opd)

  | strof (x : Opd)

  | mklst (ty sz : Nat) (zero : List SV) (len : Nat) (parts : List (Nat × Opd))
  | append (ty sz bytes : Nat) (x y : Opd)
  | mx (x y : Opd)
  | mn (x y : Opd)
  | clr (sz : Nat) (zero : List SV) (x : Opd)
  | cpy (sz : Nat) (x y : Opd)
  | call (f : Nat) (args : List Opd)
  | callv (x : Opd) (args : List Opd)

  | callx (f : Nat) (args : List Opd)

  | capx (x : Opd)

  | slicex (sz : Nat) (x h : Opd)

  | appz (ty sz bytes : Nat) (zero : List SV) (x n : Opd)
  deriving DecidableEq, Inhabited
structure AOper where
  dst : Option Nat
  op : AOp
  guard : Option (Nat × Bool)
  chk : List (AOp × Nat × Option (Nat × Bool))
  deriving DecidableEq, Inhabited
inductive Cat where
  | light
  | float
  | heavy
  deriving DecidableEq, Inhabited
inductive ACode where
  | skip
  | reg (ops : List AOper) (keep : List Nat)
  | dreg (ops : List (Nat × Cat × AOper)) (keep : List Nat)

  | dreg2 (i j : Nat) (ops1 ops2 : List (Nat × Cat × AOper)) (keep : List Nat)
  | seq (a b : ACode)
  | cond (c : Opd) (a b : ACode)
  | block (id : Nat) (c : ACode)
  | loop (c : ACode)
  | wk (c : ACode)
  | exit (id : Nat)
  | ret
  deriving Inhabited
namespace AHeap
def push (H : AHeap) (k : Blk) : AHeap := ⟨fun b => if b = H.nx then some k else H.get b, H.nx + 1, none⟩
def upd (H : AHeap) (b : Nat) (k : Blk) : AHeap := ⟨fun b' => if b' = b then some k else H.get b', H.nx, none⟩
def del (H : AHeap) (b : Nat) : AHeap := ⟨fun b' => if b' = b then none else H.get b', H.nx, none⟩
def mark (H : AHeap) (b F : Nat) : AHeap := ⟨H.get, H.nx, some (b, F)⟩
theorem mark_full (H : AHeap) (b F : Nat) : (H.mark b F).full = some (b, F) := rfl
def row (H : AHeap) (b i : Nat) : Option (List SV) := (H.get b).bind fun k => k.rows[i]?
def cell (H : AHeap) (b i j : Nat) : Option SV := (H.row b i).bind fun r => r[j]?
def cells (H : AHeap) (b i j n : Nat) : Option (List SV) := (H.row b i).bind fun r => if j + n ≤ r.length then some ((r.drop j).take n) else none
def put (H : AHeap) (b i j : Nat) (l : List SV) : Option AHeap :=
  (H.get b).bind fun k => (k.rows[i]?).bind fun r =>
    if j + l.length ≤ r.length then some (H.upd b { k with rows := k.rows.set i (r.take j ++ l ++ r.drop (j + l.length)) }) else none
def wrows (H : AHeap) (b i sz : Nat) (new : List (List SV)) : Option AHeap :=
  (H.get b).bind fun k => if k.sz = sz ∧ i + new.length ≤ k.rows.length then some (H.upd b { k with rows := k.rows.take i ++ new ++ k.rows.drop (i + new.length) }) else none
def wrowsx (H : AHeap) (b i sz : Nat) (new : List (List SV)) : Option AHeap :=
  (H.get b).bind fun k => if k.sz = sz ∧ i ≤ k.rows.length then some (H.upd b { k with rows := k.rows.take i ++ new ++ k.rows.drop (i + new.length) }) else none
end AHeap
def AV.cells : AV → Option (List SV)
  | .s x => some [x]
  | .agg l => some l
  | _ => none
def abin (op : BinOp) (x y : SV) : Option SV :=
  match x, y with
  | .int k a, .int k' b =>
    match op with
    | .shl => if 0 ≤ b then some (.int k (k.wrap (a * 2 ^ (min b.toNat k.bits)))) else none
    | .shr => if 0 ≤ b then some (.int k (a.fdiv (2 ^ (min b.toNat k.bits)))) else none
    | _ => if k = k' then
        match op with
        | .add => some (.int k (k.wrap (a + b)))
        | .sub => some (.int k (k.wrap (a - b)))
        | .mul => some (.int k (k.wrap (a * b)))
        | .quo => if b = 0 then none else some (.int k (k.wrap (a.tdiv b)))
        | .rem => if b = 0 then none else some (.int k (a.tmod b))
        | .and => some (.int k (k.wrap ((BitVec.ofInt k.bits a &&& BitVec.ofInt k.bits b).toNat)))
        | .or => some (.int k (k.wrap ((BitVec.ofInt k.bits a ||| BitVec.ofInt k.bits b).toNat)))
        | .xor => some (.int k (k.wrap ((BitVec.ofInt k.bits a ^^^ BitVec.ofInt k.bits b).toNat)))
        | .eql => some (.bool (decide (a = b)))
        | .neq => some (.bool (decide (a ≠ b)))
        | .lss => some (.bool (decide (a < b)))
        | .leq => some (.bool (decide (a ≤ b)))
        | .gtr => some (.bool (decide (b < a)))
        | .geq => some (.bool (decide (b ≤ a)))
        | _ => none
      else none
  | .str a, .str b =>
    match op with
    | .add => if a.size + b.size ≤ 9223372036854775807 then some (.str (a ++ b)) else none
    | .eql => some (.bool (a.toList == b.toList))
    | .neq => some (.bool (!(a.toList == b.toList)))
    | .lss => some (.bool (Op.bytesLess a.toList b.toList))
    | .leq => some (.bool (Op.bytesLess a.toList b.toList || a.toList == b.toList))
    | .gtr => some (.bool (!(Op.bytesLess a.toList b.toList || a.toList == b.toList)))
    | .geq => some (.bool (!(Op.bytesLess a.toList b.toList)))
    | _ => none
  | _, _ => none
def intRows : List (List SV) → Option (List Int)
  | [] => some []
  | [.int .u8 n] :: r => (intRows r).map (n :: ·)
  | _ :: _ => none
def strB (ns : List Int) : ByteArray := ns.foldl (fun r n => r.push (UInt8.ofNat n.toNat)) ByteArray.empty
def srcRows (H : AHeap) (sz : Nat) : AV → Option (List (List SV))
  | .s .nils => some []
  | .s .emp => some []
  | .s .nemp => some []
  | .s (.lst sz' rows) => if sz' = sz then some rows else none
  | .s (.sl b i n c) => (H.get b).bind fun k => if k.sz = sz ∧ i + n ≤ k.rows.length then some ((k.rows.drop i).take n) else none
  | _ => none
def afresh (H : AHeap) (ty sz bytes : Nat) (x : SV) (new : List (List SV)) : Option (AV × AHeap) :=
  if new = [] then some (.s x, H) else if new.length * bytes ≤ 140737488355328 ∧ new.length ≤ maxLen then
      some (.s (.sl H.nx 0 new.length new.length), H.push ⟨sz, ty, new⟩) else none
def aappend (H : AHeap) (ty sz bytes : Nat) (x : AV) (new : List (List SV)) : Option (AV × AHeap) :=
  match x with
  | .s .nils => afresh H ty sz bytes .nils new
  | .s .emp => afresh H ty sz bytes .emp new
  | .s (.sl b i n c) => if new = [] then some (x, H) else
      (H.get b).bind fun k => if k.sz = sz ∧ k.ty = ty ∧ i = 0 ∧ n ≤ k.rows.length ∧ (n + new.length) * bytes ≤ 140737488355328 ∧ n + new.length ≤ maxLen then
        (if n + new.length ≤ c then some (.s (.sl b 0 (n + new.length) c), H.upd b { k with rows := k.rows.take n ++ new ++ k.rows.drop (n + new.length) })
         else some (.s (.sl H.nx 0 (n + new.length) (n + new.length)), (H.del b).push ⟨sz, ty, k.rows.take n ++ new⟩)) else none
  | _ => none
def afill : List (Nat × Nat × AV) → List SV → Option (List SV)
  | [], cs => some cs
  | (off, sz, v) :: r, cs => v.cells.bind fun l => if l.length = sz ∧ off + sz ≤ cs.length then afill r (cs.take off ++ l ++ cs.drop (off + sz)) else none
def afillRows : List (Nat × AV) → List (List SV) → Nat → Option (List (List SV))
  | [], rs, _ => some rs
  | (i, v) :: r, rs, sz => v.cells.bind fun l => if l.length = sz ∧ i < rs.length then afillRows r (rs.set i l) sz else none
def capsOf : List AV → Option (List (Nat × Nat × Nat))
  | [] => some []
  | .s (.ptr b i j) :: r => (capsOf r).map ((b, i, j) :: ·)
  | _ => none
def pickv (t : Bool) (a b : AV) : AV :=
  match a, b with
  | .s (.bool x), .s (.bool y) => .s (.bool (if t then x else y))
  | .s (.int k x), .s (.int k' y) => if k = k' then .s (.int k (if t then x else y)) else if t then a else b
  | _, _ => if t then a else b
def bound (d : Nat) (ev : Opd → AV) : Option Opd → Option Nat
  | none => some d
  | some o => match ev o with | .s (.int _ n) => if 0 ≤ n then some n.toNat else none | _ => none
def AHeap.has (H : AHeap) (b sz : Nat) : Bool := match H.get b with | some k => k.sz == sz | none => false
def alen : AV → Option Nat
  | .s (.sl _ _ n _) => some n
  | .s .nils => some 0
  | .s .emp => some 0
  | .s .nemp => some 0
  | .s (.lst _ rows) => some rows.length
  | _ => none
def aeq : List Nat → List SV → List SV → Option Bool
  | [], [], [] => some true
  | 0 :: ks, .int k a :: r, .int k' b :: r' => if k = k' then (aeq ks r r').map fun t => decide (a = b) && t else none
  | 1 :: ks, .bool a :: r, .bool b :: r' => (aeq ks r r').map fun t => decide (a = b) && t
  | 2 :: ks, .str a :: r, .str b :: r' => (aeq ks r r').map fun t => decide (a = b) && t
  | _, _, _ => none
def cutTo (y : AV) (n : Nat) : AV :=
  match y with
  | .s (.sl b i m c) => .s (.sl b i (min m n) c)
  | y => y
def beyond (H : AHeap) (b i c l h sz : Nat) : Option (AV × AHeap) :=
  match H.full with
  | some (b', F) => if b' = b ∧ 0 < c ∧ l ≤ h ∧ i + h ≤ F ∧ H.has b sz = true then some (.s (.sl b (i + l) (h - l) (F - i - l)), H) else none
  | none => none
def xbeyond (sz : Nat) (x h : AV) (H : AHeap) : Option (AV × AHeap) :=
  match x, h with
  | .s (.sl b i n c), .s (.int _ h) => if 0 ≤ h then beyond H b i c 0 h.toNat sz else none
  | _, _ => none
def appz (H : AHeap) (ty sz bytes : Nat) (zero : List SV) (b i k z : Nat) : Option (AV × AHeap) :=
  match H.full with
  | some (b', F) => (H.get b).bind fun kb => if b' = b ∧ i = 0 ∧ kb.sz = sz ∧ k ≤ kb.rows.length ∧ F < k + z ∧ (k + z) * bytes ≤ 140737488355328 ∧ k + z ≤ maxLen then
      some (.s (.sl H.nx 0 (k + z) (k + z)), H.push ⟨sz, ty, kb.rows.take k ++ List.replicate z zero⟩) else none
  | none => none
def xappz (ty sz bytes : Nat) (zero : List SV) (x n : AV) (H : AHeap) : Option (AV × AHeap) :=
  match x, n with
  | .s (.sl b i k _), .s (.int .i64 z) => if 0 < z then appz H ty sz bytes zero b i k z.toNat else none
  | _, _ => none
def SV.plain1 : SV → Bool
  | .int _ _ | .bool _ | .str _ => true
  | _ => false
def plainRow : List SV → Bool
  | [] => true
  | x :: r => x.plain1 && plainRow r
def plainRows : List (List SV) → Bool
  | [] => true
  | r :: l => plainRow r && plainRows l
def xop (o : AOp) (ev : Opd → AV) (H : AHeap) : Option (AV × AHeap) :=
  match o with
  | .mov x => some (ev x, H)
  | .pick c a b => match ev c with | .s (.bool t) => some (pickv t (ev a) (ev b), H) | _ => none
  | .alloc ty sz zero => some (.s (.ptr H.nx 0 0), H.push ⟨sz, ty, [zero]⟩)
  | .box ty x => (ev x).cells.bind fun l => some (.s (.ptr H.nx 0 0), H.push ⟨l.length, ty, [l]⟩)
  | .build zero ps => (afill (ps.map fun (o, s, x) => (o, s, ev x)) zero).map fun l => (.agg l, H)
  | .mkrow ty sz zero len ps => (afillRows (ps.map fun (i, x) => (i, ev x)) (List.replicate len zero) sz).map fun rs => (.s (.sl H.nx 0 len len), H.push ⟨sz, ty, rs⟩)
  | .mklst _ sz zero len ps => (afillRows (ps.map fun (i, x) => (i, ev x)) (List.replicate len zero) sz).bind fun rs => if plainRows rs = true then some (.s (.lst sz rs), H) else none
  | .load1 a => match ev a with | .s (.ptr b i j) => (H.cell b i j).map fun x => (.s x, H) | .s (.fptr r j) => (r[j]?).map fun x => (.s x, H) | _ => none
  | .loadn n a => match ev a with | .s (.ptr b i j) => (H.cells b i j n).map fun l => (.agg l, H) | .s (.fptr r j) => if j + n ≤ r.length then some (.agg ((r.drop j).take n), H) else none | _ => none
  | .store n a x => match ev a with | .s (.ptr b i j) => (ev x).cells.bind fun l => if l.length = n then (H.put b i j l).map fun H' => (.no, H') else none | _ => none
  | .nilck x => match ev x with | .s (.ptr b i j) => some (.s (.ptr b i j), H) | .s (.fn f cs) => some (.s (.fn f cs), H) | .s (.fptr r j) => some (.s (.fptr r j), H) | _ => none
  | .bin op x y => match ev x, ev y with | .s a, .s b => (abin op a b).map fun z => (.s z, H) | _, _ => none
  | .eqb neg x y => match ev x, ev y with | .s (.bool a), .s (.bool b) => some (.s (.bool (if neg then decide (a ≠ b) else decide (a = b))), H) | _, _ => none
  | .eqnil neg x y => match ev x, ev y with
    | .s .nils, .s .nils => some (.s (.bool (!neg)), H)
    | .s (.sl _ _ (_ + 1) _), .s .nils => some (.s (.bool neg), H)
    | .s .nils, .s (.sl _ _ (_ + 1) _) => some (.s (.bool neg), H)
    | .s .nemp, .s .nils => some (.s (.bool neg), H)
    | .s (.lst _ (_ :: _)), .s .nils => some (.s (.bool neg), H)
    | _, _ => none
  | .eqagg neg ks x y => match ev x, ev y with
    | .agg l, .agg l' => (aeq ks l l').map fun t => (.s (.bool (if neg then !t else t)), H)
    | _, _ => none
  | .un op x => match op, ev x with
    | .not, .s (.bool b) => some (.s (.bool (!b)), H)
    | .neg, .s (.int k n) => some (.s (.int k (k.wrap (0 - n))), H)
    | _, _ => none
  | .toInt k x => match ev x with | .s (.int _ n) => some (.s (.int k (k.wrap n)), H) | _ => none
  | .mkfn f caps => (capsOf (caps.map ev)).map fun cs => (.s (.fn f cs), H)
  | .mkslice ty sz bytes zero l c => match ev l, ev c with
    | .s (.int .i64 n), .s (.int .i64 m) => if 0 ≤ n ∧ n ≤ m ∧ m * bytes ≤ 140737488355328 ∧ m ≤ 9223372036854775807 then
        some (.s (.sl H.nx 0 n.toNat m.toNat), H.push ⟨sz, ty, List.replicate m.toNat zero⟩) else none
    | _, _ => none
  | .slice sz x lo hi mx => match ev x with
    | .s (.sl b i n c) => match mx with
      | none => (bound n ev hi).bind fun h => (bound 0 ev lo).bind fun l =>
        if l ≤ h ∧ h ≤ c ∧ H.has b sz = true then some (.s (.sl b (i + l) (h - l) (c - l)), H) else none
      | some _ => (bound c ev mx).bind fun m => (bound n ev hi).bind fun h => (bound 0 ev lo).bind fun l =>
        if l ≤ h ∧ h ≤ m ∧ m ≤ c ∧ H.has b sz = true then some (.s .any, H) else none
    | .s .nils => (bound 0 ev mx).bind fun m => (bound 0 ev hi).bind fun h => (bound 0 ev lo).bind fun l =>
        if l = 0 ∧ h = 0 ∧ m = 0 then some (.s .nils, H) else none
    | .s (.lst sz' rows) => (bound rows.length ev mx).bind fun m => (bound rows.length ev hi).bind fun h => (bound 0 ev lo).bind fun l =>
        if l ≤ h ∧ h ≤ m ∧ m ≤ rows.length ∧ sz' = sz then some (.s (if mx.isSome = true ∧ m = l then .emp else .lst sz' ((rows.take h).drop l)), H) else none
    | _ => none
  | .sslice x lo hi => match ev x with
    | .s (.str s) => (bound s.size ev hi).bind fun h => (bound 0 ev lo).bind fun l =>
        if l ≤ h ∧ h ≤ s.size then some (.s (.str (s.extract l h)), H) else none
    | _ => none
  | .faddr off x => match ev x with | .s (.ptr b i j) => some (.s (.ptr b i (j + off)), H) | .s (.fptr r j) => some (.s (.fptr r (j + off)), H) | _ => none
  | .field1 off x => match ev x with | .agg l => (l[off]?).map fun y => (.s y, H) | _ => none
  | .fieldn off n x => match ev x with | .agg l => if off + n ≤ l.length then some (.agg ((l.drop off).take n), H) else none | _ => none
  | .iaddr sz x i => match ev x, ev i with | .s (.sl b e n c), .s (.int _ k) => if 0 ≤ k ∧ k < n ∧ H.has b sz = true then some (.s (.ptr b (e + k.toNat) 0), H) else none | .s (.lst sz' rows), .s (.int _ k) => if 0 ≤ k ∧ sz' = sz then (rows[k.toNat]?).map fun r => (.s (.fptr r 0), H) else none | _, _ => none
  | .sidx x i => match ev x, ev i with | .s (.str s), .s (.int _ k) => if 0 ≤ k then (s[k.toNat]?).map fun b => (.s (.int .u8 b.toNat), H) else none | _, _ => none
  | .extract x k => match ev x with | .tup l => (l[k]?).map fun v => (v, H) | _ => none
  | .len x => (alen (ev x)).map fun (n : Nat) => (.s (.int .i64 n), H)
  | .strof x => (srcRows H 1 (ev x)).bind fun rows => (intRows rows).map fun ns => (.s (.str (strB ns)), H)
  | .slen x => match ev x with | .s (.str s) => some (.s (.int .i64 s.size), H) | _ => none
  | .append ty sz bytes x y => (srcRows H sz (ev y)).bind fun new => aappend H ty sz bytes (ev x) new
  | .mx x y => match ev x, ev y with | .s (.int k a), .s (.int k' b) => if k = k' then some (.s (.int k (max a b)), H) else none | _, _ => none
  | .mn x y => match ev x, ev y with | .s (.int k a), .s (.int k' b) => if k = k' then some (.s (.int k (min a b)), H) else none | _, _ => none
  | .clr sz zero x => match ev x with
    | .s (.sl b i n c) => if n = 0 then some (.tup [], H) else (H.wrows b i sz (List.replicate n zero)).map fun H' => (.tup [], H')
    | _ => none
  | .cpy sz x y => match ev x with
    | .s (.sl b i n c) => (srcRows H sz (cutTo (ev y) n)).bind fun new => if new.take n = [] then some (.s (.int .i64 0), H) else (H.wrowsx b i sz (new.take n)).map fun H' => (.s (.int .i64 (new.take n).length), H')
    | _ => none
  | .call _ _ => none
  | .callv _ _ => none
  | .callx _ _ => none
  | .capx _ => none
  | .slicex _ _ _ => none
  | .appz _ _ _ _ _ _ => none
def sv : Value → Option SV
  | .int k n => some (.int k n)
  | .bool b => some (.bool b)
  | .string s => some (.str s)
  | .pointer none => some .nilp
  | .slice none 0 0 => some .nils
  | .nilFunc => some .nilf
  | _ => none
def svs : List Value → Option (List SV)
  | [] => some []
  | v :: r => (sv v).bind fun x => (svs r).map (x :: ·)
def opd : Operand → Option Opd
  | .tmp t => some (.t t)
  | .const (.agg cs) => (svs cs.toList).map .ca
  | .const v => (sv v).map .c
  | .func f => some (.c (.fn f []))
  | .global _ => none
def opds : List Operand → Option (List Opd)
  | [] => some []
  | x :: r => (opd x).bind fun y => (opds r).map (y :: ·)
def opdO : Option Operand → Option (Option Opd)
  | none => some none
  | some x => (opd x).map some
def isAggD : TypeDesc → Bool
  | .struct _ | .array _ _ => true
  | _ => false
def einfo (P : Program) (t : TypeId) : Option (Nat × Nat × List SV) :=
  (P.info? t).bind fun i => i.zero.bind fun z => (svs z.cells.toList).bind fun l => if l.length = i.size ∧ 0 < i.size then some (i.size, i.bytes, l) else none
def compParts (P : Program) (fs : Array Field) : List (Nat × Operand) → Option (List (Nat × Nat × Opd))
  | [] => some []
  | (i, x) :: r => (fs[i]?).bind fun f => (P.info? f.type).bind fun d => (opd x).bind fun y => (compParts P fs r).map ((f.offset, d.size, y) :: ·)
def compElems : List (Nat × Operand) → Option (List (Nat × Opd))
  | [] => some []
  | (i, x) :: r => (opd x).bind fun y => (compElems r).map ((i, y) :: ·)
def sizesOk (P : Program) (fs : Array Field) : Bool := fs.toList.all fun f => (P.info? f.type).isSome
def callee (P : Program) (f : FuncId) : Bool :=
  match P.funcs[f]? with
  | some fn => fn.name != "runtime.NumGoroutine" && fn.body.isSome
  | none => false
def plainKinds (P : Program) : List Field → Nat → Option (List Nat)
  | [], _ => some []
  | f :: r, off => if f.name ≠ "_" ∧ f.offset = off then (match P.underlying f.type with | some (.int _) => some 0 | some .bool => some 1 | some .string => some 2 | _ => none).bind fun k => (plainKinds P r (off + 1)).map (k :: ·) else none
def compCall (P : Program) (c : Call) : Option AOp :=
  match c.callee with
  | .value (.func f) => if callee P f then (opds c.args.toList).map (.call f) else (opds c.args.toList).map (.callx f)
  | .value (.tmp t) => (opds c.args.toList).map (.callv (.t t))
  | .builtin .len => match c.args.toList, c.argTypes.toList with
    | [x], [t] => match P.underlying t with
      | some (.slice _) => (opd x).map .len
      | some .string => (opd x).map .slen
      | _ => none
    | _, _ => none
  | .builtin .append => match c.args.toList, c.argTypes.toList with
    | [x, y], [t, u] => match P.underlying t, P.underlying u with
      | some (.slice e), some (.slice _) => if t = u then (einfo P e).bind fun (sz, bytes, _) => (opd x).bind fun x => (opd y).map fun y => .append e sz bytes x y else none
      | _, _ => none
    | _, _ => none
  | .builtin .max => match c.args.toList with
    | [x, y] => (opd x).bind fun x => (opd y).map fun y => .mx x y
    | _ => none
  | .builtin .min => match c.args.toList with
    | [x, y] => (opd x).bind fun x => (opd y).map fun y => .mn x y
    | _ => none
  | .builtin .clear => match c.args.toList, c.argTypes.toList with
    | [x], [t] => match P.underlying t with
      | some (.slice e) => (einfo P e).bind fun (sz, _, z) => (opd x).map fun x => .clr sz z x
      | _ => none
    | _, _ => none
  | .builtin .copy => match c.args.toList, c.argTypes.toList with
    | [x, y], [t, u] => match P.underlying t, P.underlying u with
      | some (.slice e), some (.slice _) => (einfo P e).bind fun (sz, _, _) => (opd x).bind fun x => (opd y).map fun y => .cpy sz x y
      | _, _ => none
    | _, _ => none
  | _ => none
def comp (P : Program) : Op → Option AOp
  | .move x => (opd x).map .mov
  | .assign x => (opd x).map .mov
  | .pick c a b => (opd c).bind fun c => (opd a).bind fun a => (opd b).map fun b => .pick c a b
  | .alloc t => (einfo P t).map fun (sz, _, z) => .alloc t sz z
  | .box t x => (opd x).map fun x => .box t x
  | .build t ps => match P.underlying t with
    | some (.struct fs) => if sizesOk P fs then (einfo P t).bind fun (_, _, z) => (compParts P fs ps.toList).map fun ps => .build z ps else none
    | _ => none
  | .buildSlice t n ps => match P.underlying t with
    | some (.slice e) => (einfo P e).bind fun (sz, _, z) => if n * sz ≤ 16777216 then (compElems ps.toList).map fun ps => .mkrow e sz z n ps else none
    | _ => none
  | .load t a => match P.underlying t, P.info? t with
    | some d, some i => (opd a).map fun a => if isAggD d then .loadn i.size a else .load1 a
    | _, _ => none
  | .store t a x => (P.info? t).bind fun i => (opd a).bind fun a => (opd x).map fun x => .store i.size a x
  | .nilCheck x => (opd x).map .nilck
  | .binOp op t x y _ => (opd x).bind fun x' => (opd y).bind fun y' => match P.underlying t with
    | some (.int _) | some .string => some (.bin op x' y')
    | some .bool => if op = .eql then some (.eqb false x' y') else if op = .neq then some (.eqb true x' y') else none
    | some (.slice _) => if op = .eql then some (.eqnil false x' y') else if op = .neq then some (.eqnil true x' y') else none
    | some (.struct fs) => if P.stoodInHeld t = false ∧ P.eqGuardType P.depth t = false then (plainKinds P fs.toList 0).bind fun ks => (if op = .eql then some (.eqagg false ks x' y') else if op = .neq then some (.eqagg true ks x' y') else none) else none
    | _ => none
  | .unOp op _ x => (opd x).map fun x => .un op x
  | .convert s d x => match P.underlying s, P.underlying d with
    | some (.int _), some (.int k) => (opd x).map fun x => .toInt k x
    | some (.slice e), some .string => match P.underlying e with
      | some (.int .u8) => (opd x).map fun x => .strof x
      | _ => none
    | _, _ => none
  | .makeFunc fn first caps => match fn with
    | .func f => if first.size = 0 ∧ callee P f = true then (opds caps.toList).map fun cs => .mkfn f cs else none
    | _ => none
  | .makeSlice t l c => match P.underlying t with
    | some (.slice e) => (einfo P e).bind fun (sz, bytes, z) => (opd l).bind fun l => (opd c).map fun c => .mkslice e sz bytes z l c
    | _ => none
  | .slice t x lo hi mx => match P.underlying t with
    | some (.slice e) => if mx.isSome && hi.isNone then none else (P.info? e).bind fun i => (opd x).bind fun x => (opdO lo).bind fun lo => (opdO hi).bind fun hi => (opdO mx).map fun mx => .slice i.size x lo hi mx
    | some .string => if mx.isSome then none else (opd x).bind fun x => (opdO lo).bind fun lo => (opdO hi).map fun hi => .sslice x lo hi
    | _ => none
  | .fieldAddr t x f => match P.underlying t with
    | some (.struct fs) => (fs[f]?).bind fun d => (P.info? d.type).bind fun i => if i.size ≠ 0 then (opd x).map fun x => .faddr d.offset x else none
    | _ => none
  | .field t x f => match P.underlying t with
    | some (.struct fs) => (fs[f]?).bind fun d => (P.info? d.type).bind fun i => (P.underlying d.type).bind fun u => (opd x).map fun x => if isAggD u then .fieldn d.offset i.size x else .field1 d.offset x
    | _ => none
  | .indexAddr t x i => match P.underlying t with
    | some (.slice e) => (P.info? e).bind fun d => (opd x).bind fun x => (opd i).map fun i => .iaddr d.size x i
    | _ => none
  | .index t x i => match P.underlying t with
    | some .string => (opd x).bind fun x => (opd i).map fun i => .sidx x i
    | _ => none
  | .extract x k => (opd x).map fun x => .extract x k
  | .call c => compCall P c
  | _ => none
def compA (P : Program) (op : Op) (ao : AOp) : Bool :=
  comp P op == some ao || (match ao with
    | .mklst e s z n qs => comp P op == some (.mkrow e s z n qs)
    | _ => false)
theorem compA_out {P : Program} {op : Op} {ao : AOp} (h : compA P op ao = true) : comp P op = some ao ∨ ∃ e s z n qs, ao = .mklst e s z n qs ∧ comp P op = some (.mkrow e s z n qs) := by
  unfold compA at h
  rcases Bool.or_eq_true_iff.1 h with h | h
  · exact .inl (by simpa using h)
  · cases ao <;> first | (cases h; done) | exact .inr ⟨_, _, _, _, _, rfl, by simpa using h⟩
end Go.Proofs.YtoeieoapnhhaeaaGreat.Den
namespace Go.Proofs.YtoeieoapnhhaeaaGreat.Den
open Go.RowKit
set_option linter.unusedVariables false
theorem flat_get {α : Type} {sz : Nat} : ∀ {rows : List (List α)}, (∀ r ∈ rows, r.length = sz) → ∀ {i : Nat} {r : List α}, rows[i]? = some r → ∀ {j : Nat} {x : α}, r[j]? = some x → rows.flatten[i * sz + j]? = some x
  | [], _, i, r, h, _, _, _ => by simp at h
  | r0 :: rows, hl, 0, r, h, j, x, hx => by
    simp at h; subst h
    have hj : j < r0.length := (List.getElem?_eq_some_iff.1 hx).1
    simp [List.getElem?_append_left hj, hx]
  | r0 :: rows, hl, i + 1, r, h, j, x, hx => by
    have h0 : r0.length = sz := hl r0 (by simp)
    rw [List.flatten_cons, List.getElem?_append_right (by rw [h0, Nat.add_mul]; omega)]
    have := flat_get (rows := rows) (fun r' hr' => hl r' (List.mem_cons_of_mem _ hr')) (by simpa using h) hx
    rw [← this]
    congr 1
    rw [h0, Nat.add_mul]; omega
theorem flat_len {α : Type} {sz : Nat} : ∀ {rows : List (List α)}, (∀ r ∈ rows, r.length = sz) → rows.flatten.length = rows.length * sz
  | [], _ => by simp
  | r :: rows, h => by
    rw [List.flatten_cons, List.length_append, flat_len (fun r hr => h r (by simp [hr])), h r (by simp), List.length_cons, Nat.add_mul]
    omega
theorem pick_vals {φ : Phi} {w : World} {p : Place} : ∀ (l : List SV) (k : Nat), (∀ (q : Nat) x, l[q]? = some x → ∃ v, w.cell? (p.at (k + q)) = some v ∧ SR φ x v) →
    ∃ vs : List Value, SRs φ l vs ∧ ∀ (q : Nat) v, vs[q]? = some v → w.cell? (p.at (k + q)) = some v
  | [], k, _ => ⟨[], .nil, fun q v h => by simp at h⟩
  | x :: l, k, h => by
    obtain ⟨v, hv, hr⟩ := h 0 x rfl
    obtain ⟨vs, h1, h2⟩ := pick_vals l (k + 1) (fun q y hy => by
      have := h (q + 1) y (by simpa using hy)
      rwa [show k + (q + 1) = k + 1 + q by omega] at this)
    refine ⟨v :: vs, .cons hr h1, fun q u hu => ?_⟩
    cases q with
    | zero => simp at hu; subst hu; simpa using hv
    | succ q => have := h2 q u (by simpa using hu); rwa [show k + 1 + q = k + (q + 1) by omega] at this
theorem Rel.row {φ : Phi} {base : Nat} {H : AHeap} {w : World} (h : Rel φ base H w) {b i : Nat} {r : List SV} (hr : H.row b i = some r) :
    ∃ p, φ b = some p ∧ r.length = p.sz ∧ ∀ (j : Nat) x, r[j]? = some x → ∃ v, w.cell? (p.at (i * p.sz + j)) = some v ∧ SR φ x v := by
  unfold AHeap.row at hr
  cases hb : H.get b with
  | none => rw [hb] at hr; cases hr
  | some k =>
    rw [hb] at hr
    obtain ⟨p, hp, ok⟩ := h.blk b k hb
    obtain ⟨hl, hc⟩ := ok.rows i r hr
    refine ⟨p, hp, by rw [ok.sz]; exact hl, fun j x hx => ?_⟩
    rw [ok.sz]
    exact hc j x hx
theorem Rel.cells {φ : Phi} {base : Nat} {H : AHeap} {w : World} (h : Rel φ base H w) {b i j n : Nat} {l : List SV} (hl : H.cells b i j n = some l) :
    ∃ p vs, φ b = some p ∧ l.length = n ∧ SRs φ l vs ∧ ∀ (q : Nat) v, vs[q]? = some v → w.cell? (p.at (i * p.sz + j + q)) = some v := by
  unfold AHeap.cells at hl
  cases hr : H.row b i with
  | none => rw [hr] at hl; cases hl
  | some r =>
    rw [hr] at hl
    simp only [Option.bind_some] at hl
    split at hl
    · rename_i hle
      obtain ⟨p, hp, hrl, hc⟩ := h.row hr
      obtain rfl := (Option.some.inj hl).symm
      obtain ⟨vs, h1, h2⟩ := pick_vals (φ := φ) (w := w) (p := p) ((r.drop j).take n) (i * p.sz + j) (fun q x hx => by
        rw [List.getElem?_take] at hx
        split at hx
        · rw [List.getElem?_drop] at hx
          have := hc (j + q) x hx
          rwa [← Nat.add_assoc] at this
        · cases hx)
      exact ⟨p, vs, hp, by simp; omega, h1, h2⟩
    · cases hl
theorem Rel.cell {φ : Phi} {base : Nat} {H : AHeap} {w : World} (h : Rel φ base H w) {b i j : Nat} {x : SV} (hx : H.cell b i j = some x) :
    ∃ p v, φ b = some p ∧ w.cell? (p.at (i * p.sz + j)) = some v ∧ SR φ x v := by
  unfold AHeap.cell at hx
  cases hr : H.row b i with
  | none => rw [hr] at hx; cases hx
  | some r =>
    rw [hr] at hx
    obtain ⟨p, hp, hrl, hc⟩ := h.row hr
    obtain ⟨v, h1, h2⟩ := hc j x hx
    exact ⟨p, v, hp, h1, h2⟩
theorem BlkOk.real {φ : Phi} {base : Nat} {w : World} {p : Place} {k : Blk} (ok : BlkOk φ base w p k) (hc : p.cap ≠ 0) : p.off = 0 ∧ base ≤ p.blk ∧ k.rows.length ≤ p.cap ∧ p.cap ≤ maxLen ∧ ∃ cells, w.heap[p.blk]? = some (.cells cells k.ty (0, 0)) ∧ cells.size = p.cap * k.sz := ok.own.resolve_left fun h => hc h.2
theorem BlkOk.cap_of {φ : Phi} {base : Nat} {w : World} {p : Place} {k : Blk} (ok : BlkOk φ base w p k) (hr : k.rows ≠ []) : p.cap ≠ 0 := by
  rcases ok.own with h | h
  · exact absurd h.1 hr
  · have := List.length_pos_iff.2 hr
    have := h.2.2.1
    omega
theorem Rel.blk_lt {φ : Phi} {base : Nat} {H : AHeap} {w : World} (h : Rel φ base H w) {b : Nat} {k : Blk} {p : Place} (hb : H.get b = some k) (hp : φ b = some p) (ho : p.cap ≠ 0) : p.blk < w.heap.size ∧ base ≤ p.blk := by
  obtain ⟨p', hp', ok⟩ := h.blk b k hb
  rw [hp] at hp'
  obtain rfl := Option.some.inj hp'
  obtain ⟨_, h1, _, _, cells, hc, _⟩ := ok.real ho
  exact ⟨(Array.getElem?_eq_some_iff.1 hc).1, h1⟩
theorem Rel.get_lt {φ : Phi} {base : Nat} {H : AHeap} {w : World} (h : Rel φ base H w) {b : Nat} {k : Blk} (hb : H.get b = some k) : b < H.nx := by
  rcases Nat.lt_or_ge b H.nx with h1 | h1
  · exact h1
  · rw [(h.new b h1).1] at hb; cases hb
theorem cell_of_heap {w w' : World} {a : Addr} (h : w'.heap[a.block]? = w.heap[a.block]?) : w'.cell? a = w.cell? a := World.cell?_of_block h
theorem BlkOk.move {φ φ' : Phi} {base : Nat} {w w' : World} {p : Place} {k : Blk} (h : BlkOk φ base w p k) (he : Ext φ φ') (hw : p.cap ≠ 0 → w'.heap[p.blk]? = w.heap[p.blk]?) : BlkOk φ' base w' p k where
  sz := h.sz
  rows := fun i r hr => by
    obtain ⟨hl, hc⟩ := h.rows i r hr
    refine ⟨hl, fun j x hx => ?_⟩
    obtain ⟨v, hv, hs⟩ := hc j x hx
    exact ⟨v, by rw [cell_of_heap (a := p.at (i * k.sz + j)) (hw (h.cap_of fun e => by rw [e] at hr; cases hr))]; exact hv, hs.ext he⟩
  own := by
    by_cases hc : p.cap = 0
    · rcases h.own with o | o
      · exact .inl o
      · exact .inl ⟨List.length_eq_zero_iff.1 (by have := o.2.2.1; omega), hc⟩
    · rw [hw hc]; exact h.own
theorem Mine.of_del {φ : Phi} {H : AHeap} {b r : Nat} (h : Mine φ (H.del b) r) : Mine φ H r := by
  obtain ⟨c, k, p, hc, h1, h2, h3⟩ := h
  simp only [AHeap.del] at hc
  split at hc
  · cases hc
  · exact ⟨c, k, p, hc, h1, h2, h3⟩
theorem Rel.del {φ : Phi} {base : Nat} {H : AHeap} {w : World} (h : Rel φ base H w) (b : Nat) : Rel φ base (H.del b) w where
  blk := fun c k hc => by
    simp only [AHeap.del] at hc
    split at hc
    · cases hc
    · exact h.blk c k hc
  inj := fun c c' k k' p p' hc hc' => by
    simp only [AHeap.del] at hc hc'
    split at hc
    · cases hc
    · split at hc'
      · cases hc'
      · exact h.inj c c' k k' p p' hc hc'
  new := fun c hc => by
    have := h.new c hc
    refine ⟨?_, this.2⟩
    simp only [AHeap.del]
    split
    · rfl
    · exact this.1
  base := h.base
  fz := fun r o hr => ⟨(h.fz r o hr).1, fun hm => (h.fz r o hr).2 hm.of_del⟩
theorem Goes.del {φ : Phi} {base : Nat} {H : AHeap} {w : World} (h : Rel φ base H w) (b : Nat) : Goes φ base H w φ (H.del b) w :=
  ⟨h.del b, Nat.le_refl _, Ext.refl _, Below.refl _ _, fun _ _ _ => rfl, fun _ hm => .inr hm.of_del, fun _ _ hr => .inl hr⟩
def Holds (φ : Phi) (cells : Array Value) (sz : Nat) (rows : List (List SV)) : Prop :=
  ∀ (i : Nat) r, rows[i]? = some r → r.length = sz ∧ ∀ (j : Nat) x, r[j]? = some x → ∃ v, cells[i * sz + j]? = some v ∧ SR φ x v
theorem Holds.of_flat {φ : Phi} {cells : Array Value} {sz : Nat} {rows : List (List SV)} {vs : List Value} (hl : ∀ r ∈ rows, r.length = sz) (h : SRs φ rows.flatten vs) (hc : ∀ (q : Nat) v, vs[q]? = some v → cells[q]? = some v) : Holds φ cells sz rows := by
  intro i r hr
  refine ⟨hl r (List.mem_of_getElem? hr), fun j x hx => ?_⟩
  obtain ⟨v, hv, hs⟩ := h.get _ _ (flat_get hl hr hx)
  exact ⟨v, hc _ _ hv, hs⟩
def setPlace (φ : Phi) (b : Nat) (p : Place) : Phi := ⟨fun c => if c = b then some p else φ c, φ.fz⟩
theorem ext_setPlace {φ : Phi} {b : Nat} {p : Place} (h : φ b = none) : Ext φ (setPlace φ b p) := ⟨fun c q hc => by
  show (if c = b then some p else φ c) = some q
  split
  · subst_vars; rw [h] at hc; cases hc
  · exact hc, fun _ _ h => h⟩
theorem setPlace_same {φ : Phi} {b : Nat} {p : Place} : (setPlace φ b p) b = some p := if_pos rfl
theorem setPlace_look {φ : Phi} {b : Nat} {p : Place} {c : Nat} {q : Place} (h : (setPlace φ b p) c = some q) : (c = b ∧ q = p) ∨ (c ≠ b ∧ φ c = some q) := by
  have h : (if c = b then some p else φ c) = some q := h
  split at h
  · exact .inl ⟨‹_›, (Option.some.inj h).symm⟩
  · exact .inr ⟨‹_›, h⟩
theorem setPlace_none {φ : Phi} {b : Nat} {p : Place} {c : Nat} (h : c ≠ b) : (setPlace φ b p) c = φ c := if_neg h
theorem Goes.push {φ : Phi} {base : Nat} {H : AHeap} {w w' : World} (h : Rel φ base H w) {cells : Array Value} {sz ty cap : Nat} {rows : List (List SV)}
    (hh : w'.heap = w.heap.push (.cells cells ty)) (hos : w'.os = w.os) (htp : w'.tape = w.tape) (hout : w'.output = w.output)
    (hrows : Holds φ cells sz rows) (hsz : cells.size = cap * sz) (hcap : rows.length ≤ cap) (hmx : cap ≤ maxLen) :
    Goes φ base H w (setPlace φ H.nx ⟨w.heap.size, 0, cap, sz⟩) (H.push ⟨sz, ty, rows⟩) w' := by
  have hold : ∀ r, r < w.heap.size → w'.heap[r]? = w.heap[r]? := fun r hr => by rw [hh, Array.getElem?_push, if_neg (by omega)]
  have hnew : w'.heap[w.heap.size]? = some (.cells cells ty) := by rw [hh, Array.getElem?_push, if_pos rfl]
  have hsize : w'.heap.size = w.heap.size + 1 := by rw [hh]; simp
  have he : Ext φ (setPlace φ H.nx ⟨w.heap.size, 0, cap, sz⟩) := ext_setPlace (h.new H.nx (Nat.le_refl _)).2
  have mine : ∀ r, Mine (setPlace φ H.nx ⟨w.heap.size, 0, cap, sz⟩) (H.push ⟨sz, ty, rows⟩) r → r = w.heap.size ∨ Mine φ H r := fun r hr => by
    obtain ⟨b, k, p, hb, hp, hc, rfl⟩ := hr
    simp only [AHeap.push] at hb
    rcases setPlace_look hp with ⟨e1, rfl⟩ | ⟨e1, e2⟩
    · exact .inl rfl
    · rw [if_neg e1] at hb
      exact .inr ⟨b, k, p, hb, e2, hc, rfl⟩
  refine ⟨⟨fun b k hb => ?_, fun b b' k k' p p' hb hb' hp hp' hc hc' e => ?_, fun b hb => ?_, by rw [hsize]; have := h.base; omega, fun r o hr => ?_, nofull rfl⟩, by simp [AHeap.push], he, ⟨hos, htp, hout, by omega, fun r hr => hold r (by have := h.base; omega)⟩, fun r hr _ => hold r hr, fun r hr => (mine r hr).imp (fun e => Nat.le_of_eq e.symm) id, fun r o hr => .inl hr⟩
  · simp only [AHeap.push] at hb
    split at hb
    · subst_vars
      obtain rfl := Option.some.inj hb
      refine ⟨_, setPlace_same, ⟨rfl, fun i r hr => ?_, .inr ⟨rfl, h.base, hcap, hmx, cells, hnew, hsz⟩⟩⟩
      obtain ⟨hl, hc⟩ := hrows i r hr
      refine ⟨hl, fun j x hx => ?_⟩
      obtain ⟨v, hv, hs⟩ := hc j x hx
      refine ⟨v, ?_, hs.ext he⟩
      simp only [Place.at, Nat.zero_add]
      rw [cell_of_row w' _ _ _ _ _ hnew]
      exact hv
    · obtain ⟨p, hp, ok⟩ := h.blk b k hb
      exact ⟨p, he.pl b p hp, ok.move he (fun hc => hold _ (h.blk_lt hb hp hc).1)⟩
  · simp only [AHeap.push] at hb hb'
    rcases setPlace_look hp with ⟨e1, e2⟩ | ⟨e1, e2⟩ <;> rcases setPlace_look hp' with ⟨e3, e4⟩ | ⟨e3, e4⟩
    · rw [e1, e3]
    · rw [if_neg e3] at hb'
      have := (h.blk_lt hb' e4 hc').1
      rw [← e, e2] at this
      exact absurd this (Nat.lt_irrefl _)
    · rw [if_neg e1] at hb
      have := (h.blk_lt hb e2 hc).1
      rw [e, e4] at this
      exact absurd this (Nat.lt_irrefl _)
    · rw [if_neg e1] at hb
      rw [if_neg e3] at hb'
      exact h.inj b b' k k' p p' hb hb' e2 e4 hc hc' e
  · simp only [AHeap.push] at hb
    have := h.new b (by omega)
    refine ⟨?_, ?_⟩
    · simp only [AHeap.push]; rw [if_neg (by omega)]; exact this.1
    · rw [setPlace_none (by omega)]; exact this.2
  · have hr : φ.fz r = some o := hr
    obtain ⟨h1, h2⟩ := h.fz r o hr
    have hlt : r < w.heap.size := (Array.getElem?_eq_some_iff.1 h1).1
    refine ⟨by rw [hold r hlt]; exact h1, fun hm => ?_⟩
    rcases mine r hm with e | hm
    · omega
    · exact h2 hm
theorem Goes.upd {φ : Phi} {base : Nat} {H : AHeap} {w w' : World} (h : Rel φ base H w) {b : Nat} {k : Blk} {p : Place} (hb : H.get b = some k) (hp : φ b = some p) (ho : p.cap ≠ 0)
    {cells : Array Value} {rows : List (List SV)} (hnew : w'.heap[p.blk]? = some (.cells cells k.ty (0, 0))) (hother : ∀ r, r ≠ p.blk → w'.heap[r]? = w.heap[r]?) (hsize : w'.heap.size = w.heap.size) (hos : w'.os = w.os) (htp : w'.tape = w.tape) (hout : w'.output = w.output)
    (hrows : Holds φ cells k.sz rows) (hsz : cells.size = p.cap * k.sz) (hcap : rows.length ≤ p.cap) :
    Goes φ base H w φ (H.upd b { k with rows := rows }) w' := by
  obtain ⟨p', hp', ok⟩ := h.blk b k hb
  rw [hp] at hp'
  obtain rfl := Option.some.inj hp'
  obtain ⟨o1, o2, o3, o4, cells0, o5, o6⟩ := ok.real ho
  have hmb : Mine φ H p.blk := ⟨b, k, p, hb, hp, ho, rfl⟩
  have mine : ∀ r, Mine φ (H.upd b { k with rows := rows }) r → Mine φ H r := fun r hr => by
    obtain ⟨c, k1, p1, hc, h1, h2, h3⟩ := hr
    simp only [AHeap.upd] at hc
    split at hc
    · subst_vars; exact ⟨_, k, p1, hb, h1, h2, rfl⟩
    · exact ⟨c, k1, p1, hc, h1, h2, h3⟩
  refine ⟨⟨fun c k' hc => ?_, fun c c' k1 k2 p1 p2 hc hc' hp1 hp2 hn1 hn2 e => ?_, fun c hc => ?_, by rw [hsize]; exact h.base, fun r o hr => ?_, nofull rfl⟩, Nat.le_refl _, Ext.refl _, ⟨hos, htp, hout, by omega, fun r hr => hother r (by omega)⟩, fun r hr hm => hother r (fun e => hm (e ▸ hmb)), fun r hr => .inr (mine r hr), fun r o hr => .inl hr⟩
  · simp only [AHeap.upd] at hc
    split at hc
    · subst_vars
      obtain rfl := Option.some.inj hc
      refine ⟨p, hp, ⟨ok.sz, fun i r hr => ?_, .inr ⟨o1, o2, hcap, o4, cells, hnew, hsz⟩⟩⟩
      obtain ⟨hl, hc⟩ := hrows i r hr
      refine ⟨hl, fun j x hx => ?_⟩
      obtain ⟨v, hv, hs⟩ := hc j x hx
      refine ⟨v, ?_, hs⟩
      simp only [Place.at, o1, Nat.zero_add]
      rw [cell_of_row w' _ _ _ _ _ hnew]
      exact hv
    · rename_i hne
      obtain ⟨q, hq, okq⟩ := h.blk c k' hc
      exact ⟨q, hq, okq.move (Ext.refl _) (fun hc' => hother _ (fun e => hne (h.inj c b k' k q p hc hb hq hp hc' ho e)))⟩
  · simp only [AHeap.upd] at hc hc'
    have back : ∀ {c : Nat} {k1 : Blk}, (if c = b then some { k with rows := rows } else H.get c) = some k1 → ∃ k0, H.get c = some k0 := fun {c k1} hc => by
      split at hc
      · subst_vars; exact ⟨k, hb⟩
      · exact ⟨k1, hc⟩
    obtain ⟨ka, ha⟩ := back hc
    obtain ⟨kb, hb'⟩ := back hc'
    exact h.inj c c' ka kb p1 p2 ha hb' hp1 hp2 hn1 hn2 e
  · have := h.new c hc
    refine ⟨?_, this.2⟩
    simp only [AHeap.upd]
    split
    · subst_vars; rw [this.1] at hb; cases hb
    · exact this.1
  · obtain ⟨h1, h2⟩ := h.fz r o hr
    exact ⟨by rw [hother r (fun e => h2 (e ▸ hmb))]; exact h1, fun hm => h2 (mine r hm)⟩
end Go.Proofs.YtoeieoapnhhaeaaGreat.Den
namespace Go.Proofs.YtoeieoapnhhaeaaGreat.Den
open Go.RowKit
set_option linter.unusedVariables false
set_option linter.unusedSimpArgs false
def XS (P : Program) (φ : Phi) (base : Nat) (H : AHeap) (w : World) (o : Oper) (ρ : Operand → Value) (x : AV) (H' : AHeap) : Prop :=
  ∃ v φ' w', ((execOp ρ o).run P w = .ok (.value v) w' ∨ ((execOp ρ o).run P w = .ok .skip w' ∧ v = undef)) ∧ Goes φ base H w φ' H' w' ∧ VR φ' x v
theorem beq_false_of {a b : ByteArray} (h : ¬ a = b) : (a == b) = false := by
  cases hc : (a == b) with
  | false => rfl
  | true =>
    rw [beq_toListBytes, ByteArray.toList_eq, ByteArray.toList_eq] at hc
    exact absurd (ByteArray.ext (Array.toList_inj.mp (by simpa using hc))) h
theorem eqFields_ok {P : Program} {d : Nat} {φ : Phi} {w : World} {xs ys : Array Value} : ∀ (fs : List Field) (off : Nat) (ks : List Nat) (l l' : List SV) (b : Bool), plainKinds P fs off = some ks → SRs φ l (xs.toList.drop off) → SRs φ l' (ys.toList.drop off) → aeq ks l l' = some b → (Op.eqFields (d + 1) xs ys fs).run P w = .ok b w
  | [], off, ks, l, l', b, hk, _, _, h => by
    simp only [plainKinds, Option.some.injEq] at hk
    subst hk
    cases l <;> cases l' <;> simp [aeq] at h
    subst h
    simp [Op.eqFields]
  | f :: fs, off, ks, l, l', b, hk, hx, hy, h => by
    unfold plainKinds at hk
    split at hk
    · rename_i hno
      obtain ⟨hn, ho⟩ := hno
      obtain ⟨k, hk1, hk⟩ := Option.bind_eq_some_iff.1 hk
      obtain ⟨ks', hks, rfl⟩ := Option.map_eq_some_iff.1 hk
      cases l with
      | nil => rcases k with _ | _ | _ | k <;> simp [aeq] at h
      | cons x l =>
        cases l' with
        | nil => rcases k with _ | _ | _ | k <;> cases x <;> simp [aeq] at h
        | cons y l' =>
          obtain ⟨va, e1, r1⟩ := hx.get 0 x rfl
          obtain ⟨vb, e2, r2⟩ := hy.get 0 y rfl
          have hx' := hx.drop 1
          have hy' := hy.drop 1
          simp only [List.drop_succ_cons, List.drop_zero, List.drop_drop] at hx' hy'
          have ex : xs[f.offset]? = some va := by rw [ho]; simpa using e1
          have ey : ys[f.offset]? = some vb := by rw [ho]; simpa using e2
          have pa : ∀ {zs : Array Value} {v : Value}, zs[f.offset]? = some v → (part f.type zs f.offset).run P w = .ok v w := fun {zs v} hz => by
            split at hk1
            · rename_i hu; simp [part, isAgg, run_underlying hu, hz]
            · rename_i hu; simp [part, isAgg, run_underlying hu, hz]
            · rename_i hu; simp [part, isAgg, run_underlying hu, hz]
            · cases hk1
          have ih : ∀ b', aeq ks' l l' = some b' → (Op.eqFields (d + 1) xs ys fs).run P w = .ok b' w := fun b' h' => eqFields_ok fs (off + 1) ks' l l' b' hks hx' hy' h'
          simp only [Op.eqFields, hn, ne_eq, not_false_eq_true, if_true, Sem.run_bind, pa ex, pa ey, Result.andThen_ok]
          split at hk1
          · rename_i kk hu
            obtain rfl := (Option.some.inj hk1).symm
            cases x <;> cases y <;> try (simp [aeq] at h; done)
            case int.int k m k' m' =>
              simp only [aeq] at h
              split at h
              · rename_i hkk
                subst hkk
                obtain ⟨t', ht', rfl⟩ := Option.map_eq_some_iff.1 h
                have r1 : va = .int k m := r1
                have r2 : vb = .int k m' := r2
                subst r1
                subst r2
                rw [run_equalIn_int w d f.type _ _ m m' hu]
                by_cases hmm : m = m' <;> simp [hmm, ih t' ht', Result.andThen]
              · cases h
          · rename_i hu
            obtain rfl := (Option.some.inj hk1).symm
            cases x <;> cases y <;> try (simp [aeq] at h; done)
            case bool.bool m m' =>
              simp only [aeq] at h
              obtain ⟨t', ht', rfl⟩ := Option.map_eq_some_iff.1 h
              have r1 : va = .bool m := r1
              have r2 : vb = .bool m' := r2
              subst r1
              subst r2
              rw [run_equalIn_bool w d f.type m m' hu]
              by_cases hmm : m = m' <;> simp [hmm, ih t' ht', Result.andThen]
          · rename_i hu
            obtain rfl := (Option.some.inj hk1).symm
            cases x <;> cases y <;> try (simp [aeq] at h; done)
            case str.str m m' =>
              simp only [aeq] at h
              obtain ⟨t', ht', rfl⟩ := Option.map_eq_some_iff.1 h
              have r1 : va = .string m := r1
              have r2 : vb = .string m' := r2
              subst r1
              subst r2
              rw [run_equalIn_string w d f.type m m' hu]
              by_cases hmm : m = m'
              · simp [hmm, ih t' ht', Result.andThen]
              · have : (m.toList == m'.toList) = false := by rw [← beq_toListBytes]; exact beq_false_of hmm
                simp [hmm, this, ih t' ht', Result.andThen]
          · cases hk1
    · cases hk
section
variable {P : Program} {φ : Phi} {base : Nat} {H H' : AHeap} {w : World} {o : Oper} {ρ : Operand → Value} {ev : Opd → AV} {x : AV}
theorem XS.pure (hr : Rel φ base H w) {v : Value} (h : (execOp ρ o).run P w = .ok (.value v) w) (hv : VR φ x v) : XS P φ base H w o ρ x H :=
  ⟨v, φ, w, .inl h, Goes.refl hr, hv⟩
def Evs (φ : Phi) (ev : Opd → AV) (ρ : Operand → Value) : Prop := ∀ x y, opd x = some y → VR φ (ev y) (ρ x)
theorem vr_s {x : SV} {v : Value} (h : VR φ (.s x) v) : SR φ x v := h
theorem vr_fptr {r : List SV} {j : Nat} {v : Value} (h : VR φ (.s (.fptr r j)) v) : ∃ b off o, v = .pointer (some ⟨b, off + j, none⟩) ∧ φ.fz b = some o ∧ DRs φ.fz r o off := by
  have h : DR φ.fz (.fptr r j) v := h
  simpa only [DR] using h
theorem fptr_vr {r : List SV} {j : Nat} {v : Value} (h : ∃ b off o, v = .pointer (some ⟨b, off + j, none⟩) ∧ φ.fz b = some o ∧ DRs φ.fz r o off) : VR φ (.s (.fptr r j)) v := by
  show DR φ.fz (.fptr r j) v
  simpa only [DR] using h
theorem lst_vr {sz : Nat} {rows : List (List SV)} {v : Value} (h : (rows = [] ∧ ∃ a c, v = .slice a 0 c ∧ c ≤ maxLen ∧ (a = none → c = 0)) ∨ ∃ b off c o, v = .slice (some ⟨b, off, none⟩) rows.length c ∧ rows.length ≤ c ∧ c ≤ maxLen ∧ φ.fz b = some o ∧ DRss φ.fz sz rows o off) : VR φ (.s (.lst sz rows)) v := by
  show DR φ.fz (.lst sz rows) v
  simpa only [DR] using h
theorem emp_vr {v : Value} (h : ∃ a, v = .slice a 0 0) : VR φ (.s .emp) v := by
  show DR φ.fz .emp v
  simpa only [DR] using h
theorem vr_lst {sz : Nat} {rows : List (List SV)} {v : Value} (h : VR φ (.s (.lst sz rows)) v) : (rows = [] ∧ ∃ a c, v = .slice a 0 c ∧ c ≤ maxLen ∧ (a = none → c = 0)) ∨ ∃ b off c o, v = .slice (some ⟨b, off, none⟩) rows.length c ∧ rows.length ≤ c ∧ c ≤ maxLen ∧ φ.fz b = some o ∧ DRss φ.fz sz rows o off := by
  have h : DR φ.fz (.lst sz rows) v := h
  simpa only [DR] using h
theorem vr_emp {v : Value} (h : VR φ (.s .emp) v) : ∃ a, v = .slice a 0 0 := by
  have h : DR φ.fz .emp v := h
  simpa only [DR] using h
theorem vr_nemp {v : Value} (h : VR φ (.s .nemp) v) : ∃ a c, v = .slice (some a) 0 c := by
  have h : DR φ.fz .nemp v := h
  simpa only [DR] using h
theorem fz_vals (hr : Rel φ base H w) {b : Nat} {o : Obj} (hf : φ.fz b = some o) : ∀ {l : List SV} {off : Nat}, DRs φ.fz l o off → ∃ vs : List Value, SRs φ l vs ∧ ∀ (q : Nat) v, vs[q]? = some v → w.cell? ((⟨b, off, none⟩ : Addr).add q) = some v
  | [], off, _ => ⟨[], .nil, fun q v h => by simp at h⟩
  | x :: l, off, h => by
    simp only [DRs] at h
    obtain ⟨⟨v, hv, hd⟩, h⟩ := h
    obtain ⟨vs, h1, h2⟩ := fz_vals hr hf h
    refine ⟨v :: vs, .cons (SR.dr hd) h1, fun q u hu => ?_⟩
    have hadd : ∀ (m k : Nat), (⟨b, m, none⟩ : Addr).add k = ⟨b, m + k, none⟩ := fun m k => by unfold Addr.add; split <;> simp_all
    cases q with
    | zero =>
      simp at hu
      subst hu
      rw [hadd, Nat.add_zero, cell_of_obj (hr.fz b o hf).1]
      exact hv
    | succ q =>
      have := h2 q u (by simpa using hu)
      rw [hadd] at this ⊢
      rwa [show off + 1 + q = off + (q + 1) by omega] at this
theorem vr_agg {l : List SV} {v : Value} (h : VR φ (.agg l) v) : ∃ cs : Array Value, v = .agg cs ∧ SRs φ l cs.toList := h
theorem vr_cells {y : AV} {v : Value} {l : List SV} (h : VR φ y v) (hl : y.cells = some l) : SRs φ l v.cells.toList := by
  cases y with
  | no => cases hl
  | tup l => cases hl
  | s x =>
    simp only [AV.cells, Option.some.injEq] at hl
    subst hl
    have h1 := (vr_s h).one
    cases v <;> first | exact .cons h .nil | (simp [Value.oneCell'] at h1; done)
  | agg l' =>
    simp only [AV.cells, Option.some.injEq] at hl
    subst hl
    obtain ⟨cs, rfl, hs⟩ := vr_agg h
    exact hs
theorem sv_ok {v : Value} {x : SV} (h : sv v = some x) : SR φ x v := by
  unfold sv at h
  split at h <;> cases h <;> exact (rfl : _ = _)
theorem svs_ok : ∀ {vs : List Value} {l : List SV}, svs vs = some l → SRs φ l vs
  | [], l, h => by simp [svs] at h; subst h; exact .nil
  | v :: r, l, h => by
    unfold svs at h
    cases h1 : sv v with
    | none => rw [h1] at h; cases h
    | some x =>
      rw [h1] at h
      cases h2 : svs r with
      | none => rw [h2] at h; cases h
      | some l' =>
        rw [h2] at h
        simp at h
        subst h
        exact .cons (sv_ok h1) (svs_ok h2)
def evf (f : List (Nat × AV)) : Opd → AV
  | .t n => fget f n
  | .c x => .s x
  | .ca l => .agg l
theorem evs_frame {N : Nat} {f : List (Nat × AV)} {a : Act} (h : FR φ N f a) : Evs φ (evf f) a.eval := by
  intro x y hy
  unfold opd at hy
  split at hy
  · obtain rfl := (Option.some.inj hy).symm; exact h.2.2 _
  · cases hs : svs (Array.toList _) with
    | none => rw [hs] at hy; cases hy
    | some l => rw [hs] at hy; obtain rfl := (Option.some.inj hy).symm; exact ⟨_, rfl, svs_ok hs⟩
  · cases hs : sv _ with
    | none => rw [hs] at hy; cases hy
    | some l => rw [hs] at hy; obtain rfl := (Option.some.inj hy).symm; exact sv_ok (φ := φ) hs
  · obtain rfl := (Option.some.inj hy).symm; exact ⟨#[], rfl, .nil⟩
  · cases hy
theorem map_some {α β : Type} {f : α → β} {x : Option α} {y : β} (h : x.map f = some y) : ∃ a, x = some a ∧ f a = y := by
  cases x with
  | none => cases h
  | some a => exact ⟨a, rfl, Option.some.inj h⟩
theorem bind_some {α β : Type} {f : α → Option β} {x : Option α} {y : β} (h : x.bind f = some y) : ∃ a, x = some a ∧ f a = some y := by
  cases x with
  | none => cases h
  | some a => exact ⟨a, rfl, h⟩
theorem pickv_vr {t : Bool} {y z : AV} {u v : Value} (h : VR φ y u) (k : VR φ z v) : VR φ (pickv t y z) (if t then u else v) := by
  unfold pickv
  split
  · cases t <;> simp_all [VR, VR0, SR, DR]
  · split
    · subst_vars; cases t <;> simp_all [VR, VR0, SR, DR]
    · cases t <;> assumption
  · cases t <;> assumption
theorem exec_bin {op : BinOp} {t yt : TypeId} {a b : Operand} {v : Value} (ho : o.op = .binOp op t a b yt) (hg : (eqGuard op t a b (ρ a) (ρ b)).run P w = .ok () w) (hb : (binOp op t (ρ a) (ρ b)).run P w = .ok v w) : (execOp ρ o).run P w = .ok (.value v) w := by
  simp only [execOp, ho, Sem.run_bind, hg, Result.andThen_ok, hb]
  rfl
theorem guard_bool {op : BinOp} {t : TypeId} {a b : Operand} {p q : Bool} : (eqGuard op t a b (.bool p) (.bool q)).run P w = .ok () w := by cases op <;> rfl
theorem guard_int {op : BinOp} {t : TypeId} {a b : Operand} {k k' : IntKind} {p q : Int} : (eqGuard op t a b (.int k p) (.int k' q)).run P w = .ok () w := by cases op <;> rfl
theorem guard_str {op : BinOp} {t : TypeId} {a b : Operand} {p q : ByteArray} : (eqGuard op t a b (.string p) (.string q)).run P w = .ok () w := by cases op <;> rfl
theorem guard_slice {op : BinOp} {t : TypeId} {a b : Operand} {p q : Option Addr} {n m n' m' : Nat} : (eqGuard op t a b (.slice p n m) (.slice q n' m')).run P w = .ok () w := by cases op <;> rfl
variable (hr : Rel φ base H w) (he : Evs φ ev ρ)
include hr he
set_option linter.unusedSectionVars false
theorem xs_mov {a : Operand} {a' : Opd} (ho : o.op = .move a ∨ o.op = .assign a) (ha : opd a = some a') (hx : xop (.mov a') ev H = some (x, H')) : XS P φ base H w o ρ x H' := by
  simp only [xop, Option.some.injEq, Prod.mk.injEq] at hx
  obtain ⟨rfl, rfl⟩ := hx
  exact XS.pure hr (v := ρ a) (by rcases ho with ho | ho <;> simp [execOp, ho]) (he a a' ha)
theorem xs_pick {c a b : Operand} {c' a' b' : Opd} (ho : o.op = .pick c a b) (hc : opd c = some c') (ha : opd a = some a') (hb : opd b = some b') (hx : xop (.pick c' a' b') ev H = some (x, H')) : XS P φ base H w o ρ x H' := by
  simp only [xop] at hx
  split at hx
  · rename_i t ht
    simp only [Option.some.injEq, Prod.mk.injEq] at hx
    obtain ⟨rfl, rfl⟩ := hx
    have h1 := he c c' hc
    rw [ht] at h1
    have h1 : ρ c = .bool t := h1
    exact XS.pure hr (v := if t then ρ a else ρ b) (by simp [execOp, ho, h1, asBool]) (pickv_vr (he a a' ha) (he b b' hb))
  · cases hx
theorem xs_load {t : TypeId} {a : Operand} {a' : Opd} {d : TypeDesc} {i : TypeInfo} (ho : o.op = .load t a) (hd : P.underlying t = some d) (hi : P.info? t = some i) (ha : opd a = some a')
    (hx : xop (if isAggD d then .loadn i.size a' else .load1 a') ev H = some (x, H')) : XS P φ base H w o ρ x H' := by
  have h1 := he a a' ha
  split at hx
  · rename_i hag
    simp only [xop] at hx
    split at hx
    · rename_i b e j hp
      rw [hp] at h1
      obtain ⟨ad, hv, p, hφ, rfl⟩ := vr_s h1
      obtain ⟨l, hl, hx⟩ := map_some hx
      simp only [Prod.mk.injEq] at hx
      obtain ⟨rfl, rfl⟩ := hx
      obtain ⟨p', vs, hp', hn, hs, hc⟩ := hr.cells hl
      rw [hφ] at hp'
      obtain rfl := Option.some.inj hp'
      have hlen : vs.length = i.size := by rw [← hs.length, hn]
      have hrun := run_loadCells_list (P := P) w (p.at (e * p.sz + j)) vs (fun q v hv => by rw [Place.at_add]; exact hc q v hv)
      rw [hlen] at hrun
      refine XS.pure hr (v := .agg vs.toArray) ?_ ⟨vs.toArray, rfl, by simpa using hs⟩
      cases d <;> simp [isAggD] at hag <;> simp [execOp, ho, hv, Instr.loadAt, Instr.sureAddr, loadVar, isAgg, run_underlying hd, sizeOf, typeInfo, hi, hrun]
    · rename_i r j hp
      rw [hp] at h1
      obtain ⟨bl, off, ob, hv, hf, hd2⟩ := vr_fptr h1
      split at hx
      · rename_i hle
        simp only [Option.some.injEq, Prod.mk.injEq] at hx
        obtain ⟨rfl, rfl⟩ := hx
        obtain ⟨vs, hs, hc⟩ := fz_vals hr hf (l := (r.drop j).take i.size) (off := off + j) (DRs.of_get fun q x hx => by
          rw [List.getElem?_take] at hx
          split at hx
          · rw [List.getElem?_drop] at hx
            have := hd2.get (j + q) x hx
            rwa [← Nat.add_assoc] at this
          · cases hx)
        have hlen : vs.length = i.size := by rw [← hs.length]; simp; omega
        have hrun := run_loadCells_list (P := P) w ⟨bl, off + j, none⟩ vs hc
        rw [hlen] at hrun
        refine XS.pure hr (v := .agg vs.toArray) ?_ ⟨vs.toArray, rfl, by simpa using hs⟩
        cases d <;> simp [isAggD] at hag <;> simp [execOp, ho, hv, Instr.loadAt, Instr.sureAddr, loadVar, isAgg, run_underlying hd, sizeOf, typeInfo, hi, hrun]
      · cases hx
    · cases hx
  · rename_i hag
    simp only [xop] at hx
    split at hx
    · rename_i b e j hp
      rw [hp] at h1
      obtain ⟨ad, hv, p, hφ, rfl⟩ := vr_s h1
      obtain ⟨y, hy, hx⟩ := map_some hx
      simp only [Prod.mk.injEq] at hx
      obtain ⟨rfl, rfl⟩ := hx
      obtain ⟨p', u, hp', hc, hs⟩ := hr.cell hy
      rw [hφ] at hp'
      obtain rfl := Option.some.inj hp'
      refine XS.pure hr (v := u) ?_ hs
      cases d <;> simp [isAggD] at hag <;> simp [execOp, ho, hv, Instr.loadAt, Instr.sureAddr, loadVar, isAgg, run_underlying hd, run_load, hc]
    · rename_i r j hp
      rw [hp] at h1
      obtain ⟨bl, off, ob, hv, hf, hd2⟩ := vr_fptr h1
      obtain ⟨y, hy, hx⟩ := map_some hx
      simp only [Prod.mk.injEq] at hx
      obtain ⟨rfl, rfl⟩ := hx
      obtain ⟨u, hu, hs⟩ := hd2.get j y hy
      have hc : w.cell? ⟨bl, off + j, none⟩ = some u := by rw [cell_of_obj (hr.fz bl ob hf).1]; exact hu
      refine XS.pure hr (v := u) ?_ (SR.dr hs)
      cases d <;> simp [isAggD] at hag <;> simp [execOp, ho, hv, Instr.loadAt, Instr.sureAddr, loadVar, isAgg, run_underlying hd, run_load, hc]
    · cases hx
theorem xs_faddr {t : TypeId} {a : Operand} {f : Nat} {a' : Opd} {fs : Array Field} {d : Field} {i : TypeInfo} (ho : o.op = .fieldAddr t a f) (hd : P.underlying t = some (.struct fs)) (hf : fs[f]? = some d) (hi : P.info? d.type = some i) (hz : i.size ≠ 0) (ha : opd a = some a')
    (hx : xop (.faddr d.offset a') ev H = some (x, H')) : XS P φ base H w o ρ x H' := by
  have h1 := he a a' ha
  simp only [xop] at hx
  split at hx
  · rename_i b e j hp
    rw [hp] at h1
    obtain ⟨ad, hv, p, hφ, rfl⟩ := vr_s h1
    simp only [Option.some.injEq, Prod.mk.injEq] at hx
    obtain ⟨rfl, rfl⟩ := hx
    refine XS.pure hr (v := .pointer (some (p.at (e * p.sz + (j + d.offset))))) ?_ ⟨_, rfl, p, hφ, rfl⟩
    simp [execOp, ho, hv, Instr.fieldAt, Instr.sureAddr, run_underlying hd, hf, fieldPlace, sizeOf, typeInfo, hi, hz, Place.at_add, Nat.add_assoc]
  · rename_i r j hp
    rw [hp] at h1
    obtain ⟨bl, off, ob, hv, hf2, hd2⟩ := vr_fptr h1
    simp only [Option.some.injEq, Prod.mk.injEq] at hx
    obtain ⟨rfl, rfl⟩ := hx
    have hadd : (⟨bl, off + j, none⟩ : Addr).add d.offset = ⟨bl, off + (j + d.offset), none⟩ := by unfold Addr.add; split <;> simp_all [Nat.add_assoc]
    refine XS.pure hr (v := .pointer (some ⟨bl, off + (j + d.offset), none⟩)) ?_ (fptr_vr ⟨bl, off, ob, rfl, hf2, hd2⟩)
    simp [execOp, ho, hv, Instr.fieldAt, Instr.sureAddr, run_underlying hd, hf, fieldPlace, sizeOf, typeInfo, hi, hz, hadd]
  · cases hx
theorem has_place {b sz : Nat} (h : H.has b sz = true) : ∃ p, φ b = some p ∧ p.sz = sz := by
  unfold AHeap.has at h
  split at h
  · rename_i k hk
    obtain ⟨p, hp, ok⟩ := hr.blk b k hk
    exact ⟨p, hp, by rw [ok.sz]; exact of_decide_eq_true h⟩
  · cases h
theorem xs_iaddr {t e : TypeId} {a ix : Operand} {a' i' : Opd} {i : TypeInfo} (ho : o.op = .indexAddr t a ix) (hd : P.underlying t = some (.slice e)) (hi : P.info? e = some i) (ha : opd a = some a') (hix : opd ix = some i')
    (hx : xop (.iaddr i.size a' i') ev H = some (x, H')) : XS P φ base H w o ρ x H' := by
  have h1 := he a a' ha
  have h2 := he ix i' hix
  simp only [xop] at hx
  split at hx
  · rename_i b f n c k0 k hp hq
    rw [hp] at h1
    rw [hq] at h2
    obtain ⟨ad, c', p', hv, hn1, hn2, hn3, hp', hn4⟩ := vr_s h1
    have hw : ρ ix = .int k0 k := h2
    split at hx
    · rename_i hb
      obtain ⟨b1, b2, b3⟩ := hb
      simp only [Option.some.injEq, Prod.mk.injEq] at hx
      obtain ⟨rfl, rfl⟩ := hx
      obtain ⟨p, hφ, hsz⟩ := has_place hr he b3
      have hc' : c' ≠ 0 := by omega
      obtain ⟨rfl, hcap⟩ := hn4.resolve_left hc'
      rw [hφ] at hp'
      obtain rfl := Option.some.inj hp'
      refine XS.pure hr (v := .pointer (some (p.at ((f + k.toNat) * p.sz + 0)))) ?_ ⟨_, rfl, p, hφ, rfl⟩
      simp [execOp, ho, hv, hw, Instr.indexAt, asIntOf, run_underlying hd, b1, b2, sizeOf, typeInfo, hi, Place.at_add, Nat.add_mul, hsz]
    · cases hx
  · rename_i sz' rows k0 k hp hq
    rw [hp] at h1
    rw [hq] at h2
    have hw : ρ ix = .int k0 k := h2
    split at hx
    · rename_i hb
      obtain ⟨b1, rfl⟩ := hb
      obtain ⟨r, hrw, hx⟩ := map_some hx
      simp only [Prod.mk.injEq] at hx
      obtain ⟨rfl, rfl⟩ := hx
      have hlt : k.toNat < rows.length := (List.getElem?_eq_some_iff.1 hrw).1
      rcases vr_lst h1 with ⟨rfl, _⟩ | ⟨bl, off, c, ob, hv, hc1, hc2, hf, hss⟩
      · cases hlt
      have b2 : k < (rows.length : Int) := by omega
      have hadd : (⟨bl, off, none⟩ : Addr).add (k.toNat * i.size) = ⟨bl, off + k.toNat * i.size, none⟩ := by unfold Addr.add; split <;> simp_all
      refine XS.pure hr (v := .pointer (some ⟨bl, off + k.toNat * i.size, none⟩)) ?_ (fptr_vr ⟨bl, off + k.toNat * i.size, ob, rfl, hf, (hss.get k.toNat r hrw).2⟩)
      simp [execOp, ho, hv, hw, Instr.indexAt, asIntOf, run_underlying hd, b1, b2, sizeOf, typeInfo, hi, hadd]
    · cases hx
  · cases hx
theorem xs_nilck {a : Operand} {a' : Opd} (ho : o.op = .nilCheck a) (ha : opd a = some a') (hx : xop (.nilck a') ev H = some (x, H')) : XS P φ base H w o ρ x H' := by
  have h1 := he a a' ha
  simp only [xop] at hx
  split at hx
  · rename_i b e j hp
    rw [hp] at h1
    simp only [Option.some.injEq, Prod.mk.injEq] at hx
    obtain ⟨rfl, rfl⟩ := hx
    obtain ⟨ad, hv, k⟩ := vr_s h1
    exact XS.pure hr (v := ρ a) (by simp [execOp, ho, hv]) h1
  · rename_i f cs hp
    rw [hp] at h1
    simp only [Option.some.injEq, Prod.mk.injEq] at hx
    obtain ⟨rfl, rfl⟩ := hx
    obtain ⟨ad, hv, k⟩ := vr_s h1
    exact XS.pure hr (v := ρ a) (by simp [execOp, ho, hv]) h1
  · rename_i r j hp
    rw [hp] at h1
    simp only [Option.some.injEq, Prod.mk.injEq] at hx
    obtain ⟨rfl, rfl⟩ := hx
    obtain ⟨bl, off, ob, hv, hf2, hd2⟩ := vr_fptr h1
    exact XS.pure hr (v := ρ a) (by simp [execOp, ho, hv]) h1
  · cases hx
theorem xs_extract {a : Operand} {k : Nat} {a' : Opd} (ho : o.op = .extract a k) (ha : opd a = some a') (hx : xop (.extract a' k) ev H = some (x, H')) : XS P φ base H w o ρ x H' := by
  have h1 := he a a' ha
  simp only [xop] at hx
  split at hx
  · rename_i l hp
    rw [hp] at h1
    obtain ⟨vs, hv, hs⟩ := h1
    obtain ⟨y, hy, hx⟩ := map_some hx
    simp only [Prod.mk.injEq] at hx
    obtain ⟨rfl, rfl⟩ := hx
    obtain ⟨u, hu, h0⟩ := hs.get k y hy
    have hu' : vs[k]? = some u := by simpa using hu
    exact XS.pure hr (v := u) (by simp [execOp, ho, hv, Instr.extract, hu']) (VR.of0 h0)
  · cases hx
theorem xs_un {op : UnOp} {t : TypeId} {a : Operand} {a' : Opd} (ho : o.op = .unOp op t a) (ha : opd a = some a') (hx : xop (.un op a') ev H = some (x, H')) : XS P φ base H w o ρ x H' := by
  have h1 := he a a' ha
  simp only [xop] at hx
  split at hx
  · rename_i b hp
    rw [hp] at h1
    simp only [Option.some.injEq, Prod.mk.injEq] at hx
    obtain ⟨rfl, rfl⟩ := hx
    have hv : ρ a = .bool b := h1
    exact XS.pure hr (v := .bool !b) (by simp [execOp, ho, hv, Op.unary]) rfl
  · rename_i k n hp
    rw [hp] at h1
    simp only [Option.some.injEq, Prod.mk.injEq] at hx
    obtain ⟨rfl, rfl⟩ := hx
    have hv : ρ a = .int k n := h1
    exact XS.pure hr (v := .int k (k.wrap (0 - n))) (by simp [execOp, ho, hv, Op.unary, Op.intArith]) rfl
  · cases hx
theorem xs_toInt {s d : TypeId} {a : Operand} {a' : Opd} {k0 k : IntKind} (ho : o.op = .convert s d a) (hs : P.underlying s = some (.int k0)) (hd : P.underlying d = some (.int k)) (ha : opd a = some a') (hx : xop (.toInt k a') ev H = some (x, H')) : XS P φ base H w o ρ x H' := by
  have h1 := he a a' ha
  simp only [xop] at hx
  split at hx
  · rename_i q n hp
    rw [hp] at h1
    simp only [Option.some.injEq, Prod.mk.injEq] at hx
    obtain ⟨rfl, rfl⟩ := hx
    have hv : ρ a = .int q n := h1
    exact XS.pure hr (v := .int k (k.wrap n)) (by simp [execOp, ho, hv, convert, run_underlying hs, run_underlying hd, Conv.intToInt]) rfl
  · cases hx
theorem xs_eqb {neg : Bool} {t : TypeId} {a b : Operand} {yt : TypeId} {a' b' : Opd} (ho : o.op = .binOp (if neg then .neq else .eql) t a b yt) (ht : P.underlying t = some .bool) (ha : opd a = some a') (hb : opd b = some b') (hx : xop (.eqb neg a' b') ev H = some (x, H')) : XS P φ base H w o ρ x H' := by
  have h1 := he a a' ha
  have h2 := he b b' hb
  simp only [xop] at hx
  split at hx
  · rename_i p q hp hq
    rw [hp] at h1
    rw [hq] at h2
    simp only [Option.some.injEq, Prod.mk.injEq] at hx
    obtain ⟨rfl, rfl⟩ := hx
    have hv : ρ a = .bool p := h1
    have hw : ρ b = .bool q := h2
    cases neg
    · exact XS.pure hr (v := .bool (p == q)) (exec_bin ho (by rw [hv, hw]; exact guard_bool) (by rw [hv, hw]; exact run_eql_bool w t p q ht)) (by cases p <;> cases q <;> rfl)
    · exact XS.pure hr (v := .bool (!(p == q))) (exec_bin ho (by rw [hv, hw]; exact guard_bool) (by rw [hv, hw]; exact run_neq_bool w t p q ht)) (by cases p <;> cases q <;> rfl)
  · cases hx
theorem xs_eqagg {neg : Bool} {t : TypeId} {fs : Array Field} {ks : List Nat} {a b : Operand} {yt : TypeId} {a' b' : Opd} (ho : o.op = .binOp (if neg then .neq else .eql) t a b yt) (ht : P.underlying t = some (.struct fs)) (hf : plainKinds P fs.toList 0 = some ks) (hst : P.stoodInHeld t = false) (hgd : P.eqGuardType P.depth t = false) (ha : opd a = some a') (hb : opd b = some b') (hx : xop (.eqagg neg ks a' b') ev H = some (x, H')) : XS P φ base H w o ρ x H' := by
  have h1 := he a a' ha
  have h2 := he b b' hb
  simp only [xop] at hx
  split at hx
  · rename_i l l' hp hq
    rw [hp] at h1
    rw [hq] at h2
    obtain ⟨t', ht', hx⟩ := map_some hx
    simp only [Prod.mk.injEq] at hx
    obtain ⟨rfl, rfl⟩ := hx
    obtain ⟨cs, hv, hs⟩ := h1
    obtain ⟨cs', hw, hs'⟩ := h2
    have hfo : P.fieldsOf t = fs := by simp [Program.fieldsOf, ht]
    have key : (Op.equalIn 10000 t (.agg cs) (.agg cs')).run P w = .ok t' w := by
      rw [run_equalIn_struct w 9999 t cs cs' (by rw [hfo]; exact ht) hst, hfo]
      exact eqFields_ok (d := 9998) fs.toList 0 ks l l' t' hf (by simpa using hs) (by simpa using hs') ht'
    cases neg
    · exact XS.pure hr (v := .bool t') (exec_bin ho (by rw [hv, hw]; exact run_eqGuard_agg w _ t _ _ cs cs' hgd) (by rw [hv, hw]; show (binOp .eql t _ _).run P w = _; rw [run_eql_struct, key]; rfl)) rfl
    · exact XS.pure hr (v := .bool (!t')) (exec_bin ho (by rw [hv, hw]; exact run_eqGuard_agg w _ t _ _ cs cs' hgd) (by rw [hv, hw]; show (binOp .neq t _ _).run P w = _; rw [run_neq_struct, key]; rfl)) rfl
  · cases hx

omit hr he in
theorem nonnil_sl {b i n c : Nat} {v : Value} (h : VR φ (.s (.sl b i (n + 1) c)) v) : ∃ ad m c', v = .slice (some ad) m c' := by
  obtain ⟨ad, c', p, rfl, h1, h2, h3, h4, h5⟩ := vr_s h
  obtain ⟨rfl, _⟩ := h5.resolve_left (by omega)
  exact ⟨_, _, _, rfl⟩
omit hr he in
theorem nonnil_lst {sz : Nat} {r : List SV} {rs : List (List SV)} {v : Value} (h : VR φ (.s (.lst sz (r :: rs))) v) : ∃ ad m c', v = .slice (some ad) m c' := by
  rcases vr_lst h with ⟨h, _⟩ | ⟨b, off, c, o, rfl, _⟩
  · cases h
  · exact ⟨_, _, _, rfl⟩
omit hr he in
theorem nonnil_nemp {v : Value} (h : VR φ (.s .nemp) v) : ∃ ad m c', v = .slice (some ad) m c' := by
  obtain ⟨a, c, rfl⟩ := vr_nemp h
  exact ⟨_, _, _, rfl⟩
theorem xs_eqnil {neg : Bool} {t e : TypeId} {a b : Operand} {yt : TypeId} {a' b' : Opd} (ho : o.op = .binOp (if neg then .neq else .eql) t a b yt) (ht : P.underlying t = some (.slice e)) (ha : opd a = some a') (hb : opd b = some b') (hx : xop (.eqnil neg a' b') ev H = some (x, H')) : XS P φ base H w o ρ x H' := by
  have h1 := he a a' ha
  have h2 := he b b' hb
  have left : (∃ ad m c', ρ a = .slice (some ad) m c') → ρ b = .slice none 0 0 → XS P φ base H w o ρ (.s (.bool neg)) H := fun ⟨ad, m, c', hv⟩ hw => by
    cases neg
    · exact XS.pure hr (v := .bool false) (exec_bin ho (by rw [hv, hw]; exact guard_slice) (by rw [hv, hw]; exact Lib.run_eql_slice_nil w t e _ _ _ _ _ ht)) rfl
    · exact XS.pure hr (v := .bool true) (exec_bin ho (by rw [hv, hw]; exact guard_slice) (by rw [hv, hw]; exact run_neq_slice_nil_any w t e _ _ _ _ _ ht)) rfl
  simp only [xop] at hx
  split at hx
  · rename_i hp hq
    rw [hp] at h1
    rw [hq] at h2
    simp only [Option.some.injEq, Prod.mk.injEq] at hx
    obtain ⟨rfl, rfl⟩ := hx
    have hv : ρ a = .slice none 0 0 := h1
    have hw : ρ b = .slice none 0 0 := h2
    cases neg
    · exact XS.pure hr (v := .bool true) (exec_bin ho (by rw [hv, hw]; exact guard_slice) (by rw [hv, hw]; exact Lib.run_eql_slice_nil w t e _ _ _ _ _ ht)) rfl
    · exact XS.pure hr (v := .bool false) (exec_bin ho (by rw [hv, hw]; exact guard_slice) (by rw [hv, hw]; exact run_neq_slice_nil_any w t e _ _ _ _ _ ht)) rfl
  · rename_i hp hq
    rw [hp] at h1
    rw [hq] at h2
    simp only [Option.some.injEq, Prod.mk.injEq] at hx
    obtain ⟨rfl, rfl⟩ := hx
    exact left (nonnil_sl h1) h2
  · rename_i hp hq
    rw [hp] at h1
    rw [hq] at h2
    simp only [Option.some.injEq, Prod.mk.injEq] at hx
    obtain ⟨rfl, rfl⟩ := hx
    obtain ⟨ad, m, c', hw⟩ := nonnil_sl h2
    have hv : ρ a = .slice none 0 0 := h1
    cases neg
    · exact XS.pure hr (v := .bool false) (exec_bin ho (by rw [hv, hw]; exact guard_slice) (by rw [hv, hw]; exact run_eql_nil_slice w t e _ _ _ _ _ ht)) rfl
    · exact XS.pure hr (v := .bool true) (exec_bin ho (by rw [hv, hw]; exact guard_slice) (by rw [hv, hw]; exact run_neq_nil_slice w t e _ _ _ _ _ ht)) rfl
  · rename_i hp hq
    rw [hp] at h1
    rw [hq] at h2
    simp only [Option.some.injEq, Prod.mk.injEq] at hx
    obtain ⟨rfl, rfl⟩ := hx
    exact left (nonnil_nemp h1) h2
  · rename_i hp hq
    rw [hp] at h1
    rw [hq] at h2
    simp only [Option.some.injEq, Prod.mk.injEq] at hx
    obtain ⟨rfl, rfl⟩ := hx
    exact left (nonnil_lst h1) h2
  · cases hx

omit hr he in
theorem alen_vr {y : AV} {v : Value} {m : Nat} (h : VR φ y v) (hm : alen y = some m) : ∃ a c, v = .slice a m c := by
  unfold alen at hm
  split at hm
  · obtain rfl := (Option.some.inj hm).symm
    obtain ⟨ad, c', p, rfl, _⟩ := vr_s h
    exact ⟨_, _, rfl⟩
  · obtain rfl := (Option.some.inj hm).symm
    have hv : v = .slice none 0 0 := h
    exact ⟨_, _, hv⟩
  · obtain rfl := (Option.some.inj hm).symm
    obtain ⟨a, rfl⟩ := vr_emp h
    exact ⟨_, _, rfl⟩
  · obtain rfl := (Option.some.inj hm).symm
    obtain ⟨a, c, rfl⟩ := vr_nemp h
    exact ⟨_, _, rfl⟩
  · obtain rfl := (Option.some.inj hm).symm
    rcases vr_lst h with ⟨rfl, a, c, rfl, _⟩ | ⟨b, off, c, o, rfl, _⟩
    · exact ⟨_, _, rfl⟩
    · exact ⟨_, _, rfl⟩
  · cases hm
theorem xs_len {c : Call} {t e : TypeId} {a : Operand} {a' : Opd} (ho : o.op = .call c) (hcc : c.callee = .builtin .len) (hca : c.args.toList = [a]) (hct : c.argTypes.toList = [t]) (ht : P.underlying t = some (.slice e)) (ha : opd a = some a') (hx : xop (.len a') ev H = some (x, H')) : XS P φ base H w o ρ x H' := by
  have h1 := he a a' ha
  obtain ⟨callee, args, argTypes⟩ := c
  simp only at hcc hca hct
  subst hcc
  obtain rfl : args = #[a] := by cases args; simpa using hca
  obtain rfl : argTypes = #[t] := by cases argTypes; simpa using hct
  simp only [xop] at hx
  obtain ⟨m, hm, hx⟩ := map_some hx
  simp only [Prod.mk.injEq] at hx
  obtain ⟨rfl, rfl⟩ := hx
  obtain ⟨ad, c, hv⟩ := alen_vr h1 hm
  refine XS.pure hr (v := .int .i64 m) ?_ rfl
  simp [execOp, ho, resolve, invoke, builtin, Builtin.len_, hv, run_underlying ht, goInt]
theorem xs_slen {c : Call} {t : TypeId} {a : Operand} {a' : Opd} (ho : o.op = .call c) (hcc : c.callee = .builtin .len) (hca : c.args.toList = [a]) (hct : c.argTypes.toList = [t]) (ht : P.underlying t = some .string) (ha : opd a = some a') (hx : xop (.slen a') ev H = some (x, H')) : XS P φ base H w o ρ x H' := by
  have h1 := he a a' ha
  obtain ⟨callee, args, argTypes⟩ := c
  simp only at hcc hca hct
  subst hcc
  obtain rfl : args = #[a] := by cases args; simpa using hca
  obtain rfl : argTypes = #[t] := by cases argTypes; simpa using hct
  simp only [xop] at hx
  split at hx
  · rename_i s hp
    rw [hp] at h1
    simp only [Option.some.injEq, Prod.mk.injEq] at hx
    obtain ⟨rfl, rfl⟩ := hx
    have hv : ρ a = .string s := h1
    refine XS.pure hr (v := .int .i64 s.size) ?_ rfl
    simp [execOp, ho, resolve, invoke, builtin, Builtin.len_, hv, run_underlying ht, goInt]
  · cases hx
theorem xs_bin {op : BinOp} {t yt : TypeId} {a b : Operand} {a' b' : Opd} (ho : o.op = .binOp op t a b yt) (ha : opd a = some a') (hb : opd b = some b') (hx : xop (.bin op a' b') ev H = some (x, H')) : XS P φ base H w o ρ x H' := by
  have h1 := he a a' ha
  have h2 := he b b' hb
  simp only [xop] at hx
  split at hx
  · rename_i p q hp hq
    rw [hp] at h1
    rw [hq] at h2
    obtain ⟨z, hz, hx⟩ := map_some hx
    simp only [Prod.mk.injEq] at hx
    obtain ⟨rfl, rfl⟩ := hx
    unfold abin at hz
    split at hz
    · rename_i k m k' n
      have hv : ρ a = .int k m := h1
      have hw : ρ b = .int k' n := h2
      split at hz
      · split at hz
        · cases hz
          exact XS.pure hr (v := .int k (k.wrap (m * 2 ^ (min n.toNat k.bits)))) (exec_bin ho (by rw [hv, hw]; exact guard_int) (by rw [hv, hw]; simp [binOp, Op.shift, Int.not_lt.2 ‹_›])) rfl
        · cases hz
      · split at hz
        · cases hz
          exact XS.pure hr (v := .int k (m.fdiv (2 ^ (min n.toNat k.bits)))) (exec_bin ho (by rw [hv, hw]; exact guard_int) (by rw [hv, hw]; simp [binOp, Op.shift, Int.not_lt.2 ‹_›])) rfl
        · cases hz
      · split at hz
        · rename_i hk
          subst hk
          split at hz
          · cases hz; exact XS.pure hr (v := .int k (k.wrap (m + n))) (exec_bin ho (by rw [hv, hw]; exact guard_int) (by rw [hv, hw]; simp [binOp, Op.intArith])) rfl
          · cases hz; exact XS.pure hr (v := .int k (k.wrap (m - n))) (exec_bin ho (by rw [hv, hw]; exact guard_int) (by rw [hv, hw]; simp [binOp, Op.intArith])) rfl
          · cases hz; exact XS.pure hr (v := .int k (k.wrap (m * n))) (exec_bin ho (by rw [hv, hw]; exact guard_int) (by rw [hv, hw]; simp [binOp, Op.intArith])) rfl
          · split at hz
            · cases hz
            · cases hz; exact XS.pure hr (v := .int k (k.wrap (m.tdiv n))) (exec_bin ho (by rw [hv, hw]; exact guard_int) (by rw [hv, hw]; simp [binOp, Op.intDiv, ‹¬ n = 0›])) rfl
          · split at hz
            · cases hz
            · cases hz; exact XS.pure hr (v := .int k (m.tmod n)) (exec_bin ho (by rw [hv, hw]; exact guard_int) (by rw [hv, hw]; simp [binOp, Op.intDiv, ‹¬ n = 0›])) rfl
          · cases hz; exact XS.pure hr (v := .int k (k.wrap ((BitVec.ofInt k.bits m &&& BitVec.ofInt k.bits n).toNat))) (exec_bin ho (by rw [hv, hw]; exact guard_int) (by rw [hv, hw]; simp only [binOp, ne_eq, not_true_eq_false, if_false, Op.intBits]; rfl)) rfl
          · cases hz; exact XS.pure hr (v := .int k (k.wrap ((BitVec.ofInt k.bits m ||| BitVec.ofInt k.bits n).toNat))) (exec_bin ho (by rw [hv, hw]; exact guard_int) (by rw [hv, hw]; simp only [binOp, ne_eq, not_true_eq_false, if_false, Op.intBits]; rfl)) rfl
          · cases hz; exact XS.pure hr (v := .int k (k.wrap ((BitVec.ofInt k.bits m ^^^ BitVec.ofInt k.bits n).toNat))) (exec_bin ho (by rw [hv, hw]; exact guard_int) (by rw [hv, hw]; simp only [binOp, ne_eq, not_true_eq_false, if_false, Op.intBits]; rfl)) rfl
          · cases hz; exact XS.pure hr (v := .bool (m == n)) (exec_bin ho (by rw [hv, hw]; exact guard_int) (by rw [hv, hw]; simp [binOp, Op.intCmp])) (by show Value.bool (m == n) = Value.bool (decide (m = n)); congr 1)
          · cases hz; exact XS.pure hr (v := .bool (m != n)) (exec_bin ho (by rw [hv, hw]; exact guard_int) (by rw [hv, hw]; simp [binOp, Op.intCmp])) (by show Value.bool (m != n) = Value.bool (decide (m ≠ n)); by_cases h : m = n <;> simp [h])
          · cases hz; exact XS.pure hr (v := .bool (decide (m < n))) (exec_bin ho (by rw [hv, hw]; exact guard_int) (by rw [hv, hw]; simp [binOp, Op.intCmp])) rfl
          · cases hz; exact XS.pure hr (v := .bool (decide (m ≤ n))) (exec_bin ho (by rw [hv, hw]; exact guard_int) (by rw [hv, hw]; simp [binOp, Op.intCmp])) rfl
          · cases hz; exact XS.pure hr (v := .bool (decide (n < m))) (exec_bin ho (by rw [hv, hw]; exact guard_int) (by rw [hv, hw]; simp [binOp, Op.intCmp])) rfl
          · cases hz; exact XS.pure hr (v := .bool (decide (n ≤ m))) (exec_bin ho (by rw [hv, hw]; exact guard_int) (by rw [hv, hw]; simp [binOp, Op.intCmp])) rfl
          · cases hz
        · cases hz
    · rename_i s r
      have hv : ρ a = .string s := h1
      have hw : ρ b = .string r := h2
      split at hz
      · split at hz
        · cases hz
          have h63 : ¬ (((s.size + r.size : Nat) : Int) > IntKind.i64.max) := by
            have : IntKind.i64.max = 9223372036854775807 := by decide
            omega
          exact XS.pure hr (v := .string (s ++ r)) (exec_bin ho (by rw [hv, hw]; exact guard_str) (by rw [hv, hw]; simp only [binOp, Op.stringOp, if_neg h63]; rfl)) rfl
        · cases hz
      · cases hz; exact XS.pure hr (v := .bool (s.toList == r.toList)) (exec_bin ho (by rw [hv, hw]; exact guard_str) (by rw [hv, hw]; rfl)) rfl
      · cases hz; exact XS.pure hr (v := .bool (!(s.toList == r.toList))) (exec_bin ho (by rw [hv, hw]; exact guard_str) (by rw [hv, hw]; rfl)) rfl
      · cases hz; exact XS.pure hr (v := .bool (Op.bytesLess s.toList r.toList)) (exec_bin ho (by rw [hv, hw]; exact guard_str) (by rw [hv, hw]; rfl)) rfl
      · cases hz; exact XS.pure hr (v := .bool (Op.bytesLess s.toList r.toList || s.toList == r.toList)) (exec_bin ho (by rw [hv, hw]; exact guard_str) (by rw [hv, hw]; rfl)) rfl
      · cases hz; exact XS.pure hr (v := .bool (!(Op.bytesLess s.toList r.toList || s.toList == r.toList))) (exec_bin ho (by rw [hv, hw]; exact guard_str) (by rw [hv, hw]; rfl)) rfl
      · cases hz; exact XS.pure hr (v := .bool (!(Op.bytesLess s.toList r.toList))) (exec_bin ho (by rw [hv, hw]; exact guard_str) (by rw [hv, hw]; rfl)) rfl
      · cases hz
    · cases hz
  · cases hx
theorem xs_sidx {t : TypeId} {a ix : Operand} {a' i' : Opd} (ho : o.op = .index t a ix) (hd : P.underlying t = some .string) (ha : opd a = some a') (hix : opd ix = some i') (hx : xop (.sidx a' i') ev H = some (x, H')) : XS P φ base H w o ρ x H' := by
  have h1 := he a a' ha
  have h2 := he ix i' hix
  simp only [xop] at hx
  split at hx
  · rename_i s k0 k hp hq
    rw [hp] at h1
    rw [hq] at h2
    have hv : ρ a = .string s := h1
    have hw : ρ ix = .int k0 k := h2
    split at hx
    · rename_i h0
      obtain ⟨u, hu, hx⟩ := map_some hx
      simp only [Prod.mk.injEq] at hx
      obtain ⟨rfl, rfl⟩ := hx
      exact XS.pure hr (v := .int .u8 u.toNat) (by simp [execOp, ho, hv, hw, Instr.index, asIntOf, run_underlying hd, h0, hu]) rfl
    · cases hx
  · cases hx
theorem ptrs_of_caps : ∀ {xs : List Operand} {ys : List Opd}, opds xs = some ys → ∀ {cs}, capsOf (ys.map ev) = some cs → PtrsAt φ cs (xs.map ρ)
  | [], ys, h, cs, hc => by simp [opds] at h; subst h; simp [capsOf] at hc; subst hc; exact .nil
  | x :: r, ys, h, cs, hc => by
    unfold opds at h
    obtain ⟨y, hy, h⟩ := bind_some h
    obtain ⟨ys', hys, rfl⟩ := map_some h
    simp only [List.map_cons] at hc
    have h1 := he x y hy
    unfold capsOf at hc
    split at hc
    · rename_i e; cases e
    · rename_i b i j r' e
      simp only [List.cons.injEq] at e
      obtain ⟨e1, rfl⟩ := e
      obtain ⟨cs', hcs, rfl⟩ := map_some hc
      rw [e1] at h1
      obtain ⟨a, hv, hp⟩ := vr_s h1
      rw [List.map_cons, hv]
      exact .cons hp (ptrs_of_caps hys hcs)
    · cases hc
theorem xs_mkfn {f : Nat} {first caps : Array Operand} {cs' : List Opd} (ho : o.op = .makeFunc (.func f) first caps) (hf : first.size = 0) (hc : opds caps.toList = some cs') (hx : xop (.mkfn f cs') ev H = some (x, H')) : XS P φ base H w o ρ x H' := by
  simp only [xop] at hx
  obtain ⟨cs, hcs, hx⟩ := map_some hx
  simp only [Prod.mk.injEq] at hx
  obtain ⟨rfl, rfl⟩ := hx
  obtain rfl : first = #[] := Array.eq_empty_of_size_eq_zero hf
  exact XS.pure hr (v := .func (.func f) #[] (caps.map ρ)) (by simp [execOp, ho, Instr.makeFunc]) ⟨_, rfl, by simpa using ptrs_of_caps hr he hc hcs⟩
theorem xs_field {t : TypeId} {a : Operand} {f : Nat} {a' : Opd} {fs : Array Field} {d : Field} {i : TypeInfo} {u : TypeDesc} (ho : o.op = .field t a f) (hd : P.underlying t = some (.struct fs)) (hf : fs[f]? = some d) (hi : P.info? d.type = some i) (hu : P.underlying d.type = some u) (ha : opd a = some a')
    (hx : xop (if isAggD u then .fieldn d.offset i.size a' else .field1 d.offset a') ev H = some (x, H')) : XS P φ base H w o ρ x H' := by
  have h1 := he a a' ha
  split at hx
  · rename_i hag
    simp only [xop] at hx
    split at hx
    · rename_i l hp
      rw [hp] at h1
      obtain ⟨cs, hv, hs⟩ := vr_agg h1
      split at hx
      · rename_i hle
        simp only [Option.some.injEq, Prod.mk.injEq] at hx
        obtain ⟨rfl, rfl⟩ := hx
        refine XS.pure hr (v := .agg (cs.extract d.offset (d.offset + i.size))) ?_ ⟨_, rfl, ?_⟩
        · cases u <;> simp [isAggD] at hag <;> simp [execOp, ho, hv, Instr.field, part, isAgg, asAgg, run_underlying hd, run_underlying hu, hf, sizeOf, typeInfo, hi]
        · have := (hs.drop d.offset).take i.size
          rw [Array.toList_extract, List.extract_eq_take_drop]
          simpa using this
      · cases hx
    · cases hx
  · rename_i hag
    simp only [xop] at hx
    split at hx
    · rename_i l hp
      rw [hp] at h1
      obtain ⟨cs, hv, hs⟩ := vr_agg h1
      obtain ⟨y, hy, hx⟩ := map_some hx
      simp only [Prod.mk.injEq] at hx
      obtain ⟨rfl, rfl⟩ := hx
      obtain ⟨v, hc, hsr⟩ := hs.get _ _ hy
      have hc' : cs[d.offset]? = some v := by simpa using hc
      refine XS.pure hr (v := v) ?_ hsr
      cases u <;> simp [isAggD] at hag <;> simp [execOp, ho, hv, Instr.field, part, isAgg, asAgg, run_underlying hd, run_underlying hu, hf, hc']
    · cases hx
end
end Go.Proofs.YtoeieoapnhhaeaaGreat.Den
namespace Go.Proofs.YtoeieoapnhhaeaaGreat.Den
open Go.RowKit
set_option linter.unusedVariables false
set_option linter.unusedSimpArgs false
section
variable {P : Program} {φ : Phi} {base : Nat} {H H' : AHeap} {w : World} {o : Oper} {ρ : Operand → Value} {ev : Opd → AV} {x : AV}
theorem alloc_heap (w : World) (o : Obj) : (w.alloc o).heap = w.heap.push o := rfl
theorem einfo_ok {t : TypeId} {sz by_ : Nat} {z : List SV} (h : einfo P t = some (sz, by_, z)) : ∃ i zv, P.info? t = some i ∧ i.zero = some zv ∧ i.size = sz ∧ i.bytes = by_ ∧ z.length = sz ∧ 0 < sz ∧ zv.cells.size = sz ∧ ∀ φ, SRs φ z zv.cells.toList := by
  unfold einfo at h
  obtain ⟨i, hi, h⟩ := bind_some h
  obtain ⟨zv, hz, h⟩ := bind_some h
  obtain ⟨l, hl, h⟩ := bind_some h
  split at h
  · rename_i hc
    simp only [Option.some.injEq, Prod.mk.injEq] at h
    obtain ⟨rfl, rfl, rfl⟩ := h
    refine ⟨i, zv, hi, hz, rfl, rfl, hc.1, hc.2, ?_, fun φ => svs_ok hl⟩
    have := (svs_ok (φ := ⟨fun _ => none, fun _ => none⟩) hl).length
    simp at this
    omega
  · cases h
theorem Goes.push1 (hr : Rel φ base H w) {cells : Array Value} {l : List SV} {ty : Nat} (h : SRs φ l cells.toList) (hm : 1 ≤ maxLen := by decide) :
    Goes φ base H w (setPlace φ H.nx ⟨w.heap.size, 0, 1, l.length⟩) (H.push ⟨l.length, ty, [l]⟩) (w.alloc (.cells cells ty)) := by
  refine Goes.push hr (cap := 1) (alloc_heap w _) rfl rfl rfl (Holds.of_flat (vs := cells.toList) (by simp) (by simpa using h) (fun q v hq => by simpa using hq)) ?_ (by simp) hm
  have := h.length
  simp at this
  omega
theorem new_ptr {sz cap : Nat} : VR (setPlace φ H.nx ⟨w.heap.size, 0, cap, sz⟩) (.s (.ptr H.nx 0 0)) (.pointer (some ⟨w.heap.size, 0, none⟩)) :=
  ⟨_, rfl, ⟨w.heap.size, 0, cap, sz⟩, setPlace_same, by simp [Place.at]⟩
variable (hr : Rel φ base H w) (he : Evs φ ev ρ)
include hr he
set_option linter.unusedSectionVars false
theorem xs_alloc {t : TypeId} {sz b : Nat} {z : List SV} (ho : o.op = .alloc t) (hi : einfo P t = some (sz, b, z)) (hx : xop (.alloc t sz z) ev H = some (x, H')) : XS P φ base H w o ρ x H' := by
  obtain ⟨i, zv, h1, h2, h3, h4, h5, h6, h7, h8⟩ := einfo_ok hi
  simp only [xop, Option.some.injEq, Prod.mk.injEq] at hx
  obtain ⟨rfl, rfl⟩ := hx
  subst h5
  exact ⟨_, _, _, .inl (by simp [execOp, ho, Instr.alloc, zeroValue, typeInfo, h1, h2, newVar, newRow] <;> rfl), Goes.push1 hr (h8 φ), new_ptr⟩
theorem xs_box {t : TypeId} {a : Operand} {a' : Opd} (ho : o.op = .box t a) (ha : opd a = some a') (hx : xop (.box t a') ev H = some (x, H')) : XS P φ base H w o ρ x H' := by
  have h1 := he a a' ha
  simp only [xop] at hx
  obtain ⟨l, hl, hx⟩ := bind_some hx
  simp only [Option.some.injEq, Prod.mk.injEq] at hx
  obtain ⟨rfl, rfl⟩ := hx
  exact ⟨_, _, _, .inl (by simp [execOp, ho, Instr.box, newVar, newRow] <;> rfl), Goes.push1 hr (vr_cells h1 hl), new_ptr⟩
theorem xs_store {t : TypeId} {a b : Operand} {a' b' : Opd} {i : TypeInfo} (ho : o.op = .store t a b) (hi : P.info? t = some i) (ha : opd a = some a') (hb : opd b = some b') (hx : xop (.store i.size a' b') ev H = some (x, H')) : XS P φ base H w o ρ x H' := by
  have h1 := he a a' ha
  have h2 := he b b' hb
  simp only [xop] at hx
  split at hx
  · rename_i c e j hp
    rw [hp] at h1
    obtain ⟨ad, hv, p, hφ, rfl⟩ := vr_s h1
    obtain ⟨l, hl, hx⟩ := bind_some hx
    have hs := vr_cells h2 hl
    split at hx
    · rename_i hn
      obtain ⟨H1, hH, hx⟩ := map_some hx
      simp only [Prod.mk.injEq] at hx
      obtain ⟨rfl, rfl⟩ := hx
      unfold AHeap.put at hH
      obtain ⟨k, hk, hH⟩ := bind_some hH
      obtain ⟨r, hrow, hH⟩ := bind_some hH
      split at hH
      · rename_i hc
        have hle := hc
        obtain rfl := (Option.some.inj hH).symm
        obtain ⟨p', hp', ok⟩ := hr.blk c k hk
        rw [hφ] at hp'
        obtain rfl := Option.some.inj hp'
        have hown : p.cap ≠ 0 := ok.cap_of (fun e => by rw [e] at hrow; cases hrow)
        obtain ⟨o1, o2, o3, o4, cells, o5, o6⟩ := ok.real hown
        have he' : e < k.rows.length := (List.getElem?_eq_some_iff.1 hrow).1
        have hrl : r.length = k.sz := (ok.rows e r hrow).1
        have hcl : (ρ b).cells.toList.length = l.length := hs.length.symm
        have hfit : e * k.sz + j + l.length ≤ cells.size := by
          rw [o6]
          have h3 : (e + 1) * k.sz ≤ p.cap * k.sz := Nat.mul_le_mul_right _ (by omega)
          rw [Nat.add_mul] at h3
          omega
        have hrun := run_storeCells_at P p.blk (e * k.sz + j) k.ty (ρ b).cells.toList 0 cells w o5 (by rw [hcl]; omega) (fun v hv => hs.one v hv)
        simp only [Nat.add_zero, hcl] at hrun
        have haddr : p.at (e * p.sz + j) = ⟨p.blk, e * k.sz + j, none⟩ := by simp [Place.at, o1, ok.sz]
        refine ⟨undef, φ, _, .inr ⟨?_, rfl⟩, Goes.upd hr (cells := (cells.toList.take (e * k.sz + j) ++ (ρ b).cells.toList ++ cells.toList.drop (e * k.sz + j + l.length)).toArray) hk hφ hown (setRow_heap w p.blk cells _ k.ty _ o5) (fun r hr => setRow_other w p.blk r _ (by omega)) (by simp) rfl rfl rfl ?_ ?_ (by simp; exact o3), trivial⟩
        · have hsz : (ρ b).cells.size = i.size := by simpa [hn] using hcl
          simp [execOp, ho, hv, Instr.storeAt, Instr.sureAddr, storeVar, sizeOf, typeInfo, hi, hsz, haddr, hrun]
        · have hl1 : (cells.toList.take (e * k.sz + j)).length = e * k.sz + j := by simp; omega
          intro q s hq
          rw [List.getElem?_set] at hq
          split at hq
          · rename_i hqe
            subst hqe
            simp only [he', if_true, Option.some.injEq] at hq
            subst hq
            refine ⟨by simp; omega, fun m y hy => ?_⟩
            rw [List.append_assoc] at hy
            simp only [List.getElem?_toArray]
            rcases Nat.lt_or_ge m j with hm | hm
            · rw [List.getElem?_append_left (by simp; omega), List.getElem?_take, if_pos hm] at hy
              obtain ⟨v, hv', hsr⟩ := (ok.rows e r hrow).2 m y hy
              refine ⟨v, ?_, hsr⟩
              simp only [Place.at, o1, Nat.zero_add] at hv'
              rw [cell_of_row w _ _ _ _ _ o5] at hv'
              rw [List.append_assoc, List.getElem?_append_left (by rw [hl1]; omega), List.getElem?_take, if_pos (by omega)]
              simpa using hv'
            · rw [List.getElem?_append_right (by simp; omega)] at hy
              have hj : (List.take j r).length = j := by simp; omega
              rw [hj] at hy
              rw [List.append_assoc, List.getElem?_append_right (by rw [hl1]; omega), hl1]
              rcases Nat.lt_or_ge (m - j) l.length with hm2 | hm2
              · rw [List.getElem?_append_left hm2] at hy
                obtain ⟨v, hv', hsr⟩ := hs.get _ _ hy
                refine ⟨v, ?_, hsr⟩
                rw [List.getElem?_append_left (by rw [hcl]; omega), show e * k.sz + m - (e * k.sz + j) = m - j by omega]
                exact hv'
              · rw [List.getElem?_append_right hm2, List.getElem?_drop] at hy
                obtain ⟨v, hv', hsr⟩ := (ok.rows e r hrow).2 _ y hy
                refine ⟨v, ?_, hsr⟩
                simp only [Place.at, o1, Nat.zero_add] at hv'
                rw [cell_of_row w _ _ _ _ _ o5] at hv'
                rw [List.getElem?_append_right (by rw [hcl]; omega), hcl, List.getElem?_drop]
                have e1 : e * k.sz + j + l.length + (e * k.sz + m - (e * k.sz + j) - l.length) = e * k.sz + (j + l.length + (m - j - l.length)) := by omega
                rw [e1]
                simpa using hv'
          · rename_i hne
            have hql : q < k.rows.length := (List.getElem?_eq_some_iff.1 hq).1
            obtain ⟨hl2, hc2⟩ := ok.rows q s hq
            refine ⟨hl2, fun m y hy => ?_⟩
            obtain ⟨v, hv', hsr⟩ := hc2 m y hy
            refine ⟨v, ?_, hsr⟩
            simp only [Place.at, o1, Nat.zero_add] at hv'
            rw [cell_of_row w _ _ _ _ _ o5] at hv'
            have hm : m < k.sz := by have := (List.getElem?_eq_some_iff.1 hy).1; omega
            simp only [List.getElem?_toArray]
            rcases Nat.lt_or_ge q e with hqe | hqe
            · have h3 : (q + 1) * k.sz ≤ e * k.sz := Nat.mul_le_mul_right _ hqe
              rw [Nat.add_mul] at h3
              rw [List.append_assoc, List.getElem?_append_left (by rw [hl1]; omega), List.getElem?_take, if_pos (by omega)]
              simpa using hv'
            · have h3 : (e + 1) * k.sz ≤ q * k.sz := Nat.mul_le_mul_right _ (by omega)
              rw [Nat.add_mul] at h3
              rw [List.append_assoc, List.getElem?_append_right (by rw [hl1]; omega), hl1, List.getElem?_append_right (by rw [hcl]; omega), hcl, List.getElem?_drop]
              have e1 : e * k.sz + j + l.length + (q * k.sz + m - (e * k.sz + j) - l.length) = q * k.sz + m := by omega
              rw [e1]
              simpa using hv'
        · simp [hcl]
          rw [← o6]
          omega
      · cases hH
    · cases hx
  · cases hx
end
end Go.Proofs.YtoeieoapnhhaeaaGreat.Den
namespace Go.Proofs.YtoeieoapnhhaeaaGreat.Den
open Go.RowKit
set_option linter.unusedVariables false
set_option linter.unusedSimpArgs false
theorem fold_set (off : Nat) : ∀ (l : List Value) (k : Nat) (cells : Array Value), off + k + l.length ≤ cells.size →
    (l.zipIdx k).foldl (fun cs p => cs.setIfInBounds (off + p.2) p.1) cells = (cells.toList.take (off + k) ++ l ++ cells.toList.drop (off + k + l.length)).toArray
  | [], k, cells, _ => by simp
  | v :: l, k, cells, h => by
    simp only [List.zipIdx_cons, List.foldl_cons, List.length_cons] at h ⊢
    rw [fold_set off l (k + 1) _ (by simp; omega)]
    have e := list_seg_step cells.toList (off + k) v l (by simp; omega)
    congr 1
    simpa [Array.toList_setIfInBounds, Nat.add_assoc] using e
theorem mapM_all {α β : Type} {g : α → Option β} : ∀ {l : List α}, (∀ a ∈ l, (g a).isSome = true) → ∃ r, l.mapM g = some r ∧ ∀ (i : Nat) a, l[i]? = some a → r[i]? = g a
  | [], _ => ⟨[], rfl, fun i a h => by simp at h⟩
  | a :: l, h => by
    obtain ⟨b, hb⟩ := Option.isSome_iff_exists.1 (h a (by simp))
    obtain ⟨r, hr, h2⟩ := mapM_all (g := g) (l := l) (fun x hx => h x (List.mem_cons_of_mem _ hx))
    refine ⟨b :: r, by simp [hb, hr], fun i x hx => ?_⟩
    cases i with
    | zero => simp at hx; subst hx; simp [hb]
    | succ i => simpa using h2 i x (by simpa using hx)
section
variable {P : Program} {φ : Phi} {base : Nat} {H H' : AHeap} {w : World} {o : Oper} {ρ : Operand → Value} {ev : Opd → AV} {x : AV}
theorem fill_ok (he : Evs φ ev ρ) {fs : Array Field} {places : List (Nat × Nat)} (hp : ∀ (i : Nat) f d, fs[i]? = some f → P.info? f.type = some d → places[i]? = some (f.offset, d.size)) :
    ∀ {ps : List (Nat × Operand)} {qs : List (Nat × Nat × Opd)}, compParts P fs ps = some qs → ∀ {cs : List SV} {cells : Array Value} {r : List SV}, SRs φ cs cells.toList → afill (qs.map fun (o, s, x) => (o, s, ev x)) cs = some r →
      ∃ out : Array Value, Instr.fill (places.toArray[·]?) cells (ps.map fun (i, x) => (i, ρ x)) = some out ∧ SRs φ r out.toList
  | [], qs, h, cs, cells, r, hs, hf => by
    simp [compParts] at h
    subst h
    simp [afill] at hf
    subst hf
    exact ⟨cells, by simp [Instr.fill], hs⟩
  | (i, x) :: ps, qs, h, cs, cells, r, hs, hf => by
    unfold compParts at h
    obtain ⟨f, hfi, h⟩ := bind_some h
    obtain ⟨d, hd, h⟩ := bind_some h
    obtain ⟨y, hy, h⟩ := bind_some h
    obtain ⟨qs', hq, rfl⟩ := map_some h
    simp only [List.map_cons] at hf
    unfold afill at hf
    obtain ⟨l, hl, hf⟩ := bind_some hf
    split at hf
    · rename_i hc
      obtain ⟨hc1, hc2⟩ := hc
      have h1 := vr_cells (he x y hy) hl
      have hcl : (ρ x).cells.size = d.size := by have := h1.length; simp at this; omega
      have hcs : cs.length = cells.size := by have := hs.length; simpa using this
      have hpl := hp i f d hfi hd
      have hns : ¬ ((ρ x).cells.size ≠ d.size ∨ f.offset + (ρ x).cells.size > cells.size) := by rw [hcl]; omega
      have hfold := fold_set f.offset (ρ x).cells.toList 0 cells (by simp; omega)
      have hlen : (ρ x).cells.toList.length = d.size := by simpa using hcl
      simp only [Nat.add_zero, hlen] at hfold
      have hs' : SRs φ (cs.take f.offset ++ l ++ cs.drop (f.offset + d.size)) (cells.toList.take f.offset ++ (ρ x).cells.toList ++ cells.toList.drop (f.offset + d.size)).toArray.toList := by
        simpa using ((hs.take f.offset).append h1).append (hs.drop (f.offset + d.size))
      obtain ⟨out, ho, hr⟩ := fill_ok he hp hq hs' hf
      refine ⟨out, ?_, hr⟩
      simp only [List.map_cons]
      unfold Instr.fill
      have hpl' : places.toArray[i]? = some (f.offset, d.size) := by simpa using hpl
      simp only [hpl']
      have hb : ((ρ x).cells.size ≠ d.size || decide (f.offset + (ρ x).cells.size > cells.size)) = false := by
        simp; omega
      have hz : (ρ x).cells.zipIdx.foldl (fun cs p => cs.setIfInBounds (f.offset + p.2) p.1) cells = (cells.toList.take f.offset ++ (ρ x).cells.toList ++ cells.toList.drop (f.offset + d.size)).toArray := by
        rw [← Array.foldl_toList, Array.toList_zipIdx]
        exact hfold
      rw [if_neg (by simpa using hns)]
      have e : (fun (cs : Array Value) (x : Value × Nat) => match x with | (c, j) => cs.setIfInBounds (f.offset + j) c) = (fun cs p => cs.setIfInBounds (f.offset + p.2) p.1) := by funext cs p; rfl
      rw [e, hz]
      exact ho
    · cases hf
theorem fillRows_ok (he : Evs φ ev ρ) {sz : Nat} (hsz : 0 < sz) : ∀ {ps : List (Nat × Operand)} {qs : List (Nat × Opd)}, compElems ps = some qs → ∀ {rs out : List (List SV)} {cells : Array Value}, (∀ r ∈ rs, r.length = sz) → SRs φ rs.flatten cells.toList → afillRows (qs.map fun (i, x) => (i, ev x)) rs sz = some out →
      ∃ res : Array Value, Instr.fill (fun i => some (i * sz, sz)) cells (ps.map fun (i, x) => (i, ρ x)) = some res ∧ (∀ r ∈ out, r.length = sz) ∧ out.length = rs.length ∧ SRs φ out.flatten res.toList
  | [], qs, h, rs, out, cells, hl, hs, hf => by
    simp [compElems] at h
    subst h
    simp [afillRows] at hf
    subst hf
    exact ⟨cells, by simp [Instr.fill], hl, rfl, hs⟩
  | (i, x) :: ps, qs, h, rs, out, cells, hl, hs, hf => by
    unfold compElems at h
    obtain ⟨y, hy, h⟩ := bind_some h
    obtain ⟨qs', hq, rfl⟩ := map_some h
    simp only [List.map_cons] at hf
    unfold afillRows at hf
    obtain ⟨l, hl2, hf⟩ := bind_some hf
    split at hf
    · rename_i hc
      obtain ⟨hc1, hc2⟩ := hc
      have h1 := vr_cells (he x y hy) hl2
      have hcl : (ρ x).cells.size = sz := by have := h1.length; simp at this; omega
      have hcs : rs.length * sz = cells.size := by have := hs.length; rw [flat_len hl] at this; simpa using this
      have hle : i * sz + sz ≤ cells.size := by
        rw [← hcs]
        have := Nat.mul_le_mul_right sz (show i + 1 ≤ rs.length by omega)
        rw [Nat.add_mul] at this
        omega
      have hns : ¬ ((ρ x).cells.size ≠ sz ∨ i * sz + (ρ x).cells.size > cells.size) := by rw [hcl]; omega
      have hlen : (ρ x).cells.toList.length = sz := by simpa using hcl
      have hfold := fold_set (i * sz) (ρ x).cells.toList 0 cells (by rw [hlen]; omega)
      simp only [Nat.add_zero, hlen] at hfold
      have hl' : ∀ r ∈ rs.set i l, r.length = sz := fun r hr => by
        rcases List.mem_or_eq_of_mem_set hr with hr | rfl
        · exact hl r hr
        · exact hc1
      have hfl : (rs.set i l).flatten = rs.flatten.take (i * sz) ++ l ++ rs.flatten.drop (i * sz + sz) := by
        have hsplit : rs.set i l = rs.take i ++ l :: rs.drop (i + 1) := List.set_eq_take_append_cons_drop.trans (if_pos hc2)
        have ht : (rs.take i).flatten.length = i * sz := by rw [flat_len (fun r hr => hl r (List.mem_of_mem_take hr)), List.length_take, Nat.min_eq_left (by omega)]
        have hri : rs[i].length = sz := hl _ (List.getElem_mem hc2)
        have hF : rs.flatten = (rs.take i).flatten ++ (rs[i] ++ (rs.drop (i + 1)).flatten) := by
          have hrs : rs.take i ++ rs[i] :: rs.drop (i + 1) = rs := by simp
          have := congrArg List.flatten hrs
          rw [List.flatten_append, List.flatten_cons] at this
          exact this.symm
        have e1 : rs.flatten.take (i * sz) = (rs.take i).flatten := by rw [hF]; exact List.take_left' ht
        have e2 : rs.flatten.drop (i * sz + sz) = (rs.drop (i + 1)).flatten := by
          rw [hF, ← List.append_assoc]
          exact List.drop_left' (by rw [List.length_append, ht, hri])
        rw [hsplit, e1, e2]
        simp
      have hs' : SRs φ (rs.set i l).flatten (cells.toList.take (i * sz) ++ (ρ x).cells.toList ++ cells.toList.drop (i * sz + sz)).toArray.toList := by
        rw [hfl]
        simpa using ((hs.take (i * sz)).append h1).append (hs.drop (i * sz + sz))
      obtain ⟨res, ho, h2, h3, h4⟩ := fillRows_ok he hsz hq hl' hs' hf
      refine ⟨res, ?_, h2, by simpa using h3, h4⟩
      simp only [List.map_cons]
      unfold Instr.fill
      have hz : (ρ x).cells.zipIdx.foldl (fun cs p => cs.setIfInBounds (i * sz + p.2) p.1) cells = (cells.toList.take (i * sz) ++ (ρ x).cells.toList ++ cells.toList.drop (i * sz + sz)).toArray := by
        rw [← Array.foldl_toList, Array.toList_zipIdx]
        exact hfold
      simp only
      rw [if_neg (by simpa using hns)]
      have e : (fun (cs : Array Value) (x : Value × Nat) => match x with | (c, j) => cs.setIfInBounds (i * sz + j) c) = (fun cs p => cs.setIfInBounds (i * sz + p.2) p.1) := by funext cs p; rfl
      rw [e, hz]
      exact ho
    · cases hf
theorem zeros_flat {z : List SV} {zc : Array Value} (h : SRs φ z zc.toList) (hz : 0 < zc.size) : ∀ n : Nat, SRs φ (List.replicate n z).flatten ((Array.range (n * zc.size)).map (zc[· % zc.size]!)).toList := by
  intro n
  have hzl : z.length = zc.size := by have := h.length; simpa using this
  refine SRs.of_get ?_ (fun j x v hx hv => ?_)
  · rw [flat_len (sz := z.length) (fun r hr => by rw [List.eq_of_mem_replicate hr])]
    simp [hzl]
  · have hj : j < n * zc.size := by have := (List.getElem?_eq_some_iff.1 hv).1; simpa using this
    have hjn : j / zc.size < n := Nat.div_lt_of_lt_mul (by rw [Nat.mul_comm]; exact hj)
    have hjm : j % zc.size < z.length := by rw [hzl]; exact Nat.mod_lt _ hz
    have e1 := flat_get (rows := List.replicate n z) (sz := zc.size) (fun r hr => by rw [List.eq_of_mem_replicate hr, hzl]) (i := j / zc.size) (r := z) (by simp [List.getElem?_replicate, hjn]) (j := j % zc.size) (x := z[j % zc.size]) (List.getElem?_eq_getElem hjm)
    rw [show j / zc.size * zc.size + j % zc.size = j by rw [Nat.mul_comm]; exact Nat.div_add_mod j _] at e1
    rw [e1] at hx
    obtain rfl := Option.some.inj hx
    obtain ⟨u, hu, hs⟩ := h.get (j % zc.size) _ (List.getElem?_eq_getElem hjm)
    have hv' : zc[j % zc.size]! = v := by
      simp only [Array.toList_map, List.getElem?_map, Array.toList_range, List.getElem?_range, hj] at hv
      simpa using hv
    rw [← hv']
    have hlt : j % zc.size < zc.size := Nat.mod_lt _ hz
    have : zc[j % zc.size]! = u := by
      rw [getElem!_pos zc _ hlt]
      simpa [hlt] using hu
    rw [this]
    exact hs
variable (hr : Rel φ base H w) (he : Evs φ ev ρ)
include hr he
set_option linter.unusedSectionVars false
theorem xs_build {t : TypeId} {ps : Array (Nat × Operand)} {fs : Array Field} {sz b : Nat} {z : List SV} {qs : List (Nat × Nat × Opd)} (ho : o.op = .build t ps) (hu : P.underlying t = some (.struct fs)) (hfs : sizesOk P fs = true) (hi : einfo P t = some (sz, b, z)) (hp : compParts P fs ps.toList = some qs)
    (hx : xop (.build z qs) ev H = some (x, H')) : XS P φ base H w o ρ x H' := by
  obtain ⟨i, zv, h1, h2, h3, h4, h5, h6, h7, h8⟩ := einfo_ok hi
  simp only [xop] at hx
  obtain ⟨l, hl, hx⟩ := map_some hx
  simp only [Prod.mk.injEq] at hx
  obtain ⟨rfl, rfl⟩ := hx
  obtain ⟨places, hpl, hat⟩ := mapM_all (g := fun f => (P.info? f.type).map fun i => (f.offset, i.size)) (l := fs.toList) (fun a ha => by
    unfold sizesOk at hfs
    simpa using List.all_eq_true.1 hfs a ha)
  obtain ⟨out, hout, hs⟩ := fill_ok (P := P) he (fs := fs) (places := places) (fun i f d hf hd => by rw [hat i f (by simpa using hf), hd]; rfl) hp (h8 φ) hl
  have hb : P.built t (ps.map fun (i, x) => (i, ρ x)).toList = some out := by
    unfold Program.built
    simp only [h1, hu, h2, hpl]
    simpa using hout
  refine XS.pure hr (v := .agg out) ?_ ⟨_, rfl, hs⟩
  have := run_build w t (ps.map fun (i, x) => (i, ρ x)) out hb
  simp [execOp, ho, this]
theorem new_sl {ty sz n cap c : Nat} {cells : Array Value} (hn : n ≤ c) (hc : c ≤ cap) (hm : cap ≤ maxLen) : VR (setPlace φ H.nx ⟨w.heap.size, 0, cap, sz⟩) (.s (.sl H.nx 0 n c)) (.slice (some ⟨w.heap.size, 0, none⟩) n cap) :=
  ⟨_, cap, ⟨w.heap.size, 0, cap, sz⟩, rfl, hn, hc, hm, setPlace_same, .inr ⟨by simp [Place.at], by simp⟩⟩
theorem xs_mkrow {t e : TypeId} {n : Nat} {ps : Array (Nat × Operand)} {sz b : Nat} {z : List SV} {qs : List (Nat × Opd)} (ho : o.op = .buildSlice t n ps) (hu : P.underlying t = some (.slice e)) (hi : einfo P e = some (sz, b, z)) (hn : n * sz ≤ 16777216) (hp : compElems ps.toList = some qs)
    (hx : xop (.mkrow e sz z n qs) ev H = some (x, H')) : XS P φ base H w o ρ x H' := by
  obtain ⟨i, zv, h1, h2, h3, h4, h5, h6, h7, h8⟩ := einfo_ok hi
  simp only [xop] at hx
  obtain ⟨rs, hrs, hx⟩ := map_some hx
  simp only [Prod.mk.injEq] at hx
  obtain ⟨rfl, rfl⟩ := hx
  have h9 := h8 φ
  have hz := zeros_flat h9 (by omega) n
  rw [h7] at hz
  obtain ⟨res, hres, hl, hlen, hs⟩ := fillRows_ok he h6 hp (rs := List.replicate n z) (cells := (Array.range (n * sz)).map (zv.cells[· % sz]!)) (fun r hr => by rw [List.eq_of_mem_replicate hr, h5]) (by simpa using hz) hrs
  have hsize : res.size = n * sz := by
    have := hs.length
    rw [flat_len hl, hlen] at this
    simpa using this.symm
  have hn2 : n ≤ 16777216 := Nat.le_trans (Nat.le_mul_of_pos_right n h6) hn
  have hmx : n ≤ maxLen := by unfold maxLen; omega
  rw [List.length_replicate] at hlen
  refine ⟨.slice (some ⟨w.heap.size, 0, none⟩) n n, _, w.alloc (.cells res e), .inl ?_, Goes.push hr (cells := res) (cap := n) (alloc_heap w _) rfl rfl rfl (Holds.of_flat hl hs (fun q v hq => by simpa using hq)) hsize (by omega) hmx, new_sl (ty := e) (cells := res) hr he (Nat.le_refl _) (Nat.le_refl _) hmx⟩
  have hnot : ¬ (16777216 < n * sz) := by omega
  subst h3
  by_cases h0 : n * i.size = 0
  · have hn0 : n = 0 := by rcases Nat.mul_eq_zero.1 h0 with h | h <;> omega
    subst hn0
    have hres' : Instr.fill (fun j => some (j * i.size, i.size)) #[] (ps.toList.map fun (i, x) => (i, ρ x)) = some res := by simpa [Array.range_zero'] using hres
    simp [execOp, ho, Instr.buildSlice, run_underlying hu, sizeOf, typeInfo, h1, newRow, Array.range_zero', hres']
  · have hres' : Instr.fill (fun j => some (j * i.size, i.size)) ((Array.range (n * i.size)).map (zv.cells[· % zv.cells.size]!)) (ps.toList.map fun (i, x) => (i, ρ x)) = some res := by rw [h7]; exact hres
    simp [execOp, ho, Instr.buildSlice, run_underlying hu, sizeOf, typeInfo, zeroValue, h1, h2, hnot, h0, newRow, hres']
theorem mkrow_run {t e : TypeId} {n : Nat} {ps : Array (Nat × Operand)} {sz b : Nat} {z : List SV} {qs : List (Nat × Opd)} (ho : o.op = .buildSlice t n ps) (hu : P.underlying t = some (.slice e)) (hi : einfo P e = some (sz, b, z)) (hn : n * sz ≤ 16777216) (hp : compElems ps.toList = some qs)
    {rs : List (List SV)} (hrs : afillRows (qs.map fun (i, x) => (i, ev x)) (List.replicate n z) sz = some rs) : ∃ cells : Array Value, (execOp ρ o).run P w = .ok (.value (.slice (some ⟨w.heap.size, 0, none⟩) n n)) (w.alloc (.cells cells e)) ∧ Holds φ cells sz rs ∧ rs.length = n ∧ n ≤ maxLen := by
  obtain ⟨i, zv, h1, h2, h3, h4, h5, h6, h7, h8⟩ := einfo_ok hi
  have h9 := h8 φ
  have hz := zeros_flat h9 (by omega) n
  rw [h7] at hz
  obtain ⟨res, hres, hl, hlen, hs⟩ := fillRows_ok he h6 hp (rs := List.replicate n z) (cells := (Array.range (n * sz)).map (zv.cells[· % sz]!)) (fun r hr => by rw [List.eq_of_mem_replicate hr, h5]) (by simpa using hz) hrs
  have hsize : res.size = n * sz := by
    have := hs.length
    rw [flat_len hl, hlen] at this
    simpa using this.symm
  have hn2 : n ≤ 16777216 := Nat.le_trans (Nat.le_mul_of_pos_right n h6) hn
  have hmx : n ≤ maxLen := by unfold maxLen; omega
  rw [List.length_replicate] at hlen
  refine ⟨res, ?_, Holds.of_flat hl hs (fun q v hq => by simpa using hq), hlen, hmx⟩
  have hnot : ¬ (16777216 < n * sz) := by omega
  subst h3
  by_cases h0 : n * i.size = 0
  · have hn0 : n = 0 := by rcases Nat.mul_eq_zero.1 h0 with h | h <;> omega
    subst hn0
    have hres' : Instr.fill (fun j => some (j * i.size, i.size)) #[] (ps.toList.map fun (i, x) => (i, ρ x)) = some res := by simpa [Array.range_zero'] using hres
    simp [execOp, ho, Instr.buildSlice, run_underlying hu, sizeOf, typeInfo, h1, newRow, Array.range_zero', hres']
  · have hres' : Instr.fill (fun j => some (j * i.size, i.size)) ((Array.range (n * i.size)).map (zv.cells[· % zv.cells.size]!)) (ps.toList.map fun (i, x) => (i, ρ x)) = some res := by rw [h7]; exact hres
    simp [execOp, ho, Instr.buildSlice, run_underlying hu, sizeOf, typeInfo, zeroValue, h1, h2, hnot, h0, newRow, hres']
theorem xs_mkslice {t e : TypeId} {l c : Operand} {l' c' : Opd} {sz b : Nat} {z : List SV} (ho : o.op = .makeSlice t l c) (hu : P.underlying t = some (.slice e)) (hi : einfo P e = some (sz, b, z)) (hl : opd l = some l') (hc : opd c = some c')
    (hx : xop (.mkslice e sz b z l' c') ev H = some (x, H')) : XS P φ base H w o ρ x H' := by
  obtain ⟨i, zv, h1, h2, h3, h4, h5, h6, h7, h8⟩ := einfo_ok hi
  have k1 := he l l' hl
  have k2 := he c c' hc
  simp only [xop] at hx
  split at hx
  · rename_i n m hp hq
    rw [hp] at k1
    rw [hq] at k2
    have hv : ρ l = .int .i64 n := k1
    have hw : ρ c = .int .i64 m := k2
    split at hx
    · rename_i hb
      obtain ⟨b1, b2, b3, b4⟩ := hb
      simp only [Option.some.injEq, Prod.mk.injEq] at hx
      obtain ⟨rfl, rfl⟩ := hx
      subst h3
      subst h4
      have hrun := run_make (P := P) w t e i zv hu h1 h2 .i64 .i64 n m b1 b2 (by rw [Int.mul_comm]; omega) (by omega)
      have h9 := h8 φ
      have hz := zeros_flat h9 (by omega) m.toNat
      have hmx : m.toNat ≤ maxLen := by unfold maxLen; omega
      rw [h7] at hz
      have hmade : madeCells zv.cells (m.toNat * i.size) = (Array.range (m.toNat * i.size)).map (zv.cells[· % i.size]!) := by unfold madeCells; rw [h7]
      refine ⟨.slice (some ⟨w.heap.size, 0, none⟩) n.toNat m.toNat, _, _, .inl (by simp [execOp, ho, hv, hw, hrun]; rfl), Goes.push hr (cap := m.toNat) (alloc_heap w _) rfl rfl rfl ?_ (size_madeCells _ _) (by simp) hmx, new_sl (ty := e) (cells := madeCells zv.cells (m.toNat * i.size)) hr he (by omega) (Nat.le_refl _) hmx⟩
      rw [hmade]
      exact Holds.of_flat (fun r hr => by rw [List.eq_of_mem_replicate hr, h5]) hz (fun q v hq => by rw [← Array.getElem?_toList]; exact hq)
    · cases hx
  · cases hx
end
end Go.Proofs.YtoeieoapnhhaeaaGreat.Den
namespace Go.Proofs.YtoeieoapnhhaeaaGreat.Den
open Go.RowKit
set_option linter.unusedVariables false
set_option linter.unusedSimpArgs false
section
variable {P : Program} {φ : Phi} {base : Nat} {H H' : AHeap} {w : World} {o : Oper} {ρ : Operand → Value} {ev : Opd → AV} {x : AV}
theorem Goes.rename (hr : Rel φ base H w) {b : Nat} {k : Blk} {p : Place} (hb : H.get b = some k) (hp : φ b = some p) :
    Goes φ base H w (setPlace φ H.nx p) ((H.del b).push k) w := by
  have hlt := hr.get_lt hb
  have he : Ext φ (setPlace φ H.nx p) := ext_setPlace (hr.new H.nx (Nat.le_refl _)).2
  obtain ⟨q, hq, ok⟩ : ∃ q, φ b = some q ∧ BlkOk φ base w q k := hr.blk b k hb
  rw [hp] at hq
  obtain rfl := Option.some.inj hq
  have g : ∀ c, ((H.del b).push k).get c = if c = H.nx then some k else if c = b then none else H.get c := fun c => rfl
  have mine : ∀ r, Mine (setPlace φ H.nx p) ((H.del b).push k) r → Mine φ H r := fun r hm => by
    obtain ⟨c, k1, p1, hc, h2, h1, h3⟩ := hm
    rw [g] at hc
    rcases setPlace_look h2 with ⟨e1, rfl⟩ | ⟨e1, e2⟩
    · exact ⟨b, k, p1, hb, hp, h1, h3⟩
    · rw [if_neg e1] at hc
      split at hc
      · cases hc
      · exact ⟨c, k1, p1, hc, e2, h1, h3⟩
  refine ⟨⟨fun c k' hc => ?_, fun c c' k1 k2 p1 p2 h1 h2 e1 e2 n1 n2 e => ?_, fun c hc => ?_, hr.base, fun r o h => ⟨(hr.fz r o h).1, fun hm => (hr.fz r o h).2 (mine r hm)⟩, nofull rfl⟩, by simp [AHeap.push, AHeap.del], he, Below.refl _ _, fun _ _ _ => rfl, fun r hm => .inr (mine r hm), fun r o h => .inl h⟩
  · rw [g] at hc
    split at hc
    · subst_vars
      obtain rfl := Option.some.inj hc
      exact ⟨p, setPlace_same, ok.move he (fun _ => rfl)⟩
    · split at hc
      · cases hc
      · obtain ⟨q, hq, okq⟩ := hr.blk c k' hc
        exact ⟨q, he.pl c q hq, okq.move he (fun _ => rfl)⟩
  · rw [g] at h1 h2
    have old : ∀ {c : Nat} {k1 : Blk} {p1 : Place}, c ≠ H.nx → (if c = H.nx then some k else if c = b then none else H.get c) = some k1 → φ c = some p1 → p1.cap ≠ 0 → p.cap ≠ 0 → p1.blk = p.blk → False := fun {c k1 p1} hne hc hp1 n1 n2 he1 => by
      rw [if_neg hne] at hc
      split at hc
      · cases hc
      · rename_i hcb
        exact hcb (hr.inj c b k1 k p1 p hc hb hp1 hp n1 n2 he1)
    rcases setPlace_look e1 with ⟨a1, q1⟩ | ⟨a1, q1⟩ <;> rcases setPlace_look e2 with ⟨a2, q2⟩ | ⟨a2, q2⟩
    · rw [a1, a2]
    · subst q1
      exact (old a2 h2 q2 n2 n1 e.symm).elim
    · subst q2
      exact (old a1 h1 q1 n1 n2 e).elim
    · rw [if_neg a1] at h1
      rw [if_neg a2] at h2
      split at h1
      · cases h1
      · split at h2
        · cases h2
        · exact hr.inj c c' k1 k2 p1 p2 h1 h2 q1 q2 n1 n2 e
  · simp only [AHeap.push, AHeap.del] at hc
    have := hr.new c (by omega)
    refine ⟨?_, ?_⟩
    · rw [g, if_neg (by omega), this.1]
      split <;> rfl
    · rw [setPlace_none (by omega)]
      exact this.2
theorem upd_del {b : Nat} {k : Blk} : (H.upd b k).del b = H.del b := by
  unfold AHeap.upd AHeap.del
  congr 1
  funext c
  by_cases h : c = b <;> simp [h]
theorem bound_ok (he : Evs φ ev ρ) {d m : Nat} {y : Option Operand} {y' : Option Opd} (hy : opdO y = some y') (hb : bound d ev y' = some m) :
    (y = none ∧ m = d) ∨ ∃ u k n, y = some u ∧ ρ u = .int k n ∧ 0 ≤ n ∧ m = n.toNat := by
  cases y with
  | none => simp [opdO] at hy; subst hy; simp [bound] at hb; exact .inl ⟨rfl, hb.symm⟩
  | some u =>
    simp only [opdO] at hy
    obtain ⟨z, hz, rfl⟩ := map_some hy
    simp only [bound] at hb
    split at hb
    · rename_i k n hp
      have h1 := he u z hz
      rw [hp] at h1
      split at hb
      · exact .inr ⟨u, k, n, rfl, h1, ‹_›, (Option.some.inj hb).symm⟩
      · cases hb
    · cases hb
theorem run_bounds {isSlice : Bool} {n c m h l : Nat} {lo hi mx : Option Value} (hmx : (mx = none ∧ m = c) ∨ ∃ k i, mx = some (.int k i) ∧ 0 ≤ i ∧ m = i.toNat) (hhi : (hi = none ∧ mx = none ∧ h = n) ∨ ∃ k i, hi = some (.int k i) ∧ 0 ≤ i ∧ h = i.toNat)
    (hlo : (lo = none ∧ l = 0) ∨ ∃ k i, lo = some (.int k i) ∧ 0 ≤ i ∧ l = i.toNat) (h1 : l ≤ h) (h2 : h ≤ m) (h3 : m ≤ c) : (Instr.sliceBounds isSlice n c lo hi mx).run P w = .ok (l, h, m) w := by
  have sb : ∀ k (i : Int) (y : Nat) code, 0 ≤ i → i.toNat ≤ y → (Instr.sliceBound (.int k i) y code).run P w = .ok i.toNat w := fun k i y code a b => run_sliceBound w k i y code a (by omega)
  unfold Instr.sliceBounds
  rcases hmx with ⟨rfl, rfl⟩ | ⟨km, im, rfl, hm0, rfl⟩ <;> rcases hhi with ⟨rfl, hmn, rfl⟩ | ⟨kh, ih, rfl, hh0, rfl⟩ <;> rcases hlo with ⟨rfl, rfl⟩ | ⟨kl, il, rfl, hl0, rfl⟩ <;>
    first
      | (cases hmn; done)
      | simp [sb _ _ _ _ ‹0 ≤ im› h3, sb _ _ _ _ ‹0 ≤ ih› h2, sb _ _ _ _ ‹0 ≤ il› h1]
      | simp [sb _ _ _ _ ‹0 ≤ im› h3, sb _ _ _ _ ‹0 ≤ ih› h2]
      | simp [sb _ _ _ _ ‹0 ≤ ih› h2, sb _ _ _ _ ‹0 ≤ il› h1]
      | simp [sb _ _ _ _ ‹0 ≤ ih› h2]
      | simp [sb _ _ _ _ ‹0 ≤ il› h1]
      | simp
theorem Rel.rows_vals (hr : Rel φ base H w) {b i n : Nat} {k : Blk} (hb : H.get b = some k) (hle : i + n ≤ k.rows.length) :
    ∃ p vs, φ b = some p ∧ p.sz = k.sz ∧ (∀ r ∈ (k.rows.drop i).take n, r.length = k.sz) ∧ SRs φ ((k.rows.drop i).take n).flatten vs ∧ vs.length = n * k.sz ∧ ∀ (q : Nat) v, vs[q]? = some v → w.cell? ((p.at (i * k.sz)).add q) = some v := by
  obtain ⟨p, hp, ok⟩ := hr.blk b k hb
  have hl : ∀ r ∈ (k.rows.drop i).take n, r.length = k.sz := fun r hr => by
    obtain ⟨q, hq⟩ := List.mem_iff_getElem?.1 (List.mem_of_mem_drop (List.mem_of_mem_take hr))
    exact (ok.rows q r hq).1
  obtain ⟨vs, h1, h2⟩ := pick_vals (φ := φ) (w := w) (p := p) ((k.rows.drop i).take n).flatten (i * k.sz) (fun q x hx => by
    have hq : q < n * k.sz := by
      have := (List.getElem?_eq_some_iff.1 hx).1
      rw [flat_len hl] at this
      simp at this
      exact Nat.lt_of_lt_of_le this (Nat.mul_le_mul_right _ (Nat.min_le_left _ _))
    have hsz : 0 < k.sz := Nat.pos_of_ne_zero (fun e => by rw [e] at hq; simp at hq)
    have hqn : q / k.sz < n := Nat.div_lt_of_lt_mul (by rw [Nat.mul_comm]; exact hq)
    have hrow : ((k.rows.drop i).take n)[q / k.sz]? = some k.rows[i + q / k.sz] := by
      rw [List.getElem?_take, if_pos hqn, List.getElem?_drop, List.getElem?_eq_getElem (by omega)]
    have hrl : k.rows[i + q / k.sz].length = k.sz := (ok.rows (i + q / k.sz) _ (List.getElem?_eq_getElem (by omega))).1
    have hqm : q % k.sz < k.rows[i + q / k.sz].length := by rw [hrl]; exact Nat.mod_lt _ hsz
    have e1 := flat_get hl hrow (j := q % k.sz) (List.getElem?_eq_getElem hqm)
    rw [show q / k.sz * k.sz + q % k.sz = q by rw [Nat.mul_comm]; exact Nat.div_add_mod q _] at e1
    rw [e1] at hx
    obtain rfl := Option.some.inj hx
    obtain ⟨v, hv, hs⟩ := (ok.rows (i + q / k.sz) _ (List.getElem?_eq_getElem (by omega))).2 (q % k.sz) _ (List.getElem?_eq_getElem hqm)
    refine ⟨v, ?_, hs⟩
    rw [← hv, Nat.add_mul]
    congr 2
    have := Nat.div_add_mod q k.sz
    rw [Nat.mul_comm] at this
    omega)
  refine ⟨p, vs, hp, ok.sz, hl, h1, ?_, fun q v hv => by rw [Place.at_add]; exact h2 q v hv⟩
  have := h1.length
  rw [flat_len hl] at this
  rw [← this]
  congr 1
  simp
  omega
variable (hr : Rel φ base H w) (he : Evs φ ev ρ)
include hr he
set_option linter.unusedSectionVars false
theorem slice_run {t e : TypeId} {a : Operand} {lo hi mx : Option Operand} {i : TypeInfo} (ho : o.op = .slice t a lo hi mx) (hu : P.underlying t = some (.slice e)) (hin : P.info? e = some i) (hmh : (mx.isSome && hi.isNone) = false)
    {n c' : Nat} {ad : Option Addr} (hv : ρ a = .slice ad n c')
    {l h m' : Nat} (hm' : (mx.map ρ = none ∧ m' = c') ∨ ∃ k i, mx.map ρ = some (.int k i) ∧ 0 ≤ i ∧ m' = i.toNat)
    (ph : (hi.map ρ = none ∧ hi = none ∧ h = n) ∨ ∃ k n, hi.map ρ = some (.int k n) ∧ 0 ≤ n ∧ h = n.toNat) (pl : (lo.map ρ = none ∧ lo = none ∧ l = 0) ∨ ∃ k n, lo.map ρ = some (.int k n) ∧ 0 ≤ n ∧ l = n.toNat)
    (b1 : l ≤ h) (b2 : h ≤ m') (b3 : m' ≤ c') : (execOp ρ o).run P w = .ok (.value (.slice (if m' = l then ad else ad.map (·.add (l * i.size))) (h - l) (m' - l))) w := by
  have hrun : (Instr.sliceBounds true n c' (lo.map ρ) (hi.map ρ) (mx.map ρ)).run P w = .ok (l, h, m') w := by
    refine run_bounds hm' ?_ ?_ b1 b2 b3
    · rcases ph with ⟨e1, e2, rfl⟩ | ⟨k, n, e1, h0, rfl⟩
      · refine .inl ⟨e1, ?_, rfl⟩
        subst e2
        cases mx with
        | none => rfl
        | some _ => simp at hmh
      · exact .inr ⟨k, n, e1, h0, rfl⟩
    · rcases pl with ⟨e1, e2, rfl⟩ | ⟨k, n, e1, h0, rfl⟩
      · exact .inl ⟨e1, rfl⟩
      · exact .inr ⟨k, n, e1, h0, rfl⟩
  simp [execOp, ho, hv, Instr.sliceAt, Instr.slice, run_underlying hu, hrun, sizeOf, typeInfo, hin]
theorem slice_core {t e : TypeId} {a : Operand} {lo hi mx : Option Operand} {i : TypeInfo} (ho : o.op = .slice t a lo hi mx) (hu : P.underlying t = some (.slice e)) (hin : P.info? e = some i) (hmh : (mx.isSome && hi.isNone) = false)
    {b f n c' : Nat} {ad : Option Addr} {p' : Place} (hv : ρ a = .slice ad n c') (hn3 : c' ≤ maxLen) (hp' : φ b = some p') (hn4 : c' = 0 ∨ ad = some (p'.at (f * p'.sz)) ∧ f + c' = p'.cap)
    {l h m' cc : Nat} (pm : (mx.map ρ = none ∧ mx = none ∧ m' = c') ∨ (∃ k i, mx.map ρ = some (.int k i) ∧ 0 ≤ i ∧ m' = i.toNat) ∧ m' = l)
    (ph : (hi.map ρ = none ∧ hi = none ∧ h = n) ∨ ∃ k n, hi.map ρ = some (.int k n) ∧ 0 ≤ n ∧ h = n.toNat) (pl : (lo.map ρ = none ∧ lo = none ∧ l = 0) ∨ ∃ k n, lo.map ρ = some (.int k n) ∧ 0 ≤ n ∧ l = n.toNat)
    (b1 : l ≤ h) (b2 : h ≤ m') (b3 : m' ≤ c') (k1 : h - l ≤ cc) (k2 : cc ≤ m' - l) (b4 : H.has b i.size = true) : XS P φ base H w o ρ (.s (.sl b (f + l) (h - l) cc)) H := by
  have hm' : (mx.map ρ = none ∧ m' = c') ∨ ∃ k i, mx.map ρ = some (.int k i) ∧ 0 ≤ i ∧ m' = i.toNat := by
    rcases pm with ⟨e1, _, e2⟩ | ⟨e1, _⟩
    · exact .inl ⟨e1, e2⟩
    · exact .inr e1
  refine XS.pure hr (v := .slice (if m' = l then ad else ad.map (·.add (l * i.size))) (h - l) (m' - l)) (slice_run hr he ho hu hin hmh hv hm' ph pl b1 b2 b3) ?_
  · obtain ⟨p, hφ, hsz⟩ := has_place hr he b4
    have hp'' := hp'
    rw [hφ] at hp''
    obtain rfl := Option.some.inj hp''
    have hml2 : m' - l ≤ maxLen := Nat.le_trans (Nat.sub_le _ _) (Nat.le_trans b3 hn3)
    by_cases hml : m' = l
    · rw [if_pos hml]
      exact ⟨ad, m' - l, p, rfl, k1, k2, hml2, hφ, .inl (by rw [hml]; exact Nat.sub_self _)⟩
    · rw [if_neg hml]
      have hmc : m' = c' := by
        rcases pm with ⟨_, _, e2⟩ | ⟨_, e2⟩
        · exact e2
        · exact absurd e2 hml
      clear pm ph pl hm'
      obtain ⟨rfl, hcap⟩ := hn4.resolve_left (by omega)
      refine ⟨_, m' - l, p, rfl, k1, k2, hml2, hφ, .inr ⟨?_, by omega⟩⟩
      show some ((p.at _).add _) = some _
      rw [Place.at_add, Nat.add_mul, hsz]
theorem xs_slice {t e : TypeId} {a : Operand} {a' : Opd} {lo hi mx : Option Operand} {lo' hi' mx' : Option Opd} {i : TypeInfo} (ho : o.op = .slice t a lo hi mx) (hu : P.underlying t = some (.slice e)) (hin : P.info? e = some i) (hmh : (mx.isSome && hi.isNone) = false) (ha : opd a = some a')
    (hlo : opdO lo = some lo') (hhi : opdO hi = some hi') (hmx : opdO mx = some mx') (hx : xop (.slice i.size a' lo' hi' mx') ev H = some (x, H')) : XS P φ base H w o ρ x H' := by
  have h1 := he a a' ha
  have pass : ∀ {d m : Nat} {y : Option Operand} {y' : Option Opd}, opdO y = some y' → bound d ev y' = some m → (y.map ρ = none ∧ y = none ∧ m = d) ∨ ∃ k n, y.map ρ = some (.int k n) ∧ 0 ≤ n ∧ m = n.toNat := fun {d m y y'} hy hb => by
    rcases bound_ok he hy hb with ⟨rfl, rfl⟩ | ⟨u, k, n, rfl, hu, h0, rfl⟩
    · exact .inl ⟨rfl, rfl, rfl⟩
    · exact .inr ⟨k, n, by simp [hu], h0, rfl⟩
  simp only [xop] at hx
  split at hx
  · rename_i b f n c hp
    rw [hp] at h1
    obtain ⟨ad, c', p', hv, hn1, hn2, hn3, hp', hn4⟩ := vr_s h1
    split at hx
    · obtain ⟨h, hh, hx⟩ := bind_some hx
      obtain ⟨l, hl, hx⟩ := bind_some hx
      have hmn : mx = none := by
        cases mx with
        | none => rfl
        | some y => simp [opdO] at hmx
      have ph := pass hhi hh
      have pl := pass hlo hl
      split at hx
      · rename_i hb
        obtain ⟨b1, b2, b4⟩ := hb
        simp only [Option.some.injEq, Prod.mk.injEq] at hx
        obtain ⟨rfl, rfl⟩ := hx
        exact slice_core hr he ho hu hin hmh hv hn3 hp' hn4 (m' := c') (.inl ⟨by rw [hmn]; rfl, hmn, rfl⟩) ph pl b1 (Nat.le_trans b2 hn2) (Nat.le_refl _) (Nat.sub_le_sub_right b2 _) (Nat.sub_le_sub_right hn2 _) b4
      · cases hx
    · obtain ⟨m, hm, hx⟩ := bind_some hx
      obtain ⟨h, hh, hx⟩ := bind_some hx
      obtain ⟨l, hl, hx⟩ := bind_some hx
      split at hx
      · rename_i hb
        obtain ⟨b1, b2, b3, b4⟩ := hb
        simp only [Option.some.injEq, Prod.mk.injEq] at hx
        obtain ⟨rfl, rfl⟩ := hx
        have pm := pass hmx hm
        have ph := pass hhi hh
        have pl := pass hlo hl
        refine XS.pure hr (slice_run hr he ho hu hin hmh hv (m' := m) ?_ ph pl b1 b2 (Nat.le_trans b3 hn2)) rfl
        rcases pm with ⟨_, e2, _⟩ | e1
        · subst e2
          simp [opdO] at hmx
        · exact .inr e1
      · cases hx
  · rename_i hp
    rw [hp] at h1
    have hv : ρ a = .slice none 0 0 := h1
    obtain ⟨m, hm, hx⟩ := bind_some hx
    obtain ⟨h, hh, hx⟩ := bind_some hx
    obtain ⟨l, hl, hx⟩ := bind_some hx
    split at hx
    · rename_i hb
      simp only [Option.some.injEq, Prod.mk.injEq] at hx
      obtain ⟨rfl, rfl⟩ := hx
      obtain ⟨rfl, rfl, rfl⟩ := hb
      have pm := pass hmx hm
      have ph := pass hhi hh
      have pl := pass hlo hl
      have hrun : (Instr.sliceBounds true 0 0 (lo.map ρ) (hi.map ρ) (mx.map ρ)).run P w = .ok (0, 0, 0) w := by
        refine run_bounds ?_ ?_ ?_ (Nat.le_refl _) (Nat.le_refl _) (Nat.le_refl _)
        · rcases pm with ⟨e1, e2, e3⟩ | ⟨k, n, e1, h0, e3⟩
          · exact .inl ⟨e1, rfl⟩
          · exact .inr ⟨k, n, e1, h0, e3⟩
        · rcases ph with ⟨e1, e2, e3⟩ | ⟨k, n, e1, h0, e3⟩
          · refine .inl ⟨e1, ?_, rfl⟩
            subst e2
            cases mx with
            | none => rfl
            | some _ => simp at hmh
          · exact .inr ⟨k, n, e1, h0, e3⟩
        · rcases pl with ⟨e1, e2, e3⟩ | ⟨k, n, e1, h0, e3⟩
          · exact .inl ⟨e1, rfl⟩
          · exact .inr ⟨k, n, e1, h0, e3⟩
      refine XS.pure hr (v := .slice none 0 0) ?_ rfl
      simp [execOp, ho, hv, Instr.sliceAt, Instr.slice, run_underlying hu, hrun, sizeOf, typeInfo, hin]
    · cases hx
  · rename_i sz' rows hp
    rw [hp] at h1
    obtain ⟨m, hm, hx⟩ := bind_some hx
    obtain ⟨h, hh, hx⟩ := bind_some hx
    obtain ⟨l, hl, hx⟩ := bind_some hx
    split at hx
    · rename_i hb
      obtain ⟨b1, b2, b3, rfl⟩ := hb
      simp only [Option.some.injEq, Prod.mk.injEq] at hx
      obtain ⟨rfl, rfl⟩ := hx
      have pm := pass hmx hm
      have ph := pass hhi hh
      have pl := pass hlo hl
      have hmxs : mx'.isSome = mx.isSome := by
        cases mx with
        | none => simp [opdO] at hmx; subst hmx; rfl
        | some y => simp only [opdO] at hmx; obtain ⟨z, _, rfl⟩ := map_some hmx; rfl
      obtain ⟨a0, c0, hv, hc1, hc2⟩ : ∃ a0 c0, ρ a = .slice a0 rows.length c0 ∧ rows.length ≤ c0 ∧ c0 ≤ maxLen := by
        rcases vr_lst h1 with ⟨rfl, a, c, hv, h2, _⟩ | ⟨b, off, c, o, hv, h2, h3, _⟩
        · exact ⟨a, c, hv, Nat.zero_le _, h2⟩
        · exact ⟨_, c, hv, h2, h3⟩
      obtain ⟨m', hm', hmm⟩ : ∃ m', ((mx.map ρ = none ∧ m' = c0) ∨ ∃ k i, mx.map ρ = some (.int k i) ∧ 0 ≤ i ∧ m' = i.toNat) ∧ m ≤ m' ∧ m' ≤ c0 ∧ (mx'.isSome = true → m' = m) := by
        rcases pm with ⟨e1, e2, rfl⟩ | ⟨k, n, e1, h0, rfl⟩
        · exact ⟨c0, .inl ⟨e1, rfl⟩, hc1, Nat.le_refl _, fun h => by rw [hmxs, e2] at h; cases h⟩
        · exact ⟨_, .inr ⟨k, n, e1, h0, rfl⟩, Nat.le_refl _, by omega, fun _ => rfl⟩
      have hrun : (Instr.sliceBounds true rows.length c0 (lo.map ρ) (hi.map ρ) (mx.map ρ)).run P w = .ok (l, h, m') w := by
        refine run_bounds hm' ?_ ?_ b1 (by omega) hmm.2.1
        · rcases ph with ⟨e1, e2, rfl⟩ | ⟨k, n, e1, h0, rfl⟩
          · refine .inl ⟨e1, ?_, rfl⟩
            subst e2
            cases mx with
            | none => rfl
            | some _ => simp at hmh
          · exact .inr ⟨k, n, e1, h0, rfl⟩
        · rcases pl with ⟨e1, e2, rfl⟩ | ⟨k, n, e1, h0, rfl⟩
          · exact .inl ⟨e1, rfl⟩
          · exact .inr ⟨k, n, e1, h0, rfl⟩
      refine XS.pure hr (v := .slice (if m' = l then a0 else a0.map (·.add (l * i.size))) (h - l) (m' - l)) ?_ ?_
      · simp [execOp, ho, hv, Instr.sliceAt, Instr.slice, run_underlying hu, hrun, sizeOf, typeInfo, hin]
      · have hlen : ((rows.take h).drop l).length = h - l := by simp; omega
        split
        · rename_i he2
          have : m' = l := (hmm.2.2 he2.1).trans he2.2
          subst this
          refine emp_vr ⟨a0, ?_⟩
          rw [if_pos rfl, Nat.sub_self]
          congr 1
          omega
        · rename_i hne
          refine lst_vr ?_
          rw [hlen]
          by_cases hl0 : h - l = 0
          · refine .inl ⟨List.length_eq_zero_iff.1 (by rw [hlen]; exact hl0), _, m' - l, by rw [hl0], by omega, fun hn => ?_⟩
            by_cases hml : m' = l
            · omega
            · rw [if_neg hml] at hn
              cases a0 with
              | some _ => cases hn
              | none =>
                rcases vr_lst h1 with ⟨rfl, a, c, hv2, h2, h3⟩ | ⟨b, off, c, o, hv2, h2, h3, _⟩
                · rw [hv] at hv2
                  injection hv2 with q1 q2 q3
                  have := h3 q1.symm
                  omega
                · rw [hv] at hv2
                  injection hv2 with q1
                  cases q1
          · rcases vr_lst h1 with ⟨rfl, _⟩ | ⟨b, off, c, o, hv2, h2, h3, h4, h5⟩
            · exact (hl0 (by rw [Nat.sub_eq_zero_iff_le]; have h9 : h ≤ 0 := Nat.le_trans b2 b3; exact Nat.le_trans h9 (Nat.zero_le _))).elim
            · rw [hv] at hv2
              injection hv2 with q1 q2 q3
              subst q1
              have hml : ¬ m' = l := by omega
              rw [if_neg hml]
              refine .inr ⟨b, off + l * i.size, m' - l, o, ?_, by omega, by omega, h4, (h5.take h).drop l⟩
              show Value.slice (some ((⟨b, off, none⟩ : Addr).add (l * i.size))) _ _ = _
              congr 2
              unfold Addr.add
              split <;> simp_all
    · cases hx
  · cases hx
theorem xs_slicex {t e : TypeId} {a hi : Operand} {a' hi' : Opd} {i : TypeInfo} (ho : o.op = .slice t a none (some hi) none) (hu : P.underlying t = some (.slice e)) (hin : P.info? e = some i) (ha : opd a = some a') (hhi : opd hi = some hi')
    (hx : xbeyond i.size (ev a') (ev hi') H = some (x, H')) : XS P φ base H w o ρ x H' := by
  have h1 := he a a' ha
  have h2 := he hi hi' hhi
  unfold xbeyond at hx
  split at hx
  · rename_i b f n c kk h hp hq
    rw [hp] at h1
    rw [hq] at h2
    obtain ⟨ad, c', p', hv, hn1, hn2, hn3, hp', hn4⟩ := vr_s h1
    have hh : ρ hi = .int kk h := h2
    split at hx
    · rename_i h0
      unfold beyond at hx
      split at hx
      · rename_i b' F hfull
        split at hx
        · rename_i hb
          obtain ⟨rfl, b0, b1, b2, b4⟩ := hb
          simp only [Option.some.injEq, Prod.mk.injEq] at hx
          obtain ⟨rfl, rfl⟩ := hx
          obtain ⟨p, hφ, hF⟩ := hr.full _ _ hfull
          have hp'' := hp'
          rw [hφ] at hp''
          obtain rfl := Option.some.inj hp''
          obtain ⟨_, hcap⟩ := hn4.resolve_left (by omega)
          exact slice_core hr he ho hu hin rfl hv hn3 hp' hn4 (m' := c') (l := 0) (h := h.toNat) (.inl ⟨rfl, rfl, rfl⟩) (.inr ⟨kk, h, by simp [hh], h0, rfl⟩) (.inl ⟨rfl, rfl, rfl⟩) (Nat.zero_le _) (by omega) (Nat.le_refl _) (by omega) (by omega) b4
        · cases hx
      · cases hx
    · cases hx
  · cases hx
theorem run_capx {c : Call} {t e : TypeId} {a : Operand} (ho : o.op = .call c) (hcc : c.callee = .builtin .cap) (hca : c.args.toList = [a]) (hct : c.argTypes.toList = [t]) (ht : P.underlying t = some (.slice e)) {ad : Option Addr} {n c' : Nat} (hv : ρ a = .slice ad n c') :
    (execOp ρ o).run P w = .ok (.value (.int .i64 c')) w := by
  obtain ⟨callee, args, argTypes⟩ := c
  simp only at hcc hca hct
  subst hcc
  obtain rfl : args = #[a] := by cases args; simpa using hca
  obtain rfl : argTypes = #[t] := by cases argTypes; simpa using hct
  simp [execOp, ho, resolve, invoke, builtin, Builtin.cap_, run_underlying ht, hv, goInt]
theorem xs_sslice {t : TypeId} {a : Operand} {a' : Opd} {lo hi mx : Option Operand} {lo' hi' : Option Opd} (ho : o.op = .slice t a lo hi mx) (hu : P.underlying t = some .string) (hmh : mx = none) (ha : opd a = some a')
    (hlo : opdO lo = some lo') (hhi : opdO hi = some hi') (hx : xop (.sslice a' lo' hi') ev H = some (x, H')) : XS P φ base H w o ρ x H' := by
  have h1 := he a a' ha
  subst hmh
  simp only [xop] at hx
  split at hx
  · rename_i s hp
    rw [hp] at h1
    have hv : ρ a = .string s := h1
    obtain ⟨h, hh, hx⟩ := bind_some hx
    obtain ⟨l, hl, hx⟩ := bind_some hx
    split at hx
    · rename_i hb
      obtain ⟨b1, b2⟩ := hb
      simp only [Option.some.injEq, Prod.mk.injEq] at hx
      obtain ⟨rfl, rfl⟩ := hx
      have hrun : (Instr.sliceBounds false s.size s.size (lo.map ρ) (hi.map ρ) none).run P w = .ok (l, h, s.size) w := by
        refine run_bounds (.inl ⟨rfl, rfl⟩) ?_ ?_ b1 b2 (Nat.le_refl _)
        · rcases bound_ok he hhi hh with ⟨rfl, rfl⟩ | ⟨u, k, n, rfl, hu, h0, rfl⟩
          · exact .inl ⟨rfl, rfl, rfl⟩
          · exact .inr ⟨k, n, by simp [hu], h0, rfl⟩
        · rcases bound_ok he hlo hl with ⟨rfl, rfl⟩ | ⟨u, k, n, rfl, hu, h0, rfl⟩
          · exact .inl ⟨rfl, rfl⟩
          · exact .inr ⟨k, n, by simp [hu], h0, rfl⟩
      refine XS.pure hr (v := .string (s.extract l h)) ?_ rfl
      simp [execOp, ho, hv, Instr.sliceAt, Instr.slice, run_underlying hu, hrun]
    · cases hx
  · cases hx
theorem xs_mx {c : Call} {a b : Operand} {a' b' : Opd} (ho : o.op = .call c) (hcc : c.callee = .builtin .max) (hca : c.args.toList = [a, b]) (ha : opd a = some a') (hb : opd b = some b') (hx : xop (.mx a' b') ev H = some (x, H')) : XS P φ base H w o ρ x H' := by
  have h1 := he a a' ha
  have h2 := he b b' hb
  obtain ⟨callee, args, argTypes⟩ := c
  simp only at hcc hca
  subst hcc
  obtain rfl : args = #[a, b] := by cases args; simpa using hca
  simp only [xop] at hx
  split at hx
  · rename_i k p k' q hp hq
    rw [hp] at h1
    rw [hq] at h2
    have hv : ρ a = .int k p := h1
    have hw : ρ b = .int k' q := h2
    split at hx
    · simp only [Option.some.injEq, Prod.mk.injEq] at hx
      obtain ⟨rfl, rfl⟩ := hx
      refine XS.pure hr (v := .int k (if q > p then q else p)) ?_ ?_
      · simp [execOp, ho, resolve, invoke, builtin, Builtin.max_, Builtin.max2, hv, hw]
      · show Value.int _ _ = Value.int _ _
        congr 1
        split <;> omega
    · cases hx
  · cases hx
theorem xs_mn {c : Call} {a b : Operand} {a' b' : Opd} (ho : o.op = .call c) (hcc : c.callee = .builtin .min) (hca : c.args.toList = [a, b]) (ha : opd a = some a') (hb : opd b = some b') (hx : xop (.mn a' b') ev H = some (x, H')) : XS P φ base H w o ρ x H' := by
  have h1 := he a a' ha
  have h2 := he b b' hb
  obtain ⟨callee, args, argTypes⟩ := c
  simp only at hcc hca
  subst hcc
  obtain rfl : args = #[a, b] := by cases args; simpa using hca
  simp only [xop] at hx
  split at hx
  · rename_i k p k' q hp hq
    rw [hp] at h1
    rw [hq] at h2
    have hv : ρ a = .int k p := h1
    have hw : ρ b = .int k' q := h2
    split at hx
    · simp only [Option.some.injEq, Prod.mk.injEq] at hx
      obtain ⟨rfl, rfl⟩ := hx
      refine XS.pure hr (v := .int k (if q < p then q else p)) ?_ ?_
      · simp [execOp, ho, resolve, invoke, builtin, Builtin.min_, Builtin.min2, hv, hw]
      · show Value.int _ _ = Value.int _ _
        congr 1
        split <;> omega
    · cases hx
  · cases hx
end
end Go.Proofs.YtoeieoapnhhaeaaGreat.Den
namespace Go.Proofs.YtoeieoapnhhaeaaGreat.Den
open Go.RowKit
set_option linter.unusedVariables false
set_option linter.unusedSimpArgs false
section
variable {P : Program} {φ : Phi} {base : Nat} {H H' : AHeap} {w : World} {o : Oper} {ρ : Operand → Value} {ev : Opd → AV} {x : AV}
theorem zc_size (z : Array Value) (n : Nat) : (Builtin.zeroCells z n).size = n * z.size := size_zeroCells z n
theorem vr_undef0 {φ : Phi} : VR φ (.tup []) (.tuple #[]) := ⟨#[], rfl, .nil⟩
theorem src_vals (hr : Rel φ base H w) {sz : Nat} {y : AV} {v : Value} {new : List (List SV)} (hv : VR φ y v) (hs : srcRows H sz y = some new) (hne : new ≠ []) :
    ∃ a c vs, v = .slice (some a) new.length c ∧ (∀ r ∈ new, r.length = sz) ∧ SRs φ new.flatten vs ∧ vs.length = new.length * sz ∧ ∀ (q : Nat) u, vs[q]? = some u → w.cell? (a.add q) = some u := by
  unfold srcRows at hs
  split at hs
  · cases hs; exact (hne rfl).elim
  · cases hs; exact (hne rfl).elim
  · cases hs; exact (hne rfl).elim
  · rename_i sz' rows
    split at hs
    · rename_i hsz
      subst hsz
      have hnr := Option.some.inj hs
      subst hnr
      rcases vr_lst hv with ⟨rfl, _⟩ | ⟨b, off, c, o, rfl, h1, h2, h3, h4⟩
      · exact (hne rfl).elim
      · have hl : ∀ r ∈ rows, r.length = sz' := fun r hr => by
          obtain ⟨q, hq⟩ := List.mem_iff_getElem?.1 hr
          exact (h4.get q r hq).1
        have flat : ∀ (rs : List (List SV)) (off : Nat), DRss φ.fz sz' rs o off → DRs φ.fz rs.flatten o off := fun rs => by
          induction rs with
          | nil => intro off _; simp only [List.flatten_nil, DRs]
          | cons r rs ih =>
            intro off hd
            simp only [DRss] at hd
            refine DRs.of_get fun j x hx => ?_
            rw [List.flatten_cons] at hx
            rcases Nat.lt_or_ge j r.length with hj | hj
            · rw [List.getElem?_append_left hj] at hx
              exact hd.1.2.get j x hx
            · rw [List.getElem?_append_right hj] at hx
              have := (ih (off + sz') hd.2).get (j - r.length) x hx
              rw [← hd.1.1] at this
              rwa [show off + r.length + (j - r.length) = off + j by omega] at this
        obtain ⟨vs, hs, hc⟩ := fz_vals hr h3 (flat rows off h4)
        refine ⟨_, c, vs, rfl, hl, hs, ?_, hc⟩
        rw [← hs.length, flat_len hl]
    · cases hs
  · rename_i b i n c
    obtain ⟨k, hk, hs⟩ := bind_some hs
    split at hs
    · rename_i hc
      obtain ⟨hsz, hle⟩ := hc
      obtain rfl := (Option.some.inj hs).symm
      obtain ⟨p, vs, hp, h1, h2, h3, h4, h5⟩ := hr.rows_vals hk hle
      obtain ⟨a, c', p', rfl, n1, n2, n3, hp', n4⟩ := vr_s hv
      have hlen : ((k.rows.drop i).take n).length = n := by simp; omega
      have hn0 : n ≠ 0 := fun e => hne (by subst e; simp)
      obtain ⟨rfl, hcap⟩ := n4.resolve_left (by omega)
      rw [hp] at hp'
      obtain rfl := Option.some.inj hp'
      rw [hlen]
      subst hsz
      exact ⟨_, c', vs, rfl, h2, h3, h4, by rw [h1]; exact h5⟩
    · cases hs
  · cases hs
theorem int_rows {φ : Phi} : ∀ {rows : List (List SV)} {ns : List Int} {vs : List Value}, intRows rows = some ns → SRs φ rows.flatten vs → vs = ns.map (Value.int .u8) ∧ rows.length = ns.length
  | [], ns, vs, h, hs => by
    simp only [intRows, Option.some.injEq] at h
    subst h
    cases hs
    exact ⟨rfl, rfl⟩
  | r :: rows, ns, vs, h, hs => by
    unfold intRows at h
    split at h
    · cases ‹_ :: _ = []›
    · rename_i n r' e
      cases e
      obtain ⟨ms, hm, rfl⟩ := map_some h
      rw [List.flatten_cons, List.singleton_append] at hs
      cases hs with
      | cons hx hs =>
        obtain ⟨rfl, h2⟩ := int_rows hm hs
        have hx : _ = Value.int .u8 n := hx
        exact ⟨by rw [hx]; rfl, by simp [h2]⟩
    · cases h
theorem run_append_empty {t ty e : TypeId} (ht : P.underlying t = some (.slice e)) {i : TypeInfo} (hi : P.info? e = some i) (a : Option Addr) (n c : Nat) (hn : n ≤ c) (v : Value) (hv : ∃ b c', v = .slice b 0 c') :
    (Builtin.append_ #[t, t] ty #[.slice a n c, v]).run P w = .ok (.slice a n c) w := by
  obtain ⟨b, c', rfl⟩ := hv
  cases a <;> cases b <;>
    simp [Builtin.append_, run_underlying ht, sizeOf, typeInfo, hi, Builtin.lenOf, Builtin.firstCells, hn, storeCells, loadCells, loadCellsFrom]
variable (hr : Rel φ base H w) (he : Evs φ ev ρ)
include hr he
set_option linter.unusedSectionVars false
theorem src_empty {sz : Nat} {y : AV} {v : Value} (hv : VR φ y v) (hs : srcRows H sz y = some []) : ∃ b c', v = .slice b 0 c' := by
  have hl : alen y = some 0 := by
    unfold srcRows at hs
    split at hs
    · rfl
    · rfl
    · rfl
    · split at hs
      · rw [Option.some.inj hs]; rfl
      · cases hs
    · obtain ⟨k, hk, hs⟩ := bind_some hs
      split at hs
      · have := congrArg List.length (Option.some.inj hs)
        simp at this
        simp only [alen]
        congr 1
        omega
      · cases hs
    · cases hs
  exact alen_vr hv hl
theorem xs_strof {s d e : TypeId} {a : Operand} {a' : Opd} (ho : o.op = .convert s d a) (hs : P.underlying s = some (.slice e)) (hee : P.underlying e = some (.int .u8)) (hd : P.underlying d = some .string) (ha : opd a = some a') (hx : xop (.strof a') ev H = some (x, H')) : XS P φ base H w o ρ x H' := by
  have h1 := he a a' ha
  simp only [xop] at hx
  obtain ⟨rows, hr1, hx⟩ := bind_some hx
  obtain ⟨ns, hn, hx⟩ := map_some hx
  simp only [Prod.mk.injEq] at hx
  obtain ⟨rfl, rfl⟩ := hx
  by_cases hne : rows = []
  · subst hne
    obtain ⟨b, c', hv⟩ := src_empty hr he h1 hr1
    simp only [intRows, Option.some.injEq] at hn
    subst hn
    refine XS.pure hr (v := .string (strB [])) ?_ rfl
    cases b with
    | none => simp [execOp, ho, hv, run_convert_bytes_string w s d e none 0 c' hs hee hd, Conv.bytesToString, Sem.run_pure, strB]
    | some b =>
      have hl : (loadCells b 0).run P w = .ok (([] : List Int).map (Value.int .u8)).toArray w := by simp [loadCells, loadCellsFrom, Sem.run_pure]
      simp [execOp, ho, hv, run_convert_bytes_string w s d e (some b) 0 c' hs hee hd, run_bytesToString w b 0 c' [] hl, strB]
  · obtain ⟨b, c, vs, hv, h2, h3, h4, h5⟩ := src_vals hr h1 hr1 hne
    obtain ⟨rfl, hlen⟩ := int_rows hn h3
    have hl := run_loadCells_list (P := P) w b (ns.map (Value.int .u8)) (fun q v hv => h5 q v hv)
    rw [List.length_map, ← hlen] at hl
    refine XS.pure hr (v := .string (strB ns)) ?_ rfl
    simp [execOp, ho, hv, run_convert_bytes_string w s d e (some b) rows.length c hs hee hd, run_bytesToString w b rows.length c ns hl, strB]
theorem grown_goes {sz ty cap : Nat} {z : Value} {rows : List (List SV)} {vs : List Value} (hl : ∀ r ∈ rows, r.length = sz) (hs : SRs φ rows.flatten vs) (hzs : z.cells.size = sz) (hc : rows.length ≤ cap) (hm : cap ≤ maxLen) :
    Goes φ base H w (setPlace φ H.nx ⟨w.heap.size, 0, cap, sz⟩) (H.push ⟨sz, ty, rows⟩) (w.drew.alloc (.cells (vs.toArray ++ Builtin.zeroCells z.cells (cap - rows.length)) ty)) := by
  have hvl : vs.length = rows.length * sz := by rw [← hs.length, flat_len hl]
  refine Goes.push hr (cap := cap) (cells := vs.toArray ++ Builtin.zeroCells z.cells (cap - rows.length)) rfl rfl rfl rfl (Holds.of_flat hl hs (fun q v hq => ?_)) ?_ hc hm
  · have hlt : q < vs.length := (List.getElem?_eq_some_iff.1 hq).1
    rw [Array.getElem?_append_left (by simpa using hlt)]
    simpa using hq
  · rw [Array.size_append, zc_size, hzs, List.size_toArray, hvl, ← Nat.add_mul]
    congr 1
    omega
theorem xs_append {c : Call} {t e : TypeId} {a b : Operand} {a' b' : Opd} {sz by_ : Nat} {z : List SV} (ho : o.op = .call c) (hcc : c.callee = .builtin .append) (hca : c.args.toList = [a, b]) (hct : c.argTypes.toList = [t, t]) (ht : P.underlying t = some (.slice e)) (hei : einfo P e = some (sz, by_, z)) (ha : opd a = some a') (hb : opd b = some b')
    (hx : xop (.append e sz by_ a' b') ev H = some (x, H')) : XS P φ base H w o ρ x H' := by
  have h1 := he a a' ha
  have h2 := he b b' hb
  obtain ⟨i, zv, e1, e2, e3, e4, e5, e6, e7, e8⟩ := einfo_ok hei
  obtain ⟨callee, args, argTypes⟩ := c
  simp only at hcc hca hct
  subst hcc
  obtain rfl : args = #[a, b] := by cases args; simpa using hca
  obtain rfl : argTypes = #[t, t] := by cases argTypes; simpa using hct
  have ex : ∀ {v : Value} {w' : World}, (Builtin.append_ #[t, t] o.type #[ρ a, ρ b]).run P w = .ok v w' → (execOp ρ o).run P w = .ok (.value v) w' := fun h => by
    simp [execOp, ho, resolve, invoke, builtin, h]
  simp only [xop] at hx
  obtain ⟨new, hnew, hx⟩ := bind_some hx
  have fresh : ∀ {y : SV} {a0 : Option Addr}, ρ a = .slice a0 0 0 → VR φ (.s y) (ρ a) → afresh H e sz by_ y new = some (x, H') → XS P φ base H w o ρ x H' := fun {y a0} hv hvr hf => by
    unfold afresh at hf
    split at hf
    · rename_i hn
      subst hn
      simp only [Option.some.injEq, Prod.mk.injEq] at hf
      obtain ⟨rfl, rfl⟩ := hf
      exact XS.pure hr (v := ρ a) (ex (by rw [hv]; exact run_append_empty ht e1 a0 0 0 (Nat.le_refl _) _ (src_empty hr he h2 hnew))) hvr
    · rename_i hn
      split at hf
      · rename_i hb2
        obtain ⟨hbytes, hmx⟩ := hb2
        simp only [Option.some.injEq, Prod.mk.injEq] at hf
        obtain ⟨rfl, rfl⟩ := hf
        obtain ⟨ad, c, vs, hw, hl, hs, hvl, hc⟩ := src_vals hr h2 hnew hn
        have hpos : 0 < new.length := List.length_pos_iff.2 hn
        subst e3
        subst e4
        have hm63 : new.length ≤ 9223372036854775807 := by have h := hmx; unfold maxLen at h; omega
        have hg := grown_goes (z := zv) (ty := e) (cap := grownCap w new.length 0 e) hr he hl hs e7 (grownCap_ge w new.length 0 e) (grownCap_le_maxLen w new.length 0 e hmx)
        cases a0 with
        | none =>
          have hrun := run_append_nil (P := P) w t o.type e i zv ht e1 e2 ad new.length c vs hvl hc hpos (by omega) (by omega)
          exact ⟨_, _, _, .inl (ex (by rw [hv, hw]; exact hrun)), hg, new_sl (ty := e) (cells := #[]) hr he (Nat.le_refl _) (grownCap_ge w new.length 0 e) (grownCap_le_maxLen w new.length 0 e hmx)⟩
        | some ad0 =>
          have hrun := run_append_grow (P := P) w t o.type e i zv ht e1 e2 ad0 0 0 [] (by simp) (fun j u hu => by cases hu) ad new.length c vs hvl hc (by omega) (by omega) (growslice_fits (by omega) (by simpa using hbytes))
          have hrun2 : (Builtin.append_ #[t, t] o.type #[.slice (some ad0) 0 0, .slice (some ad) new.length c]).run P w = .ok (.slice (some ⟨w.drew.heap.size, 0, none⟩) new.length (grownCap w new.length 0 e)) (w.drew.alloc (.cells (vs.toArray ++ Builtin.zeroCells zv.cells (grownCap w new.length 0 e - new.length)) e)) := by simpa using hrun
          exact ⟨_, _, _, .inl (ex (by rw [hv, hw]; exact hrun2)), hg, new_sl (ty := e) (cells := #[]) hr he (Nat.le_refl _) (grownCap_ge w new.length 0 e) (grownCap_le_maxLen w new.length 0 e hmx)⟩
      · cases hf
  unfold aappend at hx
  split at hx
  · rename_i hp
    rw [hp] at h1
    exact fresh (y := .nils) h1 h1 hx
  · rename_i hp
    rw [hp] at h1
    obtain ⟨a0, hv⟩ := vr_emp h1
    exact fresh (y := .emp) hv h1 hx
  · rename_i b0 f n c hp
    rw [hp] at h1
    obtain ⟨ad0, c', p0, hv, n1, n2, n3, hp0, n4⟩ := vr_s h1
    split at hx
    · rename_i hn
      subst hn
      simp only [Option.some.injEq, Prod.mk.injEq] at hx
      obtain ⟨rfl, rfl⟩ := hx
      exact XS.pure hr (v := ρ a) (ex (by rw [hv]; exact run_append_empty ht e1 ad0 n c' (by omega) _ (src_empty hr he h2 hnew))) (he a a' ha)
    · rename_i hn
      obtain ⟨k, hk, hy⟩ := bind_some hx
      clear hx
      split at hy
      · rename_i hb2
        obtain ⟨hksz, hkty, rfl, hnl, hbytes, hmx⟩ := hb2
        obtain ⟨ad, cs, vs, hw, hl, hs, hvl, hc⟩ := src_vals hr h2 hnew hn
        obtain ⟨p, olds, hφ, hpsz, hol, hos, hovl, hoc⟩ := hr.rows_vals (n := n) hk (i := 0) (by omega)
        rw [List.drop_zero] at hol hos
        obtain ⟨p', hp', ok⟩ := hr.blk b0 k hk
        rw [hφ] at hp'
        obtain rfl := Option.some.inj hp'
        rw [hφ] at hp0
        obtain rfl := Option.some.inj hp0
        have hpos : 0 < new.length := List.length_pos_iff.2 hn
        subst e3
        subst e4
        subst hkty
        have hm63 : n + new.length ≤ 9223372036854775807 := by have h := hmx; unfold maxLen at h; omega
        have hrl : ∀ r ∈ k.rows.take n ++ new, r.length = i.size := fun r hr => by
          rcases List.mem_append.1 hr with h | h
          · rw [← hksz]; exact hol r h
          · exact hl r h
        have hsr : SRs φ (k.rows.take n ++ new).flatten (olds ++ vs) := by rw [List.flatten_append]; exact hos.append hs
        have hrlen : (k.rows.take n ++ new).length = n + new.length := by simp; omega
        by_cases hroom : n + new.length ≤ c'
        · obtain ⟨hadr, hcap⟩ := n4.resolve_left (by omega)
          have hown : p.cap ≠ 0 := by omega
          obtain ⟨o1, o2, o3, o4, cells, o5, o6⟩ := ok.real hown
          have hat : p.at (0 * p.sz) = ⟨p.blk, 0, none⟩ := by simp [Place.at, o1]
          rw [hat] at hadr
          subst hadr
          have hfit : n * i.size + vs.length ≤ cells.size := by
            rw [hvl, o6, ← Nat.add_mul, hksz]
            exact Nat.mul_le_mul_right _ (by omega)
          have hrun := run_append_room (P := P) w t o.type k.ty i ht e1 p.blk n c' cells o5 ad new.length cs vs hvl hc (fun u hu => hs.one u hu) hroom hfit
          have hgen : ∀ rows : List (List SV), (∀ (q : Nat) r, rows[q]? = some r → q < n + new.length → (k.rows.take n ++ new)[q]? = some r) → (∀ (q : Nat) r, rows[q]? = some r → n + new.length ≤ q → k.rows[q]? = some r) → rows.length ≤ p.cap →
              Goes φ base H w φ (H.upd b0 { k with rows := rows }) (w.setRow p.blk (cells.toList.take (n * i.size) ++ vs ++ cells.toList.drop (n * i.size + vs.length)).toArray) := fun rows hlow hhigh hlen => by
            refine Goes.upd hr (cells := (cells.toList.take (n * i.size) ++ vs ++ cells.toList.drop (n * i.size + vs.length)).toArray) hk hφ hown (setRow_heap w p.blk cells _ k.ty _ o5) (fun r hr => setRow_other w p.blk r _ (by omega)) (by simp) rfl rfl rfl ?_ ?_ hlen
            · intro q r hq
              rw [hksz]
              rcases Nat.lt_or_ge q (n + new.length) with hlt | hge
              · have hq2 := hlow q r hq hlt
                refine ⟨hrl r (List.mem_of_getElem? hq2), fun j y hy => ?_⟩
                obtain ⟨v, hv2, hsr2⟩ := hsr.get _ _ (flat_get hrl hq2 hy)
                refine ⟨v, ?_, hsr2⟩
                have htk : cells.toList.take (n * i.size) = olds := by
                  apply List.ext_getElem?
                  intro m
                  rw [List.getElem?_take]
                  split
                  · rename_i hm
                    have : m < olds.length := by rw [hovl, hksz]; exact hm
                    have h7 := hoc m _ (List.getElem?_eq_getElem this)
                    simp only [Nat.zero_mul, Place.at, o1, Nat.zero_add, Nat.add_zero] at h7
                    have hadd : (⟨p.blk, 0, none⟩ : Addr).add m = ⟨p.blk, m, none⟩ := by unfold Addr.add; split <;> simp_all
                    rw [hadd, cell_of_row w _ _ _ _ _ o5] at h7
                    rw [List.getElem?_eq_getElem this, ← h7]
                    simp
                  · rw [List.getElem?_eq_none]
                    rw [hovl, hksz]; omega
                rw [htk]
                have hlt2 : q * i.size + j < (olds ++ vs).length := (List.getElem?_eq_some_iff.1 hv2).1
                simp only [List.getElem?_toArray]
                rw [List.getElem?_append_left hlt2]
                exact hv2
              · have hq2 := hhigh q r hq hge
                obtain ⟨hrl2, hcc⟩ := ok.rows q r hq2
                refine ⟨by rw [← hksz]; exact hrl2, fun j y hy => ?_⟩
                obtain ⟨v, hv2, hsr2⟩ := hcc j y hy
                refine ⟨v, ?_, hsr2⟩
                simp only [Place.at, o1, Nat.zero_add] at hv2
                rw [cell_of_row w _ _ _ _ _ o5, hksz] at hv2
                have hge2 : n * i.size + vs.length ≤ q * i.size + j := by
                  rw [hvl, ← Nat.add_mul]
                  exact Nat.le_trans (Nat.mul_le_mul_right _ hge) (Nat.le_add_right _ _)
                simp only [List.getElem?_toArray]
                have hl1 : (cells.toList.take (n * i.size) ++ vs).length = n * i.size + vs.length := by simp; omega
                rw [List.getElem?_append_right (by rw [hl1]; exact hge2), hl1, List.getElem?_drop, show n * i.size + vs.length + (q * i.size + j - (n * i.size + vs.length)) = q * i.size + j by omega]
                simpa using hv2
            · simp
              rw [← o6]
              omega
          have hcapc : n + new.length ≤ p.cap := by omega
          split at hy
          · simp only [Option.some.injEq, Prod.mk.injEq] at hy
            obtain ⟨rfl, rfl⟩ := hy
            refine ⟨_, _, _, .inl (ex (by rw [hv, hw]; exact hrun)), hgen _ (fun q r hq hlt => by rw [List.getElem?_append_left (by rw [hrlen]; exact hlt)] at hq; exact hq) (fun q r hq hge => by
              rw [List.getElem?_append_right (by rw [hrlen]; exact hge), hrlen, List.getElem?_drop, show n + new.length + (q - (n + new.length)) = q by omega] at hq; exact hq) ?_, ⟨_, c', p, rfl, by omega, n2, n3, hφ, .inr ⟨by rw [hat], by omega⟩⟩⟩
            simp
            omega
          · simp only [Option.some.injEq, Prod.mk.injEq] at hy
            obtain ⟨rfl, rfl⟩ := hy
            have hg := hgen (k.rows.take n ++ new) (fun q r hq _ => hq) (fun q r hq hge => by
              have := (List.getElem?_eq_some_iff.1 hq).1
              rw [hrlen] at this
              omega) (by rw [hrlen]; exact hcapc)
            have hren := Goes.rename hg.rel (b := b0) (k := { k with rows := k.rows.take n ++ new }) (p := p) (by simp [AHeap.upd]) hφ
            rw [upd_del] at hren
            have hkk : ({ k with rows := k.rows.take n ++ new } : Blk) = ⟨i.size, k.ty, k.rows.take n ++ new⟩ := by rw [← hksz]
            rw [hkk] at hren hg
            have hall := hg.trans hren
            refine ⟨_, _, _, .inl (ex (by rw [hv, hw]; exact hrun)), hall, ⟨_, c', p, rfl, Nat.le_refl _, hroom, n3, setPlace_same, .inr ⟨by rw [hat], by omega⟩⟩⟩
        · have hcn : ¬ (n + new.length ≤ c) := by omega
          rw [if_neg hcn] at hy
          simp only [Option.some.injEq, Prod.mk.injEq] at hy
          obtain ⟨rfl, rfl⟩ := hy
          have hrun : (Builtin.append_ #[t, t] o.type #[.slice ad0 n c', .slice (some ad) new.length cs]).run P w = .ok (.slice (some ⟨w.drew.heap.size, 0, none⟩) (n + new.length) (grownCap w (n + new.length) c' k.ty)) (w.drew.alloc (.cells (olds.toArray ++ vs.toArray ++ Builtin.zeroCells zv.cells (grownCap w (n + new.length) c' k.ty - (n + new.length))) k.ty)) := by
            by_cases hc0 : c' = 0
            · subst hc0
              obtain rfl : n = 0 := by omega
              have ho : olds = [] := List.length_eq_zero_iff.1 (by rw [hovl]; omega)
              subst ho
              cases ad0 with
              | none =>
                have := run_append_nil (P := P) w t o.type k.ty i zv ht e1 e2 ad new.length cs vs hvl hc hpos (by omega) (by have h7 : new.length * i.bytes ≤ 140737488355328 := (by simpa using hbytes); omega)
                simpa using this
              | some ad0 => exact run_append_grow (P := P) w t o.type k.ty i zv ht e1 e2 ad0 0 0 [] (by simp) (fun j u hu => by cases hu) ad new.length cs vs hvl hc (by omega) (by omega) (growslice_fits (by omega) hbytes)
            · obtain ⟨rfl, hcap⟩ := n4.resolve_left hc0
              have holds : ∀ j u, olds[j]? = some u → w.cell? ((p.at (0 * p.sz)).add j) = some u := fun j u hu => by
                have := hoc j u hu
                rw [hpsz]
                exact this
              exact run_append_grow (P := P) w t o.type k.ty i zv ht e1 e2 _ n c' olds (by rw [hovl, hksz]) holds ad new.length cs vs hvl hc (by omega) (by omega) (growslice_fits (by omega) hbytes)
          have hd := Goes.del hr b0
          have hg := grown_goes (H := H.del b0) (ev := ev) (z := zv) (ty := k.ty) (cap := grownCap w (n + new.length) c' k.ty) hd.rel he hrl hsr e7 (by rw [hrlen]; exact grownCap_ge w _ c' k.ty) (grownCap_le_maxLen w _ c' k.ty hmx)
          rw [hrlen] at hg
          have hcells : ((olds ++ vs).toArray ++ Builtin.zeroCells zv.cells (grownCap w (n + new.length) c' k.ty - (n + new.length))) = olds.toArray ++ vs.toArray ++ Builtin.zeroCells zv.cells (grownCap w (n + new.length) c' k.ty - (n + new.length)) := by
            simp
          rw [hcells] at hg
          exact ⟨_, _, _, .inl (ex (by rw [hv, hw]; exact hrun)), hd.trans hg, new_sl (H := H.del b0) (ty := k.ty) (cells := #[]) hd.rel he (Nat.le_refl _) (grownCap_ge w _ c' k.ty) (grownCap_le_maxLen w _ c' k.ty hmx)⟩
      · cases hy
  · cases hx

omit hr he in
theorem write_rows (hr : Rel φ base H w) {b i sz : Nat} {new : List (List SV)} {vs : List Value} {k : Blk} {p : Place} (hk : H.get b = some k) (hφ : φ b = some p) (hsz : k.sz = sz) (hl : ∀ r ∈ new, r.length = sz) (hs : SRs φ new.flatten vs) (hi : i ≤ k.rows.length) (hle : i + new.length ≤ p.cap) (hne : new ≠ []) :
    p.off = 0 ∧ ∃ w', (storeCells ⟨p.blk, i * sz, none⟩ vs).run P w = .ok () w' ∧ Goes φ base H w φ (H.upd b { k with rows := k.rows.take i ++ new ++ k.rows.drop (i + new.length) }) w' := by
  subst hsz
  obtain ⟨p', hp', ok⟩ := hr.blk b k hk
  rw [hφ] at hp'
  obtain rfl := Option.some.inj hp'
  have hpos : 0 < new.length := List.length_pos_iff.2 hne
  have hcap : p.cap ≠ 0 := by omega
  obtain ⟨o1, o2, o3, o4, cells, o5, o6⟩ := ok.real hcap
  have hvl : vs.length = new.length * k.sz := by rw [← hs.length, flat_len hl]
  have hfit : i * k.sz + vs.length ≤ cells.size := by
    rw [hvl, ← Nat.add_mul, o6]
    exact Nat.mul_le_mul_right _ (by omega)
  have hrun := run_storeCells_at P p.blk (i * k.sz) k.ty vs 0 cells w o5 (by omega) (fun v hv => hs.one v hv)
  simp only [Nat.add_zero] at hrun
  refine ⟨o1, _, hrun, ?_⟩
  have hlen : (k.rows.take i ++ new ++ k.rows.drop (i + new.length)).length ≤ p.cap := by simp; omega
  refine Goes.upd hr (cells := (cells.toList.take (i * k.sz) ++ vs ++ cells.toList.drop (i * k.sz + vs.length)).toArray) hk hφ hcap (setRow_heap w p.blk cells _ k.ty _ o5) (fun r hr => setRow_other w p.blk r _ (by omega)) (by simp) rfl rfl rfl ?_ (by simp; rw [← o6]; omega) hlen
  have hl1 : (cells.toList.take (i * k.sz)).length = i * k.sz := by simp; omega
  have hl2 : (cells.toList.take (i * k.sz) ++ vs).length = i * k.sz + vs.length := by simp; omega
  have hr1 : (k.rows.take i).length = i := by simp; omega
  have hr2 : (k.rows.take i ++ new).length = i + new.length := by simp; omega
  have old : ∀ (q : Nat) r, k.rows[q]? = some r → r.length = k.sz ∧ ∀ (j : Nat) y, r[j]? = some y → ∃ v, cells.toList[q * k.sz + j]? = some v ∧ SR φ y v := fun q r hq => by
    obtain ⟨e1, e2⟩ := ok.rows q r hq
    refine ⟨e1, fun j y hy => ?_⟩
    obtain ⟨v, hv, hsr⟩ := e2 j y hy
    simp only [Place.at, o1, Nat.zero_add] at hv
    rw [cell_of_row w _ _ _ _ _ o5] at hv
    exact ⟨v, by simpa using hv, hsr⟩
  intro q r hq
  simp only [List.getElem?_toArray]
  rcases Nat.lt_or_ge q i with h1 | h1
  · rw [List.getElem?_append_left (by rw [hr2]; omega), List.getElem?_append_left (by rw [hr1]; exact h1), List.getElem?_take, if_pos h1] at hq
    obtain ⟨e1, e2⟩ := old q r hq
    refine ⟨e1, fun j y hy => ?_⟩
    obtain ⟨v, hv, hsr⟩ := e2 j y hy
    have hj : j < k.sz := by have := (List.getElem?_eq_some_iff.1 hy).1; omega
    have hlt : q * k.sz + j < i * k.sz := by
      have := Nat.mul_le_mul_right k.sz h1
      rw [Nat.succ_mul] at this
      omega
    refine ⟨v, ?_, hsr⟩
    rw [List.getElem?_append_left (by rw [hl2]; omega), List.getElem?_append_left (by rw [hl1]; exact hlt), List.getElem?_take, if_pos hlt]
    exact hv
  · rcases Nat.lt_or_ge q (i + new.length) with h2 | h2
    · rw [List.getElem?_append_left (by rw [hr2]; exact h2), List.getElem?_append_right (by rw [hr1]; exact h1), hr1] at hq
      refine ⟨hl r (List.mem_of_getElem? hq), fun j y hy => ?_⟩
      obtain ⟨v, hv, hsr⟩ := hs.get _ _ (flat_get hl hq hy)
      refine ⟨v, ?_, hsr⟩
      have hlt : (q - i) * k.sz + j < vs.length := (List.getElem?_eq_some_iff.1 hv).1
      have e : q * k.sz = i * k.sz + (q - i) * k.sz := by rw [← Nat.add_mul]; congr 1; omega
      rw [List.getElem?_append_left (by rw [hl2]; omega), List.getElem?_append_right (by rw [hl1]; omega), hl1, show q * k.sz + j - i * k.sz = (q - i) * k.sz + j by omega]
      exact hv
    · rw [List.getElem?_append_right (by rw [hr2]; exact h2), hr2, List.getElem?_drop, show i + new.length + (q - (i + new.length)) = q by omega] at hq
      obtain ⟨e1, e2⟩ := old q r hq
      refine ⟨e1, fun j y hy => ?_⟩
      obtain ⟨v, hv, hsr⟩ := e2 j y hy
      have hge : i * k.sz + vs.length ≤ q * k.sz + j := by
        rw [hvl, ← Nat.add_mul]
        exact Nat.le_trans (Nat.mul_le_mul_right _ h2) (Nat.le_add_right _ _)
      refine ⟨v, ?_, hsr⟩
      rw [List.getElem?_append_right (by rw [hl2]; exact hge), hl2, List.getElem?_drop, show i * k.sz + vs.length + (q * k.sz + j - (i * k.sz + vs.length)) = q * k.sz + j by omega]
      exact hv
theorem xs_clr {c : Call} {t e : TypeId} {a : Operand} {a' : Opd} {sz by_ : Nat} {z : List SV} (ho : o.op = .call c) (hcc : c.callee = .builtin .clear) (hca : c.args.toList = [a]) (hct : c.argTypes.toList = [t]) (ht : P.underlying t = some (.slice e)) (hei : einfo P e = some (sz, by_, z)) (ha : opd a = some a')
    (hx : xop (.clr sz z a') ev H = some (x, H')) : XS P φ base H w o ρ x H' := by
  have h1 := he a a' ha
  obtain ⟨i, zv, e1, e2, e3, e4, e5, e6, e7, e8⟩ := einfo_ok hei
  obtain ⟨callee, args, argTypes⟩ := c
  simp only at hcc hca hct
  subst hcc
  obtain rfl : args = #[a] := by cases args; simpa using hca
  obtain rfl : argTypes = #[t] := by cases argTypes; simpa using hct
  have ex : ∀ {v : Value} {w' : World}, (Builtin.clear_ #[t] o.type #[ρ a]).run P w = .ok v w' → (execOp ρ o).run P w = .ok (.value v) w' := fun h => by
    simp [execOp, ho, resolve, invoke, builtin, h]
  simp only [xop] at hx
  split at hx
  · rename_i b f n c hp
    rw [hp] at h1
    obtain ⟨ad, c', p, hv, n1, n2, n3, hφ, n4⟩ := vr_s h1
    split at hx
    · rename_i hn
      subst hn
      simp only [Option.some.injEq, Prod.mk.injEq] at hx
      obtain ⟨rfl, rfl⟩ := hx
      exact XS.pure hr (v := .tuple #[]) (ex (by rw [hv]; cases ad <;> simp [Builtin.clear_, run_underlying ht])) vr_undef0
    · rename_i hn
      obtain ⟨H1, hH, hx⟩ := map_some hx
      simp only [Prod.mk.injEq] at hx
      obtain ⟨rfl, rfl⟩ := hx
      unfold AHeap.wrows at hH
      obtain ⟨k, hk, hH⟩ := bind_some hH
      split at hH
      · rename_i hc
        obtain ⟨hksz, hle⟩ := hc
        obtain rfl := (Option.some.inj hH).symm
        obtain ⟨rfl, hcap⟩ := n4.resolve_left (by omega)
        have hzl : ∀ r ∈ List.replicate n z, r.length = sz := fun r hr => by rw [List.eq_of_mem_replicate hr, e5]
        have hz := zeros_flat (e8 φ) (by omega) n
        obtain ⟨o1, w', hrun, hg⟩ := write_rows (P := P) (i := f) hr hk hφ hksz hzl hz (by simp at hle; omega) (by simp; omega) (by simp [hn])
        have hpsz : p.sz = sz := by
          obtain ⟨p', hp', ok⟩ := hr.blk b k hk
          rw [hφ] at hp'
          obtain rfl := Option.some.inj hp'
          rw [ok.sz]; exact hksz
        have hat : p.at (f * p.sz) = ⟨p.blk, f * sz, none⟩ := by simp [Place.at, o1, hpsz]
        obtain ⟨m, rfl⟩ : ∃ m, n = m + 1 := ⟨n - 1, by omega⟩
        refine ⟨.tuple #[], φ, w', .inl (ex ?_), by simpa using hg, vr_undef0⟩
        rw [hv, hat]
        have hrun' : (storeCells ⟨p.blk, f * sz, none⟩ (Builtin.zeroCells zv.cells (m + 1)).toList).run P w = .ok () w' := by
          rw [← hrun]; rfl
        simp [Builtin.clear_, run_underlying ht, zeroValue, typeInfo, e1, e2, hrun']
      · cases hH
  · cases hx
theorem xs_cpy {c : Call} {t u e : TypeId} {a b : Operand} {a' b' : Opd} {sz by_ : Nat} {z : List SV} (ho : o.op = .call c) (hcc : c.callee = .builtin .copy) (hca : c.args.toList = [a, b]) (hct : c.argTypes.toList = [t, u]) (ht : P.underlying t = some (.slice e)) (hei : einfo P e = some (sz, by_, z)) (ha : opd a = some a') (hb : opd b = some b')
    (hx : xop (.cpy sz a' b') ev H = some (x, H')) : XS P φ base H w o ρ x H' := by
  have h1 := he a a' ha
  have h2 := he b b' hb
  obtain ⟨i, zv, e1, e2, e3, e4, e5, e6, e7, e8⟩ := einfo_ok hei
  obtain ⟨callee, args, argTypes⟩ := c
  simp only at hcc hca hct
  subst hcc
  obtain rfl : args = #[a, b] := by cases args; simpa using hca
  obtain rfl : argTypes = #[t, u] := by cases argTypes; simpa using hct
  have ex : ∀ {v : Value} {w' : World}, (Builtin.copy_ #[t, u] o.type #[ρ a, ρ b]).run P w = .ok v w' → (execOp ρ o).run P w = .ok (.value v) w' := fun h => by
    simp [execOp, ho, resolve, invoke, builtin, h]
  simp only [xop] at hx
  split at hx
  · rename_i b0 f n c hp
    rw [hp] at h1
    obtain ⟨ad, c', p, hv, n1, n2, n3, hφ, n4⟩ := vr_s h1
    obtain ⟨new, hnew, hx⟩ := bind_some hx
    obtain ⟨as_, L, cs_, hw, h2', hL⟩ : ∃ as_ L cs_, ρ b = .slice as_ L cs_ ∧ VR φ (cutTo (ev b') n) (.slice as_ new.length cs_) ∧ Nat.min L n = Nat.min new.length n := by
      have plain : cutTo (ev b') n = ev b' → ∃ as_ L cs_, ρ b = .slice as_ L cs_ ∧ VR φ (cutTo (ev b') n) (.slice as_ new.length cs_) ∧ Nat.min L n = Nat.min new.length n := fun e => by
        rw [e] at hnew ⊢
        have : ∃ as_ cs_, ρ b = .slice as_ new.length cs_ := by
          by_cases hne : new = []
          · subst hne; exact src_empty hr he h2 hnew
          · obtain ⟨a0, c0, vs, hw, _⟩ := src_vals hr h2 hnew hne
            exact ⟨_, _, hw⟩
        obtain ⟨as_, cs_, hw⟩ := this
        rw [hw] at h2
        exact ⟨as_, new.length, cs_, hw, h2, rfl⟩
      cases hy : ev b' with
      | s z =>
        cases z
        case sl b2 i2 m2 c2 =>
          rw [hy] at h2 hnew
          obtain ⟨ad2, c2', p2, hw2, k1, k2, k3, k4, k5⟩ := vr_s h2
          have hnl : new.length = min m2 n := by
            simp only [cutTo, srcRows] at hnew
            obtain ⟨kb, _, hnew⟩ := bind_some hnew
            split at hnew
            · rename_i hc
              rw [← Option.some.inj hnew]
              simp
              omega
            · cases hnew
          refine ⟨ad2, m2, c2', hw2, ⟨ad2, c2', p2, by rw [hnl], by omega, k2, k3, k4, k5⟩, ?_⟩
          rw [hnl]
          show min m2 n = min (min m2 n) n
          omega
        all_goals exact (by rw [hy] at plain; exact plain rfl)
      | _ => exact (by rw [hy] at plain; exact plain rfl)
    split at hx
    · rename_i hn
      simp only [Option.some.injEq, Prod.mk.injEq] at hx
      obtain ⟨rfl, rfl⟩ := hx
      have hmin : Nat.min new.length n = 0 := by
        have := congrArg List.length hn
        simp at this
        show min new.length n = 0
        rcases this with h | h
        · rw [h]; simp
        · rw [h]; simp
      refine XS.pure hr (v := .int .i64 0) (ex ?_) rfl
      rw [hv, hw]
      cases ad <;> cases as_ <;> simp [Builtin.copy_, run_underlying ht, Builtin.lenOf, Builtin.firstCells, sizeOf, typeInfo, e1, hL, hmin, storeCells, loadCells, loadCellsFrom, goInt]
    · rename_i hn
      obtain ⟨H1, hH, hx⟩ := map_some hx
      simp only [Prod.mk.injEq] at hx
      obtain ⟨rfl, rfl⟩ := hx
      unfold AHeap.wrowsx at hH
      obtain ⟨k, hk, hH⟩ := bind_some hH
      split at hH
      · rename_i hc
        obtain ⟨hksz, hle⟩ := hc
        obtain rfl := (Option.some.inj hH).symm
        have hne : new ≠ [] := fun e => by subst e; simp at hn
        have hn0 : n ≠ 0 := fun e => by subst e; simp at hn
        obtain ⟨rfl, hcap⟩ := n4.resolve_left (by omega)
        obtain ⟨a0, c0, vs, hw', hl, hs, hvl, hcell⟩ := src_vals hr h2' hnew hne
        simp only [Value.slice.injEq] at hw'
        obtain ⟨rfl, _, rfl⟩ := hw'
        have hs' : SRs φ (new.take n).flatten (vs.take ((new.take n).length * sz)) := by
          have hspl : new.flatten = (new.take n).flatten ++ (new.drop n).flatten := by rw [← List.flatten_append, List.take_append_drop]
          have hfl : (new.take n).flatten.length = (new.take n).length * sz := flat_len fun r hr => hl r (List.mem_of_mem_take hr)
          have := hs.take ((new.take n).length * sz)
          rw [hspl, List.take_left' hfl] at this
          exact this
        obtain ⟨o1, w', hrun, hg⟩ := write_rows (P := P) (i := f) hr hk hφ hksz (fun r hr => hl r (List.mem_of_mem_take hr)) hs' hle (by simp; omega) hn
        have hpsz : p.sz = sz := by
          obtain ⟨p', hp', ok⟩ := hr.blk b0 k hk
          rw [hφ] at hp'
          obtain rfl := Option.some.inj hp'
          rw [ok.sz]; exact hksz
        have hat : p.at (f * p.sz) = ⟨p.blk, f * sz, none⟩ := by simp [Place.at, o1, hpsz]
        have hlen : (new.take n).length = Nat.min new.length n := by rw [List.length_take, Nat.min_comm]
        have hvl' : (vs.take ((new.take n).length * sz)).length = (new.take n).length * sz := by
          rw [List.length_take, hvl]
          refine Nat.min_eq_left (Nat.mul_le_mul_right _ ?_)
          simp
          exact Nat.min_le_right _ _
        have hld := run_loadCells_list (P := P) w a0 (vs.take ((new.take n).length * sz)) (fun j v hj => hcell j v (by
          rw [List.getElem?_take] at hj
          split at hj
          · exact hj
          · cases hj))
        rw [hvl', hlen] at hld
        refine ⟨.int .i64 (new.take n).length, φ, w', .inl (ex ?_), hg, rfl⟩
        rw [hlen] at hrun ⊢
        rw [hv, hw, hat]
        subst e3
        simp [Builtin.copy_, run_underlying ht, Builtin.lenOf, Builtin.firstCells, sizeOf, typeInfo, e1, hL, hld, hrun, goInt]
      · cases hH
  · cases hx
theorem xs_appz {c : Call} {t tn e : TypeId} {a b : Operand} {a' b' : Opd} {kn : IntKind} {sz by_ : Nat} {z : List SV} (ho : o.op = .call c) (hcc : c.callee = .builtin .append) (hca : c.args.toList = [a, b]) (hct : c.argTypes.toList = [t, tn]) (ht : P.underlying t = some (.slice e)) (htn : P.underlying tn = some (.int kn)) (hei : einfo P e = some (sz, by_, z)) (ha : opd a = some a') (hb : opd b = some b')
    (hx : xappz e sz by_ z (ev a') (ev b') H = some (x, H')) : XS P φ base H w o ρ x H' := by
  have h1 := he a a' ha
  have h2 := he b b' hb
  obtain ⟨i, zv, e1, e2, e3, e4, e5, e6, e7, e8⟩ := einfo_ok hei
  obtain ⟨callee, args, argTypes⟩ := c
  simp only at hcc hca hct
  subst hcc
  obtain rfl : args = #[a, b] := by cases args; simpa using hca
  obtain rfl : argTypes = #[t, tn] := by cases argTypes; simpa using hct
  have ex : ∀ {v : Value} {w' : World}, (Builtin.append_ #[t, tn] o.type #[ρ a, ρ b]).run P w = .ok v w' → (execOp ρ o).run P w = .ok (.value v) w' := fun h => by
    simp [execOp, ho, resolve, invoke, builtin, h]
  unfold xappz at hx
  split at hx
  · rename_i b0 f k c0 zz hp hq
    rw [hp] at h1
    rw [hq] at h2
    obtain ⟨ad, c', p', hv, n1, n2, n3, hp', n4⟩ := vr_s h1
    have hw : ρ b = .int .i64 zz := h2
    split at hx
    · rename_i hz0
      obtain ⟨m, rfl⟩ := Int.eq_ofNat_of_zero_le (Int.le_of_lt hz0)
      rw [Int.toNat_natCast] at hx
      unfold appz at hx
      split at hx
      · rename_i b' F hfull
        obtain ⟨kb, hk, hy⟩ := bind_some hx
        clear hx
        split at hy
        · rename_i hb2
          obtain ⟨rfl, rfl, hksz, hkl, hF, hbytes, hmx⟩ := hb2
          simp only [Option.some.injEq, Prod.mk.injEq] at hy
          obtain ⟨rfl, rfl⟩ := hy
          obtain ⟨p, hφ, hFp⟩ := hr.full _ _ hfull
          have hp'' := hp'
          rw [hφ] at hp''
          obtain rfl := Option.some.inj hp''
          obtain ⟨pp, olds, hφ2, hpsz, hol, hos, hovl, hoc⟩ := hr.rows_vals (n := k) hk (i := 0) (by omega)
          rw [List.drop_zero] at hol hos
          rw [hφ] at hφ2
          obtain rfl := Option.some.inj hφ2
          subst e3
          subst e4
          have hm0 : 0 < m := by omega
          have hm63 : k + m ≤ 9223372036854775807 := by have h := hmx; unfold maxLen at h; omega
          have hc : c' < k + m := by
            rcases n4 with h | ⟨_, h⟩ <;> omega
          have hfirst : (Builtin.firstCells i.size k (.slice ad k c')).run P w.drew = .ok olds.toArray w.drew := by
            by_cases hc0 : c' = 0
            · have hk0 : k = 0 := by omega
              have ho : olds = [] := List.length_eq_zero_iff.1 (by rw [hovl, hk0]; omega)
              subst ho
              cases ad with
              | none => exact run_firstCells_none _ _ _ _ _
              | some ad0 => exact run_firstCells_some (P := P) w.drew i.size k ad0 k c' [] (by rw [hk0]; simp) (fun j v hj => by cases hj)
            · obtain ⟨rfl, _⟩ := n4.resolve_left hc0
              exact run_firstCells_some (P := P) w.drew i.size k _ k c' olds (by rw [hovl, hksz]) (fun j v hj => by
                have := hoc j v hj
                rw [hpsz]
                exact this)
          have hrun := Lib.run_append_grow_zeros (P := P) w t tn o.type e i zv .i64 kn ht htn e1 e2 ad k c' olds hfirst m hm0 e6 hc (by omega) (by
            have : m * i.bytes ≤ (k + m) * i.bytes := Nat.mul_le_mul_right _ (by omega)
            omega) (growslice_fits hc hbytes)
          have hrl : ∀ r ∈ kb.rows.take k ++ List.replicate m z, r.length = i.size := fun r hr => by
            rcases List.mem_append.1 hr with h | h
            · rw [← hksz]; exact hol r h
            · rw [List.eq_of_mem_replicate h, e5]
          have hzf := zeros_flat (e8 φ) (by rw [e7]; exact e6) m
          have hsr : SRs φ (kb.rows.take k ++ List.replicate m z).flatten (olds ++ ((Array.range (m * zv.cells.size)).map (zv.cells[· % zv.cells.size]!)).toList) := by rw [List.flatten_append]; exact hos.append hzf
          have hrlen : (kb.rows.take k ++ List.replicate m z).length = k + m := by simp; omega
          have hg := grown_goes (z := zv) (ty := e) (cap := grownCap w (k + m) c' e) hr he hrl hsr e7 (by rw [hrlen]; exact grownCap_ge w _ c' e) (grownCap_le_maxLen w _ c' e hmx)
          rw [hrlen] at hg
          have hcells : ((olds ++ ((Array.range (m * zv.cells.size)).map (zv.cells[· % zv.cells.size]!)).toList).toArray ++ Builtin.zeroCells zv.cells (grownCap w (k + m) c' e - (k + m))) = olds.toArray ++ Builtin.zeroCells zv.cells m ++ Builtin.zeroCells zv.cells (grownCap w (k + m) c' e - (k + m)) := by
            congr 1
            apply Array.ext'
            simp [Builtin.zeroCells]
          rw [hcells] at hg
          exact ⟨_, _, _, .inl (ex (by rw [hv, hw]; exact hrun)), hg, new_sl (ty := e) (cells := #[]) hr he (Nat.le_refl _) (grownCap_ge w _ c' e) (grownCap_le_maxLen w _ c' e hmx)⟩
        · cases hy
      · cases hx
    · cases hx
  · cases hx
theorem xop_sound {ao : AOp} (hc : comp P o.op = some ao) (hx : xop ao ev H = some (x, H')) : XS P φ base H w o ρ x H' := by
  cases hop : o.op <;> rw [hop] at hc <;> simp only [comp] at hc
  case move a =>
    obtain ⟨a', ha, rfl⟩ := map_some hc
    exact xs_mov hr he (.inl hop) ha hx
  case assign a =>
    obtain ⟨a', ha, rfl⟩ := map_some hc
    exact xs_mov hr he (.inr hop) ha hx
  case pick c a b =>
    obtain ⟨c', hc', hc⟩ := bind_some hc
    obtain ⟨a', ha, hc⟩ := bind_some hc
    obtain ⟨b', hb, rfl⟩ := map_some hc
    exact xs_pick hr he hop hc' ha hb hx
  case alloc t =>
    obtain ⟨⟨sz, b, z⟩, hi, rfl⟩ := map_some hc
    exact xs_alloc hr he hop hi hx
  case box t a =>
    obtain ⟨a', ha, rfl⟩ := map_some hc
    exact xs_box hr he hop ha hx
  case build t ps =>
    split at hc
    · split at hc
      · obtain ⟨⟨sz, b, z⟩, hi, hc⟩ := bind_some hc
        obtain ⟨qs, hq, rfl⟩ := map_some hc
        exact xs_build hr he hop ‹_› ‹_› hi hq hx
      · cases hc
    · cases hc
  case buildSlice t n ps =>
    split at hc
    · obtain ⟨⟨sz, b, z⟩, hi, hc⟩ := bind_some hc
      simp only at hc
      split at hc
      · obtain ⟨qs, hq, rfl⟩ := map_some hc
        exact xs_mkrow hr he hop ‹_› hi ‹_› hq hx
      · cases hc
    · cases hc
  case load t a =>
    split at hc
    · rename_i d i hd hi
      obtain ⟨a', ha, rfl⟩ := map_some hc
      exact xs_load hr he hop hd hi ha hx
    · cases hc
  case store t a b =>
    obtain ⟨i, hi, hc⟩ := bind_some hc
    obtain ⟨a', ha, hc⟩ := bind_some hc
    obtain ⟨b', hb, rfl⟩ := map_some hc
    exact xs_store hr he hop hi ha hb hx
  case nilCheck a =>
    obtain ⟨a', ha, rfl⟩ := map_some hc
    exact xs_nilck hr he hop ha hx
  case binOp op t a b yt =>
    obtain ⟨a', ha, hc⟩ := bind_some hc
    obtain ⟨b', hb, hc⟩ := bind_some hc
    split at hc
    · cases hc; exact xs_bin hr he hop ha hb hx
    · cases hc; exact xs_bin hr he hop ha hb hx
    · split at hc
      · cases hc; subst_vars; exact xs_eqb hr he (neg := false) hop ‹_› ha hb hx
      · split at hc
        · cases hc; subst_vars; exact xs_eqb hr he (neg := true) hop ‹_› ha hb hx
        · cases hc
    · split at hc
      · cases hc; subst_vars; exact xs_eqnil hr he (neg := false) hop ‹_› ha hb hx
      · split at hc
        · cases hc; subst_vars; exact xs_eqnil hr he (neg := true) hop ‹_› ha hb hx
        · cases hc
    · split at hc
      · rename_i hpl
        obtain ⟨p2, p3⟩ := hpl
        obtain ⟨ks, p1, hc⟩ := bind_some hc
        split at hc
        · cases hc; subst_vars; exact xs_eqagg hr he (neg := false) hop ‹_› p1 p2 p3 ha hb hx
        · split at hc
          · cases hc; subst_vars; exact xs_eqagg hr he (neg := true) hop ‹_› p1 p2 p3 ha hb hx
          · cases hc
      · cases hc
    · cases hc
  case unOp op t a =>
    obtain ⟨a', ha, rfl⟩ := map_some hc
    exact xs_un hr he hop ha hx
  case convert s d a =>
    split at hc
    · obtain ⟨a', ha, rfl⟩ := map_some hc
      exact xs_toInt hr he hop ‹_› ‹_› ha hx
    · split at hc
      · obtain ⟨a', ha, rfl⟩ := map_some hc
        exact xs_strof hr he hop ‹_› ‹_› ‹_› ha hx
      · cases hc
    · cases hc
  case makeFunc fn first caps =>
    split at hc
    · split at hc
      · rename_i hcc
        obtain ⟨cs, hcs, rfl⟩ := map_some hc
        rename_i f
        exact xs_mkfn hr he hop hcc.1 hcs hx
      · cases hc
    · cases hc
  case makeSlice t l c =>
    split at hc
    · obtain ⟨⟨sz, b, z⟩, hi, hc⟩ := bind_some hc
      obtain ⟨l', hl, hc⟩ := bind_some hc
      obtain ⟨c', hc', rfl⟩ := map_some hc
      exact xs_mkslice hr he hop ‹_› hi hl hc' hx
    · cases hc
  case slice t a lo hi mx =>
    split at hc
    · split at hc
      · cases hc
      · rename_i hmh
        obtain ⟨i, hin, hc⟩ := bind_some hc
        obtain ⟨a', ha, hc⟩ := bind_some hc
        obtain ⟨lo', hlo, hc⟩ := bind_some hc
        obtain ⟨hi', hhi, hc⟩ := bind_some hc
        obtain ⟨mx', hmx, rfl⟩ := map_some hc
        exact xs_slice hr he hop ‹_› hin (by rw [Bool.not_eq_true] at hmh; exact hmh) ha hlo hhi hmx hx
    · split at hc
      · cases hc
      · rename_i hmh
        obtain ⟨a', ha, hc⟩ := bind_some hc
        obtain ⟨lo', hlo, hc⟩ := bind_some hc
        obtain ⟨hi', hhi, rfl⟩ := map_some hc
        exact xs_sslice hr he hop ‹_› (by cases mx with | none => rfl | some _ => simp at hmh) ha hlo hhi hx
    · cases hc
  case fieldAddr t a f =>
    split at hc
    · obtain ⟨d, hd, hc⟩ := bind_some hc
      obtain ⟨i, hi, hc⟩ := bind_some hc
      split at hc
      · obtain ⟨a', ha, rfl⟩ := map_some hc
        exact xs_faddr hr he hop ‹_› hd hi ‹_› ha hx
      · cases hc
    · cases hc
  case field t a f =>
    split at hc
    · obtain ⟨d, hd, hc⟩ := bind_some hc
      obtain ⟨i, hi, hc⟩ := bind_some hc
      obtain ⟨u, hu, hc⟩ := bind_some hc
      obtain ⟨a', ha, rfl⟩ := map_some hc
      exact xs_field hr he hop ‹_› hd hi hu ha hx
    · cases hc
  case indexAddr t a ix =>
    split at hc
    · obtain ⟨d, hd, hc⟩ := bind_some hc
      obtain ⟨a', ha, hc⟩ := bind_some hc
      obtain ⟨i', hi, rfl⟩ := map_some hc
      exact xs_iaddr hr he hop ‹_› hd ha hi hx
    · cases hc
  case index t a ix =>
    split at hc
    · obtain ⟨a', ha, hc⟩ := bind_some hc
      obtain ⟨i', hi, rfl⟩ := map_some hc
      exact xs_sidx hr he hop ‹_› ha hi hx
    · cases hc
  case extract a k =>
    obtain ⟨a', ha, rfl⟩ := map_some hc
    exact xs_extract hr he hop ha hx
  case call c =>
    unfold compCall at hc
    split at hc
    · split at hc
      · obtain ⟨az, _, rfl⟩ := map_some hc; cases hx
      · obtain ⟨az, _, rfl⟩ := map_some hc; cases hx
    · obtain ⟨az, _, rfl⟩ := map_some hc; cases hx
    · rename_i hcal
      split at hc
      · rename_i a t ha ht
        split at hc
        · obtain ⟨a', ha', rfl⟩ := map_some hc
          exact xs_len hr he hop hcal ha ht ‹_› ha' hx
        · obtain ⟨a', ha', rfl⟩ := map_some hc
          exact xs_slen hr he hop hcal ha ht ‹_› ha' hx
        · cases hc
      · cases hc
    · rename_i hcal
      split at hc
      · rename_i a b t u ha ht
        split at hc
        · split at hc
          · obtain ⟨⟨sz, by_, z⟩, hi, hc⟩ := bind_some hc
            obtain ⟨a', ha', hc⟩ := bind_some hc
            obtain ⟨b', hb', rfl⟩ := map_some hc
            subst_vars
            exact xs_append hr he hop hcal ha ht ‹_› hi ha' hb' hx
          · cases hc
        · cases hc
      · cases hc
    · rename_i hcal
      split at hc
      · rename_i a b ha
        obtain ⟨a', ha', hc⟩ := bind_some hc
        obtain ⟨b', hb', rfl⟩ := map_some hc
        exact xs_mx hr he hop hcal ha ha' hb' hx
      · cases hc
    · rename_i hcal
      split at hc
      · rename_i a b ha
        obtain ⟨a', ha', hc⟩ := bind_some hc
        obtain ⟨b', hb', rfl⟩ := map_some hc
        exact xs_mn hr he hop hcal ha ha' hb' hx
      · cases hc
    · rename_i hcal
      split at hc
      · rename_i a t ha ht
        split at hc
        · obtain ⟨⟨sz, by_, z⟩, hi, hc⟩ := bind_some hc
          obtain ⟨a', ha', rfl⟩ := map_some hc
          exact xs_clr hr he hop hcal ha ht ‹_› hi ha' hx
        · cases hc
      · cases hc
    · rename_i hcal
      split at hc
      · rename_i a b t u ha ht
        split at hc
        · obtain ⟨⟨sz, by_, z⟩, hi, hc⟩ := bind_some hc
          obtain ⟨a', ha', hc⟩ := bind_some hc
          obtain ⟨b', hb', rfl⟩ := map_some hc
          exact xs_cpy hr he hop hcal ha ht ‹_› hi ha' hb' hx
        · cases hc
      · cases hc
    · cases hc
  all_goals cases hc
end
end Go.Proofs.YtoeieoapnhhaeaaGreat.Den
namespace Go.Proofs.YtoeieoapnhhaeaaGreat.Den
open Go.RowKit
set_option linter.unusedVariables false
set_option linter.unusedSimpArgs false
def optL : Option Opd → List Opd
  | none => []
  | some x => [x]
def AOp.opds : AOp → List Opd
  | .mov x | .box _ x | .load1 x | .loadn _ x | .nilck x | .un _ x | .toInt _ x | .faddr _ x | .field1 _ x | .fieldn _ _ x | .extract x _ | .len x | .slen x | .strof x | .clr _ _ x => [x]
  | .pick c a b => [c, a, b]
  | .alloc _ _ _ => []
  | .build _ ps => ps.map (·.2.2)
  | .mkrow _ _ _ _ ps => ps.map (·.2)
  | .mklst _ _ _ _ ps => ps.map (·.2)
  | .store _ a x | .bin _ a x | .eqb _ a x | .eqnil _ a x | .eqagg _ _ a x | .mkslice _ _ _ _ a x | .iaddr _ a x | .sidx a x | .append _ _ _ a x | .cpy _ a x | .mx a x | .mn a x => [a, x]
  | .mkfn _ cs => cs
  | .slice _ x lo hi m => x :: (optL lo ++ (optL hi ++ optL m))
  | .sslice x lo hi => x :: (optL lo ++ optL hi)
  | .call _ az => az
  | .callx _ az => az
  | .capx x => [x]
  | .slicex _ x h => [x, h]
  | .appz _ _ _ _ x n => [x, n]
  | .callv x az => x :: az
def otmp : Opd → List Nat
  | .t n => [n]
  | _ => []
def AOp.tmps (o : AOp) : List Nat := o.opds.flatMap otmp
def gslot : Option (Nat × Bool) → List Nat
  | none => []
  | some (t, _) => [t]
def AOper.reads (a : AOper) : List Nat := gslot a.guard ++ a.op.tmps
theorem bound_congr {d : Nat} {e e' : Opd → AV} {x : Option Opd} (h : ∀ o ∈ optL x, e o = e' o) : bound d e x = bound d e' x := by
  cases x with
  | none => rfl
  | some y => simp only [bound, h y (by simp [optL])]
theorem xop_congr {op : AOp} {e e' : Opd → AV} {H : AHeap} (h : ∀ o ∈ op.opds, e o = e' o) : xop op e H = xop op e' H := by
  cases op
  case slice sz x lo hi mx =>
    simp only [AOp.opds, List.mem_cons, List.mem_append, forall_eq_or_imp] at h
    obtain ⟨h0, h1⟩ := h
    simp only [xop, h0, bound_congr (fun o ho => h1 o (.inl ho)), bound_congr (fun o ho => h1 o (.inr (.inl ho))), bound_congr (fun o ho => h1 o (.inr (.inr ho)))]
  case sslice x lo hi =>
    simp only [AOp.opds, List.mem_cons, List.mem_append, forall_eq_or_imp] at h
    obtain ⟨h0, h1⟩ := h
    simp only [xop, h0, bound_congr (fun o ho => h1 o (.inl ho)), bound_congr (fun o ho => h1 o (.inr ho))]
  case build z ps =>
    have : ps.map (fun p => (p.1, p.2.1, e p.2.2)) = ps.map (fun p => (p.1, p.2.1, e' p.2.2)) := List.map_congr_left fun p hp => by rw [h p.2.2 (List.mem_map.2 ⟨p, hp, rfl⟩)]
    simp only [xop, this]
  case mkrow ty sz z n ps =>
    have : ps.map (fun p => (p.1, e p.2)) = ps.map (fun p => (p.1, e' p.2)) := List.map_congr_left fun p hp => by rw [h p.2 (List.mem_map.2 ⟨p, hp, rfl⟩)]
    simp only [xop, this]
  case mklst ty sz z n ps =>
    have : ps.map (fun p => (p.1, e p.2)) = ps.map (fun p => (p.1, e' p.2)) := List.map_congr_left fun p hp => by rw [h p.2 (List.mem_map.2 ⟨p, hp, rfl⟩)]
    simp only [xop, this]
  case mkfn f cs =>
    have : cs.map e = cs.map e' := List.map_congr_left fun p hp => h p hp
    simp only [xop, this]
  all_goals simp_all [xop, AOp.opds]
theorem evf_congr {f g : Fr} {o : Opd} (h : ∀ t ∈ otmp o, fget f t = fget g t) : evf f o = evf g o := by
  cases o <;> first | rfl | exact h _ (by simp [otmp])
def AOp.pure : AOp → Bool
  | .mov _ | .pick _ _ _ | .build _ _ | .nilck _ | .bin _ _ _ | .eqb _ _ _ | .eqnil _ _ _ | .eqagg _ _ _ _ | .un _ _ | .toInt _ _ | .mkfn _ _ | .sslice _ _ _ | .faddr _ _ | .field1 _ _ | .fieldn _ _ _ | .sidx _ _ | .extract _ _ | .len _ | .slen _ | .mx _ _ | .mn _ _ | .mklst _ _ _ _ _ => true
  | _ => false
def AOp.reading : AOp → Bool
  | .load1 _ | .loadn _ _ | .iaddr _ _ _ | .slice _ _ _ _ _ | .strof _ => true
  | _ => false
theorem pure_any {op : AOp} (hp : op.pure = true) {e : Opd → AV} {H H1 : AHeap} {v : AV} (h : xop op e H = some (v, H1)) : H1 = H ∧ ∀ H2, xop op e H2 = some (v, H2) := by
  cases op <;> first | (cases hp; done) | skip
  all_goals simp only [xop] at h ⊢
  case mov => simp only [Option.some.injEq, Prod.mk.injEq] at h; obtain ⟨rfl, rfl⟩ := h; exact ⟨rfl, fun _ => rfl⟩
  case pick =>
    split at h
    · simp only [Option.some.injEq, Prod.mk.injEq] at h; obtain ⟨rfl, rfl⟩ := h; exact ⟨rfl, fun _ => rfl⟩
    · cases h
  case build => obtain ⟨l, hl, h⟩ := map_some h; cases h; exact ⟨rfl, fun _ => by rw [hl]; rfl⟩
  case mkfn => obtain ⟨l, hl, h⟩ := map_some h; cases h; exact ⟨rfl, fun _ => by rw [hl]; rfl⟩
  case mklst =>
    obtain ⟨l, hl, h⟩ := bind_some h
    split at h
    · rename_i hc; cases h; exact ⟨rfl, fun _ => by rw [hl]; simp only [Option.bind_some]; rw [if_pos hc]⟩
    · cases h
  case nilck => split at h <;> cases h <;> exact ⟨rfl, fun _ => rfl⟩
  case bin =>
    split at h
    · obtain ⟨l, hl, h⟩ := map_some h; cases h; exact ⟨rfl, fun _ => by rw [hl]; rfl⟩
    · cases h
  case eqb => split at h <;> cases h <;> exact ⟨rfl, fun _ => rfl⟩
  case eqnil => split at h <;> cases h <;> exact ⟨rfl, fun _ => rfl⟩
  case eqagg =>
    split at h
    · obtain ⟨l, hl, h⟩ := map_some h; cases h; exact ⟨rfl, fun _ => by rw [hl]; rfl⟩
    · cases h
  case un => split at h <;> cases h <;> exact ⟨rfl, fun _ => rfl⟩
  case toInt => split at h <;> cases h <;> exact ⟨rfl, fun _ => rfl⟩
  case faddr => split at h <;> cases h <;> exact ⟨rfl, fun _ => rfl⟩
  case len => obtain ⟨l, hl, h⟩ := map_some h; cases h; exact ⟨rfl, fun _ => by rw [hl]; rfl⟩
  case slen => split at h <;> cases h <;> exact ⟨rfl, fun _ => rfl⟩
  case field1 =>
    split at h
    · obtain ⟨l, hl, h⟩ := map_some h; cases h; exact ⟨rfl, fun _ => by rw [hl]; rfl⟩
    · cases h
  case fieldn =>
    split at h
    · split at h
      · rename_i hc; cases h; exact ⟨rfl, fun _ => by rw [if_pos hc]⟩
      · cases h
    · cases h
  case sidx =>
    split at h
    · split at h
      · rename_i hc; obtain ⟨l, hl, h⟩ := map_some h; cases h; exact ⟨rfl, fun _ => by rw [if_pos hc, hl]; rfl⟩
      · cases h
    · cases h
  case extract =>
    split at h
    · obtain ⟨l, hl, h⟩ := map_some h; cases h; exact ⟨rfl, fun _ => by rw [hl]; rfl⟩
    · cases h
  case sslice =>
    split at h
    · obtain ⟨m, hm, h⟩ := bind_some h
      obtain ⟨l, hl, h⟩ := bind_some h
      split at h
      · rename_i hc
        cases h
        exact ⟨rfl, fun _ => by rw [hm]; simp only [Option.bind_some]; rw [hl]; simp only [Option.bind_some]; rw [if_pos hc]⟩
      · cases h
    · cases h
  case mx =>
    split at h
    · split at h
      · rename_i hc; cases h; exact ⟨rfl, fun _ => by rw [if_pos hc]⟩
      · cases h
    · cases h
  case mn =>
    split at h
    · split at h
      · rename_i hc; cases h; exact ⟨rfl, fun _ => by rw [if_pos hc]⟩
      · cases h
    · cases h
theorem reading_ext {op : AOp} (hp : op.reading = true) {e : Opd → AV} {H H1 : AHeap} {v : AV} (h : xop op e H = some (v, H1)) : H1 = H ∧ ∀ H2, (∀ b k, H.get b = some k → H2.get b = some k) → xop op e H2 = some (v, H2) := by
  have hrow : ∀ {H2 : AHeap}, (∀ b k, H.get b = some k → H2.get b = some k) → ∀ {b i r}, H.row b i = some r → H2.row b i = some r := by
    intro H2 hg b i r hr
    unfold AHeap.row at hr ⊢
    obtain ⟨k, hk, hr⟩ := bind_some hr
    rw [hg b k hk]
    exact hr
  have hhas : ∀ {H2 : AHeap}, (∀ b k, H.get b = some k → H2.get b = some k) → ∀ {b sz}, H.has b sz = true → H2.has b sz = true := by
    intro H2 hg b sz hr
    unfold AHeap.has at hr ⊢
    split at hr
    · rename_i k hk; rw [hg b k hk]; exact hr
    · cases hr
  cases op <;> first | (cases hp; done) | skip
  all_goals simp only [xop] at h ⊢
  case strof y =>
    obtain ⟨rows, hs, h⟩ := bind_some h
    obtain ⟨ns, hn, h⟩ := map_some h
    cases h
    refine ⟨rfl, fun H2 hg => ?_⟩
    have : srcRows H2 1 (e y) = some rows := by
      unfold srcRows at hs ⊢
      split at hs
      · exact hs
      · exact hs
      · exact hs
      · exact hs
      · obtain ⟨k, hk, hs⟩ := bind_some hs
        rw [hg _ k hk]
        exact hs
      · cases hs
    rw [this]
    simp only [Option.bind_some, hn]
    rfl
  case load1 =>
    split at h
    · obtain ⟨l, hl, h⟩ := map_some h
      cases h
      refine ⟨rfl, fun H2 hg => ?_⟩
      unfold AHeap.cell at hl ⊢
      obtain ⟨r, hr, hl⟩ := bind_some hl
      rw [hrow hg hr]
      simp [hl]
    · obtain ⟨l, hl, h⟩ := map_some h
      cases h
      exact ⟨rfl, fun H2 hg => by rw [hl]; rfl⟩
    · cases h
  case loadn =>
    split at h
    · obtain ⟨l, hl, h⟩ := map_some h
      cases h
      refine ⟨rfl, fun H2 hg => ?_⟩
      unfold AHeap.cells at hl ⊢
      obtain ⟨r, hr, hl⟩ := bind_some hl
      rw [hrow hg hr]
      simp only [Option.bind_some, hl]
      rfl
    · split at h
      · rename_i hc
        cases h
        exact ⟨rfl, fun H2 hg => by rw [if_pos hc]⟩
      · cases h
    · cases h
  case iaddr =>
    split at h
    · split at h
      · rename_i hc
        cases h
        exact ⟨rfl, fun H2 hg => by rw [if_pos ⟨hc.1, hc.2.1, hhas hg hc.2.2⟩]⟩
      · cases h
    · split at h
      · rename_i hc
        obtain ⟨l, hl, h⟩ := map_some h
        cases h
        exact ⟨rfl, fun H2 hg => by rw [if_pos hc, hl]; rfl⟩
      · cases h
    · cases h
  case slice =>
    split at h
    · split at h
      · obtain ⟨n, hn, h⟩ := bind_some h
        obtain ⟨l, hl, h⟩ := bind_some h
        split at h
        · rename_i hc
          cases h
          refine ⟨rfl, fun H2 hg => ?_⟩
          rw [hn]; simp only [Option.bind_some]; rw [hl]; simp only [Option.bind_some]
          rw [if_pos ⟨hc.1, hc.2.1, hhas hg hc.2.2⟩]
        · cases h
      · obtain ⟨m, hm, h⟩ := bind_some h
        obtain ⟨n, hn, h⟩ := bind_some h
        obtain ⟨l, hl, h⟩ := bind_some h
        split at h
        · rename_i hc
          cases h
          refine ⟨rfl, fun H2 hg => ?_⟩
          rw [hm]; simp only [Option.bind_some]; rw [hn]; simp only [Option.bind_some]; rw [hl]; simp only [Option.bind_some]
          rw [if_pos ⟨hc.1, hc.2.1, hc.2.2.1, hhas hg hc.2.2.2⟩]
        · cases h
    · obtain ⟨m, hm, h⟩ := bind_some h
      obtain ⟨n, hn, h⟩ := bind_some h
      obtain ⟨l, hl, h⟩ := bind_some h
      split at h
      · rename_i hc
        cases h
        refine ⟨rfl, fun H2 hg => ?_⟩
        rw [hm]; simp only [Option.bind_some]; rw [hn]; simp only [Option.bind_some]; rw [hl]; simp only [Option.bind_some]
        rw [if_pos hc]
      · cases h
    · obtain ⟨m, hm, h⟩ := bind_some h
      obtain ⟨n, hn, h⟩ := bind_some h
      obtain ⟨l, hl, h⟩ := bind_some h
      split at h
      · rename_i hc
        cases h
        refine ⟨rfl, fun H2 hg => ?_⟩
        rw [hm]; simp only [Option.bind_some]; rw [hn]; simp only [Option.bind_some]; rw [hl]; simp only [Option.bind_some]
        rw [if_pos hc]
      · cases h
    · cases h
def AOp.isMov : AOp → Bool
  | .mov _ => true
  | _ => false
def flRows : AOp → List (List SV)
  | .alloc _ _ z => [z]
  | .mkrow _ sz z n ps => (afillRows (ps.map fun (i, x) => (i, evf [] x)) (List.replicate n z) sz).getD []
  | _ => []
def flTy : AOp → Nat
  | .alloc t _ _ => t
  | .mkrow t _ _ _ _ => t
  | _ => 0
def flSz : AOp → Nat
  | .alloc _ s _ => s
  | .mkrow _ s _ _ _ => s
  | _ => 0
def flCap : AOp → Nat
  | .alloc _ _ _ => 1
  | .mkrow _ _ _ n _ => n
  | _ => 0
def flA (op : AOp) (b : Nat) : SV :=
  match op with
  | .alloc _ _ _ => .ptr b 0 0
  | .mkrow _ _ _ n _ => .sl b 0 n n
  | _ => .any
def flC (op : AOp) (r : Nat) : Value :=
  match op with
  | .alloc _ _ _ => .pointer (some ⟨r, 0, none⟩)
  | .mkrow _ _ _ n _ => .slice (some ⟨r, 0, none⟩) n n
  | _ => undef
def floatOk : AOp → Bool
  | .alloc _ _ _ => true
  | .mkrow _ sz z n ps => ps.all (fun p => (otmp p.2).isEmpty) && (afillRows (ps.map fun (i, x) => (i, evf [] x)) (List.replicate n z) sz).isSome
  | _ => false
abbrev Item := Nat × Cat × AOper
def itemOk (x : Item) : Bool :=
  match x.2.1 with
  | .light => (x.2.2.op.pure || x.2.2.op.reading) && x.2.2.chk.isEmpty && (match x.2.2.dst with | some d => !x.2.2.reads.contains d | none => true)
  | .float => floatOk x.2.2.op && x.2.2.guard.isNone && x.2.2.chk.isEmpty
  | .heavy => true
def pairOk (M : List Nat) (x y : Item) : Bool :=
  let b := (M.getD y.1 0).testBit x.1
  (y.2.1 == .float || x.2.1 == .light || b) &&
  (match x.2.2.dst with | some d => !(y.2.2.reads.contains d || y.2.2.dst == some d) || b | none => true) &&
  (match y.2.2.dst with | some d => !(x.2.2.reads.contains d || x.2.2.dst == some d) || (y.2.1 == .heavy && b) | none => true) &&
  (!(y.2.1 == .heavy && !y.2.2.op.isMov && x.2.2.op.reading && x.2.1 == .light) || b || (match x.2.2.dst with | some d => y.2.2.chk.contains (x.2.2.op, d, x.2.2.guard) | none => false))
def pairsOk (M : List Nat) : List Item → Bool
  | [] => true
  | x :: r => r.all (pairOk M x) && pairsOk M r
def dpre (o : Oper) : List Nat := (o.after.toList.filter (Region.binds .any)).map (·.on)
def mOf (acc : List Nat) (o : Oper) : Nat := (dpre o).foldl (fun s j => s ||| 2 ^ j ||| acc.getD j 0) 0
def masks : List Oper → List Nat → List Nat
  | [], acc => acc
  | o :: r, acc => masks r (acc ++ [mOf acc o])
def Closed (ops : Array Oper) (D : Nat → Prop) : Prop := ∀ i o, ops[i]? = some o → D i → ∀ j ∈ dpre o, D j
def MaskOk (ops : Array Oper) (acc : List Nat) : Prop := ∀ (i m : Nat) (o : Oper), acc[i]? = some m → ops[i]? = some o → ∀ D : Nat → Prop, Closed ops D → (∀ j ∈ dpre o, D j) → ∀ j, m.testBit j = true → D j
theorem mOf_ok {ops : Array Oper} {acc : List Nat} (h : MaskOk ops acc) {o : Oper} (D : Nat → Prop) (hD : Closed ops D) (hp : ∀ j ∈ dpre o, D j) (hl : ∀ j ∈ dpre o, j < acc.length → ∃ oj, ops[j]? = some oj) : ∀ j, (mOf acc o).testBit j = true → D j := by
  unfold mOf
  have key : ∀ (l : List Nat) (s : Nat), (∀ j ∈ l, D j) → (∀ j ∈ l, j < acc.length → ∃ oj, ops[j]? = some oj) → (∀ j, s.testBit j = true → D j) → ∀ j, (l.foldl (fun s j => s ||| 2 ^ j ||| acc.getD j 0) s).testBit j = true → D j := by
    intro l
    induction l with
    | nil => intro s _ _ hs j hj; exact hs j hj
    | cons x l ih =>
      intro s hx hl2 hs j hj
      refine ih _ (fun y hy => hx y (List.mem_cons_of_mem _ hy)) (fun y hy => hl2 y (List.mem_cons_of_mem _ hy)) (fun i hi => ?_) j hj
      rw [Nat.testBit_or, Nat.testBit_or, Bool.or_eq_true, Bool.or_eq_true] at hi
      rcases hi with (hi | hi) | hi
      · exact hs i hi
      · rw [Nat.testBit_two_pow] at hi
        have : x = i := of_decide_eq_true hi
        subst this
        exact hx x (List.mem_cons_self ..)
      · by_cases hlt : x < acc.length
        · obtain ⟨ox, hox⟩ := hl2 x (List.mem_cons_self ..) hlt
          refine h x _ ox (by rw [List.getD_eq_getElem?_getD, List.getElem?_eq_getElem hlt] at hi; exact List.getElem?_eq_getElem hlt) hox D hD (hD x ox hox (hx x (List.mem_cons_self ..))) i ?_
          rw [List.getD_eq_getElem?_getD, List.getElem?_eq_getElem hlt] at hi
          exact hi
        · rw [List.getD_eq_getElem?_getD, List.getElem?_eq_none (by omega)] at hi
          simp at hi
  exact key _ 0 hp hl (by simp)
theorem masks_ok {ops : Array Oper} : ∀ (l : List Oper) (acc : List Nat), (∀ j, l[j]? = ops[acc.length + j]?) → MaskOk ops acc → (∀ j, j < acc.length → ∃ oj, ops[j]? = some oj) → MaskOk ops (masks l acc)
  | [], acc, _, h, _ => h
  | o :: l, acc, hl, h, hx => by
    have h0 : ops[acc.length]? = some o := by simpa using (hl 0).symm
    refine masks_ok l (acc ++ [mOf acc o]) (fun j => ?_) ?_ (fun j hj => ?_)
    · have := hl (j + 1)
      simpa [Nat.add_assoc, Nat.add_comm 1 j] using this
    · intro i m oi hi hoi D hD hp
      rcases Nat.lt_or_ge i acc.length with hlt | hge
      · rw [List.getElem?_append_left hlt] at hi
        exact h i m oi hi hoi D hD hp
      · rw [List.getElem?_append_right hge] at hi
        have hi0 : i = acc.length := by
          have := (List.getElem?_eq_some_iff.1 hi).1
          simp at this
          omega
        subst hi0
        simp at hi
        subst hi
        rw [h0] at hoi
        obtain rfl := Option.some.inj hoi
        exact mOf_ok h D hD hp (fun j _ hj => hx j hj)
    · rcases Nat.lt_or_ge j acc.length with hlt | hge
      · exact hx j hlt
      · have : j = acc.length := by simp at hj; omega
        subst this
        exact ⟨o, h0⟩
end Go.Proofs.YtoeieoapnhhaeaaGreat.Den
