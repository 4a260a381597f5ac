/- The abstract calculus, part L: what a piece of code must meet (awp), a contract (Spec), and that both hold of the model. Regions that draw their order: part M. -/
import Derived.Test.YtmfiegjncfgohaaDenI
import Derived.Deep.LoopGhost
namespace Go.Proofs.Ytmfiegjncfgohaa.Den
open Go.RowKit
set_option linter.unusedVariables false
set_option linter.unusedSimpArgs false

structure St where
  fr : Fr
  H : AHeap

inductive AExit where
  | normal
  | exit (id : Nat)
  | ret
  deriving DecidableEq

/-- A contract: called with what is so related, f returns, and K tells of what it returns and leaves. -/
def Spec (P : Program) (f : FuncId) (args : List AV) (H : AHeap) (K : AV → AHeap → Prop) : Prop :=
  ∀ (φ : Phi) (base : Nat) (w : World) (cargs : Array Value), Rel φ base H w → VRs φ args cargs.toList →
    Calls P f cargs w fun e w' => ∃ v cv H' φ', e = .returned cv ∧ K v H' ∧ Goes φ base H w φ' H' w' ∧ VR φ' v cv

/-- The like of a function without a body. -/
def Specx (P : Program) (f : FuncId) (args : List AV) (H : AHeap) (K : AV → AHeap → Prop) : Prop :=
  ∀ (φ : Phi) (base : Nat) (w : World) (cargs : Array Value), Rel φ base H w → VRs φ args cargs.toList →
    ∃ v cv H' φ' w', (callFunc f cargs).run P w = .ok (.value cv) w' ∧ K v H' ∧ Goes φ base H w φ' H' w' ∧ VR φ' v cv

theorem Spec.mono {P : Program} {f : FuncId} {args : List AV} {H : AHeap} {K K' : AV → AHeap → Prop} (h : Spec P f args H K) (hk : ∀ v H', K v H' → K' v H') : Spec P f args H K' :=
  fun φ base w cargs hr ha => (h φ base w cargs hr ha).mono fun e w' ⟨v, cv, H', φ', h1, h2, h3⟩ => ⟨v, cv, H', φ', h1, hk v H' h2, h3⟩

/-- Of a truth value. -/
def onB : AV → (Bool → Prop) → Prop
  | .s (.bool b), f => f b
  | _, _ => False
theorem onB_b {b : Bool} {f : Bool → Prop} : onB (.s (.bool b)) f = f b := rfl
theorem onB_out {x : AV} {f : Bool → Prop} (h : onB x f) : ∃ b, x = .s (.bool b) ∧ f b := by
  unfold onB at h
  split at h
  · exact ⟨_, rfl, h⟩
  · exact h.elim

def fput (d : Option Nat) (v : AV) (f : Fr) : Fr := match d with | some t => (t, v) :: f | none => f

/-- A test, or a slot that was passed over. -/
def onG : AV → (Bool → Prop) → Prop → Prop
  | .s (.bool b), f, _ => f b
  | .tup [], _, p => p
  | _, _, _ => False
theorem onG_b {b : Bool} {f : Bool → Prop} {p : Prop} : onG (.s (.bool b)) f p = f b := rfl
theorem onG_u {f : Bool → Prop} {p : Prop} : onG (.tup []) f p = p := rfl
theorem onG_out {x : AV} {f : Bool → Prop} {p : Prop} (h : onG x f p) : (∃ b, x = .s (.bool b) ∧ f b) ∨ (x = .tup [] ∧ p) := by
  unfold onG at h
  split at h
  · exact .inl ⟨_, rfl, h⟩
  · exact .inr ⟨rfl, h⟩
  · exact h.elim
theorem vr_undef {φ : Phi} : VR φ (.tup []) undef := ⟨#[], rfl, .nil⟩

def guarded (g : Option (Nat × Bool)) (f : Fr) (no yes : Prop) : Prop :=
  match g with
  | none => yes
  | some (t, want) => onG (fget f t) (fun b => if b = want then yes else no) no

def chkOne (f : Fr) (H : AHeap) (c : AOp × Nat × Option (Nat × Bool)) : Prop :=
  guarded c.2.2 f True (xop c.1 (evf f) H = some (fget f c.2.1, H))
def chks (f : Fr) (H : AHeap) : List (AOp × Nat × Option (Nat × Bool)) → Prop
  | [] => True
  | c :: r => chkOne f H c ∧ chks f H r

def onX : Option (AV × AHeap) → (AV → AHeap → Prop) → Prop
  | some (v, H), K => K v H
  | none, _ => False
theorem onX_out {x : Option (AV × AHeap)} {K : AV → AHeap → Prop} (h : onX x K) : ∃ v H, x = some (v, H) ∧ K v H := by
  cases x with
  | none => exact h.elim
  | some p => exact ⟨p.1, p.2, rfl, h⟩

def capAV : Nat × Nat × Nat → AV := fun (b, i, j) => .s (.ptr b i j)
def onFn : AV → (Nat → List (Nat × Nat × Nat) → Prop) → Prop
  | .s (.fn f cs), K => K f cs
  | _, _ => False

/-- The room of a slice, whatever it is: from then on it is known. -/
def capWp (x : AV) (H : AHeap) (K : AV → AHeap → Prop) : Prop :=
  match x with
  | .s (.sl b i n c) => 0 < c ∧ ∀ C : Nat, c ≤ C → C ≤ maxLen → K (.s (.int .i64 C)) (H.mark b (i + C))
  | _ => False
/-- One operation, wanted. -/
def opWp (P : Program) (op : AOp) (ev : Opd → AV) (H : AHeap) (K : AV → AHeap → Prop) : Prop :=
  match op with
  | .call f args => Spec P f (args.map ev) H K
  | .callv x args => onFn (ev x) fun f cs => callee P f = true ∧ Spec P f (args.map ev ++ cs.map capAV) H K
  | .callx f args => Specx P f (args.map ev) H K
  | .capx x => capWp (ev x) H K
  | .slicex sz x h => onX (xbeyond sz (ev x) (ev h) H) K
  | .appz ty sz by_ z x n => onX (xappz ty sz by_ z (ev x) (ev n) H) K
  | op => onX (xop op ev H) K

def operWp (P : Program) (o : AOper) (st : St) (K : St → Prop) : Prop :=
  guarded o.guard st.fr (K ⟨fput o.dst (.tup []) st.fr, st.H⟩)
    (opWp P o.op (evf st.fr) st.H fun v H' => chks (fput o.dst v st.fr) H' o.chk ∧ K ⟨fput o.dst v st.fr, H'⟩)

def opsWp (P : Program) : List AOper → (St → Prop) → St → Prop
  | [], K, st => K st
  | o :: r, K, st => operWp P o st (opsWp P r K)

def thenK (next : St → Prop) (K : AExit → St → Prop) : AExit → St → Prop
  | .normal, st => next st
  | e, st => K e st
def blockK (id : Nat) (K : AExit → St → Prop) : AExit → St → Prop
  | .exit i, st => if i = id then K .normal st else K (.exit i) st
  | e, st => K e st

/-- What was there at the beginning stays where it is. -/
structure ExtL (n0 : Nat) (φ φ' : Phi) : Prop where
  pl : ∀ b p, b < n0 → φ b = some p → φ' b = some p
  fz : ∀ r o, φ.fz r = some o → φ'.fz r = some o
theorem ExtL.refl (n0 : Nat) (φ : Phi) : ExtL n0 φ φ := ⟨fun _ _ _ h => h, fun _ _ h => h⟩
theorem ExtL.trans {n0 : Nat} {φ φ1 φ2 : Phi} (h : ExtL n0 φ φ1) (k : ExtL n0 φ1 φ2) : ExtL n0 φ φ2 := ⟨fun b p hb h' => k.pl b p hb (h.pl b p hb h'), fun r o h' => k.fz r o (h.fz r o h')⟩

/-- A heap may be seen as another one. -/
def WkH (n0 : Nat) (H H' : AHeap) (R : SV → SV → Prop) : Prop :=
  ∀ φ base w, Rel φ base H w → ∃ φ' : Phi, Rel φ' base H' w ∧ (∀ x x' v, R x x' → SR φ x v → SR φ' x' v) ∧ ExtL n0 φ φ' ∧ (∀ r, Mine φ' H' r → Mine φ H r) ∧ ∀ r o, φ'.fz r = some o → φ.fz r = some o ∨ Mine φ H r
inductive SVsLe (R : SV → SV → Prop) : List SV → List SV → Prop
  | nil : SVsLe R [] []
  | cons {x y l m} : R x y → SVsLe R l m → SVsLe R (x :: l) (y :: m)
inductive AVLe0 (R : SV → SV → Prop) : AV → AV → Prop
  | no {x} : AVLe0 R x .no
  | s {x y} : R x y → AVLe0 R (.s x) (.s y)
  | agg {l m} : SVsLe R l m → AVLe0 R (.agg l) (.agg m)
inductive AVsLe0 (R : SV → SV → Prop) : List AV → List AV → Prop
  | nil : AVsLe0 R [] []
  | cons {x y l m} : AVLe0 R x y → AVsLe0 R l m → AVsLe0 R (x :: l) (y :: m)
  | bad {x y l m} : AVsLe0 R l m → AVsLe0 R (.tup x :: l) (y :: m)
inductive AVLe (R : SV → SV → Prop) : AV → AV → Prop
  | one {x y} : AVLe0 R x y → AVLe R x y
  | tup {l m} : AVsLe0 R l m → AVLe R (.tup l) (.tup m)
/-- A state may be seen as another one. -/
def W (n0 : Nat) (s s' : St) : Prop := ∃ R, WkH n0 s.H s'.H R ∧ n0 ≤ s'.H.nx ∧ ∀ t, AVLe R (fget s.fr t) (fget s'.fr t)
theorem SVsLe.srs {R : SV → SV → Prop} {φ φ' : Phi} (h : ∀ x x' v, R x x' → SR φ x v → SR φ' x' v) {l m : List SV} (hl : SVsLe R l m) : ∀ {vs : List Value}, SRs φ l vs → SRs φ' m vs := by
  induction hl with
  | nil => intro vs hs; cases hs; exact .nil
  | cons hr _ ih => intro vs hs; cases hs with | cons hx hs => exact .cons (h _ _ _ hr hx) (ih hs)
theorem AVLe0.vr {R : SV → SV → Prop} {φ φ' : Phi} (h : ∀ x x' v, R x x' → SR φ x v → SR φ' x' v) {x y : AV} (hl : AVLe0 R x y) {v : Value} (hv : VR0 φ x v) : VR0 φ' y v := by
  cases hl with
  | no => trivial
  | s hr => exact h _ _ _ hr hv
  | agg hr => obtain ⟨cs, e, hs⟩ := hv; exact ⟨cs, e, hr.srs h hs⟩
theorem AVsLe0.vr {R : SV → SV → Prop} {φ φ' : Phi} (h : ∀ x x' v, R x x' → SR φ x v → SR φ' x' v) {l m : List AV} (hl : AVsLe0 R l m) : ∀ {vs : List Value}, VRs0 φ l vs → VRs0 φ' m vs := by
  induction hl with
  | nil => intro vs hs; cases hs; exact .nil
  | cons hr _ ih => intro vs hs; cases hs with | cons hx hs => exact .cons (hr.vr h hx) (ih hs)
  | bad _ ih => intro vs hs; cases hs with | cons hx hs => exact hx.elim
theorem AVLe.vr {R : SV → SV → Prop} {φ φ' : Phi} (h : ∀ x x' v, R x x' → SR φ x v → SR φ' x' v) {x y : AV} (hl : AVLe R x y) {v : Value} (hv : VR φ x v) : VR φ' y v := by
  cases hl with
  | tup hr => obtain ⟨vs, e, hs⟩ := hv; exact ⟨vs, e, hr.vr h hs⟩
  | one hr =>
    cases hr with
    | no => trivial
    | s hr => exact h _ _ _ hr hv
    | agg hr => obtain ⟨cs, e, hs⟩ := hv; exact ⟨cs, e, hr.srs h hs⟩

def awp (P : Program) (n0 : Nat) : ACode → (AExit → St → Prop) → St → Prop
  | .skip, K, st => K .normal st
  | .reg ops ks, K, st => opsWp P ops (fun s => K .normal ⟨fkeep ks s.fr, s.H⟩) st
  | .dreg ops ks, K, st => opsWp P (ops.map (·.2.2)) (fun s => K .normal ⟨fkeep ks s.fr, s.H⟩) st
  | .seq a b, K, st => awp P n0 a (thenK (awp P n0 b K) K) st
  | .cond c a b, K, st => onB (evf st.fr c) fun t => if t = true then awp P n0 a K st else awp P n0 b K st
  | .block id c, K, st => awp P n0 c (blockK id K) st
  | .loop c, K, st => ∃ I : Nat → St → Prop, (∃ n s, W n0 st s ∧ I n s) ∧ ∀ n s, I n s → awp P n0 c (thenK (fun s' => ∃ m, m < n ∧ ∃ s'', W n0 s' s'' ∧ I m s'') K) s
  | .wk c, K, st => ∃ s, W n0 st s ∧ awp P n0 c K s
  | .exit id, K, st => K (.exit id) st
  | .ret, K, st => K .ret st

theorem opWp_mono {P : Program} {op : AOp} {ev : Opd → AV} {H : AHeap} {K K' : AV → AHeap → Prop} (hk : ∀ v H', K v H' → K' v H') (h : opWp P op ev H K) : opWp P op ev H K' := by
  unfold opWp at h ⊢
  split at h
  · exact h.mono hk
  · revert h
    cases ev _ with
    | s y => cases y <;> first | exact fun h => h.elim | exact fun h => ⟨h.1, h.2.mono hk⟩
    | _ => exact fun h => h.elim
  · intro φ base w cargs hr ha
    obtain ⟨v, cv, H', φ', w', h1, h2, h3⟩ := h φ base w cargs hr ha
    exact ⟨v, cv, H', φ', w', h1, hk v H' h2, h3⟩
  · revert h
    cases ev _ with
    | s y => cases y <;> first | exact fun h => h.elim | exact fun h => ⟨h.1, fun C h1 h2 => hk _ _ (h.2 C h1 h2)⟩
    | _ => exact fun h => h.elim
  · obtain ⟨v, H', e, h⟩ := onX_out h
    rw [e]
    exact hk v H' h
  · obtain ⟨v, H', e, h⟩ := onX_out h
    rw [e]
    exact hk v H' h
  · obtain ⟨v, H', e, h⟩ := onX_out h
    rw [e]
    exact hk v H' h
theorem guarded_mono {g : Option (Nat × Bool)} {f : Fr} {p q p' q' : Prop} (hp : p → p') (hq : q → q') (h : guarded g f p q) : guarded g f p' q' := by
  unfold guarded at h ⊢
  split at h
  · exact hq h
  · rcases onG_out h with ⟨b, e, h⟩ | ⟨e, h⟩
    · rw [e, onG_b]
      split at h
      · rw [if_pos ‹_›]; exact hq h
      · rw [if_neg ‹_›]; exact hp h
    · rw [e, onG_u]; exact hp h
theorem operWp_mono {P : Program} {o : AOper} {st : St} {K K' : St → Prop} (hk : ∀ s, K s → K' s) (h : operWp P o st K) : operWp P o st K' :=
  guarded_mono (hk _) (fun h => opWp_mono (fun v H' h => ⟨h.1, hk _ h.2⟩) h) h
theorem opsWp_mono {P : Program} {K K' : St → Prop} (hk : ∀ s, K s → K' s) : ∀ {ops : List AOper} {st : St}, opsWp P ops K st → opsWp P ops K' st
  | [], st, h => hk st h
  | o :: r, st, h => operWp_mono (fun s h => opsWp_mono hk h) h
theorem thenK_mono {K K' : AExit → St → Prop} {n n' : St → Prop} (hn : ∀ s, n s → n' s) (hk : ∀ e s, K e s → K' e s) : ∀ e s, thenK n K e s → thenK n' K' e s
  | .normal, s, h => hn s h
  | .exit _, s, h => hk _ s h
  | .ret, s, h => hk _ s h
theorem awp_mono {P : Program} {n0 : Nat} : ∀ {c : ACode} {K K' : AExit → St → Prop} {st : St}, (∀ e s, K e s → K' e s) → awp P n0 c K st → awp P n0 c K' st
  | .skip, K, K', st, hk, h => hk _ _ h
  | .reg ops ks, K, K', st, hk, h => opsWp_mono (fun s h => hk _ _ h) h
  | .dreg ops ks, K, K', st, hk, h => opsWp_mono (fun s h => hk _ _ h) h
  | .seq a b, K, K', st, hk, h => awp_mono (c := a) (thenK_mono (fun s h => awp_mono (c := b) hk h) hk) h
  | .cond c a b, K, K', st, hk, h => by
    obtain ⟨t, e, h⟩ := onB_out h
    show onB _ _
    rw [e, onB_b]
    cases t
    · exact awp_mono (c := b) hk h
    · exact awp_mono (c := a) hk h
  | .block id c, K, K', st, hk, h => awp_mono (c := c) (fun e s h => by
      cases e with
      | normal => exact hk _ _ h
      | ret => exact hk _ _ h
      | exit i =>
        simp only [blockK] at h ⊢
        split
        · rw [if_pos ‹_›] at h; exact hk _ _ h
        · rw [if_neg ‹_›] at h; exact hk _ _ h) h
  | .loop c, K, K', st, hk, h => by
    obtain ⟨I, h0, hr⟩ := h
    exact ⟨I, h0, fun n s hi => awp_mono (c := c) (thenK_mono (fun s h => h) hk) (hr n s hi)⟩
  | .wk c, K, K', st, hk, h => by
    obtain ⟨s, hw, h⟩ := h
    exact ⟨s, hw, awp_mono (c := c) hk h⟩
  | .exit id, K, K', st, hk, h => hk _ _ h
  | .ret, K, K', st, hk, h => hk _ _ h

/-! ### The translation agrees -/
/-- An operation's translation, its guard as a slot. -/
def compOper (P : Program) (N : Nat) (ops : Array Oper) (o : Oper) (a : AOper) : Bool :=
  comp P o.op == some a.op && o.dst == a.dst && (match a.dst with | some t => decide (t < N) | none => true) &&
  (match o.guard, a.guard with
   | none, none => true
   | some (j, want), some (t, want') => (match ops[j]? with | some oj => oj.dst == some t | none => false) && want == want'
   | _, _ => false)

/-- What stands in plain regions alone, of which operation. -/
def compB (P : Program) : Op → Option AOp
  | .slice t x none (some h) none => match P.underlying t with
    | some (.slice e) => (P.info? e).bind fun i => (opd x).bind fun x => (opd h).map fun h => .slicex i.size x h
    | _ => none
  | .call c => match c.callee, c.args.toList, c.argTypes.toList with
    | .builtin .cap, [x], [t] => match P.underlying t with
      | some (.slice _) => (opd x).map .capx
      | _ => none
    | .builtin .append, [x, y], [t, u] => match P.underlying t, P.underlying u with
      | some (.slice e), some (.int _) => (einfo P e).bind fun (sz, bytes, z) => (opd x).bind fun x => (opd y).map fun y => .appz e sz bytes z x y
      | _, _ => none
    | _, _, _ => none
  | _ => none
def compSpec (P : Program) (N : Nat) (o : Oper) (a : AOper) : Bool :=
  compB P o.op == some a.op && o.dst == a.dst && (match a.dst with | some t => decide (t < N) | none => true) && o.guard.isNone && a.guard.isNone

def agreeOps (P : Program) (N : Nat) (ops : Array Oper) : List Oper → List AOper → Bool
  | [], [] => true
  | o :: r, a :: s => (compOper P N ops o a || compSpec P N o a) && agreeOps P N ops r s
  | _, _ => false

/-- A region that draws its order: what is asked of its operations' order here (part M). -/
def drawOk (P : Program) (N : Nat) (ops : Array Oper) (as : List (Nat × Cat × AOper)) : Bool :=
  as.length == ops.size && decide (as.map (·.1)).Nodup && as.all (fun x => match ops[x.1]? with | some o => compOper P N ops o x.2.2 | none => false) &&
  as.all itemOk && pairsOk (masks ops.toList []) as && (List.range ops.size).all (fun i => as.any (·.1 == i)) && ops.toList.zipIdx.all (fun x => (dpre x.1).all (· < x.2))

def agree (P : Program) (N : Nat) : ACode → Code → Bool
  | .skip, .skip => true
  | .reg as _, .region _ ops false => agreeOps P N ops ops.toList as
  | .dreg as _, .region _ ops true => drawOk P N ops as
  | .seq a b, .seq x y => agree P N a x && agree P N b y
  | .cond c a b, .cond d x y => opd d == some c && agree P N a x && agree P N b y
  | .block i c, .block j x => i == j && agree P N c x
  | .loop c, .loop x => agree P N c x
  | .wk c, x => agree P N c x
  | .exit i, .exit j => i == j
  | .ret, .ret => true
  | _, _ => false

def toExit : AExit → Exit
  | .normal => .normal
  | .exit id => .exit id
  | .ret => .ret

/-- What a piece of code does to a world, seen over H, where what is new may bear other names. -/
structure GoesL (n0 : Nat) (φ : Phi) (base : Nat) (H : AHeap) (w : World) (φ' : Phi) (H' : AHeap) (w' : World) : Prop where
  rel : Rel φ' base H' w'
  nx : n0 ≤ H.nx → n0 ≤ H'.nx
  ext : ExtL n0 φ φ'
  below : Below base w w'
  kept : ∀ r, r < w.heap.size → ¬ Mine φ H r → w'.heap[r]? = w.heap[r]?
  mine : ∀ r, Mine φ' H' r → w.heap.size ≤ r ∨ Mine φ H r
  fzn : ∀ r o, φ'.fz r = some o → φ.fz r = some o ∨ w.heap.size ≤ r ∨ Mine φ H r
theorem GoesL.of {n0 : Nat} {φ φ' : Phi} {base : Nat} {H H' : AHeap} {w w' : World} (h : Goes φ base H w φ' H' w') : GoesL n0 φ base H w φ' H' w' :=
  ⟨h.rel, fun k => Nat.le_trans k h.nx, ⟨fun b p _ hb => h.ext.pl b p hb, h.ext.fz⟩, h.below, h.kept, h.mine, h.fzn⟩
theorem GoesL.refl {n0 : Nat} {φ : Phi} {base : Nat} {H : AHeap} {w : World} (h : Rel φ base H w) : GoesL n0 φ base H w φ H w := .of (Goes.refl h)
theorem GoesL.trans {n0 : Nat} {φ φ1 φ2 : Phi} {base : Nat} {H H1 H2 : AHeap} {w w1 w2 : World} (h : GoesL n0 φ base H w φ1 H1 w1) (k : GoesL n0 φ1 base H1 w1 φ2 H2 w2) : GoesL n0 φ base H w φ2 H2 w2 where
  rel := k.rel
  nx := fun hn => k.nx (h.nx hn)
  ext := h.ext.trans k.ext
  below := h.below.trans k.below
  kept := fun r hr hm => by
    have h1 := h.kept r hr hm
    have hr' : r < w1.heap.size := Nat.lt_of_lt_of_le hr h.below.size
    rw [k.kept r hr' (fun hm' => (h.mine r hm').elim (fun he => by omega) hm), h1]
  mine := fun r hr => (k.mine r hr).elim (fun he => .inl (Nat.le_trans h.below.size he)) (fun hm => h.mine r hm)
  fzn := fun r o hr => (k.fzn r o hr).elim (fun hf => h.fzn r o hf) fun hf => .inr (hf.elim (fun he => .inl (Nat.le_trans h.below.size he)) fun hm => h.mine r hm)
/-- Seen another way. -/
theorem W.goes {n0 : Nat} {s s' : St} (h : W n0 s s') {φ : Phi} {base N : Nat} {w : World} {a : Act} (hr : Rel φ base s.H w) (hf : FR φ N s.fr a) : ∃ φ', GoesL n0 φ base s.H w φ' s'.H w ∧ FR φ' N s'.fr a := by
  obtain ⟨R, hk, hn, hfr⟩ := h
  obtain ⟨φ', h1, h2, h3, h4, h5⟩ := hk φ base w hr
  exact ⟨φ', ⟨h1, fun _ => hn, h3, Below.refl _ _, fun _ _ _ => rfl, fun r hr => .inr (h4 r hr), fun r o hr => (h5 r o hr).imp id .inr⟩, hf.1, hf.2.1, fun t => (hfr t).vr h2 (hf.2.2 t)⟩

/-- What stands behind a piece of code, in the world. -/
def Post (n0 : Nat) (φ : Phi) (base N : Nat) (H : AHeap) (w : World) (K : AExit → St → Prop) (e : Exit) (a' : Act) (w' : World) : Prop :=
  ∃ e' st' φ', e = toExit e' ∧ K e' st' ∧ GoesL n0 φ base H w φ' st'.H w' ∧ FR φ' N st'.fr a'

theorem Post.trans {n0 : Nat} {φ φ1 : Phi} {base N : Nat} {H H1 : AHeap} {w w1 : World} {K : AExit → St → Prop} (g : GoesL n0 φ base H w φ1 H1 w1) {e : Exit} {a' : Act} {w' : World} (h : Post n0 φ1 base N H1 w1 K e a' w') : Post n0 φ base N H w K e a' w' := by
  obtain ⟨e', st', φ', h1, h2, h3, h4⟩ := h
  exact ⟨e', st', φ', h1, h2, g.trans h3, h4⟩

section
variable {P : Program} {N : Nat}

theorem fr_put {φ : Phi} {f : Fr} {a : Act} (h : FR φ N f a) {d : Option Nat} (hd : (match d with | some t => decide (t < N) | none => true) = true) {x : AV} {v : Value} (hv : VR φ x v) : FR φ N (fput d x f) (a.put d v) := by
  cases d with
  | none => exact h
  | some t => exact h.put (of_decide_eq_true hd) hv

/-- A guard, in the world. -/
theorem wanted_of {φ : Phi} {f : Fr} {a : Act} (h : FR φ N f a) {ops : Array Oper} {o : Oper} {ao : AOper} (hc : (match o.guard, ao.guard with
   | none, none => true
   | some (j, want), some (t, want') => (match ops[j]? with | some oj => oj.dst == some t | none => false) && want == want'
   | _, _ => false) = true) {p q : Prop} (hg : guarded ao.guard f p q) : (Region.wanted o (yielded ops a.tmps) = true ∧ q) ∨ (Region.wanted o (yielded ops a.tmps) = false ∧ p) := by
  unfold Region.wanted
  unfold guarded at hg
  split at hc
  · rename_i h1 h2
    rw [h2] at hg
    rw [h1]
    exact .inl ⟨rfl, hg⟩
  · rename_i j want t want' h1 h2
    rw [h2] at hg
    rw [h1]
    simp only [Bool.and_eq_true, beq_iff_eq] at hc
    obtain ⟨hc1, rfl⟩ := hc
    split at hc1
    · rename_i oj hoj
      simp only [beq_iff_eq] at hc1
      rcases onG_out hg with ⟨b, hb, hg⟩ | ⟨hb, hg⟩
      case inr =>
        have hv := h.2.2 t
        rw [hb] at hv
        have hv : a.tmps.getD t undef = .tuple #[] := by
          obtain ⟨vs, e, hvs⟩ := hv
          have : vs.toList.length = 0 := by cases h0 : vs.toList <;> rw [h0] at hvs <;> first | rfl | cases hvs
          rw [e]; congr 1; exact Array.eq_empty_of_size_eq_zero (by simpa using this)
        have hy : yielded ops a.tmps j = none := by
          unfold yielded
          rw [Array.getD_eq_getD_getElem?] at hv
          cases hx : a.tmps[t]? with
          | none => simp [hoj, hc1, hx]
          | some u => rw [hx] at hv; simp at hv; simp [hoj, hc1, hx, hv]
        simp only [hy]
        exact .inr ⟨by simp, hg⟩
      have hv := h.2.2 t
      rw [hb] at hv
      have hv : a.tmps.getD t undef = .bool b := hv
      have hget : a.tmps[t]? = some (.bool b) := by
        rw [Array.getD_eq_getD_getElem?] at hv
        cases hx : a.tmps[t]? with
        | none => rw [hx] at hv; simp [undef] at hv
        | some u => rw [hx] at hv; simp at hv; rw [hv]
      have hy : yielded ops a.tmps j = some b := by
        unfold yielded
        simp [hoj, hc1, hget]
      simp only [hy]
      by_cases hbw : b = want
      · rw [if_pos hbw] at hg
        exact .inl ⟨by simp [hbw], hg⟩
      · rw [if_neg hbw] at hg
        exact .inr ⟨by simpa using hbw, hg⟩
    · cases hc1
  · cases hc

theorem run_callFunc {f : FuncId} (h : callee P f = true) (args : Array Value) (w : World) : (callFunc f args).run P w = .ok (.enter f args) w := by
  unfold callee at h
  split at h
  · rename_i fn hf
    simp only [Bool.and_eq_true, bne_iff_ne, ne_eq] at h
    obtain ⟨c, hb⟩ := Option.isSome_iff_exists.1 h.2
    simp [callFunc, hf, h.1, hb]
  · cases h

theorem vrs_args {φ : Phi} {ev : Opd → AV} {ρ : Operand → Value} (he : Evs φ ev ρ) : ∀ {xs : List Operand} {ys : List Opd}, opds xs = some ys → VRs φ (ys.map ev) (xs.map ρ)
  | [], ys, h => by simp [opds] at h; subst h; exact .nil
  | x :: r, ys, h => by
    unfold opds at h
    obtain ⟨y, hy, h⟩ := bind_some h
    obtain ⟨ys', hys, rfl⟩ := map_some h
    exact .cons (he x y hy) (vrs_args he hys)
theorem vrs_append {φ : Phi} {l l' : List AV} {vs vs' : List Value} (h : VRs φ l vs) (h' : VRs φ l' vs') : VRs φ (l ++ l') (vs ++ vs') := by
  induction h with
  | nil => exact h'
  | cons hx _ ih => exact .cons hx ih
theorem vrs_caps {φ : Phi} {cs : List (Nat × Nat × Nat)} {vs : List Value} (h : PtrsAt φ cs vs) : VRs φ (cs.map capAV) vs := by
  induction h with
  | nil => exact .nil
  | cons hx _ ih => exact .cons ⟨_, rfl, hx⟩ ih

/-- What stands in plain regions alone. -/
def isSpec : AOp → Bool
  | .capx _ | .slicex _ _ _ | .appz _ _ _ _ _ _ => true
  | _ => false
def isCall : AOp → Bool
  | .call _ _ | .callv _ _ | .callx _ _ | .capx _ | .slicex _ _ _ | .appz _ _ _ _ _ _ => true
  | _ => false
theorem opWp_out {op : AOp} {ev : Opd → AV} {H : AHeap} {K : AV → AHeap → Prop} (hn : isCall op = false) (h : opWp P op ev H K) : ∃ v H', xop op ev H = some (v, H') ∧ K v H' := by
  cases op <;> first | exact onX_out h | (cases hn; done)

theorem call_cases {op : AOp} (h : isCall op = true) : (∃ f args, op = .call f args) ∨ (∃ x args, op = .callv x args) ∨ (∃ f args, op = .callx f args) ∨ isSpec op = true := by
  cases op <;> first | exact .inl ⟨_, _, rfl⟩ | exact .inr (.inl ⟨_, _, rfl⟩) | exact .inr (.inr (.inl ⟨_, _, rfl⟩)) | exact .inr (.inr (.inr rfl)) | (cases h; done)
theorem comp_call {op : Op} {f : Nat} {args : List Opd} (h : comp P op = some (.call f args)) : ∃ c, op = .call c ∧ c.callee = .value (.func f) ∧ callee P f = true ∧ opds c.args.toList = some args := by
  cases op <;> simp only [comp] at h
  case call c =>
    unfold compCall at h
    split at h
    · rename_i g hcal
      split at h
      · rename_i hcl
        obtain ⟨ys, hys, e⟩ := map_some h
        injection e with e1 e2
        subst e1
        subst e2
        exact ⟨c, rfl, hcal, hcl, hys⟩
      · obtain ⟨ys, hys, e⟩ := map_some h
        cases e
    all_goals exfalso
    all_goals (repeat' split at h)
    all_goals simp [Option.map_eq_some_iff, Option.bind_eq_some_iff] at h
  all_goals exfalso
  all_goals (repeat' split at h)
  all_goals simp [Option.map_eq_some_iff, Option.bind_eq_some_iff] at h
  all_goals (obtain ⟨_, _, h⟩ := h; first | (split at h <;> cases h; done) | (obtain ⟨_, _, _, _, _, _, h⟩ := h; split at h <;> cases h))
theorem comp_callx {op : Op} {f : Nat} {args : List Opd} (h : comp P op = some (.callx f args)) : ∃ c, op = .call c ∧ c.callee = .value (.func f) ∧ opds c.args.toList = some args := by
  cases op <;> simp only [comp] at h
  case call c =>
    unfold compCall at h
    split at h
    · rename_i g hcal
      split at h
      · obtain ⟨ys, hys, e⟩ := map_some h
        cases e
      · obtain ⟨ys, hys, e⟩ := map_some h
        injection e with e1 e2
        subst e1
        subst e2
        exact ⟨c, rfl, hcal, hys⟩
    all_goals exfalso
    all_goals (repeat' split at h)
    all_goals simp [Option.map_eq_some_iff, Option.bind_eq_some_iff] at h
  all_goals exfalso
  all_goals (repeat' split at h)
  all_goals simp [Option.map_eq_some_iff, Option.bind_eq_some_iff] at h
  all_goals (obtain ⟨_, _, h⟩ := h; first | (split at h <;> cases h; done) | (obtain ⟨_, _, _, _, _, _, h⟩ := h; split at h <;> cases h))
theorem comp_callv {op : Op} {x : Opd} {args : List Opd} (h : comp P op = some (.callv x args)) : ∃ c t, op = .call c ∧ c.callee = .value (.tmp t) ∧ x = .t t ∧ opds c.args.toList = some args := by
  cases op <;> simp only [comp] at h
  case call c =>
    unfold compCall at h
    split at h
    · exfalso
      split at h
      · obtain ⟨ys, hys, e⟩ := map_some h
        cases e
      · obtain ⟨ys, hys, e⟩ := map_some h
        cases e
    · rename_i t hcal
      obtain ⟨ys, hys, e⟩ := map_some h
      injection e with e1 e2
      subst e1
      subst e2
      exact ⟨c, t, rfl, hcal, rfl, hys⟩
    all_goals exfalso
    all_goals (repeat' split at h)
    all_goals simp [Option.map_eq_some_iff, Option.bind_eq_some_iff] at h
  all_goals exfalso
  all_goals (repeat' split at h)
  all_goals simp [Option.map_eq_some_iff, Option.bind_eq_some_iff] at h
  all_goals (obtain ⟨_, _, h⟩ := h; first | (split at h <;> cases h; done) | (obtain ⟨_, _, _, _, _, _, h⟩ := h; split at h <;> cases h))

theorem comp_nospec {op : Op} {ao : AOp} (h : comp P op = some ao) : isSpec ao = false := by
  cases ao <;> first | rfl | skip
  all_goals
    exfalso
    cases op <;> simp only [comp] at h
    case call c =>
      unfold compCall at h
      (repeat' split at h)
      all_goals simp [Option.map_eq_some_iff, Option.bind_eq_some_iff] at h
    all_goals (repeat' split at h)
    all_goals simp [Option.map_eq_some_iff, Option.bind_eq_some_iff] at h
    all_goals (obtain ⟨_, _, h⟩ := h; first | (split at h <;> cases h; done) | (obtain ⟨_, _, _, _, _, _, h⟩ := h; split at h <;> cases h))
/-- One operation in the world, wanted; the operands as they stand. -/
theorem op_sound {o : Oper} {op : AOp} (h1 : comp P o.op = some op) {φ : Phi} {base : Nat} {H : AHeap} {ev : Opd → AV} {a : Act} {w : World} (hr : Rel φ base H w) (hev : Evs φ ev a.eval)
    {K : AV → AHeap → Prop} (h : opWp P op ev H K) {next : Act → World → Prop} {Q : Exit → Act → World → Prop}
    (hn : ∀ v cv H' φ' w', K v H' → Goes φ base H w φ' H' w' → VR φ' v cv → next (a.put o.dst cv) w') : o.wp P a w next Q := by
  unfold Oper.wp
  have enter : ∀ {f : FuncId} {args : List AV} {cargs : Array Value}, (execOp a.eval o).run P w = .ok (.enter f cargs) w → VRs φ args cargs.toList → Spec P f args H K → Oper.upon P o a next Q ((execOp a.eval o).run P w) := fun {f args cargs} hrun hargs hs => by
    rw [hrun]
    show Calls P f cargs w _
    refine (hs φ base w cargs hr hargs).mono fun e w' hp => ?_
    obtain ⟨v, cv, H', φ', rfl, hk, hg, hv⟩ := hp
    exact hn v cv H' φ' w' hk hg hv
  cases hic : isCall op
  · obtain ⟨x, H', hx, hk⟩ := opWp_out hic h
    obtain ⟨v, φ', w', hrun, hg, hv⟩ := xop_sound hr hev h1 hx
    rcases hrun with hrun | ⟨hrun, rfl⟩
    · rw [hrun]
      exact hn x v H' φ' w' hk hg hv
    · rw [hrun]
      exact hn x undef H' φ' w' hk hg hv
  · rcases call_cases hic with ⟨f, args, hop⟩ | ⟨y, args, hop⟩ | ⟨f, args, hop⟩ | hsp
    · rw [hop] at h h1
      obtain ⟨c, ho, hcal, hcl, hys⟩ := comp_call h1
      refine enter (cargs := c.args.map a.eval) (by simp [execOp, ho, resolve, hcal, Act.eval, Deferred.ofValue, invoke, run_callFunc hcl]) ?_ h
      simpa using vrs_args hev hys
    · rw [hop] at h h1
      obtain ⟨c, t, ho, hcal, rfl, hys⟩ := comp_callv h1
      have h : onFn (ev (.t t)) _ := h
      have hv := hev (.tmp t) (.t t) rfl
      cases hy : ev (.t t) with
      | s z =>
        rw [hy] at h hv
        cases z <;> try exact h.elim
        case fn g cs =>
          obtain ⟨hcl, hs⟩ := h
          obtain ⟨ccs, hv, hp⟩ := vr_s hv
          refine enter (cargs := c.args.map a.eval ++ ccs) (by simp [execOp, ho, resolve, hcal, hv, Deferred.ofValue, invoke, run_callFunc hcl]) ?_ hs
          simpa using vrs_append (vrs_args hev hys) (vrs_caps hp)
      | _ => rw [hy] at h; exact h.elim
    · rw [hop] at h h1
      obtain ⟨c, ho, hcal, hys⟩ := comp_callx h1
      have h : Specx P f (args.map ev) H K := h
      obtain ⟨v, cv, H', φ', w', hrun, hk, hg, hv⟩ := h φ base w (c.args.map a.eval) hr (by simpa using vrs_args hev hys)
      have he : (execOp a.eval o).run P w = .ok (.value cv) w' := by simp [execOp, ho, resolve, hcal, Act.eval, Deferred.ofValue, invoke, hrun]
      rw [he]
      exact hn v cv H' φ' w' hk hg hv
    · rw [comp_nospec h1] at hsp
      cases hsp
/-- One operation that stands in plain regions alone. -/
theorem spec_sound {o : Oper} {op : AOp} (h1 : compB P o.op = some op) {φ : Phi} {base : Nat} {H : AHeap} {ev : Opd → AV} {a : Act} {w : World} (hr : Rel φ base H w) (hev : Evs φ ev a.eval)
    {K : AV → AHeap → Prop} (h : opWp P op ev H K) {next : Act → World → Prop} {Q : Exit → Act → World → Prop}
    (hn : ∀ v cv H' φ' w', K v H' → Goes φ base H w φ' H' w' → VR φ' v cv → next (a.put o.dst cv) w') : o.wp P a w next Q := by
  unfold Oper.wp
  have fin : ∀ {x : AV} {H' : AHeap}, XS P φ base H w o a.eval x H' → K x H' → Oper.upon P o a next Q ((execOp a.eval o).run P w) := fun {x H'} hx hk => by
    obtain ⟨v, φ', w', hrun, hg, hv⟩ := hx
    rcases hrun with hrun | ⟨hrun, rfl⟩
    · rw [hrun]
      exact hn x v H' φ' w' hk hg hv
    · rw [hrun]
      exact hn x undef H' φ' w' hk hg hv
  unfold compB at h1
  split at h1
  · rename_i t x hh hop
    split at h1
    · rename_i e hu
      obtain ⟨i, hi, h1⟩ := bind_some h1
      obtain ⟨x', hx, h1⟩ := bind_some h1
      obtain ⟨h', hh', rfl⟩ := map_some h1
      obtain ⟨v, H', e1, hk⟩ := onX_out h
      exact fin (xs_slicex hr hev hop hu hi hx hh' e1) hk
    · cases h1
  · rename_i c hop
    split at h1
    · rename_i x t hcal hargs htys
      split at h1
      · rename_i e hu
        obtain ⟨x', hx, rfl⟩ := map_some h1
        have h : capWp (ev x') H K := h
        have hv := hev x x' hx
        cases hy : ev x' with
        | s z =>
          rw [hy] at h hv
          cases z <;> try exact h.elim
          case sl b i n c0 =>
            obtain ⟨h0, hk⟩ := h
            obtain ⟨ad, c', p, e1, n1, n2, n3, hp, n4⟩ := vr_s hv
            obtain ⟨_, hcap⟩ := n4.resolve_left (by omega)
            have hrun := run_capx (P := P) (w := w) hr hev hop hcal hargs htys hu e1
            rw [hrun]
            refine hn _ _ _ φ w (hk c' n2 n3) ⟨⟨hr.blk, hr.inj, hr.new, hr.base, hr.fz, fun b' F e => ?_⟩, Nat.le_refl _, Ext.refl _, Below.refl _ _, fun _ _ _ => rfl, fun r hm => .inr hm, fun r o hf => .inl hf⟩ rfl
            simp only [AHeap.mark_full, Option.some.injEq, Prod.mk.injEq] at e
            obtain ⟨rfl, rfl⟩ := e
            exact ⟨p, hp, hcap.symm⟩
        | _ => rw [hy] at h; exact h.elim
      · cases h1
    · rename_i x y t u hcal hargs htys
      split at h1
      · rename_i e kn hu hu2
        obtain ⟨⟨sz, by_, z⟩, hei, h1⟩ := bind_some h1
        obtain ⟨x', hx, h1⟩ := bind_some h1
        obtain ⟨y', hy, rfl⟩ := map_some h1
        obtain ⟨v, H', e1, hk⟩ := onX_out h
        exact fin (xs_appz hr hev hop hcal hargs htys hu hu2 hei hx hy e1) hk
      · cases h1
    · cases h1
  · cases h1
/-- One operation in the world. -/
theorem oper_sound {ops : Array Oper} {o : Oper} {ao : AOper} (hc : compOper P N ops o ao = true) {φ : Phi} {base : Nat} {st : St} {a : Act} {w : World} (hr : Rel φ base st.H w) (hf : FR φ N st.fr a)
    {K : St → Prop} (h : operWp P ao st K) {next : Act → World → Prop} {Q : Exit → Act → World → Prop}
    (hn : ∀ st' φ' a' w', K st' → Goes φ base st.H w φ' st'.H w' → FR φ' N st'.fr a' → next a' w') :
    if Region.wanted o (yielded ops a.tmps) then o.wp P a w next Q ∨ (o.asks P a w ∧ LetsOut Q) else next (a.put o.dst undef) w := by
  unfold compOper at hc
  simp only [Bool.and_eq_true, beq_iff_eq] at hc
  obtain ⟨⟨⟨h1, h2⟩, h3⟩, h4⟩ := hc
  unfold operWp at h
  rcases wanted_of hf h4 h with ⟨hw, h⟩ | ⟨hw, h⟩
  · rw [if_pos hw]
    refine .inl (op_sound h1 hr (evs_frame hf) h fun v cv H' φ' w' hk hg hv => ?_)
    rw [h2]
    exact hn _ φ' _ w' hk.2 hg (fr_put (hf.ext hg.ext) h3 hv)
  · rw [if_neg (by rw [hw]; exact Bool.false_ne_true)]
    rw [h2]
    exact hn _ φ _ w h (Goes.refl hr) (fr_put hf h3 vr_undef)

theorem soper_sound {ops : Array Oper} {o : Oper} {ao : AOper} (hc : compSpec P N o ao = true) {φ : Phi} {base : Nat} {st : St} {a : Act} {w : World} (hr : Rel φ base st.H w) (hf : FR φ N st.fr a)
    {K : St → Prop} (h : operWp P ao st K) {next : Act → World → Prop} {Q : Exit → Act → World → Prop}
    (hn : ∀ st' φ' a' w', K st' → Goes φ base st.H w φ' st'.H w' → FR φ' N st'.fr a' → next a' w') :
    if Region.wanted o (yielded ops a.tmps) then o.wp P a w next Q ∨ (o.asks P a w ∧ LetsOut Q) else next (a.put o.dst undef) w := by
  unfold compSpec at hc
  simp only [Bool.and_eq_true, beq_iff_eq, Option.isNone_iff_eq_none] at hc
  obtain ⟨⟨⟨⟨h1, h2⟩, h3⟩, h4⟩, h5⟩ := hc
  unfold operWp guarded at h
  rw [h5] at h
  rw [if_pos (by simp [Region.wanted, h4])]
  refine .inl (spec_sound h1 hr (evs_frame hf) h fun v cv H' φ' w' hk hg hv => ?_)
  rw [h2]
  exact hn _ φ' _ w' hk.2 hg (fr_put (hf.ext hg.ext) h3 hv)

/-- Operations in the order of the text. -/
theorem ops_sound {ops : Array Oper} : ∀ (l : List Oper) (as : List AOper) (k : Nat), (∀ j, l[j]? = ops[k + j]?) → agreeOps P N ops l as = true → ∀ {φ : Phi} {base : Nat} {st : St} {a : Act} {w : World}, Rel φ base st.H w → FR φ N st.fr a →
    ∀ {K : St → Prop}, opsWp P as K st → ∀ {Q : Exit → Act → World → Prop}, (∀ st' φ' a' w', K st' → Goes φ base st.H w φ' st'.H w' → FR φ' N st'.fr a' → Q .normal a' w') → wpOps P ops Q (List.range' k l.length) a w
  | [], [], k, hl, hc, φ, base, st, a, w, hr, hf, K, h, Q, hq => hq st φ a w h (Goes.refl hr) hf
  | o :: l, ao :: as, k, hl, hc, φ, base, st, a, w, hr, hf, K, h, Q, hq => by
    simp only [agreeOps, Bool.and_eq_true] at hc
    have h0 : ops[k]? = some o := by simpa using (hl 0).symm
    simp only [List.length_cons, List.range'_succ, wpOps, h0]
    have hc1 := hc.1
    rw [Bool.or_eq_true] at hc1
    refine hc1.elim (fun hc1 => oper_sound hc1 hr hf h ?_) (fun hc1 => soper_sound hc1 hr hf h ?_)
    all_goals exact (fun st' φ' a' w' hk hg hf' => by
      refine ops_sound l as (k + 1) (fun j => ?_) hc.2 hg.rel hf' hk (fun st2 φ2 a2 w2 hk2 hg2 hf2 => hq st2 φ2 a2 w2 hk2 (hg.trans hg2) hf2)
      have := hl (j + 1)
      simpa [Nat.add_assoc, Nat.add_comm 1 j] using this)
  | [], _ :: _, k, hl, hc, _, _, _, _, _, _, _, _, _, _, _ => by simp [agreeOps] at hc
  | _ :: _, [], k, hl, hc, _, _, _, _, _, _, _, _, _, _, _ => by simp [agreeOps] at hc

/-- What part M shows of regions that draw their order. -/
def DrawSound (P : Program) : Prop := ∀ (N id : Nat) (ops : Array Oper) (as : List (Nat × Cat × AOper)), drawOk P N ops as = true → ∀ {φ : Phi} {base : Nat} {st : St} {a : Act} {w : World}, Rel φ base st.H w → FR φ N st.fr a →
    ∀ {K : St → Prop}, opsWp P (as.map (·.2.2)) K st → ∀ {Q : Exit → Act → World → Prop}, (∀ st' φ' a' w', K st' → Goes φ base st.H w φ' st'.H w' → FR φ' N st'.fr a' → Q .normal a' w') → (Code.region id ops true).wp P Q a w

theorem code_sound {n0 : Nat} (hD : DrawSound P) : ∀ (ac : ACode) (c : Code), agree P N ac c = true → ∀ {φ : Phi} {base : Nat} {st : St} {a : Act} {w : World} {K : AExit → St → Prop}, Rel φ base st.H w → FR φ N st.fr a → awp P n0 ac K st → c.wp P (Post n0 φ base N st.H w K) a w
  | .skip, c, hc, φ, base, st, a, w, K, hr, hf, h => by
    cases c <;> first | (cases hc; done) | skip
    exact wp_skip ⟨.normal, st, φ, rfl, h, GoesL.refl hr, hf⟩
  | .exit i, c, hc, φ, base, st, a, w, K, hr, hf, h => by
    cases c <;> first | (cases hc; done) | skip
    case exit j =>
      simp only [agree, beq_iff_eq] at hc
      subst hc
      exact wp_exit ⟨.exit i, st, φ, rfl, h, GoesL.refl hr, hf⟩
  | .ret, c, hc, φ, base, st, a, w, K, hr, hf, h => by
    cases c <;> first | (cases hc; done) | skip
    exact wp_ret ⟨.ret, st, φ, rfl, h, GoesL.refl hr, hf⟩
  | .reg as ks, c, hc, φ, base, st, a, w, K, hr, hf, h => by
    cases c <;> first | (cases hc; done) | skip
    case region id ops draw =>
      cases draw <;> first | (cases hc; done) | skip
      simp only [agree] at hc
      refine wp_region ?_
      have := ops_sound (ops := ops) ops.toList as 0 (fun j => by simp) hc hr hf h (Q := Post n0 φ base N st.H w K) (fun st' φ' a' w' hk hg hf' => ⟨.normal, _, φ', rfl, hk, .of hg, hf'.keep ks⟩)
      rwa [Array.length_toList, ← List.range_eq_range'] at this
  | .dreg as ks, c, hc, φ, base, st, a, w, K, hr, hf, h => by
    cases c <;> first | (cases hc; done) | skip
    case region id ops draw =>
      cases draw
      · cases hc
      exact hD N id ops as hc hr hf h (fun st' φ' a' w' hk hg hf' => ⟨.normal, _, φ', rfl, hk, .of hg, hf'.keep ks⟩)
  | .seq x y, c, hc, φ, base, st, a, w, K, hr, hf, h => by
    cases c <;> first | (cases hc; done) | skip
    case seq p q =>
      simp only [agree, Bool.and_eq_true] at hc
      refine wp_seq (wp_mono (code_sound hD x p hc.1 hr hf h) fun e a' w' hp => ?_)
      obtain ⟨e', st', φ', rfl, hk, hg, hf'⟩ := hp
      cases e' with
      | normal => exact wp_mono (code_sound hD y q hc.2 hg.rel hf' hk) fun e a2 w2 hp => hp.trans hg
      | exit id => exact ⟨.exit id, st', φ', rfl, hk, hg, hf'⟩
      | ret => exact ⟨.ret, st', φ', rfl, hk, hg, hf'⟩
  | .cond x p q, c, hc, φ, base, st, a, w, K, hr, hf, h => by
    cases c <;> first | (cases hc; done) | skip
    case cond d x' y' =>
      simp only [agree, Bool.and_eq_true, beq_iff_eq] at hc
      obtain ⟨t, ht, h⟩ := onB_out h
      have hv := evs_frame hf d x hc.1.1
      rw [ht] at hv
      have hv : a.eval d = .bool t := hv
      refine wp_cond hv ?_
      cases t
      · exact code_sound hD q y' hc.2 hr hf h
      · exact code_sound hD p x' hc.1.2 hr hf h
  | .block i x, c, hc, φ, base, st, a, w, K, hr, hf, h => by
    cases c <;> first | (cases hc; done) | skip
    case block j y =>
      simp only [agree, Bool.and_eq_true, beq_iff_eq] at hc
      obtain ⟨rfl, hc⟩ := hc
      refine wp_block (wp_mono (code_sound hD x y hc hr hf h) fun e a' w' hp => ?_)
      obtain ⟨e', st', φ', rfl, hk, hg, hf'⟩ := hp
      cases e' with
      | normal => exact ⟨.normal, st', φ', rfl, hk, hg, hf'⟩
      | ret => exact ⟨.ret, st', φ', rfl, hk, hg, hf'⟩
      | exit id =>
        simp only [blockK] at hk
        show if id = i then _ else _
        split
        · rw [if_pos ‹_›] at hk; exact ⟨.normal, st', φ', rfl, hk, hg, hf'⟩
        · rw [if_neg ‹_›] at hk; exact ⟨.exit id, st', φ', rfl, hk, hg, hf'⟩
  | .loop x, c, hc, φ, base, st, a, w, K, hr, hf, h => by
    cases c <;> first | (cases hc; done) | skip
    case loop y =>
      simp only [agree] at hc
      obtain ⟨I, ⟨m0, s0, hw0, h0⟩, hround⟩ := h
      obtain ⟨φ0, g0, f0⟩ := hw0.goes hr hf
      refine wp_loop_ghost (fun n a' w' => ∃ s φ', I n s ∧ GoesL n0 φ base st.H w φ' s.H w' ∧ FR φ' N s.fr a') m0 ⟨s0, φ0, h0, g0, f0⟩ ?_
      intro n a1 w1 ⟨s, φ1, hi, hg, hf1⟩
      refine wp_mono (code_sound hD x y hc hg.rel hf1 (hround n s hi)) fun e a' w' hp => ?_
      obtain ⟨e', st', φ', rfl, hk, hg', hf'⟩ := hp
      cases e' with
      | normal =>
        obtain ⟨m, hm, s2, hw2, hi'⟩ := hk
        obtain ⟨φ2, g2, f2⟩ := hw2.goes hg'.rel hf'
        exact ⟨m, hm, s2, φ2, hi', (hg.trans hg').trans g2, f2⟩
      | exit id => exact ⟨.exit id, st', φ', rfl, hk, hg.trans hg', hf'⟩
      | ret => exact ⟨.ret, st', φ', rfl, hk, hg.trans hg', hf'⟩
  | .wk x, c, hc, φ, base, st, a, w, K, hr, hf, h => by
    simp only [agree] at hc
    obtain ⟨s, hw, h⟩ := h
    obtain ⟨φ1, g1, f1⟩ := hw.goes hr hf
    exact wp_mono (code_sound hD x c hc g1.rel f1 h) fun e a' w' hp => hp.trans g1

/-! ### Functions -/
inductive ARes where
  | tmp (t : Nat)
  | cell1 (t : Nat)
  | celln (t n : Nat)
  deriving DecidableEq
structure AFn where
  n : Nat
  res : List ARes
  body : ACode

def agreeRes (P : Program) : List ResultVar → List ARes → Bool
  | [], [] => true
  | .tmp t :: r, .tmp u :: s => t == u && agreeRes P r s
  | .cell t ty :: r, .cell1 u :: s => t == u && (match P.underlying ty with | some d => !isAggD d | none => false) && agreeRes P r s
  | .cell t ty :: r, .celln u n :: s => t == u && (match P.underlying ty, P.info? ty with | some d, some i => isAggD d && i.size == n | _, _ => false) && agreeRes P r s
  | _, _ => false
def agreeFn (P : Program) (fn : Func) (af : AFn) : Bool :=
  fn.ntmps == af.n && agreeRes P fn.results.toList af.res && (match fn.body with | some c => agree P af.n af.body c | none => false)

def finit : Nat → List AV → Fr
  | _, [] => []
  | i, v :: r => (i, v) :: finit (i + 1) r
theorem finit_get : ∀ (l : List AV) (i t : Nat), fget (finit i l) t = if t < i then .no else l.getD (t - i) .no
  | [], i, t => by simp [finit, fget]
  | v :: l, i, t => by
    simp only [finit, fget]
    split
    · subst_vars; simp
    · rename_i hne
      rw [finit_get l (i + 1) t]
      by_cases h : t < i
      · rw [if_pos h, if_pos (by omega)]
      · rw [if_neg h, if_neg (by omega), show t - i = t - (i + 1) + 1 by omega]
        simp

def ares (st : St) : ARes → Option AV
  | .tmp t => match fget st.fr t with | .tup _ => none | v => some v
  | .cell1 t => match fget st.fr t with | .s (.ptr b i j) => (st.H.cell b i j).map .s | _ => none
  | .celln t n => match fget st.fr t with | .s (.ptr b i j) => (st.H.cells b i j n).map .agg | _ => none
def aress (st : St) : List ARes → Option (List AV)
  | [] => some []
  | r :: rs => (ares st r).bind fun v => (aress st rs).map (v :: ·)
def single : List AV → AV
  | [v] => v
  | l => .tup l

/-- What a body must leave. -/
def onO {α : Type} : Option α → (α → Prop) → Prop
  | some x, f => f x
  | none, _ => False
theorem onO_out {α : Type} {x : Option α} {f : α → Prop} (h : onO x f) : ∃ y, x = some y ∧ f y := by
  cases x with
  | none => exact h.elim
  | some y => exact ⟨y, rfl, h⟩
def retK (rs : List ARes) (K : AV → AHeap → Prop) : AExit → St → Prop
  | .exit _, _ => False
  | _, st => onO (aress st rs) fun l => K (single l) st.H

def resOf (tmps : Array Value) : ResultVar → Sem Value
  | .tmp t => Pure.pure (tmps.getD t undef)
  | .cell a t => do loadVar t (← asAddr (tmps.getD a undef))
theorem results_eq (fn : Func) (tmps : Array Value) : results fn tmps = (do
    let vs ← fn.results.mapM (resOf tmps)
    Pure.pure (if h : vs.size = 1 then vs[0] else .tuple vs)) := by
  unfold results
  congr 1
theorem run_cons {α β : Type} {f : α → Sem β} {x : α} {l : List α} {y : β} {ys : List β} {w : World} (h : (f x).run P w = .ok y w) (k : (l.mapM f).run P w = .ok ys w) : ((x :: l).mapM f).run P w = .ok (y :: ys) w := by
  simp only [List.mapM_cons, Sem.run_bind, h, Result.andThen_ok, k]
  rfl

theorem ares_ok {φ : Phi} {base : Nat} {st : St} {a : Act} {w : World} (hr : Rel φ base st.H w) (hf : FR φ N st.fr a) : ∀ {rv : List ResultVar} {rs : List ARes}, agreeRes P rv rs = true → ∀ {l : List AV}, aress st rs = some l →
    ∃ vs : List Value, (rv.mapM (resOf a.tmps)).run P w = .ok vs w ∧ VRs0 φ l vs
  | [], [], hc, l, h => by
    simp [aress] at h
    subst h
    exact ⟨[], rfl, .nil⟩
  | .tmp t :: rv, .tmp u :: rs, hc, l, h => by
    simp only [agreeRes, Bool.and_eq_true, beq_iff_eq] at hc
    obtain ⟨rfl, hc⟩ := hc
    unfold aress at h
    obtain ⟨v, hv, h⟩ := bind_some h
    obtain ⟨l', hl', rfl⟩ := map_some h
    obtain ⟨vs, h1, h2⟩ := ares_ok hr hf hc hl'
    have h3 := hf.2.2 t
    refine ⟨a.tmps.getD t undef :: vs, run_cons rfl h1, .cons ?_ h2⟩
    simp only [ares] at hv
    cases hx : fget st.fr t <;> rw [hx] at hv h3 <;> cases hv <;> exact h3
  | .cell p ty :: rv, .cell1 u :: rs, hc, l, h => by
    simp only [agreeRes, Bool.and_eq_true, beq_iff_eq] at hc
    obtain ⟨⟨rfl, hd⟩, hc⟩ := hc
    split at hd
    · rename_i d hu
      unfold aress at h
      obtain ⟨v, hv, h⟩ := bind_some h
      obtain ⟨l', hl', rfl⟩ := map_some h
      obtain ⟨vs, h1, h2⟩ := ares_ok hr hf hc hl'
      have h3 := hf.2.2 p
      simp only [ares] at hv
      split at hv
      · rename_i b i j hx
        rw [hx] at h3
        obtain ⟨ad, hp, q, hφ, rfl⟩ := vr_s h3
        obtain ⟨y, hy, rfl⟩ := map_some hv
        obtain ⟨q', u, hq', hcell, hs⟩ := hr.cell hy
        rw [hφ] at hq'
        obtain rfl := Option.some.inj hq'
        refine ⟨u :: vs, ?_, .cons hs h2⟩
        have hl : (loadVar ty (q.at (i * q.sz + j))).run P w = .ok u w := by
          cases d <;> simp [isAggD] at hd <;> simp [loadVar, isAgg, run_underlying hu, run_load, hcell]
        refine run_cons ?_ h1
        unfold resOf
        simp only [Sem.run_bind, hp, asAddr, Sem.run_pure, Result.andThen_ok, hl]
      · cases hv
    · cases hd
  | .cell p ty :: rv, .celln u n :: rs, hc, l, h => by
    simp only [agreeRes, Bool.and_eq_true, beq_iff_eq] at hc
    obtain ⟨⟨rfl, hd⟩, hc⟩ := hc
    split at hd
    · rename_i d i hu hi
      simp only [Bool.and_eq_true, beq_iff_eq] at hd
      obtain ⟨hd, rfl⟩ := hd
      unfold aress at h
      obtain ⟨v, hv, h⟩ := bind_some h
      obtain ⟨l', hl', rfl⟩ := map_some h
      obtain ⟨vs, h1, h2⟩ := ares_ok hr hf hc hl'
      have h3 := hf.2.2 p
      simp only [ares] at hv
      split at hv
      · rename_i b e j hx
        rw [hx] at h3
        obtain ⟨ad, hp, q, hφ, rfl⟩ := vr_s h3
        obtain ⟨y, hy, rfl⟩ := map_some hv
        obtain ⟨q', us, hq', hn, hs, hcell⟩ := hr.cells hy
        rw [hφ] at hq'
        obtain rfl := Option.some.inj hq'
        have hlen : us.length = i.size := by rw [← hs.length, hn]
        have hrun := run_loadCells_list (P := P) w (q.at (e * q.sz + j)) us (fun m v hv => by rw [Place.at_add]; exact hcell m v hv)
        rw [hlen] at hrun
        refine ⟨.agg us.toArray :: vs, ?_, .cons ⟨_, rfl, by simpa using hs⟩ h2⟩
        have hl : (loadVar ty (q.at (e * q.sz + j))).run P w = .ok (.agg us.toArray) w := by
          cases d <;> simp [isAggD] at hd <;> simp [loadVar, isAgg, run_underlying hu, sizeOf, typeInfo, hi, hrun]
        refine run_cons ?_ h1
        unfold resOf
        simp only [Sem.run_bind, hp, asAddr, Sem.run_pure, Result.andThen_ok, hl]
      · cases hv
    · cases hd
  | [], _ :: _, hc, _, _ => by simp [agreeRes] at hc
  | .tmp _ :: _, [], hc, _, _ => by simp [agreeRes] at hc
  | .cell _ _ :: _, [], hc, _, _ => by simp [agreeRes] at hc
  | .tmp _ :: _, .cell1 _ :: _, hc, _, _ => by simp [agreeRes] at hc
  | .tmp _ :: _, .celln _ _ :: _, hc, _, _ => by simp [agreeRes] at hc
  | .cell _ _ :: _, .tmp _ :: _, hc, _, _ => by simp [agreeRes] at hc

theorem spec_of_awp (hD : DrawSound P) {f : FuncId} {fn : Func} {af : AFn} (hf : P.funcs[f]? = some fn) (ha : agreeFn P fn af = true) {args : List AV} (hn : args.length ≤ af.n) {H : AHeap} {K : AV → AHeap → Prop}
    (h : awp P H.nx af.body (retK af.res K) ⟨finit 0 args, H⟩) : Spec P f args H K := by
  intro φ base w cargs hr hargs
  unfold agreeFn at ha
  simp only [Bool.and_eq_true, beq_iff_eq] at ha
  obtain ⟨⟨hN, hres⟩, hb⟩ := ha
  split at hb
  · rename_i c hbody
    refine calls_of_wp hf hbody ?_
    have hsz : cargs.size = args.length := by have := hargs.length; simpa using this.symm
    have hF : FR φ af.n (finit 0 args) { tmps := cargs ++ Array.replicate (fn.ntmps - cargs.size) undef, defers := [] } := by
      refine ⟨by simp; omega, rfl, fun t => ?_⟩
      rw [finit_get]
      simp only [Nat.not_lt_zero, if_false, Nat.sub_zero]
      have h1 := hargs.get t
      by_cases ht : t < cargs.size
      · have e : (cargs ++ Array.replicate (fn.ntmps - cargs.size) undef).getD t undef = cargs.toList.getD t undef := by
          rw [Array.getD_eq_getD_getElem?, Array.getElem?_append_left ht]
          simp
        rw [e]
        exact h1
      · have e : args.getD t .no = .no := by
          rw [List.getD_eq_getElem?_getD, List.getElem?_eq_none (by omega)]
          rfl
        rw [e]
        exact VR_no
    refine wp_mono (code_sound hD af.body c hb hr hF h) fun e a' w' hp => ?_
    obtain ⟨e', st', φ', rfl, hk, hgl, hf'⟩ := hp
    have hg : Goes φ base H w φ' st'.H w' := ⟨hgl.rel, hgl.nx (Nat.le_refl _), ⟨fun b p hb => hgl.ext.pl b p (Nat.lt_of_not_le fun hn => by rw [(hr.new b hn).2] at hb; cases hb) hb, hgl.ext.fz⟩, hgl.below, hgl.kept, hgl.mine, hgl.fzn⟩
    have fin : ∀ l, aress st' af.res = some l → K (single l) st'.H → a'.defers = [] ∧ ∃ v, (results fn a'.tmps).run P w' = .ok v w' ∧ ∃ v0 cv H' φ', Ending.returned v = .returned cv ∧ K v0 H' ∧ Goes φ base H w φ' H' w' ∧ VR φ' v0 cv := fun l hl hkl => by
      obtain ⟨vs, h1, h2⟩ := ares_ok hg.rel hf' hres hl
      have hmap : (fn.results.mapM (resOf a'.tmps)).run P w' = .ok vs.toArray w' := by
        rw [Array.mapM_eq_mapM_toList]
        simp only [Sem.run_map, h1]
        rfl
      refine ⟨hf'.2.1, (if h : vs.toArray.size = 1 then vs.toArray[0] else .tuple vs.toArray), ?_, single l, _, st'.H, φ', rfl, hkl, hg, ?_⟩
      · rw [results_eq]
        simp only [Sem.run_bind, hmap, Result.andThen_ok]
        rfl
      · have hlen : l.length = vs.length := by
          clear hmap h1 hkl hl
          induction h2 with
          | nil => rfl
          | cons _ _ ih => simp [ih]
        cases h2 with
        | nil => exact ⟨#[], rfl, .nil⟩
        | cons hx hr2 =>
          cases hr2 with
          | nil => exact VR.of0 hx
          | cons hy hr3 =>
            rw [dif_neg (by simp)]
            exact ⟨_, rfl, .cons hx (.cons hy hr3)⟩
    cases e' with
    | exit id => exact hk.elim
    | normal =>
      obtain ⟨l, hl, hkl⟩ := onO_out hk
      exact fin l hl hkl
    | ret =>
      obtain ⟨l, hl, hkl⟩ := onO_out hk
      exact fin l hl hkl
  · cases hb

end
end Go.Proofs.Ytmfiegjncfgohaa.Den
