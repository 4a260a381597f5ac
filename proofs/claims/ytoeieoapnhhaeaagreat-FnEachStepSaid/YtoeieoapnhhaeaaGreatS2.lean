/- Lemmas for the law FnEachStep, part 2. No condition. -/
import Derived.Carry
import Derived.ChangeOld
import Derived.ChangeSame
import Derived.Deep.LoopGhost
import Derived.Deep.Slices
import Derived.IntWalk
import Derived.OpenShut
import Derived.ProofKit
import Derived.SizedLaws
import Init
import Derived.Test.YtoeieoapnhhaeaaGreatS1
namespace Go.Proofs.YtoeieoapnhhaeaaGreat.Den
open Go.RowKit
set_option linter.unusedVariables false
set_option linter.unusedSimpArgs false
structure St where
  fr : Fr
  H : AHeap
inductive AExit where
  | normal
  | exit (id : Nat)
  | ret
  deriving DecidableEq
def Spec (P : Program) (f : FuncId) (args : List AV) (H : AHeap) (K : AV → AHeap → Prop) : Prop :=
  ∀ (φ : Phi) (base : Nat) (w : World) (cargs : Array Value), Rel φ base H w → VRs φ args cargs.toList →
    Calls P f cargs w fun e w' => ∃ v cv H' φ', e = .returned cv ∧ K v H' ∧ Goes φ base H w φ' H' w' ∧ VR φ' v cv
def Specx (P : Program) (f : FuncId) (args : List AV) (H : AHeap) (K : AV → AHeap → Prop) : Prop :=
  ∀ (φ : Phi) (base : Nat) (w : World) (cargs : Array Value), Rel φ base H w → VRs φ args cargs.toList →
    ∃ v cv H' φ' w', (callFunc f cargs).run P w = .ok (.value cv) w' ∧ K v H' ∧ Goes φ base H w φ' H' w' ∧ VR φ' v cv
theorem Spec.mono {P : Program} {f : FuncId} {args : List AV} {H : AHeap} {K K' : AV → AHeap → Prop} (h : Spec P f args H K) (hk : ∀ v H', K v H' → K' v H') : Spec P f args H K' :=
  fun φ base w cargs hr ha => (h φ base w cargs hr ha).mono fun e w' ⟨v, cv, H', φ', h1, h2, h3⟩ => ⟨v, cv, H', φ', h1, hk v H' h2, h3⟩
def onB : AV → (Bool → Prop) → Prop
  | .s (.bool b), f => f b
  | _, _ => False
theorem onB_b {b : Bool} {f : Bool → Prop} : onB (.s (.bool b)) f = f b := rfl
theorem onB_out {x : AV} {f : Bool → Prop} (h : onB x f) : ∃ b, x = .s (.bool b) ∧ f b := by
  unfold onB at h
  split at h
  · exact ⟨_, rfl, h⟩
  · exact h.elim
def fput (d : Option Nat) (v : AV) (f : Fr) : Fr := match d with | some t => (t, v) :: f | none => f
def onG : AV → (Bool → Prop) → Prop → Prop
  | .s (.bool b), f, _ => f b
  | .tup [], _, p => p
  | _, _, _ => False
theorem onG_b {b : Bool} {f : Bool → Prop} {p : Prop} : onG (.s (.bool b)) f p = f b := rfl
theorem onG_u {f : Bool → Prop} {p : Prop} : onG (.tup []) f p = p := rfl
theorem onG_out {x : AV} {f : Bool → Prop} {p : Prop} (h : onG x f p) : (∃ b, x = .s (.bool b) ∧ f b) ∨ (x = .tup [] ∧ p) := by
  unfold onG at h
  split at h
  · exact .inl ⟨_, rfl, h⟩
  · exact .inr ⟨rfl, h⟩
  · exact h.elim
theorem vr_undef {φ : Phi} : VR φ (.tup []) undef := ⟨#[], rfl, .nil⟩
def guarded (g : Option (Nat × Bool)) (f : Fr) (no yes : Prop) : Prop :=
  match g with
  | none => yes
  | some (t, want) => onG (fget f t) (fun b => if b = want then yes else no) no
def chkOne (f : Fr) (H : AHeap) (c : AOp × Nat × Option (Nat × Bool)) : Prop :=
  guarded c.2.2 f True (xop c.1 (evf f) H = some (fget f c.2.1, H))
def chks (f : Fr) (H : AHeap) : List (AOp × Nat × Option (Nat × Bool)) → Prop
  | [] => True
  | c :: r => chkOne f H c ∧ chks f H r
def onX : Option (AV × AHeap) → (AV → AHeap → Prop) → Prop
  | some (v, H), K => K v H
  | none, _ => False
theorem onX_out {x : Option (AV × AHeap)} {K : AV → AHeap → Prop} (h : onX x K) : ∃ v H, x = some (v, H) ∧ K v H := by
  cases x with
  | none => exact h.elim
  | some p => exact ⟨p.1, p.2, rfl, h⟩
def capAV : Nat × Nat × Nat → AV := fun (b, i, j) => .s (.ptr b i j)
def onFn : AV → (Nat → List (Nat × Nat × Nat) → Prop) → Prop
  | .s (.fn f cs), K => K f cs
  | _, _ => False
def capWp (x : AV) (H : AHeap) (K : AV → AHeap → Prop) : Prop :=
  match x with
  | .s (.sl b i n c) => 0 < c ∧ ∀ C : Nat, c ≤ C → C ≤ maxLen → K (.s (.int .i64 C)) (H.mark b (i + C))
  | _ => False
def opWp (P : Program) (op : AOp) (ev : Opd → AV) (H : AHeap) (K : AV → AHeap → Prop) : Prop :=
  match op with
  | .call f args => Spec P f (args.map ev) H K
  | .callv x args => onFn (ev x) fun f cs => callee P f = true ∧ Spec P f (args.map ev ++ cs.map capAV) H K
  | .callx f args => Specx P f (args.map ev) H K
  | .capx x => capWp (ev x) H K
  | .slicex sz x h => onX (xbeyond sz (ev x) (ev h) H) K
  | .appz ty sz by_ z x n => onX (xappz ty sz by_ z (ev x) (ev n) H) K
  | op => onX (xop op ev H) K
def operWp (P : Program) (o : AOper) (st : St) (K : St → Prop) : Prop :=
  guarded o.guard st.fr (K ⟨fput o.dst (.tup []) st.fr, st.H⟩)
    (opWp P o.op (evf st.fr) st.H fun v H' => chks (fput o.dst v st.fr) H' o.chk ∧ K ⟨fput o.dst v st.fr, H'⟩)
def opsWp (P : Program) : List AOper → (St → Prop) → St → Prop
  | [], K, st => K st
  | o :: r, K, st => operWp P o st (opsWp P r K)
def thenK (next : St → Prop) (K : AExit → St → Prop) : AExit → St → Prop
  | .normal, st => next st
  | e, st => K e st
def blockK (id : Nat) (K : AExit → St → Prop) : AExit → St → Prop
  | .exit i, st => if i = id then K .normal st else K (.exit i) st
  | e, st => K e st
structure ExtL (n0 : Nat) (φ φ' : Phi) : Prop where
  pl : ∀ b p, b < n0 → φ b = some p → φ' b = some p
  fz : ∀ r o, φ.fz r = some o → φ'.fz r = some o
theorem ExtL.refl (n0 : Nat) (φ : Phi) : ExtL n0 φ φ := ⟨fun _ _ _ h => h, fun _ _ h => h⟩
theorem ExtL.trans {n0 : Nat} {φ φ1 φ2 : Phi} (h : ExtL n0 φ φ1) (k : ExtL n0 φ1 φ2) : ExtL n0 φ φ2 := ⟨fun b p hb h' => k.pl b p hb (h.pl b p hb h'), fun r o h' => k.fz r o (h.fz r o h')⟩
def WkH (n0 : Nat) (H H' : AHeap) (R : SV → SV → Prop) : Prop :=
  ∀ φ base w, Rel φ base H w → ∃ φ' : Phi, Rel φ' base H' w ∧ (∀ x x' v, R x x' → SR φ x v → SR φ' x' v) ∧ ExtL n0 φ φ' ∧ (∀ r, Mine φ' H' r → Mine φ H r) ∧ ∀ r o, φ'.fz r = some o → φ.fz r = some o ∨ Mine φ H r
inductive SVsLe (R : SV → SV → Prop) : List SV → List SV → Prop
  | nil : SVsLe R [] []
  | cons {x y l m} : R x y → SVsLe R l m → SVsLe R (x :: l) (y :: m)
inductive AVLe0 (R : SV → SV → Prop) : AV → AV → Prop
  | no {x} : AVLe0 R x .no
  | s {x y} : R x y → AVLe0 R (.s x) (.s y)
  | agg {l m} : SVsLe R l m → AVLe0 R (.agg l) (.agg m)
inductive AVsLe0 (R : SV → SV → Prop) : List AV → List AV → Prop
  | nil : AVsLe0 R [] []
  | cons {x y l m} : AVLe0 R x y → AVsLe0 R l m → AVsLe0 R (x :: l) (y :: m)
  | bad {x y l m} : AVsLe0 R l m → AVsLe0 R (.tup x :: l) (y :: m)
inductive AVLe (R : SV → SV → Prop) : AV → AV → Prop
  | one {x y} : AVLe0 R x y → AVLe R x y
  | tup {l m} : AVsLe0 R l m → AVLe R (.tup l) (.tup m)
def W (n0 : Nat) (s s' : St) : Prop := ∃ R, WkH n0 s.H s'.H R ∧ n0 ≤ s'.H.nx ∧ ∀ t, AVLe R (fget s.fr t) (fget s'.fr t)
theorem SVsLe.srs {R : SV → SV → Prop} {φ φ' : Phi} (h : ∀ x x' v, R x x' → SR φ x v → SR φ' x' v) {l m : List SV} (hl : SVsLe R l m) : ∀ {vs : List Value}, SRs φ l vs → SRs φ' m vs := by
  induction hl with
  | nil => intro vs hs; cases hs; exact .nil
  | cons hr _ ih => intro vs hs; cases hs with | cons hx hs => exact .cons (h _ _ _ hr hx) (ih hs)
theorem AVLe0.vr {R : SV → SV → Prop} {φ φ' : Phi} (h : ∀ x x' v, R x x' → SR φ x v → SR φ' x' v) {x y : AV} (hl : AVLe0 R x y) {v : Value} (hv : VR0 φ x v) : VR0 φ' y v := by
  cases hl with
  | no => trivial
  | s hr => exact h _ _ _ hr hv
  | agg hr => obtain ⟨cs, e, hs⟩ := hv; exact ⟨cs, e, hr.srs h hs⟩
theorem AVsLe0.vr {R : SV → SV → Prop} {φ φ' : Phi} (h : ∀ x x' v, R x x' → SR φ x v → SR φ' x' v) {l m : List AV} (hl : AVsLe0 R l m) : ∀ {vs : List Value}, VRs0 φ l vs → VRs0 φ' m vs := by
  induction hl with
  | nil => intro vs hs; cases hs; exact .nil
  | cons hr _ ih => intro vs hs; cases hs with | cons hx hs => exact .cons (hr.vr h hx) (ih hs)
  | bad _ ih => intro vs hs; cases hs with | cons hx hs => exact hx.elim
theorem AVLe.vr {R : SV → SV → Prop} {φ φ' : Phi} (h : ∀ x x' v, R x x' → SR φ x v → SR φ' x' v) {x y : AV} (hl : AVLe R x y) {v : Value} (hv : VR φ x v) : VR φ' y v := by
  cases hl with
  | tup hr => obtain ⟨vs, e, hs⟩ := hv; exact ⟨vs, e, hr.vr h hs⟩
  | one hr =>
    cases hr with
    | no => trivial
    | s hr => exact h _ _ _ hr hv
    | agg hr => obtain ⟨cs, e, hs⟩ := hv; exact ⟨cs, e, hr.srs h hs⟩
def awp (P : Program) (n0 : Nat) : ACode → (AExit → St → Prop) → St → Prop
  | .skip, K, st => K .normal st
  | .reg ops ks, K, st => opsWp P ops (fun s => K .normal ⟨fkeep ks s.fr, s.H⟩) st
  | .dreg ops ks, K, st => opsWp P (ops.map (·.2.2)) (fun s => K .normal ⟨fkeep ks s.fr, s.H⟩) st
  | .dreg2 _ _ ops1 ops2 ks, K, st => opsWp P (ops1.map (·.2.2)) (fun s => K .normal ⟨fkeep ks s.fr, s.H⟩) st ∧ opsWp P (ops2.map (·.2.2)) (fun s => K .normal ⟨fkeep ks s.fr, s.H⟩) st
  | .seq a b, K, st => awp P n0 a (thenK (awp P n0 b K) K) st
  | .cond c a b, K, st => onB (evf st.fr c) fun t => if t = true then awp P n0 a K st else awp P n0 b K st
  | .block id c, K, st => awp P n0 c (blockK id K) st
  | .loop c, K, st => ∃ I : Nat → St → Prop, (∃ n s, W n0 st s ∧ I n s) ∧ ∀ n s, I n s → awp P n0 c (thenK (fun s' => ∃ m, m < n ∧ ∃ s'', W n0 s' s'' ∧ I m s'') K) s
  | .wk c, K, st => ∃ s, W n0 st s ∧ awp P n0 c K s
  | .exit id, K, st => K (.exit id) st
  | .ret, K, st => K .ret st
def compOper (P : Program) (N : Nat) (ops : Array Oper) (o : Oper) (a : AOper) : Bool :=
  compA P o.op a.op && o.dst == a.dst && (match a.dst with | some t => decide (t < N) | none => true) &&
  (match o.guard, a.guard with
   | none, none => true
   | some (j, want), some (t, want') => (match ops[j]? with | some oj => oj.dst == some t | none => false) && want == want'
   | _, _ => false)
def compB (P : Program) : Op → Option AOp
  | .slice t x none (some h) none => match P.underlying t with
    | some (.slice e) => (P.info? e).bind fun i => (opd x).bind fun x => (opd h).map fun h => .slicex i.size x h
    | _ => none
  | .call c => match c.callee, c.args.toList, c.argTypes.toList with
    | .builtin .cap, [x], [t] => match P.underlying t with
      | some (.slice _) => (opd x).map .capx
      | _ => none
    | .builtin .append, [x, y], [t, u] => match P.underlying t, P.underlying u with
      | some (.slice e), some (.int _) => (einfo P e).bind fun (sz, bytes, z) => (opd x).bind fun x => (opd y).map fun y => .appz e sz bytes z x y
      | _, _ => none
    | _, _, _ => none
  | _ => none
def compSpec (P : Program) (N : Nat) (o : Oper) (a : AOper) : Bool :=
  compB P o.op == some a.op && o.dst == a.dst && (match a.dst with | some t => decide (t < N) | none => true) && o.guard.isNone && a.guard.isNone
def agreeOps (P : Program) (N : Nat) (ops : Array Oper) : List Oper → List AOper → Bool
  | [], [] => true
  | o :: r, a :: s => (compOper P N ops o a || compSpec P N o a) && agreeOps P N ops r s
  | _, _ => false
def drawOk0 (P : Program) (N : Nat) (ops : Array Oper) (az : List (Nat × Cat × AOper)) : Bool :=
  az.length == ops.size && decide (az.map (·.1)).Nodup && az.all (fun x => match ops[x.1]? with | some o => compOper P N ops o x.2.2 | none => false) &&
  az.all itemOk && pairsOk (masks ops.toList []) az && (List.range ops.size).all (fun i => az.any (·.1 == i))
def backOk (ops : Array Oper) : Bool := ops.toList.zipIdx.all (fun x => (dpre x.1).all (· < x.2))
def drawOk (P : Program) (N : Nat) (ops : Array Oper) (az : List (Nat × Cat × AOper)) : Bool := drawOk0 P N ops az && backOk ops
def waitToo (o : Oper) (j : Nat) : Oper := { o with after := o.after.push ⟨j, .data⟩ }
def addWait (ops : Array Oper) (i j : Nat) : Array Oper := (ops.mapIdx fun k o => if k = i then waitToo o j else o)
def draw2Ok (P : Program) (N : Nat) (ops : Array Oper) (i j : Nat) (az bs : List (Nat × Cat × AOper)) : Bool :=
  drawOk0 P N (addWait ops j i) az && drawOk0 P N (addWait ops i j) bs && backOk ops && i != j && decide (i < ops.size) && decide (j < ops.size) &&
  az.all (fun x => x.2.1 != .heavy || x.1 == i || x.1 == j || ((masks (addWait ops j i).toList []).getD x.1 0).testBit i || ((masks (addWait ops j i).toList []).getD x.1 0).testBit j)
def agree (P : Program) (N : Nat) : ACode → Code → Bool
  | .skip, .skip => true
  | .reg az _, .region _ ops false => agreeOps P N ops ops.toList az
  | .dreg az _, .region _ ops true => drawOk P N ops az
  | .dreg2 i j az bs _, .region _ ops true => draw2Ok P N ops i j az bs
  | .seq a b, .seq x y => agree P N a x && agree P N b y
  | .cond c a b, .cond d x y => opd d == some c && agree P N a x && agree P N b y
  | .block i c, .block j x => i == j && agree P N c x
  | .loop c, .loop x => agree P N c x
  | .wk c, x => agree P N c x
  | .exit i, .exit j => i == j
  | .ret, .ret => true
  | _, _ => false
def toExit : AExit → Exit
  | .normal => .normal
  | .exit id => .exit id
  | .ret => .ret
structure GoesL (n0 : Nat) (φ : Phi) (base : Nat) (H : AHeap) (w : World) (φ' : Phi) (H' : AHeap) (w' : World) : Prop where
  rel : Rel φ' base H' w'
  nx : n0 ≤ H.nx → n0 ≤ H'.nx
  ext : ExtL n0 φ φ'
  below : Below base w w'
  kept : ∀ r, r < w.heap.size → ¬ Mine φ H r → w'.heap[r]? = w.heap[r]?
  mine : ∀ r, Mine φ' H' r → w.heap.size ≤ r ∨ Mine φ H r
  fzn : ∀ r o, φ'.fz r = some o → φ.fz r = some o ∨ w.heap.size ≤ r ∨ Mine φ H r
theorem GoesL.of {n0 : Nat} {φ φ' : Phi} {base : Nat} {H H' : AHeap} {w w' : World} (h : Goes φ base H w φ' H' w') : GoesL n0 φ base H w φ' H' w' :=
  ⟨h.rel, fun k => Nat.le_trans k h.nx, ⟨fun b p _ hb => h.ext.pl b p hb, h.ext.fz⟩, h.below, h.kept, h.mine, h.fzn⟩
theorem GoesL.refl {n0 : Nat} {φ : Phi} {base : Nat} {H : AHeap} {w : World} (h : Rel φ base H w) : GoesL n0 φ base H w φ H w := .of (Goes.refl h)
theorem GoesL.trans {n0 : Nat} {φ φ1 φ2 : Phi} {base : Nat} {H H1 H2 : AHeap} {w w1 w2 : World} (h : GoesL n0 φ base H w φ1 H1 w1) (k : GoesL n0 φ1 base H1 w1 φ2 H2 w2) : GoesL n0 φ base H w φ2 H2 w2 where
  rel := k.rel
  nx := fun hn => k.nx (h.nx hn)
  ext := h.ext.trans k.ext
  below := h.below.trans k.below
  kept := fun r hr hm => by
    have h1 := h.kept r hr hm
    have hr' : r < w1.heap.size := Nat.lt_of_lt_of_le hr h.below.size
    rw [k.kept r hr' (fun hm' => (h.mine r hm').elim (fun he => by omega) hm), h1]
  mine := fun r hr => (k.mine r hr).elim (fun he => .inl (Nat.le_trans h.below.size he)) (fun hm => h.mine r hm)
  fzn := fun r o hr => (k.fzn r o hr).elim (fun hf => h.fzn r o hf) fun hf => .inr (hf.elim (fun he => .inl (Nat.le_trans h.below.size he)) fun hm => h.mine r hm)
theorem W.goes {n0 : Nat} {s s' : St} (h : W n0 s s') {φ : Phi} {base N : Nat} {w : World} {a : Act} (hr : Rel φ base s.H w) (hf : FR φ N s.fr a) : ∃ φ', GoesL n0 φ base s.H w φ' s'.H w ∧ FR φ' N s'.fr a := by
  obtain ⟨R, hk, hn, hfr⟩ := h
  obtain ⟨φ', h1, h2, h3, h4, h5⟩ := hk φ base w hr
  exact ⟨φ', ⟨h1, fun _ => hn, h3, Below.refl _ _, fun _ _ _ => rfl, fun r hr => .inr (h4 r hr), fun r o hr => (h5 r o hr).imp id .inr⟩, hf.1, hf.2.1, fun t => (hfr t).vr h2 (hf.2.2 t)⟩
def Post (n0 : Nat) (φ : Phi) (base N : Nat) (H : AHeap) (w : World) (K : AExit → St → Prop) (e : Exit) (a' : Act) (w' : World) : Prop :=
  ∃ e' st' φ', e = toExit e' ∧ K e' st' ∧ GoesL n0 φ base H w φ' st'.H w' ∧ FR φ' N st'.fr a'
theorem Post.trans {n0 : Nat} {φ φ1 : Phi} {base N : Nat} {H H1 : AHeap} {w w1 : World} {K : AExit → St → Prop} (g : GoesL n0 φ base H w φ1 H1 w1) {e : Exit} {a' : Act} {w' : World} (h : Post n0 φ1 base N H1 w1 K e a' w') : Post n0 φ base N H w K e a' w' := by
  obtain ⟨e', st', φ', h1, h2, h3, h4⟩ := h
  exact ⟨e', st', φ', h1, h2, g.trans h3, h4⟩
section
variable {P : Program} {N : Nat}
theorem fr_put {φ : Phi} {f : Fr} {a : Act} (h : FR φ N f a) {d : Option Nat} (hd : (match d with | some t => decide (t < N) | none => true) = true) {x : AV} {v : Value} (hv : VR φ x v) : FR φ N (fput d x f) (a.put d v) := by
  cases d with
  | none => exact h
  | some t => exact h.put (of_decide_eq_true hd) hv
theorem wanted_of {φ : Phi} {f : Fr} {a : Act} (h : FR φ N f a) {ops : Array Oper} {o : Oper} {ao : AOper} (hc : (match o.guard, ao.guard with
   | none, none => true
   | some (j, want), some (t, want') => (match ops[j]? with | some oj => oj.dst == some t | none => false) && want == want'
   | _, _ => false) = true) {p q : Prop} (hg : guarded ao.guard f p q) : (Region.wanted o (yielded ops a.tmps) = true ∧ q) ∨ (Region.wanted o (yielded ops a.tmps) = false ∧ p) := by
  unfold Region.wanted
  unfold guarded at hg
  split at hc
  · rename_i h1 h2
    rw [h2] at hg
    rw [h1]
    exact .inl ⟨rfl, hg⟩
  · rename_i j want t want' h1 h2
    rw [h2] at hg
    rw [h1]
    simp only [Bool.and_eq_true, beq_iff_eq] at hc
    obtain ⟨hc1, rfl⟩ := hc
    split at hc1
    · rename_i oj hoj
      simp only [beq_iff_eq] at hc1
      rcases onG_out hg with ⟨b, hb, hg⟩ | ⟨hb, hg⟩
      case inr =>
        have hv := h.2.2 t
        rw [hb] at hv
        have hv : a.tmps.getD t undef = .tuple #[] := by
          obtain ⟨vs, e, hvs⟩ := hv
          have : vs.toList.length = 0 := by cases h0 : vs.toList <;> rw [h0] at hvs <;> first | rfl | cases hvs
          rw [e]; congr 1; exact Array.eq_empty_of_size_eq_zero (by simpa using this)
        have hy : yielded ops a.tmps j = none := by
          unfold yielded
          rw [Array.getD_eq_getD_getElem?] at hv
          cases hx : a.tmps[t]? with
          | none => simp [hoj, hc1, hx]
          | some u => rw [hx] at hv; simp at hv; simp [hoj, hc1, hx, hv]
        simp only [hy]
        exact .inr ⟨by simp, hg⟩
      have hv := h.2.2 t
      rw [hb] at hv
      have hv : a.tmps.getD t undef = .bool b := hv
      have hget : a.tmps[t]? = some (.bool b) := by
        rw [Array.getD_eq_getD_getElem?] at hv
        cases hx : a.tmps[t]? with
        | none => rw [hx] at hv; simp [undef] at hv
        | some u => rw [hx] at hv; simp at hv; rw [hv]
      have hy : yielded ops a.tmps j = some b := by
        unfold yielded
        simp [hoj, hc1, hget]
      simp only [hy]
      by_cases hbw : b = want
      · rw [if_pos hbw] at hg
        exact .inl ⟨by simp [hbw], hg⟩
      · rw [if_neg hbw] at hg
        exact .inr ⟨by simpa using hbw, hg⟩
    · cases hc1
  · cases hc
theorem run_callFunc {f : FuncId} (h : callee P f = true) (args : Array Value) (w : World) : (callFunc f args).run P w = .ok (.enter f args) w := by
  unfold callee at h
  split at h
  · rename_i fn hf
    simp only [Bool.and_eq_true, bne_iff_ne, ne_eq] at h
    obtain ⟨c, hb⟩ := Option.isSome_iff_exists.1 h.2
    simp [callFunc, hf, h.1, hb]
  · cases h
theorem vrs_args {φ : Phi} {ev : Opd → AV} {ρ : Operand → Value} (he : Evs φ ev ρ) : ∀ {xs : List Operand} {ys : List Opd}, opds xs = some ys → VRs φ (ys.map ev) (xs.map ρ)
  | [], ys, h => by simp [opds] at h; subst h; exact .nil
  | x :: r, ys, h => by
    unfold opds at h
    obtain ⟨y, hy, h⟩ := bind_some h
    obtain ⟨ys', hys, rfl⟩ := map_some h
    exact .cons (he x y hy) (vrs_args he hys)
theorem vrs_append {φ : Phi} {l l' : List AV} {vs vs' : List Value} (h : VRs φ l vs) (h' : VRs φ l' vs') : VRs φ (l ++ l') (vs ++ vs') := by
  induction h with
  | nil => exact h'
  | cons hx _ ih => exact .cons hx ih
theorem vrs_caps {φ : Phi} {cs : List (Nat × Nat × Nat)} {vs : List Value} (h : PtrsAt φ cs vs) : VRs φ (cs.map capAV) vs := by
  induction h with
  | nil => exact .nil
  | cons hx _ ih => exact .cons ⟨_, rfl, hx⟩ ih
def isSpec : AOp → Bool
  | .capx _ | .slicex _ _ _ | .appz _ _ _ _ _ _ => true
  | _ => false
def isCall : AOp → Bool
  | .call _ _ | .callv _ _ | .callx _ _ | .capx _ | .slicex _ _ _ | .appz _ _ _ _ _ _ => true
  | _ => false
theorem opWp_out {op : AOp} {ev : Opd → AV} {H : AHeap} {K : AV → AHeap → Prop} (hn : isCall op = false) (h : opWp P op ev H K) : ∃ v H', xop op ev H = some (v, H') ∧ K v H' := by
  cases op <;> first | exact onX_out h | (cases hn; done)
theorem call_cases {op : AOp} (h : isCall op = true) : (∃ f args, op = .call f args) ∨ (∃ x args, op = .callv x args) ∨ (∃ f args, op = .callx f args) ∨ isSpec op = true := by
  cases op <;> first | exact .inl ⟨_, _, rfl⟩ | exact .inr (.inl ⟨_, _, rfl⟩) | exact .inr (.inr (.inl ⟨_, _, rfl⟩)) | exact .inr (.inr (.inr rfl)) | (cases h; done)
theorem comp_call {op : Op} {f : Nat} {args : List Opd} (h : comp P op = some (.call f args)) : ∃ c, op = .call c ∧ c.callee = .value (.func f) ∧ callee P f = true ∧ opds c.args.toList = some args := by
  cases op <;> simp only [comp] at h
  case call c =>
    unfold compCall at h
    split at h
    · rename_i g hcal
      split at h
      · rename_i hcl
        obtain ⟨ys, hys, e⟩ := map_some h
        injection e with e1 e2
        subst e1
        subst e2
        exact ⟨c, rfl, hcal, hcl, hys⟩
      · obtain ⟨ys, hys, e⟩ := map_some h
        cases e
    all_goals exfalso
    all_goals (repeat' split at h)
    all_goals simp [Option.map_eq_some_iff, Option.bind_eq_some_iff] at h
  all_goals exfalso
  all_goals (repeat' split at h)
  all_goals simp [Option.map_eq_some_iff, Option.bind_eq_some_iff] at h
  all_goals (obtain ⟨_, _, h⟩ := h; first | (split at h <;> cases h; done) | (obtain ⟨_, _, _, _, _, _, h⟩ := h; split at h <;> cases h))
theorem comp_callx {op : Op} {f : Nat} {args : List Opd} (h : comp P op = some (.callx f args)) : ∃ c, op = .call c ∧ c.callee = .value (.func f) ∧ opds c.args.toList = some args := by
  cases op <;> simp only [comp] at h
  case call c =>
    unfold compCall at h
    split at h
    · rename_i g hcal
      split at h
      · obtain ⟨ys, hys, e⟩ := map_some h
        cases e
      · obtain ⟨ys, hys, e⟩ := map_some h
        injection e with e1 e2
        subst e1
        subst e2
        exact ⟨c, rfl, hcal, hys⟩
    all_goals exfalso
    all_goals (repeat' split at h)
    all_goals simp [Option.map_eq_some_iff, Option.bind_eq_some_iff] at h
  all_goals exfalso
  all_goals (repeat' split at h)
  all_goals simp [Option.map_eq_some_iff, Option.bind_eq_some_iff] at h
  all_goals (obtain ⟨_, _, h⟩ := h; first | (split at h <;> cases h; done) | (obtain ⟨_, _, _, _, _, _, h⟩ := h; split at h <;> cases h))
theorem comp_callv {op : Op} {x : Opd} {args : List Opd} (h : comp P op = some (.callv x args)) : ∃ c t, op = .call c ∧ c.callee = .value (.tmp t) ∧ x = .t t ∧ opds c.args.toList = some args := by
  cases op <;> simp only [comp] at h
  case call c =>
    unfold compCall at h
    split at h
    · exfalso
      split at h
      · obtain ⟨ys, hys, e⟩ := map_some h
        cases e
      · obtain ⟨ys, hys, e⟩ := map_some h
        cases e
    · rename_i t hcal
      obtain ⟨ys, hys, e⟩ := map_some h
      injection e with e1 e2
      subst e1
      subst e2
      exact ⟨c, t, rfl, hcal, rfl, hys⟩
    all_goals exfalso
    all_goals (repeat' split at h)
    all_goals simp [Option.map_eq_some_iff, Option.bind_eq_some_iff] at h
  all_goals exfalso
  all_goals (repeat' split at h)
  all_goals simp [Option.map_eq_some_iff, Option.bind_eq_some_iff] at h
  all_goals (obtain ⟨_, _, h⟩ := h; first | (split at h <;> cases h; done) | (obtain ⟨_, _, _, _, _, _, h⟩ := h; split at h <;> cases h))
theorem comp_nospec {op : Op} {ao : AOp} (h : comp P op = some ao) : isSpec ao = false := by
  cases ao <;> first | rfl | skip
  all_goals
    exfalso
    cases op <;> simp only [comp] at h
    case call c =>
      unfold compCall at h
      (repeat' split at h)
      all_goals simp [Option.map_eq_some_iff, Option.bind_eq_some_iff] at h
    all_goals (repeat' split at h)
    all_goals simp [Option.map_eq_some_iff, Option.bind_eq_some_iff] at h
    all_goals (obtain ⟨_, _, h⟩ := h; first | (split at h <;> cases h; done) | (obtain ⟨_, _, _, _, _, _, h⟩ := h; split at h <;> cases h))
theorem op_sound0 {o : Oper} {op : AOp} (h1 : comp P o.op = some op) {φ : Phi} {base : Nat} {H : AHeap} {ev : Opd → AV} {a : Act} {w : World} (hr : Rel φ base H w) (hev : Evs φ ev a.eval)
    {K : AV → AHeap → Prop} (h : opWp P op ev H K) {next : Act → World → Prop} {Q : Exit → Act → World → Prop}
    (hn : ∀ v cv H' φ' w', K v H' → Goes φ base H w φ' H' w' → VR φ' v cv → next (a.put o.dst cv) w') : o.wp P a w next Q := by
  unfold Oper.wp
  have enter : ∀ {f : FuncId} {args : List AV} {cargs : Array Value}, (execOp a.eval o).run P w = .ok (.enter f cargs) w → VRs φ args cargs.toList → Spec P f args H K → Oper.upon P o a next Q ((execOp a.eval o).run P w) := fun {f args cargs} hrun hargs hs => by
    rw [hrun]
    show Calls P f cargs w _
    refine (hs φ base w cargs hr hargs).mono fun e w' hp => ?_
    obtain ⟨v, cv, H', φ', rfl, hk, hg, hv⟩ := hp
    exact hn v cv H' φ' w' hk hg hv
  cases hic : isCall op
  · obtain ⟨x, H', hx, hk⟩ := opWp_out hic h
    obtain ⟨v, φ', w', hrun, hg, hv⟩ := xop_sound hr hev h1 hx
    rcases hrun with hrun | ⟨hrun, rfl⟩
    · rw [hrun]
      exact hn x v H' φ' w' hk hg hv
    · rw [hrun]
      exact hn x undef H' φ' w' hk hg hv
  · rcases call_cases hic with ⟨f, args, hop⟩ | ⟨y, args, hop⟩ | ⟨f, args, hop⟩ | hsp
    · rw [hop] at h h1
      obtain ⟨c, ho, hcal, hcl, hys⟩ := comp_call h1
      refine enter (cargs := c.args.map a.eval) (by simp [execOp, ho, resolve, hcal, Act.eval, Deferred.ofValue, invoke, run_callFunc hcl]) ?_ h
      simpa using vrs_args hev hys
    · rw [hop] at h h1
      obtain ⟨c, t, ho, hcal, rfl, hys⟩ := comp_callv h1
      have h : onFn (ev (.t t)) _ := h
      have hv := hev (.tmp t) (.t t) rfl
      cases hy : ev (.t t) with
      | s z =>
        rw [hy] at h hv
        cases z <;> try exact h.elim
        case fn g cs =>
          obtain ⟨hcl, hs⟩ := h
          obtain ⟨ccs, hv, hp⟩ := vr_s hv
          refine enter (cargs := c.args.map a.eval ++ ccs) (by simp [execOp, ho, resolve, hcal, hv, Deferred.ofValue, invoke, run_callFunc hcl]) ?_ hs
          simpa using vrs_append (vrs_args hev hys) (vrs_caps hp)
      | _ => rw [hy] at h; exact h.elim
    · rw [hop] at h h1
      obtain ⟨c, ho, hcal, hys⟩ := comp_callx h1
      have h : Specx P f (args.map ev) H K := h
      obtain ⟨v, cv, H', φ', w', hrun, hk, hg, hv⟩ := h φ base w (c.args.map a.eval) hr (by simpa using vrs_args hev hys)
      have he : (execOp a.eval o).run P w = .ok (.value cv) w' := by simp [execOp, ho, resolve, hcal, Act.eval, Deferred.ofValue, invoke, hrun]
      rw [he]
      exact hn v cv H' φ' w' hk hg hv
    · rw [comp_nospec h1] at hsp
      cases hsp
theorem spec_sound {o : Oper} {op : AOp} (h1 : compB P o.op = some op) {φ : Phi} {base : Nat} {H : AHeap} {ev : Opd → AV} {a : Act} {w : World} (hr : Rel φ base H w) (hev : Evs φ ev a.eval)
    {K : AV → AHeap → Prop} (h : opWp P op ev H K) {next : Act → World → Prop} {Q : Exit → Act → World → Prop}
    (hn : ∀ v cv H' φ' w', K v H' → Goes φ base H w φ' H' w' → VR φ' v cv → next (a.put o.dst cv) w') : o.wp P a w next Q := by
  unfold Oper.wp
  have fin : ∀ {x : AV} {H' : AHeap}, XS P φ base H w o a.eval x H' → K x H' → Oper.upon P o a next Q ((execOp a.eval o).run P w) := fun {x H'} hx hk => by
    obtain ⟨v, φ', w', hrun, hg, hv⟩ := hx
    rcases hrun with hrun | ⟨hrun, rfl⟩
    · rw [hrun]
      exact hn x v H' φ' w' hk hg hv
    · rw [hrun]
      exact hn x undef H' φ' w' hk hg hv
  unfold compB at h1
  split at h1
  · rename_i t x hh hop
    split at h1
    · rename_i e hu
      obtain ⟨i, hi, h1⟩ := bind_some h1
      obtain ⟨x', hx, h1⟩ := bind_some h1
      obtain ⟨h', hh', rfl⟩ := map_some h1
      obtain ⟨v, H', e1, hk⟩ := onX_out h
      exact fin (xs_slicex hr hev hop hu hi hx hh' e1) hk
    · cases h1
  · rename_i c hop
    split at h1
    · rename_i x t hcal hargs htys
      split at h1
      · rename_i e hu
        obtain ⟨x', hx, rfl⟩ := map_some h1
        have h : capWp (ev x') H K := h
        have hv := hev x x' hx
        cases hy : ev x' with
        | s z =>
          rw [hy] at h hv
          cases z <;> try exact h.elim
          case sl b i n c0 =>
            obtain ⟨h0, hk⟩ := h
            obtain ⟨ad, c', p, e1, n1, n2, n3, hp, n4⟩ := vr_s hv
            obtain ⟨_, hcap⟩ := n4.resolve_left (by omega)
            have hrun := run_capx (P := P) (w := w) hr hev hop hcal hargs htys hu e1
            rw [hrun]
            refine hn _ _ _ φ w (hk c' n2 n3) ⟨⟨hr.blk, hr.inj, hr.new, hr.base, hr.fz, fun b' F e => ?_⟩, Nat.le_refl _, Ext.refl _, Below.refl _ _, fun _ _ _ => rfl, fun r hm => .inr hm, fun r o hf => .inl hf⟩ rfl
            simp only [AHeap.mark_full, Option.some.injEq, Prod.mk.injEq] at e
            obtain ⟨rfl, rfl⟩ := e
            exact ⟨p, hp, hcap.symm⟩
        | _ => rw [hy] at h; exact h.elim
      · cases h1
    · rename_i x y t u hcal hargs htys
      split at h1
      · rename_i e kn hu hu2
        obtain ⟨⟨sz, by_, z⟩, hei, h1⟩ := bind_some h1
        obtain ⟨x', hx, h1⟩ := bind_some h1
        obtain ⟨y', hy, rfl⟩ := map_some h1
        obtain ⟨v, H', e1, hk⟩ := onX_out h
        exact fin (xs_appz hr hev hop hcal hargs htys hu hu2 hei hx hy e1) hk
      · cases h1
    · cases h1
  · cases h1
theorem plain_dr {fz : Nat → Option Obj} {φ : Phi} {x : SV} {v : Value} (h : x.plain1 = true) (k : SR φ x v) : DR fz x v := by
  cases x <;> first | (cases h; done) | exact k
theorem plain_drs {fz : Nat → Option Obj} {φ : Phi} {cells : Array Value} {t : Nat} : ∀ {r : List SV} {off : Nat}, plainRow r = true → (∀ j x, r[j]? = some x → ∃ v, cells[off + j]? = some v ∧ SR φ x v) → DRs fz r (.cells cells t (0, 0)) off
  | [], _, _, _ => trivial
  | x :: r, off, h, k => by
    simp only [plainRow, Bool.and_eq_true] at h
    obtain ⟨v, h1, h2⟩ := k 0 x rfl
    refine ⟨⟨v, h1, plain_dr h.1 h2⟩, plain_drs (φ := φ) h.2 fun j y hy => ?_⟩
    obtain ⟨u, h3, h4⟩ := k (j + 1) y hy
    exact ⟨u, by rw [Nat.add_assoc, Nat.add_comm 1]; exact h3, h4⟩
theorem plain_drss {fz : Nat → Option Obj} {φ : Phi} {cells : Array Value} {t sz : Nat} : ∀ {l : List (List SV)} {off : Nat}, plainRows l = true → (∀ r ∈ l, r.length = sz) → (∀ i r j x, l[i]? = some r → r[j]? = some x → ∃ v, cells[off + i * sz + j]? = some v ∧ SR φ x v) → DRss fz sz l (.cells cells t (0, 0)) off
  | [], _, _, _, _ => trivial
  | r :: l, off, h, hl, k => by
    simp only [plainRows, Bool.and_eq_true] at h
    refine ⟨⟨hl r (List.mem_cons_self ..), plain_drs (φ := φ) h.1 fun j x hx => ?_⟩, plain_drss (φ := φ) h.2 (fun r hr => hl r (List.mem_cons_of_mem _ hr)) fun i r j x hi hx => ?_⟩
    · obtain ⟨v, h1, h2⟩ := k 0 r j x rfl hx
      exact ⟨v, by simpa using h1, h2⟩
    · obtain ⟨v, h1, h2⟩ := k (i + 1) r j x hi hx
      exact ⟨v, by rw [Nat.add_mul, Nat.one_mul, ← Nat.add_assoc] at h1; rw [Nat.add_right_comm off sz]; exact h1, h2⟩
theorem goes_frozen {φ : Phi} {base : Nat} {H : AHeap} {w : World} (hr : Rel φ base H w) (o : Obj) : Goes φ base H w ⟨φ, fun r => if r = w.heap.size then some o else φ.fz r⟩ H (w.alloc o) := by
  have hold : ∀ r, r < w.heap.size → (w.alloc o).heap[r]? = w.heap[r]? := fun r h => Below.heap_alloc w o r h
  have hext : Ext φ ⟨φ, fun r => if r = w.heap.size then some o else φ.fz r⟩ := ⟨fun b p h => h, fun r q hq => by
    have := (Array.getElem?_eq_some_iff.1 (hr.fz r q hq).1).1
    show (if r = w.heap.size then some o else φ.fz r) = some q
    rw [if_neg (by omega)]; exact hq⟩
  refine ⟨⟨fun b k hb => ?_, hr.inj, hr.new, by simp; have := hr.base; omega, fun r q hq => ?_, hr.full⟩, Nat.le_refl _, hext, ⟨rfl, rfl, rfl, by simp, fun r h => hold r (by have := hr.base; omega)⟩, fun r h _ => hold r h, fun r hm => .inr hm, fun r q hq => ?_⟩
  · obtain ⟨p, hp, ok⟩ := hr.blk b k hb
    exact ⟨p, hp, ok.move hext (fun hc => hold _ (hr.blk_lt hb hp hc).1)⟩
  · have hq : (if r = w.heap.size then some o else φ.fz r) = some q := hq
    split at hq
    · rename_i e
      obtain rfl := Option.some.inj hq
      subst e
      refine ⟨heap_alloc_new w _, fun ⟨b, k, p, g1, g2, g3, g4⟩ => ?_⟩
      have := (hr.blk_lt g1 g2 g3).1
      omega
    · obtain ⟨h1, h2⟩ := hr.fz r q hq
      exact ⟨by rw [hold r (Array.getElem?_eq_some_iff.1 h1).1]; exact h1, h2⟩
  · have hq : (if r = w.heap.size then some o else φ.fz r) = some q := hq
    split at hq
    · rename_i e; exact .inr (.inl (by omega))
    · exact .inl hq
theorem comp_mkrow {op : Op} {e s n : Nat} {z : List SV} {qs : List (Nat × Opd)} (h : comp P op = some (.mkrow e s z n qs)) : ∃ b t ps, op = .buildSlice t n ps ∧ P.underlying t = some (.slice e) ∧ einfo P e = some (s, b, z) ∧ n * s ≤ 16777216 ∧ compElems ps.toList = some qs := by
  cases op <;> simp only [comp] at h
  case buildSlice t n' ps =>
    split at h
    · obtain ⟨⟨s', b, z'⟩, hi, h⟩ := bind_some h
      simp only at h
      split at h
      · obtain ⟨q, hq, e⟩ := map_some h
        cases e
        exact ⟨b, t, ps, rfl, ‹_›, hi, ‹_›, hq⟩
      · cases h
    · cases h
  case call c =>
    exfalso
    unfold compCall at h
    repeat' split at h
    all_goals simp [Option.map_eq_some_iff, Option.bind_eq_some_iff] at h
  all_goals exfalso
  all_goals (repeat' split at h)
  all_goals simp [Option.map_eq_some_iff, Option.bind_eq_some_iff] at h
  all_goals (obtain ⟨_, _, h⟩ := h; first | (split at h <;> cases h; done) | (obtain ⟨_, _, _, _, _, _, h⟩ := h; split at h <;> cases h))
theorem run_of_xop {o : Oper} {op : AOp} (h1 : compA P o.op op = true) {φ : Phi} {base : Nat} {H H' : AHeap} {ev : Opd → AV} {a : Act} {w : World} {v : AV} (hr : Rel φ base H w) (hev : Evs φ ev a.eval)
    (hx : xop op ev H = some (v, H')) : ∃ u w', (execOp a.eval o).run P w = .ok (.value u) w' ∨ (execOp a.eval o).run P w = .ok .skip w' := by
  rcases compA_out h1 with h1 | ⟨e, s, z, n, qs, rfl, hcm⟩
  · obtain ⟨u, φ', w', hrun, _⟩ := xop_sound hr hev h1 hx
    exact ⟨u, w', hrun.imp id (·.1)⟩
  · simp only [xop] at hx
    obtain ⟨rs, hrs, hx⟩ := bind_some hx
    obtain ⟨b, t, ps, ho, hu, hi, hn', hp⟩ := comp_mkrow hcm
    obtain ⟨cells, hrun, c1, c2⟩ := mkrow_run (o := o) hr hev ho hu hi hn' hp hrs
    exact ⟨_, _, .inl hrun⟩
theorem op_sound {o : Oper} {op : AOp} (h1 : compA P o.op op = true) {φ : Phi} {base : Nat} {H : AHeap} {ev : Opd → AV} {a : Act} {w : World} (hr : Rel φ base H w) (hev : Evs φ ev a.eval)
    {K : AV → AHeap → Prop} (h : opWp P op ev H K) {next : Act → World → Prop} {Q : Exit → Act → World → Prop}
    (hn : ∀ v cv H' φ' w', K v H' → Goes φ base H w φ' H' w' → VR φ' v cv → next (a.put o.dst cv) w') : o.wp P a w next Q := by
  rcases compA_out h1 with h1 | ⟨e, s, z, n, qs, rfl, hcm⟩
  · exact op_sound0 h1 hr hev h hn
  · obtain ⟨v, H', hx, hk⟩ := opWp_out rfl h
    simp only [xop] at hx
    obtain ⟨rs, hrs, hx⟩ := bind_some hx
    split at hx
    · rename_i hpl
      simp only [Option.some.injEq, Prod.mk.injEq] at hx
      obtain ⟨rfl, rfl⟩ := hx
      obtain ⟨b, t, ps, ho, hu, hi, hn', hp⟩ := comp_mkrow hcm
      obtain ⟨cells, hrun, c1, c2⟩ := mkrow_run (o := o) hr hev ho hu hi hn' hp hrs
      unfold Oper.wp
      rw [hrun]
      refine hn _ _ _ _ _ hk (goes_frozen hr _) (lst_vr (.inr ⟨w.heap.size, 0, n, _, by rw [c2.1], by rw [c2.1]; exact Nat.le_refl _, c2.2, if_pos rfl, ?_⟩))
      exact plain_drss (φ := φ) hpl (fun r hr => by obtain ⟨i, hi⟩ := List.getElem?_of_mem hr; exact (c1 i r hi).1) fun i r j x hi hx => by
        obtain ⟨v, h1, h2⟩ := (c1 i r hi).2 j x hx
        exact ⟨v, by simpa using h1, h2⟩
    · cases hx
theorem oper_sound {ops : Array Oper} {o : Oper} {ao : AOper} (hc : compOper P N ops o ao = true) {φ : Phi} {base : Nat} {st : St} {a : Act} {w : World} (hr : Rel φ base st.H w) (hf : FR φ N st.fr a)
    {K : St → Prop} (h : operWp P ao st K) {next : Act → World → Prop} {Q : Exit → Act → World → Prop}
    (hn : ∀ st' φ' a' w', K st' → Goes φ base st.H w φ' st'.H w' → FR φ' N st'.fr a' → next a' w') :
    if Region.wanted o (yielded ops a.tmps) then o.wp P a w next Q ∨ (o.asks P a w ∧ LetsOut Q) else next (a.put o.dst undef) w := by
  unfold compOper at hc
  simp only [Bool.and_eq_true, beq_iff_eq] at hc
  obtain ⟨⟨⟨h1, h2⟩, h3⟩, h4⟩ := hc
  unfold operWp at h
  rcases wanted_of hf h4 h with ⟨hw, h⟩ | ⟨hw, h⟩
  · rw [if_pos hw]
    refine .inl (op_sound h1 hr (evs_frame hf) h fun v cv H' φ' w' hk hg hv => ?_)
    rw [h2]
    exact hn _ φ' _ w' hk.2 hg (fr_put (hf.ext hg.ext) h3 hv)
  · rw [if_neg (by rw [hw]; exact Bool.false_ne_true)]
    rw [h2]
    exact hn _ φ _ w h (Goes.refl hr) (fr_put hf h3 vr_undef)
theorem soper_sound {ops : Array Oper} {o : Oper} {ao : AOper} (hc : compSpec P N o ao = true) {φ : Phi} {base : Nat} {st : St} {a : Act} {w : World} (hr : Rel φ base st.H w) (hf : FR φ N st.fr a)
    {K : St → Prop} (h : operWp P ao st K) {next : Act → World → Prop} {Q : Exit → Act → World → Prop}
    (hn : ∀ st' φ' a' w', K st' → Goes φ base st.H w φ' st'.H w' → FR φ' N st'.fr a' → next a' w') :
    if Region.wanted o (yielded ops a.tmps) then o.wp P a w next Q ∨ (o.asks P a w ∧ LetsOut Q) else next (a.put o.dst undef) w := by
  unfold compSpec at hc
  simp only [Bool.and_eq_true, beq_iff_eq, Option.isNone_iff_eq_none] at hc
  obtain ⟨⟨⟨⟨h1, h2⟩, h3⟩, h4⟩, h5⟩ := hc
  unfold operWp guarded at h
  rw [h5] at h
  rw [if_pos (by simp [Region.wanted, h4])]
  refine .inl (spec_sound h1 hr (evs_frame hf) h fun v cv H' φ' w' hk hg hv => ?_)
  rw [h2]
  exact hn _ φ' _ w' hk.2 hg (fr_put (hf.ext hg.ext) h3 hv)
theorem ops_sound {ops : Array Oper} : ∀ (l : List Oper) (az : List AOper) (k : Nat), (∀ j, l[j]? = ops[k + j]?) → agreeOps P N ops l az = true → ∀ {φ : Phi} {base : Nat} {st : St} {a : Act} {w : World}, Rel φ base st.H w → FR φ N st.fr a →
    ∀ {K : St → Prop}, opsWp P az K st → ∀ {Q : Exit → Act → World → Prop}, (∀ st' φ' a' w', K st' → Goes φ base st.H w φ' st'.H w' → FR φ' N st'.fr a' → Q .normal a' w') → wpOps P ops Q (List.range' k l.length) a w
  | [], [], k, hl, hc, φ, base, st, a, w, hr, hf, K, h, Q, hq => hq st φ a w h (Goes.refl hr) hf
  | o :: l, ao :: az, k, hl, hc, φ, base, st, a, w, hr, hf, K, h, Q, hq => by
    simp only [agreeOps, Bool.and_eq_true] at hc
    have h0 : ops[k]? = some o := by simpa using (hl 0).symm
    simp only [List.length_cons, List.range'_succ, wpOps, h0]
    have hc1 := hc.1
    rw [Bool.or_eq_true] at hc1
    refine hc1.elim (fun hc1 => oper_sound hc1 hr hf h ?_) (fun hc1 => soper_sound hc1 hr hf h ?_)
    all_goals exact (fun st' φ' a' w' hk hg hf' => by
      refine ops_sound l az (k + 1) (fun j => ?_) hc.2 hg.rel hf' hk (fun st2 φ2 a2 w2 hk2 hg2 hf2 => hq st2 φ2 a2 w2 hk2 (hg.trans hg2) hf2)
      have := hl (j + 1)
      simpa [Nat.add_assoc, Nat.add_comm 1 j] using this)
  | [], _ :: _, k, hl, hc, _, _, _, _, _, _, _, _, _, _, _ => by simp [agreeOps] at hc
  | _ :: _, [], k, hl, hc, _, _, _, _, _, _, _, _, _, _, _ => by simp [agreeOps] at hc
def DrawSound (P : Program) : Prop := (∀ (N id : Nat) (ops : Array Oper) (az : List (Nat × Cat × AOper)), drawOk P N ops az = true → ∀ {φ : Phi} {base : Nat} {st : St} {a : Act} {w : World}, Rel φ base st.H w → FR φ N st.fr a →
    ∀ {K : St → Prop}, opsWp P (az.map (·.2.2)) K st → ∀ {Q : Exit → Act → World → Prop}, (∀ st' φ' a' w', K st' → Goes φ base st.H w φ' st'.H w' → FR φ' N st'.fr a' → Q .normal a' w') → (Code.region id ops true).wp P Q a w) ∧
  (∀ (N id : Nat) (ops : Array Oper) (i j : Nat) (az bs : List (Nat × Cat × AOper)), draw2Ok P N ops i j az bs = true → ∀ {φ : Phi} {base : Nat} {st : St} {a : Act} {w : World}, Rel φ base st.H w → FR φ N st.fr a →
    ∀ {K : St → Prop}, opsWp P (az.map (·.2.2)) K st → opsWp P (bs.map (·.2.2)) K st → ∀ {Q : Exit → Act → World → Prop}, (∀ st' φ' a' w', K st' → Goes φ base st.H w φ' st'.H w' → FR φ' N st'.fr a' → Q .normal a' w') → (Code.region id ops true).wp P Q a w)
theorem code_sound {n0 : Nat} (hD : DrawSound P) : ∀ (ac : ACode) (c : Code), agree P N ac c = true → ∀ {φ : Phi} {base : Nat} {st : St} {a : Act} {w : World} {K : AExit → St → Prop}, Rel φ base st.H w → FR φ N st.fr a → awp P n0 ac K st → c.wp P (Post n0 φ base N st.H w K) a w
  | .skip, c, hc, φ, base, st, a, w, K, hr, hf, h => by
    cases c <;> first | (cases hc; done) | skip
    exact wp_skip ⟨.normal, st, φ, rfl, h, GoesL.refl hr, hf⟩
  | .exit i, c, hc, φ, base, st, a, w, K, hr, hf, h => by
    cases c <;> first | (cases hc; done) | skip
    case exit j =>
      simp only [agree, beq_iff_eq] at hc
      subst hc
      exact wp_exit ⟨.exit i, st, φ, rfl, h, GoesL.refl hr, hf⟩
  | .ret, c, hc, φ, base, st, a, w, K, hr, hf, h => by
    cases c <;> first | (cases hc; done) | skip
    exact wp_ret ⟨.ret, st, φ, rfl, h, GoesL.refl hr, hf⟩
  | .reg az ks, c, hc, φ, base, st, a, w, K, hr, hf, h => by
    cases c <;> first | (cases hc; done) | skip
    case region id ops draw =>
      cases draw <;> first | (cases hc; done) | skip
      simp only [agree] at hc
      refine wp_region ?_
      have := ops_sound (ops := ops) ops.toList az 0 (fun j => by simp) hc hr hf h (Q := Post n0 φ base N st.H w K) (fun st' φ' a' w' hk hg hf' => ⟨.normal, _, φ', rfl, hk, .of hg, hf'.keep ks⟩)
      rwa [Array.length_toList, ← List.range_eq_range'] at this
  | .dreg az ks, c, hc, φ, base, st, a, w, K, hr, hf, h => by
    cases c <;> first | (cases hc; done) | skip
    case region id ops draw =>
      cases draw
      · cases hc
      exact hD.1 N id ops az hc hr hf h (fun st' φ' a' w' hk hg hf' => ⟨.normal, _, φ', rfl, hk, .of hg, hf'.keep ks⟩)
  | .dreg2 i j az bs ks, c, hc, φ, base, st, a, w, K, hr, hf, h => by
    cases c <;> first | (cases hc; done) | skip
    case region id ops draw =>
      cases draw
      · cases hc
      exact hD.2 N id ops i j az bs hc hr hf h.1 h.2 (fun st' φ' a' w' hk hg hf' => ⟨.normal, _, φ', rfl, hk, .of hg, hf'.keep ks⟩)
  | .seq x y, c, hc, φ, base, st, a, w, K, hr, hf, h => by
    cases c <;> first | (cases hc; done) | skip
    case seq p q =>
      simp only [agree, Bool.and_eq_true] at hc
      refine wp_seq (wp_mono (code_sound hD x p hc.1 hr hf h) fun e a' w' hp => ?_)
      obtain ⟨e', st', φ', rfl, hk, hg, hf'⟩ := hp
      cases e' with
      | normal => exact wp_mono (code_sound hD y q hc.2 hg.rel hf' hk) fun e a2 w2 hp => hp.trans hg
      | exit id => exact ⟨.exit id, st', φ', rfl, hk, hg, hf'⟩
      | ret => exact ⟨.ret, st', φ', rfl, hk, hg, hf'⟩
  | .cond x p q, c, hc, φ, base, st, a, w, K, hr, hf, h => by
    cases c <;> first | (cases hc; done) | skip
    case cond d x' y' =>
      simp only [agree, Bool.and_eq_true, beq_iff_eq] at hc
      obtain ⟨t, ht, h⟩ := onB_out h
      have hv := evs_frame hf d x hc.1.1
      rw [ht] at hv
      have hv : a.eval d = .bool t := hv
      refine wp_cond hv ?_
      cases t
      · exact code_sound hD q y' hc.2 hr hf h
      · exact code_sound hD p x' hc.1.2 hr hf h
  | .block i x, c, hc, φ, base, st, a, w, K, hr, hf, h => by
    cases c <;> first | (cases hc; done) | skip
    case block j y =>
      simp only [agree, Bool.and_eq_true, beq_iff_eq] at hc
      obtain ⟨rfl, hc⟩ := hc
      refine wp_block (wp_mono (code_sound hD x y hc hr hf h) fun e a' w' hp => ?_)
      obtain ⟨e', st', φ', rfl, hk, hg, hf'⟩ := hp
      cases e' with
      | normal => exact ⟨.normal, st', φ', rfl, hk, hg, hf'⟩
      | ret => exact ⟨.ret, st', φ', rfl, hk, hg, hf'⟩
      | exit id =>
        simp only [blockK] at hk
        show if id = i then _ else _
        split
        · rw [if_pos ‹_›] at hk; exact ⟨.normal, st', φ', rfl, hk, hg, hf'⟩
        · rw [if_neg ‹_›] at hk; exact ⟨.exit id, st', φ', rfl, hk, hg, hf'⟩
  | .loop x, c, hc, φ, base, st, a, w, K, hr, hf, h => by
    cases c <;> first | (cases hc; done) | skip
    case loop y =>
      simp only [agree] at hc
      obtain ⟨I, ⟨m0, s0, hw0, h0⟩, hround⟩ := h
      obtain ⟨φ0, g0, f0⟩ := hw0.goes hr hf
      refine wp_loop_ghost (fun n a' w' => ∃ s φ', I n s ∧ GoesL n0 φ base st.H w φ' s.H w' ∧ FR φ' N s.fr a') m0 ⟨s0, φ0, h0, g0, f0⟩ ?_
      intro n a1 w1 ⟨s, φ1, hi, hg, hf1⟩
      refine wp_mono (code_sound hD x y hc hg.rel hf1 (hround n s hi)) fun e a' w' hp => ?_
      obtain ⟨e', st', φ', rfl, hk, hg', hf'⟩ := hp
      cases e' with
      | normal =>
        obtain ⟨m, hm, s2, hw2, hi'⟩ := hk
        obtain ⟨φ2, g2, f2⟩ := hw2.goes hg'.rel hf'
        exact ⟨m, hm, s2, φ2, hi', (hg.trans hg').trans g2, f2⟩
      | exit id => exact ⟨.exit id, st', φ', rfl, hk, hg.trans hg', hf'⟩
      | ret => exact ⟨.ret, st', φ', rfl, hk, hg.trans hg', hf'⟩
  | .wk x, c, hc, φ, base, st, a, w, K, hr, hf, h => by
    simp only [agree] at hc
    obtain ⟨s, hw, h⟩ := h
    obtain ⟨φ1, g1, f1⟩ := hw.goes hr hf
    exact wp_mono (code_sound hD x c hc g1.rel f1 h) fun e a' w' hp => hp.trans g1
inductive ARes where
  | tmp (t : Nat)
  | cell1 (t : Nat)
  | celln (t n : Nat)
  deriving DecidableEq
structure AFn where
  n : Nat
  res : List ARes
  body : ACode
def agreeRes (P : Program) : List ResultVar → List ARes → Bool
  | [], [] => true
  | .tmp t :: r, .tmp u :: s => t == u && agreeRes P r s
  | .cell t ty :: r, .cell1 u :: s => t == u && (match P.underlying ty with | some d => !isAggD d | none => false) && agreeRes P r s
  | .cell t ty :: r, .celln u n :: s => t == u && (match P.underlying ty, P.info? ty with | some d, some i => isAggD d && i.size == n | _, _ => false) && agreeRes P r s
  | _, _ => false
def agreeFn (P : Program) (fn : Func) (af : AFn) : Bool :=
  fn.ntmps == af.n && agreeRes P fn.results.toList af.res && (match fn.body with | some c => agree P af.n af.body c | none => false)
def finit : Nat → List AV → Fr
  | _, [] => []
  | i, v :: r => (i, v) :: finit (i + 1) r
theorem finit_get : ∀ (l : List AV) (i t : Nat), fget (finit i l) t = if t < i then .no else l.getD (t - i) .no
  | [], i, t => by simp [finit, fget]
  | v :: l, i, t => by
    simp only [finit, fget]
    split
    · subst_vars; simp
    · rename_i hne
      rw [finit_get l (i + 1) t]
      by_cases h : t < i
      · rw [if_pos h, if_pos (by omega)]
      · rw [if_neg h, if_neg (by omega), show t - i = t - (i + 1) + 1 by omega]
        simp
def ares (st : St) : ARes → Option AV
  | .tmp t => match fget st.fr t with | .tup _ => none | v => some v
  | .cell1 t => match fget st.fr t with | .s (.ptr b i j) => (st.H.cell b i j).map .s | _ => none
  | .celln t n => match fget st.fr t with | .s (.ptr b i j) => (st.H.cells b i j n).map .agg | _ => none
def aress (st : St) : List ARes → Option (List AV)
  | [] => some []
  | r :: rs => (ares st r).bind fun v => (aress st rs).map (v :: ·)
def single : List AV → AV
  | [v] => v
  | l => .tup l
def onO {α : Type} : Option α → (α → Prop) → Prop
  | some x, f => f x
  | none, _ => False
theorem onO_out {α : Type} {x : Option α} {f : α → Prop} (h : onO x f) : ∃ y, x = some y ∧ f y := by
  cases x with
  | none => exact h.elim
  | some y => exact ⟨y, rfl, h⟩
def retK (rs : List ARes) (K : AV → AHeap → Prop) : AExit → St → Prop
  | .exit _, _ => False
  | _, st => onO (aress st rs) fun l => K (single l) st.H
def resOf (tmps : Array Value) : ResultVar → Sem Value
  | .tmp t => Pure.pure (tmps.getD t undef)
  | .cell a t => do loadVar t (← asAddr (tmps.getD a undef))
theorem results_eq (fn : Func) (tmps : Array Value) : results fn tmps = (do
    let vs ← fn.results.mapM (resOf tmps)
    Pure.pure (if h : vs.size = 1 then vs[0] else .tuple vs)) := by
  unfold results
  congr 1
theorem run_cons {α β : Type} {f : α → Sem β} {x : α} {l : List α} {y : β} {ys : List β} {w : World} (h : (f x).run P w = .ok y w) (k : (l.mapM f).run P w = .ok ys w) : ((x :: l).mapM f).run P w = .ok (y :: ys) w := by
  simp only [List.mapM_cons, Sem.run_bind, h, Result.andThen_ok, k]
  rfl
theorem ares_ok {φ : Phi} {base : Nat} {st : St} {a : Act} {w : World} (hr : Rel φ base st.H w) (hf : FR φ N st.fr a) : ∀ {rv : List ResultVar} {rs : List ARes}, agreeRes P rv rs = true → ∀ {l : List AV}, aress st rs = some l →
    ∃ vs : List Value, (rv.mapM (resOf a.tmps)).run P w = .ok vs w ∧ VRs0 φ l vs
  | [], [], hc, l, h => by
    simp [aress] at h
    subst h
    exact ⟨[], rfl, .nil⟩
  | .tmp t :: rv, .tmp u :: rs, hc, l, h => by
    simp only [agreeRes, Bool.and_eq_true, beq_iff_eq] at hc
    obtain ⟨rfl, hc⟩ := hc
    unfold aress at h
    obtain ⟨v, hv, h⟩ := bind_some h
    obtain ⟨l', hl', rfl⟩ := map_some h
    obtain ⟨vs, h1, h2⟩ := ares_ok hr hf hc hl'
    have h3 := hf.2.2 t
    refine ⟨a.tmps.getD t undef :: vs, run_cons rfl h1, .cons ?_ h2⟩
    simp only [ares] at hv
    cases hx : fget st.fr t <;> rw [hx] at hv h3 <;> cases hv <;> exact h3
  | .cell p ty :: rv, .cell1 u :: rs, hc, l, h => by
    simp only [agreeRes, Bool.and_eq_true, beq_iff_eq] at hc
    obtain ⟨⟨rfl, hd⟩, hc⟩ := hc
    split at hd
    · rename_i d hu
      unfold aress at h
      obtain ⟨v, hv, h⟩ := bind_some h
      obtain ⟨l', hl', rfl⟩ := map_some h
      obtain ⟨vs, h1, h2⟩ := ares_ok hr hf hc hl'
      have h3 := hf.2.2 p
      simp only [ares] at hv
      split at hv
      · rename_i b i j hx
        rw [hx] at h3
        obtain ⟨ad, hp, q, hφ, rfl⟩ := vr_s h3
        obtain ⟨y, hy, rfl⟩ := map_some hv
        obtain ⟨q', u, hq', hcell, hs⟩ := hr.cell hy
        rw [hφ] at hq'
        obtain rfl := Option.some.inj hq'
        refine ⟨u :: vs, ?_, .cons hs h2⟩
        have hl : (loadVar ty (q.at (i * q.sz + j))).run P w = .ok u w := by
          cases d <;> simp [isAggD] at hd <;> simp [loadVar, isAgg, run_underlying hu, run_load, hcell]
        refine run_cons ?_ h1
        unfold resOf
        simp only [Sem.run_bind, hp, asAddr, Sem.run_pure, Result.andThen_ok, hl]
      · cases hv
    · cases hd
  | .cell p ty :: rv, .celln u n :: rs, hc, l, h => by
    simp only [agreeRes, Bool.and_eq_true, beq_iff_eq] at hc
    obtain ⟨⟨rfl, hd⟩, hc⟩ := hc
    split at hd
    · rename_i d i hu hi
      simp only [Bool.and_eq_true, beq_iff_eq] at hd
      obtain ⟨hd, rfl⟩ := hd
      unfold aress at h
      obtain ⟨v, hv, h⟩ := bind_some h
      obtain ⟨l', hl', rfl⟩ := map_some h
      obtain ⟨vs, h1, h2⟩ := ares_ok hr hf hc hl'
      have h3 := hf.2.2 p
      simp only [ares] at hv
      split at hv
      · rename_i b e j hx
        rw [hx] at h3
        obtain ⟨ad, hp, q, hφ, rfl⟩ := vr_s h3
        obtain ⟨y, hy, rfl⟩ := map_some hv
        obtain ⟨q', us, hq', hn, hs, hcell⟩ := hr.cells hy
        rw [hφ] at hq'
        obtain rfl := Option.some.inj hq'
        have hlen : us.length = i.size := by rw [← hs.length, hn]
        have hrun := run_loadCells_list (P := P) w (q.at (e * q.sz + j)) us (fun m v hv => by rw [Place.at_add]; exact hcell m v hv)
        rw [hlen] at hrun
        refine ⟨.agg us.toArray :: vs, ?_, .cons ⟨_, rfl, by simpa using hs⟩ h2⟩
        have hl : (loadVar ty (q.at (e * q.sz + j))).run P w = .ok (.agg us.toArray) w := by
          cases d <;> simp [isAggD] at hd <;> simp [loadVar, isAgg, run_underlying hu, sizeOf, typeInfo, hi, hrun]
        refine run_cons ?_ h1
        unfold resOf
        simp only [Sem.run_bind, hp, asAddr, Sem.run_pure, Result.andThen_ok, hl]
      · cases hv
    · cases hd
  | [], _ :: _, hc, _, _ => by simp [agreeRes] at hc
  | .tmp _ :: _, [], hc, _, _ => by simp [agreeRes] at hc
  | .cell _ _ :: _, [], hc, _, _ => by simp [agreeRes] at hc
  | .tmp _ :: _, .cell1 _ :: _, hc, _, _ => by simp [agreeRes] at hc
  | .tmp _ :: _, .celln _ _ :: _, hc, _, _ => by simp [agreeRes] at hc
  | .cell _ _ :: _, .tmp _ :: _, hc, _, _ => by simp [agreeRes] at hc
theorem spec_of_awp (hD : DrawSound P) {f : FuncId} {fn : Func} {af : AFn} (hf : P.funcs[f]? = some fn) (ha : agreeFn P fn af = true) {args : List AV} (hn : args.length ≤ af.n) {H : AHeap} {K : AV → AHeap → Prop}
    (h : awp P H.nx af.body (retK af.res K) ⟨finit 0 args, H⟩) : Spec P f args H K := by
  intro φ base w cargs hr hargs
  unfold agreeFn at ha
  simp only [Bool.and_eq_true, beq_iff_eq] at ha
  obtain ⟨⟨hN, hres⟩, hb⟩ := ha
  split at hb
  · rename_i c hbody
    refine calls_of_wp hf hbody ?_
    have hsz : cargs.size = args.length := by have := hargs.length; simpa using this.symm
    have hF : FR φ af.n (finit 0 args) { tmps := cargs ++ Array.replicate (fn.ntmps - cargs.size) undef, defers := [] } := by
      refine ⟨by simp; omega, rfl, fun t => ?_⟩
      rw [finit_get]
      simp only [Nat.not_lt_zero, if_false, Nat.sub_zero]
      have h1 := hargs.get t
      by_cases ht : t < cargs.size
      · have e : (cargs ++ Array.replicate (fn.ntmps - cargs.size) undef).getD t undef = cargs.toList.getD t undef := by
          rw [Array.getD_eq_getD_getElem?, Array.getElem?_append_left ht]
          simp
        rw [e]
        exact h1
      · have e : args.getD t .no = .no := by
          rw [List.getD_eq_getElem?_getD, List.getElem?_eq_none (by omega)]
          rfl
        rw [e]
        exact VR_no
    refine wp_mono (code_sound hD af.body c hb hr hF h) fun e a' w' hp => ?_
    obtain ⟨e', st', φ', rfl, hk, hgl, hf'⟩ := hp
    have hg : Goes φ base H w φ' st'.H w' := ⟨hgl.rel, hgl.nx (Nat.le_refl _), ⟨fun b p hb => hgl.ext.pl b p (Nat.lt_of_not_le fun hn => by rw [(hr.new b hn).2] at hb; cases hb) hb, hgl.ext.fz⟩, hgl.below, hgl.kept, hgl.mine, hgl.fzn⟩
    have fin : ∀ l, aress st' af.res = some l → K (single l) st'.H → a'.defers = [] ∧ ∃ v, (results fn a'.tmps).run P w' = .ok v w' ∧ ∃ v0 cv H' φ', Ending.returned v = .returned cv ∧ K v0 H' ∧ Goes φ base H w φ' H' w' ∧ VR φ' v0 cv := fun l hl hkl => by
      obtain ⟨vs, h1, h2⟩ := ares_ok hg.rel hf' hres hl
      have hmap : (fn.results.mapM (resOf a'.tmps)).run P w' = .ok vs.toArray w' := by
        rw [Array.mapM_eq_mapM_toList]
        simp only [Sem.run_map, h1]
        rfl
      refine ⟨hf'.2.1, (if h : vs.toArray.size = 1 then vs.toArray[0] else .tuple vs.toArray), ?_, single l, _, st'.H, φ', rfl, hkl, hg, ?_⟩
      · rw [results_eq]
        simp only [Sem.run_bind, hmap, Result.andThen_ok]
        rfl
      · have hlen : l.length = vs.length := by
          clear hmap h1 hkl hl
          induction h2 with
          | nil => rfl
          | cons _ _ ih => simp [ih]
        cases h2 with
        | nil => exact ⟨#[], rfl, .nil⟩
        | cons hx hr2 =>
          cases hr2 with
          | nil => exact VR.of0 hx
          | cons hy hr3 =>
            rw [dif_neg (by simp)]
            exact ⟨_, rfl, .cons hx (.cons hy hr3)⟩
    cases e' with
    | exit id => exact hk.elim
    | normal =>
      obtain ⟨l, hl, hkl⟩ := onO_out hk
      exact fin l hl hkl
    | ret =>
      obtain ⟨l, hl, hkl⟩ := onO_out hk
      exact fin l hl hkl
  · cases hb
end
end Go.Proofs.YtoeieoapnhhaeaaGreat.Den
namespace Go.Proofs.YtoeieoapnhhaeaaGreat.Den
open Go.RowKit
set_option linter.unusedVariables false
set_option linter.unusedSimpArgs false
theorem opWp_congr {P : Program} {op : AOp} {e e' : Opd → AV} {H : AHeap} {K : AV → AHeap → Prop} (h : ∀ o ∈ op.opds, e o = e' o) (k : opWp P op e H K) : opWp P op e' H K := by
  cases hic : isCall op
  · obtain ⟨v, H', hx, hk⟩ := opWp_out hic k
    rw [xop_congr h] at hx
    have : opWp P op e' H K = onX (xop op e' H) K := by cases op <;> first | rfl | cases hic
    rw [this, hx]
    exact hk
  · rcases call_cases hic with ⟨f, args, rfl⟩ | ⟨y, args, rfl⟩ | ⟨f, args, rfl⟩ | hsp
    · have e1 : args.map e = args.map e' := List.map_congr_left fun p hp => h p hp
      have k : Spec P f (args.map e) H K := k
      rw [e1] at k
      exact k
    · have e1 : args.map e = args.map e' := List.map_congr_left fun p hp => h p (List.mem_cons_of_mem _ hp)
      have e0 : e y = e' y := h y (List.mem_cons_self ..)
      have k : onFn (e y) fun f cs => callee P f = true ∧ Spec P f (args.map e ++ cs.map capAV) H K := k
      rw [e0, e1] at k
      exact k
    · have e1 : args.map e = args.map e' := List.map_congr_left fun p hp => h p hp
      have k : Specx P f (args.map e) H K := k
      rw [e1] at k
      exact k
    · cases op <;> first | (cases hsp; done) | skip
      case capx x =>
        have k : capWp (e x) H K := k
        rw [h x (by simp [AOp.opds])] at k
        exact k
      case slicex sz x y =>
        have k : onX (xbeyond sz (e x) (e y) H) K := k
        rw [h x (by simp [AOp.opds]), h y (by simp [AOp.opds])] at k
        exact k
      case appz t sz b z x y =>
        have k : onX (xappz t sz b z (e x) (e y) H) K := k
        rw [h x (by simp [AOp.opds]), h y (by simp [AOp.opds])] at k
        exact k
section
variable {P : Program} {N : Nat} {ops : Array Oper}
theorem evf_const {f g : Fr} {x : Opd} (h : (otmp x).isEmpty = true) : evf f x = evf g x := by
  cases x <;> first | rfl | simp [otmp] at h
theorem float_xop {op : AOp} (h : floatOk op = true) (f : Fr) (H : AHeap) : xop op (evf f) H = some (.s (flA op H.nx), H.push ⟨flSz op, flTy op, flRows op⟩) := by
  cases op <;> first | (cases h; done) | skip
  case alloc => rfl
  case mkrow ty sz z n ps =>
    simp only [floatOk, Bool.and_eq_true] at h
    obtain ⟨rs, hrs⟩ := Option.isSome_iff_exists.1 h.2
    have e : ps.map (fun p => (p.1, evf f p.2)) = ps.map (fun p => (p.1, evf [] p.2)) := List.map_congr_left fun p hp => by rw [evf_const (List.all_eq_true.1 h.1 p hp)]
    simp only [xop, flRows, flSz, flTy, flA]
    have e2 : (afillRows (ps.map fun (i, x) => (i, evf f x)) (List.replicate n z) sz) = some rs := by rw [← hrs]; exact congrArg (fun l => afillRows l _ _) e
    rw [e2, hrs]
    rfl
theorem const_ok {φ : Phi} {a : Act} : Evs φ (fun x => if (otmp x).isEmpty = true then evf [] x else .no) a.eval := by
  intro x y hy
  unfold opd at hy
  split at hy
  · obtain rfl := (Option.some.inj hy).symm; exact VR_no
  · cases hs : svs (Array.toList _) with
    | none => rw [hs] at hy; cases hy
    | some l => rw [hs] at hy; obtain rfl := (Option.some.inj hy).symm; exact ⟨_, rfl, svs_ok hs⟩
  · cases hs : sv _ with
    | none => rw [hs] at hy; cases hy
    | some l => rw [hs] at hy; obtain rfl := (Option.some.inj hy).symm; exact sv_ok (φ := φ) hs
  · obtain rfl := (Option.some.inj hy).symm; exact ⟨#[], rfl, .nil⟩
  · cases hy
theorem comp_alloc {op : Op} {t s : Nat} {z : List SV} (h : comp P op = some (.alloc t s z)) : ∃ b, op = .alloc t ∧ einfo P t = some (s, b, z) := by
  cases op <;> simp only [comp] at h
  case alloc t' =>
    obtain ⟨⟨s', b, z'⟩, hi, e⟩ := map_some h
    cases e
    exact ⟨b, rfl, hi⟩
  case call c =>
    exfalso
    unfold compCall at h
    repeat' split at h
    all_goals simp [Option.map_eq_some_iff, Option.bind_eq_some_iff] at h
  all_goals exfalso
  all_goals (repeat' split at h)
  all_goals simp [Option.map_eq_some_iff, Option.bind_eq_some_iff] at h
  all_goals (obtain ⟨_, _, h⟩ := h; first | (split at h <;> cases h; done) | (obtain ⟨_, _, _, _, _, _, h⟩ := h; split at h <;> cases h))
theorem compA_float {op : Op} {ao : AOp} (h : compA P op ao = true) (hf : floatOk ao = true) : comp P op = some ao := by
  rcases compA_out h with h | ⟨e, s, z, n, qs, rfl, _⟩
  · exact h
  · cases hf
theorem float_run {o : Oper} {op : AOp} (h1 : comp P o.op = some op) (h : floatOk op = true) (a : Act) :
    ∃ cells : Array Value, (∀ w, (execOp a.eval o).run P w = .ok (.value (flC op w.heap.size)) (w.alloc (.cells cells (flTy op)))) ∧ (∀ φ, Holds φ cells (flSz op) (flRows op)) ∧ cells.size = flCap op * flSz op ∧ (flRows op).length ≤ flCap op ∧ flCap op ≤ maxLen := by
  cases op <;> first | (cases h; done) | skip
  case alloc t s z =>
    obtain ⟨b, ho, hi⟩ := comp_alloc h1
    obtain ⟨i, zv, e1, e2, e3, e4, e5, e6, e7, e8⟩ := einfo_ok hi
    refine ⟨zv.cells, fun w => by simp [execOp, ho, Instr.alloc, zeroValue, typeInfo, e1, e2, newVar, newRow, flC, flTy] <;> rfl, fun φ => Holds.of_flat (vs := zv.cells.toList) (by simp [flRows, flSz, e5]) (by simpa [flRows] using e8 φ) (fun q v hq => by simpa using hq), by simp [flCap, flSz, e7], by simp [flRows, flCap], by simp [flCap, maxLen]⟩
  case mkrow t s z n qs =>
    obtain ⟨b, ty, ps, ho, hu, hi, hn, hp⟩ := comp_mkrow h1
    obtain ⟨i, zv, e1, e2, e3, e4, e5, e6, e7, e8⟩ := einfo_ok hi
    simp only [floatOk, Bool.and_eq_true] at h
    obtain ⟨rs, hrs⟩ := Option.isSome_iff_exists.1 h.2
    have e : qs.map (fun p => (p.1, (fun x => if (otmp x).isEmpty = true then evf [] x else AV.no) p.2)) = qs.map (fun p => (p.1, evf [] p.2)) := List.map_congr_left fun p hp => by
      simp only [List.all_eq_true.1 h.1 p hp, if_true]
    have hz : ∀ φ, SRs φ (List.replicate n z).flatten ((Array.range (n * s)).map (zv.cells[· % s]!)).toList := fun φ => by
      have := zeros_flat (e8 φ) (by omega) n
      rwa [e7] at this
    have hfill : ∀ φ, ∃ res : Array Value, Instr.fill (fun i => some (i * s, s)) ((Array.range (n * s)).map (zv.cells[· % s]!)) (ps.toList.map fun (i, x) => (i, a.eval x)) = some res ∧ (∀ r ∈ rs, r.length = s) ∧ rs.length = (List.replicate n z).length ∧ SRs φ rs.flatten res.toList := fun φ =>
      fillRows_ok (const_ok (φ := φ)) e6 hp (rs := List.replicate n z) (fun r hr => by rw [List.eq_of_mem_replicate hr, e5]) (hz φ) (by rw [← hrs]; exact congrArg (fun l => afillRows l _ _) e)
    obtain ⟨res, hres, hl, hlen, hs0⟩ := hfill ⟨fun _ => none, fun _ => none⟩
    have hs : ∀ φ, SRs φ rs.flatten res.toList := fun φ => by
      obtain ⟨res', hres', _, _, hs'⟩ := hfill φ
      rw [hres] at hres'
      obtain rfl := Option.some.inj hres'
      exact hs'
    have hsize : res.size = n * s := by
      have := hs0.length
      rw [flat_len hl, hlen] at this
      simpa using this.symm
    have hn2 : n ≤ 16777216 := Nat.le_trans (Nat.le_mul_of_pos_right n e6) hn
    have hmx : n ≤ maxLen := by unfold maxLen; omega
    rw [List.length_replicate] at hlen
    have hfr : flRows (.mkrow t s z n qs) = rs := by simp only [flRows]; rw [hrs]; rfl
    refine ⟨res, fun w => ?_, fun φ => by rw [hfr]; exact Holds.of_flat hl (hs φ) (fun q v hq => by simpa using hq), hsize, by rw [hfr]; exact Nat.le_of_eq hlen, hmx⟩
    have hnot : ¬ (16777216 < n * s) := by omega
    subst e3
    by_cases h0 : n * i.size = 0
    · have hn0 : n = 0 := by rcases Nat.mul_eq_zero.1 h0 with h | h <;> omega
      subst hn0
      have hres' : Instr.fill (fun j => some (j * i.size, i.size)) #[] (ps.toList.map fun (i, x) => (i, a.eval x)) = some res := by simpa [Array.range_zero'] using hres
      simp [execOp, ho, Instr.buildSlice, run_underlying hu, sizeOf, typeInfo, e1, newRow, Array.range_zero', hres', flC, flTy]
    · have hres' : Instr.fill (fun j => some (j * i.size, i.size)) ((Array.range (n * i.size)).map (zv.cells[· % zv.cells.size]!)) (ps.toList.map fun (i, x) => (i, a.eval x)) = some res := by rw [e7]; exact hres
      simp [execOp, ho, Instr.buildSlice, run_underlying hu, sizeOf, typeInfo, zeroValue, e1, e2, hnot, h0, newRow, hres', flC, flTy]
theorem float_vr {op : AOp} (h : floatOk op = true) {φ : Phi} {b r : Nat} (hb : φ b = some ⟨r, 0, flCap op, flSz op⟩) (hm : flCap op ≤ maxLen) : VR φ (.s (flA op b)) (flC op r) := by
  cases op <;> first | (cases h; done) | skip
  case alloc => exact ⟨_, rfl, _, hb, by simp [Place.at]⟩
  case mkrow => exact ⟨_, _, _, rfl, Nat.le_refl _, Nat.le_refl _, hm, hb, .inr ⟨by simp [Place.at], by simp [flCap]⟩⟩
theorem Rel.adopt {φ : Phi} {base : Nat} {H : AHeap} {w : World} (h : Rel φ base H w) {r : Nat} {cells : Array Value} {sz ty cap : Nat} {rows : List (List SV)} (hw : w.heap[r]? = some (.cells cells ty (0, 0))) (hb : base ≤ r) (hm : ¬ Mine φ H r) (hfz : φ.fz r = none)
    (hrows : Holds φ cells sz rows) (hsz : cells.size = cap * sz) (hcap : rows.length ≤ cap) (hmx : cap ≤ maxLen) :
    Rel (setPlace φ H.nx ⟨r, 0, cap, sz⟩) base (H.push ⟨sz, ty, rows⟩) w ∧ ∀ q, Mine (setPlace φ H.nx ⟨r, 0, cap, sz⟩) (H.push ⟨sz, ty, rows⟩) q → q = r ∨ Mine φ H q := by
  have he : Ext φ (setPlace φ H.nx ⟨r, 0, cap, sz⟩) := ext_setPlace (h.new H.nx (Nat.le_refl _)).2
  have mine : ∀ q, Mine (setPlace φ H.nx ⟨r, 0, cap, sz⟩) (H.push ⟨sz, ty, rows⟩) q → q = r ∨ Mine φ H q := fun q hq => by
    obtain ⟨b, k, p, h1, h3, h2, rfl⟩ := hq
    simp only [AHeap.push] at h1
    rcases setPlace_look h3 with ⟨e1, e2⟩ | ⟨e1, e2⟩
    · exact .inl (by rw [e2])
    · rw [if_neg e1] at h1
      exact .inr ⟨b, k, p, h1, e2, h2, rfl⟩
  refine ⟨⟨fun b k hb' => ?_, fun b b' k k' p p' h1 h2 hp hp' o1 o2 e => ?_, fun b hb' => ?_, h.base, fun q o hq => ?_, nofull rfl⟩, mine⟩
  · simp only [AHeap.push] at hb'
    split at hb'
    · subst_vars
      obtain rfl := Option.some.inj hb'
      refine ⟨_, setPlace_same, ⟨rfl, fun i r' hr => ?_, .inr ⟨rfl, hb, hcap, hmx, cells, hw, hsz⟩⟩⟩
      obtain ⟨hl, hc⟩ := hrows i r' hr
      refine ⟨hl, fun j x hx => ?_⟩
      obtain ⟨v, hv, hs⟩ := hc j x hx
      refine ⟨v, ?_, hs.ext he⟩
      simp only [Place.at, Nat.zero_add]
      rw [cell_of_row w _ _ _ _ _ hw]
      exact hv
    · obtain ⟨p, hp, ok⟩ := h.blk b k hb'
      exact ⟨p, he.pl b p hp, ok.move he (fun _ => rfl)⟩
  · simp only [AHeap.push] at h1 h2
    rcases setPlace_look hp with ⟨e1, e2⟩ | ⟨e1, e2⟩ <;> rcases setPlace_look hp' with ⟨e3, e4⟩ | ⟨e3, e4⟩
    · rw [e1, e3]
    · rw [if_neg e3] at h2
      exact (hm ⟨b', k', p', h2, e4, o2, by rw [← e, e2]⟩).elim
    · rw [if_neg e1] at h1
      exact (hm ⟨b, k, p, h1, e2, o1, by rw [e, e4]⟩).elim
    · rw [if_neg e1] at h1
      rw [if_neg e3] at h2
      exact h.inj b b' k k' p p' h1 h2 e2 e4 o1 o2 e
  · simp only [AHeap.push] at hb'
    have := h.new b (by omega)
    refine ⟨?_, ?_⟩
    · simp only [AHeap.push]; rw [if_neg (by omega)]; exact this.1
    · rw [setPlace_none (by omega)]; exact this.2
  · have hq' : φ.fz q = some o := hq
    refine ⟨(h.fz q o hq).1, fun hmq => ?_⟩
    rcases mine q hmq with rfl | hmq
    · have : some o = none := hq'.symm.trans hfz
      cases this
    · exact (h.fz q o hq).2 hmq
end
end Go.Proofs.YtoeieoapnhhaeaaGreat.Den
namespace Go.Proofs.YtoeieoapnhhaeaaGreat.Den
open Go.RowKit
set_option linter.unusedVariables false
set_option linter.unusedSimpArgs false
section
variable {P : Program} {N : Nat} {ops : Array Oper}
def AbsOk (a : AOper) (st : St) : Prop :=
  guarded a.guard st.fr (∀ d, a.dst = some d → fget st.fr d = .tup []) (∃ v, xop a.op (evf st.fr) st.H = some (v, st.H) ∧ ∀ d, a.dst = some d → fget st.fr d = v)
def On (l : Array Bool) (i : Nat) : Prop := l.getD i false = true
def Bad (l : Array Bool) (done rest : List Item) (t : Nat) : Prop := (∃ x ∈ done, ¬ On l x.1 ∧ x.2.2.dst = some t) ∨ (∃ x ∈ rest, On l x.1 ∧ x.2.2.dst = some t)
structure Early (φ : Phi) (H : AHeap) (w0 w : World) (a : Act) (x : Item) (r : Nat) : Prop where
  cells : ∃ cells, w.heap[r]? = some (.cells cells (flTy x.2.2.op) (0, 0)) ∧ (∀ φ, Holds φ cells (flSz x.2.2.op) (flRows x.2.2.op)) ∧ cells.size = flCap x.2.2.op * flSz x.2.2.op ∧ (flRows x.2.2.op).length ≤ flCap x.2.2.op ∧ flCap x.2.2.op ≤ maxLen
  val : ∀ d, x.2.2.dst = some d → a.tmps.getD d undef = flC x.2.2.op r
  new : w0.heap.size ≤ r
  notMine : ¬ Mine φ H r
  notFz : φ.fz r = none
structure Inv (P : Program) (N : Nat) (ops : Array Oper) (az : List Item) (K : St → Prop) (φ0 : Phi) (base : Nat) (H0 : AHeap) (w0 : World) (l : Array Bool) (a : Act) (w : World) (done rest : List Item) (st : St) (φ : Phi) (R : Nat → Nat) : Prop where
  b0 : base ≤ w0.heap.size
  split : az = done ++ rest
  size : l.size = ops.size
  closed : Closed ops (On l)
  wp : opsWp P (rest.map (·.2.2)) K st
  hv : ∀ x ∈ done, x.2.1 ≠ .light → On l x.1
  early : ∀ x ∈ rest, On l x.1 → x.2.1 = .float
  goes : Goes φ0 base H0 w0 φ st.H w
  sz : a.tmps.size = N
  df : a.defers = []
  fr : ∀ t, ¬ Bad l done rest t → VR φ (fget st.fr t) (a.tmps.getD t undef)
  pend : ∀ x ∈ done, ¬ On l x.1 → AbsOk x.2.2 st
  fl : ∀ x ∈ rest, On l x.1 → Early φ st.H w0 w a x (R x.1)
  fld : ∀ x ∈ rest, ∀ y ∈ rest, On l x.1 → On l y.1 → R x.1 = R y.1 → x.1 = y.1
theorem fget_put_ne {d : Option Nat} {t : Nat} {v : AV} {f : Fr} (h : d ≠ some t) : fget (fput d v f) t = fget f t := by
  cases d with
  | none => rfl
  | some u =>
    show (if u = t then v else fget f t) = _
    rw [if_neg (fun e => h (by rw [e]))]
theorem fget_put_same {t : Nat} {v : AV} {f : Fr} : fget (fput (some t) v f) t = v := if_pos rfl
theorem tmps_of {op : AOp} {x : Opd} (h : x ∈ op.opds) : ∀ t ∈ otmp x, t ∈ op.tmps := fun t ht => List.mem_flatMap.2 ⟨x, h, ht⟩
theorem guarded_congr {g : Option (Nat × Bool)} {f f' : Fr} {p q p' q' : Prop} (hs : ∀ t ∈ gslot g, fget f' t = fget f t) (hp : p → p') (hq : q → q') (h : guarded g f p q) : guarded g f' p' q' := by
  cases g with
  | none => exact hq h
  | some x =>
    obtain ⟨t, want⟩ := x
    have e := hs t (by simp [gslot])
    simp only [guarded] at h ⊢
    rw [e]
    rcases onG_out h with ⟨b, hb, h⟩ | ⟨hb, h⟩
    · rw [hb, onG_b]
      split at h
      · rw [if_pos ‹_›]; exact hq h
      · rw [if_neg ‹_›]; exact hp h
    · rw [hb, onG_u]; exact hp h
theorem AbsOk.put {a : AOper} {st : St} (h : AbsOk a st) {d : Option Nat} {v : AV} {H' : AHeap} (hr : ∀ t, d = some t → t ∉ a.reads ∧ a.dst ≠ some t)
    (hx : ∀ u, xop a.op (evf st.fr) st.H = some (u, st.H) → xop a.op (evf st.fr) H' = some (u, H')) : AbsOk a ⟨fput d v st.fr, H'⟩ := by
  have hg : ∀ t, t ∈ a.reads → fget (fput d v st.fr) t = fget st.fr t := fun t ht => fget_put_ne (fun e => (hr t e).1 ht)
  have hd : ∀ t, a.dst = some t → fget (fput d v st.fr) t = fget st.fr t := fun t ht => fget_put_ne (fun e => (hr t e).2 ht)
  refine guarded_congr (fun t ht => hg t (List.mem_append_left _ ht)) (fun h t ht => ?_) (fun ⟨u, hu, h⟩ => ⟨u, ?_, fun t ht => ?_⟩) h
  · show fget (fput d v st.fr) t = _
    rw [hd t ht]; exact h t ht
  · show xop a.op (evf (fput d v st.fr)) H' = _
    rw [xop_congr (e' := evf st.fr) (fun o ho => evf_congr fun t ht => hg t (List.mem_append_right _ (tmps_of ho t ht)))]
    exact hx u hu
  · show fget (fput d v st.fr) t = _
    rw [hd t ht]; exact h t ht
theorem light_any {op : AOp} (h : op.pure = true ∨ op.reading = true) {e : Opd → AV} {H H1 : AHeap} {u : AV} (hx : xop op e H = some (u, H1)) {H2 : AHeap} (hg : ∀ b k, H.get b = some k → H2.get b = some k) : xop op e H2 = some (u, H2) := by
  rcases h with h | h
  · exact (pure_any h hx).2 H2
  · exact (reading_ext h hx).2 H2 hg
theorem light_step {a : AOper} {st : St} {K : St → Prop} (hl : a.op.pure = true ∨ a.op.reading = true) (hd : ∀ d, a.dst = some d → d ∉ a.reads) (h : operWp P a st K) : ∃ v, K ⟨fput a.dst v st.fr, st.H⟩ ∧ AbsOk a ⟨fput a.dst v st.fr, st.H⟩ := by
  have same : ∀ v t, t ∈ a.reads → fget (fput a.dst v st.fr) t = fget st.fr t := fun v t ht => fget_put_ne (fun e => hd t e ht)
  have congr : ∀ v, xop a.op (evf (fput a.dst v st.fr)) st.H = xop a.op (evf st.fr) st.H := fun v => xop_congr (fun o ho => evf_congr fun t ht => same v t (List.mem_append_right _ (tmps_of ho t ht)))
  have yes : opWp P a.op (evf st.fr) st.H (fun v H' => chks (fput a.dst v st.fr) H' a.chk ∧ K ⟨fput a.dst v st.fr, H'⟩) → ∃ v, K ⟨fput a.dst v st.fr, st.H⟩ ∧ xop a.op (evf st.fr) st.H = some (v, st.H) := fun h => by
    obtain ⟨v, H', hx, hk⟩ := opWp_out (by cases hop : a.op <;> rw [hop] at hl <;> first | rfl | simp [AOp.pure, AOp.reading] at hl) h
    have : H' = st.H := by rcases hl with hl | hl; exact (pure_any hl hx).1; exact (reading_ext hl hx).1
    subst this
    exact ⟨v, hk.2, hx⟩
  have dstv : ∀ (v : AV) t, a.dst = some t → fget (fput a.dst v st.fr) t = v := fun v t ht => by rw [ht]; exact fget_put_same
  unfold operWp guarded at h
  cases hg : a.guard with
  | none =>
    rw [hg] at h
    obtain ⟨v, hk, hx⟩ := yes h
    exact ⟨v, hk, by unfold AbsOk guarded; rw [hg]; exact ⟨v, by rw [congr]; exact hx, dstv v⟩⟩
  | some g =>
    obtain ⟨t, want⟩ := g
    rw [hg] at h
    have ht : t ∈ a.reads := List.mem_append_left _ (by rw [hg]; simp [gslot])
    rcases onG_out h with ⟨b, hb, h⟩ | ⟨hb, h⟩
    · split at h
      · rename_i hbw
        obtain ⟨v, hk, hx⟩ := yes h
        refine ⟨v, hk, ?_⟩
        unfold AbsOk guarded
        rw [hg]
        show onG (fget (fput a.dst v st.fr) t) _ _
        rw [same v t ht, hb, onG_b, if_pos hbw]
        exact ⟨v, by rw [congr]; exact hx, dstv v⟩
      · rename_i hbw
        refine ⟨.tup [], h, ?_⟩
        unfold AbsOk guarded
        rw [hg]
        show onG (fget (fput a.dst (.tup []) st.fr) t) _ _
        rw [same (.tup []) t ht, hb, onG_b, if_neg hbw]
        exact dstv (.tup [])
    · refine ⟨.tup [], h, ?_⟩
      unfold AbsOk guarded
      rw [hg]
      show onG (fget (fput a.dst (.tup []) st.fr) t) _ _
      rw [same (.tup []) t ht, hb, onG_u]
      exact dstv (.tup [])
theorem push_get {H : AHeap} {φ : Phi} {base : Nat} {w : World} (hr : Rel φ base H w) {k0 : Blk} : ∀ b k, H.get b = some k → (H.push k0).get b = some k := fun b k hb => by
  have := hr.get_lt hb
  show (if b = H.nx then some k0 else H.get b) = some k
  rw [if_neg (by omega)]
  exact hb
structure PairOk (M : List Nat) (x y : Item) : Prop where
  ord : y.2.1 = .float ∨ x.2.1 = .light ∨ (M.getD y.1 0).testBit x.1 = true
  rd : ∀ d, x.2.2.dst = some d → (d ∈ y.2.2.reads ∨ y.2.2.dst = some d) → (M.getD y.1 0).testBit x.1 = true
  wr : ∀ d, y.2.2.dst = some d → (d ∈ x.2.2.reads ∨ x.2.2.dst = some d) → y.2.1 = .heavy ∧ (M.getD y.1 0).testBit x.1 = true
  chk : y.2.1 = .heavy → y.2.2.op.isMov = false → x.2.2.op.reading = true → x.2.1 = .light → (M.getD y.1 0).testBit x.1 = true ∨ ∃ d, x.2.2.dst = some d ∧ (x.2.2.op, d, x.2.2.guard) ∈ y.2.2.chk
theorem pair_of {M : List Nat} {x y : Item} (h : pairOk M x y = true) : PairOk M x y := by
  unfold pairOk at h
  simp only [Bool.and_eq_true] at h
  obtain ⟨⟨⟨h1, h2⟩, h3⟩, h4⟩ := h
  refine ⟨?_, fun d hd hr => ?_, fun d hd hr => ?_, fun a b c e => ?_⟩
  · simp only [Bool.or_eq_true, beq_iff_eq] at h1
    rcases h1 with (h1 | h1) | h1
    · exact .inl h1
    · exact .inr (.inl h1)
    · exact .inr (.inr h1)
  · rw [hd] at h2
    simp only [Bool.or_eq_true, Bool.not_eq_true', Bool.or_eq_false_iff] at h2
    rcases h2 with ⟨h2, h5⟩ | h2
    · rcases hr with hr | hr
      · rw [List.contains_iff_mem.2 hr] at h2; cases h2
      · rw [hr] at h5; simp at h5
    · exact h2
  · rw [hd] at h3
    simp only [Bool.or_eq_true, Bool.not_eq_true', Bool.or_eq_false_iff, Bool.and_eq_true, beq_iff_eq] at h3
    rcases h3 with ⟨h3, h5⟩ | h3
    · rcases hr with hr | hr
      · rw [List.contains_iff_mem.2 hr] at h3; cases h3
      · rw [hr] at h5; simp at h5
    · exact h3
  · simp only [Bool.or_eq_true, Bool.not_eq_true', Bool.and_eq_false_imp, Bool.and_eq_true, beq_iff_eq] at h4
    rcases h4 with (h4 | h4) | h4
    · have := h4 ⟨⟨a, b⟩, c⟩
      rw [e] at this
      simp at this
    · exact .inl h4
    · cases hd : x.2.2.dst with
      | none => rw [hd] at h4; cases h4
      | some d => rw [hd] at h4; exact .inr ⟨d, rfl, List.contains_iff_mem.1 h4⟩
theorem pairs_of {M : List Nat} : ∀ {l : List Item}, pairsOk M l = true → l.Pairwise (PairOk M)
  | [], _ => .nil
  | x :: r, h => by
    simp only [pairsOk, Bool.and_eq_true] at h
    exact .cons (fun y hy => pair_of (List.all_eq_true.1 h.1 y hy)) (pairs_of h.2)
variable {az : List Item} {K : St → Prop} {φ0 : Phi} {base : Nat} {H0 : AHeap} {w0 : World} {M : List Nat}
structure Ctx (P : Program) (N : Nat) (ops : Array Oper) (az : List Item) (M : List Nat) : Prop where
  len : az.length = ops.size
  nodup : (az.map (·.1)).Nodup
  comp : ∀ x ∈ az, ∃ o, ops[x.1]? = some o ∧ compOper P N ops o x.2.2 = true
  item : ∀ x ∈ az, itemOk x = true
  pairs : az.Pairwise (PairOk M)
  mask : MaskOk ops M
  full : ∀ i, i < ops.size → ∃ m, M[i]? = some m
  all : ∀ i, i < ops.size → ∃ x ∈ az, x.1 = i
theorem Ctx.light (c : Ctx P N ops az M) {x : Item} (hx : x ∈ az) (hl : x.2.1 = .light) : (x.2.2.op.pure = true ∨ x.2.2.op.reading = true) ∧ ∀ d, x.2.2.dst = some d → d ∉ x.2.2.reads := by
  have h := c.item x hx
  unfold itemOk at h
  rw [hl] at h
  simp only [Bool.and_eq_true, Bool.or_eq_true] at h
  refine ⟨h.1.1, fun d hd hm => ?_⟩
  have h2 := h.2
  rw [hd] at h2
  simp only [Bool.not_eq_true'] at h2
  rw [List.contains_iff_mem.2 hm] at h2
  cases h2
theorem Ctx.float (c : Ctx P N ops az M) {x : Item} (hx : x ∈ az) (hl : x.2.1 = .float) : floatOk x.2.2.op = true ∧ x.2.2.guard = none := by
  have h := c.item x hx
  unfold itemOk at h
  rw [hl] at h
  simp only [Bool.and_eq_true] at h
  exact ⟨h.1.1, by simpa using h.1.2⟩
theorem Ctx.pre (c : Ctx P N ops az M) {l : Array Bool} (hcl : Closed ops (On l)) {x : Item} {o : Oper} (ho : ops[x.1]? = some o) (hp : ∀ j ∈ dpre o, On l j) {j : Nat} (hb : (M.getD x.1 0).testBit j = true) : On l j := by
  obtain ⟨m, hm⟩ := c.full x.1 (Array.getElem?_eq_some_iff.1 ho).1
  refine c.mask x.1 m o hm ho (On l) hcl hp j ?_
  rwa [List.getD_eq_getElem?_getD, hm] at hb
theorem advance (c : Ctx P N ops az M) {l : Array Bool} {a : Act} {w : World} {R : Nat → Nat} : ∀ (rest done : List Item) (st : St) (φ : Phi), Inv P N ops az K φ0 base H0 w0 l a w done rest st φ R →
    ∃ done' rest' st' φ', Inv P N ops az K φ0 base H0 w0 l a w done' rest' st' φ' R ∧ (rest' = [] ∨ ∃ x r, rest' = x :: r ∧ x.2.1 ≠ .light ∧ ¬ On l x.1)
  | [], done, st, φ, h => ⟨done, [], st, φ, h, .inl rfl⟩
  | x :: rest, done, st, φ, h => by
    have hxa : x ∈ az := by rw [h.split]; simp
    have hpw : ∀ y ∈ done, PairOk M y x := fun y hy => by
      have := c.pairs
      rw [h.split] at this
      exact (List.pairwise_append.1 this).2.2 y hy x (List.mem_cons_self ..)
    have hnd : ∀ y ∈ rest, y.1 ≠ x.1 := fun y hy e => by
      have := c.nodup
      rw [h.split, List.map_append, List.map_cons] at this
      have := (List.nodup_append.1 this).2.1
      exact (List.nodup_cons.1 this).1 (e ▸ List.mem_map.2 ⟨y, hy, rfl⟩)
    by_cases hl : x.2.1 = .light
    ·
      have hoff : ¬ On l x.1 := fun hon => by have := h.early x (List.mem_cons_self ..) hon; rw [hl] at this; cases this
      obtain ⟨hkind, hself⟩ := c.light hxa hl
      obtain ⟨v, hk, hab⟩ := light_step hkind hself h.wp
      refine advance c rest (done ++ [x]) ⟨fput x.2.2.dst v st.fr, st.H⟩ φ ⟨h.b0, by rw [h.split]; simp, h.size, h.closed, hk, fun y hy hne => ?_, fun y hy => h.early y (List.mem_cons_of_mem _ hy), h.goes, h.sz, h.df, fun t ht => ?_, fun y hy hno => ?_, fun y hy => h.fl y (List.mem_cons_of_mem _ hy), fun y hy z hz => h.fld y (List.mem_cons_of_mem _ hy) z (List.mem_cons_of_mem _ hz)⟩
      · rcases List.mem_append.1 hy with hy | hy
        · exact h.hv y hy hne
        · simp at hy; subst hy; exact (hne hl).elim
      · have hne : x.2.2.dst ≠ some t := fun e => ht (.inl ⟨x, by simp, hoff, e⟩)
        show VR φ (fget (fput x.2.2.dst v st.fr) t) _
        rw [fget_put_ne hne]
        refine h.fr t (fun hb => ht ?_)
        rcases hb with ⟨y, hy, h1, h2⟩ | ⟨y, hy, h1, h2⟩
        · exact .inl ⟨y, List.mem_append_left _ hy, h1, h2⟩
        · rcases List.mem_cons.1 hy with rfl | hy
          · exact (hoff h1).elim
          · exact .inr ⟨y, hy, h1, h2⟩
      · rcases List.mem_append.1 hy with hy | hy
        · refine (h.pend y hy hno).put (fun t ht => ?_) (fun u hu => hu)
          have hp := (hpw y hy).wr t ht
          refine ⟨fun hm => ?_, fun hm => ?_⟩
          · have := (hp (.inl hm)).1; rw [hl] at this; cases this
          · have := (hp (.inr hm)).1; rw [hl] at this; cases this
        · simp at hy; subst hy; exact hab
    · by_cases hon : On l x.1
      ·
        have hfl := h.early x (List.mem_cons_self ..) hon
        obtain ⟨hfo, hgn⟩ := c.float hxa hfl
        have he := h.fl x (List.mem_cons_self ..) hon
        obtain ⟨cells, e1, e2, e3, e4, e5⟩ := he.cells
        obtain ⟨hrel, hmine⟩ := h.goes.rel.adopt (r := R x.1) (cap := flCap x.2.2.op) e1 (Nat.le_trans h.b0 he.new) he.notMine he.notFz (e2 φ) e3 e4 e5
        have hx := float_xop hfo st.fr st.H
        have hwp := h.wp
        simp only [List.map_cons, opsWp] at hwp
        unfold operWp guarded at hwp
        rw [hgn] at hwp
        obtain ⟨v, H', hx', hk⟩ := opWp_out (by cases hop : x.2.2.op <;> rw [hop] at hfo <;> first | rfl | cases hfo) hwp
        rw [hx] at hx'
        simp only [Option.some.injEq, Prod.mk.injEq] at hx'
        obtain ⟨rfl, rfl⟩ := hx'
        have hext : Ext φ (setPlace φ st.H.nx ⟨R x.1, 0, flCap x.2.2.op, flSz x.2.2.op⟩) := ext_setPlace (h.goes.rel.new st.H.nx (Nat.le_refl _)).2
        refine advance c rest (done ++ [x]) _ _ ⟨h.b0, by rw [h.split]; simp, h.size, h.closed, hk.2, fun y hy hne => ?_, fun y hy => h.early y (List.mem_cons_of_mem _ hy), ⟨hrel, Nat.le_trans h.goes.nx (Nat.le_succ _), h.goes.ext.trans hext, h.goes.below, h.goes.kept, fun r hr => ?_, h.goes.fzn⟩, h.sz, h.df, fun t ht => ?_, fun y hy hno => ?_, fun y hy hony => ?_, fun y hy z hz => h.fld y (List.mem_cons_of_mem _ hy) z (List.mem_cons_of_mem _ hz)⟩
        · rcases List.mem_append.1 hy with hy | hy
          · exact h.hv y hy hne
          · simp at hy; subst hy; exact hon
        · rcases hmine r hr with rfl | hr
          · exact .inl he.new
          · exact h.goes.mine r hr
        · by_cases hd : x.2.2.dst = some t
          · show VR _ (fget (fput x.2.2.dst _ st.fr) t) _
            rw [hd, fget_put_same, he.val t hd]
            exact float_vr hfo (if_pos rfl) e5
          · show VR _ (fget (fput x.2.2.dst _ st.fr) t) _
            rw [fget_put_ne hd]
            refine (h.fr t (fun hb => ht ?_)).ext hext
            rcases hb with ⟨y, hy, h1, h2⟩ | ⟨y, hy, h1, h2⟩
            · exact .inl ⟨y, List.mem_append_left _ hy, h1, h2⟩
            · rcases List.mem_cons.1 hy with rfl | hy
              · exact (hd h2).elim
              · exact .inr ⟨y, hy, h1, h2⟩
        · rcases List.mem_append.1 hy with hy | hy
          · have hyl : y.2.1 = .light := Classical.byContradiction fun hne => hno (h.hv y hy hne)
            have hya : y ∈ az := by rw [h.split]; exact List.mem_append_left _ hy
            refine (h.pend y hy hno).put (fun t ht => ?_) (fun u hu => light_any (c.light hya hyl).1 hu (push_get h.goes.rel))
            have hp := (hpw y hy).wr t ht
            refine ⟨fun hm => ?_, fun hm => ?_⟩
            · have := (hp (.inl hm)).1; rw [hfl] at this; cases this
            · have := (hp (.inr hm)).1; rw [hfl] at this; cases this
          · simp at hy; subst hy; exact (hno hon).elim
        · have hey := h.fl y (List.mem_cons_of_mem _ hy) hony
          refine ⟨hey.cells, hey.val, hey.new, fun hm => ?_, hey.notFz⟩
          rcases hmine _ hm with e | hm
          · exact hnd y hy (h.fld y (List.mem_cons_of_mem _ hy) x (List.mem_cons_self ..) hony hon e)
          · exact hey.notMine hm
      · exact ⟨done, x :: rest, st, φ, h, .inr ⟨x, rest, rfl, hl, hon⟩⟩
theorem on_set {l : Array Bool} {i j : Nat} (hi : i < l.size) : On (l.setIfInBounds i true) j ↔ j = i ∨ On l j := by
  unfold On
  rw [Array.getD_eq_getD_getElem?, Array.getElem?_setIfInBounds, Array.getD_eq_getD_getElem?]
  by_cases h : i = j
  · subst h
    simp [hi]
  · rw [if_neg h]
    constructor
    · exact .inr
    · rintro (e | e)
      · exact (h e.symm).elim
      · exact e
theorem evs_good {φ : Phi} {st : St} {a : Act} {B : Nat → Prop} (hf : ∀ t, ¬ B t → VR φ (fget st.fr t) (a.tmps.getD t undef)) {op : AOp} (hop : ∀ t ∈ op.tmps, ¬ B t) :
    ∃ ev : Opd → AV, Evs φ ev a.eval ∧ ∀ x ∈ op.opds, ev x = evf st.fr x := by
  classical
  refine ⟨fun x => if ∃ t ∈ otmp x, B t then .no else evf st.fr x, fun x y hy => ?_, fun x hx => ?_⟩
  · show VR φ (if ∃ t ∈ otmp y, B t then .no else evf st.fr y) _
    split
    · exact VR_no
    · rename_i hno
      unfold opd at hy
      split at hy
      · obtain rfl := (Option.some.inj hy).symm
        exact hf _ (fun hb => hno ⟨_, by simp [otmp], hb⟩)
      · cases hs : svs (Array.toList _) with
        | none => rw [hs] at hy; cases hy
        | some l => rw [hs] at hy; obtain rfl := (Option.some.inj hy).symm; exact ⟨_, rfl, svs_ok hs⟩
      · cases hs : sv _ with
        | none => rw [hs] at hy; cases hy
        | some l => rw [hs] at hy; obtain rfl := (Option.some.inj hy).symm; exact sv_ok (φ := φ) hs
      · obtain rfl := (Option.some.inj hy).symm; exact ⟨#[], rfl, .nil⟩
      · cases hy
  · exact if_neg fun ⟨t, ht, hb⟩ => hop t (tmps_of hx t ht) hb
theorem wanted_good {φ : Phi} {st : St} {a : Act} {o : Oper} {ao : AOper} (hs : ∀ t ∈ gslot ao.guard, VR φ (fget st.fr t) (a.tmps.getD t undef)) (hc : (match o.guard, ao.guard with
   | none, none => true
   | some (j, want), some (t, want') => (match ops[j]? with | some oj => oj.dst == some t | none => false) && want == want'
   | _, _ => false) = true) {p q : Prop} (hg : guarded ao.guard st.fr p q) : (Region.wanted o (yielded ops a.tmps) = true ∧ q) ∨ (Region.wanted o (yielded ops a.tmps) = false ∧ p) := by
  cases hgd : ao.guard with
  | none =>
    have hf : FR φ a.tmps.size [] { a with defers := [] } := ⟨rfl, rfl, fun t => VR_no⟩
    exact wanted_of (a := { a with defers := [] }) hf (ao := ao) hc (by rw [hgd] at hg ⊢; exact hg)
  | some g =>
    obtain ⟨t, want⟩ := g
    have hf : FR φ a.tmps.size [(t, fget st.fr t)] { a with defers := [] } := ⟨rfl, rfl, fun u => by
      unfold fget
      split
      · subst_vars; exact hs _ (by rw [hgd]; simp [gslot])
      · exact VR_no⟩
    refine wanted_of (a := { a with defers := [] }) hf (ao := ao) hc ?_
    rw [hgd] at hg ⊢
    simp only [guarded, fget, if_true] at hg ⊢
    exact hg
theorem put_get {a : Act} {d : Option Nat} {v : Value} (hd : (match d with | some t => decide (t < N) | none => true) = true) (hs : a.tmps.size = N) (t : Nat) : (a.put d v).tmps.getD t undef = if d = some t then v else a.tmps.getD t undef := by
  cases d with
  | none => simp [Act.put]
  | some u =>
    have hu : u < a.tmps.size := by rw [hs]; exact of_decide_eq_true hd
    simp only [Act.put, Array.getD_eq_getD_getElem?, Array.getElem?_setIfInBounds]
    by_cases h : u = t
    · subst h; simp [hu]
    · simp [h]
theorem put_size {a : Act} {d : Option Nat} {v : Value} : (a.put d v).tmps.size = a.tmps.size := by cases d <;> simp [Act.put]
theorem put_defers {a : Act} {d : Option Nat} {v : Value} : (a.put d v).defers = a.defers := by cases d <;> rfl
theorem Ctx.closed_set (c : Ctx P N ops az M) {l : Array Bool} (hcl : Closed ops (On l)) {i : Nat} {o : Oper} (hi : i < l.size) (ho : ops[i]? = some o) (hp : ∀ j ∈ dpre o, On l j) : Closed ops (On (l.setIfInBounds i true)) := by
  intro k ok hok hk j hj
  rw [on_set hi] at hk ⊢
  rcases hk with rfl | hk
  · rw [ho] at hok
    obtain rfl := Option.some.inj hok
    exact .inr (hp j hj)
  · exact .inr (hcl k ok hok hk j hj)
theorem nodup_inj : ∀ {l : List Item}, (l.map (·.1)).Nodup → ∀ x ∈ l, ∀ y ∈ l, x.1 = y.1 → x = y
  | [], _, x, hx, _, _, _ => by cases hx
  | z :: l, h, x, hx, y, hy, e => by
    rw [List.map_cons, List.nodup_cons] at h
    rcases List.mem_cons.1 hx with hx1 | hx <;> rcases List.mem_cons.1 hy with hy1 | hy
    · rw [hx1, hy1]
    · exact (h.1 (List.mem_map.2 ⟨y, hy, by rw [← e, hx1]⟩)).elim
    · exact (h.1 (List.mem_map.2 ⟨x, hx, by rw [e, hy1]⟩)).elim
    · exact nodup_inj h.2 x hx y hy e
theorem nodup_apart {l done rest : List Item} (h : (l.map (·.1)).Nodup) (hs : l = done ++ rest) {x : Item} (h1 : x ∈ done) (h2 : x ∈ rest) : False := by
  rw [hs, List.map_append] at h
  exact (List.nodup_append.1 h).2.2 x.1 (List.mem_map.2 ⟨x, h1, rfl⟩) x.1 (List.mem_map.2 ⟨x, h2, rfl⟩) rfl
theorem nodup_head {l done r : List Item} {z : Item} (h : (l.map (·.1)).Nodup) (hs : l = done ++ z :: r) (h2 : z ∈ r) : False := by
  rw [hs, List.map_append, List.map_cons] at h
  exact (List.nodup_cons.1 (List.nodup_append.1 h).2.1).1 (List.mem_map.2 ⟨z, h2, rfl⟩)
theorem tail_pair {M : List Nat} {l done r : List Item} {z x : Item} (h : l.Pairwise (PairOk M)) (hs : l = done ++ z :: r) (hx : x ∈ r) : PairOk M z x := by
  rw [hs] at h
  exact (List.pairwise_cons.1 (List.pairwise_append.1 h).2.1).1 x hx
theorem pairwise_or {M : List Nat} : ∀ {l : List Item}, l.Pairwise (PairOk M) → ∀ {x y : Item}, x ∈ l → y ∈ l → x ≠ y → PairOk M x y ∨ PairOk M y x
  | [], _, x, y, hx, _, _ => by cases hx
  | z :: l, h, x, y, hx, hy, hne => by
    rw [List.pairwise_cons] at h
    rcases List.mem_cons.1 hx with e1 | h1 <;> rcases List.mem_cons.1 hy with e2 | h2
    · exact (hne (e1.trans e2.symm)).elim
    · rw [e1]; exact .inl (h.1 y h2)
    · rw [e2]; exact .inr (h.1 x h1)
    · exact pairwise_or h.2 h1 h2 hne
theorem light_nocall {op : AOp} (h : op.pure = true ∨ op.reading = true) : isCall op = false := by
  cases op <;> first | rfl | simp [AOp.pure, AOp.reading] at h
theorem opWp_of_xop {op : AOp} {ev : Opd → AV} {H H' : AHeap} {v : AV} {K : AV → AHeap → Prop} (hn : isCall op = false) (hx : xop op ev H = some (v, H')) (hk : K v H') : opWp P op ev H K := by
  have : opWp P op ev H K = onX (xop op ev H) K := by cases op <;> first | rfl | cases hn
  rw [this, hx]
  exact hk
theorem goes_alloc {φ : Phi} {base : Nat} {H : AHeap} {w : World} (hr : Rel φ base H w) (o : Obj) : Goes φ base H w φ H (w.alloc o) := by
  have hold : ∀ r, r < w.heap.size → (w.alloc o).heap[r]? = w.heap[r]? := fun r h => Below.heap_alloc w o r h
  refine ⟨⟨fun b k hb => ?_, hr.inj, hr.new, by simp; have := hr.base; omega, fun r q hq => ?_, hr.full⟩, Nat.le_refl _, Ext.refl _, ⟨rfl, rfl, rfl, by simp, fun r h => hold r (by have := hr.base; omega)⟩, fun r h _ => hold r h, fun r hm => .inr hm, fun r q hq => .inl hq⟩
  · obtain ⟨p, hp, ok⟩ := hr.blk b k hb
    exact ⟨p, hp, ok.move (Ext.refl _) (fun hc => hold _ (hr.blk_lt hb hp hc).1)⟩
  · obtain ⟨h1, h2⟩ := hr.fz r q hq
    exact ⟨by rw [hold r (Array.getElem?_eq_some_iff.1 h1).1]; exact h1, h2⟩
theorem chks_mem {f : Fr} {H : AHeap} : ∀ {l : List (AOp × Nat × Option (Nat × Bool))}, chks f H l → ∀ {c}, c ∈ l → chkOne f H c
  | [], _, c, h => by cases h
  | d :: l, h, c, hc => by
    rcases List.mem_cons.1 hc with rfl | hc
    · exact h.1
    · exact chks_mem h.2 hc
theorem AbsOk.of_chk {a : AOper} {st : St} (h : AbsOk a st) {d : Option Nat} {v : AV} {H' : AHeap} (hr : ∀ t, d = some t → t ∉ a.reads ∧ a.dst ≠ some t) {t : Nat} (ht : a.dst = some t) (hc : chkOne (fput d v st.fr) H' (a.op, t, a.guard)) : AbsOk a ⟨fput d v st.fr, H'⟩ := by
  have hg : ∀ t, t ∈ a.reads → fget (fput d v st.fr) t = fget st.fr t := fun t ht => fget_put_ne (fun e => (hr t e).1 ht)
  have hd : fget (fput d v st.fr) t = fget st.fr t := fget_put_ne (fun e => (hr t e).2 ht)
  unfold AbsOk at h ⊢
  unfold chkOne at hc
  simp only at hc ⊢
  cases hgd : a.guard with
  | none =>
    rw [hgd] at hc
    exact ⟨_, hc, fun u hu => by rw [ht] at hu; injection hu with hu; rw [hu]⟩
  | some g =>
    obtain ⟨s, want⟩ := g
    rw [hgd] at hc h
    simp only [guarded] at hc h ⊢
    have hs : fget (fput d v st.fr) s = fget st.fr s := hg s (List.mem_append_left _ (by rw [hgd]; simp [gslot]))
    rw [hs] at hc ⊢
    rcases onG_out h with ⟨b, hb, h⟩ | ⟨hb, h⟩
    · rw [hb, onG_b] at hc ⊢
      split
      · rw [if_pos ‹_›] at hc
        exact ⟨_, hc, fun u hu => by rw [ht] at hu; injection hu with hu; rw [hu]⟩
      · rw [if_neg ‹_›] at h
        exact fun u hu => by
          rw [ht] at hu
          injection hu with hu
          subst hu
          rw [hd]
          exact h t ht
    · rw [hb, onG_u]
      exact fun u hu => by
        rw [ht] at hu
        injection hu with hu
        subst hu
        rw [hd]
        exact h t ht
theorem inv_step (c : Ctx P N ops az M) {l : Array Bool} {a : Act} {w : World} {R : Nat → Nat} {done rest : List Item} {st : St} {φ : Phi} (h : Inv P N ops az K φ0 base H0 w0 l a w done rest st φ R)
    (hstop : rest = [] ∨ ∃ x r, rest = x :: r ∧ x.2.1 ≠ .light ∧ ¬ On l x.1) {i : Nat} {o : Oper} (hoff : ¬ On l i) (ho : ops[i]? = some o) (hp : ∀ j ∈ dpre o, On l j)
    {next : Act → World → Prop} {Q : Exit → Act → World → Prop}
    (hn : ∀ a' w' done' rest' st' φ' R', Inv P N ops az K φ0 base H0 w0 (l.setIfInBounds i true) a' w' done' rest' st' φ' R' → next a' w') : wpOp P ops Q i next a w := by
  have hi : i < l.size := by rw [h.size]; exact (Array.getElem?_eq_some_iff.1 ho).1
  have hcl := c.closed_set h.closed hi ho hp
  obtain ⟨x, hxa, hxi⟩ := c.all i (Array.getElem?_eq_some_iff.1 ho).1
  subst hxi
  obtain ⟨o', ho', hcomp⟩ := c.comp x hxa
  rw [ho] at ho'
  obtain rfl := Option.some.inj ho'
  have hco := hcomp
  unfold compOper at hco
  simp only [Bool.and_eq_true, beq_iff_eq] at hco
  obtain ⟨⟨⟨h1, h2⟩, h3⟩, h4⟩ := hco
  have pre : ∀ {j}, (M.getD x.1 0).testBit j = true → On l j := fun hb => c.pre h.closed ho hp hb
  have hx2 : x ∈ done ∨ x ∈ rest := by rw [h.split] at hxa; exact List.mem_append.1 hxa
  have uniq : ∀ y ∈ az, y.1 = x.1 → y = x := fun y hy e => nodup_inj c.nodup y hy x hxa e
  have inDone : ∀ y ∈ done, y ∈ az := fun y hy => by rw [h.split]; exact List.mem_append_left _ hy
  have inRest : ∀ y ∈ rest, y ∈ az := fun y hy => by rw [h.split]; exact List.mem_append_right _ hy
  have dr : ∀ y ∈ done, ∀ z ∈ rest, PairOk M y z := fun y hy z hz => by
    have := c.pairs
    rw [h.split] at this
    exact (List.pairwise_append.1 this).2.2 y hy z hz
  have pendL : ∀ y ∈ done, ¬ On l y.1 → y.2.1 = .light := fun y hy hno => Classical.byContradiction fun hne => hno (h.hv y hy hne)
  have off' : ∀ {j}, ¬ On (l.setIfInBounds x.1 true) j → ¬ On l j ∧ j ≠ x.1 := fun hj => ⟨fun e => hj ((on_set hi).2 (.inr e)), fun e => hj ((on_set hi).2 (.inl e))⟩
  have hrel := h.goes.rel

  have keep : ∀ {φ' : Phi} {H' : AHeap} {w' : World}, Goes φ base st.H w φ' H' w' → ∀ {a' : Act} {y : Item}, y ∈ rest → On l y.1 → (∀ d, y.2.2.dst = some d → a'.tmps.getD d undef = a.tmps.getD d undef) → Early φ' H' w0 w' a' y (R y.1) := by
    intro φ' H' w' hg a' y hy hon hv
    have he := h.fl y hy hon
    obtain ⟨cells, e1, e2⟩ := he.cells
    have hlt : R y.1 < w.heap.size := (Array.getElem?_eq_some_iff.1 e1).1
    refine ⟨⟨cells, by rw [hg.kept _ hlt he.notMine]; exact e1, e2⟩, fun d hd => by rw [hv d hd]; exact he.val d hd, he.new, fun hm => ?_, ?_⟩
    · rcases hg.mine _ hm with hm | hm
      · omega
      · exact he.notMine hm
    · cases hfz : φ'.fz (R y.1) with
      | none => rfl
      | some q =>
        rcases hg.fzn _ q hfz with h | h | h
        · rw [he.notFz] at h; cases h
        · omega
        · exact (he.notMine h).elim
  unfold wpOp
  simp only [ho]
  rcases hx2 with hxd | hxr
  ·
    have hxl := pendL x hxd hoff
    obtain ⟨hkind, hself⟩ := c.light hxa hxl
    have pair : ∀ y ∈ done, y ≠ x → PairOk M y x ∨ PairOk M x y := fun y hy hne => pairwise_or c.pairs (inDone y hy) hxa hne
    have others : ∀ t, ((∃ y ∈ done, y ≠ x ∧ ¬ On l y.1 ∧ y.2.2.dst = some t) ∨ (∃ y ∈ rest, On l y.1 ∧ y.2.2.dst = some t)) → t ∉ x.2.2.reads ∧ x.2.2.dst ≠ some t := fun t hb => by
      rcases hb with ⟨y, hy, hne, hno, hd⟩ | ⟨y, hy, hon, hd⟩
      · have hcontra : (t ∈ x.2.2.reads ∨ x.2.2.dst = some t) → False := fun hc => by
          rcases pair y hy hne with hp | hp
          · exact hno (pre (hp.rd t hd hc))
          · have := (hp.wr t hd hc).1
            rw [pendL y hy hno] at this
            cases this
        exact ⟨fun e => hcontra (.inl e), fun e => hcontra (.inr e)⟩
      · have hcontra : (t ∈ x.2.2.reads ∨ x.2.2.dst = some t) → False := fun hc => by
          have := ((dr x hxd y hy).wr t hd hc).1
          rw [h.early y hy hon] at this
          cases this
        exact ⟨fun e => hcontra (.inl e), fun e => hcontra (.inr e)⟩
    have good : ∀ t ∈ x.2.2.reads, ¬ Bad l done rest t := fun t ht hb => by
      rcases hb with ⟨y, hy, hno, hd⟩ | ⟨y, hy, hon, hd⟩
      · by_cases hyx : y = x
        · subst hyx; exact hself t hd ht
        · exact (others t (.inl ⟨y, hy, hyx, hno, hd⟩)).1 ht
      · exact (others t (.inr ⟨y, hy, hon, hd⟩)).1 ht
    have fin : ∀ (cv : Value) (φ' : Phi) (w' : World), Goes φ base st.H w φ' st.H w' → (∀ d, x.2.2.dst = some d → VR φ' (fget st.fr d) cv) → next (a.put o.dst cv) w' := fun cv φ' w' hg hv => by
      rw [h2]
      refine hn _ w' done rest st φ' R ⟨h.b0, h.split, by simp [h.size], hcl, h.wp, fun y hy hne => (on_set hi).2 (.inr (h.hv y hy hne)), fun y hy hon => ?_, h.goes.trans hg, by rw [put_size]; exact h.sz, by rw [put_defers]; exact h.df, fun t ht => ?_, fun y hy hno => h.pend y hy (off' hno).1, fun y hy hon => ?_, fun y hy z hz hon hon2 => ?_⟩
      · rcases (on_set hi).1 hon with e | hon
        · have := uniq y (inRest y hy) e
          subst this
          exact (nodup_apart c.nodup h.split hxd hy).elim
        · exact h.early y hy hon
      · rw [put_get h3 h.sz]
        split
        · exact hv t ‹_›
        · rename_i hne
          refine (h.fr t (fun hb => ht ?_)).ext hg.ext
          rcases hb with ⟨y, hy, hno, hd⟩ | ⟨y, hy, hon, hd⟩
          · refine .inl ⟨y, hy, fun hon => ?_, hd⟩
            rcases (on_set hi).1 hon with e | hon
            · have := uniq y (inDone y hy) e
              subst this
              exact hne hd
            · exact hno hon
          · exact .inr ⟨y, hy, (on_set hi).2 (.inr hon), hd⟩
      · have hon0 : On l y.1 := by
          rcases (on_set hi).1 hon with e | hon
          · have := uniq y (inRest y hy) e
            subst this
            exact (nodup_apart c.nodup h.split hxd hy).elim
          · exact hon
        exact keep hg hy hon0 (fun d hd => by
          rw [put_get h3 h.sz, if_neg]
          exact (others d (.inr ⟨y, hy, hon0, hd⟩)).2)
      · have g : ∀ u ∈ rest, On (l.setIfInBounds x.1 true) u.1 → On l u.1 := fun u hu hon => by
          rcases (on_set hi).1 hon with e | hon
          · have := uniq u (inRest u hu) e
            subst this
            exact (nodup_apart c.nodup h.split hxd hu).elim
          · exact hon
        exact h.fld y hy z hz (g y hy hon) (g z hz hon2)
    rcases wanted_good (fun t ht => h.fr t (good t (List.mem_append_left _ ht))) h4 (h.pend x hxd hoff) with ⟨hw, v, hx, hv⟩ | ⟨hw, hv⟩
    · rw [if_pos hw]
      obtain ⟨ev, hev, hcg⟩ := evs_good h.fr (op := x.2.2.op) (fun t ht => good t (List.mem_append_right _ ht))
      refine .inl (op_sound h1 hrel hev (K := fun v' H' => v' = v ∧ H' = st.H) (opWp_of_xop (light_nocall hkind) (by rw [xop_congr hcg]; exact hx) ⟨rfl, rfl⟩) fun v' cv H' φ' w' hk hg hv' => ?_)
      obtain ⟨rfl, rfl⟩ := hk
      exact fin cv φ' w' hg (fun d hd => by rw [hv d hd]; exact hv')
    · rw [if_neg (by rw [hw]; exact Bool.false_ne_true)]
      exact fin undef φ w (Goes.refl hrel) (fun d hd => by rw [hv d hd]; exact vr_undef)
  · rcases hcat : x.2.1 with _ | _ | _
    ·
      exfalso
      rcases hstop with e | ⟨z, r, e, hz1, hz2⟩
      · subst e; cases hxr
      · subst e
        rcases List.mem_cons.1 hxr with rfl | hxr
        · exact hz1 hcat
        · have hp := tail_pair c.pairs h.split hxr
          rcases hp.ord with e | e | e
          · rw [hcat] at e; cases e
          · exact hz1 e
          · exact hz2 (pre e)
    ·
      obtain ⟨hfo, hgn⟩ := c.float hxa hcat
      have hwant : Region.wanted o (yielded ops a.tmps) = true := by
        unfold Region.wanted
        split at h4
        · rename_i e1 e2; rw [e1]
        · rename_i e1 e2; rw [hgn] at e2; cases e2
        · cases h4
      rw [if_pos hwant]
      obtain ⟨cells, hrun, hh1, hh2, hh3, hh4⟩ := float_run (compA_float h1 hfo) hfo a
      refine .inl ?_
      unfold Oper.wp
      rw [hrun w]
      show next (a.put o.dst (flC x.2.2.op w.heap.size)) _
      rw [h2]
      have hga : Goes φ base st.H w φ st.H (w.alloc (.cells cells (flTy x.2.2.op))) := goes_alloc hrel _
      have apart : ∀ y ∈ rest, y ≠ x → y.2.1 = .float → ∀ d, y.2.2.dst = some d → x.2.2.dst ≠ some d := fun y hy hne hfl d hd e => by
        rcases pairwise_or c.pairs (inRest y hy) hxa hne with hp | hp
        · have := (hp.wr d e (.inr hd)).1; rw [hcat] at this; cases this
        · have := (hp.wr d hd (.inr e)).1; rw [hfl] at this; cases this
      have onR : ∀ y ∈ rest, On (l.setIfInBounds x.1 true) y.1 → y = x ∨ (y ≠ x ∧ On l y.1) := fun y hy hon => by
        rcases (on_set hi).1 hon with e | hon
        · exact .inl (uniq y (inRest y hy) e)
        · exact .inr ⟨fun e => hoff (e ▸ hon), hon⟩
      have ltR : ∀ y ∈ rest, On l y.1 → R y.1 < w.heap.size := fun y hy hon => by
        obtain ⟨cells, e1, _⟩ := (h.fl y hy hon).cells
        exact (Array.getElem?_eq_some_iff.1 e1).1
      have neR : ∀ y ∈ rest, y ≠ x → y.1 ≠ x.1 := fun y hy hne e => hne (uniq y (inRest y hy) e)
      refine hn _ _ done rest st φ (fun j => if j = x.1 then w.heap.size else R j) ⟨h.b0, h.split, by simp [h.size], hcl, h.wp, fun y hy hne => (on_set hi).2 (.inr (h.hv y hy hne)), fun y hy hon => ?_, h.goes.trans hga, by rw [put_size]; exact h.sz, by rw [put_defers]; exact h.df, fun t ht => ?_, fun y hy hno => h.pend y hy (off' hno).1, fun y hy hon => ?_, fun y hy z hz hon hon2 e => ?_⟩
      · rcases onR y hy hon with rfl | ⟨_, hon⟩
        · exact hcat
        · exact h.early y hy hon
      · have hne : x.2.2.dst ≠ some t := fun e => ht (.inr ⟨x, hxr, (on_set hi).2 (.inl rfl), e⟩)
        rw [put_get h3 h.sz, if_neg hne]
        refine h.fr t (fun hb => ht ?_)
        rcases hb with ⟨y, hy, hno, hd⟩ | ⟨y, hy, hon, hd⟩
        · refine .inl ⟨y, hy, fun hon => ?_, hd⟩
          rcases (on_set hi).1 hon with e | hon
          · have := uniq y (inDone y hy) e
            subst this
            exact nodup_apart c.nodup h.split hy hxr
          · exact hno hon
        · exact .inr ⟨y, hy, (on_set hi).2 (.inr hon), hd⟩
      · rcases onR y hy hon with rfl | ⟨hne, hon⟩
        · rw [if_pos rfl]
          refine ⟨⟨cells, heap_alloc_new w _, hh1, hh2, hh3, hh4⟩, fun d hd => by rw [put_get h3 h.sz, if_pos hd], h.goes.below.size, fun hm => ?_, ?_⟩
          · obtain ⟨b, k, p, g1, g2, g3, g4⟩ := hm
            have := (hrel.blk_lt g1 g2 g3).1
            omega
          · cases hfz : φ.fz w.heap.size with
            | none => rfl
            | some q =>
              have := (Array.getElem?_eq_some_iff.1 (hrel.fz _ q hfz).1).1
              exact absurd this (Nat.lt_irrefl _)
        · rw [if_neg (neR y hy hne)]
          exact keep hga hy hon (fun d hd => by rw [put_get h3 h.sz, if_neg (apart y hy hne (h.early y hy hon) d hd)])
      · rcases onR y hy hon with ey | ⟨hne, hony⟩ <;> rcases onR z hz hon2 with ez | ⟨hne2, honz⟩
        · rw [ey, ez]
        · simp only [ey, if_true, if_neg (neR z hz hne2)] at e
          have := ltR z hz honz
          omega
        · simp only [ez, if_true, if_neg (neR y hy hne)] at e
          have := ltR y hy hony
          omega
        · simp only [if_neg (neR z hz hne2), if_neg (neR y hy hne)] at e
          exact h.fld y hy z hz hony honz e
    ·
      rcases hstop with e | ⟨z, r, e, hz1, hz2⟩
      · subst e; cases hxr
      subst e
      have hxz : x = z := by
        rcases List.mem_cons.1 hxr with hx | hx
        · exact hx
        · exfalso
          have hp := tail_pair c.pairs h.split hx
          rcases hp.ord with e | e | e
          · rw [hcat] at e; cases e
          · exact hz1 e
          · exact hz2 (pre e)
      subst hxz
      have nr : ∀ y ∈ r, y.1 ≠ x.1 := fun y hy e => by
        have := uniq y (inRest y (List.mem_cons_of_mem _ hy)) e
        subst this
        exact nodup_head c.nodup h.split hy
      have fl : ∀ y ∈ r, On l y.1 → ∀ d, y.2.2.dst = some d → d ∉ x.2.2.reads ∧ x.2.2.dst ≠ some d := fun y hy hon d hd => by
        have hp := tail_pair c.pairs h.split hy
        have hfy := h.early y (List.mem_cons_of_mem _ hy) hon
        exact ⟨fun e => (by have := (hp.wr d hd (.inl e)).1; rw [hfy] at this; cases this), fun e => (by have := (hp.wr d hd (.inr e)).1; rw [hfy] at this; cases this)⟩
      have pn : ∀ y ∈ done, ¬ On l y.1 → ∀ d, y.2.2.dst = some d → d ∉ x.2.2.reads := fun y hy hno d hd e => hno (pre ((dr y hy x (List.mem_cons_self ..)).rd d hd (.inl e)))
      have good : ∀ t ∈ x.2.2.reads, ¬ Bad l done (x :: r) t := fun t ht hb => by
        rcases hb with ⟨y, hy, hno, hd⟩ | ⟨y, hy, hon, hd⟩
        · exact pn y hy hno t hd ht
        · rcases List.mem_cons.1 hy with rfl | hy
          · exact hoff hon
          · exact (fl y hy hon t hd).1 ht

      have fin : ∀ (v : AV) (cv : Value) (H' : AHeap) (φ' : Phi) (w' : World), opsWp P (r.map (·.2.2)) K ⟨fput x.2.2.dst v st.fr, H'⟩ → Goes φ base st.H w φ' H' w' → VR φ' v cv →
          (H' = st.H ∨ (x.2.2.op.isMov = false ∧ chks (fput x.2.2.dst v st.fr) H' x.2.2.chk)) → next (a.put o.dst cv) w' := fun v cv H' φ' w' hk hg hv hch => by
        rw [h2]
        refine hn _ w' (done ++ [x]) r ⟨fput x.2.2.dst v st.fr, H'⟩ φ' R ⟨h.b0, by rw [h.split]; simp, by simp [h.size], hcl, hk, fun y hy hne => ?_, fun y hy hon => ?_, h.goes.trans hg, by rw [put_size]; exact h.sz, by rw [put_defers]; exact h.df, fun t ht => ?_, fun y hy hno => ?_, fun y hy hon => ?_, fun y hy z hz hon hon2 => ?_⟩
        · rcases List.mem_append.1 hy with hy | hy
          · exact (on_set hi).2 (.inr (h.hv y hy hne))
          · simp at hy; subst hy; exact (on_set hi).2 (.inl rfl)
        · rcases (on_set hi).1 hon with e | hon
          · exact (nr y hy e).elim
          · exact h.early y (List.mem_cons_of_mem _ hy) hon
        · rw [put_get h3 h.sz]
          show VR φ' (fget (fput x.2.2.dst v st.fr) t) _
          split
          · rename_i hd
            rw [hd, fget_put_same]
            exact hv
          · rename_i hd
            rw [fget_put_ne hd]
            refine (h.fr t (fun hb => ht ?_)).ext hg.ext
            rcases hb with ⟨y, hy, hno, hd⟩ | ⟨y, hy, hon, hd⟩
            · refine .inl ⟨y, List.mem_append_left _ hy, fun hon => ?_, hd⟩
              rcases (on_set hi).1 hon with e | hon
              · have := uniq y (inDone y hy) e
                subst this
                exact nodup_apart c.nodup h.split hy (List.mem_cons_self ..)
              · exact hno hon
            · rcases List.mem_cons.1 hy with rfl | hy
              · exact (hoff hon).elim
              · exact .inr ⟨y, hy, (on_set hi).2 (.inr hon), hd⟩
        · rcases List.mem_append.1 hy with hy | hy
          · have hno0 := (off' hno).1
            have hyl := pendL y hy hno0
            have hkind := (c.light (inDone y hy) hyl).1
            have hp := dr y hy x (List.mem_cons_self ..)
            have hr : ∀ t, x.2.2.dst = some t → t ∉ y.2.2.reads ∧ y.2.2.dst ≠ some t := fun t ht => ⟨fun e => hno0 (pre (hp.wr t ht (.inl e)).2), fun e => hno0 (pre (hp.wr t ht (.inr e)).2)⟩
            have hab := h.pend y hy hno0
            rcases hch with e | ⟨hmv, hch⟩
            · subst e
              exact hab.put hr (fun u hu => hu)
            · rcases hkind with hkp | hkr
              · exact hab.put hr (fun u hu => (pure_any hkp hu).2 H')
              · rcases hp.chk hcat hmv hkr hyl with hb | ⟨d, hd, hmem⟩
                · exact (hno0 (pre hb)).elim
                · exact AbsOk.of_chk hab hr hd (chks_mem hch hmem)
          · simp at hy; subst hy; exact (hno ((on_set hi).2 (.inl rfl))).elim
        · have hon0 : On l y.1 := by
            rcases (on_set hi).1 hon with e | hon
            · exact (nr y hy e).elim
            · exact hon
          exact keep hg (List.mem_cons_of_mem _ hy) hon0 (fun d hd => by rw [put_get h3 h.sz, if_neg (fl y hy hon0 d hd).2])
        · have g : ∀ u ∈ r, On (l.setIfInBounds x.1 true) u.1 → On l u.1 := fun u hu hon => by
            rcases (on_set hi).1 hon with e | hon
            · exact (nr u hu e).elim
            · exact hon
          exact h.fld y (List.mem_cons_of_mem _ hy) z (List.mem_cons_of_mem _ hz) (g y hy hon) (g z hz hon2)
      have hwp := h.wp
      simp only [List.map_cons, opsWp] at hwp
      unfold operWp at hwp
      rcases wanted_good (fun t ht => h.fr t (good t (List.mem_append_left _ ht))) h4 hwp with ⟨hw, hwp⟩ | ⟨hw, hwp⟩
      · rw [if_pos hw]
        obtain ⟨ev, hev, hcg⟩ := evs_good h.fr (op := x.2.2.op) (fun t ht => good t (List.mem_append_right _ ht))
        have hwp2 := opWp_congr (e' := ev) (fun y hy => (hcg y hy).symm) hwp
        cases hmv : x.2.2.op.isMov
        · exact .inl (op_sound h1 hrel hev hwp2 fun v cv H' φ' w' hk hg hv => fin v cv H' φ' w' hk.2 hg hv (.inr ⟨hmv, hk.1⟩))
        · refine .inl (op_sound h1 hrel hev (K := fun v H' => opsWp P (r.map (·.2.2)) K ⟨fput x.2.2.dst v st.fr, H'⟩ ∧ H' = st.H) ?_ fun v cv H' φ' w' hk hg hv => fin v cv H' φ' w' hk.1 hg hv (.inl hk.2))
          have hpu : x.2.2.op.pure = true := by cases hop : x.2.2.op <;> rw [hop] at hmv <;> first | rfl | cases hmv
          obtain ⟨v, H', hx, hk⟩ := opWp_out (light_nocall (.inl hpu)) hwp2
          have := (pure_any hpu hx).1
          subst this
          exact opWp_of_xop (light_nocall (.inl hpu)) hx ⟨hk.2, rfl⟩
      · rw [if_neg (by rw [hw]; exact Bool.false_ne_true)]
        exact fin (.tup []) undef st.H φ w hwp (Goes.refl hrel) vr_undef (.inl rfl)
theorem count_lt {p q : Nat → Bool} : ∀ {l : List Nat}, (∀ x ∈ l, q x = true → p x = true) → (∃ x ∈ l, p x = true ∧ q x = false) → l.countP q < l.countP p
  | [], _, h => by obtain ⟨x, hx, _⟩ := h; cases hx
  | y :: l, h, hx => by
    have hle : l.countP q ≤ l.countP p := List.countP_mono_left fun x hx => h x (List.mem_cons_of_mem _ hx)
    obtain ⟨x, hx, h1, h2⟩ := hx
    rcases List.mem_cons.1 hx with rfl | hx
    · rw [List.countP_cons, List.countP_cons, if_pos h1, if_neg (by rw [h2]; exact Bool.false_ne_true)]
      omega
    · have hlt := count_lt (l := l) (fun x hx => h x (List.mem_cons_of_mem _ hx)) ⟨x, hx, h1, h2⟩
      rw [List.countP_cons, List.countP_cons]
      have hy := h y (List.mem_cons_self ..)
      by_cases hq : q y = true
      · rw [if_pos hq, if_pos (hy hq)]; omega
      · rw [if_neg hq]; split <;> omega
theorem any_of_inv {ops0 : Array Oper} (c : Ctx P N ops az M) (hz : ops.size = ops0.size) (hback : ∀ (i : Nat) (o : Oper), ops0[i]? = some o → ∀ j ∈ dpre o, j < i) {L0 : Nat → Prop} (hsim : ∀ (i : Nat) (o0 : Oper), ops0[i]? = some o0 → ∃ o : Oper, ops[i]? = some o ∧ (∀ j ∈ dpre o, j ∈ dpre o0 ∨ L0 j)) (hop : ∀ {Q : Exit → Act → World → Prop} {i : Nat} {K : Act → World → Prop} {a : Act} {w : World}, wpOp P ops Q i K a w → wpOp P ops0 Q i K a w) {Q : Exit → Act → World → Prop} (hq : ∀ st' φ' a' w', K st' → Goes φ0 base H0 w0 φ' st'.H w' → FR φ' N st'.fr a' → Q .normal a' w') :
    ∀ (fuel : Nat) (l : Array Bool) (a : Act) (w : World) (done rest : List Item) (st : St) (φ : Phi) (R : Nat → Nat), Inv P N ops az K φ0 base H0 w0 l a w done rest st φ R → (∀ j, L0 j → On l j) → (List.range ops0.size).countP (fun i => !l.getD i false) ≤ fuel →
      wpAny P .any ops0 Q fuel l a w := by

  have full : ∀ {l : Array Bool}, l.size = ops0.size → Region.ready .any ops0 l = [] → ∀ i, i < ops0.size → On l i := fun {l} hs hr i => by
    induction i using Nat.strongRecOn with
    | _ i ih =>
      intro hi
      refine Classical.byContradiction fun hno => ?_
      have ho : ops0[i]? = some ops0[i] := Array.getElem?_eq_getElem hi
      have : i ∈ Region.ready .any ops0 l := mem_ready.2 ⟨?_, ops0[i], ho, fun e he hb => ?_⟩
      · rw [hr] at this; cases this
      · have h1 : l.getD i false ≠ true := hno
        rw [Array.getD_eq_getD_getElem?] at h1 ⊢
        rw [Array.getElem?_eq_getElem (by omega)] at h1 ⊢
        simpa using h1
      · have hj : e.on ∈ dpre ops0[i] := List.mem_map.2 ⟨e, List.mem_filter.2 ⟨by simpa using he, hb⟩, rfl⟩
        have hlt := hback i _ ho e.on hj
        exact ih e.on hlt (by omega)
  have finish : ∀ {l : Array Bool} {a : Act} {w : World} {done rest : List Item} {st : St} {φ : Phi} {R : Nat → Nat}, Inv P N ops az K φ0 base H0 w0 l a w done rest st φ R → Region.ready .any ops0 l = [] → Q .normal a w := by
    intro l a w done rest st φ R h hr
    obtain ⟨done', rest', st', φ', h', hstop⟩ := advance c rest done st φ h
    have hall : ∀ x ∈ az, On l x.1 := fun x hx => by
      obtain ⟨o, ho, _⟩ := c.comp x hx
      exact full (h.size.trans hz) hr x.1 (hz ▸ (Array.getElem?_eq_some_iff.1 ho).1)
    rcases hstop with e | ⟨x, r, e, _, hno⟩
    · subst e
      refine hq st' φ' a w h'.wp h'.goes ⟨h'.sz, h'.df, fun t => h'.fr t fun hb => ?_⟩
      rcases hb with ⟨y, hy, hno, _⟩ | ⟨y, hy, _⟩
      · exact hno (hall y (by rw [h'.split]; exact List.mem_append_left _ hy))
      · cases hy
    · subst e
      exact (hno (hall x (by rw [h'.split]; simp))).elim
  have step : ∀ {l : Array Bool} {a : Act} {w : World} {done rest : List Item} {st : St} {φ : Phi} {R : Nat → Nat} {i : Nat} {next : Act → World → Prop}, Inv P N ops az K φ0 base H0 w0 l a w done rest st φ R → (∀ j, L0 j → On l j) → i ∈ Region.ready .any ops0 l →
      (∀ a' w' done' rest' st' φ' R', Inv P N ops az K φ0 base H0 w0 (l.setIfInBounds i true) a' w' done' rest' st' φ' R' → next a' w') → wpOp P ops0 Q i next a w := by
    intro l a w done rest st φ R i next h hL hi hn
    obtain ⟨h0, o0, ho0, hp⟩ := mem_ready.1 hi
    obtain ⟨o, ho, hd⟩ := hsim i o0 ho0
    obtain ⟨done', rest', st', φ', h', hstop⟩ := advance c rest done st φ h
    have hlt : i < l.size := by rw [h.size]; exact (Array.getElem?_eq_some_iff.1 ho).1
    refine hop (inv_step c h' hstop (fun hon => ?_) ho (fun j hj => ?_) hn)
    · unfold On at hon
      rw [Array.getD_eq_getD_getElem?, Array.getElem?_eq_getElem hlt] at hon h0
      simp at hon h0
      rw [hon] at h0
      cases h0
    · rcases hd j hj with hj | hj
      · obtain ⟨e, he, rfl⟩ := List.mem_map.1 hj
        obtain ⟨he, hb⟩ := List.mem_filter.1 he
        exact hp e (by simpa using he) hb
      · exact hL j hj
  intro fuel
  induction fuel with
  | zero =>
    intro l a w done rest st φ R h hL hc
    have hr : Region.ready .any ops0 l = [] := by
      cases hrd : Region.ready .any ops0 l with
      | nil => rfl
      | cons i rs =>
        exfalso
        have hi : i ∈ Region.ready .any ops0 l := by rw [hrd]; exact List.mem_cons_self ..
        obtain ⟨h0, o, ho, _⟩ := mem_ready.1 hi
        have hlt : i < ops0.size := (Array.getElem?_eq_some_iff.1 ho).1
        have : (List.range ops0.size).countP (fun i => !l.getD i false) = 0 := by omega
        have h2 := List.countP_eq_zero.1 this i (List.mem_range.2 hlt)
        have hlt' : i < l.size := by rw [h.size, hz]; exact hlt
        rw [Array.getD_eq_getD_getElem?, Array.getElem?_eq_getElem hlt'] at h0 h2
        simp at h0 h2
        rw [h2] at h0
        cases h0
    exact ⟨hr, finish h hr⟩
  | succ fuel ih =>
    intro l a w done rest st φ R h hL hc
    refine ⟨fun hr => finish h hr, fun i hi => step h hL hi fun a' w' done' rest' st' φ' R' h' => ih _ a' w' done' rest' st' φ' R' h' (fun j hj => ?_) ?_⟩
    · have hlt : i < l.size := by rw [h.size, hz]; exact (Array.getElem?_eq_some_iff.1 (mem_ready.1 hi).2.choose_spec.1).1
      exact (on_set hlt).2 (.inr (hL j hj))
    obtain ⟨h0, o, ho, _⟩ := mem_ready.1 hi
    have hlt : i < ops0.size := (Array.getElem?_eq_some_iff.1 ho).1
    have hlt' : i < l.size := by rw [h.size, hz]; exact hlt
    have : (List.range ops0.size).countP (fun j => !(l.setIfInBounds i true).getD j false) < (List.range ops0.size).countP (fun j => !l.getD j false) := by
      refine count_lt (fun j hj hq => ?_) ⟨i, List.mem_range.2 hlt, ?_, ?_⟩
      · simp only [Bool.not_eq_true'] at hq ⊢
        refine Classical.byContradiction fun hno => ?_
        have hon : On l j := by unfold On; simpa using hno
        have := (on_set hlt').2 (.inr hon : j = i ∨ On l j)
        unfold On at this
        rw [this] at hq
        cases hq
      · rw [Array.getD_eq_getD_getElem?, Array.getElem?_eq_getElem hlt'] at h0 ⊢
        simp at h0 ⊢
        exact h0
      · have := (on_set hlt').2 (.inl rfl : i = i ∨ On l i)
        unfold On at this
        rw [this]
        rfl
    omega
theorem ctx_of {ops : Array Oper} {az : List Item} (hok : drawOk0 P N ops az = true) : Ctx P N ops az (masks ops.toList []) := by
  unfold drawOk0 at hok
  simp only [Bool.and_eq_true, beq_iff_eq, decide_eq_true_eq] at hok
  obtain ⟨⟨⟨⟨⟨k1, k2⟩, k3⟩, k4⟩, k5⟩, k6⟩ := hok
  refine ⟨k1, k2, fun x hx => ?_, fun x hx => List.all_eq_true.1 k4 x hx, pairs_of k5, masks_ok ops.toList [] (fun j => by simp) (fun i m o h => by simp at h) (fun j h => by simp at h), fun i hi => ?_, fun i hi => ?_⟩
  · have := List.all_eq_true.1 k3 x hx
    split at this
    · exact ⟨_, ‹_›, this⟩
    · cases this
  · have hlen : ∀ (l : List Oper) (acc : List Nat), (masks l acc).length = acc.length + l.length := by
      intro l
      induction l with
      | nil => intro acc; simp [masks]
      | cons o l ih => intro acc; simp [masks, ih]; omega
    have hl := hlen ops.toList []
    simp at hl
    exact ⟨_, List.getElem?_eq_getElem (by omega)⟩
  · have := List.all_eq_true.1 k6 i (List.mem_range.2 hi)
    obtain ⟨x, hx, h2⟩ := List.any_eq_true.1 this
    exact ⟨x, hx, by simpa using h2⟩
theorem back_of {ops : Array Oper} (h : backOk ops = true) : ∀ i o, ops[i]? = some o → ∀ j ∈ dpre o, j < i := fun i o ho j hj => by
  have hmem : (o, i) ∈ ops.toList.zipIdx := by
    rw [List.mem_zipIdx_iff_getElem?]
    simpa using ho
  have := List.all_eq_true.1 (List.all_eq_true.1 h _ hmem) j hj
  simpa using this
theorem draw1 (hm : P.follows .mixedOrders = true) : ∀ (N id : Nat) (ops : Array Oper) (az : List (Nat × Cat × AOper)), drawOk P N ops az = true → ∀ {φ : Phi} {base : Nat} {st : St} {a : Act} {w : World}, Rel φ base st.H w → FR φ N st.fr a →
    ∀ {K : St → Prop}, opsWp P (az.map (·.2.2)) K st → ∀ {Q : Exit → Act → World → Prop}, (∀ st' φ' a' w', K st' → Goes φ base st.H w φ' st'.H w' → FR φ' N st'.fr a' → Q .normal a' w') → (Code.region id ops true).wp P Q a w := by
  intro N id ops az hok φ base st a w hr hf K h Q hq
  unfold drawOk at hok
  rw [Bool.and_eq_true] at hok
  have c := ctx_of hok.1
  refine wp_region_any hm ?_
  have hr' : Rel φ base st.H { w with drawn := w.drawn + 1 } := hr.congr rfl
  have hg : Goes φ base st.H w φ st.H { w with drawn := w.drawn + 1 } := ⟨hr', Nat.le_refl _, Ext.refl _, ⟨rfl, rfl, rfl, Nat.le_refl _, fun _ _ => rfl⟩, fun _ _ _ => rfl, fun _ hm => .inr hm, fun _ _ h => .inl h⟩
  have off : ∀ i, ¬ On (Array.replicate ops.size false) i := fun i hi => by
    unfold On at hi
    rw [Array.getD_eq_getD_getElem?, Array.getElem?_replicate] at hi
    split at hi <;> simp at hi
  refine any_of_inv (L0 := fun _ => False) c rfl (back_of hok.2) (fun i o0 ho => ⟨o0, ho, fun j hj => .inl hj⟩) (fun h => h) hq ops.size _ a _ [] az st φ (fun _ => 0) ⟨hr.base, rfl, by simp, fun i o _ hi => (off i hi).elim, h, fun x hx => (by cases hx), fun x _ hx => (off _ hx).elim, hg, hf.1, hf.2.1, fun t _ => hf.2.2 t, fun x hx => (by cases hx), fun x _ hx => (off _ hx).elim, fun x _ y _ hx => (off _ hx).elim⟩ (fun j h => h.elim) ?_
  have := List.countP_le_length (p := fun i => !(Array.replicate ops.size false).getD i false) (l := List.range ops.size)
  simpa using this
theorem add_size {ops : Array Oper} {i j : Nat} : (addWait ops i j).size = ops.size := by simp [addWait]
theorem add_get {ops : Array Oper} {i j k : Nat} {o : Oper} (h : ops[k]? = some o) : (addWait ops i j)[k]? = some (if k = i then waitToo o j else o) := by
  simp [addWait, h]
theorem wait_dpre {o : Oper} {j : Nat} : dpre (waitToo o j) = dpre o ++ [j] := by
  unfold dpre waitToo
  simp only [Array.toList_push, List.filter_append, List.map_append]
  rfl
theorem add_sim {ops : Array Oper} {i j : Nat} : ∀ (k : Nat) (o0 : Oper), ops[k]? = some o0 → ∃ o : Oper, (addWait ops i j)[k]? = some o ∧ (∀ q ∈ dpre o, q ∈ dpre o0 ∨ q = j) := fun k o0 h => ⟨_, add_get h, fun q hq => by
  split at hq
  · rw [wait_dpre] at hq
    simpa using hq
  · exact .inl hq⟩
theorem add_sim_ne {ops : Array Oper} {i j k : Nat} {o : Oper} (h : ops[k]? = some o) (hk : k ≠ i) : (addWait ops i j)[k]? = some o := by
  rw [add_get h, if_neg hk]
theorem add_yielded {ops : Array Oper} {i j : Nat} {v : Array Value} : yielded (addWait ops i j) v = yielded ops v := by
  funext k
  unfold yielded
  cases h : ops[k]? with
  | none =>
    have : (addWait ops i j)[k]? = none := by
      rw [Array.getElem?_eq_none_iff] at h ⊢
      rw [add_size]; exact h
    rw [this]
  | some o =>
    rw [add_get h]
    by_cases hk : k = i
    · rw [if_pos hk]; rfl
    · rw [if_neg hk]
theorem add_wpOp {ops : Array Oper} {i j : Nat} {Q : Exit → Act → World → Prop} {k : Nat} {K : Act → World → Prop} {a : Act} {w : World} (h : wpOp P (addWait ops i j) Q k K a w) : wpOp P ops Q k K a w := by
  unfold wpOp at h ⊢
  cases ho : ops[k]? with
  | none =>
    have : (addWait ops i j)[k]? = none := by
      rw [Array.getElem?_eq_none_iff] at ho ⊢
      rw [add_size]; exact ho
    rw [this] at h
    exact h
  | some o =>
    rw [add_get ho, add_yielded] at h
    by_cases hk : k = i
    · rw [if_pos hk] at h; exact h
    · rw [if_neg hk] at h; exact h
theorem wpOp_and {ops : Array Oper} {Q : Exit → Act → World → Prop} {i : Nat} {K1 K2 : Act → World → Prop} {a : Act} {w : World}
    (hrun : ∀ o, ops[i]? = some o → Region.wanted o (yielded ops a.tmps) = true → ∃ u w', (execOp a.eval o).run P w = .ok (.value u) w' ∨ (execOp a.eval o).run P w = .ok .skip w')
    (h1 : wpOp P ops Q i K1 a w) (h2 : wpOp P ops Q i K2 a w) : wpOp P ops Q i (fun a w => K1 a w ∧ K2 a w) a w := by
  unfold wpOp at h1 h2 ⊢
  cases ho : ops[i]? with
  | none => rw [ho] at h1 h2; exact ⟨h1, h2⟩
  | some o =>
    rw [ho] at h1 h2
    simp only at h1 h2 ⊢
    by_cases hw : Region.wanted o (yielded ops a.tmps) = true
    · rw [if_pos hw] at h1 h2 ⊢
      rcases h1 with h1 | h1
      · rcases h2 with h2 | h2
        · left
          unfold Oper.wp at h1 h2 ⊢
          obtain ⟨u, w', hr | hr⟩ := hrun o ho hw
          · rw [hr] at h1 h2 ⊢; exact ⟨h1, h2⟩
          · rw [hr] at h1 h2 ⊢; exact ⟨h1, h2⟩
        · exact .inr h2
      · exact .inr h1
    · rw [if_neg hw] at h1 h2 ⊢
      exact ⟨h1, h2⟩
theorem inv_run (c : Ctx P N ops az M) {l : Array Bool} {a : Act} {w : World} {R : Nat → Nat} {done rest : List Item} {st : St} {φ : Phi} (h : Inv P N ops az K φ0 base H0 w0 l a w done rest st φ R)
    (hstop : rest = [] ∨ ∃ x r, rest = x :: r ∧ x.2.1 ≠ .light ∧ ¬ On l x.1) {i : Nat} {o : Oper} (hoff : ¬ On l i) (ho : ops[i]? = some o) (hp : ∀ j ∈ dpre o, On l j)
    (hnh : ∀ x ∈ az, x.1 = i → x.2.1 ≠ .heavy) (hw : Region.wanted o (yielded ops a.tmps) = true) : ∃ u w', (execOp a.eval o).run P w = .ok (.value u) w' ∨ (execOp a.eval o).run P w = .ok .skip w' := by
  obtain ⟨x, hxa, hxi⟩ := c.all i (Array.getElem?_eq_some_iff.1 ho).1
  subst hxi
  have hnh := hnh x hxa rfl
  obtain ⟨o', ho', hcomp⟩ := c.comp x hxa
  rw [ho] at ho'
  obtain rfl := Option.some.inj ho'
  have hco := hcomp
  unfold compOper at hco
  simp only [Bool.and_eq_true, beq_iff_eq] at hco
  obtain ⟨⟨⟨h1, h2⟩, h3⟩, h4⟩ := hco
  have pre : ∀ {j}, (M.getD x.1 0).testBit j = true → On l j := fun hb => c.pre h.closed ho hp hb
  have hx2 : x ∈ done ∨ x ∈ rest := by rw [h.split] at hxa; exact List.mem_append.1 hxa
  have inDone : ∀ y ∈ done, y ∈ az := fun y hy => by rw [h.split]; exact List.mem_append_left _ hy
  have dr : ∀ y ∈ done, ∀ z ∈ rest, PairOk M y z := fun y hy z hz => by
    have := c.pairs
    rw [h.split] at this
    exact (List.pairwise_append.1 this).2.2 y hy z hz
  have pendL : ∀ y ∈ done, ¬ On l y.1 → y.2.1 = .light := fun y hy hno => Classical.byContradiction fun hne => hno (h.hv y hy hne)
  rcases hx2 with hxd | hxr
  · have hxl := pendL x hxd hoff
    obtain ⟨hkind, hself⟩ := c.light hxa hxl
    have good : ∀ t ∈ x.2.2.reads, ¬ Bad l done rest t := fun t ht hb => by
      rcases hb with ⟨y, hy, hno, hd⟩ | ⟨y, hy, hon, hd⟩
      · by_cases hyx : y = x
        · subst hyx; exact hself t hd ht
        · rcases pairwise_or c.pairs (inDone y hy) hxa hyx with hp | hp
          · exact hno (pre (hp.rd t hd (.inl ht)))
          · have := (hp.wr t hd (.inl ht)).1
            rw [pendL y hy hno] at this
            cases this
      · have := ((dr x hxd y hy).wr t hd (.inl ht)).1
        rw [h.early y hy hon] at this
        cases this
    rcases wanted_good (fun t ht => h.fr t (good t (List.mem_append_left _ ht))) h4 (h.pend x hxd hoff) with ⟨_, v, hx, hv⟩ | ⟨hw', _⟩
    · obtain ⟨ev, hev, hcg⟩ := evs_good h.fr (op := x.2.2.op) (fun t ht => good t (List.mem_append_right _ ht))
      exact run_of_xop h1 h.goes.rel hev (by rw [xop_congr hcg]; exact hx)
    · rw [hw] at hw'; cases hw'
  · rcases hcat : x.2.1 with _ | _ | _
    · exfalso
      rcases hstop with e | ⟨z, r, e, hz1, hz2⟩
      · subst e; cases hxr
      · subst e
        rcases List.mem_cons.1 hxr with rfl | hxr
        · exact hz1 hcat
        · have hp := tail_pair c.pairs h.split hxr
          rcases hp.ord with e | e | e
          · rw [hcat] at e; cases e
          · exact hz1 e
          · exact hz2 (pre e)
    · obtain ⟨hfo, hgn⟩ := c.float hxa hcat
      obtain ⟨cells, hrun, _⟩ := float_run (compA_float h1 hfo) hfo a
      exact ⟨_, _, .inl (hrun w)⟩
    · exact (hnh hcat).elim
theorem ready_full {ops : Array Oper} (hback : ∀ (i : Nat) (o : Oper), ops[i]? = some o → ∀ j ∈ dpre o, j < i) {l : Array Bool} (hs : l.size = ops.size) (hr : Region.ready .any ops l = []) : ∀ i, i < ops.size → On l i := fun i => by
  induction i using Nat.strongRecOn with
  | _ i ih =>
    intro hi
    refine Classical.byContradiction fun hno => ?_
    have ho : ops[i]? = some ops[i] := Array.getElem?_eq_getElem hi
    have : i ∈ Region.ready .any ops l := mem_ready.2 ⟨?_, ops[i], ho, fun e he hb => ?_⟩
    · rw [hr] at this; cases this
    · have h1 : l.getD i false ≠ true := hno
      rw [Array.getD_eq_getD_getElem?] at h1 ⊢
      rw [Array.getElem?_eq_getElem (by omega)] at h1 ⊢
      simpa using h1
    · have hj : e.on ∈ dpre ops[i] := List.mem_map.2 ⟨e, List.mem_filter.2 ⟨by simpa using he, hb⟩, rfl⟩
      have hlt := hback i _ ho e.on hj
      exact ih e.on hlt (by omega)
theorem ready_off {ops : Array Oper} {l : Array Bool} (hs : l.size = ops.size) {i : Nat} (hi : i ∈ Region.ready .any ops l) : ¬ On l i ∧ ∃ o, ops[i]? = some o ∧ ∀ j ∈ dpre o, On l j := by
  obtain ⟨h0, o, ho, hp⟩ := mem_ready.1 hi
  have hlt : i < l.size := by rw [hs]; exact (Array.getElem?_eq_some_iff.1 ho).1
  refine ⟨fun hon => ?_, o, ho, fun j hj => ?_⟩
  · unfold On at hon
    rw [Array.getD_eq_getD_getElem?, Array.getElem?_eq_getElem hlt] at hon h0
    simp at hon h0
    rw [hon] at h0
    cases h0
  · obtain ⟨e, he, rfl⟩ := List.mem_map.1 hj
    obtain ⟨he, hb⟩ := List.mem_filter.1 he
    exact hp e (by simpa using he) hb
theorem count_set {n : Nat} {l : Array Bool} (hs : l.size = n) {i : Nat} (hi : i < n) (hoff : ¬ On l i) : (List.range n).countP (fun j => !(l.setIfInBounds i true).getD j false) < (List.range n).countP (fun j => !l.getD j false) := by
  have hlt' : i < l.size := by omega
  refine count_lt (fun j hj hq => ?_) ⟨i, List.mem_range.2 hi, ?_, ?_⟩
  · simp only [Bool.not_eq_true'] at hq ⊢
    refine Classical.byContradiction fun hno => ?_
    have hon : On l j := by unfold On; simpa using hno
    have := (on_set hlt').2 (.inr hon : j = i ∨ On l j)
    unfold On at this
    rw [this] at hq
    cases hq
  · have : l.getD i false ≠ true := hoff
    simpa using this
  · have := (on_set hlt').2 (.inl rfl : i = i ∨ On l i)
    unfold On at this
    rw [this]
    rfl
theorem two_of_inv {i j : Nat} {az bs : List Item} {M1 M2 : List Nat} (c1 : Ctx P N (addWait ops j i) az M1) (c2 : Ctx P N (addWait ops i j) bs M2) (hback : ∀ (i : Nat) (o : Oper), ops[i]? = some o → ∀ j ∈ dpre o, j < i)
    (hij : i ≠ j) (hi : i < ops.size) (hj : j < ops.size) (hh : ∀ x ∈ az, x.2.1 = .heavy → x.1 = i ∨ x.1 = j ∨ (M1.getD x.1 0).testBit i = true ∨ (M1.getD x.1 0).testBit j = true)
    {Q : Exit → Act → World → Prop} (hq : ∀ st' φ' a' w', K st' → Goes φ0 base H0 w0 φ' st'.H w' → FR φ' N st'.fr a' → Q .normal a' w') :
    ∀ (fuel : Nat) (l : Array Bool) (a : Act) (w : World) (done1 rest1 : List Item) (st1 : St) (φ1 : Phi) (R1 : Nat → Nat) (done2 rest2 : List Item) (st2 : St) (φ2 : Phi) (R2 : Nat → Nat),
      Inv P N (addWait ops j i) az K φ0 base H0 w0 l a w done1 rest1 st1 φ1 R1 → Inv P N (addWait ops i j) bs K φ0 base H0 w0 l a w done2 rest2 st2 φ2 R2 → ¬ On l i → ¬ On l j →
      (List.range ops.size).countP (fun i => !l.getD i false) ≤ fuel → wpAny P .any ops Q fuel l a w := by
  intro fuel
  induction fuel with
  | zero =>
    intro l a w done1 rest1 st1 φ1 R1 done2 rest2 st2 φ2 R2 h1 h2 oi oj hc
    exfalso
    have : (List.range ops.size).countP (fun i => !l.getD i false) = 0 := by omega
    have := List.countP_eq_zero.1 this i (List.mem_range.2 hi)
    have h : l.getD i false ≠ true := oi
    simp at this h
    rw [h] at this
    cases this
  | succ fuel ih =>
    intro l a w done1 rest1 st1 φ1 R1 done2 rest2 st2 φ2 R2 h1 h2 oi oj hc
    have hs : l.size = ops.size := h1.size.trans add_size
    refine ⟨fun hr => (oi (ready_full hback hs hr i hi)).elim, fun k hk => ?_⟩
    obtain ⟨hoff, o, ho, hp⟩ := ready_off hs hk
    have hklt : k < ops.size := (Array.getElem?_eq_some_iff.1 ho).1
    have hcnt := count_set hs hklt hoff
    have onS : ∀ q, On (l.setIfInBounds k true) q ↔ q = k ∨ On l q := fun q => on_set (by omega)
    obtain ⟨d1, r1, s1, f1, h1, stop1⟩ := advance c1 rest1 done1 st1 φ1 h1
    obtain ⟨d2, r2, s2, f2, h2, stop2⟩ := advance c2 rest2 done2 st2 φ2 h2
    by_cases hki : k = i
    · subst hki
      refine add_wpOp (i := j) (j := k) (inv_step c1 h1 stop1 hoff (add_sim_ne ho hij) hp fun a' w' done' rest' st' φ' R' h' => ?_)
      exact any_of_inv (L0 := fun q => q = k) c1 add_size hback add_sim add_wpOp hq fuel _ a' w' done' rest' st' φ' R' h' (fun q hq => by subst hq; exact (onS q).2 (.inl rfl)) (by omega)
    · by_cases hkj : k = j
      · subst hkj
        refine add_wpOp (i := i) (j := k) (inv_step c2 h2 stop2 hoff (add_sim_ne ho hki) hp fun a' w' done' rest' st' φ' R' h' => ?_)
        exact any_of_inv (L0 := fun q => q = k) c2 add_size hback add_sim add_wpOp hq fuel _ a' w' done' rest' st' φ' R' h' (fun q hq => by subst hq; exact (onS q).2 (.inl rfl)) (by omega)
      · have hnh : ∀ x ∈ az, x.1 = k → x.2.1 ≠ .heavy := fun x hx e hhv => by
          subst e
          rcases hh x hx hhv with e | e | e | e
          · exact hki e
          · exact hkj e
          · exact oi (c1.pre h1.closed (add_sim_ne ho hkj) hp e)
          · exact oj (c1.pre h1.closed (add_sim_ne ho hkj) hp e)
        have w1 := inv_step (Q := Q) c1 h1 stop1 hoff (add_sim_ne ho hkj) hp (next := fun a' w' => ∃ done' rest' st' φ' R', Inv P N (addWait ops j i) az K φ0 base H0 w0 (l.setIfInBounds k true) a' w' done' rest' st' φ' R') fun a' w' done' rest' st' φ' R' h' => ⟨_, _, _, _, _, h'⟩
        have w2 := inv_step (Q := Q) c2 h2 stop2 hoff (add_sim_ne ho hki) hp (next := fun a' w' => ∃ done' rest' st' φ' R', Inv P N (addWait ops i j) bs K φ0 base H0 w0 (l.setIfInBounds k true) a' w' done' rest' st' φ' R') fun a' w' done' rest' st' φ' R' h' => ⟨_, _, _, _, _, h'⟩
        refine wpOp_mono (fun a' w' hb => ?_) (wpOp_and (fun o' ho' hw => ?_) (add_wpOp w1) (add_wpOp w2))
        · obtain ⟨⟨d1, r1, s1, f1, R1, k1⟩, ⟨d2, r2, s2, f2, R2, k2⟩⟩ := hb
          exact ih _ a' w' d1 r1 s1 f1 R1 d2 r2 s2 f2 R2 k1 k2 (fun e => ((onS i).1 e).elim (fun e => hki e.symm) oi) (fun e => ((onS j).1 e).elim (fun e => hkj e.symm) oj) (by omega)
        · rw [ho] at ho'
          obtain rfl := Option.some.inj ho'
          exact inv_run c1 h1 stop1 hoff (add_sim_ne ho hkj) hp hnh (by rw [add_yielded]; exact hw)
theorem draw2 (hm : P.follows .mixedOrders = true) : ∀ (N id : Nat) (ops : Array Oper) (i j : Nat) (az bs : List (Nat × Cat × AOper)), draw2Ok P N ops i j az bs = true → ∀ {φ : Phi} {base : Nat} {st : St} {a : Act} {w : World}, Rel φ base st.H w → FR φ N st.fr a →
    ∀ {K : St → Prop}, opsWp P (az.map (·.2.2)) K st → opsWp P (bs.map (·.2.2)) K st → ∀ {Q : Exit → Act → World → Prop}, (∀ st' φ' a' w', K st' → Goes φ base st.H w φ' st'.H w' → FR φ' N st'.fr a' → Q .normal a' w') → (Code.region id ops true).wp P Q a w := by
  intro N id ops i j az bs hok φ base st a w hr hf K h1 h2 Q hq
  unfold draw2Ok at hok
  simp only [Bool.and_eq_true, decide_eq_true_eq] at hok
  obtain ⟨⟨⟨⟨⟨⟨k1, k2⟩, k3⟩, k4⟩, k5⟩, k6⟩, k7⟩ := hok
  have c1 := ctx_of k1
  have c2 := ctx_of k2
  refine wp_region_any hm ?_
  have hr' : Rel φ base st.H { w with drawn := w.drawn + 1 } := hr.congr rfl
  have hg : Goes φ base st.H w φ st.H { w with drawn := w.drawn + 1 } := ⟨hr', Nat.le_refl _, Ext.refl _, ⟨rfl, rfl, rfl, Nat.le_refl _, fun _ _ => rfl⟩, fun _ _ _ => rfl, fun _ hm => .inr hm, fun _ _ h => .inl h⟩
  have off : ∀ i, ¬ On (Array.replicate ops.size false) i := fun i hi => by
    unfold On at hi
    rw [Array.getD_eq_getD_getElem?, Array.getElem?_replicate] at hi
    split at hi <;> simp at hi
  refine two_of_inv c1 c2 (back_of k3) (by simpa using k4) k5 k6 (fun x hx hv => ?_) hq ops.size _ a _ [] az st φ (fun _ => 0) [] bs st φ (fun _ => 0) ⟨hr.base, rfl, by simp [add_size], fun i o _ hi => (off i hi).elim, h1, fun x hx => (by cases hx), fun x _ hx => (off _ hx).elim, hg, hf.1, hf.2.1, fun t _ => hf.2.2 t, fun x hx => (by cases hx), fun x _ hx => (off _ hx).elim, fun x _ y _ hx => (off _ hx).elim⟩
    ⟨hr.base, rfl, by simp [add_size], fun i o _ hi => (off i hi).elim, h2, fun x hx => (by cases hx), fun x _ hx => (off _ hx).elim, hg, hf.1, hf.2.1, fun t _ => hf.2.2 t, fun x hx => (by cases hx), fun x _ hx => (off _ hx).elim, fun x _ y _ hx => (off _ hx).elim⟩ (off i) (off j) ?_
  · have := List.all_eq_true.1 k7 x hx
    rw [hv] at this
    simp only [bne_self_eq_false, Bool.false_or, Bool.or_eq_true, beq_iff_eq] at this
    rcases this with ((e | e) | e) | e
    · exact .inl e
    · exact .inr (.inl e)
    · exact .inr (.inr (.inl e))
    · exact .inr (.inr (.inr e))
  · have := List.countP_le_length (p := fun i => !(Array.replicate ops.size false).getD i false) (l := List.range ops.size)
    simpa using this
theorem draw_sound (hm : P.follows .mixedOrders = true) : DrawSound P := ⟨draw1 hm, draw2 hm⟩
end
end Go.Proofs.YtoeieoapnhhaeaaGreat.Den
namespace Go.Proofs.YtoeieoapnhhaeaaGreat.Den
open Go.RowKit
set_option linter.unusedVariables false
section
variable {P : Program} {n0 : Nat}
theorem awp_skip {K : AExit → St → Prop} {st : St} : awp P n0 .skip K st = K .normal st := propext Iff.rfl
def regK (ks : List Nat) (K : AExit → St → Prop) : St → Prop := fun s => K .normal ⟨fkeep ks s.fr, s.H⟩
theorem regK_eq {ks : List Nat} {K : AExit → St → Prop} {f : Fr} {H : AHeap} : regK ks K ⟨f, H⟩ = K .normal ⟨fkeep ks f, H⟩ := propext Iff.rfl
theorem awp_reg {ops : List AOper} {ks : List Nat} {K : AExit → St → Prop} {st : St} : awp P n0 (.reg ops ks) K st = opsWp P ops (regK ks K) st := propext Iff.rfl
theorem awp_dreg {ops : List (Nat × Cat × AOper)} {ks : List Nat} {K : AExit → St → Prop} {st : St} : awp P n0 (.dreg ops ks) K st = opsWp P (ops.map (·.2.2)) (regK ks K) st := propext Iff.rfl
def stepK (P : Program) (d : Option Nat) (c : List (AOp × Nat × Option (Nat × Bool))) (r : List AOper) (K : St → Prop) (f : Fr) : AV → AHeap → Prop := fun v H => chks (fput d v f) H c ∧ opsWp P r K ⟨fput d v f, H⟩
theorem stepK_eq {d : Option Nat} {c : List (AOp × Nat × Option (Nat × Bool))} {r : List AOper} {K : St → Prop} {f : Fr} {v : AV} {H : AHeap} : stepK P d c r K f v H = (chks (fput d v f) H c ∧ opsWp P r K ⟨fput d v f, H⟩) := propext Iff.rfl
def guardK (P : Program) (w : Bool) (o : AOper) (r : List AOper) (K : St → Prop) (f : Fr) (H : AHeap) : Bool → Prop := fun b => if b = w then opWp P o.op (evf f) H (stepK P o.dst o.chk r K f) else opsWp P r K ⟨fput o.dst (.tup []) f, H⟩
theorem guardK_tt {o : AOper} {r : List AOper} {K : St → Prop} {f : Fr} {H : AHeap} : guardK P true o r K f H true = opWp P o.op (evf f) H (stepK P o.dst o.chk r K f) := propext Iff.rfl
theorem guardK_ff {o : AOper} {r : List AOper} {K : St → Prop} {f : Fr} {H : AHeap} : guardK P false o r K f H false = opWp P o.op (evf f) H (stepK P o.dst o.chk r K f) := propext Iff.rfl
theorem guardK_tf {o : AOper} {r : List AOper} {K : St → Prop} {f : Fr} {H : AHeap} : guardK P true o r K f H false = opsWp P r K ⟨fput o.dst (.tup []) f, H⟩ := propext Iff.rfl
theorem guardK_ft {o : AOper} {r : List AOper} {K : St → Prop} {f : Fr} {H : AHeap} : guardK P false o r K f H true = opsWp P r K ⟨fput o.dst (.tup []) f, H⟩ := propext Iff.rfl
def gK (P : Program) (w : Bool) (o : AOper) (r : List AOper) (K : St → Prop) (f : Fr) (H : AHeap) : AV → Prop := fun x => onG x (guardK P w o r K f H) (opsWp P r K ⟨fput o.dst (.tup []) f, H⟩)
theorem gK_b {w : Bool} {o : AOper} {r : List AOper} {K : St → Prop} {f : Fr} {H : AHeap} {b : Bool} : gK P w o r K f H (.s (.bool b)) = guardK P w o r K f H b := propext Iff.rfl
theorem gK_u {w : Bool} {o : AOper} {r : List AOper} {K : St → Prop} {f : Fr} {H : AHeap} : gK P w o r K f H (.tup []) = opsWp P r K ⟨fput o.dst (.tup []) f, H⟩ := propext Iff.rfl
theorem opsWp_nil {K : St → Prop} {st : St} : opsWp P [] K st = K st := propext Iff.rfl
theorem opsWp_none {d : Option Nat} {op : AOp} {c : List (AOp × Nat × Option (Nat × Bool))} {r : List AOper} {K : St → Prop} {f : Fr} {H : AHeap} : opsWp P (⟨d, op, none, c⟩ :: r) K ⟨f, H⟩ = opWp P op (evf f) H (stepK P d c r K f) := propext Iff.rfl
theorem opsWp_some {d : Option Nat} {op : AOp} {t : Nat} {w : Bool} {c : List (AOp × Nat × Option (Nat × Bool))} {r : List AOper} {K : St → Prop} {f : Fr} {H : AHeap} : opsWp P (⟨d, op, some (t, w), c⟩ :: r) K ⟨f, H⟩ = gK P w ⟨d, op, some (t, w), c⟩ r K f H (fget f t) := propext Iff.rfl
theorem awp_seq {a b : ACode} {K : AExit → St → Prop} {st : St} : awp P n0 (.seq a b) K st = awp P n0 a (thenK (awp P n0 b K) K) st := propext Iff.rfl
def condK (P : Program) (n0 : Nat) (a b : ACode) (K : AExit → St → Prop) (st : St) : Bool → Prop := fun t => if t = true then awp P n0 a K st else awp P n0 b K st
theorem condK_t {a b : ACode} {K : AExit → St → Prop} {st : St} : condK P n0 a b K st true = awp P n0 a K st := propext Iff.rfl
theorem condK_f {a b : ACode} {K : AExit → St → Prop} {st : St} : condK P n0 a b K st false = awp P n0 b K st := propext Iff.rfl
theorem awp_cond {c : Opd} {a b : ACode} {K : AExit → St → Prop} {st : St} : awp P n0 (.cond c a b) K st = onB (evf st.fr c) (condK P n0 a b K st) := propext Iff.rfl
theorem awp_block {id : Nat} {c : ACode} {K : AExit → St → Prop} {st : St} : awp P n0 (.block id c) K st = awp P n0 c (blockK id K) st := propext Iff.rfl
theorem awp_exit {id : Nat} {K : AExit → St → Prop} {st : St} : awp P n0 (.exit id) K st = K (.exit id) st := propext Iff.rfl
theorem awp_ret {K : AExit → St → Prop} {st : St} : awp P n0 .ret K st = K .ret st := propext Iff.rfl
theorem awp_loop {c : ACode} {K : AExit → St → Prop} {st : St} (I : Nat → St → Prop) (m0 : Nat) (h0 : ∃ s, W n0 st s ∧ I m0 s) (hr : ∀ n s, I n s → awp P n0 c (thenK (fun s' => ∃ m, m < n ∧ ∃ s'', W n0 s' s'' ∧ I m s'') K) s) : awp P n0 (.loop c) K st := ⟨I, by obtain ⟨s, h⟩ := h0; exact ⟨m0, s, h⟩, hr⟩
theorem awp_wk {c : ACode} {K : AExit → St → Prop} {st : St} (s : St) (hw : W n0 st s) (h : awp P n0 c K s) : awp P n0 (.wk c) K st := ⟨s, hw, h⟩
theorem thenK_n {n : St → Prop} {K : AExit → St → Prop} {st : St} : thenK n K .normal st = n st := propext Iff.rfl
theorem thenK_e {n : St → Prop} {K : AExit → St → Prop} {st : St} {i : Nat} : thenK n K (.exit i) st = K (.exit i) st := propext Iff.rfl
theorem thenK_r {n : St → Prop} {K : AExit → St → Prop} {st : St} : thenK n K .ret st = K .ret st := propext Iff.rfl
theorem blockK_n {i : Nat} {K : AExit → St → Prop} {st : St} : blockK i K .normal st = K .normal st := propext Iff.rfl
theorem blockK_r {i : Nat} {K : AExit → St → Prop} {st : St} : blockK i K .ret st = K .ret st := propext Iff.rfl
theorem blockK_e {i j : Nat} {K : AExit → St → Prop} {st : St} : blockK i K (.exit j) st = if j = i then K .normal st else K (.exit j) st := propext Iff.rfl
def finK (K : AV → AHeap → Prop) (H : AHeap) : List AV → Prop := fun l => K (single l) H
theorem finK_eq {K : AV → AHeap → Prop} {H : AHeap} {l : List AV} : finK K H l = K (single l) H := propext Iff.rfl
theorem retK_n {rs : List ARes} {K : AV → AHeap → Prop} {st : St} : retK rs K .normal st = onO (aress st rs) (finK K st.H) := propext Iff.rfl
theorem retK_r {rs : List ARes} {K : AV → AHeap → Prop} {st : St} : retK rs K .ret st = onO (aress st rs) (finK K st.H) := propext Iff.rfl
theorem single_one {v : AV} : single [v] = v := rfl
theorem single_two {u v : AV} {l : List AV} : single (u :: v :: l) = .tup (u :: v :: l) := rfl
theorem single_nil : single [] = .tup [] := rfl
theorem opWp_callx {f : Nat} {args : List Opd} {ev : Opd → AV} {H : AHeap} {K : AV → AHeap → Prop} : opWp P (.callx f args) ev H K = Specx P f (args.map ev) H K := propext Iff.rfl
theorem opWp_call {f : Nat} {args : List Opd} {ev : Opd → AV} {H : AHeap} {K : AV → AHeap → Prop} : opWp P (.call f args) ev H K = Spec P f (args.map ev) H K := propext Iff.rfl
def callvK (P : Program) (args : List AV) (H : AHeap) (K : AV → AHeap → Prop) : Nat → List (Nat × Nat × Nat) → Prop := fun f cs => callee P f = true ∧ Spec P f (args ++ cs.map capAV) H K
theorem callvK_eq {args : List AV} {H : AHeap} {K : AV → AHeap → Prop} {f : Nat} {cs : List (Nat × Nat × Nat)} : callvK P args H K f cs = (callee P f = true ∧ Spec P f (args ++ cs.map capAV) H K) := propext Iff.rfl
theorem opWp_callv {x : Opd} {args : List Opd} {ev : Opd → AV} {H : AHeap} {K : AV → AHeap → Prop} : opWp P (.callv x args) ev H K = onFn (ev x) (callvK P (args.map ev) H K) := propext Iff.rfl
end
section
variable {H : AHeap} {b b' : Nat} {k : Blk}
end
theorem wrap_id {x : Int} (h1 : -9223372036854775808 ≤ x) (h2 : x ≤ 9223372036854775807) : IntKind.i64.wrap x = x := by exact IntWalk.i64_in x ⟨h1, h2⟩
end Go.Proofs.YtoeieoapnhhaeaaGreat.Den
namespace Go.Proofs.YtoeieoapnhhaeaaGreat.Den
open Go.RowKit
set_option linter.unusedVariables false
def hp (l : List (Option Blk)) : AHeap := ⟨fun b => (l[b]?).join, l.length, none⟩
theorem hp_nx {l : List (Option Blk)} : (hp l).nx = l.length := rfl
theorem hp_get {l : List (Option Blk)} {b : Nat} : (hp l).get b = (l[b]?).join := rfl
theorem hp_push {l : List (Option Blk)} {k : Blk} : (hp l).push k = hp (l ++ [some k]) := by
  unfold hp AHeap.push
  congr 1
  · funext b
    show (if b = l.length then some k else (l[b]?).join) = _
    split
    · subst_vars; simp
    · rename_i h
      rcases Nat.lt_or_gt_of_ne h with h | h
      · rw [List.getElem?_append_left h]
      · rw [List.getElem?_eq_none (by omega), List.getElem?_eq_none (by simp; omega)]
  · simp
theorem hp_upd {l : List (Option Blk)} {b : Nat} {k : Blk} (h : b < l.length) : (hp l).upd b k = hp (l.set b (some k)) := by
  unfold hp AHeap.upd
  congr 1
  · funext c
    show (if c = b then some k else (l[c]?).join) = _
    rw [List.getElem?_set]
    by_cases e : c = b
    · subst e; simp [h]
    · simp [e, Ne.symm e]
  · simp
theorem hp_del {l : List (Option Blk)} {b : Nat} : (hp l).del b = hp (l.set b none) := by
  unfold hp AHeap.del
  congr 1
  · funext c
    show (if c = b then none else (l[c]?).join) = _
    rw [List.getElem?_set]
    by_cases e : c = b
    · subst e; simp; split <;> rfl
    · simp [e, Ne.symm e]
  · simp
def SV.free : SV → Bool
  | .ptr _ _ _ => false
  | .sl _ _ _ _ => false
  | .fn _ cs => cs.isEmpty
  | _ => true
def SV.data : SV → Bool
  | .ptr _ _ _ => false
  | .sl _ _ _ _ => false
  | .fn _ _ => false
  | _ => true
theorem SR.data_dr {φ : Phi} {x : SV} (h : x.data = true) {v : Value} (k : SR φ x v) : DR φ.fz x v := by
  cases x <;> first | exact k | (cases h; done)
theorem SR.free_any {φ φ' : Phi} (hf : ∀ r o, φ.fz r = some o → φ'.fz r = some o) {x : SV} (h : x.free = true) {v : Value} (k : SR φ x v) : SR φ' x v := by
  cases x <;> first | (cases h; done) | skip
  case fn f cs =>
    cases cs with
    | cons _ _ => cases h
    | nil =>
      obtain ⟨a, e, r⟩ := k
      refine ⟨a, e, ?_⟩
      cases hl : a.toList with
      | nil => exact .nil
      | cons _ _ => rw [hl] at r; cases r
  all_goals exact SR.dr (DR.ext hf k)
def SV.ren (ρ : Nat → Nat) : SV → SV
  | .ptr b i j => .ptr (ρ b) i j
  | .sl b i n c => .sl (ρ b) i n c
  | .fn f cs => .fn f (cs.map fun c => (ρ c.1, c.2.1, c.2.2))
  | x => x
def AV.ren0 (ρ : Nat → Nat) : AV → AV
  | .s x => .s (x.ren ρ)
  | .agg l => .agg (l.map (SV.ren ρ))
  | x => x
def AV.ren (ρ : Nat → Nat) : AV → AV
  | .tup l => .tup (l.map (AV.ren0 ρ))
  | x => x.ren0 ρ
def Blk.ren (ρ : Nat → Nat) (k : Blk) : Blk := ⟨k.sz, k.ty, k.rows.map (·.map (SV.ren ρ))⟩
theorem SV.ren_free {ρ : Nat → Nat} {x : SV} (h : x.free = true) : x.ren ρ = x := by
  cases x <;> first | rfl | (cases h; done) | skip
  case fn f cs => cases cs with | nil => rfl | cons _ _ => cases h
theorem sr_ren {φ ψ : Phi} {ρ : Nat → Nat} (hf : ∀ r o, φ.fz r = some o → ψ.fz r = some o) (hp : ∀ b p, φ (ρ b) = some p → ψ b = some p) {x : SV} {v : Value} (h : SR φ (x.ren ρ) v) : SR ψ x v := by
  cases x <;> simp only [SV.ren] at h <;> try exact SR.dr (DR.ext hf h)
  case ptr b i j => obtain ⟨a, e, p, h1, h2⟩ := h; exact ⟨a, e, p, hp b p h1, h2⟩
  case sl b i n c => obtain ⟨a, c', p, e, h1, h2, h3, h4, h5⟩ := h; exact ⟨a, c', p, e, h1, h2, h3, hp b p h4, h5⟩
  case fn f cs =>
    obtain ⟨a, e, h⟩ := h
    refine ⟨a, e, ?_⟩
    clear e
    generalize a.toList = vs at h
    induction cs generalizing vs with
    | nil => cases h; exact .nil
    | cons c cs ih =>
      obtain ⟨b, i, j⟩ := c
      cases h with
      | cons hx hr => obtain ⟨p, h1, h2⟩ := hx; exact .cons ⟨p, hp b p h1, h2⟩ (ih _ hr)
theorem sr_unren {φ ψ : Phi} {ρ : Nat → Nat} (hf : ∀ r o, φ.fz r = some o → ψ.fz r = some o) (hp : ∀ b p, φ b = some p → ψ (ρ b) = some p) {x : SV} {v : Value} (h : SR φ x v) : SR ψ (x.ren ρ) v := by
  cases x <;> simp only [SV.ren] <;> try exact SR.dr (DR.ext hf h)
  case ptr b i j => obtain ⟨a, e, p, h1, h2⟩ := h; exact ⟨a, e, p, hp b p h1, h2⟩
  case sl b i n c => obtain ⟨a, c', p, e, h1, h2, h3, h4, h5⟩ := h; exact ⟨a, c', p, e, h1, h2, h3, hp b p h4, h5⟩
  case fn f cs =>
    obtain ⟨a, e, h⟩ := h
    refine ⟨a, e, ?_⟩
    clear e
    generalize a.toList = vs at h
    induction cs generalizing vs with
    | nil => cases h; exact .nil
    | cons c cs ih =>
      obtain ⟨b, i, j⟩ := c
      cases h with
      | cons hx hr => obtain ⟨p, h1, h2⟩ := hx; exact .cons ⟨p, hp b p h1, h2⟩ (ih _ hr)
section
variable {φ ψ : Phi} {ρ : Nat → Nat}
theorem srs_map {f : SV → SV} (h : ∀ x v, SR φ (f x) v → SR ψ x v) : ∀ {l : List SV} {vs : List Value}, SRs φ (l.map f) vs → SRs ψ l vs
  | [], _, k => by cases k; exact .nil
  | x :: l, _, k => by cases k with | cons hx k => exact .cons (h _ _ hx) (srs_map h k)
theorem srs_unmap {f : SV → SV} (h : ∀ x v, SR φ x v → SR ψ (f x) v) : ∀ {l : List SV} {vs : List Value}, SRs φ l vs → SRs ψ (l.map f) vs
  | [], _, k => by cases k; exact .nil
  | x :: l, _, k => by cases k with | cons hx k => exact .cons (h _ _ hx) (srs_unmap h k)
theorem vr0_ren (h : ∀ x v, SR φ (x.ren ρ) v → SR ψ x v) {x : AV} {v : Value} (k : VR0 φ (x.ren0 ρ) v) : VR0 ψ x v := by
  cases x with
  | no => trivial
  | s x => exact h _ _ k
  | agg l => obtain ⟨cs, e, hs⟩ := k; exact ⟨cs, e, srs_map h hs⟩
  | tup l => exact k
theorem vr0_unren (h : ∀ x v, SR φ x v → SR ψ (x.ren ρ) v) {x : AV} {v : Value} (k : VR0 φ x v) : VR0 ψ (x.ren0 ρ) v := by
  cases x with
  | no => trivial
  | s x => exact h _ _ k
  | agg l => obtain ⟨cs, e, hs⟩ := k; exact ⟨cs, e, srs_unmap h hs⟩
  | tup l => exact k
theorem vrs0_ren (h : ∀ x v, SR φ (x.ren ρ) v → SR ψ x v) : ∀ {l : List AV} {vs : List Value}, VRs0 φ (l.map (AV.ren0 ρ)) vs → VRs0 ψ l vs
  | [], _, k => by cases k; exact .nil
  | x :: l, _, k => by cases k with | cons hx k => exact .cons (vr0_ren h hx) (vrs0_ren h k)
theorem vrs0_unren (h : ∀ x v, SR φ x v → SR ψ (x.ren ρ) v) : ∀ {l : List AV} {vs : List Value}, VRs0 φ l vs → VRs0 ψ (l.map (AV.ren0 ρ)) vs
  | [], _, k => by cases k; exact .nil
  | x :: l, _, k => by cases k with | cons hx k => exact .cons (vr0_unren h hx) (vrs0_unren h k)
theorem vr_ren (h : ∀ x v, SR φ (x.ren ρ) v → SR ψ x v) {x : AV} {v : Value} (k : VR φ (x.ren ρ) v) : VR ψ x v := by
  cases x with
  | no => trivial
  | s x => exact h _ _ k
  | agg l => obtain ⟨cs, e, hs⟩ := k; exact ⟨cs, e, srs_map h hs⟩
  | tup l => obtain ⟨vs, e, hs⟩ := k; exact ⟨vs, e, vrs0_ren h hs⟩
theorem vr_unren (h : ∀ x v, SR φ x v → SR ψ (x.ren ρ) v) {x : AV} {v : Value} (k : VR φ x v) : VR ψ (x.ren ρ) v := by
  cases x with
  | no => trivial
  | s x => exact h _ _ k
  | agg l => obtain ⟨cs, e, hs⟩ := k; exact ⟨cs, e, srs_unmap h hs⟩
  | tup l => obtain ⟨vs, e, hs⟩ := k; exact ⟨vs, e, vrs0_unren h hs⟩
theorem vrs_ren (h : ∀ x v, SR φ (x.ren ρ) v → SR ψ x v) : ∀ {l : List AV} {vs : List Value}, VRs φ (l.map (AV.ren ρ)) vs → VRs ψ l vs
  | [], _, k => by cases k; exact .nil
  | x :: l, _, k => by cases k with | cons hx k => exact .cons (vr_ren h hx) (vrs_ren h k)
end
inductive Wk (σ : List (Option Nat)) (F : List Nat) (H : AHeap) : SV → SV → Prop
  | any {x} : Wk σ F H x .any
  | free {x} : x.free = true → Wk σ F H x x
  | ptr {b b' i j} : σ[b']? = some (some b) → Wk σ F H (.ptr b i j) (.ptr b' i j)
  | sl {b b' i n c c'} : σ[b']? = some (some b) → n ≤ c' → c' ≤ c → Wk σ F H (.sl b i n c) (.sl b' i n c')
  | fn {f cs cs'} : cs.length = cs'.length → (∀ (q : Nat) c c', cs[q]? = some c → cs'[q]? = some c' → σ[c'.1]? = some (some c.1) ∧ c'.2 = c.2) → Wk σ F H (.fn f cs) (.fn f cs')
  | nils {b' i} : σ[b']? = some none → Wk σ F H .nils (.sl b' i 0 0)
  | emp {b' i} : σ[b']? = some none → Wk σ F H .emp (.sl b' i 0 0)
  | lnils {sz} : Wk σ F H .nils (.lst sz [])
  | lemp {sz} : Wk σ F H .emp (.lst sz [])
  | frz {b i n c k sz rows} : b ∈ F → H.get b = some k → k.sz = sz → i + n ≤ k.rows.length → (k.rows.drop i).take n = rows → (∀ r ∈ rows, ∀ x ∈ r, SV.data x = true) → Wk σ F H (.sl b i n c) (.lst sz rows)

  | frzd {b i n c k sz rows} : b ∈ F → H.get b = some k → k.sz = sz → i + n ≤ k.rows.length → rows.length = n → (∀ (q : Nat) r0 r, k.rows[i + q]? = some r0 → rows[q]? = some r → r0.length = r.length) →
    (∀ (q m : Nat) r0 r x0 x, k.rows[i + q]? = some r0 → rows[q]? = some r → r0[m]? = some x0 → r[m]? = some x → Wk σ F H x0 x) → (∀ r ∈ rows, ∀ x ∈ r, SV.data x = true) → Wk σ F H (.sl b i n c) (.lst sz rows)
inductive RowsLe (R : SV → SV → Prop) : List (List SV) → List (List SV) → Prop
  | nil {l} : RowsLe R l []
  | cons {r s l m} : SVsLe R r s → RowsLe R l m → RowsLe R (r :: l) (s :: m)
theorem RowsLe.get {R : SV → SV → Prop} {l m : List (List SV)} (h : RowsLe R l m) : ∀ (i : Nat) s, m[i]? = some s → ∃ r, l[i]? = some r ∧ SVsLe R r s := by
  induction h with
  | nil => intro i s hs; simp at hs
  | cons hr _ ih =>
    intro i s hs
    cases i with
    | zero => simp at hs; subst hs; exact ⟨_, rfl, hr⟩
    | succ i => simpa using ih i s (by simpa using hs)
theorem RowsLe.len {R : SV → SV → Prop} {l m : List (List SV)} (h : RowsLe R l m) : m.length ≤ l.length := by
  induction h with
  | nil => exact Nat.zero_le _
  | cons _ _ ih => simpa using ih
theorem SVsLe.get {R : SV → SV → Prop} {l m : List SV} (h : SVsLe R l m) : l.length = m.length ∧ ∀ (i : Nat) y, m[i]? = some y → ∃ x, l[i]? = some x ∧ R x y := by
  induction h with
  | nil => exact ⟨rfl, fun i y hy => by simp at hy⟩
  | cons hr _ ih =>
    refine ⟨by simp [ih.1], fun i y hy => ?_⟩
    cases i with
    | zero => simp at hy; subst hy; exact ⟨_, rfl, hr⟩
    | succ i => simpa using ih.2 i y (by simpa using hy)
theorem SVsLe.free {σ : List (Option Nat)} {F : List Nat} {H : AHeap} : ∀ {l : List SV}, (∀ x ∈ l, x.free = true) → SVsLe (Wk σ F H) l l
  | [], _ => .nil
  | x :: l, h => .cons (.free (h x (by simp))) (SVsLe.free fun y hy => h y (List.mem_cons_of_mem _ hy))
theorem RowsLe.free {σ : List (Option Nat)} {F : List Nat} {H : AHeap} : ∀ {l m : List (List SV)}, l.take m.length = m → (∀ r ∈ m, ∀ x ∈ r, SV.free x = true) → RowsLe (Wk σ F H) l m
  | _, [], _, _ => .nil
  | [], _ :: _, h, _ => by simp at h
  | r :: l, s :: m, h, hf => by
    simp only [List.length_cons, List.take_succ_cons, List.cons.injEq] at h
    obtain ⟨rfl, h⟩ := h
    exact .cons (SVsLe.free (hf r (by simp))) (RowsLe.free h fun q hq => hf q (List.mem_cons_of_mem _ hq))
def BlkLe (σ : List (Option Nat)) (F : List Nat) (H : AHeap) (o : Option Nat) (k' : Blk) : Prop :=
  match o with
  | some b => ∃ k, H.get b = some k ∧ k.sz = k'.sz ∧ k.ty = k'.ty ∧ RowsLe (Wk σ F H) k.rows k'.rows
  | none => k'.rows = []
theorem canonH {n0 : Nat} {H : AHeap} {σ : List (Option Nat)} {F : List Nat} {bs : List (Option Blk)} (h1 : σ.length = bs.length) (h2 : ∀ j, j < n0 → σ[j]? = some (some j))
    (h3 : ∀ (j : Nat) k' o, bs[j]? = some (some k') → σ[j]? = some o → BlkLe σ F H o k') (h4 : (σ.filterMap id).Nodup) (h5 : ∀ b ∈ F, some b ∉ σ) : WkH n0 H (hp bs) (Wk σ F H) := by
  classical
  intro φ base w hr
  have hinj : ∀ (j j' b : Nat), σ[j]? = some (some b) → σ[j']? = some (some b) → j = j' := by
    intro j j' b hj hj'
    have key : ∀ (l : List (Option Nat)), (l.filterMap id).Nodup → ∀ (j j' b : Nat), l[j]? = some (some b) → l[j']? = some (some b) → j = j' := by
      intro l
      induction l with
      | nil => intro _ j j' b hj; simp at hj
      | cons x l ih =>
        intro hn j j' b hj hj'
        have hn' : (l.filterMap id).Nodup := by
          cases x with
          | none => simpa using hn
          | some y => exact (List.nodup_cons.1 (by simpa using hn)).2
        have hmem : ∀ i : Nat, l[i]? = some (some b) → b ∈ l.filterMap id := fun i hi => List.mem_filterMap.2 ⟨some b, List.mem_of_getElem? hi, rfl⟩
        cases j with
        | zero =>
          cases j' with
          | zero => rfl
          | succ j' =>
            simp at hj hj'
            subst hj
            exact absurd (hmem _ hj') (List.nodup_cons.1 (by simpa using hn)).1
        | succ j =>
          cases j' with
          | zero =>
            simp at hj hj'
            subst hj'
            exact absurd (hmem _ hj) (List.nodup_cons.1 (by simpa using hn)).1
          | succ j' => rw [ih hn' j j' b (by simpa using hj) (by simpa using hj')]
    exact key σ h4 j j' b hj hj'
  let fzb : Nat → Prop := fun r => ∃ b k p, b ∈ F ∧ H.get b = some k ∧ φ b = some p ∧ p.cap ≠ 0 ∧ p.blk = r
  let φ' : Phi := ⟨fun j => match σ[j]? with
    | some (some b) => φ b
    | some none => some ⟨0, 0, 0, match bs[j]? with | some (some k) => k.sz | _ => 0⟩
    | none => none, fun r => if fzb r then w.heap[r]? else φ.fz r⟩
  have pl : ∀ {j b : Nat}, σ[j]? = some (some b) → φ' j = φ b := fun {j b} h => by show (match σ[j]? with | some (some b) => φ b | some none => _ | none => none) = _; rw [h]
  have pn : ∀ {j : Nat}, σ[j]? = some none → ∃ q, φ' j = some q ∧ q.cap = 0 ∧ ∀ k, bs[j]? = some (some k) → q.sz = k.sz := fun {j} h => by
    refine ⟨⟨0, 0, 0, match bs[j]? with | some (some k) => k.sz | _ => 0⟩, ?_, rfl, fun k hk => by simp [hk]⟩
    show (match σ[j]? with | some (some b) => φ b | some none => _ | none => none) = _
    rw [h]
  have hfz : ∀ r o, φ.fz r = some o → φ'.fz r = some o := fun r o h => by
    show (if fzb r then w.heap[r]? else φ.fz r) = some o
    split
    · exact (hr.fz r o h).1
    · exact h
  have mine : ∀ r, Mine φ' (hp bs) r → ∃ j b p, σ[j]? = some (some b) ∧ (∃ k, H.get b = some k) ∧ φ b = some p ∧ p.cap ≠ 0 ∧ p.blk = r := fun r hm => by
    obtain ⟨j, k, p, hb, hp', hc, e⟩ := hm
    have hb : bs[j]? = some (some k) := by
      have : (bs[j]?).join = some k := hb
      cases hx : bs[j]? with
      | none => rw [hx] at this; cases this
      | some y => rw [hx] at this; exact congrArg some this
    have hjl : j < σ.length := by rw [h1]; exact (List.getElem?_eq_some_iff.1 hb).1
    cases ho : σ[j]? with
    | none => rw [List.getElem?_eq_none_iff] at ho; omega
    | some o =>
      cases o with
      | none =>
        obtain ⟨q, hq, hq0, _⟩ := pn ho
        rw [hq] at hp'
        obtain rfl := Option.some.inj hp'
        exact absurd hq0 hc
      | some b =>
        rw [pl ho] at hp'
        obtain ⟨k0, hk0, _⟩ := h3 j k _ hb ho
        exact ⟨j, b, p, ho, ⟨k0, hk0⟩, hp', hc, e⟩
  have hR : ∀ x x' v, Wk σ F H x x' → SR φ x v → SR φ' x' v := fun x x' v hw => by
    induction hw generalizing v with
    | any => intro hs; exact SR.dr (by simp only [DR]; exact hs.one)
    | free hx => intro hs; exact SR.free_any hfz hx hs
    | ptr hb => intro hs; obtain ⟨a, e, p, q1, q2⟩ := hs; exact ⟨a, e, p, by rw [pl hb]; exact q1, q2⟩
    | sl hb hn hc =>
      intro hs
      obtain ⟨a, c', p, e, q1, q2, q3, q4, q5⟩ := hs
      exact ⟨a, c', p, e, hn, by omega, q3, by rw [pl hb]; exact q4, q5⟩
    | fn hl hc =>
      intro hs
      obtain ⟨a, e, hp'⟩ := hs
      refine ⟨a, e, ?_⟩
      rename_i f cs cs'
      clear e
      generalize a.toList = vs at hp'
      induction hp' generalizing cs' with
      | nil => cases cs' with | nil => exact .nil | cons _ _ => simp at hl
      | cons hx _ ih =>
        cases cs' with
        | nil => simp at hl
        | cons c' cs' =>
          obtain ⟨b', i', j'⟩ := c'
          obtain ⟨q1, q2⟩ := hc 0 _ _ rfl rfl
          simp only [Prod.mk.injEq] at q2
          obtain ⟨rfl, rfl⟩ := q2
          obtain ⟨p, q3, q4⟩ := hx
          exact .cons ⟨p, by rw [pl q1]; exact q3, q4⟩ (ih (cs' := cs') (by simpa using hl) fun q c c' h h' => hc (q + 1) c c' (by simpa using h) (by simpa using h'))
    | nils hb =>
      intro hs
      obtain ⟨q, hq, _⟩ := pn hb
      exact ⟨none, 0, q, hs, Nat.le_refl _, Nat.le_refl _, Nat.zero_le _, hq, .inl rfl⟩
    | emp hb =>
      intro hs
      obtain ⟨q, hq, _⟩ := pn hb
      obtain ⟨a, e⟩ := vr_emp (φ := φ) hs
      exact ⟨a, 0, q, e, Nat.le_refl _, Nat.le_refl _, Nat.zero_le _, hq, .inl rfl⟩
    | lnils => intro hs; exact lst_vr (φ := φ') (.inl ⟨rfl, none, 0, hs, Nat.zero_le _, fun _ => rfl⟩)
    | lemp =>
      intro hs
      obtain ⟨a, e⟩ := vr_emp (φ := φ) hs
      exact lst_vr (φ := φ') (.inl ⟨rfl, a, 0, e, Nat.zero_le _, fun _ => rfl⟩)
    | frz hb hk hsz hle hrows hfree =>
      intro hs
      rename_i b i n c k sz rows
      subst hrows
      subst hsz
      obtain ⟨a, c', p, e, q1, q2, q3, q4, q5⟩ := hs
      have hlen : ((k.rows.drop i).take n).length = n := by simp; omega
      refine lst_vr (φ := φ') ?_
      rw [hlen]
      by_cases hn : n = 0
      · subst hn
        rcases Nat.eq_zero_or_pos c' with rfl | hpos
        · exact .inl ⟨by simp, a, 0, e, Nat.zero_le _, fun _ => rfl⟩
        · refine .inl ⟨by simp, a, c', e, q3, fun hnone => ?_⟩
          rcases q5 with q5 | ⟨q5, _⟩
          · exact q5
          · rw [hnone] at q5; cases q5
      · obtain ⟨rfl, hcap⟩ := q5.resolve_left (by omega)
        obtain ⟨p', hp', ok⟩ := hr.blk b k hk
        rw [q4] at hp'
        obtain rfl := Option.some.inj hp'
        have hcap0 : p.cap ≠ 0 := by omega
        obtain ⟨o1, o2, o3, o4, cells, o5, o6⟩ := ok.real hcap0
        have hf : φ'.fz p.blk = some (.cells cells k.ty (0, 0)) := by
          show (if fzb p.blk then w.heap[p.blk]? else φ.fz p.blk) = _
          rw [if_pos ⟨b, k, p, hb, hk, q4, hcap0, rfl⟩, o5]
        refine .inr ⟨p.blk, p.off + i * p.sz, c', _, e, by omega, q3, hf, DRss.of_get fun q r hq => ?_⟩
        have hq' : k.rows[i + q]? = some r := by
          rw [List.getElem?_take] at hq
          split at hq
          · rwa [List.getElem?_drop] at hq
          · cases hq
        obtain ⟨hl, hc⟩ := ok.rows (i + q) r hq'
        refine ⟨hl, DRs.of_get fun m x hx => ?_⟩
        obtain ⟨u, hu, hsr⟩ := hc m x hx
        refine ⟨u, ?_, ?_⟩
        · have : w.cell? ⟨p.blk, p.off + ((i + q) * k.sz + m), none⟩ = some u := hu
          rw [cell_of_obj o5] at this
          rw [← this, ok.sz, Nat.add_mul]
          congr 1
          omega
        · have hxf := hfree r (List.mem_of_getElem? hq) x (List.mem_of_getElem? hx)
          exact DR.ext hfz (SR.data_dr hxf hsr)
    | frzd hb hk hsz hle hlen hcel hwk hfree ih =>
      intro hs
      rename_i b i n c k sz rows
      subst hsz
      obtain ⟨a, c', p, e, q1, q2, q3, q4, q5⟩ := hs
      refine lst_vr (φ := φ') ?_
      rw [hlen]
      by_cases hn : n = 0
      · subst hn
        rcases Nat.eq_zero_or_pos c' with rfl | hpos
        · exact .inl ⟨List.length_eq_zero_iff.1 hlen, a, 0, e, Nat.zero_le _, fun _ => rfl⟩
        · refine .inl ⟨List.length_eq_zero_iff.1 hlen, a, c', e, q3, fun hnone => ?_⟩
          rcases q5 with q5 | ⟨q5, _⟩
          · exact q5
          · rw [hnone] at q5; cases q5
      · obtain ⟨rfl, hcap⟩ := q5.resolve_left (by omega)
        obtain ⟨p', hp', ok⟩ := hr.blk b k hk
        rw [q4] at hp'
        obtain rfl := Option.some.inj hp'
        have hcap0 : p.cap ≠ 0 := by omega
        obtain ⟨o1, o2, o3, o4, cells, o5, o6⟩ := ok.real hcap0
        have hf : φ'.fz p.blk = some (.cells cells k.ty (0, 0)) := by
          show (if fzb p.blk then w.heap[p.blk]? else φ.fz p.blk) = _
          rw [if_pos ⟨b, k, p, hb, hk, q4, hcap0, rfl⟩, o5]
        refine .inr ⟨p.blk, p.off + i * p.sz, c', _, e, by omega, q3, hf, DRss.of_get fun q r hq => ?_⟩
        have hqn : q < n := by have := (List.getElem?_eq_some_iff.1 hq).1; omega
        have hq' : k.rows[i + q]? = some (k.rows[i + q]'(by omega)) := List.getElem?_eq_getElem (by omega)
        generalize k.rows[i + q]'(by omega) = r0 at hq'
        obtain ⟨hl, hc⟩ := ok.rows (i + q) r0 hq'
        have hll := hcel q r0 r hq' hq
        refine ⟨by rw [← hll]; exact hl, DRs.of_get fun m x hx => ?_⟩
        have hm : m < r0.length := by have := (List.getElem?_eq_some_iff.1 hx).1; omega
        have hx0 : r0[m]? = some r0[m] := List.getElem?_eq_getElem hm
        obtain ⟨u, hu, hsr⟩ := hc m _ hx0
        refine ⟨u, ?_, ?_⟩
        · have : w.cell? ⟨p.blk, p.off + ((i + q) * k.sz + m), none⟩ = some u := hu
          rw [cell_of_obj o5] at this
          rw [← this, ok.sz, Nat.add_mul]
          congr 1
          omega
        · have hxf := hfree r (List.mem_of_getElem? hq) x (List.mem_of_getElem? hx)
          exact SR.data_dr hxf (ih q m r0 r _ x hq' hq hx0 hx u hsr)
  have hat : ∀ {j : Nat} {k : Blk}, (hp bs).get j = some k → bs[j]? = some (some k) ∧ ∃ o, σ[j]? = some o ∧ BlkLe σ F H o k := fun {j k} hb => by
    have hb : bs[j]? = some (some k) := by
      have : (bs[j]?).join = some k := hb
      cases hx : bs[j]? with
      | none => rw [hx] at this; cases this
      | some y => rw [hx] at this; exact congrArg some this
    have hjl : j < σ.length := by rw [h1]; exact (List.getElem?_eq_some_iff.1 hb).1
    exact ⟨hb, _, List.getElem?_eq_getElem hjl, h3 j k _ hb (List.getElem?_eq_getElem hjl)⟩
  have hreal : ∀ {j : Nat} {k : Blk} {p : Place}, (hp bs).get j = some k → φ' j = some p → p.cap ≠ 0 → ∃ b k0, σ[j]? = some (some b) ∧ H.get b = some k0 ∧ φ b = some p := fun {j k p} hb hp' hc => by
    obtain ⟨hb, o, ho, hle⟩ := hat hb
    cases o with
    | none =>
      obtain ⟨q, hq, hq0, _⟩ := pn ho
      rw [hq] at hp'
      obtain rfl := Option.some.inj hp'
      exact absurd hq0 hc
    | some b =>
      obtain ⟨k0, hk0, _⟩ := hle
      exact ⟨b, k0, ho, hk0, by rw [← pl ho]; exact hp'⟩
  refine ⟨φ', ⟨fun j k' hb => ?_, fun j j' k k' p p' hb hb' hp hp' hc hc' e => ?_, fun j hj => ?_, hr.base, fun r o ho => ?_, nofull rfl⟩, hR, ⟨fun b p hb hp => by rw [pl (h2 b hb)]; exact hp, hfz⟩, fun r hm => ?_, fun r o ho => ?_⟩
  · obtain ⟨hb, o, ho, hle⟩ := hat hb
    cases o with
    | none =>
      obtain ⟨q, hq, hq0, hqs⟩ := pn ho
      have hrows : k'.rows = [] := hle
      exact ⟨q, hq, ⟨hqs k' hb, fun i r hr => (by rw [hrows] at hr; simp at hr), .inl ⟨hrows, hq0⟩⟩⟩
    | some b =>
      obtain ⟨k, hk, hsz, hty, hrows⟩ := hle
      obtain ⟨p, hp, ok⟩ := hr.blk b k hk
      refine ⟨p, by rw [pl ho]; exact hp, ⟨by rw [ok.sz]; exact hsz, fun i r' hr' => ?_, ?_⟩⟩
      · obtain ⟨r, hr1, hr2⟩ := hrows.get i r' hr'
        obtain ⟨hl, hc⟩ := ok.rows i r hr1
        obtain ⟨q1, q2⟩ := hr2.get
        refine ⟨by rw [← q1, hl]; exact hsz, fun m y hy => ?_⟩
        obtain ⟨x, hx, hxy⟩ := q2 m y hy
        obtain ⟨v, hv, hs⟩ := hc m x hx
        exact ⟨v, by rw [← hsz]; exact hv, hR x y v hxy hs⟩
      · have hlen := hrows.len
        rcases ok.own with o | ⟨o1, o2, o3, o4, cells, o5, o6⟩
        · exact .inl ⟨List.length_eq_zero_iff.1 (by have := o.1; rw [this] at hlen; simpa using hlen), o.2⟩
        · exact .inr ⟨o1, o2, Nat.le_trans hlen o3, o4, cells, by rw [← hty]; exact o5, by rw [← hsz]; exact o6⟩
  · obtain ⟨b, k0, q1, q2, q3⟩ := hreal hb hp hc
    obtain ⟨b', k0', q1', q2', q3'⟩ := hreal hb' hp' hc'
    have := hr.inj b b' k0 k0' p p' q2 q2' q3 q3' hc hc' e
    subst this
    exact hinj j j' b q1 q1'
  · have hj : bs.length ≤ j := hj
    refine ⟨by rw [hp_get, List.getElem?_eq_none hj]; rfl, ?_⟩
    show (match σ[j]? with | some (some b) => φ b | some none => _ | none => none) = none
    rw [List.getElem?_eq_none (by omega)]
  · have ho : (if fzb r then w.heap[r]? else φ.fz r) = some o := ho
    split at ho
    · rename_i hfb
      refine ⟨ho, fun hm => ?_⟩
      obtain ⟨j, b, p, q1, ⟨k, q2⟩, q3, q4, q5⟩ := mine r hm
      obtain ⟨b2, k2, p2, r1, r2, r3, r4, r5⟩ := hfb
      have := hr.inj b b2 k k2 p p2 q2 r2 q3 r3 q4 r4 (q5.trans r5.symm)
      subst this
      exact h5 b r1 (List.mem_of_getElem? q1)
    · refine ⟨(hr.fz r o ho).1, fun hm => ?_⟩
      obtain ⟨j, b, p, q1, ⟨k, q2⟩, q3, q4, q5⟩ := mine r hm
      exact (hr.fz r o ho).2 ⟨b, k, p, q2, q3, q4, q5⟩
  · obtain ⟨j, b, p, q1, ⟨k, q2⟩, q3, q4, q5⟩ := mine r hm
    exact ⟨b, k, p, q2, q3, q4, q5⟩
  · have ho : (if fzb r then w.heap[r]? else φ.fz r) = some o := ho
    split at ho
    · rename_i hfb
      obtain ⟨b2, k2, p2, r1, r2, r3, r4, r5⟩ := hfb
      exact .inr ⟨b2, k2, p2, r2, r3, r4, r5⟩
    · exact .inl ho
theorem W.mk {n0 : Nat} {s s' : St} (σ : List (Option Nat)) (F : List Nat) {bs : List (Option Blk)} (hH : s'.H = hp bs) (h0 : n0 ≤ bs.length) (h1 : σ.length = bs.length) (h2 : ∀ j, j < n0 → σ[j]? = some (some j))
    (h3 : ∀ (j : Nat) k' o, bs[j]? = some (some k') → σ[j]? = some o → BlkLe σ F s.H o k') (h4 : (σ.filterMap id).Nodup) (h5 : ∀ b ∈ F, some b ∉ σ)
    (hf : ∀ p ∈ s'.fr, AVLe (Wk σ F s.H) (fget s.fr p.1) p.2) : W n0 s s' := by
  refine ⟨Wk σ F s.H, by rw [hH]; exact canonH h1 h2 h3 h4 h5, by rw [hH]; exact h0, fun t => ?_⟩
  have key : ∀ (l : Fr), (∀ p ∈ l, AVLe (Wk σ F s.H) (fget s.fr p.1) p.2) → AVLe (Wk σ F s.H) (fget s.fr t) (fget l t) := by
    intro l
    induction l with
    | nil => intro _; exact .one .no
    | cons p l ih =>
      intro h
      obtain ⟨u, v⟩ := p
      show AVLe _ _ (if u = t then v else fget l t)
      split
      · subst_vars; exact h (u, v) (by simp)
      · exact ih fun q hq => h q (List.mem_cons_of_mem _ hq)
  exact key s'.fr hf
theorem W.refl {n0 : Nat} {s : St} (h : n0 ≤ s.H.nx) : W n0 s s :=
  ⟨fun x y => x = y, fun φ base w hr => ⟨φ, hr, fun x x' v e h => e ▸ h, .refl _ _, fun _ h => h, fun _ _ h => .inl h⟩, h, fun t => by
    have hs : ∀ l : List SV, SVsLe (fun x y => x = y) l l := fun l => by induction l with | nil => exact .nil | cons x l ih => exact .cons rfl ih
    have h0 : ∀ x : AV, (∀ l, x ≠ .tup l) → AVLe0 (fun x y => x = y) x x := fun x hx => by
      cases x with
      | no => exact .no
      | s x => exact .s rfl
      | agg l => exact .agg (hs l)
      | tup l => exact absurd rfl (hx l)
    cases hx : fget s.fr t with
    | no => exact .one .no
    | s x => exact .one (.s rfl)
    | agg l => exact .one (.agg (hs l))
    | tup l =>
      refine .tup ?_
      clear hx
      induction l with
      | nil => exact .nil
      | cons x l ih =>
        cases x with
        | tup m => exact .bad ih
        | no => exact .cons .no ih
        | s x => exact .cons (.s rfl) ih
        | agg m => exact .cons (.agg (hs m)) ih⟩
theorem Spec.seen {P : Program} {f : FuncId} {args : List AV} {H : AHeap} {K : AV → AHeap → Prop}
    (h : Spec P f args H fun v G => ∃ (σ : List (Option Nat)) (F : List Nat) (bs : List (Option Blk)) (v' : AV), H.nx ≤ bs.length ∧ σ.length = bs.length ∧ (∀ j, j < H.nx → σ[j]? = some (some j)) ∧
      (∀ (j : Nat) k' o, bs[j]? = some (some k') → σ[j]? = some o → BlkLe σ F G o k') ∧ (σ.filterMap id).Nodup ∧ (∀ b ∈ F, some b ∉ σ) ∧ AVLe (Wk σ F G) v v' ∧ K v' (hp bs)) : Spec P f args H K := by
  intro φ base w cargs hr ha
  refine (h φ base w cargs hr ha).mono fun e w' ⟨v, cv, G, φ1, he, ⟨σ, F, bs, v', k0, k1, k2, k3, k4, k5, k6, k7⟩, hg, hv⟩ => ?_
  obtain ⟨φ', q1, q2, q3, q4, q5⟩ := canonH k1 k2 k3 k4 k5 φ1 base w' hg.rel
  refine ⟨v', cv, hp bs, φ', he, k7, ⟨q1, k0, ⟨fun b p hb => q3.pl b p (Nat.lt_of_not_le fun hn => by rw [(hr.new b hn).2] at hb; cases hb) (hg.ext.pl b p hb), fun r o h => q3.fz r o (hg.ext.fz r o h)⟩, hg.below, hg.kept, fun r hm => hg.mine r (q4 r hm), fun r o h => ?_⟩, k6.vr q2 hv⟩
  rcases q5 r o h with h | h
  · exact hg.fzn r o h
  · exact .inr (hg.mine r h)
end Go.Proofs.YtoeieoapnhhaeaaGreat.Den
namespace Go.Proofs.YtoeieoapnhhaeaaGreat.Den
open Go.RowKit
set_option linter.unusedVariables false
def emb (cs : List Nat) (N b : Nat) : Nat := match cs[b]? with | some c => c | none => b - cs.length + N
def loc (cs : List Nat) (N c : Nat) : Option Nat := if c ∈ cs then some (cs.idxOf c) else if N ≤ c then some (c - N + cs.length) else none
section
variable {cs : List Nat} {N : Nat}
theorem loc_emb (hn : cs.Nodup) (hlt : ∀ c ∈ cs, c < N) (b : Nat) : loc cs N (emb cs N b) = some b := by
  unfold emb loc
  cases h : cs[b]? with
  | some c =>
    have hm : c ∈ cs := List.mem_of_getElem? h
    obtain ⟨hb, rfl⟩ := List.getElem?_eq_some_iff.1 h
    simp only [hm, if_true]
    congr 1
    exact hn.idxOf_getElem b hb
  | none =>
    have hb : cs.length ≤ b := List.getElem?_eq_none_iff.1 h
    have hm : b - cs.length + N ∉ cs := fun hm => by have := hlt _ hm; omega
    simp only [hm, if_false]
    rw [if_pos (by omega)]
    congr 1
    omega
theorem emb_loc {c b : Nat} (h : loc cs N c = some b) : emb cs N b = c := by
  unfold loc at h
  split at h
  · rename_i hm
    obtain rfl := Option.some.inj h
    unfold emb
    have hl := List.idxOf_lt_length_of_mem hm
    rw [List.getElem?_eq_getElem hl, List.getElem_idxOf]
  · split at h
    · obtain rfl := Option.some.inj h
      unfold emb
      rw [List.getElem?_eq_none (by omega)]
      simp
      omega
    · cases h
theorem loc_none {c : Nat} (h : loc cs N c = none) : c ∉ cs ∧ c < N := by
  unfold loc at h
  split at h
  · cases h
  · split at h
    · cases h
    · exact ⟨‹_›, by omega⟩
theorem loc_old {c b : Nat} (h : loc cs N c = some b) (hc : c < N) : b < cs.length ∧ cs[b]? = some c := by
  unfold loc at h
  split at h
  · rename_i hm
    obtain rfl := Option.some.inj h
    have hl := List.idxOf_lt_length_of_mem hm
    exact ⟨hl, by rw [List.getElem?_eq_getElem hl, List.getElem_idxOf]⟩
  · rw [if_neg (by omega)] at h; cases h
theorem emb_big {b : Nat} (h : cs.length ≤ b) : N ≤ emb cs N b := by
  unfold emb
  rw [List.getElem?_eq_none h]
  exact Nat.le_add_left _ _
end
def back (cs : List Nat) (l : List (Option Blk)) (G : AHeap) : AHeap :=
  ⟨fun c => match loc cs l.length c with | some b => (G.get b).map (Blk.ren (emb cs l.length)) | none => (l[c]?).join, l.length + (G.nx - cs.length), none⟩
theorem blk_ren {φ ψ : Phi} {base : Nat} {w : World} {p : Place} {k : Blk} {ρ : Nat → Nat} (h : ∀ x v, SR φ (x.ren ρ) v → SR ψ x v) (ok : BlkOk φ base w p (k.ren ρ)) : BlkOk ψ base w p k where
  sz := ok.sz
  rows := fun i r hr => by
    obtain ⟨hl, hc⟩ := ok.rows i (r.map (SV.ren ρ)) (by simp [Blk.ren, hr])
    have hl : (r.map (SV.ren ρ)).length = k.sz := hl
    refine ⟨by simpa using hl, fun j x hx => ?_⟩
    obtain ⟨v, hv, hs⟩ := hc j (x.ren ρ) (by simp [hx])
    exact ⟨v, hv, h x v hs⟩
  own := by
    rcases ok.own with o | o
    · exact .inl ⟨by simpa [Blk.ren] using o.1, o.2⟩
    · exact .inr ⟨o.1, o.2.1, by simpa [Blk.ren] using o.2.2.1, o.2.2.2⟩
theorem blk_unren {φ ψ : Phi} {base : Nat} {w : World} {p : Place} {k : Blk} {ρ : Nat → Nat} (h : ∀ r ∈ k.rows, ∀ x ∈ r, ∀ v, SR φ x v → SR ψ (x.ren ρ) v) (ok : BlkOk φ base w p k) : BlkOk ψ base w p (k.ren ρ) where
  sz := ok.sz
  rows := fun i r hr => by
    simp only [Blk.ren, List.getElem?_map, Option.map_eq_some_iff] at hr
    obtain ⟨r0, hr0, rfl⟩ := hr
    obtain ⟨hl, hc⟩ := ok.rows i r0 hr0
    refine ⟨by show (r0.map _).length = k.sz; simpa using hl, fun j x hx => ?_⟩
    simp only [List.getElem?_map, Option.map_eq_some_iff] at hx
    obtain ⟨x0, hx0, rfl⟩ := hx
    obtain ⟨v, hv, hs⟩ := hc j x0 hx0
    exact ⟨v, hv, h r0 (List.mem_of_getElem? hr0) x0 (List.mem_of_getElem? hx0) v hs⟩
  own := by
    rcases ok.own with o | o
    · exact .inl ⟨by simpa [Blk.ren] using o.1, o.2⟩
    · exact .inr ⟨o.1, o.2.1, by simpa [Blk.ren] using o.2.2.1, o.2.2.2⟩
theorem hp_some {l : List (Option Blk)} {b : Nat} {k : Blk} (h : (hp l).get b = some k) : l[b]? = some (some k) := by
  have : (l[b]?).join = some k := h
  cases hx : l[b]? with
  | none => rw [hx] at this; cases this
  | some y => rw [hx] at this; exact congrArg some this
theorem hp_of {l : List (Option Blk)} {b : Nat} {k : Blk} (h : l[b]? = some (some k)) : (hp l).get b = some k := by
  rw [hp_get, h]; rfl
theorem Spec.frame {P : Program} {f : FuncId} {args args0 : List AV} {l g : List (Option Blk)} (cs : List Nat) {K K0 : AV → AHeap → Prop} (h : Spec P f args0 (hp g) K0) (ha : args = args0.map (AV.ren (emb cs l.length)))
    (hn : cs.Nodup) (hlt : ∀ c ∈ cs, c < l.length) (hlen : g.length = cs.length) (hG : ∀ (j : Nat) k c, g[j]? = some (some k) → cs[j]? = some c → l[c]? = some (some (k.ren (emb cs l.length))))
    (hk : ∀ v G, K0 v G → cs.length ≤ G.nx → K (v.ren (emb cs l.length)) (back cs l G)) : Spec P f args (hp l) K := by
  intro φ base w cargs hr hargs
  subst ha
  generalize hρ : emb cs l.length = ρ at *
  let ψ : Phi := ⟨fun b => if b < cs.length then φ (ρ b) else none, φ.fz⟩
  have hψ : ∀ b p, φ (ρ b) = some p → ψ b = some p := fun b p h => by
    show (if b < cs.length then φ (ρ b) else none) = some p
    rcases Nat.lt_or_ge b cs.length with hb | hb
    · rw [if_pos hb]; exact h
    · have : φ (ρ b) = none := (hr.new (ρ b) (by rw [← hρ]; exact emb_big hb)).2
      rw [this] at h; cases h
  have ψo : ∀ {b p}, ψ b = some p → b < cs.length ∧ φ (ρ b) = some p := fun {b p} h => by
    have h : (if b < cs.length then φ (ρ b) else none) = some p := h
    split at h
    · exact ⟨‹_›, h⟩
    · cases h
  have hren : ∀ x v, SR φ (x.ren ρ) v → SR ψ x v := fun x v => sr_ren (φ := φ) (ψ := ψ) (fun _ _ h => h) hψ
  have at_ : ∀ {b k}, (hp g).get b = some k → ∃ c, cs[b]? = some c ∧ ρ b = c ∧ (hp l).get c = some (k.ren ρ) := fun {b k} hb => by
    have hb := hp_some hb
    have hbl : b < cs.length := by rw [← hlen]; exact (List.getElem?_eq_some_iff.1 hb).1
    refine ⟨cs[b], List.getElem?_eq_getElem hbl, ?_, hp_of (hG b k _ hb (List.getElem?_eq_getElem hbl))⟩
    rw [← hρ]
    unfold emb
    rw [List.getElem?_eq_getElem hbl]
  have mineψ : ∀ r, Mine ψ (hp g) r → ∃ b c k p, cs[b]? = some c ∧ (hp l).get c = some k ∧ φ c = some p ∧ p.cap ≠ 0 ∧ p.blk = r := fun r ⟨b, k, p, h1, h2, h3, h4⟩ => by
    obtain ⟨c, q1, q2, q3⟩ := at_ h1
    exact ⟨b, c, _, p, q1, q3, by rw [← q2]; exact (ψo h2).2, h3, h4⟩
  have mineφ : ∀ r, Mine ψ (hp g) r → Mine φ (hp l) r := fun r h => by
    obtain ⟨b, c, k, p, q1, q2, q3, q4, q5⟩ := mineψ r h
    exact ⟨c, k, p, q2, q3, q4, q5⟩
  have hrel : Rel ψ base (hp g) w := by
    refine ⟨fun b k hb => ?_, fun b b' k k' p p' hb hb' hp1 hp2 n1 n2 e => ?_, fun b hb => ?_, hr.base, fun r o ho => ⟨(hr.fz r o ho).1, fun hm => (hr.fz r o ho).2 (mineφ r hm)⟩, nofull rfl⟩
    · obtain ⟨c, q1, q2, q3⟩ := at_ hb
      obtain ⟨p, hp1, ok⟩ := hr.blk c _ q3
      exact ⟨p, hψ b p (by rw [q2]; exact hp1), blk_ren hren ok⟩
    · obtain ⟨c, q1, q2, q3⟩ := at_ hb
      obtain ⟨c', q1', q2', q3'⟩ := at_ hb'
      have := hr.inj c c' _ _ p p' q3 q3' (by rw [← q2]; exact (ψo hp1).2) (by rw [← q2']; exact (ψo hp2).2) n1 n2 e
      subst this
      have e1 := loc_emb hn hlt b
      have e2 := loc_emb hn hlt b'
      rw [hρ, q2] at e1
      rw [hρ, q2', e1] at e2
      exact Option.some.inj e2
    · have hb : g.length ≤ b := hb
      refine ⟨by rw [hp_get, List.getElem?_eq_none hb]; rfl, ?_⟩
      show (if b < cs.length then φ (ρ b) else none) = none
      rw [if_neg (by omega)]
  refine (h ψ base w cargs hrel (vrs_ren hren hargs)).mono fun e w' ⟨v, cv, G, ψ', he, hk0, hg, hv⟩ => ?_
  have hGn : cs.length ≤ G.nx := by rw [← hlen]; exact hg.nx
  let φ' : Phi := ⟨fun c => match loc cs l.length c with | some b => ψ' b | none => φ c, ψ'.fz⟩
  have pl : ∀ {c b}, loc cs l.length c = some b → φ' c = ψ' b := fun {c b} h => by show (match loc cs l.length c with | some b => ψ' b | none => φ c) = _; rw [h]
  have pn : ∀ {c}, loc cs l.length c = none → φ' c = φ c := fun {c} h => by show (match loc cs l.length c with | some b => ψ' b | none => φ c) = _; rw [h]
  have gl : ∀ {c b}, loc cs l.length c = some b → (back cs l G).get c = (G.get b).map (Blk.ren ρ) := fun {c b} h => by show (match loc cs l.length c with | some b => (G.get b).map (Blk.ren (emb cs l.length)) | none => (l[c]?).join) = _; rw [h, hρ]
  have gn : ∀ {c}, loc cs l.length c = none → (back cs l G).get c = (hp l).get c := fun {c} h => by show (match loc cs l.length c with | some b => (G.get b).map (Blk.ren (emb cs l.length)) | none => (l[c]?).join) = _; rw [h]; rfl
  have hext : Ext φ φ' := ⟨fun c p hc => by
    have hcl : c < l.length := Nat.lt_of_not_le fun hle => by rw [(hr.new c hle).2] at hc; cases hc
    cases hl : loc cs l.length c with
    | none => rw [pn hl]; exact hc
    | some b =>
      rw [pl hl]
      obtain ⟨h1, h2⟩ := loc_old hl hcl
      refine hg.ext.pl b p (hψ b p ?_)
      have := emb_loc hl
      rw [hρ] at this
      rw [this]; exact hc, hg.ext.fz⟩
  have hunren : ∀ x v, SR ψ' x v → SR φ' (x.ren ρ) v := fun x v => sr_unren (φ := ψ') (ψ := φ') (fun _ _ h => h) fun b p hb => by
    have := loc_emb hn hlt b
    rw [hρ] at this
    rw [pl this]; exact hb
  have old : ∀ {c k p}, (hp l).get c = some k → φ c = some p → p.cap ≠ 0 → c ∉ cs → ¬ Mine ψ (hp g) p.blk := fun {c k p} hc hp1 hn1 hcs hm => by
    obtain ⟨b, c', k', p', q1, q2, q3, q4, q5⟩ := mineψ _ hm
    have := hr.inj c c' k k' p p' hc q2 hp1 q3 hn1 q4 q5.symm
    subst this
    exact hcs (List.mem_of_getElem? q1)
  have mine' : ∀ r, Mine φ' (back cs l G) r → Mine ψ' G r ∨ ∃ c k p, c ∉ cs ∧ (hp l).get c = some k ∧ φ c = some p ∧ p.cap ≠ 0 ∧ p.blk = r := fun r ⟨c, k, p, h1, h2, h3, h4⟩ => by
    cases hl : loc cs l.length c with
    | none =>
      rw [gn hl] at h1
      rw [pn hl] at h2
      exact .inr ⟨c, k, p, (loc_none hl).1, h1, h2, h3, h4⟩
    | some b =>
      rw [gl hl] at h1
      rw [pl hl] at h2
      obtain ⟨k0, hk0, rfl⟩ := Option.map_eq_some_iff.1 h1
      exact .inl ⟨b, k0, p, hk0, h2, h3, h4⟩
  refine ⟨v.ren ρ, cv, back cs l G, φ', he, hk v G hk0 hGn, ⟨⟨fun c k hc => ?_, fun c c' k k' p p' hc hc' hp1 hp2 n1 n2 e => ?_, fun c hc => ?_, hg.rel.base, fun r o ho => ⟨(hg.rel.fz r o ho).1, fun hm => ?_⟩, nofull rfl⟩, by show l.length ≤ l.length + _; omega, hext, hg.below, fun r hr1 hm => hg.kept r hr1 (fun hm' => hm (mineφ r hm')), fun r hm => ?_, fun r o ho => (hg.fzn r o ho).imp id fun h => h.imp id (mineφ r)⟩, vr_unren hunren hv⟩
  · cases hl : loc cs l.length c with
    | none =>
      rw [gn hl] at hc
      obtain ⟨p, hp1, ok⟩ := hr.blk c k hc
      exact ⟨p, hext.pl c p hp1, ok.move hext fun hcap => hg.kept _ (hr.blk_lt hc hp1 hcap).1 (old hc hp1 hcap (loc_none hl).1)⟩
    | some b =>
      rw [gl hl] at hc
      obtain ⟨k0, hk0', rfl⟩ := Option.map_eq_some_iff.1 hc
      obtain ⟨p, hp1, ok⟩ := hg.rel.blk b k0 hk0'
      exact ⟨p, by rw [pl hl]; exact hp1, blk_unren (fun r _ x _ v => hunren x v) ok⟩
  · have two : ∀ {c : Nat} {k : Blk} {p p' : Place}, loc cs l.length c = none → (hp l).get c = some k → φ c = some p → p.cap ≠ 0 → Mine ψ' G p'.blk → p.blk = p'.blk → False := fun {c k p p'} hl hc hp1 hn1 hm e => by
      have hlt1 := (hr.blk_lt hc hp1 hn1).1
      rcases hg.mine _ hm with h | h
      · omega
      · rw [← e] at h
        exact old hc hp1 hn1 (loc_none hl).1 h
    cases hl : loc cs l.length c with
    | none =>
      rw [gn hl] at hc
      rw [pn hl] at hp1
      cases hl' : loc cs l.length c' with
      | none =>
        rw [gn hl'] at hc'
        rw [pn hl'] at hp2
        exact hr.inj c c' k k' p p' hc hc' hp1 hp2 n1 n2 e
      | some b' =>
        rw [gl hl'] at hc'
        rw [pl hl'] at hp2
        obtain ⟨k0, hk0', rfl⟩ := Option.map_eq_some_iff.1 hc'
        exact (two hl hc hp1 n1 ⟨b', k0, p', hk0', hp2, n2, rfl⟩ e).elim
    | some b =>
      rw [gl hl] at hc
      rw [pl hl] at hp1
      obtain ⟨k0, hk0', rfl⟩ := Option.map_eq_some_iff.1 hc
      cases hl' : loc cs l.length c' with
      | none =>
        rw [gn hl'] at hc'
        rw [pn hl'] at hp2
        exact (two hl' hc' hp2 n2 ⟨b, k0, p, hk0', hp1, n1, rfl⟩ e.symm).elim
      | some b' =>
        rw [gl hl'] at hc'
        rw [pl hl'] at hp2
        obtain ⟨k1, hk1', rfl⟩ := Option.map_eq_some_iff.1 hc'
        have := hg.rel.inj b b' k0 k1 p p' hk0' hk1' hp1 hp2 n1 n2 e
        subst this
        have e1 := emb_loc hl
        have e2 := emb_loc hl'
        rw [← e1, ← e2]
  · have hc : l.length + (G.nx - cs.length) ≤ c := hc
    have hm : c ∉ cs := fun hm => by have := hlt c hm; omega
    have hl : loc cs l.length c = some (c - l.length + cs.length) := by
      unfold loc
      rw [if_neg hm, if_pos (by omega)]
    have := hg.rel.new (c - l.length + cs.length) (by omega)
    exact ⟨by rw [gl hl, this.1]; rfl, by rw [pl hl]; exact this.2⟩
  · rcases mine' r hm with hm | ⟨c, k, p, q1, q2, q3, q4, rfl⟩
    · exact (hg.rel.fz r o ho).2 hm
    · have hlt1 := (hr.blk_lt q2 q3 q4).1
      rcases hg.fzn _ o ho with h | h | h
      · exact (hr.fz _ o h).2 ⟨c, k, p, q2, q3, q4, rfl⟩
      · omega
      · exact old q2 q3 q4 q1 h
  · rcases mine' r hm with hm | ⟨c, k, p, q1, q2, q3, q4, q5⟩
    · exact (hg.mine r hm).imp id (mineφ r)
    · exact .inr ⟨c, k, p, q2, q3, q4, q5⟩
inductive AVsLe (R : SV → SV → Prop) : List AV → List AV → Prop
  | nil : AVsLe R [] []
  | cons {x y l m} : AVLe R x y → AVsLe R l m → AVsLe R (x :: l) (y :: m)
theorem AVsLe.vrs {R : SV → SV → Prop} {φ φ' : Phi} (h : ∀ x x' v, R x x' → SR φ x v → SR φ' x' v) {l m : List AV} (hl : AVsLe R l m) : ∀ {vs : List Value}, VRs φ l vs → VRs φ' m vs := by
  induction hl with
  | nil => intro vs hs; cases hs; exact .nil
  | cons hr _ ih => intro vs hs; cases hs with | cons hx hs => exact .cons (hr.vr h hx) (ih hs)
abbrev Lent (l : List (Option Blk)) : SV → SV → Prop := Wk [] (List.range l.length) (hp l)
def SV.scalar : SV → Bool
  | .int _ _ => true
  | .bool _ => true
  | .str _ => true
  | .nils => true
  | .nilp => true
  | .nilf => true
  | _ => false
def SV.plain : SV → Bool
  | .lst _ _ => false
  | .fptr _ _ => false
  | _ => true
theorem sr_unren_plain {φ ψ : Phi} {ρ : Nat → Nat} (hp : ∀ b p, φ b = some p → ψ (ρ b) = some p) {x : SV} (hx : x.plain = true) {v : Value} (h : SR φ x v) : SR ψ (x.ren ρ) v := by
  cases x <;> first | (cases hx; done) | skip
  case ptr b i j => obtain ⟨a, e, p, h1, h2⟩ := h; exact ⟨a, e, p, hp b p h1, h2⟩
  case sl b i n c => obtain ⟨a, c', p, e, h1, h2, h3, h4, h5⟩ := h; exact ⟨a, c', p, e, h1, h2, h3, hp b p h4, h5⟩
  case fn f cs =>
    obtain ⟨a, e, h⟩ := h
    refine ⟨a, e, ?_⟩
    clear e
    generalize a.toList = vs at h
    clear hx
    induction cs generalizing vs with
    | nil => cases h; exact .nil
    | cons c cs ih =>
      obtain ⟨b, i, j⟩ := c
      cases h with
      | cons hx hr => obtain ⟨p, h1, h2⟩ := hx; exact .cons ⟨p, hp b p h1, h2⟩ (ih _ hr)
  all_goals exact h
def AV.all (p : SV → Bool) : AV → Bool
  | .no => true
  | .s x => p x
  | .agg l => l.all p
  | .tup l => l.all fun y => match y with | .no => true | .s x => p x | .agg l => l.all p | .tup _ => false
theorem vr0_plain {φ ψ : Phi} {ρ : Nat → Nat} (h : ∀ x v, SV.plain x = true → SR φ x v → SR ψ (x.ren ρ) v) {x : AV} {v : Value} (hx : (match x with | .no => true | .s x => x.plain | .agg l => l.all SV.plain | .tup _ => false) = true) (k : VR0 φ x v) : VR0 ψ (x.ren0 ρ) v := by
  cases x with
  | no => trivial
  | s x => exact h _ _ hx k
  | agg l =>
    obtain ⟨cs, e, hs⟩ := k
    refine ⟨cs, e, ?_⟩
    clear e
    generalize cs.toList = vs at hs
    induction hs with
    | nil => exact .nil
    | cons hy _ ih =>
      simp only [List.all_cons, Bool.and_eq_true] at hx
      exact .cons (h _ _ hx.1 hy) (ih hx.2)
  | tup l => exact k
theorem vrs0_plain {φ ψ : Phi} {ρ : Nat → Nat} (h : ∀ x v, SV.plain x = true → SR φ x v → SR ψ (x.ren ρ) v) : ∀ {l : List AV} {us : List Value}, (l.all fun y => match y with | .no => true | .s x => SV.plain x | .agg l => l.all SV.plain | .tup _ => false) = true → VRs0 φ l us → VRs0 ψ (l.map (AV.ren0 ρ)) us
  | [], _, _, hs => by cases hs; exact .nil
  | y :: l, _, hx, hs => by
    cases hs with
    | cons hy hs =>
      simp only [List.all_cons, Bool.and_eq_true] at hx
      exact .cons (vr0_plain h hx.1 hy) (vrs0_plain h hx.2 hs)
theorem vr_plain {φ ψ : Phi} {ρ : Nat → Nat} (h : ∀ x v, SV.plain x = true → SR φ x v → SR ψ (x.ren ρ) v) {x : AV} {v : Value} (hx : x.all SV.plain = true) (k : VR φ x v) : VR ψ (x.ren ρ) v := by
  cases x with
  | no => trivial
  | s x => exact h _ _ hx k
  | agg l => exact vr0_plain (x := .agg l) h hx k
  | tup l =>
    obtain ⟨vs, e, hs⟩ := k
    exact ⟨vs, e, vrs0_plain h hx hs⟩
theorem sr_scalar {φ ψ : Phi} {x : SV} {v : Value} (hx : SV.scalar x = true) (hs : SR ψ x v) : SR φ x v := by cases x <;> first | exact hs | (cases hx; done)
theorem srs_scalar {φ ψ : Phi} : ∀ {l : List SV} {vs : List Value}, l.all SV.scalar = true → SRs ψ l vs → SRs φ l vs
  | [], _, _, hs => by cases hs; exact .nil
  | y :: l, _, hl, hs => by
    cases hs with
    | cons hy hs =>
      simp only [List.all_cons, Bool.and_eq_true] at hl
      exact .cons (sr_scalar hl.1 hy) (srs_scalar hl.2 hs)
theorem vrs0_scalar {φ ψ : Phi} : ∀ {l : List AV} {us : List Value}, (l.all fun y => match y with | .no => true | .s x => SV.scalar x | .agg l => l.all SV.scalar | .tup _ => false) = true → VRs0 ψ l us → VRs0 φ l us
  | [], _, _, hs => by cases hs; exact .nil
  | y :: l, _, hx, hs => by
    cases hs with
    | cons hy hs =>
      simp only [List.all_cons, Bool.and_eq_true] at hx
      refine .cons ?_ (vrs0_scalar hx.2 hs)
      cases y with
      | no => trivial
      | s x => exact sr_scalar (φ := φ) hx.1 hy
      | agg m => obtain ⟨a, e1, hs⟩ := hy; exact ⟨a, e1, srs_scalar hx.1 hs⟩
      | tup m => exact hy
theorem vr_scalar {φ ψ : Phi} {x : AV} {v : Value} (hx : x.all SV.scalar = true) (k : VR ψ x v) : VR φ x v := by
  cases x with
  | no => trivial
  | s x => exact sr_scalar (φ := φ) hx k
  | agg m => obtain ⟨a, e1, hs⟩ := k; exact ⟨a, e1, srs_scalar hx hs⟩
  | tup l =>
    obtain ⟨vs, e, hs⟩ := k
    exact ⟨vs, e, vrs0_scalar hx hs⟩
theorem lentH (l : List (Option Blk)) : WkH 0 (hp l) (hp []) (Lent l) :=
  canonH rfl (fun j hj => absurd hj (Nat.not_lt_zero j)) (fun j k' o h => by simp at h) List.nodup_nil (fun b _ => List.not_mem_nil)
theorem Spec.lend {P : Program} {f : FuncId} {args args0 : List AV} {l : List (Option Blk)} {K K0 : AV → AHeap → Prop} (h : Spec P f args0 (hp []) K0) (ha : AVsLe (Lent l) args args0)
    (hk : ∀ v G, K0 v G → ∃ bs, G = hp bs ∧ v.all SV.plain = true ∧ (∀ k, some k ∈ bs → ∀ r ∈ k.rows, ∀ x ∈ r, SV.plain x = true) ∧ K (v.ren (emb [] l.length)) (back [] l G)) : Spec P f args (hp l) K := by
  intro φ base w cargs hr hargs
  obtain ⟨ψ, hrel, hR, _, _, _⟩ := lentH l φ base w hr
  refine (h ψ base w cargs hrel (ha.vrs hR hargs)).mono fun e w' ⟨v, cv, G, ψ', he, hk0, hg, hv⟩ => ?_
  obtain ⟨bs, rfl, hvp, hbp, hK⟩ := hk v G hk0
  have hno : ∀ r, ¬ Mine ψ (hp []) r := fun r ⟨b, k, p, h1, _⟩ => by simp [hp_get] at h1
  have hkept : ∀ r, r < w.heap.size → w'.heap[r]? = w.heap[r]? := fun r hr1 => hg.kept r hr1 (hno r)
  have hnew : ∀ r, Mine ψ' (hp bs) r → w.heap.size ≤ r := fun r hm => (hg.mine r hm).resolve_right (hno r)
  let φ' : Phi := ⟨fun c => if c < l.length then φ c else ψ' (c - l.length), φ.fz⟩
  have p1 : ∀ {c}, c < l.length → φ' c = φ c := fun {c} h => if_pos h
  have p2 : ∀ {c}, ¬ c < l.length → φ' c = ψ' (c - l.length) := fun {c} h => if_neg h
  have hext : Ext φ φ' := ⟨fun c p hc => by
    have hcl : c < l.length := Nat.lt_of_not_le fun hle => by rw [(hr.new c hle).2] at hc; cases hc
    rw [p1 hcl]; exact hc, fun _ _ h => h⟩
  have hemb : ∀ b, emb [] l.length b = b + l.length := fun b => by unfold emb; simp
  have hun : ∀ x v, SV.plain x = true → SR ψ' x v → SR φ' (x.ren (emb [] l.length)) v := fun x v hx => sr_unren_plain (fun b p hb => by rw [hemb, p2 (by omega), Nat.add_sub_cancel]; exact hb) hx
  have hloc : ∀ c, loc [] l.length c = if l.length ≤ c then some (c - l.length) else none := fun c => by unfold loc; simp
  have g1 : ∀ {c}, c < l.length → (back [] l (hp bs)).get c = (hp l).get c := fun {c} h => by
    show (match loc [] l.length c with | some b => _ | none => _) = _
    rw [hloc, if_neg (by omega)]; rfl
  have g2 : ∀ {c}, ¬ c < l.length → (back [] l (hp bs)).get c = ((hp bs).get (c - l.length)).map (Blk.ren (emb [] l.length)) := fun {c} h => by
    show (match loc [] l.length c with | some b => _ | none => _) = _
    rw [hloc, if_pos (by omega)]
  have mine' : ∀ r, Mine φ' (back [] l (hp bs)) r → Mine φ (hp l) r ∨ Mine ψ' (hp bs) r := fun r ⟨c, k, p, h1, h2, h3, h4⟩ => by
    by_cases hc : c < l.length
    · rw [g1 hc] at h1; rw [p1 hc] at h2; exact .inl ⟨c, k, p, h1, h2, h3, h4⟩
    · rw [g2 hc] at h1; rw [p2 hc] at h2
      obtain ⟨k0, hk0', rfl⟩ := Option.map_eq_some_iff.1 h1
      exact .inr ⟨_, k0, p, hk0', h2, h3, h4⟩
  refine ⟨v.ren (emb [] l.length), cv, back [] l (hp bs), φ', he, hK, ⟨⟨fun c k hc => ?_, fun c c' k k' p p' hc hc' hp1 hp2 n1 n2 e => ?_, fun c hc => ?_, hg.rel.base, fun r o ho => ?_, nofull rfl⟩, by show l.length ≤ l.length + _; omega, hext, hg.below, fun r hr1 _ => hkept r hr1, fun r hm => ?_, fun r o ho => .inl ho⟩, vr_plain hun hvp hv⟩
  · by_cases hcl : c < l.length
    · rw [g1 hcl] at hc
      obtain ⟨p, hp1, ok⟩ := hr.blk c k hc
      exact ⟨p, hext.pl c p hp1, ok.move hext fun hcap => hkept _ (hr.blk_lt hc hp1 hcap).1⟩
    · rw [g2 hcl] at hc
      obtain ⟨k0, hk0', rfl⟩ := Option.map_eq_some_iff.1 hc
      obtain ⟨p, hp1, ok⟩ := hg.rel.blk _ k0 hk0'
      exact ⟨p, by rw [p2 hcl]; exact hp1, blk_unren (fun r hr x hx v => hun x v (hbp k0 (List.mem_of_getElem? (hp_some hk0')) r hr x hx)) ok⟩
  · by_cases hcl : c < l.length <;> by_cases hcl' : c' < l.length
    · rw [g1 hcl] at hc; rw [g1 hcl'] at hc'; rw [p1 hcl] at hp1; rw [p1 hcl'] at hp2
      exact hr.inj c c' k k' p p' hc hc' hp1 hp2 n1 n2 e
    · rw [g1 hcl] at hc; rw [g2 hcl'] at hc'; rw [p1 hcl] at hp1; rw [p2 hcl'] at hp2
      obtain ⟨k0, hk0', rfl⟩ := Option.map_eq_some_iff.1 hc'
      have := hnew _ ⟨_, k0, p', hk0', hp2, n2, rfl⟩
      have := (hr.blk_lt hc hp1 n1).1
      omega
    · rw [g2 hcl] at hc; rw [g1 hcl'] at hc'; rw [p2 hcl] at hp1; rw [p1 hcl'] at hp2
      obtain ⟨k0, hk0', rfl⟩ := Option.map_eq_some_iff.1 hc
      have := hnew _ ⟨_, k0, p, hk0', hp1, n1, rfl⟩
      have := (hr.blk_lt hc' hp2 n2).1
      omega
    · rw [g2 hcl] at hc; rw [g2 hcl'] at hc'; rw [p2 hcl] at hp1; rw [p2 hcl'] at hp2
      obtain ⟨k0, hk0', rfl⟩ := Option.map_eq_some_iff.1 hc
      obtain ⟨k1, hk1', rfl⟩ := Option.map_eq_some_iff.1 hc'
      have := hg.rel.inj _ _ k0 k1 p p' hk0' hk1' hp1 hp2 n1 n2 e
      omega
  · have hc : l.length + (bs.length - 0) ≤ c := hc
    have := hg.rel.new (c - l.length) (by show bs.length ≤ _; omega)
    exact ⟨by rw [g2 (by omega), this.1]; rfl, by rw [p2 (by omega)]; exact this.2⟩
  · obtain ⟨h1, h2⟩ := hr.fz r o ho
    have hlt := (Array.getElem?_eq_some_iff.1 h1).1
    refine ⟨by rw [hkept r hlt]; exact h1, fun hm => ?_⟩
    rcases mine' r hm with hm | hm
    · exact h2 hm
    · have := hnew r hm; omega
  · rcases mine' r hm with hm | hm
    · exact .inr hm
    · exact .inl (hnew r hm)
theorem Spec.obs {P : Program} {f : FuncId} {args args0 : List AV} {l : List (Option Blk)} {K : AV → AHeap → Prop} {v0 : AV} (h : Spec P f args0 (hp []) fun v _ => v = v0) (ha : AVsLe (Lent l) args args0) (hv : v0.all SV.scalar = true) (hk : K v0 (hp l)) : Spec P f args (hp l) K := by
  intro φ base w cargs hr hargs
  obtain ⟨ψ, hrel, hR, _, _, _⟩ := lentH l φ base w hr
  refine (h ψ base w cargs hrel (ha.vrs hR hargs)).mono fun e w' ⟨v, cv, G, ψ', he, hk0, hg, hvr⟩ => ?_
  subst hk0
  have hno : ∀ r, ¬ Mine ψ (hp []) r := fun r ⟨b, k, p, h1, _⟩ => by simp [hp_get] at h1
  have hkept : ∀ r, r < w.heap.size → w'.heap[r]? = w.heap[r]? := fun r hr1 => hg.kept r hr1 (hno r)
  refine ⟨v, cv, hp l, φ, he, hk, ⟨⟨fun c k hc => ?_, hr.inj, hr.new, hg.rel.base, fun r o ho => ?_, nofull rfl⟩, Nat.le_refl _, Ext.refl _, hg.below, fun r hr1 _ => hkept r hr1, fun r hm => .inr hm, fun r o ho => .inl ho⟩, ?_⟩
  · obtain ⟨p, hp1, ok⟩ := hr.blk c k hc
    exact ⟨p, hp1, ok.move (Ext.refl _) fun hcap => hkept _ (hr.blk_lt hc hp1 hcap).1⟩
  · obtain ⟨h1, h2⟩ := hr.fz r o ho
    exact ⟨by rw [hkept r (Array.getElem?_eq_some_iff.1 h1).1]; exact h1, h2⟩
  · exact vr_scalar hv hvr
end Go.Proofs.YtoeieoapnhhaeaaGreat.Den
namespace Go.Proofs.YtoeieoapnhhaeaaGreat.Den
open Go.RowKit
set_option linter.unusedVariables false
def wr : List (Option Blk) → List Nat → List (Option Blk) → List (Option Blk)
  | l, c :: cs, x :: xs => wr (l.set c x) cs xs
  | l, _, _ => l
theorem wr_len : ∀ (cs : List Nat) (l xs : List (Option Blk)), (wr l cs xs).length = l.length
  | [], l, xs => by cases xs <;> rfl
  | c :: cs, l, [] => rfl
  | c :: cs, l, x :: xs => by rw [wr, wr_len cs]; simp
theorem wr_not : ∀ (cs : List Nat) (l xs : List (Option Blk)) (c : Nat), c ∉ cs → (wr l cs xs)[c]? = l[c]?
  | [], l, xs, c, _ => by cases xs <;> rfl
  | d :: cs, l, [], c, _ => rfl
  | d :: cs, l, x :: xs, c, h => by
    simp only [List.mem_cons, not_or] at h
    rw [wr, wr_not cs _ xs c h.2, List.getElem?_set_ne (Ne.symm h.1)]
theorem wr_at : ∀ (cs : List Nat) (l xs : List (Option Blk)), cs.Nodup → (∀ c ∈ cs, c < l.length) → cs.length = xs.length → ∀ (j c : Nat), cs[j]? = some c → (wr l cs xs)[c]? = xs[j]?
  | [], l, xs, _, _, _, j, c, h => by simp at h
  | d :: cs, l, [], _, _, h, j, c, _ => by simp at h
  | d :: cs, l, x :: xs, hn, hl, hlen, j, c, h => by
    rw [List.nodup_cons] at hn
    cases j with
    | zero =>
      simp at h
      subst h
      rw [wr, wr_not cs _ xs d hn.1, List.getElem?_set_self (hl d (by simp))]
      rfl
    | succ j =>
      rw [wr, wr_at cs _ xs hn.2 (fun c hc => by rw [List.length_set]; exact hl c (List.mem_cons_of_mem _ hc)) (by simpa using hlen) j c (by simpa using h)]
      rfl
theorem back_hp {cs : List Nat} {l xs bs : List (Option Blk)} (hn : cs.Nodup) (hl : ∀ c ∈ cs, c < l.length) (hlen : xs.length = cs.length) :
    back cs l (hp (xs ++ bs)) = hp (wr l cs (xs.map (Option.map (Blk.ren (emb cs l.length)))) ++ bs.map (Option.map (Blk.ren (emb cs l.length)))) := by
  unfold back hp
  congr 1
  · funext c
    show (match loc cs l.length c with | some b => ((((xs ++ bs)[b]?).join).map (Blk.ren (emb cs l.length))) | none => (l[c]?).join) = _
    have hm : ∀ (m : List (Option Blk)) (b : Nat), (m[b]?).join.map (Blk.ren (emb cs l.length)) = ((m.map (Option.map (Blk.ren (emb cs l.length))))[b]?).join := fun m b => by
      rw [List.getElem?_map]
      cases m[b]? with
      | none => rfl
      | some x => rfl
    cases h : loc cs l.length c with
    | none =>
      obtain ⟨h1, h2⟩ := loc_none h
      simp only
      rw [List.getElem?_append_left (by rw [wr_len]; exact h2), wr_not cs _ _ c h1]
    | some b =>
      simp only
      rw [hm, List.map_append]
      have he := emb_loc h
      by_cases hc : c ∈ cs
      · have hcl := hl c hc
        obtain ⟨hb, hb2⟩ := loc_old h hcl
        rw [List.getElem?_append_left (by simp; omega), List.getElem?_append_left (by rw [wr_len]; exact hcl), wr_at cs l _ hn hl (by simp [hlen]) b c hb2]
      · have hcl : ¬ c < l.length := fun hlt => hc (List.mem_of_getElem? (loc_old h hlt).2)
        have hb : b = c - l.length + cs.length := by
          unfold loc at h
          rw [if_neg hc, if_pos (by omega)] at h
          exact (Option.some.inj h).symm
        rw [List.getElem?_append_right (by simp; omega), List.getElem?_append_right (by rw [wr_len]; omega), wr_len]
        congr 2
        simp
        omega
  · simp [wr_len]
    omega
theorem back_nil {l bs : List (Option Blk)} : back [] l (hp bs) = hp (l ++ bs.map (Option.map (Blk.ren (emb [] l.length)))) := by
  have := back_hp (cs := []) (l := l) (xs := []) (bs := bs) List.nodup_nil (fun c hc => by cases hc) rfl
  simpa [wr] using this
theorem ren_rows {α : Type} {f : α → List SV} {ρ : Nat → Nat} (h : ∀ x, (f x).map (SV.ren ρ) = f x) (xs : List α) : (xs.map f).map (List.map (SV.ren ρ)) = xs.map f := by
  rw [List.map_map]
  exact List.map_congr_left fun x _ => h x
theorem blk_ren_mk {ρ : Nat → Nat} {sz ty : Nat} {rows : List (List SV)} : Blk.ren ρ ⟨sz, ty, rows⟩ = ⟨sz, ty, rows.map (List.map (SV.ren ρ))⟩ := rfl
theorem emb_nil {N b : Nat} : emb [] N b = b + N := by unfold emb; simp
theorem Spec.over {P : Program} {f : FuncId} {args : List AV} {l bs : List (Option Blk)} {v : AV} {K : AV → AHeap → Prop} (h : Spec P f args (hp []) fun v' G => v' = v ∧ G = hp bs) (ha : args = args.map (AV.ren (emb [] l.length)))
    (hk : K (v.ren (emb [] l.length)) (hp (l ++ bs.map (Option.map (Blk.ren (emb [] l.length)))))) : Spec P f args (hp l) K :=
  Spec.frame [] h ha List.nodup_nil (fun c hc => by cases hc) rfl (fun j k c hj => by simp at hj) (fun v' G ⟨hv, hG⟩ _ => by subst hv; subst hG; rw [back_nil]; exact hk)
theorem Spec.pure {P : Program} {f : FuncId} {args : List AV} {l : List (Option Blk)} {v : AV} {K : AV → AHeap → Prop} (h : Spec P f args (hp []) fun v' G => v' = v ∧ G = hp []) (ha : args = args.map (AV.ren (emb [] l.length))) (hv : v = v.ren (emb [] l.length))
    (hk : K v (hp l)) : Spec P f args (hp l) K :=
  Spec.over h ha (by rw [← hv]; simpa using hk)
def SV.base : SV → Bool
  | .ptr _ _ _ => false
  | .sl _ _ _ _ => false
  | .fn _ _ => false
  | .lst _ _ => false
  | .fptr _ _ => false
  | _ => true
theorem base_ren {ρ : Nat → Nat} {bs : List (Option Blk)} (h : ∀ k, some k ∈ bs → ∀ r ∈ k.rows, ∀ x ∈ r, SV.base x = true) : bs.map (Option.map (Blk.ren ρ)) = bs := by
  conv => rhs; rw [← List.map_id bs]
  refine List.map_congr_left fun k hk => ?_
  cases k with
  | none => rfl
  | some k =>
    have hr : k.rows.map (·.map (SV.ren ρ)) = k.rows := by
      conv => rhs; rw [← List.map_id k.rows]
      refine List.map_congr_left fun r hr => ?_
      show r.map (SV.ren ρ) = r
      conv => rhs; rw [← List.map_id r]
      exact List.map_congr_left fun x hx => SV.ren_free (by have := h k hk r hr x hx; cases x <;> first | rfl | (cases this; done))
    show some (k.ren ρ) = some k
    unfold Blk.ren
    rw [hr]
theorem Spec.lend1 {P : Program} {f : FuncId} {args args0 : List AV} {l bs : List (Option Blk)} {v : AV} {K : AV → AHeap → Prop} (h : Spec P f args0 (hp []) fun v' G => v' = v ∧ G = hp bs) (ha : AVsLe (Lent l) args args0)
    (hv : v.all SV.plain = true) (hb : ∀ k, some k ∈ bs → ∀ r ∈ k.rows, ∀ x ∈ r, SV.base x = true) (hk : K (v.ren (emb [] l.length)) (hp (l ++ bs))) : Spec P f args (hp l) K :=
  Spec.lend h ha fun v' G ⟨h1, h2⟩ => by
    subst h1
    subst h2
    refine ⟨bs, rfl, hv, fun k hk' r hr x hx => ?_, ?_⟩
    · have := hb k hk' r hr x hx
      cases x <;> first | rfl | (cases this; done)
    · rw [back_nil, base_ren hb]
      exact hk
inductive Fits (ρ : Nat → Nat) (l : List (Option Blk)) : List (Option Blk) → List Nat → Prop
  | nil : Fits ρ l [] []
  | cons {k c g cs} : l[c]? = some (some (k.ren ρ)) → Fits ρ l g cs → Fits ρ l (some k :: g) (c :: cs)
theorem Fits.len {ρ : Nat → Nat} {l g : List (Option Blk)} {cs : List Nat} (h : Fits ρ l g cs) : g.length = cs.length := by
  induction h with
  | nil => rfl
  | cons _ _ ih => simp [ih]
theorem Fits.get {ρ : Nat → Nat} {l g : List (Option Blk)} {cs : List Nat} (h : Fits ρ l g cs) : ∀ (j : Nat) k c, g[j]? = some (some k) → cs[j]? = some c → l[c]? = some (some (k.ren ρ)) := by
  induction h with
  | nil => intro j k c h; simp at h
  | cons hx _ ih =>
    intro j k c h1 h2
    cases j with
    | zero => simp at h1 h2; subst h1; subst h2; exact hx
    | succ j => exact ih j k c (by simpa using h1) (by simpa using h2)
theorem Fits.lt {ρ : Nat → Nat} {l g : List (Option Blk)} {cs : List Nat} (h : Fits ρ l g cs) : ∀ c ∈ cs, c < l.length := by
  induction h with
  | nil => intro c hc; cases hc
  | cons hx _ ih =>
    intro d hd
    rcases List.mem_cons.1 hd with rfl | hd
    · exact (List.getElem?_eq_some_iff.1 hx).1
    · exact ih d hd
theorem Spec.fr {P : Program} {f : FuncId} {args args0 : List AV} {l g xs bs : List (Option Blk)} {v : AV} {K : AV → AHeap → Prop} (cs : List Nat) (h : Spec P f args0 (hp g) fun v' G => v' = v ∧ G = hp (xs ++ bs)) (hf : Fits (emb cs l.length) l g cs) (hn : cs.Nodup) (hx : xs.length = cs.length) (ha : args = args0.map (AV.ren (emb cs l.length)))
    (hk : K (v.ren (emb cs l.length)) (hp (wr l cs (xs.map (Option.map (Blk.ren (emb cs l.length)))) ++ bs.map (Option.map (Blk.ren (emb cs l.length)))))) : Spec P f args (hp l) K :=
  Spec.frame cs h ha hn hf.lt hf.len hf.get (fun v' G ⟨hv, hG⟩ _ => by subst hv; subst hG; rw [back_hp hn hf.lt hx]; exact hk)
theorem Spec.frE {P : Program} {f : FuncId} {args args0 : List AV} {l g : List (Option Blk)} {R : AV → List (Option Blk) → List (Option Blk) → Prop} {K : AV → AHeap → Prop} (cs : List Nat) (h : Spec P f args0 (hp g) fun v G => ∃ xs bs, xs.length = cs.length ∧ R v xs bs ∧ G = hp (xs ++ bs)) (hf : Fits (emb cs l.length) l g cs) (hn : cs.Nodup) (ha : args = args0.map (AV.ren (emb cs l.length)))
    (hk : ∀ v xs bs, xs.length = cs.length → R v xs bs → K (v.ren (emb cs l.length)) (hp (wr l cs (xs.map (Option.map (Blk.ren (emb cs l.length)))) ++ bs.map (Option.map (Blk.ren (emb cs l.length)))))) : Spec P f args (hp l) K :=
  Spec.frame cs h ha hn hf.lt hf.len hf.get (fun v G ⟨xs, bs, hx, hR, hG⟩ _ => by subst hG; rw [back_hp hn hf.lt hx]; exact hk v xs bs hx hR)
inductive BlksLe (σ : List (Option Nat)) (F : List Nat) (H : AHeap) : List (Option Nat) → List (Option Blk) → Prop
  | nil : BlksLe σ F H [] []
  | cons {o k s b} : BlkLe σ F H o k → BlksLe σ F H s b → BlksLe σ F H (o :: s) (some k :: b)
  | skip {o s b} : BlksLe σ F H s b → BlksLe σ F H (o :: s) (none :: b)
theorem BlksLe.len {σ : List (Option Nat)} {F : List Nat} {H : AHeap} {s : List (Option Nat)} {b : List (Option Blk)} (h : BlksLe σ F H s b) : s.length = b.length := by
  induction h with
  | nil => rfl
  | cons _ _ ih => simp [ih]
  | skip _ ih => simp [ih]
theorem BlksLe.get {σ : List (Option Nat)} {F : List Nat} {H : AHeap} {s : List (Option Nat)} {b : List (Option Blk)} (h : BlksLe σ F H s b) : ∀ (j : Nat) k' o, b[j]? = some (some k') → s[j]? = some o → BlkLe σ F H o k' := by
  induction h with
  | nil => intro j k' o h; simp at h
  | cons hx _ ih =>
    intro j k' o h1 h2
    cases j with
    | zero => simp at h1 h2; subst h1; subst h2; exact hx
    | succ j => exact ih j k' o (by simpa using h1) (by simpa using h2)
  | skip _ ih =>
    intro j k' o h1 h2
    cases j with
    | zero => simp at h1
    | succ j => exact ih j k' o (by simpa using h1) (by simpa using h2)
theorem BlkLe.keep {σ : List (Option Nat)} {F : List Nat} {H : AHeap} {b : Nat} {k k' : Blk} (h : H.get b = some k) (hs : k.sz = k'.sz) (ht : k.ty = k'.ty) (hr : RowsLe (Wk σ F H) k.rows k'.rows) : BlkLe σ F H (some b) k' := ⟨k, h, hs, ht, hr⟩
theorem BlkLe.ph {σ : List (Option Nat)} {F : List Nat} {H : AHeap} {sz ty : Nat} : BlkLe σ F H none ⟨sz, ty, []⟩ := rfl
theorem RowsLe.same {σ : List (Option Nat)} {F : List Nat} {H : AHeap} {m : List (List SV)} (h : ∀ r ∈ m, ∀ x ∈ r, SV.free x = true) : RowsLe (Wk σ F H) m m := RowsLe.free List.take_length h
inductive FrLe (R : SV → SV → Prop) (f : Fr) : Fr → Prop
  | nil : FrLe R f []
  | cons {t v g} : AVLe R (fget f t) v → FrLe R f g → FrLe R f ((t, v) :: g)
theorem FrLe.all {R : SV → SV → Prop} {f g : Fr} (h : FrLe R f g) : ∀ p ∈ g, AVLe R (fget f p.1) p.2 := by
  induction h with
  | nil => intro p hp; cases hp
  | cons hx _ ih =>
    intro p hp
    rcases List.mem_cons.1 hp with rfl | hp
    · exact hx
    · exact ih p hp
def same : Nat → List (Option Nat) → Bool
  | _, [] => true
  | j, x :: l => x == some j && same (j + 1) l
theorem same_at : ∀ {j0 : Nat} {l : List (Option Nat)}, same j0 l = true → ∀ (j : Nat), j < l.length → l[j]? = some (some (j0 + j))
  | j0, [], _, j, h => by simp at h
  | j0, x :: l, h, j, hj => by
    simp only [same, Bool.and_eq_true, beq_iff_eq] at h
    cases j with
    | zero => simp [h.1]
    | succ j =>
      have := same_at h.2 j (by simpa using hj)
      rw [List.getElem?_cons_succ, this]
      congr 2
      omega
theorem same_take {n0 : Nat} {σ : List (Option Nat)} (h : same 0 (σ.take n0) = true) (hn : n0 ≤ σ.length) : ∀ j, j < n0 → σ[j]? = some (some j) := fun j hj => by
  have := same_at h j (by simp; omega)
  rw [List.getElem?_take, if_pos hj] at this
  simpa using this
theorem W.to {n0 : Nat} {f f' : Fr} {H : AHeap} (σ : List (Option Nat)) (F : List Nat) {bs : List (Option Blk)} (hb : BlksLe σ F H σ bs) (h0 : n0 ≤ σ.length) (h2 : same 0 (σ.take n0) = true) (h4 : (σ.filterMap id).Nodup) (h5 : ∀ b ∈ F, some b ∉ σ) (hf : FrLe (Wk σ F H) f f') : W n0 ⟨f, H⟩ ⟨f', hp bs⟩ :=
  W.mk σ F rfl (by rw [← hb.len]; exact h0) hb.len (same_take h2 h0) hb.get h4 h5 hf.all
def Sees (n0 : Nat) (v : AV) (G : AHeap) (v' : AV) (bs : List (Option Blk)) : Prop :=
  ∃ (σ : List (Option Nat)) (F : List Nat), BlksLe σ F G σ bs ∧ n0 ≤ σ.length ∧ same 0 (σ.take n0) = true ∧ (σ.filterMap id).Nodup ∧ (∀ b ∈ F, some b ∉ σ) ∧ AVLe (Wk σ F G) v v'
theorem Spec.leave {P : Program} {f : FuncId} {args : List AV} {H : AHeap} {K : AV → AHeap → Prop} (h : Spec P f args H fun v G => ∃ v' bs, Sees H.nx v G v' bs ∧ K v' (hp bs)) : Spec P f args H K :=
  Spec.seen (h.mono fun v G ⟨v', bs, ⟨σ, F, h1, h2, h3, h4, h5, h6⟩, hk⟩ => ⟨σ, F, bs, v', by rw [← h1.len]; exact h2, h1.len, same_take h3 h2, h1.get, h4, h5, h6, hk⟩)
theorem Spec.nil_or {P : Program} {f : FuncId} {pre post : List AV} {sz : Nat} {H : AHeap} {K : AV → AHeap → Prop} (h1 : Spec P f (pre ++ .s .nils :: post) H K) (h2 : Spec P f (pre ++ .s .nemp :: post) H K) : Spec P f (pre ++ .s (.lst sz []) :: post) H K := by
  intro φ base w cargs hr ha
  have key : ∀ {pre : List AV} {vs : List Value}, VRs φ (pre ++ .s (.lst sz []) :: post) vs → VRs φ (pre ++ .s .nils :: post) vs ∨ VRs φ (pre ++ .s .nemp :: post) vs := by
    intro pre
    induction pre with
    | nil =>
      intro vs h
      cases h with
      | cons hx hr =>
        rcases vr_lst hx with ⟨_, a, c, rfl, hc, ha⟩ | ⟨b, off, c, o, rfl, _⟩
        · cases a with
          | none => obtain rfl := ha rfl; exact .inl (.cons rfl hr)
          | some a => exact .inr (.cons (by show DR φ.fz .nemp _; simp only [DR]; exact ⟨a, c, rfl⟩) hr)
        · exact .inr (.cons (by show DR φ.fz .nemp _; simp only [DR]; exact ⟨_, c, rfl⟩) hr)
    | cons x pre ih =>
      intro vs h
      cases h with
      | cons hx hr => exact (ih hr).imp (.cons hx) (.cons hx)
  rcases key ha with ha | ha
  · exact h1 φ base w cargs hr ha
  · exact h2 φ base w cargs hr ha
end Go.Proofs.YtoeieoapnhhaeaaGreat.Den
namespace Go.Proofs.YtoeieoapnhhaeaaGreat.Den
open Go.RowKit
theorem S1 : type_of% (And.intro (And.intro (And.intro @awp_skip @awp_reg) (And.intro @awp_dreg @regK_eq)) (And.intro (And.intro @stepK_eq @gK_b) (And.intro @gK_u @guardK_tt))) := And.intro (And.intro (And.intro @awp_skip @awp_reg) (And.intro @awp_dreg @regK_eq)) (And.intro (And.intro @stepK_eq @gK_b) (And.intro @gK_u @guardK_tt))
theorem S2 : type_of% (And.intro (And.intro (And.intro @guardK_ff @guardK_tf) (And.intro @guardK_ft @opsWp_nil)) (And.intro (And.intro @opsWp_none @opsWp_some) (And.intro @condK_t @condK_f))) := And.intro (And.intro (And.intro @guardK_ff @guardK_tf) (And.intro @guardK_ft @opsWp_nil)) (And.intro (And.intro @opsWp_none @opsWp_some) (And.intro @condK_t @condK_f))
theorem S3 : type_of% (And.intro (And.intro (And.intro @finK_eq @callvK_eq) (And.intro @awp_seq @awp_cond)) (And.intro (And.intro @awp_block @awp_exit) (And.intro @awp_ret @thenK_n))) := And.intro (And.intro (And.intro @finK_eq @callvK_eq) (And.intro @awp_seq @awp_cond)) (And.intro (And.intro @awp_block @awp_exit) (And.intro @awp_ret @thenK_n))
theorem S4 : type_of% (And.intro (And.intro (And.intro @thenK_e @thenK_r) (And.intro @blockK_n @blockK_r)) (And.intro (And.intro @blockK_e @retK_n) (And.intro @retK_r @single_one))) := And.intro (And.intro (And.intro @thenK_e @thenK_r) (And.intro @blockK_n @blockK_r)) (And.intro (And.intro @blockK_e @retK_n) (And.intro @retK_r @single_one))
theorem S5 : type_of% (And.intro (And.intro (And.intro @single_two @single_nil) (And.intro (And.intro @opWp_call @opWp_callx) @opWp_callv)) (And.intro (And.intro @onB_b @onG_b) (And.intro @onG_u @List.map_cons.{0, 0}))) := And.intro (And.intro (And.intro @single_two @single_nil) (And.intro (And.intro @opWp_call @opWp_callx) @opWp_callv)) (And.intro (And.intro @onB_b @onG_b) (And.intro @onG_u @List.map_cons.{0, 0}))
theorem S6 : type_of% (And.intro (And.intro (And.intro @List.map_nil.{0, 0} @Option.bind_some.{0, 0}) (And.intro @Option.bind_none.{0, 0} @Option.map_some.{0, 0})) (And.intro (And.intro @Option.map_none.{0, 0} @if_true.{0}) (And.intro @if_false.{0} @true_and))) := And.intro (And.intro (And.intro @List.map_nil.{0, 0} @Option.bind_some.{0, 0}) (And.intro @Option.bind_none.{0, 0} @Option.map_some.{0, 0})) (And.intro (And.intro @Option.map_none.{0, 0} @if_true.{0}) (And.intro @if_false.{0} @true_and))
theorem S7 : type_of% (And.intro (And.intro (And.intro @and_true @false_and) (And.intro @and_false @AExit.exit.injEq)) (And.intro (And.intro @decide_true @decide_false) (And.intro @Bool.false_eq_true @Bool.not_true))) := And.intro (And.intro (And.intro @and_true @false_and) (And.intro @and_false @AExit.exit.injEq)) (And.intro (And.intro @decide_true @decide_false) (And.intro @Bool.false_eq_true @Bool.not_true))
theorem S8 : type_of% (And.intro (And.intro (And.intro @Bool.not_false @ne_eq.{0}) (And.intro @not_false_eq_true @Int.toNat_natCast)) (And.intro (And.intro @List.getElem?_map.{0, 0} @List.length_map.{0, 0}) (And.intro @Nat.zero_add @Nat.add_zero))) := And.intro (And.intro (And.intro @Bool.not_false @ne_eq.{0}) (And.intro @not_false_eq_true @Int.toNat_natCast)) (And.intro (And.intro @List.getElem?_map.{0, 0} @List.length_map.{0, 0}) (And.intro @Nat.zero_add @Nat.add_zero))
theorem S9 : type_of% (And.intro (And.intro (And.intro @List.getElem?_cons_zero.{0} @List.getElem?_cons_succ.{0}) (And.intro @List.length_cons.{0} @List.length_nil.{0})) (And.intro (And.intro @Nat.add_eq @Nat.add_left_cancel_iff) (And.intro @Nat.succ_ne_self @List.take_zero.{0}))) := And.intro (And.intro (And.intro @List.getElem?_cons_zero.{0} @List.getElem?_cons_succ.{0}) (And.intro @List.length_cons.{0} @List.length_nil.{0})) (And.intro (And.intro @Nat.add_eq @Nat.add_left_cancel_iff) (And.intro @Nat.succ_ne_self @List.take_zero.{0}))
theorem S10 : type_of% (And.intro (And.intro (And.intro @List.take_succ_cons.{0} @List.drop_zero.{0}) (And.intro @List.drop_succ_cons.{0} @List.nil_append.{0})) (And.intro (And.intro @List.cons_append.{0} @List.append_nil.{0}) (And.intro @beq_self_eq_true.{0} @Nat.le_refl))) := And.intro (And.intro (And.intro @List.take_succ_cons.{0} @List.drop_zero.{0}) (And.intro @List.drop_succ_cons.{0} @List.nil_append.{0})) (And.intro (And.intro @List.cons_append.{0} @List.append_nil.{0}) (And.intro @beq_self_eq_true.{0} @Nat.le_refl))
theorem S11 : type_of% (And.intro (And.intro (And.intro @Nat.add_assoc @Option.some.injEq.{0}) (And.intro @Prod.mk.injEq.{0, 0} @List.set_cons_zero.{0})) (And.intro (And.intro @List.set_cons_succ.{0} @List.drop_nil.{0}) (And.intro @List.take_nil.{0} @Nat.sub_zero))) := And.intro (And.intro (And.intro @Nat.add_assoc @Option.some.injEq.{0}) (And.intro @Prod.mk.injEq.{0, 0} @List.set_cons_zero.{0})) (And.intro (And.intro @List.set_cons_succ.{0} @List.drop_nil.{0}) (And.intro @List.take_nil.{0} @Nat.sub_zero))
theorem S12 : type_of% (And.intro (And.intro (And.intro @Nat.zero_le @Int.toNat_zero) (And.intro @Nat.zero_lt_one @not_true_eq_false)) (And.intro (And.intro @List.replicate_zero.{0} @List.replicate_succ.{0}) (And.intro @hp_nx @hp_get))) := And.intro (And.intro (And.intro @Nat.zero_le @Int.toNat_zero) (And.intro @Nat.zero_lt_one @not_true_eq_false)) (And.intro (And.intro @List.replicate_zero.{0} @List.replicate_succ.{0}) (And.intro @hp_nx @hp_get))
theorem S13 : type_of% (And.intro (And.intro (And.intro @hp_push @hp_upd) (And.intro @hp_del @Option.join_some.{0})) (And.intro (And.intro @Option.isSome_some.{0} @Option.isSome_none.{0}) (And.intro @List.length_append.{0} @Nat.sub_self))) := And.intro (And.intro (And.intro @hp_push @hp_upd) (And.intro @hp_del @Option.join_some.{0})) (And.intro (And.intro @Option.isSome_some.{0} @Option.isSome_none.{0}) (And.intro @List.length_append.{0} @Nat.sub_self))
def zo (d : Nat) (x : AOp) : AOper := ⟨some d, x, none, []⟩
def zm (d x : Nat) : AOper := ⟨some d, .mov (.t x), none, []⟩
def zu (x : AOp) : AOper := ⟨none, x, none, []⟩
def zt (d : Nat) (x : AOp) (g : Nat) : AOper := ⟨some d, x, some (g, true), []⟩
def zf (d : Nat) (x : AOp) (g : Nat) : AOper := ⟨some d, x, some (g, false), []⟩
def zM (x : Nat) : AOp := .mov (.t x)
def zF (k x : Nat) : AOp := .faddr k (.t x)
def zL (x : Nat) : AOp := .load1 (.t x)
def zN (k x : Nat) : AOp := .loadn k (.t x)
def zS (k x y : Nat) : AOp := .store k (.t x) (.t y)
def zI (k x y : Nat) : AOp := .iaddr k (.t x) (.t y)
def zB (b : BinOp) (x y : Nat) : AOp := .bin b (.t x) (.t y)
def zK (b : BinOp) (x : Nat) (n : Int) : AOp := .bin b (.t x) (.c (.int .i64 n))
def zE (x k : Nat) : AOp := .extract (.t x) k
def zC (f : Nat) (l : List Nat) : AOp := .call f (l.map .t)
def zT (b : Bool) : AOp := .mov (.c (.bool b))
def zn (n : Int) : AOp := .mov (.c (.int .i64 n))
def zp (x y : Nat) : AOp := .pick (.t x) (.c (.bool true)) (.t y)
def zq (x y : Nat) : AOp := .pick (.t x) (.t y) (.c (.bool false))
def zl (x : Nat) : AOp := .len (.t x)
def zb (k x : Nat) : AOp := .box k (.t x)
def zk (x : Nat) : AOp := .nilck (.t x)
def zv (x : Nat) : AOp := .un .not (.t x)
def zx (i : Nat) (o : AOper) : Nat × Cat × AOper := (i, .light, o)
def zy (i : Nat) (o : AOper) : Nat × Cat × AOper := (i, .heavy, o)
def zz (i : Nat) (o : AOper) : Nat × Cat × AOper := (i, .float, o)
theorem S14 : type_of% (And.intro (And.intro (And.intro (And.intro @zo.eq_1 (And.intro @zm.eq_1 @zu.eq_1)) (And.intro @zt.eq_1 (And.intro @zf.eq_1 @zM.eq_1))) (And.intro (And.intro @zF.eq_1 (And.intro @zL.eq_1 @zN.eq_1)) (And.intro (And.intro @zS.eq_1 @zI.eq_1) (And.intro @zB.eq_1 @zK.eq_1)))) (And.intro (And.intro (And.intro @zE.eq_1 (And.intro @zC.eq_1 @zT.eq_1)) (And.intro @zn.eq_1 (And.intro @zp.eq_1 @zq.eq_1))) (And.intro (And.intro @zl.eq_1 (And.intro @zb.eq_1 @zk.eq_1)) (And.intro (And.intro @zv.eq_1 @zx.eq_1) (And.intro @zy.eq_1 @zz.eq_1))))) := (And.intro (And.intro (And.intro (And.intro @zo.eq_1 (And.intro @zm.eq_1 @zu.eq_1)) (And.intro @zt.eq_1 (And.intro @zf.eq_1 @zM.eq_1))) (And.intro (And.intro @zF.eq_1 (And.intro @zL.eq_1 @zN.eq_1)) (And.intro (And.intro @zS.eq_1 @zI.eq_1) (And.intro @zB.eq_1 @zK.eq_1)))) (And.intro (And.intro (And.intro @zE.eq_1 (And.intro @zC.eq_1 @zT.eq_1)) (And.intro @zn.eq_1 (And.intro @zp.eq_1 @zq.eq_1))) (And.intro (And.intro @zl.eq_1 (And.intro @zb.eq_1 @zk.eq_1)) (And.intro (And.intro @zv.eq_1 @zx.eq_1) (And.intro @zy.eq_1 @zz.eq_1)))))
end Go.Proofs.YtoeieoapnhhaeaaGreat.Den
namespace Go.Proofs.YtoeieoapnhhaeaaGreat.Den
open Go.RowKit
set_option linter.unusedVariables false
open Go.ChangeShapes Go.WideShapes Go.Deep in
theorem enter_bytes {P : Program} {t e : TypeId} (ht : P.underlying t = some (.slice e)) (he : P.underlying e = some (.int .u8)) (hc : P.cellsOf e = 1) {T : Type} (enc : TypeId × Value → T) (W : World) (spare : Nat → Bool) (held : Bool) (fuel : Nat) (v : Value) (y : DataW T × List MemPlace)
    (h : DataW.trod enc P W 0 spare held fuel t [v] = some y) : ∃ (φ : Phi) (xs : List Int), Rel φ W.heap.size (hp []) W ∧ VR φ (.s (.lst 1 (xs.map fun x => [.int .u8 x]))) v ∧ ∀ x ∈ xs, 0 ≤ x ∧ x ≤ 255 := by
  have hrel : ∀ fz : Nat → Option Obj, (∀ r o, fz r = some o → W.heap[r]? = some o) → Rel ⟨fun _ => none, fz⟩ W.heap.size (hp []) W := fun fz hf =>
    ⟨fun b k hk => (by simp [hp_get] at hk), fun b b' k k' p p' hk => (by simp [hp_get] at hk), fun b _ => ⟨by simp [hp_get], rfl⟩, Nat.le_refl _, fun r o ho => ⟨hf r o ho, fun ⟨b, k, p, h1, _⟩ => by simp [hp_get] at h1⟩, nofull rfl⟩
  rcases open_slice1 ht hc h with ⟨h0, _⟩ | ⟨a, len, cap, m, n, V, D, Pl, h0, hb, hl, hm, hmm, hy, hi⟩
  · obtain rfl : v = .slice none 0 0 := by simpa using h0
    exact ⟨_, [], hrel (fun _ => none) (fun r o h => by cases h), lst_vr (.inl ⟨rfl, none, 0, rfl, Nat.zero_le _, fun _ => rfl⟩), fun x hx => by cases hx⟩
  · obtain rfl : v = .slice (some a) len cap := by simpa using h0
    have hlm : len ≤ m := by rw [hmm]; split <;> omega
    have hval : ∀ i, i < len → ∃ x : Int, V i = .int .u8 x ∧ 0 ≤ x ∧ x ≤ 255 := fun i hil => by
      obtain ⟨_, htr⟩ := hi i (by omega)
      obtain ⟨x, hx, _, hw⟩ := DataW.trod_int he htr
      refine ⟨x, by simpa using hx, ?_⟩
      simp only [Lit.wf, Bool.and_eq_true, decide_eq_true_eq] at hw
      have e1 : IntKind.u8.min = 0 := by decide
      have e2 : IntKind.u8.max = 255 := by decide
      rw [e1, e2] at hw
      exact hw
    obtain ⟨X, hX⟩ := choose_lt (α := Int) hval
    have hlen : (((List.range len).map X).map fun x => [SV.int .u8 x]).length = len := by simp
    have hall : ∀ x ∈ (List.range len).map X, 0 ≤ x ∧ x ≤ 255 := fun x hx => by
      obtain ⟨i, hil, rfl⟩ := List.mem_map.1 hx
      exact (hX i (List.mem_range.1 hil)).2
    by_cases h00 : len = 0
    · subst h00
      exact ⟨_, [], hrel (fun _ => none) (fun r o h => by cases h), lst_vr (.inl ⟨rfl, some a, cap, rfl, hm, fun h => by cases h⟩), fun x hx => by cases hx⟩
    · have hc0 := (hi 0 (by omega)).1
      have hadd0 : a.add 0 = a := by unfold Addr.add; rw [if_pos rfl]
      rw [hadd0] at hc0
      have hspot : a.spot = none := by
        unfold World.cell? at hc0
        split at hc0
        · split at hc0
          · cases hc0
          · simpa using ‹¬ a.spot.isSome = true›
        · cases hc0
      have hblk : a.block < W.heap.size := World.block_lt_of_cell? W a hc0
      have ha : a = ⟨a.block, a.off, none⟩ := by cases a; simp_all
      have hob : W.heap[a.block]? = some W.heap[a.block] := Array.getElem?_eq_getElem hblk
      refine ⟨_, (List.range len).map X, hrel (fun r => if r = a.block then W.heap[r]? else none) (fun r o h => by
        split at h
        · exact h
        · cases h), lst_vr (.inr ⟨a.block, a.off, cap, W.heap[a.block], ?_, ?_, hm, ?_, ?_⟩), hall⟩
      · rw [hlen, ← ha]
      · rw [hlen]; exact hl
      · show (if a.block = a.block then W.heap[a.block]? else none) = _
        rw [if_pos rfl, hob]
      · refine DRss.of_get fun i r hr => ?_
        have hil : i < len := by have := (List.getElem?_eq_some_iff.1 hr).1; rw [hlen] at this; exact this
        have hr' : r = [.int .u8 (X i)] := by
          rw [List.getElem?_map, List.getElem?_map, List.getElem?_range hil] at hr
          exact (Option.some.inj hr).symm
        subst hr'
        refine ⟨rfl, DRs.of_get fun j x hx => ?_⟩
        cases j with
        | succ j => simp at hx
        | zero =>
          simp at hx
          subst hx
          refine ⟨.int .u8 (X i), ?_, by simp only [DR]⟩
          have h1 := (hi i (by omega)).1
          have h2 : a.add i = ⟨a.block, a.off + i, none⟩ := by
            unfold Addr.add
            split
            · subst_vars; rw [Nat.add_zero]; exact ha
            · rfl
          rw [h2, (hX i hil).1, cell_of_obj hob] at h1
          simpa using h1
end Go.Proofs.YtoeieoapnhhaeaaGreat.Den
namespace Go.Proofs.YtoeieoapnhhaeaaGreat.Den
open Go.RowKit
set_option linter.unusedVariables false
section
variable {R : SV → SV → Prop} {x y : AV} {l m : List AV} {u v : SV} {r s : List SV} {p q : List (List SV)} {f g : Fr} {t : Nat}
theorem j1 : AVsLe R [] [] = True := eq_true .nil
theorem j2 : AVsLe R (x :: l) (y :: m) = (AVLe R x y ∧ AVsLe R l m) := propext ⟨fun h => by cases h; exact ⟨‹_›, ‹_›⟩, fun h => .cons h.1 h.2⟩
theorem j3 : AVLe R x .no = True := eq_true (.one .no)
theorem j4 : AVLe R (.s u) (.s v) = R u v := propext ⟨fun h => by cases h with | one h => cases h; assumption, fun h => .one (.s h)⟩
theorem j5 : AVLe R (.agg r) (.agg s) = SVsLe R r s := propext ⟨fun h => by cases h with | one h => cases h; assumption, fun h => .one (.agg h)⟩
theorem j6 : AVLe R (.tup l) (.tup m) = AVsLe0 R l m := propext ⟨fun h => by cases h with | one h => cases h | tup h => exact h, fun h => .tup h⟩
theorem j7 : AVsLe0 R [] [] = True := eq_true .nil
theorem j8 : AVsLe0 R (.s u :: l) (.s v :: m) = (R u v ∧ AVsLe0 R l m) := propext ⟨fun h => by cases h with | cons h k => cases h; exact ⟨‹_›, k⟩, fun h => .cons (.s h.1) h.2⟩
theorem j9 : AVsLe0 R (.agg r :: l) (.agg s :: m) = (SVsLe R r s ∧ AVsLe0 R l m) := propext ⟨fun h => by cases h with | cons h k => cases h; exact ⟨‹_›, k⟩, fun h => .cons (.agg h.1) h.2⟩
theorem j11 : SVsLe R [] [] = True := eq_true .nil
theorem j12 : SVsLe R (u :: r) (v :: s) = (R u v ∧ SVsLe R r s) := propext ⟨fun h => by cases h; exact ⟨‹_›, ‹_›⟩, fun h => .cons h.1 h.2⟩
theorem j13 : RowsLe R p [] = True := eq_true .nil
theorem j14 : RowsLe R (r :: p) (s :: q) = (SVsLe R r s ∧ RowsLe R p q) := propext ⟨fun h => by cases h; exact ⟨‹_›, ‹_›⟩, fun h => .cons h.1 h.2⟩
theorem j15 : FrLe R f [] = True := eq_true .nil
theorem j16 : FrLe R f ((t, x) :: g) = (AVLe R (fget f t) x ∧ FrLe R f g) := propext ⟨fun h => by cases h; exact ⟨‹_›, ‹_›⟩, fun h => .cons h.1 h.2⟩
end
def dataR (rows : List (List SV)) : Prop := ∀ r ∈ rows, ∀ x ∈ r, SV.data x = true
theorem j17 : dataR [] = True := eq_true fun r h => by cases h
theorem j18 {r : List SV} {l : List (List SV)} : dataR (r :: l) = (r.all SV.data = true ∧ dataR l) := propext ⟨fun h => ⟨List.all_eq_true.2 (h r (by simp)), fun q hq => h q (List.mem_cons_of_mem _ hq)⟩, fun h q hq => by
  rcases List.mem_cons.1 hq with rfl | hq
  · exact List.all_eq_true.1 h.1
  · exact h.2 q hq⟩
theorem data_free {x : SV} (h : x.data = true) : x.free = true := by cases x <;> first | rfl | (cases h; done)
section
variable {σ : List (Option Nat)} {F : List Nat} {H : AHeap} {b b' i i' n n' c c' sz sz' : Nat} {j j' : Nat} {rows rows' : List (List SV)} {o : Option Nat} {sg : List (Option Nat)} {bs : List (Option Blk)} {k k' : Blk} {x : SV}
theorem j20 : Wk σ F H x .any = True := eq_true .any
theorem j21 {q q' : IntKind} {u v : Int} : Wk σ F H (.int q u) (.int q' v) = (q = q' ∧ u = v) := propext ⟨fun h => by cases h; exact ⟨rfl, rfl⟩, fun h => by obtain ⟨rfl, rfl⟩ := h; exact .free rfl⟩
theorem j22 {u v : Bool} : Wk σ F H (.bool u) (.bool v) = (u = v) := propext ⟨fun h => by cases h; rfl, fun h => by subst h; exact .free rfl⟩
theorem j23 {u v : ByteArray} : Wk σ F H (.str u) (.str v) = (u = v) := propext ⟨fun h => by cases h; rfl, fun h => by subst h; exact .free rfl⟩
theorem j24 : Wk σ F H .nils .nils = True := eq_true (.free rfl)
theorem j25 : Wk σ F H .emp .emp = True := eq_true (.free rfl)
theorem j26 : Wk σ F H .nilp .nilp = True := eq_true (.free rfl)
theorem j27 : Wk σ F H .nilf .nilf = True := eq_true (.free rfl)
theorem j28 : Wk σ F H .nemp .nemp = True := eq_true (.free rfl)
theorem j29 : Wk σ F H (.lst sz rows) (.lst sz' rows') = (sz = sz' ∧ rows = rows') := propext ⟨fun h => by cases h; exact ⟨rfl, rfl⟩, fun h => by obtain ⟨rfl, rfl⟩ := h; exact .free rfl⟩
theorem j30 {r r' : List SV} : Wk σ F H (.fptr r j) (.fptr r' j') = (r = r' ∧ j = j') := propext ⟨fun h => by cases h; exact ⟨rfl, rfl⟩, fun h => by obtain ⟨rfl, rfl⟩ := h; exact .free rfl⟩
theorem j31 : Wk σ F H (.ptr b i j) (.ptr b' i' j') = (σ[b']? = some (some b) ∧ i = i' ∧ j = j') := propext ⟨fun h => by
  cases h with
  | free h => cases h
  | ptr h => exact ⟨h, rfl, rfl⟩, fun h => by obtain ⟨h, rfl, rfl⟩ := h; exact .ptr h⟩
theorem j32 : Wk σ F H (.sl b i n c) (.sl b' i' n' c') = (σ[b']? = some (some b) ∧ i = i' ∧ n = n' ∧ n ≤ c' ∧ c' ≤ c) := propext ⟨fun h => by
  cases h with
  | free h => cases h
  | sl h h1 h2 => exact ⟨h, rfl, rfl, h1, h2⟩, fun h => by obtain ⟨h, rfl, rfl, h1, h2⟩ := h; exact .sl h h1 h2⟩
theorem j33 : Wk σ F H .nils (.sl b' i n c) = (σ[b']? = some none ∧ n = 0 ∧ c = 0) := propext ⟨fun h => by cases h; exact ⟨‹_›, rfl, rfl⟩, fun h => by obtain ⟨h, rfl, rfl⟩ := h; exact .nils h⟩
theorem j34 : Wk σ F H .emp (.sl b' i n c) = (σ[b']? = some none ∧ n = 0 ∧ c = 0) := propext ⟨fun h => by cases h; exact ⟨‹_›, rfl, rfl⟩, fun h => by obtain ⟨h, rfl, rfl⟩ := h; exact .emp h⟩
theorem j35 : Wk σ F H .nils (.lst sz rows) = (rows = []) := propext ⟨fun h => by cases h; rfl, fun h => by subst h; exact .lnils⟩
theorem j36 : Wk σ F H .emp (.lst sz rows) = (rows = []) := propext ⟨fun h => by cases h; rfl, fun h => by subst h; exact .lemp⟩
def frzB (σ : List (Option Nat)) (F : List Nat) (H : AHeap) (b i n sz : Nat) (rows : List (List SV)) : Option Blk → Prop
  | some k => b ∈ F ∧ k.sz = sz ∧ i + n ≤ k.rows.length ∧ rows.length = n ∧ RowsLe (Wk σ F H) (k.rows.drop i) rows ∧ dataR rows
  | none => False
theorem j37 (h : frzB σ F H b i n sz rows (H.get b)) : Wk σ F H (.sl b i n c) (.lst sz rows) := by
  cases hk : H.get b with
  | none => rw [hk] at h; exact h.elim
  | some k =>
    rw [hk] at h
    obtain ⟨h1, h2, h3, h4, h5, h6⟩ := h
    refine .frzd h1 hk h2 h3 h4 (fun q r0 r hq hr => ?_) (fun q m r0 r x0 x hq hr hx0 hx => ?_) h6
    · obtain ⟨r1, e, hs⟩ := h5.get q r hr
      rw [List.getElem?_drop, hq] at e
      obtain rfl := Option.some.inj e
      exact hs.get.1
    · obtain ⟨r1, e, hs⟩ := h5.get q r hr
      rw [List.getElem?_drop, hq] at e
      obtain rfl := Option.some.inj e
      obtain ⟨x1, e1, h⟩ := hs.get.2 m x hx
      rw [hx0] at e1
      obtain rfl := Option.some.inj e1
      exact h
theorem j38 : frzB σ F H b i n sz rows (some k) = (b ∈ F ∧ k.sz = sz ∧ i + n ≤ k.rows.length ∧ rows.length = n ∧ RowsLe (Wk σ F H) (k.rows.drop i) rows ∧ dataR rows) := rfl
theorem j39 : BlksLe σ F H [] [] = True := eq_true .nil
theorem j40 : BlksLe σ F H (o :: sg) (some k :: bs) = (BlkLe σ F H o k ∧ BlksLe σ F H sg bs) := propext ⟨fun h => by cases h; exact ⟨‹_›, ‹_›⟩, fun h => .cons h.1 h.2⟩
theorem j41 : BlksLe σ F H (o :: sg) (none :: bs) = BlksLe σ F H sg bs := propext ⟨fun h => by cases h; assumption, fun h => .skip h⟩
theorem j42 : BlkLe σ F H none k = (k.rows = []) := rfl
def keepB (σ : List (Option Nat)) (F : List Nat) (H : AHeap) (k' : Blk) : Option Blk → Prop
  | some k => k.sz = k'.sz ∧ k.ty = k'.ty ∧ RowsLe (Wk σ F H) k.rows k'.rows
  | none => False
theorem j43 : BlkLe σ F H (some b) k' = keepB σ F H k' (H.get b) := propext (by
  constructor
  · intro ⟨k, h, h2⟩
    rw [h]
    exact h2
  · intro h
    cases hk : H.get b with
    | none => rw [hk] at h; exact h.elim
    | some k => rw [hk] at h; exact ⟨k, hk, h⟩)
theorem j44 : keepB σ F H k' (some k) = (k.sz = k'.sz ∧ k.ty = k'.ty ∧ RowsLe (Wk σ F H) k.rows k'.rows) := rfl
theorem same_take' {m : List (List SV)} (hm : dataR m) {l : List (List SV)} (h : l.take m.length = m) : RowsLe (Wk σ F H) l m := RowsLe.free h fun r hr x hx => data_free (hm r hr x hx)
theorem same_rows {m : List (List SV)} (hm : dataR m) : RowsLe (Wk σ F H) m m := same_take' hm List.take_length
theorem RowsLe.app {R : SV → SV → Prop} : ∀ {l m p q : List (List SV)}, RowsLe R l m → l.length = m.length → RowsLe R p q → RowsLe R (l ++ p) (m ++ q)
  | [], [], p, q, _, _, k => k
  | r :: l, s :: m, p, q, h, hl, k => by cases h with | cons h1 h2 => exact .cons h1 (h2.app (by simpa using hl) k)
  | [], _ :: _, _, _, _, hl, _ => by simp at hl
  | _ :: _, [], _, _, _, hl, _ => by simp at hl
theorem same_app {m p q : List (List SV)} (hm : dataR m) (h : RowsLe (Wk σ F H) p q) : RowsLe (Wk σ F H) (m ++ p) (m ++ q) := (same_rows hm).app rfl h
end
theorem J0 : type_of% (And.intro (And.intro (And.intro (And.intro @j1 @j2) (And.intro @j3 @j4)) (And.intro (And.intro @j5 @j6) (And.intro @j7 @j8))) (And.intro (And.intro (And.intro @j9 @j11) (And.intro @j12 @j13)) (And.intro (And.intro @j14 @j15) (And.intro @j16 @j17)))) := And.intro (And.intro (And.intro (And.intro @j1 @j2) (And.intro @j3 @j4)) (And.intro (And.intro @j5 @j6) (And.intro @j7 @j8))) (And.intro (And.intro (And.intro @j9 @j11) (And.intro @j12 @j13)) (And.intro (And.intro @j14 @j15) (And.intro @j16 @j17)))
theorem J1 : type_of% (And.intro (And.intro (And.intro (And.intro @j18 @j20) (And.intro @j21 @j22)) (And.intro (And.intro @j23 @j24) (And.intro @j25 @j26))) (And.intro (And.intro (And.intro @j27 @j28) (And.intro @j29 @j30)) (And.intro (And.intro @j31 @j32) (And.intro @j33 @j34)))) := And.intro (And.intro (And.intro (And.intro @j18 @j20) (And.intro @j21 @j22)) (And.intro (And.intro @j23 @j24) (And.intro @j25 @j26))) (And.intro (And.intro (And.intro @j27 @j28) (And.intro @j29 @j30)) (And.intro (And.intro @j31 @j32) (And.intro @j33 @j34)))
theorem J2 : type_of% (And.intro (And.intro (And.intro (And.intro @j35 @j36) (And.intro @j37 @j38)) (And.intro (And.intro @j39 @j40) (And.intro @j41 @j42))) (And.intro @j43 @j44)) := And.intro (And.intro (And.intro (And.intro @j35 @j36) (And.intro @j37 @j38)) (And.intro (And.intro @j39 @j40) (And.intro @j41 @j42))) (And.intro @j43 @j44)
theorem J : type_of% (And.intro (And.intro J0 J1) (And.intro J2 (And.intro @hp_get @hp_nx))) := And.intro (And.intro J0 J1) (And.intro J2 (And.intro @hp_get @hp_nx))
theorem Y0 : type_of% (And.intro (And.intro (And.intro (And.intro (And.intro @guarded.eq_1 @guarded.eq_2) (And.intro @opWp.eq_1 @opWp.eq_2)) (And.intro (And.intro @opWp.eq_3 @opWp.eq_4) (And.intro @opWp.eq_5 @opWp.eq_6))) (And.intro (And.intro (And.intro @opWp.eq_7 @onX.eq_1) (And.intro @onX.eq_2 @onO.eq_1)) (And.intro (And.intro @onO.eq_2 @onFn.eq_1) (And.intro @onFn.eq_2 @chks.eq_1)))) (And.intro (And.intro (And.intro (And.intro @chks.eq_2 @chkOne.eq_1) (And.intro @xop.eq_1 @xop.eq_2)) (And.intro (And.intro @xop.eq_3 @xop.eq_4) (And.intro @xop.eq_5 @xop.eq_6))) (And.intro (And.intro (And.intro @xop.eq_7 @xop.eq_8) (And.intro @xop.eq_9 @xop.eq_10)) (And.intro (And.intro @xop.eq_11 @xop.eq_12) (And.intro @xop.eq_13 @xop.eq_14))))) := (And.intro (And.intro (And.intro (And.intro (And.intro @guarded.eq_1 @guarded.eq_2) (And.intro @opWp.eq_1 @opWp.eq_2)) (And.intro (And.intro @opWp.eq_3 @opWp.eq_4) (And.intro @opWp.eq_5 @opWp.eq_6))) (And.intro (And.intro (And.intro @opWp.eq_7 @onX.eq_1) (And.intro @onX.eq_2 @onO.eq_1)) (And.intro (And.intro @onO.eq_2 @onFn.eq_1) (And.intro @onFn.eq_2 @chks.eq_1)))) (And.intro (And.intro (And.intro (And.intro @chks.eq_2 @chkOne.eq_1) (And.intro @xop.eq_1 @xop.eq_2)) (And.intro (And.intro @xop.eq_3 @xop.eq_4) (And.intro @xop.eq_5 @xop.eq_6))) (And.intro (And.intro (And.intro @xop.eq_7 @xop.eq_8) (And.intro @xop.eq_9 @xop.eq_10)) (And.intro (And.intro @xop.eq_11 @xop.eq_12) (And.intro @xop.eq_13 @xop.eq_14)))))
theorem Y1 : type_of% (And.intro (And.intro (And.intro (And.intro (And.intro @xop.eq_15 @xop.eq_16) (And.intro @xop.eq_17 @xop.eq_18)) (And.intro (And.intro @xop.eq_19 @xop.eq_20) (And.intro @xop.eq_21 @xop.eq_22))) (And.intro (And.intro (And.intro @xop.eq_23 @xop.eq_24) (And.intro @xop.eq_25 @xop.eq_26)) (And.intro (And.intro @xop.eq_27 @xop.eq_28) (And.intro @xop.eq_29 @xop.eq_30)))) (And.intro (And.intro (And.intro (And.intro @xop.eq_31 @xop.eq_32) (And.intro @xop.eq_33 @xop.eq_34)) (And.intro (And.intro @xop.eq_35 @xop.eq_36) (And.intro @xop.eq_37 @xop.eq_38))) (And.intro (And.intro (And.intro @xop.eq_39 @xop.eq_40) (And.intro @xop.eq_41 @xop.eq_42)) (And.intro (And.intro @evf.eq_1 @evf.eq_2) (And.intro @evf.eq_3 @fget.eq_1))))) := (And.intro (And.intro (And.intro (And.intro (And.intro @xop.eq_15 @xop.eq_16) (And.intro @xop.eq_17 @xop.eq_18)) (And.intro (And.intro @xop.eq_19 @xop.eq_20) (And.intro @xop.eq_21 @xop.eq_22))) (And.intro (And.intro (And.intro @xop.eq_23 @xop.eq_24) (And.intro @xop.eq_25 @xop.eq_26)) (And.intro (And.intro @xop.eq_27 @xop.eq_28) (And.intro @xop.eq_29 @xop.eq_30)))) (And.intro (And.intro (And.intro (And.intro @xop.eq_31 @xop.eq_32) (And.intro @xop.eq_33 @xop.eq_34)) (And.intro (And.intro @xop.eq_35 @xop.eq_36) (And.intro @xop.eq_37 @xop.eq_38))) (And.intro (And.intro (And.intro @xop.eq_39 @xop.eq_40) (And.intro @xop.eq_41 @xop.eq_42)) (And.intro (And.intro @evf.eq_1 @evf.eq_2) (And.intro @evf.eq_3 @fget.eq_1)))))
theorem Y2 : type_of% (And.intro (And.intro (And.intro (And.intro (And.intro @fget.eq_2 @fput.eq_1) (And.intro @fput.eq_2 @fkeep.eq_1)) (And.intro (And.intro @finit.eq_1 @finit.eq_2) (And.intro @aress.eq_1 @aress.eq_2))) (And.intro (And.intro (And.intro @ares.eq_1 @ares.eq_2) (And.intro @ares.eq_3 @abin.eq_1)) (And.intro (And.intro @abin.eq_2 @abin.eq_3) (And.intro @abin.eq_4 @abin.eq_5)))) (And.intro (And.intro (And.intro (And.intro @abin.eq_6 @abin.eq_7) (And.intro @abin.eq_8 @abin.eq_9)) (And.intro (And.intro @abin.eq_10 @abin.eq_11) (And.intro @abin.eq_12 @abin.eq_13))) (And.intro (And.intro (And.intro @abin.eq_14 @abin.eq_15) (And.intro @abin.eq_16 @abin.eq_17)) (And.intro (And.intro @abin.eq_18 @abin.eq_19) (And.intro @abin.eq_20 @abin.eq_21))))) := (And.intro (And.intro (And.intro (And.intro (And.intro @fget.eq_2 @fput.eq_1) (And.intro @fput.eq_2 @fkeep.eq_1)) (And.intro (And.intro @finit.eq_1 @finit.eq_2) (And.intro @aress.eq_1 @aress.eq_2))) (And.intro (And.intro (And.intro @ares.eq_1 @ares.eq_2) (And.intro @ares.eq_3 @abin.eq_1)) (And.intro (And.intro @abin.eq_2 @abin.eq_3) (And.intro @abin.eq_4 @abin.eq_5)))) (And.intro (And.intro (And.intro (And.intro @abin.eq_6 @abin.eq_7) (And.intro @abin.eq_8 @abin.eq_9)) (And.intro (And.intro @abin.eq_10 @abin.eq_11) (And.intro @abin.eq_12 @abin.eq_13))) (And.intro (And.intro (And.intro @abin.eq_14 @abin.eq_15) (And.intro @abin.eq_16 @abin.eq_17)) (And.intro (And.intro @abin.eq_18 @abin.eq_19) (And.intro @abin.eq_20 @abin.eq_21)))))
theorem Y3 : type_of% (And.intro (And.intro (And.intro (And.intro (And.intro @abin.eq_22 @abin.eq_23) (And.intro @abin.eq_24 @abin.eq_25)) (And.intro (And.intro @abin.eq_26 @pickv.eq_1) (And.intro @pickv.eq_2 @pickv.eq_3))) (And.intro (And.intro (And.intro @AV.cells.eq_1 @AV.cells.eq_2) (And.intro @AV.cells.eq_3 @bound.eq_1)) (And.intro (And.intro @bound.eq_2 @capsOf.eq_1) (And.intro @capsOf.eq_2 @capsOf.eq_3)))) (And.intro (And.intro (And.intro (And.intro @AHeap.cell.eq_1 @AHeap.row.eq_1) (And.intro @AHeap.cells.eq_1 @AHeap.put.eq_1)) (And.intro (And.intro @AHeap.has.eq_1 @afill.eq_1) (And.intro @afill.eq_2 @alen.eq_1))) (And.intro (And.intro (And.intro @alen.eq_2 @alen.eq_3) (And.intro @alen.eq_4 @alen.eq_5)) (And.intro (And.intro @alen.eq_6 @afillRows.eq_1) (And.intro @afillRows.eq_2 @afresh.eq_1))))) := (And.intro (And.intro (And.intro (And.intro (And.intro @abin.eq_22 @abin.eq_23) (And.intro @abin.eq_24 @abin.eq_25)) (And.intro (And.intro @abin.eq_26 @pickv.eq_1) (And.intro @pickv.eq_2 @pickv.eq_3))) (And.intro (And.intro (And.intro @AV.cells.eq_1 @AV.cells.eq_2) (And.intro @AV.cells.eq_3 @bound.eq_1)) (And.intro (And.intro @bound.eq_2 @capsOf.eq_1) (And.intro @capsOf.eq_2 @capsOf.eq_3)))) (And.intro (And.intro (And.intro (And.intro @AHeap.cell.eq_1 @AHeap.row.eq_1) (And.intro @AHeap.cells.eq_1 @AHeap.put.eq_1)) (And.intro (And.intro @AHeap.has.eq_1 @afill.eq_1) (And.intro @afill.eq_2 @alen.eq_1))) (And.intro (And.intro (And.intro @alen.eq_2 @alen.eq_3) (And.intro @alen.eq_4 @alen.eq_5)) (And.intro (And.intro @alen.eq_6 @afillRows.eq_1) (And.intro @afillRows.eq_2 @afresh.eq_1)))))
theorem Y4 : type_of% (And.intro (And.intro (And.intro @aappend.eq_1 @aappend.eq_2) (And.intro @aappend.eq_3 (And.intro @aappend.eq_4 @srcRows.eq_1))) (And.intro (And.intro @srcRows.eq_2 @srcRows.eq_3) (And.intro @srcRows.eq_4 (And.intro @srcRows.eq_5 @srcRows.eq_6)))) := (And.intro (And.intro (And.intro @aappend.eq_1 @aappend.eq_2) (And.intro @aappend.eq_3 (And.intro @aappend.eq_4 @srcRows.eq_1))) (And.intro (And.intro @srcRows.eq_2 @srcRows.eq_3) (And.intro @srcRows.eq_4 (And.intro @srcRows.eq_5 @srcRows.eq_6))))
theorem S : type_of% (And.intro (And.intro (And.intro (And.intro S1 S2) (And.intro S3 S4)) (And.intro (And.intro S5 S6) (And.intro S7 (And.intro S8 S9)))) (And.intro (And.intro (And.intro S10 S11) (And.intro S12 (And.intro S13 S14))) (And.intro (And.intro Y0 Y1) (And.intro Y2 (And.intro Y3 Y4))))) := (And.intro (And.intro (And.intro (And.intro S1 S2) (And.intro S3 S4)) (And.intro (And.intro S5 S6) (And.intro S7 (And.intro S8 S9)))) (And.intro (And.intro (And.intro S10 S11) (And.intro S12 (And.intro S13 S14))) (And.intro (And.intro Y0 Y1) (And.intro Y2 (And.intro Y3 Y4)))))
end Go.Proofs.YtoeieoapnhhaeaaGreat.Den
namespace Go.Proofs.YtoeieoapnhhaeaaGreat.Den
set_option linter.unusedSimpArgs false
set_option linter.unusedVariables false
structure MOp where
  kind : Int
  k : Int
  v : Int
deriving DecidableEq, Inhabited
structure MRs where
  code : Int
  list : List Int
deriving DecidableEq, Inhabited
structure MRw where
  held : List Int
  state : Int
deriving DecidableEq, Inhabited
structure MPr where
  pos : Int
  n : Int
deriving DecidableEq, Inhabited
structure MEn where
  pos : Int
  old : Int
  new : Int
deriving DecidableEq, Inhabited
def isIn (n lo hi : Int) : Bool := decide (lo ≤ n ∧ n ≤ hi)
theorem isIn_iff {n lo hi : Int} : isIn n lo hi = true ↔ lo ≤ n ∧ n ≤ hi := by simp [isIn]
def keyOk (k : Int) : Bool := isIn k 0 3
def valOk (v : Int) : Bool := isIn v 1 6
def classOk (c : Int) : Bool := isIn c 0 2
def classOf (v : Int) : Int := if valOk v then v % 3 else -1
def rowAt (k : Int) : Int := if keyOk k then k else -1
def ownerAt (v : Int) : Int := if valOk v then 3 + v else -1
def countAt (c : Int) : Int := if classOk c then 10 + c else -1
def viaAt (v : Int) : Int := if valOk v then 13 + v else -1
def idxL : List Int → Int → Int → Int
  | [], _, _ => -1
  | x :: r, v, i => if x = v then i else idxL r v (i + 1)
def keyOf (r : MRw) (v : Int) : Int := idxL r.held v 0
def manyL : List Int → Int → Int
  | [], _ => 0
  | x :: r, c => (if valOk x && decide (classOf x = c) then 1 else 0) + manyL r c
def howMany (r : MRw) (c : Int) : Int := manyL r.held c
def heldOk : List Int → List Int → Bool
  | _, [] => true
  | pre, x :: r => (decide (x = 0) || (valOk x && !(pre.contains x))) && heldOk (pre ++ [x]) r
def rowsOk (r : MRw) : Bool := heldOk [] r.held && decide (r.held.length = 4) && isIn r.state 0 5
def heldAt (r : MRw) (k : Int) : Int := r.held.getD k.toNat 0
def wd (r : MRw) (p : Int) : Int :=
  if p < 4 then heldAt r p
  else if p < 10 then keyOf r (p - 3) + 1
  else if p < 13 then howMany r (p - 10)
  else if p = 13 then r.state
  else if 0 ≤ keyOf r (p - 13) ∧ keyOf r (p - 13) < r.state - 1 then keyOf r (p - 13) + 1 else 0
def wordsOf (r : MRw) : List Int := if rowsOk r then (List.range 20).map fun (i : Nat) => wd r (i : Int) else []
def opOk (o : MOp) : Bool :=
  if o.kind = 1 ∨ o.kind = 2 then keyOk o.k && valOk o.v
  else if o.kind = 3 ∨ o.kind = 4 then keyOk o.k && decide (o.v = 0)
  else if o.kind = 5 ∨ o.kind = 10 then decide (o.k = 0) && valOk o.v
  else if o.kind = 6 then classOk o.k && decide (o.v = 0)
  else if o.kind = 7 ∨ o.kind = 8 ∨ o.kind = 9 then decide (o.k = 0) && decide (o.v = 0)
  else false
def madeR (r : MRw) : Bool := decide (r.state = 5)
def refusal (r : MRw) (o : MOp) (code : Int) : Bool :=
  if code = 1 then decide (o.kind = 1) && !decide (heldAt r o.k = 0)
  else if code = 2 then (decide (o.kind = 1) || decide (o.kind = 2)) && decide (0 ≤ keyOf r o.v)
  else if code = 3 ∧ (o.kind = 2 ∨ o.kind = 3 ∨ o.kind = 4) then decide (heldAt r o.k = 0)
  else if code = 3 then decide (keyOf r o.v < 0) && (decide (o.kind = 5) || decide (o.kind = 10) && madeR r)
  else if code = 4 ∧ o.kind = 8 then !decide (r.state = 0)
  else if code = 4 ∧ o.kind = 9 then decide (r.state = 0) || madeR r
  else if code = 4 ∧ o.kind = 10 then !madeR r
  else false
def success (r : MRw) (o : MOp) : List Int × Bool :=
  if o.kind = 1 then ([], decide (heldAt r o.k = 0) && decide (keyOf r o.v < 0))
  else if o.kind = 2 then ([], !decide (heldAt r o.k = 0) && (decide (keyOf r o.v < 0) || decide (keyOf r o.v = o.k)))
  else if o.kind = 3 then ([], !decide (heldAt r o.k = 0))
  else if o.kind = 4 then ([heldAt r o.k], !decide (heldAt r o.k = 0))
  else if o.kind = 5 then ([keyOf r o.v], decide (0 ≤ keyOf r o.v))
  else if o.kind = 6 then ([howMany r o.k], true)
  else if o.kind = 7 then (r.held, true)
  else if o.kind = 8 then ([], decide (r.state = 0))
  else if o.kind = 9 then ([], !decide (r.state = 0) && !madeR r)
  else ([keyOf r o.v], decide (0 ≤ keyOf r o.v) && madeR r)
def allowed (r : MRw) (o : MOp) (s : MRs) : Bool :=
  if rowsOk r && opOk o then
    if s.code = 0 then (success r o).2 && decide ((success r o).1 = s.list)
    else decide (s.list = []) && refusal r o s.code
  else false
def afterR (r : MRw) (o : MOp) (s : MRs) : MRw :=
  if allowed r o s && decide (s.code = 0) then
    if o.kind = 1 ∨ o.kind = 2 then { r with held := r.held.set o.k.toNat o.v }
    else if o.kind = 3 then { r with held := r.held.set o.k.toNat 0 }
    else if o.kind = 8 ∨ o.kind = 9 then { r with state := r.state + 1 }
    else r
  else r
def readP (got : List MPr) (p : Int) : Option Int := (got.reverse.find? fun x => decide (x.pos = p)).map MPr.n
def readN (got : List MPr) (p : Int) : Int := (readP got p).getD 0
structure MAk where
  places : List Int
  miss : Int
  over : Bool
deriving DecidableEq, Inhabited
def askA (got : List MPr) (a : MAk) (p : Int) : MAk :=
  if a.over then a
  else if p < 0 ∨ readP got p = none then { a with over := true, miss := p }
  else { a with places := a.places ++ [p] }
def askN (got : List MPr) (a : MAk) (p : Int) : Int :=
  if a.over then 0 else if p < 0 ∨ readP got p = none then 0 else readN got p
def stopA (a : MAk) (b : Bool) : MAk := { a with over := a.over || b }
def waysA (got : List MPr) (a : MAk) : List Int → MAk
  | [] => a
  | v :: r => waysA got (askA got a (viaAt v)) r
def wayA (got : List MPr) (a : MAk) (k : Int) (vs : List Int) : MAk :=
  waysA got (stopA (askA got a 13) (decide (askN got a 13 ≤ k + 1))) vs
def changeA (got : List MPr) (o : MOp) (a : MAk) : MAk :=
  let row := askN got a (rowAt o.k)
  let a := askA got a (rowAt o.k)
  if o.kind = 1 then
    let a := stopA a (!decide (row = 0))
    let owner := askN got a (ownerAt o.v)
    let a := askA got a (ownerAt o.v)
    let a := stopA a (!decide (owner = 0))
    let a := askA got a (countAt (classOf o.v))
    wayA got a o.k [o.v]
  else if o.kind = 2 then
    let a := stopA a (decide (row = 0) || decide (row = o.v))
    let owner := askN got a (ownerAt o.v)
    let a := askA got a (ownerAt o.v)
    let a := stopA a (!decide (owner = 0))
    let a := askA got a (ownerAt row)
    let a := if classOf row = classOf o.v then a else askA got (askA got a (countAt (classOf row))) (countAt (classOf o.v))
    wayA got a o.k [row, o.v]
  else
    let a := stopA a (decide (row = 0))
    let a := askA got a (ownerAt row)
    let a := askA got a (countAt (classOf row))
    wayA got a o.k [row]
def askedA (o : MOp) (got : List MPr) : MAk :=
  let a : MAk := ⟨[], -1, false⟩
  if o.kind = 1 ∨ o.kind = 2 ∨ o.kind = 3 then changeA got o a
  else if o.kind = 4 then askA got a (rowAt o.k)
  else if o.kind = 5 then askA got a (ownerAt o.v)
  else if o.kind = 6 then askA got a (countAt o.k)
  else if o.kind = 7 then askA got (askA got (askA got (askA got a 0) 1) 2) 3
  else if o.kind = 8 then askA got a 13
  else if o.kind = 9 then
    let state := askN got a 13
    let a := stopA (askA got a 13) (decide (state < 1) || decide (4 < state))
    let row := askN got a (rowAt (state - 1))
    let a := stopA (askA got a (rowAt (state - 1))) (!valOk row)
    askA got a (viaAt row)
  else if o.kind = 10 then
    let state := askN got a 13
    let a := stopA (askA got a 13) (!decide (state = 5))
    askA got a (viaAt o.v)
  else a
def nextP (o : MOp) (got : List MPr) : Int := if opOk o then (askedA o got).miss else -1
def atOnce (o : MOp) (got : List MPr) : Option MRs :=
  let row := readN got (rowAt o.k)
  let owner := readN got (ownerAt o.v)
  let state := readN got 13
  if o.kind = 1 ∧ row ≠ 0 then some ⟨1, []⟩
  else if o.kind = 1 ∧ owner ≠ 0 then some ⟨2, []⟩
  else if (o.kind = 2 ∨ o.kind = 3 ∨ o.kind = 4) ∧ row = 0 then some ⟨3, []⟩
  else if o.kind = 2 ∧ row = o.v then some ⟨0, []⟩
  else if o.kind = 2 ∧ owner ≠ 0 then some ⟨2, []⟩
  else if o.kind = 4 then some ⟨0, [row]⟩
  else if o.kind = 5 ∧ owner = 0 then some ⟨3, []⟩
  else if o.kind = 5 then some ⟨0, [owner - 1]⟩
  else if o.kind = 6 then some ⟨0, [readN got (countAt o.k)]⟩
  else if (o.kind = 8 ∧ state ≠ 0) ∨ (o.kind = 9 ∧ (state < 1 ∨ 4 < state)) ∨ (o.kind = 10 ∧ state ≠ 5) then some ⟨4, []⟩
  else none
def become (o : MOp) (p old row state : Int) : Int :=
  if o.kind = 8 then old + 1
  else if o.kind = 9 then
    if p = 13 then old + 1 else if p = viaAt row then state else old
  else old
def putE (got : List MPr) (p to more : Int) : List MEn :=
  if p < 0 then [] else
  match readP got p with
  | none => []
  | some old => [⟨p, old, if more = 1 then old + 1 else if more = -1 then (if 0 < old - 1 then old - 1 else 0) else to⟩]
section
variable {α : Type} [Inhabited α] (lt : α → α → Bool)
def posJ (x : α) (L : List α) : Nat → Nat
  | 0 => 0
  | j + 1 => if lt x L[j]! = true then posJ x L j else j + 1
def insP (x : α) (L : List α) : List α := L.take (posJ lt x L L.length) ++ x :: L.drop (posJ lt x L L.length)
def sortTo (xs : List α) : Nat → List α
  | 0 => []
  | i + 1 => insP lt xs[i]! (sortTo xs i)
end
def ltE (x y : MEn) : Bool := decide (x.pos - y.pos < 0)
def ltI (x y : Int) : Bool := decide (x < y)
def sortE (l : List MEn) : List MEn := sortTo ltE l l.length
def putsE (o : MOp) (got : List MPr) (h state : Int) : List MEn :=
  putE got (rowAt o.k) o.v 0 ++ putE got 13 state 0 ++ putE got (ownerAt h) 0 0 ++ putE got (viaAt h) 0 0 ++
  putE got (ownerAt o.v) (o.k + 1) 0 ++ putE got (viaAt o.v) (o.k + 1) 0 ++
  (if classOf h = classOf o.v then [] else putE got (countAt (classOf h)) 0 (-1) ++ putE got (countAt (classOf o.v)) 0 1)
def changesE (o : MOp) (got : List MPr) (h state : Int) : List MEn := sortE (putsE o got h state)
def sortI (l : List Int) : List Int := sortTo ltI l l.length
structure MPl where
  now : Bool
  res : MRs
  list : List MEn
deriving DecidableEq, Inhabited
def planOf (o : MOp) (got : List MPr) : Option MPl :=
  if opOk o then
    let a := askedA o got
    if 0 ≤ a.miss then none else
    match atOnce o got with
    | some s => some ⟨true, s, []⟩
    | none =>
      let state := readN got 13
      let row := if o.kind = 9 then readN got (rowAt (state - 1)) else readN got (rowAt o.k)
      if o.kind = 1 ∨ o.kind = 2 ∨ o.kind = 3 then some ⟨false, ⟨0, []⟩, changesE o got row state⟩
      else
        let ps := sortI a.places
        let list := ps.map fun p => (⟨p, readN got p, become o p (readN got p) row state⟩ : MEn)
        let res : MRs :=
          if o.kind = 7 then ⟨0, ps.map (readN got)⟩
          else if o.kind = 10 then
            if readN got (viaAt o.v) = 0 then ⟨3, []⟩ else ⟨0, [readN got (viaAt o.v) - 1]⟩
          else ⟨0, []⟩
        some ⟨false, res, list⟩
  else none
end Go.Proofs.YtoeieoapnhhaeaaGreat.Den
namespace Go.Proofs.YtoeieoapnhhaeaaGreat.Den
set_option linter.unusedSimpArgs false
set_option linter.unusedVariables false
inductive MTr
  | done
  | ask (p : Int) (k : Int → MTr)
def MTr.run (got : List MPr) : MTr → List Int → List Int × Int
  | .done, ps => (ps, -1)
  | .ask p k, ps => if p < 0 ∨ readP got p = none then (ps, p) else (k (readN got p)).run got (ps ++ [p])
def MTr.walk (f : Int → Int) : MTr → List Int → List Int
  | .done, ps => ps
  | .ask p k, ps => if p < 0 then ps else (k (f p)).walk f (ps ++ [p])
def iteT (b : Prop) [Decidable b] (x y : MTr) : MTr := if b then x else y
def treeVs : List Int → MTr
  | [] => .done
  | v :: r => .ask (viaAt v) fun _ => treeVs r
def treeWay (k : Int) (vs : List Int) : MTr := .ask 13 fun s => iteT (s ≤ k + 1) .done (treeVs vs)
def treeOf (o : MOp) : MTr :=
  if o.kind = 1 then .ask (rowAt o.k) fun row => iteT (row ≠ 0) .done (.ask (ownerAt o.v) fun owner => iteT (owner ≠ 0) .done (.ask (countAt (classOf o.v)) fun _ => treeWay o.k [o.v]))
  else if o.kind = 2 then .ask (rowAt o.k) fun row => iteT (row = 0 ∨ row = o.v) .done (.ask (ownerAt o.v) fun owner => iteT (owner ≠ 0) .done (.ask (ownerAt row) fun _ => iteT (classOf row = classOf o.v) (treeWay o.k [row, o.v]) (.ask (countAt (classOf row)) fun _ => .ask (countAt (classOf o.v)) fun _ => treeWay o.k [row, o.v])))
  else if o.kind = 3 then .ask (rowAt o.k) fun row => iteT (row = 0) .done (.ask (ownerAt row) fun _ => .ask (countAt (classOf row)) fun _ => treeWay o.k [row])
  else if o.kind = 4 then .ask (rowAt o.k) fun _ => .done
  else if o.kind = 5 then .ask (ownerAt o.v) fun _ => .done
  else if o.kind = 6 then .ask (countAt o.k) fun _ => .done
  else if o.kind = 7 then .ask 0 fun _ => .ask 1 fun _ => .ask 2 fun _ => .ask 3 fun _ => .done
  else if o.kind = 8 then .ask 13 fun _ => .done
  else if o.kind = 9 then .ask 13 fun s => iteT (s < 1 ∨ 4 < s) .done (.ask (rowAt (s - 1)) fun row => iteT (valOk row = false) .done (.ask (viaAt row) fun _ => .done))
  else if o.kind = 10 then .ask 13 fun s => iteT (s ≠ 5) .done (.ask (viaAt o.v) fun _ => .done)
  else .done
def AtT (got : List MPr) (a : MAk) (t : MTr) (ps : List Int) (m : Int) : Prop :=
  if a.over then (a.places, a.miss) = (ps, m) else a.miss = -1 ∧ t.run got a.places = (ps, m)
theorem at_ask {got : List MPr} {a : MAk} {p : Int} {k : Int → MTr} {ps : List Int} {m : Int} (h : AtT got a (.ask p k) ps m) :
    AtT got (askA got a p) (k (askN got a p)) ps m := by
  unfold AtT at h ⊢
  cases ho : a.over
  · rw [ho] at h
    simp only [Bool.false_eq_true, if_false] at h
    obtain ⟨hm, h⟩ := h
    simp only [MTr.run] at h
    by_cases hc : p < 0 ∨ readP got p = none
    · rw [if_pos hc] at h
      simp [askA, ho, hc, h]
    · rw [if_neg hc] at h
      simp [askA, askN, ho, hc, h, hm]
  · rw [ho] at h
    simp only [if_true] at h
    simp [askA, ho, h]
theorem at_stop {got : List MPr} {a : MAk} {b : Prop} [Decidable b] {c : Bool} (hc : c = decide b) {y : MTr} {ps : List Int} {m : Int} (h : AtT got a (iteT b .done y) ps m) :
    AtT got (stopA a c) y ps m := by
  subst hc
  unfold AtT at h ⊢
  cases ho : a.over
  · rw [ho] at h
    simp only [Bool.false_eq_true, if_false] at h
    obtain ⟨hm, h⟩ := h
    by_cases hb : b
    · simp only [iteT, if_pos hb, MTr.run, Prod.mk.injEq] at h
      simp [stopA, ho, hb, h, hm]
    · simp only [iteT, if_neg hb] at h
      simp [stopA, ho, hb, h, hm]
  · rw [ho] at h
    simp only [if_true] at h
    simp [stopA, ho, h]
theorem at_end {got : List MPr} {a : MAk} {ps : List Int} {m : Int} (h : AtT got a .done ps m) : (a.places, a.miss) = (ps, m) := by
  unfold AtT at h
  cases ho : a.over
  · rw [ho] at h
    simp only [Bool.false_eq_true, if_false, MTr.run, Prod.mk.injEq] at h
    simp [h]
  · rw [ho] at h
    simpa using h
theorem at_vs {got : List MPr} {ps : List Int} {m : Int} (vs : List Int) : ∀ {a : MAk}, AtT got a (treeVs vs) ps m →
    AtT got (waysA got a vs) .done ps m := by
  induction vs with
  | nil => intro a h; exact h
  | cons v r ih => intro a h; exact ih (at_ask h)
theorem at_way {got : List MPr} {ps : List Int} {m : Int} {k : Int} {vs : List Int} {a : MAk} (h : AtT got a (treeWay k vs) ps m) :
    AtT got (wayA got a k vs) .done ps m := by
  unfold wayA
  exact at_vs vs (at_stop rfl (at_ask h))
theorem asked_tree (o : MOp) (got : List MPr) :
    ((askedA o got).places, (askedA o got).miss) = (treeOf o).run got [] := by
  have h0 : ∀ t : MTr, AtT got ⟨[], -1, false⟩ t (t.run got []).1 (t.run got []).2 := by
    intro t
    simp [AtT]
  have h := h0 (treeOf o)
  refine at_end (got := got) (a := askedA o got) (ps := ((treeOf o).run got []).1) (m := ((treeOf o).run got []).2) ?_
  revert h
  generalize ((treeOf o).run got []).1 = ps
  generalize ((treeOf o).run got []).2 = m
  intro h
  unfold treeOf at h
  unfold askedA
  by_cases h1 : o.kind = 1
  · simp only [h1, changeA, if_true, true_or] at h ⊢
    have h := at_ask (at_stop (c := !decide (askN got ⟨[], -1, false⟩ (rowAt o.k) = 0)) (by simp) (at_ask h))
    have h := at_ask (at_stop (c := !decide (askN got (stopA (askA got ⟨[], -1, false⟩ (rowAt o.k)) (!decide (askN got ⟨[], -1, false⟩ (rowAt o.k) = 0))) (ownerAt o.v) = 0)) (by simp) h)
    exact at_way h
  by_cases h2 : o.kind = 2
  · simp only [h2, changeA, if_true, true_or, or_true, show ¬ ((2:Int) = 1) by decide, if_false, false_or] at h ⊢
    have h := at_ask (at_stop (c := (decide (askN got ⟨[], -1, false⟩ (rowAt o.k) = 0) || decide (askN got ⟨[], -1, false⟩ (rowAt o.k) = o.v))) (by simp) (at_ask h))
    have h := at_ask (at_stop (c := !decide (askN got (stopA (askA got ⟨[], -1, false⟩ (rowAt o.k)) ((decide (askN got ⟨[], -1, false⟩ (rowAt o.k) = 0) || decide (askN got ⟨[], -1, false⟩ (rowAt o.k) = o.v)))) (ownerAt o.v) = 0)) (by simp) h)
    by_cases hc : classOf (askN got ⟨[], -1, false⟩ (rowAt o.k)) = classOf o.v
    · simp only [iteT, if_pos hc] at h ⊢
      exact at_way h
    · simp only [iteT, if_neg hc] at h ⊢
      exact at_way (at_ask (at_ask h))
  by_cases h3 : o.kind = 3
  · simp only [h3, changeA, if_true, true_or, or_true, show ¬ ((3:Int) = 1) by decide, show ¬ ((3:Int) = 2) by decide, if_false, false_or] at h ⊢
    exact at_way (at_ask (at_ask (at_stop (by simp) (at_ask h))))
  by_cases h4 : o.kind = 4
  · simp only [h4, if_true, show ¬ ((4:Int) = 1) by decide, show ¬ ((4:Int) = 2) by decide, show ¬ ((4:Int) = 3) by decide, if_false, false_or] at h ⊢
    exact at_ask h
  by_cases h5 : o.kind = 5
  · simp [h5] at h ⊢
    exact at_ask h
  by_cases h6 : o.kind = 6
  · simp [h6] at h ⊢
    exact at_ask h
  by_cases h7 : o.kind = 7
  · simp [h7] at h ⊢
    exact at_ask (at_ask (at_ask (at_ask h)))
  by_cases h8 : o.kind = 8
  · simp [h8] at h ⊢
    exact at_ask h
  by_cases h9 : o.kind = 9
  · rw [if_neg h1, if_neg h2, if_neg h3, if_neg h4, if_neg h5, if_neg h6, if_neg h7, if_neg h8, if_pos h9] at h
    rw [if_neg (by simp [h1, h2, h3]), if_neg h4, if_neg h5, if_neg h6, if_neg h7, if_neg h8, if_pos h9]
    refine at_ask (at_stop (by simp) (at_ask (at_stop (by simp) (at_ask h))))
  by_cases h10 : o.kind = 10
  · rw [if_neg h1, if_neg h2, if_neg h3, if_neg h4, if_neg h5, if_neg h6, if_neg h7, if_neg h8, if_neg h9, if_pos h10] at h
    rw [if_neg (by simp [h1, h2, h3]), if_neg h4, if_neg h5, if_neg h6, if_neg h7, if_neg h8, if_neg h9, if_pos h10]
    refine at_ask (at_stop (by simp) (at_ask h))
  · rw [if_neg h1, if_neg h2, if_neg h3, if_neg h4, if_neg h5, if_neg h6, if_neg h7, if_neg h8, if_neg h9, if_neg h10] at h
    rw [if_neg (by simp [h1, h2, h3]), if_neg h4, if_neg h5, if_neg h6, if_neg h7, if_neg h8, if_neg h9, if_neg h10]
    exact h
theorem readP_snoc (got : List MPr) (x : MPr) (p : Int) : readP (got ++ [x]) p = if x.pos = p then some x.n else readP got p := by
  simp only [readP, List.reverse_append, List.reverse_cons, List.reverse_nil, List.nil_append, List.cons_append, List.find?_cons]
  by_cases h : x.pos = p
  · simp [h]
  · simp [h]
theorem readP_mem {got : List MPr} {p n : Int} (h : readP got p = some n) : ⟨p, n⟩ ∈ got := by
  simp only [readP, Option.map_eq_some_iff] at h
  obtain ⟨x, h1, h2⟩ := h
  have h3 := List.find?_some h1
  have h4 := List.mem_of_find?_eq_some h1
  simp only [decide_eq_true_eq] at h3
  have : x = ⟨p, n⟩ := by cases x; simp_all
  simpa [this] using h4
theorem readP_some {got : List MPr} {x : MPr} (h : x ∈ got) : readP got x.pos ≠ none := by
  simp only [readP, ne_eq, Option.map_eq_none_iff, List.find?_eq_none, List.mem_reverse, decide_eq_true_eq]
  intro hh
  exact hh x h rfl
theorem run_miss (got : List MPr) (t : MTr) : ∀ (ps : List Int), 0 ≤ (t.run got ps).2 → readP got (t.run got ps).2 = none := by
  induction t with
  | done => intro ps h; simp [MTr.run] at h
  | ask p k ih =>
    intro ps h
    simp only [MTr.run] at h ⊢
    by_cases hc : p < 0 ∨ readP got p = none
    · rw [if_pos hc] at h ⊢
      rcases hc with hc | hc
      · exact absurd h (by omega)
      · exact hc
    · rw [if_neg hc] at h ⊢
      exact ih _ _ h
theorem run_pre (got : List MPr) (t : MTr) : ∀ (ps : List Int) (q : Int), q ∈ ps → q ∈ (t.run got ps).1 := by
  induction t with
  | done => intro ps q h; exact h
  | ask p k ih =>
    intro ps q h
    simp only [MTr.run]
    split
    · exact h
    · exact ih _ _ _ (List.mem_append_left _ h)
theorem run_snoc (got : List MPr) (n : Int) (t : MTr) : ∀ (ps : List Int) (m : Int), (t.run got ps).2 = m → 0 ≤ m →
    ∀ q, q ∈ (t.run got ps).1 ∨ q = m → q ∈ (t.run (got ++ [⟨m, n⟩]) ps).1 := by
  induction t with
  | done => intro ps m h hm; simp [MTr.run] at h; omega
  | ask p k ih =>
    intro ps m h h0 q hq
    have hm := run_miss got (.ask p k) ps (by rw [h]; exact h0)
    rw [h] at hm
    simp only [MTr.run] at h hq ⊢
    by_cases hc : p < 0 ∨ readP got p = none
    · rw [if_pos hc] at h hq
      simp only at h hq
      subst h
      have hp : ¬ p < 0 := by omega
      simp only [readP_snoc, if_true, hp, false_or, reduceCtorEq, if_false]
      refine run_pre _ _ _ _ ?_
      rcases hq with hq | hq
      · exact List.mem_append_left _ hq
      · simp [hq]
    · rw [if_neg hc] at h hq
      have hne : m ≠ p := by
        intro e
        rw [e] at hm
        exact hc (Or.inr hm)
      have hr : readP (got ++ [⟨m, n⟩]) p = readP got p := by
        rw [readP_snoc, if_neg hne]
      have hn : readN (got ++ [⟨m, n⟩]) p = readN got p := by
        simp only [readN, hr]
      rw [hr, hn, if_neg hc]
      exact ih _ _ _ h h0 q hq
theorem run_places (got : List MPr) (t : MTr) : ∀ (ps : List Int) (q : Int), q ∈ (t.run got ps).1 → q ∈ ps ∨ (0 ≤ q ∧ readP got q ≠ none) := by
  induction t with
  | done => intro ps q h; exact Or.inl h
  | ask p k ih =>
    intro ps q h
    simp only [MTr.run] at h
    by_cases hc : p < 0 ∨ readP got p = none
    · rw [if_pos hc] at h
      exact Or.inl h
    · rw [if_neg hc] at h
      rcases ih _ _ _ h with h | h
      · rcases List.mem_append.1 h with h | h
        · exact Or.inl h
        · simp only [List.mem_singleton] at h
          subst h
          exact Or.inr ⟨by omega, fun e => hc (Or.inr e)⟩
      · exact Or.inr h
inductive RunP (o : MOp) : List MPr → Prop
  | nil : RunP o []
  | snoc {got : List MPr} (n : Int) : RunP o got → 0 ≤ ((treeOf o).run got []).2 → RunP o (got ++ [⟨((treeOf o).run got []).2, n⟩])
theorem RunP.places {o : MOp} {got : List MPr} (h : RunP o got) : (∀ x ∈ got, x.pos ∈ ((treeOf o).run got []).1) ∧
    (∀ x ∈ got, readP got x.pos = some x.n) := by
  induction h with
  | nil => simp
  | @snoc got n h hm ih =>
    refine ⟨?_, ?_⟩
    · intro x hx
      rcases List.mem_append.1 hx with hx | hx
      · exact run_snoc got n (treeOf o) [] _ rfl hm x.pos (Or.inl (ih.1 x hx))
      · simp only [List.mem_singleton] at hx
        subst hx
        exact run_snoc got n (treeOf o) [] _ rfl hm _ (Or.inr rfl)
    · intro x hx
      rw [readP_snoc]
      rcases List.mem_append.1 hx with hx | hx
      · rw [if_neg]
        · exact ih.2 x hx
        · intro e
          have := run_miss got (treeOf o) [] hm
          simp only at e
          rw [e] at this
          exact readP_some hx this
      · simp only [List.mem_singleton] at hx
        subst hx
        simp
theorem run_walk (got : List MPr) (f : Int → Int) (hf : ∀ q n, readP got q = some n → n = f q) (t : MTr) : ∀ (ps : List Int), (t.run got ps).2 < 0 →
    (t.run got ps).1 = t.walk f ps := by
  induction t with
  | done => intro ps h; rfl
  | ask p k ih =>
    intro ps h
    simp only [MTr.run, MTr.walk] at h ⊢
    by_cases hp : p < 0
    · simp [hp]
    · simp only [hp, false_or, if_false] at h ⊢
      by_cases hc : readP got p = none
      · rw [if_pos hc] at h
        exact absurd h (by simpa using hp)
      · rw [if_neg hc] at h ⊢
        have : readN got p = f p := by
          obtain ⟨n, hn⟩ := Option.ne_none_iff_exists'.1 hc
          simp only [readN, hn, Option.getD_some]
          exact hf p n hn
        rw [this] at h ⊢
        exact ih _ _ h
end Go.Proofs.YtoeieoapnhhaeaaGreat.Den
