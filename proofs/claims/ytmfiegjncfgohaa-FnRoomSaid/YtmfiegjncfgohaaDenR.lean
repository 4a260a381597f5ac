/- The abstract calculus, part R: rules for proofs over it. -/
import Derived.Test.YtmfiegjncfgohaaDenQ
import Derived.IntWalk
namespace Go.Proofs.Ytmfiegjncfgohaa.Den
open Go.RowKit
set_option linter.unusedVariables false

section
variable {P : Program} {n0 : Nat}
theorem awp_skip {K : AExit → St → Prop} {st : St} : awp P n0 .skip K st = K .normal st := propext Iff.rfl
def regK (ks : List Nat) (K : AExit → St → Prop) : St → Prop := fun s => K .normal ⟨fkeep ks s.fr, s.H⟩
theorem regK_eq {ks : List Nat} {K : AExit → St → Prop} {f : Fr} {H : AHeap} : regK ks K ⟨f, H⟩ = K .normal ⟨fkeep ks f, H⟩ := propext Iff.rfl
theorem awp_reg {ops : List AOper} {ks : List Nat} {K : AExit → St → Prop} {st : St} : awp P n0 (.reg ops ks) K st = opsWp P ops (regK ks K) st := propext Iff.rfl
theorem awp_dreg {ops : List (Nat × Cat × AOper)} {ks : List Nat} {K : AExit → St → Prop} {st : St} : awp P n0 (.dreg ops ks) K st = opsWp P (ops.map (·.2.2)) (regK ks K) st := propext Iff.rfl
/-- The rest of a region, once an operation has its value. -/
def stepK (P : Program) (d : Option Nat) (c : List (AOp × Nat × Option (Nat × Bool))) (r : List AOper) (K : St → Prop) (f : Fr) : AV → AHeap → Prop := fun v H => chks (fput d v f) H c ∧ opsWp P r K ⟨fput d v f, H⟩
theorem stepK_eq {d : Option Nat} {c : List (AOp × Nat × Option (Nat × Bool))} {r : List AOper} {K : St → Prop} {f : Fr} {v : AV} {H : AHeap} : stepK P d c r K f v H = (chks (fput d v f) H c ∧ opsWp P r K ⟨fput d v f, H⟩) := propext Iff.rfl
def guardK (P : Program) (w : Bool) (o : AOper) (r : List AOper) (K : St → Prop) (f : Fr) (H : AHeap) : Bool → Prop := fun b => if b = w then opWp P o.op (evf f) H (stepK P o.dst o.chk r K f) else opsWp P r K ⟨fput o.dst (.tup []) f, H⟩
theorem guardK_tt {o : AOper} {r : List AOper} {K : St → Prop} {f : Fr} {H : AHeap} : guardK P true o r K f H true = opWp P o.op (evf f) H (stepK P o.dst o.chk r K f) := propext Iff.rfl
theorem guardK_ff {o : AOper} {r : List AOper} {K : St → Prop} {f : Fr} {H : AHeap} : guardK P false o r K f H false = opWp P o.op (evf f) H (stepK P o.dst o.chk r K f) := propext Iff.rfl
theorem guardK_tf {o : AOper} {r : List AOper} {K : St → Prop} {f : Fr} {H : AHeap} : guardK P true o r K f H false = opsWp P r K ⟨fput o.dst (.tup []) f, H⟩ := propext Iff.rfl
theorem guardK_ft {o : AOper} {r : List AOper} {K : St → Prop} {f : Fr} {H : AHeap} : guardK P false o r K f H true = opsWp P r K ⟨fput o.dst (.tup []) f, H⟩ := propext Iff.rfl
def gK (P : Program) (w : Bool) (o : AOper) (r : List AOper) (K : St → Prop) (f : Fr) (H : AHeap) : AV → Prop := fun x => onG x (guardK P w o r K f H) (opsWp P r K ⟨fput o.dst (.tup []) f, H⟩)
theorem gK_b {w : Bool} {o : AOper} {r : List AOper} {K : St → Prop} {f : Fr} {H : AHeap} {b : Bool} : gK P w o r K f H (.s (.bool b)) = guardK P w o r K f H b := propext Iff.rfl
theorem gK_u {w : Bool} {o : AOper} {r : List AOper} {K : St → Prop} {f : Fr} {H : AHeap} : gK P w o r K f H (.tup []) = opsWp P r K ⟨fput o.dst (.tup []) f, H⟩ := propext Iff.rfl
theorem opsWp_nil {K : St → Prop} {st : St} : opsWp P [] K st = K st := propext Iff.rfl
theorem opsWp_none {d : Option Nat} {op : AOp} {c : List (AOp × Nat × Option (Nat × Bool))} {r : List AOper} {K : St → Prop} {f : Fr} {H : AHeap} : opsWp P (⟨d, op, none, c⟩ :: r) K ⟨f, H⟩ = opWp P op (evf f) H (stepK P d c r K f) := propext Iff.rfl
theorem opsWp_some {d : Option Nat} {op : AOp} {t : Nat} {w : Bool} {c : List (AOp × Nat × Option (Nat × Bool))} {r : List AOper} {K : St → Prop} {f : Fr} {H : AHeap} : opsWp P (⟨d, op, some (t, w), c⟩ :: r) K ⟨f, H⟩ = gK P w ⟨d, op, some (t, w), c⟩ r K f H (fget f t) := propext Iff.rfl
theorem awp_seq {a b : ACode} {K : AExit → St → Prop} {st : St} : awp P n0 (.seq a b) K st = awp P n0 a (thenK (awp P n0 b K) K) st := propext Iff.rfl
def condK (P : Program) (n0 : Nat) (a b : ACode) (K : AExit → St → Prop) (st : St) : Bool → Prop := fun t => if t = true then awp P n0 a K st else awp P n0 b K st
theorem condK_t {a b : ACode} {K : AExit → St → Prop} {st : St} : condK P n0 a b K st true = awp P n0 a K st := propext Iff.rfl
theorem condK_f {a b : ACode} {K : AExit → St → Prop} {st : St} : condK P n0 a b K st false = awp P n0 b K st := propext Iff.rfl
theorem awp_cond {c : Opd} {a b : ACode} {K : AExit → St → Prop} {st : St} : awp P n0 (.cond c a b) K st = onB (evf st.fr c) (condK P n0 a b K st) := propext Iff.rfl
theorem awp_block {id : Nat} {c : ACode} {K : AExit → St → Prop} {st : St} : awp P n0 (.block id c) K st = awp P n0 c (blockK id K) st := propext Iff.rfl
theorem awp_exit {id : Nat} {K : AExit → St → Prop} {st : St} : awp P n0 (.exit id) K st = K (.exit id) st := propext Iff.rfl
theorem awp_ret {K : AExit → St → Prop} {st : St} : awp P n0 .ret K st = K .ret st := propext Iff.rfl
/-- A loop: an invariant that bears a number, which each round lowers. -/
theorem awp_loop {c : ACode} {K : AExit → St → Prop} {st : St} (I : Nat → St → Prop) (m0 : Nat) (h0 : ∃ s, W n0 st s ∧ I m0 s) (hr : ∀ n s, I n s → awp P n0 c (thenK (fun s' => ∃ m, m < n ∧ ∃ s'', W n0 s' s'' ∧ I m s'') K) s) : awp P n0 (.loop c) K st := ⟨I, by obtain ⟨s, h⟩ := h0; exact ⟨m0, s, h⟩, hr⟩
theorem awp_wk {c : ACode} {K : AExit → St → Prop} {st : St} (s : St) (hw : W n0 st s) (h : awp P n0 c K s) : awp P n0 (.wk c) K st := ⟨s, hw, h⟩

theorem thenK_n {n : St → Prop} {K : AExit → St → Prop} {st : St} : thenK n K .normal st = n st := propext Iff.rfl
theorem thenK_e {n : St → Prop} {K : AExit → St → Prop} {st : St} {i : Nat} : thenK n K (.exit i) st = K (.exit i) st := propext Iff.rfl
theorem thenK_r {n : St → Prop} {K : AExit → St → Prop} {st : St} : thenK n K .ret st = K .ret st := propext Iff.rfl
theorem blockK_n {i : Nat} {K : AExit → St → Prop} {st : St} : blockK i K .normal st = K .normal st := propext Iff.rfl
theorem blockK_r {i : Nat} {K : AExit → St → Prop} {st : St} : blockK i K .ret st = K .ret st := propext Iff.rfl
theorem blockK_e {i j : Nat} {K : AExit → St → Prop} {st : St} : blockK i K (.exit j) st = if j = i then K .normal st else K (.exit j) st := propext Iff.rfl
def finK (K : AV → AHeap → Prop) (H : AHeap) : List AV → Prop := fun l => K (single l) H
theorem finK_eq {K : AV → AHeap → Prop} {H : AHeap} {l : List AV} : finK K H l = K (single l) H := propext Iff.rfl
theorem retK_n {rs : List ARes} {K : AV → AHeap → Prop} {st : St} : retK rs K .normal st = onO (aress st rs) (finK K st.H) := propext Iff.rfl
theorem retK_r {rs : List ARes} {K : AV → AHeap → Prop} {st : St} : retK rs K .ret st = onO (aress st rs) (finK K st.H) := propext Iff.rfl
theorem single_one {v : AV} : single [v] = v := rfl
theorem single_two {u v : AV} {l : List AV} : single (u :: v :: l) = .tup (u :: v :: l) := rfl
theorem single_nil : single [] = .tup [] := rfl

/-! Operations: plain ones are told by xop. -/
theorem opWp_callx {f : Nat} {args : List Opd} {ev : Opd → AV} {H : AHeap} {K : AV → AHeap → Prop} : opWp P (.callx f args) ev H K = Specx P f (args.map ev) H K := propext Iff.rfl
theorem opWp_call {f : Nat} {args : List Opd} {ev : Opd → AV} {H : AHeap} {K : AV → AHeap → Prop} : opWp P (.call f args) ev H K = Spec P f (args.map ev) H K := propext Iff.rfl
def callvK (P : Program) (args : List AV) (H : AHeap) (K : AV → AHeap → Prop) : Nat → List (Nat × Nat × Nat) → Prop := fun f cs => callee P f = true ∧ Spec P f (args ++ cs.map capAV) H K
theorem callvK_eq {args : List AV} {H : AHeap} {K : AV → AHeap → Prop} {f : Nat} {cs : List (Nat × Nat × Nat)} : callvK P args H K f cs = (callee P f = true ∧ Spec P f (args ++ cs.map capAV) H K) := propext Iff.rfl
theorem opWp_callv {x : Opd} {args : List Opd} {ev : Opd → AV} {H : AHeap} {K : AV → AHeap → Prop} : opWp P (.callv x args) ev H K = onFn (ev x) (callvK P (args.map ev) H K) := propext Iff.rfl
end

/-! The heap. -/
section
variable {H : AHeap} {b b' : Nat} {k : Blk}
theorem get_upd : (H.upd b k).get b' = if b' = b then some k else H.get b' := rfl
theorem get_upd_same : (H.upd b k).get b = some k := if_pos rfl
theorem get_upd_ne (h : b' ≠ b) : (H.upd b k).get b' = H.get b' := if_neg h
theorem get_push_new : (H.push k).get H.nx = some k := if_pos rfl
theorem get_push_at (h : b' = H.nx) : (H.push k).get b' = some k := if_pos h
theorem get_push_old (h : b' ≠ H.nx) : (H.push k).get b' = H.get b' := if_neg h
theorem get_del_ne (h : b' ≠ b) : (H.del b).get b' = H.get b' := if_neg h
theorem nx_upd : (H.upd b k).nx = H.nx := Nat.le_antisymm (Nat.le_refl _) (Nat.le_refl _)
theorem nx_push : (H.push k).nx = H.nx + 1 := Nat.le_antisymm (Nat.le_refl _) (Nat.le_refl _)
theorem nx_del : (H.del b).nx = H.nx := Nat.le_antisymm (Nat.le_refl _) (Nat.le_refl _)
theorem upd_upd {k' : Blk} : (H.upd b k).upd b k' = H.upd b k' := by
  unfold AHeap.upd
  congr 1
  funext c
  by_cases h : c = b <;> simp [h]
theorem push_upd {k' : Blk} (h : b = H.nx) : (H.push k).upd b k' = H.push k' := by
  subst h
  unfold AHeap.upd AHeap.push
  congr 1
  funext c
  by_cases h : c = H.nx <;> simp [h]
theorem alen_sl {b i n c : Nat} : alen (.s (.sl b i n c)) = some n := rfl
theorem alen_nils : alen (.s .nils) = some 0 := rfl
theorem ne_up (n : Nat) : ((n = n + 1) = False) ∧ ((n = n + 2) = False) ∧ ((n = n + 3) = False) ∧ ((n = n + 4) = False) ∧ ((n = n + 5) = False) ∧ ((n = n + 6) = False) ∧ ((n = n + 7) = False) ∧ ((n = n + 8) = False) ∧ ((n = n + 9) = False) := by simp
theorem ne_dn (n : Nat) : ((n + 1 = n) = False) ∧ ((n + 2 = n) = False) ∧ ((n + 3 = n) = False) ∧ ((n + 4 = n) = False) ∧ ((n + 5 = n) = False) ∧ ((n + 6 = n) = False) ∧ ((n + 7 = n) = False) ∧ ((n + 8 = n) = False) ∧ ((n + 9 = n) = False) := by simp
theorem row_of (h : H.get b = some k) {i : Nat} : H.row b i = k.rows[i]? := by unfold AHeap.row; rw [h]; rfl
theorem cell_of (h : H.get b = some k) {i j : Nat} : H.cell b i j = (k.rows[i]?).bind fun r => r[j]? := by unfold AHeap.cell AHeap.row; rw [h]; rfl
theorem cells_of (h : H.get b = some k) {i j n : Nat} : H.cells b i j n = (k.rows[i]?).bind fun r => if j + n ≤ r.length then some ((r.drop j).take n) else none := by unfold AHeap.cells AHeap.row; rw [h]; rfl
theorem put_of (h : H.get b = some k) {i j : Nat} {l : List SV} : H.put b i j l = (k.rows[i]?).bind fun r => if j + l.length ≤ r.length then some (H.upd b { k with rows := k.rows.set i (r.take j ++ l ++ r.drop (j + l.length)) }) else none := by unfold AHeap.put; rw [h]; rfl
theorem has_of (h : H.get b = some k) {sz : Nat} : H.has b sz = (k.sz == sz) := by unfold AHeap.has; rw [h]
end
theorem wrap_id {x : Int} (h1 : -9223372036854775808 ≤ x) (h2 : x ≤ 9223372036854775807) : IntKind.i64.wrap x = x := by exact IntWalk.i64_in x ⟨h1, h2⟩
end Go.Proofs.Ytmfiegjncfgohaa.Den
