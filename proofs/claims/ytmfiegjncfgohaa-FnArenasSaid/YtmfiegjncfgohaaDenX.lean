/- The abstract calculus, part X: entering a law whose arguments are plain data: numbers, truth values, texts, structs and slices of such. -/
import Derived.Test.YtmfiegjncfgohaaDenV
import Derived.WalkKit
import Derived.ProofKit
namespace Go.Proofs.Ytmfiegjncfgohaa.Den
open Go.RowKit Go.ChangeShapes Go.WideShapes Go.Deep
set_option linter.unusedVariables false

/-- The cells of a value of a type. -/
def tyP (P : Program) : Nat → TypeId → List SV → Prop
  | 0, _, _ => False
  | n + 1, t, l => match P.underlying t with
    | some (.int k) => ∃ x, l = [.int k x] ∧ k.min ≤ x ∧ x ≤ k.max
    | some .bool => ∃ b, l = [.bool b]
    | some .string => ∃ s, l = [.str s] ∧ s.size ≤ maxLen
    | some (.slice e) => ∃ rows, l = [.lst (P.cellsOf e) rows] ∧ rows.length ≤ maxLen ∧ ∀ r ∈ rows, tyP P n e r
    | some (.struct fs) => ∃ parts : List (List SV), l = parts.flatten ∧ parts.length = fs.size ∧ ∀ (i : Nat) (f : Field) (p : List SV), fs.toList[i]? = some f → parts[i]? = some p → tyP P n f.type p
    | _ => False

/-- Whether a struct's fields lie one behind the other. -/
def seqB (P : Program) : List Field → Nat → Bool
  | [], _ => true
  | f :: fs, off => decide (f.offset = off) && seqB P fs (off + P.cellsOf f.type)
def sumB (P : Program) : List Field → Nat
  | [] => 0
  | f :: fs => P.cellsOf f.type + sumB P fs
/-- Whether a type is plain data, looked at so deep. -/
def plainTy (P : Program) : Nat → TypeId → Bool
  | 0, _ => false
  | n + 1, t => match P.underlying t with
    | some (.int _) => true
    | some .bool => true
    | some .string => true
    | some (.slice e) => decide (1 ≤ P.cellsOf e) && plainTy P n e
    | some (.struct fs) => decide (P.cellsOf t = sumB P fs.toList) && seqB P fs.toList 0 && fs.toList.all fun (f : Field) => plainTy P n f.type
    | _ => false

def frzAll (W : World) : Phi := ⟨fun _ => none, fun r => W.heap[r]?⟩
theorem frzAll_rel (W : World) : Rel (frzAll W) W.heap.size (hp []) W :=
  ⟨fun b k hk => (by simp [hp_get] at hk), fun b b' k k' p p' hk => (by simp [hp_get] at hk), fun b _ => ⟨by simp [hp_get], rfl⟩, Nat.le_refl _, fun r o ho => ⟨ho, fun ⟨b, k, p, h1, _⟩ => by simp [hp_get] at h1⟩, nofull rfl⟩

inductive DVs (fz : Nat → Option Obj) : List SV → List Value → Prop
  | nil : DVs fz [] []
  | cons {x v l vs} : DR fz x v → DVs fz l vs → DVs fz (x :: l) (v :: vs)
theorem DVs.length {fz : Nat → Option Obj} {l : List SV} {vs : List Value} (h : DVs fz l vs) : l.length = vs.length := by
  induction h with
  | nil => rfl
  | cons _ _ ih => simp [ih]
theorem DVs.append {fz : Nat → Option Obj} {l l' : List SV} {vs vs' : List Value} (h : DVs fz l vs) (h' : DVs fz l' vs') : DVs fz (l ++ l') (vs ++ vs') := by
  induction h with
  | nil => exact h'
  | cons hx _ ih => exact .cons hx ih
theorem DVs.get {fz : Nat → Option Obj} {l : List SV} {vs : List Value} (h : DVs fz l vs) : ∀ (j : Nat) x, l[j]? = some x → ∃ v, vs[j]? = some v ∧ DR fz x v := by
  induction h with
  | nil => intro j x hx; simp at hx
  | cons hx _ ih =>
    intro j x h
    cases j with
    | zero => simp at h; subst h; exact ⟨_, rfl, hx⟩
    | succ j => simp only [List.getElem?_cons_succ] at h ⊢; exact ih j x h
theorem DVs.srs {φ : Phi} {l : List SV} {vs : List Value} (h : DVs φ.fz l vs) : SRs φ l vs := by
  induction h with
  | nil => exact .nil
  | cons hx _ ih => exact .cons (SR.dr hx) ih

/-- Down: the parts of a struct. -/
theorem enter_fields {P : Program} {T : Type} {R : TypeId → List Value → Option (DataW T × List MemPlace)} {fz : Nat → Option Obj} {n : Nat}
    (hR : ∀ t cs y, plainTy P n t = true → R t cs = some y → ∃ l, DVs fz l cs ∧ tyP P n t l)
    (cs : List Value) : ∀ (fs : List Field) (off : Nat) (ys : List (DataW T × List MemPlace)), seqB P fs off = true → fs.all (fun (f : Field) => plainTy P n f.type) = true → cs.length = off + sumB P fs →
      (fs.mapM fun (f : Field) => R f.type ((cs.drop f.offset).take (P.cellsOf f.type))) = some ys →
      ∃ parts : List (List SV), DVs fz parts.flatten (cs.drop off) ∧ parts.length = fs.length ∧ ∀ (i : Nat) (f : Field) (p : List SV), fs[i]? = some f → parts[i]? = some p → tyP P n f.type p
  | [], off, ys, _, _, hl, _ => ⟨[], by simp only [sumB, Nat.add_zero] at hl; rw [List.drop_eq_nil_of_le (by omega)]; exact .nil, rfl, fun i f p h => by simp at h⟩
  | f :: fs, off, ys, hs, hp, hl, hm => by
    simp only [seqB, Bool.and_eq_true, decide_eq_true_eq] at hs
    simp only [List.all_cons, Bool.and_eq_true] at hp
    simp only [sumB] at hl
    rw [List.mapM_cons] at hm
    obtain ⟨hoff, hs⟩ := hs
    cases h1 : R f.type ((cs.drop f.offset).take (P.cellsOf f.type)) with
    | none => rw [h1] at hm; cases hm
    | some y =>
      rw [h1] at hm
      cases h2 : (fs.mapM fun (f : Field) => R f.type ((cs.drop f.offset).take (P.cellsOf f.type))) with
      | none => rw [h2] at hm; cases hm
      | some ys' =>
        obtain ⟨l, d1, d2⟩ := hR _ _ _ hp.1 h1
        obtain ⟨parts, p1, p2, p3⟩ := enter_fields hR cs fs (off + P.cellsOf f.type) ys' hs hp.2 (by omega) h2
        refine ⟨l :: parts, ?_, by simp [p2], fun i g p hg hq => ?_⟩
        · rw [hoff] at d1
          have := d1.append p1
          rw [← List.drop_drop, List.take_append_drop] at this
          simpa using this
        · cases i with
          | zero => simp at hg hq; subst hg; subst hq; exact d2
          | succ i => exact p3 i g p (by simpa using hg) (by simpa using hq)

theorem enter_ty {P : Program} {T : Type} (enc : TypeId × Value → T) (W : World) (spare : Nat → Bool) (held : Bool) : ∀ (n : Nat) (t : TypeId), plainTy P n t = true → ∀ (fuel : Nat) (cs : List Value) (y : DataW T × List MemPlace),
    DataW.trod enc P W 0 spare held fuel t cs = some y → ∃ l, DVs (frzAll W).fz l cs ∧ tyP P n t l
  | 0, t, h, _, _, _, _ => by cases h
  | n + 1, t, h, 0, cs, y, hy => by cases hy
  | n + 1, t, h, fuel + 1, cs, y, hy => by
    have hsl : ∀ e, P.underlying t = some (.slice e) → 1 ≤ P.cellsOf e → plainTy P n e = true → ∃ l, DVs (frzAll W).fz l cs ∧ ∃ rows, l = [.lst (P.cellsOf e) rows] ∧ rows.length ≤ maxLen ∧ ∀ r ∈ rows, tyP P n e r := by
      intro e ht hc hp
      rcases open_slice ht hy with ⟨rfl, _⟩ | ⟨a, len, cap, m, n', D, Pl, rfl, hb, hl, hm, hmm, hyy, hi⟩
      · exact ⟨_, .cons (x := .lst (P.cellsOf e) []) (by unfold DR; exact .inl ⟨rfl, none, 0, rfl, Nat.zero_le _, fun _ => rfl⟩) .nil, [], rfl, Nat.zero_le _, fun r h => by cases h⟩
      by_cases h00 : len = 0
      · subst h00
        exact ⟨_, .cons (x := .lst (P.cellsOf e) []) (by unfold DR; exact .inl ⟨rfl, some a, cap, rfl, hm, fun h => by cases h⟩) .nil, [], rfl, Nat.zero_le _, fun r h => by cases h⟩
      have hlm : len ≤ m := by rw [hmm]; split <;> omega
      have hrow : ∀ i, i < len → ∃ l : List SV, ∃ cs', W.cells? 0 (a.add (i * P.cellsOf e)) (P.cellsOf e) = some cs' ∧ DVs (frzAll W).fz l cs' ∧ tyP P n e l := fun i hil => by
        obtain ⟨cs', h1, h2⟩ := hi i (by omega)
        obtain ⟨l, h3, h4⟩ := enter_ty enc W spare held n e hp n' cs' _ h2
        exact ⟨l, cs', h1, h3, h4⟩
      obtain ⟨X, hX⟩ := choose_lt (α := List SV) hrow
      have hspot : a.spot = none := by
        obtain ⟨cs', h1, h3, _⟩ := hX 0 (by omega)
        obtain ⟨_, hlen, hget⟩ := World.cells?_some h1
        have hc0 := hget 0 (by omega)
        rw [Nat.zero_mul] at hc0
        have hadd0 : (a.add 0).add 0 = a := by unfold Addr.add; rw [if_pos rfl, if_pos rfl]
        rw [hadd0, List.getElem?_eq_getElem (by omega)] at hc0
        unfold World.cell? at hc0
        split at hc0
        · split at hc0
          · cases hc0
          · simpa using ‹¬ a.spot.isSome = true›
        · cases hc0
      have hblk : a.block < W.heap.size := by
        obtain ⟨cs', h1, h3, _⟩ := hX 0 (by omega)
        obtain ⟨_, hlen, hget⟩ := World.cells?_some h1
        have hc0 := hget 0 (by omega)
        rw [Nat.zero_mul] at hc0
        have hadd0 : (a.add 0).add 0 = a := by unfold Addr.add; rw [if_pos rfl, if_pos rfl]
        rw [hadd0, List.getElem?_eq_getElem (by omega)] at hc0
        exact World.block_lt_of_cell? W a hc0
      have ha : a = ⟨a.block, a.off, none⟩ := by cases a; simp_all
      have hob : W.heap[a.block]? = some W.heap[a.block] := Array.getElem?_eq_getElem hblk
      have hlen : ((List.range len).map X).length = len := by simp
      refine ⟨[.lst (P.cellsOf e) ((List.range len).map X)], .cons ?_ .nil, _, rfl, by rw [hlen]; omega, fun r hr => ?_⟩
      · simp only [DR]
        refine .inr ⟨a.block, a.off, cap, W.heap[a.block], ?_, ?_, hm, hob, ?_⟩
        · rw [hlen, ← ha]
        · rw [hlen]; exact hl
        · refine DRss.of_get fun i r hr => ?_
          have hil : i < len := by have := (List.getElem?_eq_some_iff.1 hr).1; rw [hlen] at this; exact this
          have hr' : r = X i := by
            rw [List.getElem?_map, List.getElem?_range hil] at hr
            exact (Option.some.inj hr).symm
          subst hr'
          obtain ⟨cs', h1, h3, _⟩ := hX i hil
          obtain ⟨_, hlen', hget⟩ := World.cells?_some h1
          refine ⟨by rw [h3.length, hlen'], DRs.of_get fun j x hx => ?_⟩
          have hj : j < P.cellsOf e := by have := (List.getElem?_eq_some_iff.1 hx).1; rw [h3.length, hlen'] at this; exact this
          obtain ⟨v, hv, hd⟩ := h3.get j x hx
          refine ⟨v, ?_, hd⟩
          have hg := hget j hj
          have hadd : ∀ (b o k : Nat), Addr.add ⟨b, o, none⟩ k = ⟨b, o + k, none⟩ := fun b o k => by
            unfold Addr.add
            split
            · subst_vars; rfl
            · rfl
          have h2 : (a.add (i * P.cellsOf e)).add j = ⟨a.block, a.off + i * P.cellsOf e + j, none⟩ := by
            generalize i * P.cellsOf e = k
            rw [ha, hadd, hadd]
          rw [h2, hv, cell_of_obj hob] at hg
          exact hg
      · obtain ⟨i, hil, rfl⟩ := List.mem_map.1 hr
        obtain ⟨cs', _, _, h4⟩ := hX i (List.mem_range.1 hil)
        exact h4
    unfold tyP
    unfold plainTy at h
    split at h
    · rename_i k ht
      obtain ⟨x, hx, _, hw⟩ := DataW.trod_int ht hy
      simp only [Lit.wf, Bool.and_eq_true, decide_eq_true_eq] at hw
      subst hx
      exact ⟨_, .cons (x := .int k x) (by simp only [DR]) .nil, x, rfl, hw⟩
    · rename_i ht
      obtain ⟨b, hb, _⟩ := DataW.trod_bool ht hy
      subst hb
      exact ⟨_, .cons (x := .bool b) (by simp only [DR]) .nil, b, rfl⟩
    · rename_i ht
      obtain ⟨s, hs, _, hw⟩ := DataW.trod_string ht hy
      subst hs
      exact ⟨_, .cons (x := .str s) (by simp only [DR]) .nil, s, rfl, hw⟩
    · rename_i e ht
      simp only [Bool.and_eq_true, decide_eq_true_eq] at h
      exact hsl e ht h.1 h.2
    · rename_i fs ht
      simp only [Bool.and_eq_true, decide_eq_true_eq] at h
      unfold DataW.trod at hy
      rw [ht] at hy
      simp only at hy
      split at hy
      · rename_i hlen
        cases hm : (fs.toList.mapM fun (f : Field) => DataW.trod enc P W 0 spare held fuel f.type ((cs.drop f.offset).take (P.cellsOf f.type))) with
        | none => rw [hm] at hy; cases hy
        | some ys =>
          obtain ⟨parts, p1, p2, p3⟩ := enter_fields (fz := (frzAll W).fz) (n := n) (fun t cs y h1 h2 => enter_ty enc W spare held n t h1 fuel cs y h2) cs fs.toList 0 ys h.1.2 h.2 (by rw [hlen, h.1.1]; omega) hm
          exact ⟨_, by simpa using p1, parts, rfl, by simpa using p2, p3⟩
      · cases hy
    · cases h
/-- An argument of a plain type. -/
def tyA (P : Program) (n : Nat) (t : TypeId) (x : AV) : Prop :=
  match P.underlying t with
  | some (.struct _) => ∃ l, x = .agg l ∧ tyP P n t l
  | _ => ∃ s, x = .s s ∧ tyP P n t [s]
def tyAs (P : Program) (n : Nat) : List TypeId → List AV → Prop
  | [], [] => True
  | t :: ts, x :: xs => tyA P n t x ∧ tyAs P n ts xs
  | _, _ => False
theorem enter_one {P : Program} {T : Type} (enc : TypeId × Value → T) (W : World) (spare : Nat → Bool) (held : Bool) (n : Nat) (t : TypeId) (hp : plainTy P n t = true) {w : World} {base : Nat} {v : Value} (hv : Value.okWide P w .any base t v) {d : DataW T} {p : List MemPlace}
    (h : DataW.Trod enc P W 0 spare held t v d p) : ∃ x, VR (frzAll W) x v ∧ tyA P n t x := by
  obtain ⟨fuel, h⟩ := h
  obtain ⟨l, h1, h2⟩ := enter_ty enc W spare held n t hp fuel _ _ h
  have one : ∀ c : Value, v = c → (c.cells = #[c]) → (∃ s, l = [s]) → (∃ s : SV, l = [s] ∧ VR (frzAll W) (.s s) v) := fun c e hc ⟨s, hs⟩ => by
    subst e hs
    rw [hc] at h1
    cases h1 with
    | cons hx _ => exact ⟨s, rfl, (SR.dr hx : SR (frzAll W) s v)⟩
  unfold tyA
  cases n with
  | zero => cases hp
  | succ n =>
    have h2' := h2
    unfold plainTy at hp
    unfold tyP at h2
    split at hp
    · rename_i k ht
      simp only [ht] at h2 ⊢
      obtain ⟨x, hx⟩ := okWide_int ht hv
      obtain ⟨s, rfl, hs⟩ := one _ hx rfl (by obtain ⟨y, hy, _⟩ := h2; exact ⟨_, hy⟩)
      exact ⟨_, hs, s, rfl, h2'⟩
    · rename_i ht
      simp only [ht] at h2 ⊢
      obtain ⟨x, hx⟩ := okWide_bool ht hv
      obtain ⟨s, rfl, hs⟩ := one _ hx rfl (by obtain ⟨y, hy⟩ := h2; exact ⟨_, hy⟩)
      exact ⟨_, hs, s, rfl, h2'⟩
    · rename_i ht
      simp only [ht] at h2 ⊢
      obtain ⟨x, hx⟩ := okWide_string ht hv
      obtain ⟨s, rfl, hs⟩ := one _ hx rfl (by obtain ⟨y, hy, _⟩ := h2; exact ⟨_, hy⟩)
      exact ⟨_, hs, s, rfl, h2'⟩
    · rename_i e ht
      simp only [ht] at h2 ⊢
      obtain ⟨a, len, cap, hx⟩ := okWide_slice ht hv
      obtain ⟨s, rfl, hs⟩ := one _ hx rfl (by obtain ⟨y, hy, _⟩ := h2; exact ⟨_, hy⟩)
      exact ⟨_, hs, s, rfl, h2'⟩
    · rename_i fs ht
      simp only [ht] at h2 ⊢
      obtain ⟨cs, hx, _⟩ := okWide_struct ht hv
      subst hx
      exact ⟨.agg l, ⟨cs, rfl, DVs.srs h1⟩, l, rfl, h2'⟩
    · cases hp
theorem enter_all {P : Program} {T : Type} (enc : TypeId × Value → T) (W : World) (spare : Nat → Bool) (held : Bool) (n : Nat) {w : World} {base : Nat} : ∀ (ts : List TypeId) (vs : List Value) (ds : List (DataW T)) (ps : List MemPlace),
    ts.all (plainTy P n) = true → (∀ (j : Nat) t v, ts[j]? = some t → vs[j]? = some v → Value.okWide P w .any base t v) → DataW.TrodAll enc P W 0 spare held ts vs ds ps →
    ∃ xs, VRs (frzAll W) xs vs ∧ tyAs P n ts xs
  | [], vs, ds, ps, _, _, h => by
    obtain ⟨rfl, rfl, rfl⟩ := trodAll_nil h
    exact ⟨[], .nil, trivial⟩
  | t :: ts, vs, ds, ps, hp, hv, h => by
    obtain ⟨v0, vs0, d0, ds0, p0, q0, rfl, rfl, rfl, h0, r0⟩ := trodAll_cons h
    simp only [List.all_cons, Bool.and_eq_true] at hp
    obtain ⟨x, k1, k2⟩ := enter_one enc W spare held n t hp.1 (hv 0 t v0 rfl rfl) h0
    obtain ⟨xs, k3, k4⟩ := enter_all enc W spare held n ts vs0 ds0 q0 hp.2 (fun j t v h1 h2 => hv (j + 1) t v (by simpa using h1) (by simpa using h2)) r0
    exact ⟨x :: xs, .cons k1 k3, k2, k4⟩
/-- Out: the arguments lie as they lay. -/
theorem leave_all {P : Program} {T : Type} {enc : TypeId × Value → T} {W W' : World} (hl : laidOutB P = true) : ∀ (ts : List TypeId) (vs : List Value) (ds : List (DataW T)) (ps : List MemPlace),
    ts.all (fun t => P.readableRec t && decide (t < P.types.size)) = true → Below W.heap.size W W' → DataW.TrodAll enc P W 0 (fun _ => true) true ts vs ds ps → DataW.TrodAll enc P W' 0 (fun b => decide (b < W.heap.size)) true ts vs ds ps
  | [], vs, ds, ps, _, _, h => by
    obtain ⟨rfl, rfl, rfl⟩ := trodAll_nil h
    exact trodAll_mk0
  | t :: ts, vs, ds, ps, hp, hb, h => by
    obtain ⟨v0, vs0, d0, ds0, p0, q0, rfl, rfl, rfl, h0, r0⟩ := trodAll_cons h
    simp only [List.all_cons, Bool.and_eq_true, decide_eq_true_eq] at hp
    have lt0 : ∀ x ∈ p0, x.block < W.heap.size := by obtain ⟨m, hm⟩ := h0; exact DataW.trod_lt m _ _ _ hm
    exact trodAll_cons_mk (Below.trod hl hp.1.1 hp.1.2 h0 hb lt0) (leave_all hl ts vs0 ds0 q0 hp.2 hb r0)
/-- Rows that are each of a kind. -/
theorem rows_of {α : Type} {f : α → List SV} : ∀ {rows : List (List SV)}, (∀ r ∈ rows, ∃ x, r = f x) → ∃ l : List α, rows = l.map f
  | [], _ => ⟨[], rfl⟩
  | r :: rows, h => by
    obtain ⟨x, hx⟩ := h r List.mem_cons_self
    obtain ⟨l, hl⟩ := rows_of (rows := rows) fun r hr => h r (List.mem_cons_of_mem _ hr)
    exact ⟨x :: l, by rw [hx, hl]; rfl⟩
theorem tyP_struct {P : Program} {n : Nat} {t : TypeId} {fs : Array Field} {l : List SV} (ht : P.underlying t = some (.struct fs)) (h : tyP P (n + 1) t l) : ∃ parts : List (List SV), l = parts.flatten ∧ parts.length = fs.size ∧ ∀ (i : Nat) (f : Field) (p : List SV), fs.toList[i]? = some f → parts[i]? = some p → tyP P n f.type p := by
  unfold tyP at h
  simpa only [ht] using h
theorem tyP_int {P : Program} {n : Nat} {t : TypeId} {k : IntKind} {l : List SV} (ht : P.underlying t = some (.int k)) (h : tyP P (n + 1) t l) : ∃ x, l = [.int k x] ∧ k.min ≤ x ∧ x ≤ k.max := by
  unfold tyP at h
  simpa only [ht] using h
theorem tyP_slice {P : Program} {n : Nat} {t e : TypeId} {l : List SV} (ht : P.underlying t = some (.slice e)) (h : tyP P (n + 1) t l) : ∃ rows, l = [.lst (P.cellsOf e) rows] ∧ rows.length ≤ maxLen ∧ ∀ r ∈ rows, tyP P n e r := by
  unfold tyP at h
  simpa only [ht] using h
theorem tyP_bool {P : Program} {n : Nat} {t : TypeId} {l : List SV} (ht : P.underlying t = some .bool) (h : tyP P (n + 1) t l) : ∃ b, l = [.bool b] := by
  unfold tyP at h
  simpa only [ht] using h
theorem tyP_string {P : Program} {n : Nat} {t : TypeId} {l : List SV} (ht : P.underlying t = some .string) (h : tyP P (n + 1) t l) : ∃ s, l = [.str s] ∧ s.size ≤ maxLen := by
  unfold tyP at h
  simpa only [ht] using h
theorem tyA_struct {P : Program} {n : Nat} {t : TypeId} {fs : Array Field} {x : AV} (ht : P.underlying t = some (.struct fs)) (h : tyA P n t x) : ∃ l, x = .agg l ∧ tyP P n t l := by
  unfold tyA at h
  simpa only [ht] using h
theorem tyA_int {P : Program} {n : Nat} {t : TypeId} {k : IntKind} {x : AV} (ht : P.underlying t = some (.int k)) (h : tyA P (n + 1) t x) : ∃ i, x = .s (.int k i) ∧ k.min ≤ i ∧ i ≤ k.max := by
  unfold tyA at h
  simp only [ht] at h
  obtain ⟨s, rfl, h⟩ := h
  obtain ⟨i, hi, h2⟩ := tyP_int ht h
  obtain rfl : s = .int k i := by simpa using hi
  exact ⟨i, rfl, h2⟩
theorem tyA_slice {P : Program} {n : Nat} {t e : TypeId} {x : AV} (ht : P.underlying t = some (.slice e)) (h : tyA P (n + 1) t x) : ∃ rows, x = .s (.lst (P.cellsOf e) rows) ∧ rows.length ≤ maxLen ∧ ∀ r ∈ rows, tyP P n e r := by
  unfold tyA at h
  simp only [ht] at h
  obtain ⟨s, rfl, h⟩ := h
  obtain ⟨rows, hi, h2⟩ := tyP_slice ht h
  obtain rfl : s = .lst (P.cellsOf e) rows := by simpa using hi
  exact ⟨rows, rfl, h2⟩
theorem tyAs_cons {P : Program} {n : Nat} {t : TypeId} {ts : List TypeId} {xs : List AV} (h : tyAs P n (t :: ts) xs) : ∃ x ys, xs = x :: ys ∧ tyA P n t x ∧ tyAs P n ts ys := by
  cases xs with
  | nil => exact h.elim
  | cons x ys => exact ⟨x, ys, rfl, h⟩
theorem tyAs_nil {P : Program} {n : Nat} {xs : List AV} (h : tyAs P n [] xs) : xs = [] := by
  cases xs with
  | nil => rfl
  | cons x ys => exact h.elim
end Go.Proofs.Ytmfiegjncfgohaa.Den
