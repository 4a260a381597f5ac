/- The abstract calculus, part S: heaps as lists; the same state seen with other names; calls over a heap of one's own. -/
import Derived.Test.YtmfiegjncfgohaaDenR
namespace Go.Proofs.Ytmfiegjncfgohaa.Den
open Go.RowKit
set_option linter.unusedVariables false

/-- A heap that is told block by block. -/
def hp (l : List (Option Blk)) : AHeap := ⟨fun b => (l[b]?).join, l.length, none⟩
theorem hp_nx {l : List (Option Blk)} : (hp l).nx = l.length := rfl
theorem hp_get {l : List (Option Blk)} {b : Nat} : (hp l).get b = (l[b]?).join := rfl
theorem hp_push {l : List (Option Blk)} {k : Blk} : (hp l).push k = hp (l ++ [some k]) := by
  unfold hp AHeap.push
  congr 1
  · funext b
    show (if b = l.length then some k else (l[b]?).join) = _
    split
    · subst_vars; simp
    · rename_i h
      rcases Nat.lt_or_gt_of_ne h with h | h
      · rw [List.getElem?_append_left h]
      · rw [List.getElem?_eq_none (by omega), List.getElem?_eq_none (by simp; omega)]
  · simp
theorem hp_upd {l : List (Option Blk)} {b : Nat} {k : Blk} (h : b < l.length) : (hp l).upd b k = hp (l.set b (some k)) := by
  unfold hp AHeap.upd
  congr 1
  · funext c
    show (if c = b then some k else (l[c]?).join) = _
    rw [List.getElem?_set]
    by_cases e : c = b
    · subst e; simp [h]
    · simp [e, Ne.symm e]
  · simp
theorem hp_del {l : List (Option Blk)} {b : Nat} : (hp l).del b = hp (l.set b none) := by
  unfold hp AHeap.del
  congr 1
  · funext c
    show (if c = b then none else (l[c]?).join) = _
    rw [List.getElem?_set]
    by_cases e : c = b
    · subst e; simp; split <;> rfl
    · simp [e, Ne.symm e]
  · simp

/-- Without names of blocks. -/
def SV.free : SV → Bool
  | .ptr _ _ _ => false
  | .sl _ _ _ _ => false
  | .fn _ cs => cs.isEmpty
  | _ => true
/-- What may be laid down for good. -/
def SV.data : SV → Bool
  | .ptr _ _ _ => false
  | .sl _ _ _ _ => false
  | .fn _ _ => false
  | _ => true
theorem SR.data_dr {φ : Phi} {x : SV} (h : x.data = true) {v : Value} (k : SR φ x v) : DR φ.fz x v := by
  cases x <;> first | exact k | (cases h; done)
theorem SR.free_any {φ φ' : Phi} (hf : ∀ r o, φ.fz r = some o → φ'.fz r = some o) {x : SV} (h : x.free = true) {v : Value} (k : SR φ x v) : SR φ' x v := by
  cases x <;> first | (cases h; done) | skip
  case fn f cs =>
    cases cs with
    | cons _ _ => cases h
    | nil =>
      obtain ⟨a, e, r⟩ := k
      refine ⟨a, e, ?_⟩
      cases hl : a.toList with
      | nil => exact .nil
      | cons _ _ => rw [hl] at r; cases r
  all_goals exact SR.dr (DR.ext hf k)
/-- Names of blocks told anew. -/
def SV.ren (ρ : Nat → Nat) : SV → SV
  | .ptr b i j => .ptr (ρ b) i j
  | .sl b i n c => .sl (ρ b) i n c
  | .fn f cs => .fn f (cs.map fun c => (ρ c.1, c.2.1, c.2.2))
  | x => x
def AV.ren0 (ρ : Nat → Nat) : AV → AV
  | .s x => .s (x.ren ρ)
  | .agg l => .agg (l.map (SV.ren ρ))
  | x => x
def AV.ren (ρ : Nat → Nat) : AV → AV
  | .tup l => .tup (l.map (AV.ren0 ρ))
  | x => x.ren0 ρ
def Blk.ren (ρ : Nat → Nat) (k : Blk) : Blk := ⟨k.sz, k.ty, k.rows.map (·.map (SV.ren ρ))⟩
theorem SV.ren_free {ρ : Nat → Nat} {x : SV} (h : x.free = true) : x.ren ρ = x := by
  cases x <;> first | rfl | (cases h; done) | skip
  case fn f cs => cases cs with | nil => rfl | cons _ _ => cases h

/-- What follows from the names' places. -/
theorem sr_ren {φ ψ : Phi} {ρ : Nat → Nat} (hf : ∀ r o, φ.fz r = some o → ψ.fz r = some o) (hp : ∀ b p, φ (ρ b) = some p → ψ b = some p) {x : SV} {v : Value} (h : SR φ (x.ren ρ) v) : SR ψ x v := by
  cases x <;> simp only [SV.ren] at h <;> try exact SR.dr (DR.ext hf h)
  case ptr b i j => obtain ⟨a, e, p, h1, h2⟩ := h; exact ⟨a, e, p, hp b p h1, h2⟩
  case sl b i n c => obtain ⟨a, c', p, e, h1, h2, h3, h4, h5⟩ := h; exact ⟨a, c', p, e, h1, h2, h3, hp b p h4, h5⟩
  case fn f cs =>
    obtain ⟨a, e, h⟩ := h
    refine ⟨a, e, ?_⟩
    clear e
    generalize a.toList = vs at h
    induction cs generalizing vs with
    | nil => cases h; exact .nil
    | cons c cs ih =>
      obtain ⟨b, i, j⟩ := c
      cases h with
      | cons hx hr => obtain ⟨p, h1, h2⟩ := hx; exact .cons ⟨p, hp b p h1, h2⟩ (ih _ hr)
theorem sr_unren {φ ψ : Phi} {ρ : Nat → Nat} (hf : ∀ r o, φ.fz r = some o → ψ.fz r = some o) (hp : ∀ b p, φ b = some p → ψ (ρ b) = some p) {x : SV} {v : Value} (h : SR φ x v) : SR ψ (x.ren ρ) v := by
  cases x <;> simp only [SV.ren] <;> try exact SR.dr (DR.ext hf h)
  case ptr b i j => obtain ⟨a, e, p, h1, h2⟩ := h; exact ⟨a, e, p, hp b p h1, h2⟩
  case sl b i n c => obtain ⟨a, c', p, e, h1, h2, h3, h4, h5⟩ := h; exact ⟨a, c', p, e, h1, h2, h3, hp b p h4, h5⟩
  case fn f cs =>
    obtain ⟨a, e, h⟩ := h
    refine ⟨a, e, ?_⟩
    clear e
    generalize a.toList = vs at h
    induction cs generalizing vs with
    | nil => cases h; exact .nil
    | cons c cs ih =>
      obtain ⟨b, i, j⟩ := c
      cases h with
      | cons hx hr => obtain ⟨p, h1, h2⟩ := hx; exact .cons ⟨p, hp b p h1, h2⟩ (ih _ hr)
section
variable {φ ψ : Phi} {ρ : Nat → Nat}
theorem srs_map {f : SV → SV} (h : ∀ x v, SR φ (f x) v → SR ψ x v) : ∀ {l : List SV} {vs : List Value}, SRs φ (l.map f) vs → SRs ψ l vs
  | [], _, k => by cases k; exact .nil
  | x :: l, _, k => by cases k with | cons hx k => exact .cons (h _ _ hx) (srs_map h k)
theorem srs_unmap {f : SV → SV} (h : ∀ x v, SR φ x v → SR ψ (f x) v) : ∀ {l : List SV} {vs : List Value}, SRs φ l vs → SRs ψ (l.map f) vs
  | [], _, k => by cases k; exact .nil
  | x :: l, _, k => by cases k with | cons hx k => exact .cons (h _ _ hx) (srs_unmap h k)
theorem vr0_ren (h : ∀ x v, SR φ (x.ren ρ) v → SR ψ x v) {x : AV} {v : Value} (k : VR0 φ (x.ren0 ρ) v) : VR0 ψ x v := by
  cases x with
  | no => trivial
  | s x => exact h _ _ k
  | agg l => obtain ⟨cs, e, hs⟩ := k; exact ⟨cs, e, srs_map h hs⟩
  | tup l => exact k
theorem vr0_unren (h : ∀ x v, SR φ x v → SR ψ (x.ren ρ) v) {x : AV} {v : Value} (k : VR0 φ x v) : VR0 ψ (x.ren0 ρ) v := by
  cases x with
  | no => trivial
  | s x => exact h _ _ k
  | agg l => obtain ⟨cs, e, hs⟩ := k; exact ⟨cs, e, srs_unmap h hs⟩
  | tup l => exact k
theorem vrs0_ren (h : ∀ x v, SR φ (x.ren ρ) v → SR ψ x v) : ∀ {l : List AV} {vs : List Value}, VRs0 φ (l.map (AV.ren0 ρ)) vs → VRs0 ψ l vs
  | [], _, k => by cases k; exact .nil
  | x :: l, _, k => by cases k with | cons hx k => exact .cons (vr0_ren h hx) (vrs0_ren h k)
theorem vrs0_unren (h : ∀ x v, SR φ x v → SR ψ (x.ren ρ) v) : ∀ {l : List AV} {vs : List Value}, VRs0 φ l vs → VRs0 ψ (l.map (AV.ren0 ρ)) vs
  | [], _, k => by cases k; exact .nil
  | x :: l, _, k => by cases k with | cons hx k => exact .cons (vr0_unren h hx) (vrs0_unren h k)
theorem vr_ren (h : ∀ x v, SR φ (x.ren ρ) v → SR ψ x v) {x : AV} {v : Value} (k : VR φ (x.ren ρ) v) : VR ψ x v := by
  cases x with
  | no => trivial
  | s x => exact h _ _ k
  | agg l => obtain ⟨cs, e, hs⟩ := k; exact ⟨cs, e, srs_map h hs⟩
  | tup l => obtain ⟨vs, e, hs⟩ := k; exact ⟨vs, e, vrs0_ren h hs⟩
theorem vr_unren (h : ∀ x v, SR φ x v → SR ψ (x.ren ρ) v) {x : AV} {v : Value} (k : VR φ x v) : VR ψ (x.ren ρ) v := by
  cases x with
  | no => trivial
  | s x => exact h _ _ k
  | agg l => obtain ⟨cs, e, hs⟩ := k; exact ⟨cs, e, srs_unmap h hs⟩
  | tup l => obtain ⟨vs, e, hs⟩ := k; exact ⟨vs, e, vrs0_unren h hs⟩
theorem vrs_ren (h : ∀ x v, SR φ (x.ren ρ) v → SR ψ x v) : ∀ {l : List AV} {vs : List Value}, VRs φ (l.map (AV.ren ρ)) vs → VRs ψ l vs
  | [], _, k => by cases k; exact .nil
  | x :: l, _, k => by cases k with | cons hx k => exact .cons (vr_ren h hx) (vrs_ren h k)
end

/-! ### The same heap, some blocks under other names, some dropped, some that no one changes any more -/
/-- A value may be seen as another one: σ tells for each new name the old one (none: an empty slice's), F which blocks are laid down for good. -/
inductive Wk (σ : List (Option Nat)) (F : List Nat) (H : AHeap) : SV → SV → Prop
  | any {x} : Wk σ F H x .any
  | free {x} : x.free = true → Wk σ F H x x
  | ptr {b b' i j} : σ[b']? = some (some b) → Wk σ F H (.ptr b i j) (.ptr b' i j)
  | sl {b b' i n c c'} : σ[b']? = some (some b) → n ≤ c' → c' ≤ c → Wk σ F H (.sl b i n c) (.sl b' i n c')
  | fn {f cs cs'} : cs.length = cs'.length → (∀ (q : Nat) c c', cs[q]? = some c → cs'[q]? = some c' → σ[c'.1]? = some (some c.1) ∧ c'.2 = c.2) → Wk σ F H (.fn f cs) (.fn f cs')
  | nils {b' i} : σ[b']? = some none → Wk σ F H .nils (.sl b' i 0 0)
  | emp {b' i} : σ[b']? = some none → Wk σ F H .emp (.sl b' i 0 0)
  | lnils {sz} : Wk σ F H .nils (.lst sz [])
  | lemp {sz} : Wk σ F H .emp (.lst sz [])
  | frz {b i n c k sz rows} : b ∈ F → H.get b = some k → k.sz = sz → i + n ≤ k.rows.length → (k.rows.drop i).take n = rows → (∀ r ∈ rows, ∀ x ∈ r, SV.data x = true) → Wk σ F H (.sl b i n c) (.lst sz rows)

inductive RowsLe (R : SV → SV → Prop) : List (List SV) → List (List SV) → Prop
  | nil {l} : RowsLe R l []
  | cons {r s l m} : SVsLe R r s → RowsLe R l m → RowsLe R (r :: l) (s :: m)
theorem RowsLe.get {R : SV → SV → Prop} {l m : List (List SV)} (h : RowsLe R l m) : ∀ (i : Nat) s, m[i]? = some s → ∃ r, l[i]? = some r ∧ SVsLe R r s := by
  induction h with
  | nil => intro i s hs; simp at hs
  | cons hr _ ih =>
    intro i s hs
    cases i with
    | zero => simp at hs; subst hs; exact ⟨_, rfl, hr⟩
    | succ i => simpa using ih i s (by simpa using hs)
theorem RowsLe.len {R : SV → SV → Prop} {l m : List (List SV)} (h : RowsLe R l m) : m.length ≤ l.length := by
  induction h with
  | nil => exact Nat.zero_le _
  | cons _ _ ih => simpa using ih
theorem SVsLe.get {R : SV → SV → Prop} {l m : List SV} (h : SVsLe R l m) : l.length = m.length ∧ ∀ (i : Nat) y, m[i]? = some y → ∃ x, l[i]? = some x ∧ R x y := by
  induction h with
  | nil => exact ⟨rfl, fun i y hy => by simp at hy⟩
  | cons hr _ ih =>
    refine ⟨by simp [ih.1], fun i y hy => ?_⟩
    cases i with
    | zero => simp at hy; subst hy; exact ⟨_, rfl, hr⟩
    | succ i => simpa using ih.2 i y (by simpa using hy)
theorem SVsLe.free {σ : List (Option Nat)} {F : List Nat} {H : AHeap} : ∀ {l : List SV}, (∀ x ∈ l, x.free = true) → SVsLe (Wk σ F H) l l
  | [], _ => .nil
  | x :: l, h => .cons (.free (h x (by simp))) (SVsLe.free fun y hy => h y (List.mem_cons_of_mem _ hy))
theorem RowsLe.free {σ : List (Option Nat)} {F : List Nat} {H : AHeap} : ∀ {l m : List (List SV)}, l.take m.length = m → (∀ r ∈ m, ∀ x ∈ r, SV.free x = true) → RowsLe (Wk σ F H) l m
  | _, [], _, _ => .nil
  | [], _ :: _, h, _ => by simp at h
  | r :: l, s :: m, h, hf => by
    simp only [List.length_cons, List.take_succ_cons, List.cons.injEq] at h
    obtain ⟨rfl, h⟩ := h
    exact .cons (SVsLe.free (hf r (by simp))) (RowsLe.free h fun q hq => hf q (List.mem_cons_of_mem _ hq))

/-- What a new block must be. -/
def BlkLe (σ : List (Option Nat)) (F : List Nat) (H : AHeap) (o : Option Nat) (k' : Blk) : Prop :=
  match o with
  | some b => ∃ k, H.get b = some k ∧ k.sz = k'.sz ∧ k.ty = k'.ty ∧ RowsLe (Wk σ F H) k.rows k'.rows
  | none => k'.rows = []

theorem canonH {n0 : Nat} {H : AHeap} {σ : List (Option Nat)} {F : List Nat} {bs : List (Option Blk)} (h1 : σ.length = bs.length) (h2 : ∀ j, j < n0 → σ[j]? = some (some j))
    (h3 : ∀ (j : Nat) k' o, bs[j]? = some (some k') → σ[j]? = some o → BlkLe σ F H o k') (h4 : (σ.filterMap id).Nodup) (h5 : ∀ b ∈ F, some b ∉ σ) : WkH n0 H (hp bs) (Wk σ F H) := by
  classical
  intro φ base w hr
  have hinj : ∀ (j j' b : Nat), σ[j]? = some (some b) → σ[j']? = some (some b) → j = j' := by
    intro j j' b hj hj'
    have key : ∀ (l : List (Option Nat)), (l.filterMap id).Nodup → ∀ (j j' b : Nat), l[j]? = some (some b) → l[j']? = some (some b) → j = j' := by
      intro l
      induction l with
      | nil => intro _ j j' b hj; simp at hj
      | cons x l ih =>
        intro hn j j' b hj hj'
        have hn' : (l.filterMap id).Nodup := by
          cases x with
          | none => simpa using hn
          | some y => exact (List.nodup_cons.1 (by simpa using hn)).2
        have hmem : ∀ i : Nat, l[i]? = some (some b) → b ∈ l.filterMap id := fun i hi => List.mem_filterMap.2 ⟨some b, List.mem_of_getElem? hi, rfl⟩
        cases j with
        | zero =>
          cases j' with
          | zero => rfl
          | succ j' =>
            simp at hj hj'
            subst hj
            exact absurd (hmem _ hj') (List.nodup_cons.1 (by simpa using hn)).1
        | succ j =>
          cases j' with
          | zero =>
            simp at hj hj'
            subst hj'
            exact absurd (hmem _ hj) (List.nodup_cons.1 (by simpa using hn)).1
          | succ j' => rw [ih hn' j j' b (by simpa using hj) (by simpa using hj')]
    exact key σ h4 j j' b hj hj'
  let fzb : Nat → Prop := fun r => ∃ b k p, b ∈ F ∧ H.get b = some k ∧ φ b = some p ∧ p.cap ≠ 0 ∧ p.blk = r
  let φ' : Phi := ⟨fun j => match σ[j]? with
    | some (some b) => φ b
    | some none => some ⟨0, 0, 0, match bs[j]? with | some (some k) => k.sz | _ => 0⟩
    | none => none, fun r => if fzb r then w.heap[r]? else φ.fz r⟩
  have pl : ∀ {j b : Nat}, σ[j]? = some (some b) → φ' j = φ b := fun {j b} h => by show (match σ[j]? with | some (some b) => φ b | some none => _ | none => none) = _; rw [h]
  have pn : ∀ {j : Nat}, σ[j]? = some none → ∃ q, φ' j = some q ∧ q.cap = 0 ∧ ∀ k, bs[j]? = some (some k) → q.sz = k.sz := fun {j} h => by
    refine ⟨⟨0, 0, 0, match bs[j]? with | some (some k) => k.sz | _ => 0⟩, ?_, rfl, fun k hk => by simp [hk]⟩
    show (match σ[j]? with | some (some b) => φ b | some none => _ | none => none) = _
    rw [h]
  have hfz : ∀ r o, φ.fz r = some o → φ'.fz r = some o := fun r o h => by
    show (if fzb r then w.heap[r]? else φ.fz r) = some o
    split
    · exact (hr.fz r o h).1
    · exact h
  have mine : ∀ r, Mine φ' (hp bs) r → ∃ j b p, σ[j]? = some (some b) ∧ (∃ k, H.get b = some k) ∧ φ b = some p ∧ p.cap ≠ 0 ∧ p.blk = r := fun r hm => by
    obtain ⟨j, k, p, hb, hp', hc, e⟩ := hm
    have hb : bs[j]? = some (some k) := by
      have : (bs[j]?).join = some k := hb
      cases hx : bs[j]? with
      | none => rw [hx] at this; cases this
      | some y => rw [hx] at this; exact congrArg some this
    have hjl : j < σ.length := by rw [h1]; exact (List.getElem?_eq_some_iff.1 hb).1
    cases ho : σ[j]? with
    | none => rw [List.getElem?_eq_none_iff] at ho; omega
    | some o =>
      cases o with
      | none =>
        obtain ⟨q, hq, hq0, _⟩ := pn ho
        rw [hq] at hp'
        obtain rfl := Option.some.inj hp'
        exact absurd hq0 hc
      | some b =>
        rw [pl ho] at hp'
        obtain ⟨k0, hk0, _⟩ := h3 j k _ hb ho
        exact ⟨j, b, p, ho, ⟨k0, hk0⟩, hp', hc, e⟩
  have hR : ∀ x x' v, Wk σ F H x x' → SR φ x v → SR φ' x' v := fun x x' v hw hs => by
    cases hw with
    | any => exact SR.dr (by simp only [DR]; exact hs.one)
    | free hx => exact SR.free_any hfz hx hs
    | ptr hb => obtain ⟨a, e, p, q1, q2⟩ := hs; exact ⟨a, e, p, by rw [pl hb]; exact q1, q2⟩
    | sl hb hn hc =>
      obtain ⟨a, c', p, e, q1, q2, q3, q4, q5⟩ := hs
      exact ⟨a, c', p, e, hn, by omega, q3, by rw [pl hb]; exact q4, q5⟩
    | fn hl hc =>
      obtain ⟨a, e, hp'⟩ := hs
      refine ⟨a, e, ?_⟩
      rename_i f cs cs'
      clear e
      generalize a.toList = vs at hp'
      induction hp' generalizing cs' with
      | nil => cases cs' with | nil => exact .nil | cons _ _ => simp at hl
      | cons hx _ ih =>
        cases cs' with
        | nil => simp at hl
        | cons c' cs' =>
          obtain ⟨b', i', j'⟩ := c'
          obtain ⟨q1, q2⟩ := hc 0 _ _ rfl rfl
          simp only [Prod.mk.injEq] at q2
          obtain ⟨rfl, rfl⟩ := q2
          obtain ⟨p, q3, q4⟩ := hx
          exact .cons ⟨p, by rw [pl q1]; exact q3, q4⟩ (ih (cs' := cs') (by simpa using hl) fun q c c' h h' => hc (q + 1) c c' (by simpa using h) (by simpa using h'))
    | nils hb =>
      obtain ⟨q, hq, _⟩ := pn hb
      exact ⟨none, 0, q, hs, Nat.le_refl _, Nat.le_refl _, Nat.zero_le _, hq, .inl rfl⟩
    | emp hb =>
      obtain ⟨q, hq, _⟩ := pn hb
      obtain ⟨a, e⟩ := vr_emp (φ := φ) hs
      exact ⟨a, 0, q, e, Nat.le_refl _, Nat.le_refl _, Nat.zero_le _, hq, .inl rfl⟩
    | lnils => exact lst_vr (φ := φ') (.inl ⟨rfl, none, 0, hs, Nat.zero_le _, fun _ => rfl⟩)
    | lemp =>
      obtain ⟨a, e⟩ := vr_emp (φ := φ) hs
      exact lst_vr (φ := φ') (.inl ⟨rfl, a, 0, e, Nat.zero_le _, fun _ => rfl⟩)
    | frz hb hk hsz hle hrows hfree =>
      rename_i b i n c k sz rows
      subst hrows
      subst hsz
      obtain ⟨a, c', p, e, q1, q2, q3, q4, q5⟩ := hs
      have hlen : ((k.rows.drop i).take n).length = n := by simp; omega
      refine lst_vr (φ := φ') ?_
      rw [hlen]
      by_cases hn : n = 0
      · subst hn
        rcases Nat.eq_zero_or_pos c' with rfl | hpos
        · exact .inl ⟨by simp, a, 0, e, Nat.zero_le _, fun _ => rfl⟩
        · refine .inl ⟨by simp, a, c', e, q3, fun hnone => ?_⟩
          rcases q5 with q5 | ⟨q5, _⟩
          · exact q5
          · rw [hnone] at q5; cases q5
      · obtain ⟨rfl, hcap⟩ := q5.resolve_left (by omega)
        obtain ⟨p', hp', ok⟩ := hr.blk b k hk
        rw [q4] at hp'
        obtain rfl := Option.some.inj hp'
        have hcap0 : p.cap ≠ 0 := by omega
        obtain ⟨o1, o2, o3, o4, cells, o5, o6⟩ := ok.real hcap0
        have hf : φ'.fz p.blk = some (.cells cells k.ty (0, 0)) := by
          show (if fzb p.blk then w.heap[p.blk]? else φ.fz p.blk) = _
          rw [if_pos ⟨b, k, p, hb, hk, q4, hcap0, rfl⟩, o5]
        refine .inr ⟨p.blk, p.off + i * p.sz, c', _, e, by omega, q3, hf, DRss.of_get fun q r hq => ?_⟩
        have hq' : k.rows[i + q]? = some r := by
          rw [List.getElem?_take] at hq
          split at hq
          · rwa [List.getElem?_drop] at hq
          · cases hq
        obtain ⟨hl, hc⟩ := ok.rows (i + q) r hq'
        refine ⟨hl, DRs.of_get fun m x hx => ?_⟩
        obtain ⟨u, hu, hsr⟩ := hc m x hx
        refine ⟨u, ?_, ?_⟩
        · have : w.cell? ⟨p.blk, p.off + ((i + q) * k.sz + m), none⟩ = some u := hu
          rw [cell_of_obj o5] at this
          rw [← this, ok.sz, Nat.add_mul]
          congr 1
          omega
        · have hxf := hfree r (List.mem_of_getElem? hq) x (List.mem_of_getElem? hx)
          exact DR.ext hfz (SR.data_dr hxf hsr)
  have hat : ∀ {j : Nat} {k : Blk}, (hp bs).get j = some k → bs[j]? = some (some k) ∧ ∃ o, σ[j]? = some o ∧ BlkLe σ F H o k := fun {j k} hb => by
    have hb : bs[j]? = some (some k) := by
      have : (bs[j]?).join = some k := hb
      cases hx : bs[j]? with
      | none => rw [hx] at this; cases this
      | some y => rw [hx] at this; exact congrArg some this
    have hjl : j < σ.length := by rw [h1]; exact (List.getElem?_eq_some_iff.1 hb).1
    exact ⟨hb, _, List.getElem?_eq_getElem hjl, h3 j k _ hb (List.getElem?_eq_getElem hjl)⟩
  have hreal : ∀ {j : Nat} {k : Blk} {p : Place}, (hp bs).get j = some k → φ' j = some p → p.cap ≠ 0 → ∃ b k0, σ[j]? = some (some b) ∧ H.get b = some k0 ∧ φ b = some p := fun {j k p} hb hp' hc => by
    obtain ⟨hb, o, ho, hle⟩ := hat hb
    cases o with
    | none =>
      obtain ⟨q, hq, hq0, _⟩ := pn ho
      rw [hq] at hp'
      obtain rfl := Option.some.inj hp'
      exact absurd hq0 hc
    | some b =>
      obtain ⟨k0, hk0, _⟩ := hle
      exact ⟨b, k0, ho, hk0, by rw [← pl ho]; exact hp'⟩
  refine ⟨φ', ⟨fun j k' hb => ?_, fun j j' k k' p p' hb hb' hp hp' hc hc' e => ?_, fun j hj => ?_, hr.base, fun r o ho => ?_, nofull rfl⟩, hR, ⟨fun b p hb hp => by rw [pl (h2 b hb)]; exact hp, hfz⟩, fun r hm => ?_, fun r o ho => ?_⟩
  · obtain ⟨hb, o, ho, hle⟩ := hat hb
    cases o with
    | none =>
      obtain ⟨q, hq, hq0, hqs⟩ := pn ho
      have hrows : k'.rows = [] := hle
      exact ⟨q, hq, ⟨hqs k' hb, fun i r hr => (by rw [hrows] at hr; simp at hr), .inl ⟨hrows, hq0⟩⟩⟩
    | some b =>
      obtain ⟨k, hk, hsz, hty, hrows⟩ := hle
      obtain ⟨p, hp, ok⟩ := hr.blk b k hk
      refine ⟨p, by rw [pl ho]; exact hp, ⟨by rw [ok.sz]; exact hsz, fun i r' hr' => ?_, ?_⟩⟩
      · obtain ⟨r, hr1, hr2⟩ := hrows.get i r' hr'
        obtain ⟨hl, hc⟩ := ok.rows i r hr1
        obtain ⟨q1, q2⟩ := hr2.get
        refine ⟨by rw [← q1, hl]; exact hsz, fun m y hy => ?_⟩
        obtain ⟨x, hx, hxy⟩ := q2 m y hy
        obtain ⟨v, hv, hs⟩ := hc m x hx
        exact ⟨v, by rw [← hsz]; exact hv, hR x y v hxy hs⟩
      · have hlen := hrows.len
        rcases ok.own with o | ⟨o1, o2, o3, o4, cells, o5, o6⟩
        · exact .inl ⟨List.length_eq_zero_iff.1 (by have := o.1; rw [this] at hlen; simpa using hlen), o.2⟩
        · exact .inr ⟨o1, o2, Nat.le_trans hlen o3, o4, cells, by rw [← hty]; exact o5, by rw [← hsz]; exact o6⟩
  · obtain ⟨b, k0, q1, q2, q3⟩ := hreal hb hp hc
    obtain ⟨b', k0', q1', q2', q3'⟩ := hreal hb' hp' hc'
    have := hr.inj b b' k0 k0' p p' q2 q2' q3 q3' hc hc' e
    subst this
    exact hinj j j' b q1 q1'
  · have hj : bs.length ≤ j := hj
    refine ⟨by rw [hp_get, List.getElem?_eq_none hj]; rfl, ?_⟩
    show (match σ[j]? with | some (some b) => φ b | some none => _ | none => none) = none
    rw [List.getElem?_eq_none (by omega)]
  · have ho : (if fzb r then w.heap[r]? else φ.fz r) = some o := ho
    split at ho
    · rename_i hfb
      refine ⟨ho, fun hm => ?_⟩
      obtain ⟨j, b, p, q1, ⟨k, q2⟩, q3, q4, q5⟩ := mine r hm
      obtain ⟨b2, k2, p2, r1, r2, r3, r4, r5⟩ := hfb
      have := hr.inj b b2 k k2 p p2 q2 r2 q3 r3 q4 r4 (q5.trans r5.symm)
      subst this
      exact h5 b r1 (List.mem_of_getElem? q1)
    · refine ⟨(hr.fz r o ho).1, fun hm => ?_⟩
      obtain ⟨j, b, p, q1, ⟨k, q2⟩, q3, q4, q5⟩ := mine r hm
      exact (hr.fz r o ho).2 ⟨b, k, p, q2, q3, q4, q5⟩
  · obtain ⟨j, b, p, q1, ⟨k, q2⟩, q3, q4, q5⟩ := mine r hm
    exact ⟨b, k, p, q2, q3, q4, q5⟩
  · have ho : (if fzb r then w.heap[r]? else φ.fz r) = some o := ho
    split at ho
    · rename_i hfb
      obtain ⟨b2, k2, p2, r1, r2, r3, r4, r5⟩ := hfb
      exact .inr ⟨b2, k2, p2, r2, r3, r4, r5⟩
    · exact .inl ho

/-- A state seen another way. -/
theorem W.mk {n0 : Nat} {s s' : St} (σ : List (Option Nat)) (F : List Nat) {bs : List (Option Blk)} (hH : s'.H = hp bs) (h0 : n0 ≤ bs.length) (h1 : σ.length = bs.length) (h2 : ∀ j, j < n0 → σ[j]? = some (some j))
    (h3 : ∀ (j : Nat) k' o, bs[j]? = some (some k') → σ[j]? = some o → BlkLe σ F s.H o k') (h4 : (σ.filterMap id).Nodup) (h5 : ∀ b ∈ F, some b ∉ σ)
    (hf : ∀ p ∈ s'.fr, AVLe (Wk σ F s.H) (fget s.fr p.1) p.2) : W n0 s s' := by
  refine ⟨Wk σ F s.H, by rw [hH]; exact canonH h1 h2 h3 h4 h5, by rw [hH]; exact h0, fun t => ?_⟩
  have key : ∀ (l : Fr), (∀ p ∈ l, AVLe (Wk σ F s.H) (fget s.fr p.1) p.2) → AVLe (Wk σ F s.H) (fget s.fr t) (fget l t) := by
    intro l
    induction l with
    | nil => intro _; exact .one .no
    | cons p l ih =>
      intro h
      obtain ⟨u, v⟩ := p
      show AVLe _ _ (if u = t then v else fget l t)
      split
      · subst_vars; exact h (u, v) (by simp)
      · exact ih fun q hq => h q (List.mem_cons_of_mem _ hq)
  exact key s'.fr hf
theorem W.refl {n0 : Nat} {s : St} (h : n0 ≤ s.H.nx) : W n0 s s :=
  ⟨fun x y => x = y, fun φ base w hr => ⟨φ, hr, fun x x' v e h => e ▸ h, .refl _ _, fun _ h => h, fun _ _ h => .inl h⟩, h, fun t => by
    have hs : ∀ l : List SV, SVsLe (fun x y => x = y) l l := fun l => by induction l with | nil => exact .nil | cons x l ih => exact .cons rfl ih
    have h0 : ∀ x : AV, (∀ l, x ≠ .tup l) → AVLe0 (fun x y => x = y) x x := fun x hx => by
      cases x with
      | no => exact .no
      | s x => exact .s rfl
      | agg l => exact .agg (hs l)
      | tup l => exact absurd rfl (hx l)
    cases hx : fget s.fr t with
    | no => exact .one .no
    | s x => exact .one (.s rfl)
    | agg l => exact .one (.agg (hs l))
    | tup l =>
      refine .tup ?_
      clear hx
      induction l with
      | nil => exact .nil
      | cons x l ih =>
        cases x with
        | tup m => exact .bad ih
        | no => exact .cons .no ih
        | s x => exact .cons (.s rfl) ih
        | agg m => exact .cons (.agg (hs m)) ih⟩

/-- What a function leaves, seen another way. -/
theorem Spec.seen {P : Program} {f : FuncId} {args : List AV} {H : AHeap} {K : AV → AHeap → Prop}
    (h : Spec P f args H fun v G => ∃ (σ : List (Option Nat)) (F : List Nat) (bs : List (Option Blk)) (v' : AV), H.nx ≤ bs.length ∧ σ.length = bs.length ∧ (∀ j, j < H.nx → σ[j]? = some (some j)) ∧
      (∀ (j : Nat) k' o, bs[j]? = some (some k') → σ[j]? = some o → BlkLe σ F G o k') ∧ (σ.filterMap id).Nodup ∧ (∀ b ∈ F, some b ∉ σ) ∧ AVLe (Wk σ F G) v v' ∧ K v' (hp bs)) : Spec P f args H K := by
  intro φ base w cargs hr ha
  refine (h φ base w cargs hr ha).mono fun e w' ⟨v, cv, G, φ1, he, ⟨σ, F, bs, v', k0, k1, k2, k3, k4, k5, k6, k7⟩, hg, hv⟩ => ?_
  obtain ⟨φ', q1, q2, q3, q4, q5⟩ := canonH k1 k2 k3 k4 k5 φ1 base w' hg.rel
  refine ⟨v', cv, hp bs, φ', he, k7, ⟨q1, k0, ⟨fun b p hb => q3.pl b p (Nat.lt_of_not_le fun hn => by rw [(hr.new b hn).2] at hb; cases hb) (hg.ext.pl b p hb), fun r o h => q3.fz r o (hg.ext.fz r o h)⟩, hg.below, hg.kept, fun r hm => hg.mine r (q4 r hm), fun r o h => ?_⟩, k6.vr q2 hv⟩
  rcases q5 r o h with h | h
  · exact hg.fzn r o h
  · exact .inr (hg.mine r h)

end Go.Proofs.Ytmfiegjncfgohaa.Den
