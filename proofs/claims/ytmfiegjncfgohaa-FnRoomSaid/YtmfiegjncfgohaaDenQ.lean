/- The abstract calculus, part Q: a region that draws its order is as its one order here. -/
import Derived.Test.YtmfiegjncfgohaaDenM
namespace Go.Proofs.Ytmfiegjncfgohaa.Den
open Go.RowKit
set_option linter.unusedVariables false
set_option linter.unusedSimpArgs false

section
variable {P : Program} {N : Nat} {ops : Array Oper}

/-- What an operation that has been told here, but not been carried out, will do. -/
def AbsOk (a : AOper) (st : St) : Prop :=
  guarded a.guard st.fr (∀ d, a.dst = some d → fget st.fr d = .tup []) (∃ v, xop a.op (evf st.fr) st.H = some (v, st.H) ∧ ∀ d, a.dst = some d → fget st.fr d = v)

def On (l : Array Bool) (i : Nat) : Prop := l.getD i false = true
/-- Slots of which nothing is known yet. -/
def Bad (l : Array Bool) (done rest : List Item) (t : Nat) : Prop := (∃ x ∈ done, ¬ On l x.1 ∧ x.2.2.dst = some t) ∨ (∃ x ∈ rest, On l x.1 ∧ x.2.2.dst = some t)

structure Early (φ : Phi) (H : AHeap) (w0 w : World) (a : Act) (x : Item) (r : Nat) : Prop where
  cells : ∃ cells, w.heap[r]? = some (.cells cells (flTy x.2.2.op) (0, 0)) ∧ (∀ φ, Holds φ cells (flSz x.2.2.op) (flRows x.2.2.op)) ∧ cells.size = flCap x.2.2.op * flSz x.2.2.op ∧ (flRows x.2.2.op).length ≤ flCap x.2.2.op ∧ flCap x.2.2.op ≤ maxLen
  val : ∀ d, x.2.2.dst = some d → a.tmps.getD d undef = flC x.2.2.op r
  new : w0.heap.size ≤ r
  notMine : ¬ Mine φ H r
  notFz : φ.fz r = none

structure Inv (P : Program) (N : Nat) (ops : Array Oper) (as : List Item) (K : St → Prop) (φ0 : Phi) (base : Nat) (H0 : AHeap) (w0 : World) (l : Array Bool) (a : Act) (w : World) (done rest : List Item) (st : St) (φ : Phi) (R : Nat → Nat) : Prop where
  b0 : base ≤ w0.heap.size
  split : as = done ++ rest
  size : l.size = ops.size
  closed : Closed ops (On l)
  wp : opsWp P (rest.map (·.2.2)) K st
  hv : ∀ x ∈ done, x.2.1 ≠ .light → On l x.1
  early : ∀ x ∈ rest, On l x.1 → x.2.1 = .float
  goes : Goes φ0 base H0 w0 φ st.H w
  sz : a.tmps.size = N
  df : a.defers = []
  fr : ∀ t, ¬ Bad l done rest t → VR φ (fget st.fr t) (a.tmps.getD t undef)
  pend : ∀ x ∈ done, ¬ On l x.1 → AbsOk x.2.2 st
  fl : ∀ x ∈ rest, On l x.1 → Early φ st.H w0 w a x (R x.1)
  fld : ∀ x ∈ rest, ∀ y ∈ rest, On l x.1 → On l y.1 → R x.1 = R y.1 → x.1 = y.1

theorem fget_put_ne {d : Option Nat} {t : Nat} {v : AV} {f : Fr} (h : d ≠ some t) : fget (fput d v f) t = fget f t := by
  cases d with
  | none => rfl
  | some u =>
    show (if u = t then v else fget f t) = _
    rw [if_neg (fun e => h (by rw [e]))]
theorem fget_put_same {t : Nat} {v : AV} {f : Fr} : fget (fput (some t) v f) t = v := if_pos rfl
theorem tmps_of {op : AOp} {x : Opd} (h : x ∈ op.opds) : ∀ t ∈ otmp x, t ∈ op.tmps := fun t ht => List.mem_flatMap.2 ⟨x, h, ht⟩

theorem guarded_congr {g : Option (Nat × Bool)} {f f' : Fr} {p q p' q' : Prop} (hs : ∀ t ∈ gslot g, fget f' t = fget f t) (hp : p → p') (hq : q → q') (h : guarded g f p q) : guarded g f' p' q' := by
  cases g with
  | none => exact hq h
  | some x =>
    obtain ⟨t, want⟩ := x
    have e := hs t (by simp [gslot])
    simp only [guarded] at h ⊢
    rw [e]
    rcases onG_out h with ⟨b, hb, h⟩ | ⟨hb, h⟩
    · rw [hb, onG_b]
      split at h
      · rw [if_pos ‹_›]; exact hq h
      · rw [if_neg ‹_›]; exact hp h
    · rw [hb, onG_u]; exact hp h

/-- Another operation changes nothing of what is still to be done. -/
theorem AbsOk.put {a : AOper} {st : St} (h : AbsOk a st) {d : Option Nat} {v : AV} {H' : AHeap} (hr : ∀ t, d = some t → t ∉ a.reads ∧ a.dst ≠ some t)
    (hx : ∀ u, xop a.op (evf st.fr) st.H = some (u, st.H) → xop a.op (evf st.fr) H' = some (u, H')) : AbsOk a ⟨fput d v st.fr, H'⟩ := by
  have hg : ∀ t, t ∈ a.reads → fget (fput d v st.fr) t = fget st.fr t := fun t ht => fget_put_ne (fun e => (hr t e).1 ht)
  have hd : ∀ t, a.dst = some t → fget (fput d v st.fr) t = fget st.fr t := fun t ht => fget_put_ne (fun e => (hr t e).2 ht)
  refine guarded_congr (fun t ht => hg t (List.mem_append_left _ ht)) (fun h t ht => ?_) (fun ⟨u, hu, h⟩ => ⟨u, ?_, fun t ht => ?_⟩) h
  · show fget (fput d v st.fr) t = _
    rw [hd t ht]; exact h t ht
  · show xop a.op (evf (fput d v st.fr)) H' = _
    rw [xop_congr (e' := evf st.fr) (fun o ho => evf_congr fun t ht => hg t (List.mem_append_right _ (tmps_of ho t ht)))]
    exact hx u hu
  · show fget (fput d v st.fr) t = _
    rw [hd t ht]; exact h t ht

theorem light_any {op : AOp} (h : op.pure = true ∨ op.reading = true) {e : Opd → AV} {H H1 : AHeap} {u : AV} (hx : xop op e H = some (u, H1)) {H2 : AHeap} (hg : ∀ b k, H.get b = some k → H2.get b = some k) : xop op e H2 = some (u, H2) := by
  rcases h with h | h
  · exact (pure_any h hx).2 H2
  · exact (reading_ext h hx).2 H2 hg

/-- A light operation, told. -/
theorem light_step {a : AOper} {st : St} {K : St → Prop} (hl : a.op.pure = true ∨ a.op.reading = true) (hd : ∀ d, a.dst = some d → d ∉ a.reads) (h : operWp P a st K) : ∃ v, K ⟨fput a.dst v st.fr, st.H⟩ ∧ AbsOk a ⟨fput a.dst v st.fr, st.H⟩ := by
  have same : ∀ v t, t ∈ a.reads → fget (fput a.dst v st.fr) t = fget st.fr t := fun v t ht => fget_put_ne (fun e => hd t e ht)
  have congr : ∀ v, xop a.op (evf (fput a.dst v st.fr)) st.H = xop a.op (evf st.fr) st.H := fun v => xop_congr (fun o ho => evf_congr fun t ht => same v t (List.mem_append_right _ (tmps_of ho t ht)))
  have yes : opWp P a.op (evf st.fr) st.H (fun v H' => chks (fput a.dst v st.fr) H' a.chk ∧ K ⟨fput a.dst v st.fr, H'⟩) → ∃ v, K ⟨fput a.dst v st.fr, st.H⟩ ∧ xop a.op (evf st.fr) st.H = some (v, st.H) := fun h => by
    obtain ⟨v, H', hx, hk⟩ := opWp_out (by cases hop : a.op <;> rw [hop] at hl <;> first | rfl | simp [AOp.pure, AOp.reading] at hl) h
    have : H' = st.H := by rcases hl with hl | hl; exact (pure_any hl hx).1; exact (reading_ext hl hx).1
    subst this
    exact ⟨v, hk.2, hx⟩
  have dstv : ∀ (v : AV) t, a.dst = some t → fget (fput a.dst v st.fr) t = v := fun v t ht => by rw [ht]; exact fget_put_same
  unfold operWp guarded at h
  cases hg : a.guard with
  | none =>
    rw [hg] at h
    obtain ⟨v, hk, hx⟩ := yes h
    exact ⟨v, hk, by unfold AbsOk guarded; rw [hg]; exact ⟨v, by rw [congr]; exact hx, dstv v⟩⟩
  | some g =>
    obtain ⟨t, want⟩ := g
    rw [hg] at h
    have ht : t ∈ a.reads := List.mem_append_left _ (by rw [hg]; simp [gslot])
    rcases onG_out h with ⟨b, hb, h⟩ | ⟨hb, h⟩
    · split at h
      · rename_i hbw
        obtain ⟨v, hk, hx⟩ := yes h
        refine ⟨v, hk, ?_⟩
        unfold AbsOk guarded
        rw [hg]
        show onG (fget (fput a.dst v st.fr) t) _ _
        rw [same v t ht, hb, onG_b, if_pos hbw]
        exact ⟨v, by rw [congr]; exact hx, dstv v⟩
      · rename_i hbw
        refine ⟨.tup [], h, ?_⟩
        unfold AbsOk guarded
        rw [hg]
        show onG (fget (fput a.dst (.tup []) st.fr) t) _ _
        rw [same (.tup []) t ht, hb, onG_b, if_neg hbw]
        exact dstv (.tup [])
    · refine ⟨.tup [], h, ?_⟩
      unfold AbsOk guarded
      rw [hg]
      show onG (fget (fput a.dst (.tup []) st.fr) t) _ _
      rw [same (.tup []) t ht, hb, onG_u]
      exact dstv (.tup [])

theorem push_get {H : AHeap} {φ : Phi} {base : Nat} {w : World} (hr : Rel φ base H w) {k0 : Blk} : ∀ b k, H.get b = some k → (H.push k0).get b = some k := fun b k hb => by
  have := hr.get_lt hb
  show (if b = H.nx then some k0 else H.get b) = some k
  rw [if_neg (by omega)]
  exact hb

/-- What the check of the order tells of two operations. -/
structure PairOk (M : List Nat) (x y : Item) : Prop where
  ord : y.2.1 = .float ∨ x.2.1 = .light ∨ (M.getD y.1 0).testBit x.1 = true
  rd : ∀ d, x.2.2.dst = some d → (d ∈ y.2.2.reads ∨ y.2.2.dst = some d) → (M.getD y.1 0).testBit x.1 = true
  wr : ∀ d, y.2.2.dst = some d → (d ∈ x.2.2.reads ∨ x.2.2.dst = some d) → y.2.1 = .heavy ∧ (M.getD y.1 0).testBit x.1 = true
  chk : y.2.1 = .heavy → y.2.2.op.isMov = false → x.2.2.op.reading = true → x.2.1 = .light → (M.getD y.1 0).testBit x.1 = true ∨ ∃ d, x.2.2.dst = some d ∧ (x.2.2.op, d, x.2.2.guard) ∈ y.2.2.chk
theorem pair_of {M : List Nat} {x y : Item} (h : pairOk M x y = true) : PairOk M x y := by
  unfold pairOk at h
  simp only [Bool.and_eq_true] at h
  obtain ⟨⟨⟨h1, h2⟩, h3⟩, h4⟩ := h
  refine ⟨?_, fun d hd hr => ?_, fun d hd hr => ?_, fun a b c e => ?_⟩
  · simp only [Bool.or_eq_true, beq_iff_eq] at h1
    rcases h1 with (h1 | h1) | h1
    · exact .inl h1
    · exact .inr (.inl h1)
    · exact .inr (.inr h1)
  · rw [hd] at h2
    simp only [Bool.or_eq_true, Bool.not_eq_true', Bool.or_eq_false_iff] at h2
    rcases h2 with ⟨h2, h5⟩ | h2
    · rcases hr with hr | hr
      · rw [List.contains_iff_mem.2 hr] at h2; cases h2
      · rw [hr] at h5; simp at h5
    · exact h2
  · rw [hd] at h3
    simp only [Bool.or_eq_true, Bool.not_eq_true', Bool.or_eq_false_iff, Bool.and_eq_true, beq_iff_eq] at h3
    rcases h3 with ⟨h3, h5⟩ | h3
    · rcases hr with hr | hr
      · rw [List.contains_iff_mem.2 hr] at h3; cases h3
      · rw [hr] at h5; simp at h5
    · exact h3
  · simp only [Bool.or_eq_true, Bool.not_eq_true', Bool.and_eq_false_imp, Bool.and_eq_true, beq_iff_eq] at h4
    rcases h4 with (h4 | h4) | h4
    · have := h4 ⟨⟨a, b⟩, c⟩
      rw [e] at this
      simp at this
    · exact .inl h4
    · cases hd : x.2.2.dst with
      | none => rw [hd] at h4; cases h4
      | some d => rw [hd] at h4; exact .inr ⟨d, rfl, List.contains_iff_mem.1 h4⟩
theorem pairs_of {M : List Nat} : ∀ {l : List Item}, pairsOk M l = true → l.Pairwise (PairOk M)
  | [], _ => .nil
  | x :: r, h => by
    simp only [pairsOk, Bool.and_eq_true] at h
    exact .cons (fun y hy => pair_of (List.all_eq_true.1 h.1 y hy)) (pairs_of h.2)

variable {as : List Item} {K : St → Prop} {φ0 : Phi} {base : Nat} {H0 : AHeap} {w0 : World} {M : List Nat}

/-- What holds of the list of operations. -/
structure Ctx (P : Program) (N : Nat) (ops : Array Oper) (as : List Item) (M : List Nat) : Prop where
  len : as.length = ops.size
  nodup : (as.map (·.1)).Nodup
  comp : ∀ x ∈ as, ∃ o, ops[x.1]? = some o ∧ compOper P N ops o x.2.2 = true
  item : ∀ x ∈ as, itemOk x = true
  pairs : as.Pairwise (PairOk M)
  back : ∀ i o, ops[i]? = some o → ∀ j ∈ dpre o, j < i
  mask : MaskOk ops M
  full : ∀ i, i < ops.size → ∃ m, M[i]? = some m
  all : ∀ i, i < ops.size → ∃ x ∈ as, x.1 = i

theorem Ctx.light (c : Ctx P N ops as M) {x : Item} (hx : x ∈ as) (hl : x.2.1 = .light) : (x.2.2.op.pure = true ∨ x.2.2.op.reading = true) ∧ ∀ d, x.2.2.dst = some d → d ∉ x.2.2.reads := by
  have h := c.item x hx
  unfold itemOk at h
  rw [hl] at h
  simp only [Bool.and_eq_true, Bool.or_eq_true] at h
  refine ⟨h.1.1, fun d hd hm => ?_⟩
  have h2 := h.2
  rw [hd] at h2
  simp only [Bool.not_eq_true'] at h2
  rw [List.contains_iff_mem.2 hm] at h2
  cases h2
theorem Ctx.float (c : Ctx P N ops as M) {x : Item} (hx : x ∈ as) (hl : x.2.1 = .float) : floatOk x.2.2.op = true ∧ x.2.2.guard = none := by
  have h := c.item x hx
  unfold itemOk at h
  rw [hl] at h
  simp only [Bool.and_eq_true] at h
  exact ⟨h.1.1, by simpa using h.1.2⟩

/-- The operations behind one that may come up have come up. -/
theorem Ctx.pre (c : Ctx P N ops as M) {l : Array Bool} (hcl : Closed ops (On l)) {x : Item} {o : Oper} (ho : ops[x.1]? = some o) (hp : ∀ j ∈ dpre o, On l j) {j : Nat} (hb : (M.getD x.1 0).testBit j = true) : On l j := by
  obtain ⟨m, hm⟩ := c.full x.1 (Array.getElem?_eq_some_iff.1 ho).1
  refine c.mask x.1 m o hm ho (On l) hcl hp j ?_
  rwa [List.getD_eq_getElem?_getD, hm] at hb

/-- On over light ones and new blocks that are there, as far as it goes. -/
theorem advance (c : Ctx P N ops as M) {l : Array Bool} {a : Act} {w : World} {R : Nat → Nat} : ∀ (rest done : List Item) (st : St) (φ : Phi), Inv P N ops as K φ0 base H0 w0 l a w done rest st φ R →
    ∃ done' rest' st' φ', Inv P N ops as K φ0 base H0 w0 l a w done' rest' st' φ' R ∧ (rest' = [] ∨ ∃ x r, rest' = x :: r ∧ x.2.1 ≠ .light ∧ ¬ On l x.1)
  | [], done, st, φ, h => ⟨done, [], st, φ, h, .inl rfl⟩
  | x :: rest, done, st, φ, h => by
    have hxa : x ∈ as := by rw [h.split]; simp
    have hpw : ∀ y ∈ done, PairOk M y x := fun y hy => by
      have := c.pairs
      rw [h.split] at this
      exact (List.pairwise_append.1 this).2.2 y hy x (List.mem_cons_self ..)
    have hnd : ∀ y ∈ rest, y.1 ≠ x.1 := fun y hy e => by
      have := c.nodup
      rw [h.split, List.map_append, List.map_cons] at this
      have := (List.nodup_append.1 this).2.1
      exact (List.nodup_cons.1 this).1 (e ▸ List.mem_map.2 ⟨y, hy, rfl⟩)
    by_cases hl : x.2.1 = .light
    · -- a light one
      have hoff : ¬ On l x.1 := fun hon => by have := h.early x (List.mem_cons_self ..) hon; rw [hl] at this; cases this
      obtain ⟨hkind, hself⟩ := c.light hxa hl
      obtain ⟨v, hk, hab⟩ := light_step hkind hself h.wp
      refine advance c rest (done ++ [x]) ⟨fput x.2.2.dst v st.fr, st.H⟩ φ ⟨h.b0, by rw [h.split]; simp, h.size, h.closed, hk, fun y hy hne => ?_, fun y hy => h.early y (List.mem_cons_of_mem _ hy), h.goes, h.sz, h.df, fun t ht => ?_, fun y hy hno => ?_, fun y hy => h.fl y (List.mem_cons_of_mem _ hy), fun y hy z hz => h.fld y (List.mem_cons_of_mem _ hy) z (List.mem_cons_of_mem _ hz)⟩
      · rcases List.mem_append.1 hy with hy | hy
        · exact h.hv y hy hne
        · simp at hy; subst hy; exact (hne hl).elim
      · have hne : x.2.2.dst ≠ some t := fun e => ht (.inl ⟨x, by simp, hoff, e⟩)
        show VR φ (fget (fput x.2.2.dst v st.fr) t) _
        rw [fget_put_ne hne]
        refine h.fr t (fun hb => ht ?_)
        rcases hb with ⟨y, hy, h1, h2⟩ | ⟨y, hy, h1, h2⟩
        · exact .inl ⟨y, List.mem_append_left _ hy, h1, h2⟩
        · rcases List.mem_cons.1 hy with rfl | hy
          · exact (hoff h1).elim
          · exact .inr ⟨y, hy, h1, h2⟩
      · rcases List.mem_append.1 hy with hy | hy
        · refine (h.pend y hy hno).put (fun t ht => ?_) (fun u hu => hu)
          have hp := (hpw y hy).wr t ht
          refine ⟨fun hm => ?_, fun hm => ?_⟩
          · have := (hp (.inl hm)).1; rw [hl] at this; cases this
          · have := (hp (.inr hm)).1; rw [hl] at this; cases this
        · simp at hy; subst hy; exact hab
    · by_cases hon : On l x.1
      · -- a new block that is there already
        have hfl := h.early x (List.mem_cons_self ..) hon
        obtain ⟨hfo, hgn⟩ := c.float hxa hfl
        have he := h.fl x (List.mem_cons_self ..) hon
        obtain ⟨cells, e1, e2, e3, e4, e5⟩ := he.cells
        obtain ⟨hrel, hmine⟩ := h.goes.rel.adopt (r := R x.1) (cap := flCap x.2.2.op) e1 (Nat.le_trans h.b0 he.new) he.notMine he.notFz (e2 φ) e3 e4 e5
        have hx := float_xop hfo st.fr st.H
        have hwp := h.wp
        simp only [List.map_cons, opsWp] at hwp
        unfold operWp guarded at hwp
        rw [hgn] at hwp
        obtain ⟨v, H', hx', hk⟩ := opWp_out (by cases hop : x.2.2.op <;> rw [hop] at hfo <;> first | rfl | cases hfo) hwp
        rw [hx] at hx'
        simp only [Option.some.injEq, Prod.mk.injEq] at hx'
        obtain ⟨rfl, rfl⟩ := hx'
        have hext : Ext φ (setPlace φ st.H.nx ⟨R x.1, 0, flCap x.2.2.op, flSz x.2.2.op⟩) := ext_setPlace (h.goes.rel.new st.H.nx (Nat.le_refl _)).2
        refine advance c rest (done ++ [x]) _ _ ⟨h.b0, by rw [h.split]; simp, h.size, h.closed, hk.2, fun y hy hne => ?_, fun y hy => h.early y (List.mem_cons_of_mem _ hy), ⟨hrel, Nat.le_trans h.goes.nx (Nat.le_succ _), h.goes.ext.trans hext, h.goes.below, h.goes.kept, fun r hr => ?_, h.goes.fzn⟩, h.sz, h.df, fun t ht => ?_, fun y hy hno => ?_, fun y hy hony => ?_, fun y hy z hz => h.fld y (List.mem_cons_of_mem _ hy) z (List.mem_cons_of_mem _ hz)⟩
        · rcases List.mem_append.1 hy with hy | hy
          · exact h.hv y hy hne
          · simp at hy; subst hy; exact hon
        · rcases hmine r hr with rfl | hr
          · exact .inl he.new
          · exact h.goes.mine r hr
        · by_cases hd : x.2.2.dst = some t
          · show VR _ (fget (fput x.2.2.dst _ st.fr) t) _
            rw [hd, fget_put_same, he.val t hd]
            exact float_vr hfo (if_pos rfl) e5
          · show VR _ (fget (fput x.2.2.dst _ st.fr) t) _
            rw [fget_put_ne hd]
            refine (h.fr t (fun hb => ht ?_)).ext hext
            rcases hb with ⟨y, hy, h1, h2⟩ | ⟨y, hy, h1, h2⟩
            · exact .inl ⟨y, List.mem_append_left _ hy, h1, h2⟩
            · rcases List.mem_cons.1 hy with rfl | hy
              · exact (hd h2).elim
              · exact .inr ⟨y, hy, h1, h2⟩
        · rcases List.mem_append.1 hy with hy | hy
          · have hyl : y.2.1 = .light := Classical.byContradiction fun hne => hno (h.hv y hy hne)
            have hya : y ∈ as := by rw [h.split]; exact List.mem_append_left _ hy
            refine (h.pend y hy hno).put (fun t ht => ?_) (fun u hu => light_any (c.light hya hyl).1 hu (push_get h.goes.rel))
            have hp := (hpw y hy).wr t ht
            refine ⟨fun hm => ?_, fun hm => ?_⟩
            · have := (hp (.inl hm)).1; rw [hfl] at this; cases this
            · have := (hp (.inr hm)).1; rw [hfl] at this; cases this
          · simp at hy; subst hy; exact (hno hon).elim
        · have hey := h.fl y (List.mem_cons_of_mem _ hy) hony
          refine ⟨hey.cells, hey.val, hey.new, fun hm => ?_, hey.notFz⟩
          rcases hmine _ hm with e | hm
          · exact hnd y hy (h.fld y (List.mem_cons_of_mem _ hy) x (List.mem_cons_self ..) hony hon e)
          · exact hey.notMine hm
      · exact ⟨done, x :: rest, st, φ, h, .inr ⟨x, rest, rfl, hl, hon⟩⟩

theorem on_set {l : Array Bool} {i j : Nat} (hi : i < l.size) : On (l.setIfInBounds i true) j ↔ j = i ∨ On l j := by
  unfold On
  rw [Array.getD_eq_getD_getElem?, Array.getElem?_setIfInBounds, Array.getD_eq_getD_getElem?]
  by_cases h : i = j
  · subst h
    simp [hi]
  · rw [if_neg h]
    constructor
    · exact .inr
    · rintro (e | e)
      · exact (h e.symm).elim
      · exact e

/-- Operands none of which is unknown. -/
theorem evs_good {φ : Phi} {st : St} {a : Act} {B : Nat → Prop} (hf : ∀ t, ¬ B t → VR φ (fget st.fr t) (a.tmps.getD t undef)) {op : AOp} (hop : ∀ t ∈ op.tmps, ¬ B t) :
    ∃ ev : Opd → AV, Evs φ ev a.eval ∧ ∀ x ∈ op.opds, ev x = evf st.fr x := by
  classical
  refine ⟨fun x => if ∃ t ∈ otmp x, B t then .no else evf st.fr x, fun x y hy => ?_, fun x hx => ?_⟩
  · show VR φ (if ∃ t ∈ otmp y, B t then .no else evf st.fr y) _
    split
    · exact VR_no
    · rename_i hno
      unfold opd at hy
      split at hy
      · obtain rfl := (Option.some.inj hy).symm
        exact hf _ (fun hb => hno ⟨_, by simp [otmp], hb⟩)
      · cases hs : svs (Array.toList _) with
        | none => rw [hs] at hy; cases hy
        | some l => rw [hs] at hy; obtain rfl := (Option.some.inj hy).symm; exact ⟨_, rfl, svs_ok hs⟩
      · cases hs : sv _ with
        | none => rw [hs] at hy; cases hy
        | some l => rw [hs] at hy; obtain rfl := (Option.some.inj hy).symm; exact sv_ok (φ := φ) hs
      · obtain rfl := (Option.some.inj hy).symm; exact ⟨#[], rfl, .nil⟩
      · cases hy
  · exact if_neg fun ⟨t, ht, hb⟩ => hop t (tmps_of hx t ht) hb

/-- The guard of an operation, its slot known. -/
theorem wanted_good {φ : Phi} {st : St} {a : Act} {o : Oper} {ao : AOper} (hs : ∀ t ∈ gslot ao.guard, VR φ (fget st.fr t) (a.tmps.getD t undef)) (hc : (match o.guard, ao.guard with
   | none, none => true
   | some (j, want), some (t, want') => (match ops[j]? with | some oj => oj.dst == some t | none => false) && want == want'
   | _, _ => false) = true) {p q : Prop} (hg : guarded ao.guard st.fr p q) : (Region.wanted o (yielded ops a.tmps) = true ∧ q) ∨ (Region.wanted o (yielded ops a.tmps) = false ∧ p) := by
  cases hgd : ao.guard with
  | none =>
    have hf : FR φ a.tmps.size [] { a with defers := [] } := ⟨rfl, rfl, fun t => VR_no⟩
    exact wanted_of (a := { a with defers := [] }) hf (ao := ao) hc (by rw [hgd] at hg ⊢; exact hg)
  | some g =>
    obtain ⟨t, want⟩ := g
    have hf : FR φ a.tmps.size [(t, fget st.fr t)] { a with defers := [] } := ⟨rfl, rfl, fun u => by
      unfold fget
      split
      · subst_vars; exact hs _ (by rw [hgd]; simp [gslot])
      · exact VR_no⟩
    refine wanted_of (a := { a with defers := [] }) hf (ao := ao) hc ?_
    rw [hgd] at hg ⊢
    simp only [guarded, fget, if_true] at hg ⊢
    exact hg

theorem put_get {a : Act} {d : Option Nat} {v : Value} (hd : (match d with | some t => decide (t < N) | none => true) = true) (hs : a.tmps.size = N) (t : Nat) : (a.put d v).tmps.getD t undef = if d = some t then v else a.tmps.getD t undef := by
  cases d with
  | none => simp [Act.put]
  | some u =>
    have hu : u < a.tmps.size := by rw [hs]; exact of_decide_eq_true hd
    simp only [Act.put, Array.getD_eq_getD_getElem?, Array.getElem?_setIfInBounds]
    by_cases h : u = t
    · subst h; simp [hu]
    · simp [h]
theorem put_size {a : Act} {d : Option Nat} {v : Value} : (a.put d v).tmps.size = a.tmps.size := by cases d <;> simp [Act.put]
theorem put_defers {a : Act} {d : Option Nat} {v : Value} : (a.put d v).defers = a.defers := by cases d <;> rfl

/-- Who waits for none that has not come up. -/
theorem Ctx.closed_set (c : Ctx P N ops as M) {l : Array Bool} (hcl : Closed ops (On l)) {i : Nat} {o : Oper} (hi : i < l.size) (ho : ops[i]? = some o) (hp : ∀ j ∈ dpre o, On l j) : Closed ops (On (l.setIfInBounds i true)) := by
  intro k ok hok hk j hj
  rw [on_set hi] at hk ⊢
  rcases hk with rfl | hk
  · rw [ho] at hok
    obtain rfl := Option.some.inj hok
    exact .inr (hp j hj)
  · exact .inr (hcl k ok hok hk j hj)

theorem nodup_inj : ∀ {l : List Item}, (l.map (·.1)).Nodup → ∀ x ∈ l, ∀ y ∈ l, x.1 = y.1 → x = y
  | [], _, x, hx, _, _, _ => by cases hx
  | z :: l, h, x, hx, y, hy, e => by
    rw [List.map_cons, List.nodup_cons] at h
    rcases List.mem_cons.1 hx with hx1 | hx <;> rcases List.mem_cons.1 hy with hy1 | hy
    · rw [hx1, hy1]
    · exact (h.1 (List.mem_map.2 ⟨y, hy, by rw [← e, hx1]⟩)).elim
    · exact (h.1 (List.mem_map.2 ⟨x, hx, by rw [e, hy1]⟩)).elim
    · exact nodup_inj h.2 x hx y hy e
theorem nodup_apart {l done rest : List Item} (h : (l.map (·.1)).Nodup) (hs : l = done ++ rest) {x : Item} (h1 : x ∈ done) (h2 : x ∈ rest) : False := by
  rw [hs, List.map_append] at h
  exact (List.nodup_append.1 h).2.2 x.1 (List.mem_map.2 ⟨x, h1, rfl⟩) x.1 (List.mem_map.2 ⟨x, h2, rfl⟩) rfl
theorem nodup_head {l done r : List Item} {z : Item} (h : (l.map (·.1)).Nodup) (hs : l = done ++ z :: r) (h2 : z ∈ r) : False := by
  rw [hs, List.map_append, List.map_cons] at h
  exact (List.nodup_cons.1 (List.nodup_append.1 h).2.1).1 (List.mem_map.2 ⟨z, h2, rfl⟩)
theorem tail_pair {M : List Nat} {l done r : List Item} {z x : Item} (h : l.Pairwise (PairOk M)) (hs : l = done ++ z :: r) (hx : x ∈ r) : PairOk M z x := by
  rw [hs] at h
  exact (List.pairwise_cons.1 (List.pairwise_append.1 h).2.1).1 x hx
theorem pairwise_or {M : List Nat} : ∀ {l : List Item}, l.Pairwise (PairOk M) → ∀ {x y : Item}, x ∈ l → y ∈ l → x ≠ y → PairOk M x y ∨ PairOk M y x
  | [], _, x, y, hx, _, _ => by cases hx
  | z :: l, h, x, y, hx, hy, hne => by
    rw [List.pairwise_cons] at h
    rcases List.mem_cons.1 hx with e1 | h1 <;> rcases List.mem_cons.1 hy with e2 | h2
    · exact (hne (e1.trans e2.symm)).elim
    · rw [e1]; exact .inl (h.1 y h2)
    · rw [e2]; exact .inr (h.1 x h1)
    · exact pairwise_or h.2 h1 h2 hne
theorem light_nocall {op : AOp} (h : op.pure = true ∨ op.reading = true) : isCall op = false := by
  cases op <;> first | rfl | simp [AOp.pure, AOp.reading] at h
theorem opWp_of_xop {op : AOp} {ev : Opd → AV} {H H' : AHeap} {v : AV} {K : AV → AHeap → Prop} (hn : isCall op = false) (hx : xop op ev H = some (v, H')) (hk : K v H') : opWp P op ev H K := by
  have : opWp P op ev H K = onX (xop op ev H) K := by cases op <;> first | rfl | cases hn
  rw [this, hx]
  exact hk
theorem goes_alloc {φ : Phi} {base : Nat} {H : AHeap} {w : World} (hr : Rel φ base H w) (o : Obj) : Goes φ base H w φ H (w.alloc o) := by
  have hold : ∀ r, r < w.heap.size → (w.alloc o).heap[r]? = w.heap[r]? := fun r h => Below.heap_alloc w o r h
  refine ⟨⟨fun b k hb => ?_, hr.inj, hr.new, by simp; have := hr.base; omega, fun r q hq => ?_, hr.full⟩, Nat.le_refl _, Ext.refl _, ⟨rfl, rfl, rfl, by simp, fun r h => hold r (by have := hr.base; omega)⟩, fun r h _ => hold r h, fun r hm => .inr hm, fun r q hq => .inl hq⟩
  · obtain ⟨p, hp, ok⟩ := hr.blk b k hb
    exact ⟨p, hp, ok.move (Ext.refl _) (fun hc => hold _ (hr.blk_lt hb hp hc).1)⟩
  · obtain ⟨h1, h2⟩ := hr.fz r q hq
    exact ⟨by rw [hold r (Array.getElem?_eq_some_iff.1 h1).1]; exact h1, h2⟩
theorem chks_mem {f : Fr} {H : AHeap} : ∀ {l : List (AOp × Nat × Option (Nat × Bool))}, chks f H l → ∀ {c}, c ∈ l → chkOne f H c
  | [], _, c, h => by cases h
  | d :: l, h, c, hc => by
    rcases List.mem_cons.1 hc with rfl | hc
    · exact h.1
    · exact chks_mem h.2 hc
theorem AbsOk.of_chk {a : AOper} {st : St} (h : AbsOk a st) {d : Option Nat} {v : AV} {H' : AHeap} (hr : ∀ t, d = some t → t ∉ a.reads ∧ a.dst ≠ some t) {t : Nat} (ht : a.dst = some t) (hc : chkOne (fput d v st.fr) H' (a.op, t, a.guard)) : AbsOk a ⟨fput d v st.fr, H'⟩ := by
  have hg : ∀ t, t ∈ a.reads → fget (fput d v st.fr) t = fget st.fr t := fun t ht => fget_put_ne (fun e => (hr t e).1 ht)
  have hd : fget (fput d v st.fr) t = fget st.fr t := fget_put_ne (fun e => (hr t e).2 ht)
  unfold AbsOk at h ⊢
  unfold chkOne at hc
  simp only at hc ⊢
  cases hgd : a.guard with
  | none =>
    rw [hgd] at hc
    exact ⟨_, hc, fun u hu => by rw [ht] at hu; injection hu with hu; rw [hu]⟩
  | some g =>
    obtain ⟨s, want⟩ := g
    rw [hgd] at hc h
    simp only [guarded] at hc h ⊢
    have hs : fget (fput d v st.fr) s = fget st.fr s := hg s (List.mem_append_left _ (by rw [hgd]; simp [gslot]))
    rw [hs] at hc ⊢
    rcases onG_out h with ⟨b, hb, h⟩ | ⟨hb, h⟩
    · rw [hb, onG_b] at hc ⊢
      split
      · rw [if_pos ‹_›] at hc
        exact ⟨_, hc, fun u hu => by rw [ht] at hu; injection hu with hu; rw [hu]⟩
      · rw [if_neg ‹_›] at h
        exact fun u hu => by
          rw [ht] at hu
          injection hu with hu
          subst hu
          rw [hd]
          exact h t ht
    · rw [hb, onG_u]
      exact fun u hu => by
        rw [ht] at hu
        injection hu with hu
        subst hu
        rw [hd]
        exact h t ht

/-- One operation that may come up, whichever. -/
theorem inv_step (c : Ctx P N ops as M) {l : Array Bool} {a : Act} {w : World} {R : Nat → Nat} {done rest : List Item} {st : St} {φ : Phi} (h : Inv P N ops as K φ0 base H0 w0 l a w done rest st φ R)
    (hstop : rest = [] ∨ ∃ x r, rest = x :: r ∧ x.2.1 ≠ .light ∧ ¬ On l x.1) {i : Nat} {o : Oper} (hoff : ¬ On l i) (ho : ops[i]? = some o) (hp : ∀ j ∈ dpre o, On l j)
    {next : Act → World → Prop} {Q : Exit → Act → World → Prop}
    (hn : ∀ a' w' done' rest' st' φ' R', Inv P N ops as K φ0 base H0 w0 (l.setIfInBounds i true) a' w' done' rest' st' φ' R' → next a' w') : wpOp P ops Q i next a w := by
  have hi : i < l.size := by rw [h.size]; exact (Array.getElem?_eq_some_iff.1 ho).1
  have hcl := c.closed_set h.closed hi ho hp
  obtain ⟨x, hxa, hxi⟩ := c.all i (Array.getElem?_eq_some_iff.1 ho).1
  subst hxi
  obtain ⟨o', ho', hcomp⟩ := c.comp x hxa
  rw [ho] at ho'
  obtain rfl := Option.some.inj ho'
  have hco := hcomp
  unfold compOper at hco
  simp only [Bool.and_eq_true, beq_iff_eq] at hco
  obtain ⟨⟨⟨h1, h2⟩, h3⟩, h4⟩ := hco
  have pre : ∀ {j}, (M.getD x.1 0).testBit j = true → On l j := fun hb => c.pre h.closed ho hp hb
  have hx2 : x ∈ done ∨ x ∈ rest := by rw [h.split] at hxa; exact List.mem_append.1 hxa
  have uniq : ∀ y ∈ as, y.1 = x.1 → y = x := fun y hy e => nodup_inj c.nodup y hy x hxa e
  have inDone : ∀ y ∈ done, y ∈ as := fun y hy => by rw [h.split]; exact List.mem_append_left _ hy
  have inRest : ∀ y ∈ rest, y ∈ as := fun y hy => by rw [h.split]; exact List.mem_append_right _ hy
  have dr : ∀ y ∈ done, ∀ z ∈ rest, PairOk M y z := fun y hy z hz => by
    have := c.pairs
    rw [h.split] at this
    exact (List.pairwise_append.1 this).2.2 y hy z hz
  have pendL : ∀ y ∈ done, ¬ On l y.1 → y.2.1 = .light := fun y hy hno => Classical.byContradiction fun hne => hno (h.hv y hy hne)
  have off' : ∀ {j}, ¬ On (l.setIfInBounds x.1 true) j → ¬ On l j ∧ j ≠ x.1 := fun hj => ⟨fun e => hj ((on_set hi).2 (.inr e)), fun e => hj ((on_set hi).2 (.inl e))⟩
  have hrel := h.goes.rel
  -- early blocks stay where nothing of ours is touched
  have keep : ∀ {φ' : Phi} {H' : AHeap} {w' : World}, Goes φ base st.H w φ' H' w' → ∀ {a' : Act} {y : Item}, y ∈ rest → On l y.1 → (∀ d, y.2.2.dst = some d → a'.tmps.getD d undef = a.tmps.getD d undef) → Early φ' H' w0 w' a' y (R y.1) := by
    intro φ' H' w' hg a' y hy hon hv
    have he := h.fl y hy hon
    obtain ⟨cells, e1, e2⟩ := he.cells
    have hlt : R y.1 < w.heap.size := (Array.getElem?_eq_some_iff.1 e1).1
    refine ⟨⟨cells, by rw [hg.kept _ hlt he.notMine]; exact e1, e2⟩, fun d hd => by rw [hv d hd]; exact he.val d hd, he.new, fun hm => ?_, ?_⟩
    · rcases hg.mine _ hm with hm | hm
      · omega
      · exact he.notMine hm
    · cases hfz : φ'.fz (R y.1) with
      | none => rfl
      | some q =>
        rcases hg.fzn _ q hfz with h | h | h
        · rw [he.notFz] at h; cases h
        · omega
        · exact (he.notMine h).elim
  unfold wpOp
  simp only [ho]
  rcases hx2 with hxd | hxr
  · -- told already, not yet carried out
    have hxl := pendL x hxd hoff
    obtain ⟨hkind, hself⟩ := c.light hxa hxl
    have pair : ∀ y ∈ done, y ≠ x → PairOk M y x ∨ PairOk M x y := fun y hy hne => pairwise_or c.pairs (inDone y hy) hxa hne
    have others : ∀ t, ((∃ y ∈ done, y ≠ x ∧ ¬ On l y.1 ∧ y.2.2.dst = some t) ∨ (∃ y ∈ rest, On l y.1 ∧ y.2.2.dst = some t)) → t ∉ x.2.2.reads ∧ x.2.2.dst ≠ some t := fun t hb => by
      rcases hb with ⟨y, hy, hne, hno, hd⟩ | ⟨y, hy, hon, hd⟩
      · have hcontra : (t ∈ x.2.2.reads ∨ x.2.2.dst = some t) → False := fun hc => by
          rcases pair y hy hne with hp | hp
          · exact hno (pre (hp.rd t hd hc))
          · have := (hp.wr t hd hc).1
            rw [pendL y hy hno] at this
            cases this
        exact ⟨fun e => hcontra (.inl e), fun e => hcontra (.inr e)⟩
      · have hcontra : (t ∈ x.2.2.reads ∨ x.2.2.dst = some t) → False := fun hc => by
          have := ((dr x hxd y hy).wr t hd hc).1
          rw [h.early y hy hon] at this
          cases this
        exact ⟨fun e => hcontra (.inl e), fun e => hcontra (.inr e)⟩
    have good : ∀ t ∈ x.2.2.reads, ¬ Bad l done rest t := fun t ht hb => by
      rcases hb with ⟨y, hy, hno, hd⟩ | ⟨y, hy, hon, hd⟩
      · by_cases hyx : y = x
        · subst hyx; exact hself t hd ht
        · exact (others t (.inl ⟨y, hy, hyx, hno, hd⟩)).1 ht
      · exact (others t (.inr ⟨y, hy, hon, hd⟩)).1 ht
    have fin : ∀ (cv : Value) (φ' : Phi) (w' : World), Goes φ base st.H w φ' st.H w' → (∀ d, x.2.2.dst = some d → VR φ' (fget st.fr d) cv) → next (a.put o.dst cv) w' := fun cv φ' w' hg hv => by
      rw [h2]
      refine hn _ w' done rest st φ' R ⟨h.b0, h.split, by simp [h.size], hcl, h.wp, fun y hy hne => (on_set hi).2 (.inr (h.hv y hy hne)), fun y hy hon => ?_, h.goes.trans hg, by rw [put_size]; exact h.sz, by rw [put_defers]; exact h.df, fun t ht => ?_, fun y hy hno => h.pend y hy (off' hno).1, fun y hy hon => ?_, fun y hy z hz hon hon2 => ?_⟩
      · rcases (on_set hi).1 hon with e | hon
        · have := uniq y (inRest y hy) e
          subst this
          exact (nodup_apart c.nodup h.split hxd hy).elim
        · exact h.early y hy hon
      · rw [put_get h3 h.sz]
        split
        · exact hv t ‹_›
        · rename_i hne
          refine (h.fr t (fun hb => ht ?_)).ext hg.ext
          rcases hb with ⟨y, hy, hno, hd⟩ | ⟨y, hy, hon, hd⟩
          · refine .inl ⟨y, hy, fun hon => ?_, hd⟩
            rcases (on_set hi).1 hon with e | hon
            · have := uniq y (inDone y hy) e
              subst this
              exact hne hd
            · exact hno hon
          · exact .inr ⟨y, hy, (on_set hi).2 (.inr hon), hd⟩
      · have hon0 : On l y.1 := by
          rcases (on_set hi).1 hon with e | hon
          · have := uniq y (inRest y hy) e
            subst this
            exact (nodup_apart c.nodup h.split hxd hy).elim
          · exact hon
        exact keep hg hy hon0 (fun d hd => by
          rw [put_get h3 h.sz, if_neg]
          exact (others d (.inr ⟨y, hy, hon0, hd⟩)).2)
      · have g : ∀ u ∈ rest, On (l.setIfInBounds x.1 true) u.1 → On l u.1 := fun u hu hon => by
          rcases (on_set hi).1 hon with e | hon
          · have := uniq u (inRest u hu) e
            subst this
            exact (nodup_apart c.nodup h.split hxd hu).elim
          · exact hon
        exact h.fld y hy z hz (g y hy hon) (g z hz hon2)
    rcases wanted_good (fun t ht => h.fr t (good t (List.mem_append_left _ ht))) h4 (h.pend x hxd hoff) with ⟨hw, v, hx, hv⟩ | ⟨hw, hv⟩
    · rw [if_pos hw]
      obtain ⟨ev, hev, hcg⟩ := evs_good h.fr (op := x.2.2.op) (fun t ht => good t (List.mem_append_right _ ht))
      refine .inl (op_sound h1 hrel hev (K := fun v' H' => v' = v ∧ H' = st.H) (opWp_of_xop (light_nocall hkind) (by rw [xop_congr hcg]; exact hx) ⟨rfl, rfl⟩) fun v' cv H' φ' w' hk hg hv' => ?_)
      obtain ⟨rfl, rfl⟩ := hk
      exact fin cv φ' w' hg (fun d hd => by rw [hv d hd]; exact hv')
    · rw [if_neg (by rw [hw]; exact Bool.false_ne_true)]
      exact fin undef φ w (Goes.refl hrel) (fun d hd => by rw [hv d hd]; exact vr_undef)
  · rcases hcat : x.2.1 with _ | _ | _
    · -- light: it would have been told
      exfalso
      rcases hstop with e | ⟨z, r, e, hz1, hz2⟩
      · subst e; cases hxr
      · subst e
        rcases List.mem_cons.1 hxr with rfl | hxr
        · exact hz1 hcat
        · have hp := tail_pair c.pairs h.split hxr
          rcases hp.ord with e | e | e
          · rw [hcat] at e; cases e
          · exact hz1 e
          · exact hz2 (pre e)
    · -- a new block of constants: it may come early
      obtain ⟨hfo, hgn⟩ := c.float hxa hcat
      have hwant : Region.wanted o (yielded ops a.tmps) = true := by
        unfold Region.wanted
        split at h4
        · rename_i e1 e2; rw [e1]
        · rename_i e1 e2; rw [hgn] at e2; cases e2
        · cases h4
      rw [if_pos hwant]
      obtain ⟨cells, hrun, hh1, hh2, hh3, hh4⟩ := float_run h1 hfo a
      refine .inl ?_
      unfold Oper.wp
      rw [hrun w]
      show next (a.put o.dst (flC x.2.2.op w.heap.size)) _
      rw [h2]
      have hga : Goes φ base st.H w φ st.H (w.alloc (.cells cells (flTy x.2.2.op))) := goes_alloc hrel _
      have apart : ∀ y ∈ rest, y ≠ x → y.2.1 = .float → ∀ d, y.2.2.dst = some d → x.2.2.dst ≠ some d := fun y hy hne hfl d hd e => by
        rcases pairwise_or c.pairs (inRest y hy) hxa hne with hp | hp
        · have := (hp.wr d e (.inr hd)).1; rw [hcat] at this; cases this
        · have := (hp.wr d hd (.inr e)).1; rw [hfl] at this; cases this
      have onR : ∀ y ∈ rest, On (l.setIfInBounds x.1 true) y.1 → y = x ∨ (y ≠ x ∧ On l y.1) := fun y hy hon => by
        rcases (on_set hi).1 hon with e | hon
        · exact .inl (uniq y (inRest y hy) e)
        · exact .inr ⟨fun e => hoff (e ▸ hon), hon⟩
      have ltR : ∀ y ∈ rest, On l y.1 → R y.1 < w.heap.size := fun y hy hon => by
        obtain ⟨cells, e1, _⟩ := (h.fl y hy hon).cells
        exact (Array.getElem?_eq_some_iff.1 e1).1
      have neR : ∀ y ∈ rest, y ≠ x → y.1 ≠ x.1 := fun y hy hne e => hne (uniq y (inRest y hy) e)
      refine hn _ _ done rest st φ (fun j => if j = x.1 then w.heap.size else R j) ⟨h.b0, h.split, by simp [h.size], hcl, h.wp, fun y hy hne => (on_set hi).2 (.inr (h.hv y hy hne)), fun y hy hon => ?_, h.goes.trans hga, by rw [put_size]; exact h.sz, by rw [put_defers]; exact h.df, fun t ht => ?_, fun y hy hno => h.pend y hy (off' hno).1, fun y hy hon => ?_, fun y hy z hz hon hon2 e => ?_⟩
      · rcases onR y hy hon with rfl | ⟨_, hon⟩
        · exact hcat
        · exact h.early y hy hon
      · have hne : x.2.2.dst ≠ some t := fun e => ht (.inr ⟨x, hxr, (on_set hi).2 (.inl rfl), e⟩)
        rw [put_get h3 h.sz, if_neg hne]
        refine h.fr t (fun hb => ht ?_)
        rcases hb with ⟨y, hy, hno, hd⟩ | ⟨y, hy, hon, hd⟩
        · refine .inl ⟨y, hy, fun hon => ?_, hd⟩
          rcases (on_set hi).1 hon with e | hon
          · have := uniq y (inDone y hy) e
            subst this
            exact nodup_apart c.nodup h.split hy hxr
          · exact hno hon
        · exact .inr ⟨y, hy, (on_set hi).2 (.inr hon), hd⟩
      · rcases onR y hy hon with rfl | ⟨hne, hon⟩
        · rw [if_pos rfl]
          refine ⟨⟨cells, heap_alloc_new w _, hh1, hh2, hh3, hh4⟩, fun d hd => by rw [put_get h3 h.sz, if_pos hd], h.goes.below.size, fun hm => ?_, ?_⟩
          · obtain ⟨b, k, p, g1, g2, g3, g4⟩ := hm
            have := (hrel.blk_lt g1 g2 g3).1
            omega
          · cases hfz : φ.fz w.heap.size with
            | none => rfl
            | some q =>
              have := (Array.getElem?_eq_some_iff.1 (hrel.fz _ q hfz).1).1
              exact absurd this (Nat.lt_irrefl _)
        · rw [if_neg (neR y hy hne)]
          exact keep hga hy hon (fun d hd => by rw [put_get h3 h.sz, if_neg (apart y hy hne (h.early y hy hon) d hd)])
      · rcases onR y hy hon with ey | ⟨hne, hony⟩ <;> rcases onR z hz hon2 with ez | ⟨hne2, honz⟩
        · rw [ey, ez]
        · simp only [ey, if_true, if_neg (neR z hz hne2)] at e
          have := ltR z hz honz
          omega
        · simp only [ez, if_true, if_neg (neR y hy hne)] at e
          have := ltR y hy hony
          omega
        · simp only [if_neg (neR z hz hne2), if_neg (neR y hy hne)] at e
          exact h.fld y hy z hz hony honz e
    · -- heavy: it is the next
      rcases hstop with e | ⟨z, r, e, hz1, hz2⟩
      · subst e; cases hxr
      subst e
      have hxz : x = z := by
        rcases List.mem_cons.1 hxr with hx | hx
        · exact hx
        · exfalso
          have hp := tail_pair c.pairs h.split hx
          rcases hp.ord with e | e | e
          · rw [hcat] at e; cases e
          · exact hz1 e
          · exact hz2 (pre e)
      subst hxz
      have nr : ∀ y ∈ r, y.1 ≠ x.1 := fun y hy e => by
        have := uniq y (inRest y (List.mem_cons_of_mem _ hy)) e
        subst this
        exact nodup_head c.nodup h.split hy
      have fl : ∀ y ∈ r, On l y.1 → ∀ d, y.2.2.dst = some d → d ∉ x.2.2.reads ∧ x.2.2.dst ≠ some d := fun y hy hon d hd => by
        have hp := tail_pair c.pairs h.split hy
        have hfy := h.early y (List.mem_cons_of_mem _ hy) hon
        exact ⟨fun e => (by have := (hp.wr d hd (.inl e)).1; rw [hfy] at this; cases this), fun e => (by have := (hp.wr d hd (.inr e)).1; rw [hfy] at this; cases this)⟩
      have pn : ∀ y ∈ done, ¬ On l y.1 → ∀ d, y.2.2.dst = some d → d ∉ x.2.2.reads := fun y hy hno d hd e => hno (pre ((dr y hy x (List.mem_cons_self ..)).rd d hd (.inl e)))
      have good : ∀ t ∈ x.2.2.reads, ¬ Bad l done (x :: r) t := fun t ht hb => by
        rcases hb with ⟨y, hy, hno, hd⟩ | ⟨y, hy, hon, hd⟩
        · exact pn y hy hno t hd ht
        · rcases List.mem_cons.1 hy with rfl | hy
          · exact hoff hon
          · exact (fl y hy hon t hd).1 ht
      -- what is left to be done, behind it
      have fin : ∀ (v : AV) (cv : Value) (H' : AHeap) (φ' : Phi) (w' : World), opsWp P (r.map (·.2.2)) K ⟨fput x.2.2.dst v st.fr, H'⟩ → Goes φ base st.H w φ' H' w' → VR φ' v cv →
          (H' = st.H ∨ (x.2.2.op.isMov = false ∧ chks (fput x.2.2.dst v st.fr) H' x.2.2.chk)) → next (a.put o.dst cv) w' := fun v cv H' φ' w' hk hg hv hch => by
        rw [h2]
        refine hn _ w' (done ++ [x]) r ⟨fput x.2.2.dst v st.fr, H'⟩ φ' R ⟨h.b0, by rw [h.split]; simp, by simp [h.size], hcl, hk, fun y hy hne => ?_, fun y hy hon => ?_, h.goes.trans hg, by rw [put_size]; exact h.sz, by rw [put_defers]; exact h.df, fun t ht => ?_, fun y hy hno => ?_, fun y hy hon => ?_, fun y hy z hz hon hon2 => ?_⟩
        · rcases List.mem_append.1 hy with hy | hy
          · exact (on_set hi).2 (.inr (h.hv y hy hne))
          · simp at hy; subst hy; exact (on_set hi).2 (.inl rfl)
        · rcases (on_set hi).1 hon with e | hon
          · exact (nr y hy e).elim
          · exact h.early y (List.mem_cons_of_mem _ hy) hon
        · rw [put_get h3 h.sz]
          show VR φ' (fget (fput x.2.2.dst v st.fr) t) _
          split
          · rename_i hd
            rw [hd, fget_put_same]
            exact hv
          · rename_i hd
            rw [fget_put_ne hd]
            refine (h.fr t (fun hb => ht ?_)).ext hg.ext
            rcases hb with ⟨y, hy, hno, hd⟩ | ⟨y, hy, hon, hd⟩
            · refine .inl ⟨y, List.mem_append_left _ hy, fun hon => ?_, hd⟩
              rcases (on_set hi).1 hon with e | hon
              · have := uniq y (inDone y hy) e
                subst this
                exact nodup_apart c.nodup h.split hy (List.mem_cons_self ..)
              · exact hno hon
            · rcases List.mem_cons.1 hy with rfl | hy
              · exact (hoff hon).elim
              · exact .inr ⟨y, hy, (on_set hi).2 (.inr hon), hd⟩
        · rcases List.mem_append.1 hy with hy | hy
          · have hno0 := (off' hno).1
            have hyl := pendL y hy hno0
            have hkind := (c.light (inDone y hy) hyl).1
            have hp := dr y hy x (List.mem_cons_self ..)
            have hr : ∀ t, x.2.2.dst = some t → t ∉ y.2.2.reads ∧ y.2.2.dst ≠ some t := fun t ht => ⟨fun e => hno0 (pre (hp.wr t ht (.inl e)).2), fun e => hno0 (pre (hp.wr t ht (.inr e)).2)⟩
            have hab := h.pend y hy hno0
            rcases hch with e | ⟨hmv, hch⟩
            · subst e
              exact hab.put hr (fun u hu => hu)
            · rcases hkind with hkp | hkr
              · exact hab.put hr (fun u hu => (pure_any hkp hu).2 H')
              · rcases hp.chk hcat hmv hkr hyl with hb | ⟨d, hd, hmem⟩
                · exact (hno0 (pre hb)).elim
                · exact AbsOk.of_chk hab hr hd (chks_mem hch hmem)
          · simp at hy; subst hy; exact (hno ((on_set hi).2 (.inl rfl))).elim
        · have hon0 : On l y.1 := by
            rcases (on_set hi).1 hon with e | hon
            · exact (nr y hy e).elim
            · exact hon
          exact keep hg (List.mem_cons_of_mem _ hy) hon0 (fun d hd => by rw [put_get h3 h.sz, if_neg (fl y hy hon0 d hd).2])
        · have g : ∀ u ∈ r, On (l.setIfInBounds x.1 true) u.1 → On l u.1 := fun u hu hon => by
            rcases (on_set hi).1 hon with e | hon
            · exact (nr u hu e).elim
            · exact hon
          exact h.fld y (List.mem_cons_of_mem _ hy) z (List.mem_cons_of_mem _ hz) (g y hy hon) (g z hz hon2)
      have hwp := h.wp
      simp only [List.map_cons, opsWp] at hwp
      unfold operWp at hwp
      rcases wanted_good (fun t ht => h.fr t (good t (List.mem_append_left _ ht))) h4 hwp with ⟨hw, hwp⟩ | ⟨hw, hwp⟩
      · rw [if_pos hw]
        obtain ⟨ev, hev, hcg⟩ := evs_good h.fr (op := x.2.2.op) (fun t ht => good t (List.mem_append_right _ ht))
        have hwp2 := opWp_congr (e' := ev) (fun y hy => (hcg y hy).symm) hwp
        cases hmv : x.2.2.op.isMov
        · exact .inl (op_sound h1 hrel hev hwp2 fun v cv H' φ' w' hk hg hv => fin v cv H' φ' w' hk.2 hg hv (.inr ⟨hmv, hk.1⟩))
        · refine .inl (op_sound h1 hrel hev (K := fun v H' => opsWp P (r.map (·.2.2)) K ⟨fput x.2.2.dst v st.fr, H'⟩ ∧ H' = st.H) ?_ fun v cv H' φ' w' hk hg hv => fin v cv H' φ' w' hk.1 hg hv (.inl hk.2))
          have hpu : x.2.2.op.pure = true := by cases hop : x.2.2.op <;> rw [hop] at hmv <;> first | rfl | cases hmv
          obtain ⟨v, H', hx, hk⟩ := opWp_out (light_nocall (.inl hpu)) hwp2
          have := (pure_any hpu hx).1
          subst this
          exact opWp_of_xop (light_nocall (.inl hpu)) hx ⟨hk.2, rfl⟩
      · rw [if_neg (by rw [hw]; exact Bool.false_ne_true)]
        exact fin (.tup []) undef st.H φ w hwp (Goes.refl hrel) vr_undef (.inl rfl)

theorem count_lt {p q : Nat → Bool} : ∀ {l : List Nat}, (∀ x ∈ l, q x = true → p x = true) → (∃ x ∈ l, p x = true ∧ q x = false) → l.countP q < l.countP p
  | [], _, h => by obtain ⟨x, hx, _⟩ := h; cases hx
  | y :: l, h, hx => by
    have hle : l.countP q ≤ l.countP p := List.countP_mono_left fun x hx => h x (List.mem_cons_of_mem _ hx)
    obtain ⟨x, hx, h1, h2⟩ := hx
    rcases List.mem_cons.1 hx with rfl | hx
    · rw [List.countP_cons, List.countP_cons, if_pos h1, if_neg (by rw [h2]; exact Bool.false_ne_true)]
      omega
    · have hlt := count_lt (l := l) (fun x hx => h x (List.mem_cons_of_mem _ hx)) ⟨x, hx, h1, h2⟩
      rw [List.countP_cons, List.countP_cons]
      have hy := h y (List.mem_cons_self ..)
      by_cases hq : q y = true
      · rw [if_pos hq, if_pos (hy hq)]; omega
      · rw [if_neg hq]; split <;> omega

/-- Whatever order is drawn. -/
theorem any_of_inv (c : Ctx P N ops as M) {Q : Exit → Act → World → Prop} (hq : ∀ st' φ' a' w', K st' → Goes φ0 base H0 w0 φ' st'.H w' → FR φ' N st'.fr a' → Q .normal a' w') :
    ∀ (fuel : Nat) (l : Array Bool) (a : Act) (w : World) (done rest : List Item) (st : St) (φ : Phi) (R : Nat → Nat), Inv P N ops as K φ0 base H0 w0 l a w done rest st φ R → (List.range ops.size).countP (fun i => !l.getD i false) ≤ fuel →
      wpAny P .any ops Q fuel l a w := by
  -- where none may come up, all have come up
  have full : ∀ {l : Array Bool}, l.size = ops.size → Region.ready .any ops l = [] → ∀ i, i < ops.size → On l i := fun {l} hs hr i => by
    induction i using Nat.strongRecOn with
    | _ i ih =>
      intro hi
      refine Classical.byContradiction fun hno => ?_
      have ho : ops[i]? = some ops[i] := Array.getElem?_eq_getElem hi
      have : i ∈ Region.ready .any ops l := mem_ready.2 ⟨?_, ops[i], ho, fun e he hb => ?_⟩
      · rw [hr] at this; cases this
      · have h1 : l.getD i false ≠ true := hno
        rw [Array.getD_eq_getD_getElem?] at h1 ⊢
        rw [Array.getElem?_eq_getElem (by omega)] at h1 ⊢
        simpa using h1
      · have hj : e.on ∈ dpre ops[i] := List.mem_map.2 ⟨e, List.mem_filter.2 ⟨by simpa using he, hb⟩, rfl⟩
        have hlt := c.back i _ ho e.on hj
        exact ih e.on hlt (by omega)
  have finish : ∀ {l : Array Bool} {a : Act} {w : World} {done rest : List Item} {st : St} {φ : Phi} {R : Nat → Nat}, Inv P N ops as K φ0 base H0 w0 l a w done rest st φ R → Region.ready .any ops l = [] → Q .normal a w := by
    intro l a w done rest st φ R h hr
    obtain ⟨done', rest', st', φ', h', hstop⟩ := advance c rest done st φ h
    have hall : ∀ x ∈ as, On l x.1 := fun x hx => by
      obtain ⟨o, ho, _⟩ := c.comp x hx
      exact full h.size hr x.1 (Array.getElem?_eq_some_iff.1 ho).1
    rcases hstop with e | ⟨x, r, e, _, hno⟩
    · subst e
      refine hq st' φ' a w h'.wp h'.goes ⟨h'.sz, h'.df, fun t => h'.fr t fun hb => ?_⟩
      rcases hb with ⟨y, hy, hno, _⟩ | ⟨y, hy, _⟩
      · exact hno (hall y (by rw [h'.split]; exact List.mem_append_left _ hy))
      · cases hy
    · subst e
      exact (hno (hall x (by rw [h'.split]; simp))).elim
  have step : ∀ {l : Array Bool} {a : Act} {w : World} {done rest : List Item} {st : St} {φ : Phi} {R : Nat → Nat} {i : Nat} {next : Act → World → Prop}, Inv P N ops as K φ0 base H0 w0 l a w done rest st φ R → i ∈ Region.ready .any ops l →
      (∀ a' w' done' rest' st' φ' R', Inv P N ops as K φ0 base H0 w0 (l.setIfInBounds i true) a' w' done' rest' st' φ' R' → next a' w') → wpOp P ops Q i next a w := by
    intro l a w done rest st φ R i next h hi hn
    obtain ⟨h0, o, ho, hp⟩ := mem_ready.1 hi
    obtain ⟨done', rest', st', φ', h', hstop⟩ := advance c rest done st φ h
    have hlt : i < l.size := by rw [h.size]; exact (Array.getElem?_eq_some_iff.1 ho).1
    refine inv_step c h' hstop (fun hon => ?_) ho (fun j hj => ?_) hn
    · unfold On at hon
      rw [Array.getD_eq_getD_getElem?, Array.getElem?_eq_getElem hlt] at hon h0
      simp at hon h0
      rw [hon] at h0
      cases h0
    · obtain ⟨e, he, rfl⟩ := List.mem_map.1 hj
      obtain ⟨he, hb⟩ := List.mem_filter.1 he
      exact hp e (by simpa using he) hb
  intro fuel
  induction fuel with
  | zero =>
    intro l a w done rest st φ R h hc
    have hr : Region.ready .any ops l = [] := by
      cases hrd : Region.ready .any ops l with
      | nil => rfl
      | cons i rs =>
        exfalso
        have hi : i ∈ Region.ready .any ops l := by rw [hrd]; exact List.mem_cons_self ..
        obtain ⟨h0, o, ho, _⟩ := mem_ready.1 hi
        have hlt : i < ops.size := (Array.getElem?_eq_some_iff.1 ho).1
        have : (List.range ops.size).countP (fun i => !l.getD i false) = 0 := by omega
        have h2 := List.countP_eq_zero.1 this i (List.mem_range.2 hlt)
        have hlt' : i < l.size := by rw [h.size]; exact hlt
        rw [Array.getD_eq_getD_getElem?, Array.getElem?_eq_getElem hlt'] at h0 h2
        simp at h0 h2
        rw [h2] at h0
        cases h0
    exact ⟨hr, finish h hr⟩
  | succ fuel ih =>
    intro l a w done rest st φ R h hc
    refine ⟨fun hr => finish h hr, fun i hi => step h hi fun a' w' done' rest' st' φ' R' h' => ih _ a' w' done' rest' st' φ' R' h' ?_⟩
    obtain ⟨h0, o, ho, _⟩ := mem_ready.1 hi
    have hlt : i < ops.size := (Array.getElem?_eq_some_iff.1 ho).1
    have hlt' : i < l.size := by rw [h.size]; exact hlt
    have : (List.range ops.size).countP (fun j => !(l.setIfInBounds i true).getD j false) < (List.range ops.size).countP (fun j => !l.getD j false) := by
      refine count_lt (fun j hj hq => ?_) ⟨i, List.mem_range.2 hlt, ?_, ?_⟩
      · simp only [Bool.not_eq_true'] at hq ⊢
        refine Classical.byContradiction fun hno => ?_
        have hon : On l j := by unfold On; simpa using hno
        have := (on_set hlt').2 (.inr hon : j = i ∨ On l j)
        unfold On at this
        rw [this] at hq
        cases hq
      · rw [Array.getD_eq_getD_getElem?, Array.getElem?_eq_getElem hlt'] at h0 ⊢
        simp at h0 ⊢
        exact h0
      · have := (on_set hlt').2 (.inl rfl : i = i ∨ On l i)
        unfold On at this
        rw [this]
        rfl
    omega

/-- Regions that draw their order. -/
theorem draw_sound (hm : P.follows .mixedOrders = true) : DrawSound P := by
  intro N id ops as hok φ base st a w hr hf K h Q hq
  unfold drawOk at hok
  simp only [Bool.and_eq_true, beq_iff_eq, decide_eq_true_eq] at hok
  obtain ⟨⟨⟨⟨⟨⟨k1, k2⟩, k3⟩, k4⟩, k5⟩, k6⟩, k7⟩ := hok
  have c : Ctx P N ops as (masks ops.toList []) := by
    refine ⟨k1, k2, fun x hx => ?_, fun x hx => List.all_eq_true.1 k4 x hx, pairs_of k5, fun i o ho j hj => ?_, masks_ok ops.toList [] (fun j => by simp) (fun i m o h => by simp at h) (fun j h => by simp at h), fun i hi => ?_, fun i hi => ?_⟩
    · have := List.all_eq_true.1 k3 x hx
      split at this
      · exact ⟨_, ‹_›, this⟩
      · cases this
    · have hmem : (o, i) ∈ ops.toList.zipIdx := by
        rw [List.mem_zipIdx_iff_getElem?]
        simpa using ho
      have := List.all_eq_true.1 (List.all_eq_true.1 k7 _ hmem) j hj
      simpa using this
    · have hlen : ∀ (l : List Oper) (acc : List Nat), (masks l acc).length = acc.length + l.length := by
        intro l
        induction l with
        | nil => intro acc; simp [masks]
        | cons o l ih => intro acc; simp [masks, ih]; omega
      have hl := hlen ops.toList []
      simp at hl
      exact ⟨_, List.getElem?_eq_getElem (by omega)⟩
    · have := List.all_eq_true.1 k6 i (List.mem_range.2 hi)
      obtain ⟨x, hx, h2⟩ := List.any_eq_true.1 this
      exact ⟨x, hx, by simpa using h2⟩
  refine wp_region_any hm ?_
  have hr' : Rel φ base st.H { w with drawn := w.drawn + 1 } := hr.congr rfl
  have hg : Goes φ base st.H w φ st.H { w with drawn := w.drawn + 1 } := ⟨hr', Nat.le_refl _, Ext.refl _, ⟨rfl, rfl, rfl, Nat.le_refl _, fun _ _ => rfl⟩, fun _ _ _ => rfl, fun _ hm => .inr hm, fun _ _ h => .inl h⟩
  have off : ∀ i, ¬ On (Array.replicate ops.size false) i := fun i hi => by
    unfold On at hi
    rw [Array.getD_eq_getD_getElem?, Array.getElem?_replicate] at hi
    split at hi <;> simp at hi
  refine any_of_inv c hq ops.size _ a _ [] as st φ (fun _ => 0) ⟨hr.base, rfl, by simp, fun i o _ hi => (off i hi).elim, h, fun x hx => (by cases hx), fun x _ hx => (off _ hx).elim, hg, hf.1, hf.2.1, fun t _ => hf.2.2 t, fun x hx => (by cases hx), fun x _ hx => (off _ hx).elim, fun x _ y _ hx => (off _ hx).elim⟩ ?_
  have := List.countP_le_length (p := fun i => !(Array.replicate ops.size false).getD i false) (l := List.range ops.size)
  simpa using this

end
end Go.Proofs.Ytmfiegjncfgohaa.Den
