/- The abstract calculus, part T: calls over a heap of one's own. -/
import Derived.Test.YtmfiegjncfgohaaDenS
namespace Go.Proofs.Ytmfiegjncfgohaa.Den
open Go.RowKit
set_option linter.unusedVariables false

/-! ### A call that sees some blocks only -/
def emb (cs : List Nat) (N b : Nat) : Nat := match cs[b]? with | some c => c | none => b - cs.length + N
def loc (cs : List Nat) (N c : Nat) : Option Nat := if c ∈ cs then some (cs.idxOf c) else if N ≤ c then some (c - N + cs.length) else none
section
variable {cs : List Nat} {N : Nat}
theorem loc_emb (hn : cs.Nodup) (hlt : ∀ c ∈ cs, c < N) (b : Nat) : loc cs N (emb cs N b) = some b := by
  unfold emb loc
  cases h : cs[b]? with
  | some c =>
    have hm : c ∈ cs := List.mem_of_getElem? h
    obtain ⟨hb, rfl⟩ := List.getElem?_eq_some_iff.1 h
    simp only [hm, if_true]
    congr 1
    exact hn.idxOf_getElem b hb
  | none =>
    have hb : cs.length ≤ b := List.getElem?_eq_none_iff.1 h
    have hm : b - cs.length + N ∉ cs := fun hm => by have := hlt _ hm; omega
    simp only [hm, if_false]
    rw [if_pos (by omega)]
    congr 1
    omega
theorem emb_loc {c b : Nat} (h : loc cs N c = some b) : emb cs N b = c := by
  unfold loc at h
  split at h
  · rename_i hm
    obtain rfl := Option.some.inj h
    unfold emb
    have hl := List.idxOf_lt_length_of_mem hm
    rw [List.getElem?_eq_getElem hl, List.getElem_idxOf]
  · split at h
    · obtain rfl := Option.some.inj h
      unfold emb
      rw [List.getElem?_eq_none (by omega)]
      simp
      omega
    · cases h
theorem loc_none {c : Nat} (h : loc cs N c = none) : c ∉ cs ∧ c < N := by
  unfold loc at h
  split at h
  · cases h
  · split at h
    · cases h
    · exact ⟨‹_›, by omega⟩
theorem loc_old {c b : Nat} (h : loc cs N c = some b) (hc : c < N) : b < cs.length ∧ cs[b]? = some c := by
  unfold loc at h
  split at h
  · rename_i hm
    obtain rfl := Option.some.inj h
    have hl := List.idxOf_lt_length_of_mem hm
    exact ⟨hl, by rw [List.getElem?_eq_getElem hl, List.getElem_idxOf]⟩
  · rw [if_neg (by omega)] at h; cases h
theorem emb_big {b : Nat} (h : cs.length ≤ b) : N ≤ emb cs N b := by
  unfold emb
  rw [List.getElem?_eq_none h]
  exact Nat.le_add_left _ _
end
/-- The heap behind such a call. -/
def back (cs : List Nat) (l : List (Option Blk)) (G : AHeap) : AHeap :=
  ⟨fun c => match loc cs l.length c with | some b => (G.get b).map (Blk.ren (emb cs l.length)) | none => (l[c]?).join, l.length + (G.nx - cs.length), none⟩

theorem blk_ren {φ ψ : Phi} {base : Nat} {w : World} {p : Place} {k : Blk} {ρ : Nat → Nat} (h : ∀ x v, SR φ (x.ren ρ) v → SR ψ x v) (ok : BlkOk φ base w p (k.ren ρ)) : BlkOk ψ base w p k where
  sz := ok.sz
  rows := fun i r hr => by
    obtain ⟨hl, hc⟩ := ok.rows i (r.map (SV.ren ρ)) (by simp [Blk.ren, hr])
    have hl : (r.map (SV.ren ρ)).length = k.sz := hl
    refine ⟨by simpa using hl, fun j x hx => ?_⟩
    obtain ⟨v, hv, hs⟩ := hc j (x.ren ρ) (by simp [hx])
    exact ⟨v, hv, h x v hs⟩
  own := by
    rcases ok.own with o | o
    · exact .inl ⟨by simpa [Blk.ren] using o.1, o.2⟩
    · exact .inr ⟨o.1, o.2.1, by simpa [Blk.ren] using o.2.2.1, o.2.2.2⟩
theorem blk_unren {φ ψ : Phi} {base : Nat} {w : World} {p : Place} {k : Blk} {ρ : Nat → Nat} (h : ∀ r ∈ k.rows, ∀ x ∈ r, ∀ v, SR φ x v → SR ψ (x.ren ρ) v) (ok : BlkOk φ base w p k) : BlkOk ψ base w p (k.ren ρ) where
  sz := ok.sz
  rows := fun i r hr => by
    simp only [Blk.ren, List.getElem?_map, Option.map_eq_some_iff] at hr
    obtain ⟨r0, hr0, rfl⟩ := hr
    obtain ⟨hl, hc⟩ := ok.rows i r0 hr0
    refine ⟨by show (r0.map _).length = k.sz; simpa using hl, fun j x hx => ?_⟩
    simp only [List.getElem?_map, Option.map_eq_some_iff] at hx
    obtain ⟨x0, hx0, rfl⟩ := hx
    obtain ⟨v, hv, hs⟩ := hc j x0 hx0
    exact ⟨v, hv, h r0 (List.mem_of_getElem? hr0) x0 (List.mem_of_getElem? hx0) v hs⟩
  own := by
    rcases ok.own with o | o
    · exact .inl ⟨by simpa [Blk.ren] using o.1, o.2⟩
    · exact .inr ⟨o.1, o.2.1, by simpa [Blk.ren] using o.2.2.1, o.2.2.2⟩
theorem hp_some {l : List (Option Blk)} {b : Nat} {k : Blk} (h : (hp l).get b = some k) : l[b]? = some (some k) := by
  have : (l[b]?).join = some k := h
  cases hx : l[b]? with
  | none => rw [hx] at this; cases this
  | some y => rw [hx] at this; exact congrArg some this
theorem hp_of {l : List (Option Blk)} {b : Nat} {k : Blk} (h : l[b]? = some (some k)) : (hp l).get b = some k := by
  rw [hp_get, h]; rfl

theorem Spec.frame {P : Program} {f : FuncId} {args args0 : List AV} {l g : List (Option Blk)} (cs : List Nat) {K K0 : AV → AHeap → Prop} (h : Spec P f args0 (hp g) K0) (ha : args = args0.map (AV.ren (emb cs l.length)))
    (hn : cs.Nodup) (hlt : ∀ c ∈ cs, c < l.length) (hlen : g.length = cs.length) (hG : ∀ (j : Nat) k c, g[j]? = some (some k) → cs[j]? = some c → l[c]? = some (some (k.ren (emb cs l.length))))
    (hk : ∀ v G, K0 v G → cs.length ≤ G.nx → K (v.ren (emb cs l.length)) (back cs l G)) : Spec P f args (hp l) K := by
  intro φ base w cargs hr hargs
  subst ha
  generalize hρ : emb cs l.length = ρ at *
  let ψ : Phi := ⟨fun b => if b < cs.length then φ (ρ b) else none, φ.fz⟩
  have hψ : ∀ b p, φ (ρ b) = some p → ψ b = some p := fun b p h => by
    show (if b < cs.length then φ (ρ b) else none) = some p
    rcases Nat.lt_or_ge b cs.length with hb | hb
    · rw [if_pos hb]; exact h
    · have : φ (ρ b) = none := (hr.new (ρ b) (by rw [← hρ]; exact emb_big hb)).2
      rw [this] at h; cases h
  have ψo : ∀ {b p}, ψ b = some p → b < cs.length ∧ φ (ρ b) = some p := fun {b p} h => by
    have h : (if b < cs.length then φ (ρ b) else none) = some p := h
    split at h
    · exact ⟨‹_›, h⟩
    · cases h
  have hren : ∀ x v, SR φ (x.ren ρ) v → SR ψ x v := fun x v => sr_ren (φ := φ) (ψ := ψ) (fun _ _ h => h) hψ
  have at_ : ∀ {b k}, (hp g).get b = some k → ∃ c, cs[b]? = some c ∧ ρ b = c ∧ (hp l).get c = some (k.ren ρ) := fun {b k} hb => by
    have hb := hp_some hb
    have hbl : b < cs.length := by rw [← hlen]; exact (List.getElem?_eq_some_iff.1 hb).1
    refine ⟨cs[b], List.getElem?_eq_getElem hbl, ?_, hp_of (hG b k _ hb (List.getElem?_eq_getElem hbl))⟩
    rw [← hρ]
    unfold emb
    rw [List.getElem?_eq_getElem hbl]
  have mineψ : ∀ r, Mine ψ (hp g) r → ∃ b c k p, cs[b]? = some c ∧ (hp l).get c = some k ∧ φ c = some p ∧ p.cap ≠ 0 ∧ p.blk = r := fun r ⟨b, k, p, h1, h2, h3, h4⟩ => by
    obtain ⟨c, q1, q2, q3⟩ := at_ h1
    exact ⟨b, c, _, p, q1, q3, by rw [← q2]; exact (ψo h2).2, h3, h4⟩
  have mineφ : ∀ r, Mine ψ (hp g) r → Mine φ (hp l) r := fun r h => by
    obtain ⟨b, c, k, p, q1, q2, q3, q4, q5⟩ := mineψ r h
    exact ⟨c, k, p, q2, q3, q4, q5⟩
  have hrel : Rel ψ base (hp g) w := by
    refine ⟨fun b k hb => ?_, fun b b' k k' p p' hb hb' hp1 hp2 n1 n2 e => ?_, fun b hb => ?_, hr.base, fun r o ho => ⟨(hr.fz r o ho).1, fun hm => (hr.fz r o ho).2 (mineφ r hm)⟩, nofull rfl⟩
    · obtain ⟨c, q1, q2, q3⟩ := at_ hb
      obtain ⟨p, hp1, ok⟩ := hr.blk c _ q3
      exact ⟨p, hψ b p (by rw [q2]; exact hp1), blk_ren hren ok⟩
    · obtain ⟨c, q1, q2, q3⟩ := at_ hb
      obtain ⟨c', q1', q2', q3'⟩ := at_ hb'
      have := hr.inj c c' _ _ p p' q3 q3' (by rw [← q2]; exact (ψo hp1).2) (by rw [← q2']; exact (ψo hp2).2) n1 n2 e
      subst this
      have e1 := loc_emb hn hlt b
      have e2 := loc_emb hn hlt b'
      rw [hρ, q2] at e1
      rw [hρ, q2', e1] at e2
      exact Option.some.inj e2
    · have hb : g.length ≤ b := hb
      refine ⟨by rw [hp_get, List.getElem?_eq_none hb]; rfl, ?_⟩
      show (if b < cs.length then φ (ρ b) else none) = none
      rw [if_neg (by omega)]
  refine (h ψ base w cargs hrel (vrs_ren hren hargs)).mono fun e w' ⟨v, cv, G, ψ', he, hk0, hg, hv⟩ => ?_
  have hGn : cs.length ≤ G.nx := by rw [← hlen]; exact hg.nx
  let φ' : Phi := ⟨fun c => match loc cs l.length c with | some b => ψ' b | none => φ c, ψ'.fz⟩
  have pl : ∀ {c b}, loc cs l.length c = some b → φ' c = ψ' b := fun {c b} h => by show (match loc cs l.length c with | some b => ψ' b | none => φ c) = _; rw [h]
  have pn : ∀ {c}, loc cs l.length c = none → φ' c = φ c := fun {c} h => by show (match loc cs l.length c with | some b => ψ' b | none => φ c) = _; rw [h]
  have gl : ∀ {c b}, loc cs l.length c = some b → (back cs l G).get c = (G.get b).map (Blk.ren ρ) := fun {c b} h => by show (match loc cs l.length c with | some b => (G.get b).map (Blk.ren (emb cs l.length)) | none => (l[c]?).join) = _; rw [h, hρ]
  have gn : ∀ {c}, loc cs l.length c = none → (back cs l G).get c = (hp l).get c := fun {c} h => by show (match loc cs l.length c with | some b => (G.get b).map (Blk.ren (emb cs l.length)) | none => (l[c]?).join) = _; rw [h]; rfl
  have hext : Ext φ φ' := ⟨fun c p hc => by
    have hcl : c < l.length := Nat.lt_of_not_le fun hle => by rw [(hr.new c hle).2] at hc; cases hc
    cases hl : loc cs l.length c with
    | none => rw [pn hl]; exact hc
    | some b =>
      rw [pl hl]
      obtain ⟨h1, h2⟩ := loc_old hl hcl
      refine hg.ext.pl b p (hψ b p ?_)
      have := emb_loc hl
      rw [hρ] at this
      rw [this]; exact hc, hg.ext.fz⟩
  have hunren : ∀ x v, SR ψ' x v → SR φ' (x.ren ρ) v := fun x v => sr_unren (φ := ψ') (ψ := φ') (fun _ _ h => h) fun b p hb => by
    have := loc_emb hn hlt b
    rw [hρ] at this
    rw [pl this]; exact hb
  have old : ∀ {c k p}, (hp l).get c = some k → φ c = some p → p.cap ≠ 0 → c ∉ cs → ¬ Mine ψ (hp g) p.blk := fun {c k p} hc hp1 hn1 hcs hm => by
    obtain ⟨b, c', k', p', q1, q2, q3, q4, q5⟩ := mineψ _ hm
    have := hr.inj c c' k k' p p' hc q2 hp1 q3 hn1 q4 q5.symm
    subst this
    exact hcs (List.mem_of_getElem? q1)
  have mine' : ∀ r, Mine φ' (back cs l G) r → Mine ψ' G r ∨ ∃ c k p, c ∉ cs ∧ (hp l).get c = some k ∧ φ c = some p ∧ p.cap ≠ 0 ∧ p.blk = r := fun r ⟨c, k, p, h1, h2, h3, h4⟩ => by
    cases hl : loc cs l.length c with
    | none =>
      rw [gn hl] at h1
      rw [pn hl] at h2
      exact .inr ⟨c, k, p, (loc_none hl).1, h1, h2, h3, h4⟩
    | some b =>
      rw [gl hl] at h1
      rw [pl hl] at h2
      obtain ⟨k0, hk0, rfl⟩ := Option.map_eq_some_iff.1 h1
      exact .inl ⟨b, k0, p, hk0, h2, h3, h4⟩
  refine ⟨v.ren ρ, cv, back cs l G, φ', he, hk v G hk0 hGn, ⟨⟨fun c k hc => ?_, fun c c' k k' p p' hc hc' hp1 hp2 n1 n2 e => ?_, fun c hc => ?_, hg.rel.base, fun r o ho => ⟨(hg.rel.fz r o ho).1, fun hm => ?_⟩, nofull rfl⟩, by show l.length ≤ l.length + _; omega, hext, hg.below, fun r hr1 hm => hg.kept r hr1 (fun hm' => hm (mineφ r hm')), fun r hm => ?_, fun r o ho => (hg.fzn r o ho).imp id fun h => h.imp id (mineφ r)⟩, vr_unren hunren hv⟩
  · cases hl : loc cs l.length c with
    | none =>
      rw [gn hl] at hc
      obtain ⟨p, hp1, ok⟩ := hr.blk c k hc
      exact ⟨p, hext.pl c p hp1, ok.move hext fun hcap => hg.kept _ (hr.blk_lt hc hp1 hcap).1 (old hc hp1 hcap (loc_none hl).1)⟩
    | some b =>
      rw [gl hl] at hc
      obtain ⟨k0, hk0', rfl⟩ := Option.map_eq_some_iff.1 hc
      obtain ⟨p, hp1, ok⟩ := hg.rel.blk b k0 hk0'
      exact ⟨p, by rw [pl hl]; exact hp1, blk_unren (fun r _ x _ v => hunren x v) ok⟩
  · have two : ∀ {c : Nat} {k : Blk} {p p' : Place}, loc cs l.length c = none → (hp l).get c = some k → φ c = some p → p.cap ≠ 0 → Mine ψ' G p'.blk → p.blk = p'.blk → False := fun {c k p p'} hl hc hp1 hn1 hm e => by
      have hlt1 := (hr.blk_lt hc hp1 hn1).1
      rcases hg.mine _ hm with h | h
      · omega
      · rw [← e] at h
        exact old hc hp1 hn1 (loc_none hl).1 h
    cases hl : loc cs l.length c with
    | none =>
      rw [gn hl] at hc
      rw [pn hl] at hp1
      cases hl' : loc cs l.length c' with
      | none =>
        rw [gn hl'] at hc'
        rw [pn hl'] at hp2
        exact hr.inj c c' k k' p p' hc hc' hp1 hp2 n1 n2 e
      | some b' =>
        rw [gl hl'] at hc'
        rw [pl hl'] at hp2
        obtain ⟨k0, hk0', rfl⟩ := Option.map_eq_some_iff.1 hc'
        exact (two hl hc hp1 n1 ⟨b', k0, p', hk0', hp2, n2, rfl⟩ e).elim
    | some b =>
      rw [gl hl] at hc
      rw [pl hl] at hp1
      obtain ⟨k0, hk0', rfl⟩ := Option.map_eq_some_iff.1 hc
      cases hl' : loc cs l.length c' with
      | none =>
        rw [gn hl'] at hc'
        rw [pn hl'] at hp2
        exact (two hl' hc' hp2 n2 ⟨b, k0, p, hk0', hp1, n1, rfl⟩ e.symm).elim
      | some b' =>
        rw [gl hl'] at hc'
        rw [pl hl'] at hp2
        obtain ⟨k1, hk1', rfl⟩ := Option.map_eq_some_iff.1 hc'
        have := hg.rel.inj b b' k0 k1 p p' hk0' hk1' hp1 hp2 n1 n2 e
        subst this
        have e1 := emb_loc hl
        have e2 := emb_loc hl'
        rw [← e1, ← e2]
  · have hc : l.length + (G.nx - cs.length) ≤ c := hc
    have hm : c ∉ cs := fun hm => by have := hlt c hm; omega
    have hl : loc cs l.length c = some (c - l.length + cs.length) := by
      unfold loc
      rw [if_neg hm, if_pos (by omega)]
    have := hg.rel.new (c - l.length + cs.length) (by omega)
    exact ⟨by rw [gl hl, this.1]; rfl, by rw [pl hl]; exact this.2⟩
  · rcases mine' r hm with hm | ⟨c, k, p, q1, q2, q3, q4, rfl⟩
    · exact (hg.rel.fz r o ho).2 hm
    · have hlt1 := (hr.blk_lt q2 q3 q4).1
      rcases hg.fzn _ o ho with h | h | h
      · exact (hr.fz _ o h).2 ⟨c, k, p, q2, q3, q4, rfl⟩
      · omega
      · exact old q2 q3 q4 q1 h
  · rcases mine' r hm with hm | ⟨c, k, p, q1, q2, q3, q4, q5⟩
    · exact (hg.mine r hm).imp id (mineφ r)
    · exact .inr ⟨c, k, p, q2, q3, q4, q5⟩

/-! ### A call that sees no block: its arguments are laid down for good, or are as if they were while it runs -/
inductive AVsLe (R : SV → SV → Prop) : List AV → List AV → Prop
  | nil : AVsLe R [] []
  | cons {x y l m} : AVLe R x y → AVsLe R l m → AVsLe R (x :: l) (y :: m)
theorem AVsLe.vrs {R : SV → SV → Prop} {φ φ' : Phi} (h : ∀ x x' v, R x x' → SR φ x v → SR φ' x' v) {l m : List AV} (hl : AVsLe R l m) : ∀ {vs : List Value}, VRs φ l vs → VRs φ' m vs := by
  induction hl with
  | nil => intro vs hs; cases hs; exact .nil
  | cons hr _ ih => intro vs hs; cases hs with | cons hx hs => exact .cons (hr.vr h hx) (ih hs)
/-- What is lent: all of a heap. -/
abbrev Lent (l : List (Option Blk)) : SV → SV → Prop := Wk [] (List.range l.length) (hp l)

/-- Neither names nor slices. -/
def SV.scalar : SV → Bool
  | .int _ _ => true
  | .bool _ => true
  | .str _ => true
  | .nils => true
  | .nilp => true
  | .nilf => true
  | _ => false
/-- No slices that are laid down for good. -/
def SV.plain : SV → Bool
  | .lst _ _ => false
  | .fptr _ _ => false
  | _ => true
theorem sr_unren_plain {φ ψ : Phi} {ρ : Nat → Nat} (hp : ∀ b p, φ b = some p → ψ (ρ b) = some p) {x : SV} (hx : x.plain = true) {v : Value} (h : SR φ x v) : SR ψ (x.ren ρ) v := by
  cases x <;> first | (cases hx; done) | skip
  case ptr b i j => obtain ⟨a, e, p, h1, h2⟩ := h; exact ⟨a, e, p, hp b p h1, h2⟩
  case sl b i n c => obtain ⟨a, c', p, e, h1, h2, h3, h4, h5⟩ := h; exact ⟨a, c', p, e, h1, h2, h3, hp b p h4, h5⟩
  case fn f cs =>
    obtain ⟨a, e, h⟩ := h
    refine ⟨a, e, ?_⟩
    clear e
    generalize a.toList = vs at h
    clear hx
    induction cs generalizing vs with
    | nil => cases h; exact .nil
    | cons c cs ih =>
      obtain ⟨b, i, j⟩ := c
      cases h with
      | cons hx hr => obtain ⟨p, h1, h2⟩ := hx; exact .cons ⟨p, hp b p h1, h2⟩ (ih _ hr)
  all_goals exact h
def AV.all (p : SV → Bool) : AV → Bool
  | .no => true
  | .s x => p x
  | .agg l => l.all p
  | .tup l => l.all fun y => match y with | .no => true | .s x => p x | .agg l => l.all p | .tup _ => false
theorem vr0_plain {φ ψ : Phi} {ρ : Nat → Nat} (h : ∀ x v, SV.plain x = true → SR φ x v → SR ψ (x.ren ρ) v) {x : AV} {v : Value} (hx : (match x with | .no => true | .s x => x.plain | .agg l => l.all SV.plain | .tup _ => false) = true) (k : VR0 φ x v) : VR0 ψ (x.ren0 ρ) v := by
  cases x with
  | no => trivial
  | s x => exact h _ _ hx k
  | agg l =>
    obtain ⟨cs, e, hs⟩ := k
    refine ⟨cs, e, ?_⟩
    clear e
    generalize cs.toList = vs at hs
    induction hs with
    | nil => exact .nil
    | cons hy _ ih =>
      simp only [List.all_cons, Bool.and_eq_true] at hx
      exact .cons (h _ _ hx.1 hy) (ih hx.2)
  | tup l => exact k
theorem vrs0_plain {φ ψ : Phi} {ρ : Nat → Nat} (h : ∀ x v, SV.plain x = true → SR φ x v → SR ψ (x.ren ρ) v) : ∀ {l : List AV} {us : List Value}, (l.all fun y => match y with | .no => true | .s x => SV.plain x | .agg l => l.all SV.plain | .tup _ => false) = true → VRs0 φ l us → VRs0 ψ (l.map (AV.ren0 ρ)) us
  | [], _, _, hs => by cases hs; exact .nil
  | y :: l, _, hx, hs => by
    cases hs with
    | cons hy hs =>
      simp only [List.all_cons, Bool.and_eq_true] at hx
      exact .cons (vr0_plain h hx.1 hy) (vrs0_plain h hx.2 hs)
theorem vr_plain {φ ψ : Phi} {ρ : Nat → Nat} (h : ∀ x v, SV.plain x = true → SR φ x v → SR ψ (x.ren ρ) v) {x : AV} {v : Value} (hx : x.all SV.plain = true) (k : VR φ x v) : VR ψ (x.ren ρ) v := by
  cases x with
  | no => trivial
  | s x => exact h _ _ hx k
  | agg l => exact vr0_plain (x := .agg l) h hx k
  | tup l =>
    obtain ⟨vs, e, hs⟩ := k
    exact ⟨vs, e, vrs0_plain h hx hs⟩
theorem sr_scalar {φ ψ : Phi} {x : SV} {v : Value} (hx : SV.scalar x = true) (hs : SR ψ x v) : SR φ x v := by cases x <;> first | exact hs | (cases hx; done)
theorem srs_scalar {φ ψ : Phi} : ∀ {l : List SV} {vs : List Value}, l.all SV.scalar = true → SRs ψ l vs → SRs φ l vs
  | [], _, _, hs => by cases hs; exact .nil
  | y :: l, _, hl, hs => by
    cases hs with
    | cons hy hs =>
      simp only [List.all_cons, Bool.and_eq_true] at hl
      exact .cons (sr_scalar hl.1 hy) (srs_scalar hl.2 hs)
theorem vrs0_scalar {φ ψ : Phi} : ∀ {l : List AV} {us : List Value}, (l.all fun y => match y with | .no => true | .s x => SV.scalar x | .agg l => l.all SV.scalar | .tup _ => false) = true → VRs0 ψ l us → VRs0 φ l us
  | [], _, _, hs => by cases hs; exact .nil
  | y :: l, _, hx, hs => by
    cases hs with
    | cons hy hs =>
      simp only [List.all_cons, Bool.and_eq_true] at hx
      refine .cons ?_ (vrs0_scalar hx.2 hs)
      cases y with
      | no => trivial
      | s x => exact sr_scalar (φ := φ) hx.1 hy
      | agg m => obtain ⟨a, e1, hs⟩ := hy; exact ⟨a, e1, srs_scalar hx.1 hs⟩
      | tup m => exact hy
theorem vr_scalar {φ ψ : Phi} {x : AV} {v : Value} (hx : x.all SV.scalar = true) (k : VR ψ x v) : VR φ x v := by
  cases x with
  | no => trivial
  | s x => exact sr_scalar (φ := φ) hx k
  | agg m => obtain ⟨a, e1, hs⟩ := k; exact ⟨a, e1, srs_scalar hx hs⟩
  | tup l =>
    obtain ⟨vs, e, hs⟩ := k
    exact ⟨vs, e, vrs0_scalar hx hs⟩

theorem lentH (l : List (Option Blk)) : WkH 0 (hp l) (hp []) (Lent l) :=
  canonH rfl (fun j hj => absurd hj (Nat.not_lt_zero j)) (fun j k' o h => by simp at h) List.nodup_nil (fun b _ => List.not_mem_nil)

theorem Spec.lend {P : Program} {f : FuncId} {args args0 : List AV} {l : List (Option Blk)} {K K0 : AV → AHeap → Prop} (h : Spec P f args0 (hp []) K0) (ha : AVsLe (Lent l) args args0)
    (hk : ∀ v G, K0 v G → ∃ bs, G = hp bs ∧ v.all SV.plain = true ∧ (∀ k, some k ∈ bs → ∀ r ∈ k.rows, ∀ x ∈ r, SV.plain x = true) ∧ K (v.ren (emb [] l.length)) (back [] l G)) : Spec P f args (hp l) K := by
  intro φ base w cargs hr hargs
  obtain ⟨ψ, hrel, hR, _, _, _⟩ := lentH l φ base w hr
  refine (h ψ base w cargs hrel (ha.vrs hR hargs)).mono fun e w' ⟨v, cv, G, ψ', he, hk0, hg, hv⟩ => ?_
  obtain ⟨bs, rfl, hvp, hbp, hK⟩ := hk v G hk0
  have hno : ∀ r, ¬ Mine ψ (hp []) r := fun r ⟨b, k, p, h1, _⟩ => by simp [hp_get] at h1
  have hkept : ∀ r, r < w.heap.size → w'.heap[r]? = w.heap[r]? := fun r hr1 => hg.kept r hr1 (hno r)
  have hnew : ∀ r, Mine ψ' (hp bs) r → w.heap.size ≤ r := fun r hm => (hg.mine r hm).resolve_right (hno r)
  let φ' : Phi := ⟨fun c => if c < l.length then φ c else ψ' (c - l.length), φ.fz⟩
  have p1 : ∀ {c}, c < l.length → φ' c = φ c := fun {c} h => if_pos h
  have p2 : ∀ {c}, ¬ c < l.length → φ' c = ψ' (c - l.length) := fun {c} h => if_neg h
  have hext : Ext φ φ' := ⟨fun c p hc => by
    have hcl : c < l.length := Nat.lt_of_not_le fun hle => by rw [(hr.new c hle).2] at hc; cases hc
    rw [p1 hcl]; exact hc, fun _ _ h => h⟩
  have hemb : ∀ b, emb [] l.length b = b + l.length := fun b => by unfold emb; simp
  have hun : ∀ x v, SV.plain x = true → SR ψ' x v → SR φ' (x.ren (emb [] l.length)) v := fun x v hx => sr_unren_plain (fun b p hb => by rw [hemb, p2 (by omega), Nat.add_sub_cancel]; exact hb) hx
  have hloc : ∀ c, loc [] l.length c = if l.length ≤ c then some (c - l.length) else none := fun c => by unfold loc; simp
  have g1 : ∀ {c}, c < l.length → (back [] l (hp bs)).get c = (hp l).get c := fun {c} h => by
    show (match loc [] l.length c with | some b => _ | none => _) = _
    rw [hloc, if_neg (by omega)]; rfl
  have g2 : ∀ {c}, ¬ c < l.length → (back [] l (hp bs)).get c = ((hp bs).get (c - l.length)).map (Blk.ren (emb [] l.length)) := fun {c} h => by
    show (match loc [] l.length c with | some b => _ | none => _) = _
    rw [hloc, if_pos (by omega)]
  have mine' : ∀ r, Mine φ' (back [] l (hp bs)) r → Mine φ (hp l) r ∨ Mine ψ' (hp bs) r := fun r ⟨c, k, p, h1, h2, h3, h4⟩ => by
    by_cases hc : c < l.length
    · rw [g1 hc] at h1; rw [p1 hc] at h2; exact .inl ⟨c, k, p, h1, h2, h3, h4⟩
    · rw [g2 hc] at h1; rw [p2 hc] at h2
      obtain ⟨k0, hk0', rfl⟩ := Option.map_eq_some_iff.1 h1
      exact .inr ⟨_, k0, p, hk0', h2, h3, h4⟩
  refine ⟨v.ren (emb [] l.length), cv, back [] l (hp bs), φ', he, hK, ⟨⟨fun c k hc => ?_, fun c c' k k' p p' hc hc' hp1 hp2 n1 n2 e => ?_, fun c hc => ?_, hg.rel.base, fun r o ho => ?_, nofull rfl⟩, by show l.length ≤ l.length + _; omega, hext, hg.below, fun r hr1 _ => hkept r hr1, fun r hm => ?_, fun r o ho => .inl ho⟩, vr_plain hun hvp hv⟩
  · by_cases hcl : c < l.length
    · rw [g1 hcl] at hc
      obtain ⟨p, hp1, ok⟩ := hr.blk c k hc
      exact ⟨p, hext.pl c p hp1, ok.move hext fun hcap => hkept _ (hr.blk_lt hc hp1 hcap).1⟩
    · rw [g2 hcl] at hc
      obtain ⟨k0, hk0', rfl⟩ := Option.map_eq_some_iff.1 hc
      obtain ⟨p, hp1, ok⟩ := hg.rel.blk _ k0 hk0'
      exact ⟨p, by rw [p2 hcl]; exact hp1, blk_unren (fun r hr x hx v => hun x v (hbp k0 (List.mem_of_getElem? (hp_some hk0')) r hr x hx)) ok⟩
  · by_cases hcl : c < l.length <;> by_cases hcl' : c' < l.length
    · rw [g1 hcl] at hc; rw [g1 hcl'] at hc'; rw [p1 hcl] at hp1; rw [p1 hcl'] at hp2
      exact hr.inj c c' k k' p p' hc hc' hp1 hp2 n1 n2 e
    · rw [g1 hcl] at hc; rw [g2 hcl'] at hc'; rw [p1 hcl] at hp1; rw [p2 hcl'] at hp2
      obtain ⟨k0, hk0', rfl⟩ := Option.map_eq_some_iff.1 hc'
      have := hnew _ ⟨_, k0, p', hk0', hp2, n2, rfl⟩
      have := (hr.blk_lt hc hp1 n1).1
      omega
    · rw [g2 hcl] at hc; rw [g1 hcl'] at hc'; rw [p2 hcl] at hp1; rw [p1 hcl'] at hp2
      obtain ⟨k0, hk0', rfl⟩ := Option.map_eq_some_iff.1 hc
      have := hnew _ ⟨_, k0, p, hk0', hp1, n1, rfl⟩
      have := (hr.blk_lt hc' hp2 n2).1
      omega
    · rw [g2 hcl] at hc; rw [g2 hcl'] at hc'; rw [p2 hcl] at hp1; rw [p2 hcl'] at hp2
      obtain ⟨k0, hk0', rfl⟩ := Option.map_eq_some_iff.1 hc
      obtain ⟨k1, hk1', rfl⟩ := Option.map_eq_some_iff.1 hc'
      have := hg.rel.inj _ _ k0 k1 p p' hk0' hk1' hp1 hp2 n1 n2 e
      omega
  · have hc : l.length + (bs.length - 0) ≤ c := hc
    have := hg.rel.new (c - l.length) (by show bs.length ≤ _; omega)
    exact ⟨by rw [g2 (by omega), this.1]; rfl, by rw [p2 (by omega)]; exact this.2⟩
  · obtain ⟨h1, h2⟩ := hr.fz r o ho
    have hlt := (Array.getElem?_eq_some_iff.1 h1).1
    refine ⟨by rw [hkept r hlt]; exact h1, fun hm => ?_⟩
    rcases mine' r hm with hm | hm
    · exact h2 hm
    · have := hnew r hm; omega
  · rcases mine' r hm with hm | hm
    · exact .inr hm
    · exact .inl (hnew r hm)

/-- .. that tells something and leaves nothing. -/
theorem Spec.obs {P : Program} {f : FuncId} {args args0 : List AV} {l : List (Option Blk)} {K : AV → AHeap → Prop} {v0 : AV} (h : Spec P f args0 (hp []) fun v _ => v = v0) (ha : AVsLe (Lent l) args args0) (hv : v0.all SV.scalar = true) (hk : K v0 (hp l)) : Spec P f args (hp l) K := by
  intro φ base w cargs hr hargs
  obtain ⟨ψ, hrel, hR, _, _, _⟩ := lentH l φ base w hr
  refine (h ψ base w cargs hrel (ha.vrs hR hargs)).mono fun e w' ⟨v, cv, G, ψ', he, hk0, hg, hvr⟩ => ?_
  subst hk0
  have hno : ∀ r, ¬ Mine ψ (hp []) r := fun r ⟨b, k, p, h1, _⟩ => by simp [hp_get] at h1
  have hkept : ∀ r, r < w.heap.size → w'.heap[r]? = w.heap[r]? := fun r hr1 => hg.kept r hr1 (hno r)
  refine ⟨v, cv, hp l, φ, he, hk, ⟨⟨fun c k hc => ?_, hr.inj, hr.new, hg.rel.base, fun r o ho => ?_, nofull rfl⟩, Nat.le_refl _, Ext.refl _, hg.below, fun r hr1 _ => hkept r hr1, fun r hm => .inr hm, fun r o ho => .inl ho⟩, ?_⟩
  · obtain ⟨p, hp1, ok⟩ := hr.blk c k hc
    exact ⟨p, hp1, ok.move (Ext.refl _) fun hcap => hkept _ (hr.blk_lt hc hp1 hcap).1⟩
  · obtain ⟨h1, h2⟩ := hr.fz r o ho
    exact ⟨by rw [hkept r (Array.getElem?_eq_some_iff.1 h1).1]; exact h1, h2⟩
  · exact vr_scalar hv hvr
end Go.Proofs.Ytmfiegjncfgohaa.Den
