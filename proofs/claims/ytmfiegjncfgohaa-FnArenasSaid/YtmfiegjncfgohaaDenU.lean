/- The abstract calculus, part U: lists of blocks behind a call; nil or not; entering a law. -/
import Derived.Test.YtmfiegjncfgohaaDenT
import Derived.Deep.Slices
import Derived.ChangeSame
import Derived.ProofKit
import Derived.OpenShut
import Derived.ChangeOld
import Derived.Carry
import Derived.SizedLaws
namespace Go.Proofs.Ytmfiegjncfgohaa.Den
open Go.RowKit
set_option linter.unusedVariables false

theorem Spec.mono_hp {P : Program} {f : FuncId} {args : List AV} {H : AHeap} {K K' : AV → AHeap → Prop} (h : Spec P f args H K) (hk : ∀ v H', K v H' → K' v H') : Spec P f args H K' := h.mono hk

/-- What a call writes into blocks that were there. -/
def wr : List (Option Blk) → List Nat → List (Option Blk) → List (Option Blk)
  | l, c :: cs, x :: xs => wr (l.set c x) cs xs
  | l, _, _ => l
theorem wr_len : ∀ (cs : List Nat) (l xs : List (Option Blk)), (wr l cs xs).length = l.length
  | [], l, xs => by cases xs <;> rfl
  | c :: cs, l, [] => rfl
  | c :: cs, l, x :: xs => by rw [wr, wr_len cs]; simp
theorem wr_not : ∀ (cs : List Nat) (l xs : List (Option Blk)) (c : Nat), c ∉ cs → (wr l cs xs)[c]? = l[c]?
  | [], l, xs, c, _ => by cases xs <;> rfl
  | d :: cs, l, [], c, _ => rfl
  | d :: cs, l, x :: xs, c, h => by
    simp only [List.mem_cons, not_or] at h
    rw [wr, wr_not cs _ xs c h.2, List.getElem?_set_ne (Ne.symm h.1)]
theorem wr_at : ∀ (cs : List Nat) (l xs : List (Option Blk)), cs.Nodup → (∀ c ∈ cs, c < l.length) → cs.length = xs.length → ∀ (j c : Nat), cs[j]? = some c → (wr l cs xs)[c]? = xs[j]?
  | [], l, xs, _, _, _, j, c, h => by simp at h
  | d :: cs, l, [], _, _, h, j, c, _ => by simp at h
  | d :: cs, l, x :: xs, hn, hl, hlen, j, c, h => by
    rw [List.nodup_cons] at hn
    cases j with
    | zero =>
      simp at h
      subst h
      rw [wr, wr_not cs _ xs d hn.1, List.getElem?_set_self (hl d (by simp))]
      rfl
    | succ j =>
      rw [wr, wr_at cs _ xs hn.2 (fun c hc => by rw [List.length_set]; exact hl c (List.mem_cons_of_mem _ hc)) (by simpa using hlen) j c (by simpa using h)]
      rfl
theorem back_hp {cs : List Nat} {l xs bs : List (Option Blk)} (hn : cs.Nodup) (hl : ∀ c ∈ cs, c < l.length) (hlen : xs.length = cs.length) :
    back cs l (hp (xs ++ bs)) = hp (wr l cs (xs.map (Option.map (Blk.ren (emb cs l.length)))) ++ bs.map (Option.map (Blk.ren (emb cs l.length)))) := by
  unfold back hp
  congr 1
  · funext c
    show (match loc cs l.length c with | some b => ((((xs ++ bs)[b]?).join).map (Blk.ren (emb cs l.length))) | none => (l[c]?).join) = _
    have hm : ∀ (m : List (Option Blk)) (b : Nat), (m[b]?).join.map (Blk.ren (emb cs l.length)) = ((m.map (Option.map (Blk.ren (emb cs l.length))))[b]?).join := fun m b => by
      rw [List.getElem?_map]
      cases m[b]? with
      | none => rfl
      | some x => rfl
    cases h : loc cs l.length c with
    | none =>
      obtain ⟨h1, h2⟩ := loc_none h
      simp only
      rw [List.getElem?_append_left (by rw [wr_len]; exact h2), wr_not cs _ _ c h1]
    | some b =>
      simp only
      rw [hm, List.map_append]
      have he := emb_loc h
      by_cases hc : c ∈ cs
      · have hcl := hl c hc
        obtain ⟨hb, hb2⟩ := loc_old h hcl
        rw [List.getElem?_append_left (by simp; omega), List.getElem?_append_left (by rw [wr_len]; exact hcl), wr_at cs l _ hn hl (by simp [hlen]) b c hb2]
      · have hcl : ¬ c < l.length := fun hlt => hc (List.mem_of_getElem? (loc_old h hlt).2)
        have hb : b = c - l.length + cs.length := by
          unfold loc at h
          rw [if_neg hc, if_pos (by omega)] at h
          exact (Option.some.inj h).symm
        rw [List.getElem?_append_right (by simp; omega), List.getElem?_append_right (by rw [wr_len]; omega), wr_len]
        congr 2
        simp
        omega
  · simp [wr_len]
    omega
theorem back_nil {l bs : List (Option Blk)} : back [] l (hp bs) = hp (l ++ bs.map (Option.map (Blk.ren (emb [] l.length)))) := by
  have := back_hp (cs := []) (l := l) (xs := []) (bs := bs) List.nodup_nil (fun c hc => by cases hc) rfl
  simpa [wr] using this
theorem back_one {l bs : List (Option Blk)} {c : Nat} {x : Option Blk} (hc : c < l.length) : back [c] l (hp (x :: bs)) = hp (l.set c (x.map (Blk.ren (emb [c] l.length))) ++ bs.map (Option.map (Blk.ren (emb [c] l.length)))) := by
  have := back_hp (cs := [c]) (l := l) (xs := [x]) (bs := bs) (by simp) (fun d hd => by simp at hd; omega) rfl
  simpa [wr] using this

theorem ren_rows {α : Type} {f : α → List SV} {ρ : Nat → Nat} (h : ∀ x, (f x).map (SV.ren ρ) = f x) (xs : List α) : (xs.map f).map (List.map (SV.ren ρ)) = xs.map f := by
  rw [List.map_map]
  exact List.map_congr_left fun x _ => h x
theorem blk_ren_mk {ρ : Nat → Nat} {sz ty : Nat} {rows : List (List SV)} : Blk.ren ρ ⟨sz, ty, rows⟩ = ⟨sz, ty, rows.map (List.map (SV.ren ρ))⟩ := rfl
theorem emb_nil {N b : Nat} : emb [] N b = b + N := by unfold emb; simp

/-- A call of a function that makes blocks, which sees none of ours. -/
theorem Spec.over {P : Program} {f : FuncId} {args : List AV} {l bs : List (Option Blk)} {v : AV} {K : AV → AHeap → Prop} (h : Spec P f args (hp []) fun v' G => v' = v ∧ G = hp bs) (ha : args = args.map (AV.ren (emb [] l.length)))
    (hk : K (v.ren (emb [] l.length)) (hp (l ++ bs.map (Option.map (Blk.ren (emb [] l.length)))))) : Spec P f args (hp l) K :=
  Spec.frame [] h ha List.nodup_nil (fun c hc => by cases hc) rfl (fun j k c hj => by simp at hj) (fun v' G ⟨hv, hG⟩ _ => by subst hv; subst hG; rw [back_nil]; exact hk)
/-- .. and that leaves none. -/
theorem Spec.pure {P : Program} {f : FuncId} {args : List AV} {l : List (Option Blk)} {v : AV} {K : AV → AHeap → Prop} (h : Spec P f args (hp []) fun v' G => v' = v ∧ G = hp []) (ha : args = args.map (AV.ren (emb [] l.length))) (hv : v = v.ren (emb [] l.length))
    (hk : K v (hp l)) : Spec P f args (hp l) K :=
  Spec.over h ha (by rw [← hv]; simpa using hk)

/-- What is plain and without names. -/
def SV.base : SV → Bool
  | .ptr _ _ _ => false
  | .sl _ _ _ _ => false
  | .fn _ _ => false
  | .lst _ _ => false
  | .fptr _ _ => false
  | _ => true
theorem base_ren {ρ : Nat → Nat} {bs : List (Option Blk)} (h : ∀ k, some k ∈ bs → ∀ r ∈ k.rows, ∀ x ∈ r, SV.base x = true) : bs.map (Option.map (Blk.ren ρ)) = bs := by
  conv => rhs; rw [← List.map_id bs]
  refine List.map_congr_left fun k hk => ?_
  cases k with
  | none => rfl
  | some k =>
    have hr : k.rows.map (·.map (SV.ren ρ)) = k.rows := by
      conv => rhs; rw [← List.map_id k.rows]
      refine List.map_congr_left fun r hr => ?_
      show r.map (SV.ren ρ) = r
      conv => rhs; rw [← List.map_id r]
      exact List.map_congr_left fun x hx => SV.ren_free (by have := h k hk r hr x hx; cases x <;> first | rfl | (cases this; done))
    show some (k.ren ρ) = some k
    unfold Blk.ren
    rw [hr]
/-- A call that makes blocks of plain things and keeps nothing of what it was lent. -/
theorem Spec.lend1 {P : Program} {f : FuncId} {args args0 : List AV} {l bs : List (Option Blk)} {v : AV} {K : AV → AHeap → Prop} (h : Spec P f args0 (hp []) fun v' G => v' = v ∧ G = hp bs) (ha : AVsLe (Lent l) args args0)
    (hv : v.all SV.plain = true) (hb : ∀ k, some k ∈ bs → ∀ r ∈ k.rows, ∀ x ∈ r, SV.base x = true) (hk : K (v.ren (emb [] l.length)) (hp (l ++ bs))) : Spec P f args (hp l) K :=
  Spec.lend h ha fun v' G ⟨h1, h2⟩ => by
    subst h1
    subst h2
    refine ⟨bs, rfl, hv, fun k hk' r hr x hx => ?_, ?_⟩
    · have := hb k hk' r hr x hx
      cases x <;> first | rfl | (cases this; done)
    · rw [back_nil, base_ren hb]
      exact hk

inductive Fits (ρ : Nat → Nat) (l : List (Option Blk)) : List (Option Blk) → List Nat → Prop
  | nil : Fits ρ l [] []
  | cons {k c g cs} : l[c]? = some (some (k.ren ρ)) → Fits ρ l g cs → Fits ρ l (some k :: g) (c :: cs)
theorem Fits.len {ρ : Nat → Nat} {l g : List (Option Blk)} {cs : List Nat} (h : Fits ρ l g cs) : g.length = cs.length := by
  induction h with
  | nil => rfl
  | cons _ _ ih => simp [ih]
theorem Fits.get {ρ : Nat → Nat} {l g : List (Option Blk)} {cs : List Nat} (h : Fits ρ l g cs) : ∀ (j : Nat) k c, g[j]? = some (some k) → cs[j]? = some c → l[c]? = some (some (k.ren ρ)) := by
  induction h with
  | nil => intro j k c h; simp at h
  | cons hx _ ih =>
    intro j k c h1 h2
    cases j with
    | zero => simp at h1 h2; subst h1; subst h2; exact hx
    | succ j => exact ih j k c (by simpa using h1) (by simpa using h2)
theorem Fits.lt {ρ : Nat → Nat} {l g : List (Option Blk)} {cs : List Nat} (h : Fits ρ l g cs) : ∀ c ∈ cs, c < l.length := by
  induction h with
  | nil => intro c hc; cases hc
  | cons hx _ ih =>
    intro d hd
    rcases List.mem_cons.1 hd with rfl | hd
    · exact (List.getElem?_eq_some_iff.1 hx).1
    · exact ih d hd
/-- A call that sees the blocks cs. -/
theorem Spec.fr {P : Program} {f : FuncId} {args args0 : List AV} {l g xs bs : List (Option Blk)} {v : AV} {K : AV → AHeap → Prop} (cs : List Nat) (h : Spec P f args0 (hp g) fun v' G => v' = v ∧ G = hp (xs ++ bs)) (hf : Fits (emb cs l.length) l g cs) (hn : cs.Nodup) (hx : xs.length = cs.length) (ha : args = args0.map (AV.ren (emb cs l.length)))
    (hk : K (v.ren (emb cs l.length)) (hp (wr l cs (xs.map (Option.map (Blk.ren (emb cs l.length)))) ++ bs.map (Option.map (Blk.ren (emb cs l.length)))))) : Spec P f args (hp l) K :=
  Spec.frame cs h ha hn hf.lt hf.len hf.get (fun v' G ⟨hv, hG⟩ _ => by subst hv; subst hG; rw [back_hp hn hf.lt hx]; exact hk)

/-- .. that may leave this or that. -/
theorem Spec.frE {P : Program} {f : FuncId} {args args0 : List AV} {l g : List (Option Blk)} {R : AV → List (Option Blk) → List (Option Blk) → Prop} {K : AV → AHeap → Prop} (cs : List Nat) (h : Spec P f args0 (hp g) fun v G => ∃ xs bs, xs.length = cs.length ∧ R v xs bs ∧ G = hp (xs ++ bs)) (hf : Fits (emb cs l.length) l g cs) (hn : cs.Nodup) (ha : args = args0.map (AV.ren (emb cs l.length)))
    (hk : ∀ v xs bs, xs.length = cs.length → R v xs bs → K (v.ren (emb cs l.length)) (hp (wr l cs (xs.map (Option.map (Blk.ren (emb cs l.length)))) ++ bs.map (Option.map (Blk.ren (emb cs l.length)))))) : Spec P f args (hp l) K :=
  Spec.frame cs h ha hn hf.lt hf.len hf.get (fun v G ⟨xs, bs, hx, hR, hG⟩ _ => by subst hG; rw [back_hp hn hf.lt hx]; exact hk v xs bs hx hR)

/-! ### Seen another way, told piece by piece -/
inductive BlksLe (σ : List (Option Nat)) (F : List Nat) (H : AHeap) : List (Option Nat) → List (Option Blk) → Prop
  | nil : BlksLe σ F H [] []
  | cons {o k s b} : BlkLe σ F H o k → BlksLe σ F H s b → BlksLe σ F H (o :: s) (some k :: b)
  | skip {o s b} : BlksLe σ F H s b → BlksLe σ F H (o :: s) (none :: b)
theorem BlksLe.len {σ : List (Option Nat)} {F : List Nat} {H : AHeap} {s : List (Option Nat)} {b : List (Option Blk)} (h : BlksLe σ F H s b) : s.length = b.length := by
  induction h with
  | nil => rfl
  | cons _ _ ih => simp [ih]
  | skip _ ih => simp [ih]
theorem BlksLe.get {σ : List (Option Nat)} {F : List Nat} {H : AHeap} {s : List (Option Nat)} {b : List (Option Blk)} (h : BlksLe σ F H s b) : ∀ (j : Nat) k' o, b[j]? = some (some k') → s[j]? = some o → BlkLe σ F H o k' := by
  induction h with
  | nil => intro j k' o h; simp at h
  | cons hx _ ih =>
    intro j k' o h1 h2
    cases j with
    | zero => simp at h1 h2; subst h1; subst h2; exact hx
    | succ j => exact ih j k' o (by simpa using h1) (by simpa using h2)
  | skip _ ih =>
    intro j k' o h1 h2
    cases j with
    | zero => simp at h1
    | succ j => exact ih j k' o (by simpa using h1) (by simpa using h2)
theorem BlkLe.keep {σ : List (Option Nat)} {F : List Nat} {H : AHeap} {b : Nat} {k k' : Blk} (h : H.get b = some k) (hs : k.sz = k'.sz) (ht : k.ty = k'.ty) (hr : RowsLe (Wk σ F H) k.rows k'.rows) : BlkLe σ F H (some b) k' := ⟨k, h, hs, ht, hr⟩
theorem BlkLe.ph {σ : List (Option Nat)} {F : List Nat} {H : AHeap} {sz ty : Nat} : BlkLe σ F H none ⟨sz, ty, []⟩ := rfl
theorem RowsLe.same {σ : List (Option Nat)} {F : List Nat} {H : AHeap} {m : List (List SV)} (h : ∀ r ∈ m, ∀ x ∈ r, SV.free x = true) : RowsLe (Wk σ F H) m m := RowsLe.free List.take_length h
inductive FrLe (R : SV → SV → Prop) (f : Fr) : Fr → Prop
  | nil : FrLe R f []
  | cons {t v g} : AVLe R (fget f t) v → FrLe R f g → FrLe R f ((t, v) :: g)
theorem FrLe.all {R : SV → SV → Prop} {f g : Fr} (h : FrLe R f g) : ∀ p ∈ g, AVLe R (fget f p.1) p.2 := by
  induction h with
  | nil => intro p hp; cases hp
  | cons hx _ ih =>
    intro p hp
    rcases List.mem_cons.1 hp with rfl | hp
    · exact hx
    · exact ih p hp
/-- The names that are kept. -/
def same : Nat → List (Option Nat) → Bool
  | _, [] => true
  | j, x :: l => x == some j && same (j + 1) l
theorem same_at : ∀ {j0 : Nat} {l : List (Option Nat)}, same j0 l = true → ∀ (j : Nat), j < l.length → l[j]? = some (some (j0 + j))
  | j0, [], _, j, h => by simp at h
  | j0, x :: l, h, j, hj => by
    simp only [same, Bool.and_eq_true, beq_iff_eq] at h
    cases j with
    | zero => simp [h.1]
    | succ j =>
      have := same_at h.2 j (by simpa using hj)
      rw [List.getElem?_cons_succ, this]
      congr 2
      omega
theorem same_take {n0 : Nat} {σ : List (Option Nat)} (h : same 0 (σ.take n0) = true) (hn : n0 ≤ σ.length) : ∀ j, j < n0 → σ[j]? = some (some j) := fun j hj => by
  have := same_at h j (by simp; omega)
  rw [List.getElem?_take, if_pos hj] at this
  simpa using this
theorem W.to {n0 : Nat} {f f' : Fr} {H : AHeap} (σ : List (Option Nat)) (F : List Nat) {bs : List (Option Blk)} (hb : BlksLe σ F H σ bs) (h0 : n0 ≤ σ.length) (h2 : same 0 (σ.take n0) = true) (h4 : (σ.filterMap id).Nodup) (h5 : ∀ b ∈ F, some b ∉ σ) (hf : FrLe (Wk σ F H) f f') : W n0 ⟨f, H⟩ ⟨f', hp bs⟩ :=
  W.mk σ F rfl (by rw [← hb.len]; exact h0) hb.len (same_take h2 h0) hb.get h4 h5 hf.all
/-- What a function leaves, seen another way: asked for at its end. -/
def Sees (n0 : Nat) (v : AV) (G : AHeap) (v' : AV) (bs : List (Option Blk)) : Prop :=
  ∃ (σ : List (Option Nat)) (F : List Nat), BlksLe σ F G σ bs ∧ n0 ≤ σ.length ∧ same 0 (σ.take n0) = true ∧ (σ.filterMap id).Nodup ∧ (∀ b ∈ F, some b ∉ σ) ∧ AVLe (Wk σ F G) v v'
theorem Spec.leave {P : Program} {f : FuncId} {args : List AV} {H : AHeap} {K : AV → AHeap → Prop} (h : Spec P f args H fun v G => ∃ v' bs, Sees H.nx v G v' bs ∧ K v' (hp bs)) : Spec P f args H K :=
  Spec.seen (h.mono fun v G ⟨v', bs, ⟨σ, F, h1, h2, h3, h4, h5, h6⟩, hk⟩ => ⟨σ, F, bs, v', by rw [← h1.len]; exact h2, h1.len, same_take h3 h2, h1.get, h4, h5, h6, hk⟩)

/-- An argument that is empty is nil, or it is not. -/
theorem Spec.nil_or {P : Program} {f : FuncId} {pre post : List AV} {sz : Nat} {H : AHeap} {K : AV → AHeap → Prop} (h1 : Spec P f (pre ++ .s .nils :: post) H K) (h2 : Spec P f (pre ++ .s .nemp :: post) H K) : Spec P f (pre ++ .s (.lst sz []) :: post) H K := by
  intro φ base w cargs hr ha
  have key : ∀ {pre : List AV} {vs : List Value}, VRs φ (pre ++ .s (.lst sz []) :: post) vs → VRs φ (pre ++ .s .nils :: post) vs ∨ VRs φ (pre ++ .s .nemp :: post) vs := by
    intro pre
    induction pre with
    | nil =>
      intro vs h
      cases h with
      | cons hx hr =>
        rcases vr_lst hx with ⟨_, a, c, rfl, hc, ha⟩ | ⟨b, off, c, o, rfl, _⟩
        · cases a with
          | none => obtain rfl := ha rfl; exact .inl (.cons rfl hr)
          | some a => exact .inr (.cons (by show DR φ.fz .nemp _; simp only [DR]; exact ⟨a, c, rfl⟩) hr)
        · exact .inr (.cons (by show DR φ.fz .nemp _; simp only [DR]; exact ⟨_, c, rfl⟩) hr)
    | cons x pre ih =>
      intro vs h
      cases h with
      | cons hx hr => exact (ih hr).imp (.cons hx) (.cons hx)
  rcases key ha with ha | ha
  · exact h1 φ base w cargs hr ha
  · exact h2 φ base w cargs hr ha
end Go.Proofs.Ytmfiegjncfgohaa.Den
