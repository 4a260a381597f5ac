/- The abstract calculus, part G: cuts and appends; all operations together. -/
import Derived.Test.YtmfiegjncfgohaaDenF
namespace Go.Proofs.Ytmfiegjncfgohaa.Den
open Go.RowKit
set_option linter.unusedVariables false
set_option linter.unusedSimpArgs false

section
variable {P : Program} {φ : Phi} {base : Nat} {H H' : AHeap} {w : World} {o : Oper} {ρ : Operand → Value} {ev : Opd → AV} {x : AV}

/-- A block under a new number. -/
theorem Goes.rename (hr : Rel φ base H w) {b : Nat} {k : Blk} {p : Place} (hb : H.get b = some k) (hp : φ b = some p) :
    Goes φ base H w (setPlace φ H.nx p) ((H.del b).push k) w := by
  have hlt := hr.get_lt hb
  have he : Ext φ (setPlace φ H.nx p) := ext_setPlace (hr.new H.nx (Nat.le_refl _)).2
  obtain ⟨q, hq, ok⟩ : ∃ q, φ b = some q ∧ BlkOk φ base w q k := hr.blk b k hb
  rw [hp] at hq
  obtain rfl := Option.some.inj hq
  have g : ∀ c, ((H.del b).push k).get c = if c = H.nx then some k else if c = b then none else H.get c := fun c => rfl
  have mine : ∀ r, Mine (setPlace φ H.nx p) ((H.del b).push k) r → Mine φ H r := fun r hm => by
    obtain ⟨c, k1, p1, hc, h2, h1, h3⟩ := hm
    rw [g] at hc
    rcases setPlace_look h2 with ⟨e1, rfl⟩ | ⟨e1, e2⟩
    · exact ⟨b, k, p1, hb, hp, h1, h3⟩
    · rw [if_neg e1] at hc
      split at hc
      · cases hc
      · exact ⟨c, k1, p1, hc, e2, h1, h3⟩
  refine ⟨⟨fun c k' hc => ?_, fun c c' k1 k2 p1 p2 h1 h2 e1 e2 n1 n2 e => ?_, fun c hc => ?_, hr.base, fun r o h => ⟨(hr.fz r o h).1, fun hm => (hr.fz r o h).2 (mine r hm)⟩, nofull rfl⟩, by simp [AHeap.push, AHeap.del], he, Below.refl _ _, fun _ _ _ => rfl, fun r hm => .inr (mine r hm), fun r o h => .inl h⟩
  · rw [g] at hc
    split at hc
    · subst_vars
      obtain rfl := Option.some.inj hc
      exact ⟨p, setPlace_same, ok.move he (fun _ => rfl)⟩
    · split at hc
      · cases hc
      · obtain ⟨q, hq, okq⟩ := hr.blk c k' hc
        exact ⟨q, he.pl c q hq, okq.move he (fun _ => rfl)⟩
  · rw [g] at h1 h2
    have old : ∀ {c : Nat} {k1 : Blk} {p1 : Place}, c ≠ H.nx → (if c = H.nx then some k else if c = b then none else H.get c) = some k1 → φ c = some p1 → p1.cap ≠ 0 → p.cap ≠ 0 → p1.blk = p.blk → False := fun {c k1 p1} hne hc hp1 n1 n2 he1 => by
      rw [if_neg hne] at hc
      split at hc
      · cases hc
      · rename_i hcb
        exact hcb (hr.inj c b k1 k p1 p hc hb hp1 hp n1 n2 he1)
    rcases setPlace_look e1 with ⟨a1, q1⟩ | ⟨a1, q1⟩ <;> rcases setPlace_look e2 with ⟨a2, q2⟩ | ⟨a2, q2⟩
    · rw [a1, a2]
    · subst q1
      exact (old a2 h2 q2 n2 n1 e.symm).elim
    · subst q2
      exact (old a1 h1 q1 n1 n2 e).elim
    · rw [if_neg a1] at h1
      rw [if_neg a2] at h2
      split at h1
      · cases h1
      · split at h2
        · cases h2
        · exact hr.inj c c' k1 k2 p1 p2 h1 h2 q1 q2 n1 n2 e
  · simp only [AHeap.push, AHeap.del] at hc
    have := hr.new c (by omega)
    refine ⟨?_, ?_⟩
    · rw [g, if_neg (by omega), this.1]
      split <;> rfl
    · rw [setPlace_none (by omega)]
      exact this.2

theorem upd_del {b : Nat} {k : Blk} : (H.upd b k).del b = H.del b := by
  unfold AHeap.upd AHeap.del
  congr 1
  funext c
  by_cases h : c = b <;> simp [h]

theorem bound_ok (he : Evs φ ev ρ) {d m : Nat} {y : Option Operand} {y' : Option Opd} (hy : opdO y = some y') (hb : bound d ev y' = some m) :
    (y = none ∧ m = d) ∨ ∃ u k n, y = some u ∧ ρ u = .int k n ∧ 0 ≤ n ∧ m = n.toNat := by
  cases y with
  | none => simp [opdO] at hy; subst hy; simp [bound] at hb; exact .inl ⟨rfl, hb.symm⟩
  | some u =>
    simp only [opdO] at hy
    obtain ⟨z, hz, rfl⟩ := map_some hy
    simp only [bound] at hb
    split at hb
    · rename_i k n hp
      have h1 := he u z hz
      rw [hp] at h1
      split at hb
      · exact .inr ⟨u, k, n, rfl, h1, ‹_›, (Option.some.inj hb).symm⟩
      · cases hb
    · cases hb

/-- The bounds of a cut, in the world. -/
theorem run_bounds {isSlice : Bool} {n c m h l : Nat} {lo hi mx : Option Value} (hmx : (mx = none ∧ m = c) ∨ ∃ k i, mx = some (.int k i) ∧ 0 ≤ i ∧ m = i.toNat) (hhi : (hi = none ∧ mx = none ∧ h = n) ∨ ∃ k i, hi = some (.int k i) ∧ 0 ≤ i ∧ h = i.toNat)
    (hlo : (lo = none ∧ l = 0) ∨ ∃ k i, lo = some (.int k i) ∧ 0 ≤ i ∧ l = i.toNat) (h1 : l ≤ h) (h2 : h ≤ m) (h3 : m ≤ c) : (Instr.sliceBounds isSlice n c lo hi mx).run P w = .ok (l, h, m) w := by
  have sb : ∀ k (i : Int) (y : Nat) code, 0 ≤ i → i.toNat ≤ y → (Instr.sliceBound (.int k i) y code).run P w = .ok i.toNat w := fun k i y code a b => run_sliceBound w k i y code a (by omega)
  unfold Instr.sliceBounds
  rcases hmx with ⟨rfl, rfl⟩ | ⟨km, im, rfl, hm0, rfl⟩ <;> rcases hhi with ⟨rfl, hmn, rfl⟩ | ⟨kh, ih, rfl, hh0, rfl⟩ <;> rcases hlo with ⟨rfl, rfl⟩ | ⟨kl, il, rfl, hl0, rfl⟩ <;>
    first
      | (cases hmn; done)
      | simp [sb _ _ _ _ ‹0 ≤ im› h3, sb _ _ _ _ ‹0 ≤ ih› h2, sb _ _ _ _ ‹0 ≤ il› h1]
      | simp [sb _ _ _ _ ‹0 ≤ im› h3, sb _ _ _ _ ‹0 ≤ ih› h2]
      | simp [sb _ _ _ _ ‹0 ≤ ih› h2, sb _ _ _ _ ‹0 ≤ il› h1]
      | simp [sb _ _ _ _ ‹0 ≤ ih› h2]
      | simp [sb _ _ _ _ ‹0 ≤ il› h1]
      | simp

/-- The cells of so many elements of a slice. -/
theorem Rel.rows_vals (hr : Rel φ base H w) {b i n : Nat} {k : Blk} (hb : H.get b = some k) (hle : i + n ≤ k.rows.length) :
    ∃ p vs, φ b = some p ∧ p.sz = k.sz ∧ (∀ r ∈ (k.rows.drop i).take n, r.length = k.sz) ∧ SRs φ ((k.rows.drop i).take n).flatten vs ∧ vs.length = n * k.sz ∧ ∀ (q : Nat) v, vs[q]? = some v → w.cell? ((p.at (i * k.sz)).add q) = some v := by
  obtain ⟨p, hp, ok⟩ := hr.blk b k hb
  have hl : ∀ r ∈ (k.rows.drop i).take n, r.length = k.sz := fun r hr => by
    obtain ⟨q, hq⟩ := List.mem_iff_getElem?.1 (List.mem_of_mem_drop (List.mem_of_mem_take hr))
    exact (ok.rows q r hq).1
  obtain ⟨vs, h1, h2⟩ := pick_vals (φ := φ) (w := w) (p := p) ((k.rows.drop i).take n).flatten (i * k.sz) (fun q x hx => by
    have hq : q < n * k.sz := by
      have := (List.getElem?_eq_some_iff.1 hx).1
      rw [flat_len hl] at this
      simp at this
      exact Nat.lt_of_lt_of_le this (Nat.mul_le_mul_right _ (Nat.min_le_left _ _))
    have hsz : 0 < k.sz := Nat.pos_of_ne_zero (fun e => by rw [e] at hq; simp at hq)
    have hqn : q / k.sz < n := Nat.div_lt_of_lt_mul (by rw [Nat.mul_comm]; exact hq)
    have hrow : ((k.rows.drop i).take n)[q / k.sz]? = some k.rows[i + q / k.sz] := by
      rw [List.getElem?_take, if_pos hqn, List.getElem?_drop, List.getElem?_eq_getElem (by omega)]
    have hrl : k.rows[i + q / k.sz].length = k.sz := (ok.rows (i + q / k.sz) _ (List.getElem?_eq_getElem (by omega))).1
    have hqm : q % k.sz < k.rows[i + q / k.sz].length := by rw [hrl]; exact Nat.mod_lt _ hsz
    have e1 := flat_get hl hrow (j := q % k.sz) (List.getElem?_eq_getElem hqm)
    rw [show q / k.sz * k.sz + q % k.sz = q by rw [Nat.mul_comm]; exact Nat.div_add_mod q _] at e1
    rw [e1] at hx
    obtain rfl := Option.some.inj hx
    obtain ⟨v, hv, hs⟩ := (ok.rows (i + q / k.sz) _ (List.getElem?_eq_getElem (by omega))).2 (q % k.sz) _ (List.getElem?_eq_getElem hqm)
    refine ⟨v, ?_, hs⟩
    rw [← hv, Nat.add_mul]
    congr 2
    have := Nat.div_add_mod q k.sz
    rw [Nat.mul_comm] at this
    omega)
  refine ⟨p, vs, hp, ok.sz, hl, h1, ?_, fun q v hv => by rw [Place.at_add]; exact h2 q v hv⟩
  have := h1.length
  rw [flat_len hl] at this
  rw [← this]
  congr 1
  simp
  omega

theorem rel_drew (hr : Rel φ base H w) : Rel φ base H w.drew := hr.congr rfl
theorem goes_drew (hr : Rel φ base H w) : Goes φ base H w φ H w.drew := ⟨rel_drew hr, Nat.le_refl _, Ext.refl _, ⟨rfl, rfl, rfl, Nat.le_refl _, fun _ _ => rfl⟩, fun _ _ _ => rfl, fun _ hm => .inr hm, fun _ _ h => .inl h⟩

variable (hr : Rel φ base H w) (he : Evs φ ev ρ)
include hr he
set_option linter.unusedSectionVars false

theorem slice_run {t e : TypeId} {a : Operand} {lo hi mx : Option Operand} {i : TypeInfo} (ho : o.op = .slice t a lo hi mx) (hu : P.underlying t = some (.slice e)) (hin : P.info? e = some i) (hmh : (mx.isSome && hi.isNone) = false)
    {n c' : Nat} {ad : Option Addr} (hv : ρ a = .slice ad n c')
    {l h m' : Nat} (hm' : (mx.map ρ = none ∧ m' = c') ∨ ∃ k i, mx.map ρ = some (.int k i) ∧ 0 ≤ i ∧ m' = i.toNat)
    (ph : (hi.map ρ = none ∧ hi = none ∧ h = n) ∨ ∃ k n, hi.map ρ = some (.int k n) ∧ 0 ≤ n ∧ h = n.toNat) (pl : (lo.map ρ = none ∧ lo = none ∧ l = 0) ∨ ∃ k n, lo.map ρ = some (.int k n) ∧ 0 ≤ n ∧ l = n.toNat)
    (b1 : l ≤ h) (b2 : h ≤ m') (b3 : m' ≤ c') : (execOp ρ o).run P w = .ok (.value (.slice (if m' = l then ad else ad.map (·.add (l * i.size))) (h - l) (m' - l))) w := by
  have hrun : (Instr.sliceBounds true n c' (lo.map ρ) (hi.map ρ) (mx.map ρ)).run P w = .ok (l, h, m') w := by
    refine run_bounds hm' ?_ ?_ b1 b2 b3
    · rcases ph with ⟨e1, e2, rfl⟩ | ⟨k, n, e1, h0, rfl⟩
      · refine .inl ⟨e1, ?_, rfl⟩
        subst e2
        cases mx with
        | none => rfl
        | some _ => simp at hmh
      · exact .inr ⟨k, n, e1, h0, rfl⟩
    · rcases pl with ⟨e1, e2, rfl⟩ | ⟨k, n, e1, h0, rfl⟩
      · exact .inl ⟨e1, rfl⟩
      · exact .inr ⟨k, n, e1, h0, rfl⟩
  simp [execOp, ho, hv, Instr.sliceAt, Instr.slice, run_underlying hu, hrun, sizeOf, typeInfo, hin]
theorem slice_core {t e : TypeId} {a : Operand} {lo hi mx : Option Operand} {i : TypeInfo} (ho : o.op = .slice t a lo hi mx) (hu : P.underlying t = some (.slice e)) (hin : P.info? e = some i) (hmh : (mx.isSome && hi.isNone) = false)
    {b f n c' : Nat} {ad : Option Addr} {p' : Place} (hv : ρ a = .slice ad n c') (hn3 : c' ≤ maxLen) (hp' : φ b = some p') (hn4 : c' = 0 ∨ ad = some (p'.at (f * p'.sz)) ∧ f + c' = p'.cap)
    {l h m' cc : Nat} (pm : (mx.map ρ = none ∧ mx = none ∧ m' = c') ∨ (∃ k i, mx.map ρ = some (.int k i) ∧ 0 ≤ i ∧ m' = i.toNat) ∧ m' = l)
    (ph : (hi.map ρ = none ∧ hi = none ∧ h = n) ∨ ∃ k n, hi.map ρ = some (.int k n) ∧ 0 ≤ n ∧ h = n.toNat) (pl : (lo.map ρ = none ∧ lo = none ∧ l = 0) ∨ ∃ k n, lo.map ρ = some (.int k n) ∧ 0 ≤ n ∧ l = n.toNat)
    (b1 : l ≤ h) (b2 : h ≤ m') (b3 : m' ≤ c') (k1 : h - l ≤ cc) (k2 : cc ≤ m' - l) (b4 : H.has b i.size = true) : XS P φ base H w o ρ (.s (.sl b (f + l) (h - l) cc)) H := by
  have hm' : (mx.map ρ = none ∧ m' = c') ∨ ∃ k i, mx.map ρ = some (.int k i) ∧ 0 ≤ i ∧ m' = i.toNat := by
    rcases pm with ⟨e1, _, e2⟩ | ⟨e1, _⟩
    · exact .inl ⟨e1, e2⟩
    · exact .inr e1
  refine XS.pure hr (v := .slice (if m' = l then ad else ad.map (·.add (l * i.size))) (h - l) (m' - l)) (slice_run hr he ho hu hin hmh hv hm' ph pl b1 b2 b3) ?_
  · obtain ⟨p, hφ, hsz⟩ := has_place hr he b4
    have hp'' := hp'
    rw [hφ] at hp''
    obtain rfl := Option.some.inj hp''
    have hml2 : m' - l ≤ maxLen := Nat.le_trans (Nat.sub_le _ _) (Nat.le_trans b3 hn3)
    by_cases hml : m' = l
    · rw [if_pos hml]
      exact ⟨ad, m' - l, p, rfl, k1, k2, hml2, hφ, .inl (by rw [hml]; exact Nat.sub_self _)⟩
    · rw [if_neg hml]
      have hmc : m' = c' := by
        rcases pm with ⟨_, _, e2⟩ | ⟨_, e2⟩
        · exact e2
        · exact absurd e2 hml
      clear pm ph pl hm'
      obtain ⟨rfl, hcap⟩ := hn4.resolve_left (by omega)
      refine ⟨_, m' - l, p, rfl, k1, k2, hml2, hφ, .inr ⟨?_, by omega⟩⟩
      show some ((p.at _).add _) = some _
      rw [Place.at_add, Nat.add_mul, hsz]

theorem xs_slice {t e : TypeId} {a : Operand} {a' : Opd} {lo hi mx : Option Operand} {lo' hi' mx' : Option Opd} {i : TypeInfo} (ho : o.op = .slice t a lo hi mx) (hu : P.underlying t = some (.slice e)) (hin : P.info? e = some i) (hmh : (mx.isSome && hi.isNone) = false) (ha : opd a = some a')
    (hlo : opdO lo = some lo') (hhi : opdO hi = some hi') (hmx : opdO mx = some mx') (hx : xop (.slice i.size a' lo' hi' mx') ev H = some (x, H')) : XS P φ base H w o ρ x H' := by
  have h1 := he a a' ha
  have pass : ∀ {d m : Nat} {y : Option Operand} {y' : Option Opd}, opdO y = some y' → bound d ev y' = some m → (y.map ρ = none ∧ y = none ∧ m = d) ∨ ∃ k n, y.map ρ = some (.int k n) ∧ 0 ≤ n ∧ m = n.toNat := fun {d m y y'} hy hb => by
    rcases bound_ok he hy hb with ⟨rfl, rfl⟩ | ⟨u, k, n, rfl, hu, h0, rfl⟩
    · exact .inl ⟨rfl, rfl, rfl⟩
    · exact .inr ⟨k, n, by simp [hu], h0, rfl⟩
  simp only [xop] at hx
  split at hx
  · rename_i b f n c hp
    rw [hp] at h1
    obtain ⟨ad, c', p', hv, hn1, hn2, hn3, hp', hn4⟩ := vr_s h1
    split at hx
    · obtain ⟨h, hh, hx⟩ := bind_some hx
      obtain ⟨l, hl, hx⟩ := bind_some hx
      have hmn : mx = none := by
        cases mx with
        | none => rfl
        | some y => simp [opdO] at hmx
      have ph := pass hhi hh
      have pl := pass hlo hl
      split at hx
      · rename_i hb
        obtain ⟨b1, b2, b4⟩ := hb
        simp only [Option.some.injEq, Prod.mk.injEq] at hx
        obtain ⟨rfl, rfl⟩ := hx
        exact slice_core hr he ho hu hin hmh hv hn3 hp' hn4 (m' := c') (.inl ⟨by rw [hmn]; rfl, hmn, rfl⟩) ph pl b1 (Nat.le_trans b2 hn2) (Nat.le_refl _) (Nat.sub_le_sub_right b2 _) (Nat.sub_le_sub_right hn2 _) b4
      · cases hx
    · obtain ⟨m, hm, hx⟩ := bind_some hx
      obtain ⟨h, hh, hx⟩ := bind_some hx
      obtain ⟨l, hl, hx⟩ := bind_some hx
      split at hx
      · rename_i hb
        obtain ⟨b1, b2, b3, b4⟩ := hb
        simp only [Option.some.injEq, Prod.mk.injEq] at hx
        obtain ⟨rfl, rfl⟩ := hx
        have pm := pass hmx hm
        have ph := pass hhi hh
        have pl := pass hlo hl
        refine XS.pure hr (slice_run hr he ho hu hin hmh hv (m' := m) ?_ ph pl b1 b2 (Nat.le_trans b3 hn2)) rfl
        rcases pm with ⟨_, e2, _⟩ | e1
        · subst e2
          simp [opdO] at hmx
        · exact .inr e1
      · cases hx
  · rename_i hp
    rw [hp] at h1
    have hv : ρ a = .slice none 0 0 := h1
    obtain ⟨m, hm, hx⟩ := bind_some hx
    obtain ⟨h, hh, hx⟩ := bind_some hx
    obtain ⟨l, hl, hx⟩ := bind_some hx
    split at hx
    · rename_i hb
      simp only [Option.some.injEq, Prod.mk.injEq] at hx
      obtain ⟨rfl, rfl⟩ := hx
      obtain ⟨rfl, rfl, rfl⟩ := hb
      have pm := pass hmx hm
      have ph := pass hhi hh
      have pl := pass hlo hl
      have hrun : (Instr.sliceBounds true 0 0 (lo.map ρ) (hi.map ρ) (mx.map ρ)).run P w = .ok (0, 0, 0) w := by
        refine run_bounds ?_ ?_ ?_ (Nat.le_refl _) (Nat.le_refl _) (Nat.le_refl _)
        · rcases pm with ⟨e1, e2, e3⟩ | ⟨k, n, e1, h0, e3⟩
          · exact .inl ⟨e1, rfl⟩
          · exact .inr ⟨k, n, e1, h0, e3⟩
        · rcases ph with ⟨e1, e2, e3⟩ | ⟨k, n, e1, h0, e3⟩
          · refine .inl ⟨e1, ?_, rfl⟩
            subst e2
            cases mx with
            | none => rfl
            | some _ => simp at hmh
          · exact .inr ⟨k, n, e1, h0, e3⟩
        · rcases pl with ⟨e1, e2, e3⟩ | ⟨k, n, e1, h0, e3⟩
          · exact .inl ⟨e1, rfl⟩
          · exact .inr ⟨k, n, e1, h0, e3⟩
      refine XS.pure hr (v := .slice none 0 0) ?_ rfl
      simp [execOp, ho, hv, Instr.sliceAt, Instr.slice, run_underlying hu, hrun, sizeOf, typeInfo, hin]
    · cases hx
  · rename_i sz' rows hp
    rw [hp] at h1
    obtain ⟨m, hm, hx⟩ := bind_some hx
    obtain ⟨h, hh, hx⟩ := bind_some hx
    obtain ⟨l, hl, hx⟩ := bind_some hx
    split at hx
    · rename_i hb
      obtain ⟨b1, b2, b3, rfl⟩ := hb
      simp only [Option.some.injEq, Prod.mk.injEq] at hx
      obtain ⟨rfl, rfl⟩ := hx
      have pm := pass hmx hm
      have ph := pass hhi hh
      have pl := pass hlo hl
      have hmxs : mx'.isSome = mx.isSome := by
        cases mx with
        | none => simp [opdO] at hmx; subst hmx; rfl
        | some y => simp only [opdO] at hmx; obtain ⟨z, _, rfl⟩ := map_some hmx; rfl
      obtain ⟨a0, c0, hv, hc1, hc2⟩ : ∃ a0 c0, ρ a = .slice a0 rows.length c0 ∧ rows.length ≤ c0 ∧ c0 ≤ maxLen := by
        rcases vr_lst h1 with ⟨rfl, a, c, hv, h2, _⟩ | ⟨b, off, c, o, hv, h2, h3, _⟩
        · exact ⟨a, c, hv, Nat.zero_le _, h2⟩
        · exact ⟨_, c, hv, h2, h3⟩
      obtain ⟨m', hm', hmm⟩ : ∃ m', ((mx.map ρ = none ∧ m' = c0) ∨ ∃ k i, mx.map ρ = some (.int k i) ∧ 0 ≤ i ∧ m' = i.toNat) ∧ m ≤ m' ∧ m' ≤ c0 ∧ (mx'.isSome = true → m' = m) := by
        rcases pm with ⟨e1, e2, rfl⟩ | ⟨k, n, e1, h0, rfl⟩
        · exact ⟨c0, .inl ⟨e1, rfl⟩, hc1, Nat.le_refl _, fun h => by rw [hmxs, e2] at h; cases h⟩
        · exact ⟨_, .inr ⟨k, n, e1, h0, rfl⟩, Nat.le_refl _, by omega, fun _ => rfl⟩
      have hrun : (Instr.sliceBounds true rows.length c0 (lo.map ρ) (hi.map ρ) (mx.map ρ)).run P w = .ok (l, h, m') w := by
        refine run_bounds hm' ?_ ?_ b1 (by omega) hmm.2.1
        · rcases ph with ⟨e1, e2, rfl⟩ | ⟨k, n, e1, h0, rfl⟩
          · refine .inl ⟨e1, ?_, rfl⟩
            subst e2
            cases mx with
            | none => rfl
            | some _ => simp at hmh
          · exact .inr ⟨k, n, e1, h0, rfl⟩
        · rcases pl with ⟨e1, e2, rfl⟩ | ⟨k, n, e1, h0, rfl⟩
          · exact .inl ⟨e1, rfl⟩
          · exact .inr ⟨k, n, e1, h0, rfl⟩
      refine XS.pure hr (v := .slice (if m' = l then a0 else a0.map (·.add (l * i.size))) (h - l) (m' - l)) ?_ ?_
      · simp [execOp, ho, hv, Instr.sliceAt, Instr.slice, run_underlying hu, hrun, sizeOf, typeInfo, hin]
      · have hlen : ((rows.take h).drop l).length = h - l := by simp; omega
        split
        · rename_i he2
          have : m' = l := (hmm.2.2 he2.1).trans he2.2
          subst this
          refine emp_vr ⟨a0, ?_⟩
          rw [if_pos rfl, Nat.sub_self]
          congr 1
          omega
        · rename_i hne
          refine lst_vr ?_
          rw [hlen]
          by_cases hl0 : h - l = 0
          · refine .inl ⟨List.length_eq_zero_iff.1 (by rw [hlen]; exact hl0), _, m' - l, by rw [hl0], by omega, fun hn => ?_⟩
            by_cases hml : m' = l
            · omega
            · rw [if_neg hml] at hn
              cases a0 with
              | some _ => cases hn
              | none =>
                rcases vr_lst h1 with ⟨rfl, a, c, hv2, h2, h3⟩ | ⟨b, off, c, o, hv2, h2, h3, _⟩
                · rw [hv] at hv2
                  injection hv2 with q1 q2 q3
                  have := h3 q1.symm
                  omega
                · rw [hv] at hv2
                  injection hv2 with q1
                  cases q1
          · rcases vr_lst h1 with ⟨rfl, _⟩ | ⟨b, off, c, o, hv2, h2, h3, h4, h5⟩
            · exact (hl0 (by rw [Nat.sub_eq_zero_iff_le]; have h9 : h ≤ 0 := Nat.le_trans b2 b3; exact Nat.le_trans h9 (Nat.zero_le _))).elim
            · rw [hv] at hv2
              injection hv2 with q1 q2 q3
              subst q1
              have hml : ¬ m' = l := by omega
              rw [if_neg hml]
              refine .inr ⟨b, off + l * i.size, m' - l, o, ?_, by omega, by omega, h4, (h5.take h).drop l⟩
              show Value.slice (some ((⟨b, off, none⟩ : Addr).add (l * i.size))) _ _ = _
              congr 2
              unfold Addr.add
              split <;> simp_all
    · cases hx
  · cases hx

/-- A slice made longer, where the room of its block is known. -/
theorem xs_slicex {t e : TypeId} {a hi : Operand} {a' hi' : Opd} {i : TypeInfo} (ho : o.op = .slice t a none (some hi) none) (hu : P.underlying t = some (.slice e)) (hin : P.info? e = some i) (ha : opd a = some a') (hhi : opd hi = some hi')
    (hx : xbeyond i.size (ev a') (ev hi') H = some (x, H')) : XS P φ base H w o ρ x H' := by
  have h1 := he a a' ha
  have h2 := he hi hi' hhi
  unfold xbeyond at hx
  split at hx
  · rename_i b f n c kk h hp hq
    rw [hp] at h1
    rw [hq] at h2
    obtain ⟨ad, c', p', hv, hn1, hn2, hn3, hp', hn4⟩ := vr_s h1
    have hh : ρ hi = .int kk h := h2
    split at hx
    · rename_i h0
      unfold beyond at hx
      split at hx
      · rename_i b' F hfull
        split at hx
        · rename_i hb
          obtain ⟨rfl, b0, b1, b2, b4⟩ := hb
          simp only [Option.some.injEq, Prod.mk.injEq] at hx
          obtain ⟨rfl, rfl⟩ := hx
          obtain ⟨p, hφ, hF⟩ := hr.full _ _ hfull
          have hp'' := hp'
          rw [hφ] at hp''
          obtain rfl := Option.some.inj hp''
          obtain ⟨_, hcap⟩ := hn4.resolve_left (by omega)
          exact slice_core hr he ho hu hin rfl hv hn3 hp' hn4 (m' := c') (l := 0) (h := h.toNat) (.inl ⟨rfl, rfl, rfl⟩) (.inr ⟨kk, h, by simp [hh], h0, rfl⟩) (.inl ⟨rfl, rfl, rfl⟩) (Nat.zero_le _) (by omega) (Nat.le_refl _) (by omega) (by omega) b4
        · cases hx
      · cases hx
    · cases hx
  · cases hx

/-- The room of a slice: what is known of it stands on. -/
theorem run_capx {c : Call} {t e : TypeId} {a : Operand} (ho : o.op = .call c) (hcc : c.callee = .builtin .cap) (hca : c.args.toList = [a]) (hct : c.argTypes.toList = [t]) (ht : P.underlying t = some (.slice e)) {ad : Option Addr} {n c' : Nat} (hv : ρ a = .slice ad n c') :
    (execOp ρ o).run P w = .ok (.value (.int .i64 c')) w := by
  obtain ⟨callee, args, argTypes⟩ := c
  simp only at hcc hca hct
  subst hcc
  obtain rfl : args = #[a] := by cases args; simpa using hca
  obtain rfl : argTypes = #[t] := by cases argTypes; simpa using hct
  simp [execOp, ho, resolve, invoke, builtin, Builtin.cap_, run_underlying ht, hv, goInt]

theorem xs_sslice {t : TypeId} {a : Operand} {a' : Opd} {lo hi mx : Option Operand} {lo' hi' : Option Opd} (ho : o.op = .slice t a lo hi mx) (hu : P.underlying t = some .string) (hmh : mx = none) (ha : opd a = some a')
    (hlo : opdO lo = some lo') (hhi : opdO hi = some hi') (hx : xop (.sslice a' lo' hi') ev H = some (x, H')) : XS P φ base H w o ρ x H' := by
  have h1 := he a a' ha
  subst hmh
  simp only [xop] at hx
  split at hx
  · rename_i s hp
    rw [hp] at h1
    have hv : ρ a = .string s := h1
    obtain ⟨h, hh, hx⟩ := bind_some hx
    obtain ⟨l, hl, hx⟩ := bind_some hx
    split at hx
    · rename_i hb
      obtain ⟨b1, b2⟩ := hb
      simp only [Option.some.injEq, Prod.mk.injEq] at hx
      obtain ⟨rfl, rfl⟩ := hx
      have hrun : (Instr.sliceBounds false s.size s.size (lo.map ρ) (hi.map ρ) none).run P w = .ok (l, h, s.size) w := by
        refine run_bounds (.inl ⟨rfl, rfl⟩) ?_ ?_ b1 b2 (Nat.le_refl _)
        · rcases bound_ok he hhi hh with ⟨rfl, rfl⟩ | ⟨u, k, n, rfl, hu, h0, rfl⟩
          · exact .inl ⟨rfl, rfl, rfl⟩
          · exact .inr ⟨k, n, by simp [hu], h0, rfl⟩
        · rcases bound_ok he hlo hl with ⟨rfl, rfl⟩ | ⟨u, k, n, rfl, hu, h0, rfl⟩
          · exact .inl ⟨rfl, rfl⟩
          · exact .inr ⟨k, n, by simp [hu], h0, rfl⟩
      refine XS.pure hr (v := .string (s.extract l h)) ?_ rfl
      simp [execOp, ho, hv, Instr.sliceAt, Instr.slice, run_underlying hu, hrun]
    · cases hx
  · cases hx

theorem xs_mx {c : Call} {a b : Operand} {a' b' : Opd} (ho : o.op = .call c) (hcc : c.callee = .builtin .max) (hca : c.args.toList = [a, b]) (ha : opd a = some a') (hb : opd b = some b') (hx : xop (.mx a' b') ev H = some (x, H')) : XS P φ base H w o ρ x H' := by
  have h1 := he a a' ha
  have h2 := he b b' hb
  obtain ⟨callee, args, argTypes⟩ := c
  simp only at hcc hca
  subst hcc
  obtain rfl : args = #[a, b] := by cases args; simpa using hca
  simp only [xop] at hx
  split at hx
  · rename_i k p k' q hp hq
    rw [hp] at h1
    rw [hq] at h2
    have hv : ρ a = .int k p := h1
    have hw : ρ b = .int k' q := h2
    split at hx
    · simp only [Option.some.injEq, Prod.mk.injEq] at hx
      obtain ⟨rfl, rfl⟩ := hx
      refine XS.pure hr (v := .int k (if q > p then q else p)) ?_ ?_
      · simp [execOp, ho, resolve, invoke, builtin, Builtin.max_, Builtin.max2, hv, hw]
      · show Value.int _ _ = Value.int _ _
        congr 1
        split <;> omega
    · cases hx
  · cases hx
theorem xs_mn {c : Call} {a b : Operand} {a' b' : Opd} (ho : o.op = .call c) (hcc : c.callee = .builtin .min) (hca : c.args.toList = [a, b]) (ha : opd a = some a') (hb : opd b = some b') (hx : xop (.mn a' b') ev H = some (x, H')) : XS P φ base H w o ρ x H' := by
  have h1 := he a a' ha
  have h2 := he b b' hb
  obtain ⟨callee, args, argTypes⟩ := c
  simp only at hcc hca
  subst hcc
  obtain rfl : args = #[a, b] := by cases args; simpa using hca
  simp only [xop] at hx
  split at hx
  · rename_i k p k' q hp hq
    rw [hp] at h1
    rw [hq] at h2
    have hv : ρ a = .int k p := h1
    have hw : ρ b = .int k' q := h2
    split at hx
    · simp only [Option.some.injEq, Prod.mk.injEq] at hx
      obtain ⟨rfl, rfl⟩ := hx
      refine XS.pure hr (v := .int k (if q < p then q else p)) ?_ ?_
      · simp [execOp, ho, resolve, invoke, builtin, Builtin.min_, Builtin.min2, hv, hw]
      · show Value.int _ _ = Value.int _ _
        congr 1
        split <;> omega
    · cases hx
  · cases hx

end
end Go.Proofs.Ytmfiegjncfgohaa.Den
