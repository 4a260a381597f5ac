import Derived.Test.YtpidphppldimkaaE10
namespace Go.Proofs.Ytpidphppldimkaa.Den
open Go.RowKit
set_option linter.unusedSimpArgs false
set_option linter.unusedVariables false
set_option maxRecDepth 10000
set_option maxHeartbeats 1000000
/-! The table of who holds what, in memory. -/
structure HM (H0 H : AHeap) (bE : Nat) (p l : SV) (e : Ep) (hs : SV) (svs : List SV) (held : List (List Int)) : Prop where
  w : Wf H
  s : Sub H0 H
  be : H0.nx ≤ bE
  bn : H0.get bE = none
  g : H.get bE = some ⟨3, 27, true, [[.int .i64 e.now, p, l]]⟩
  ea : EpAt H p l e
  ho : Ow H hs 1 24 (svs.map fun v => [v])
  hn : New H0 hs
  hf : OffS hs bE
  hp : Apart hs p
  hl : Apart hs l
  len : svs.length = held.length
  sv : ∀ k (h : k < svs.length) (h' : k < held.length), Ow H svs[k] 1 3 (pinsR held[k]) ∧ New H0 svs[k] ∧ OffS svs[k] bE ∧ Apart hs svs[k] ∧ Apart svs[k] p ∧ Apart svs[k] l
  ap : ∀ j k (hj : j < svs.length) (hk : k < svs.length), j ≠ k → Apart svs[j] svs[k]

theorem apart_off {b i n c : Nat} {t : SV} (h : Apart (.sl b i n c) t) : OffS t b := by
  cases t <;> first | exact trivial | exact h
theorem EpAt.updO {H : AHeap} {p l : SV} {e : Ep} (h : EpAt H p l e) {b n c i : Nat} (hp : Apart (.sl b i n c) p) (hl : Apart (.sl b i n c) l) (k : Blk) : EpAt (H.upd b k) p l e := ⟨h.p.updA hp k, h.l.updA hl k, h.pl, h.ll, h.w⟩
theorem HM.sub {H0 H H' : AHeap} {bE : Nat} {p l : SV} {e : Ep} {hs : SV} {svs : List SV} {held : List (List Int)} (h : HM H0 H bE p l e hs svs held) (hw : Wf H') (hsb : Sub H H') : HM H0 H' bE p l e hs svs held :=
  ⟨hw, h.s.trans hsb, h.be, h.bn, hsb.get _ _ h.g, h.ea.sub hsb, h.ho.sub hsb, h.hn, h.hf, h.hp, h.hl, h.len, fun k hk hk' => (by obtain ⟨a, r⟩ := h.sv k hk hk'; exact ⟨a.sub hsb, r⟩), h.ap⟩
/-- Another table of epochs in the old one's place. -/
theorem HM.call {H0 H H' : AHeap} {bE : Nat} {p l : SV} {e : Ep} {hs : SV} {svs : List SV} {held : List (List Int)} (h : HM H0 H bE p l e hs svs held) (hw : Wf H') (hsb : Sub H H') {p' l' : SV} {e' : Ep} (n : EpNew H H' p' l' e') : HM H0 (H'.upd bE ⟨3, 27, true, [[.int .i64 e'.now, p', l']]⟩) bE p' l' e' hs svs held :=
  have h' := h.sub hw hsb
  { w := hw.updS h'.g _
    s := h'.s.upd h.bn _
    be := h.be
    bn := h.bn
    g := get_upd_same
    ea := ⟨(n.po.updN n.pn h.g _).sl, (n.lo.updN n.ln h.g _).sl, n.pl, n.ll, n.w⟩
    ho := h'.ho.updO h.hf _
    hn := h.hn
    hf := h.hf
    hp := n.pn.apart h.ho.sl
    hl := n.ln.apart h.ho.sl
    len := h.len
    sv := fun k hk hk' => by
      obtain ⟨a, b, c, d, _, _⟩ := h.sv k hk hk'
      exact ⟨(a.sub hsb).updO c _, b, c, d, n.pn.apart a.sl, n.ln.apart a.sl⟩
    ap := h.ap }
/-- One of the lists becomes another. -/
theorem HM.put {H0 H H1 : AHeap} {bE : Nat} {p l : SV} {e : Ep} {hs : SV} {svs : List SV} {held : List (List Int)} (h : HM H0 H bE p l e hs svs held) {t : Nat} (ht : t < svs.length) {s' : SV} (hk : Kept svs[t] H s' H1) (hw : Wf H1) {x : List Int} (hx : Ow H1 s' 1 3 (pinsR x)) :
    ∃ b n c rows, hs = .sl b 0 n c ∧ n = svs.length ∧ H.get b = some ⟨1, 24, true, rows⟩ ∧ rows[t]? = some [svs[t]] ∧ H1.get b = some ⟨1, 24, true, rows⟩ ∧ HM H0 (H1.upd b ⟨1, 24, true, rows.set t [s']⟩) bE p l e hs (svs.set t s') (held.set t x) := by
  obtain ⟨b, n, c, rows, e1, e2, e3, e4, e5⟩ := h.ho.set (j := t) (by rw [List.length_map]; exact ht)
  rw [List.length_map] at e2
  rw [List.getElem_map] at e4
  have ht' : t < held.length := by rw [← h.len]; exact ht
  obtain ⟨q1, q2, q3, q4, q5, q6⟩ := h.sv t ht ht'
  subst e1
  have g1 : H1.get b = some ⟨1, 24, true, rows⟩ := hk.get b _ e3 (apart_off q4)
  have s1 : Sub H0 H1 := hk.sub h.s q2
  have a1 : Apart s' (.sl b 0 n c) := hk.apart h.ho.sl q4.symm
  refine ⟨b, n, c, rows, rfl, e2, e3, e4, g1, ?_⟩
  exact
  { w := hw.updS g1 _
    s := s1.upd h.hn _
    be := h.be
    bn := h.bn
    g := (get_upd_ne h.hf).trans (hk.get bE _ h.g q3)
    ea := EpAt.updO ⟨hk.sl h.ea.p q5, hk.sl h.ea.l q6, h.ea.pl, h.ea.ll, h.ea.w⟩ h.hp h.hl _
    ho := by have := e5 H1 [s'] g1; rwa [← List.map_set] at this
    hn := h.hn
    hf := h.hf
    hp := h.hp
    hl := h.hl
    len := by rw [List.length_set, List.length_set]; exact h.len
    sv := fun k k1 k2 => by
      rw [List.length_set] at k1 k2
      rw [List.getElem_set, List.getElem_set]
      by_cases htk : t = k
      · rw [if_pos htk, if_pos htk]
        exact ⟨hx.updA a1.symm _, hk.new h.s q2, hk.off bE _ h.g q3, a1.symm, hk.apart h.ea.p q5, hk.apart h.ea.l q6⟩
      · rw [if_neg htk, if_neg htk]
        obtain ⟨r1, r2, r3, r4, r5, r6⟩ := h.sv k k1 k2
        exact ⟨(hk.ow r1 (h.ap t k ht k1 htk)).updA r4 _, r2, r3, r4, r5, r6⟩
    ap := fun j k hj hkk hne => by
      rw [List.length_set] at hj hkk
      have hj' : j < held.length := by rw [← h.len]; exact hj
      have hk' : k < held.length := by rw [← h.len]; exact hkk
      rw [List.getElem_set, List.getElem_set]
      by_cases h1 : t = j
      · rw [if_pos h1, if_neg (fun e => hne (h1.symm.trans e))]
        exact hk.apart (h.sv k hkk hk').1.sl (h.ap t k ht hkk (fun e => hne (h1.symm.trans e)))
      · rw [if_neg h1]
        by_cases h2 : t = k
        · rw [if_pos h2]
          exact (hk.apart (h.sv j hj hj').1.sl (h.ap t j ht hj h1)).symm
        · rw [if_neg h2]
          exact h.ap j k hj hkk hne }
theorem kept_nil {H : AHeap} {s : SV} : Kept s H .nils H := ⟨Nat.le_refl _, fun _ _ h _ => h, fun _ _ _ _ => trivial⟩

/-! What is true of it. -/
theorem ls_iff {now : Int} {l : List (Int × Int)} : (∀ i, ListOk now l i) ↔ (∀ x ∈ l, 1 ≤ x.2 ∧ x.2 ≤ now ∧ 1 ≤ x.1) ∧ l.Pairwise fun a b => a.1 ≠ b.1 := by
  rw [List.pairwise_iff_getElem]
  constructor
  · refine fun h => ⟨fun x hx => ?_, fun i j hi hj hij => (h j hj).2.2.2 i hij⟩
    obtain ⟨i, hi, rfl⟩ := List.getElem_of_mem hx
    have := h i hi
    exact ⟨this.1, this.2.1, this.2.2.1⟩
  · exact fun ⟨h1, h2⟩ i hi => ⟨(h1 _ (List.getElem_mem hi)).1, (h1 _ (List.getElem_mem hi)).2.1, (h1 _ (List.getElem_mem hi)).2.2, fun j hj => h2 j i (by omega) hi hj⟩
structure Holds1 (e : Ep) (held : List (List Int)) (next : Int) : Prop where
  ok : EpOk e
  len : held.length = e.pins.length
  fresh : ∀ x ∈ e.list, x.1 < next
  old : ∀ k (h : k < held.length), ∀ id ∈ held[k], id < next
  idle : ∀ k (h : k < held.length) (h' : k < e.pins.length), e.pins[k] = 0 → held[k] = []
  main : ∀ k (h : k < held.length) (h' : k < e.pins.length), ∀ id ∈ held[k], ∀ x ∈ e.list, x.1 = id → e.pins[k] ≤ x.2
theorem ok_set {e : Ep} (h : EpOk e) {t : Nat} {x : Int} (hx : PinOk e.now x) : EpOk { e with pins := e.pins.set t x } :=
  ⟨h.n1, h.n2, by simpa using h.p1, by simpa using h.p2, h.l2, fun q hq => by rcases List.mem_or_eq_of_mem_set hq with hq | rfl; exact h.ps q hq; exact hx, h.ls⟩
theorem Holds1.pin {e e' : Ep} {held : List (List Int)} {next : Int} (h : Holds1 e held next) {t : Nat} (ht : t < e.pins.length) {ok : Bool} (hp : PinnedTo e t true ok e') : Holds1 e' held next := by
  cases hp with
  | no _ => exact h
  | yes hq =>
    obtain ⟨_, _, _, hz⟩ := hq
    have hz : e.pins[t] = 0 := by simpa [ht] using hz
    refine ⟨ok_set h.ok (.inr ⟨h.ok.n1, .inl rfl⟩), by simpa using h.len, h.fresh, h.old, fun k h1 h2 h3 => ?_, fun k h1 h2 id hid x hx hxi => ?_⟩
    · simp only [Int.toNat_natCast, if_true, List.getElem_set] at h3
      split at h3
      · have := h.ok.n1; omega
      · exact h.idle k h1 (by simpa using h2) h3
    · simp only [Int.toNat_natCast, if_true, List.getElem_set]
      split
      · rename_i htk
        subst htk
        rw [h.idle t h1 ht hz] at hid; cases hid
      · exact h.main k h1 (by simpa using h2) id hid x hx hxi
theorem Holds1.unpin {e e' : Ep} {held : List (List Int)} {next : Int} (h : Holds1 e held next) {t : Nat} (ht : t < e.pins.length) {ok : Bool} (hp : PinnedTo e t false ok e') : (ok = false ∧ Holds1 e' held next) ∨ (ok = true ∧ Holds1 e' (held.set t []) next) := by
  cases hp with
  | no _ => exact .inl ⟨rfl, h⟩
  | yes hq =>
    refine .inr ⟨rfl, ok_set h.ok (.inl rfl), by simpa using h.len, h.fresh, fun k h1 id hid => ?_, fun k h1 h2 h3 => ?_, fun k h1 h2 id hid x hx hxi => ?_⟩
    · rw [List.getElem_set] at hid
      split at hid
      · cases hid
      · exact h.old k (by simpa using h1) id hid
    · simp only [Int.toNat_natCast, List.getElem_set] at h3 ⊢
      split
      · rfl
      · rename_i hne
        rw [if_neg hne] at h3
        exact h.idle k (by simpa using h1) (by simpa using h2) h3
    · rw [List.getElem_set] at hid
      split at hid
      · cases hid
      · rename_i hne
        simp only [Int.toNat_natCast, List.getElem_set, if_neg hne]
        exact h.main k (by simpa using h1) (by simpa using h2) id hid x hx hxi
theorem Holds1.turn {e e' : Ep} {held : List (List Int)} {next : Int} (h : Holds1 e held next) {ok : Bool} (hp : GoesTo e { e with now := e.now + 1 } ok e') : Holds1 e' held next := by
  cases hp with
  | no _ => exact h
  | yes hq => exact ⟨hq.2, h.len, h.fresh, h.old, h.idle, h.main⟩
theorem Holds1.retire {e e' : Ep} {held : List (List Int)} {next : Int} (h : Holds1 e held next) {ok : Bool} (hp : GoesTo e { e with list := e.list ++ [(next, e.now)] } ok e') : Holds1 e' held (next + 1) ∧ (ok = true → ∀ x ∈ e'.list, x.1 = next → x.2 = e'.now) := by
  cases hp with
  | no _ => exact ⟨⟨h.ok, h.len, fun x hx => by have := h.fresh x hx; omega, fun k hk id hid => by have := h.old k hk id hid; omega, h.idle, h.main⟩, fun h => by cases h⟩
  | yes hq =>
    refine ⟨⟨hq.2, h.len, fun x hx => ?_, fun k hk id hid => by have := h.old k hk id hid; omega, h.idle, fun k h1 h2 id hid x hx hxi => ?_⟩, fun _ x hx hxi => ?_⟩
    · rcases List.mem_append.1 hx with hx | hx
      · have := h.fresh x hx; omega
      · simp at hx; subst hx; show next < next + 1; omega
    · rcases List.mem_append.1 hx with hx | hx
      · exact h.main k h1 h2 id hid x hx hxi
      · simp at hx; subst hx
        have := h.old k h1 id hid
        simp only at hxi; omega
    · rcases List.mem_append.1 hx with hx | hx
      · have := h.fresh x hx; omega
      · simp at hx; subst hx; rfl
theorem Holds1.add {e : Ep} {held : List (List Int)} {next : Int} (h : Holds1 e held (next + 1)) (hn : ∀ x ∈ e.list, x.1 = next → x.2 = e.now) {k : Nat} (hk : k < held.length) (hk' : k < e.pins.length) (hp : 0 < e.pins[k]) : Holds1 e (held.set k (held[k] ++ [next])) (next + 1) := by
  refine ⟨h.ok, by simpa using h.len, h.fresh, fun j hj id hid => ?_, fun j h1 h2 h3 => ?_, fun j h1 h2 id hid x hx hxi => ?_⟩
  · rw [List.getElem_set] at hid
    split at hid
    · rcases List.mem_append.1 hid with hid | hid
      · exact h.old k hk id hid
      · simp at hid; omega
    · exact h.old j (by simpa using hj) id hid
  · rw [List.getElem_set]
    split
    · subst_vars; omega
    · exact h.idle j (by simpa using h1) h2 h3
  · rw [List.getElem_set] at hid
    split at hid
    · subst_vars
      rcases List.mem_append.1 hid with hid | hid
      · exact h.main _ hk hk' _ hid x hx rfl
      · simp at hid
        rw [hn x hx hid]
        have hps := h.ok.ps _ (List.getElem_mem hk')
        rcases hps with h | ⟨_, h | h⟩ <;> omega
    · exact h.main j (by simpa using h1) h2 id hid x hx hxi
theorem Holds1.collect {e e' : Ep} {held : List (List Int)} {next : Int} (h : Holds1 e held next) {ids : List Int} (hc : Collected e e' ids) : Holds1 e' held next ∧ ∀ id ∈ ids, ∀ k (hk : k < held.length), id ∉ held[k] := by
  cases hc with
  | no hn => exact absurd h.ok hn
  | yes ho =>
    have hsub : ∀ x ∈ restOf e.now e.list, x ∈ e.list := fun x hx => (List.mem_filter.1 hx).1
    have hls := ls_iff.1 ho.ls
    refine ⟨⟨⟨ho.n1, ho.n2, ho.p1, ho.p2, Nat.le_trans (List.length_filter_le ..) ho.l2, ho.ps, ls_iff.2 ⟨fun x hx => hls.1 x (hsub x hx), hls.2.filter _⟩⟩, h.len, fun x hx => h.fresh x (hsub x hx), h.old, h.idle, fun k h1 h2 id hid x hx => h.main k h1 h2 id hid x (hsub x hx)⟩, fun id hid k hk hmem => ?_⟩
    obtain ⟨x, hx, rfl⟩ := List.mem_map.1 hid
    obtain ⟨hx, hle⟩ := List.mem_filter.1 hx
    have hle := of_decide_eq_true hle
    have hk' : k < e.pins.length := by rw [← h.len]; exact hk
    have := h.main k hk hk' _ hmem x hx rfl
    rcases ho.ps _ (List.getElem_mem hk') with h0 | ⟨_, h0 | h0⟩
    · rw [h.idle k hk hk' h0] at hmem; cases hmem
    · omega
    · omega
end Go.Proofs.Ytpidphppldimkaa.Den
