/- The abstract calculus, part F: composites, rows that are made, cut, and appended to. -/
import Derived.Test.YtmfiegjncfgohaaDenE
import Derived.Laws.Tables
import Derived.Laws.AppendOwnNone
namespace Go.Proofs.Ytmfiegjncfgohaa.Den
open Go.RowKit
set_option linter.unusedVariables false
set_option linter.unusedSimpArgs false

theorem fold_set (off : Nat) : ∀ (l : List Value) (k : Nat) (cells : Array Value), off + k + l.length ≤ cells.size →
    (l.zipIdx k).foldl (fun cs p => cs.setIfInBounds (off + p.2) p.1) cells = (cells.toList.take (off + k) ++ l ++ cells.toList.drop (off + k + l.length)).toArray
  | [], k, cells, _ => by simp
  | v :: l, k, cells, h => by
    simp only [List.zipIdx_cons, List.foldl_cons, List.length_cons] at h ⊢
    rw [fold_set off l (k + 1) _ (by simp; omega)]
    have e := list_seg_step cells.toList (off + k) v l (by simp; omega)
    congr 1
    simpa [Array.toList_setIfInBounds, Nat.add_assoc] using e

theorem mapM_all {α β : Type} {g : α → Option β} : ∀ {l : List α}, (∀ a ∈ l, (g a).isSome = true) → ∃ r, l.mapM g = some r ∧ ∀ (i : Nat) a, l[i]? = some a → r[i]? = g a
  | [], _ => ⟨[], rfl, fun i a h => by simp at h⟩
  | a :: l, h => by
    obtain ⟨b, hb⟩ := Option.isSome_iff_exists.1 (h a (by simp))
    obtain ⟨r, hr, h2⟩ := mapM_all (g := g) (l := l) (fun x hx => h x (List.mem_cons_of_mem _ hx))
    refine ⟨b :: r, by simp [hb, hr], fun i x hx => ?_⟩
    cases i with
    | zero => simp at hx; subst hx; simp [hb]
    | succ i => simpa using h2 i x (by simpa using hx)

section
variable {P : Program} {φ : Phi} {base : Nat} {H H' : AHeap} {w : World} {o : Oper} {ρ : Operand → Value} {ev : Opd → AV} {x : AV}

theorem vcells_agg (l : Array Value) : (Value.agg l).cells = l := rfl

theorem fill_ok (he : Evs φ ev ρ) {fs : Array Field} {places : List (Nat × Nat)} (hp : ∀ (i : Nat) f d, fs[i]? = some f → P.info? f.type = some d → places[i]? = some (f.offset, d.size)) :
    ∀ {ps : List (Nat × Operand)} {qs : List (Nat × Nat × Opd)}, compParts P fs ps = some qs → ∀ {cs : List SV} {cells : Array Value} {r : List SV}, SRs φ cs cells.toList → afill (qs.map fun (o, s, x) => (o, s, ev x)) cs = some r →
      ∃ out : Array Value, Instr.fill (places.toArray[·]?) cells (ps.map fun (i, x) => (i, ρ x)) = some out ∧ SRs φ r out.toList
  | [], qs, h, cs, cells, r, hs, hf => by
    simp [compParts] at h
    subst h
    simp [afill] at hf
    subst hf
    exact ⟨cells, by simp [Instr.fill], hs⟩
  | (i, x) :: ps, qs, h, cs, cells, r, hs, hf => by
    unfold compParts at h
    obtain ⟨f, hfi, h⟩ := bind_some h
    obtain ⟨d, hd, h⟩ := bind_some h
    obtain ⟨y, hy, h⟩ := bind_some h
    obtain ⟨qs', hq, rfl⟩ := map_some h
    simp only [List.map_cons] at hf
    unfold afill at hf
    obtain ⟨l, hl, hf⟩ := bind_some hf
    split at hf
    · rename_i hc
      obtain ⟨hc1, hc2⟩ := hc
      have h1 := vr_cells (he x y hy) hl
      have hcl : (ρ x).cells.size = d.size := by have := h1.length; simp at this; omega
      have hcs : cs.length = cells.size := by have := hs.length; simpa using this
      have hpl := hp i f d hfi hd
      have hns : ¬ ((ρ x).cells.size ≠ d.size ∨ f.offset + (ρ x).cells.size > cells.size) := by rw [hcl]; omega
      have hfold := fold_set f.offset (ρ x).cells.toList 0 cells (by simp; omega)
      have hlen : (ρ x).cells.toList.length = d.size := by simpa using hcl
      simp only [Nat.add_zero, hlen] at hfold
      have hs' : SRs φ (cs.take f.offset ++ l ++ cs.drop (f.offset + d.size)) (cells.toList.take f.offset ++ (ρ x).cells.toList ++ cells.toList.drop (f.offset + d.size)).toArray.toList := by
        simpa using ((hs.take f.offset).append h1).append (hs.drop (f.offset + d.size))
      obtain ⟨out, ho, hr⟩ := fill_ok he hp hq hs' hf
      refine ⟨out, ?_, hr⟩
      simp only [List.map_cons]
      unfold Instr.fill
      have hpl' : places.toArray[i]? = some (f.offset, d.size) := by simpa using hpl
      simp only [hpl']
      have hb : ((ρ x).cells.size ≠ d.size || decide (f.offset + (ρ x).cells.size > cells.size)) = false := by
        simp; omega
      have hz : (ρ x).cells.zipIdx.foldl (fun cs p => cs.setIfInBounds (f.offset + p.2) p.1) cells = (cells.toList.take f.offset ++ (ρ x).cells.toList ++ cells.toList.drop (f.offset + d.size)).toArray := by
        rw [← Array.foldl_toList, Array.toList_zipIdx]
        exact hfold
      rw [if_neg (by simpa using hns)]
      have e : (fun (cs : Array Value) (x : Value × Nat) => match x with | (c, j) => cs.setIfInBounds (f.offset + j) c) = (fun cs p => cs.setIfInBounds (f.offset + p.2) p.1) := by funext cs p; rfl
      rw [e, hz]
      exact ho
    · cases hf

/-- Elements laid into a row of elements. -/
theorem fillRows_ok (he : Evs φ ev ρ) {sz : Nat} (hsz : 0 < sz) : ∀ {ps : List (Nat × Operand)} {qs : List (Nat × Opd)}, compElems ps = some qs → ∀ {rs out : List (List SV)} {cells : Array Value}, (∀ r ∈ rs, r.length = sz) → SRs φ rs.flatten cells.toList → afillRows (qs.map fun (i, x) => (i, ev x)) rs sz = some out →
      ∃ res : Array Value, Instr.fill (fun i => some (i * sz, sz)) cells (ps.map fun (i, x) => (i, ρ x)) = some res ∧ (∀ r ∈ out, r.length = sz) ∧ out.length = rs.length ∧ SRs φ out.flatten res.toList
  | [], qs, h, rs, out, cells, hl, hs, hf => by
    simp [compElems] at h
    subst h
    simp [afillRows] at hf
    subst hf
    exact ⟨cells, by simp [Instr.fill], hl, rfl, hs⟩
  | (i, x) :: ps, qs, h, rs, out, cells, hl, hs, hf => by
    unfold compElems at h
    obtain ⟨y, hy, h⟩ := bind_some h
    obtain ⟨qs', hq, rfl⟩ := map_some h
    simp only [List.map_cons] at hf
    unfold afillRows at hf
    obtain ⟨l, hl2, hf⟩ := bind_some hf
    split at hf
    · rename_i hc
      obtain ⟨hc1, hc2⟩ := hc
      have h1 := vr_cells (he x y hy) hl2
      have hcl : (ρ x).cells.size = sz := by have := h1.length; simp at this; omega
      have hcs : rs.length * sz = cells.size := by have := hs.length; rw [flat_len hl] at this; simpa using this
      have hle : i * sz + sz ≤ cells.size := by
        rw [← hcs]
        have := Nat.mul_le_mul_right sz (show i + 1 ≤ rs.length by omega)
        rw [Nat.add_mul] at this
        omega
      have hns : ¬ ((ρ x).cells.size ≠ sz ∨ i * sz + (ρ x).cells.size > cells.size) := by rw [hcl]; omega
      have hlen : (ρ x).cells.toList.length = sz := by simpa using hcl
      have hfold := fold_set (i * sz) (ρ x).cells.toList 0 cells (by rw [hlen]; omega)
      simp only [Nat.add_zero, hlen] at hfold
      have hl' : ∀ r ∈ rs.set i l, r.length = sz := fun r hr => by
        rcases List.mem_or_eq_of_mem_set hr with hr | rfl
        · exact hl r hr
        · exact hc1
      have hfl : (rs.set i l).flatten = rs.flatten.take (i * sz) ++ l ++ rs.flatten.drop (i * sz + sz) := by
        have hsplit : rs.set i l = rs.take i ++ l :: rs.drop (i + 1) := List.set_eq_take_append_cons_drop.trans (if_pos hc2)
        have ht : (rs.take i).flatten.length = i * sz := by rw [flat_len (fun r hr => hl r (List.mem_of_mem_take hr)), List.length_take, Nat.min_eq_left (by omega)]
        have hri : rs[i].length = sz := hl _ (List.getElem_mem hc2)
        have hF : rs.flatten = (rs.take i).flatten ++ (rs[i] ++ (rs.drop (i + 1)).flatten) := by
          have hrs : rs.take i ++ rs[i] :: rs.drop (i + 1) = rs := by simp
          have := congrArg List.flatten hrs
          rw [List.flatten_append, List.flatten_cons] at this
          exact this.symm
        have e1 : rs.flatten.take (i * sz) = (rs.take i).flatten := by rw [hF]; exact List.take_left' ht
        have e2 : rs.flatten.drop (i * sz + sz) = (rs.drop (i + 1)).flatten := by
          rw [hF, ← List.append_assoc]
          exact List.drop_left' (by rw [List.length_append, ht, hri])
        rw [hsplit, e1, e2]
        simp
      have hs' : SRs φ (rs.set i l).flatten (cells.toList.take (i * sz) ++ (ρ x).cells.toList ++ cells.toList.drop (i * sz + sz)).toArray.toList := by
        rw [hfl]
        simpa using ((hs.take (i * sz)).append h1).append (hs.drop (i * sz + sz))
      obtain ⟨res, ho, h2, h3, h4⟩ := fillRows_ok he hsz hq hl' hs' hf
      refine ⟨res, ?_, h2, by simpa using h3, h4⟩
      simp only [List.map_cons]
      unfold Instr.fill
      have hz : (ρ x).cells.zipIdx.foldl (fun cs p => cs.setIfInBounds (i * sz + p.2) p.1) cells = (cells.toList.take (i * sz) ++ (ρ x).cells.toList ++ cells.toList.drop (i * sz + sz)).toArray := by
        rw [← Array.foldl_toList, Array.toList_zipIdx]
        exact hfold
      simp only
      rw [if_neg (by simpa using hns)]
      have e : (fun (cs : Array Value) (x : Value × Nat) => match x with | (c, j) => cs.setIfInBounds (i * sz + j) c) = (fun cs p => cs.setIfInBounds (i * sz + p.2) p.1) := by funext cs p; rfl
      rw [e, hz]
      exact ho
    · cases hf

/-- So many zeros beside each other. -/
theorem zeros_flat {z : List SV} {zc : Array Value} (h : SRs φ z zc.toList) (hz : 0 < zc.size) : ∀ n : Nat, SRs φ (List.replicate n z).flatten ((Array.range (n * zc.size)).map (zc[· % zc.size]!)).toList := by
  intro n
  have hzl : z.length = zc.size := by have := h.length; simpa using this
  refine SRs.of_get ?_ (fun j x v hx hv => ?_)
  · rw [flat_len (sz := z.length) (fun r hr => by rw [List.eq_of_mem_replicate hr])]
    simp [hzl]
  · have hj : j < n * zc.size := by have := (List.getElem?_eq_some_iff.1 hv).1; simpa using this
    have hjn : j / zc.size < n := Nat.div_lt_of_lt_mul (by rw [Nat.mul_comm]; exact hj)
    have hjm : j % zc.size < z.length := by rw [hzl]; exact Nat.mod_lt _ hz
    have e1 := flat_get (rows := List.replicate n z) (sz := zc.size) (fun r hr => by rw [List.eq_of_mem_replicate hr, hzl]) (i := j / zc.size) (r := z) (by simp [List.getElem?_replicate, hjn]) (j := j % zc.size) (x := z[j % zc.size]) (List.getElem?_eq_getElem hjm)
    rw [show j / zc.size * zc.size + j % zc.size = j by rw [Nat.mul_comm]; exact Nat.div_add_mod j _] at e1
    rw [e1] at hx
    obtain rfl := Option.some.inj hx
    obtain ⟨u, hu, hs⟩ := h.get (j % zc.size) _ (List.getElem?_eq_getElem hjm)
    have hv' : zc[j % zc.size]! = v := by
      simp only [Array.toList_map, List.getElem?_map, Array.toList_range, List.getElem?_range, hj] at hv
      simpa using hv
    rw [← hv']
    have hlt : j % zc.size < zc.size := Nat.mod_lt _ hz
    have : zc[j % zc.size]! = u := by
      rw [getElem!_pos zc _ hlt]
      simpa [hlt] using hu
    rw [this]
    exact hs

variable (hr : Rel φ base H w) (he : Evs φ ev ρ)
include hr he
set_option linter.unusedSectionVars false

theorem xs_build {t : TypeId} {ps : Array (Nat × Operand)} {fs : Array Field} {sz b : Nat} {z : List SV} {qs : List (Nat × Nat × Opd)} (ho : o.op = .build t ps) (hu : P.underlying t = some (.struct fs)) (hfs : sizesOk P fs = true) (hi : einfo P t = some (sz, b, z)) (hp : compParts P fs ps.toList = some qs)
    (hx : xop (.build z qs) ev H = some (x, H')) : XS P φ base H w o ρ x H' := by
  obtain ⟨i, zv, h1, h2, h3, h4, h5, h6, h7, h8⟩ := einfo_ok hi
  simp only [xop] at hx
  obtain ⟨l, hl, hx⟩ := map_some hx
  simp only [Prod.mk.injEq] at hx
  obtain ⟨rfl, rfl⟩ := hx
  obtain ⟨places, hpl, hat⟩ := mapM_all (g := fun f => (P.info? f.type).map fun i => (f.offset, i.size)) (l := fs.toList) (fun a ha => by
    unfold sizesOk at hfs
    simpa using List.all_eq_true.1 hfs a ha)
  obtain ⟨out, hout, hs⟩ := fill_ok (P := P) he (fs := fs) (places := places) (fun i f d hf hd => by rw [hat i f (by simpa using hf), hd]; rfl) hp (h8 φ) hl
  have hb : P.built t (ps.map fun (i, x) => (i, ρ x)).toList = some out := by
    unfold Program.built
    simp only [h1, hu, h2, hpl]
    simpa using hout
  refine XS.pure hr (v := .agg out) ?_ ⟨_, rfl, hs⟩
  have := run_build w t (ps.map fun (i, x) => (i, ρ x)) out hb
  simp [execOp, ho, this]

theorem new_sl {ty sz n cap c : Nat} {cells : Array Value} (hn : n ≤ c) (hc : c ≤ cap) (hm : cap ≤ maxLen) : VR (setPlace φ H.nx ⟨w.heap.size, 0, cap, sz⟩) (.s (.sl H.nx 0 n c)) (.slice (some ⟨w.heap.size, 0, none⟩) n cap) :=
  ⟨_, cap, ⟨w.heap.size, 0, cap, sz⟩, rfl, hn, hc, hm, setPlace_same, .inr ⟨by simp [Place.at], by simp⟩⟩

theorem xs_mkrow {t e : TypeId} {n : Nat} {ps : Array (Nat × Operand)} {sz b : Nat} {z : List SV} {qs : List (Nat × Opd)} (ho : o.op = .buildSlice t n ps) (hu : P.underlying t = some (.slice e)) (hi : einfo P e = some (sz, b, z)) (hn : n * sz ≤ 16777216) (hp : compElems ps.toList = some qs)
    (hx : xop (.mkrow e sz z n qs) ev H = some (x, H')) : XS P φ base H w o ρ x H' := by
  obtain ⟨i, zv, h1, h2, h3, h4, h5, h6, h7, h8⟩ := einfo_ok hi
  simp only [xop] at hx
  obtain ⟨rs, hrs, hx⟩ := map_some hx
  simp only [Prod.mk.injEq] at hx
  obtain ⟨rfl, rfl⟩ := hx
  have h9 := h8 φ
  have hz := zeros_flat h9 (by omega) n
  rw [h7] at hz
  obtain ⟨res, hres, hl, hlen, hs⟩ := fillRows_ok he h6 hp (rs := List.replicate n z) (cells := (Array.range (n * sz)).map (zv.cells[· % sz]!)) (fun r hr => by rw [List.eq_of_mem_replicate hr, h5]) (by simpa using hz) hrs
  have hsize : res.size = n * sz := by
    have := hs.length
    rw [flat_len hl, hlen] at this
    simpa using this.symm
  have hn2 : n ≤ 16777216 := Nat.le_trans (Nat.le_mul_of_pos_right n h6) hn
  have hmx : n ≤ maxLen := by unfold maxLen; omega
  rw [List.length_replicate] at hlen
  refine ⟨.slice (some ⟨w.heap.size, 0, none⟩) n n, _, w.alloc (.cells res e), .inl ?_, Goes.push hr (cells := res) (cap := n) (alloc_heap w _) rfl rfl rfl (Holds.of_flat hl hs (fun q v hq => by simpa using hq)) hsize (by omega) hmx, new_sl (ty := e) (cells := res) hr he (Nat.le_refl _) (Nat.le_refl _) hmx⟩
  have hnot : ¬ (16777216 < n * sz) := by omega
  subst h3
  by_cases h0 : n * i.size = 0
  · have hn0 : n = 0 := by rcases Nat.mul_eq_zero.1 h0 with h | h <;> omega
    subst hn0
    have hres' : Instr.fill (fun j => some (j * i.size, i.size)) #[] (ps.toList.map fun (i, x) => (i, ρ x)) = some res := by simpa [Array.range_zero'] using hres
    simp [execOp, ho, Instr.buildSlice, run_underlying hu, sizeOf, typeInfo, h1, newRow, Array.range_zero', hres']
  · have hres' : Instr.fill (fun j => some (j * i.size, i.size)) ((Array.range (n * i.size)).map (zv.cells[· % zv.cells.size]!)) (ps.toList.map fun (i, x) => (i, ρ x)) = some res := by rw [h7]; exact hres
    simp [execOp, ho, Instr.buildSlice, run_underlying hu, sizeOf, typeInfo, zeroValue, h1, h2, hnot, h0, newRow, hres']

theorem xs_mkslice {t e : TypeId} {l c : Operand} {l' c' : Opd} {sz b : Nat} {z : List SV} (ho : o.op = .makeSlice t l c) (hu : P.underlying t = some (.slice e)) (hi : einfo P e = some (sz, b, z)) (hl : opd l = some l') (hc : opd c = some c')
    (hx : xop (.mkslice e sz b z l' c') ev H = some (x, H')) : XS P φ base H w o ρ x H' := by
  obtain ⟨i, zv, h1, h2, h3, h4, h5, h6, h7, h8⟩ := einfo_ok hi
  have k1 := he l l' hl
  have k2 := he c c' hc
  simp only [xop] at hx
  split at hx
  · rename_i n m hp hq
    rw [hp] at k1
    rw [hq] at k2
    have hv : ρ l = .int .i64 n := k1
    have hw : ρ c = .int .i64 m := k2
    split at hx
    · rename_i hb
      obtain ⟨b1, b2, b3, b4⟩ := hb
      simp only [Option.some.injEq, Prod.mk.injEq] at hx
      obtain ⟨rfl, rfl⟩ := hx
      subst h3
      subst h4
      have hrun := run_make (P := P) w t e i zv hu h1 h2 .i64 .i64 n m b1 b2 (by rw [Int.mul_comm]; omega) (by omega)
      have h9 := h8 φ
      have hz := zeros_flat h9 (by omega) m.toNat
      have hmx : m.toNat ≤ maxLen := by unfold maxLen; omega
      rw [h7] at hz
      have hmade : madeCells zv.cells (m.toNat * i.size) = (Array.range (m.toNat * i.size)).map (zv.cells[· % i.size]!) := by unfold madeCells; rw [h7]
      refine ⟨.slice (some ⟨w.heap.size, 0, none⟩) n.toNat m.toNat, _, _, .inl (by simp [execOp, ho, hv, hw, hrun]; rfl), Goes.push hr (cap := m.toNat) (alloc_heap w _) rfl rfl rfl ?_ (size_madeCells _ _) (by simp) hmx, new_sl (ty := e) (cells := madeCells zv.cells (m.toNat * i.size)) hr he (by omega) (Nat.le_refl _) hmx⟩
      rw [hmade]
      exact Holds.of_flat (fun r hr => by rw [List.eq_of_mem_replicate hr, h5]) hz (fun q v hq => by rw [← Array.getElem?_toList]; exact hq)
    · cases hx
  · cases hx

end
end Go.Proofs.Ytmfiegjncfgohaa.Den
