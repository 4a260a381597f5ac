/- The abstract calculus, part E: the operations that make and write blocks. -/
import Derived.Test.YtmfiegjncfgohaaDenD
namespace Go.Proofs.Ytmfiegjncfgohaa.Den
open Go.RowKit
set_option linter.unusedVariables false
set_option linter.unusedSimpArgs false

section
variable {P : Program} {φ : Phi} {base : Nat} {H H' : AHeap} {w : World} {o : Oper} {ρ : Operand → Value} {ev : Opd → AV} {x : AV}

theorem alloc_heap (w : World) (o : Obj) : (w.alloc o).heap = w.heap.push o := rfl

/-- What einfo tells. -/
theorem einfo_ok {t : TypeId} {sz by_ : Nat} {z : List SV} (h : einfo P t = some (sz, by_, z)) : ∃ i zv, P.info? t = some i ∧ i.zero = some zv ∧ i.size = sz ∧ i.bytes = by_ ∧ z.length = sz ∧ 0 < sz ∧ zv.cells.size = sz ∧ ∀ φ, SRs φ z zv.cells.toList := by
  unfold einfo at h
  obtain ⟨i, hi, h⟩ := bind_some h
  obtain ⟨zv, hz, h⟩ := bind_some h
  obtain ⟨l, hl, h⟩ := bind_some h
  split at h
  · rename_i hc
    simp only [Option.some.injEq, Prod.mk.injEq] at h
    obtain ⟨rfl, rfl, rfl⟩ := h
    refine ⟨i, zv, hi, hz, rfl, rfl, hc.1, hc.2, ?_, fun φ => svs_ok hl⟩
    have := (svs_ok (φ := ⟨fun _ => none, fun _ => none⟩) hl).length
    simp at this
    omega
  · cases h

/-- One new block of one element. -/
theorem Goes.push1 (hr : Rel φ base H w) {cells : Array Value} {l : List SV} {ty : Nat} (h : SRs φ l cells.toList) (hm : 1 ≤ maxLen := by decide) :
    Goes φ base H w (setPlace φ H.nx ⟨w.heap.size, 0, 1, l.length⟩) (H.push ⟨l.length, ty, [l]⟩) (w.alloc (.cells cells ty)) := by
  refine Goes.push hr (cap := 1) (alloc_heap w _) rfl rfl rfl (Holds.of_flat (vs := cells.toList) (by simp) (by simpa using h) (fun q v hq => by simpa using hq)) ?_ (by simp) hm
  have := h.length
  simp at this
  omega
theorem new_ptr {sz cap : Nat} : VR (setPlace φ H.nx ⟨w.heap.size, 0, cap, sz⟩) (.s (.ptr H.nx 0 0)) (.pointer (some ⟨w.heap.size, 0, none⟩)) :=
  ⟨_, rfl, ⟨w.heap.size, 0, cap, sz⟩, setPlace_same, by simp [Place.at]⟩

variable (hr : Rel φ base H w) (he : Evs φ ev ρ)
include hr he
set_option linter.unusedSectionVars false

theorem xs_alloc {t : TypeId} {sz b : Nat} {z : List SV} (ho : o.op = .alloc t) (hi : einfo P t = some (sz, b, z)) (hx : xop (.alloc t sz z) ev H = some (x, H')) : XS P φ base H w o ρ x H' := by
  obtain ⟨i, zv, h1, h2, h3, h4, h5, h6, h7, h8⟩ := einfo_ok hi
  simp only [xop, Option.some.injEq, Prod.mk.injEq] at hx
  obtain ⟨rfl, rfl⟩ := hx
  subst h5
  exact ⟨_, _, _, .inl (by simp [execOp, ho, Instr.alloc, zeroValue, typeInfo, h1, h2, newVar, newRow] <;> rfl), Goes.push1 hr (h8 φ), new_ptr⟩

theorem xs_box {t : TypeId} {a : Operand} {a' : Opd} (ho : o.op = .box t a) (ha : opd a = some a') (hx : xop (.box t a') ev H = some (x, H')) : XS P φ base H w o ρ x H' := by
  have h1 := he a a' ha
  simp only [xop] at hx
  obtain ⟨l, hl, hx⟩ := bind_some hx
  simp only [Option.some.injEq, Prod.mk.injEq] at hx
  obtain ⟨rfl, rfl⟩ := hx
  exact ⟨_, _, _, .inl (by simp [execOp, ho, Instr.box, newVar, newRow] <;> rfl), Goes.push1 hr (vr_cells h1 hl), new_ptr⟩

theorem xs_store {t : TypeId} {a b : Operand} {a' b' : Opd} {i : TypeInfo} (ho : o.op = .store t a b) (hi : P.info? t = some i) (ha : opd a = some a') (hb : opd b = some b') (hx : xop (.store i.size a' b') ev H = some (x, H')) : XS P φ base H w o ρ x H' := by
  have h1 := he a a' ha
  have h2 := he b b' hb
  simp only [xop] at hx
  split at hx
  · rename_i c e j hp
    rw [hp] at h1
    obtain ⟨ad, hv, p, hφ, rfl⟩ := vr_s h1
    obtain ⟨l, hl, hx⟩ := bind_some hx
    have hs := vr_cells h2 hl
    split at hx
    · rename_i hn
      obtain ⟨H1, hH, hx⟩ := map_some hx
      simp only [Prod.mk.injEq] at hx
      obtain ⟨rfl, rfl⟩ := hx
      unfold AHeap.put at hH
      obtain ⟨k, hk, hH⟩ := bind_some hH
      obtain ⟨r, hrow, hH⟩ := bind_some hH
      split at hH
      · rename_i hc
        have hle := hc
        obtain rfl := (Option.some.inj hH).symm
        obtain ⟨p', hp', ok⟩ := hr.blk c k hk
        rw [hφ] at hp'
        obtain rfl := Option.some.inj hp'
        have hown : p.cap ≠ 0 := ok.cap_of (fun e => by rw [e] at hrow; cases hrow)
        obtain ⟨o1, o2, o3, o4, cells, o5, o6⟩ := ok.real hown
        have he' : e < k.rows.length := (List.getElem?_eq_some_iff.1 hrow).1
        have hrl : r.length = k.sz := (ok.rows e r hrow).1
        have hcl : (ρ b).cells.toList.length = l.length := hs.length.symm
        have hfit : e * k.sz + j + l.length ≤ cells.size := by
          rw [o6]
          have h3 : (e + 1) * k.sz ≤ p.cap * k.sz := Nat.mul_le_mul_right _ (by omega)
          rw [Nat.add_mul] at h3
          omega
        have hrun := run_storeCells_at P p.blk (e * k.sz + j) k.ty (ρ b).cells.toList 0 cells w o5 (by rw [hcl]; omega) (fun v hv => hs.one v hv)
        simp only [Nat.add_zero, hcl] at hrun
        have haddr : p.at (e * p.sz + j) = ⟨p.blk, e * k.sz + j, none⟩ := by simp [Place.at, o1, ok.sz]
        refine ⟨undef, φ, _, .inr ⟨?_, rfl⟩, Goes.upd hr (cells := (cells.toList.take (e * k.sz + j) ++ (ρ b).cells.toList ++ cells.toList.drop (e * k.sz + j + l.length)).toArray) hk hφ hown (setRow_heap w p.blk cells _ k.ty _ o5) (fun r hr => setRow_other w p.blk r _ (by omega)) (by simp) rfl rfl rfl ?_ ?_ (by simp; exact o3), trivial⟩
        · have hsz : (ρ b).cells.size = i.size := by simpa [hn] using hcl
          simp [execOp, ho, hv, Instr.storeAt, Instr.sureAddr, storeVar, sizeOf, typeInfo, hi, hsz, haddr, hrun]
        · have hl1 : (cells.toList.take (e * k.sz + j)).length = e * k.sz + j := by simp; omega
          intro q s hq
          rw [List.getElem?_set] at hq
          split at hq
          · rename_i hqe
            subst hqe
            simp only [he', if_true, Option.some.injEq] at hq
            subst hq
            refine ⟨by simp; omega, fun m y hy => ?_⟩
            rw [List.append_assoc] at hy
            simp only [List.getElem?_toArray]
            rcases Nat.lt_or_ge m j with hm | hm
            · rw [List.getElem?_append_left (by simp; omega), List.getElem?_take, if_pos hm] at hy
              obtain ⟨v, hv', hsr⟩ := (ok.rows e r hrow).2 m y hy
              refine ⟨v, ?_, hsr⟩
              simp only [Place.at, o1, Nat.zero_add] at hv'
              rw [cell_of_row w _ _ _ _ _ o5] at hv'
              rw [List.append_assoc, List.getElem?_append_left (by rw [hl1]; omega), List.getElem?_take, if_pos (by omega)]
              simpa using hv'
            · rw [List.getElem?_append_right (by simp; omega)] at hy
              have hj : (List.take j r).length = j := by simp; omega
              rw [hj] at hy
              rw [List.append_assoc, List.getElem?_append_right (by rw [hl1]; omega), hl1]
              rcases Nat.lt_or_ge (m - j) l.length with hm2 | hm2
              · rw [List.getElem?_append_left hm2] at hy
                obtain ⟨v, hv', hsr⟩ := hs.get _ _ hy
                refine ⟨v, ?_, hsr⟩
                rw [List.getElem?_append_left (by rw [hcl]; omega), show e * k.sz + m - (e * k.sz + j) = m - j by omega]
                exact hv'
              · rw [List.getElem?_append_right hm2, List.getElem?_drop] at hy
                obtain ⟨v, hv', hsr⟩ := (ok.rows e r hrow).2 _ y hy
                refine ⟨v, ?_, hsr⟩
                simp only [Place.at, o1, Nat.zero_add] at hv'
                rw [cell_of_row w _ _ _ _ _ o5] at hv'
                rw [List.getElem?_append_right (by rw [hcl]; omega), hcl, List.getElem?_drop]
                have e1 : e * k.sz + j + l.length + (e * k.sz + m - (e * k.sz + j) - l.length) = e * k.sz + (j + l.length + (m - j - l.length)) := by omega
                rw [e1]
                simpa using hv'
          · rename_i hne
            have hql : q < k.rows.length := (List.getElem?_eq_some_iff.1 hq).1
            obtain ⟨hl2, hc2⟩ := ok.rows q s hq
            refine ⟨hl2, fun m y hy => ?_⟩
            obtain ⟨v, hv', hsr⟩ := hc2 m y hy
            refine ⟨v, ?_, hsr⟩
            simp only [Place.at, o1, Nat.zero_add] at hv'
            rw [cell_of_row w _ _ _ _ _ o5] at hv'
            have hm : m < k.sz := by have := (List.getElem?_eq_some_iff.1 hy).1; omega
            simp only [List.getElem?_toArray]
            rcases Nat.lt_or_ge q e with hqe | hqe
            · have h3 : (q + 1) * k.sz ≤ e * k.sz := Nat.mul_le_mul_right _ hqe
              rw [Nat.add_mul] at h3
              rw [List.append_assoc, List.getElem?_append_left (by rw [hl1]; omega), List.getElem?_take, if_pos (by omega)]
              simpa using hv'
            · have h3 : (e + 1) * k.sz ≤ q * k.sz := Nat.mul_le_mul_right _ (by omega)
              rw [Nat.add_mul] at h3
              rw [List.append_assoc, List.getElem?_append_right (by rw [hl1]; omega), hl1, List.getElem?_append_right (by rw [hcl]; omega), hcl, List.getElem?_drop]
              have e1 : e * k.sz + j + l.length + (q * k.sz + m - (e * k.sz + j) - l.length) = q * k.sz + m := by omega
              rw [e1]
              simpa using hv'
        · simp [hcl]
          rw [← o6]
          omega
      · cases hH
    · cases hx
  · cases hx

end
end Go.Proofs.Ytmfiegjncfgohaa.Den
