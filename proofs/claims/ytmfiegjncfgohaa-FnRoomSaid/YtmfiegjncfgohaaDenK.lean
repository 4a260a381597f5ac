/- The abstract calculus, part K: append; all operations together. -/
import Derived.Test.YtmfiegjncfgohaaDenG
import Derived.Lib.AppendZerosOnto
namespace Go.Proofs.Ytmfiegjncfgohaa.Den
open Go.RowKit
set_option linter.unusedVariables false
set_option linter.unusedSimpArgs false

section
variable {P : Program} {φ : Phi} {base : Nat} {H H' : AHeap} {w : World} {o : Oper} {ρ : Operand → Value} {ev : Opd → AV} {x : AV}

theorem zc_size (z : Array Value) (n : Nat) : (Builtin.zeroCells z n).size = n * z.size := size_zeroCells z n

theorem vr_undef0 {φ : Phi} : VR φ (.tup []) (.tuple #[]) := ⟨#[], rfl, .nil⟩
/-- What is appended, in the world. -/
theorem src_vals (hr : Rel φ base H w) {sz : Nat} {y : AV} {v : Value} {new : List (List SV)} (hv : VR φ y v) (hs : srcRows H sz y = some new) (hne : new ≠ []) :
    ∃ a c vs, v = .slice (some a) new.length c ∧ (∀ r ∈ new, r.length = sz) ∧ SRs φ new.flatten vs ∧ vs.length = new.length * sz ∧ ∀ (q : Nat) u, vs[q]? = some u → w.cell? (a.add q) = some u := by
  unfold srcRows at hs
  split at hs
  · cases hs; exact (hne rfl).elim
  · cases hs; exact (hne rfl).elim
  · cases hs; exact (hne rfl).elim
  · rename_i sz' rows
    split at hs
    · rename_i hsz
      subst hsz
      have hnr := Option.some.inj hs
      subst hnr
      rcases vr_lst hv with ⟨rfl, _⟩ | ⟨b, off, c, o, rfl, h1, h2, h3, h4⟩
      · exact (hne rfl).elim
      · have hl : ∀ r ∈ rows, r.length = sz' := fun r hr => by
          obtain ⟨q, hq⟩ := List.mem_iff_getElem?.1 hr
          exact (h4.get q r hq).1
        have flat : ∀ (rs : List (List SV)) (off : Nat), DRss φ.fz sz' rs o off → DRs φ.fz rs.flatten o off := fun rs => by
          induction rs with
          | nil => intro off _; simp only [List.flatten_nil, DRs]
          | cons r rs ih =>
            intro off hd
            simp only [DRss] at hd
            refine DRs.of_get fun j x hx => ?_
            rw [List.flatten_cons] at hx
            rcases Nat.lt_or_ge j r.length with hj | hj
            · rw [List.getElem?_append_left hj] at hx
              exact hd.1.2.get j x hx
            · rw [List.getElem?_append_right hj] at hx
              have := (ih (off + sz') hd.2).get (j - r.length) x hx
              rw [← hd.1.1] at this
              rwa [show off + r.length + (j - r.length) = off + j by omega] at this
        obtain ⟨vs, hs, hc⟩ := fz_vals hr h3 (flat rows off h4)
        refine ⟨_, c, vs, rfl, hl, hs, ?_, hc⟩
        rw [← hs.length, flat_len hl]
    · cases hs
  · rename_i b i n c
    obtain ⟨k, hk, hs⟩ := bind_some hs
    split at hs
    · rename_i hc
      obtain ⟨hsz, hle⟩ := hc
      obtain rfl := (Option.some.inj hs).symm
      obtain ⟨p, vs, hp, h1, h2, h3, h4, h5⟩ := hr.rows_vals hk hle
      obtain ⟨a, c', p', rfl, n1, n2, n3, hp', n4⟩ := vr_s hv
      have hlen : ((k.rows.drop i).take n).length = n := by simp; omega
      have hn0 : n ≠ 0 := fun e => hne (by subst e; simp)
      obtain ⟨rfl, hcap⟩ := n4.resolve_left (by omega)
      rw [hp] at hp'
      obtain rfl := Option.some.inj hp'
      rw [hlen]
      subst hsz
      exact ⟨_, c', vs, rfl, h2, h3, h4, by rw [h1]; exact h5⟩
    · cases hs
  · cases hs

/-- The base of an append that is none. -/
theorem run_append_empty {t ty e : TypeId} (ht : P.underlying t = some (.slice e)) {i : TypeInfo} (hi : P.info? e = some i) (a : Option Addr) (n c : Nat) (hn : n ≤ c) (v : Value) (hv : ∃ b c', v = .slice b 0 c') :
    (Builtin.append_ #[t, t] ty #[.slice a n c, v]).run P w = .ok (.slice a n c) w := by
  obtain ⟨b, c', rfl⟩ := hv
  cases a <;> cases b <;>
    simp [Builtin.append_, run_underlying ht, sizeOf, typeInfo, hi, Builtin.lenOf, Builtin.firstCells, hn, storeCells, loadCells, loadCellsFrom]

variable (hr : Rel φ base H w) (he : Evs φ ev ρ)
include hr he
set_option linter.unusedSectionVars false

theorem src_empty {sz : Nat} {y : AV} {v : Value} (hv : VR φ y v) (hs : srcRows H sz y = some []) : ∃ b c', v = .slice b 0 c' := by
  have hl : alen y = some 0 := by
    unfold srcRows at hs
    split at hs
    · rfl
    · rfl
    · rfl
    · split at hs
      · rw [Option.some.inj hs]; rfl
      · cases hs
    · obtain ⟨k, hk, hs⟩ := bind_some hs
      split at hs
      · have := congrArg List.length (Option.some.inj hs)
        simp at this
        simp only [alen]
        congr 1
        omega
      · cases hs
    · cases hs
  exact alen_vr hv hl

/-- A new row that holds what was and what is appended. -/
theorem grown_goes {sz ty cap : Nat} {z : Value} {rows : List (List SV)} {vs : List Value} (hl : ∀ r ∈ rows, r.length = sz) (hs : SRs φ rows.flatten vs) (hzs : z.cells.size = sz) (hc : rows.length ≤ cap) (hm : cap ≤ maxLen) :
    Goes φ base H w (setPlace φ H.nx ⟨w.heap.size, 0, cap, sz⟩) (H.push ⟨sz, ty, rows⟩) (w.drew.alloc (.cells (vs.toArray ++ Builtin.zeroCells z.cells (cap - rows.length)) ty)) := by
  have hvl : vs.length = rows.length * sz := by rw [← hs.length, flat_len hl]
  refine Goes.push hr (cap := cap) (cells := vs.toArray ++ Builtin.zeroCells z.cells (cap - rows.length)) rfl rfl rfl rfl (Holds.of_flat hl hs (fun q v hq => ?_)) ?_ hc hm
  · have hlt : q < vs.length := (List.getElem?_eq_some_iff.1 hq).1
    rw [Array.getElem?_append_left (by simpa using hlt)]
    simpa using hq
  · rw [Array.size_append, zc_size, hzs, List.size_toArray, hvl, ← Nat.add_mul]
    congr 1
    omega

theorem xs_append {c : Call} {t e : TypeId} {a b : Operand} {a' b' : Opd} {sz by_ : Nat} {z : List SV} (ho : o.op = .call c) (hcc : c.callee = .builtin .append) (hca : c.args.toList = [a, b]) (hct : c.argTypes.toList = [t, t]) (ht : P.underlying t = some (.slice e)) (hei : einfo P e = some (sz, by_, z)) (ha : opd a = some a') (hb : opd b = some b')
    (hx : xop (.append e sz by_ a' b') ev H = some (x, H')) : XS P φ base H w o ρ x H' := by
  have h1 := he a a' ha
  have h2 := he b b' hb
  obtain ⟨i, zv, e1, e2, e3, e4, e5, e6, e7, e8⟩ := einfo_ok hei
  obtain ⟨callee, args, argTypes⟩ := c
  simp only at hcc hca hct
  subst hcc
  obtain rfl : args = #[a, b] := by cases args; simpa using hca
  obtain rfl : argTypes = #[t, t] := by cases argTypes; simpa using hct
  have ex : ∀ {v : Value} {w' : World}, (Builtin.append_ #[t, t] o.type #[ρ a, ρ b]).run P w = .ok v w' → (execOp ρ o).run P w = .ok (.value v) w' := fun h => by
    simp [execOp, ho, resolve, invoke, builtin, h]
  simp only [xop] at hx
  obtain ⟨new, hnew, hx⟩ := bind_some hx
  have fresh : ∀ {y : SV} {a0 : Option Addr}, ρ a = .slice a0 0 0 → VR φ (.s y) (ρ a) → afresh H e sz by_ y new = some (x, H') → XS P φ base H w o ρ x H' := fun {y a0} hv hvr hf => by
    unfold afresh at hf
    split at hf
    · rename_i hn
      subst hn
      simp only [Option.some.injEq, Prod.mk.injEq] at hf
      obtain ⟨rfl, rfl⟩ := hf
      exact XS.pure hr (v := ρ a) (ex (by rw [hv]; exact run_append_empty ht e1 a0 0 0 (Nat.le_refl _) _ (src_empty hr he h2 hnew))) hvr
    · rename_i hn
      split at hf
      · rename_i hb2
        obtain ⟨hbytes, hmx⟩ := hb2
        simp only [Option.some.injEq, Prod.mk.injEq] at hf
        obtain ⟨rfl, rfl⟩ := hf
        obtain ⟨ad, c, vs, hw, hl, hs, hvl, hc⟩ := src_vals hr h2 hnew hn
        have hpos : 0 < new.length := List.length_pos_iff.2 hn
        subst e3
        subst e4
        have hm63 : new.length ≤ 9223372036854775807 := by have h := hmx; unfold maxLen at h; omega
        have hg := grown_goes (z := zv) (ty := e) (cap := grownCap w new.length 0 e) hr he hl hs e7 (grownCap_ge w new.length 0 e) (grownCap_le_maxLen w new.length 0 e hmx)
        cases a0 with
        | none =>
          have hrun := run_append_nil (P := P) w t o.type e i zv ht e1 e2 ad new.length c vs hvl hc hpos (by omega) (by omega)
          exact ⟨_, _, _, .inl (ex (by rw [hv, hw]; exact hrun)), hg, new_sl (ty := e) (cells := #[]) hr he (Nat.le_refl _) (grownCap_ge w new.length 0 e) (grownCap_le_maxLen w new.length 0 e hmx)⟩
        | some ad0 =>
          have hrun := run_append_grow (P := P) w t o.type e i zv ht e1 e2 ad0 0 0 [] (by simp) (fun j u hu => by cases hu) ad new.length c vs hvl hc (by omega) (by omega) (growslice_fits (by omega) (by simpa using hbytes))
          have hrun2 : (Builtin.append_ #[t, t] o.type #[.slice (some ad0) 0 0, .slice (some ad) new.length c]).run P w = .ok (.slice (some ⟨w.drew.heap.size, 0, none⟩) new.length (grownCap w new.length 0 e)) (w.drew.alloc (.cells (vs.toArray ++ Builtin.zeroCells zv.cells (grownCap w new.length 0 e - new.length)) e)) := by simpa using hrun
          exact ⟨_, _, _, .inl (ex (by rw [hv, hw]; exact hrun2)), hg, new_sl (ty := e) (cells := #[]) hr he (Nat.le_refl _) (grownCap_ge w new.length 0 e) (grownCap_le_maxLen w new.length 0 e hmx)⟩
      · cases hf
  unfold aappend at hx
  split at hx
  · rename_i hp
    rw [hp] at h1
    exact fresh (y := .nils) h1 h1 hx
  · rename_i hp
    rw [hp] at h1
    obtain ⟨a0, hv⟩ := vr_emp h1
    exact fresh (y := .emp) hv h1 hx
  · rename_i b0 f n c hp
    rw [hp] at h1
    obtain ⟨ad0, c', p0, hv, n1, n2, n3, hp0, n4⟩ := vr_s h1
    split at hx
    · rename_i hn
      subst hn
      simp only [Option.some.injEq, Prod.mk.injEq] at hx
      obtain ⟨rfl, rfl⟩ := hx
      exact XS.pure hr (v := ρ a) (ex (by rw [hv]; exact run_append_empty ht e1 ad0 n c' (by omega) _ (src_empty hr he h2 hnew))) (he a a' ha)
    · rename_i hn
      obtain ⟨k, hk, hy⟩ := bind_some hx
      clear hx
      split at hy
      · rename_i hb2
        obtain ⟨hksz, hkty, rfl, hnl, hbytes, hmx⟩ := hb2
        obtain ⟨ad, cs, vs, hw, hl, hs, hvl, hc⟩ := src_vals hr h2 hnew hn
        obtain ⟨p, olds, hφ, hpsz, hol, hos, hovl, hoc⟩ := hr.rows_vals (n := n) hk (i := 0) (by omega)
        rw [List.drop_zero] at hol hos
        obtain ⟨p', hp', ok⟩ := hr.blk b0 k hk
        rw [hφ] at hp'
        obtain rfl := Option.some.inj hp'
        rw [hφ] at hp0
        obtain rfl := Option.some.inj hp0
        have hpos : 0 < new.length := List.length_pos_iff.2 hn
        subst e3
        subst e4
        subst hkty
        have hm63 : n + new.length ≤ 9223372036854775807 := by have h := hmx; unfold maxLen at h; omega
        have hrl : ∀ r ∈ k.rows.take n ++ new, r.length = i.size := fun r hr => by
          rcases List.mem_append.1 hr with h | h
          · rw [← hksz]; exact hol r h
          · exact hl r h
        have hsr : SRs φ (k.rows.take n ++ new).flatten (olds ++ vs) := by rw [List.flatten_append]; exact hos.append hs
        have hrlen : (k.rows.take n ++ new).length = n + new.length := by simp; omega
        by_cases hroom : n + new.length ≤ c'
        · obtain ⟨hadr, hcap⟩ := n4.resolve_left (by omega)
          have hown : p.cap ≠ 0 := by omega
          obtain ⟨o1, o2, o3, o4, cells, o5, o6⟩ := ok.real hown
          have hat : p.at (0 * p.sz) = ⟨p.blk, 0, none⟩ := by simp [Place.at, o1]
          rw [hat] at hadr
          subst hadr
          have hfit : n * i.size + vs.length ≤ cells.size := by
            rw [hvl, o6, ← Nat.add_mul, hksz]
            exact Nat.mul_le_mul_right _ (by omega)
          have hrun := run_append_room (P := P) w t o.type k.ty i ht e1 p.blk n c' cells o5 ad new.length cs vs hvl hc (fun u hu => hs.one u hu) hroom hfit
          have hgen : ∀ rows : List (List SV), (∀ (q : Nat) r, rows[q]? = some r → q < n + new.length → (k.rows.take n ++ new)[q]? = some r) → (∀ (q : Nat) r, rows[q]? = some r → n + new.length ≤ q → k.rows[q]? = some r) → rows.length ≤ p.cap →
              Goes φ base H w φ (H.upd b0 { k with rows := rows }) (w.setRow p.blk (cells.toList.take (n * i.size) ++ vs ++ cells.toList.drop (n * i.size + vs.length)).toArray) := fun rows hlow hhigh hlen => by
            refine Goes.upd hr (cells := (cells.toList.take (n * i.size) ++ vs ++ cells.toList.drop (n * i.size + vs.length)).toArray) hk hφ hown (setRow_heap w p.blk cells _ k.ty _ o5) (fun r hr => setRow_other w p.blk r _ (by omega)) (by simp) rfl rfl rfl ?_ ?_ hlen
            · intro q r hq
              rw [hksz]
              rcases Nat.lt_or_ge q (n + new.length) with hlt | hge
              · have hq2 := hlow q r hq hlt
                refine ⟨hrl r (List.mem_of_getElem? hq2), fun j y hy => ?_⟩
                obtain ⟨v, hv2, hsr2⟩ := hsr.get _ _ (flat_get hrl hq2 hy)
                refine ⟨v, ?_, hsr2⟩
                have htk : cells.toList.take (n * i.size) = olds := by
                  apply List.ext_getElem?
                  intro m
                  rw [List.getElem?_take]
                  split
                  · rename_i hm
                    have : m < olds.length := by rw [hovl, hksz]; exact hm
                    have h7 := hoc m _ (List.getElem?_eq_getElem this)
                    simp only [Nat.zero_mul, Place.at, o1, Nat.zero_add, Nat.add_zero] at h7
                    have hadd : (⟨p.blk, 0, none⟩ : Addr).add m = ⟨p.blk, m, none⟩ := by unfold Addr.add; split <;> simp_all
                    rw [hadd, cell_of_row w _ _ _ _ _ o5] at h7
                    rw [List.getElem?_eq_getElem this, ← h7]
                    simp
                  · rw [List.getElem?_eq_none]
                    rw [hovl, hksz]; omega
                rw [htk]
                have hlt2 : q * i.size + j < (olds ++ vs).length := (List.getElem?_eq_some_iff.1 hv2).1
                simp only [List.getElem?_toArray]
                rw [List.getElem?_append_left hlt2]
                exact hv2
              · have hq2 := hhigh q r hq hge
                obtain ⟨hrl2, hcc⟩ := ok.rows q r hq2
                refine ⟨by rw [← hksz]; exact hrl2, fun j y hy => ?_⟩
                obtain ⟨v, hv2, hsr2⟩ := hcc j y hy
                refine ⟨v, ?_, hsr2⟩
                simp only [Place.at, o1, Nat.zero_add] at hv2
                rw [cell_of_row w _ _ _ _ _ o5, hksz] at hv2
                have hge2 : n * i.size + vs.length ≤ q * i.size + j := by
                  rw [hvl, ← Nat.add_mul]
                  exact Nat.le_trans (Nat.mul_le_mul_right _ hge) (Nat.le_add_right _ _)
                simp only [List.getElem?_toArray]
                have hl1 : (cells.toList.take (n * i.size) ++ vs).length = n * i.size + vs.length := by simp; omega
                rw [List.getElem?_append_right (by rw [hl1]; exact hge2), hl1, List.getElem?_drop, show n * i.size + vs.length + (q * i.size + j - (n * i.size + vs.length)) = q * i.size + j by omega]
                simpa using hv2
            · simp
              rw [← o6]
              omega
          have hcapc : n + new.length ≤ p.cap := by omega
          split at hy
          · simp only [Option.some.injEq, Prod.mk.injEq] at hy
            obtain ⟨rfl, rfl⟩ := hy
            refine ⟨_, _, _, .inl (ex (by rw [hv, hw]; exact hrun)), hgen _ (fun q r hq hlt => by rw [List.getElem?_append_left (by rw [hrlen]; exact hlt)] at hq; exact hq) (fun q r hq hge => by
              rw [List.getElem?_append_right (by rw [hrlen]; exact hge), hrlen, List.getElem?_drop, show n + new.length + (q - (n + new.length)) = q by omega] at hq; exact hq) ?_, ⟨_, c', p, rfl, by omega, n2, n3, hφ, .inr ⟨by rw [hat], by omega⟩⟩⟩
            simp
            omega
          · simp only [Option.some.injEq, Prod.mk.injEq] at hy
            obtain ⟨rfl, rfl⟩ := hy
            have hg := hgen (k.rows.take n ++ new) (fun q r hq _ => hq) (fun q r hq hge => by
              have := (List.getElem?_eq_some_iff.1 hq).1
              rw [hrlen] at this
              omega) (by rw [hrlen]; exact hcapc)
            have hren := Goes.rename hg.rel (b := b0) (k := { k with rows := k.rows.take n ++ new }) (p := p) (by simp [AHeap.upd]) hφ
            rw [upd_del] at hren
            have hkk : ({ k with rows := k.rows.take n ++ new } : Blk) = ⟨i.size, k.ty, k.rows.take n ++ new⟩ := by rw [← hksz]
            rw [hkk] at hren hg
            have hall := hg.trans hren
            refine ⟨_, _, _, .inl (ex (by rw [hv, hw]; exact hrun)), hall, ⟨_, c', p, rfl, Nat.le_refl _, hroom, n3, setPlace_same, .inr ⟨by rw [hat], by omega⟩⟩⟩
        · have hcn : ¬ (n + new.length ≤ c) := by omega
          rw [if_neg hcn] at hy
          simp only [Option.some.injEq, Prod.mk.injEq] at hy
          obtain ⟨rfl, rfl⟩ := hy
          have hrun : (Builtin.append_ #[t, t] o.type #[.slice ad0 n c', .slice (some ad) new.length cs]).run P w = .ok (.slice (some ⟨w.drew.heap.size, 0, none⟩) (n + new.length) (grownCap w (n + new.length) c' k.ty)) (w.drew.alloc (.cells (olds.toArray ++ vs.toArray ++ Builtin.zeroCells zv.cells (grownCap w (n + new.length) c' k.ty - (n + new.length))) k.ty)) := by
            by_cases hc0 : c' = 0
            · subst hc0
              obtain rfl : n = 0 := by omega
              have ho : olds = [] := List.length_eq_zero_iff.1 (by rw [hovl]; omega)
              subst ho
              cases ad0 with
              | none =>
                have := run_append_nil (P := P) w t o.type k.ty i zv ht e1 e2 ad new.length cs vs hvl hc hpos (by omega) (by have h7 : new.length * i.bytes ≤ 140737488355328 := (by simpa using hbytes); omega)
                simpa using this
              | some ad0 => exact run_append_grow (P := P) w t o.type k.ty i zv ht e1 e2 ad0 0 0 [] (by simp) (fun j u hu => by cases hu) ad new.length cs vs hvl hc (by omega) (by omega) (growslice_fits (by omega) hbytes)
            · obtain ⟨rfl, hcap⟩ := n4.resolve_left hc0
              have holds : ∀ j u, olds[j]? = some u → w.cell? ((p.at (0 * p.sz)).add j) = some u := fun j u hu => by
                have := hoc j u hu
                rw [hpsz]
                exact this
              exact run_append_grow (P := P) w t o.type k.ty i zv ht e1 e2 _ n c' olds (by rw [hovl, hksz]) holds ad new.length cs vs hvl hc (by omega) (by omega) (growslice_fits (by omega) hbytes)
          have hd := Goes.del hr b0
          have hg := grown_goes (H := H.del b0) (ev := ev) (z := zv) (ty := k.ty) (cap := grownCap w (n + new.length) c' k.ty) hd.rel he hrl hsr e7 (by rw [hrlen]; exact grownCap_ge w _ c' k.ty) (grownCap_le_maxLen w _ c' k.ty hmx)
          rw [hrlen] at hg
          have hcells : ((olds ++ vs).toArray ++ Builtin.zeroCells zv.cells (grownCap w (n + new.length) c' k.ty - (n + new.length))) = olds.toArray ++ vs.toArray ++ Builtin.zeroCells zv.cells (grownCap w (n + new.length) c' k.ty - (n + new.length)) := by
            simp
          rw [hcells] at hg
          exact ⟨_, _, _, .inl (ex (by rw [hv, hw]; exact hrun)), hd.trans hg, new_sl (H := H.del b0) (ty := k.ty) (cells := #[]) hd.rel he (Nat.le_refl _) (grownCap_ge w _ c' k.ty) (grownCap_le_maxLen w _ c' k.ty hmx)⟩
      · cases hy
  · cases hx

omit hr he in
/-- Elements written over others, in the world. -/
theorem write_rows (hr : Rel φ base H w) {b i sz : Nat} {new : List (List SV)} {vs : List Value} {k : Blk} {p : Place} (hk : H.get b = some k) (hφ : φ b = some p) (hsz : k.sz = sz) (hl : ∀ r ∈ new, r.length = sz) (hs : SRs φ new.flatten vs) (hi : i ≤ k.rows.length) (hle : i + new.length ≤ p.cap) (hne : new ≠ []) :
    p.off = 0 ∧ ∃ w', (storeCells ⟨p.blk, i * sz, none⟩ vs).run P w = .ok () w' ∧ Goes φ base H w φ (H.upd b { k with rows := k.rows.take i ++ new ++ k.rows.drop (i + new.length) }) w' := by
  subst hsz
  obtain ⟨p', hp', ok⟩ := hr.blk b k hk
  rw [hφ] at hp'
  obtain rfl := Option.some.inj hp'
  have hpos : 0 < new.length := List.length_pos_iff.2 hne
  have hcap : p.cap ≠ 0 := by omega
  obtain ⟨o1, o2, o3, o4, cells, o5, o6⟩ := ok.real hcap
  have hvl : vs.length = new.length * k.sz := by rw [← hs.length, flat_len hl]
  have hfit : i * k.sz + vs.length ≤ cells.size := by
    rw [hvl, ← Nat.add_mul, o6]
    exact Nat.mul_le_mul_right _ (by omega)
  have hrun := run_storeCells_at P p.blk (i * k.sz) k.ty vs 0 cells w o5 (by omega) (fun v hv => hs.one v hv)
  simp only [Nat.add_zero] at hrun
  refine ⟨o1, _, hrun, ?_⟩
  have hlen : (k.rows.take i ++ new ++ k.rows.drop (i + new.length)).length ≤ p.cap := by simp; omega
  refine Goes.upd hr (cells := (cells.toList.take (i * k.sz) ++ vs ++ cells.toList.drop (i * k.sz + vs.length)).toArray) hk hφ hcap (setRow_heap w p.blk cells _ k.ty _ o5) (fun r hr => setRow_other w p.blk r _ (by omega)) (by simp) rfl rfl rfl ?_ (by simp; rw [← o6]; omega) hlen
  have hl1 : (cells.toList.take (i * k.sz)).length = i * k.sz := by simp; omega
  have hl2 : (cells.toList.take (i * k.sz) ++ vs).length = i * k.sz + vs.length := by simp; omega
  have hr1 : (k.rows.take i).length = i := by simp; omega
  have hr2 : (k.rows.take i ++ new).length = i + new.length := by simp; omega
  have old : ∀ (q : Nat) r, k.rows[q]? = some r → r.length = k.sz ∧ ∀ (j : Nat) y, r[j]? = some y → ∃ v, cells.toList[q * k.sz + j]? = some v ∧ SR φ y v := fun q r hq => by
    obtain ⟨e1, e2⟩ := ok.rows q r hq
    refine ⟨e1, fun j y hy => ?_⟩
    obtain ⟨v, hv, hsr⟩ := e2 j y hy
    simp only [Place.at, o1, Nat.zero_add] at hv
    rw [cell_of_row w _ _ _ _ _ o5] at hv
    exact ⟨v, by simpa using hv, hsr⟩
  intro q r hq
  simp only [List.getElem?_toArray]
  rcases Nat.lt_or_ge q i with h1 | h1
  · rw [List.getElem?_append_left (by rw [hr2]; omega), List.getElem?_append_left (by rw [hr1]; exact h1), List.getElem?_take, if_pos h1] at hq
    obtain ⟨e1, e2⟩ := old q r hq
    refine ⟨e1, fun j y hy => ?_⟩
    obtain ⟨v, hv, hsr⟩ := e2 j y hy
    have hj : j < k.sz := by have := (List.getElem?_eq_some_iff.1 hy).1; omega
    have hlt : q * k.sz + j < i * k.sz := by
      have := Nat.mul_le_mul_right k.sz h1
      rw [Nat.succ_mul] at this
      omega
    refine ⟨v, ?_, hsr⟩
    rw [List.getElem?_append_left (by rw [hl2]; omega), List.getElem?_append_left (by rw [hl1]; exact hlt), List.getElem?_take, if_pos hlt]
    exact hv
  · rcases Nat.lt_or_ge q (i + new.length) with h2 | h2
    · rw [List.getElem?_append_left (by rw [hr2]; exact h2), List.getElem?_append_right (by rw [hr1]; exact h1), hr1] at hq
      refine ⟨hl r (List.mem_of_getElem? hq), fun j y hy => ?_⟩
      obtain ⟨v, hv, hsr⟩ := hs.get _ _ (flat_get hl hq hy)
      refine ⟨v, ?_, hsr⟩
      have hlt : (q - i) * k.sz + j < vs.length := (List.getElem?_eq_some_iff.1 hv).1
      have e : q * k.sz = i * k.sz + (q - i) * k.sz := by rw [← Nat.add_mul]; congr 1; omega
      rw [List.getElem?_append_left (by rw [hl2]; omega), List.getElem?_append_right (by rw [hl1]; omega), hl1, show q * k.sz + j - i * k.sz = (q - i) * k.sz + j by omega]
      exact hv
    · rw [List.getElem?_append_right (by rw [hr2]; exact h2), hr2, List.getElem?_drop, show i + new.length + (q - (i + new.length)) = q by omega] at hq
      obtain ⟨e1, e2⟩ := old q r hq
      refine ⟨e1, fun j y hy => ?_⟩
      obtain ⟨v, hv, hsr⟩ := e2 j y hy
      have hge : i * k.sz + vs.length ≤ q * k.sz + j := by
        rw [hvl, ← Nat.add_mul]
        exact Nat.le_trans (Nat.mul_le_mul_right _ h2) (Nat.le_add_right _ _)
      refine ⟨v, ?_, hsr⟩
      rw [List.getElem?_append_right (by rw [hl2]; exact hge), hl2, List.getElem?_drop, show i * k.sz + vs.length + (q * k.sz + j - (i * k.sz + vs.length)) = q * k.sz + j by omega]
      exact hv

theorem xs_clr {c : Call} {t e : TypeId} {a : Operand} {a' : Opd} {sz by_ : Nat} {z : List SV} (ho : o.op = .call c) (hcc : c.callee = .builtin .clear) (hca : c.args.toList = [a]) (hct : c.argTypes.toList = [t]) (ht : P.underlying t = some (.slice e)) (hei : einfo P e = some (sz, by_, z)) (ha : opd a = some a')
    (hx : xop (.clr sz z a') ev H = some (x, H')) : XS P φ base H w o ρ x H' := by
  have h1 := he a a' ha
  obtain ⟨i, zv, e1, e2, e3, e4, e5, e6, e7, e8⟩ := einfo_ok hei
  obtain ⟨callee, args, argTypes⟩ := c
  simp only at hcc hca hct
  subst hcc
  obtain rfl : args = #[a] := by cases args; simpa using hca
  obtain rfl : argTypes = #[t] := by cases argTypes; simpa using hct
  have ex : ∀ {v : Value} {w' : World}, (Builtin.clear_ #[t] o.type #[ρ a]).run P w = .ok v w' → (execOp ρ o).run P w = .ok (.value v) w' := fun h => by
    simp [execOp, ho, resolve, invoke, builtin, h]
  simp only [xop] at hx
  split at hx
  · rename_i b f n c hp
    rw [hp] at h1
    obtain ⟨ad, c', p, hv, n1, n2, n3, hφ, n4⟩ := vr_s h1
    split at hx
    · rename_i hn
      subst hn
      simp only [Option.some.injEq, Prod.mk.injEq] at hx
      obtain ⟨rfl, rfl⟩ := hx
      exact XS.pure hr (v := .tuple #[]) (ex (by rw [hv]; cases ad <;> simp [Builtin.clear_, run_underlying ht])) vr_undef0
    · rename_i hn
      obtain ⟨H1, hH, hx⟩ := map_some hx
      simp only [Prod.mk.injEq] at hx
      obtain ⟨rfl, rfl⟩ := hx
      unfold AHeap.wrows at hH
      obtain ⟨k, hk, hH⟩ := bind_some hH
      split at hH
      · rename_i hc
        obtain ⟨hksz, hle⟩ := hc
        obtain rfl := (Option.some.inj hH).symm
        obtain ⟨rfl, hcap⟩ := n4.resolve_left (by omega)
        have hzl : ∀ r ∈ List.replicate n z, r.length = sz := fun r hr => by rw [List.eq_of_mem_replicate hr, e5]
        have hz := zeros_flat (e8 φ) (by omega) n
        obtain ⟨o1, w', hrun, hg⟩ := write_rows (P := P) (i := f) hr hk hφ hksz hzl hz (by simp at hle; omega) (by simp; omega) (by simp [hn])
        have hpsz : p.sz = sz := by
          obtain ⟨p', hp', ok⟩ := hr.blk b k hk
          rw [hφ] at hp'
          obtain rfl := Option.some.inj hp'
          rw [ok.sz]; exact hksz
        have hat : p.at (f * p.sz) = ⟨p.blk, f * sz, none⟩ := by simp [Place.at, o1, hpsz]
        obtain ⟨m, rfl⟩ : ∃ m, n = m + 1 := ⟨n - 1, by omega⟩
        refine ⟨.tuple #[], φ, w', .inl (ex ?_), by simpa using hg, vr_undef0⟩
        rw [hv, hat]
        have hrun' : (storeCells ⟨p.blk, f * sz, none⟩ (Builtin.zeroCells zv.cells (m + 1)).toList).run P w = .ok () w' := by
          rw [← hrun]; rfl
        simp [Builtin.clear_, run_underlying ht, zeroValue, typeInfo, e1, e2, hrun']
      · cases hH
  · cases hx

theorem xs_cpy {c : Call} {t u e : TypeId} {a b : Operand} {a' b' : Opd} {sz by_ : Nat} {z : List SV} (ho : o.op = .call c) (hcc : c.callee = .builtin .copy) (hca : c.args.toList = [a, b]) (hct : c.argTypes.toList = [t, u]) (ht : P.underlying t = some (.slice e)) (hei : einfo P e = some (sz, by_, z)) (ha : opd a = some a') (hb : opd b = some b')
    (hx : xop (.cpy sz a' b') ev H = some (x, H')) : XS P φ base H w o ρ x H' := by
  have h1 := he a a' ha
  have h2 := he b b' hb
  obtain ⟨i, zv, e1, e2, e3, e4, e5, e6, e7, e8⟩ := einfo_ok hei
  obtain ⟨callee, args, argTypes⟩ := c
  simp only at hcc hca hct
  subst hcc
  obtain rfl : args = #[a, b] := by cases args; simpa using hca
  obtain rfl : argTypes = #[t, u] := by cases argTypes; simpa using hct
  have ex : ∀ {v : Value} {w' : World}, (Builtin.copy_ #[t, u] o.type #[ρ a, ρ b]).run P w = .ok v w' → (execOp ρ o).run P w = .ok (.value v) w' := fun h => by
    simp [execOp, ho, resolve, invoke, builtin, h]
  simp only [xop] at hx
  split at hx
  · rename_i b0 f n c hp
    rw [hp] at h1
    obtain ⟨ad, c', p, hv, n1, n2, n3, hφ, n4⟩ := vr_s h1
    obtain ⟨new, hnew, hx⟩ := bind_some hx
    obtain ⟨as_, L, cs_, hw, h2', hL⟩ : ∃ as_ L cs_, ρ b = .slice as_ L cs_ ∧ VR φ (cutTo (ev b') n) (.slice as_ new.length cs_) ∧ Nat.min L n = Nat.min new.length n := by
      have plain : cutTo (ev b') n = ev b' → ∃ as_ L cs_, ρ b = .slice as_ L cs_ ∧ VR φ (cutTo (ev b') n) (.slice as_ new.length cs_) ∧ Nat.min L n = Nat.min new.length n := fun e => by
        rw [e] at hnew ⊢
        have : ∃ as_ cs_, ρ b = .slice as_ new.length cs_ := by
          by_cases hne : new = []
          · subst hne; exact src_empty hr he h2 hnew
          · obtain ⟨a0, c0, vs, hw, _⟩ := src_vals hr h2 hnew hne
            exact ⟨_, _, hw⟩
        obtain ⟨as_, cs_, hw⟩ := this
        rw [hw] at h2
        exact ⟨as_, new.length, cs_, hw, h2, rfl⟩
      cases hy : ev b' with
      | s z =>
        cases z
        case sl b2 i2 m2 c2 =>
          rw [hy] at h2 hnew
          obtain ⟨ad2, c2', p2, hw2, k1, k2, k3, k4, k5⟩ := vr_s h2
          have hnl : new.length = min m2 n := by
            simp only [cutTo, srcRows] at hnew
            obtain ⟨kb, _, hnew⟩ := bind_some hnew
            split at hnew
            · rename_i hc
              rw [← Option.some.inj hnew]
              simp
              omega
            · cases hnew
          refine ⟨ad2, m2, c2', hw2, ⟨ad2, c2', p2, by rw [hnl], by omega, k2, k3, k4, k5⟩, ?_⟩
          rw [hnl]
          show min m2 n = min (min m2 n) n
          omega
        all_goals exact (by rw [hy] at plain; exact plain rfl)
      | _ => exact (by rw [hy] at plain; exact plain rfl)
    split at hx
    · rename_i hn
      simp only [Option.some.injEq, Prod.mk.injEq] at hx
      obtain ⟨rfl, rfl⟩ := hx
      have hmin : Nat.min new.length n = 0 := by
        have := congrArg List.length hn
        simp at this
        show min new.length n = 0
        rcases this with h | h
        · rw [h]; simp
        · rw [h]; simp
      refine XS.pure hr (v := .int .i64 0) (ex ?_) rfl
      rw [hv, hw]
      cases ad <;> cases as_ <;> simp [Builtin.copy_, run_underlying ht, Builtin.lenOf, Builtin.firstCells, sizeOf, typeInfo, e1, hL, hmin, storeCells, loadCells, loadCellsFrom, goInt]
    · rename_i hn
      obtain ⟨H1, hH, hx⟩ := map_some hx
      simp only [Prod.mk.injEq] at hx
      obtain ⟨rfl, rfl⟩ := hx
      unfold AHeap.wrowsx at hH
      obtain ⟨k, hk, hH⟩ := bind_some hH
      split at hH
      · rename_i hc
        obtain ⟨hksz, hle⟩ := hc
        obtain rfl := (Option.some.inj hH).symm
        have hne : new ≠ [] := fun e => by subst e; simp at hn
        have hn0 : n ≠ 0 := fun e => by subst e; simp at hn
        obtain ⟨rfl, hcap⟩ := n4.resolve_left (by omega)
        obtain ⟨a0, c0, vs, hw', hl, hs, hvl, hcell⟩ := src_vals hr h2' hnew hne
        simp only [Value.slice.injEq] at hw'
        obtain ⟨rfl, _, rfl⟩ := hw'
        have hs' : SRs φ (new.take n).flatten (vs.take ((new.take n).length * sz)) := by
          have hspl : new.flatten = (new.take n).flatten ++ (new.drop n).flatten := by rw [← List.flatten_append, List.take_append_drop]
          have hfl : (new.take n).flatten.length = (new.take n).length * sz := flat_len fun r hr => hl r (List.mem_of_mem_take hr)
          have := hs.take ((new.take n).length * sz)
          rw [hspl, List.take_left' hfl] at this
          exact this
        obtain ⟨o1, w', hrun, hg⟩ := write_rows (P := P) (i := f) hr hk hφ hksz (fun r hr => hl r (List.mem_of_mem_take hr)) hs' hle (by simp; omega) hn
        have hpsz : p.sz = sz := by
          obtain ⟨p', hp', ok⟩ := hr.blk b0 k hk
          rw [hφ] at hp'
          obtain rfl := Option.some.inj hp'
          rw [ok.sz]; exact hksz
        have hat : p.at (f * p.sz) = ⟨p.blk, f * sz, none⟩ := by simp [Place.at, o1, hpsz]
        have hlen : (new.take n).length = Nat.min new.length n := by rw [List.length_take, Nat.min_comm]
        have hvl' : (vs.take ((new.take n).length * sz)).length = (new.take n).length * sz := by
          rw [List.length_take, hvl]
          refine Nat.min_eq_left (Nat.mul_le_mul_right _ ?_)
          simp
          exact Nat.min_le_right _ _
        have hld := run_loadCells_list (P := P) w a0 (vs.take ((new.take n).length * sz)) (fun j v hj => hcell j v (by
          rw [List.getElem?_take] at hj
          split at hj
          · exact hj
          · cases hj))
        rw [hvl', hlen] at hld
        refine ⟨.int .i64 (new.take n).length, φ, w', .inl (ex ?_), hg, rfl⟩
        rw [hlen] at hrun ⊢
        rw [hv, hw, hat]
        subst e3
        simp [Builtin.copy_, run_underlying ht, Builtin.lenOf, Builtin.firstCells, sizeOf, typeInfo, e1, hL, hld, hrun, goInt]
      · cases hH
  · cases hx

theorem xs_appz {c : Call} {t tn e : TypeId} {a b : Operand} {a' b' : Opd} {kn : IntKind} {sz by_ : Nat} {z : List SV} (ho : o.op = .call c) (hcc : c.callee = .builtin .append) (hca : c.args.toList = [a, b]) (hct : c.argTypes.toList = [t, tn]) (ht : P.underlying t = some (.slice e)) (htn : P.underlying tn = some (.int kn)) (hei : einfo P e = some (sz, by_, z)) (ha : opd a = some a') (hb : opd b = some b')
    (hx : xappz e sz by_ z (ev a') (ev b') H = some (x, H')) : XS P φ base H w o ρ x H' := by
  have h1 := he a a' ha
  have h2 := he b b' hb
  obtain ⟨i, zv, e1, e2, e3, e4, e5, e6, e7, e8⟩ := einfo_ok hei
  obtain ⟨callee, args, argTypes⟩ := c
  simp only at hcc hca hct
  subst hcc
  obtain rfl : args = #[a, b] := by cases args; simpa using hca
  obtain rfl : argTypes = #[t, tn] := by cases argTypes; simpa using hct
  have ex : ∀ {v : Value} {w' : World}, (Builtin.append_ #[t, tn] o.type #[ρ a, ρ b]).run P w = .ok v w' → (execOp ρ o).run P w = .ok (.value v) w' := fun h => by
    simp [execOp, ho, resolve, invoke, builtin, h]
  unfold xappz at hx
  split at hx
  · rename_i b0 f k c0 zz hp hq
    rw [hp] at h1
    rw [hq] at h2
    obtain ⟨ad, c', p', hv, n1, n2, n3, hp', n4⟩ := vr_s h1
    have hw : ρ b = .int .i64 zz := h2
    split at hx
    · rename_i hz0
      obtain ⟨m, rfl⟩ := Int.eq_ofNat_of_zero_le (Int.le_of_lt hz0)
      rw [Int.toNat_natCast] at hx
      unfold appz at hx
      split at hx
      · rename_i b' F hfull
        obtain ⟨kb, hk, hy⟩ := bind_some hx
        clear hx
        split at hy
        · rename_i hb2
          obtain ⟨rfl, rfl, hksz, hkl, hF, hbytes, hmx⟩ := hb2
          simp only [Option.some.injEq, Prod.mk.injEq] at hy
          obtain ⟨rfl, rfl⟩ := hy
          obtain ⟨p, hφ, hFp⟩ := hr.full _ _ hfull
          have hp'' := hp'
          rw [hφ] at hp''
          obtain rfl := Option.some.inj hp''
          obtain ⟨pp, olds, hφ2, hpsz, hol, hos, hovl, hoc⟩ := hr.rows_vals (n := k) hk (i := 0) (by omega)
          rw [List.drop_zero] at hol hos
          rw [hφ] at hφ2
          obtain rfl := Option.some.inj hφ2
          subst e3
          subst e4
          have hm0 : 0 < m := by omega
          have hm63 : k + m ≤ 9223372036854775807 := by have h := hmx; unfold maxLen at h; omega
          have hc : c' < k + m := by
            rcases n4 with h | ⟨_, h⟩ <;> omega
          have hfirst : (Builtin.firstCells i.size k (.slice ad k c')).run P w.drew = .ok olds.toArray w.drew := by
            by_cases hc0 : c' = 0
            · have hk0 : k = 0 := by omega
              have ho : olds = [] := List.length_eq_zero_iff.1 (by rw [hovl, hk0]; omega)
              subst ho
              cases ad with
              | none => exact run_firstCells_none _ _ _ _ _
              | some ad0 => exact run_firstCells_some (P := P) w.drew i.size k ad0 k c' [] (by rw [hk0]; simp) (fun j v hj => by cases hj)
            · obtain ⟨rfl, _⟩ := n4.resolve_left hc0
              exact run_firstCells_some (P := P) w.drew i.size k _ k c' olds (by rw [hovl, hksz]) (fun j v hj => by
                have := hoc j v hj
                rw [hpsz]
                exact this)
          have hrun := Lib.run_append_grow_zeros (P := P) w t tn o.type e i zv .i64 kn ht htn e1 e2 ad k c' olds hfirst m hm0 e6 hc (by omega) (by
            have : m * i.bytes ≤ (k + m) * i.bytes := Nat.mul_le_mul_right _ (by omega)
            omega) (growslice_fits hc hbytes)
          have hrl : ∀ r ∈ kb.rows.take k ++ List.replicate m z, r.length = i.size := fun r hr => by
            rcases List.mem_append.1 hr with h | h
            · rw [← hksz]; exact hol r h
            · rw [List.eq_of_mem_replicate h, e5]
          have hzf := zeros_flat (e8 φ) (by rw [e7]; exact e6) m
          have hsr : SRs φ (kb.rows.take k ++ List.replicate m z).flatten (olds ++ ((Array.range (m * zv.cells.size)).map (zv.cells[· % zv.cells.size]!)).toList) := by rw [List.flatten_append]; exact hos.append hzf
          have hrlen : (kb.rows.take k ++ List.replicate m z).length = k + m := by simp; omega
          have hg := grown_goes (z := zv) (ty := e) (cap := grownCap w (k + m) c' e) hr he hrl hsr e7 (by rw [hrlen]; exact grownCap_ge w _ c' e) (grownCap_le_maxLen w _ c' e hmx)
          rw [hrlen] at hg
          have hcells : ((olds ++ ((Array.range (m * zv.cells.size)).map (zv.cells[· % zv.cells.size]!)).toList).toArray ++ Builtin.zeroCells zv.cells (grownCap w (k + m) c' e - (k + m))) = olds.toArray ++ Builtin.zeroCells zv.cells m ++ Builtin.zeroCells zv.cells (grownCap w (k + m) c' e - (k + m)) := by
            congr 1
            apply Array.ext'
            simp [Builtin.zeroCells]
          rw [hcells] at hg
          exact ⟨_, _, _, .inl (ex (by rw [hv, hw]; exact hrun)), hg, new_sl (ty := e) (cells := #[]) hr he (Nat.le_refl _) (grownCap_ge w _ c' e) (grownCap_le_maxLen w _ c' e hmx)⟩
        · cases hy
      · cases hx
    · cases hx
  · cases hx

theorem xop_sound {ao : AOp} (hc : comp P o.op = some ao) (hx : xop ao ev H = some (x, H')) : XS P φ base H w o ρ x H' := by
  cases hop : o.op <;> rw [hop] at hc <;> simp only [comp] at hc
  case move a =>
    obtain ⟨a', ha, rfl⟩ := map_some hc
    exact xs_mov hr he (.inl hop) ha hx
  case assign a =>
    obtain ⟨a', ha, rfl⟩ := map_some hc
    exact xs_mov hr he (.inr hop) ha hx
  case pick c a b =>
    obtain ⟨c', hc', hc⟩ := bind_some hc
    obtain ⟨a', ha, hc⟩ := bind_some hc
    obtain ⟨b', hb, rfl⟩ := map_some hc
    exact xs_pick hr he hop hc' ha hb hx
  case alloc t =>
    obtain ⟨⟨sz, b, z⟩, hi, rfl⟩ := map_some hc
    exact xs_alloc hr he hop hi hx
  case box t a =>
    obtain ⟨a', ha, rfl⟩ := map_some hc
    exact xs_box hr he hop ha hx
  case build t ps =>
    split at hc
    · split at hc
      · obtain ⟨⟨sz, b, z⟩, hi, hc⟩ := bind_some hc
        obtain ⟨qs, hq, rfl⟩ := map_some hc
        exact xs_build hr he hop ‹_› ‹_› hi hq hx
      · cases hc
    · cases hc
  case buildSlice t n ps =>
    split at hc
    · obtain ⟨⟨sz, b, z⟩, hi, hc⟩ := bind_some hc
      simp only at hc
      split at hc
      · obtain ⟨qs, hq, rfl⟩ := map_some hc
        exact xs_mkrow hr he hop ‹_› hi ‹_› hq hx
      · cases hc
    · cases hc
  case load t a =>
    split at hc
    · rename_i d i hd hi
      obtain ⟨a', ha, rfl⟩ := map_some hc
      exact xs_load hr he hop hd hi ha hx
    · cases hc
  case store t a b =>
    obtain ⟨i, hi, hc⟩ := bind_some hc
    obtain ⟨a', ha, hc⟩ := bind_some hc
    obtain ⟨b', hb, rfl⟩ := map_some hc
    exact xs_store hr he hop hi ha hb hx
  case nilCheck a =>
    obtain ⟨a', ha, rfl⟩ := map_some hc
    exact xs_nilck hr he hop ha hx
  case binOp op t a b yt =>
    obtain ⟨a', ha, hc⟩ := bind_some hc
    obtain ⟨b', hb, hc⟩ := bind_some hc
    split at hc
    · cases hc; exact xs_bin hr he hop ha hb hx
    · cases hc; exact xs_bin hr he hop ha hb hx
    · split at hc
      · cases hc; subst_vars; exact xs_eqb hr he (neg := false) hop ‹_› ha hb hx
      · split at hc
        · cases hc; subst_vars; exact xs_eqb hr he (neg := true) hop ‹_› ha hb hx
        · cases hc
    · split at hc
      · cases hc; subst_vars; exact xs_eqnil hr he (neg := false) hop ‹_› ha hb hx
      · split at hc
        · cases hc; subst_vars; exact xs_eqnil hr he (neg := true) hop ‹_› ha hb hx
        · cases hc
    · split at hc
      · rename_i hpl
        obtain ⟨p2, p3⟩ := hpl
        obtain ⟨ks, p1, hc⟩ := bind_some hc
        split at hc
        · cases hc; subst_vars; exact xs_eqagg hr he (neg := false) hop ‹_› p1 p2 p3 ha hb hx
        · split at hc
          · cases hc; subst_vars; exact xs_eqagg hr he (neg := true) hop ‹_› p1 p2 p3 ha hb hx
          · cases hc
      · cases hc
    · cases hc
  case unOp op t a =>
    obtain ⟨a', ha, rfl⟩ := map_some hc
    exact xs_un hr he hop ha hx
  case convert s d a =>
    split at hc
    · obtain ⟨a', ha, rfl⟩ := map_some hc
      exact xs_toInt hr he hop ‹_› ‹_› ha hx
    · cases hc
  case makeFunc fn first caps =>
    split at hc
    · split at hc
      · rename_i hcc
        obtain ⟨cs, hcs, rfl⟩ := map_some hc
        rename_i f
        exact xs_mkfn hr he hop hcc.1 hcs hx
      · cases hc
    · cases hc
  case makeSlice t l c =>
    split at hc
    · obtain ⟨⟨sz, b, z⟩, hi, hc⟩ := bind_some hc
      obtain ⟨l', hl, hc⟩ := bind_some hc
      obtain ⟨c', hc', rfl⟩ := map_some hc
      exact xs_mkslice hr he hop ‹_› hi hl hc' hx
    · cases hc
  case slice t a lo hi mx =>
    split at hc
    · split at hc
      · cases hc
      · rename_i hmh
        obtain ⟨i, hin, hc⟩ := bind_some hc
        obtain ⟨a', ha, hc⟩ := bind_some hc
        obtain ⟨lo', hlo, hc⟩ := bind_some hc
        obtain ⟨hi', hhi, hc⟩ := bind_some hc
        obtain ⟨mx', hmx, rfl⟩ := map_some hc
        exact xs_slice hr he hop ‹_› hin (by rw [Bool.not_eq_true] at hmh; exact hmh) ha hlo hhi hmx hx
    · split at hc
      · cases hc
      · rename_i hmh
        obtain ⟨a', ha, hc⟩ := bind_some hc
        obtain ⟨lo', hlo, hc⟩ := bind_some hc
        obtain ⟨hi', hhi, rfl⟩ := map_some hc
        exact xs_sslice hr he hop ‹_› (by cases mx with | none => rfl | some _ => simp at hmh) ha hlo hhi hx
    · cases hc
  case fieldAddr t a f =>
    split at hc
    · obtain ⟨d, hd, hc⟩ := bind_some hc
      obtain ⟨i, hi, hc⟩ := bind_some hc
      split at hc
      · obtain ⟨a', ha, rfl⟩ := map_some hc
        exact xs_faddr hr he hop ‹_› hd hi ‹_› ha hx
      · cases hc
    · cases hc
  case field t a f =>
    split at hc
    · obtain ⟨d, hd, hc⟩ := bind_some hc
      obtain ⟨i, hi, hc⟩ := bind_some hc
      obtain ⟨u, hu, hc⟩ := bind_some hc
      obtain ⟨a', ha, rfl⟩ := map_some hc
      exact xs_field hr he hop ‹_› hd hi hu ha hx
    · cases hc
  case indexAddr t a ix =>
    split at hc
    · obtain ⟨d, hd, hc⟩ := bind_some hc
      obtain ⟨a', ha, hc⟩ := bind_some hc
      obtain ⟨i', hi, rfl⟩ := map_some hc
      exact xs_iaddr hr he hop ‹_› hd ha hi hx
    · cases hc
  case index t a ix =>
    split at hc
    · obtain ⟨a', ha, hc⟩ := bind_some hc
      obtain ⟨i', hi, rfl⟩ := map_some hc
      exact xs_sidx hr he hop ‹_› ha hi hx
    · cases hc
  case extract a k =>
    obtain ⟨a', ha, rfl⟩ := map_some hc
    exact xs_extract hr he hop ha hx
  case call c =>
    unfold compCall at hc
    split at hc
    · split at hc
      · obtain ⟨as, _, rfl⟩ := map_some hc; cases hx
      · obtain ⟨as, _, rfl⟩ := map_some hc; cases hx
    · obtain ⟨as, _, rfl⟩ := map_some hc; cases hx
    · rename_i hcal
      split at hc
      · rename_i a t ha ht
        split at hc
        · obtain ⟨a', ha', rfl⟩ := map_some hc
          exact xs_len hr he hop hcal ha ht ‹_› ha' hx
        · obtain ⟨a', ha', rfl⟩ := map_some hc
          exact xs_slen hr he hop hcal ha ht ‹_› ha' hx
        · cases hc
      · cases hc
    · rename_i hcal
      split at hc
      · rename_i a b t u ha ht
        split at hc
        · split at hc
          · obtain ⟨⟨sz, by_, z⟩, hi, hc⟩ := bind_some hc
            obtain ⟨a', ha', hc⟩ := bind_some hc
            obtain ⟨b', hb', rfl⟩ := map_some hc
            subst_vars
            exact xs_append hr he hop hcal ha ht ‹_› hi ha' hb' hx
          · cases hc
        · cases hc
      · cases hc
    · rename_i hcal
      split at hc
      · rename_i a b ha
        obtain ⟨a', ha', hc⟩ := bind_some hc
        obtain ⟨b', hb', rfl⟩ := map_some hc
        exact xs_mx hr he hop hcal ha ha' hb' hx
      · cases hc
    · rename_i hcal
      split at hc
      · rename_i a b ha
        obtain ⟨a', ha', hc⟩ := bind_some hc
        obtain ⟨b', hb', rfl⟩ := map_some hc
        exact xs_mn hr he hop hcal ha ha' hb' hx
      · cases hc
    · rename_i hcal
      split at hc
      · rename_i a t ha ht
        split at hc
        · obtain ⟨⟨sz, by_, z⟩, hi, hc⟩ := bind_some hc
          obtain ⟨a', ha', rfl⟩ := map_some hc
          exact xs_clr hr he hop hcal ha ht ‹_› hi ha' hx
        · cases hc
      · cases hc
    · rename_i hcal
      split at hc
      · rename_i a b t u ha ht
        split at hc
        · obtain ⟨⟨sz, by_, z⟩, hi, hc⟩ := bind_some hc
          obtain ⟨a', ha', hc⟩ := bind_some hc
          obtain ⟨b', hb', rfl⟩ := map_some hc
          exact xs_cpy hr he hop hcal ha ht ‹_› hi ha' hb' hx
        · cases hc
      · cases hc
    · cases hc
  all_goals cases hc

end
end Go.Proofs.Ytmfiegjncfgohaa.Den
