/- The abstract calculus, part K: append; all operations together. -/
import Derived.Test.YtpidphppldimkaaDenG
namespace Go.Proofs.Ytpidphppldimkaa.Den
open Go.RowKit
set_option linter.unusedVariables false
set_option linter.unusedSimpArgs false

section
variable {P : Program} {φ : Phi} {base : Nat} {H H' : AHeap} {w : World} {o : Oper} {ρ : Operand → Value} {ev : Opd → AV} {x : AV}

theorem zc_size (z : Array Value) (n : Nat) : (Builtin.zeroCells z n).size = n * z.size := size_zeroCells z n

/-- What is appended, in the world. -/
theorem src_vals (hr : Rel φ base H w) {sz : Nat} {y : AV} {v : Value} {new : List (List SV)} (hv : VR φ y v) (hs : srcRows H sz y = some new) (hne : new ≠ []) :
    ∃ a c vs, v = .slice (some a) new.length c ∧ (∀ r ∈ new, r.length = sz) ∧ SRs φ new.flatten vs ∧ vs.length = new.length * sz ∧ ∀ (q : Nat) u, vs[q]? = some u → w.cell? (a.add q) = some u := by
  unfold srcRows at hs
  split at hs
  · cases hs; exact (hne rfl).elim
  · rename_i b i n c
    obtain ⟨k, hk, hs⟩ := bind_some hs
    split at hs
    · rename_i hc
      obtain ⟨hsz, hle⟩ := hc
      obtain rfl := (Option.some.inj hs).symm
      obtain ⟨p, vs, hp, h1, h2, h3, h4, h5⟩ := hr.rows_vals hk hle
      obtain ⟨a, c', rfl, n1, n2, n3, n4⟩ := vr_s hv
      have hlen : ((k.rows.drop i).take n).length = n := by simp; omega
      have hn0 : n ≠ 0 := fun e => hne (by subst e; simp)
      obtain ⟨p', hp', rfl, hcap⟩ := n4.resolve_left (by rintro (h | ⟨_, _, _, h, _⟩) <;> omega)
      rw [hp] at hp'
      obtain rfl := Option.some.inj hp'
      rw [hlen]
      subst hsz
      exact ⟨_, c', vs, rfl, h2, h3, h4, by rw [h1]; exact h5⟩
    · cases hs
  · cases hs

/-- The base of an append that is none. -/
theorem run_append_empty {t ty e : TypeId} (ht : P.underlying t = some (.slice e)) {i : TypeInfo} (hi : P.info? e = some i) (a : Option Addr) (n c : Nat) (hn : n ≤ c) (v : Value) (hv : v = .slice none 0 0 ∨ ∃ b c', v = .slice (some b) 0 c') :
    (Builtin.append_ #[t, t] ty #[.slice a n c, v]).run P w = .ok (.slice a n c) w := by
  rcases hv with rfl | ⟨b, c', rfl⟩ <;> cases a <;>
    simp [Builtin.append_, run_underlying ht, sizeOf, typeInfo, hi, Builtin.lenOf, Builtin.firstCells, hn, storeCells, loadCells, loadCellsFrom]

variable (hr : Rel φ base H w) (he : Evs φ ev ρ)
include hr he
set_option linter.unusedSectionVars false

theorem src_empty {sz : Nat} {y : AV} {v : Value} (hv : VR φ y v) (hs : srcRows H sz y = some []) : v = .slice none 0 0 ∨ ∃ b c', v = .slice (some b) 0 c' := by
  unfold srcRows at hs
  split at hs
  · exact .inl hv
  · rename_i b i n c
    obtain ⟨k, hk, hs⟩ := bind_some hs
    split at hs
    · rename_i hc
      have := congrArg List.length (Option.some.inj hs)
      simp at this
      obtain ⟨a, c', rfl, n1, n2, n3, n4⟩ := vr_s hv
      obtain rfl : n = 0 := by omega
      exact .inr ⟨a, c', rfl⟩
    · cases hs
  · cases hs

/-- A new row that holds what was and what is appended. -/
theorem grown_goes {sz ty cap : Nat} {z : Value} {rows : List (List SV)} {vs : List Value} (hl : ∀ r ∈ rows, r.length = sz) (hs : SRs φ rows.flatten vs) (hzs : z.cells.size = sz) (hc : rows.length ≤ cap) (hm : cap ≤ maxLen) :
    Goes φ base H w (setPlace φ H.nx ⟨w.heap.size, 0, cap, sz⟩) (H.push ⟨sz, ty, true, rows⟩) (w.drew.alloc (.cells (vs.toArray ++ Builtin.zeroCells z.cells (cap - rows.length)) ty)) := by
  have hvl : vs.length = rows.length * sz := by rw [← hs.length, flat_len hl]
  refine Goes.push hr (cap := cap) (cells := vs.toArray ++ Builtin.zeroCells z.cells (cap - rows.length)) rfl rfl rfl rfl (Holds.of_flat hl hs (fun q v hq => ?_)) ?_ hc hm
  · have hlt : q < vs.length := (List.getElem?_eq_some_iff.1 hq).1
    rw [Array.getElem?_append_left (by simpa using hlt)]
    simpa using hq
  · rw [Array.size_append, zc_size, hzs, List.size_toArray, hvl, ← Nat.add_mul]
    congr 1
    omega

theorem xs_append {c : Call} {t e : TypeId} {a b : Operand} {a' b' : Opd} {sz by_ : Nat} {z : List SV} (ho : o.op = .call c) (hcc : c.callee = .builtin .append) (hca : c.args.toList = [a, b]) (hct : c.argTypes.toList = [t, t]) (ht : P.underlying t = some (.slice e)) (hei : einfo P e = some (sz, by_, z)) (ha : opd a = some a') (hb : opd b = some b')
    (hx : xop (.append e sz by_ a' b') ev H = some (x, H')) : XS P φ base H w o ρ x H' := by
  have h1 := he a a' ha
  have h2 := he b b' hb
  obtain ⟨i, zv, e1, e2, e3, e4, e5, e6, e7, e8⟩ := einfo_ok hei
  obtain ⟨callee, args, argTypes⟩ := c
  simp only at hcc hca hct
  subst hcc
  obtain rfl : args = #[a, b] := by cases args; simpa using hca
  obtain rfl : argTypes = #[t, t] := by cases argTypes; simpa using hct
  have ex : ∀ {v : Value} {w' : World}, (Builtin.append_ #[t, t] o.type #[ρ a, ρ b]).run P w = .ok v w' → (execOp ρ o).run P w = .ok (.value v) w' := fun h => by
    simp [execOp, ho, resolve, invoke, builtin, h]
  simp only [xop] at hx
  obtain ⟨new, hnew, hx⟩ := bind_some hx
  unfold aappend at hx
  split at hx
  · rename_i hp
    rw [hp] at h1
    have hv : ρ a = .slice none 0 0 := h1
    split at hx
    · rename_i hn
      subst hn
      simp only [Option.some.injEq, Prod.mk.injEq] at hx
      obtain ⟨rfl, rfl⟩ := hx
      exact XS.pure hr (v := .slice none 0 0) (ex (by rw [hv]; exact run_append_empty ht e1 none 0 0 (Nat.le_refl _) _ (src_empty hr he h2 hnew))) rfl
    · rename_i hn
      split at hx
      · rename_i hb2
        obtain ⟨hbytes, hmx⟩ := hb2
        simp only [Option.some.injEq, Prod.mk.injEq] at hx
        obtain ⟨rfl, rfl⟩ := hx
        obtain ⟨ad, c, vs, hw, hl, hs, hvl, hc⟩ := src_vals hr h2 hnew hn
        have hpos : 0 < new.length := List.length_pos_iff.2 hn
        subst e3
        subst e4
        have hm63 : new.length ≤ 9223372036854775807 := by have h := hmx; unfold maxLen at h; omega
        have hrun := run_append_nil (P := P) w t o.type e i zv ht e1 e2 ad new.length c vs hvl hc hpos (by omega) (by omega)
        have hg := grown_goes (z := zv) (ty := e) (cap := grownCap w new.length 0 e) hr he hl hs e7 (grownCap_ge w new.length 0 e) (grownCap_le_maxLen w new.length 0 e hmx)
        exact ⟨_, _, _, .inl (ex (by rw [hv, hw]; exact hrun)), hg, new_sl (ty := e) (cells := #[]) hr he (Nat.le_refl _) (grownCap_ge w new.length 0 e) (grownCap_le_maxLen w new.length 0 e hmx)⟩
      · cases hx
  · rename_i b0 f n c hp
    rw [hp] at h1
    obtain ⟨ad0, c', hv, n1, n2, n3, n4⟩ := vr_s h1
    split at hx
    · rename_i hn
      subst hn
      simp only [Option.some.injEq, Prod.mk.injEq] at hx
      obtain ⟨rfl, rfl⟩ := hx
      exact XS.pure hr (v := ρ a) (ex (by rw [hv]; exact run_append_empty ht e1 (some ad0) n c' (by omega) _ (src_empty hr he h2 hnew))) (he a a' ha)
    · rename_i hn
      obtain ⟨k, hk, hy⟩ := bind_some hx
      clear hx
      split at hy
      · rename_i hb2
        obtain ⟨hown, hksz, hkty, rfl, hnl, hbytes, hmx⟩ := hb2
        obtain ⟨ad, cs, vs, hw, hl, hs, hvl, hc⟩ := src_vals hr h2 hnew hn
        obtain ⟨p, olds, hφ, hpsz, hol, hos, hovl, hoc⟩ := hr.rows_vals (n := n) hk (i := 0) (by omega)
        rw [List.drop_zero] at hol hos
        obtain ⟨p', hp', ok⟩ := hr.blk b0 k hk
        rw [hφ] at hp'
        obtain rfl := Option.some.inj hp'
        obtain ⟨o1, o2, o3, o4, cells, o5, o6⟩ := ok.own hown
        have hpos : 0 < new.length := List.length_pos_iff.2 hn
        subst e3
        subst e4
        subst hkty
        have hm63 : n + new.length ≤ 9223372036854775807 := by have h := hmx; unfold maxLen at h; omega
        have hat : p.at (0 * p.sz) = ⟨p.blk, 0, none⟩ := by simp [Place.at, o1]
        have hrl : ∀ r ∈ k.rows.take n ++ new, r.length = i.size := fun r hr => by
          rcases List.mem_append.1 hr with h | h
          · rw [← hksz]; exact hol r h
          · exact hl r h
        have hsr : SRs φ (k.rows.take n ++ new).flatten (olds ++ vs) := by rw [List.flatten_append]; exact hos.append hs
        have hrlen : (k.rows.take n ++ new).length = n + new.length := by simp; omega
        by_cases hroom : n + new.length ≤ c'
        · obtain ⟨p', hp', hadr, hcap⟩ := n4.resolve_left (by
            rintro (h | ⟨q, hq, h, hn0, _⟩)
            · exact absurd h (by omega)
            · rw [hφ] at hq; exact h (by rw [← Option.some.inj hq]; exact o1))
          rw [hφ] at hp'
          obtain rfl := Option.some.inj hp'
          rw [hat] at hadr
          subst hadr
          have hfit : n * i.size + vs.length ≤ cells.size := by
            rw [hvl, o6, ← Nat.add_mul, hksz]
            exact Nat.mul_le_mul_right _ (by omega)
          have hrun := run_append_room (P := P) w t o.type k.ty i ht e1 p.blk n c' cells o5 ad new.length cs vs hvl hc (fun u hu => hs.one u hu) hroom hfit
          have hgen : ∀ rows : List (List SV), (∀ (q : Nat) r, rows[q]? = some r → q < n + new.length → (k.rows.take n ++ new)[q]? = some r) → (∀ (q : Nat) r, rows[q]? = some r → n + new.length ≤ q → k.rows[q]? = some r) → rows.length ≤ p.cap →
              Goes φ base H w φ (H.upd b0 { k with rows := rows }) (w.setRow p.blk (cells.toList.take (n * i.size) ++ vs ++ cells.toList.drop (n * i.size + vs.length)).toArray) := fun rows hlow hhigh hlen => by
            refine Goes.upd hr (cells := (cells.toList.take (n * i.size) ++ vs ++ cells.toList.drop (n * i.size + vs.length)).toArray) hk hφ hown (setRow_heap w p.blk cells _ k.ty _ o5) (fun r hr => setRow_other w p.blk r _ (by omega)) (by simp) rfl rfl rfl ?_ ?_ hlen
            · intro q r hq
              rw [hksz]
              rcases Nat.lt_or_ge q (n + new.length) with hlt | hge
              · have hq2 := hlow q r hq hlt
                refine ⟨hrl r (List.mem_of_getElem? hq2), fun j y hy => ?_⟩
                obtain ⟨v, hv2, hsr2⟩ := hsr.get _ _ (flat_get hrl hq2 hy)
                refine ⟨v, ?_, hsr2⟩
                have htk : cells.toList.take (n * i.size) = olds := by
                  apply List.ext_getElem?
                  intro m
                  rw [List.getElem?_take]
                  split
                  · rename_i hm
                    have : m < olds.length := by rw [hovl, hksz]; exact hm
                    have h7 := hoc m _ (List.getElem?_eq_getElem this)
                    simp only [Nat.zero_mul, Place.at, o1, Nat.zero_add, Nat.add_zero] at h7
                    have hadd : (⟨p.blk, 0, none⟩ : Addr).add m = ⟨p.blk, m, none⟩ := by unfold Addr.add; split <;> simp_all
                    rw [hadd, cell_of_row w _ _ _ _ _ o5] at h7
                    rw [List.getElem?_eq_getElem this, ← h7]
                    simp
                  · rw [List.getElem?_eq_none]
                    rw [hovl, hksz]; omega
                rw [htk]
                have hlt2 : q * i.size + j < (olds ++ vs).length := (List.getElem?_eq_some_iff.1 hv2).1
                simp only [List.getElem?_toArray]
                rw [List.getElem?_append_left hlt2]
                exact hv2
              · have hq2 := hhigh q r hq hge
                obtain ⟨hrl2, hcc⟩ := ok.rows q r hq2
                refine ⟨by rw [← hksz]; exact hrl2, fun j y hy => ?_⟩
                obtain ⟨v, hv2, hsr2⟩ := hcc j y hy
                refine ⟨v, ?_, hsr2⟩
                simp only [Place.at, o1, Nat.zero_add] at hv2
                rw [cell_of_row w _ _ _ _ _ o5, hksz] at hv2
                have hge2 : n * i.size + vs.length ≤ q * i.size + j := by
                  rw [hvl, ← Nat.add_mul]
                  exact Nat.le_trans (Nat.mul_le_mul_right _ hge) (Nat.le_add_right _ _)
                simp only [List.getElem?_toArray]
                have hl1 : (cells.toList.take (n * i.size) ++ vs).length = n * i.size + vs.length := by simp; omega
                rw [List.getElem?_append_right (by rw [hl1]; exact hge2), hl1, List.getElem?_drop, show n * i.size + vs.length + (q * i.size + j - (n * i.size + vs.length)) = q * i.size + j by omega]
                simpa using hv2
            · simp
              rw [← o6]
              omega
          have hcapc : n + new.length ≤ p.cap := by omega
          split at hy
          · simp only [Option.some.injEq, Prod.mk.injEq] at hy
            obtain ⟨rfl, rfl⟩ := hy
            refine ⟨_, _, _, .inl (ex (by rw [hv, hw]; exact hrun)), hgen _ (fun q r hq hlt => by rw [List.getElem?_append_left (by rw [hrlen]; exact hlt)] at hq; exact hq) (fun q r hq hge => by
              rw [List.getElem?_append_right (by rw [hrlen]; exact hge), hrlen, List.getElem?_drop, show n + new.length + (q - (n + new.length)) = q by omega] at hq; exact hq) ?_, ⟨_, c', rfl, by omega, n2, n3, .inr ⟨p, hφ, by rw [hat], by omega⟩⟩⟩
            simp
            omega
          · simp only [Option.some.injEq, Prod.mk.injEq] at hy
            obtain ⟨rfl, rfl⟩ := hy
            have hg := hgen (k.rows.take n ++ new) (fun q r hq _ => hq) (fun q r hq hge => by
              have := (List.getElem?_eq_some_iff.1 hq).1
              rw [hrlen] at this
              omega) (by rw [hrlen]; exact hcapc)
            have hren := Goes.rename hg.rel (b := b0) (k := { k with rows := k.rows.take n ++ new }) (p := p) (by simp [AHeap.upd]) hφ hown
            rw [upd_del] at hren
            have hkk : ({ k with rows := k.rows.take n ++ new } : Blk) = ⟨i.size, k.ty, true, k.rows.take n ++ new⟩ := by rw [← hksz, ← hown]
            rw [hkk] at hren hg
            have hall := hg.trans hren
            refine ⟨_, _, _, .inl (ex (by rw [hv, hw]; exact hrun)), hall, ⟨_, c', rfl, Nat.le_refl _, hroom, n3, .inr ⟨p, if_pos rfl, by rw [hat], by omega⟩⟩⟩
        · have hcn : ¬ (n + new.length ≤ c) := by omega
          rw [if_neg hcn] at hy
          simp only [Option.some.injEq, Prod.mk.injEq] at hy
          obtain ⟨rfl, rfl⟩ := hy
          have holds : ∀ j u, olds[j]? = some u → w.cell? (ad0.add j) = some u := fun j u hu => by
            have hj : j < n * i.size := by have := (List.getElem?_eq_some_iff.1 hu).1; rw [hovl, hksz] at this; exact this
            have hn0 : n ≠ 0 := fun e => by subst e; simp at hj
            obtain ⟨p', hp', hadr, hcap⟩ := n4.resolve_left (by
            rintro (h | ⟨q, hq, h, hn0, _⟩)
            · exact absurd h (by omega)
            · rw [hφ] at hq; exact h (by rw [← Option.some.inj hq]; exact o1))
            rw [hφ] at hp'
            obtain rfl := Option.some.inj hp'
            have := hoc j u hu
            rw [hadr]
            rw [hpsz]
            exact this
          have hrun := run_append_grow (P := P) w t o.type k.ty i zv ht e1 e2 ad0 n c' olds (by rw [hovl, hksz]) holds ad new.length cs vs hvl hc (by omega) (by omega) (growslice_fits (by omega) hbytes)
          have hd := Goes.del hr b0
          have hg := grown_goes (H := H.del b0) (ev := ev) (z := zv) (ty := k.ty) (cap := grownCap w (n + new.length) c' k.ty) hd.rel he hrl hsr e7 (by rw [hrlen]; exact grownCap_ge w _ c' k.ty) (grownCap_le_maxLen w _ c' k.ty hmx)
          rw [hrlen] at hg
          have hcells : ((olds ++ vs).toArray ++ Builtin.zeroCells zv.cells (grownCap w (n + new.length) c' k.ty - (n + new.length))) = olds.toArray ++ vs.toArray ++ Builtin.zeroCells zv.cells (grownCap w (n + new.length) c' k.ty - (n + new.length)) := by
            simp
          rw [hcells] at hg
          exact ⟨_, _, _, .inl (ex (by rw [hv, hw]; exact hrun)), hd.trans hg, new_sl (H := H.del b0) (ty := k.ty) (cells := #[]) hd.rel he (Nat.le_refl _) (grownCap_ge w _ c' k.ty) (grownCap_le_maxLen w _ c' k.ty hmx)⟩
      · cases hy
  · cases hx

theorem xop_sound {ao : AOp} (hc : comp P o.op = some ao) (hx : xop ao ev H = some (x, H')) : XS P φ base H w o ρ x H' := by
  cases hop : o.op <;> rw [hop] at hc <;> simp only [comp] at hc
  case move a =>
    obtain ⟨a', ha, rfl⟩ := map_some hc
    exact xs_mov hr he (.inl hop) ha hx
  case assign a =>
    obtain ⟨a', ha, rfl⟩ := map_some hc
    exact xs_mov hr he (.inr hop) ha hx
  case pick c a b =>
    obtain ⟨c', hc', hc⟩ := bind_some hc
    obtain ⟨a', ha, hc⟩ := bind_some hc
    obtain ⟨b', hb, rfl⟩ := map_some hc
    exact xs_pick hr he hop hc' ha hb hx
  case alloc t =>
    obtain ⟨⟨sz, b, z⟩, hi, rfl⟩ := map_some hc
    exact xs_alloc hr he hop hi hx
  case box t a =>
    obtain ⟨a', ha, rfl⟩ := map_some hc
    exact xs_box hr he hop ha hx
  case build t ps =>
    split at hc
    · split at hc
      · obtain ⟨⟨sz, b, z⟩, hi, hc⟩ := bind_some hc
        obtain ⟨qs, hq, rfl⟩ := map_some hc
        exact xs_build hr he hop ‹_› ‹_› hi hq hx
      · cases hc
    · cases hc
  case buildSlice t n ps =>
    split at hc
    · obtain ⟨⟨sz, b, z⟩, hi, hc⟩ := bind_some hc
      simp only at hc
      split at hc
      · obtain ⟨qs, hq, rfl⟩ := map_some hc
        exact xs_mkrow hr he hop ‹_› hi ‹_› hq hx
      · cases hc
    · cases hc
  case load t a =>
    split at hc
    · rename_i d i hd hi
      obtain ⟨a', ha, rfl⟩ := map_some hc
      exact xs_load hr he hop hd hi ha hx
    · cases hc
  case store t a b =>
    obtain ⟨i, hi, hc⟩ := bind_some hc
    obtain ⟨a', ha, hc⟩ := bind_some hc
    obtain ⟨b', hb, rfl⟩ := map_some hc
    exact xs_store hr he hop hi ha hb hx
  case nilCheck a =>
    obtain ⟨a', ha, rfl⟩ := map_some hc
    exact xs_nilck hr he hop ha hx
  case binOp op t a b yt =>
    obtain ⟨a', ha, hc⟩ := bind_some hc
    obtain ⟨b', hb, hc⟩ := bind_some hc
    split at hc
    · cases hc; exact xs_bin hr he hop ha hb hx
    · cases hc; exact xs_bin hr he hop ha hb hx
    · split at hc
      · cases hc; subst_vars; exact xs_eqb hr he (neg := false) hop ‹_› ha hb hx
      · split at hc
        · cases hc; subst_vars; exact xs_eqb hr he (neg := true) hop ‹_› ha hb hx
        · cases hc
    · split at hc
      · cases hc; subst_vars; exact xs_eqnil hr he (neg := false) hop ‹_› ha hb hx
      · split at hc
        · cases hc; subst_vars; exact xs_eqnil hr he (neg := true) hop ‹_› ha hb hx
        · cases hc
    · split at hc
      · rename_i hpl
        obtain ⟨p1, p2, p3⟩ := hpl
        split at hc
        · cases hc; subst_vars; exact xs_eqagg hr he (neg := false) hop ‹_› p1 p2 p3 ha hb hx
        · split at hc
          · cases hc; subst_vars; exact xs_eqagg hr he (neg := true) hop ‹_› p1 p2 p3 ha hb hx
          · cases hc
      · cases hc
    · cases hc
  case unOp op t a =>
    obtain ⟨a', ha, rfl⟩ := map_some hc
    exact xs_un hr he hop ha hx
  case convert s d a =>
    split at hc
    · obtain ⟨a', ha, rfl⟩ := map_some hc
      exact xs_toInt hr he hop ‹_› ‹_› ha hx
    · cases hc
  case makeFunc fn first caps =>
    split at hc
    · split at hc
      · rename_i hcc
        obtain ⟨cs, hcs, rfl⟩ := map_some hc
        rename_i f
        exact xs_mkfn hr he hop hcc.1 hcs hx
      · cases hc
    · cases hc
  case makeSlice t l c =>
    split at hc
    · obtain ⟨⟨sz, b, z⟩, hi, hc⟩ := bind_some hc
      obtain ⟨l', hl, hc⟩ := bind_some hc
      obtain ⟨c', hc', rfl⟩ := map_some hc
      exact xs_mkslice hr he hop ‹_› hi hl hc' hx
    · cases hc
  case slice t a lo hi mx =>
    split at hc
    · split at hc
      · cases hc
      · rename_i hmh
        obtain ⟨i, hin, hc⟩ := bind_some hc
        obtain ⟨a', ha, hc⟩ := bind_some hc
        obtain ⟨lo', hlo, hc⟩ := bind_some hc
        obtain ⟨hi', hhi, hc⟩ := bind_some hc
        obtain ⟨mx', hmx, rfl⟩ := map_some hc
        exact xs_slice hr he hop ‹_› hin (by rw [Bool.not_eq_true] at hmh; exact hmh) ha hlo hhi hmx hx
    · split at hc
      · cases hc
      · rename_i hmh
        obtain ⟨a', ha, hc⟩ := bind_some hc
        obtain ⟨lo', hlo, hc⟩ := bind_some hc
        obtain ⟨hi', hhi, rfl⟩ := map_some hc
        exact xs_sslice hr he hop ‹_› (by cases mx with | none => rfl | some _ => simp at hmh) ha hlo hhi hx
    · cases hc
  case fieldAddr t a f =>
    split at hc
    · obtain ⟨d, hd, hc⟩ := bind_some hc
      obtain ⟨i, hi, hc⟩ := bind_some hc
      split at hc
      · obtain ⟨a', ha, rfl⟩ := map_some hc
        exact xs_faddr hr he hop ‹_› hd hi ‹_› ha hx
      · cases hc
    · cases hc
  case field t a f =>
    split at hc
    · obtain ⟨d, hd, hc⟩ := bind_some hc
      obtain ⟨i, hi, hc⟩ := bind_some hc
      obtain ⟨u, hu, hc⟩ := bind_some hc
      obtain ⟨a', ha, rfl⟩ := map_some hc
      exact xs_field hr he hop ‹_› hd hi hu ha hx
    · cases hc
  case indexAddr t a ix =>
    split at hc
    · obtain ⟨d, hd, hc⟩ := bind_some hc
      obtain ⟨a', ha, hc⟩ := bind_some hc
      obtain ⟨i', hi, rfl⟩ := map_some hc
      exact xs_iaddr hr he hop ‹_› hd ha hi hx
    · cases hc
  case index t a ix =>
    split at hc
    · obtain ⟨a', ha, hc⟩ := bind_some hc
      obtain ⟨i', hi, rfl⟩ := map_some hc
      exact xs_sidx hr he hop ‹_› ha hi hx
    · cases hc
  case extract a k =>
    obtain ⟨a', ha, rfl⟩ := map_some hc
    exact xs_extract hr he hop ha hx
  case call c =>
    unfold compCall at hc
    split at hc
    · split at hc
      · obtain ⟨as, _, rfl⟩ := map_some hc; cases hx
      · cases hc
    · obtain ⟨as, _, rfl⟩ := map_some hc; cases hx
    · rename_i hcal
      split at hc
      · rename_i a t ha ht
        split at hc
        · obtain ⟨a', ha', rfl⟩ := map_some hc
          exact xs_len hr he hop hcal ha ht ‹_› ha' hx
        · obtain ⟨a', ha', rfl⟩ := map_some hc
          exact xs_slen hr he hop hcal ha ht ‹_› ha' hx
        · cases hc
      · cases hc
    · rename_i hcal
      split at hc
      · rename_i a b t u ha ht
        split at hc
        · split at hc
          · obtain ⟨⟨sz, by_, z⟩, hi, hc⟩ := bind_some hc
            obtain ⟨a', ha', hc⟩ := bind_some hc
            obtain ⟨b', hb', rfl⟩ := map_some hc
            subst_vars
            exact xs_append hr he hop hcal ha ht ‹_› hi ha' hb' hx
          · cases hc
        · cases hc
      · cases hc
    · rename_i hcal
      split at hc
      · rename_i a b ha
        obtain ⟨a', ha', hc⟩ := bind_some hc
        obtain ⟨b', hb', rfl⟩ := map_some hc
        exact xs_mx hr he hop hcal ha ha' hb' hx
      · cases hc
    · rename_i hcal
      split at hc
      · rename_i a b ha
        obtain ⟨a', ha', hc⟩ := bind_some hc
        obtain ⟨b', hb', rfl⟩ := map_some hc
        exact xs_mn hr he hop hcal ha ha' hb' hx
      · cases hc
    · cases hc
  all_goals cases hc

end
end Go.Proofs.Ytpidphppldimkaa.Den
