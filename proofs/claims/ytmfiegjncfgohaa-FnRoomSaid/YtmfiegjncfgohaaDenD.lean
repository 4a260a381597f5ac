/- The abstract calculus, part D: each operation of the small code is what the model's does, seen over the relation. -/
import Derived.Laws.StructEq
import Derived.Test.YtmfiegjncfgohaaDenC
import Derived.Laws.Entries
import Derived.Laws.Unary
import Derived.Laws.Small
import Derived.WalkSpells
import Derived.Lib.SliceRun
namespace Go.Proofs.Ytmfiegjncfgohaa.Den
open Go.RowKit
set_option linter.unusedVariables false
set_option linter.unusedSimpArgs false

def XS (P : Program) (φ : Phi) (base : Nat) (H : AHeap) (w : World) (o : Oper) (ρ : Operand → Value) (x : AV) (H' : AHeap) : Prop :=
  ∃ v φ' w', ((execOp ρ o).run P w = .ok (.value v) w' ∨ ((execOp ρ o).run P w = .ok .skip w' ∧ v = undef)) ∧ Goes φ base H w φ' H' w' ∧ VR φ' x v

theorem beq_false_of {a b : ByteArray} (h : ¬ a = b) : (a == b) = false := by
  cases hc : (a == b) with
  | false => rfl
  | true =>
    rw [beq_toListBytes, ByteArray.toList_eq, ByteArray.toList_eq] at hc
    exact absurd (ByteArray.ext (Array.toList_inj.mp (by simpa using hc))) h
theorem eqFields_ok {P : Program} {d : Nat} {φ : Phi} {w : World} {xs ys : Array Value} : ∀ (fs : List Field) (off : Nat) (ks : List Nat) (l l' : List SV) (b : Bool), plainKinds P fs off = some ks → SRs φ l (xs.toList.drop off) → SRs φ l' (ys.toList.drop off) → aeq ks l l' = some b → (Op.eqFields (d + 1) xs ys fs).run P w = .ok b w
  | [], off, ks, l, l', b, hk, _, _, h => by
    simp only [plainKinds, Option.some.injEq] at hk
    subst hk
    cases l <;> cases l' <;> simp [aeq] at h
    subst h
    simp [Op.eqFields]
  | f :: fs, off, ks, l, l', b, hk, hx, hy, h => by
    unfold plainKinds at hk
    split at hk
    · rename_i hno
      obtain ⟨hn, ho⟩ := hno
      obtain ⟨k, hk1, hk⟩ := Option.bind_eq_some_iff.1 hk
      obtain ⟨ks', hks, rfl⟩ := Option.map_eq_some_iff.1 hk
      cases l with
      | nil => rcases k with _ | _ | _ | k <;> simp [aeq] at h
      | cons x l =>
        cases l' with
        | nil => rcases k with _ | _ | _ | k <;> cases x <;> simp [aeq] at h
        | cons y l' =>
          obtain ⟨va, e1, r1⟩ := hx.get 0 x rfl
          obtain ⟨vb, e2, r2⟩ := hy.get 0 y rfl
          have hx' := hx.drop 1
          have hy' := hy.drop 1
          simp only [List.drop_succ_cons, List.drop_zero, List.drop_drop] at hx' hy'
          have ex : xs[f.offset]? = some va := by rw [ho]; simpa using e1
          have ey : ys[f.offset]? = some vb := by rw [ho]; simpa using e2
          have pa : ∀ {zs : Array Value} {v : Value}, zs[f.offset]? = some v → (part f.type zs f.offset).run P w = .ok v w := fun {zs v} hz => by
            split at hk1
            · rename_i hu; simp [part, isAgg, run_underlying hu, hz]
            · rename_i hu; simp [part, isAgg, run_underlying hu, hz]
            · rename_i hu; simp [part, isAgg, run_underlying hu, hz]
            · cases hk1
          have ih : ∀ b', aeq ks' l l' = some b' → (Op.eqFields (d + 1) xs ys fs).run P w = .ok b' w := fun b' h' => eqFields_ok fs (off + 1) ks' l l' b' hks hx' hy' h'
          simp only [Op.eqFields, hn, ne_eq, not_false_eq_true, if_true, Sem.run_bind, pa ex, pa ey, Result.andThen_ok]
          split at hk1
          · rename_i kk hu
            obtain rfl := (Option.some.inj hk1).symm
            cases x <;> cases y <;> try (simp [aeq] at h; done)
            case int.int k m k' m' =>
              simp only [aeq] at h
              split at h
              · rename_i hkk
                subst hkk
                obtain ⟨t', ht', rfl⟩ := Option.map_eq_some_iff.1 h
                have r1 : va = .int k m := r1
                have r2 : vb = .int k m' := r2
                subst r1
                subst r2
                rw [run_equalIn_int w d f.type _ _ m m' hu]
                by_cases hmm : m = m' <;> simp [hmm, ih t' ht', Result.andThen]
              · cases h
          · rename_i hu
            obtain rfl := (Option.some.inj hk1).symm
            cases x <;> cases y <;> try (simp [aeq] at h; done)
            case bool.bool m m' =>
              simp only [aeq] at h
              obtain ⟨t', ht', rfl⟩ := Option.map_eq_some_iff.1 h
              have r1 : va = .bool m := r1
              have r2 : vb = .bool m' := r2
              subst r1
              subst r2
              rw [run_equalIn_bool w d f.type m m' hu]
              by_cases hmm : m = m' <;> simp [hmm, ih t' ht', Result.andThen]
          · rename_i hu
            obtain rfl := (Option.some.inj hk1).symm
            cases x <;> cases y <;> try (simp [aeq] at h; done)
            case str.str m m' =>
              simp only [aeq] at h
              obtain ⟨t', ht', rfl⟩ := Option.map_eq_some_iff.1 h
              have r1 : va = .string m := r1
              have r2 : vb = .string m' := r2
              subst r1
              subst r2
              rw [run_equalIn_string w d f.type m m' hu]
              by_cases hmm : m = m'
              · simp [hmm, ih t' ht', Result.andThen]
              · have : (m.toList == m'.toList) = false := by rw [← beq_toListBytes]; exact beq_false_of hmm
                simp [hmm, this, ih t' ht', Result.andThen]
          · cases hk1
    · cases hk
section
variable {P : Program} {φ : Phi} {base : Nat} {H H' : AHeap} {w : World} {o : Oper} {ρ : Operand → Value} {ev : Opd → AV} {x : AV}

theorem XS.pure (hr : Rel φ base H w) {v : Value} (h : (execOp ρ o).run P w = .ok (.value v) w) (hv : VR φ x v) : XS P φ base H w o ρ x H :=
  ⟨v, φ, w, .inl h, Goes.refl hr, hv⟩

/-- How the operands stand. -/
def Evs (φ : Phi) (ev : Opd → AV) (ρ : Operand → Value) : Prop := ∀ x y, opd x = some y → VR φ (ev y) (ρ x)

theorem vr_s {x : SV} {v : Value} (h : VR φ (.s x) v) : SR φ x v := h
theorem vr_fptr {r : List SV} {j : Nat} {v : Value} (h : VR φ (.s (.fptr r j)) v) : ∃ b off o, v = .pointer (some ⟨b, off + j, none⟩) ∧ φ.fz b = some o ∧ DRs φ.fz r o off := by
  have h : DR φ.fz (.fptr r j) v := h
  simpa only [DR] using h
theorem fptr_vr {r : List SV} {j : Nat} {v : Value} (h : ∃ b off o, v = .pointer (some ⟨b, off + j, none⟩) ∧ φ.fz b = some o ∧ DRs φ.fz r o off) : VR φ (.s (.fptr r j)) v := by
  show DR φ.fz (.fptr r j) v
  simpa only [DR] using h
theorem lst_vr {sz : Nat} {rows : List (List SV)} {v : Value} (h : (rows = [] ∧ ∃ a c, v = .slice a 0 c ∧ c ≤ maxLen ∧ (a = none → c = 0)) ∨ ∃ b off c o, v = .slice (some ⟨b, off, none⟩) rows.length c ∧ rows.length ≤ c ∧ c ≤ maxLen ∧ φ.fz b = some o ∧ DRss φ.fz sz rows o off) : VR φ (.s (.lst sz rows)) v := by
  show DR φ.fz (.lst sz rows) v
  simpa only [DR] using h
theorem emp_vr {v : Value} (h : ∃ a, v = .slice a 0 0) : VR φ (.s .emp) v := by
  show DR φ.fz .emp v
  simpa only [DR] using h
theorem vr_lst {sz : Nat} {rows : List (List SV)} {v : Value} (h : VR φ (.s (.lst sz rows)) v) : (rows = [] ∧ ∃ a c, v = .slice a 0 c ∧ c ≤ maxLen ∧ (a = none → c = 0)) ∨ ∃ b off c o, v = .slice (some ⟨b, off, none⟩) rows.length c ∧ rows.length ≤ c ∧ c ≤ maxLen ∧ φ.fz b = some o ∧ DRss φ.fz sz rows o off := by
  have h : DR φ.fz (.lst sz rows) v := h
  simpa only [DR] using h
theorem vr_emp {v : Value} (h : VR φ (.s .emp) v) : ∃ a, v = .slice a 0 0 := by
  have h : DR φ.fz .emp v := h
  simpa only [DR] using h
theorem vr_nemp {v : Value} (h : VR φ (.s .nemp) v) : ∃ a c, v = .slice (some a) 0 c := by
  have h : DR φ.fz .nemp v := h
  simpa only [DR] using h
/-- The values of cells that no one changes. -/
theorem fz_vals (hr : Rel φ base H w) {b : Nat} {o : Obj} (hf : φ.fz b = some o) : ∀ {l : List SV} {off : Nat}, DRs φ.fz l o off → ∃ vs : List Value, SRs φ l vs ∧ ∀ (q : Nat) v, vs[q]? = some v → w.cell? ((⟨b, off, none⟩ : Addr).add q) = some v
  | [], off, _ => ⟨[], .nil, fun q v h => by simp at h⟩
  | x :: l, off, h => by
    simp only [DRs] at h
    obtain ⟨⟨v, hv, hd⟩, h⟩ := h
    obtain ⟨vs, h1, h2⟩ := fz_vals hr hf h
    refine ⟨v :: vs, .cons (SR.dr hd) h1, fun q u hu => ?_⟩
    have hadd : ∀ (m k : Nat), (⟨b, m, none⟩ : Addr).add k = ⟨b, m + k, none⟩ := fun m k => by unfold Addr.add; split <;> simp_all
    cases q with
    | zero =>
      simp at hu
      subst hu
      rw [hadd, Nat.add_zero, cell_of_obj (hr.fz b o hf).1]
      exact hv
    | succ q =>
      have := h2 q u (by simpa using hu)
      rw [hadd] at this ⊢
      rwa [show off + 1 + q = off + (q + 1) by omega] at this
theorem vr_agg {l : List SV} {v : Value} (h : VR φ (.agg l) v) : ∃ cs : Array Value, v = .agg cs ∧ SRs φ l cs.toList := h

/-- The cells of a value. -/
theorem vr_cells {y : AV} {v : Value} {l : List SV} (h : VR φ y v) (hl : y.cells = some l) : SRs φ l v.cells.toList := by
  cases y with
  | no => cases hl
  | tup l => cases hl
  | s x =>
    simp only [AV.cells, Option.some.injEq] at hl
    subst hl
    have h1 := (vr_s h).one
    cases v <;> first | exact .cons h .nil | (simp [Value.oneCell'] at h1; done)
  | agg l' =>
    simp only [AV.cells, Option.some.injEq] at hl
    subst hl
    obtain ⟨cs, rfl, hs⟩ := vr_agg h
    exact hs

theorem sv_ok {v : Value} {x : SV} (h : sv v = some x) : SR φ x v := by
  unfold sv at h
  split at h <;> cases h <;> exact (rfl : _ = _)
theorem svs_ok : ∀ {vs : List Value} {l : List SV}, svs vs = some l → SRs φ l vs
  | [], l, h => by simp [svs] at h; subst h; exact .nil
  | v :: r, l, h => by
    unfold svs at h
    cases h1 : sv v with
    | none => rw [h1] at h; cases h
    | some x =>
      rw [h1] at h
      cases h2 : svs r with
      | none => rw [h2] at h; cases h
      | some l' =>
        rw [h2] at h
        simp at h
        subst h
        exact .cons (sv_ok h1) (svs_ok h2)

/-- The frame's own reading of operands. -/
def evf (f : List (Nat × AV)) : Opd → AV
  | .t n => fget f n
  | .c x => .s x
  | .ca l => .agg l
theorem evs_frame {N : Nat} {f : List (Nat × AV)} {a : Act} (h : FR φ N f a) : Evs φ (evf f) a.eval := by
  intro x y hy
  unfold opd at hy
  split at hy
  · obtain rfl := (Option.some.inj hy).symm; exact h.2.2 _
  · cases hs : svs (Array.toList _) with
    | none => rw [hs] at hy; cases hy
    | some l => rw [hs] at hy; obtain rfl := (Option.some.inj hy).symm; exact ⟨_, rfl, svs_ok hs⟩
  · cases hs : sv _ with
    | none => rw [hs] at hy; cases hy
    | some l => rw [hs] at hy; obtain rfl := (Option.some.inj hy).symm; exact sv_ok (φ := φ) hs
  · obtain rfl := (Option.some.inj hy).symm; exact ⟨#[], rfl, .nil⟩
  · cases hy

theorem map_some {α β : Type} {f : α → β} {x : Option α} {y : β} (h : x.map f = some y) : ∃ a, x = some a ∧ f a = y := by
  cases x with
  | none => cases h
  | some a => exact ⟨a, rfl, Option.some.inj h⟩
theorem bind_some {α β : Type} {f : α → Option β} {x : Option α} {y : β} (h : x.bind f = some y) : ∃ a, x = some a ∧ f a = some y := by
  cases x with
  | none => cases h
  | some a => exact ⟨a, rfl, h⟩

theorem pickv_vr {t : Bool} {y z : AV} {u v : Value} (h : VR φ y u) (k : VR φ z v) : VR φ (pickv t y z) (if t then u else v) := by
  unfold pickv
  split
  · cases t <;> simp_all [VR, VR0, SR, DR]
  · split
    · subst_vars; cases t <;> simp_all [VR, VR0, SR, DR]
    · cases t <;> assumption
  · cases t <;> assumption

theorem exec_bin {op : BinOp} {t yt : TypeId} {a b : Operand} {v : Value} (ho : o.op = .binOp op t a b yt) (hg : (eqGuard op t a b (ρ a) (ρ b)).run P w = .ok () w) (hb : (binOp op t (ρ a) (ρ b)).run P w = .ok v w) : (execOp ρ o).run P w = .ok (.value v) w := by
  simp only [execOp, ho, Sem.run_bind, hg, Result.andThen_ok, hb]
  rfl
theorem guard_bool {op : BinOp} {t : TypeId} {a b : Operand} {p q : Bool} : (eqGuard op t a b (.bool p) (.bool q)).run P w = .ok () w := by cases op <;> rfl
theorem guard_int {op : BinOp} {t : TypeId} {a b : Operand} {k k' : IntKind} {p q : Int} : (eqGuard op t a b (.int k p) (.int k' q)).run P w = .ok () w := by cases op <;> rfl
theorem guard_str {op : BinOp} {t : TypeId} {a b : Operand} {p q : ByteArray} : (eqGuard op t a b (.string p) (.string q)).run P w = .ok () w := by cases op <;> rfl
theorem guard_slice {op : BinOp} {t : TypeId} {a b : Operand} {p q : Option Addr} {n m n' m' : Nat} : (eqGuard op t a b (.slice p n m) (.slice q n' m')).run P w = .ok () w := by cases op <;> rfl

variable (hr : Rel φ base H w) (he : Evs φ ev ρ)
include hr he
set_option linter.unusedSectionVars false

theorem xs_mov {a : Operand} {a' : Opd} (ho : o.op = .move a ∨ o.op = .assign a) (ha : opd a = some a') (hx : xop (.mov a') ev H = some (x, H')) : XS P φ base H w o ρ x H' := by
  simp only [xop, Option.some.injEq, Prod.mk.injEq] at hx
  obtain ⟨rfl, rfl⟩ := hx
  exact XS.pure hr (v := ρ a) (by rcases ho with ho | ho <;> simp [execOp, ho]) (he a a' ha)

theorem xs_pick {c a b : Operand} {c' a' b' : Opd} (ho : o.op = .pick c a b) (hc : opd c = some c') (ha : opd a = some a') (hb : opd b = some b') (hx : xop (.pick c' a' b') ev H = some (x, H')) : XS P φ base H w o ρ x H' := by
  simp only [xop] at hx
  split at hx
  · rename_i t ht
    simp only [Option.some.injEq, Prod.mk.injEq] at hx
    obtain ⟨rfl, rfl⟩ := hx
    have h1 := he c c' hc
    rw [ht] at h1
    have h1 : ρ c = .bool t := h1
    exact XS.pure hr (v := if t then ρ a else ρ b) (by simp [execOp, ho, h1, asBool]) (pickv_vr (he a a' ha) (he b b' hb))
  · cases hx

theorem xs_load {t : TypeId} {a : Operand} {a' : Opd} {d : TypeDesc} {i : TypeInfo} (ho : o.op = .load t a) (hd : P.underlying t = some d) (hi : P.info? t = some i) (ha : opd a = some a')
    (hx : xop (if isAggD d then .loadn i.size a' else .load1 a') ev H = some (x, H')) : XS P φ base H w o ρ x H' := by
  have h1 := he a a' ha
  split at hx
  · rename_i hag
    simp only [xop] at hx
    split at hx
    · rename_i b e j hp
      rw [hp] at h1
      obtain ⟨ad, hv, p, hφ, rfl⟩ := vr_s h1
      obtain ⟨l, hl, hx⟩ := map_some hx
      simp only [Prod.mk.injEq] at hx
      obtain ⟨rfl, rfl⟩ := hx
      obtain ⟨p', vs, hp', hn, hs, hc⟩ := hr.cells hl
      rw [hφ] at hp'
      obtain rfl := Option.some.inj hp'
      have hlen : vs.length = i.size := by rw [← hs.length, hn]
      have hrun := run_loadCells_list (P := P) w (p.at (e * p.sz + j)) vs (fun q v hv => by rw [Place.at_add]; exact hc q v hv)
      rw [hlen] at hrun
      refine XS.pure hr (v := .agg vs.toArray) ?_ ⟨vs.toArray, rfl, by simpa using hs⟩
      cases d <;> simp [isAggD] at hag <;> simp [execOp, ho, hv, Instr.loadAt, Instr.sureAddr, loadVar, isAgg, run_underlying hd, sizeOf, typeInfo, hi, hrun]
    · rename_i r j hp
      rw [hp] at h1
      obtain ⟨bl, off, ob, hv, hf, hd2⟩ := vr_fptr h1
      split at hx
      · rename_i hle
        simp only [Option.some.injEq, Prod.mk.injEq] at hx
        obtain ⟨rfl, rfl⟩ := hx
        obtain ⟨vs, hs, hc⟩ := fz_vals hr hf (l := (r.drop j).take i.size) (off := off + j) (DRs.of_get fun q x hx => by
          rw [List.getElem?_take] at hx
          split at hx
          · rw [List.getElem?_drop] at hx
            have := hd2.get (j + q) x hx
            rwa [← Nat.add_assoc] at this
          · cases hx)
        have hlen : vs.length = i.size := by rw [← hs.length]; simp; omega
        have hrun := run_loadCells_list (P := P) w ⟨bl, off + j, none⟩ vs hc
        rw [hlen] at hrun
        refine XS.pure hr (v := .agg vs.toArray) ?_ ⟨vs.toArray, rfl, by simpa using hs⟩
        cases d <;> simp [isAggD] at hag <;> simp [execOp, ho, hv, Instr.loadAt, Instr.sureAddr, loadVar, isAgg, run_underlying hd, sizeOf, typeInfo, hi, hrun]
      · cases hx
    · cases hx
  · rename_i hag
    simp only [xop] at hx
    split at hx
    · rename_i b e j hp
      rw [hp] at h1
      obtain ⟨ad, hv, p, hφ, rfl⟩ := vr_s h1
      obtain ⟨y, hy, hx⟩ := map_some hx
      simp only [Prod.mk.injEq] at hx
      obtain ⟨rfl, rfl⟩ := hx
      obtain ⟨p', u, hp', hc, hs⟩ := hr.cell hy
      rw [hφ] at hp'
      obtain rfl := Option.some.inj hp'
      refine XS.pure hr (v := u) ?_ hs
      cases d <;> simp [isAggD] at hag <;> simp [execOp, ho, hv, Instr.loadAt, Instr.sureAddr, loadVar, isAgg, run_underlying hd, run_load, hc]
    · rename_i r j hp
      rw [hp] at h1
      obtain ⟨bl, off, ob, hv, hf, hd2⟩ := vr_fptr h1
      obtain ⟨y, hy, hx⟩ := map_some hx
      simp only [Prod.mk.injEq] at hx
      obtain ⟨rfl, rfl⟩ := hx
      obtain ⟨u, hu, hs⟩ := hd2.get j y hy
      have hc : w.cell? ⟨bl, off + j, none⟩ = some u := by rw [cell_of_obj (hr.fz bl ob hf).1]; exact hu
      refine XS.pure hr (v := u) ?_ (SR.dr hs)
      cases d <;> simp [isAggD] at hag <;> simp [execOp, ho, hv, Instr.loadAt, Instr.sureAddr, loadVar, isAgg, run_underlying hd, run_load, hc]
    · cases hx

theorem xs_faddr {t : TypeId} {a : Operand} {f : Nat} {a' : Opd} {fs : Array Field} {d : Field} {i : TypeInfo} (ho : o.op = .fieldAddr t a f) (hd : P.underlying t = some (.struct fs)) (hf : fs[f]? = some d) (hi : P.info? d.type = some i) (hz : i.size ≠ 0) (ha : opd a = some a')
    (hx : xop (.faddr d.offset a') ev H = some (x, H')) : XS P φ base H w o ρ x H' := by
  have h1 := he a a' ha
  simp only [xop] at hx
  split at hx
  · rename_i b e j hp
    rw [hp] at h1
    obtain ⟨ad, hv, p, hφ, rfl⟩ := vr_s h1
    simp only [Option.some.injEq, Prod.mk.injEq] at hx
    obtain ⟨rfl, rfl⟩ := hx
    refine XS.pure hr (v := .pointer (some (p.at (e * p.sz + (j + d.offset))))) ?_ ⟨_, rfl, p, hφ, rfl⟩
    simp [execOp, ho, hv, Instr.fieldAt, Instr.sureAddr, run_underlying hd, hf, fieldPlace, sizeOf, typeInfo, hi, hz, Place.at_add, Nat.add_assoc]
  · rename_i r j hp
    rw [hp] at h1
    obtain ⟨bl, off, ob, hv, hf2, hd2⟩ := vr_fptr h1
    simp only [Option.some.injEq, Prod.mk.injEq] at hx
    obtain ⟨rfl, rfl⟩ := hx
    have hadd : (⟨bl, off + j, none⟩ : Addr).add d.offset = ⟨bl, off + (j + d.offset), none⟩ := by unfold Addr.add; split <;> simp_all [Nat.add_assoc]
    refine XS.pure hr (v := .pointer (some ⟨bl, off + (j + d.offset), none⟩)) ?_ (fptr_vr ⟨bl, off, ob, rfl, hf2, hd2⟩)
    simp [execOp, ho, hv, Instr.fieldAt, Instr.sureAddr, run_underlying hd, hf, fieldPlace, sizeOf, typeInfo, hi, hz, hadd]
  · cases hx

theorem has_place {b sz : Nat} (h : H.has b sz = true) : ∃ p, φ b = some p ∧ p.sz = sz := by
  unfold AHeap.has at h
  split at h
  · rename_i k hk
    obtain ⟨p, hp, ok⟩ := hr.blk b k hk
    exact ⟨p, hp, by rw [ok.sz]; exact of_decide_eq_true h⟩
  · cases h

theorem xs_iaddr {t e : TypeId} {a ix : Operand} {a' i' : Opd} {i : TypeInfo} (ho : o.op = .indexAddr t a ix) (hd : P.underlying t = some (.slice e)) (hi : P.info? e = some i) (ha : opd a = some a') (hix : opd ix = some i')
    (hx : xop (.iaddr i.size a' i') ev H = some (x, H')) : XS P φ base H w o ρ x H' := by
  have h1 := he a a' ha
  have h2 := he ix i' hix
  simp only [xop] at hx
  split at hx
  · rename_i b f n c k0 k hp hq
    rw [hp] at h1
    rw [hq] at h2
    obtain ⟨ad, c', p', hv, hn1, hn2, hn3, hp', hn4⟩ := vr_s h1
    have hw : ρ ix = .int k0 k := h2
    split at hx
    · rename_i hb
      obtain ⟨b1, b2, b3⟩ := hb
      simp only [Option.some.injEq, Prod.mk.injEq] at hx
      obtain ⟨rfl, rfl⟩ := hx
      obtain ⟨p, hφ, hsz⟩ := has_place hr he b3
      have hc' : c' ≠ 0 := by omega
      obtain ⟨rfl, hcap⟩ := hn4.resolve_left hc'
      rw [hφ] at hp'
      obtain rfl := Option.some.inj hp'
      refine XS.pure hr (v := .pointer (some (p.at ((f + k.toNat) * p.sz + 0)))) ?_ ⟨_, rfl, p, hφ, rfl⟩
      simp [execOp, ho, hv, hw, Instr.indexAt, asIntOf, run_underlying hd, b1, b2, sizeOf, typeInfo, hi, Place.at_add, Nat.add_mul, hsz]
    · cases hx
  · rename_i sz' rows k0 k hp hq
    rw [hp] at h1
    rw [hq] at h2
    have hw : ρ ix = .int k0 k := h2
    split at hx
    · rename_i hb
      obtain ⟨b1, rfl⟩ := hb
      obtain ⟨r, hrw, hx⟩ := map_some hx
      simp only [Prod.mk.injEq] at hx
      obtain ⟨rfl, rfl⟩ := hx
      have hlt : k.toNat < rows.length := (List.getElem?_eq_some_iff.1 hrw).1
      rcases vr_lst h1 with ⟨rfl, _⟩ | ⟨bl, off, c, ob, hv, hc1, hc2, hf, hss⟩
      · cases hlt
      have b2 : k < (rows.length : Int) := by omega
      have hadd : (⟨bl, off, none⟩ : Addr).add (k.toNat * i.size) = ⟨bl, off + k.toNat * i.size, none⟩ := by unfold Addr.add; split <;> simp_all
      refine XS.pure hr (v := .pointer (some ⟨bl, off + k.toNat * i.size, none⟩)) ?_ (fptr_vr ⟨bl, off + k.toNat * i.size, ob, rfl, hf, (hss.get k.toNat r hrw).2⟩)
      simp [execOp, ho, hv, hw, Instr.indexAt, asIntOf, run_underlying hd, b1, b2, sizeOf, typeInfo, hi, hadd]
    · cases hx
  · cases hx

theorem xs_nilck {a : Operand} {a' : Opd} (ho : o.op = .nilCheck a) (ha : opd a = some a') (hx : xop (.nilck a') ev H = some (x, H')) : XS P φ base H w o ρ x H' := by
  have h1 := he a a' ha
  simp only [xop] at hx
  split at hx
  · rename_i b e j hp
    rw [hp] at h1
    simp only [Option.some.injEq, Prod.mk.injEq] at hx
    obtain ⟨rfl, rfl⟩ := hx
    obtain ⟨ad, hv, k⟩ := vr_s h1
    exact XS.pure hr (v := ρ a) (by simp [execOp, ho, hv]) h1
  · rename_i f cs hp
    rw [hp] at h1
    simp only [Option.some.injEq, Prod.mk.injEq] at hx
    obtain ⟨rfl, rfl⟩ := hx
    obtain ⟨ad, hv, k⟩ := vr_s h1
    exact XS.pure hr (v := ρ a) (by simp [execOp, ho, hv]) h1
  · rename_i r j hp
    rw [hp] at h1
    simp only [Option.some.injEq, Prod.mk.injEq] at hx
    obtain ⟨rfl, rfl⟩ := hx
    obtain ⟨bl, off, ob, hv, hf2, hd2⟩ := vr_fptr h1
    exact XS.pure hr (v := ρ a) (by simp [execOp, ho, hv]) h1
  · cases hx

theorem xs_extract {a : Operand} {k : Nat} {a' : Opd} (ho : o.op = .extract a k) (ha : opd a = some a') (hx : xop (.extract a' k) ev H = some (x, H')) : XS P φ base H w o ρ x H' := by
  have h1 := he a a' ha
  simp only [xop] at hx
  split at hx
  · rename_i l hp
    rw [hp] at h1
    obtain ⟨vs, hv, hs⟩ := h1
    obtain ⟨y, hy, hx⟩ := map_some hx
    simp only [Prod.mk.injEq] at hx
    obtain ⟨rfl, rfl⟩ := hx
    obtain ⟨u, hu, h0⟩ := hs.get k y hy
    have hu' : vs[k]? = some u := by simpa using hu
    exact XS.pure hr (v := u) (by simp [execOp, ho, hv, Instr.extract, hu']) (VR.of0 h0)
  · cases hx

theorem xs_un {op : UnOp} {t : TypeId} {a : Operand} {a' : Opd} (ho : o.op = .unOp op t a) (ha : opd a = some a') (hx : xop (.un op a') ev H = some (x, H')) : XS P φ base H w o ρ x H' := by
  have h1 := he a a' ha
  simp only [xop] at hx
  split at hx
  · rename_i b hp
    rw [hp] at h1
    simp only [Option.some.injEq, Prod.mk.injEq] at hx
    obtain ⟨rfl, rfl⟩ := hx
    have hv : ρ a = .bool b := h1
    exact XS.pure hr (v := .bool !b) (by simp [execOp, ho, hv, Op.unary]) rfl
  · rename_i k n hp
    rw [hp] at h1
    simp only [Option.some.injEq, Prod.mk.injEq] at hx
    obtain ⟨rfl, rfl⟩ := hx
    have hv : ρ a = .int k n := h1
    exact XS.pure hr (v := .int k (k.wrap (0 - n))) (by simp [execOp, ho, hv, Op.unary, Op.intArith]) rfl
  · cases hx

theorem xs_toInt {s d : TypeId} {a : Operand} {a' : Opd} {k0 k : IntKind} (ho : o.op = .convert s d a) (hs : P.underlying s = some (.int k0)) (hd : P.underlying d = some (.int k)) (ha : opd a = some a') (hx : xop (.toInt k a') ev H = some (x, H')) : XS P φ base H w o ρ x H' := by
  have h1 := he a a' ha
  simp only [xop] at hx
  split at hx
  · rename_i q n hp
    rw [hp] at h1
    simp only [Option.some.injEq, Prod.mk.injEq] at hx
    obtain ⟨rfl, rfl⟩ := hx
    have hv : ρ a = .int q n := h1
    exact XS.pure hr (v := .int k (k.wrap n)) (by simp [execOp, ho, hv, convert, run_underlying hs, run_underlying hd, Conv.intToInt]) rfl
  · cases hx

theorem xs_eqb {neg : Bool} {t : TypeId} {a b : Operand} {yt : TypeId} {a' b' : Opd} (ho : o.op = .binOp (if neg then .neq else .eql) t a b yt) (ht : P.underlying t = some .bool) (ha : opd a = some a') (hb : opd b = some b') (hx : xop (.eqb neg a' b') ev H = some (x, H')) : XS P φ base H w o ρ x H' := by
  have h1 := he a a' ha
  have h2 := he b b' hb
  simp only [xop] at hx
  split at hx
  · rename_i p q hp hq
    rw [hp] at h1
    rw [hq] at h2
    simp only [Option.some.injEq, Prod.mk.injEq] at hx
    obtain ⟨rfl, rfl⟩ := hx
    have hv : ρ a = .bool p := h1
    have hw : ρ b = .bool q := h2
    cases neg
    · exact XS.pure hr (v := .bool (p == q)) (exec_bin ho (by rw [hv, hw]; exact guard_bool) (by rw [hv, hw]; exact run_eql_bool w t p q ht)) (by cases p <;> cases q <;> rfl)
    · exact XS.pure hr (v := .bool (!(p == q))) (exec_bin ho (by rw [hv, hw]; exact guard_bool) (by rw [hv, hw]; exact run_neq_bool w t p q ht)) (by cases p <;> cases q <;> rfl)
  · cases hx

theorem xs_eqagg {neg : Bool} {t : TypeId} {fs : Array Field} {ks : List Nat} {a b : Operand} {yt : TypeId} {a' b' : Opd} (ho : o.op = .binOp (if neg then .neq else .eql) t a b yt) (ht : P.underlying t = some (.struct fs)) (hf : plainKinds P fs.toList 0 = some ks) (hst : P.stoodInHeld t = false) (hgd : P.eqGuardType P.depth t = false) (ha : opd a = some a') (hb : opd b = some b') (hx : xop (.eqagg neg ks a' b') ev H = some (x, H')) : XS P φ base H w o ρ x H' := by
  have h1 := he a a' ha
  have h2 := he b b' hb
  simp only [xop] at hx
  split at hx
  · rename_i l l' hp hq
    rw [hp] at h1
    rw [hq] at h2
    obtain ⟨t', ht', hx⟩ := map_some hx
    simp only [Prod.mk.injEq] at hx
    obtain ⟨rfl, rfl⟩ := hx
    obtain ⟨cs, hv, hs⟩ := h1
    obtain ⟨cs', hw, hs'⟩ := h2
    have hfo : P.fieldsOf t = fs := by simp [Program.fieldsOf, ht]
    have key : (Op.equalIn 10000 t (.agg cs) (.agg cs')).run P w = .ok t' w := by
      rw [run_equalIn_struct w 9999 t cs cs' (by rw [hfo]; exact ht) hst, hfo]
      exact eqFields_ok (d := 9998) fs.toList 0 ks l l' t' hf (by simpa using hs) (by simpa using hs') ht'
    cases neg
    · exact XS.pure hr (v := .bool t') (exec_bin ho (by rw [hv, hw]; exact run_eqGuard_agg w _ t _ _ cs cs' hgd) (by rw [hv, hw]; show (binOp .eql t _ _).run P w = _; rw [run_eql_struct, key]; rfl)) rfl
    · exact XS.pure hr (v := .bool (!t')) (exec_bin ho (by rw [hv, hw]; exact run_eqGuard_agg w _ t _ _ cs cs' hgd) (by rw [hv, hw]; show (binOp .neq t _ _).run P w = _; rw [run_neq_struct, key]; rfl)) rfl
  · cases hx

omit hr he in
theorem nonnil_sl {b i n c : Nat} {v : Value} (h : VR φ (.s (.sl b i (n + 1) c)) v) : ∃ ad m c', v = .slice (some ad) m c' := by
  obtain ⟨ad, c', p, rfl, h1, h2, h3, h4, h5⟩ := vr_s h
  obtain ⟨rfl, _⟩ := h5.resolve_left (by omega)
  exact ⟨_, _, _, rfl⟩
omit hr he in
theorem nonnil_lst {sz : Nat} {r : List SV} {rs : List (List SV)} {v : Value} (h : VR φ (.s (.lst sz (r :: rs))) v) : ∃ ad m c', v = .slice (some ad) m c' := by
  rcases vr_lst h with ⟨h, _⟩ | ⟨b, off, c, o, rfl, _⟩
  · cases h
  · exact ⟨_, _, _, rfl⟩
omit hr he in
theorem nonnil_nemp {v : Value} (h : VR φ (.s .nemp) v) : ∃ ad m c', v = .slice (some ad) m c' := by
  obtain ⟨a, c, rfl⟩ := vr_nemp h
  exact ⟨_, _, _, rfl⟩

theorem xs_eqnil {neg : Bool} {t e : TypeId} {a b : Operand} {yt : TypeId} {a' b' : Opd} (ho : o.op = .binOp (if neg then .neq else .eql) t a b yt) (ht : P.underlying t = some (.slice e)) (ha : opd a = some a') (hb : opd b = some b') (hx : xop (.eqnil neg a' b') ev H = some (x, H')) : XS P φ base H w o ρ x H' := by
  have h1 := he a a' ha
  have h2 := he b b' hb
  have left : (∃ ad m c', ρ a = .slice (some ad) m c') → ρ b = .slice none 0 0 → XS P φ base H w o ρ (.s (.bool neg)) H := fun ⟨ad, m, c', hv⟩ hw => by
    cases neg
    · exact XS.pure hr (v := .bool false) (exec_bin ho (by rw [hv, hw]; exact guard_slice) (by rw [hv, hw]; exact Lib.run_eql_slice_nil w t e _ _ _ _ _ ht)) rfl
    · exact XS.pure hr (v := .bool true) (exec_bin ho (by rw [hv, hw]; exact guard_slice) (by rw [hv, hw]; exact run_neq_slice_nil_any w t e _ _ _ _ _ ht)) rfl
  simp only [xop] at hx
  split at hx
  · rename_i hp hq
    rw [hp] at h1
    rw [hq] at h2
    simp only [Option.some.injEq, Prod.mk.injEq] at hx
    obtain ⟨rfl, rfl⟩ := hx
    have hv : ρ a = .slice none 0 0 := h1
    have hw : ρ b = .slice none 0 0 := h2
    cases neg
    · exact XS.pure hr (v := .bool true) (exec_bin ho (by rw [hv, hw]; exact guard_slice) (by rw [hv, hw]; exact Lib.run_eql_slice_nil w t e _ _ _ _ _ ht)) rfl
    · exact XS.pure hr (v := .bool false) (exec_bin ho (by rw [hv, hw]; exact guard_slice) (by rw [hv, hw]; exact run_neq_slice_nil_any w t e _ _ _ _ _ ht)) rfl
  · rename_i hp hq
    rw [hp] at h1
    rw [hq] at h2
    simp only [Option.some.injEq, Prod.mk.injEq] at hx
    obtain ⟨rfl, rfl⟩ := hx
    exact left (nonnil_sl h1) h2
  · rename_i hp hq
    rw [hp] at h1
    rw [hq] at h2
    simp only [Option.some.injEq, Prod.mk.injEq] at hx
    obtain ⟨rfl, rfl⟩ := hx
    obtain ⟨ad, m, c', hw⟩ := nonnil_sl h2
    have hv : ρ a = .slice none 0 0 := h1
    cases neg
    · exact XS.pure hr (v := .bool false) (exec_bin ho (by rw [hv, hw]; exact guard_slice) (by rw [hv, hw]; exact run_eql_nil_slice w t e _ _ _ _ _ ht)) rfl
    · exact XS.pure hr (v := .bool true) (exec_bin ho (by rw [hv, hw]; exact guard_slice) (by rw [hv, hw]; exact run_neq_nil_slice w t e _ _ _ _ _ ht)) rfl
  · rename_i hp hq
    rw [hp] at h1
    rw [hq] at h2
    simp only [Option.some.injEq, Prod.mk.injEq] at hx
    obtain ⟨rfl, rfl⟩ := hx
    exact left (nonnil_nemp h1) h2
  · rename_i hp hq
    rw [hp] at h1
    rw [hq] at h2
    simp only [Option.some.injEq, Prod.mk.injEq] at hx
    obtain ⟨rfl, rfl⟩ := hx
    exact left (nonnil_lst h1) h2
  · cases hx

omit hr he in
/-- A slice of a known length. -/
theorem alen_vr {y : AV} {v : Value} {m : Nat} (h : VR φ y v) (hm : alen y = some m) : ∃ a c, v = .slice a m c := by
  unfold alen at hm
  split at hm
  · obtain rfl := (Option.some.inj hm).symm
    obtain ⟨ad, c', p, rfl, _⟩ := vr_s h
    exact ⟨_, _, rfl⟩
  · obtain rfl := (Option.some.inj hm).symm
    have hv : v = .slice none 0 0 := h
    exact ⟨_, _, hv⟩
  · obtain rfl := (Option.some.inj hm).symm
    obtain ⟨a, rfl⟩ := vr_emp h
    exact ⟨_, _, rfl⟩
  · obtain rfl := (Option.some.inj hm).symm
    obtain ⟨a, c, rfl⟩ := vr_nemp h
    exact ⟨_, _, rfl⟩
  · obtain rfl := (Option.some.inj hm).symm
    rcases vr_lst h with ⟨rfl, a, c, rfl, _⟩ | ⟨b, off, c, o, rfl, _⟩
    · exact ⟨_, _, rfl⟩
    · exact ⟨_, _, rfl⟩
  · cases hm

theorem xs_len {c : Call} {t e : TypeId} {a : Operand} {a' : Opd} (ho : o.op = .call c) (hcc : c.callee = .builtin .len) (hca : c.args.toList = [a]) (hct : c.argTypes.toList = [t]) (ht : P.underlying t = some (.slice e)) (ha : opd a = some a') (hx : xop (.len a') ev H = some (x, H')) : XS P φ base H w o ρ x H' := by
  have h1 := he a a' ha
  obtain ⟨callee, args, argTypes⟩ := c
  simp only at hcc hca hct
  subst hcc
  obtain rfl : args = #[a] := by cases args; simpa using hca
  obtain rfl : argTypes = #[t] := by cases argTypes; simpa using hct
  simp only [xop] at hx
  obtain ⟨m, hm, hx⟩ := map_some hx
  simp only [Prod.mk.injEq] at hx
  obtain ⟨rfl, rfl⟩ := hx
  obtain ⟨ad, c, hv⟩ := alen_vr h1 hm
  refine XS.pure hr (v := .int .i64 m) ?_ rfl
  simp [execOp, ho, resolve, invoke, builtin, Builtin.len_, hv, run_underlying ht, goInt]
theorem xs_slen {c : Call} {t : TypeId} {a : Operand} {a' : Opd} (ho : o.op = .call c) (hcc : c.callee = .builtin .len) (hca : c.args.toList = [a]) (hct : c.argTypes.toList = [t]) (ht : P.underlying t = some .string) (ha : opd a = some a') (hx : xop (.slen a') ev H = some (x, H')) : XS P φ base H w o ρ x H' := by
  have h1 := he a a' ha
  obtain ⟨callee, args, argTypes⟩ := c
  simp only at hcc hca hct
  subst hcc
  obtain rfl : args = #[a] := by cases args; simpa using hca
  obtain rfl : argTypes = #[t] := by cases argTypes; simpa using hct
  simp only [xop] at hx
  split at hx
  · rename_i s hp
    rw [hp] at h1
    simp only [Option.some.injEq, Prod.mk.injEq] at hx
    obtain ⟨rfl, rfl⟩ := hx
    have hv : ρ a = .string s := h1
    refine XS.pure hr (v := .int .i64 s.size) ?_ rfl
    simp [execOp, ho, resolve, invoke, builtin, Builtin.len_, hv, run_underlying ht, goInt]
  · cases hx

/-- Numbers and texts. -/
theorem xs_bin {op : BinOp} {t yt : TypeId} {a b : Operand} {a' b' : Opd} (ho : o.op = .binOp op t a b yt) (ha : opd a = some a') (hb : opd b = some b') (hx : xop (.bin op a' b') ev H = some (x, H')) : XS P φ base H w o ρ x H' := by
  have h1 := he a a' ha
  have h2 := he b b' hb
  simp only [xop] at hx
  split at hx
  · rename_i p q hp hq
    rw [hp] at h1
    rw [hq] at h2
    obtain ⟨z, hz, hx⟩ := map_some hx
    simp only [Prod.mk.injEq] at hx
    obtain ⟨rfl, rfl⟩ := hx
    unfold abin at hz
    split at hz
    · rename_i k m k' n
      have hv : ρ a = .int k m := h1
      have hw : ρ b = .int k' n := h2
      split at hz
      · split at hz
        · cases hz
          exact XS.pure hr (v := .int k (k.wrap (m * 2 ^ (min n.toNat k.bits)))) (exec_bin ho (by rw [hv, hw]; exact guard_int) (by rw [hv, hw]; simp [binOp, Op.shift, Int.not_lt.2 ‹_›])) rfl
        · cases hz
      · split at hz
        · cases hz
          exact XS.pure hr (v := .int k (m.fdiv (2 ^ (min n.toNat k.bits)))) (exec_bin ho (by rw [hv, hw]; exact guard_int) (by rw [hv, hw]; simp [binOp, Op.shift, Int.not_lt.2 ‹_›])) rfl
        · cases hz
      · split at hz
        · rename_i hk
          subst hk
          split at hz
          · cases hz; exact XS.pure hr (v := .int k (k.wrap (m + n))) (exec_bin ho (by rw [hv, hw]; exact guard_int) (by rw [hv, hw]; simp [binOp, Op.intArith])) rfl
          · cases hz; exact XS.pure hr (v := .int k (k.wrap (m - n))) (exec_bin ho (by rw [hv, hw]; exact guard_int) (by rw [hv, hw]; simp [binOp, Op.intArith])) rfl
          · cases hz; exact XS.pure hr (v := .int k (k.wrap (m * n))) (exec_bin ho (by rw [hv, hw]; exact guard_int) (by rw [hv, hw]; simp [binOp, Op.intArith])) rfl
          · split at hz
            · cases hz
            · cases hz; exact XS.pure hr (v := .int k (k.wrap (m.tdiv n))) (exec_bin ho (by rw [hv, hw]; exact guard_int) (by rw [hv, hw]; simp [binOp, Op.intDiv, ‹¬ n = 0›])) rfl
          · split at hz
            · cases hz
            · cases hz; exact XS.pure hr (v := .int k (m.tmod n)) (exec_bin ho (by rw [hv, hw]; exact guard_int) (by rw [hv, hw]; simp [binOp, Op.intDiv, ‹¬ n = 0›])) rfl
          · cases hz; exact XS.pure hr (v := .int k (k.wrap ((BitVec.ofInt k.bits m &&& BitVec.ofInt k.bits n).toNat))) (exec_bin ho (by rw [hv, hw]; exact guard_int) (by rw [hv, hw]; simp only [binOp, ne_eq, not_true_eq_false, if_false, Op.intBits]; rfl)) rfl
          · cases hz; exact XS.pure hr (v := .int k (k.wrap ((BitVec.ofInt k.bits m ||| BitVec.ofInt k.bits n).toNat))) (exec_bin ho (by rw [hv, hw]; exact guard_int) (by rw [hv, hw]; simp only [binOp, ne_eq, not_true_eq_false, if_false, Op.intBits]; rfl)) rfl
          · cases hz; exact XS.pure hr (v := .int k (k.wrap ((BitVec.ofInt k.bits m ^^^ BitVec.ofInt k.bits n).toNat))) (exec_bin ho (by rw [hv, hw]; exact guard_int) (by rw [hv, hw]; simp only [binOp, ne_eq, not_true_eq_false, if_false, Op.intBits]; rfl)) rfl
          · cases hz; exact XS.pure hr (v := .bool (m == n)) (exec_bin ho (by rw [hv, hw]; exact guard_int) (by rw [hv, hw]; simp [binOp, Op.intCmp])) (by show Value.bool (m == n) = Value.bool (decide (m = n)); congr 1)
          · cases hz; exact XS.pure hr (v := .bool (m != n)) (exec_bin ho (by rw [hv, hw]; exact guard_int) (by rw [hv, hw]; simp [binOp, Op.intCmp])) (by show Value.bool (m != n) = Value.bool (decide (m ≠ n)); by_cases h : m = n <;> simp [h])
          · cases hz; exact XS.pure hr (v := .bool (decide (m < n))) (exec_bin ho (by rw [hv, hw]; exact guard_int) (by rw [hv, hw]; simp [binOp, Op.intCmp])) rfl
          · cases hz; exact XS.pure hr (v := .bool (decide (m ≤ n))) (exec_bin ho (by rw [hv, hw]; exact guard_int) (by rw [hv, hw]; simp [binOp, Op.intCmp])) rfl
          · cases hz; exact XS.pure hr (v := .bool (decide (n < m))) (exec_bin ho (by rw [hv, hw]; exact guard_int) (by rw [hv, hw]; simp [binOp, Op.intCmp])) rfl
          · cases hz; exact XS.pure hr (v := .bool (decide (n ≤ m))) (exec_bin ho (by rw [hv, hw]; exact guard_int) (by rw [hv, hw]; simp [binOp, Op.intCmp])) rfl
          · cases hz
        · cases hz
    · rename_i s r
      have hv : ρ a = .string s := h1
      have hw : ρ b = .string r := h2
      split at hz
      · split at hz
        · cases hz
          have h63 : ¬ (((s.size + r.size : Nat) : Int) > IntKind.i64.max) := by
            have : IntKind.i64.max = 9223372036854775807 := by decide
            omega
          exact XS.pure hr (v := .string (s ++ r)) (exec_bin ho (by rw [hv, hw]; exact guard_str) (by rw [hv, hw]; simp only [binOp, Op.stringOp, if_neg h63]; rfl)) rfl
        · cases hz
      · cases hz; exact XS.pure hr (v := .bool (s.toList == r.toList)) (exec_bin ho (by rw [hv, hw]; exact guard_str) (by rw [hv, hw]; rfl)) rfl
      · cases hz; exact XS.pure hr (v := .bool (!(s.toList == r.toList))) (exec_bin ho (by rw [hv, hw]; exact guard_str) (by rw [hv, hw]; rfl)) rfl
      · cases hz; exact XS.pure hr (v := .bool (Op.bytesLess s.toList r.toList)) (exec_bin ho (by rw [hv, hw]; exact guard_str) (by rw [hv, hw]; rfl)) rfl
      · cases hz; exact XS.pure hr (v := .bool (Op.bytesLess s.toList r.toList || s.toList == r.toList)) (exec_bin ho (by rw [hv, hw]; exact guard_str) (by rw [hv, hw]; rfl)) rfl
      · cases hz; exact XS.pure hr (v := .bool (!(Op.bytesLess s.toList r.toList || s.toList == r.toList))) (exec_bin ho (by rw [hv, hw]; exact guard_str) (by rw [hv, hw]; rfl)) rfl
      · cases hz; exact XS.pure hr (v := .bool (!(Op.bytesLess s.toList r.toList))) (exec_bin ho (by rw [hv, hw]; exact guard_str) (by rw [hv, hw]; rfl)) rfl
      · cases hz
    · cases hz
  · cases hx

/-- Strings' bytes. -/
theorem xs_sidx {t : TypeId} {a ix : Operand} {a' i' : Opd} (ho : o.op = .index t a ix) (hd : P.underlying t = some .string) (ha : opd a = some a') (hix : opd ix = some i') (hx : xop (.sidx a' i') ev H = some (x, H')) : XS P φ base H w o ρ x H' := by
  have h1 := he a a' ha
  have h2 := he ix i' hix
  simp only [xop] at hx
  split at hx
  · rename_i s k0 k hp hq
    rw [hp] at h1
    rw [hq] at h2
    have hv : ρ a = .string s := h1
    have hw : ρ ix = .int k0 k := h2
    split at hx
    · rename_i h0
      obtain ⟨u, hu, hx⟩ := map_some hx
      simp only [Prod.mk.injEq] at hx
      obtain ⟨rfl, rfl⟩ := hx
      exact XS.pure hr (v := .int .u8 u.toNat) (by simp [execOp, ho, hv, hw, Instr.index, asIntOf, run_underlying hd, h0, hu]) rfl
    · cases hx
  · cases hx

theorem ptrs_of_caps : ∀ {xs : List Operand} {ys : List Opd}, opds xs = some ys → ∀ {cs}, capsOf (ys.map ev) = some cs → PtrsAt φ cs (xs.map ρ)
  | [], ys, h, cs, hc => by simp [opds] at h; subst h; simp [capsOf] at hc; subst hc; exact .nil
  | x :: r, ys, h, cs, hc => by
    unfold opds at h
    obtain ⟨y, hy, h⟩ := bind_some h
    obtain ⟨ys', hys, rfl⟩ := map_some h
    simp only [List.map_cons] at hc
    have h1 := he x y hy
    unfold capsOf at hc
    split at hc
    · rename_i e; cases e
    · rename_i b i j r' e
      simp only [List.cons.injEq] at e
      obtain ⟨e1, rfl⟩ := e
      obtain ⟨cs', hcs, rfl⟩ := map_some hc
      rw [e1] at h1
      obtain ⟨a, hv, hp⟩ := vr_s h1
      rw [List.map_cons, hv]
      exact .cons hp (ptrs_of_caps hys hcs)
    · cases hc

theorem xs_mkfn {f : Nat} {first caps : Array Operand} {cs' : List Opd} (ho : o.op = .makeFunc (.func f) first caps) (hf : first.size = 0) (hc : opds caps.toList = some cs') (hx : xop (.mkfn f cs') ev H = some (x, H')) : XS P φ base H w o ρ x H' := by
  simp only [xop] at hx
  obtain ⟨cs, hcs, hx⟩ := map_some hx
  simp only [Prod.mk.injEq] at hx
  obtain ⟨rfl, rfl⟩ := hx
  obtain rfl : first = #[] := Array.eq_empty_of_size_eq_zero hf
  exact XS.pure hr (v := .func (.func f) #[] (caps.map ρ)) (by simp [execOp, ho, Instr.makeFunc]) ⟨_, rfl, by simpa using ptrs_of_caps hr he hc hcs⟩

theorem xs_field {t : TypeId} {a : Operand} {f : Nat} {a' : Opd} {fs : Array Field} {d : Field} {i : TypeInfo} {u : TypeDesc} (ho : o.op = .field t a f) (hd : P.underlying t = some (.struct fs)) (hf : fs[f]? = some d) (hi : P.info? d.type = some i) (hu : P.underlying d.type = some u) (ha : opd a = some a')
    (hx : xop (if isAggD u then .fieldn d.offset i.size a' else .field1 d.offset a') ev H = some (x, H')) : XS P φ base H w o ρ x H' := by
  have h1 := he a a' ha
  split at hx
  · rename_i hag
    simp only [xop] at hx
    split at hx
    · rename_i l hp
      rw [hp] at h1
      obtain ⟨cs, hv, hs⟩ := vr_agg h1
      split at hx
      · rename_i hle
        simp only [Option.some.injEq, Prod.mk.injEq] at hx
        obtain ⟨rfl, rfl⟩ := hx
        refine XS.pure hr (v := .agg (cs.extract d.offset (d.offset + i.size))) ?_ ⟨_, rfl, ?_⟩
        · cases u <;> simp [isAggD] at hag <;> simp [execOp, ho, hv, Instr.field, part, isAgg, asAgg, run_underlying hd, run_underlying hu, hf, sizeOf, typeInfo, hi]
        · have := (hs.drop d.offset).take i.size
          rw [Array.toList_extract, List.extract_eq_take_drop]
          simpa using this
      · cases hx
    · cases hx
  · rename_i hag
    simp only [xop] at hx
    split at hx
    · rename_i l hp
      rw [hp] at h1
      obtain ⟨cs, hv, hs⟩ := vr_agg h1
      obtain ⟨y, hy, hx⟩ := map_some hx
      simp only [Prod.mk.injEq] at hx
      obtain ⟨rfl, rfl⟩ := hx
      obtain ⟨v, hc, hsr⟩ := hs.get _ _ hy
      have hc' : cs[d.offset]? = some v := by simpa using hc
      refine XS.pure hr (v := v) ?_ hsr
      cases u <;> simp [isAggD] at hag <;> simp [execOp, ho, hv, Instr.field, part, isAgg, asAgg, run_underlying hd, run_underlying hu, hf, hc']
    · cases hx

end
end Go.Proofs.Ytmfiegjncfgohaa.Den
