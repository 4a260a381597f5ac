/- The abstract calculus, part M: regions that draw their order. One order serves all: light operations as early as they can, the others in the order in which they must stand. -/
import Derived.Test.YtmfiegjncfgohaaDenL
namespace Go.Proofs.Ytmfiegjncfgohaa.Den
open Go.RowKit
set_option linter.unusedVariables false
set_option linter.unusedSimpArgs false

theorem opWp_congr {P : Program} {op : AOp} {e e' : Opd → AV} {H : AHeap} {K : AV → AHeap → Prop} (h : ∀ o ∈ op.opds, e o = e' o) (k : opWp P op e H K) : opWp P op e' H K := by
  cases hic : isCall op
  · obtain ⟨v, H', hx, hk⟩ := opWp_out hic k
    rw [xop_congr h] at hx
    have : opWp P op e' H K = onX (xop op e' H) K := by cases op <;> first | rfl | cases hic
    rw [this, hx]
    exact hk
  · rcases call_cases hic with ⟨f, args, rfl⟩ | ⟨y, args, rfl⟩ | ⟨f, args, rfl⟩ | hsp
    · have e1 : args.map e = args.map e' := List.map_congr_left fun p hp => h p hp
      have k : Spec P f (args.map e) H K := k
      rw [e1] at k
      exact k
    · have e1 : args.map e = args.map e' := List.map_congr_left fun p hp => h p (List.mem_cons_of_mem _ hp)
      have e0 : e y = e' y := h y (List.mem_cons_self ..)
      have k : onFn (e y) fun f cs => callee P f = true ∧ Spec P f (args.map e ++ cs.map capAV) H K := k
      rw [e0, e1] at k
      exact k
    · have e1 : args.map e = args.map e' := List.map_congr_left fun p hp => h p hp
      have k : Specx P f (args.map e) H K := k
      rw [e1] at k
      exact k
    · cases op <;> first | (cases hsp; done) | skip
      case capx x =>
        have k : capWp (e x) H K := k
        rw [h x (by simp [AOp.opds])] at k
        exact k
      case slicex sz x y =>
        have k : onX (xbeyond sz (e x) (e y) H) K := k
        rw [h x (by simp [AOp.opds]), h y (by simp [AOp.opds])] at k
        exact k
      case appz t sz b z x y =>
        have k : onX (xappz t sz b z (e x) (e y) H) K := k
        rw [h x (by simp [AOp.opds]), h y (by simp [AOp.opds])] at k
        exact k


section
variable {P : Program} {N : Nat} {ops : Array Oper}

/-! ### New blocks of constants -/
theorem evf_const {f g : Fr} {x : Opd} (h : (otmp x).isEmpty = true) : evf f x = evf g x := by
  cases x <;> first | rfl | simp [otmp] at h
theorem float_xop {op : AOp} (h : floatOk op = true) (f : Fr) (H : AHeap) : xop op (evf f) H = some (.s (flA op H.nx), H.push ⟨flSz op, flTy op, flRows op⟩) := by
  cases op <;> first | (cases h; done) | skip
  case alloc => rfl
  case mkrow ty sz z n ps =>
    simp only [floatOk, Bool.and_eq_true] at h
    obtain ⟨rs, hrs⟩ := Option.isSome_iff_exists.1 h.2
    have e : ps.map (fun p => (p.1, evf f p.2)) = ps.map (fun p => (p.1, evf [] p.2)) := List.map_congr_left fun p hp => by rw [evf_const (List.all_eq_true.1 h.1 p hp)]
    simp only [xop, flRows, flSz, flTy, flA]
    have e2 : (afillRows (ps.map fun (i, x) => (i, evf f x)) (List.replicate n z) sz) = some rs := by rw [← hrs]; exact congrArg (fun l => afillRows l _ _) e
    rw [e2, hrs]
    rfl
theorem const_ok {φ : Phi} {a : Act} : Evs φ (fun x => if (otmp x).isEmpty = true then evf [] x else .no) a.eval := by
  intro x y hy
  unfold opd at hy
  split at hy
  · obtain rfl := (Option.some.inj hy).symm; exact VR_no
  · cases hs : svs (Array.toList _) with
    | none => rw [hs] at hy; cases hy
    | some l => rw [hs] at hy; obtain rfl := (Option.some.inj hy).symm; exact ⟨_, rfl, svs_ok hs⟩
  · cases hs : sv _ with
    | none => rw [hs] at hy; cases hy
    | some l => rw [hs] at hy; obtain rfl := (Option.some.inj hy).symm; exact sv_ok (φ := φ) hs
  · obtain rfl := (Option.some.inj hy).symm; exact ⟨#[], rfl, .nil⟩
  · cases hy

theorem comp_alloc {op : Op} {t s : Nat} {z : List SV} (h : comp P op = some (.alloc t s z)) : ∃ b, op = .alloc t ∧ einfo P t = some (s, b, z) := by
  cases op <;> simp only [comp] at h
  case alloc t' =>
    obtain ⟨⟨s', b, z'⟩, hi, e⟩ := map_some h
    cases e
    exact ⟨b, rfl, hi⟩
  case call c =>
    exfalso
    unfold compCall at h
    repeat' split at h
    all_goals simp [Option.map_eq_some_iff, Option.bind_eq_some_iff] at h
  all_goals exfalso
  all_goals (repeat' split at h)
  all_goals simp [Option.map_eq_some_iff, Option.bind_eq_some_iff] at h
  all_goals (obtain ⟨_, _, h⟩ := h; first | (split at h <;> cases h; done) | (obtain ⟨_, _, _, _, _, _, h⟩ := h; split at h <;> cases h))
theorem comp_mkrow {op : Op} {e s n : Nat} {z : List SV} {qs : List (Nat × Opd)} (h : comp P op = some (.mkrow e s z n qs)) : ∃ b t ps, op = .buildSlice t n ps ∧ P.underlying t = some (.slice e) ∧ einfo P e = some (s, b, z) ∧ n * s ≤ 16777216 ∧ compElems ps.toList = some qs := by
  cases op <;> simp only [comp] at h
  case buildSlice t n' ps =>
    split at h
    · obtain ⟨⟨s', b, z'⟩, hi, h⟩ := bind_some h
      simp only at h
      split at h
      · obtain ⟨q, hq, e⟩ := map_some h
        cases e
        exact ⟨b, t, ps, rfl, ‹_›, hi, ‹_›, hq⟩
      · cases h
    · cases h
  case call c =>
    exfalso
    unfold compCall at h
    repeat' split at h
    all_goals simp [Option.map_eq_some_iff, Option.bind_eq_some_iff] at h
  all_goals exfalso
  all_goals (repeat' split at h)
  all_goals simp [Option.map_eq_some_iff, Option.bind_eq_some_iff] at h
  all_goals (obtain ⟨_, _, h⟩ := h; first | (split at h <;> cases h; done) | (obtain ⟨_, _, _, _, _, _, h⟩ := h; split at h <;> cases h))

/-- What such an operation does, whatever the world. -/
theorem float_run {o : Oper} {op : AOp} (h1 : comp P o.op = some op) (h : floatOk op = true) (a : Act) :
    ∃ cells : Array Value, (∀ w, (execOp a.eval o).run P w = .ok (.value (flC op w.heap.size)) (w.alloc (.cells cells (flTy op)))) ∧ (∀ φ, Holds φ cells (flSz op) (flRows op)) ∧ cells.size = flCap op * flSz op ∧ (flRows op).length ≤ flCap op ∧ flCap op ≤ maxLen := by
  cases op <;> first | (cases h; done) | skip
  case alloc t s z =>
    obtain ⟨b, ho, hi⟩ := comp_alloc h1
    obtain ⟨i, zv, e1, e2, e3, e4, e5, e6, e7, e8⟩ := einfo_ok hi
    refine ⟨zv.cells, fun w => by simp [execOp, ho, Instr.alloc, zeroValue, typeInfo, e1, e2, newVar, newRow, flC, flTy] <;> rfl, fun φ => Holds.of_flat (vs := zv.cells.toList) (by simp [flRows, flSz, e5]) (by simpa [flRows] using e8 φ) (fun q v hq => by simpa using hq), by simp [flCap, flSz, e7], by simp [flRows, flCap], by simp [flCap, maxLen]⟩
  case mkrow t s z n qs =>
    obtain ⟨b, ty, ps, ho, hu, hi, hn, hp⟩ := comp_mkrow h1
    obtain ⟨i, zv, e1, e2, e3, e4, e5, e6, e7, e8⟩ := einfo_ok hi
    simp only [floatOk, Bool.and_eq_true] at h
    obtain ⟨rs, hrs⟩ := Option.isSome_iff_exists.1 h.2
    have e : qs.map (fun p => (p.1, (fun x => if (otmp x).isEmpty = true then evf [] x else AV.no) p.2)) = qs.map (fun p => (p.1, evf [] p.2)) := List.map_congr_left fun p hp => by
      simp only [List.all_eq_true.1 h.1 p hp, if_true]
    have hz : ∀ φ, SRs φ (List.replicate n z).flatten ((Array.range (n * s)).map (zv.cells[· % s]!)).toList := fun φ => by
      have := zeros_flat (e8 φ) (by omega) n
      rwa [e7] at this
    have hfill : ∀ φ, ∃ res : Array Value, Instr.fill (fun i => some (i * s, s)) ((Array.range (n * s)).map (zv.cells[· % s]!)) (ps.toList.map fun (i, x) => (i, a.eval x)) = some res ∧ (∀ r ∈ rs, r.length = s) ∧ rs.length = (List.replicate n z).length ∧ SRs φ rs.flatten res.toList := fun φ =>
      fillRows_ok (const_ok (φ := φ)) e6 hp (rs := List.replicate n z) (fun r hr => by rw [List.eq_of_mem_replicate hr, e5]) (hz φ) (by rw [← hrs]; exact congrArg (fun l => afillRows l _ _) e)
    obtain ⟨res, hres, hl, hlen, hs0⟩ := hfill ⟨fun _ => none, fun _ => none⟩
    have hs : ∀ φ, SRs φ rs.flatten res.toList := fun φ => by
      obtain ⟨res', hres', _, _, hs'⟩ := hfill φ
      rw [hres] at hres'
      obtain rfl := Option.some.inj hres'
      exact hs'
    have hsize : res.size = n * s := by
      have := hs0.length
      rw [flat_len hl, hlen] at this
      simpa using this.symm
    have hn2 : n ≤ 16777216 := Nat.le_trans (Nat.le_mul_of_pos_right n e6) hn
    have hmx : n ≤ maxLen := by unfold maxLen; omega
    rw [List.length_replicate] at hlen
    have hfr : flRows (.mkrow t s z n qs) = rs := by simp only [flRows]; rw [hrs]; rfl
    refine ⟨res, fun w => ?_, fun φ => by rw [hfr]; exact Holds.of_flat hl (hs φ) (fun q v hq => by simpa using hq), hsize, by rw [hfr]; exact Nat.le_of_eq hlen, hmx⟩
    have hnot : ¬ (16777216 < n * s) := by omega
    subst e3
    by_cases h0 : n * i.size = 0
    · have hn0 : n = 0 := by rcases Nat.mul_eq_zero.1 h0 with h | h <;> omega
      subst hn0
      have hres' : Instr.fill (fun j => some (j * i.size, i.size)) #[] (ps.toList.map fun (i, x) => (i, a.eval x)) = some res := by simpa [Array.range_zero'] using hres
      simp [execOp, ho, Instr.buildSlice, run_underlying hu, sizeOf, typeInfo, e1, newRow, Array.range_zero', hres', flC, flTy]
    · have hres' : Instr.fill (fun j => some (j * i.size, i.size)) ((Array.range (n * i.size)).map (zv.cells[· % zv.cells.size]!)) (ps.toList.map fun (i, x) => (i, a.eval x)) = some res := by rw [e7]; exact hres
      simp [execOp, ho, Instr.buildSlice, run_underlying hu, sizeOf, typeInfo, zeroValue, e1, e2, hnot, h0, newRow, hres', flC, flTy]

theorem float_vr {op : AOp} (h : floatOk op = true) {φ : Phi} {b r : Nat} (hb : φ b = some ⟨r, 0, flCap op, flSz op⟩) (hm : flCap op ≤ maxLen) : VR φ (.s (flA op b)) (flC op r) := by
  cases op <;> first | (cases h; done) | skip
  case alloc => exact ⟨_, rfl, _, hb, by simp [Place.at]⟩
  case mkrow => exact ⟨_, _, _, rfl, Nat.le_refl _, Nat.le_refl _, hm, hb, .inr ⟨by simp [Place.at], by simp [flCap]⟩⟩

/-- A block that is there is taken for one of one's own. -/
theorem Rel.adopt {φ : Phi} {base : Nat} {H : AHeap} {w : World} (h : Rel φ base H w) {r : Nat} {cells : Array Value} {sz ty cap : Nat} {rows : List (List SV)} (hw : w.heap[r]? = some (.cells cells ty (0, 0))) (hb : base ≤ r) (hm : ¬ Mine φ H r) (hfz : φ.fz r = none)
    (hrows : Holds φ cells sz rows) (hsz : cells.size = cap * sz) (hcap : rows.length ≤ cap) (hmx : cap ≤ maxLen) :
    Rel (setPlace φ H.nx ⟨r, 0, cap, sz⟩) base (H.push ⟨sz, ty, rows⟩) w ∧ ∀ q, Mine (setPlace φ H.nx ⟨r, 0, cap, sz⟩) (H.push ⟨sz, ty, rows⟩) q → q = r ∨ Mine φ H q := by
  have he : Ext φ (setPlace φ H.nx ⟨r, 0, cap, sz⟩) := ext_setPlace (h.new H.nx (Nat.le_refl _)).2
  have mine : ∀ q, Mine (setPlace φ H.nx ⟨r, 0, cap, sz⟩) (H.push ⟨sz, ty, rows⟩) q → q = r ∨ Mine φ H q := fun q hq => by
    obtain ⟨b, k, p, h1, h3, h2, rfl⟩ := hq
    simp only [AHeap.push] at h1
    rcases setPlace_look h3 with ⟨e1, e2⟩ | ⟨e1, e2⟩
    · exact .inl (by rw [e2])
    · rw [if_neg e1] at h1
      exact .inr ⟨b, k, p, h1, e2, h2, rfl⟩
  refine ⟨⟨fun b k hb' => ?_, fun b b' k k' p p' h1 h2 hp hp' o1 o2 e => ?_, fun b hb' => ?_, h.base, fun q o hq => ?_, nofull rfl⟩, mine⟩
  · simp only [AHeap.push] at hb'
    split at hb'
    · subst_vars
      obtain rfl := Option.some.inj hb'
      refine ⟨_, setPlace_same, ⟨rfl, fun i r' hr => ?_, .inr ⟨rfl, hb, hcap, hmx, cells, hw, hsz⟩⟩⟩
      obtain ⟨hl, hc⟩ := hrows i r' hr
      refine ⟨hl, fun j x hx => ?_⟩
      obtain ⟨v, hv, hs⟩ := hc j x hx
      refine ⟨v, ?_, hs.ext he⟩
      simp only [Place.at, Nat.zero_add]
      rw [cell_of_row w _ _ _ _ _ hw]
      exact hv
    · obtain ⟨p, hp, ok⟩ := h.blk b k hb'
      exact ⟨p, he.pl b p hp, ok.move he (fun _ => rfl)⟩
  · simp only [AHeap.push] at h1 h2
    rcases setPlace_look hp with ⟨e1, e2⟩ | ⟨e1, e2⟩ <;> rcases setPlace_look hp' with ⟨e3, e4⟩ | ⟨e3, e4⟩
    · rw [e1, e3]
    · rw [if_neg e3] at h2
      exact (hm ⟨b', k', p', h2, e4, o2, by rw [← e, e2]⟩).elim
    · rw [if_neg e1] at h1
      exact (hm ⟨b, k, p, h1, e2, o1, by rw [e, e4]⟩).elim
    · rw [if_neg e1] at h1
      rw [if_neg e3] at h2
      exact h.inj b b' k k' p p' h1 h2 e2 e4 o1 o2 e
  · simp only [AHeap.push] at hb'
    have := h.new b (by omega)
    refine ⟨?_, ?_⟩
    · simp only [AHeap.push]; rw [if_neg (by omega)]; exact this.1
    · rw [setPlace_none (by omega)]; exact this.2
  · have hq' : φ.fz q = some o := hq
    refine ⟨(h.fz q o hq).1, fun hmq => ?_⟩
    rcases mine q hmq with rfl | hmq
    · have : some o = none := hq'.symm.trans hfz
      cases this
    · exact (h.fz q o hq).2 hmq

end
end Go.Proofs.Ytmfiegjncfgohaa.Den
