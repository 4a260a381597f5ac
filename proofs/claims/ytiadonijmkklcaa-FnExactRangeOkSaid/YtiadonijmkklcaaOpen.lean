/- The opening of arguments of whatever kind: what a law's argument reads as (DataW.trod) gives the typed reading (Kd) that the printed contracts ask for. -/
import Derived.Test.YtiadonijmkklcaaWWords
import Derived.Deep.Slices
import Derived.Deep.Fields
import Derived.ChangeSame
import Derived.WalkKit
import Derived.ProofKit
import Derived.OpenShut
import Derived.ShutString
import Derived.ChangeOld
namespace Go.Proofs.Ytiadonijmkklcaa.Open
open Go.ChangeShapes Go.WideShapes Go.RowKit Go.Deep Go.Proofs.YtiadonijmkklcaaW.PrintWords
set_option linter.unusedVariables false

/-- Whatever reads as of type t is, typed, an x of the kind d. -/
def Opens (P : Program) {α : Type} (t : TypeId) (d : Kd α) (ok : α → Prop) : Prop :=
  ∀ {H : Type} (enc : TypeId × Value → H) (w : World) (base : Nat) (spare : Nat → Bool) (held : Bool) (fuel : Nat) (cs : List Value) (y : DataW H × List MemPlace),
    DataW.trod enc P w base spare held fuel t cs = some y → ∃ x, d.K w x cs ∧ ok x

def WfI (x : Int) : Prop := -9223372036854775808 ≤ x ∧ x ≤ 9223372036854775807
theorem wfI_of {n : Int} (h : (Lit.int .i64 n).wf = true) : WfI n := by
  simp only [Lit.wf, Bool.and_eq_true, decide_eq_true_eq] at h
  obtain ⟨h1, h2⟩ := h
  have e1 : IntKind.i64.min = -9223372036854775808 := by decide
  have e2 : IntKind.i64.max = 9223372036854775807 := by decide
  rw [e1] at h1
  rw [e2] at h2
  exact ⟨h1, h2⟩

theorem opens_int {P : Program} {t : TypeId} (ht : P.underlying t = some (.int .i64)) : Opens P t (Kd.int .i64) WfI := by
  intro H enc w base spare held fuel cs y h
  obtain ⟨n, rfl, _, hw⟩ := DataW.trod_int ht h
  exact ⟨n, rfl, wfI_of hw⟩
theorem opens_bool {P : Program} {t : TypeId} (ht : P.underlying t = some .bool) : Opens P t Kd.bool (fun _ => True) := by
  intro H enc w base spare held fuel cs y h
  obtain ⟨b, rfl, _⟩ := DataW.trod_bool ht h
  exact ⟨b, rfl, trivial⟩
theorem opens_string {P : Program} {t : TypeId} (ht : P.underlying t = some .string) : Opens P t Kd.string (fun s => s.size ≤ maxLen) := by
  intro H enc w base spare held fuel cs y h
  obtain ⟨s, rfl, _, hs⟩ := DataW.trod_string ht h
  exact ⟨s, rfl, hs⟩

def WfL {α : Type} (ok : α → Prop) (xs : List α) : Prop := xs.length ≤ 9223372036854775807 ∧ ∀ x ∈ xs, ok x

theorem choose_list {α : Type} {p : Nat → α → Prop} : ∀ (n : Nat), (∀ i, i < n → ∃ x, p i x) → ∃ xs : List α, xs.length = n ∧ ∀ i x, xs[i]? = some x → p i x
  | 0, _ => ⟨[], rfl, fun i x h => by simp at h⟩
  | n + 1, h => by
    obtain ⟨xs, hl, hx⟩ := choose_list n (fun i hi => h i (Nat.lt_succ_of_lt hi))
    obtain ⟨x, px⟩ := h n (Nat.lt_succ_self n)
    refine ⟨xs ++ [x], by simp [hl], fun i y hy => ?_⟩
    rcases Nat.lt_or_ge i xs.length with hi | hi
    · rw [List.getElem?_append_left hi] at hy
      exact hx i y hy
    · have hi' : i = n := by
        have := (List.getElem?_eq_some_iff.1 hy).1
        simp at this
        omega
      subst hi'
      rw [List.getElem?_append_right hi] at hy
      simp [hl] at hy
      subst hy
      exact px

theorem opens_slice {P : Program} {α : Type} {t e : TypeId} {d : Kd α} {ok : α → Prop} (ht : P.underlying t = some (.slice e)) (hs : P.cellsOf e = d.sz) (hd : Opens P e d ok) : Opens P t (Kd.slice e d) (WfL ok) := by
  intro H enc w base spare held fuel cs y h
  rcases open_slice ht h with ⟨rfl, _⟩ | ⟨a, len, cap, m, n, D, Pl, rfl, hb, hl, hm, hmm, _, hi⟩
  · exact ⟨[], ⟨none, 0, rfl, Nat.le_refl _, Kd.C_nil d w⟩, by simp, fun x hx => by simp at hx⟩
  · have hlm : len ≤ m := by rw [hmm]; split <;> omega
    obtain ⟨xs, hlen, hx⟩ := choose_list (p := fun i x => ∃ c : List Value, c.length = d.sz ∧ d.K w x c ∧ (∀ j u, c[j]? = some u → w.cell? (a.add (i * d.sz + j)) = some u) ∧ ok x) len (fun i hil => by
      obtain ⟨c, hc, htr⟩ := hi i (by omega)
      obtain ⟨x, hK, hok⟩ := hd enc w base spare held n c _ htr
      obtain ⟨_, hcl, hat⟩ := World.cells?_some hc
      refine ⟨x, c, by rw [hcl, hs], hK, fun j u hj => ?_, hok⟩
      have hjl : j < c.length := (List.getElem?_eq_some_iff.1 hj).1
      have := hat j (by omega)
      rw [hs] at this
      rw [← Go.Deep.add_add, this]
      exact hj)
    have hmax : len ≤ 9223372036854775807 := by
      have := hm
      simp only [maxLen] at this
      omega
    refine ⟨xs, ⟨some a, cap, by rw [hlen], by omega, hlen ▸ rfl, by rw [hlen]; exact hmax, fun _ => ⟨a, rfl, fun j p hj => ?_⟩⟩, by rw [hlen]; exact hmax, fun x hxm => ?_⟩
    · obtain ⟨c, hc, hK, hcell, _⟩ := hx j p hj
      exact ⟨c, hc, hK, hcell⟩
    · obtain ⟨i, hi2⟩ := List.getElem?_of_mem hxm
      obtain ⟨_, _, _, _, hok⟩ := hx i x hi2
      exact hok

/-- The fields of a struct, from one on, as a kind. -/
def OpensF (P : Program) {α : Type} (fs : List Field) (off : Nat) (d : Kd α) (ok : α → Prop) : Prop :=
  ∀ {H : Type} (enc : TypeId × Value → H) (w : World) (base : Nat) (spare : Nat → Bool) (held : Bool) (fuel : Nat) (cs : List Value), cs.length = d.sz →
    (∀ f ∈ fs, ∃ y, DataW.trod enc P w base spare held fuel f.type ((cs.drop (f.offset - off)).take (P.cellsOf f.type)) = some y) → ∃ x, d.K w x cs ∧ ok x

theorem opensF_one {P : Program} {α : Type} {f : Field} {off : Nat} {d : Kd α} {ok : α → Prop} (ho : f.offset = off) (hs : P.cellsOf f.type = d.sz) (hd : Opens P f.type d ok) : OpensF P [f] off d ok := by
  intro H enc w base spare held fuel cs hl h
  obtain ⟨y, hy⟩ := h f (List.mem_singleton.2 rfl)
  rw [ho, Nat.sub_self, List.drop_zero, hs, ← hl, List.take_length] at hy
  exact hd enc w base spare held fuel cs y hy
theorem opensF_cons {P : Program} {α β : Type} {f : Field} {fs : List Field} {off : Nat} {a : Kd α} {b : Kd β} {oka : α → Prop} {okb : β → Prop} (ho : f.offset = off) (hs : P.cellsOf f.type = a.sz) (hd : Opens P f.type a oka)
    (hle : ∀ g ∈ fs, off + a.sz ≤ g.offset) (hb : OpensF P fs (off + a.sz) b okb) : OpensF P (f :: fs) off (Kd.pair a b) (fun x => oka x.1 ∧ okb x.2) := by
  intro H enc w base spare held fuel cs hl h
  have hl' : cs.length = a.sz + b.sz := hl
  obtain ⟨y, hy⟩ := h f List.mem_cons_self
  rw [ho, Nat.sub_self, List.drop_zero, hs] at hy
  obtain ⟨x, hK, hok⟩ := hd enc w base spare held fuel _ y hy
  obtain ⟨z, hK2, hok2⟩ := hb enc w base spare held fuel (cs.drop a.sz) (by rw [List.length_drop]; omega) (fun g hg => by
    obtain ⟨y2, hy2⟩ := h g (List.mem_cons_of_mem _ hg)
    refine ⟨y2, ?_⟩
    rw [List.drop_drop]
    have := hle g hg
    rw [show a.sz + (g.offset - (off + a.sz)) = g.offset - off by omega]
    exact hy2)
  exact ⟨(x, z), ⟨_, _, (List.take_append_drop a.sz cs).symm, hK, hK2⟩, hok, hok2⟩
theorem opens_struct {P : Program} {α β : Type} {t : TypeId} {fs : Array Field} {d : Kd α} {ok : α → Prop} {g : β → α} (q : α → β) (hq : ∀ a, g (q a) = a) (ht : P.underlying t = some (.struct fs)) (hs : P.cellsOf t = d.sz) (hd : OpensF P fs.toList 0 d ok) :
    Opens P t (Kd.iso d g) (fun x => ok (g x)) := by
  intro H enc w base spare held fuel cs y h
  obtain ⟨xs, n, _, _, hl, hlen, hf⟩ := DataW.trod_struct ht h
  obtain ⟨x, hK, hok⟩ := hd enc w base spare held n cs (by rw [hl, hs]) (fun f hfm => by
    obtain ⟨i, hi⟩ := List.getElem?_of_mem hfm
    have hi' : fs[i]? = some f := by rw [← Array.getElem?_toList]; exact hi
    have := hf i f hi'
    have hix : i < xs.length := by
      have := (Array.getElem?_eq_some_iff.1 hi').1
      omega
    rw [List.getElem?_eq_getElem hix] at this
    exact ⟨_, by rw [Nat.sub_zero]; exact this⟩)
  refine ⟨q x, ?_, ?_⟩
  · show d.K w (g (q x)) cs
    rw [hq]; exact hK
  · show ok (g (q x))
    rw [hq]; exact hok

/-- A parameter: its value's cells. -/
theorem open_arg {P : Program} {α : Type} {t : TypeId} {d : Kd α} {ok : α → Prop} (hd : Opens P t d ok) {H : Type} {enc : TypeId × Value → H} {w : World} {base : Nat} {spare : Nat → Bool} {held : Bool} {v : Value} {dd : DataW H} {p : List MemPlace}
    (h : DataW.Trod enc P w base spare held t v dd p) : ∃ x, d.K w x v.cells.toList ∧ ok x := by
  obtain ⟨fuel, hf⟩ := h
  exact hd enc w base spare held fuel _ _ hf
end Go.Proofs.Ytiadonijmkklcaa.Open
