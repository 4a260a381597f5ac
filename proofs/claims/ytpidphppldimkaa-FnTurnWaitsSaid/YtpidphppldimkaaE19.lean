import Derived.Test.YtpidphppldimkaaE18
import Derived.Test.YtpidphppldimkaaE11
namespace Go.Proofs.Ytpidphppldimkaa.Den
open Go.RowKit
set_option linter.unusedSimpArgs false
set_option linter.unusedVariables false
set_option maxRecDepth 10000
set_option maxHeartbeats 1000000
theorem New.exc {c : Nat} {H H' : AHeap} {s : SV} {kc : Blk} (h : New H' s) (hx : ExC c H H') (hc : H'.get c = some kc) : New H s := by
  cases s <;> try exact trivial
  case sl b i n c' =>
    have h : H'.get b = none := h
    show H.get b = none
    cases hb : H.get b with
    | none => rfl
    | some k =>
      by_cases e : c = b
      · subst e; rw [hc] at h; cases h
      · rw [hx.get b k e hb] at h; cases h
theorem EpNew.exc {c : Nat} {H H' H'' : AHeap} {p l : SV} {e : Ep} {kc : Blk} (n : EpNew H H' p l e) (hc : H.get c = some kc) (hx : ExC c H' H'') : EpNew H H'' p l e :=
  ⟨n.po.exc (n.pn.off hc) hx, n.lo.exc (n.ln.off hc) hx, n.pn, n.ln, n.apart, n.pl, n.ll, n.w⟩
theorem EpNew.back {c : Nat} {H H' H'' : AHeap} {p l : SV} {e : Ep} {kc : Blk} (n : EpNew H' H'' p l e) (hx : ExC c H H') (hc : H'.get c = some kc) : EpNew H H'' p l e :=
  ⟨n.po, n.lo, n.pn.exc hx hc, n.ln.exc hx hc, n.apart, n.pl, n.ll, n.w⟩
theorem EpNew.updO {H H' : AHeap} {p l : SV} {e : Ep} (n : EpNew H H' p l e) {b : Nat} (hp : OffS p b) (hl : OffS l b) (k : Blk) : EpNew H (H'.upd b k) p l e :=
  ⟨n.po.updO hp k, n.lo.updO hl k, n.pn, n.ln, n.apart, n.pl, n.ll, n.w⟩
theorem ok_pin {e e' : Ep} (h : EpOk e) {t : Int} {b ok : Bool} (hp : PinnedTo e t b ok e') : EpOk e' := by
  cases hp with
  | no _ => exact h
  | yes _ =>
    refine ok_set h ?_
    split
    · exact .inr ⟨h.n1, .inl rfl⟩
    · exact .inl rfl
theorem ok_goes {e e1 e' : Ep} (h : EpOk e) {ok : Bool} (hp : GoesTo e e1 ok e') : EpOk e' := by
  cases hp with
  | no _ => exact h
  | yes hq => exact hq.2
theorem ok_collect {e e' : Ep} {ids : List Int} (h : EpOk e) (hc : Collected e e' ids) : EpOk e' := by
  cases hc with
  | no _ => exact h
  | yes _ => exact ⟨h.n1, h.n2, h.p1, h.p2, Nat.le_trans (List.length_filter_le ..) h.l2, h.ps, ls_iff.2 ⟨fun x hx => (ls_iff.1 h.ls).1 x (List.mem_filter.1 hx).1, (ls_iff.1 h.ls).2.filter _⟩⟩
end Go.Proofs.Ytpidphppldimkaa.Den
