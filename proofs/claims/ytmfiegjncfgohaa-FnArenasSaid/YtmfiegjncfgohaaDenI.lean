/- The abstract calculus, part I: what an operation looks at; what waits for what. -/
import Derived.Test.YtmfiegjncfgohaaDenK
namespace Go.Proofs.Ytmfiegjncfgohaa.Den
open Go.RowKit
set_option linter.unusedVariables false
set_option linter.unusedSimpArgs false

def optL : Option Opd → List Opd
  | none => []
  | some x => [x]
def AOp.opds : AOp → List Opd
  | .mov x | .box _ x | .load1 x | .loadn _ x | .nilck x | .un _ x | .toInt _ x | .faddr _ x | .field1 _ x | .fieldn _ _ x | .extract x _ | .len x | .slen x | .clr _ _ x => [x]
  | .pick c a b => [c, a, b]
  | .alloc _ _ _ => []
  | .build _ ps => ps.map (·.2.2)
  | .mkrow _ _ _ _ ps => ps.map (·.2)
  | .store _ a x | .bin _ a x | .eqb _ a x | .eqnil _ a x | .eqagg _ _ a x | .mkslice _ _ _ _ a x | .iaddr _ a x | .sidx a x | .append _ _ _ a x | .cpy _ a x | .mx a x | .mn a x => [a, x]
  | .mkfn _ cs => cs
  | .slice _ x lo hi m => x :: (optL lo ++ (optL hi ++ optL m))
  | .sslice x lo hi => x :: (optL lo ++ optL hi)
  | .call _ as => as
  | .callx _ as => as
  | .capx x => [x]
  | .slicex _ x h => [x, h]
  | .appz _ _ _ _ x n => [x, n]
  | .callv x as => x :: as
def otmp : Opd → List Nat
  | .t n => [n]
  | _ => []
def AOp.tmps (o : AOp) : List Nat := o.opds.flatMap otmp
def gslot : Option (Nat × Bool) → List Nat
  | none => []
  | some (t, _) => [t]
def AOper.reads (a : AOper) : List Nat := gslot a.guard ++ a.op.tmps

theorem bound_congr {d : Nat} {e e' : Opd → AV} {x : Option Opd} (h : ∀ o ∈ optL x, e o = e' o) : bound d e x = bound d e' x := by
  cases x with
  | none => rfl
  | some y => simp only [bound, h y (by simp [optL])]

theorem xop_congr {op : AOp} {e e' : Opd → AV} {H : AHeap} (h : ∀ o ∈ op.opds, e o = e' o) : xop op e H = xop op e' H := by
  cases op
  case slice sz x lo hi mx =>
    simp only [AOp.opds, List.mem_cons, List.mem_append, forall_eq_or_imp] at h
    obtain ⟨h0, h1⟩ := h
    simp only [xop, h0, bound_congr (fun o ho => h1 o (.inl ho)), bound_congr (fun o ho => h1 o (.inr (.inl ho))), bound_congr (fun o ho => h1 o (.inr (.inr ho)))]
  case sslice x lo hi =>
    simp only [AOp.opds, List.mem_cons, List.mem_append, forall_eq_or_imp] at h
    obtain ⟨h0, h1⟩ := h
    simp only [xop, h0, bound_congr (fun o ho => h1 o (.inl ho)), bound_congr (fun o ho => h1 o (.inr ho))]
  case build z ps =>
    have : ps.map (fun p => (p.1, p.2.1, e p.2.2)) = ps.map (fun p => (p.1, p.2.1, e' p.2.2)) := List.map_congr_left fun p hp => by rw [h p.2.2 (List.mem_map.2 ⟨p, hp, rfl⟩)]
    simp only [xop, this]
  case mkrow ty sz z n ps =>
    have : ps.map (fun p => (p.1, e p.2)) = ps.map (fun p => (p.1, e' p.2)) := List.map_congr_left fun p hp => by rw [h p.2 (List.mem_map.2 ⟨p, hp, rfl⟩)]
    simp only [xop, this]
  case mkfn f cs =>
    have : cs.map e = cs.map e' := List.map_congr_left fun p hp => h p hp
    simp only [xop, this]
  all_goals simp_all [xop, AOp.opds]

theorem evf_congr {f g : Fr} {o : Opd} (h : ∀ t ∈ otmp o, fget f t = fget g t) : evf f o = evf g o := by
  cases o <;> first | rfl | exact h _ (by simp [otmp])

/-- An operation that neither makes nor writes a block. -/
def AOp.pure : AOp → Bool
  | .mov _ | .pick _ _ _ | .build _ _ | .nilck _ | .bin _ _ _ | .eqb _ _ _ | .eqnil _ _ _ | .eqagg _ _ _ _ | .un _ _ | .toInt _ _ | .mkfn _ _ | .sslice _ _ _ | .faddr _ _ | .field1 _ _ | .fieldn _ _ _ | .sidx _ _ | .extract _ _ | .len _ | .slen _ | .mx _ _ | .mn _ _ => true
  | _ => false
def AOp.reading : AOp → Bool
  | .load1 _ | .loadn _ _ | .iaddr _ _ _ | .slice _ _ _ _ _ => true
  | _ => false

theorem pure_any {op : AOp} (hp : op.pure = true) {e : Opd → AV} {H H1 : AHeap} {v : AV} (h : xop op e H = some (v, H1)) : H1 = H ∧ ∀ H2, xop op e H2 = some (v, H2) := by
  cases op <;> first | (cases hp; done) | skip
  all_goals simp only [xop] at h ⊢
  case mov => simp only [Option.some.injEq, Prod.mk.injEq] at h; obtain ⟨rfl, rfl⟩ := h; exact ⟨rfl, fun _ => rfl⟩
  case pick =>
    split at h
    · simp only [Option.some.injEq, Prod.mk.injEq] at h; obtain ⟨rfl, rfl⟩ := h; exact ⟨rfl, fun _ => rfl⟩
    · cases h
  case build => obtain ⟨l, hl, h⟩ := map_some h; cases h; exact ⟨rfl, fun _ => by rw [hl]; rfl⟩
  case mkfn => obtain ⟨l, hl, h⟩ := map_some h; cases h; exact ⟨rfl, fun _ => by rw [hl]; rfl⟩
  case nilck => split at h <;> cases h <;> exact ⟨rfl, fun _ => rfl⟩
  case bin =>
    split at h
    · obtain ⟨l, hl, h⟩ := map_some h; cases h; exact ⟨rfl, fun _ => by rw [hl]; rfl⟩
    · cases h
  case eqb => split at h <;> cases h <;> exact ⟨rfl, fun _ => rfl⟩
  case eqnil => split at h <;> cases h <;> exact ⟨rfl, fun _ => rfl⟩
  case eqagg =>
    split at h
    · obtain ⟨l, hl, h⟩ := map_some h; cases h; exact ⟨rfl, fun _ => by rw [hl]; rfl⟩
    · cases h
  case un => split at h <;> cases h <;> exact ⟨rfl, fun _ => rfl⟩
  case toInt => split at h <;> cases h <;> exact ⟨rfl, fun _ => rfl⟩
  case faddr => split at h <;> cases h <;> exact ⟨rfl, fun _ => rfl⟩
  case len => obtain ⟨l, hl, h⟩ := map_some h; cases h; exact ⟨rfl, fun _ => by rw [hl]; rfl⟩
  case slen => split at h <;> cases h <;> exact ⟨rfl, fun _ => rfl⟩
  case field1 =>
    split at h
    · obtain ⟨l, hl, h⟩ := map_some h; cases h; exact ⟨rfl, fun _ => by rw [hl]; rfl⟩
    · cases h
  case fieldn =>
    split at h
    · split at h
      · rename_i hc; cases h; exact ⟨rfl, fun _ => by rw [if_pos hc]⟩
      · cases h
    · cases h
  case sidx =>
    split at h
    · split at h
      · rename_i hc; obtain ⟨l, hl, h⟩ := map_some h; cases h; exact ⟨rfl, fun _ => by rw [if_pos hc, hl]; rfl⟩
      · cases h
    · cases h
  case extract =>
    split at h
    · obtain ⟨l, hl, h⟩ := map_some h; cases h; exact ⟨rfl, fun _ => by rw [hl]; rfl⟩
    · cases h
  case sslice =>
    split at h
    · obtain ⟨m, hm, h⟩ := bind_some h
      obtain ⟨l, hl, h⟩ := bind_some h
      split at h
      · rename_i hc
        cases h
        exact ⟨rfl, fun _ => by rw [hm]; simp only [Option.bind_some]; rw [hl]; simp only [Option.bind_some]; rw [if_pos hc]⟩
      · cases h
    · cases h
  case mx =>
    split at h
    · split at h
      · rename_i hc; cases h; exact ⟨rfl, fun _ => by rw [if_pos hc]⟩
      · cases h
    · cases h
  case mn =>
    split at h
    · split at h
      · rename_i hc; cases h; exact ⟨rfl, fun _ => by rw [if_pos hc]⟩
      · cases h
    · cases h

/-- A reading operation reads the same where the blocks that were there are still there. -/
theorem reading_ext {op : AOp} (hp : op.reading = true) {e : Opd → AV} {H H1 : AHeap} {v : AV} (h : xop op e H = some (v, H1)) : H1 = H ∧ ∀ H2, (∀ b k, H.get b = some k → H2.get b = some k) → xop op e H2 = some (v, H2) := by
  have hrow : ∀ {H2 : AHeap}, (∀ b k, H.get b = some k → H2.get b = some k) → ∀ {b i r}, H.row b i = some r → H2.row b i = some r := by
    intro H2 hg b i r hr
    unfold AHeap.row at hr ⊢
    obtain ⟨k, hk, hr⟩ := bind_some hr
    rw [hg b k hk]
    exact hr
  have hhas : ∀ {H2 : AHeap}, (∀ b k, H.get b = some k → H2.get b = some k) → ∀ {b sz}, H.has b sz = true → H2.has b sz = true := by
    intro H2 hg b sz hr
    unfold AHeap.has at hr ⊢
    split at hr
    · rename_i k hk; rw [hg b k hk]; exact hr
    · cases hr
  cases op <;> first | (cases hp; done) | skip
  all_goals simp only [xop] at h ⊢
  case load1 =>
    split at h
    · obtain ⟨l, hl, h⟩ := map_some h
      cases h
      refine ⟨rfl, fun H2 hg => ?_⟩
      unfold AHeap.cell at hl ⊢
      obtain ⟨r, hr, hl⟩ := bind_some hl
      rw [hrow hg hr]
      simp [hl]
    · obtain ⟨l, hl, h⟩ := map_some h
      cases h
      exact ⟨rfl, fun H2 hg => by rw [hl]; rfl⟩
    · cases h
  case loadn =>
    split at h
    · obtain ⟨l, hl, h⟩ := map_some h
      cases h
      refine ⟨rfl, fun H2 hg => ?_⟩
      unfold AHeap.cells at hl ⊢
      obtain ⟨r, hr, hl⟩ := bind_some hl
      rw [hrow hg hr]
      simp only [Option.bind_some, hl]
      rfl
    · split at h
      · rename_i hc
        cases h
        exact ⟨rfl, fun H2 hg => by rw [if_pos hc]⟩
      · cases h
    · cases h
  case iaddr =>
    split at h
    · split at h
      · rename_i hc
        cases h
        exact ⟨rfl, fun H2 hg => by rw [if_pos ⟨hc.1, hc.2.1, hhas hg hc.2.2⟩]⟩
      · cases h
    · split at h
      · rename_i hc
        obtain ⟨l, hl, h⟩ := map_some h
        cases h
        exact ⟨rfl, fun H2 hg => by rw [if_pos hc, hl]; rfl⟩
      · cases h
    · cases h
  case slice =>
    split at h
    · split at h
      · obtain ⟨n, hn, h⟩ := bind_some h
        obtain ⟨l, hl, h⟩ := bind_some h
        split at h
        · rename_i hc
          cases h
          refine ⟨rfl, fun H2 hg => ?_⟩
          rw [hn]; simp only [Option.bind_some]; rw [hl]; simp only [Option.bind_some]
          rw [if_pos ⟨hc.1, hc.2.1, hhas hg hc.2.2⟩]
        · cases h
      · obtain ⟨m, hm, h⟩ := bind_some h
        obtain ⟨n, hn, h⟩ := bind_some h
        obtain ⟨l, hl, h⟩ := bind_some h
        split at h
        · rename_i hc
          cases h
          refine ⟨rfl, fun H2 hg => ?_⟩
          rw [hm]; simp only [Option.bind_some]; rw [hn]; simp only [Option.bind_some]; rw [hl]; simp only [Option.bind_some]
          rw [if_pos ⟨hc.1, hc.2.1, hc.2.2.1, hhas hg hc.2.2.2⟩]
        · cases h
    · obtain ⟨m, hm, h⟩ := bind_some h
      obtain ⟨n, hn, h⟩ := bind_some h
      obtain ⟨l, hl, h⟩ := bind_some h
      split at h
      · rename_i hc
        cases h
        refine ⟨rfl, fun H2 hg => ?_⟩
        rw [hm]; simp only [Option.bind_some]; rw [hn]; simp only [Option.bind_some]; rw [hl]; simp only [Option.bind_some]
        rw [if_pos hc]
      · cases h
    · obtain ⟨m, hm, h⟩ := bind_some h
      obtain ⟨n, hn, h⟩ := bind_some h
      obtain ⟨l, hl, h⟩ := bind_some h
      split at h
      · rename_i hc
        cases h
        refine ⟨rfl, fun H2 hg => ?_⟩
        rw [hm]; simp only [Option.bind_some]; rw [hn]; simp only [Option.bind_some]; rw [hl]; simp only [Option.bind_some]
        rw [if_pos hc]
      · cases h
    · cases h

def AOp.isMov : AOp → Bool
  | .mov _ => true
  | _ => false
/-- The new block of an operation that makes one of constants. -/
def flRows : AOp → List (List SV)
  | .alloc _ _ z => [z]
  | .mkrow _ sz z n ps => (afillRows (ps.map fun (i, x) => (i, evf [] x)) (List.replicate n z) sz).getD []
  | _ => []
def flTy : AOp → Nat
  | .alloc t _ _ => t
  | .mkrow t _ _ _ _ => t
  | _ => 0
def flSz : AOp → Nat
  | .alloc _ s _ => s
  | .mkrow _ s _ _ _ => s
  | _ => 0
def flCap : AOp → Nat
  | .alloc _ _ _ => 1
  | .mkrow _ _ _ n _ => n
  | _ => 0
def flA (op : AOp) (b : Nat) : SV :=
  match op with
  | .alloc _ _ _ => .ptr b 0 0
  | .mkrow _ _ _ n _ => .sl b 0 n n
  | _ => .any
def flC (op : AOp) (r : Nat) : Value :=
  match op with
  | .alloc _ _ _ => .pointer (some ⟨r, 0, none⟩)
  | .mkrow _ _ _ n _ => .slice (some ⟨r, 0, none⟩) n n
  | _ => undef
def floatOk : AOp → Bool
  | .alloc _ _ _ => true
  | .mkrow _ sz z n ps => ps.all (fun p => (otmp p.2).isEmpty) && (afillRows (ps.map fun (i, x) => (i, evf [] x)) (List.replicate n z) sz).isSome
  | _ => false

abbrev Item := Nat × Cat × AOper
def itemOk (x : Item) : Bool :=
  match x.2.1 with
  | .light => (x.2.2.op.pure || x.2.2.op.reading) && x.2.2.chk.isEmpty && (match x.2.2.dst with | some d => !x.2.2.reads.contains d | none => true)
  | .float => floatOk x.2.2.op && x.2.2.guard.isNone && x.2.2.chk.isEmpty
  | .heavy => true

def pairOk (M : List Nat) (x y : Item) : Bool :=
  let b := (M.getD y.1 0).testBit x.1
  (y.2.1 == .float || x.2.1 == .light || b) &&
  (match x.2.2.dst with | some d => !(y.2.2.reads.contains d || y.2.2.dst == some d) || b | none => true) &&
  (match y.2.2.dst with | some d => !(x.2.2.reads.contains d || x.2.2.dst == some d) || (y.2.1 == .heavy && b) | none => true) &&
  (!(y.2.1 == .heavy && !y.2.2.op.isMov && x.2.2.op.reading && x.2.1 == .light) || b || (match x.2.2.dst with | some d => y.2.2.chk.contains (x.2.2.op, d, x.2.2.guard) | none => false))
def pairsOk (M : List Nat) : List Item → Bool
  | [] => true
  | x :: r => r.all (pairOk M x) && pairsOk M r

/-! ### What waits for what -/
def dpre (o : Oper) : List Nat := (o.after.toList.filter (Region.binds .any)).map (·.on)
def mOf (acc : List Nat) (o : Oper) : Nat := (dpre o).foldl (fun s j => s ||| 2 ^ j ||| acc.getD j 0) 0
def masks : List Oper → List Nat → List Nat
  | [], acc => acc
  | o :: r, acc => masks r (acc ++ [mOf acc o])

/-- A set of operations with all that they wait for. -/
def Closed (ops : Array Oper) (D : Nat → Prop) : Prop := ∀ i o, ops[i]? = some o → D i → ∀ j ∈ dpre o, D j
/-- What a mask tells: whoever may come up has these behind it. -/
def MaskOk (ops : Array Oper) (acc : List Nat) : Prop := ∀ (i m : Nat) (o : Oper), acc[i]? = some m → ops[i]? = some o → ∀ D : Nat → Prop, Closed ops D → (∀ j ∈ dpre o, D j) → ∀ j, m.testBit j = true → D j

theorem mOf_ok {ops : Array Oper} {acc : List Nat} (h : MaskOk ops acc) {o : Oper} (D : Nat → Prop) (hD : Closed ops D) (hp : ∀ j ∈ dpre o, D j) (hl : ∀ j ∈ dpre o, j < acc.length → ∃ oj, ops[j]? = some oj) : ∀ j, (mOf acc o).testBit j = true → D j := by
  unfold mOf
  have key : ∀ (l : List Nat) (s : Nat), (∀ j ∈ l, D j) → (∀ j ∈ l, j < acc.length → ∃ oj, ops[j]? = some oj) → (∀ j, s.testBit j = true → D j) → ∀ j, (l.foldl (fun s j => s ||| 2 ^ j ||| acc.getD j 0) s).testBit j = true → D j := by
    intro l
    induction l with
    | nil => intro s _ _ hs j hj; exact hs j hj
    | cons x l ih =>
      intro s hx hl2 hs j hj
      refine ih _ (fun y hy => hx y (List.mem_cons_of_mem _ hy)) (fun y hy => hl2 y (List.mem_cons_of_mem _ hy)) (fun i hi => ?_) j hj
      rw [Nat.testBit_or, Nat.testBit_or, Bool.or_eq_true, Bool.or_eq_true] at hi
      rcases hi with (hi | hi) | hi
      · exact hs i hi
      · rw [Nat.testBit_two_pow] at hi
        have : x = i := of_decide_eq_true hi
        subst this
        exact hx x (List.mem_cons_self ..)
      · by_cases hlt : x < acc.length
        · obtain ⟨ox, hox⟩ := hl2 x (List.mem_cons_self ..) hlt
          refine h x _ ox (by rw [List.getD_eq_getElem?_getD, List.getElem?_eq_getElem hlt] at hi; exact List.getElem?_eq_getElem hlt) hox D hD (hD x ox hox (hx x (List.mem_cons_self ..))) i ?_
          rw [List.getD_eq_getElem?_getD, List.getElem?_eq_getElem hlt] at hi
          exact hi
        · rw [List.getD_eq_getElem?_getD, List.getElem?_eq_none (by omega)] at hi
          simp at hi
  exact key _ 0 hp hl (by simp)

theorem masks_ok {ops : Array Oper} : ∀ (l : List Oper) (acc : List Nat), (∀ j, l[j]? = ops[acc.length + j]?) → MaskOk ops acc → (∀ j, j < acc.length → ∃ oj, ops[j]? = some oj) → MaskOk ops (masks l acc)
  | [], acc, _, h, _ => h
  | o :: l, acc, hl, h, hx => by
    have h0 : ops[acc.length]? = some o := by simpa using (hl 0).symm
    refine masks_ok l (acc ++ [mOf acc o]) (fun j => ?_) ?_ (fun j hj => ?_)
    · have := hl (j + 1)
      simpa [Nat.add_assoc, Nat.add_comm 1 j] using this
    · intro i m oi hi hoi D hD hp
      rcases Nat.lt_or_ge i acc.length with hlt | hge
      · rw [List.getElem?_append_left hlt] at hi
        exact h i m oi hi hoi D hD hp
      · rw [List.getElem?_append_right hge] at hi
        have hi0 : i = acc.length := by
          have := (List.getElem?_eq_some_iff.1 hi).1
          simp at this
          omega
        subst hi0
        simp at hi
        subst hi
        rw [h0] at hoi
        obtain rfl := Option.some.inj hoi
        exact mOf_ok h D hD hp (fun j _ hj => hx j hj)
    · rcases Nat.lt_or_ge j acc.length with hlt | hge
      · exact hx j hlt
      · have : j = acc.length := by simp at hj; omega
        subst this
        exact ⟨o, h0⟩

end Go.Proofs.Ytmfiegjncfgohaa.Den
