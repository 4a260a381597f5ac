import Derived.Test.YtmfiegjncfgohaaB7
namespace Go.Proofs.Ytmfiegjncfgohaa.Den
open Go.RowKit
set_option linter.unusedSimpArgs false
set_option linter.unusedVariables false
set_option maxRecDepth 100000
set_option maxHeartbeats 2000000
def A85 : AFn := ⟨157, [],
   .seq (.reg [⟨some 5, .mov (.t 0), none, []⟩,
    ⟨some 6, .nilck (.t 5), none, []⟩,
    ⟨some 7, .faddr 4 (.t 6), none, []⟩,
    ⟨some 8, .load1 (.t 7), none, []⟩,
    ⟨some 9, .mov (.t 1), none, []⟩,
    ⟨some 10, .iaddr 8 (.t 8) (.t 9), none, []⟩,
    ⟨some 4, .mov (.t 10), none, []⟩] [0, 1, 4])
   (.seq (.reg [⟨some 11, .mov (.t 4), none, []⟩,
    ⟨some 12, .nilck (.t 11), none, []⟩,
    ⟨some 13, .faddr 3 (.t 12), none, []⟩,
    ⟨some 14, .load1 (.t 13), none, []⟩] [0, 1, 4, 14])
   (.block 0 (.seq (.reg [⟨some 16, .bin .eql (.t 14) (.c (.int .i64 0)), none, []⟩,
    ⟨some 15, .mov (.t 16), none, []⟩] [0, 1, 4, 14, 15])
   (.cond (.t 15) (.reg [⟨some 17, .mov (.t 4), none, []⟩,
    ⟨some 18, .nilck (.t 17), none, []⟩,
    ⟨some 19, .faddr 3 (.t 18), none, []⟩,
    ⟨none, .store 1 (.t 19) (.c (.int .i64 1)), none, []⟩] [])
   (.seq (.reg [⟨some 21, .bin .eql (.t 14) (.c (.int .i64 1)), none, []⟩,
    ⟨some 20, .mov (.t 21), none, []⟩] [0, 1, 4, 14, 20])
   (.cond (.t 20) (.block 1 (.seq (.reg [⟨some 40, .mov (.t 0), none, []⟩,
    ⟨some 41, .nilck (.t 40), none, []⟩,
    ⟨some 42, .faddr 3 (.t 41), none, []⟩,
    ⟨some 43, .load1 (.t 42), none, []⟩,
    ⟨some 44, .bin .neq (.t 43) (.c (.int .i64 0)), none, []⟩,
    ⟨some 39, .mov (.t 44), none, []⟩] [0, 1, 4, 39])
   (.cond (.t 39) (.seq (.reg [⟨some 45, .mov (.t 4), none, []⟩,
    ⟨some 46, .nilck (.t 45), none, []⟩,
    ⟨some 47, .faddr 3 (.t 46), none, []⟩,
    ⟨none, .store 1 (.t 47) (.c (.int .i64 5)), none, []⟩] [0, 4])
   (.reg [⟨some 48, .mov (.t 4), none, []⟩,
    ⟨some 49, .mov (.t 0), none, []⟩,
    ⟨some 50, .nilck (.t 49), none, []⟩,
    ⟨some 51, .faddr 3 (.t 50), none, []⟩,
    ⟨some 52, .load1 (.t 51), none, []⟩,
    ⟨some 53, .nilck (.t 48), none, []⟩,
    ⟨some 54, .faddr 4 (.t 53), none, []⟩,
    ⟨none, .store 1 (.t 54) (.t 52), none, []⟩] []))
   (.seq (.dreg [(0, .light, ⟨some 56, .mov (.t 0), none, []⟩),
    (1, .light, ⟨some 57, .nilck (.t 56), none, []⟩),
    (2, .light, ⟨some 58, .faddr 1 (.t 57), none, []⟩),
    (3, .light, ⟨some 59, .load1 (.t 58), none, []⟩),
    (4, .light, ⟨some 60, .mov (.t 4), none, []⟩),
    (5, .light, ⟨some 61, .nilck (.t 60), none, []⟩),
    (6, .light, ⟨some 62, .faddr 1 (.t 61), none, []⟩),
    (7, .light, ⟨some 63, .load1 (.t 62), none, []⟩),
    (8, .light, ⟨some 64, .bin .eql (.t 59) (.t 63), none, []⟩),
    (9, .light, ⟨some 55, .mov (.t 64), none, []⟩)] [0, 1, 4, 55])
   (.cond (.t 55) (.seq (.reg [⟨some 65, .mov (.t 0), none, []⟩,
    ⟨some 66, .mov (.t 1), none, []⟩,
    ⟨some 67, .bin .add (.t 66) (.c (.int .i64 1)), none, []⟩,
    ⟨some 68, .nilck (.t 65), none, []⟩,
    ⟨some 69, .faddr 3 (.t 68), none, []⟩,
    ⟨none, .store 1 (.t 69) (.t 67), none, []⟩] [0, 4])
   (.seq (.reg [⟨some 70, .mov (.t 4), none, []⟩,
    ⟨some 71, .mov (.t 0), none, []⟩,
    ⟨some 72, .nilck (.t 71), none, []⟩,
    ⟨some 73, .faddr 0 (.t 72), none, []⟩,
    ⟨some 74, .load1 (.t 73), none, []⟩,
    ⟨some 75, .len (.t 74), none, []⟩,
    ⟨some 76, .bin .sub (.t 75) (.c (.int .i64 1)), none, []⟩,
    ⟨some 77, .nilck (.t 70), none, []⟩,
    ⟨some 78, .faddr 6 (.t 77), none, []⟩,
    ⟨none, .store 1 (.t 78) (.t 76), none, []⟩] [4])
   (.reg [⟨some 79, .mov (.t 4), none, []⟩,
    ⟨some 80, .nilck (.t 79), none, []⟩,
    ⟨some 81, .faddr 3 (.t 80), none, []⟩,
    ⟨none, .store 1 (.t 81) (.c (.int .i64 2)), none, []⟩] [])))
   (.seq (.reg [⟨some 22, .mov (.t 4), none, []⟩,
    ⟨some 23, .nilck (.t 22), none, []⟩,
    ⟨some 24, .faddr 3 (.t 23), none, []⟩,
    ⟨none, .store 1 (.t 24) (.c (.int .i64 4)), none, []⟩] [0, 1, 4])
   (.seq (.reg [⟨some 25, .mov (.t 4), none, []⟩,
    ⟨some 26, .nilck (.t 25), none, []⟩,
    ⟨some 27, .faddr 7 (.t 26), none, []⟩,
    ⟨none, .store 1 (.t 27) (.c (.int .i64 1)), none, []⟩] [0, 1])
   (.reg [⟨some 28, .mov (.t 0), none, []⟩,
    ⟨some 29, .mov (.t 0), none, []⟩,
    ⟨some 30, .nilck (.t 29), none, []⟩,
    ⟨some 31, .faddr 5 (.t 30), none, []⟩,
    ⟨some 32, .load1 (.t 31), none, []⟩,
    ⟨some 33, .mov (.t 1), none, []⟩,
    ⟨some 34, .build [.int .i64 0, .bool false, .int .i64 0] [(0, 1, (.t 33))], none, []⟩,
    ⟨some 35, .mkrow 36 3 [.int .i64 0, .bool false, .int .i64 0] 1 [(0, (.t 34))], none, []⟩,
    ⟨some 36, .append 36 3 24 (.t 32) (.t 35), none, []⟩,
    ⟨some 37, .nilck (.t 28), none, []⟩,
    ⟨some 38, .faddr 5 (.t 37), none, []⟩,
    ⟨none, .store 1 (.t 38) (.t 36), none, []⟩] []))))))))
   (.seq (.seq (.reg [⟨some 83, .bin .eql (.t 14) (.c (.int .i64 2)), none, []⟩,
    ⟨some 82, .mov (.t 83), none, []⟩] [0, 1, 4, 14, 82])
   (.cond (.t 82) (.skip)
   (.reg [⟨some 84, .bin .eql (.t 14) (.c (.int .i64 5)), none, []⟩,
    ⟨some 82, .mov (.t 84), none, []⟩] [0, 1, 4, 14, 82])))
   (.cond (.t 82) (.seq (.dreg [(0, .light, ⟨some 85, .mov (.t 4), none, []⟩),
    (1, .light, ⟨some 86, .mov (.t 0), none, []⟩),
    (2, .light, ⟨some 87, .nilck (.t 86), none, []⟩),
    (3, .light, ⟨some 88, .faddr 0 (.t 87), none, []⟩),
    (4, .light, ⟨some 89, .load1 (.t 88), none, []⟩),
    (5, .light, ⟨some 90, .mov (.t 0), none, []⟩),
    (6, .light, ⟨some 91, .nilck (.t 90), none, []⟩),
    (7, .light, ⟨some 92, .faddr 0 (.t 91), none, []⟩),
    (8, .light, ⟨some 93, .load1 (.t 92), none, []⟩),
    (9, .light, ⟨some 94, .len (.t 93), none, []⟩),
    (10, .light, ⟨some 95, .bin .sub (.t 94) (.c (.int .i64 1)), none, []⟩),
    (11, .light, ⟨some 96, .iaddr 1 (.t 89) (.t 95), none, []⟩),
    (12, .light, ⟨some 97, .load1 (.t 96), none, []⟩),
    (13, .light, ⟨some 98, .nilck (.t 85), none, []⟩),
    (14, .light, ⟨some 99, .faddr 5 (.t 98), none, []⟩),
    (15, .heavy, ⟨none, .store 1 (.t 99) (.t 97), none, []⟩)] [4])
   (.reg [⟨some 100, .mov (.t 4), none, []⟩,
    ⟨some 101, .nilck (.t 100), none, []⟩,
    ⟨some 102, .faddr 3 (.t 101), none, []⟩,
    ⟨some 103, .load1 (.t 102), none, []⟩,
    ⟨some 104, .bin .add (.t 103) (.c (.int .i64 1)), none, []⟩,
    ⟨some 105, .nilck (.t 100), none, []⟩,
    ⟨some 106, .faddr 3 (.t 105), none, []⟩,
    ⟨none, .store 1 (.t 106) (.t 104), none, []⟩] []))
   (.seq (.reg [⟨some 108, .bin .eql (.t 14) (.c (.int .i64 3)), none, []⟩,
    ⟨some 107, .mov (.t 108), none, []⟩] [0, 1, 4, 14, 107])
   (.cond (.t 107) (.seq (.seq (.reg [⟨some 109, .mov (.t 0), none, []⟩,
    ⟨some 110, .nilck (.t 109), none, []⟩,
    ⟨some 111, .faddr 3 (.t 110), none, []⟩,
    ⟨some 112, .load1 (.t 111), none, []⟩,
    ⟨some 113, .mov (.t 1), none, []⟩,
    ⟨some 114, .bin .add (.t 113) (.c (.int .i64 1)), none, []⟩,
    ⟨some 115, .bin .eql (.t 112) (.t 114), none, []⟩] [0, 4, 115])
   (.cond (.t 115) (.reg [⟨some 116, .mov (.t 0), none, []⟩,
    ⟨some 117, .mov (.t 4), none, []⟩,
    ⟨some 118, .nilck (.t 117), none, []⟩,
    ⟨some 119, .faddr 5 (.t 118), none, []⟩,
    ⟨some 120, .load1 (.t 119), none, []⟩,
    ⟨some 121, .call 124 [(.t 116), (.t 120)], none, []⟩] [4])
   (.skip)))
   (.seq (.reg [⟨some 122, .mov (.t 4), none, []⟩,
    ⟨some 123, .nilck (.t 122), none, []⟩,
    ⟨some 124, .faddr 3 (.t 123), none, []⟩,
    ⟨none, .store 1 (.t 124) (.c (.int .i64 4)), none, []⟩] [4])
   (.seq (.reg [⟨some 125, .mov (.t 4), none, []⟩,
    ⟨some 126, .nilck (.t 125), none, []⟩,
    ⟨some 127, .faddr 4 (.t 126), none, []⟩,
    ⟨none, .store 1 (.t 127) (.c (.int .i64 0)), none, []⟩] [4])
   (.reg [⟨some 128, .mov (.t 4), none, []⟩,
    ⟨some 129, .nilck (.t 128), none, []⟩,
    ⟨some 130, .faddr 5 (.t 129), none, []⟩,
    ⟨none, .store 1 (.t 130) (.c (.int .i64 0)), none, []⟩] []))))
   (.seq (.reg [⟨some 132, .bin .eql (.t 14) (.c (.int .i64 6)), none, []⟩,
    ⟨some 131, .mov (.t 132), none, []⟩] [0, 4, 131])
   (.cond (.t 131) (.seq (.seq (.dreg [(0, .light, ⟨some 133, .mov (.t 0), none, []⟩),
    (1, .light, ⟨some 134, .nilck (.t 133), none, []⟩),
    (2, .light, ⟨some 135, .faddr 3 (.t 134), none, []⟩),
    (3, .light, ⟨some 136, .load1 (.t 135), none, []⟩),
    (4, .light, ⟨some 137, .mov (.t 4), none, []⟩),
    (5, .light, ⟨some 138, .nilck (.t 137), none, []⟩),
    (6, .light, ⟨some 139, .faddr 4 (.t 138), none, []⟩),
    (7, .light, ⟨some 140, .load1 (.t 139), none, []⟩),
    (8, .light, ⟨some 141, .bin .eql (.t 136) (.t 140), none, []⟩)] [0, 4, 141])
   (.cond (.t 141) (.reg [⟨some 142, .mov (.t 0), none, []⟩,
    ⟨some 143, .mov (.t 4), none, []⟩,
    ⟨some 144, .nilck (.t 143), none, []⟩,
    ⟨some 145, .faddr 5 (.t 144), none, []⟩,
    ⟨some 146, .load1 (.t 145), none, []⟩,
    ⟨some 147, .call 124 [(.t 142), (.t 146)], none, []⟩] [4])
   (.skip)))
   (.seq (.reg [⟨some 148, .mov (.t 4), none, []⟩,
    ⟨some 149, .nilck (.t 148), none, []⟩,
    ⟨some 150, .faddr 3 (.t 149), none, []⟩,
    ⟨none, .store 1 (.t 150) (.c (.int .i64 1)), none, []⟩] [4])
   (.seq (.reg [⟨some 151, .mov (.t 4), none, []⟩,
    ⟨some 152, .nilck (.t 151), none, []⟩,
    ⟨some 153, .faddr 4 (.t 152), none, []⟩,
    ⟨none, .store 1 (.t 153) (.c (.int .i64 0)), none, []⟩] [4])
   (.reg [⟨some 154, .mov (.t 4), none, []⟩,
    ⟨some 155, .nilck (.t 154), none, []⟩,
    ⟨some 156, .faddr 5 (.t 155), none, []⟩,
    ⟨none, .store 1 (.t 156) (.c (.int .i64 0)), none, []⟩] []))))
   (.skip)))))))))))))⟩
theorem a85 : agreeFn Try.prog Try.f85 A85 = true := by kernel_rfl
def putW (b : Bo) (t : Nat) (x : Want) : Bo := { b with wants := b.wants.set t x }
/-- A step of a want, all being right. -/
def stepB (b : Bo) (t : Nat) : Bo :=
  let x := b.wants.getD t default
  if x.phase = 0 then putW b t { x with phase := 1 }
  else if x.phase = 1 then
    if ¬ b.mark = 0 then putW b t { x with phase := 5, who := b.mark }
    else if b.w = x.old then { putW b t { x with phase := 2, from_ := (b.sn.length : Int) - 1 } with mark := (t : Int) + 1 }
    else { putW b t { x with phase := 4, got := 1 } with evs := b.evs ++ [⟨t, false, 0⟩] }
  else if x.phase = 2 ∨ x.phase = 5 then putW b t { x with saw := b.sn.getD (b.sn.length - 1) 0, phase := x.phase + 1 }
  else if x.phase = 3 then
    let c := if b.mark = (t : Int) + 1 then takeB b t x.saw else b
    putW c t { c.wants.getD t default with phase := 4, who := 0, saw := 0 }
  else if x.phase = 6 then
    let c := if b.mark = x.who then takeB b (x.who - 1).toNat x.saw else b
    putW c t { c.wants.getD t default with phase := 1, who := 0, saw := 0 }
  else b
/-- What a step leaves: the events where they were, or somewhere else. -/
def StepR (b : Bo) (v : AV) (xs bs : List (Option Blk)) : Prop := v = .tup [] ∧
  (xs = some ⟨6, 30, [ownB b 1 2 3]⟩ :: blksB b ∧ bs = [] ∨
   xs = [some ⟨6, 30, [ownB b 1 2 4]⟩, some ⟨1, 3, ints b.sn⟩, some ⟨8, 38, wants b.wants⟩, none] ∧ bs = [some ⟨3, 36, evs b.evs⟩])
theorem takeB_ex (b : Bo) (k : Nat) (saw : Int) {x : Want} (hx : b.wants[k]? = some x) : ∃ w g y, takeB b k saw = { b with w := w, mark := 0, wants := b.wants.set k { x with got := g }, evs := b.evs ++ [⟨k, y, saw⟩] } := by
  have hd : b.wants.getD k default = x := by rw [List.getD_eq_getElem?_getD, hx]; rfl
  exact ⟨_, _, _, by unfold takeB; rw [hd]⟩
theorem wantS_at {b : Bo} (h : bothOk b = true) {t : Nat} {x : Want} (hx : b.wants[t]? = some x) : wantS b t x = true := by
  simp only [bothOk, Bool.and_eq_true] at h
  have h3 := allAt_iff.1 h.2.2.1 t (List.getElem?_eq_some_iff.1 hx).1
  have hd : b.wants.getD t default = x := by rw [List.getD_eq_getElem?_getD, hx]; rfl
  rwa [hd, Nat.zero_add] at h3
theorem emb0123 (b : Nat) : emb [0, 1, 2, 3] 4 b = b := by
  unfold emb
  match b with
  | 0 => rfl
  | 1 => rfl
  | 2 => rfl
  | 3 => rfl
  | b + 4 => simp
theorem b_step (b : Bo) (t : Nat) (ht : t < b.wants.length) (ho : bothOk b = true) : Spec Try.prog 85 [.s (.ptr 0 0 0), .s (.int .i64 t)] (hp (some ⟨6, 30, [ownB b 1 2 3]⟩ :: blksB b)) fun v G => ∃ xs bs, xs.length = [0, 1, 2, 3].length ∧ StepR (stepB b t) v xs bs ∧ G = hp (xs ++ bs) := by
  have hb := bothOk_bt ho
  refine Spec.leave ?_
  have c1 : ∀ {v G} {b' : Bo}, stepB b t = b' → Sees 4 v G (.tup []) (some ⟨6, 30, [ownB b' 1 2 3]⟩ :: blksB b') → ∃ v' bs, Sees 4 v G v' bs ∧ ∃ xs bs_1, xs.length = [0, 1, 2, 3].length ∧ StepR (stepB b t) v' xs bs_1 ∧ hp bs = hp (xs ++ bs_1) := fun e h => by
    rw [e]
    exact ⟨_, _, h, _, _, rfl, ⟨rfl, .inl ⟨rfl, rfl⟩⟩, by rw [List.append_nil]⟩
  have c2 : ∀ {v G} {b' : Bo}, stepB b t = b' → Sees 4 v G (.tup []) [some ⟨6, 30, [ownB b' 1 2 4]⟩, some ⟨1, 3, ints b'.sn⟩, some ⟨8, 38, wants b'.wants⟩, none, some ⟨3, 36, evs b'.evs⟩] → ∃ v' bs, Sees 4 v G v' bs ∧ ∃ xs bs_1, xs.length = [0, 1, 2, 3].length ∧ StepR (stepB b t) v' xs bs_1 ∧ hp bs = hp (xs ++ bs_1) := fun e h => by
    rw [e]
    exact ⟨_, _, h, _, _, rfl, ⟨rfl, .inr ⟨rfl, rfl⟩⟩, rfl⟩
  refine spec_of_awp dS Try.func85 a85 (by simp [A85]) ?_
  have hl := hb.evs
  have hw := hb.wants
  have hsn := hb.sn
  have hh : headOk b = true := by simp only [bothOk, Bool.and_eq_true] at ho; exact ho.1
  have hh := headOk_iff.1 hh
  obtain ⟨x, hx⟩ : ∃ x, b.wants[t]? = some x := ⟨_, List.getElem?_eq_getElem ht⟩
  have hok := wantS_at ho hx
  rw [wantS_split] at hok
  simp only [Bool.and_eq_true, sm, decide_eq_true_eq] at hok
  obtain ⟨_, _, _, ⟨sw0, sw1⟩, ⟨ph0, ph1⟩, _, _, hwho, _⟩ := hok
  have hd : b.wants.getD t default = x := by rw [List.getD_eq_getElem?_getD, hx]; rfl
  have m1 : (b.evs.length + 1) * 24 ≤ 140737488355328 := by omega
  have m2 : b.evs.length + 1 ≤ maxLen := le_maxLen (by omega)
  have m3 : ¬ b.evs.length + 1 ≤ b.evs.length := by omega
  have tk : (evs b.evs).take b.evs.length = evs b.evs := List.take_of_length_le (by rw [evs_len]; exact Nat.le_refl _)
  have k0 : (0 : Int) ≤ (t : Int) := by omega
  have k1 : (t : Int) < (b.wants.length : Int) := by omega
  have w1 : IntKind.i64.wrap ((t : Int) + 1) = (t : Int) + 1 := wrap_id (by omega) (by omega)
  have w2 : IntKind.i64.wrap ((b.sn.length : Int) - 1) = (b.sn.length : Int) - 1 := wrap_id (by omega) (by omega)
  have hg := wants_get8 hx
  have hs : ∀ y : Want, (wants (b.wants.set t y))[t]? = some [.int .i64 y.if_, .int .i64 y.old, .int .i64 y.new, .int .i64 y.phase, .int .i64 y.who, .int .i64 y.saw, .int .i64 y.from_, .int .i64 y.got] := fun y => wants_get8 (List.getElem?_set_self ht)
  by_cases p0 : x.phase = 0
  · simp only [ne_eq, S1, S2, S3, S4, S5, S6, S7, S8, S9, S10, S11, S12, S13, guarded, opWp, onX, onO, onFn, chks, chkOne, xop, evf, fget, fput, fkeep, finit, aress, ares, abin, pickv, AV.cells, reduceCtorEq, reduceIte, Nat.reduceEqDiff, Nat.reduceAdd, bound, capsOf, Nat.reduceLeDiff, AHeap.cell, AHeap.row, AHeap.cells, AHeap.put, AHeap.has, afill, Nat.reduceLT, List.reduceReplicate, alen, afillRows, afresh, aappend, srcRows, Nat.reduceSub, Nat.reduceMul, ints_len, wants_len, evs_len, A85, ownB, blksB, k0, k1, hg, hs, w1, List.set_set, eq_true p0, wants_set8, List.length_set, List.drop_succ_cons, List.drop_zero, List.take_succ_cons, List.take_zero]
    refine c1 (b' := putW b t { x with phase := 1 }) (by unfold stepB; rw [hd]; simp only [if_pos p0]) ?_
    simp only [putW, ownB, blksB, List.length_set]
    exact ⟨[some (0), some (1), some (2), some (3)], [], (by repeat' (first | exact BlksLe.nil | refine BlksLe.cons ?_ ?_ | refine BlksLe.skip ?_ | exact BlkLe.ph | refine BlkLe.keep rfl rfl rfl ?_ | exact RowsLe.nil | exact RowsLe.same (ints_free _) | exact RowsLe.free (by simp [ints_len]) (ints_free _) | exact RowsLe.same (wants_free _) | exact RowsLe.free (by simp [wants_len]) (wants_free _) | exact RowsLe.same (evs_free _) | exact RowsLe.free (by simp [evs_len]) (evs_free _) | refine RowsLe.cons ?_ ?_ | exact FrLe.nil | refine FrLe.cons ?_ ?_ | exact AVLe.one AVLe0.no | refine AVLe.one (AVLe0.s ?_) | refine AVLe.one (AVLe0.agg ?_) | refine AVLe.tup ?_ | exact AVsLe0.nil | refine AVsLe0.cons ?_ ?_ | refine AVLe0.s ?_ | refine AVLe0.agg ?_ | exact SVsLe.nil | refine SVsLe.cons ?_ ?_ | exact Wk.free rfl | exact Wk.sl rfl (Nat.le_refl _) (Nat.le_refl _) | exact Wk.ptr rfl | exact Wk.nils rfl | exact Wk.emp rfl | exact Wk.lnils | exact Wk.lemp | exact Wk.frz (by simp) rfl rfl (by simp [ints_len]) (by simp [ints_len, List.take_of_length_le]) (ints_data _) | exact Wk.frz (by simp) rfl rfl (by simp [wants_len]) (by simp [wants_len, List.take_of_length_le]) (wants_data _) | exact Wk.frz (by simp) rfl rfl (by simp [evs_len]) (by simp [evs_len, List.take_of_length_le]) (evs_data _) | exact Wk.any)), (by simp), rfl, (by simp), (by simp), (by repeat' (first | exact BlksLe.nil | refine BlksLe.cons ?_ ?_ | refine BlksLe.skip ?_ | exact BlkLe.ph | refine BlkLe.keep rfl rfl rfl ?_ | exact RowsLe.nil | exact RowsLe.same (ints_free _) | exact RowsLe.free (by simp [ints_len]) (ints_free _) | exact RowsLe.same (wants_free _) | exact RowsLe.free (by simp [wants_len]) (wants_free _) | exact RowsLe.same (evs_free _) | exact RowsLe.free (by simp [evs_len]) (evs_free _) | refine RowsLe.cons ?_ ?_ | exact FrLe.nil | refine FrLe.cons ?_ ?_ | exact AVLe.one AVLe0.no | refine AVLe.one (AVLe0.s ?_) | refine AVLe.one (AVLe0.agg ?_) | refine AVLe.tup ?_ | exact AVsLe0.nil | refine AVsLe0.cons ?_ ?_ | refine AVLe0.s ?_ | refine AVLe0.agg ?_ | exact SVsLe.nil | refine SVsLe.cons ?_ ?_ | exact Wk.free rfl | exact Wk.sl rfl (Nat.le_refl _) (Nat.le_refl _) | exact Wk.ptr rfl | exact Wk.nils rfl | exact Wk.emp rfl | exact Wk.lnils | exact Wk.lemp | exact Wk.frz (by simp) rfl rfl (by simp [ints_len]) (by simp [ints_len, List.take_of_length_le]) (ints_data _) | exact Wk.frz (by simp) rfl rfl (by simp [wants_len]) (by simp [wants_len, List.take_of_length_le]) (wants_data _) | exact Wk.frz (by simp) rfl rfl (by simp [evs_len]) (by simp [evs_len, List.take_of_length_le]) (evs_data _) | exact Wk.any))⟩
  by_cases p1 : x.phase = 1
  · by_cases q0 : b.mark = 0
    · by_cases q1 : b.w = x.old
      · simp only [ne_eq, S1, S2, S3, S4, S5, S6, S7, S8, S9, S10, S11, S12, S13, guarded, opWp, onX, onO, onFn, chks, chkOne, xop, evf, fget, fput, fkeep, finit, aress, ares, abin, pickv, AV.cells, reduceCtorEq, reduceIte, Nat.reduceEqDiff, Nat.reduceAdd, bound, capsOf, Nat.reduceLeDiff, AHeap.cell, AHeap.row, AHeap.cells, AHeap.put, AHeap.has, afill, Nat.reduceLT, List.reduceReplicate, alen, afillRows, afresh, aappend, srcRows, Nat.reduceSub, Nat.reduceMul, ints_len, wants_len, evs_len, A85, ownB, blksB, k0, k1, hg, hs, w1, w2, List.set_set, p0, eq_true p1, eq_true q0, eq_true q1, not_true_eq_false, wants_set8, List.length_set, List.drop_succ_cons, List.drop_zero, List.take_succ_cons, List.take_zero]
        refine c1 (b' := { putW b t { x with phase := 2, from_ := (b.sn.length : Int) - 1 } with mark := (t : Int) + 1 }) (by unfold stepB; rw [hd]; simp only [if_neg p0, if_pos p1, if_neg (not_not_intro q0), if_pos q1]) ?_
        simp only [putW, ownB, blksB, List.length_set]
        exact ⟨[some (0), some (1), some (2), some (3)], [], (by repeat' (first | exact BlksLe.nil | refine BlksLe.cons ?_ ?_ | refine BlksLe.skip ?_ | exact BlkLe.ph | refine BlkLe.keep rfl rfl rfl ?_ | exact RowsLe.nil | exact RowsLe.same (ints_free _) | exact RowsLe.free (by simp [ints_len]) (ints_free _) | exact RowsLe.same (wants_free _) | exact RowsLe.free (by simp [wants_len]) (wants_free _) | exact RowsLe.same (evs_free _) | exact RowsLe.free (by simp [evs_len]) (evs_free _) | refine RowsLe.cons ?_ ?_ | exact FrLe.nil | refine FrLe.cons ?_ ?_ | exact AVLe.one AVLe0.no | refine AVLe.one (AVLe0.s ?_) | refine AVLe.one (AVLe0.agg ?_) | refine AVLe.tup ?_ | exact AVsLe0.nil | refine AVsLe0.cons ?_ ?_ | refine AVLe0.s ?_ | refine AVLe0.agg ?_ | exact SVsLe.nil | refine SVsLe.cons ?_ ?_ | exact Wk.free rfl | exact Wk.sl rfl (Nat.le_refl _) (Nat.le_refl _) | exact Wk.ptr rfl | exact Wk.nils rfl | exact Wk.emp rfl | exact Wk.lnils | exact Wk.lemp | exact Wk.frz (by simp) rfl rfl (by simp [ints_len]) (by simp [ints_len, List.take_of_length_le]) (ints_data _) | exact Wk.frz (by simp) rfl rfl (by simp [wants_len]) (by simp [wants_len, List.take_of_length_le]) (wants_data _) | exact Wk.frz (by simp) rfl rfl (by simp [evs_len]) (by simp [evs_len, List.take_of_length_le]) (evs_data _) | exact Wk.any)), (by simp), rfl, (by simp), (by simp), (by repeat' (first | exact BlksLe.nil | refine BlksLe.cons ?_ ?_ | refine BlksLe.skip ?_ | exact BlkLe.ph | refine BlkLe.keep rfl rfl rfl ?_ | exact RowsLe.nil | exact RowsLe.same (ints_free _) | exact RowsLe.free (by simp [ints_len]) (ints_free _) | exact RowsLe.same (wants_free _) | exact RowsLe.free (by simp [wants_len]) (wants_free _) | exact RowsLe.same (evs_free _) | exact RowsLe.free (by simp [evs_len]) (evs_free _) | refine RowsLe.cons ?_ ?_ | exact FrLe.nil | refine FrLe.cons ?_ ?_ | exact AVLe.one AVLe0.no | refine AVLe.one (AVLe0.s ?_) | refine AVLe.one (AVLe0.agg ?_) | refine AVLe.tup ?_ | exact AVsLe0.nil | refine AVsLe0.cons ?_ ?_ | refine AVLe0.s ?_ | refine AVLe0.agg ?_ | exact SVsLe.nil | refine SVsLe.cons ?_ ?_ | exact Wk.free rfl | exact Wk.sl rfl (Nat.le_refl _) (Nat.le_refl _) | exact Wk.ptr rfl | exact Wk.nils rfl | exact Wk.emp rfl | exact Wk.lnils | exact Wk.lemp | exact Wk.frz (by simp) rfl rfl (by simp [ints_len]) (by simp [ints_len, List.take_of_length_le]) (ints_data _) | exact Wk.frz (by simp) rfl rfl (by simp [wants_len]) (by simp [wants_len, List.take_of_length_le]) (wants_data _) | exact Wk.frz (by simp) rfl rfl (by simp [evs_len]) (by simp [evs_len, List.take_of_length_le]) (evs_data _) | exact Wk.any))⟩
      · simp only [ne_eq, S1, S2, S3, S4, S5, S6, S7, S8, S9, S10, S11, S12, S13, guarded, opWp, onX, onO, onFn, chks, chkOne, xop, evf, fget, fput, fkeep, finit, aress, ares, abin, pickv, AV.cells, reduceCtorEq, reduceIte, Nat.reduceEqDiff, Nat.reduceAdd, bound, capsOf, Nat.reduceLeDiff, AHeap.cell, AHeap.row, AHeap.cells, AHeap.put, AHeap.has, afill, Nat.reduceLT, List.reduceReplicate, alen, afillRows, afresh, aappend, srcRows, Nat.reduceSub, Nat.reduceMul, ints_len, wants_len, evs_len, A85, ownB, blksB, k0, k1, hg, hs, w1, w2, List.set_set, p0, eq_true p1, eq_true q0, q1, not_true_eq_false, m1, m2, m3, tk, evs_snoc3, wants_set8, List.length_set, List.drop_succ_cons, List.drop_zero, List.take_succ_cons, List.take_zero]
        refine c2 (b' := { putW b t { x with phase := 4, got := 1 } with evs := b.evs ++ [⟨t, false, 0⟩] }) (by unfold stepB; rw [hd]; simp only [if_neg p0, if_pos p1, if_neg (not_not_intro q0), if_neg q1]) ?_
        simp only [putW, ownB, blksB, List.length_set, List.length_append, List.length_singleton]
        exact ⟨[some (0), some (1), some (2), some (3), some (5)], [], (by repeat' (first | exact BlksLe.nil | refine BlksLe.cons ?_ ?_ | refine BlksLe.skip ?_ | exact BlkLe.ph | refine BlkLe.keep rfl rfl rfl ?_ | exact RowsLe.nil | exact RowsLe.same (ints_free _) | exact RowsLe.free (by simp [ints_len]) (ints_free _) | exact RowsLe.same (wants_free _) | exact RowsLe.free (by simp [wants_len]) (wants_free _) | exact RowsLe.same (evs_free _) | exact RowsLe.free (by simp [evs_len]) (evs_free _) | refine RowsLe.cons ?_ ?_ | exact FrLe.nil | refine FrLe.cons ?_ ?_ | exact AVLe.one AVLe0.no | refine AVLe.one (AVLe0.s ?_) | refine AVLe.one (AVLe0.agg ?_) | refine AVLe.tup ?_ | exact AVsLe0.nil | refine AVsLe0.cons ?_ ?_ | refine AVLe0.s ?_ | refine AVLe0.agg ?_ | exact SVsLe.nil | refine SVsLe.cons ?_ ?_ | exact Wk.free rfl | exact Wk.sl rfl (Nat.le_refl _) (Nat.le_refl _) | exact Wk.ptr rfl | exact Wk.nils rfl | exact Wk.emp rfl | exact Wk.lnils | exact Wk.lemp | exact Wk.frz (by simp) rfl rfl (by simp [ints_len]) (by simp [ints_len, List.take_of_length_le]) (ints_data _) | exact Wk.frz (by simp) rfl rfl (by simp [wants_len]) (by simp [wants_len, List.take_of_length_le]) (wants_data _) | exact Wk.frz (by simp) rfl rfl (by simp [evs_len]) (by simp [evs_len, List.take_of_length_le]) (evs_data _) | exact Wk.any)), (by simp), rfl, (by simp), (by simp), (by repeat' (first | exact BlksLe.nil | refine BlksLe.cons ?_ ?_ | refine BlksLe.skip ?_ | exact BlkLe.ph | refine BlkLe.keep rfl rfl rfl ?_ | exact RowsLe.nil | exact RowsLe.same (ints_free _) | exact RowsLe.free (by simp [ints_len]) (ints_free _) | exact RowsLe.same (wants_free _) | exact RowsLe.free (by simp [wants_len]) (wants_free _) | exact RowsLe.same (evs_free _) | exact RowsLe.free (by simp [evs_len]) (evs_free _) | refine RowsLe.cons ?_ ?_ | exact FrLe.nil | refine FrLe.cons ?_ ?_ | exact AVLe.one AVLe0.no | refine AVLe.one (AVLe0.s ?_) | refine AVLe.one (AVLe0.agg ?_) | refine AVLe.tup ?_ | exact AVsLe0.nil | refine AVsLe0.cons ?_ ?_ | refine AVLe0.s ?_ | refine AVLe0.agg ?_ | exact SVsLe.nil | refine SVsLe.cons ?_ ?_ | exact Wk.free rfl | exact Wk.sl rfl (Nat.le_refl _) (Nat.le_refl _) | exact Wk.ptr rfl | exact Wk.nils rfl | exact Wk.emp rfl | exact Wk.lnils | exact Wk.lemp | exact Wk.frz (by simp) rfl rfl (by simp [ints_len]) (by simp [ints_len, List.take_of_length_le]) (ints_data _) | exact Wk.frz (by simp) rfl rfl (by simp [wants_len]) (by simp [wants_len, List.take_of_length_le]) (wants_data _) | exact Wk.frz (by simp) rfl rfl (by simp [evs_len]) (by simp [evs_len, List.take_of_length_le]) (evs_data _) | exact Wk.any))⟩
    · simp only [ne_eq, S1, S2, S3, S4, S5, S6, S7, S8, S9, S10, S11, S12, S13, guarded, opWp, onX, onO, onFn, chks, chkOne, xop, evf, fget, fput, fkeep, finit, aress, ares, abin, pickv, AV.cells, reduceCtorEq, reduceIte, Nat.reduceEqDiff, Nat.reduceAdd, bound, capsOf, Nat.reduceLeDiff, AHeap.cell, AHeap.row, AHeap.cells, AHeap.put, AHeap.has, afill, Nat.reduceLT, List.reduceReplicate, alen, afillRows, afresh, aappend, srcRows, Nat.reduceSub, Nat.reduceMul, ints_len, wants_len, evs_len, A85, ownB, blksB, k0, k1, hg, hs, w1, w2, List.set_set, p0, eq_true p1, q0, not_false_eq_true, wants_set8, List.length_set, List.drop_succ_cons, List.drop_zero, List.take_succ_cons, List.take_zero]
      refine c1 (b' := putW b t { x with phase := 5, who := b.mark }) (by unfold stepB; rw [hd]; simp only [if_neg p0, if_pos p1, if_pos q0]) ?_
      simp only [putW, ownB, blksB, List.length_set]
      exact ⟨[some (0), some (1), some (2), some (3)], [], (by repeat' (first | exact BlksLe.nil | refine BlksLe.cons ?_ ?_ | refine BlksLe.skip ?_ | exact BlkLe.ph | refine BlkLe.keep rfl rfl rfl ?_ | exact RowsLe.nil | exact RowsLe.same (ints_free _) | exact RowsLe.free (by simp [ints_len]) (ints_free _) | exact RowsLe.same (wants_free _) | exact RowsLe.free (by simp [wants_len]) (wants_free _) | exact RowsLe.same (evs_free _) | exact RowsLe.free (by simp [evs_len]) (evs_free _) | refine RowsLe.cons ?_ ?_ | exact FrLe.nil | refine FrLe.cons ?_ ?_ | exact AVLe.one AVLe0.no | refine AVLe.one (AVLe0.s ?_) | refine AVLe.one (AVLe0.agg ?_) | refine AVLe.tup ?_ | exact AVsLe0.nil | refine AVsLe0.cons ?_ ?_ | refine AVLe0.s ?_ | refine AVLe0.agg ?_ | exact SVsLe.nil | refine SVsLe.cons ?_ ?_ | exact Wk.free rfl | exact Wk.sl rfl (Nat.le_refl _) (Nat.le_refl _) | exact Wk.ptr rfl | exact Wk.nils rfl | exact Wk.emp rfl | exact Wk.lnils | exact Wk.lemp | exact Wk.frz (by simp) rfl rfl (by simp [ints_len]) (by simp [ints_len, List.take_of_length_le]) (ints_data _) | exact Wk.frz (by simp) rfl rfl (by simp [wants_len]) (by simp [wants_len, List.take_of_length_le]) (wants_data _) | exact Wk.frz (by simp) rfl rfl (by simp [evs_len]) (by simp [evs_len, List.take_of_length_le]) (evs_data _) | exact Wk.any)), (by simp), rfl, (by simp), (by simp), (by repeat' (first | exact BlksLe.nil | refine BlksLe.cons ?_ ?_ | refine BlksLe.skip ?_ | exact BlkLe.ph | refine BlkLe.keep rfl rfl rfl ?_ | exact RowsLe.nil | exact RowsLe.same (ints_free _) | exact RowsLe.free (by simp [ints_len]) (ints_free _) | exact RowsLe.same (wants_free _) | exact RowsLe.free (by simp [wants_len]) (wants_free _) | exact RowsLe.same (evs_free _) | exact RowsLe.free (by simp [evs_len]) (evs_free _) | refine RowsLe.cons ?_ ?_ | exact FrLe.nil | refine FrLe.cons ?_ ?_ | exact AVLe.one AVLe0.no | refine AVLe.one (AVLe0.s ?_) | refine AVLe.one (AVLe0.agg ?_) | refine AVLe.tup ?_ | exact AVsLe0.nil | refine AVsLe0.cons ?_ ?_ | refine AVLe0.s ?_ | refine AVLe0.agg ?_ | exact SVsLe.nil | refine SVsLe.cons ?_ ?_ | exact Wk.free rfl | exact Wk.sl rfl (Nat.le_refl _) (Nat.le_refl _) | exact Wk.ptr rfl | exact Wk.nils rfl | exact Wk.emp rfl | exact Wk.lnils | exact Wk.lemp | exact Wk.frz (by simp) rfl rfl (by simp [ints_len]) (by simp [ints_len, List.take_of_length_le]) (ints_data _) | exact Wk.frz (by simp) rfl rfl (by simp [wants_len]) (by simp [wants_len, List.take_of_length_le]) (wants_data _) | exact Wk.frz (by simp) rfl rfl (by simp [evs_len]) (by simp [evs_len, List.take_of_length_le]) (evs_data _) | exact Wk.any))⟩
  have s0 : (0 : Int) ≤ (b.sn.length : Int) - 1 := by omega
  have s1 : (b.sn.length : Int) - 1 < (b.sn.length : Int) := by omega
  have s2 : ((b.sn.length : Int) - 1).toNat = b.sn.length - 1 := by omega
  have hlast : b.sn.getD (b.sn.length - 1) 0 = b.sn[b.sn.length - 1]'(by omega) := by rw [List.getD_eq_getElem?_getD, List.getElem?_eq_getElem (by omega)]; rfl
  have hgl := ints_get (show b.sn.length - 1 < b.sn.length by omega)
  rw [← hlast] at hgl
  have w3 : IntKind.i64.wrap (x.phase + 1) = x.phase + 1 := wrap_id (by omega) (by omega)
  have close25 : x.phase = 2 ∨ x.phase = 5 → stepB b t = putW b t { x with saw := b.sn.getD (b.sn.length - 1) 0, phase := x.phase + 1 } := fun p => by
    unfold stepB
    rw [hd]
    simp only [if_neg p0, if_neg p1, if_pos p]
  by_cases p2 : x.phase = 2
  · simp only [ne_eq, S1, S2, S3, S4, S5, S6, S7, S8, S9, S10, S11, S12, S13, guarded, opWp, onX, onO, onFn, chks, chkOne, xop, evf, fget, fput, fkeep, finit, aress, ares, abin, pickv, AV.cells, reduceCtorEq, reduceIte, Nat.reduceEqDiff, Nat.reduceAdd, bound, capsOf, Nat.reduceLeDiff, AHeap.cell, AHeap.row, AHeap.cells, AHeap.put, AHeap.has, afill, Nat.reduceLT, List.reduceReplicate, alen, afillRows, afresh, aappend, srcRows, Nat.reduceSub, Nat.reduceMul, ints_len, wants_len, evs_len, A85, ownB, blksB, k0, k1, hg, hs, w1, w2, w3, List.set_set, p0, p1, eq_true p2, s0, s1, s2, hgl, wants_set8, List.length_set, List.drop_succ_cons, List.drop_zero, List.take_succ_cons, List.take_zero]
    refine c1 (close25 (.inl p2)) ?_
    simp only [putW, ownB, blksB, List.length_set]
    exact ⟨[some (0), some (1), some (2), some (3)], [], (by repeat' (first | exact BlksLe.nil | refine BlksLe.cons ?_ ?_ | refine BlksLe.skip ?_ | exact BlkLe.ph | refine BlkLe.keep rfl rfl rfl ?_ | exact RowsLe.nil | exact RowsLe.same (ints_free _) | exact RowsLe.free (by simp [ints_len]) (ints_free _) | exact RowsLe.same (wants_free _) | exact RowsLe.free (by simp [wants_len]) (wants_free _) | exact RowsLe.same (evs_free _) | exact RowsLe.free (by simp [evs_len]) (evs_free _) | refine RowsLe.cons ?_ ?_ | exact FrLe.nil | refine FrLe.cons ?_ ?_ | exact AVLe.one AVLe0.no | refine AVLe.one (AVLe0.s ?_) | refine AVLe.one (AVLe0.agg ?_) | refine AVLe.tup ?_ | exact AVsLe0.nil | refine AVsLe0.cons ?_ ?_ | refine AVLe0.s ?_ | refine AVLe0.agg ?_ | exact SVsLe.nil | refine SVsLe.cons ?_ ?_ | exact Wk.free rfl | exact Wk.sl rfl (Nat.le_refl _) (Nat.le_refl _) | exact Wk.ptr rfl | exact Wk.nils rfl | exact Wk.emp rfl | exact Wk.lnils | exact Wk.lemp | exact Wk.frz (by simp) rfl rfl (by simp [ints_len]) (by simp [ints_len, List.take_of_length_le]) (ints_data _) | exact Wk.frz (by simp) rfl rfl (by simp [wants_len]) (by simp [wants_len, List.take_of_length_le]) (wants_data _) | exact Wk.frz (by simp) rfl rfl (by simp [evs_len]) (by simp [evs_len, List.take_of_length_le]) (evs_data _) | exact Wk.any)), (by simp), rfl, (by simp), (by simp), (by repeat' (first | exact BlksLe.nil | refine BlksLe.cons ?_ ?_ | refine BlksLe.skip ?_ | exact BlkLe.ph | refine BlkLe.keep rfl rfl rfl ?_ | exact RowsLe.nil | exact RowsLe.same (ints_free _) | exact RowsLe.free (by simp [ints_len]) (ints_free _) | exact RowsLe.same (wants_free _) | exact RowsLe.free (by simp [wants_len]) (wants_free _) | exact RowsLe.same (evs_free _) | exact RowsLe.free (by simp [evs_len]) (evs_free _) | refine RowsLe.cons ?_ ?_ | exact FrLe.nil | refine FrLe.cons ?_ ?_ | exact AVLe.one AVLe0.no | refine AVLe.one (AVLe0.s ?_) | refine AVLe.one (AVLe0.agg ?_) | refine AVLe.tup ?_ | exact AVsLe0.nil | refine AVsLe0.cons ?_ ?_ | refine AVLe0.s ?_ | refine AVLe0.agg ?_ | exact SVsLe.nil | refine SVsLe.cons ?_ ?_ | exact Wk.free rfl | exact Wk.sl rfl (Nat.le_refl _) (Nat.le_refl _) | exact Wk.ptr rfl | exact Wk.nils rfl | exact Wk.emp rfl | exact Wk.lnils | exact Wk.lemp | exact Wk.frz (by simp) rfl rfl (by simp [ints_len]) (by simp [ints_len, List.take_of_length_le]) (ints_data _) | exact Wk.frz (by simp) rfl rfl (by simp [wants_len]) (by simp [wants_len, List.take_of_length_le]) (wants_data _) | exact Wk.frz (by simp) rfl rfl (by simp [evs_len]) (by simp [evs_len, List.take_of_length_le]) (evs_data _) | exact Wk.any))⟩
  by_cases p5 : x.phase = 5
  · simp only [ne_eq, S1, S2, S3, S4, S5, S6, S7, S8, S9, S10, S11, S12, S13, guarded, opWp, onX, onO, onFn, chks, chkOne, xop, evf, fget, fput, fkeep, finit, aress, ares, abin, pickv, AV.cells, reduceCtorEq, reduceIte, Nat.reduceEqDiff, Nat.reduceAdd, bound, capsOf, Nat.reduceLeDiff, AHeap.cell, AHeap.row, AHeap.cells, AHeap.put, AHeap.has, afill, Nat.reduceLT, List.reduceReplicate, alen, afillRows, afresh, aappend, srcRows, Nat.reduceSub, Nat.reduceMul, ints_len, wants_len, evs_len, A85, ownB, blksB, k0, k1, hg, hs, w1, w2, w3, List.set_set, p0, p1, p2, eq_true p5, s0, s1, s2, hgl, wants_set8, List.length_set, List.drop_succ_cons, List.drop_zero, List.take_succ_cons, List.take_zero]
    refine c1 (close25 (.inr p5)) ?_
    simp only [putW, ownB, blksB, List.length_set]
    exact ⟨[some (0), some (1), some (2), some (3)], [], (by repeat' (first | exact BlksLe.nil | refine BlksLe.cons ?_ ?_ | refine BlksLe.skip ?_ | exact BlkLe.ph | refine BlkLe.keep rfl rfl rfl ?_ | exact RowsLe.nil | exact RowsLe.same (ints_free _) | exact RowsLe.free (by simp [ints_len]) (ints_free _) | exact RowsLe.same (wants_free _) | exact RowsLe.free (by simp [wants_len]) (wants_free _) | exact RowsLe.same (evs_free _) | exact RowsLe.free (by simp [evs_len]) (evs_free _) | refine RowsLe.cons ?_ ?_ | exact FrLe.nil | refine FrLe.cons ?_ ?_ | exact AVLe.one AVLe0.no | refine AVLe.one (AVLe0.s ?_) | refine AVLe.one (AVLe0.agg ?_) | refine AVLe.tup ?_ | exact AVsLe0.nil | refine AVsLe0.cons ?_ ?_ | refine AVLe0.s ?_ | refine AVLe0.agg ?_ | exact SVsLe.nil | refine SVsLe.cons ?_ ?_ | exact Wk.free rfl | exact Wk.sl rfl (Nat.le_refl _) (Nat.le_refl _) | exact Wk.ptr rfl | exact Wk.nils rfl | exact Wk.emp rfl | exact Wk.lnils | exact Wk.lemp | exact Wk.frz (by simp) rfl rfl (by simp [ints_len]) (by simp [ints_len, List.take_of_length_le]) (ints_data _) | exact Wk.frz (by simp) rfl rfl (by simp [wants_len]) (by simp [wants_len, List.take_of_length_le]) (wants_data _) | exact Wk.frz (by simp) rfl rfl (by simp [evs_len]) (by simp [evs_len, List.take_of_length_le]) (evs_data _) | exact Wk.any)), (by simp), rfl, (by simp), (by simp), (by repeat' (first | exact BlksLe.nil | refine BlksLe.cons ?_ ?_ | refine BlksLe.skip ?_ | exact BlkLe.ph | refine BlkLe.keep rfl rfl rfl ?_ | exact RowsLe.nil | exact RowsLe.same (ints_free _) | exact RowsLe.free (by simp [ints_len]) (ints_free _) | exact RowsLe.same (wants_free _) | exact RowsLe.free (by simp [wants_len]) (wants_free _) | exact RowsLe.same (evs_free _) | exact RowsLe.free (by simp [evs_len]) (evs_free _) | refine RowsLe.cons ?_ ?_ | exact FrLe.nil | refine FrLe.cons ?_ ?_ | exact AVLe.one AVLe0.no | refine AVLe.one (AVLe0.s ?_) | refine AVLe.one (AVLe0.agg ?_) | refine AVLe.tup ?_ | exact AVsLe0.nil | refine AVsLe0.cons ?_ ?_ | refine AVLe0.s ?_ | refine AVLe0.agg ?_ | exact SVsLe.nil | refine SVsLe.cons ?_ ?_ | exact Wk.free rfl | exact Wk.sl rfl (Nat.le_refl _) (Nat.le_refl _) | exact Wk.ptr rfl | exact Wk.nils rfl | exact Wk.emp rfl | exact Wk.lnils | exact Wk.lemp | exact Wk.frz (by simp) rfl rfl (by simp [ints_len]) (by simp [ints_len, List.take_of_length_le]) (ints_data _) | exact Wk.frz (by simp) rfl rfl (by simp [wants_len]) (by simp [wants_len, List.take_of_length_le]) (wants_data _) | exact Wk.frz (by simp) rfl rfl (by simp [evs_len]) (by simp [evs_len, List.take_of_length_le]) (evs_data _) | exact Wk.any))⟩
  have p25 : ¬ (x.phase = 2 ∨ x.phase = 5) := by omega
  by_cases p3 : x.phase = 3
  · by_cases q : b.mark = (t : Int) + 1
    · simp only [ne_eq, S1, S2, S3, S4, S5, S6, S7, S8, S9, S10, S11, S12, S13, guarded, opWp, onX, onO, onFn, chks, chkOne, xop, evf, fget, fput, fkeep, finit, aress, ares, abin, pickv, AV.cells, reduceCtorEq, reduceIte, Nat.reduceEqDiff, Nat.reduceAdd, bound, capsOf, Nat.reduceLeDiff, AHeap.cell, AHeap.row, AHeap.cells, AHeap.put, AHeap.has, afill, Nat.reduceLT, List.reduceReplicate, alen, afillRows, afresh, aappend, srcRows, Nat.reduceSub, Nat.reduceMul, ints_len, wants_len, evs_len, A85, ownB, blksB, k0, k1, hg, hs, w1, w2, w3, List.set_set, p0, p1, p2, p5, eq_true p3, eq_true q, wants_set8, List.length_set, List.drop_succ_cons, List.drop_zero, List.take_succ_cons, List.take_zero]
      refine Spec.fr [0, 1, 2, 3] (b_take b t x.saw ht q hb) (.cons rfl (.cons (by simp [Blk.ren, ints_ren]) (.cons (by simp [Blk.ren, wants_ren]) (.cons (by simp [Blk.ren, evs_ren]) .nil)))) (by decide) rfl rfl ?_
      obtain ⟨w', g, y, e⟩ := takeB_ex b t x.saw hx
      rw [e]
      simp only [AV.ren, AV.ren0, SV.ren, wr, List.map_cons, List.map_nil, Option.map_some, Option.map_none, Blk.ren, List.set_cons_zero, List.set_cons_succ, ints_ren, wants_ren, evs_ren, ownB, List.length_append, List.length_cons, List.length_nil, List.length_singleton, List.length_set, Nat.reduceAdd, Nat.zero_add, emb0123, List.append_nil]
      simp only [ne_eq, S1, S2, S3, S4, S5, S6, S7, S8, S9, S10, S11, S12, S13, guarded, opWp, onX, onO, onFn, chks, chkOne, xop, evf, fget, fput, fkeep, finit, aress, ares, abin, pickv, AV.cells, reduceCtorEq, reduceIte, Nat.reduceEqDiff, Nat.reduceAdd, bound, capsOf, Nat.reduceLeDiff, AHeap.cell, AHeap.row, AHeap.cells, AHeap.put, AHeap.has, afill, Nat.reduceLT, List.reduceReplicate, alen, afillRows, afresh, aappend, srcRows, Nat.reduceSub, Nat.reduceMul, ints_len, wants_len, evs_len, k0, k1, hg, hs, w1, w2, w3, List.set_set, wants_set8, List.length_set, List.drop_succ_cons, List.drop_zero, List.take_succ_cons, List.take_zero]
      refine c2 (b' := putW (takeB b t x.saw) t { (takeB b t x.saw).wants.getD t default with phase := 4, who := 0, saw := 0 }) (by unfold stepB; rw [hd]; simp only [if_neg p0, if_neg p1, if_neg p25, if_pos p3, if_pos q]) ?_
      rw [e]
      simp only [putW, ownB, List.length_set, List.length_append, List.length_singleton, List.set_set, List.getD_eq_getElem?_getD, List.getElem?_set_self ht, Option.getD_some]
      exact ⟨[some (0), some (1), some (2), some (3), some (4)], [], (by repeat' (first | exact BlksLe.nil | refine BlksLe.cons ?_ ?_ | refine BlksLe.skip ?_ | exact BlkLe.ph | refine BlkLe.keep rfl rfl rfl ?_ | exact RowsLe.nil | exact RowsLe.same (ints_free _) | exact RowsLe.free (by simp [ints_len]) (ints_free _) | exact RowsLe.same (wants_free _) | exact RowsLe.free (by simp [wants_len]) (wants_free _) | exact RowsLe.same (evs_free _) | exact RowsLe.free (by simp [evs_len]) (evs_free _) | refine RowsLe.cons ?_ ?_ | exact FrLe.nil | refine FrLe.cons ?_ ?_ | exact AVLe.one AVLe0.no | refine AVLe.one (AVLe0.s ?_) | refine AVLe.one (AVLe0.agg ?_) | refine AVLe.tup ?_ | exact AVsLe0.nil | refine AVsLe0.cons ?_ ?_ | refine AVLe0.s ?_ | refine AVLe0.agg ?_ | exact SVsLe.nil | refine SVsLe.cons ?_ ?_ | exact Wk.free rfl | exact Wk.sl rfl (Nat.le_refl _) (Nat.le_refl _) | exact Wk.ptr rfl | exact Wk.nils rfl | exact Wk.emp rfl | exact Wk.lnils | exact Wk.lemp | exact Wk.frz (by simp) rfl rfl (by simp [ints_len]) (by simp [ints_len, List.take_of_length_le]) (ints_data _) | exact Wk.frz (by simp) rfl rfl (by simp [wants_len]) (by simp [wants_len, List.take_of_length_le]) (wants_data _) | exact Wk.frz (by simp) rfl rfl (by simp [evs_len]) (by simp [evs_len, List.take_of_length_le]) (evs_data _) | exact Wk.any)), (by simp), rfl, (by simp), (by simp), (by repeat' (first | exact BlksLe.nil | refine BlksLe.cons ?_ ?_ | refine BlksLe.skip ?_ | exact BlkLe.ph | refine BlkLe.keep rfl rfl rfl ?_ | exact RowsLe.nil | exact RowsLe.same (ints_free _) | exact RowsLe.free (by simp [ints_len]) (ints_free _) | exact RowsLe.same (wants_free _) | exact RowsLe.free (by simp [wants_len]) (wants_free _) | exact RowsLe.same (evs_free _) | exact RowsLe.free (by simp [evs_len]) (evs_free _) | refine RowsLe.cons ?_ ?_ | exact FrLe.nil | refine FrLe.cons ?_ ?_ | exact AVLe.one AVLe0.no | refine AVLe.one (AVLe0.s ?_) | refine AVLe.one (AVLe0.agg ?_) | refine AVLe.tup ?_ | exact AVsLe0.nil | refine AVsLe0.cons ?_ ?_ | refine AVLe0.s ?_ | refine AVLe0.agg ?_ | exact SVsLe.nil | refine SVsLe.cons ?_ ?_ | exact Wk.free rfl | exact Wk.sl rfl (Nat.le_refl _) (Nat.le_refl _) | exact Wk.ptr rfl | exact Wk.nils rfl | exact Wk.emp rfl | exact Wk.lnils | exact Wk.lemp | exact Wk.frz (by simp) rfl rfl (by simp [ints_len]) (by simp [ints_len, List.take_of_length_le]) (ints_data _) | exact Wk.frz (by simp) rfl rfl (by simp [wants_len]) (by simp [wants_len, List.take_of_length_le]) (wants_data _) | exact Wk.frz (by simp) rfl rfl (by simp [evs_len]) (by simp [evs_len, List.take_of_length_le]) (evs_data _) | exact Wk.any))⟩
    · simp only [ne_eq, S1, S2, S3, S4, S5, S6, S7, S8, S9, S10, S11, S12, S13, guarded, opWp, onX, onO, onFn, chks, chkOne, xop, evf, fget, fput, fkeep, finit, aress, ares, abin, pickv, AV.cells, reduceCtorEq, reduceIte, Nat.reduceEqDiff, Nat.reduceAdd, bound, capsOf, Nat.reduceLeDiff, AHeap.cell, AHeap.row, AHeap.cells, AHeap.put, AHeap.has, afill, Nat.reduceLT, List.reduceReplicate, alen, afillRows, afresh, aappend, srcRows, Nat.reduceSub, Nat.reduceMul, ints_len, wants_len, evs_len, A85, ownB, blksB, k0, k1, hg, hs, w1, w2, w3, List.set_set, p0, p1, p2, p5, eq_true p3, q, wants_set8, List.length_set, List.drop_succ_cons, List.drop_zero, List.take_succ_cons, List.take_zero]
      refine c1 (b' := putW b t { x with phase := 4, who := 0, saw := 0 }) (by unfold stepB; rw [hd]; simp only [if_neg p0, if_neg p1, if_neg p25, if_pos p3, if_neg q]; rw [hd]) ?_
      simp only [putW, ownB, blksB, List.length_set]
      exact ⟨[some (0), some (1), some (2), some (3)], [], (by repeat' (first | exact BlksLe.nil | refine BlksLe.cons ?_ ?_ | refine BlksLe.skip ?_ | exact BlkLe.ph | refine BlkLe.keep rfl rfl rfl ?_ | exact RowsLe.nil | exact RowsLe.same (ints_free _) | exact RowsLe.free (by simp [ints_len]) (ints_free _) | exact RowsLe.same (wants_free _) | exact RowsLe.free (by simp [wants_len]) (wants_free _) | exact RowsLe.same (evs_free _) | exact RowsLe.free (by simp [evs_len]) (evs_free _) | refine RowsLe.cons ?_ ?_ | exact FrLe.nil | refine FrLe.cons ?_ ?_ | exact AVLe.one AVLe0.no | refine AVLe.one (AVLe0.s ?_) | refine AVLe.one (AVLe0.agg ?_) | refine AVLe.tup ?_ | exact AVsLe0.nil | refine AVsLe0.cons ?_ ?_ | refine AVLe0.s ?_ | refine AVLe0.agg ?_ | exact SVsLe.nil | refine SVsLe.cons ?_ ?_ | exact Wk.free rfl | exact Wk.sl rfl (Nat.le_refl _) (Nat.le_refl _) | exact Wk.ptr rfl | exact Wk.nils rfl | exact Wk.emp rfl | exact Wk.lnils | exact Wk.lemp | exact Wk.frz (by simp) rfl rfl (by simp [ints_len]) (by simp [ints_len, List.take_of_length_le]) (ints_data _) | exact Wk.frz (by simp) rfl rfl (by simp [wants_len]) (by simp [wants_len, List.take_of_length_le]) (wants_data _) | exact Wk.frz (by simp) rfl rfl (by simp [evs_len]) (by simp [evs_len, List.take_of_length_le]) (evs_data _) | exact Wk.any)), (by simp), rfl, (by simp), (by simp), (by repeat' (first | exact BlksLe.nil | refine BlksLe.cons ?_ ?_ | refine BlksLe.skip ?_ | exact BlkLe.ph | refine BlkLe.keep rfl rfl rfl ?_ | exact RowsLe.nil | exact RowsLe.same (ints_free _) | exact RowsLe.free (by simp [ints_len]) (ints_free _) | exact RowsLe.same (wants_free _) | exact RowsLe.free (by simp [wants_len]) (wants_free _) | exact RowsLe.same (evs_free _) | exact RowsLe.free (by simp [evs_len]) (evs_free _) | refine RowsLe.cons ?_ ?_ | exact FrLe.nil | refine FrLe.cons ?_ ?_ | exact AVLe.one AVLe0.no | refine AVLe.one (AVLe0.s ?_) | refine AVLe.one (AVLe0.agg ?_) | refine AVLe.tup ?_ | exact AVsLe0.nil | refine AVsLe0.cons ?_ ?_ | refine AVLe0.s ?_ | refine AVLe0.agg ?_ | exact SVsLe.nil | refine SVsLe.cons ?_ ?_ | exact Wk.free rfl | exact Wk.sl rfl (Nat.le_refl _) (Nat.le_refl _) | exact Wk.ptr rfl | exact Wk.nils rfl | exact Wk.emp rfl | exact Wk.lnils | exact Wk.lemp | exact Wk.frz (by simp) rfl rfl (by simp [ints_len]) (by simp [ints_len, List.take_of_length_le]) (ints_data _) | exact Wk.frz (by simp) rfl rfl (by simp [wants_len]) (by simp [wants_len, List.take_of_length_le]) (wants_data _) | exact Wk.frz (by simp) rfl rfl (by simp [evs_len]) (by simp [evs_len, List.take_of_length_le]) (evs_data _) | exact Wk.any))⟩
  by_cases p6 : x.phase = 6
  · by_cases q : b.mark = x.who
    · have hw1 : 1 ≤ x.who ∧ x.who ≤ (b.wants.length : Int) := by
        have := hwho
        rw [decide_eq_true (show 5 ≤ x.phase by omega)] at this
        simpa using this
      have hk : (x.who - 1).toNat < b.wants.length := by omega
      have hkm : b.mark = ((x.who - 1).toNat : Int) + 1 := by omega
      simp only [ne_eq, S1, S2, S3, S4, S5, S6, S7, S8, S9, S10, S11, S12, S13, guarded, opWp, onX, onO, onFn, chks, chkOne, xop, evf, fget, fput, fkeep, finit, aress, ares, abin, pickv, AV.cells, reduceCtorEq, reduceIte, Nat.reduceEqDiff, Nat.reduceAdd, bound, capsOf, Nat.reduceLeDiff, AHeap.cell, AHeap.row, AHeap.cells, AHeap.put, AHeap.has, afill, Nat.reduceLT, List.reduceReplicate, alen, afillRows, afresh, aappend, srcRows, Nat.reduceSub, Nat.reduceMul, ints_len, wants_len, evs_len, A85, ownB, blksB, k0, k1, hg, hs, w1, w2, w3, List.set_set, p0, p1, p2, p5, p3, eq_true p6, eq_true q, wants_set8, List.length_set, List.drop_succ_cons, List.drop_zero, List.take_succ_cons, List.take_zero]
      refine Spec.fr [0, 1, 2, 3] (b_take b (x.who - 1).toNat x.saw hk hkm hb) (.cons rfl (.cons (by simp [Blk.ren, ints_ren]) (.cons (by simp [Blk.ren, wants_ren]) (.cons (by simp [Blk.ren, evs_ren]) .nil)))) (by decide) rfl rfl ?_
      obtain ⟨z, hz⟩ : ∃ z, b.wants[(x.who - 1).toNat]? = some z := ⟨_, List.getElem?_eq_getElem hk⟩
      obtain ⟨w', g, y, e⟩ := takeB_ex b (x.who - 1).toNat x.saw hz
      obtain ⟨u, hu⟩ : ∃ u, (b.wants.set (x.who - 1).toNat { z with got := g })[t]? = some u := ⟨_, List.getElem?_eq_getElem (by rw [List.length_set]; exact ht)⟩
      have hg' := wants_get8 hu
      have ht' : t < (b.wants.set (x.who - 1).toNat { z with got := g }).length := by rw [List.length_set]; exact ht
      have hs' : ∀ y : Want, (wants ((b.wants.set (x.who - 1).toNat { z with got := g }).set t y))[t]? = some [.int .i64 y.if_, .int .i64 y.old, .int .i64 y.new, .int .i64 y.phase, .int .i64 y.who, .int .i64 y.saw, .int .i64 y.from_, .int .i64 y.got] := fun y => wants_get8 (List.getElem?_set_self ht')
      rw [e]
      simp only [AV.ren, AV.ren0, SV.ren, wr, List.map_cons, List.map_nil, Option.map_some, Option.map_none, Blk.ren, List.set_cons_zero, List.set_cons_succ, ints_ren, wants_ren, evs_ren, ownB, List.length_append, List.length_cons, List.length_nil, List.length_singleton, List.length_set, Nat.reduceAdd, Nat.zero_add, emb0123, List.append_nil]
      simp only [ne_eq, S1, S2, S3, S4, S5, S6, S7, S8, S9, S10, S11, S12, S13, guarded, opWp, onX, onO, onFn, chks, chkOne, xop, evf, fget, fput, fkeep, finit, aress, ares, abin, pickv, AV.cells, reduceCtorEq, reduceIte, Nat.reduceEqDiff, Nat.reduceAdd, bound, capsOf, Nat.reduceLeDiff, AHeap.cell, AHeap.row, AHeap.cells, AHeap.put, AHeap.has, afill, Nat.reduceLT, List.reduceReplicate, alen, afillRows, afresh, aappend, srcRows, Nat.reduceSub, Nat.reduceMul, ints_len, wants_len, evs_len, k0, k1, hg, hs, w1, w2, w3, List.set_set, hg', hs', wants_set8, List.length_set, List.drop_succ_cons, List.drop_zero, List.take_succ_cons, List.take_zero]
      refine c2 (b' := putW (takeB b (x.who - 1).toNat x.saw) t { (takeB b (x.who - 1).toNat x.saw).wants.getD t default with phase := 1, who := 0, saw := 0 }) (by unfold stepB; rw [hd]; simp only [if_neg p0, if_neg p1, if_neg p25, if_neg p3, if_pos p6, if_pos q]) ?_
      rw [e]
      simp only [putW, ownB, List.length_set, List.length_append, List.length_singleton, List.set_set, List.getD_eq_getElem?_getD, hu, Option.getD_some]
      exact ⟨[some (0), some (1), some (2), some (3), some (4)], [], (by repeat' (first | exact BlksLe.nil | refine BlksLe.cons ?_ ?_ | refine BlksLe.skip ?_ | exact BlkLe.ph | refine BlkLe.keep rfl rfl rfl ?_ | exact RowsLe.nil | exact RowsLe.same (ints_free _) | exact RowsLe.free (by simp [ints_len]) (ints_free _) | exact RowsLe.same (wants_free _) | exact RowsLe.free (by simp [wants_len]) (wants_free _) | exact RowsLe.same (evs_free _) | exact RowsLe.free (by simp [evs_len]) (evs_free _) | refine RowsLe.cons ?_ ?_ | exact FrLe.nil | refine FrLe.cons ?_ ?_ | exact AVLe.one AVLe0.no | refine AVLe.one (AVLe0.s ?_) | refine AVLe.one (AVLe0.agg ?_) | refine AVLe.tup ?_ | exact AVsLe0.nil | refine AVsLe0.cons ?_ ?_ | refine AVLe0.s ?_ | refine AVLe0.agg ?_ | exact SVsLe.nil | refine SVsLe.cons ?_ ?_ | exact Wk.free rfl | exact Wk.sl rfl (Nat.le_refl _) (Nat.le_refl _) | exact Wk.ptr rfl | exact Wk.nils rfl | exact Wk.emp rfl | exact Wk.lnils | exact Wk.lemp | exact Wk.frz (by simp) rfl rfl (by simp [ints_len]) (by simp [ints_len, List.take_of_length_le]) (ints_data _) | exact Wk.frz (by simp) rfl rfl (by simp [wants_len]) (by simp [wants_len, List.take_of_length_le]) (wants_data _) | exact Wk.frz (by simp) rfl rfl (by simp [evs_len]) (by simp [evs_len, List.take_of_length_le]) (evs_data _) | exact Wk.any)), (by simp), rfl, (by simp), (by simp), (by repeat' (first | exact BlksLe.nil | refine BlksLe.cons ?_ ?_ | refine BlksLe.skip ?_ | exact BlkLe.ph | refine BlkLe.keep rfl rfl rfl ?_ | exact RowsLe.nil | exact RowsLe.same (ints_free _) | exact RowsLe.free (by simp [ints_len]) (ints_free _) | exact RowsLe.same (wants_free _) | exact RowsLe.free (by simp [wants_len]) (wants_free _) | exact RowsLe.same (evs_free _) | exact RowsLe.free (by simp [evs_len]) (evs_free _) | refine RowsLe.cons ?_ ?_ | exact FrLe.nil | refine FrLe.cons ?_ ?_ | exact AVLe.one AVLe0.no | refine AVLe.one (AVLe0.s ?_) | refine AVLe.one (AVLe0.agg ?_) | refine AVLe.tup ?_ | exact AVsLe0.nil | refine AVsLe0.cons ?_ ?_ | refine AVLe0.s ?_ | refine AVLe0.agg ?_ | exact SVsLe.nil | refine SVsLe.cons ?_ ?_ | exact Wk.free rfl | exact Wk.sl rfl (Nat.le_refl _) (Nat.le_refl _) | exact Wk.ptr rfl | exact Wk.nils rfl | exact Wk.emp rfl | exact Wk.lnils | exact Wk.lemp | exact Wk.frz (by simp) rfl rfl (by simp [ints_len]) (by simp [ints_len, List.take_of_length_le]) (ints_data _) | exact Wk.frz (by simp) rfl rfl (by simp [wants_len]) (by simp [wants_len, List.take_of_length_le]) (wants_data _) | exact Wk.frz (by simp) rfl rfl (by simp [evs_len]) (by simp [evs_len, List.take_of_length_le]) (evs_data _) | exact Wk.any))⟩
    · simp only [ne_eq, S1, S2, S3, S4, S5, S6, S7, S8, S9, S10, S11, S12, S13, guarded, opWp, onX, onO, onFn, chks, chkOne, xop, evf, fget, fput, fkeep, finit, aress, ares, abin, pickv, AV.cells, reduceCtorEq, reduceIte, Nat.reduceEqDiff, Nat.reduceAdd, bound, capsOf, Nat.reduceLeDiff, AHeap.cell, AHeap.row, AHeap.cells, AHeap.put, AHeap.has, afill, Nat.reduceLT, List.reduceReplicate, alen, afillRows, afresh, aappend, srcRows, Nat.reduceSub, Nat.reduceMul, ints_len, wants_len, evs_len, A85, ownB, blksB, k0, k1, hg, hs, w1, w2, w3, List.set_set, p0, p1, p2, p5, p3, eq_true p6, q, wants_set8, List.length_set, List.drop_succ_cons, List.drop_zero, List.take_succ_cons, List.take_zero]
      refine c1 (b' := putW b t { x with phase := 1, who := 0, saw := 0 }) (by unfold stepB; rw [hd]; simp only [if_neg p0, if_neg p1, if_neg p25, if_neg p3, if_pos p6, if_neg q]; rw [hd]) ?_
      simp only [putW, ownB, blksB, List.length_set]
      exact ⟨[some (0), some (1), some (2), some (3)], [], (by repeat' (first | exact BlksLe.nil | refine BlksLe.cons ?_ ?_ | refine BlksLe.skip ?_ | exact BlkLe.ph | refine BlkLe.keep rfl rfl rfl ?_ | exact RowsLe.nil | exact RowsLe.same (ints_free _) | exact RowsLe.free (by simp [ints_len]) (ints_free _) | exact RowsLe.same (wants_free _) | exact RowsLe.free (by simp [wants_len]) (wants_free _) | exact RowsLe.same (evs_free _) | exact RowsLe.free (by simp [evs_len]) (evs_free _) | refine RowsLe.cons ?_ ?_ | exact FrLe.nil | refine FrLe.cons ?_ ?_ | exact AVLe.one AVLe0.no | refine AVLe.one (AVLe0.s ?_) | refine AVLe.one (AVLe0.agg ?_) | refine AVLe.tup ?_ | exact AVsLe0.nil | refine AVsLe0.cons ?_ ?_ | refine AVLe0.s ?_ | refine AVLe0.agg ?_ | exact SVsLe.nil | refine SVsLe.cons ?_ ?_ | exact Wk.free rfl | exact Wk.sl rfl (Nat.le_refl _) (Nat.le_refl _) | exact Wk.ptr rfl | exact Wk.nils rfl | exact Wk.emp rfl | exact Wk.lnils | exact Wk.lemp | exact Wk.frz (by simp) rfl rfl (by simp [ints_len]) (by simp [ints_len, List.take_of_length_le]) (ints_data _) | exact Wk.frz (by simp) rfl rfl (by simp [wants_len]) (by simp [wants_len, List.take_of_length_le]) (wants_data _) | exact Wk.frz (by simp) rfl rfl (by simp [evs_len]) (by simp [evs_len, List.take_of_length_le]) (evs_data _) | exact Wk.any)), (by simp), rfl, (by simp), (by simp), (by repeat' (first | exact BlksLe.nil | refine BlksLe.cons ?_ ?_ | refine BlksLe.skip ?_ | exact BlkLe.ph | refine BlkLe.keep rfl rfl rfl ?_ | exact RowsLe.nil | exact RowsLe.same (ints_free _) | exact RowsLe.free (by simp [ints_len]) (ints_free _) | exact RowsLe.same (wants_free _) | exact RowsLe.free (by simp [wants_len]) (wants_free _) | exact RowsLe.same (evs_free _) | exact RowsLe.free (by simp [evs_len]) (evs_free _) | refine RowsLe.cons ?_ ?_ | exact FrLe.nil | refine FrLe.cons ?_ ?_ | exact AVLe.one AVLe0.no | refine AVLe.one (AVLe0.s ?_) | refine AVLe.one (AVLe0.agg ?_) | refine AVLe.tup ?_ | exact AVsLe0.nil | refine AVsLe0.cons ?_ ?_ | refine AVLe0.s ?_ | refine AVLe0.agg ?_ | exact SVsLe.nil | refine SVsLe.cons ?_ ?_ | exact Wk.free rfl | exact Wk.sl rfl (Nat.le_refl _) (Nat.le_refl _) | exact Wk.ptr rfl | exact Wk.nils rfl | exact Wk.emp rfl | exact Wk.lnils | exact Wk.lemp | exact Wk.frz (by simp) rfl rfl (by simp [ints_len]) (by simp [ints_len, List.take_of_length_le]) (ints_data _) | exact Wk.frz (by simp) rfl rfl (by simp [wants_len]) (by simp [wants_len, List.take_of_length_le]) (wants_data _) | exact Wk.frz (by simp) rfl rfl (by simp [evs_len]) (by simp [evs_len, List.take_of_length_le]) (evs_data _) | exact Wk.any))⟩
  · simp only [ne_eq, S1, S2, S3, S4, S5, S6, S7, S8, S9, S10, S11, S12, S13, guarded, opWp, onX, onO, onFn, chks, chkOne, xop, evf, fget, fput, fkeep, finit, aress, ares, abin, pickv, AV.cells, reduceCtorEq, reduceIte, Nat.reduceEqDiff, Nat.reduceAdd, bound, capsOf, Nat.reduceLeDiff, AHeap.cell, AHeap.row, AHeap.cells, AHeap.put, AHeap.has, afill, Nat.reduceLT, List.reduceReplicate, alen, afillRows, afresh, aappend, srcRows, Nat.reduceSub, Nat.reduceMul, ints_len, wants_len, evs_len, A85, ownB, blksB, k0, k1, hg, hs, w1, w2, w3, List.set_set, p0, p1, p2, p5, p3, p6, wants_set8, List.length_set, List.drop_succ_cons, List.drop_zero, List.take_succ_cons, List.take_zero]
    refine c1 (b' := b) (by unfold stepB; rw [hd]; simp only [if_neg p0, if_neg p1, if_neg p25, if_neg p3, if_neg p6]) ?_
    simp only [ownB, blksB]
    exact ⟨[some (0), some (1), some (2), some (3)], [], (by repeat' (first | exact BlksLe.nil | refine BlksLe.cons ?_ ?_ | refine BlksLe.skip ?_ | exact BlkLe.ph | refine BlkLe.keep rfl rfl rfl ?_ | exact RowsLe.nil | exact RowsLe.same (ints_free _) | exact RowsLe.free (by simp [ints_len]) (ints_free _) | exact RowsLe.same (wants_free _) | exact RowsLe.free (by simp [wants_len]) (wants_free _) | exact RowsLe.same (evs_free _) | exact RowsLe.free (by simp [evs_len]) (evs_free _) | refine RowsLe.cons ?_ ?_ | exact FrLe.nil | refine FrLe.cons ?_ ?_ | exact AVLe.one AVLe0.no | refine AVLe.one (AVLe0.s ?_) | refine AVLe.one (AVLe0.agg ?_) | refine AVLe.tup ?_ | exact AVsLe0.nil | refine AVsLe0.cons ?_ ?_ | refine AVLe0.s ?_ | refine AVLe0.agg ?_ | exact SVsLe.nil | refine SVsLe.cons ?_ ?_ | exact Wk.free rfl | exact Wk.sl rfl (Nat.le_refl _) (Nat.le_refl _) | exact Wk.ptr rfl | exact Wk.nils rfl | exact Wk.emp rfl | exact Wk.lnils | exact Wk.lemp | exact Wk.frz (by simp) rfl rfl (by simp [ints_len]) (by simp [ints_len, List.take_of_length_le]) (ints_data _) | exact Wk.frz (by simp) rfl rfl (by simp [wants_len]) (by simp [wants_len, List.take_of_length_le]) (wants_data _) | exact Wk.frz (by simp) rfl rfl (by simp [evs_len]) (by simp [evs_len, List.take_of_length_le]) (evs_data _) | exact Wk.any)), (by simp), rfl, (by simp), (by simp), (by repeat' (first | exact BlksLe.nil | refine BlksLe.cons ?_ ?_ | refine BlksLe.skip ?_ | exact BlkLe.ph | refine BlkLe.keep rfl rfl rfl ?_ | exact RowsLe.nil | exact RowsLe.same (ints_free _) | exact RowsLe.free (by simp [ints_len]) (ints_free _) | exact RowsLe.same (wants_free _) | exact RowsLe.free (by simp [wants_len]) (wants_free _) | exact RowsLe.same (evs_free _) | exact RowsLe.free (by simp [evs_len]) (evs_free _) | refine RowsLe.cons ?_ ?_ | exact FrLe.nil | refine FrLe.cons ?_ ?_ | exact AVLe.one AVLe0.no | refine AVLe.one (AVLe0.s ?_) | refine AVLe.one (AVLe0.agg ?_) | refine AVLe.tup ?_ | exact AVsLe0.nil | refine AVsLe0.cons ?_ ?_ | refine AVLe0.s ?_ | refine AVLe0.agg ?_ | exact SVsLe.nil | refine SVsLe.cons ?_ ?_ | exact Wk.free rfl | exact Wk.sl rfl (Nat.le_refl _) (Nat.le_refl _) | exact Wk.ptr rfl | exact Wk.nils rfl | exact Wk.emp rfl | exact Wk.lnils | exact Wk.lemp | exact Wk.frz (by simp) rfl rfl (by simp [ints_len]) (by simp [ints_len, List.take_of_length_le]) (ints_data _) | exact Wk.frz (by simp) rfl rfl (by simp [wants_len]) (by simp [wants_len, List.take_of_length_le]) (wants_data _) | exact Wk.frz (by simp) rfl rfl (by simp [evs_len]) (by simp [evs_len, List.take_of_length_le]) (evs_data _) | exact Wk.any))⟩
end Go.Proofs.Ytmfiegjncfgohaa.Den
