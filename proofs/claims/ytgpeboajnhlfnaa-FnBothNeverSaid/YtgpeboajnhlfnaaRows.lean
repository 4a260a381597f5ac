/-
  No cell of these rows narrows 'for every input' (looked for: loops, veiled, ifaces, maps, wideKeys, modest, calm, conditions, laid).
  DERIVED. THE GIVEN ROWS OF THIS SEAT. 11 by the template 'for every input the law returns true; each argument reads behind the call as it read before'; 0 by the template 'total and deterministic' (their statements: YtgpeboajnhlfnaaTotals.lean).
  GIVEN WITH THE SEED: the statements are not yours to turn. If you find one false, say at which input.
  Laid BY PROGRAM, IN A SANDBOX (cutbox-rows.mjs): the forced cells as the released guide's own fill.sh prints them over the translation ba35b6aae2c69a70… (all of the seat's roots in one cut). By AI agents, Wed Nov 11 2026. No macro, syntax, notation, axiom, sorry.
-/
import Derived.Test.YtgpeboajnhlfnaaChecked
import GoSem.Claim
import GoSem.ClaimJoined
import GoSem.ClaimMapViews
import Derived.JoinedTies
import Derived.KernelRfl
namespace Go.Proofs.Ytgpeboajnhlfnaa
/- THE CELL 'sum', in the pinned program and in every row, IS THE sha256 OF THE DUMP (.gsa) THAT YtgpeboajnhlfnaaProg.lean LOADS. Nothing in Lean hashes anything: it is a label: what it is worth is what the hold of that sum in a sandbox is worth. -/
noncomputable def Try.pinned : Pinned := { name := "ytgpeboajnhlfnaa", sum := "ba35b6aae2c69a705b69d4b565604a90e0b4bc32f5ead61979a7792767693693", checked := Try.checked }
namespace Rows
def none {H : Type} : Left H := { results := [], args := [] }

/-- 'laws.FnBothOnce': WHATEVER THE INPUT: true; the input reads as it did. -/
def fnBothOnceSpec : ChangeSpec := { name := "fnBothOnce", fn := fun _ => fun
  | [d] => { results := [.lit (.bool true)], args := [d] }
  | _ => none }
def fnBothOnceRow : OpenClaim := { program := "ytgpeboajnhlfnaa", sum := "ba35b6aae2c69a705b69d4b565604a90e0b4bc32f5ead61979a7792767693693", func := "loop.example/g00468/laws.FnBothOnce", spec := "fnBothOnce", unfollowed := true, recurses := true, apart := false }
def FnBothOnceSaid : Prop := fnBothOnceRow.holds Try.pinned (OpenSpec.ofChange fnBothOnceSpec)

/-- ITS FALSE NEIGHBOUR: 'it returns false'. Refute it at one input. -/
def fnBothOnceWrong : ChangeSpec := { name := "fnBothOnce", fn := fun _ => fun
  | [d] => { results := [.lit (.bool false)], args := [d] }
  | _ => none }
def FnBothOnceWrongFalsely : Prop := fnBothOnceRow.holds Try.pinned (OpenSpec.ofChange fnBothOnceWrong)

/-- 'laws.FnBothAll': WHATEVER THE INPUT: true; the input reads as it did. -/
def fnBothAllSpec : ChangeSpec := { name := "fnBothAll", fn := fun _ => fun
  | [d] => { results := [.lit (.bool true)], args := [d] }
  | _ => none }
def fnBothAllRow : OpenClaim := { program := "ytgpeboajnhlfnaa", sum := "ba35b6aae2c69a705b69d4b565604a90e0b4bc32f5ead61979a7792767693693", func := "loop.example/g00468/laws.FnBothAll", spec := "fnBothAll", unfollowed := true, recurses := true, apart := false }
def FnBothAllSaid : Prop := fnBothAllRow.holds Try.pinned (OpenSpec.ofChange fnBothAllSpec)

/-- ITS FALSE NEIGHBOUR: 'it returns false'. Refute it at one input. -/
def fnBothAllWrong : ChangeSpec := { name := "fnBothAll", fn := fun _ => fun
  | [d] => { results := [.lit (.bool false)], args := [d] }
  | _ => none }
def FnBothAllWrongFalsely : Prop := fnBothAllRow.holds Try.pinned (OpenSpec.ofChange fnBothAllWrong)

/-- 'laws.FnBothAlone': WHATEVER THE INPUT: true; the input reads as it did. -/
def fnBothAloneSpec : ChangeSpec := { name := "fnBothAlone", fn := fun _ => fun
  | [d] => { results := [.lit (.bool true)], args := [d] }
  | _ => none }
def fnBothAloneRow : OpenClaim := { program := "ytgpeboajnhlfnaa", sum := "ba35b6aae2c69a705b69d4b565604a90e0b4bc32f5ead61979a7792767693693", func := "loop.example/g00468/laws.FnBothAlone", spec := "fnBothAlone", unfollowed := true, recurses := true, apart := false }
def FnBothAloneSaid : Prop := fnBothAloneRow.holds Try.pinned (OpenSpec.ofChange fnBothAloneSpec)

/-- ITS FALSE NEIGHBOUR: 'it returns false'. Refute it at one input. -/
def fnBothAloneWrong : ChangeSpec := { name := "fnBothAlone", fn := fun _ => fun
  | [d] => { results := [.lit (.bool false)], args := [d] }
  | _ => none }
def FnBothAloneWrongFalsely : Prop := fnBothAloneRow.holds Try.pinned (OpenSpec.ofChange fnBothAloneWrong)

/-- 'laws.FnExactBothOk': WHATEVER THE INPUT: true; the input reads as it did. -/
def fnExactBothOkSpec : ChangeSpec := { name := "fnExactBothOk", fn := fun _ => fun
  | [d] => { results := [.lit (.bool true)], args := [d] }
  | _ => none }
def fnExactBothOkRow : OpenClaim := { program := "ytgpeboajnhlfnaa", sum := "ba35b6aae2c69a705b69d4b565604a90e0b4bc32f5ead61979a7792767693693", func := "loop.example/g00468/laws.FnExactBothOk", spec := "fnExactBothOk", unfollowed := true, recurses := true, apart := false }
def FnExactBothOkSaid : Prop := fnExactBothOkRow.holds Try.pinned (OpenSpec.ofChange fnExactBothOkSpec)

/-- ITS FALSE NEIGHBOUR: 'it returns false'. Refute it at one input. -/
def fnExactBothOkWrong : ChangeSpec := { name := "fnExactBothOk", fn := fun _ => fun
  | [d] => { results := [.lit (.bool false)], args := [d] }
  | _ => none }
def FnExactBothOkWrongFalsely : Prop := fnExactBothOkRow.holds Try.pinned (OpenSpec.ofChange fnExactBothOkWrong)

/-- 'laws.FnBothNever': WHATEVER THE INPUT: true; the input reads as it did. -/
def fnBothNeverSpec : ChangeSpec := { name := "fnBothNever", fn := fun _ => fun
  | [d] => { results := [.lit (.bool true)], args := [d] }
  | _ => none }
def fnBothNeverRow : OpenClaim := { program := "ytgpeboajnhlfnaa", sum := "ba35b6aae2c69a705b69d4b565604a90e0b4bc32f5ead61979a7792767693693", func := "loop.example/g00468/laws.FnBothNever", spec := "fnBothNever", unfollowed := true, recurses := true, apart := false }
def FnBothNeverSaid : Prop := fnBothNeverRow.holds Try.pinned (OpenSpec.ofChange fnBothNeverSpec)

/-- ITS FALSE NEIGHBOUR: 'it returns false'. Refute it at one input. -/
def fnBothNeverWrong : ChangeSpec := { name := "fnBothNever", fn := fun _ => fun
  | [d] => { results := [.lit (.bool false)], args := [d] }
  | _ => none }
def FnBothNeverWrongFalsely : Prop := fnBothNeverRow.holds Try.pinned (OpenSpec.ofChange fnBothNeverWrong)

/-- 'laws.FnExactBothJudge': WHATEVER THE INPUT: true; the input reads as it did. -/
def fnExactBothJudgeSpec : ChangeSpec := { name := "fnExactBothJudge", fn := fun _ => fun
  | [d] => { results := [.lit (.bool true)], args := [d] }
  | _ => none }
def fnExactBothJudgeRow : OpenClaim := { program := "ytgpeboajnhlfnaa", sum := "ba35b6aae2c69a705b69d4b565604a90e0b4bc32f5ead61979a7792767693693", func := "loop.example/g00468/laws.FnExactBothJudge", spec := "fnExactBothJudge", unfollowed := true, recurses := true, apart := false }
def FnExactBothJudgeSaid : Prop := fnExactBothJudgeRow.holds Try.pinned (OpenSpec.ofChange fnExactBothJudgeSpec)

/-- ITS FALSE NEIGHBOUR: 'it returns false'. Refute it at one input. -/
def fnExactBothJudgeWrong : ChangeSpec := { name := "fnExactBothJudge", fn := fun _ => fun
  | [d] => { results := [.lit (.bool false)], args := [d] }
  | _ => none }
def FnExactBothJudgeWrongFalsely : Prop := fnExactBothJudgeRow.holds Try.pinned (OpenSpec.ofChange fnExactBothJudgeWrong)

/-- 'laws.FnExactBothNew': WHATEVER THE INPUT: true; the input reads as it did. -/
def fnExactBothNewSpec : ChangeSpec := { name := "fnExactBothNew", fn := fun _ => fun
  | [d1, d2, d3] => { results := [.lit (.bool true)], args := [d1, d2, d3] }
  | _ => none }
def fnExactBothNewRow : OpenClaim := { program := "ytgpeboajnhlfnaa", sum := "ba35b6aae2c69a705b69d4b565604a90e0b4bc32f5ead61979a7792767693693", func := "loop.example/g00468/laws.FnExactBothNew", spec := "fnExactBothNew", unfollowed := true, recurses := true, apart := false }
def FnExactBothNewSaid : Prop := fnExactBothNewRow.holds Try.pinned (OpenSpec.ofChange fnExactBothNewSpec)

/-- ITS FALSE NEIGHBOUR: 'it returns false'. Refute it at one input. -/
def fnExactBothNewWrong : ChangeSpec := { name := "fnExactBothNew", fn := fun _ => fun
  | [d1, d2, d3] => { results := [.lit (.bool false)], args := [d1, d2, d3] }
  | _ => none }
def FnExactBothNewWrongFalsely : Prop := fnExactBothNewRow.holds Try.pinned (OpenSpec.ofChange fnExactBothNewWrong)

/-- 'laws.FnExactBothSet': WHATEVER THE INPUT: true; the input reads as it did. -/
def fnExactBothSetSpec : ChangeSpec := { name := "fnExactBothSet", fn := fun _ => fun
  | [d1, d2] => { results := [.lit (.bool true)], args := [d1, d2] }
  | _ => none }
def fnExactBothSetRow : OpenClaim := { program := "ytgpeboajnhlfnaa", sum := "ba35b6aae2c69a705b69d4b565604a90e0b4bc32f5ead61979a7792767693693", func := "loop.example/g00468/laws.FnExactBothSet", spec := "fnExactBothSet", unfollowed := true, recurses := true, apart := false }
def FnExactBothSetSaid : Prop := fnExactBothSetRow.holds Try.pinned (OpenSpec.ofChange fnExactBothSetSpec)

/-- ITS FALSE NEIGHBOUR: 'it returns false'. Refute it at one input. -/
def fnExactBothSetWrong : ChangeSpec := { name := "fnExactBothSet", fn := fun _ => fun
  | [d1, d2] => { results := [.lit (.bool false)], args := [d1, d2] }
  | _ => none }
def FnExactBothSetWrongFalsely : Prop := fnExactBothSetRow.holds Try.pinned (OpenSpec.ofChange fnExactBothSetWrong)

/-- 'laws.FnBoths': WHATEVER THE INPUT: true; the input reads as it did. -/
def fnBothsSpec : ChangeSpec := { name := "fnBoths", fn := fun _ => fun
  | [d] => { results := [.lit (.bool true)], args := [d] }
  | _ => none }
def fnBothsRow : OpenClaim := { program := "ytgpeboajnhlfnaa", sum := "ba35b6aae2c69a705b69d4b565604a90e0b4bc32f5ead61979a7792767693693", func := "loop.example/g00468/laws.FnBoths", spec := "fnBoths", unfollowed := true, recurses := true, apart := false }
def FnBothsSaid : Prop := fnBothsRow.holds Try.pinned (OpenSpec.ofChange fnBothsSpec)

/-- ITS FALSE NEIGHBOUR: 'it returns false'. Refute it at one input. -/
def fnBothsWrong : ChangeSpec := { name := "fnBoths", fn := fun _ => fun
  | [d] => { results := [.lit (.bool false)], args := [d] }
  | _ => none }
def FnBothsWrongFalsely : Prop := fnBothsRow.holds Try.pinned (OpenSpec.ofChange fnBothsWrong)

/-- 'laws.FnExactBothStep': WHATEVER THE INPUT: true; the input reads as it did. -/
def fnExactBothStepSpec : ChangeSpec := { name := "fnExactBothStep", fn := fun _ => fun
  | [d1, d2] => { results := [.lit (.bool true)], args := [d1, d2] }
  | _ => none }
def fnExactBothStepRow : OpenClaim := { program := "ytgpeboajnhlfnaa", sum := "ba35b6aae2c69a705b69d4b565604a90e0b4bc32f5ead61979a7792767693693", func := "loop.example/g00468/laws.FnExactBothStep", spec := "fnExactBothStep", unfollowed := true, recurses := true, apart := false }
def FnExactBothStepSaid : Prop := fnExactBothStepRow.holds Try.pinned (OpenSpec.ofChange fnExactBothStepSpec)

/-- ITS FALSE NEIGHBOUR: 'it returns false'. Refute it at one input. -/
def fnExactBothStepWrong : ChangeSpec := { name := "fnExactBothStep", fn := fun _ => fun
  | [d1, d2] => { results := [.lit (.bool false)], args := [d1, d2] }
  | _ => none }
def FnExactBothStepWrongFalsely : Prop := fnExactBothStepRow.holds Try.pinned (OpenSpec.ofChange fnExactBothStepWrong)

/-- 'laws.FnExactBothRun': WHATEVER THE INPUT: true; the input reads as it did. -/
def fnExactBothRunSpec : ChangeSpec := { name := "fnExactBothRun", fn := fun _ => fun
  | [d1, d2] => { results := [.lit (.bool true)], args := [d1, d2] }
  | _ => none }
def fnExactBothRunRow : OpenClaim := { program := "ytgpeboajnhlfnaa", sum := "ba35b6aae2c69a705b69d4b565604a90e0b4bc32f5ead61979a7792767693693", func := "loop.example/g00468/laws.FnExactBothRun", spec := "fnExactBothRun", unfollowed := true, recurses := true, apart := false }
def FnExactBothRunSaid : Prop := fnExactBothRunRow.holds Try.pinned (OpenSpec.ofChange fnExactBothRunSpec)

/-- ITS FALSE NEIGHBOUR: 'it returns false'. Refute it at one input. -/
def fnExactBothRunWrong : ChangeSpec := { name := "fnExactBothRun", fn := fun _ => fun
  | [d1, d2] => { results := [.lit (.bool false)], args := [d1, d2] }
  | _ => none }
def FnExactBothRunWrongFalsely : Prop := fnExactBothRunRow.holds Try.pinned (OpenSpec.ofChange fnExactBothRunWrong)

/- THE SECOND FORM. 'bulk': how many values and letters a reading holds, each counted each time it is reached (what is shared counts as often as it is met; a slice's spare places count too). A statement '..UptoSaid' is the law's where the arguments, and the package variables that the reading takes, are together of bulk at most 1048576: NARROWER than '..Said'. Prove '..Said' where nothing that the law and all that it calls make is longer than what came in: it says more and counts as full. Else prove '..UptoSaid'. A law counts once. -/
mutual
def uptoBulk {H : Type} : DataW H → Nat
  | .lit (.string bytes) => bytes.length + 1
  | .lit _ => 1
  | .nil => 1
  | .ptr d => uptoBulk d + 1
  | .slice elems spare => uptoBulkAll elems + uptoBulkAll spare + 1
  | .agg parts => uptoBulkAll parts + 1
  | .iface _ d => uptoBulk d + 1
  | .map entries => uptoBulkEntries entries + 1
  | .held _ => 1
def uptoBulkAll {H : Type} : List (DataW H) → Nat
  | [] => 0
  | d :: r => uptoBulk d + uptoBulkAll r
def uptoBulkEntries {H : Type} : List (Lit × DataW H) → Nat
  | [] => 0
  | x :: r => uptoBulkEntry x + uptoBulkEntries r
def uptoBulkEntry {H : Type} : Lit × DataW H → Nat
  | (.string bytes, d) => bytes.length + uptoBulk d + 1
  | (_, d) => uptoBulk d + 1
 end
def uptoSmall : (H : Type) → List (DataW H) → Bool := fun _ ds => decide (uptoBulkAll ds ≤ 1048576)
def OpenSpec.upto (s : _root_.Go.ChangeSpec) : _root_.Go.OpenSpec := { _root_.Go.OpenSpec.ofChange s with cond := some uptoSmall }

/-- 'laws.FnBothOnce', WHERE WHAT IT READS IS OF BULK AT MOST 1048576: true; the input reads as it did. -/
def fnBothOnceUptoRow : OpenClaim := { program := "ytgpeboajnhlfnaa", sum := "ba35b6aae2c69a705b69d4b565604a90e0b4bc32f5ead61979a7792767693693", func := "loop.example/g00468/laws.FnBothOnce", spec := "fnBothOnce", unfollowed := true, recurses := true, apart := false, narrowed := true }
def FnBothOnceUptoSaid : Prop := fnBothOnceUptoRow.holds Try.pinned (OpenSpec.upto fnBothOnceSpec)

/-- 'laws.FnBothAll', WHERE WHAT IT READS IS OF BULK AT MOST 1048576: true; the input reads as it did. -/
def fnBothAllUptoRow : OpenClaim := { program := "ytgpeboajnhlfnaa", sum := "ba35b6aae2c69a705b69d4b565604a90e0b4bc32f5ead61979a7792767693693", func := "loop.example/g00468/laws.FnBothAll", spec := "fnBothAll", unfollowed := true, recurses := true, apart := false, narrowed := true }
def FnBothAllUptoSaid : Prop := fnBothAllUptoRow.holds Try.pinned (OpenSpec.upto fnBothAllSpec)

/-- 'laws.FnBothAlone', WHERE WHAT IT READS IS OF BULK AT MOST 1048576: true; the input reads as it did. -/
def fnBothAloneUptoRow : OpenClaim := { program := "ytgpeboajnhlfnaa", sum := "ba35b6aae2c69a705b69d4b565604a90e0b4bc32f5ead61979a7792767693693", func := "loop.example/g00468/laws.FnBothAlone", spec := "fnBothAlone", unfollowed := true, recurses := true, apart := false, narrowed := true }
def FnBothAloneUptoSaid : Prop := fnBothAloneUptoRow.holds Try.pinned (OpenSpec.upto fnBothAloneSpec)

/-- 'laws.FnExactBothOk', WHERE WHAT IT READS IS OF BULK AT MOST 1048576: true; the input reads as it did. -/
def fnExactBothOkUptoRow : OpenClaim := { program := "ytgpeboajnhlfnaa", sum := "ba35b6aae2c69a705b69d4b565604a90e0b4bc32f5ead61979a7792767693693", func := "loop.example/g00468/laws.FnExactBothOk", spec := "fnExactBothOk", unfollowed := true, recurses := true, apart := false, narrowed := true }
def FnExactBothOkUptoSaid : Prop := fnExactBothOkUptoRow.holds Try.pinned (OpenSpec.upto fnExactBothOkSpec)

/-- 'laws.FnBothNever', WHERE WHAT IT READS IS OF BULK AT MOST 1048576: true; the input reads as it did. -/
def fnBothNeverUptoRow : OpenClaim := { program := "ytgpeboajnhlfnaa", sum := "ba35b6aae2c69a705b69d4b565604a90e0b4bc32f5ead61979a7792767693693", func := "loop.example/g00468/laws.FnBothNever", spec := "fnBothNever", unfollowed := true, recurses := true, apart := false, narrowed := true }
def FnBothNeverUptoSaid : Prop := fnBothNeverUptoRow.holds Try.pinned (OpenSpec.upto fnBothNeverSpec)

/-- 'laws.FnExactBothJudge', WHERE WHAT IT READS IS OF BULK AT MOST 1048576: true; the input reads as it did. -/
def fnExactBothJudgeUptoRow : OpenClaim := { program := "ytgpeboajnhlfnaa", sum := "ba35b6aae2c69a705b69d4b565604a90e0b4bc32f5ead61979a7792767693693", func := "loop.example/g00468/laws.FnExactBothJudge", spec := "fnExactBothJudge", unfollowed := true, recurses := true, apart := false, narrowed := true }
def FnExactBothJudgeUptoSaid : Prop := fnExactBothJudgeUptoRow.holds Try.pinned (OpenSpec.upto fnExactBothJudgeSpec)

/-- 'laws.FnExactBothNew', WHERE WHAT IT READS IS OF BULK AT MOST 1048576: true; the input reads as it did. -/
def fnExactBothNewUptoRow : OpenClaim := { program := "ytgpeboajnhlfnaa", sum := "ba35b6aae2c69a705b69d4b565604a90e0b4bc32f5ead61979a7792767693693", func := "loop.example/g00468/laws.FnExactBothNew", spec := "fnExactBothNew", unfollowed := true, recurses := true, apart := false, narrowed := true }
def FnExactBothNewUptoSaid : Prop := fnExactBothNewUptoRow.holds Try.pinned (OpenSpec.upto fnExactBothNewSpec)

/-- 'laws.FnExactBothSet', WHERE WHAT IT READS IS OF BULK AT MOST 1048576: true; the input reads as it did. -/
def fnExactBothSetUptoRow : OpenClaim := { program := "ytgpeboajnhlfnaa", sum := "ba35b6aae2c69a705b69d4b565604a90e0b4bc32f5ead61979a7792767693693", func := "loop.example/g00468/laws.FnExactBothSet", spec := "fnExactBothSet", unfollowed := true, recurses := true, apart := false, narrowed := true }
def FnExactBothSetUptoSaid : Prop := fnExactBothSetUptoRow.holds Try.pinned (OpenSpec.upto fnExactBothSetSpec)

/-- 'laws.FnBoths', WHERE WHAT IT READS IS OF BULK AT MOST 1048576: true; the input reads as it did. -/
def fnBothsUptoRow : OpenClaim := { program := "ytgpeboajnhlfnaa", sum := "ba35b6aae2c69a705b69d4b565604a90e0b4bc32f5ead61979a7792767693693", func := "loop.example/g00468/laws.FnBoths", spec := "fnBoths", unfollowed := true, recurses := true, apart := false, narrowed := true }
def FnBothsUptoSaid : Prop := fnBothsUptoRow.holds Try.pinned (OpenSpec.upto fnBothsSpec)

/-- 'laws.FnExactBothStep', WHERE WHAT IT READS IS OF BULK AT MOST 1048576: true; the input reads as it did. -/
def fnExactBothStepUptoRow : OpenClaim := { program := "ytgpeboajnhlfnaa", sum := "ba35b6aae2c69a705b69d4b565604a90e0b4bc32f5ead61979a7792767693693", func := "loop.example/g00468/laws.FnExactBothStep", spec := "fnExactBothStep", unfollowed := true, recurses := true, apart := false, narrowed := true }
def FnExactBothStepUptoSaid : Prop := fnExactBothStepUptoRow.holds Try.pinned (OpenSpec.upto fnExactBothStepSpec)

/-- 'laws.FnExactBothRun', WHERE WHAT IT READS IS OF BULK AT MOST 1048576: true; the input reads as it did. -/
def fnExactBothRunUptoRow : OpenClaim := { program := "ytgpeboajnhlfnaa", sum := "ba35b6aae2c69a705b69d4b565604a90e0b4bc32f5ead61979a7792767693693", func := "loop.example/g00468/laws.FnExactBothRun", spec := "fnExactBothRun", unfollowed := true, recurses := true, apart := false, narrowed := true }
def FnExactBothRunUptoSaid : Prop := fnExactBothRunUptoRow.holds Try.pinned (OpenSpec.upto fnExactBothRunSpec)

end Rows
end Go.Proofs.Ytgpeboajnhlfnaa
