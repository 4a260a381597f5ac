/-
  No cell of these rows narrows 'for every input' (looked for: loops, veiled, ifaces, maps, wideKeys, modest, calm, conditions, laid).
  DERIVED. THE GIVEN ROWS OF THIS SEAT. 9 by the template 'for every input the law returns true; each argument reads behind the call as it read before'; 0 by the template 'total and deterministic' (their statements: YtiadonijmkklcaaGreatTotals.lean).
  GIVEN WITH THE SEED: the statements are not yours to turn. If you find one false, say at which input.
  Laid BY PROGRAM, IN A SANDBOX (cutbox-rows.mjs): the forced cells as the released guide's own fill.sh prints them over the translation 6b9fe1bd9fbc0f1e… (all of the seat's roots in one cut). By AI agents, Wed Nov 11 2026. No macro, syntax, notation, axiom, sorry.
-/
import Derived.Test.YtiadonijmkklcaaGreatChecked
import GoSem.Claim
import GoSem.ClaimJoined
import GoSem.ClaimMapViews
import Derived.JoinedTies
import Derived.KernelRfl
namespace Go.Proofs.YtiadonijmkklcaaGreat
/- THE CELL 'sum', in the pinned program and in every row, IS THE sha256 OF THE DUMP (.gsa) THAT YtiadonijmkklcaaGreatProg.lean LOADS. Nothing in Lean hashes anything: it is a label: what it is worth is what the hold of that sum in a sandbox is worth. -/
noncomputable def Tryz.pinned : Pinned := { name := "ytiadonijmkklcaagreat", sum := "6b9fe1bd9fbc0f1e42fee435622f953245a9201627dd9a9ec1f29cd7dc0eef2d", checked := Tryz.checked }
namespace Rows
def none {H : Type} : Left H := { results := [], args := [] }

/-- 'laws.FnScanPieces': WHATEVER THE INPUT: true; the input reads as it did. -/
def fnScanPiecesSpec : ChangeSpec := { name := "fnScanPieces", fn := fun _ => fun
  | [d] => { results := [.lit (.bool true)], args := [d] }
  | _ => none }
def fnScanPiecesRow : OpenClaim := { program := "ytiadonijmkklcaagreat", sum := "6b9fe1bd9fbc0f1e42fee435622f953245a9201627dd9a9ec1f29cd7dc0eef2d", func := "loop.example/g00468/laws.FnScanPieces", spec := "fnScanPieces", inPlace := ["internal/bytealg.abigen_runtime_cmpstring"], unfollowed := true, recurses := true, apart := false }
def FnScanPiecesSaid : Prop := fnScanPiecesRow.holds Tryz.pinned (OpenSpec.ofChange fnScanPiecesSpec)

/-- ITS FALSE NEIGHBOUR: 'it returns false'. Refute it at one input. -/
def fnScanPiecesWrong : ChangeSpec := { name := "fnScanPieces", fn := fun _ => fun
  | [d] => { results := [.lit (.bool false)], args := [d] }
  | _ => none }
def FnScanPiecesWrongFalsely : Prop := fnScanPiecesRow.holds Tryz.pinned (OpenSpec.ofChange fnScanPiecesWrong)

/-- 'laws.FnOneByUnique': WHATEVER THE INPUT: true; the input reads as it did. -/
def fnOneByUniqueSpec : ChangeSpec := { name := "fnOneByUnique", fn := fun _ => fun
  | [d] => { results := [.lit (.bool true)], args := [d] }
  | _ => none }
def fnOneByUniqueRow : OpenClaim := { program := "ytiadonijmkklcaagreat", sum := "6b9fe1bd9fbc0f1e42fee435622f953245a9201627dd9a9ec1f29cd7dc0eef2d", func := "loop.example/g00468/laws.FnOneByUnique", spec := "fnOneByUnique", inPlace := ["internal/bytealg.abigen_runtime_cmpstring"], unfollowed := true, recurses := true, apart := false }
def FnOneByUniqueSaid : Prop := fnOneByUniqueRow.holds Tryz.pinned (OpenSpec.ofChange fnOneByUniqueSpec)

/-- ITS FALSE NEIGHBOUR: 'it returns false'. Refute it at one input. -/
def fnOneByUniqueWrong : ChangeSpec := { name := "fnOneByUnique", fn := fun _ => fun
  | [d] => { results := [.lit (.bool false)], args := [d] }
  | _ => none }
def FnOneByUniqueWrongFalsely : Prop := fnOneByUniqueRow.holds Tryz.pinned (OpenSpec.ofChange fnOneByUniqueWrong)

/-- 'laws.FnScans2': WHATEVER THE INPUT: true; the input reads as it did. -/
def fnScans2Spec : ChangeSpec := { name := "fnScans2", fn := fun _ => fun
  | [d] => { results := [.lit (.bool true)], args := [d] }
  | _ => none }
def fnScans2Row : OpenClaim := { program := "ytiadonijmkklcaagreat", sum := "6b9fe1bd9fbc0f1e42fee435622f953245a9201627dd9a9ec1f29cd7dc0eef2d", func := "loop.example/g00468/laws.FnScans2", spec := "fnScans2", inPlace := ["internal/bytealg.abigen_runtime_cmpstring"], unfollowed := true, recurses := true, apart := false }
def FnScans2Said : Prop := fnScans2Row.holds Tryz.pinned (OpenSpec.ofChange fnScans2Spec)

/-- ITS FALSE NEIGHBOUR: 'it returns false'. Refute it at one input. -/
def fnScans2Wrong : ChangeSpec := { name := "fnScans2", fn := fun _ => fun
  | [d] => { results := [.lit (.bool false)], args := [d] }
  | _ => none }
def FnScans2WrongFalsely : Prop := fnScans2Row.holds Tryz.pinned (OpenSpec.ofChange fnScans2Wrong)

/-- 'laws.FnScanBack': WHATEVER THE INPUT: true; the input reads as it did. -/
def fnScanBackSpec : ChangeSpec := { name := "fnScanBack", fn := fun _ => fun
  | [d] => { results := [.lit (.bool true)], args := [d] }
  | _ => none }
def fnScanBackRow : OpenClaim := { program := "ytiadonijmkklcaagreat", sum := "6b9fe1bd9fbc0f1e42fee435622f953245a9201627dd9a9ec1f29cd7dc0eef2d", func := "loop.example/g00468/laws.FnScanBack", spec := "fnScanBack", inPlace := ["internal/bytealg.abigen_runtime_cmpstring"], unfollowed := true, recurses := true, apart := false }
def FnScanBackSaid : Prop := fnScanBackRow.holds Tryz.pinned (OpenSpec.ofChange fnScanBackSpec)

/-- ITS FALSE NEIGHBOUR: 'it returns false'. Refute it at one input. -/
def fnScanBackWrong : ChangeSpec := { name := "fnScanBack", fn := fun _ => fun
  | [d] => { results := [.lit (.bool false)], args := [d] }
  | _ => none }
def FnScanBackWrongFalsely : Prop := fnScanBackRow.holds Tryz.pinned (OpenSpec.ofChange fnScanBackWrong)

/-- 'laws.FnCovers': WHATEVER THE INPUT: true; the input reads as it did. -/
def fnCoversSpec : ChangeSpec := { name := "fnCovers", fn := fun _ => fun
  | [d] => { results := [.lit (.bool true)], args := [d] }
  | _ => none }
def fnCoversRow : OpenClaim := { program := "ytiadonijmkklcaagreat", sum := "6b9fe1bd9fbc0f1e42fee435622f953245a9201627dd9a9ec1f29cd7dc0eef2d", func := "loop.example/g00468/laws.FnCovers", spec := "fnCovers", inPlace := ["internal/bytealg.abigen_runtime_cmpstring"], unfollowed := true, recurses := true, apart := false }
def FnCoversSaid : Prop := fnCoversRow.holds Tryz.pinned (OpenSpec.ofChange fnCoversSpec)

/-- ITS FALSE NEIGHBOUR: 'it returns false'. Refute it at one input. -/
def fnCoversWrong : ChangeSpec := { name := "fnCovers", fn := fun _ => fun
  | [d] => { results := [.lit (.bool false)], args := [d] }
  | _ => none }
def FnCoversWrongFalsely : Prop := fnCoversRow.holds Tryz.pinned (OpenSpec.ofChange fnCoversWrong)

/-- 'laws.FnRanges': WHATEVER THE INPUT: true; the input reads as it did. -/
def fnRangesSpec : ChangeSpec := { name := "fnRanges", fn := fun _ => fun
  | [d] => { results := [.lit (.bool true)], args := [d] }
  | _ => none }
def fnRangesRow : OpenClaim := { program := "ytiadonijmkklcaagreat", sum := "6b9fe1bd9fbc0f1e42fee435622f953245a9201627dd9a9ec1f29cd7dc0eef2d", func := "loop.example/g00468/laws.FnRanges", spec := "fnRanges", inPlace := ["internal/bytealg.abigen_runtime_cmpstring"], unfollowed := true, recurses := true, apart := false }
def FnRangesSaid : Prop := fnRangesRow.holds Tryz.pinned (OpenSpec.ofChange fnRangesSpec)

/-- ITS FALSE NEIGHBOUR: 'it returns false'. Refute it at one input. -/
def fnRangesWrong : ChangeSpec := { name := "fnRanges", fn := fun _ => fun
  | [d] => { results := [.lit (.bool false)], args := [d] }
  | _ => none }
def FnRangesWrongFalsely : Prop := fnRangesRow.holds Tryz.pinned (OpenSpec.ofChange fnRangesWrong)

/-- 'laws.FnExactScanRows': WHATEVER THE INPUT: true; the input reads as it did. -/
def fnExactScanRowsSpec : ChangeSpec := { name := "fnExactScanRows", fn := fun _ => fun
  | [d1, d2, d3] => { results := [.lit (.bool true)], args := [d1, d2, d3] }
  | _ => none }
def fnExactScanRowsRow : OpenClaim := { program := "ytiadonijmkklcaagreat", sum := "6b9fe1bd9fbc0f1e42fee435622f953245a9201627dd9a9ec1f29cd7dc0eef2d", func := "loop.example/g00468/laws.FnExactScanRows", spec := "fnExactScanRows", inPlace := ["internal/bytealg.abigen_runtime_cmpstring"], unfollowed := true, recurses := true, apart := false }
def FnExactScanRowsSaid : Prop := fnExactScanRowsRow.holds Tryz.pinned (OpenSpec.ofChange fnExactScanRowsSpec)

/-- ITS FALSE NEIGHBOUR: 'it returns false'. Refute it at one input. -/
def fnExactScanRowsWrong : ChangeSpec := { name := "fnExactScanRows", fn := fun _ => fun
  | [d1, d2, d3] => { results := [.lit (.bool false)], args := [d1, d2, d3] }
  | _ => none }
def FnExactScanRowsWrongFalsely : Prop := fnExactScanRowsRow.holds Tryz.pinned (OpenSpec.ofChange fnExactScanRowsWrong)

/-- 'laws.FnExactScanPast': WHATEVER THE INPUT: true; the input reads as it did. -/
def fnExactScanPastSpec : ChangeSpec := { name := "fnExactScanPast", fn := fun _ => fun
  | [d1, d2, d3, d4] => { results := [.lit (.bool true)], args := [d1, d2, d3, d4] }
  | _ => none }
def fnExactScanPastRow : OpenClaim := { program := "ytiadonijmkklcaagreat", sum := "6b9fe1bd9fbc0f1e42fee435622f953245a9201627dd9a9ec1f29cd7dc0eef2d", func := "loop.example/g00468/laws.FnExactScanPast", spec := "fnExactScanPast", inPlace := ["internal/bytealg.abigen_runtime_cmpstring"], unfollowed := true, recurses := true, apart := false }
def FnExactScanPastSaid : Prop := fnExactScanPastRow.holds Tryz.pinned (OpenSpec.ofChange fnExactScanPastSpec)

/-- ITS FALSE NEIGHBOUR: 'it returns false'. Refute it at one input. -/
def fnExactScanPastWrong : ChangeSpec := { name := "fnExactScanPast", fn := fun _ => fun
  | [d1, d2, d3, d4] => { results := [.lit (.bool false)], args := [d1, d2, d3, d4] }
  | _ => none }
def FnExactScanPastWrongFalsely : Prop := fnExactScanPastRow.holds Tryz.pinned (OpenSpec.ofChange fnExactScanPastWrong)

/-- 'laws.FnExactScanCover': WHATEVER THE INPUT: true; the input reads as it did. -/
def fnExactScanCoverSpec : ChangeSpec := { name := "fnExactScanCover", fn := fun _ => fun
  | [d1, d2, d3] => { results := [.lit (.bool true)], args := [d1, d2, d3] }
  | _ => none }
def fnExactScanCoverRow : OpenClaim := { program := "ytiadonijmkklcaagreat", sum := "6b9fe1bd9fbc0f1e42fee435622f953245a9201627dd9a9ec1f29cd7dc0eef2d", func := "loop.example/g00468/laws.FnExactScanCover", spec := "fnExactScanCover", inPlace := ["internal/bytealg.abigen_runtime_cmpstring"], unfollowed := true, recurses := true, apart := false }
def FnExactScanCoverSaid : Prop := fnExactScanCoverRow.holds Tryz.pinned (OpenSpec.ofChange fnExactScanCoverSpec)

/-- ITS FALSE NEIGHBOUR: 'it returns false'. Refute it at one input. -/
def fnExactScanCoverWrong : ChangeSpec := { name := "fnExactScanCover", fn := fun _ => fun
  | [d1, d2, d3] => { results := [.lit (.bool false)], args := [d1, d2, d3] }
  | _ => none }
def FnExactScanCoverWrongFalsely : Prop := fnExactScanCoverRow.holds Tryz.pinned (OpenSpec.ofChange fnExactScanCoverWrong)

/- THE SECOND FORM. 'bulk': how many values and letters a reading holds, each counted each time it is reached (what is shared counts as often as it is met; a slice's spare places count too). A statement '..UptoSaid' is the law's where the arguments, and the package variables that the reading takes, are together of bulk at most 1048576: NARROWER than '..Said'. Prove '..Said' where nothing that the law and all that it calls make is longer than what came in: it says more and counts as full. Else prove '..UptoSaid'. A law counts once. -/
mutual
def uptoBulk {H : Type} : DataW H → Nat
  | .lit (.string bytes) => bytes.length + 1
  | .lit _ => 1
  | .nil => 1
  | .ptr d => uptoBulk d + 1
  | .slice elems spare => uptoBulkAll elems + uptoBulkAll spare + 1
  | .agg parts => uptoBulkAll parts + 1
  | .iface _ d => uptoBulk d + 1
  | .map entries => uptoBulkEntries entries + 1
  | .held _ => 1
def uptoBulkAll {H : Type} : List (DataW H) → Nat
  | [] => 0
  | d :: r => uptoBulk d + uptoBulkAll r
def uptoBulkEntries {H : Type} : List (Lit × DataW H) → Nat
  | [] => 0
  | x :: r => uptoBulkEntry x + uptoBulkEntries r
def uptoBulkEntry {H : Type} : Lit × DataW H → Nat
  | (.string bytes, d) => bytes.length + uptoBulk d + 1
  | (_, d) => uptoBulk d + 1
 end
def uptoSmall : (H : Type) → List (DataW H) → Bool := fun _ ds => decide (uptoBulkAll ds ≤ 1048576)
def OpenSpec.upto (s : _root_.Go.ChangeSpec) : _root_.Go.OpenSpec := { _root_.Go.OpenSpec.ofChange s with cond := some uptoSmall }

/-- 'laws.FnScanPieces', WHERE WHAT IT READS IS OF BULK AT MOST 1048576: true; the input reads as it did. -/
def fnScanPiecesUptoRow : OpenClaim := { program := "ytiadonijmkklcaagreat", sum := "6b9fe1bd9fbc0f1e42fee435622f953245a9201627dd9a9ec1f29cd7dc0eef2d", func := "loop.example/g00468/laws.FnScanPieces", spec := "fnScanPieces", inPlace := ["internal/bytealg.abigen_runtime_cmpstring"], unfollowed := true, recurses := true, apart := false, narrowed := true }
def FnScanPiecesUptoSaid : Prop := fnScanPiecesUptoRow.holds Tryz.pinned (OpenSpec.upto fnScanPiecesSpec)

/-- 'laws.FnOneByUnique', WHERE WHAT IT READS IS OF BULK AT MOST 1048576: true; the input reads as it did. -/
def fnOneByUniqueUptoRow : OpenClaim := { program := "ytiadonijmkklcaagreat", sum := "6b9fe1bd9fbc0f1e42fee435622f953245a9201627dd9a9ec1f29cd7dc0eef2d", func := "loop.example/g00468/laws.FnOneByUnique", spec := "fnOneByUnique", inPlace := ["internal/bytealg.abigen_runtime_cmpstring"], unfollowed := true, recurses := true, apart := false, narrowed := true }
def FnOneByUniqueUptoSaid : Prop := fnOneByUniqueUptoRow.holds Tryz.pinned (OpenSpec.upto fnOneByUniqueSpec)

/-- 'laws.FnScans2', WHERE WHAT IT READS IS OF BULK AT MOST 1048576: true; the input reads as it did. -/
def fnScans2UptoRow : OpenClaim := { program := "ytiadonijmkklcaagreat", sum := "6b9fe1bd9fbc0f1e42fee435622f953245a9201627dd9a9ec1f29cd7dc0eef2d", func := "loop.example/g00468/laws.FnScans2", spec := "fnScans2", inPlace := ["internal/bytealg.abigen_runtime_cmpstring"], unfollowed := true, recurses := true, apart := false, narrowed := true }
def FnScans2UptoSaid : Prop := fnScans2UptoRow.holds Tryz.pinned (OpenSpec.upto fnScans2Spec)

/-- 'laws.FnScanBack', WHERE WHAT IT READS IS OF BULK AT MOST 1048576: true; the input reads as it did. -/
def fnScanBackUptoRow : OpenClaim := { program := "ytiadonijmkklcaagreat", sum := "6b9fe1bd9fbc0f1e42fee435622f953245a9201627dd9a9ec1f29cd7dc0eef2d", func := "loop.example/g00468/laws.FnScanBack", spec := "fnScanBack", inPlace := ["internal/bytealg.abigen_runtime_cmpstring"], unfollowed := true, recurses := true, apart := false, narrowed := true }
def FnScanBackUptoSaid : Prop := fnScanBackUptoRow.holds Tryz.pinned (OpenSpec.upto fnScanBackSpec)

/-- 'laws.FnCovers', WHERE WHAT IT READS IS OF BULK AT MOST 1048576: true; the input reads as it did. -/
def fnCoversUptoRow : OpenClaim := { program := "ytiadonijmkklcaagreat", sum := "6b9fe1bd9fbc0f1e42fee435622f953245a9201627dd9a9ec1f29cd7dc0eef2d", func := "loop.example/g00468/laws.FnCovers", spec := "fnCovers", inPlace := ["internal/bytealg.abigen_runtime_cmpstring"], unfollowed := true, recurses := true, apart := false, narrowed := true }
def FnCoversUptoSaid : Prop := fnCoversUptoRow.holds Tryz.pinned (OpenSpec.upto fnCoversSpec)

/-- 'laws.FnRanges', WHERE WHAT IT READS IS OF BULK AT MOST 1048576: true; the input reads as it did. -/
def fnRangesUptoRow : OpenClaim := { program := "ytiadonijmkklcaagreat", sum := "6b9fe1bd9fbc0f1e42fee435622f953245a9201627dd9a9ec1f29cd7dc0eef2d", func := "loop.example/g00468/laws.FnRanges", spec := "fnRanges", inPlace := ["internal/bytealg.abigen_runtime_cmpstring"], unfollowed := true, recurses := true, apart := false, narrowed := true }
def FnRangesUptoSaid : Prop := fnRangesUptoRow.holds Tryz.pinned (OpenSpec.upto fnRangesSpec)

/-- 'laws.FnExactScanRows', WHERE WHAT IT READS IS OF BULK AT MOST 1048576: true; the input reads as it did. -/
def fnExactScanRowsUptoRow : OpenClaim := { program := "ytiadonijmkklcaagreat", sum := "6b9fe1bd9fbc0f1e42fee435622f953245a9201627dd9a9ec1f29cd7dc0eef2d", func := "loop.example/g00468/laws.FnExactScanRows", spec := "fnExactScanRows", inPlace := ["internal/bytealg.abigen_runtime_cmpstring"], unfollowed := true, recurses := true, apart := false, narrowed := true }
def FnExactScanRowsUptoSaid : Prop := fnExactScanRowsUptoRow.holds Tryz.pinned (OpenSpec.upto fnExactScanRowsSpec)

/-- 'laws.FnExactScanPast', WHERE WHAT IT READS IS OF BULK AT MOST 1048576: true; the input reads as it did. -/
def fnExactScanPastUptoRow : OpenClaim := { program := "ytiadonijmkklcaagreat", sum := "6b9fe1bd9fbc0f1e42fee435622f953245a9201627dd9a9ec1f29cd7dc0eef2d", func := "loop.example/g00468/laws.FnExactScanPast", spec := "fnExactScanPast", inPlace := ["internal/bytealg.abigen_runtime_cmpstring"], unfollowed := true, recurses := true, apart := false, narrowed := true }
def FnExactScanPastUptoSaid : Prop := fnExactScanPastUptoRow.holds Tryz.pinned (OpenSpec.upto fnExactScanPastSpec)

/-- 'laws.FnExactScanCover', WHERE WHAT IT READS IS OF BULK AT MOST 1048576: true; the input reads as it did. -/
def fnExactScanCoverUptoRow : OpenClaim := { program := "ytiadonijmkklcaagreat", sum := "6b9fe1bd9fbc0f1e42fee435622f953245a9201627dd9a9ec1f29cd7dc0eef2d", func := "loop.example/g00468/laws.FnExactScanCover", spec := "fnExactScanCover", inPlace := ["internal/bytealg.abigen_runtime_cmpstring"], unfollowed := true, recurses := true, apart := false, narrowed := true }
def FnExactScanCoverUptoSaid : Prop := fnExactScanCoverUptoRow.holds Tryz.pinned (OpenSpec.upto fnExactScanCoverSpec)

end Rows
end Go.Proofs.YtiadonijmkklcaaGreat
