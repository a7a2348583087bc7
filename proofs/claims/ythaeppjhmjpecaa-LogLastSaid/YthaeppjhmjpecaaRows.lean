/-
  No cell of these rows narrows 'for every input' (looked for: loops, veiled, ifaces, maps, wideKeys, modest, calm, conditions, laid).
  DERIVED. THE GIVEN ROWS OF THIS SEAT. 11 by the template 'for every input the law returns true; each argument reads behind the call as it read before'; 0 by the template 'total and deterministic' (their statements: YthaeppjhmjpecaaTotals.lean).
  GIVEN WITH THE SEED: the statements are not yours to turn. If you find one false, say at which input.
  Laid BY PROGRAM, IN A SANDBOX (cutbox-rows.mjs): the forced cells as the released guide's own fill.sh prints them over the translation 11b46f86be3f1eda… (all of the seat's roots in one cut). By AI agents, Wed Nov 11 2026. No macro, syntax, notation, axiom, sorry.
-/
import Derived.Test.YthaeppjhmjpecaaChecked
import GoSem.Claim
import GoSem.ClaimJoined
import GoSem.ClaimMapViews
import Derived.JoinedTies
import Derived.KernelRfl
namespace Go.Proofs.Ythaeppjhmjpecaa
/- THE CELL 'sum', in the pinned program and in every row, IS THE sha256 OF THE DUMP (.gsa) THAT YthaeppjhmjpecaaProg.lean LOADS. Nothing in Lean hashes anything: it is a label: what it is worth is what the hold of that sum in a sandbox is worth. -/
noncomputable def Try.pinned : Pinned := { name := "ythaeppjhmjpecaa", sum := "11b46f86be3f1eda327e15411f7e315a66a376b42a15f2d6894c87b29560c2b1", checked := Try.checked }
namespace Rows
def none {H : Type} : Left H := { results := [], args := [] }

/-- 'girolaw4.TapeOwn': WHATEVER THE INPUT: true; the input reads as it did. -/
def tapeOwnSpec : ChangeSpec := { name := "tapeOwn", fn := fun _ => fun
  | [d1, d2] => { results := [.lit (.bool true)], args := [d1, d2] }
  | _ => none }
def tapeOwnRow : OpenClaim := { program := "ythaeppjhmjpecaa", sum := "11b46f86be3f1eda327e15411f7e315a66a376b42a15f2d6894c87b29560c2b1", func := "giro/girolaw4.TapeOwn", spec := "tapeOwn", apart := false }
def TapeOwnSaid : Prop := tapeOwnRow.holds Try.pinned (OpenSpec.ofChange tapeOwnSpec)

/-- ITS FALSE NEIGHBOUR: 'it returns false'. Refute it at one input. -/
def tapeOwnWrong : ChangeSpec := { name := "tapeOwn", fn := fun _ => fun
  | [d1, d2] => { results := [.lit (.bool false)], args := [d1, d2] }
  | _ => none }
def TapeOwnWrongFalsely : Prop := tapeOwnRow.holds Try.pinned (OpenSpec.ofChange tapeOwnWrong)

/-- 'girolaw4.TapeWhere': WHATEVER THE INPUT: true; the input reads as it did. -/
def tapeWhereSpec : ChangeSpec := { name := "tapeWhere", fn := fun _ => fun
  | [d1, d2, d3] => { results := [.lit (.bool true)], args := [d1, d2, d3] }
  | _ => none }
def tapeWhereRow : OpenClaim := { program := "ythaeppjhmjpecaa", sum := "11b46f86be3f1eda327e15411f7e315a66a376b42a15f2d6894c87b29560c2b1", func := "giro/girolaw4.TapeWhere", spec := "tapeWhere", apart := false }
def TapeWhereSaid : Prop := tapeWhereRow.holds Try.pinned (OpenSpec.ofChange tapeWhereSpec)

/-- ITS FALSE NEIGHBOUR: 'it returns false'. Refute it at one input. -/
def tapeWhereWrong : ChangeSpec := { name := "tapeWhere", fn := fun _ => fun
  | [d1, d2, d3] => { results := [.lit (.bool false)], args := [d1, d2, d3] }
  | _ => none }
def TapeWhereWrongFalsely : Prop := tapeWhereRow.holds Try.pinned (OpenSpec.ofChange tapeWhereWrong)

/-- 'girolaw4.TapeKeeps': WHATEVER THE INPUT: true; the input reads as it did. -/
def tapeKeepsSpec : ChangeSpec := { name := "tapeKeeps", fn := fun _ => fun
  | [d1, d2, d3, d4] => { results := [.lit (.bool true)], args := [d1, d2, d3, d4] }
  | _ => none }
def tapeKeepsRow : OpenClaim := { program := "ythaeppjhmjpecaa", sum := "11b46f86be3f1eda327e15411f7e315a66a376b42a15f2d6894c87b29560c2b1", func := "giro/girolaw4.TapeKeeps", spec := "tapeKeeps", apart := false }
def TapeKeepsSaid : Prop := tapeKeepsRow.holds Try.pinned (OpenSpec.ofChange tapeKeepsSpec)

/-- ITS FALSE NEIGHBOUR: 'it returns false'. Refute it at one input. -/
def tapeKeepsWrong : ChangeSpec := { name := "tapeKeeps", fn := fun _ => fun
  | [d1, d2, d3, d4] => { results := [.lit (.bool false)], args := [d1, d2, d3, d4] }
  | _ => none }
def TapeKeepsWrongFalsely : Prop := tapeKeepsRow.holds Try.pinned (OpenSpec.ofChange tapeKeepsWrong)

/-- 'girolaw4.TapeSynced': WHATEVER THE INPUT: true; the input reads as it did. -/
def tapeSyncedSpec : ChangeSpec := { name := "tapeSynced", fn := fun _ => fun
  | [d1, d2, d3, d4] => { results := [.lit (.bool true)], args := [d1, d2, d3, d4] }
  | _ => none }
def tapeSyncedRow : OpenClaim := { program := "ythaeppjhmjpecaa", sum := "11b46f86be3f1eda327e15411f7e315a66a376b42a15f2d6894c87b29560c2b1", func := "giro/girolaw4.TapeSynced", spec := "tapeSynced", apart := false }
def TapeSyncedSaid : Prop := tapeSyncedRow.holds Try.pinned (OpenSpec.ofChange tapeSyncedSpec)

/-- ITS FALSE NEIGHBOUR: 'it returns false'. Refute it at one input. -/
def tapeSyncedWrong : ChangeSpec := { name := "tapeSynced", fn := fun _ => fun
  | [d1, d2, d3, d4] => { results := [.lit (.bool false)], args := [d1, d2, d3, d4] }
  | _ => none }
def TapeSyncedWrongFalsely : Prop := tapeSyncedRow.holds Try.pinned (OpenSpec.ofChange tapeSyncedWrong)

/-- 'girolaw4.TapePlays': WHATEVER THE INPUT: true; the input reads as it did. -/
def tapePlaysSpec : ChangeSpec := { name := "tapePlays", fn := fun _ => fun
  | [d1, d2] => { results := [.lit (.bool true)], args := [d1, d2] }
  | _ => none }
def tapePlaysRow : OpenClaim := { program := "ythaeppjhmjpecaa", sum := "11b46f86be3f1eda327e15411f7e315a66a376b42a15f2d6894c87b29560c2b1", func := "giro/girolaw4.TapePlays", spec := "tapePlays", apart := false }
def TapePlaysSaid : Prop := tapePlaysRow.holds Try.pinned (OpenSpec.ofChange tapePlaysSpec)

/-- ITS FALSE NEIGHBOUR: 'it returns false'. Refute it at one input. -/
def tapePlaysWrong : ChangeSpec := { name := "tapePlays", fn := fun _ => fun
  | [d1, d2] => { results := [.lit (.bool false)], args := [d1, d2] }
  | _ => none }
def TapePlaysWrongFalsely : Prop := tapePlaysRow.holds Try.pinned (OpenSpec.ofChange tapePlaysWrong)

/-- 'girolaw4.TapeFull': WHATEVER THE INPUT: true; the input reads as it did. -/
def tapeFullSpec : ChangeSpec := { name := "tapeFull", fn := fun _ => fun
  | [d1, d2, d3] => { results := [.lit (.bool true)], args := [d1, d2, d3] }
  | _ => none }
def tapeFullRow : OpenClaim := { program := "ythaeppjhmjpecaa", sum := "11b46f86be3f1eda327e15411f7e315a66a376b42a15f2d6894c87b29560c2b1", func := "giro/girolaw4.TapeFull", spec := "tapeFull", apart := false }
def TapeFullSaid : Prop := tapeFullRow.holds Try.pinned (OpenSpec.ofChange tapeFullSpec)

/-- ITS FALSE NEIGHBOUR: 'it returns false'. Refute it at one input. -/
def tapeFullWrong : ChangeSpec := { name := "tapeFull", fn := fun _ => fun
  | [d1, d2, d3] => { results := [.lit (.bool false)], args := [d1, d2, d3] }
  | _ => none }
def TapeFullWrongFalsely : Prop := tapeFullRow.holds Try.pinned (OpenSpec.ofChange tapeFullWrong)

/-- 'girolaw6.LogGens': WHATEVER THE INPUT: true; the input reads as it did. -/
def logGensSpec : ChangeSpec := { name := "logGens", fn := fun _ => fun
  | [d1, d2] => { results := [.lit (.bool true)], args := [d1, d2] }
  | _ => none }
def logGensRow : OpenClaim := { program := "ythaeppjhmjpecaa", sum := "11b46f86be3f1eda327e15411f7e315a66a376b42a15f2d6894c87b29560c2b1", func := "giro/girolaw6.LogGens", spec := "logGens", apart := false }
def LogGensSaid : Prop := logGensRow.holds Try.pinned (OpenSpec.ofChange logGensSpec)

/-- ITS FALSE NEIGHBOUR: 'it returns false'. Refute it at one input. -/
def logGensWrong : ChangeSpec := { name := "logGens", fn := fun _ => fun
  | [d1, d2] => { results := [.lit (.bool false)], args := [d1, d2] }
  | _ => none }
def LogGensWrongFalsely : Prop := logGensRow.holds Try.pinned (OpenSpec.ofChange logGensWrong)

/-- 'girolaw6.LogBytes': WHATEVER THE INPUT: true; the input reads as it did. -/
def logBytesSpec : ChangeSpec := { name := "logBytes", fn := fun _ => fun
  | [d1, d2, d3] => { results := [.lit (.bool true)], args := [d1, d2, d3] }
  | _ => none }
def logBytesRow : OpenClaim := { program := "ythaeppjhmjpecaa", sum := "11b46f86be3f1eda327e15411f7e315a66a376b42a15f2d6894c87b29560c2b1", func := "giro/girolaw6.LogBytes", spec := "logBytes", apart := false }
def LogBytesSaid : Prop := logBytesRow.holds Try.pinned (OpenSpec.ofChange logBytesSpec)

/-- ITS FALSE NEIGHBOUR: 'it returns false'. Refute it at one input. -/
def logBytesWrong : ChangeSpec := { name := "logBytes", fn := fun _ => fun
  | [d1, d2, d3] => { results := [.lit (.bool false)], args := [d1, d2, d3] }
  | _ => none }
def LogBytesWrongFalsely : Prop := logBytesRow.holds Try.pinned (OpenSpec.ofChange logBytesWrong)

/-- 'girolaw6.LogFull': WHATEVER THE INPUT: true; the input reads as it did. -/
def logFullSpec : ChangeSpec := { name := "logFull", fn := fun _ => fun
  | [d1, d2, d3, d4] => { results := [.lit (.bool true)], args := [d1, d2, d3, d4] }
  | _ => none }
def logFullRow : OpenClaim := { program := "ythaeppjhmjpecaa", sum := "11b46f86be3f1eda327e15411f7e315a66a376b42a15f2d6894c87b29560c2b1", func := "giro/girolaw6.LogFull", spec := "logFull", apart := false }
def LogFullSaid : Prop := logFullRow.holds Try.pinned (OpenSpec.ofChange logFullSpec)

/-- ITS FALSE NEIGHBOUR: 'it returns false'. Refute it at one input. -/
def logFullWrong : ChangeSpec := { name := "logFull", fn := fun _ => fun
  | [d1, d2, d3, d4] => { results := [.lit (.bool false)], args := [d1, d2, d3, d4] }
  | _ => none }
def LogFullWrongFalsely : Prop := logFullRow.holds Try.pinned (OpenSpec.ofChange logFullWrong)

/-- 'girolaw6.LogSides': WHATEVER THE INPUT: true; the input reads as it did. -/
def logSidesSpec : ChangeSpec := { name := "logSides", fn := fun _ => fun
  | [d] => { results := [.lit (.bool true)], args := [d] }
  | _ => none }
def logSidesRow : OpenClaim := { program := "ythaeppjhmjpecaa", sum := "11b46f86be3f1eda327e15411f7e315a66a376b42a15f2d6894c87b29560c2b1", func := "giro/girolaw6.LogSides", spec := "logSides", apart := false }
def LogSidesSaid : Prop := logSidesRow.holds Try.pinned (OpenSpec.ofChange logSidesSpec)

/-- ITS FALSE NEIGHBOUR: 'it returns false'. Refute it at one input. -/
def logSidesWrong : ChangeSpec := { name := "logSides", fn := fun _ => fun
  | [d] => { results := [.lit (.bool false)], args := [d] }
  | _ => none }
def LogSidesWrongFalsely : Prop := logSidesRow.holds Try.pinned (OpenSpec.ofChange logSidesWrong)

/-- 'girolaw6.LogLast': WHATEVER THE INPUT: true; the input reads as it did. -/
def logLastSpec : ChangeSpec := { name := "logLast", fn := fun _ => fun
  | [d] => { results := [.lit (.bool true)], args := [d] }
  | _ => none }
def logLastRow : OpenClaim := { program := "ythaeppjhmjpecaa", sum := "11b46f86be3f1eda327e15411f7e315a66a376b42a15f2d6894c87b29560c2b1", func := "giro/girolaw6.LogLast", spec := "logLast", apart := false }
def LogLastSaid : Prop := logLastRow.holds Try.pinned (OpenSpec.ofChange logLastSpec)

/-- ITS FALSE NEIGHBOUR: 'it returns false'. Refute it at one input. -/
def logLastWrong : ChangeSpec := { name := "logLast", fn := fun _ => fun
  | [d] => { results := [.lit (.bool false)], args := [d] }
  | _ => none }
def LogLastWrongFalsely : Prop := logLastRow.holds Try.pinned (OpenSpec.ofChange logLastWrong)

/- THE SECOND FORM. 'bulk': how many values and letters a reading holds, each counted each time it is reached (what is shared counts as often as it is met; a slice's spare places count too). A statement '..UptoSaid' is the law's where the arguments, and the package variables that the reading takes, are together of bulk at most 1048576: NARROWER than '..Said'. Prove '..Said' where nothing that the law and all that it calls make is longer than what came in: it says more and counts as full. Else prove '..UptoSaid'. A law counts once. -/
mutual
def uptoBulk {H : Type} : DataW H → Nat
  | .lit (.string bytes) => bytes.length + 1
  | .lit _ => 1
  | .nil => 1
  | .ptr d => uptoBulk d + 1
  | .slice elems spare => uptoBulkAll elems + uptoBulkAll spare + 1
  | .agg parts => uptoBulkAll parts + 1
  | .iface _ d => uptoBulk d + 1
  | .map entries => uptoBulkEntries entries + 1
  | .held _ => 1
def uptoBulkAll {H : Type} : List (DataW H) → Nat
  | [] => 0
  | d :: r => uptoBulk d + uptoBulkAll r
def uptoBulkEntries {H : Type} : List (Lit × DataW H) → Nat
  | [] => 0
  | x :: r => uptoBulkEntry x + uptoBulkEntries r
def uptoBulkEntry {H : Type} : Lit × DataW H → Nat
  | (.string bytes, d) => bytes.length + uptoBulk d + 1
  | (_, d) => uptoBulk d + 1
 end
def uptoSmall : (H : Type) → List (DataW H) → Bool := fun _ ds => decide (uptoBulkAll ds ≤ 1048576)
def OpenSpec.upto (s : _root_.Go.ChangeSpec) : _root_.Go.OpenSpec := { _root_.Go.OpenSpec.ofChange s with cond := some uptoSmall }

/-- 'girolaw4.TapeOwn', WHERE WHAT IT READS IS OF BULK AT MOST 1048576: true; the input reads as it did. -/
def tapeOwnUptoRow : OpenClaim := { program := "ythaeppjhmjpecaa", sum := "11b46f86be3f1eda327e15411f7e315a66a376b42a15f2d6894c87b29560c2b1", func := "giro/girolaw4.TapeOwn", spec := "tapeOwn", apart := false, narrowed := true }
def TapeOwnUptoSaid : Prop := tapeOwnUptoRow.holds Try.pinned (OpenSpec.upto tapeOwnSpec)

/-- 'girolaw4.TapeWhere', WHERE WHAT IT READS IS OF BULK AT MOST 1048576: true; the input reads as it did. -/
def tapeWhereUptoRow : OpenClaim := { program := "ythaeppjhmjpecaa", sum := "11b46f86be3f1eda327e15411f7e315a66a376b42a15f2d6894c87b29560c2b1", func := "giro/girolaw4.TapeWhere", spec := "tapeWhere", apart := false, narrowed := true }
def TapeWhereUptoSaid : Prop := tapeWhereUptoRow.holds Try.pinned (OpenSpec.upto tapeWhereSpec)

/-- 'girolaw4.TapeKeeps', WHERE WHAT IT READS IS OF BULK AT MOST 1048576: true; the input reads as it did. -/
def tapeKeepsUptoRow : OpenClaim := { program := "ythaeppjhmjpecaa", sum := "11b46f86be3f1eda327e15411f7e315a66a376b42a15f2d6894c87b29560c2b1", func := "giro/girolaw4.TapeKeeps", spec := "tapeKeeps", apart := false, narrowed := true }
def TapeKeepsUptoSaid : Prop := tapeKeepsUptoRow.holds Try.pinned (OpenSpec.upto tapeKeepsSpec)

/-- 'girolaw4.TapeSynced', WHERE WHAT IT READS IS OF BULK AT MOST 1048576: true; the input reads as it did. -/
def tapeSyncedUptoRow : OpenClaim := { program := "ythaeppjhmjpecaa", sum := "11b46f86be3f1eda327e15411f7e315a66a376b42a15f2d6894c87b29560c2b1", func := "giro/girolaw4.TapeSynced", spec := "tapeSynced", apart := false, narrowed := true }
def TapeSyncedUptoSaid : Prop := tapeSyncedUptoRow.holds Try.pinned (OpenSpec.upto tapeSyncedSpec)

/-- 'girolaw4.TapePlays', WHERE WHAT IT READS IS OF BULK AT MOST 1048576: true; the input reads as it did. -/
def tapePlaysUptoRow : OpenClaim := { program := "ythaeppjhmjpecaa", sum := "11b46f86be3f1eda327e15411f7e315a66a376b42a15f2d6894c87b29560c2b1", func := "giro/girolaw4.TapePlays", spec := "tapePlays", apart := false, narrowed := true }
def TapePlaysUptoSaid : Prop := tapePlaysUptoRow.holds Try.pinned (OpenSpec.upto tapePlaysSpec)

/-- 'girolaw4.TapeFull', WHERE WHAT IT READS IS OF BULK AT MOST 1048576: true; the input reads as it did. -/
def tapeFullUptoRow : OpenClaim := { program := "ythaeppjhmjpecaa", sum := "11b46f86be3f1eda327e15411f7e315a66a376b42a15f2d6894c87b29560c2b1", func := "giro/girolaw4.TapeFull", spec := "tapeFull", apart := false, narrowed := true }
def TapeFullUptoSaid : Prop := tapeFullUptoRow.holds Try.pinned (OpenSpec.upto tapeFullSpec)

/-- 'girolaw6.LogGens', WHERE WHAT IT READS IS OF BULK AT MOST 1048576: true; the input reads as it did. -/
def logGensUptoRow : OpenClaim := { program := "ythaeppjhmjpecaa", sum := "11b46f86be3f1eda327e15411f7e315a66a376b42a15f2d6894c87b29560c2b1", func := "giro/girolaw6.LogGens", spec := "logGens", apart := false, narrowed := true }
def LogGensUptoSaid : Prop := logGensUptoRow.holds Try.pinned (OpenSpec.upto logGensSpec)

/-- 'girolaw6.LogBytes', WHERE WHAT IT READS IS OF BULK AT MOST 1048576: true; the input reads as it did. -/
def logBytesUptoRow : OpenClaim := { program := "ythaeppjhmjpecaa", sum := "11b46f86be3f1eda327e15411f7e315a66a376b42a15f2d6894c87b29560c2b1", func := "giro/girolaw6.LogBytes", spec := "logBytes", apart := false, narrowed := true }
def LogBytesUptoSaid : Prop := logBytesUptoRow.holds Try.pinned (OpenSpec.upto logBytesSpec)

/-- 'girolaw6.LogFull', WHERE WHAT IT READS IS OF BULK AT MOST 1048576: true; the input reads as it did. -/
def logFullUptoRow : OpenClaim := { program := "ythaeppjhmjpecaa", sum := "11b46f86be3f1eda327e15411f7e315a66a376b42a15f2d6894c87b29560c2b1", func := "giro/girolaw6.LogFull", spec := "logFull", apart := false, narrowed := true }
def LogFullUptoSaid : Prop := logFullUptoRow.holds Try.pinned (OpenSpec.upto logFullSpec)

/-- 'girolaw6.LogSides', WHERE WHAT IT READS IS OF BULK AT MOST 1048576: true; the input reads as it did. -/
def logSidesUptoRow : OpenClaim := { program := "ythaeppjhmjpecaa", sum := "11b46f86be3f1eda327e15411f7e315a66a376b42a15f2d6894c87b29560c2b1", func := "giro/girolaw6.LogSides", spec := "logSides", apart := false, narrowed := true }
def LogSidesUptoSaid : Prop := logSidesUptoRow.holds Try.pinned (OpenSpec.upto logSidesSpec)

/-- 'girolaw6.LogLast', WHERE WHAT IT READS IS OF BULK AT MOST 1048576: true; the input reads as it did. -/
def logLastUptoRow : OpenClaim := { program := "ythaeppjhmjpecaa", sum := "11b46f86be3f1eda327e15411f7e315a66a376b42a15f2d6894c87b29560c2b1", func := "giro/girolaw6.LogLast", spec := "logLast", apart := false, narrowed := true }
def LogLastUptoSaid : Prop := logLastUptoRow.holds Try.pinned (OpenSpec.upto logLastSpec)

end Rows
end Go.Proofs.Ythaeppjhmjpecaa
