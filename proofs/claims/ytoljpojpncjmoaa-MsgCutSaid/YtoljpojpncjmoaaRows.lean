/-
  No cell of these rows narrows 'for every input' (looked for: loops, veiled, ifaces, maps, wideKeys, modest, calm, conditions, laid).
  DERIVED. THE GIVEN ROWS OF THIS SEAT. 16 by the template 'for every input the law returns true; each argument reads behind the call as it read before'; 0 by the template 'total and deterministic' (their statements: YtoljpojpncjmoaaTotals.lean).
  GIVEN WITH THE SEED: the statements are not yours to turn. If you find one false, say at which input.
  Laid BY PROGRAM, IN A SANDBOX (cutbox-rows.mjs): the forced cells as the released guide's own fill.sh prints them over the translation a9d7090194e32253… (all of the seat's roots in one cut). By AI agents, Wed Nov 11 2026. No macro, syntax, notation, axiom, sorry.
-/
import Derived.Test.YtoljpojpncjmoaaChecked
import GoSem.Claim
import GoSem.ClaimJoined
import GoSem.ClaimMapViews
import Derived.JoinedTies
import Derived.KernelRfl
namespace Go.Proofs.Ytoljpojpncjmoaa
/- THE CELL 'sum', in the pinned program and in every row, IS THE sha256 OF THE DUMP (.gsa) THAT YtoljpojpncjmoaaProg.lean LOADS. Nothing in Lean hashes anything: it is a label: what it is worth is what the hold of that sum in a sandbox is worth. -/
noncomputable def Try.pinned : Pinned := { name := "ytoljpojpncjmoaa", sum := "a9d7090194e322538946008686f7ee6f9499aff75af576ec18770143797572bf", checked := Try.checked }
namespace Rows
def none {H : Type} : Left H := { results := [], args := [] }

/-- 'girolaw5.RecPuts': WHATEVER THE INPUT: true; the input reads as it did. -/
def recPutsSpec : ChangeSpec := { name := "recPuts", fn := fun _ => fun
  | [d] => { results := [.lit (.bool true)], args := [d] }
  | _ => none }
def recPutsRow : OpenClaim := { program := "ytoljpojpncjmoaa", sum := "a9d7090194e322538946008686f7ee6f9499aff75af576ec18770143797572bf", func := "giro/girolaw5.RecPuts", spec := "recPuts", apart := false }
def RecPutsSaid : Prop := recPutsRow.holds Try.pinned (OpenSpec.ofChange recPutsSpec)

/-- ITS FALSE NEIGHBOUR: 'it returns false'. Refute it at one input. -/
def recPutsWrong : ChangeSpec := { name := "recPuts", fn := fun _ => fun
  | [d] => { results := [.lit (.bool false)], args := [d] }
  | _ => none }
def RecPutsWrongFalsely : Prop := recPutsRow.holds Try.pinned (OpenSpec.ofChange recPutsWrong)

/-- 'girolaw5.RecCut': WHATEVER THE INPUT: true; the input reads as it did. -/
def recCutSpec : ChangeSpec := { name := "recCut", fn := fun _ => fun
  | [d1, d2] => { results := [.lit (.bool true)], args := [d1, d2] }
  | _ => none }
def recCutRow : OpenClaim := { program := "ytoljpojpncjmoaa", sum := "a9d7090194e322538946008686f7ee6f9499aff75af576ec18770143797572bf", func := "giro/girolaw5.RecCut", spec := "recCut", apart := false }
def RecCutSaid : Prop := recCutRow.holds Try.pinned (OpenSpec.ofChange recCutSpec)

/-- ITS FALSE NEIGHBOUR: 'it returns false'. Refute it at one input. -/
def recCutWrong : ChangeSpec := { name := "recCut", fn := fun _ => fun
  | [d1, d2] => { results := [.lit (.bool false)], args := [d1, d2] }
  | _ => none }
def RecCutWrongFalsely : Prop := recCutRow.holds Try.pinned (OpenSpec.ofChange recCutWrong)

/-- 'girolaw5.RecLong': WHATEVER THE INPUT: true; the input reads as it did. -/
def recLongSpec : ChangeSpec := { name := "recLong", fn := fun _ => fun
  | [d] => { results := [.lit (.bool true)], args := [d] }
  | _ => none }
def recLongRow : OpenClaim := { program := "ytoljpojpncjmoaa", sum := "a9d7090194e322538946008686f7ee6f9499aff75af576ec18770143797572bf", func := "giro/girolaw5.RecLong", spec := "recLong", apart := false }
def RecLongSaid : Prop := recLongRow.holds Try.pinned (OpenSpec.ofChange recLongSpec)

/-- ITS FALSE NEIGHBOUR: 'it returns false'. Refute it at one input. -/
def recLongWrong : ChangeSpec := { name := "recLong", fn := fun _ => fun
  | [d] => { results := [.lit (.bool false)], args := [d] }
  | _ => none }
def RecLongWrongFalsely : Prop := recLongRow.holds Try.pinned (OpenSpec.ofChange recLongWrong)

/-- 'girolaw5.RecBack': WHATEVER THE INPUT: true; the input reads as it did. -/
def recBackSpec : ChangeSpec := { name := "recBack", fn := fun _ => fun
  | [d] => { results := [.lit (.bool true)], args := [d] }
  | _ => none }
def recBackRow : OpenClaim := { program := "ytoljpojpncjmoaa", sum := "a9d7090194e322538946008686f7ee6f9499aff75af576ec18770143797572bf", func := "giro/girolaw5.RecBack", spec := "recBack", apart := false }
def RecBackSaid : Prop := recBackRow.holds Try.pinned (OpenSpec.ofChange recBackSpec)

/-- ITS FALSE NEIGHBOUR: 'it returns false'. Refute it at one input. -/
def recBackWrong : ChangeSpec := { name := "recBack", fn := fun _ => fun
  | [d] => { results := [.lit (.bool false)], args := [d] }
  | _ => none }
def RecBackWrongFalsely : Prop := recBackRow.holds Try.pinned (OpenSpec.ofChange recBackWrong)

/-- 'girolaw2.WordGets': WHATEVER THE INPUT: true; the input reads as it did. -/
def wordGetsSpec : ChangeSpec := { name := "wordGets", fn := fun _ => fun
  | [d] => { results := [.lit (.bool true)], args := [d] }
  | _ => none }
def wordGetsRow : OpenClaim := { program := "ytoljpojpncjmoaa", sum := "a9d7090194e322538946008686f7ee6f9499aff75af576ec18770143797572bf", func := "giro/girolaw2.WordGets", spec := "wordGets", apart := false }
def WordGetsSaid : Prop := wordGetsRow.holds Try.pinned (OpenSpec.ofChange wordGetsSpec)

/-- ITS FALSE NEIGHBOUR: 'it returns false'. Refute it at one input. -/
def wordGetsWrong : ChangeSpec := { name := "wordGets", fn := fun _ => fun
  | [d] => { results := [.lit (.bool false)], args := [d] }
  | _ => none }
def WordGetsWrongFalsely : Prop := wordGetsRow.holds Try.pinned (OpenSpec.ofChange wordGetsWrong)

/-- 'girolaw2.WordCut': WHATEVER THE INPUT: true; the input reads as it did. -/
def wordCutSpec : ChangeSpec := { name := "wordCut", fn := fun _ => fun
  | [d1, d2] => { results := [.lit (.bool true)], args := [d1, d2] }
  | _ => none }
def wordCutRow : OpenClaim := { program := "ytoljpojpncjmoaa", sum := "a9d7090194e322538946008686f7ee6f9499aff75af576ec18770143797572bf", func := "giro/girolaw2.WordCut", spec := "wordCut", apart := false }
def WordCutSaid : Prop := wordCutRow.holds Try.pinned (OpenSpec.ofChange wordCutSpec)

/-- ITS FALSE NEIGHBOUR: 'it returns false'. Refute it at one input. -/
def wordCutWrong : ChangeSpec := { name := "wordCut", fn := fun _ => fun
  | [d1, d2] => { results := [.lit (.bool false)], args := [d1, d2] }
  | _ => none }
def WordCutWrongFalsely : Prop := wordCutRow.holds Try.pinned (OpenSpec.ofChange wordCutWrong)

/-- 'girolaw2.WordOwn': WHATEVER THE INPUT: true; the input reads as it did. -/
def wordOwnSpec : ChangeSpec := { name := "wordOwn", fn := fun _ => fun
  | [d] => { results := [.lit (.bool true)], args := [d] }
  | _ => none }
def wordOwnRow : OpenClaim := { program := "ytoljpojpncjmoaa", sum := "a9d7090194e322538946008686f7ee6f9499aff75af576ec18770143797572bf", func := "giro/girolaw2.WordOwn", spec := "wordOwn", apart := false }
def WordOwnSaid : Prop := wordOwnRow.holds Try.pinned (OpenSpec.ofChange wordOwnSpec)

/-- ITS FALSE NEIGHBOUR: 'it returns false'. Refute it at one input. -/
def wordOwnWrong : ChangeSpec := { name := "wordOwn", fn := fun _ => fun
  | [d] => { results := [.lit (.bool false)], args := [d] }
  | _ => none }
def WordOwnWrongFalsely : Prop := wordOwnRow.holds Try.pinned (OpenSpec.ofChange wordOwnWrong)

/-- 'girolaw2.WordOdd': WHATEVER THE INPUT: true; the input reads as it did. -/
def wordOddSpec : ChangeSpec := { name := "wordOdd", fn := fun _ => fun
  | [d] => { results := [.lit (.bool true)], args := [d] }
  | _ => none }
def wordOddRow : OpenClaim := { program := "ytoljpojpncjmoaa", sum := "a9d7090194e322538946008686f7ee6f9499aff75af576ec18770143797572bf", func := "giro/girolaw2.WordOdd", spec := "wordOdd", apart := false }
def WordOddSaid : Prop := wordOddRow.holds Try.pinned (OpenSpec.ofChange wordOddSpec)

/-- ITS FALSE NEIGHBOUR: 'it returns false'. Refute it at one input. -/
def wordOddWrong : ChangeSpec := { name := "wordOdd", fn := fun _ => fun
  | [d] => { results := [.lit (.bool false)], args := [d] }
  | _ => none }
def WordOddWrongFalsely : Prop := wordOddRow.holds Try.pinned (OpenSpec.ofChange wordOddWrong)

/-- 'girolaw2.WordPuts': WHATEVER THE INPUT: true; the input reads as it did. -/
def wordPutsSpec : ChangeSpec := { name := "wordPuts", fn := fun _ => fun
  | [d1, d2] => { results := [.lit (.bool true)], args := [d1, d2] }
  | _ => none }
def wordPutsRow : OpenClaim := { program := "ytoljpojpncjmoaa", sum := "a9d7090194e322538946008686f7ee6f9499aff75af576ec18770143797572bf", func := "giro/girolaw2.WordPuts", spec := "wordPuts", apart := false }
def WordPutsSaid : Prop := wordPutsRow.holds Try.pinned (OpenSpec.ofChange wordPutsSpec)

/-- ITS FALSE NEIGHBOUR: 'it returns false'. Refute it at one input. -/
def wordPutsWrong : ChangeSpec := { name := "wordPuts", fn := fun _ => fun
  | [d1, d2] => { results := [.lit (.bool false)], args := [d1, d2] }
  | _ => none }
def WordPutsWrongFalsely : Prop := wordPutsRow.holds Try.pinned (OpenSpec.ofChange wordPutsWrong)

/-- 'girolaw2.WordRows': WHATEVER THE INPUT: true; the input reads as it did. -/
def wordRowsSpec : ChangeSpec := { name := "wordRows", fn := fun _ => fun
  | [d] => { results := [.lit (.bool true)], args := [d] }
  | _ => none }
def wordRowsRow : OpenClaim := { program := "ytoljpojpncjmoaa", sum := "a9d7090194e322538946008686f7ee6f9499aff75af576ec18770143797572bf", func := "giro/girolaw2.WordRows", spec := "wordRows", apart := false }
def WordRowsSaid : Prop := wordRowsRow.holds Try.pinned (OpenSpec.ofChange wordRowsSpec)

/-- ITS FALSE NEIGHBOUR: 'it returns false'. Refute it at one input. -/
def wordRowsWrong : ChangeSpec := { name := "wordRows", fn := fun _ => fun
  | [d] => { results := [.lit (.bool false)], args := [d] }
  | _ => none }
def WordRowsWrongFalsely : Prop := wordRowsRow.holds Try.pinned (OpenSpec.ofChange wordRowsWrong)

/-- 'girolaw3.MsgNumbers': WHATEVER THE INPUT: true; the input reads as it did. -/
def msgNumbersSpec : ChangeSpec := { name := "msgNumbers", fn := fun _ => fun
  | [d1, d2] => { results := [.lit (.bool true)], args := [d1, d2] }
  | _ => none }
def msgNumbersRow : OpenClaim := { program := "ytoljpojpncjmoaa", sum := "a9d7090194e322538946008686f7ee6f9499aff75af576ec18770143797572bf", func := "giro/girolaw3.MsgNumbers", spec := "msgNumbers", apart := false }
def MsgNumbersSaid : Prop := msgNumbersRow.holds Try.pinned (OpenSpec.ofChange msgNumbersSpec)

/-- ITS FALSE NEIGHBOUR: 'it returns false'. Refute it at one input. -/
def msgNumbersWrong : ChangeSpec := { name := "msgNumbers", fn := fun _ => fun
  | [d1, d2] => { results := [.lit (.bool false)], args := [d1, d2] }
  | _ => none }
def MsgNumbersWrongFalsely : Prop := msgNumbersRow.holds Try.pinned (OpenSpec.ofChange msgNumbersWrong)

/-- 'girolaw3.MsgKinds': WHATEVER THE INPUT: true; the input reads as it did. -/
def msgKindsSpec : ChangeSpec := { name := "msgKinds", fn := fun _ => fun
  | [d] => { results := [.lit (.bool true)], args := [d] }
  | _ => none }
def msgKindsRow : OpenClaim := { program := "ytoljpojpncjmoaa", sum := "a9d7090194e322538946008686f7ee6f9499aff75af576ec18770143797572bf", func := "giro/girolaw3.MsgKinds", spec := "msgKinds", apart := false }
def MsgKindsSaid : Prop := msgKindsRow.holds Try.pinned (OpenSpec.ofChange msgKindsSpec)

/-- ITS FALSE NEIGHBOUR: 'it returns false'. Refute it at one input. -/
def msgKindsWrong : ChangeSpec := { name := "msgKinds", fn := fun _ => fun
  | [d] => { results := [.lit (.bool false)], args := [d] }
  | _ => none }
def MsgKindsWrongFalsely : Prop := msgKindsRow.holds Try.pinned (OpenSpec.ofChange msgKindsWrong)

/-- 'girolaw3.MsgRest': WHATEVER THE INPUT: true; the input reads as it did. -/
def msgRestSpec : ChangeSpec := { name := "msgRest", fn := fun _ => fun
  | [d1, d2, d3] => { results := [.lit (.bool true)], args := [d1, d2, d3] }
  | _ => none }
def msgRestRow : OpenClaim := { program := "ytoljpojpncjmoaa", sum := "a9d7090194e322538946008686f7ee6f9499aff75af576ec18770143797572bf", func := "giro/girolaw3.MsgRest", spec := "msgRest", apart := false }
def MsgRestSaid : Prop := msgRestRow.holds Try.pinned (OpenSpec.ofChange msgRestSpec)

/-- ITS FALSE NEIGHBOUR: 'it returns false'. Refute it at one input. -/
def msgRestWrong : ChangeSpec := { name := "msgRest", fn := fun _ => fun
  | [d1, d2, d3] => { results := [.lit (.bool false)], args := [d1, d2, d3] }
  | _ => none }
def MsgRestWrongFalsely : Prop := msgRestRow.holds Try.pinned (OpenSpec.ofChange msgRestWrong)

/-- 'girolaw3.MsgReads': WHATEVER THE INPUT: true; the input reads as it did. -/
def msgReadsSpec : ChangeSpec := { name := "msgReads", fn := fun _ => fun
  | [d] => { results := [.lit (.bool true)], args := [d] }
  | _ => none }
def msgReadsRow : OpenClaim := { program := "ytoljpojpncjmoaa", sum := "a9d7090194e322538946008686f7ee6f9499aff75af576ec18770143797572bf", func := "giro/girolaw3.MsgReads", spec := "msgReads", apart := false }
def MsgReadsSaid : Prop := msgReadsRow.holds Try.pinned (OpenSpec.ofChange msgReadsSpec)

/-- ITS FALSE NEIGHBOUR: 'it returns false'. Refute it at one input. -/
def msgReadsWrong : ChangeSpec := { name := "msgReads", fn := fun _ => fun
  | [d] => { results := [.lit (.bool false)], args := [d] }
  | _ => none }
def MsgReadsWrongFalsely : Prop := msgReadsRow.holds Try.pinned (OpenSpec.ofChange msgReadsWrong)

/-- 'girolaw3.MsgCut': WHATEVER THE INPUT: true; the input reads as it did. -/
def msgCutSpec : ChangeSpec := { name := "msgCut", fn := fun _ => fun
  | [d1, d2, d3] => { results := [.lit (.bool true)], args := [d1, d2, d3] }
  | _ => none }
def msgCutRow : OpenClaim := { program := "ytoljpojpncjmoaa", sum := "a9d7090194e322538946008686f7ee6f9499aff75af576ec18770143797572bf", func := "giro/girolaw3.MsgCut", spec := "msgCut", apart := false }
def MsgCutSaid : Prop := msgCutRow.holds Try.pinned (OpenSpec.ofChange msgCutSpec)

/-- ITS FALSE NEIGHBOUR: 'it returns false'. Refute it at one input. -/
def msgCutWrong : ChangeSpec := { name := "msgCut", fn := fun _ => fun
  | [d1, d2, d3] => { results := [.lit (.bool false)], args := [d1, d2, d3] }
  | _ => none }
def MsgCutWrongFalsely : Prop := msgCutRow.holds Try.pinned (OpenSpec.ofChange msgCutWrong)

/-- 'girolaw3.MsgBytes': WHATEVER THE INPUT: true; the input reads as it did. -/
def msgBytesSpec : ChangeSpec := { name := "msgBytes", fn := fun _ => fun
  | [d] => { results := [.lit (.bool true)], args := [d] }
  | _ => none }
def msgBytesRow : OpenClaim := { program := "ytoljpojpncjmoaa", sum := "a9d7090194e322538946008686f7ee6f9499aff75af576ec18770143797572bf", func := "giro/girolaw3.MsgBytes", spec := "msgBytes", apart := false }
def MsgBytesSaid : Prop := msgBytesRow.holds Try.pinned (OpenSpec.ofChange msgBytesSpec)

/-- ITS FALSE NEIGHBOUR: 'it returns false'. Refute it at one input. -/
def msgBytesWrong : ChangeSpec := { name := "msgBytes", fn := fun _ => fun
  | [d] => { results := [.lit (.bool false)], args := [d] }
  | _ => none }
def MsgBytesWrongFalsely : Prop := msgBytesRow.holds Try.pinned (OpenSpec.ofChange msgBytesWrong)

/- THE SECOND FORM. 'bulk': how many values and letters a reading holds, each counted each time it is reached (what is shared counts as often as it is met; a slice's spare places count too). A statement '..UptoSaid' is the law's where the arguments, and the package variables that the reading takes, are together of bulk at most 1048576: NARROWER than '..Said'. Prove '..Said' where nothing that the law and all that it calls make is longer than what came in: it says more and counts as full. Else prove '..UptoSaid'. A law counts once. -/
mutual
def uptoBulk {H : Type} : DataW H → Nat
  | .lit (.string bytes) => bytes.length + 1
  | .lit _ => 1
  | .nil => 1
  | .ptr d => uptoBulk d + 1
  | .slice elems spare => uptoBulkAll elems + uptoBulkAll spare + 1
  | .agg parts => uptoBulkAll parts + 1
  | .iface _ d => uptoBulk d + 1
  | .map entries => uptoBulkEntries entries + 1
  | .held _ => 1
def uptoBulkAll {H : Type} : List (DataW H) → Nat
  | [] => 0
  | d :: r => uptoBulk d + uptoBulkAll r
def uptoBulkEntries {H : Type} : List (Lit × DataW H) → Nat
  | [] => 0
  | x :: r => uptoBulkEntry x + uptoBulkEntries r
def uptoBulkEntry {H : Type} : Lit × DataW H → Nat
  | (.string bytes, d) => bytes.length + uptoBulk d + 1
  | (_, d) => uptoBulk d + 1
 end
def uptoSmall : (H : Type) → List (DataW H) → Bool := fun _ ds => decide (uptoBulkAll ds ≤ 1048576)
def OpenSpec.upto (s : _root_.Go.ChangeSpec) : _root_.Go.OpenSpec := { _root_.Go.OpenSpec.ofChange s with cond := some uptoSmall }

/-- 'girolaw5.RecPuts', WHERE WHAT IT READS IS OF BULK AT MOST 1048576: true; the input reads as it did. -/
def recPutsUptoRow : OpenClaim := { program := "ytoljpojpncjmoaa", sum := "a9d7090194e322538946008686f7ee6f9499aff75af576ec18770143797572bf", func := "giro/girolaw5.RecPuts", spec := "recPuts", apart := false, narrowed := true }
def RecPutsUptoSaid : Prop := recPutsUptoRow.holds Try.pinned (OpenSpec.upto recPutsSpec)

/-- 'girolaw5.RecCut', WHERE WHAT IT READS IS OF BULK AT MOST 1048576: true; the input reads as it did. -/
def recCutUptoRow : OpenClaim := { program := "ytoljpojpncjmoaa", sum := "a9d7090194e322538946008686f7ee6f9499aff75af576ec18770143797572bf", func := "giro/girolaw5.RecCut", spec := "recCut", apart := false, narrowed := true }
def RecCutUptoSaid : Prop := recCutUptoRow.holds Try.pinned (OpenSpec.upto recCutSpec)

/-- 'girolaw5.RecLong', WHERE WHAT IT READS IS OF BULK AT MOST 1048576: true; the input reads as it did. -/
def recLongUptoRow : OpenClaim := { program := "ytoljpojpncjmoaa", sum := "a9d7090194e322538946008686f7ee6f9499aff75af576ec18770143797572bf", func := "giro/girolaw5.RecLong", spec := "recLong", apart := false, narrowed := true }
def RecLongUptoSaid : Prop := recLongUptoRow.holds Try.pinned (OpenSpec.upto recLongSpec)

/-- 'girolaw5.RecBack', WHERE WHAT IT READS IS OF BULK AT MOST 1048576: true; the input reads as it did. -/
def recBackUptoRow : OpenClaim := { program := "ytoljpojpncjmoaa", sum := "a9d7090194e322538946008686f7ee6f9499aff75af576ec18770143797572bf", func := "giro/girolaw5.RecBack", spec := "recBack", apart := false, narrowed := true }
def RecBackUptoSaid : Prop := recBackUptoRow.holds Try.pinned (OpenSpec.upto recBackSpec)

/-- 'girolaw2.WordGets', WHERE WHAT IT READS IS OF BULK AT MOST 1048576: true; the input reads as it did. -/
def wordGetsUptoRow : OpenClaim := { program := "ytoljpojpncjmoaa", sum := "a9d7090194e322538946008686f7ee6f9499aff75af576ec18770143797572bf", func := "giro/girolaw2.WordGets", spec := "wordGets", apart := false, narrowed := true }
def WordGetsUptoSaid : Prop := wordGetsUptoRow.holds Try.pinned (OpenSpec.upto wordGetsSpec)

/-- 'girolaw2.WordCut', WHERE WHAT IT READS IS OF BULK AT MOST 1048576: true; the input reads as it did. -/
def wordCutUptoRow : OpenClaim := { program := "ytoljpojpncjmoaa", sum := "a9d7090194e322538946008686f7ee6f9499aff75af576ec18770143797572bf", func := "giro/girolaw2.WordCut", spec := "wordCut", apart := false, narrowed := true }
def WordCutUptoSaid : Prop := wordCutUptoRow.holds Try.pinned (OpenSpec.upto wordCutSpec)

/-- 'girolaw2.WordOwn', WHERE WHAT IT READS IS OF BULK AT MOST 1048576: true; the input reads as it did. -/
def wordOwnUptoRow : OpenClaim := { program := "ytoljpojpncjmoaa", sum := "a9d7090194e322538946008686f7ee6f9499aff75af576ec18770143797572bf", func := "giro/girolaw2.WordOwn", spec := "wordOwn", apart := false, narrowed := true }
def WordOwnUptoSaid : Prop := wordOwnUptoRow.holds Try.pinned (OpenSpec.upto wordOwnSpec)

/-- 'girolaw2.WordOdd', WHERE WHAT IT READS IS OF BULK AT MOST 1048576: true; the input reads as it did. -/
def wordOddUptoRow : OpenClaim := { program := "ytoljpojpncjmoaa", sum := "a9d7090194e322538946008686f7ee6f9499aff75af576ec18770143797572bf", func := "giro/girolaw2.WordOdd", spec := "wordOdd", apart := false, narrowed := true }
def WordOddUptoSaid : Prop := wordOddUptoRow.holds Try.pinned (OpenSpec.upto wordOddSpec)

/-- 'girolaw2.WordPuts', WHERE WHAT IT READS IS OF BULK AT MOST 1048576: true; the input reads as it did. -/
def wordPutsUptoRow : OpenClaim := { program := "ytoljpojpncjmoaa", sum := "a9d7090194e322538946008686f7ee6f9499aff75af576ec18770143797572bf", func := "giro/girolaw2.WordPuts", spec := "wordPuts", apart := false, narrowed := true }
def WordPutsUptoSaid : Prop := wordPutsUptoRow.holds Try.pinned (OpenSpec.upto wordPutsSpec)

/-- 'girolaw2.WordRows', WHERE WHAT IT READS IS OF BULK AT MOST 1048576: true; the input reads as it did. -/
def wordRowsUptoRow : OpenClaim := { program := "ytoljpojpncjmoaa", sum := "a9d7090194e322538946008686f7ee6f9499aff75af576ec18770143797572bf", func := "giro/girolaw2.WordRows", spec := "wordRows", apart := false, narrowed := true }
def WordRowsUptoSaid : Prop := wordRowsUptoRow.holds Try.pinned (OpenSpec.upto wordRowsSpec)

/-- 'girolaw3.MsgNumbers', WHERE WHAT IT READS IS OF BULK AT MOST 1048576: true; the input reads as it did. -/
def msgNumbersUptoRow : OpenClaim := { program := "ytoljpojpncjmoaa", sum := "a9d7090194e322538946008686f7ee6f9499aff75af576ec18770143797572bf", func := "giro/girolaw3.MsgNumbers", spec := "msgNumbers", apart := false, narrowed := true }
def MsgNumbersUptoSaid : Prop := msgNumbersUptoRow.holds Try.pinned (OpenSpec.upto msgNumbersSpec)

/-- 'girolaw3.MsgKinds', WHERE WHAT IT READS IS OF BULK AT MOST 1048576: true; the input reads as it did. -/
def msgKindsUptoRow : OpenClaim := { program := "ytoljpojpncjmoaa", sum := "a9d7090194e322538946008686f7ee6f9499aff75af576ec18770143797572bf", func := "giro/girolaw3.MsgKinds", spec := "msgKinds", apart := false, narrowed := true }
def MsgKindsUptoSaid : Prop := msgKindsUptoRow.holds Try.pinned (OpenSpec.upto msgKindsSpec)

/-- 'girolaw3.MsgRest', WHERE WHAT IT READS IS OF BULK AT MOST 1048576: true; the input reads as it did. -/
def msgRestUptoRow : OpenClaim := { program := "ytoljpojpncjmoaa", sum := "a9d7090194e322538946008686f7ee6f9499aff75af576ec18770143797572bf", func := "giro/girolaw3.MsgRest", spec := "msgRest", apart := false, narrowed := true }
def MsgRestUptoSaid : Prop := msgRestUptoRow.holds Try.pinned (OpenSpec.upto msgRestSpec)

/-- 'girolaw3.MsgReads', WHERE WHAT IT READS IS OF BULK AT MOST 1048576: true; the input reads as it did. -/
def msgReadsUptoRow : OpenClaim := { program := "ytoljpojpncjmoaa", sum := "a9d7090194e322538946008686f7ee6f9499aff75af576ec18770143797572bf", func := "giro/girolaw3.MsgReads", spec := "msgReads", apart := false, narrowed := true }
def MsgReadsUptoSaid : Prop := msgReadsUptoRow.holds Try.pinned (OpenSpec.upto msgReadsSpec)

/-- 'girolaw3.MsgCut', WHERE WHAT IT READS IS OF BULK AT MOST 1048576: true; the input reads as it did. -/
def msgCutUptoRow : OpenClaim := { program := "ytoljpojpncjmoaa", sum := "a9d7090194e322538946008686f7ee6f9499aff75af576ec18770143797572bf", func := "giro/girolaw3.MsgCut", spec := "msgCut", apart := false, narrowed := true }
def MsgCutUptoSaid : Prop := msgCutUptoRow.holds Try.pinned (OpenSpec.upto msgCutSpec)

/-- 'girolaw3.MsgBytes', WHERE WHAT IT READS IS OF BULK AT MOST 1048576: true; the input reads as it did. -/
def msgBytesUptoRow : OpenClaim := { program := "ytoljpojpncjmoaa", sum := "a9d7090194e322538946008686f7ee6f9499aff75af576ec18770143797572bf", func := "giro/girolaw3.MsgBytes", spec := "msgBytes", apart := false, narrowed := true }
def MsgBytesUptoSaid : Prop := msgBytesUptoRow.holds Try.pinned (OpenSpec.upto msgBytesSpec)

end Rows
end Go.Proofs.Ytoljpojpncjmoaa
