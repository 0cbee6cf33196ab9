/-
  No cell of these rows narrows 'for every input' (looked for: loops, veiled, ifaces, maps, wideKeys, modest, calm, conditions, laid).
  DERIVED. THE GIVEN ROWS OF THIS SEAT. 19 by the template 'for every input the law returns true; each argument reads behind the call as it read before'; 0 by the template 'total and deterministic' (their statements: YtcghgahohmabnaaTotals.lean).
  GIVEN WITH THE SEED: the statements are not yours to turn. If you find one false, say at which input.
  Laid BY PROGRAM, IN A SANDBOX (cutbox-rows.mjs): the forced cells as the released guide's own fill.sh prints them over the translation 60498740a9dea76c… (all of the seat's roots in one cut). By AI agents, Wed Nov 11 2026. No macro, syntax, notation, axiom, sorry.
-/
import Derived.Test.YtcghgahohmabnaaChecked
import GoSem.Claim
import GoSem.ClaimJoined
import GoSem.ClaimMapViews
import Derived.JoinedTies
import Derived.KernelRfl
namespace Go.Proofs.Ytcghgahohmabnaa
/- THE CELL 'sum', in the pinned program and in every row, IS THE sha256 OF THE DUMP (.gsa) THAT YtcghgahohmabnaaProg.lean LOADS. Nothing in Lean hashes anything: it is a label: what it is worth is what the hold of that sum in a sandbox is worth. -/
noncomputable def Try.pinned : Pinned := { name := "ytcghgahohmabnaa", sum := "60498740a9dea76c42539ec49df09e9a26f845badf375ddbc6a43cd8206d1ba6", checked := Try.checked }
namespace Rows
def none {H : Type} : Left H := { results := [], args := [] }

/-- 'angeluslaw41.SnapOwn': WHATEVER THE INPUT: true; the input reads as it did. -/
def snapOwnSpec : ChangeSpec := { name := "snapOwn", fn := fun _ => fun
  | [d1, d2, d3] => { results := [.lit (.bool true)], args := [d1, d2, d3] }
  | _ => none }
def snapOwnRow : OpenClaim := { program := "ytcghgahohmabnaa", sum := "60498740a9dea76c42539ec49df09e9a26f845badf375ddbc6a43cd8206d1ba6", func := "angelus/angeluslaw41.SnapOwn", spec := "snapOwn", apart := false }
def SnapOwnSaid : Prop := snapOwnRow.holds Try.pinned (OpenSpec.ofChange snapOwnSpec)

/-- ITS FALSE NEIGHBOUR: 'it returns false'. Refute it at one input. -/
def snapOwnWrong : ChangeSpec := { name := "snapOwn", fn := fun _ => fun
  | [d1, d2, d3] => { results := [.lit (.bool false)], args := [d1, d2, d3] }
  | _ => none }
def SnapOwnWrongFalsely : Prop := snapOwnRow.holds Try.pinned (OpenSpec.ofChange snapOwnWrong)

/-- 'angeluslaw41.SnapSplits': WHATEVER THE INPUT: true; the input reads as it did. -/
def snapSplitsSpec : ChangeSpec := { name := "snapSplits", fn := fun _ => fun
  | [d1, d2] => { results := [.lit (.bool true)], args := [d1, d2] }
  | _ => none }
def snapSplitsRow : OpenClaim := { program := "ytcghgahohmabnaa", sum := "60498740a9dea76c42539ec49df09e9a26f845badf375ddbc6a43cd8206d1ba6", func := "angelus/angeluslaw41.SnapSplits", spec := "snapSplits", apart := false }
def SnapSplitsSaid : Prop := snapSplitsRow.holds Try.pinned (OpenSpec.ofChange snapSplitsSpec)

/-- ITS FALSE NEIGHBOUR: 'it returns false'. Refute it at one input. -/
def snapSplitsWrong : ChangeSpec := { name := "snapSplits", fn := fun _ => fun
  | [d1, d2] => { results := [.lit (.bool false)], args := [d1, d2] }
  | _ => none }
def SnapSplitsWrongFalsely : Prop := snapSplitsRow.holds Try.pinned (OpenSpec.ofChange snapSplitsWrong)

/-- 'angeluslaw41.SnapEncodes': WHATEVER THE INPUT: true; the input reads as it did. -/
def snapEncodesSpec : ChangeSpec := { name := "snapEncodes", fn := fun _ => fun
  | [d1, d2] => { results := [.lit (.bool true)], args := [d1, d2] }
  | _ => none }
def snapEncodesRow : OpenClaim := { program := "ytcghgahohmabnaa", sum := "60498740a9dea76c42539ec49df09e9a26f845badf375ddbc6a43cd8206d1ba6", func := "angelus/angeluslaw41.SnapEncodes", spec := "snapEncodes", recurses := true, apart := false }
def SnapEncodesSaid : Prop := snapEncodesRow.holds Try.pinned (OpenSpec.ofChange snapEncodesSpec)

/-- ITS FALSE NEIGHBOUR: 'it returns false'. Refute it at one input. -/
def snapEncodesWrong : ChangeSpec := { name := "snapEncodes", fn := fun _ => fun
  | [d1, d2] => { results := [.lit (.bool false)], args := [d1, d2] }
  | _ => none }
def SnapEncodesWrongFalsely : Prop := snapEncodesRow.holds Try.pinned (OpenSpec.ofChange snapEncodesWrong)

/-- 'angeluslaw41.SnapDecodes': WHATEVER THE INPUT: true; the input reads as it did. -/
def snapDecodesSpec : ChangeSpec := { name := "snapDecodes", fn := fun _ => fun
  | [d1, d2] => { results := [.lit (.bool true)], args := [d1, d2] }
  | _ => none }
def snapDecodesRow : OpenClaim := { program := "ytcghgahohmabnaa", sum := "60498740a9dea76c42539ec49df09e9a26f845badf375ddbc6a43cd8206d1ba6", func := "angelus/angeluslaw41.SnapDecodes", spec := "snapDecodes", apart := false }
def SnapDecodesSaid : Prop := snapDecodesRow.holds Try.pinned (OpenSpec.ofChange snapDecodesSpec)

/-- ITS FALSE NEIGHBOUR: 'it returns false'. Refute it at one input. -/
def snapDecodesWrong : ChangeSpec := { name := "snapDecodes", fn := fun _ => fun
  | [d1, d2] => { results := [.lit (.bool false)], args := [d1, d2] }
  | _ => none }
def SnapDecodesWrongFalsely : Prop := snapDecodesRow.holds Try.pinned (OpenSpec.ofChange snapDecodesWrong)

/-- 'angeluslaw41.SnapOnce': WHATEVER THE INPUT: true; the input reads as it did. -/
def snapOnceSpec : ChangeSpec := { name := "snapOnce", fn := fun _ => fun
  | [d1, d2] => { results := [.lit (.bool true)], args := [d1, d2] }
  | _ => none }
def snapOnceRow : OpenClaim := { program := "ytcghgahohmabnaa", sum := "60498740a9dea76c42539ec49df09e9a26f845badf375ddbc6a43cd8206d1ba6", func := "angelus/angeluslaw41.SnapOnce", spec := "snapOnce", apart := false }
def SnapOnceSaid : Prop := snapOnceRow.holds Try.pinned (OpenSpec.ofChange snapOnceSpec)

/-- ITS FALSE NEIGHBOUR: 'it returns false'. Refute it at one input. -/
def snapOnceWrong : ChangeSpec := { name := "snapOnce", fn := fun _ => fun
  | [d1, d2] => { results := [.lit (.bool false)], args := [d1, d2] }
  | _ => none }
def SnapOnceWrongFalsely : Prop := snapOnceRow.holds Try.pinned (OpenSpec.ofChange snapOnceWrong)

/-- 'angeluslaw42.PieceOrder': WHATEVER THE INPUT: true; the input reads as it did. -/
def pieceOrderSpec : ChangeSpec := { name := "pieceOrder", fn := fun _ => fun
  | [d1, d2, d3] => { results := [.lit (.bool true)], args := [d1, d2, d3] }
  | _ => none }
def pieceOrderRow : OpenClaim := { program := "ytcghgahohmabnaa", sum := "60498740a9dea76c42539ec49df09e9a26f845badf375ddbc6a43cd8206d1ba6", func := "angelus/angeluslaw42.PieceOrder", spec := "pieceOrder", apart := false }
def PieceOrderSaid : Prop := pieceOrderRow.holds Try.pinned (OpenSpec.ofChange pieceOrderSpec)

/-- ITS FALSE NEIGHBOUR: 'it returns false'. Refute it at one input. -/
def pieceOrderWrong : ChangeSpec := { name := "pieceOrder", fn := fun _ => fun
  | [d1, d2, d3] => { results := [.lit (.bool false)], args := [d1, d2, d3] }
  | _ => none }
def PieceOrderWrongFalsely : Prop := pieceOrderRow.holds Try.pinned (OpenSpec.ofChange pieceOrderWrong)

/-- 'angeluslaw42.PieceOwn': WHATEVER THE INPUT: true; the input reads as it did. -/
def pieceOwnSpec : ChangeSpec := { name := "pieceOwn", fn := fun _ => fun
  | [d] => { results := [.lit (.bool true)], args := [d] }
  | _ => none }
def pieceOwnRow : OpenClaim := { program := "ytcghgahohmabnaa", sum := "60498740a9dea76c42539ec49df09e9a26f845badf375ddbc6a43cd8206d1ba6", func := "angelus/angeluslaw42.PieceOwn", spec := "pieceOwn", apart := false }
def PieceOwnSaid : Prop := pieceOwnRow.holds Try.pinned (OpenSpec.ofChange pieceOwnSpec)

/-- ITS FALSE NEIGHBOUR: 'it returns false'. Refute it at one input. -/
def pieceOwnWrong : ChangeSpec := { name := "pieceOwn", fn := fun _ => fun
  | [d] => { results := [.lit (.bool false)], args := [d] }
  | _ => none }
def PieceOwnWrongFalsely : Prop := pieceOwnRow.holds Try.pinned (OpenSpec.ofChange pieceOwnWrong)

/-- 'angeluslaw42.PieceNotes': WHATEVER THE INPUT: true; the input reads as it did. -/
def pieceNotesSpec : ChangeSpec := { name := "pieceNotes", fn := fun _ => fun
  | [d1, d2] => { results := [.lit (.bool true)], args := [d1, d2] }
  | _ => none }
def pieceNotesRow : OpenClaim := { program := "ytcghgahohmabnaa", sum := "60498740a9dea76c42539ec49df09e9a26f845badf375ddbc6a43cd8206d1ba6", func := "angelus/angeluslaw42.PieceNotes", spec := "pieceNotes", apart := false }
def PieceNotesSaid : Prop := pieceNotesRow.holds Try.pinned (OpenSpec.ofChange pieceNotesSpec)

/-- ITS FALSE NEIGHBOUR: 'it returns false'. Refute it at one input. -/
def pieceNotesWrong : ChangeSpec := { name := "pieceNotes", fn := fun _ => fun
  | [d1, d2] => { results := [.lit (.bool false)], args := [d1, d2] }
  | _ => none }
def PieceNotesWrongFalsely : Prop := pieceNotesRow.holds Try.pinned (OpenSpec.ofChange pieceNotesWrong)

/-- 'angeluslaw42.PieceNil': WHATEVER THE INPUT: true; the input reads as it did. -/
def pieceNilSpec : ChangeSpec := { name := "pieceNil", fn := fun _ => fun
  | [d] => { results := [.lit (.bool true)], args := [d] }
  | _ => none }
def pieceNilRow : OpenClaim := { program := "ytcghgahohmabnaa", sum := "60498740a9dea76c42539ec49df09e9a26f845badf375ddbc6a43cd8206d1ba6", func := "angelus/angeluslaw42.PieceNil", spec := "pieceNil", apart := false }
def PieceNilSaid : Prop := pieceNilRow.holds Try.pinned (OpenSpec.ofChange pieceNilSpec)

/-- ITS FALSE NEIGHBOUR: 'it returns false'. Refute it at one input. -/
def pieceNilWrong : ChangeSpec := { name := "pieceNil", fn := fun _ => fun
  | [d] => { results := [.lit (.bool false)], args := [d] }
  | _ => none }
def PieceNilWrongFalsely : Prop := pieceNilRow.holds Try.pinned (OpenSpec.ofChange pieceNilWrong)

/-- 'angeluslaw45.FateArrivals': WHATEVER THE INPUT: true; the input reads as it did. -/
def fateArrivalsSpec : ChangeSpec := { name := "fateArrivals", fn := fun _ => fun
  | [d1, d2] => { results := [.lit (.bool true)], args := [d1, d2] }
  | _ => none }
def fateArrivalsRow : OpenClaim := { program := "ytcghgahohmabnaa", sum := "60498740a9dea76c42539ec49df09e9a26f845badf375ddbc6a43cd8206d1ba6", func := "angelus/angeluslaw45.FateArrivals", spec := "fateArrivals", unfollowed := true, recurses := true, apart := false }
def FateArrivalsSaid : Prop := fateArrivalsRow.holds Try.pinned (OpenSpec.ofChange fateArrivalsSpec)

/-- ITS FALSE NEIGHBOUR: 'it returns false'. Refute it at one input. -/
def fateArrivalsWrong : ChangeSpec := { name := "fateArrivals", fn := fun _ => fun
  | [d1, d2] => { results := [.lit (.bool false)], args := [d1, d2] }
  | _ => none }
def FateArrivalsWrongFalsely : Prop := fateArrivalsRow.holds Try.pinned (OpenSpec.ofChange fateArrivalsWrong)

/-- 'angeluslaw45.FateFair': WHATEVER THE INPUT: true; the input reads as it did. -/
def fateFairSpec : ChangeSpec := { name := "fateFair", fn := fun _ => fun
  | [d1, d2, d3] => { results := [.lit (.bool true)], args := [d1, d2, d3] }
  | _ => none }
def fateFairRow : OpenClaim := { program := "ytcghgahohmabnaa", sum := "60498740a9dea76c42539ec49df09e9a26f845badf375ddbc6a43cd8206d1ba6", func := "angelus/angeluslaw45.FateFair", spec := "fateFair", unfollowed := true, recurses := true, apart := false }
def FateFairSaid : Prop := fateFairRow.holds Try.pinned (OpenSpec.ofChange fateFairSpec)

/-- ITS FALSE NEIGHBOUR: 'it returns false'. Refute it at one input. -/
def fateFairWrong : ChangeSpec := { name := "fateFair", fn := fun _ => fun
  | [d1, d2, d3] => { results := [.lit (.bool false)], args := [d1, d2, d3] }
  | _ => none }
def FateFairWrongFalsely : Prop := fateFairRow.holds Try.pinned (OpenSpec.ofChange fateFairWrong)

/-- 'angeluslaw45.FateGood': WHATEVER THE INPUT: true; the input reads as it did. -/
def fateGoodSpec : ChangeSpec := { name := "fateGood", fn := fun _ => fun
  | [d1, d2, d3] => { results := [.lit (.bool true)], args := [d1, d2, d3] }
  | _ => none }
def fateGoodRow : OpenClaim := { program := "ytcghgahohmabnaa", sum := "60498740a9dea76c42539ec49df09e9a26f845badf375ddbc6a43cd8206d1ba6", func := "angelus/angeluslaw45.FateGood", spec := "fateGood", unfollowed := true, recurses := true, apart := false }
def FateGoodSaid : Prop := fateGoodRow.holds Try.pinned (OpenSpec.ofChange fateGoodSpec)

/-- ITS FALSE NEIGHBOUR: 'it returns false'. Refute it at one input. -/
def fateGoodWrong : ChangeSpec := { name := "fateGood", fn := fun _ => fun
  | [d1, d2, d3] => { results := [.lit (.bool false)], args := [d1, d2, d3] }
  | _ => none }
def FateGoodWrongFalsely : Prop := fateGoodRow.holds Try.pinned (OpenSpec.ofChange fateGoodWrong)

/-- 'angeluslaw45.FateGets': WHATEVER THE INPUT: true; the input reads as it did. -/
def fateGetsSpec : ChangeSpec := { name := "fateGets", fn := fun _ => fun
  | [d] => { results := [.lit (.bool true)], args := [d] }
  | _ => none }
def fateGetsRow : OpenClaim := { program := "ytcghgahohmabnaa", sum := "60498740a9dea76c42539ec49df09e9a26f845badf375ddbc6a43cd8206d1ba6", func := "angelus/angeluslaw45.FateGets", spec := "fateGets", unfollowed := true, recurses := true, apart := false }
def FateGetsSaid : Prop := fateGetsRow.holds Try.pinned (OpenSpec.ofChange fateGetsSpec)

/-- ITS FALSE NEIGHBOUR: 'it returns false'. Refute it at one input. -/
def fateGetsWrong : ChangeSpec := { name := "fateGets", fn := fun _ => fun
  | [d] => { results := [.lit (.bool false)], args := [d] }
  | _ => none }
def FateGetsWrongFalsely : Prop := fateGetsRow.holds Try.pinned (OpenSpec.ofChange fateGetsWrong)

/-- 'angeluslaw45.FatePuts': WHATEVER THE INPUT: true; the input reads as it did. -/
def fatePutsSpec : ChangeSpec := { name := "fatePuts", fn := fun _ => fun
  | [d] => { results := [.lit (.bool true)], args := [d] }
  | _ => none }
def fatePutsRow : OpenClaim := { program := "ytcghgahohmabnaa", sum := "60498740a9dea76c42539ec49df09e9a26f845badf375ddbc6a43cd8206d1ba6", func := "angelus/angeluslaw45.FatePuts", spec := "fatePuts", unfollowed := true, recurses := true, apart := false }
def FatePutsSaid : Prop := fatePutsRow.holds Try.pinned (OpenSpec.ofChange fatePutsSpec)

/-- ITS FALSE NEIGHBOUR: 'it returns false'. Refute it at one input. -/
def fatePutsWrong : ChangeSpec := { name := "fatePuts", fn := fun _ => fun
  | [d] => { results := [.lit (.bool false)], args := [d] }
  | _ => none }
def FatePutsWrongFalsely : Prop := fatePutsRow.holds Try.pinned (OpenSpec.ofChange fatePutsWrong)

/-- 'angeluslaw46.ScriptGood': WHATEVER THE INPUT: true; the input reads as it did. -/
def scriptGoodSpec : ChangeSpec := { name := "scriptGood", fn := fun _ => fun
  | [d] => { results := [.lit (.bool true)], args := [d] }
  | _ => none }
def scriptGoodRow : OpenClaim := { program := "ytcghgahohmabnaa", sum := "60498740a9dea76c42539ec49df09e9a26f845badf375ddbc6a43cd8206d1ba6", func := "angelus/angeluslaw46.ScriptGood", spec := "scriptGood", unfollowed := true, recurses := true, apart := false }
def ScriptGoodSaid : Prop := scriptGoodRow.holds Try.pinned (OpenSpec.ofChange scriptGoodSpec)

/-- ITS FALSE NEIGHBOUR: 'it returns false'. Refute it at one input. -/
def scriptGoodWrong : ChangeSpec := { name := "scriptGood", fn := fun _ => fun
  | [d] => { results := [.lit (.bool false)], args := [d] }
  | _ => none }
def ScriptGoodWrongFalsely : Prop := scriptGoodRow.holds Try.pinned (OpenSpec.ofChange scriptGoodWrong)

/-- 'angeluslaw46.ScriptEncodes': WHATEVER THE INPUT: true; the input reads as it did. -/
def scriptEncodesSpec : ChangeSpec := { name := "scriptEncodes", fn := fun _ => fun
  | [d] => { results := [.lit (.bool true)], args := [d] }
  | _ => none }
def scriptEncodesRow : OpenClaim := { program := "ytcghgahohmabnaa", sum := "60498740a9dea76c42539ec49df09e9a26f845badf375ddbc6a43cd8206d1ba6", func := "angelus/angeluslaw46.ScriptEncodes", spec := "scriptEncodes", unfollowed := true, recurses := true, apart := false }
def ScriptEncodesSaid : Prop := scriptEncodesRow.holds Try.pinned (OpenSpec.ofChange scriptEncodesSpec)

/-- ITS FALSE NEIGHBOUR: 'it returns false'. Refute it at one input. -/
def scriptEncodesWrong : ChangeSpec := { name := "scriptEncodes", fn := fun _ => fun
  | [d] => { results := [.lit (.bool false)], args := [d] }
  | _ => none }
def ScriptEncodesWrongFalsely : Prop := scriptEncodesRow.holds Try.pinned (OpenSpec.ofChange scriptEncodesWrong)

/-- 'angeluslaw46.ScriptDecodes': WHATEVER THE INPUT: true; the input reads as it did. -/
def scriptDecodesSpec : ChangeSpec := { name := "scriptDecodes", fn := fun _ => fun
  | [d] => { results := [.lit (.bool true)], args := [d] }
  | _ => none }
def scriptDecodesRow : OpenClaim := { program := "ytcghgahohmabnaa", sum := "60498740a9dea76c42539ec49df09e9a26f845badf375ddbc6a43cd8206d1ba6", func := "angelus/angeluslaw46.ScriptDecodes", spec := "scriptDecodes", unfollowed := true, recurses := true, apart := false }
def ScriptDecodesSaid : Prop := scriptDecodesRow.holds Try.pinned (OpenSpec.ofChange scriptDecodesSpec)

/-- ITS FALSE NEIGHBOUR: 'it returns false'. Refute it at one input. -/
def scriptDecodesWrong : ChangeSpec := { name := "scriptDecodes", fn := fun _ => fun
  | [d] => { results := [.lit (.bool false)], args := [d] }
  | _ => none }
def ScriptDecodesWrongFalsely : Prop := scriptDecodesRow.holds Try.pinned (OpenSpec.ofChange scriptDecodesWrong)

/-- 'angeluslaw46.ScriptOnce': WHATEVER THE INPUT: true; the input reads as it did. -/
def scriptOnceSpec : ChangeSpec := { name := "scriptOnce", fn := fun _ => fun
  | [d] => { results := [.lit (.bool true)], args := [d] }
  | _ => none }
def scriptOnceRow : OpenClaim := { program := "ytcghgahohmabnaa", sum := "60498740a9dea76c42539ec49df09e9a26f845badf375ddbc6a43cd8206d1ba6", func := "angelus/angeluslaw46.ScriptOnce", spec := "scriptOnce", unfollowed := true, recurses := true, apart := false }
def ScriptOnceSaid : Prop := scriptOnceRow.holds Try.pinned (OpenSpec.ofChange scriptOnceSpec)

/-- ITS FALSE NEIGHBOUR: 'it returns false'. Refute it at one input. -/
def scriptOnceWrong : ChangeSpec := { name := "scriptOnce", fn := fun _ => fun
  | [d] => { results := [.lit (.bool false)], args := [d] }
  | _ => none }
def ScriptOnceWrongFalsely : Prop := scriptOnceRow.holds Try.pinned (OpenSpec.ofChange scriptOnceWrong)

/-- 'angeluslaw46.ScriptMost': WHATEVER THE INPUT: true; the input reads as it did. -/
def scriptMostSpec : ChangeSpec := { name := "scriptMost", fn := fun _ => fun
  | [d] => { results := [.lit (.bool true)], args := [d] }
  | _ => none }
def scriptMostRow : OpenClaim := { program := "ytcghgahohmabnaa", sum := "60498740a9dea76c42539ec49df09e9a26f845badf375ddbc6a43cd8206d1ba6", func := "angelus/angeluslaw46.ScriptMost", spec := "scriptMost", unfollowed := true, recurses := true, apart := false }
def ScriptMostSaid : Prop := scriptMostRow.holds Try.pinned (OpenSpec.ofChange scriptMostSpec)

/-- ITS FALSE NEIGHBOUR: 'it returns false'. Refute it at one input. -/
def scriptMostWrong : ChangeSpec := { name := "scriptMost", fn := fun _ => fun
  | [d] => { results := [.lit (.bool false)], args := [d] }
  | _ => none }
def ScriptMostWrongFalsely : Prop := scriptMostRow.holds Try.pinned (OpenSpec.ofChange scriptMostWrong)

/- THE SECOND FORM. 'bulk': how many values and letters a reading holds, each counted each time it is reached (what is shared counts as often as it is met; a slice's spare places count too). A statement '..UptoSaid' is the law's where the arguments, and the package variables that the reading takes, are together of bulk at most 1048576: NARROWER than '..Said'. Prove '..Said' where nothing that the law and all that it calls make is longer than what came in: it says more and counts as full. Else prove '..UptoSaid'. A law counts once. -/
mutual
def uptoBulk {H : Type} : DataW H → Nat
  | .lit (.string bytes) => bytes.length + 1
  | .lit _ => 1
  | .nil => 1
  | .ptr d => uptoBulk d + 1
  | .slice elems spare => uptoBulkAll elems + uptoBulkAll spare + 1
  | .agg parts => uptoBulkAll parts + 1
  | .iface _ d => uptoBulk d + 1
  | .map entries => uptoBulkEntries entries + 1
  | .held _ => 1
def uptoBulkAll {H : Type} : List (DataW H) → Nat
  | [] => 0
  | d :: r => uptoBulk d + uptoBulkAll r
def uptoBulkEntries {H : Type} : List (Lit × DataW H) → Nat
  | [] => 0
  | x :: r => uptoBulkEntry x + uptoBulkEntries r
def uptoBulkEntry {H : Type} : Lit × DataW H → Nat
  | (.string bytes, d) => bytes.length + uptoBulk d + 1
  | (_, d) => uptoBulk d + 1
 end
def uptoSmall : (H : Type) → List (DataW H) → Bool := fun _ ds => decide (uptoBulkAll ds ≤ 1048576)
def OpenSpec.upto (s : _root_.Go.ChangeSpec) : _root_.Go.OpenSpec := { _root_.Go.OpenSpec.ofChange s with cond := some uptoSmall }

/-- 'angeluslaw41.SnapOwn', WHERE WHAT IT READS IS OF BULK AT MOST 1048576: true; the input reads as it did. -/
def snapOwnUptoRow : OpenClaim := { program := "ytcghgahohmabnaa", sum := "60498740a9dea76c42539ec49df09e9a26f845badf375ddbc6a43cd8206d1ba6", func := "angelus/angeluslaw41.SnapOwn", spec := "snapOwn", apart := false, narrowed := true }
def SnapOwnUptoSaid : Prop := snapOwnUptoRow.holds Try.pinned (OpenSpec.upto snapOwnSpec)

/-- 'angeluslaw41.SnapSplits', WHERE WHAT IT READS IS OF BULK AT MOST 1048576: true; the input reads as it did. -/
def snapSplitsUptoRow : OpenClaim := { program := "ytcghgahohmabnaa", sum := "60498740a9dea76c42539ec49df09e9a26f845badf375ddbc6a43cd8206d1ba6", func := "angelus/angeluslaw41.SnapSplits", spec := "snapSplits", apart := false, narrowed := true }
def SnapSplitsUptoSaid : Prop := snapSplitsUptoRow.holds Try.pinned (OpenSpec.upto snapSplitsSpec)

/-- 'angeluslaw41.SnapEncodes', WHERE WHAT IT READS IS OF BULK AT MOST 1048576: true; the input reads as it did. -/
def snapEncodesUptoRow : OpenClaim := { program := "ytcghgahohmabnaa", sum := "60498740a9dea76c42539ec49df09e9a26f845badf375ddbc6a43cd8206d1ba6", func := "angelus/angeluslaw41.SnapEncodes", spec := "snapEncodes", recurses := true, apart := false, narrowed := true }
def SnapEncodesUptoSaid : Prop := snapEncodesUptoRow.holds Try.pinned (OpenSpec.upto snapEncodesSpec)

/-- 'angeluslaw41.SnapDecodes', WHERE WHAT IT READS IS OF BULK AT MOST 1048576: true; the input reads as it did. -/
def snapDecodesUptoRow : OpenClaim := { program := "ytcghgahohmabnaa", sum := "60498740a9dea76c42539ec49df09e9a26f845badf375ddbc6a43cd8206d1ba6", func := "angelus/angeluslaw41.SnapDecodes", spec := "snapDecodes", apart := false, narrowed := true }
def SnapDecodesUptoSaid : Prop := snapDecodesUptoRow.holds Try.pinned (OpenSpec.upto snapDecodesSpec)

/-- 'angeluslaw41.SnapOnce', WHERE WHAT IT READS IS OF BULK AT MOST 1048576: true; the input reads as it did. -/
def snapOnceUptoRow : OpenClaim := { program := "ytcghgahohmabnaa", sum := "60498740a9dea76c42539ec49df09e9a26f845badf375ddbc6a43cd8206d1ba6", func := "angelus/angeluslaw41.SnapOnce", spec := "snapOnce", apart := false, narrowed := true }
def SnapOnceUptoSaid : Prop := snapOnceUptoRow.holds Try.pinned (OpenSpec.upto snapOnceSpec)

/-- 'angeluslaw42.PieceOrder', WHERE WHAT IT READS IS OF BULK AT MOST 1048576: true; the input reads as it did. -/
def pieceOrderUptoRow : OpenClaim := { program := "ytcghgahohmabnaa", sum := "60498740a9dea76c42539ec49df09e9a26f845badf375ddbc6a43cd8206d1ba6", func := "angelus/angeluslaw42.PieceOrder", spec := "pieceOrder", apart := false, narrowed := true }
def PieceOrderUptoSaid : Prop := pieceOrderUptoRow.holds Try.pinned (OpenSpec.upto pieceOrderSpec)

/-- 'angeluslaw42.PieceOwn', WHERE WHAT IT READS IS OF BULK AT MOST 1048576: true; the input reads as it did. -/
def pieceOwnUptoRow : OpenClaim := { program := "ytcghgahohmabnaa", sum := "60498740a9dea76c42539ec49df09e9a26f845badf375ddbc6a43cd8206d1ba6", func := "angelus/angeluslaw42.PieceOwn", spec := "pieceOwn", apart := false, narrowed := true }
def PieceOwnUptoSaid : Prop := pieceOwnUptoRow.holds Try.pinned (OpenSpec.upto pieceOwnSpec)

/-- 'angeluslaw42.PieceNotes', WHERE WHAT IT READS IS OF BULK AT MOST 1048576: true; the input reads as it did. -/
def pieceNotesUptoRow : OpenClaim := { program := "ytcghgahohmabnaa", sum := "60498740a9dea76c42539ec49df09e9a26f845badf375ddbc6a43cd8206d1ba6", func := "angelus/angeluslaw42.PieceNotes", spec := "pieceNotes", apart := false, narrowed := true }
def PieceNotesUptoSaid : Prop := pieceNotesUptoRow.holds Try.pinned (OpenSpec.upto pieceNotesSpec)

/-- 'angeluslaw42.PieceNil', WHERE WHAT IT READS IS OF BULK AT MOST 1048576: true; the input reads as it did. -/
def pieceNilUptoRow : OpenClaim := { program := "ytcghgahohmabnaa", sum := "60498740a9dea76c42539ec49df09e9a26f845badf375ddbc6a43cd8206d1ba6", func := "angelus/angeluslaw42.PieceNil", spec := "pieceNil", apart := false, narrowed := true }
def PieceNilUptoSaid : Prop := pieceNilUptoRow.holds Try.pinned (OpenSpec.upto pieceNilSpec)

/-- 'angeluslaw45.FateArrivals', WHERE WHAT IT READS IS OF BULK AT MOST 1048576: true; the input reads as it did. -/
def fateArrivalsUptoRow : OpenClaim := { program := "ytcghgahohmabnaa", sum := "60498740a9dea76c42539ec49df09e9a26f845badf375ddbc6a43cd8206d1ba6", func := "angelus/angeluslaw45.FateArrivals", spec := "fateArrivals", unfollowed := true, recurses := true, apart := false, narrowed := true }
def FateArrivalsUptoSaid : Prop := fateArrivalsUptoRow.holds Try.pinned (OpenSpec.upto fateArrivalsSpec)

/-- 'angeluslaw45.FateFair', WHERE WHAT IT READS IS OF BULK AT MOST 1048576: true; the input reads as it did. -/
def fateFairUptoRow : OpenClaim := { program := "ytcghgahohmabnaa", sum := "60498740a9dea76c42539ec49df09e9a26f845badf375ddbc6a43cd8206d1ba6", func := "angelus/angeluslaw45.FateFair", spec := "fateFair", unfollowed := true, recurses := true, apart := false, narrowed := true }
def FateFairUptoSaid : Prop := fateFairUptoRow.holds Try.pinned (OpenSpec.upto fateFairSpec)

/-- 'angeluslaw45.FateGood', WHERE WHAT IT READS IS OF BULK AT MOST 1048576: true; the input reads as it did. -/
def fateGoodUptoRow : OpenClaim := { program := "ytcghgahohmabnaa", sum := "60498740a9dea76c42539ec49df09e9a26f845badf375ddbc6a43cd8206d1ba6", func := "angelus/angeluslaw45.FateGood", spec := "fateGood", unfollowed := true, recurses := true, apart := false, narrowed := true }
def FateGoodUptoSaid : Prop := fateGoodUptoRow.holds Try.pinned (OpenSpec.upto fateGoodSpec)

/-- 'angeluslaw45.FateGets', WHERE WHAT IT READS IS OF BULK AT MOST 1048576: true; the input reads as it did. -/
def fateGetsUptoRow : OpenClaim := { program := "ytcghgahohmabnaa", sum := "60498740a9dea76c42539ec49df09e9a26f845badf375ddbc6a43cd8206d1ba6", func := "angelus/angeluslaw45.FateGets", spec := "fateGets", unfollowed := true, recurses := true, apart := false, narrowed := true }
def FateGetsUptoSaid : Prop := fateGetsUptoRow.holds Try.pinned (OpenSpec.upto fateGetsSpec)

/-- 'angeluslaw45.FatePuts', WHERE WHAT IT READS IS OF BULK AT MOST 1048576: true; the input reads as it did. -/
def fatePutsUptoRow : OpenClaim := { program := "ytcghgahohmabnaa", sum := "60498740a9dea76c42539ec49df09e9a26f845badf375ddbc6a43cd8206d1ba6", func := "angelus/angeluslaw45.FatePuts", spec := "fatePuts", unfollowed := true, recurses := true, apart := false, narrowed := true }
def FatePutsUptoSaid : Prop := fatePutsUptoRow.holds Try.pinned (OpenSpec.upto fatePutsSpec)

/-- 'angeluslaw46.ScriptGood', WHERE WHAT IT READS IS OF BULK AT MOST 1048576: true; the input reads as it did. -/
def scriptGoodUptoRow : OpenClaim := { program := "ytcghgahohmabnaa", sum := "60498740a9dea76c42539ec49df09e9a26f845badf375ddbc6a43cd8206d1ba6", func := "angelus/angeluslaw46.ScriptGood", spec := "scriptGood", unfollowed := true, recurses := true, apart := false, narrowed := true }
def ScriptGoodUptoSaid : Prop := scriptGoodUptoRow.holds Try.pinned (OpenSpec.upto scriptGoodSpec)

/-- 'angeluslaw46.ScriptEncodes', WHERE WHAT IT READS IS OF BULK AT MOST 1048576: true; the input reads as it did. -/
def scriptEncodesUptoRow : OpenClaim := { program := "ytcghgahohmabnaa", sum := "60498740a9dea76c42539ec49df09e9a26f845badf375ddbc6a43cd8206d1ba6", func := "angelus/angeluslaw46.ScriptEncodes", spec := "scriptEncodes", unfollowed := true, recurses := true, apart := false, narrowed := true }
def ScriptEncodesUptoSaid : Prop := scriptEncodesUptoRow.holds Try.pinned (OpenSpec.upto scriptEncodesSpec)

/-- 'angeluslaw46.ScriptDecodes', WHERE WHAT IT READS IS OF BULK AT MOST 1048576: true; the input reads as it did. -/
def scriptDecodesUptoRow : OpenClaim := { program := "ytcghgahohmabnaa", sum := "60498740a9dea76c42539ec49df09e9a26f845badf375ddbc6a43cd8206d1ba6", func := "angelus/angeluslaw46.ScriptDecodes", spec := "scriptDecodes", unfollowed := true, recurses := true, apart := false, narrowed := true }
def ScriptDecodesUptoSaid : Prop := scriptDecodesUptoRow.holds Try.pinned (OpenSpec.upto scriptDecodesSpec)

/-- 'angeluslaw46.ScriptOnce', WHERE WHAT IT READS IS OF BULK AT MOST 1048576: true; the input reads as it did. -/
def scriptOnceUptoRow : OpenClaim := { program := "ytcghgahohmabnaa", sum := "60498740a9dea76c42539ec49df09e9a26f845badf375ddbc6a43cd8206d1ba6", func := "angelus/angeluslaw46.ScriptOnce", spec := "scriptOnce", unfollowed := true, recurses := true, apart := false, narrowed := true }
def ScriptOnceUptoSaid : Prop := scriptOnceUptoRow.holds Try.pinned (OpenSpec.upto scriptOnceSpec)

/-- 'angeluslaw46.ScriptMost', WHERE WHAT IT READS IS OF BULK AT MOST 1048576: true; the input reads as it did. -/
def scriptMostUptoRow : OpenClaim := { program := "ytcghgahohmabnaa", sum := "60498740a9dea76c42539ec49df09e9a26f845badf375ddbc6a43cd8206d1ba6", func := "angelus/angeluslaw46.ScriptMost", spec := "scriptMost", unfollowed := true, recurses := true, apart := false, narrowed := true }
def ScriptMostUptoSaid : Prop := scriptMostUptoRow.holds Try.pinned (OpenSpec.upto scriptMostSpec)

end Rows
end Go.Proofs.Ytcghgahohmabnaa
