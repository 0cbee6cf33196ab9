/-
  No cell of these rows narrows 'for every input' (looked for: loops, veiled, ifaces, maps, wideKeys, modest, calm, conditions, laid).
  DERIVED. THE GIVEN ROWS OF THIS SEAT. 9 by the template 'for every input the law returns true; each argument reads behind the call as it read before'; 0 by the template 'total and deterministic' (their statements: YtbccbfmgjeknhaaTotals.lean).
  GIVEN WITH THE SEED: the statements are not yours to turn. If you find one false, say at which input.
  Laid BY PROGRAM, IN A SANDBOX (cutbox-rows.mjs): the forced cells as the released guide's own fill.sh prints them over the translation 2097b002e11f9f05… (all of the seat's roots in one cut). By AI agents, Wed Nov 11 2026. No macro, syntax, notation, axiom, sorry.
-/
import Derived.Test.YtbccbfmgjeknhaaChecked
import GoSem.Claim
import GoSem.ClaimJoined
import GoSem.ClaimMapViews
import Derived.JoinedTies
import Derived.KernelRfl
namespace Go.Proofs.Ytbccbfmgjeknhaa
/- THE CELL 'sum', in the pinned program and in every row, IS THE sha256 OF THE DUMP (.gsa) THAT YtbccbfmgjeknhaaProg.lean LOADS. Nothing in Lean hashes anything: it is a label: what it is worth is what the hold of that sum in a sandbox is worth. -/
noncomputable def Try.pinned : Pinned := { name := "ytbccbfmgjeknhaa", sum := "2097b002e11f9f05b4f6135c1d02e7b3fec077b80cae4a3fe20c5a91ba09910e", checked := Try.checked }
namespace Rows
def none {H : Type} : Left H := { results := [], args := [] }

/-- 'angeluslaw41.SnapOwn': WHATEVER THE INPUT: true; the input reads as it did. -/
def snapOwnSpec : ChangeSpec := { name := "snapOwn", fn := fun _ => fun
  | [d1, d2, d3] => { results := [.lit (.bool true)], args := [d1, d2, d3] }
  | _ => none }
def snapOwnRow : OpenClaim := { program := "ytbccbfmgjeknhaa", sum := "2097b002e11f9f05b4f6135c1d02e7b3fec077b80cae4a3fe20c5a91ba09910e", func := "angelus/angeluslaw41.SnapOwn", spec := "snapOwn", apart := false }
def SnapOwnSaid : Prop := snapOwnRow.holds Try.pinned (OpenSpec.ofChange snapOwnSpec)

/-- ITS FALSE NEIGHBOUR: 'it returns false'. Refute it at one input. -/
def snapOwnWrong : ChangeSpec := { name := "snapOwn", fn := fun _ => fun
  | [d1, d2, d3] => { results := [.lit (.bool false)], args := [d1, d2, d3] }
  | _ => none }
def SnapOwnWrongFalsely : Prop := snapOwnRow.holds Try.pinned (OpenSpec.ofChange snapOwnWrong)

/-- 'angeluslaw41.SnapSplits': WHATEVER THE INPUT: true; the input reads as it did. -/
def snapSplitsSpec : ChangeSpec := { name := "snapSplits", fn := fun _ => fun
  | [d1, d2] => { results := [.lit (.bool true)], args := [d1, d2] }
  | _ => none }
def snapSplitsRow : OpenClaim := { program := "ytbccbfmgjeknhaa", sum := "2097b002e11f9f05b4f6135c1d02e7b3fec077b80cae4a3fe20c5a91ba09910e", func := "angelus/angeluslaw41.SnapSplits", spec := "snapSplits", apart := false }
def SnapSplitsSaid : Prop := snapSplitsRow.holds Try.pinned (OpenSpec.ofChange snapSplitsSpec)

/-- ITS FALSE NEIGHBOUR: 'it returns false'. Refute it at one input. -/
def snapSplitsWrong : ChangeSpec := { name := "snapSplits", fn := fun _ => fun
  | [d1, d2] => { results := [.lit (.bool false)], args := [d1, d2] }
  | _ => none }
def SnapSplitsWrongFalsely : Prop := snapSplitsRow.holds Try.pinned (OpenSpec.ofChange snapSplitsWrong)

/-- 'angeluslaw41.SnapEncodes': WHATEVER THE INPUT: true; the input reads as it did. -/
def snapEncodesSpec : ChangeSpec := { name := "snapEncodes", fn := fun _ => fun
  | [d1, d2] => { results := [.lit (.bool true)], args := [d1, d2] }
  | _ => none }
def snapEncodesRow : OpenClaim := { program := "ytbccbfmgjeknhaa", sum := "2097b002e11f9f05b4f6135c1d02e7b3fec077b80cae4a3fe20c5a91ba09910e", func := "angelus/angeluslaw41.SnapEncodes", spec := "snapEncodes", recurses := true, apart := false }
def SnapEncodesSaid : Prop := snapEncodesRow.holds Try.pinned (OpenSpec.ofChange snapEncodesSpec)

/-- ITS FALSE NEIGHBOUR: 'it returns false'. Refute it at one input. -/
def snapEncodesWrong : ChangeSpec := { name := "snapEncodes", fn := fun _ => fun
  | [d1, d2] => { results := [.lit (.bool false)], args := [d1, d2] }
  | _ => none }
def SnapEncodesWrongFalsely : Prop := snapEncodesRow.holds Try.pinned (OpenSpec.ofChange snapEncodesWrong)

/-- 'angeluslaw41.SnapDecodes': WHATEVER THE INPUT: true; the input reads as it did. -/
def snapDecodesSpec : ChangeSpec := { name := "snapDecodes", fn := fun _ => fun
  | [d1, d2] => { results := [.lit (.bool true)], args := [d1, d2] }
  | _ => none }
def snapDecodesRow : OpenClaim := { program := "ytbccbfmgjeknhaa", sum := "2097b002e11f9f05b4f6135c1d02e7b3fec077b80cae4a3fe20c5a91ba09910e", func := "angelus/angeluslaw41.SnapDecodes", spec := "snapDecodes", apart := false }
def SnapDecodesSaid : Prop := snapDecodesRow.holds Try.pinned (OpenSpec.ofChange snapDecodesSpec)

/-- ITS FALSE NEIGHBOUR: 'it returns false'. Refute it at one input. -/
def snapDecodesWrong : ChangeSpec := { name := "snapDecodes", fn := fun _ => fun
  | [d1, d2] => { results := [.lit (.bool false)], args := [d1, d2] }
  | _ => none }
def SnapDecodesWrongFalsely : Prop := snapDecodesRow.holds Try.pinned (OpenSpec.ofChange snapDecodesWrong)

/-- 'angeluslaw41.SnapOnce': WHATEVER THE INPUT: true; the input reads as it did. -/
def snapOnceSpec : ChangeSpec := { name := "snapOnce", fn := fun _ => fun
  | [d1, d2] => { results := [.lit (.bool true)], args := [d1, d2] }
  | _ => none }
def snapOnceRow : OpenClaim := { program := "ytbccbfmgjeknhaa", sum := "2097b002e11f9f05b4f6135c1d02e7b3fec077b80cae4a3fe20c5a91ba09910e", func := "angelus/angeluslaw41.SnapOnce", spec := "snapOnce", apart := false }
def SnapOnceSaid : Prop := snapOnceRow.holds Try.pinned (OpenSpec.ofChange snapOnceSpec)

/-- ITS FALSE NEIGHBOUR: 'it returns false'. Refute it at one input. -/
def snapOnceWrong : ChangeSpec := { name := "snapOnce", fn := fun _ => fun
  | [d1, d2] => { results := [.lit (.bool false)], args := [d1, d2] }
  | _ => none }
def SnapOnceWrongFalsely : Prop := snapOnceRow.holds Try.pinned (OpenSpec.ofChange snapOnceWrong)

/-- 'angeluslaw42.PieceOrder': WHATEVER THE INPUT: true; the input reads as it did. -/
def pieceOrderSpec : ChangeSpec := { name := "pieceOrder", fn := fun _ => fun
  | [d1, d2, d3] => { results := [.lit (.bool true)], args := [d1, d2, d3] }
  | _ => none }
def pieceOrderRow : OpenClaim := { program := "ytbccbfmgjeknhaa", sum := "2097b002e11f9f05b4f6135c1d02e7b3fec077b80cae4a3fe20c5a91ba09910e", func := "angelus/angeluslaw42.PieceOrder", spec := "pieceOrder", apart := false }
def PieceOrderSaid : Prop := pieceOrderRow.holds Try.pinned (OpenSpec.ofChange pieceOrderSpec)

/-- ITS FALSE NEIGHBOUR: 'it returns false'. Refute it at one input. -/
def pieceOrderWrong : ChangeSpec := { name := "pieceOrder", fn := fun _ => fun
  | [d1, d2, d3] => { results := [.lit (.bool false)], args := [d1, d2, d3] }
  | _ => none }
def PieceOrderWrongFalsely : Prop := pieceOrderRow.holds Try.pinned (OpenSpec.ofChange pieceOrderWrong)

/-- 'angeluslaw42.PieceOwn': WHATEVER THE INPUT: true; the input reads as it did. -/
def pieceOwnSpec : ChangeSpec := { name := "pieceOwn", fn := fun _ => fun
  | [d] => { results := [.lit (.bool true)], args := [d] }
  | _ => none }
def pieceOwnRow : OpenClaim := { program := "ytbccbfmgjeknhaa", sum := "2097b002e11f9f05b4f6135c1d02e7b3fec077b80cae4a3fe20c5a91ba09910e", func := "angelus/angeluslaw42.PieceOwn", spec := "pieceOwn", apart := false }
def PieceOwnSaid : Prop := pieceOwnRow.holds Try.pinned (OpenSpec.ofChange pieceOwnSpec)

/-- ITS FALSE NEIGHBOUR: 'it returns false'. Refute it at one input. -/
def pieceOwnWrong : ChangeSpec := { name := "pieceOwn", fn := fun _ => fun
  | [d] => { results := [.lit (.bool false)], args := [d] }
  | _ => none }
def PieceOwnWrongFalsely : Prop := pieceOwnRow.holds Try.pinned (OpenSpec.ofChange pieceOwnWrong)

/-- 'angeluslaw42.PieceNotes': WHATEVER THE INPUT: true; the input reads as it did. -/
def pieceNotesSpec : ChangeSpec := { name := "pieceNotes", fn := fun _ => fun
  | [d1, d2] => { results := [.lit (.bool true)], args := [d1, d2] }
  | _ => none }
def pieceNotesRow : OpenClaim := { program := "ytbccbfmgjeknhaa", sum := "2097b002e11f9f05b4f6135c1d02e7b3fec077b80cae4a3fe20c5a91ba09910e", func := "angelus/angeluslaw42.PieceNotes", spec := "pieceNotes", apart := false }
def PieceNotesSaid : Prop := pieceNotesRow.holds Try.pinned (OpenSpec.ofChange pieceNotesSpec)

/-- ITS FALSE NEIGHBOUR: 'it returns false'. Refute it at one input. -/
def pieceNotesWrong : ChangeSpec := { name := "pieceNotes", fn := fun _ => fun
  | [d1, d2] => { results := [.lit (.bool false)], args := [d1, d2] }
  | _ => none }
def PieceNotesWrongFalsely : Prop := pieceNotesRow.holds Try.pinned (OpenSpec.ofChange pieceNotesWrong)

/-- 'angeluslaw42.PieceNil': WHATEVER THE INPUT: true; the input reads as it did. -/
def pieceNilSpec : ChangeSpec := { name := "pieceNil", fn := fun _ => fun
  | [d] => { results := [.lit (.bool true)], args := [d] }
  | _ => none }
def pieceNilRow : OpenClaim := { program := "ytbccbfmgjeknhaa", sum := "2097b002e11f9f05b4f6135c1d02e7b3fec077b80cae4a3fe20c5a91ba09910e", func := "angelus/angeluslaw42.PieceNil", spec := "pieceNil", apart := false }
def PieceNilSaid : Prop := pieceNilRow.holds Try.pinned (OpenSpec.ofChange pieceNilSpec)

/-- ITS FALSE NEIGHBOUR: 'it returns false'. Refute it at one input. -/
def pieceNilWrong : ChangeSpec := { name := "pieceNil", fn := fun _ => fun
  | [d] => { results := [.lit (.bool false)], args := [d] }
  | _ => none }
def PieceNilWrongFalsely : Prop := pieceNilRow.holds Try.pinned (OpenSpec.ofChange pieceNilWrong)

/- THE SECOND FORM. 'bulk': how many values and letters a reading holds, each counted each time it is reached (what is shared counts as often as it is met; a slice's spare places count too). A statement '..UptoSaid' is the law's where the arguments, and the package variables that the reading takes, are together of bulk at most 1048576: NARROWER than '..Said'. Prove '..Said' where nothing that the law and all that it calls make is longer than what came in: it says more and counts as full. Else prove '..UptoSaid'. A law counts once. -/
mutual
def uptoBulk {H : Type} : DataW H → Nat
  | .lit (.string bytes) => bytes.length + 1
  | .lit _ => 1
  | .nil => 1
  | .ptr d => uptoBulk d + 1
  | .slice elems spare => uptoBulkAll elems + uptoBulkAll spare + 1
  | .agg parts => uptoBulkAll parts + 1
  | .iface _ d => uptoBulk d + 1
  | .map entries => uptoBulkEntries entries + 1
  | .held _ => 1
def uptoBulkAll {H : Type} : List (DataW H) → Nat
  | [] => 0
  | d :: r => uptoBulk d + uptoBulkAll r
def uptoBulkEntries {H : Type} : List (Lit × DataW H) → Nat
  | [] => 0
  | x :: r => uptoBulkEntry x + uptoBulkEntries r
def uptoBulkEntry {H : Type} : Lit × DataW H → Nat
  | (.string bytes, d) => bytes.length + uptoBulk d + 1
  | (_, d) => uptoBulk d + 1
 end
def uptoSmall : (H : Type) → List (DataW H) → Bool := fun _ ds => decide (uptoBulkAll ds ≤ 1048576)
def OpenSpec.upto (s : _root_.Go.ChangeSpec) : _root_.Go.OpenSpec := { _root_.Go.OpenSpec.ofChange s with cond := some uptoSmall }

/-- 'angeluslaw41.SnapOwn', WHERE WHAT IT READS IS OF BULK AT MOST 1048576: true; the input reads as it did. -/
def snapOwnUptoRow : OpenClaim := { program := "ytbccbfmgjeknhaa", sum := "2097b002e11f9f05b4f6135c1d02e7b3fec077b80cae4a3fe20c5a91ba09910e", func := "angelus/angeluslaw41.SnapOwn", spec := "snapOwn", apart := false, narrowed := true }
def SnapOwnUptoSaid : Prop := snapOwnUptoRow.holds Try.pinned (OpenSpec.upto snapOwnSpec)

/-- 'angeluslaw41.SnapSplits', WHERE WHAT IT READS IS OF BULK AT MOST 1048576: true; the input reads as it did. -/
def snapSplitsUptoRow : OpenClaim := { program := "ytbccbfmgjeknhaa", sum := "2097b002e11f9f05b4f6135c1d02e7b3fec077b80cae4a3fe20c5a91ba09910e", func := "angelus/angeluslaw41.SnapSplits", spec := "snapSplits", apart := false, narrowed := true }
def SnapSplitsUptoSaid : Prop := snapSplitsUptoRow.holds Try.pinned (OpenSpec.upto snapSplitsSpec)

/-- 'angeluslaw41.SnapEncodes', WHERE WHAT IT READS IS OF BULK AT MOST 1048576: true; the input reads as it did. -/
def snapEncodesUptoRow : OpenClaim := { program := "ytbccbfmgjeknhaa", sum := "2097b002e11f9f05b4f6135c1d02e7b3fec077b80cae4a3fe20c5a91ba09910e", func := "angelus/angeluslaw41.SnapEncodes", spec := "snapEncodes", recurses := true, apart := false, narrowed := true }
def SnapEncodesUptoSaid : Prop := snapEncodesUptoRow.holds Try.pinned (OpenSpec.upto snapEncodesSpec)

/-- 'angeluslaw41.SnapDecodes', WHERE WHAT IT READS IS OF BULK AT MOST 1048576: true; the input reads as it did. -/
def snapDecodesUptoRow : OpenClaim := { program := "ytbccbfmgjeknhaa", sum := "2097b002e11f9f05b4f6135c1d02e7b3fec077b80cae4a3fe20c5a91ba09910e", func := "angelus/angeluslaw41.SnapDecodes", spec := "snapDecodes", apart := false, narrowed := true }
def SnapDecodesUptoSaid : Prop := snapDecodesUptoRow.holds Try.pinned (OpenSpec.upto snapDecodesSpec)

/-- 'angeluslaw41.SnapOnce', WHERE WHAT IT READS IS OF BULK AT MOST 1048576: true; the input reads as it did. -/
def snapOnceUptoRow : OpenClaim := { program := "ytbccbfmgjeknhaa", sum := "2097b002e11f9f05b4f6135c1d02e7b3fec077b80cae4a3fe20c5a91ba09910e", func := "angelus/angeluslaw41.SnapOnce", spec := "snapOnce", apart := false, narrowed := true }
def SnapOnceUptoSaid : Prop := snapOnceUptoRow.holds Try.pinned (OpenSpec.upto snapOnceSpec)

/-- 'angeluslaw42.PieceOrder', WHERE WHAT IT READS IS OF BULK AT MOST 1048576: true; the input reads as it did. -/
def pieceOrderUptoRow : OpenClaim := { program := "ytbccbfmgjeknhaa", sum := "2097b002e11f9f05b4f6135c1d02e7b3fec077b80cae4a3fe20c5a91ba09910e", func := "angelus/angeluslaw42.PieceOrder", spec := "pieceOrder", apart := false, narrowed := true }
def PieceOrderUptoSaid : Prop := pieceOrderUptoRow.holds Try.pinned (OpenSpec.upto pieceOrderSpec)

/-- 'angeluslaw42.PieceOwn', WHERE WHAT IT READS IS OF BULK AT MOST 1048576: true; the input reads as it did. -/
def pieceOwnUptoRow : OpenClaim := { program := "ytbccbfmgjeknhaa", sum := "2097b002e11f9f05b4f6135c1d02e7b3fec077b80cae4a3fe20c5a91ba09910e", func := "angelus/angeluslaw42.PieceOwn", spec := "pieceOwn", apart := false, narrowed := true }
def PieceOwnUptoSaid : Prop := pieceOwnUptoRow.holds Try.pinned (OpenSpec.upto pieceOwnSpec)

/-- 'angeluslaw42.PieceNotes', WHERE WHAT IT READS IS OF BULK AT MOST 1048576: true; the input reads as it did. -/
def pieceNotesUptoRow : OpenClaim := { program := "ytbccbfmgjeknhaa", sum := "2097b002e11f9f05b4f6135c1d02e7b3fec077b80cae4a3fe20c5a91ba09910e", func := "angelus/angeluslaw42.PieceNotes", spec := "pieceNotes", apart := false, narrowed := true }
def PieceNotesUptoSaid : Prop := pieceNotesUptoRow.holds Try.pinned (OpenSpec.upto pieceNotesSpec)

/-- 'angeluslaw42.PieceNil', WHERE WHAT IT READS IS OF BULK AT MOST 1048576: true; the input reads as it did. -/
def pieceNilUptoRow : OpenClaim := { program := "ytbccbfmgjeknhaa", sum := "2097b002e11f9f05b4f6135c1d02e7b3fec077b80cae4a3fe20c5a91ba09910e", func := "angelus/angeluslaw42.PieceNil", spec := "pieceNil", apart := false, narrowed := true }
def PieceNilUptoSaid : Prop := pieceNilUptoRow.holds Try.pinned (OpenSpec.upto pieceNilSpec)

end Rows
end Go.Proofs.Ytbccbfmgjeknhaa
