/-
  No cell of these rows narrows 'for every input' (looked for: loops, veiled, ifaces, maps, wideKeys, modest, calm, conditions, laid).
  DERIVED. THE GIVEN ROWS OF THIS SEAT. 19 by the template 'for every input the law returns true; each argument reads behind the call as it read before'; 0 by the template 'total and deterministic' (their statements: YtpobjcdcimcdnaaTotals.lean).
  GIVEN WITH THE SEED: the statements are not yours to turn. If you find one false, say at which input.
  Laid BY PROGRAM, IN A SANDBOX (cutbox-rows.mjs): the forced cells as the released guide's own fill.sh prints them over the translation 2b185f51d4f6d269… (all of the seat's roots in one cut). By AI agents, Wed Nov 11 2026. No macro, syntax, notation, axiom, sorry.
-/
import Derived.Test.YtpobjcdcimcdnaaChecked
import GoSem.Claim
import GoSem.ClaimJoined
import GoSem.ClaimMapViews
import Derived.JoinedTies
import Derived.KernelRfl
namespace Go.Proofs.Ytpobjcdcimcdnaa
/- THE CELL 'sum', in the pinned program and in every row, IS THE sha256 OF THE DUMP (.gsa) THAT YtpobjcdcimcdnaaProg.lean LOADS. Nothing in Lean hashes anything: it is a label: what it is worth is what the hold of that sum in a sandbox is worth. -/
noncomputable def Try.pinned : Pinned := { name := "ytpobjcdcimcdnaa", sum := "2b185f51d4f6d269b0f1343b54cc667e825f6412062ba3b35f920c7e9d567f74", checked := Try.checked }
namespace Rows
def none {H : Type} : Left H := { results := [], args := [] }

/-- 'angeluslaw05.BufWrites': WHATEVER THE INPUT: true; the input reads as it did. -/
def bufWritesSpec : ChangeSpec := { name := "bufWrites", fn := fun _ => fun
  | [d1, d2] => { results := [.lit (.bool true)], args := [d1, d2] }
  | _ => none }
def bufWritesRow : OpenClaim := { program := "ytpobjcdcimcdnaa", sum := "2b185f51d4f6d269b0f1343b54cc667e825f6412062ba3b35f920c7e9d567f74", func := "angelus/angeluslaw05.BufWrites", spec := "bufWrites", recurses := true, apart := false }
def BufWritesSaid : Prop := bufWritesRow.holds Try.pinned (OpenSpec.ofChange bufWritesSpec)

/-- ITS FALSE NEIGHBOUR: 'it returns false'. Refute it at one input. -/
def bufWritesWrong : ChangeSpec := { name := "bufWrites", fn := fun _ => fun
  | [d1, d2] => { results := [.lit (.bool false)], args := [d1, d2] }
  | _ => none }
def BufWritesWrongFalsely : Prop := bufWritesRow.holds Try.pinned (OpenSpec.ofChange bufWritesWrong)

/-- 'angeluslaw05.BufOnce': WHATEVER THE INPUT: true; the input reads as it did. -/
def bufOnceSpec : ChangeSpec := { name := "bufOnce", fn := fun _ => fun
  | [d] => { results := [.lit (.bool true)], args := [d] }
  | _ => none }
def bufOnceRow : OpenClaim := { program := "ytpobjcdcimcdnaa", sum := "2b185f51d4f6d269b0f1343b54cc667e825f6412062ba3b35f920c7e9d567f74", func := "angelus/angeluslaw05.BufOnce", spec := "bufOnce", apart := false }
def BufOnceSaid : Prop := bufOnceRow.holds Try.pinned (OpenSpec.ofChange bufOnceSpec)

/-- ITS FALSE NEIGHBOUR: 'it returns false'. Refute it at one input. -/
def bufOnceWrong : ChangeSpec := { name := "bufOnce", fn := fun _ => fun
  | [d] => { results := [.lit (.bool false)], args := [d] }
  | _ => none }
def BufOnceWrongFalsely : Prop := bufOnceRow.holds Try.pinned (OpenSpec.ofChange bufOnceWrong)

/-- 'angeluslaw05.BufReads': WHATEVER THE INPUT: true; the input reads as it did. -/
def bufReadsSpec : ChangeSpec := { name := "bufReads", fn := fun _ => fun
  | [d1, d2] => { results := [.lit (.bool true)], args := [d1, d2] }
  | _ => none }
def bufReadsRow : OpenClaim := { program := "ytpobjcdcimcdnaa", sum := "2b185f51d4f6d269b0f1343b54cc667e825f6412062ba3b35f920c7e9d567f74", func := "angelus/angeluslaw05.BufReads", spec := "bufReads", apart := false }
def BufReadsSaid : Prop := bufReadsRow.holds Try.pinned (OpenSpec.ofChange bufReadsSpec)

/-- ITS FALSE NEIGHBOUR: 'it returns false'. Refute it at one input. -/
def bufReadsWrong : ChangeSpec := { name := "bufReads", fn := fun _ => fun
  | [d1, d2] => { results := [.lit (.bool false)], args := [d1, d2] }
  | _ => none }
def BufReadsWrongFalsely : Prop := bufReadsRow.holds Try.pinned (OpenSpec.ofChange bufReadsWrong)

/-- 'angeluslaw05.BufBack': WHATEVER THE INPUT: true; the input reads as it did. -/
def bufBackSpec : ChangeSpec := { name := "bufBack", fn := fun _ => fun
  | [d] => { results := [.lit (.bool true)], args := [d] }
  | _ => none }
def bufBackRow : OpenClaim := { program := "ytpobjcdcimcdnaa", sum := "2b185f51d4f6d269b0f1343b54cc667e825f6412062ba3b35f920c7e9d567f74", func := "angelus/angeluslaw05.BufBack", spec := "bufBack", apart := false }
def BufBackSaid : Prop := bufBackRow.holds Try.pinned (OpenSpec.ofChange bufBackSpec)

/-- ITS FALSE NEIGHBOUR: 'it returns false'. Refute it at one input. -/
def bufBackWrong : ChangeSpec := { name := "bufBack", fn := fun _ => fun
  | [d] => { results := [.lit (.bool false)], args := [d] }
  | _ => none }
def BufBackWrongFalsely : Prop := bufBackRow.holds Try.pinned (OpenSpec.ofChange bufBackWrong)

/-- 'angeluslaw05.BufNil': WHATEVER THE INPUT: true; the input reads as it did. -/
def bufNilSpec : ChangeSpec := { name := "bufNil", fn := fun _ => fun
  | [d1, d2] => { results := [.lit (.bool true)], args := [d1, d2] }
  | _ => none }
def bufNilRow : OpenClaim := { program := "ytpobjcdcimcdnaa", sum := "2b185f51d4f6d269b0f1343b54cc667e825f6412062ba3b35f920c7e9d567f74", func := "angelus/angeluslaw05.BufNil", spec := "bufNil", apart := false }
def BufNilSaid : Prop := bufNilRow.holds Try.pinned (OpenSpec.ofChange bufNilSpec)

/-- ITS FALSE NEIGHBOUR: 'it returns false'. Refute it at one input. -/
def bufNilWrong : ChangeSpec := { name := "bufNil", fn := fun _ => fun
  | [d1, d2] => { results := [.lit (.bool false)], args := [d1, d2] }
  | _ => none }
def BufNilWrongFalsely : Prop := bufNilRow.holds Try.pinned (OpenSpec.ofChange bufNilWrong)

/-- 'angeluslaw09.HeadPuts': WHATEVER THE INPUT: true; the input reads as it did. -/
def headPutsSpec : ChangeSpec := { name := "headPuts", fn := fun _ => fun
  | [d] => { results := [.lit (.bool true)], args := [d] }
  | _ => none }
def headPutsRow : OpenClaim := { program := "ytpobjcdcimcdnaa", sum := "2b185f51d4f6d269b0f1343b54cc667e825f6412062ba3b35f920c7e9d567f74", func := "angelus/angeluslaw09.HeadPuts", spec := "headPuts", recurses := true, apart := false }
def HeadPutsSaid : Prop := headPutsRow.holds Try.pinned (OpenSpec.ofChange headPutsSpec)

/-- ITS FALSE NEIGHBOUR: 'it returns false'. Refute it at one input. -/
def headPutsWrong : ChangeSpec := { name := "headPuts", fn := fun _ => fun
  | [d] => { results := [.lit (.bool false)], args := [d] }
  | _ => none }
def HeadPutsWrongFalsely : Prop := headPutsRow.holds Try.pinned (OpenSpec.ofChange headPutsWrong)

/-- 'angeluslaw09.HeadGets': WHATEVER THE INPUT: true; the input reads as it did. -/
def headGetsSpec : ChangeSpec := { name := "headGets", fn := fun _ => fun
  | [d] => { results := [.lit (.bool true)], args := [d] }
  | _ => none }
def headGetsRow : OpenClaim := { program := "ytpobjcdcimcdnaa", sum := "2b185f51d4f6d269b0f1343b54cc667e825f6412062ba3b35f920c7e9d567f74", func := "angelus/angeluslaw09.HeadGets", spec := "headGets", apart := false }
def HeadGetsSaid : Prop := headGetsRow.holds Try.pinned (OpenSpec.ofChange headGetsSpec)

/-- ITS FALSE NEIGHBOUR: 'it returns false'. Refute it at one input. -/
def headGetsWrong : ChangeSpec := { name := "headGets", fn := fun _ => fun
  | [d] => { results := [.lit (.bool false)], args := [d] }
  | _ => none }
def HeadGetsWrongFalsely : Prop := headGetsRow.holds Try.pinned (OpenSpec.ofChange headGetsWrong)

/-- 'angeluslaw10.DataNew': WHATEVER THE INPUT: true; the input reads as it did. -/
def dataNewSpec : ChangeSpec := { name := "dataNew", fn := fun _ => fun
  | [d1, d2] => { results := [.lit (.bool true)], args := [d1, d2] }
  | _ => none }
def dataNewRow : OpenClaim := { program := "ytpobjcdcimcdnaa", sum := "2b185f51d4f6d269b0f1343b54cc667e825f6412062ba3b35f920c7e9d567f74", func := "angelus/angeluslaw10.DataNew", spec := "dataNew", apart := false }
def DataNewSaid : Prop := dataNewRow.holds Try.pinned (OpenSpec.ofChange dataNewSpec)

/-- ITS FALSE NEIGHBOUR: 'it returns false'. Refute it at one input. -/
def dataNewWrong : ChangeSpec := { name := "dataNew", fn := fun _ => fun
  | [d1, d2] => { results := [.lit (.bool false)], args := [d1, d2] }
  | _ => none }
def DataNewWrongFalsely : Prop := dataNewRow.holds Try.pinned (OpenSpec.ofChange dataNewWrong)

/-- 'angeluslaw12.AttendNew': WHATEVER THE INPUT: true; the input reads as it did. -/
def attendNewSpec : ChangeSpec := { name := "attendNew", fn := fun _ => fun
  | [d1, d2, d3] => { results := [.lit (.bool true)], args := [d1, d2, d3] }
  | _ => none }
def attendNewRow : OpenClaim := { program := "ytpobjcdcimcdnaa", sum := "2b185f51d4f6d269b0f1343b54cc667e825f6412062ba3b35f920c7e9d567f74", func := "angelus/angeluslaw12.AttendNew", spec := "attendNew", apart := false }
def AttendNewSaid : Prop := attendNewRow.holds Try.pinned (OpenSpec.ofChange attendNewSpec)

/-- ITS FALSE NEIGHBOUR: 'it returns false'. Refute it at one input. -/
def attendNewWrong : ChangeSpec := { name := "attendNew", fn := fun _ => fun
  | [d1, d2, d3] => { results := [.lit (.bool false)], args := [d1, d2, d3] }
  | _ => none }
def AttendNewWrongFalsely : Prop := attendNewRow.holds Try.pinned (OpenSpec.ofChange attendNewWrong)

/-- 'angeluslaw12.AttendWho': WHATEVER THE INPUT: true; the input reads as it did. -/
def attendWhoSpec : ChangeSpec := { name := "attendWho", fn := fun _ => fun
  | [d1, d2] => { results := [.lit (.bool true)], args := [d1, d2] }
  | _ => none }
def attendWhoRow : OpenClaim := { program := "ytpobjcdcimcdnaa", sum := "2b185f51d4f6d269b0f1343b54cc667e825f6412062ba3b35f920c7e9d567f74", func := "angelus/angeluslaw12.AttendWho", spec := "attendWho", apart := false }
def AttendWhoSaid : Prop := attendWhoRow.holds Try.pinned (OpenSpec.ofChange attendWhoSpec)

/-- ITS FALSE NEIGHBOUR: 'it returns false'. Refute it at one input. -/
def attendWhoWrong : ChangeSpec := { name := "attendWho", fn := fun _ => fun
  | [d1, d2] => { results := [.lit (.bool false)], args := [d1, d2] }
  | _ => none }
def AttendWhoWrongFalsely : Prop := attendWhoRow.holds Try.pinned (OpenSpec.ofChange attendWhoWrong)

/-- 'angeluslaw13.ChunkNew': WHATEVER THE INPUT: true; the input reads as it did. -/
def chunkNewSpec : ChangeSpec := { name := "chunkNew", fn := fun _ => fun
  | [d] => { results := [.lit (.bool true)], args := [d] }
  | _ => none }
def chunkNewRow : OpenClaim := { program := "ytpobjcdcimcdnaa", sum := "2b185f51d4f6d269b0f1343b54cc667e825f6412062ba3b35f920c7e9d567f74", func := "angelus/angeluslaw13.ChunkNew", spec := "chunkNew", apart := false }
def ChunkNewSaid : Prop := chunkNewRow.holds Try.pinned (OpenSpec.ofChange chunkNewSpec)

/-- ITS FALSE NEIGHBOUR: 'it returns false'. Refute it at one input. -/
def chunkNewWrong : ChangeSpec := { name := "chunkNew", fn := fun _ => fun
  | [d] => { results := [.lit (.bool false)], args := [d] }
  | _ => none }
def ChunkNewWrongFalsely : Prop := chunkNewRow.holds Try.pinned (OpenSpec.ofChange chunkNewWrong)

/-- 'angeluslaw13.ChunkGood': WHATEVER THE INPUT: true; the input reads as it did. -/
def chunkGoodSpec : ChangeSpec := { name := "chunkGood", fn := fun _ => fun
  | [d1, d2] => { results := [.lit (.bool true)], args := [d1, d2] }
  | _ => none }
def chunkGoodRow : OpenClaim := { program := "ytpobjcdcimcdnaa", sum := "2b185f51d4f6d269b0f1343b54cc667e825f6412062ba3b35f920c7e9d567f74", func := "angelus/angeluslaw13.ChunkGood", spec := "chunkGood", apart := false }
def ChunkGoodSaid : Prop := chunkGoodRow.holds Try.pinned (OpenSpec.ofChange chunkGoodSpec)

/-- ITS FALSE NEIGHBOUR: 'it returns false'. Refute it at one input. -/
def chunkGoodWrong : ChangeSpec := { name := "chunkGood", fn := fun _ => fun
  | [d1, d2] => { results := [.lit (.bool false)], args := [d1, d2] }
  | _ => none }
def ChunkGoodWrongFalsely : Prop := chunkGoodRow.holds Try.pinned (OpenSpec.ofChange chunkGoodWrong)

/-- 'angeluslaw13.ChunkPuts': WHATEVER THE INPUT: true; the input reads as it did. -/
def chunkPutsSpec : ChangeSpec := { name := "chunkPuts", fn := fun _ => fun
  | [d] => { results := [.lit (.bool true)], args := [d] }
  | _ => none }
def chunkPutsRow : OpenClaim := { program := "ytpobjcdcimcdnaa", sum := "2b185f51d4f6d269b0f1343b54cc667e825f6412062ba3b35f920c7e9d567f74", func := "angelus/angeluslaw13.ChunkPuts", spec := "chunkPuts", recurses := true, apart := false }
def ChunkPutsSaid : Prop := chunkPutsRow.holds Try.pinned (OpenSpec.ofChange chunkPutsSpec)

/-- ITS FALSE NEIGHBOUR: 'it returns false'. Refute it at one input. -/
def chunkPutsWrong : ChangeSpec := { name := "chunkPuts", fn := fun _ => fun
  | [d] => { results := [.lit (.bool false)], args := [d] }
  | _ => none }
def ChunkPutsWrongFalsely : Prop := chunkPutsRow.holds Try.pinned (OpenSpec.ofChange chunkPutsWrong)

/-- 'angeluslaw13.ChunkGets': WHATEVER THE INPUT: true; the input reads as it did. -/
def chunkGetsSpec : ChangeSpec := { name := "chunkGets", fn := fun _ => fun
  | [d1, d2] => { results := [.lit (.bool true)], args := [d1, d2] }
  | _ => none }
def chunkGetsRow : OpenClaim := { program := "ytpobjcdcimcdnaa", sum := "2b185f51d4f6d269b0f1343b54cc667e825f6412062ba3b35f920c7e9d567f74", func := "angelus/angeluslaw13.ChunkGets", spec := "chunkGets", apart := false }
def ChunkGetsSaid : Prop := chunkGetsRow.holds Try.pinned (OpenSpec.ofChange chunkGetsSpec)

/-- ITS FALSE NEIGHBOUR: 'it returns false'. Refute it at one input. -/
def chunkGetsWrong : ChangeSpec := { name := "chunkGets", fn := fun _ => fun
  | [d1, d2] => { results := [.lit (.bool false)], args := [d1, d2] }
  | _ => none }
def ChunkGetsWrongFalsely : Prop := chunkGetsRow.holds Try.pinned (OpenSpec.ofChange chunkGetsWrong)

/-- 'angeluslaw14.SealEncodes': WHATEVER THE INPUT: true; the input reads as it did. -/
def sealEncodesSpec : ChangeSpec := { name := "sealEncodes", fn := fun _ => fun
  | [d] => { results := [.lit (.bool true)], args := [d] }
  | _ => none }
def sealEncodesRow : OpenClaim := { program := "ytpobjcdcimcdnaa", sum := "2b185f51d4f6d269b0f1343b54cc667e825f6412062ba3b35f920c7e9d567f74", func := "angelus/angeluslaw14.SealEncodes", spec := "sealEncodes", recurses := true, apart := false }
def SealEncodesSaid : Prop := sealEncodesRow.holds Try.pinned (OpenSpec.ofChange sealEncodesSpec)

/-- ITS FALSE NEIGHBOUR: 'it returns false'. Refute it at one input. -/
def sealEncodesWrong : ChangeSpec := { name := "sealEncodes", fn := fun _ => fun
  | [d] => { results := [.lit (.bool false)], args := [d] }
  | _ => none }
def SealEncodesWrongFalsely : Prop := sealEncodesRow.holds Try.pinned (OpenSpec.ofChange sealEncodesWrong)

/-- 'angeluslaw14.SealDecodes': WHATEVER THE INPUT: true; the input reads as it did. -/
def sealDecodesSpec : ChangeSpec := { name := "sealDecodes", fn := fun _ => fun
  | [d] => { results := [.lit (.bool true)], args := [d] }
  | _ => none }
def sealDecodesRow : OpenClaim := { program := "ytpobjcdcimcdnaa", sum := "2b185f51d4f6d269b0f1343b54cc667e825f6412062ba3b35f920c7e9d567f74", func := "angelus/angeluslaw14.SealDecodes", spec := "sealDecodes", apart := false }
def SealDecodesSaid : Prop := sealDecodesRow.holds Try.pinned (OpenSpec.ofChange sealDecodesSpec)

/-- ITS FALSE NEIGHBOUR: 'it returns false'. Refute it at one input. -/
def sealDecodesWrong : ChangeSpec := { name := "sealDecodes", fn := fun _ => fun
  | [d] => { results := [.lit (.bool false)], args := [d] }
  | _ => none }
def SealDecodesWrongFalsely : Prop := sealDecodesRow.holds Try.pinned (OpenSpec.ofChange sealDecodesWrong)

/-- 'angeluslaw14.SealSums': WHATEVER THE INPUT: true; the input reads as it did. -/
def sealSumsSpec : ChangeSpec := { name := "sealSums", fn := fun _ => fun
  | [d] => { results := [.lit (.bool true)], args := [d] }
  | _ => none }
def sealSumsRow : OpenClaim := { program := "ytpobjcdcimcdnaa", sum := "2b185f51d4f6d269b0f1343b54cc667e825f6412062ba3b35f920c7e9d567f74", func := "angelus/angeluslaw14.SealSums", spec := "sealSums", apart := false }
def SealSumsSaid : Prop := sealSumsRow.holds Try.pinned (OpenSpec.ofChange sealSumsSpec)

/-- ITS FALSE NEIGHBOUR: 'it returns false'. Refute it at one input. -/
def sealSumsWrong : ChangeSpec := { name := "sealSums", fn := fun _ => fun
  | [d] => { results := [.lit (.bool false)], args := [d] }
  | _ => none }
def SealSumsWrongFalsely : Prop := sealSumsRow.holds Try.pinned (OpenSpec.ofChange sealSumsWrong)

/-- 'angeluslaw14.SealOnce': WHATEVER THE INPUT: true; the input reads as it did. -/
def sealOnceSpec : ChangeSpec := { name := "sealOnce", fn := fun _ => fun
  | [d] => { results := [.lit (.bool true)], args := [d] }
  | _ => none }
def sealOnceRow : OpenClaim := { program := "ytpobjcdcimcdnaa", sum := "2b185f51d4f6d269b0f1343b54cc667e825f6412062ba3b35f920c7e9d567f74", func := "angelus/angeluslaw14.SealOnce", spec := "sealOnce", apart := false }
def SealOnceSaid : Prop := sealOnceRow.holds Try.pinned (OpenSpec.ofChange sealOnceSpec)

/-- ITS FALSE NEIGHBOUR: 'it returns false'. Refute it at one input. -/
def sealOnceWrong : ChangeSpec := { name := "sealOnce", fn := fun _ => fun
  | [d] => { results := [.lit (.bool false)], args := [d] }
  | _ => none }
def SealOnceWrongFalsely : Prop := sealOnceRow.holds Try.pinned (OpenSpec.ofChange sealOnceWrong)

/-- 'angeluslaw14.SealBursts': WHATEVER THE INPUT: true; the input reads as it did. -/
def sealBurstsSpec : ChangeSpec := { name := "sealBursts", fn := fun _ => fun
  | [d1, d2, d3] => { results := [.lit (.bool true)], args := [d1, d2, d3] }
  | _ => none }
def sealBurstsRow : OpenClaim := { program := "ytpobjcdcimcdnaa", sum := "2b185f51d4f6d269b0f1343b54cc667e825f6412062ba3b35f920c7e9d567f74", func := "angelus/angeluslaw14.SealBursts", spec := "sealBursts", apart := false }
def SealBurstsSaid : Prop := sealBurstsRow.holds Try.pinned (OpenSpec.ofChange sealBurstsSpec)

/-- ITS FALSE NEIGHBOUR: 'it returns false'. Refute it at one input. -/
def sealBurstsWrong : ChangeSpec := { name := "sealBursts", fn := fun _ => fun
  | [d1, d2, d3] => { results := [.lit (.bool false)], args := [d1, d2, d3] }
  | _ => none }
def SealBurstsWrongFalsely : Prop := sealBurstsRow.holds Try.pinned (OpenSpec.ofChange sealBurstsWrong)

/- THE SECOND FORM. 'bulk': how many values and letters a reading holds, each counted each time it is reached (what is shared counts as often as it is met; a slice's spare places count too). A statement '..UptoSaid' is the law's where the arguments, and the package variables that the reading takes, are together of bulk at most 1048576: NARROWER than '..Said'. Prove '..Said' where nothing that the law and all that it calls make is longer than what came in: it says more and counts as full. Else prove '..UptoSaid'. A law counts once. -/
mutual
def uptoBulk {H : Type} : DataW H → Nat
  | .lit (.string bytes) => bytes.length + 1
  | .lit _ => 1
  | .nil => 1
  | .ptr d => uptoBulk d + 1
  | .slice elems spare => uptoBulkAll elems + uptoBulkAll spare + 1
  | .agg parts => uptoBulkAll parts + 1
  | .iface _ d => uptoBulk d + 1
  | .map entries => uptoBulkEntries entries + 1
  | .held _ => 1
def uptoBulkAll {H : Type} : List (DataW H) → Nat
  | [] => 0
  | d :: r => uptoBulk d + uptoBulkAll r
def uptoBulkEntries {H : Type} : List (Lit × DataW H) → Nat
  | [] => 0
  | x :: r => uptoBulkEntry x + uptoBulkEntries r
def uptoBulkEntry {H : Type} : Lit × DataW H → Nat
  | (.string bytes, d) => bytes.length + uptoBulk d + 1
  | (_, d) => uptoBulk d + 1
 end
def uptoSmall : (H : Type) → List (DataW H) → Bool := fun _ ds => decide (uptoBulkAll ds ≤ 1048576)
def OpenSpec.upto (s : _root_.Go.ChangeSpec) : _root_.Go.OpenSpec := { _root_.Go.OpenSpec.ofChange s with cond := some uptoSmall }

/-- 'angeluslaw05.BufWrites', WHERE WHAT IT READS IS OF BULK AT MOST 1048576: true; the input reads as it did. -/
def bufWritesUptoRow : OpenClaim := { program := "ytpobjcdcimcdnaa", sum := "2b185f51d4f6d269b0f1343b54cc667e825f6412062ba3b35f920c7e9d567f74", func := "angelus/angeluslaw05.BufWrites", spec := "bufWrites", recurses := true, apart := false, narrowed := true }
def BufWritesUptoSaid : Prop := bufWritesUptoRow.holds Try.pinned (OpenSpec.upto bufWritesSpec)

/-- 'angeluslaw05.BufOnce', WHERE WHAT IT READS IS OF BULK AT MOST 1048576: true; the input reads as it did. -/
def bufOnceUptoRow : OpenClaim := { program := "ytpobjcdcimcdnaa", sum := "2b185f51d4f6d269b0f1343b54cc667e825f6412062ba3b35f920c7e9d567f74", func := "angelus/angeluslaw05.BufOnce", spec := "bufOnce", apart := false, narrowed := true }
def BufOnceUptoSaid : Prop := bufOnceUptoRow.holds Try.pinned (OpenSpec.upto bufOnceSpec)

/-- 'angeluslaw05.BufReads', WHERE WHAT IT READS IS OF BULK AT MOST 1048576: true; the input reads as it did. -/
def bufReadsUptoRow : OpenClaim := { program := "ytpobjcdcimcdnaa", sum := "2b185f51d4f6d269b0f1343b54cc667e825f6412062ba3b35f920c7e9d567f74", func := "angelus/angeluslaw05.BufReads", spec := "bufReads", apart := false, narrowed := true }
def BufReadsUptoSaid : Prop := bufReadsUptoRow.holds Try.pinned (OpenSpec.upto bufReadsSpec)

/-- 'angeluslaw05.BufBack', WHERE WHAT IT READS IS OF BULK AT MOST 1048576: true; the input reads as it did. -/
def bufBackUptoRow : OpenClaim := { program := "ytpobjcdcimcdnaa", sum := "2b185f51d4f6d269b0f1343b54cc667e825f6412062ba3b35f920c7e9d567f74", func := "angelus/angeluslaw05.BufBack", spec := "bufBack", apart := false, narrowed := true }
def BufBackUptoSaid : Prop := bufBackUptoRow.holds Try.pinned (OpenSpec.upto bufBackSpec)

/-- 'angeluslaw05.BufNil', WHERE WHAT IT READS IS OF BULK AT MOST 1048576: true; the input reads as it did. -/
def bufNilUptoRow : OpenClaim := { program := "ytpobjcdcimcdnaa", sum := "2b185f51d4f6d269b0f1343b54cc667e825f6412062ba3b35f920c7e9d567f74", func := "angelus/angeluslaw05.BufNil", spec := "bufNil", apart := false, narrowed := true }
def BufNilUptoSaid : Prop := bufNilUptoRow.holds Try.pinned (OpenSpec.upto bufNilSpec)

/-- 'angeluslaw09.HeadPuts', WHERE WHAT IT READS IS OF BULK AT MOST 1048576: true; the input reads as it did. -/
def headPutsUptoRow : OpenClaim := { program := "ytpobjcdcimcdnaa", sum := "2b185f51d4f6d269b0f1343b54cc667e825f6412062ba3b35f920c7e9d567f74", func := "angelus/angeluslaw09.HeadPuts", spec := "headPuts", recurses := true, apart := false, narrowed := true }
def HeadPutsUptoSaid : Prop := headPutsUptoRow.holds Try.pinned (OpenSpec.upto headPutsSpec)

/-- 'angeluslaw09.HeadGets', WHERE WHAT IT READS IS OF BULK AT MOST 1048576: true; the input reads as it did. -/
def headGetsUptoRow : OpenClaim := { program := "ytpobjcdcimcdnaa", sum := "2b185f51d4f6d269b0f1343b54cc667e825f6412062ba3b35f920c7e9d567f74", func := "angelus/angeluslaw09.HeadGets", spec := "headGets", apart := false, narrowed := true }
def HeadGetsUptoSaid : Prop := headGetsUptoRow.holds Try.pinned (OpenSpec.upto headGetsSpec)

/-- 'angeluslaw10.DataNew', WHERE WHAT IT READS IS OF BULK AT MOST 1048576: true; the input reads as it did. -/
def dataNewUptoRow : OpenClaim := { program := "ytpobjcdcimcdnaa", sum := "2b185f51d4f6d269b0f1343b54cc667e825f6412062ba3b35f920c7e9d567f74", func := "angelus/angeluslaw10.DataNew", spec := "dataNew", apart := false, narrowed := true }
def DataNewUptoSaid : Prop := dataNewUptoRow.holds Try.pinned (OpenSpec.upto dataNewSpec)

/-- 'angeluslaw12.AttendNew', WHERE WHAT IT READS IS OF BULK AT MOST 1048576: true; the input reads as it did. -/
def attendNewUptoRow : OpenClaim := { program := "ytpobjcdcimcdnaa", sum := "2b185f51d4f6d269b0f1343b54cc667e825f6412062ba3b35f920c7e9d567f74", func := "angelus/angeluslaw12.AttendNew", spec := "attendNew", apart := false, narrowed := true }
def AttendNewUptoSaid : Prop := attendNewUptoRow.holds Try.pinned (OpenSpec.upto attendNewSpec)

/-- 'angeluslaw12.AttendWho', WHERE WHAT IT READS IS OF BULK AT MOST 1048576: true; the input reads as it did. -/
def attendWhoUptoRow : OpenClaim := { program := "ytpobjcdcimcdnaa", sum := "2b185f51d4f6d269b0f1343b54cc667e825f6412062ba3b35f920c7e9d567f74", func := "angelus/angeluslaw12.AttendWho", spec := "attendWho", apart := false, narrowed := true }
def AttendWhoUptoSaid : Prop := attendWhoUptoRow.holds Try.pinned (OpenSpec.upto attendWhoSpec)

/-- 'angeluslaw13.ChunkNew', WHERE WHAT IT READS IS OF BULK AT MOST 1048576: true; the input reads as it did. -/
def chunkNewUptoRow : OpenClaim := { program := "ytpobjcdcimcdnaa", sum := "2b185f51d4f6d269b0f1343b54cc667e825f6412062ba3b35f920c7e9d567f74", func := "angelus/angeluslaw13.ChunkNew", spec := "chunkNew", apart := false, narrowed := true }
def ChunkNewUptoSaid : Prop := chunkNewUptoRow.holds Try.pinned (OpenSpec.upto chunkNewSpec)

/-- 'angeluslaw13.ChunkGood', WHERE WHAT IT READS IS OF BULK AT MOST 1048576: true; the input reads as it did. -/
def chunkGoodUptoRow : OpenClaim := { program := "ytpobjcdcimcdnaa", sum := "2b185f51d4f6d269b0f1343b54cc667e825f6412062ba3b35f920c7e9d567f74", func := "angelus/angeluslaw13.ChunkGood", spec := "chunkGood", apart := false, narrowed := true }
def ChunkGoodUptoSaid : Prop := chunkGoodUptoRow.holds Try.pinned (OpenSpec.upto chunkGoodSpec)

/-- 'angeluslaw13.ChunkPuts', WHERE WHAT IT READS IS OF BULK AT MOST 1048576: true; the input reads as it did. -/
def chunkPutsUptoRow : OpenClaim := { program := "ytpobjcdcimcdnaa", sum := "2b185f51d4f6d269b0f1343b54cc667e825f6412062ba3b35f920c7e9d567f74", func := "angelus/angeluslaw13.ChunkPuts", spec := "chunkPuts", recurses := true, apart := false, narrowed := true }
def ChunkPutsUptoSaid : Prop := chunkPutsUptoRow.holds Try.pinned (OpenSpec.upto chunkPutsSpec)

/-- 'angeluslaw13.ChunkGets', WHERE WHAT IT READS IS OF BULK AT MOST 1048576: true; the input reads as it did. -/
def chunkGetsUptoRow : OpenClaim := { program := "ytpobjcdcimcdnaa", sum := "2b185f51d4f6d269b0f1343b54cc667e825f6412062ba3b35f920c7e9d567f74", func := "angelus/angeluslaw13.ChunkGets", spec := "chunkGets", apart := false, narrowed := true }
def ChunkGetsUptoSaid : Prop := chunkGetsUptoRow.holds Try.pinned (OpenSpec.upto chunkGetsSpec)

/-- 'angeluslaw14.SealEncodes', WHERE WHAT IT READS IS OF BULK AT MOST 1048576: true; the input reads as it did. -/
def sealEncodesUptoRow : OpenClaim := { program := "ytpobjcdcimcdnaa", sum := "2b185f51d4f6d269b0f1343b54cc667e825f6412062ba3b35f920c7e9d567f74", func := "angelus/angeluslaw14.SealEncodes", spec := "sealEncodes", recurses := true, apart := false, narrowed := true }
def SealEncodesUptoSaid : Prop := sealEncodesUptoRow.holds Try.pinned (OpenSpec.upto sealEncodesSpec)

/-- 'angeluslaw14.SealDecodes', WHERE WHAT IT READS IS OF BULK AT MOST 1048576: true; the input reads as it did. -/
def sealDecodesUptoRow : OpenClaim := { program := "ytpobjcdcimcdnaa", sum := "2b185f51d4f6d269b0f1343b54cc667e825f6412062ba3b35f920c7e9d567f74", func := "angelus/angeluslaw14.SealDecodes", spec := "sealDecodes", apart := false, narrowed := true }
def SealDecodesUptoSaid : Prop := sealDecodesUptoRow.holds Try.pinned (OpenSpec.upto sealDecodesSpec)

/-- 'angeluslaw14.SealSums', WHERE WHAT IT READS IS OF BULK AT MOST 1048576: true; the input reads as it did. -/
def sealSumsUptoRow : OpenClaim := { program := "ytpobjcdcimcdnaa", sum := "2b185f51d4f6d269b0f1343b54cc667e825f6412062ba3b35f920c7e9d567f74", func := "angelus/angeluslaw14.SealSums", spec := "sealSums", apart := false, narrowed := true }
def SealSumsUptoSaid : Prop := sealSumsUptoRow.holds Try.pinned (OpenSpec.upto sealSumsSpec)

/-- 'angeluslaw14.SealOnce', WHERE WHAT IT READS IS OF BULK AT MOST 1048576: true; the input reads as it did. -/
def sealOnceUptoRow : OpenClaim := { program := "ytpobjcdcimcdnaa", sum := "2b185f51d4f6d269b0f1343b54cc667e825f6412062ba3b35f920c7e9d567f74", func := "angelus/angeluslaw14.SealOnce", spec := "sealOnce", apart := false, narrowed := true }
def SealOnceUptoSaid : Prop := sealOnceUptoRow.holds Try.pinned (OpenSpec.upto sealOnceSpec)

/-- 'angeluslaw14.SealBursts', WHERE WHAT IT READS IS OF BULK AT MOST 1048576: true; the input reads as it did. -/
def sealBurstsUptoRow : OpenClaim := { program := "ytpobjcdcimcdnaa", sum := "2b185f51d4f6d269b0f1343b54cc667e825f6412062ba3b35f920c7e9d567f74", func := "angelus/angeluslaw14.SealBursts", spec := "sealBursts", apart := false, narrowed := true }
def SealBurstsUptoSaid : Prop := sealBurstsUptoRow.holds Try.pinned (OpenSpec.upto sealBurstsSpec)

end Rows
end Go.Proofs.Ytpobjcdcimcdnaa
