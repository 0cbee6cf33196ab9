/- Packets as values; what of their heads may be. Whether two packets are the same. Whether two packets are the same, as the program has it. -/
import Derived.Test.YtbccbfmgjeknhaaTool
namespace Go.Proofs.Ytbccbfmgjeknhaa
open Go.RowKit
/-- what a packet has beside its body -/
structure Pkt where
  kind : Int
  t : Int
  frm : Int
  seq : Int
  hops : Int
  no : Int
  to : Int
  index : Int
  total : Int
  stamp : Int
  value : Int
/-- the cells of a packet whose body is the slice (A, n, c) -/
abbrev pcells (p : Pkt) (A : Option Addr) (n c : Nat) : Array Value :=
  #[.int .i64 p.kind, .int .i64 p.t, .int .i64 p.frm, .int .u32 p.seq, .int .i64 p.hops, .int .i64 p.no, .int .i64 p.to, .int .i64 p.index, .int .i64 p.total, .int .i64 p.stamp, .int .i64 p.value, .slice A n c]
/-- a packet whose body is the slice (A, n, c) -/
abbrev pv (p : Pkt) (A : Option Addr) (n c : Nat) : Value :=
  .agg #[.int .i64 p.kind, .int .i64 p.t, .int .i64 p.frm, .int .u32 p.seq, .int .i64 p.hops, .int .i64 p.no, .int .i64 p.to, .int .i64 p.index, .int .i64 p.total, .int .i64 p.stamp, .int .i64 p.value, .slice A n c]
/-- the block of a key by value -/
abbrev kv (t f q : Int) : Value := .agg #[.int .i64 t, .int .i64 f, .int .u32 q]
end Go.Proofs.Ytbccbfmgjeknhaa
namespace Go.Proofs.Ytbccbfmgjeknhaa
open Go.RowKit
theorem conv_any {w : World} {A : Option Addr} {l : List UInt8} (c : Nat) (hb : Bytes w A l) : (convert 22 9 (.slice A l.length c)).run Try.prog w = .ok (.string ⟨l.toArray⟩) w :=
  run_conv_bytes Try.underlying22 Try.underlying5 Try.underlying9 c hb
end Go.Proofs.Ytbccbfmgjeknhaa
namespace Go.Proofs.Ytbccbfmgjeknhaa
open Go.RowKit
end Go.Proofs.Ytbccbfmgjeknhaa
