/- Closed facts on the types of this translation. -/
import Derived.Test.YtldgnallbkpchaaRows
import Derived.Test.YtldgnallbkpchaaBase
namespace Go.Proofs.Ytldgnallbkpchaa
theorem byteInfo : (Try.prog.info? 5).map (fun i => (i.zero, i.size, i.bytes)) = some (some (.int .u8 0), 1, 1) := by kernel_rfl
theorem byteT : ByteT Try.prog := ⟨Try.underlying25, info_parts byteInfo⟩
end Go.Proofs.Ytldgnallbkpchaa
