/- Words of this session's own for the walks: the complement of a uint32, as the walk takes it. -/
import Derived.Test.YtdomngcedflapaaWWords
namespace Go.Proofs.YtdomngcedflapaaW.Mine

/-- The complement of a uint32 is the exclusive or with the mask of all ones. -/
theorem unary_xor_u32 (n : Int) : Op.unary .xor (.int .u32 n) = Op.intBits .xor .u32 4294967295 n := rfl

/-- A text of two bytes. -/
theorem size_two_bytes (a b : UInt8) : (⟨#[a, b]⟩ : ByteArray).size = 2 := rfl

end Go.Proofs.YtdomngcedflapaaW.Mine
