/- Small laws that this seat's walks take as rewrite rules: '^x' of unsigned numbers. Conditions: none. -/
import Derived.WalkKit
import Derived.Laws.Unary
namespace Go.Proofs.YtbnihnggljagnaaDoor.Base
theorem ux_u32 (n : Int) : Op.unary .xor (.int .u32 n) = pure (.int .u32 (bits .xor .u32 4294967295 n)) := rfl
theorem ux_u64 (n : Int) : Op.unary .xor (.int .u64 n) = pure (.int .u64 (bits .xor .u64 18446744073709551615 n)) := rfl
theorem ux_u8 (n : Int) : Op.unary .xor (.int .u8 n) = pure (.int .u8 (bits .xor .u8 255 n)) := rfl
theorem ux_u16 (n : Int) : Op.unary .xor (.int .u16 n) = pure (.int .u16 (bits .xor .u16 65535 n)) := rfl
end Go.Proofs.YtbnihnggljagnaaDoor.Base
