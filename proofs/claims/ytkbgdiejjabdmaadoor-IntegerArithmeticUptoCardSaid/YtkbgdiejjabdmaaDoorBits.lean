/- Small facts on words of 64 and 32 bits. -/
import Derived.Laws.BitsAllLaws
import Derived.WalkKit
namespace Go.Proofs.YtkbgdiejjabdmaaDoor
open Go.RowKit

theorem low32 (x : Int) : bits .and .u64 x 4294967295 = x % 4294967296 := by
  show IntKind.u64.wrap ((BitVec.ofInt 64 x &&& BitVec.ofInt 64 4294967295).toNat : Int) = _
  rw [BitVec.toNat_and, show (BitVec.ofInt 64 4294967295).toNat = 2 ^ 32 - 1 from rfl, Nat.and_two_pow_sub_one_eq_mod, BitVec.toNat_ofInt, IntKind.wrap_u64]
  omega
theorem u32_low (x : Int) : IntKind.u32.wrap x = x % 4294967296 := IntKind.wrap_u32' x
theorem or_low (x y : Int) (h0 : 0 ≤ x) (h1 : x < 18446744073709551616) (hx : x % 4294967296 = 0) (hy : 0 ≤ y) (hy1 : y < 4294967296) : bits .or .u64 x y = x + y := by
  rw [u64_or x y h0 h1 hy (by omega), nat_join 32 x.toNat y.toNat (by omega) (by omega)]
  omega
theorem or_high (x y : Int) (h0 : 0 ≤ x) (h1 : x < 18446744073709551616) (hx : x % 4294967296 = 0) (hy : 0 ≤ y) (hy1 : y < 4294967296) : bits .or .u64 y x = y + x := by
  rw [u64_or y x hy (by omega) h0 h1, Nat.or_comm, nat_join 32 x.toNat y.toNat (by omega) (by omega)]
  omega
end Go.Proofs.YtkbgdiejjabdmaaDoor
