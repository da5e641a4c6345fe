/- The last bit. -/
import Derived.Test.YtgfnmimfoicmmaaTools
import Derived.Laws.BitsLemmas
namespace Go.Proofs.Ytgfnmimfoicmmaa.Pure
open Go.RowKit
theorem bit1 (x : Int) : Go.bits .and .i64 x 1 = x % 2 := by
  have h : ((BitVec.ofInt 64 x) &&& (BitVec.ofInt 64 1)).toNat = (x % 18446744073709551616).toNat % 2 := by
    rw [BitVec.toNat_and, BitVec.toNat_ofInt, BitVec.toNat_ofInt]
    show (x % 18446744073709551616).toNat &&& 1 = _
    rw [Nat.and_one_is_mod]
  show IntKind.i64.wrap ((((BitVec.ofInt 64 x) &&& (BitVec.ofInt 64 1)).toNat : Nat) : Int) = x % 2
  rw [h, IntKind.wrap_i64]
  omega
end Go.Proofs.Ytgfnmimfoicmmaa.Pure
