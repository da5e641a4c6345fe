/- The divisors of a number, and what Count and Hurwitz return of them: no loop, no rounds. -/
import Derived.Test.YtgfnmimfoicmmaaPMx6
import Derived.Test.YtgfnmimfoicmmaaPMx7
import Derived.Test.YtgfnmimfoicmmaaTools
set_option linter.unusedVariables false
set_option linter.unusedSimpArgs false
namespace Go.Proofs.Ytgfnmimfoicmmaa.Pure
open Go.RowKit Go.Proofs.Ytgfnmimfoicmmaa.PM Go.Proofs.YtgfnmimfoicmmaaW.PrintWords Go.Proofs.YtgfnmimfoicmmaaW.PrintLast

theorem lives_ev : Ev (fun k => bellpulllaw04_lives.f k) true := Ev.of (fun k => bellpulllaw04_lives.mono k) (k := 1200) (by decide +kernel)

/-- The divisors of n that are at most m. -/
def dv (n : Int) : Nat → List Int
  | 0 => []
  | m + 1 => if Int.tmod n ((m : Int) + 1) = 0 then dv n m ++ [(m : Int) + 1] else dv n m
/-- The sum of a number's good divisors, as the program sums. -/
def ds (n : Nat) (q : Int → Bool) : Int := sumW ((dv n n).filter q)
def q4 (d : Int) : Bool := !decide (Int.tmod d 4 = 0)
def q2 (d : Int) : Bool := decide (Int.tmod d 2 = 1)
end Go.Proofs.Ytgfnmimfoicmmaa.Pure
