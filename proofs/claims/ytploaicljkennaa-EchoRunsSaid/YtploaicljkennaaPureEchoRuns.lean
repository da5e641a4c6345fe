/- EchoRuns: for every slice of numbers the law returns true; no condition beside the form's own reach. -/
import Derived.Test.YtploaicljkennaaWordS
namespace Go.Proofs.Ytploaicljkennaa.Pure
open Go.RowKit Go.Proofs.Ytploaicljkennaa.PE Go.Proofs.YtploaicljkennaaW.PrintWords Go.Proofs.YtploaicljkennaaW.PrintLast
theorem EchoRuns : bellpulllaw02_EchoRuns.Pure := fun l _ _ _ => (EchoRuns_ev l).rounds
end Go.Proofs.Ytploaicljkennaa.Pure
