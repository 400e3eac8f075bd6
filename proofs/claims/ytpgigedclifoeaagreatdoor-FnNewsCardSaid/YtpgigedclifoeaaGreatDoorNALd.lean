/- The functions that the laws reach, as plain Lean functions, and that the evaluator gives just these. No condition. -/
import Derived.Test.YtpgigedclifoeaaGreatDoorNALd2
import Derived.Test.YtpgigedclifoeaaGreatDoorNW3
import Derived.Test.YtpgigedclifoeaaGreatDoorNW4
import Derived.Test.YtpgigedclifoeaaGreatDoorProg
import Derived.Lib.AtoiAll
import Derived.Lib.IndexMore
import Derived.Lib.ItoaNum
import Derived.Lib.Split
import Derived.Lib.CountLaws
import Derived.Lib.SlicesCompact
namespace Go.Proofs.YtpgigedclifoeaaGreatDoor
namespace AM
open Go
set_option linter.unusedVariables false
def E5 (n:Nat):aE:={ τ:=τ,N:=78,Γ:=gl (G5 n) [],Λ:=(fun q=>match q with   | 8=>some (lY n (cb n n))  | _=>none) }
theorem vU (n m:Nat) (x):cb n (m+1) x=dy (E5 n) (aN (ae Tryz.f5) 0) (lY n (cb n n)) (cb n m) x:=by kernel_rfl
theorem ZW (n:Nat) (x):js n x=ar (E5 n) Tryz.f5 (S5 n) x:=by kernel_rfl
theorem ah:dt Tryz.prog τ:=xz (by kernel_rfl)
theorem mixed:Tryz.prog.follows .mixedOrders=true:=by kernel_rfl
end AM
end Go.Proofs.YtpgigedclifoeaaGreatDoor
