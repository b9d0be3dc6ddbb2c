/-
  What TopDrop asks of its first argument.
-/
import Derived.Test.YtpbnlbbieaokoaaGreatDoorVa
import Derived.Test.YtpbnlbbieaokoaaGreatDoorGj
namespace Go.Proofs.YtpbnlbbieaokoaaGreatDoor.Ev
open Go
noncomputable def dropE (s : Int) (i : Nat) : Value := .bool (ltI (.ofNat i) (IntKind.i64.wrap (s.tmod 10)))
end Go.Proofs.YtpbnlbbieaokoaaGreatDoor.Ev
