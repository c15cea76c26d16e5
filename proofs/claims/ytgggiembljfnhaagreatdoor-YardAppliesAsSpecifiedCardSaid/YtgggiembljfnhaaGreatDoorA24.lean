/-
  Part of the proof of statement 11
-/
import Derived.Test.YtgggiembljfnhaaGreatDoorA07
set_option maxRecDepth 100000
set_option maxHeartbeats 16000000
set_option linter.unusedVariables false
namespace Go.Proofs.YtgggiembljfnhaaGreatDoor
open Go Go.Av

end Go.Proofs.YtgggiembljfnhaaGreatDoor
