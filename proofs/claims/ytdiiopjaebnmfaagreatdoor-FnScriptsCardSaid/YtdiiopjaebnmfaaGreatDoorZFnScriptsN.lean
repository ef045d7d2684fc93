/- Lemmas of this claim. -/
import Derived.Test.YtdiiopjaebnmfaaGreatDoorZFnScriptsE
set_option maxHeartbeats 16000000
set_option maxRecDepth 100000
set_option linter.unusedVariables false
set_option linter.unusedSimpArgs false
namespace Go.Proofs.YtdiiopjaebnmfaaGreatDoor
open _root_.Go.Proofs.Tryz
section
open Go.RowKit
def Rh (e:EndD):Prop:=e.subs.length<=100/\e.far.length<=100
end
end Go.Proofs.YtdiiopjaebnmfaaGreatDoor
