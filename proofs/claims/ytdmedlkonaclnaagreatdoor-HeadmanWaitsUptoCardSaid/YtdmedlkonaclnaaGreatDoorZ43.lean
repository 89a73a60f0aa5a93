/- A part of the proof that a law of layer 12 holds, cut small by a program (names and blanks): HdPd. -/
import Derived.Test.YtdmedlkonaclnaaGreatDoorZ10
set_option maxRecDepth 100000
set_option maxHeartbeats 40000000
set_option linter.unusedVariables false
set_option linter.unusedSimpArgs false
namespace Go.Proofs.YtdmedlkonaclnaaGreatDoor
open Go.RowKit
namespace Hd
end Hd
end Go.Proofs.YtdmedlkonaclnaaGreatDoor
