/- A part of the proof that a law of layer 12 holds, cut small by a program (names and blanks): HdPx. -/
import Derived.Test.YtdmedlkonaclnaaGreatDoorZ10
set_option maxRecDepth 100000
set_option maxHeartbeats 40000000
set_option linter.unusedVariables false
set_option linter.unusedSimpArgs false
namespace Go.Proofs.YtdmedlkonaclnaaGreatDoor
open Go.RowKit
namespace Hd
def abo(t:aW)(c:dU):aW × bz:=if cN c.w=1 then (iH t c,me (fW t c).isSome) else if cN c.w=5 then (t,Ic) else (t,nC t c)
theorem aaL{l:bz}{c:dU}(h:bK l=.cmd c)(t:aW):fj t l=abo t c:=by unfold fj abo;rw[h]
theorem abx{l:bz}{c:dU}(h:bK l=.cmd c):ku l=false:=by unfold ku;rw[h]
end Hd
end Go.Proofs.YtdmedlkonaclnaaGreatDoor
