/- A part of the proof that a law of layer 12 holds, cut small by a program (names and blanks): Hk4. -/
import Derived.Test.YtdmedlkonaclnaaGreatDoorZ35
set_option maxRecDepth 100000
set_option maxHeartbeats 40000000
set_option linter.unusedVariables false
set_option linter.unusedSimpArgs false
namespace Go.Proofs.YtdmedlkonaclnaaGreatDoor
open Go.RowKit
open Go.Proofs.Tryz renaming prog → nH
open Go renaming World → nJ
section
open Hd
def wh(n:Nat)(d:cE)(a:List bz)(w:nJ)(e:Ending)(w':nJ):Prop:=
 ∃(aA:Option Addr) (ac:Nat) (r':aQ) (lA:Option Addr) (lc:Nat) (δ:nJ),e=.returned (.tuple #[.slice aA n ac,aO r' d.az,.slice lA d.aC.length lc,.bool true])/\w'=af w δ /\
  (af w δ).ownsRow w.heap.size 9 1 (.slice aA n ac) n (a.flatMap aX)/\aK w.heap.size (af w δ) r' d.az/\(af w δ).ownsRow w.heap.size 9 1 (.slice lA d.aC.length lc) d.aC.length ((d.aC.map (·.line)).flatMap aX)
theorem qS(r:aQ)(t:aW)(ls:List bz)(A:Option Addr)(c:Nat)(hv:aG t=true)(hl:ls.length<=30)(hlen:∀x∈ls,x.length<=1000)(d:cE)(a:List bz)(hd:(dJ (bY t) ls).1=d)(ha:(dJ (bY t) ls).2=a)(n:Nat)(hn:ls.length=n)(B:Nat)(w:nJ)(hT:aJ B w r t)[hB:Le B w][h8:Le 8 w](hL:cT w)(hS:Sl aX B w A c ls):Calls nH 25 #[aO r t,.slice A n c] w (wh n d a w):=by subst hd ha hn;exact Tt r t ls A c hv hl hlen B w hT hL hS
theorem sy{base:Nat}{W:nJ}{A:Option Addr}{c n:Nat}{a:List bz}(h:W.ownsRow base 9 1 (.slice A n c) n (a.flatMap aX))(hn:a.length=n):Sl aX W.heap.size W A c a:=by subst hn;exact Sl.bU h
end
end Go.Proofs.YtdmedlkonaclnaaGreatDoor
