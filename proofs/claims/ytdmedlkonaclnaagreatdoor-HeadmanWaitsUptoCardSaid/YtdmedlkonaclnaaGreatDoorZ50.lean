/- A part of the proof that a law of layer 12 holds, cut small by a program (names and blanks): Hk21. -/
import Derived.Test.YtdmedlkonaclnaaGreatDoorZ49
set_option maxRecDepth 100000
set_option maxHeartbeats 40000000
set_option linter.unusedVariables false
set_option linter.unusedSimpArgs false
namespace Go.Proofs.YtdmedlkonaclnaaGreatDoor
open Go.RowKit
open Nat renaming lt_of_lt_of_le → nL
open Go renaming World → nJ, Value → nK
section
open Hd
theorem Ls{x:tC}(h:lG x=4):∃q s n c,x=.ord q s n c:=by
 cases x with
 |none=>exact absurd h nU
 |cmd c=>exfalso;rcases qF c.w with e|e|e|e<;>simp[lG,e] at h
 |ord q s n c=>exact⟨q,s,n,c,rfl⟩
theorem Hu.wide{α:Type}{enc:α->List nK}{B:Nat}{w W:nJ}{A:Option Addr}{c:Nat}{xss:List (List α)}(h:Hu enc B w A c xss)[hg:au B w W][hl:Le B W]:Hu enc W.heap.size W A c xss:=by
 obtain⟨h1,h2,cs,h3,h4,h5⟩:=h;refine⟨h1,h2,cs,fun hne=>?_,h4,fun i hi=>?_⟩
 ·obtain⟨b,o,hA,hb,hc⟩:=h3 hne;exact⟨b,o,hA,nL hb hl.out,fun j v hj=>(aZ hg.out _ _ hb).trans (hc j v hj)⟩
 ·obtain⟨A',c',e,s⟩:=h5 i hi;exact⟨A',c',e,s.wide⟩
theorem ow{B:Nat}{w W:nJ}{v:nK}{q c:dU}{s:UInt8}{n:Int}(h:mF B w v (.ord q s n c))[hg:au B w W][hl:Le B W]:mF W.heap.size W v (.ord q s n c):=by obtain⟨A,p,A',p',h1,h2,h3⟩:=h;exact⟨A,p,A',p',h1,h2.wide,h3.wide⟩
end
end Go.Proofs.YtdmedlkonaclnaaGreatDoor
