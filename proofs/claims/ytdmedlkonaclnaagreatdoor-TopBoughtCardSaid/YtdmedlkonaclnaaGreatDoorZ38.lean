/- A part of the proof that a law of layer 12 holds, cut small by a program (names and blanks): HdPi. -/
import Derived.Test.YtdmedlkonaclnaaGreatDoorZ10
set_option maxRecDepth 100000
set_option maxHeartbeats 40000000
set_option linter.unusedVariables false
set_option linter.unusedSimpArgs false
namespace Go.Proofs.YtdmedlkonaclnaaGreatDoor
open Go.RowKit
namespace Hd
theorem NC(x:bz):∀r:List bz,zZ (x::r)=x++r.flatMap fun y=>32::y:=by
 intro r;induction r generalizing x with
 |nil=>simp[zZ]
 |cons y r ih=>rw[zZ,ih y,List.flatMap_cons];simp
def xh(c:dU)(k:Nat):bz:=cj c.w++(c.a.take k).flatMap fun x=>32::Lib.itoa x
theorem Gp(c:dU):xh c 0=cj c.w:=by simp[xh]
theorem Gq(c:dU){k:Nat}(h:k<c.a.length):xh c (k+1)=xh c k++32::Lib.itoa (nth c.a k):=by unfold xh;rw[List.take_succ_eq_append_getElem h,List.flatMap_append,List.append_assoc,nth,List.getD_eq_getElem?_getD,List.getElem?_eq_getElem h];simp
theorem LH(c:dU):xh c c.a.length=uh c:=by unfold xh uh wz;rw[List.take_length,NC,List.flatMap_map]
theorem Pm(d:Wd):(cj d).length<=20:=by cases d<;>decide
theorem LG{c:dU}(h:∀x∈c.a,-1000000<x/\x<1000000):∀k,(xh c k).length<=20+9*k:=by
 intro k;induction k with
 |zero=>rw[Gp];exact Pm c.w
 |succ k ih=>
  by_cases hk:k<c.a.length
  ·rw[Gq c hk,List.length_append,List.length_cons];have hb:=h (nth c.a k) (aV c.a hk);have:=sN (n:=nth c.a k) 6 nQ;omega
  ·have e:xh c (k+1)=xh c k:=by unfold xh;rw[List.take_of_length_le nQ,List.take_of_length_le nQ]
   rw[e];omega
theorem Hr(d:Wd):tq d<=4:=by cases d<;>decide
end Hd
end Go.Proofs.YtdmedlkonaclnaaGreatDoor
