/- A part of the proof that a law of layer 12 holds, cut small by a program (names and blanks): HdPh. -/
import Derived.Test.YtdmedlkonaclnaaGreatDoorZ43
set_option maxRecDepth 100000
set_option maxHeartbeats 40000000
set_option linter.unusedVariables false
set_option linter.unusedSimpArgs false
namespace Go.Proofs.YtdmedlkonaclnaaGreatDoor
open Go.RowKit
namespace Hd
theorem MN{l:bz}(h:ku l=false)(t:aW):dJ (bY t) [l]=(⟨(fj t l).1,[],0⟩,[(fj t l).2]):=by rw[dJ,bY,yZ h t 0];rfl
theorem U0{t:aW}{o:bz}{q c:dU}{s:UInt8}{n:Int}(hr:bK o=.ord q s n c):bK (uh c)=.cmd c/\dJ (bY t) [uh c]=(⟨iH t c,[],0⟩,[me (fW t c).isSome])/\dJ (bY t) [o]=if cY t q s n=true then (⟨iH t c,[],1⟩,[iq++lZ 0 (fW t c).isSome]) else (⟨t,[⟨0,o⟩],1⟩,[iq]):=by
 obtain⟨k,h1,h2,h3,h4,h5,h6,h7,h8⟩:=tJ hr;have hl:=Cc (mS h7);refine⟨hl,?_,?_⟩
 ·rw[MN (by unfold ku;rw[hl]) t];unfold fj;rw[hl];simp only[if_pos h8.2]
 ·rw[dJ,bY,uY hr];split<;>rfl
theorem Tp(b:Bool):iq++lZ 0 b=[111,107,32,48,58]++me b:=by cases b<;>decide +kernel
theorem EC{t:aW}{ls:List bz}{o:bz}{q c:dU}{s:UInt8}{n:Int}{i:Nat}(hr:bK o=.ord q s n c)(hw:∀l∈ls,ki l=true)(hi:i<=ls.length)(hf:∀j,j<i->cY (cX t (ls.take j)).1 q s n=false)(h1:cY (cX t (ls.take i)).1 q s n=true):(dJ (bY t) (o::ls)).1.aC=[]/\(dJ (bY t) (o::ls)).2.take i=(iq::(cX t ls).2).take i/\∃b,nth (dJ (bY t) (o::ls)).2 i=nth (iq::(cX t ls).2) i++lZ 0 b:=by
 have hs:=uY (t:=t) (g:=0) hr;cases i with
 |zero=>
  have h0:cY t q s n=true:=by simpa [cX] using h1
  rw[if_pos h0] at hs
  have hp:=n9 (ls:=ls) (fun x hx=>wE (hw x hx)) (iH t c) 1
  rw[dJ,bY,hs]
  simp only[]
  rw[hp]
  exact⟨rfl,rfl,_,rfl⟩
 |succ i=>
  have h0:cY t q s n=false:=by simpa [cX] using hf 0 nQ
  rw[if_neg (by rw[h0];decide)] at hs
  obtain⟨a1,a2,a3⟩:=ED (ls:=ls) (t:=t) (g:=1) (o:=o) (k:=0) (i:=i) hr hw nQ (fun j hj=>hf (j+1) nQ) h1
  rw[dJ,bY,hs]
  simp only[]
  exact⟨a1,by rw[List.take_succ_cons,List.take_succ_cons,a2],_,a3⟩
theorem EB{t:aW}{ls:List bz}{o:bz}{q c:dU}{s:UInt8}{n:Int}(hr:bK o=.ord q s n c)(hw:∀l∈ls,ki l=true)(hf:∀j,j<=ls.length->cY (cX t (ls.take j)).1 q s n=false):dJ (bY t) (o::ls)=(⟨(cX t ls).1,[⟨0,o⟩],1⟩,iq::(cX t ls).2):=by
 have h0:cY t q s n=false:=by simpa [cX] using hf 0 nQ
 have hs:=uY (t:=t) (g:=0) hr;rw[if_neg (by rw[h0];decide)] at hs;have:=EA (ls:=ls) (t:=t) (g:=1) (o:=o) (k:=0) hr hw (fun i hi=>hf (i+1) nQ);rw[dJ,bY,hs];simp only[];rw[this]
theorem sr{t:aW}{ls:List bz}(hw:∀l∈ls,ki l=true):dJ (bY t) ls=(⟨(cX t ls).1,[],0⟩,(cX t ls).2):=
 n9 (ls:=ls) (fun x hx=>wE (hw x hx)) t 0
theorem Nz{l:bz}:(lG (bK l)=4\/lG (bK l)=5)↔ki l=false:=by
 unfold lG ki;cases bK l with
 |none=>simp
 |ord q s n c=>simp
 |cmd c=>rcases qF c.w with h|h|h|h<;>simp[h]
end Hd
end Go.Proofs.YtdmedlkonaclnaaGreatDoor
