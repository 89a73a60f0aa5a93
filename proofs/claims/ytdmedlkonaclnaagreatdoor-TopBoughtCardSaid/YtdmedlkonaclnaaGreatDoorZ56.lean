/- A part of the proof that a law of layer 12 holds, cut small by a program (names and blanks): HdPb. -/
import Derived.Test.YtdmedlkonaclnaaGreatDoorZ55
set_option maxRecDepth 100000
set_option maxHeartbeats 40000000
set_option linter.unusedVariables false
set_option linter.unusedSimpArgs false
namespace Go.Proofs.YtdmedlkonaclnaaGreatDoor
open Go.RowKit
namespace Hd
def aaz(size:Int):List bz:=[lY,cj .yu,[62],[48],iY,cj .fM,Lib.itoa size]
def aao(size:Int):bz:=zZ (aaz size)
theorem aaF{size:Int}(h:0<=size/\size<=99):bK (aao size)=.ord ⟨.yu,[]⟩ 62 0 ⟨.fM,[size]⟩:=by
 have hb:∀w∈aaz size,(32:UInt8)∉w:=by
  intro w hw;simp only[aaz,List.mem_cons,List.not_mem_nil,or_false] at hw;rcases hw with rfl|rfl|rfl|rfl|rfl|rfl|rfl
  ·decide
  ·decide
  ·decide
  ·decide
  ·decide
  ·decide
  ·exact JU size
 have hw:Vc ⟨.fM,[size]⟩:=⟨rfl,fun x hx=>by simp at hx;omega⟩;have hc:bM [cj .fM,Lib.itoa size]=some ⟨.fM,[size]⟩:=On hw;have hq:bM [cj .yu]=some ⟨.yu,[]⟩:=On (c:=⟨.yu,[]⟩) ⟨rfl,fun x hx=>by cases hx⟩;have hn:numOf [48]=some 0:=by decide +kernel
 have hi:jN iY (aaz size)=some 4:=by unfold aaz;simp only[jN];rw[if_neg nU,if_neg nU,if_neg nU,if_neg nU,if_pos trivial];rfl
 unfold bK aao;rw[zb (by simp[aaz]) hb];unfold eD;rw[if_pos (show(aaz size).head?=some lY from rfl),hi];simp only[];rw[if_neg nQ];unfold qv;show(match bM [cj .yu],mj [62],numOf [48],bM [cj .fM,Lib.itoa size] with
  |some q,some s,some n,some c=>if cN q.w=2/\cN c.w=1 then tC.ord q s n c else .none
  |_,_,_,_=>.none)=_
 rw[hq,hn,hc];rfl
theorem aaN{h:Sa.aN}(hp:Sa.bL h≠[]):Sa.rJ h=0/\Sa.tY h=0:=by unfold Sa.rJ Sa.tY;exact⟨if_pos hp,if_pos hp⟩
theorem aaY{h:Sa.aN}(hv:Sa.valid h=true):0<=Sa.rJ h/\Sa.rJ h<=99:=by
 have:=Sa.xI hv (Sa.nD (h.bars.length+1) h.parts.length) fun l hl=>Nat.le_of_eq (Sa.jr.1 hl).1;unfold Sa.rJ Sa.kG;split
 ·omega
 ·split
  ·omega
  ·split<;>omega
theorem abb{h:Sa.aN}(hv:Sa.valid h=true)(he:Sa.tY h=0)(h0:0<Sa.rJ h):h.bars.length<4/\Sa.bL (Sa.eG h (Sa.rJ h))≠[]:=by
 have hb:=(Sa.aD.1 hv).1.2.2.2;by_cases hp:Sa.bL h≠[]
 ·rw[(aaN hp).1] at h0;omega
 ·by_cases h4:h.bars.length=4
  ·unfold Sa.tY at he;rw[if_neg hp,if_pos h4] at he;omega
  ·by_cases h9:99<Sa.kG h
   ·unfold Sa.tY at he;rw[if_neg hp,if_neg h4,if_pos h9] at he;omega
   ·have e:Sa.rJ h=Sa.kG h:=by unfold Sa.rJ;rw[if_neg hp,if_neg h4,if_neg h9]
    rw[e];exact⟨nQ,(Sa.size_le nQ).1 (Int.le_refl _)⟩
theorem zM{h:Sa.aN}(hv:Sa.valid h=true)(he:Sa.tY h=0)(h0:0<Sa.rJ h):Sa.valid (Sa.eG h (Sa.rJ h))=true:=by
 obtain⟨h4,_⟩:=abb hv he h0;have hb:=aaY hv;obtain⟨⟨c1,c2,c3,c4⟩,c5,c6,c7⟩:=Sa.aD.1 hv;refine Sa.aD.2 ⟨⟨c1,c2,c3,by show(h.bars++[_]).length<=4;simp;omega⟩,c5,c6,fun b hb'=>?_⟩;rcases List.mem_append.1 hb' with h1|h1
 ·exact c7 b h1
 ·simp at h1;omega
def aaj(t:aW)(p:Sa.Part):aW:=⟨t.aF,t.ah,⟨t.aa.kinds,t.aa.floor,t.aa.parts++[p],t.aa.bars⟩⟩
def aap(size:Int)(p:Sa.Part):List bz:=[aao size,uh ⟨.part,[p.kind,p.bC]⟩,uh ⟨.fU,[]⟩]
theorem aaR:Vc ⟨.fU,[]⟩:=⟨rfl,fun x hx=>by cases hx⟩
theorem aaE{t:aW}{p:Sa.Part}(hv:aG (aaj t p)=true):Vc ⟨.part,[p.kind,p.bC]⟩:=by
 obtain⟨⟨c1,_⟩,_,c6,_⟩:=Sa.aD.1 (cr.1 hv).2.2;have h:=c6 p (by simp[aaj]);exact⟨rfl,fun x hx=>by
  have c1:t.aa.kinds.length<=3:=c1
  have h1:p.kind<=(t.aa.kinds.length:Int)-1:=h.1.2
  simp at hx;omega⟩
theorem aaH{t:aW}{p:Sa.Part}(hv:aG (aaj t p)=true):fj t (uh ⟨.part,[p.kind,p.bC]⟩)=(aaj t p,iq):=by
 rw[aaL (Cc (aaE hv))];have h1:fW t ⟨.part,[p.kind,p.bC]⟩=some (aaj t p):=by unfold fW;show(if aG (aaj t p)=true then some (aaj t p) else none)=_;rw[if_pos hv]
 unfold abo iH;rw[if_pos (show cN (dU.mk .part [p.kind,p.bC]).w=1 from rfl),h1];rfl
theorem aaQ{t:aW}{p:Sa.Part}(hv:aG (aaj t p)=true):ki (uh ⟨.part,[p.kind,p.bC]⟩)=true:=by unfold ki;rw[Cc (aaE hv)];rfl
theorem aaG(t:aW):fj t (uh ⟨.fU,[]⟩)=(t,nC t ⟨.fU,[]⟩):=by rw[aaL (Cc aaR)];rfl
theorem aaP:ki (uh ⟨.fU,[]⟩)=true:=by unfold ki;rw[Cc aaR];rfl
theorem abc:ku (uh ⟨.fU,[]⟩)=false:=wE aaP
theorem aaB(t:aW):cY t ⟨.yu,[]⟩ 62 0=(decide (Sa.tY t.aa=0)&&decide (0<Sa.rJ t.aa)):=rfl
def aaD(t:aW)(size:Int):aW:=⟨t.aF,t.ah,Sa.eG t.aa size⟩
theorem ab9{t:aW}{p:Sa.Part}(hp:Sa.bL t.aa≠[])(hv:aG (aaj t p)=true)(he:Sa.tY (aaj t p).aa=0)(h0:0<Sa.rJ (aaj t p).aa):dJ (bY t) (aap (Sa.rJ (aaj t p).aa) p)=(⟨aaD (aaj t p) (Sa.rJ (aaj t p).aa),[],1⟩,[iq,iq++lZ 0 true,nC (aaD (aaj t p) (Sa.rJ (aaj t p).aa)) ⟨.fU,[]⟩]):=by
 have hsv:=(cr.1 hv).2.2;obtain⟨size,hs⟩:∃x,Sa.rJ (aaj t p).aa=x:=⟨_,rfl⟩;have hb:=aaY hsv;have hr:=aaF (size:=size) (by rw[<-hs];exact hb);have hbv:aG (aaD (aaj t p) size)=true:=by obtain⟨a,b,_⟩:=cr.1 hv;rw[<-hs];exact cr.2 ⟨a,b,zM hsv he h0⟩
 have hc:fW (aaj t p) ⟨.fM,[size]⟩=some (aaD (aaj t p) size):=by unfold fW;show(if aG (aaD (aaj t p) size)=true then some (aaD (aaj t p) size) else none)=_;rw[if_pos hbv]
 have e1:iC (bY t) (aao size)=(⟨t,[⟨0,aao size⟩],1⟩,iq):=by show iC ⟨t,[],0⟩ _=_;rw[uY hr,if_neg ?_];rw[aaB,(aaN hp).1];simp
 have e2:iC ⟨t,[⟨0,aao size⟩],1⟩ (uh ⟨.part,[p.kind,p.bC]⟩)=(⟨aaD (aaj t p) size,[],1⟩,iq++lZ 0 true):=by
  rw[wJ hr (aaQ hv),aaH hv,if_pos ?_]
  ·unfold iH;rw[hc];rfl
  ·rw[aaB,he];simp[h0]
 rw[hs];unfold aap;rw[dJ,e1,dJ,e2,dJ,yZ abc,aaG];rfl
theorem abe{t:aW}{p:Sa.Part}(hp:Sa.bL t.aa≠[])(hv:aG (aaj t p)=true)(hn:¬(Sa.tY (aaj t p).aa=0/\0<Sa.rJ (aaj t p).aa)):dJ (bY t) (aap (Sa.rJ (aaj t p).aa) p)=(⟨aaj t p,[⟨0,aao (Sa.rJ (aaj t p).aa)⟩],1⟩,[iq,iq,nC (aaj t p) ⟨.fU,[]⟩]):=by
 have hsv:=(cr.1 hv).2.2;obtain⟨size,hs⟩:∃x,Sa.rJ (aaj t p).aa=x:=⟨_,rfl⟩;have hb:=aaY hsv;have hr:=aaF (size:=size) (by rw[<-hs];exact hb);have hf:¬cY (aaj t p) ⟨.yu,[]⟩ 62 0=true:=by rw[aaB,Bool.and_eq_true,decide_eq_true_eq,decide_eq_true_eq];exact hn
 have e1:iC (bY t) (aao size)=(⟨t,[⟨0,aao size⟩],1⟩,iq):=by show iC ⟨t,[],0⟩ _=_;rw[uY hr,if_neg ?_];rw[aaB,(aaN hp).1];simp
 have e2:iC ⟨t,[⟨0,aao size⟩],1⟩ (uh ⟨.part,[p.kind,p.bC]⟩)=(⟨aaj t p,[⟨0,aao size⟩],1⟩,iq):=by rw[wJ hr (aaQ hv),aaH hv,if_neg hf]
 have e3:iC ⟨aaj t p,[⟨0,aao size⟩],1⟩ (uh ⟨.fU,[]⟩)=(⟨aaj t p,[⟨0,aao size⟩],1⟩,nC (aaj t p) ⟨.fU,[]⟩):=by rw[wJ hr aaP,aaG,if_neg hf]
 rw[hs];unfold aap;rw[dJ,e1,dJ,e2,dJ,e3];rfl
theorem ab2{t:aW}{p:Sa.Part}(hv:aG (aaj t p)=true)(he:Sa.tY (aaj t p).aa=0)(h0:0<Sa.rJ (aaj t p).aa):Sa.bL (Sa.eG (aaj t p).aa (Sa.rJ (aaj t p).aa))≠[]:=(abb (cr.1 hv).2.2 he h0).2
end Hd
end Go.Proofs.YtdmedlkonaclnaaGreatDoor
