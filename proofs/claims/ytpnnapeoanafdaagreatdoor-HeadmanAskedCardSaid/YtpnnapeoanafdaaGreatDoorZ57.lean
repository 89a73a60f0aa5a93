/- A part of the proof that a law of layer 12 holds, cut small by a program (names and blanks): HdPg. -/
import Derived.Test.YtpnnapeoanafdaaGreatDoorZ10
set_option maxRecDepth 100000
set_option maxHeartbeats 40000000
set_option linter.unusedVariables false
set_option linter.unusedSimpArgs false
namespace Go.Proofs.YtpnnapeoanafdaaGreatDoor
open Go.RowKit
namespace Hd
theorem itoa_blank'(n:Int):(32:UInt8)∉Lib.itoa n:=Hg n 32 nU nU
theorem txtW_blank'(d:Wd):(32:UInt8)∉cF d:=by cases d<;>decide
theorem nums_itoa':∀ {a:List Int},(∀x∈a,-1000000<x/\x<1000000)->cQ (a.map Lib.itoa)=some a
 |[],_=>rfl
 |x::a,h=>by rw[List.map_cons,cQ,jF.2 ⟨rfl,h x nV⟩,nums_itoa' fun y hy=>h y (by simp[hy])];rfl
def wordsC'(c:eB):List aQ:=cF c.w::c.a.map Lib.itoa
def lineC'(c:eB):aQ:=qH (wordsC' c)
theorem wordsC_blank'(c:eB):∀w∈wordsC' c,(32:UInt8)∉w:=by
 intro w hw;rcases List.mem_cons.1 hw with rfl|hw
 ·exact txtW_blank' _
 ·obtain⟨x,_,rfl⟩:=List.mem_map.1 hw;exact itoa_blank' x
theorem txtW_when'(d:Wd):cF d≠fJ:=by cases d<;>decide
theorem cmd_words'{c:eB}(h:aby c):bJ (wordsC' c)=some c:=EV.2 ⟨_,rfl,nums_itoa' h.2,h.1⟩
theorem read_line'{c:eB}(h:aby c):bH (lineC' c)=.cmd c:=by unfold bH lineC';rw[uG (by simp[wordsC']) (wordsC_blank' c)];unfold dH;rw[if_neg (by simp[wordsC',txtW_when']),cmd_words' h]
theorem step_asks'{c:eB}(h:aby c)(hk:cg c.w=2\/cg c.w=3)(t:aO):fO (bZ t) (lineC' c)=(bZ t,fY t c):=by have hr:=read_line' h;have e:=JA (oZ hr) t 0;rw[tJ hr] at e;unfold mz at e;rw[if_neg nQ,if_neg nQ] at e;exact e
theorem run_asks':∀ {cs:List eB},(∀c∈cs,aby c/\(cg c.w=2\/cg c.w=3))->∀t:aO,dJ (bZ t) (cs.map lineC')=(bZ t,cs.map (fY t))
 |[],_,t=>rfl
 |c::cs,h,t=>by obtain⟨h1,h2⟩:=h c nV;rw[List.map_cons,dJ,step_asks' h1 h2,run_asks' (cs:=cs) (fun x hx=>h x (by simp[hx]))];rfl
def askL(day:Int):List eB:=[⟨.safe,[]⟩,⟨.gr,[]⟩,⟨.nD,[]⟩,⟨.jl,[]⟩,⟨.order,[]⟩,⟨.done,[]⟩,⟨.fV,[]⟩,⟨.pack,[]⟩,⟨.early,[day]⟩,⟨.yB,[]⟩]
theorem askL_ok'{day:Int}(h:-1000000<day/\day<1000000):∀c∈askL day,aby c/\(cg c.w=2\/cg c.w=3):=by
 have h0:∀d:Wd,tS d=0->aby ⟨d,[]⟩:=fun d hd=>⟨hd.symm,fun x hx=>by cases hx⟩;intro c hc;simp only[askL,List.mem_cons,List.not_mem_nil,or_false] at hc;rcases hc with rfl|rfl|rfl|rfl|rfl|rfl|rfl|rfl|rfl|rfl
 ·exact⟨h0 _ rfl,nU⟩
 ·exact⟨h0 _ rfl,nU⟩
 ·exact⟨h0 _ rfl,nU⟩
 ·exact⟨h0 _ rfl,nU⟩
 ·exact⟨h0 _ rfl,nU⟩
 ·exact⟨h0 _ rfl,nU⟩
 ·exact⟨h0 _ rfl,nU⟩
 ·exact⟨h0 _ rfl,nU⟩
 ·exact⟨⟨rfl,fun x hx=>by simp at hx;subst hx;exact h⟩,.inl rfl⟩
 ·exact⟨h0 _ rfl,nU⟩
def askT'(day:Int):List aQ:=(askL day).map lineC'
theorem asked'{t:aO}{day:Int}(h:-1000000<day/\day<1000000):dJ (bZ t) (askT' day)=(bZ t,(askL day).map (fY t)):=run_asks' (askL_ok' h) t
end Hd
end Go.Proofs.YtpnnapeoanafdaaGreatDoor
