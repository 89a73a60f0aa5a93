/- A part of the proof that a law of layer 12 holds, cut small by a program (names and blanks): Hk7. -/
import Derived.Test.YtdmedlkonaclnaaGreatDoorZ36
set_option maxRecDepth 100000
set_option maxHeartbeats 40000000
set_option linter.unusedVariables false
set_option linter.unusedSimpArgs false
namespace Go.Proofs.YtdmedlkonaclnaaGreatDoor
open Go.RowKit
open Go renaming World → nJ, Value → nK
section
open Hd
theorem uc{P:Program}{C:nJ->Prop}{b:Nat}{T ty:TypeId}{cs:Array nK}{ops:Array Oper}{rest:List Oper}{o:Oper}{a:Act}{Q:Act->Prop}{n:Nat}(hT:fT P ty n)(hw:Region.wanted o (yielded ops a.tmps)=true)(x:Operand)(ho:o.op=.load ty x)(hx:a.eval x=.pointer (some ⟨b,0,none⟩))(hS:∀w,C w->ax w b T cs)(hn:cs.size=n)(h:wpQuiet P ops C Q rest (a.put o.dst (.agg cs))):wpQuiet P ops C Q (o::rest) a:=by obtain⟨⟨d,h1,h2⟩,h3⟩:=hT;subst hn;refine BigFrame.wpQuiet_want hw fun K hK=>⟨.agg cs,fun w hc=>?_,hK _ h⟩;unfold Oper.quietAt execOp;simp only[ho,hx,Instr.loadAt,Instr.sureAddr,Sem.run_bind,Sem.run_pure,Result.andThen_ok,run_loadVar_row w b T ty cs (0,0) d (hS w hc) h1 (by cases d<;>first|rfl|cases h2) h3];exact⟨rfl,rfl⟩
end
end Go.Proofs.YtdmedlkonaclnaaGreatDoor
