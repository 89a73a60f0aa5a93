/- A part of the proof that a law of layer 12 holds, cut small by a program (names and blanks): Hk7. -/
import Derived.Test.YtpnnapeoanafdaaGreatDoorZ37
set_option maxRecDepth 100000
set_option maxHeartbeats 40000000
set_option linter.unusedVariables false
set_option linter.unusedSimpArgs false
namespace Go.Proofs.YtpnnapeoanafdaaGreatDoor
open Go.RowKit
open Go.Proofs.Tryz renaming prog → nH
open Go renaming World → nJ, Value → nK
section
open Hd
theorem ue{P:Program}{C:nJ->Prop}{b:Nat}{T ty:TypeId}{cs:Array nK}{ops:Array Oper}{rest:List Oper}{o:Oper}{a:Act}{Q:Act->Prop}{n:Nat}(hT:gi P ty n)(hw:Region.wanted o (yielded ops a.tmps)=true)(x:Operand)(ho:o.op=.load ty x)(hx:a.eval x=.pointer (some ⟨b,0,none⟩))(hS:∀w,C w->ay w b T cs)(hn:cs.size=n)(h:wpQuiet P ops C Q rest (a.put o.dst (.agg cs))):wpQuiet P ops C Q (o::rest) a:=by obtain⟨⟨d,h1,h2⟩,h3⟩:=hT;subst hn;refine BigFrame.wpQuiet_want hw fun K hK=>⟨.agg cs,fun w hc=>?_,hK _ h⟩;unfold Oper.quietAt execOp;simp only[ho,hx,Instr.loadAt,Instr.sureAddr,Sem.run_bind,Sem.run_pure,Result.andThen_ok,run_loadVar_row w b T ty cs (0,0) d (hS w hc) h1 (by cases d<;>first|rfl|cases h2) h3];exact⟨rfl,rfl⟩
def UR(o:Option Wd):Nat:=match o with|none=>0|some d=>xj d
theorem Gu(t:aQ)(o:Option Wd)(ho:jO t=o)(w:nJ):Calls nH 35 #[.string (str t)] w fun e w'=>e=.returned (.int .i64 (UR o:Nat))/\∃δ,w'=ah w δ:=by
 have F:=cL t o ho;clear ho;obtain⟨f0,f1,f2,f3,f4,f5,f6,f7,f8,f9,f10,f11,f12,f13,f14,f15,f16,f17,f18,f19⟩:=F;rcases o with _|d
 ·simp only[reduceCtorEq,decide_false] at f0 f1 f2 f3 f4 f5 f6 f7 f8 f9 f10 f11 f12 f13 f14 f15 f16 f17 f18 f19;go_enter Tryz.func35,Tryz.ntmps35;go_wp2;go_ret;exact⟨rfl,ag⟩
 ·cases d;all_goals simp only[Option.some.injEq,reduceCtorEq,decide_false,decide_true] at f0 f1 f2 f3 f4 f5 f6 f7 f8 f9 f10 f11 f12 f13 f14 f15 f16 f17 f18 f19;go_enter Tryz.func35,Tryz.ntmps35;go_wp2;go_ret;exact⟨rfl,ag⟩
end
end Go.Proofs.YtpnnapeoanafdaaGreatDoor
