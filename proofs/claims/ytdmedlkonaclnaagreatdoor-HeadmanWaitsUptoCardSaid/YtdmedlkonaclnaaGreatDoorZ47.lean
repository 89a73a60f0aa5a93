/- A part of the proof that a law of layer 12 holds, cut small by a program (names and blanks): Hou. -/
import Derived.Deep.DeepHandedRow
import Derived.Test.YtdmedlkonaclnaaGreatDoorZ46
set_option maxRecDepth 100000
set_option maxHeartbeats 40000000
set_option linter.unusedVariables false
set_option linter.unusedSimpArgs false
namespace Go.Proofs.YtdmedlkonaclnaaGreatDoor
open Go.RowKit
open Nat renaming le_trans → nT
open Go renaming World → nJ, Value → nK
theorem zl{H:Type}{enc:TypeId × nK->H}{P:Program}{fn:Func}{s:ChangeSpec}{laid:List (String × DataW Unit)}{w:nJ}{args:Array nK}(fuel:Nat)(hB:(match DataW.whole enc P w fn.params.toList s.vars false args.toList fuel with|some x=>Rows.uptoSmall H (x.1++x.2.1)|none=>false)=true)(hsz:(Rows.OpenSpec.upto s).bare.sizedB enc P fn false w args fuel=true)(hl:laidMetH P laid w):(Rows.OpenSpec.upto s).preRow enc P fn [] false laid w args:=by
 cases hx:DataW.whole enc P w fn.params.toList s.vars false args.toList fuel with
 |none=>rw[hx] at hB;cases hB
 |some x=>
  rw[hx] at hB
  exact OpenSpec.preRow_of_cond fuel hx rfl (fun k hk=>by cases hk;exact hB) hsz hl
theorem qP{H:Type}{enc:TypeId × nK->H}{C:Checked}{os:Os}{f:FuncId}{fn:Func}{s:OpenSpec}{laid:List (String × DataW Unit)}(w0:nJ)(args:Array nK)(hos:w0.os=os)(hsh:(w0.forCall (fun _ _=>0) ⟨#[],args,[]⟩).Shaped C.prog)(hok:Input.okWideB C.prog (w0.forCall (fun _ _=>0) ⟨#[],args,[]⟩) f ⟨#[],args,[]⟩=true)(hrow:s.preRow enc C.prog fn [] false laid (w0.forCall (fun _ _=>0) ⟨#[],args,[]⟩).memory args):∃(w:nJ) (tape:Tape) (i:Input),w.os=os/\(w.forCall tape i).Shaped C.prog/\i.vars=[]/\Input.okWide C.prog (w.forCall tape i) .any w.heap.size f i/\s.preRow enc C.prog fn [] false laid (w.forCall tape i).memory i.args/\({}:Assume).holds C.prog (lone (Frame.enter C.prog f i.args .normal) [] (w.forCall tape i)):=
 ⟨w0,fun _ _=>0,⟨#[],args,[]⟩,hos,hsh,(Input.okWide_of_okWideB (base:=0) hok).1,(Input.okWide_of_okWideB hok).2,hrow,by
  simp only[Assume.holds]
  exact⟨nV,nV,fun _=>Modest.zero,nV,nV⟩⟩
theorem zc{H:Type}{l:List (DataW H)}{x:List UInt8}(h:Rows.uptoSmall H l=true)(hx:DataW.lit (.string x)∈l):x.length<=1048576:=by
 have h1:Rows.uptoBulkAll l<=1048576:=of_decide_eq_true h;have h2:∀l:List (DataW H),DataW.lit (.string x)∈l->x.length<=Rows.uptoBulkAll l:=by
  intro l;induction l with
  |nil=>intro h;cases h
  |cons y r ih=>
   intro h
   simp only[Rows.uptoBulkAll]
   rcases List.mem_cons.1 h with rfl|h
   ·simp only[Rows.uptoBulk];omega
   ·have:=ih h;omega
 exact nT (h2 l hx) h1
end Go.Proofs.YtdmedlkonaclnaaGreatDoor
