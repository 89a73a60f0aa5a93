/- A part of the proof that a law of layer 12 holds, cut small by a program (names and blanks): Hk18. -/
import Derived.Test.YtdmedlkonaclnaaGreatDoorZ33
set_option maxRecDepth 100000
set_option maxHeartbeats 40000000
set_option linter.unusedVariables false
set_option linter.unusedSimpArgs false
namespace Go.Proofs.YtdmedlkonaclnaaGreatDoor
open Go.RowKit
open Go renaming World → nJ, Value → nK
section
open Hd
section
variable{P:Program}{md:Region.Mode}{ops:Array Oper}{Q:Exit->Act->nJ->Prop}{V:nJ}{oi:Oper}{v:nK}{f:Nat}{l:Array Bool}{a:Act}{w:nJ}{fn:FuncId}{args:Array nK}{R:Ending->nJ->Prop}
theorem vt(i:Nat)(hi:ops[i]?=some oi)(hw:Region.wanted oi (yielded ops a.tmps)=true)(hx:(execOp a.eval oi).run P w=.ok (.enter fn args) w)(hg:au V.heap.size V w)(hl:Le V.heap.size w)(hC:Calls P fn args w R)(hR:∀e w',R e w'->∃v δ,e=.returned v/\w'=af w δ)(h:∀v w',R (.returned v) w'->au V.heap.size V w'->Le V.heap.size w'->wpAnyH P md ops Q (fun W=>au V.heap.size V W) f (l.setIfInBounds i true) (a.put oi.dst v) w'):wpOp P ops Q i (fun a' w'=>au V.heap.size V w'/\wpAnyH P md ops Q (fun W=>au V.heap.size V W) f (l.setIfInBounds i true) a' w') a w:=by refine Eu hi hw ?_;unfold Oper.wp;rw[hx,Oper.upon_enter];refine hC.mono ?_;intro e w' k;obtain⟨v,δ,rfl,rfl⟩:=hR e w' k;exact⟨inferInstance,h _ _ k inferInstance inferInstance⟩
theorem Qg(i:Nat)(hi:ops[i]?=some oi)(hw:Region.wanted oi (yielded ops a.tmps)=true)(hx:(execOp a.eval oi).run P w=.ok (.enter fn args) w)(hg:au V.heap.size V w)(hl:Le V.heap.size w)(hC:Calls P fn args w fun e w'=>e=.returned v/\∃δ,w'=af w δ)(h:∀δ,au V.heap.size V (af w δ)->Le V.heap.size (af w δ)->wpAnyH P md ops Q (fun W=>au V.heap.size V W) f (l.setIfInBounds i true) (a.put oi.dst v) (af w δ)):wpOp P ops Q i (fun a' w'=>au V.heap.size V w'/\wpAnyH P md ops Q (fun W=>au V.heap.size V W) f (l.setIfInBounds i true) a' w') a w:=
 vt i hi hw hx hg hl hC (fun e w' k=>⟨_,_,k.1,k.2.choose_spec⟩) fun v' w' k g' l'=>by obtain⟨h1,δ,rfl⟩:=k;injection h1 with h1;subst h1;exact h δ g' l'
theorem fL{S:nJ->Prop}(i:Nat)(hr:Region.ready md ops l=[i])(h:wpOp P ops Q i (fun a' w'=>S w'/\wpAnyH P md ops Q S f (l.setIfInBounds i true) a' w') a w):wpAnyH P md ops Q S (f+1) l a w:=
 wpAnyH_all (rs:=[i]) hr nV fun j hj=>by obtain rfl:=List.mem_singleton.1 hj;exact h
theorem M8{o:Obj}(i:Nat)(hi:ops[i]?=some oi)(hw:Region.wanted oi (yielded ops a.tmps)=true)(hx:(execOp a.eval oi).run P w=.ok (.value v) (w.alloc o))(hg:au V.heap.size V w)(hl:Le V.heap.size w)(h:au V.heap.size V (w.alloc o)->Le V.heap.size (w.alloc o)->wpAnyH P md ops Q (fun W=>au V.heap.size V W) f (l.setIfInBounds i true) (a.put oi.dst v) (w.alloc o)):wpOp P ops Q i (fun a' w'=>au V.heap.size V w'/\wpAnyH P md ops Q (fun W=>au V.heap.size V W) f (l.setIfInBounds i true) a' w') a w:=by refine Eu hi hw ?_;unfold Oper.wp;rw[hx,Oper.upon_value];exact⟨inferInstance,h inferInstance inferInstance⟩
end
end
end Go.Proofs.YtdmedlkonaclnaaGreatDoor
