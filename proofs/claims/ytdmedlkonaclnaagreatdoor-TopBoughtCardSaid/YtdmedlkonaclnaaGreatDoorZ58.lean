/- A part of the proof that a law of layer 12 holds, cut small by a program (names and blanks): Tbo. -/
import Derived.Test.YtdmedlkonaclnaaGreatDoorZ46
import Derived.HandedShaped
import Derived.MakeChecks
set_option maxRecDepth 100000
set_option maxHeartbeats 40000000
set_option linter.unusedVariables false
set_option linter.unusedSimpArgs false
namespace Go.Proofs.YtdmedlkonaclnaaGreatDoor
open Go.RowKit
open Go.Proofs.Tryz renaming prog → nH
open Go renaming World → nJ, Value → nK
section
open Go.ChangeShapes Go.WideShapes Go.ChangeAt
section
variable{H:Type}{enc:TypeId × nK->H}{held:Bool}{w:nJ}
theorem ab7{r:Reach}{b0:Nat}{v:nK}{d:DataW H}{p:List MemPlace}(hv:Value.okWide nH w r b0 74 v)(h:DataW.Trod enc nH w 0 (fun _=>true) held 74 v d p):∃a b:Int,v=.agg #[.int .i64 a,.int .i64 b]:=by
 obtain⟨cs,rfl,hsz⟩:=okWide_struct Tryz.underlying74 hv;rw[show Tryz.prog.cellsOf 74=2 by kernel_rfl] at hsz;obtain⟨l⟩:=cs;match l,hsz with
 |[c0,c1],_=>
  obtain⟨fuel,hf⟩:=h
  obtain⟨xs,n,_,_,_,hlen,hg⟩:=DataW.trod_struct Tryz.underlying74 hf
  match xs,hlen with
  |[y0,y1],_=>
   have g0:DataW.trod enc nH w 0 (fun _=>true) held n 3 [c0]=some y0:=by simpa [Value.cells,iK] using hg 0 _ rfl
   have g1:DataW.trod enc nH w 0 (fun _=>true) held n 3 [c1]=some y1:=by simpa [Value.cells,iK] using hg 1 _ rfl
   obtain⟨a,ha,_⟩:=DataW.trod_int Tryz.underlying3 g0
   obtain⟨b,hb,_⟩:=DataW.trod_int Tryz.underlying3 g1
   simp at ha hb
   exact⟨a,b,by rw[ha,hb]⟩
end
end
theorem ab6 {H : Type} {enc : TypeId × Value → H} {a : Assume} {C : Checked} {os : Os} {f : FuncId} {fn : Func} {s : ChangeSpec} {conds : List PathCond} {apart fresh handsOn again : Bool} {X : World → Array Value → Prop}
    (hX : ∀ (w w' : World) (args : Array Value), w.heap = w'.heap → X w args → X w' args)
    (own : ownKnob C.prog.godebug = none) (started : os.Started) (noInit : C.prog.inits.idxOf? f = none) (hfn : C.prog.funcs[f]? = some fn)
    (witness : ∃ (w : World) (tape : Tape) (i : Input), w.os = os ∧ (w.forCall tape i).Shaped C.prog ∧ i.vars = [] ∧ Input.okWide C.prog (w.forCall tape i) .any w.heap.size f i ∧
      ((s.pre enc C.prog fn conds apart (w.forCall tape i).memory i.args ∧ X (w.forCall tape i).memory i.args) ∧ sizedMet enc C.prog fn (OpenSpec.ofChange s) apart (w.forCall tape i).memory i.args) ∧ a.holds C.prog (lone (Frame.enter C.prog f i.args .normal) [] (w.forCall tape i)))
    (contract : ∀ (W : World) (base : Nat) (args : Array Value) (ds gs : List (DataW H)) (before : List MemPlace),
      (∀ (j : Nat) t v, fn.params[j]? = some t → args[j]? = some v → Value.okWide C.prog W .any base t v) →
      DataW.Whole enc C.prog fn.params.toList s.vars apart W args.toList ds gs before →
      (DataW.weightsEach C.prog (fn.params.toList ++ s.plain.varTypes C.prog) (ds ++ gs)).all (· ≤ reachBytes) = true → X W args → W.ShapedOpen C.prog →
      Calls C.prog f args W fun e W' => ∃ v, e = .returned v ∧ s.post enc C.prog fn apart fresh handsOn again W args v W') :
    ReturnsInHanded a C os f .any (fun w args => (s.pre enc C.prog fn conds apart w args ∧ X w args) ∧ sizedMet enc C.prog fn (OpenSpec.ofChange s) apart w args) (s.post enc C.prog fn apart fresh handsOn again) := by
  refine returnsInHanded_of_calls own started noInit witness ?_
  intro w tape i _ hsh _ hok hpre _
  obtain ⟨_, _, _, fn', hfn', _, _, _, _, hval⟩ := hok
  obtain rfl : fn' = fn := Option.some.inj (hfn'.symm.trans hfn)
  obtain ⟨⟨⟨ds, gs, before, hw, _⟩, hx⟩, hz⟩ := hpre
  have hw' := DataW.Whole.of_heap (w' := w.forCall tape i) (by rfl) hw
  refine (contract (w.forCall tape i) w.heap.size i.args ds gs before hval hw' (hz.weights hw) (hX _ _ _ (by rfl) hx) hsh).mono fun e W' ⟨v, he, hp⟩ => ?_
  subst he
  exact ChangeSpec.post_blind hp
end Go.Proofs.YtdmedlkonaclnaaGreatDoor
