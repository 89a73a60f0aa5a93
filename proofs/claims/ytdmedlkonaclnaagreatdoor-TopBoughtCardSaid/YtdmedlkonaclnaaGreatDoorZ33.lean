/- A part of the proof that a law of layer 12 holds, cut small by a program (names and blanks): Hk0. -/
import Derived.Test.YtdmedlkonaclnaaGreatDoorZ32
set_option maxRecDepth 100000
set_option maxHeartbeats 40000000
set_option linter.unusedVariables false
set_option linter.unusedSimpArgs false
namespace Go.Proofs.YtdmedlkonaclnaaGreatDoor
open Go.RowKit
open Nat renaming le_trans → nT
open Go renaming World → nJ, Value → nK
section
open Hd
structure Kept(T:Prop):Prop where
 out:T
theorem share{T G:Prop}(h:Kept T->G)(k:T):G:=h ⟨k⟩
theorem IT(W:nJ)(cs cs':Array nK)(T:TypeId):(W.alloc (.cells cs T)).setRow W.heap.size cs'=W.alloc (.cells cs' T):=by
 unfold World.setRow World.alloc;simp only[World.mk.injEq,and_true,true_and];apply Array.ext
 ·simp
 ·intro i h1 h2;simp only[Array.getElem_modify,Array.getElem_push];by_cases h:W.heap.size=i
  ·subst h;simp
  ·rw[if_neg h];have:i<W.heap.size:=by simp at h2;omega
   simp[this]
section
variable{P:Program}{W:nJ}{b:Nat}{T ty:TypeId}{cs cs':Array nK}{ops:Array Oper}{rest:List Oper}{o:Oper}{a:Act}{Q:Exit->Act->nJ->Prop}{n:Nat}
theorem jR(hT:fT P ty n)(hgd:o.guard=none)(x y:Operand)(ho:o.op=.store ty x y)(hx:a.eval x=.pointer (some ⟨W.heap.size,0,none⟩))(hy:a.eval y=.agg cs')(hn:cs.size=n)(hn':cs'.size=n)(h1:cs'.all (·.oneCell')=true)(h:wpList P ops Q rest (a.put o.dst undef) (W.alloc (.cells cs' T))):wpList P ops Q (o::rest) a (W.alloc (.cells cs T)):=by obtain⟨_,h3⟩:=hT;subst hn;refine wpList_plain hgd fun _ hK=>wp_store_row ty x y ho W.heap.size cs' hx hy T cs (ax.new rfl) (by rw[hn'];exact h3) hn'.symm h1 ?_;rw[IT];exact hK _ _ h
end
theorem Sl.Vq{α:Type}{enc:α->List nK}{B:Nat}{w:nJ}{A:Option Addr}{c:Nat}{xs:List α}(h:Sl enc B w A c xs)(m:Nat):Sl enc B w A c (xs.take m):=by
 refine⟨nT (by rw[List.length_take];exact Nat.min_le_right _ _) h.1,h.2.1,fun hne=>?_⟩;have e:xs.flatMap enc=(xs.take m).flatMap enc++(xs.drop m).flatMap enc:=by rw[<-List.flatMap_append,List.take_append_drop]
 obtain⟨b,o,hA,hb,hc⟩:=h.2.2 (by rw[e];simp[hne]);refine⟨b,o,hA,hb,fun j v hj=>hc j v ?_⟩;rw[e,List.getElem?_append_left (List.getElem?_eq_some_iff.1 hj).1];exact hj
end
end Go.Proofs.YtdmedlkonaclnaaGreatDoor
