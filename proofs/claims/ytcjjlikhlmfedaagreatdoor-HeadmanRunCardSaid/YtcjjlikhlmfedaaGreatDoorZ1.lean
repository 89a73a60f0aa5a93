/- A part of the proof that the statement HeadmanRunCardSaid holds, cut small by a program (names and blanks): Base, Base2, Base4, Base5, Base6, Hb. -/
import Derived.WalkKit
import Derived.WalkSpells
import Derived.WalkLawsBesides
import Derived.Deep.QuietTactic
import Derived.BigQuiet
import Derived.Lib.Hide
import Derived.Laws.AppendOwnNone
import Derived.Deep.Light
import Derived.Deep.LoopGhost
import Derived.Laws.MakeOwn
import Derived.Test.YtcjjlikhlmfedaaGreatDoorRows
import Derived.RangeFuncNested
import Derived.RangeFuncCalls
import Derived.ArgAppend
import Derived.Deep.RegionLawGrows
import Derived.TacticsInMore
import Derived.OwnWalkIn
import Derived.Deep.RegionHeld3
import Derived.Shelf.Abstract
import Derived.Laws.EntriesVeiled
import Derived.LoopIn
import Derived.IntWalk
set_option maxRecDepth 100000
set_option maxHeartbeats 40000000
set_option linter.unusedVariables false
set_option linter.unusedSimpArgs false
namespace Go.Proofs.YtcjjlikhlmfedaaGreatDoor
open Go.RowKit
open Nat renaming le_trans → nT, lt_of_lt_of_le → nL, le_refl → nR, le_of_lt → nS, le_succ → nF, le_add_right → nB
open Go.Proofs.Tryz renaming prog → nH
open Go renaming World → nJ, Value → nK
theorem qh {p:Prop} (h:p):Hid p:=Lib.hid h
theorem nP {p:Prop} (h:p:=by kernel_rfl):p:=h
theorem nQ {p:Prop} (h:p:=by omega):p:=h
theorem nU {p:Prop} (h:p:=by decide):p:=h
theorem nV {p:Prop} (h:p:=by simp):p:=h
theorem nW {p:Prop} (h:p:=by go_simp):p:=h
theorem nY {p:Prop} (h:p:=by rfl):p:=h
theorem nZ {p:Prop} (h:p:=by assumption):p:=h
theorem NT {p:Prop} (h:p:=by infer_instance):p:=h
section
open Classical in
noncomputable def af(w δ:nJ):nJ:=if Below w.heap.size w δ then δ else w
theorem fc(w δ:nJ):Below w.heap.size w (af w δ):=by
 unfold af;split
 ·assumption
 ·exact Below.refl _ _
theorem bU{w w':nJ}(h:Below w.heap.size w w'):af w w'=w':=by unfold af;rw[if_pos h]
theorem iH(w δ:nJ):w.heap.size<=(af w δ).heap.size:=(fc w δ).size
theorem Bs(w δ ε:nJ):af (af w δ) ε=af w (af (af w δ) ε):=
 (bU ((fc w δ).trans ((fc _ ε).mono (iH _ _)))).symm
theorem aY(w:nJ):af w w=w:=bU (Below.refl _ _)
theorem Eg(w:nJ):w.drew=af w w.drew:=(bU (Below.refl _ _).drew).symm
class Lt(b:Nat)(w:nJ):Prop where
 out:b<w.heap.size
class Le(B:Nat)(w:nJ):Prop where
 out:B<=w.heap.size
instance{b:Nat}{w δ:nJ}[h:Lt b w]:Lt b (af w δ):=⟨nL h.out (iH w δ)⟩
instance{b:Nat}{w:nJ}{o:Obj}[h:Lt b w]:Lt b (w.alloc o):=⟨by simpa using Nat.lt_succ_of_lt h.out⟩
instance{b:Nat}{w:nJ}[h:Lt b w]:Lt b w.drew:=⟨h.out⟩
instance{b:Nat}{w:nJ}{p:Addr}{u:nK}[h:Lt b w]:Lt b (w.setCell p u):=⟨by simpa [World.setCell] using h.out⟩
instance{w:nJ}{a:Obj}:Lt w.heap.size (w.alloc a):=⟨nV⟩
instance{w:nJ}{a b:Obj}:Lt (w.heap.size+1) ((w.alloc a).alloc b):=⟨nV⟩
instance{w:nJ}{a b c:Obj}:Lt (w.heap.size+2) (((w.alloc a).alloc b).alloc c):=⟨nV⟩
instance{w:nJ}{a b c d:Obj}:Lt (w.heap.size+3) ((((w.alloc a).alloc b).alloc c).alloc d):=⟨nV⟩
instance{w:nJ}{a b c d e:Obj}:Lt (w.heap.size+4) (((((w.alloc a).alloc b).alloc c).alloc d).alloc e):=⟨nV⟩
instance{w:nJ}{a b c d e f:Obj}:Lt (w.heap.size+5) ((((((w.alloc a).alloc b).alloc c).alloc d).alloc e).alloc f):=⟨nV⟩
instance{w:nJ}{a b c d e f g:Obj}:Lt (w.heap.size+6) (((((((w.alloc a).alloc b).alloc c).alloc d).alloc e).alloc f).alloc g):=⟨nV⟩
instance{w:nJ}{a b c d e f g h:Obj}:Lt (w.heap.size+7) ((((((((w.alloc a).alloc b).alloc c).alloc d).alloc e).alloc f).alloc g).alloc h):=⟨nV⟩
instance{w:nJ}:Le w.heap.size w:=⟨nR _⟩
instance{B:Nat}{w δ:nJ}[h:Le B w]:Le B (af w δ):=⟨nT h.out (iH w δ)⟩
instance{B:Nat}{w:nJ}{o:Obj}[h:Le B w]:Le B (w.alloc o):=⟨by simpa using Nat.le_succ_of_le h.out⟩
instance{B:Nat}{w:nJ}[h:Le B w]:Le B w.drew:=⟨h.out⟩
instance{B:Nat}{w:nJ}{p:Addr}{u:nK}[h:Le B w]:Le B (w.setCell p u):=⟨by simpa [World.setCell] using h.out⟩
instance{w:nJ}{a:Obj}:Le (w.heap.size+1) (w.alloc a):=⟨nV⟩
instance{w:nJ}{a b:Obj}:Le (w.heap.size+2) ((w.alloc a).alloc b):=⟨nV⟩
instance{w:nJ}{a b c:Obj}:Le (w.heap.size+3) (((w.alloc a).alloc b).alloc c):=⟨nV⟩
instance{w:nJ}{a b c d:Obj}:Le (w.heap.size+4) ((((w.alloc a).alloc b).alloc c).alloc d):=⟨nV⟩
instance{w:nJ}{a b c d e:Obj}:Le (w.heap.size+5) (((((w.alloc a).alloc b).alloc c).alloc d).alloc e):=⟨nV⟩
instance{w:nJ}{a b c d e f:Obj}:Le (w.heap.size+6) ((((((w.alloc a).alloc b).alloc c).alloc d).alloc e).alloc f):=⟨nV⟩
@[go_sem] theorem Xn(b:Nat)(w:nJ)[h:Lt b w]:b<w.heap.size:=h.out
@[go_sem] theorem Xo(b:Nat)(w:nJ)[h:Lt b w]:b<=w.heap.size:=nS h.out
@[go_sem] theorem RY(b k:Nat)(w:nJ)[h:Lt b w]:b<w.heap.size+k:=Nat.lt_add_right k h.out
@[go_sem] theorem tU(b:Nat)(w:nJ)[h:Le b w]:b<=w.heap.size:=h.out
@[go_sem] theorem RZ(b k:Nat)(w:nJ)[h:Le b w]:b<=w.heap.size+k:=Nat.le_add_right_of_le h.out
@[go_sem] theorem uw(w δ:nJ)(b o:Nat)[h:Lt b w]:(af w δ).cell? ⟨b,o,none⟩=w.cell? ⟨b,o,none⟩:=(fc w δ).cell (p:=⟨b,o,none⟩) h.out
@[go_sem] theorem T9(w δ:nJ)(b o:Nat)[h:Lt b w]:(af w δ).frozen? ⟨b,o,none⟩=w.frozen? ⟨b,o,none⟩:=(fc w δ).frozen (p:=⟨b,o,none⟩) h.out
def Same(B:Nat)(w W:nJ):Prop:=W.os=w.os/\W.tape=w.tape/\W.output=w.output/\∀k,k<B->W.heap[k]?=w.heap[k]?
theorem Same.below{B:Nat}{w W:nJ}(h:Same B w W)[hs:Le w.heap.size W]:Below B w W:=⟨h.1,h.2.1,h.2.2.1,hs.out,h.2.2.2⟩
theorem Same.of{B:Nat}{w W:nJ}(h:Below B w W):Same B w W:=⟨h.os,h.tape,h.output,h.block⟩
@[go_sem] theorem zL(B:Nat)(w:nJ):Same B w w:=⟨rfl,rfl,rfl,fun _ _=>rfl⟩
@[go_sem] theorem CM(B:Nat)(w W δ:nJ)[hB:Le B W]:Same B w (af W δ)↔Same B w W:=by
 have hb:=fc W δ;unfold Same;rw[hb.os,hb.tape,hb.output];constructor
 ·rintro⟨a,b,c,d⟩;exact⟨a,b,c,fun k hk=>(hb.block k (nL hk hB.out)).symm.trans (d k hk)⟩
 ·rintro⟨a,b,c,d⟩;exact⟨a,b,c,fun k hk=>(hb.block k (nL hk hB.out)).trans (d k hk)⟩
@[go_sem] theorem FA(B:Nat)(w W:nJ)(o:Obj)[hB:Le B W]:Same B w (W.alloc o)↔Same B w W:=by
 have hb:∀k,k<B->(W.alloc o).heap[k]?=W.heap[k]?:=fun k hk=>Below.heap_alloc W o k (nL hk hB.out);constructor
 ·rintro⟨a,b,c,d⟩;exact⟨a,b,c,fun k hk=>(hb k hk).symm.trans (d k hk)⟩
 ·rintro⟨a,b,c,d⟩;exact⟨a,b,c,fun k hk=>(hb k hk).trans (d k hk)⟩
@[go_sem] theorem UK(B:Nat)(w W:nJ):Same B w W.drew↔Same B w W:=Iff.rfl
@[go_sem] theorem AX(B:Nat)(w W:nJ)(p:Addr)(u:nK)(hB:B<=p.block):Same B w (W.setCell p u)↔Same B w W:=by
 have hb:∀k,k<B->(W.setCell p u).heap[k]?=W.heap[k]?:=fun k hk=>Below.heap_setCell W p u k nQ;constructor
 ·rintro⟨a,b,c,d⟩;exact⟨a,b,c,fun k hk=>(hb k hk).symm.trans (d k hk)⟩
 ·rintro⟨a,b,c,d⟩;exact⟨a,b,c,fun k hk=>(hb k hk).trans (d k hk)⟩
class mw(a b:Nat):Prop where
 out:a<=b
instance{B:Nat}{w:nJ}[h:Le B w]:mw B w.heap.size:=⟨h.out⟩
instance{B a k:Nat}[h:mw B a]:mw B (a+k):=⟨Nat.le_add_right_of_le h.out⟩
class aC(B:Nat)(w W:nJ):Prop where
 out:Same B w W
instance{B:Nat}{w:nJ}:aC B w w:=⟨zL _ _⟩
instance{B:Nat}{w W δ:nJ}[h:aC B w W][Le B W]:aC B w (af W δ):=⟨(CM _ _ _ _).2 h.out⟩
instance{B:Nat}{w W:nJ}{o:Obj}[h:aC B w W][Le B W]:aC B w (W.alloc o):=⟨(FA _ _ _ _).2 h.out⟩
instance{B:Nat}{w W:nJ}[h:aC B w W]:aC B w W.drew:=⟨h.out⟩
instance{B b i:Nat}{w W:nJ}{u:nK}[h:aC B w W][hb:mw B b]:aC B w (W.setCell ⟨b,i,none⟩ u):=⟨(AX _ _ _ ⟨b,i,none⟩ _ hb.out).2 h.out⟩
theorem aq{w W:nJ}[h:aC w.heap.size w W][Le w.heap.size W]:W=af w W:=(bU h.out.below).symm
theorem ag{w W:nJ}[h:aC w.heap.size w W][Le w.heap.size W]:∃δ,W=af w δ:=⟨W,(bU h.out.below).symm⟩
theorem eP{w W:nJ}[h:aC w.heap.size w W][Le w.heap.size W]:Below w.heap.size w W:=h.out.below
theorem zi{P:Program}{id:Nat}{Q:Exit->Act->nJ->Prop}{a:Act}{w:nJ}{l:List Oper}(hm:P.follows .mixedOrders=true)(hB:Region.lexB .any l.toArray=true)(h:wpQuiet P l.toArray (fun w'=>∃δ,w'=af w δ) (fun a'=>∀w',(∃δ,w'=af w δ)->Q .normal a' w') l a):(Code.region id l.toArray true).wp P Q a w:=
 wp_region_quiet (C:=fun w'=>∃δ,w'=af w δ) hm hB ⟨_,Eg w⟩ (by simpa using h)
theorem Calls.bU{P:Program}{f:FuncId}{args:Array nK}{w:nJ}{n:nJ}{v:nK}(h:Calls P f args (af w n) fun e w'=>e=.returned v/\∃δ,w'=af (af w n) δ):Calls P f args (af w n) fun e w''=>e=.returned v/\∃m,w''=af w m:=
 h.mono fun _ _ ⟨he,m,hm⟩=>⟨he,af (af w n) m,by rw[hm,<-Bs]⟩
theorem Calls.j8{P:Program}{f:FuncId}{args:Array nK}{w:nJ}{n:nJ}{v:nK}(h:Calls P f args (af w n) fun e w'=>e=.returned v/\af w n=w'):Calls P f args (af w n) fun e w''=>e=.returned v/\∃m,w''=af w m:=
 h.mono fun _ _ ⟨he,hm⟩=>⟨he,n,hm.symm⟩
theorem aK{P:Program}{c:Code}{Q:Exit->Act->nJ->Prop}{a:Act}{w:nJ}(h:∀W,Hid (W=w)->c.wp P Q a W):c.wp P Q a w:=h w rfl
theorem aW{a b:Bool}(h:a=b):Ending.returned (.bool a)=Ending.returned (.bool b):=by rw[h]
theorem cB{k:IntKind}{a b:Int}(h:a=b):Ending.returned (.int k a)=Ending.returned (.int k b):=by rw[h]
theorem int_eq{k:IntKind}{a b:Int}(h:a=b):Value.int k a=Value.int k b:=by rw[h]
theorem IA{x:Int}(h:-9223372036854775808<=x/\x<=9223372036854775807):wrap64 x=x:=IntWalk.wrap64_in _ h
def nth{α:Type}[Inhabited α](xs:List α)(k:Nat):α:=xs.getD k default
theorem bV{α:Type}[Inhabited α](xs:List α){k:Nat}(h:k<xs.length):nth xs k=xs[k]:=by simp[nth,List.getD,h]
theorem aS{α:Type}[Inhabited α](xs:List α){k:Nat}(h:k<xs.length):nth xs k∈xs:=by rw[bV _ h];exact List.getElem_mem h
theorem bu{α:Type}[Inhabited α](xs:List α){k:Nat}(h:k<xs.length):xs.take (k+1)=xs.take k++[nth xs k]:=by rw[List.take_succ_eq_append_getElem h,bV _ h]
def fj(low high x:Int):Bool:=decide (low<=x/\x<=high)
def Cb(jZ:Int)(xs:List Int):Bool:=xs.all (fj 0 jZ)
theorem cZ{low high x:Int}:fj low high x=true↔low<=x/\x<=high:=by simp[fj]
theorem eS{w:nJ}{b i:Nat}{v:nK}(h:w.cell? ⟨b,i,none⟩=some v):w.setCell ⟨b,i,none⟩ v=w:=by
 obtain⟨heap,tape,drawn,os,output⟩:=w;simp only[World.setCell,World.cell?] at *;congr 1;apply Array.ext_getElem?;intro k;rw[Array.getElem?_modify];by_cases hk:b=k
 ·subst hk;rw[if_pos rfl];cases hh:heap[b]? with
  |none=>rfl
  |some o=>
   rw[hh] at h
   cases o with
   |cells c t f=>
    simp only[Option.isSome_none,Bool.false_eq_true,if_false] at h
    simp only[Option.map_some,Option.isSome_none,Bool.false_eq_true,if_false]
    have:c.setIfInBounds i v=c:=by
     apply Array.ext_getElem?;intro j;rw[Array.getElem?_setIfInBounds];split
     ·rename_i hij;subst hij;split
      ·rw[h]
      ·rename_i hlt;rw[Array.getElem?_eq_none nQ] at h;cases h
     ·rfl
    rw[this]
   |_=>cases h
 ·rw[if_neg hk]
theorem ju(w:nJ)(b i:Nat)(u v:nK):(w.setCell ⟨b,i,none⟩ u).setCell ⟨b,i,none⟩ v=w.setCell ⟨b,i,none⟩ v:=by
 obtain⟨heap,tape,drawn,os,output⟩:=w;simp only[World.setCell];congr 1;apply Array.ext_getElem?;intro k;simp only[Array.getElem?_modify];by_cases hk:b=k
 ·simp only[hk,if_true,Option.map_map];cases heap[k]? with
  |none=>rfl
  |some o=>
   cases o with
   |cells c t f=>simp[Array.setIfInBounds_setIfInBounds]
   |_=>rfl
 ·simp only[hk,if_false]
theorem DE{w0:nJ}(δ0 δ:nJ){b i:Nat}{v0:nK}(x y:nK)(h:w0.cell? ⟨b,i,none⟩=some v0)[hb:Lt b w0]:∃δ',(af ((af w0 δ0).setCell ⟨b,i,none⟩ x) δ).setCell ⟨b,i,none⟩ y=(af w0 δ').setCell ⟨b,i,none⟩ y:=by
 have hsz:((af w0 δ0).setCell ⟨b,i,none⟩ x).heap.size=(af w0 δ0).heap.size:=by simp[World.setCell]
 have hL:=fc ((af w0 δ0).setCell ⟨b,i,none⟩ x) δ;have hl0:=fc w0 δ0;have NF:(af w0 δ0).setCell ⟨b,i,none⟩ v0=af w0 δ0:=eS (by rw[uw,h]);have TY:∀k,k<w0.heap.size->((af ((af w0 δ0).setCell ⟨b,i,none⟩ x) δ).setCell ⟨b,i,none⟩ v0).heap[k]?=w0.heap[k]?:=by
  intro k hk;have h2:k<(af w0 δ0).heap.size:=nL hk (iH _ _);have e1:=hL.block k nQ;have e2:((af ((af w0 δ0).setCell ⟨b,i,none⟩ x) δ).setCell ⟨b,i,none⟩ v0).heap[k]?=(((af w0 δ0).setCell ⟨b,i,none⟩ x).setCell ⟨b,i,none⟩ v0).heap[k]?:=by
   simp only[World.setCell] at e1 ⊢;simp only[Array.getElem?_modify] at e1 ⊢;by_cases hk':b=k
   ·simp only[hk',if_true] at e1 ⊢;rw[e1]
   ·simp only[hk',if_false] at e1 ⊢;rw[e1]
  rw[e2,ju,NF];exact hl0.block k hk
 have hB:Below w0.heap.size w0 ((af ((af w0 δ0).setCell ⟨b,i,none⟩ x) δ).setCell ⟨b,i,none⟩ v0):=by
  refine⟨?_,?_,?_,?_,TY⟩
  ·exact hL.os.trans hl0.os
  ·exact hL.tape.trans hl0.tape
  ·exact hL.output.trans hl0.output
  ·have:=hL.size;have:=hl0.size;simp only[World.setCell,Array.size_modify] at *;omega
 exact⟨_,by rw[bU hB,ju]⟩
theorem SK{P:Program}{f:FuncId}{args:Array nK}{w:nJ}{R:Ending->nJ->Prop}{b i:Nat}{v:nK}(h:w.cell? ⟨b,i,none⟩=some v)(hc:Calls P f args ((af w w).setCell ⟨b,i,none⟩ v) R):Calls P f args w R:=by rwa [aY,eS h] at hc
def Cells(w:nJ)(B:Nat)(A:Option Addr)(cs:List nK):Prop:=
 cs≠[]->∃b o,A=some ⟨b,o,none⟩/\b<B/\∀j v,cs[j]?=some v->w.cell? ⟨b,o+j,none⟩=some v
theorem Cells.nil{w:nJ}{B:Nat}{A:Option Addr}:Cells w B A []:=fun h=>absurd rfl h
theorem Cells.pV{w w':nJ}{B B':Nat}{A:Option Addr}{cs:List nK}(h:Cells w B A cs)(hB:B<=B')(hk:∀b o,b<B->w'.cell? ⟨b,o,none⟩=w.cell? ⟨b,o,none⟩):Cells w' B' A cs:=fun hc=>by obtain⟨b,o,hA,hb,hv⟩:=h hc;exact⟨b,o,hA,nL hb hB,fun j v hj=>(hk b _ hb).trans (hv j v hj)⟩
def Sl{α:Type}(enc:α->List nK)(B:Nat)(w:nJ)(A:Option Addr)(c:Nat)(xs:List α):Prop:=
 xs.length<=c/\c<=9223372036854775807/\Cells w B A (xs.flatMap enc)
section
variable{α:Type}{enc:α->List nK}{B:Nat}{w w':nJ}{A:Option Addr}{c:Nat}{xs:List α}
theorem Sl.none_:Sl enc B w A 0 ([]:List α):=⟨nR _,nQ,Cells.nil⟩
theorem Sl.pV(h:Sl enc B w A c xs){B':Nat}(hB:B<=B')(hk:∀b o,b<B->w'.cell? ⟨b,o,none⟩=w.cell? ⟨b,o,none⟩):Sl enc B' w' A c xs:=⟨h.1,h.2.1,h.2.2.pV hB hk⟩
theorem Sl.more(h:Sl enc B w A c xs){B':Nat}(hB:B<=B'):Sl enc B' w A c xs:=h.pV hB fun _ _ _=>rfl
theorem Sl.len(h:Sl enc B w A c xs):xs.length<=9223372036854775807:=nT h.1 h.2.1
theorem Pe(hk:∀b o,b<B->w'.cell? ⟨b,o,none⟩=w.cell? ⟨b,o,none⟩):Sl enc B w' A c xs↔Sl enc B w A c xs:=
 ⟨fun h=>h.pV (nR _) fun b o hb=>(hk b o hb).symm,fun h=>h.pV (nR _) hk⟩
theorem bz(h:Same B w w'):∀b o,b<B->w'.cell? ⟨b,o,none⟩=w.cell? ⟨b,o,none⟩:=fun b o hb=>World.cell?_of_block (a:=⟨b,o,none⟩) (h.2.2.2 b hb)
@[go_sem] theorem yO(δ:nJ)[hB:Le B w]:Sl enc B (af w δ) A c xs↔Sl enc B w A c xs:=Pe (bz ((CM B w w δ).2 (zL _ _)))
theorem Sl.up(h:Sl enc B w A c xs)[hg:aC B w w']:Sl enc B w' A c xs:=(Pe (bz hg.out)).2 h
@[go_sem] theorem Jq:Sl enc B w.drew A c xs↔Sl enc B w A c xs:=Iff.rfl
theorem Sl.at_(h:Sl enc B w A c xs){size:Nat}(hs:∀x,(enc x).length=size){k:Nat}(hk:k<xs.length)(h0:0<size):∃b o,A=some ⟨b,o,none⟩/\b<B/\∀j v,(enc xs[k])[j]?=some v->w.cell? ⟨b,o+(k*size+j),none⟩=some v:=by
 have key:∀(l:List α) (k:Nat) (hk:k<l.length) (j:Nat) (v:nK),(enc l[k])[j]?=some v->(l.flatMap enc)[k*size+j]?=some v:=by
  intro l;induction l with
  |nil=>intro k hk;simp at hk
  |cons x l ih=>
   intro k hk j v hv
   rw[List.flatMap_cons]
   cases k with
   |zero=>
    rw[Nat.zero_mul,Nat.zero_add,List.getElem?_append_left]
    ·exact hv
    ·exact(List.getElem?_eq_some_iff.1 hv).1
   |succ k=>
    rw[List.getElem?_append_right (by rw[hs,Nat.succ_mul];omega),hs,Nat.succ_mul,show k*size+size+j-size=k*size+j by omega]
    exact ih k (by simpa using hk) j v hv
 have hne:xs.flatMap enc≠[]:=by
  intro he;have hl:0<(enc xs[k]).length:=by rw[hs];exact h0
  have:=key xs k hk 0 _ (List.getElem?_eq_getElem hl);rw[he] at this;cases this
 obtain⟨b,o,hA,hb,hc⟩:=h.2.2 hne;exact⟨b,o,hA,hb,fun j v hv=>hc _ v (key xs k hk j v hv)⟩
end
theorem Cells.bW{w:nJ}{base:Nat}{e:TypeId}{size n c:Nat}{A:Option Addr}{xs:List nK}(h:w.ownsRow base e size (.slice A n c) n xs):Cells w w.heap.size A xs:=by
 intro hne;rcases h.2 with⟨hv,rfl⟩|⟨g,cap,cur,hv,_,hh,hnc,_,hcs,ht⟩
 ·have:=h.1;simp at this;exact absurd this hne
 ·injection hv with hA _ hc;subst hA hc;refine⟨g,0,rfl,?_,?_⟩
  ·rcases Nat.lt_or_ge g w.heap.size with hlt|hge
   ·exact hlt
   ·rw[Array.getElem?_eq_none hge] at hh;cases hh
  ·intro j v hj;have hcell:=h.cells (g:=g) rfl j v hj;simpa [Addr.add_lit] using hcell
theorem Sl.bW{α:Type}{enc:α->List nK}{w:nJ}{base:Nat}{e:TypeId}{size c:Nat}{A:Option Addr}{xs:List α}(h:w.ownsRow base e size (.slice A xs.length c) xs.length (xs.flatMap enc)):Sl enc w.heap.size w A c xs:=by
 refine⟨?_,?_,Cells.bW h⟩
 ·rcases h.2 with⟨hv,h0⟩|⟨g,cap,cur,hv,_,hh,hnc,_,hcs,ht⟩
  ·omega
  ·injection hv with _ _ hc;omega
 ·rcases h.2 with⟨hv,h0⟩|⟨g,cap,cur,hv,_,hh,hnc,hm,hcs,ht⟩
  ·injection hv with _ _ hc;omega
  ·injection hv with _ _ hc;unfold maxLen at hm;omega
theorem oV{w:nJ}{base:Nat}{e:TypeId}{size n:Nat}{v:nK}{xs:List nK}(h:w.ownsRow base e size v n xs):∃A c,v=.slice A n c:=by
 rcases h.2 with⟨rfl,rfl⟩|⟨g,cap,cur,rfl,_⟩
 ·exact⟨_,_,rfl⟩
 ·exact⟨_,_,rfl⟩
theorem jX{w:nJ}(δ:nJ){base:Nat}{e:TypeId}{size n:Nat}{v:nK}{xs:List nK}(h:w.ownsRow base e size v n xs):(af w δ).ownsRow base e size v n xs:=by
 refine⟨h.1,?_⟩;rcases h.2 with h2|⟨g,cap,cur,hv,hg,hh,r⟩
 ·exact .inl h2
 ·refine .inr ⟨g,cap,cur,hv,hg,?_,r⟩;rw[(fc w δ).block g,hh];rcases Nat.lt_or_ge g w.heap.size with hlt|hge
  ·exact hlt
  ·rw[Array.getElem?_eq_none hge] at hh;cases hh
end
theorem wpRl {P:Program} {id:Nat} {Q:Exit->Act->World->Prop} {a:Act} {w:World} {l:List Oper} (h:wpQuiet P l.toArray (fun w'=>∃δ,w'=af w δ) (fun a'=>∀w',(∃δ,w'=af w δ)->Q .normal a' w') l a) (hm:P.follows .mixedOrders=true:=by kernel_rfl) (hB:Region.lexB .any l.toArray=true:=by kernel_rfl):(Code.region id l.toArray true).wp P Q a w:=zi hm hB h
theorem fR {B:Nat} {X W:World} (h:Hid (X=W)) [i:Le B W]:Le B X:=h.out▸i
theorem iC {B:Nat} {w X W:World} (h:Hid (X=W)) [i:aC B w W]:aC B w X:=h.out▸i
theorem mb {b:Nat} {X W:World} (h:Hid (X=W)) [i:Lt b W]:Lt b X:=h.out▸i
theorem He (B:Nat) (w:World) {X W:World} (h:Hid (X=W)) [i1:Le B W] [i2:aC B w W] [i3:Le w.heap.size W] [i4:aC w.heap.size w W]:Le B X/\aC B w X/\Le w.heap.size X/\aC w.heap.size w X:=⟨fR h,iC h,fR h,iC h⟩
theorem yj (B:Nat) (w:World) {X W:World} (h:Hid (X=W)) [i1:Le B W] [i2:aC B w W] [i3:Le w.heap.size W] [i4:aC w.heap.size w W] [i5:Lt w.heap.size W]:Le B X/\aC B w X/\Le w.heap.size X/\aC w.heap.size w X/\Lt w.heap.size X:=⟨fR h,iC h,fR h,iC h,mb h⟩
theorem Cm (B:Nat) (w:World) {X W:World} (h:Hid (X=W)) [i1:Le B W] [i2:aC B w W] [i3:Le w.heap.size W] [i4:aC w.heap.size w W] [i5:Lt w.heap.size W] [i6:Lt (w.heap.size+1) W]:Le B X/\aC B w X/\Le w.heap.size X/\aC w.heap.size w X/\Lt w.heap.size X/\Lt (w.heap.size+1) X:=⟨fR h,iC h,fR h,iC h,mb h,mb h⟩
structure QAB (p:Prop):Prop where
  o:p
theorem QAC {G H:Prop} (k:H) (h:QAB H->G:=by
 intro QAA
 have g1:W1.heap.size<=(af W1 δ1).heap.size:=(inferInstance:Le W1.heap.size (af W1 δ1)).out
 have g2:w.heap.size+1+1<(af W1 δ1).heap.size:=nL jP.out g1
 have q1:aC B w W2:=bP kg (inferInstance:Le B (af W1 δ1)).out
 have q2:aC w.heap.size w W2:=bP kg (inferInstance:Le w.heap.size (af W1 δ1)).out
 have q3:Le B W2:=cK kg
 have q4:Le w.heap.size W2:=cK kg
 have q5:Le W1.heap.size W2:=cK kg
 have q6:w.heap.size+1+1<W1.heap.size:=jP.out
 have A2:Hid (av W2 w.heap.size 39 (aF r t)):=qh (((b1.out.af _).alloc _).eG kg nQ)
 have D2:Hid (av W2 (w.heap.size+1) _ _):=qh (((B2.out.af _).alloc _).eG kg nQ)
 have Z2:Hid (av W2 (w.heap.size+1+1) 39 (aF cV cL)):=qh (((b3.out.af _).alloc _).eG kg nQ)
 have O2:Hid (aM W1.heap.size W2 r1 t):=qh ((O1.out.alloc _).aO kg (av.new rfl) nU)
 obtain⟨g,hg⟩:∃g,(af W1 δ1).heap.size=g:=⟨_,rfl⟩
 revert g1 g2 q1 q2 q3 q4 q5 q6 A2 D2 Z2 O2 g hg
 exact QAA.o):G:=h ⟨k⟩
theorem QAD {G H:Prop} (k:H) (h:QAB H->G:=by
 intro QAA
 refine aK fun W1 aE=>?_
 obtain⟨cz,de,cN,cY,dc⟩:=yj B w aE
 have rX:W1.cell? ⟨w.heap.size,0,none⟩=some (.slice kA h.kinds.length kc):=by rw[aE.out];go_simp
 have lH:W1.cell? ⟨w.heap.size,1,none⟩=some (.int .i64 h.floor):=by rw[aE.out];go_simp
 have jU:W1.cell? ⟨w.heap.size,2,none⟩=some (.slice pA h.parts.length pc):=by rw[aE.out];go_simp
 have kM:W1.cell? ⟨w.heap.size,3,none⟩=some (.slice bA h.bars.length bc):=by rw[aE.out];go_simp
 revert W1 aE cz de cN cY dc rX lH jU kM
 exact QAA.o):G:=h ⟨k⟩
theorem QAE {G H:Prop} (k:H) (h:QAB H->G:=by
 intro QAA
 unfold wpOp
 show if Region.wanted _ _=true then _ else _
 rw[if_pos nY]
 left
 unfold Oper.wp
 go_simp
 exact QAA.o):G:=h ⟨k⟩
theorem QAF {G H:Prop} (k:H) (h:QAB H->G:=by
 intro QAA
 have HV:=qh hv
 have HX:=qh hX
 have H:=qh hD
 have HL:=qh hL
 have lB:=hD.le
 have l8:Le 8 w:=⟨nT h8 lB.out⟩
 have lD:=hD.dY.box.lt
 obtain⟨ws,oe⟩:∃x,bE l=x:=⟨_,rfl⟩
 have EJ:Hid (Calls nH 63 #[.string (str l),.string ⟨#[32]⟩] w fun e w'=>∃(A:Option Addr) (n c:Nat) (δ:nJ),e=.returned (.slice A n c)/\ws.length=n/\w'=af w δ/\fm 9 cm (af w δ).heap.size (af w δ) A c ws):=qh (by rw[<-oe];exact PV l hl w hL)
 have hw0:0<ws.length:=by rw[<-oe];exact List.length_pos_iff.2 (mH l)
 have hwn:ws.length<=1001:=by rw[<-oe];have:=(iQ l).1;omega
 have Jr:Hid (∀x∈ws,x.length<=1000):=qh fun x hx=>by have:=(iQ l).2 x (oe▸hx);omega
 revert HV HX H HL lB l8 lD ws oe EJ hw0 hwn Jr
 exact QAA.o):G:=h ⟨k⟩
theorem QAG {G H:Prop} (k:H) (h:QAB H->G:=by
 intro QAA
 obtain⟨cz,de,cN,cY,dc,dX⟩:=Cm B w aE
 have jP:Lt (w.heap.size+1+1) W1:=mb aE
 have jU:W1.cell? ⟨w.heap.size,0,none⟩=some (.int .i64 n.aN.lo):=by rw[aE.out];go_simp
 have kM:W1.cell? ⟨w.heap.size,1,none⟩=some (.int .i64 n.aN.hi):=by rw[aE.out];go_simp
 have iY:W1.cell? ⟨w.heap.size,2,none⟩=some (.int .i64 n.cur.lo):=by rw[aE.out];go_simp
 have lC:W1.cell? ⟨w.heap.size,3,none⟩=some (.int .i64 n.cur.hi):=by rw[aE.out];go_simp
 have lu:W1.cell? ⟨w.heap.size,4,none⟩=some (.slice r.gA n.au.length r.gc):=by rw[aE.out];go_simp
 have uu:W1.cell? ⟨w.heap.size,5,none⟩=some (.slice r.aA n.ay.length r.ac):=by rw[aE.out];go_simp
 have vn:W1.cell? ⟨w.heap.size,6,none⟩=some (.slice r.wA n.aQ.length r.wc):=by rw[aE.out];go_simp
 have vm:W1.cell? ⟨w.heap.size+1,0,none⟩=some (.int .i64 0):=by rw[aE.out];go_simp
 have yz:W1.cell? ⟨w.heap.size+1,1,none⟩=some (.int .i64 0):=by rw[aE.out];go_simp
 have Hu:W1.cell? ⟨w.heap.size+1,2,none⟩=some (.int .i64 0):=by rw[aE.out];go_simp
 have Ht:W1.cell? ⟨w.heap.size+1,3,none⟩=some (.int .i64 0):=by rw[aE.out];go_simp
 have Hs:W1.cell? ⟨w.heap.size+1,4,none⟩=some (.slice none 0 0):=by rw[aE.out];go_simp
 have Ej:W1.cell? ⟨w.heap.size+1,5,none⟩=some (.slice none 0 0):=by rw[aE.out];go_simp
 have Ln:W1.cell? ⟨w.heap.size+1,6,none⟩=some (.slice none 0 0):=by rw[aE.out];go_simp
 revert cz de cN cY dc dX jP jU kM iY lC lu uu vn vm yz Hu Ht Hs Ej Ln
 exact QAA.o):G:=h ⟨k⟩
theorem QAH {G H:Prop} (k:H) (h:QAB H->G:=by
 intro QAA
 refine aK fun W1 aE=>?_
 obtain⟨cz,de,cN,cY,dc,dX⟩:=Cm B w aE
 have A1:Hid (av W1 w.heap.size 39 (aF r t)):=by rw[aE.out];exact qh ((av.new rfl).alloc _)
 have R1:Hid (av W1 (w.heap.size+1) 39 (aF cV cL)):=by rw[aE.out];exact qh (av.new nV)
 have M1:Hid (aP B W1 r t):=qh H.out.up
 have ib:Lt bb W1:=⟨nL gH cN.out⟩
 have nb1:pI bb w.heap.size:=⟨nQ⟩
 have nb2:pI w.heap.size bb:=⟨nQ⟩
 have d0:W1.cell? ⟨bb,oo,none⟩=some (.int .i64 (nth a 0)):=(HS.out.up (w':=W1)).jS (k:=0) hk0.out
 obtain⟨x0,hx0⟩:∃x,nth a 0=x:=⟨_,rfl⟩
 revert W1 aE cz de cN cY dc dX A1 R1 M1 ib nb1 nb2 d0 x0 hx0
 exact QAA.o):G:=h ⟨k⟩
theorem QAI {G H:Prop} (k:H) (h:QAB H->G:=by
 intro QAA
 try simp only[Act.put,List.getElem_toArray,List.getElem_cons_succ,List.getElem_cons_zero,List.setIfInBounds_toArray,List.set_cons_zero,List.set_cons_succ]
 exact QAA.o):G:=h ⟨k⟩
theorem QAJ {G H:Prop} (k:H) (h:QAB H->G:=by
 intro QAA
 have g1:W1.heap.size<=(af W1 δ1).heap.size:=(inferInstance:Le W1.heap.size (af W1 δ1)).out
 have g2:w.heap.size+1<(af W1 δ1).heap.size:=nL dX.out g1
 have q1:aC B w W2:=bP kg (inferInstance:Le B (af W1 δ1)).out
 have q2:aC w.heap.size w W2:=bP kg (inferInstance:Le w.heap.size (af W1 δ1)).out
 have q3:Le B W2:=cK kg
 have q4:Le w.heap.size W2:=cK kg
 have q5:w.heap.size+1<W1.heap.size:=dX.out
 have D2:Hid (av W2 w.heap.size 53 (bX k d)):=qh (((b1.out.af _).alloc _).eG kg nQ)
 have R2:Hid (av W2 (w.heap.size+1) 53 (bX kP kQ)):=qh (((b2.out.af _).alloc _).eG kg nQ)
 revert g1 g2 q1 q2 q3 q4 q5 D2 R2
 exact QAA.o):G:=h ⟨k⟩
theorem QAK {G H:Prop} (k:H) (h:QAB H->G:=by
 intro QAA
 refine aK fun W1 aE=>?_
 obtain⟨cz,de,cN,cY,dc,dX⟩:=Cm B w aE
 have jP:Lt (w.heap.size+2) W1:=mb aE
 have b1:Hid (av W1 w.heap.size 39 (aF r t)):=by rw[aE.out];exact qh (((av.new rfl).alloc _).alloc _)
 have b2:av W1 (w.heap.size+1) 159 #[.int .i64 1,.string (str tx),.slice (some ⟨bb,oo,none⟩) a.length cap]:=by rw[aE.out];exact(av.new nV).alloc _
 have b3:Hid (av W1 (w.heap.size+1+1) 39 (aF cV cL)):=by rw[aE.out];exact qh (av.new nV)
 have y1:=b2.cell (i:=1) rfl
 have y2:=b2.cell (i:=2) rfl
 have B2:=qh b2
 revert W1 aE cz de cN cY dc dX jP b1 b2 b3 y1 y2 B2
 exact QAA.o):G:=h ⟨k⟩
theorem QAL {G H:Prop} (k:H) (h:QAB H->G:=by
 intro QAA
 refine aK fun W1 aE=>?_
 obtain⟨cz,de,cN,cY,dc⟩:=yj B w aE
 have rX:W1.cell? ⟨w.heap.size,0,none⟩=some (.int .i64 n.aN.lo):=by rw[aE.out];go_simp
 have lH:W1.cell? ⟨w.heap.size,1,none⟩=some (.int .i64 n.aN.hi):=by rw[aE.out];go_simp
 have jU:W1.cell? ⟨w.heap.size,2,none⟩=some (.int .i64 n.cur.lo):=by rw[aE.out];go_simp
 have kM:W1.cell? ⟨w.heap.size,3,none⟩=some (.int .i64 n.cur.hi):=by rw[aE.out];go_simp
 have iY:W1.cell? ⟨w.heap.size,4,none⟩=some (.slice r.gA n.au.length r.gc):=by rw[aE.out];go_simp
 have lC:W1.cell? ⟨w.heap.size,5,none⟩=some (.slice r.aA n.ay.length r.ac):=by rw[aE.out];go_simp
 have lu:W1.cell? ⟨w.heap.size,6,none⟩=some (.slice r.wA n.aQ.length r.wc):=by rw[aE.out];go_simp
 revert W1 aE cz de cN cY dc rX lH jU kM iY lC lu
 exact QAA.o):G:=h ⟨k⟩
theorem QAM {G H:Prop} (k:H) (h:QAB H->G:=by
 intro QAA
 refine aK fun W1 aE=>?_
 have cz:Le B W1:=fR aE
 have de:aC B w W1:=iC aE
 obtain⟨cN,cY,dc,dX⟩:=He 8 w aE
 have jP:Lt (D) W1:=mb aE
 have H1:Hid (bZ X B D W1 k d ms):=qh H.out.up
 have me:Hid (Sl cm W1.heap.size W1 A cap ws):=by rw[aE.out];exact qh HS.out.plain
 have qv:Hid (cX W1):=qh HL.out.up
 have lS:Le W1.heap.size W1:=⟨nR _⟩
 have lS8:Le 8 W1:=inferInstance
 have F1:Hid (Fr B jc w W1):=qh Fr.fK
 revert W1 aE cz de cN cY dc dX jP H1 me qv lS lS8 F1
 exact QAA.o):G:=h ⟨k⟩
theorem QAN {G H:Prop} (k:H) (h:QAB H->G:=by
 intro QAA
 have p1:aC w.heap.size w W5:=bP k5 (nB _ 2)
 have p2:Le w.heap.size W5:=cK k5
 refine dQ ak Tryz.results89 rfl C5 rfl ?_
 revert p1 p2
 exact QAA.o):G:=h ⟨k⟩
theorem QAO {G H:Prop} (k:H) (h:QAB H->G:=by
 intro QAA
 have nx:Hid (Calls nH 64 #[.slice A ws.length cap] W1 (jI (bJ ws) W1)):=qh (pP ws A cap hw0 Jr.out hwn W1.heap.size W1 me.out qv.out)
 have oL:Hid (∀W:nJ,aC W1.heap.size W1 W->Le W1.heap.size W->Le 8 W->cX W->Calls nH 67 #[.slice A ws.length cap] W (ki (bJ ws) W)):=qh fun W i1 i2 i3 h=>qE ws A cap hw0 Jr.out hwn W1.heap.size W me.out.up h
 revert nx oL
 exact QAA.o):G:=h ⟨k⟩
theorem QAP {G H:Prop} (k:H) (h:QAB H->G:=by
 intro QAA
 refine aK fun W1 aE=>?_
 obtain⟨cz,de,cN,cY,dc,dX⟩:=Cm B w aE
 have lH:W1.cell? ⟨w.heap.size,0,none⟩=some (.int .i64 n.aN.lo):=by rw[aE.out];go_simp
 have jU:W1.cell? ⟨w.heap.size,1,none⟩=some (.int .i64 n.aN.hi):=by rw[aE.out];go_simp
 have kM:W1.cell? ⟨w.heap.size,2,none⟩=some (.int .i64 n.cur.lo):=by rw[aE.out];go_simp
 have iY:W1.cell? ⟨w.heap.size,3,none⟩=some (.int .i64 n.cur.hi):=by rw[aE.out];go_simp
 have lC:W1.cell? ⟨w.heap.size,4,none⟩=some (.slice r.gA n.au.length r.gc):=by rw[aE.out];go_simp
 have lu:W1.cell? ⟨w.heap.size,5,none⟩=some (.slice r.aA n.ay.length r.ac):=by rw[aE.out];go_simp
 have uu:W1.cell? ⟨w.heap.size,6,none⟩=some (.slice r.wA n.aQ.length r.wc):=by rw[aE.out];go_simp
 revert W1 aE cz de cN cY dc dX lH jU kM iY lC lu uu
 exact QAA.o):G:=h ⟨k⟩
theorem QAQ {G H:Prop} (k:H) (h:QAB H->G:=by
 intro QAA
 have OG:W1.cell? ⟨w.heap.size+1,7,none⟩=some (.int .i64 0):=by rw[aE.out];go_simp
 have Lm:W1.cell? ⟨w.heap.size+1,8,none⟩=some (.int .i64 0):=by rw[aE.out];go_simp
 have OF:W1.cell? ⟨w.heap.size+1,9,none⟩=some (.slice none 0 0):=by rw[aE.out];go_simp
 have fw25:W1.frozen? ⟨w.heap.size+1,0,none⟩=false:=by rw[aE.out];go_simp
 have fw26:W1.frozen? ⟨w.heap.size+1,1,none⟩=false:=by rw[aE.out];go_simp
 have fw27:W1.frozen? ⟨w.heap.size+1,2,none⟩=false:=by rw[aE.out];go_simp
 have fw28:W1.frozen? ⟨w.heap.size+1,3,none⟩=false:=by rw[aE.out];go_simp
 have fw29:W1.frozen? ⟨w.heap.size+1,4,none⟩=false:=by rw[aE.out];go_simp
 have fw30:W1.frozen? ⟨w.heap.size+1,5,none⟩=false:=by rw[aE.out];go_simp
 have fw31:W1.frozen? ⟨w.heap.size+1,6,none⟩=false:=by rw[aE.out];go_simp
 have fw32:W1.frozen? ⟨w.heap.size+1,7,none⟩=false:=by rw[aE.out];go_simp
 have fw33:W1.frozen? ⟨w.heap.size+1,8,none⟩=false:=by rw[aE.out];go_simp
 have fw34:W1.frozen? ⟨w.heap.size+1,9,none⟩=false:=by rw[aE.out];go_simp
 revert OG Lm OF fw25 fw26 fw27 fw28 fw29 fw30 fw31 fw32 fw33 fw34
 exact QAA.o):G:=h ⟨k⟩
theorem QAR {G H:Prop} (k:H) (h:QAB H->G:=by
 intro QAA
 have p1:aC w.heap.size w W9:=bP k9 (nF _)
 have p2:Le w.heap.size W9:=cK k9
 revert p1 p2
 exact QAA.o):G:=h ⟨k⟩
theorem QAS {G H:Prop} (k:H) (h:QAB H->G:=by
 intro QAA
 have HS:=qh hS
 have hl0:(0:Int)<(a.length:Int):=nQ
 have hk0:Hid (0<a.length):=qh nQ
 have hm0:0<a.length:=nQ
 have hl1:(1:Int)<(a.length:Int):=nQ
 have xV:Hid (1<a.length):=qh nQ
 have qM:1<a.length:=nQ
 revert HS hl0 hk0 hm0 hl1 xV qM
 exact QAA.o):G:=h ⟨k⟩
theorem QAT {G H:Prop} (k:H) (h:QAB H->G:=by
 intro QAA
 refine aK fun W1 aE=>?_
 obtain⟨cz,de,cN,cY,dc,dX⟩:=Cm B w aE
 have b1:Hid (av W1 w.heap.size 53 (bX k d)):=by rw[aE.out];exact qh ((av.new rfl).alloc _)
 have b2:Hid (av W1 (w.heap.size+1) 53 (bX kP kQ)):=by rw[aE.out];exact qh (av.new nV)
 revert W1 aE cz de cN cY dc dX b1 b2
 exact QAA.o):G:=h ⟨k⟩
theorem QAU {G H:Prop} (k:H) (h:QAB H->G:=by
 intro QAA
 have C2:=qh C2
 have la:=A2.out.lt
 have ld:=D2.out.lt
 have lz:=Z2.out.lt
 have lg:=C2.out.lt
 have z1:=D2.out.cell (i:=1) rfl
 have z2:=D2.out.cell (i:=2) rfl
 have gg:=qh g2
 have d0:W2.cell? ⟨bb,oo,none⟩=some (.int .i64 (nth a 0)):=(HS.out.up (w':=W2)).jS (k:=0) hk0.out
 have d1:W2.cell? ⟨bb,oo+1,none⟩=some (.int .i64 (nth a 1)):=(HS.out.up (w':=W2)).jS (k:=1) xV.out
 revert C2 la ld lz lg z1 z2 gg d0 d1
 exact QAA.o):G:=h ⟨k⟩
theorem QAV {G H:Prop} (k:H) (h:QAB H->G:=by
 intro QAA
 refine aK fun W1 aE=>?_
 obtain⟨cz,de,cN,cY,dc⟩:=yj B w aE
 have rX:W1.cell? ⟨w.heap.size,0,none⟩=some (.int .i64 n.m):=by rw[aE.out];go_simp
 have lH:W1.cell? ⟨w.heap.size,1,none⟩=some (.slice r.hA n.hs.length r.hc):=by rw[aE.out];go_simp
 have jU:W1.cell? ⟨w.heap.size,2,none⟩=some (.slice r.pA n.ps.length r.pc):=by rw[aE.out];go_simp
 revert W1 aE cz de cN cY dc rX lH jU
 exact QAA.o):G:=h ⟨k⟩
theorem QAW {G H:Prop} (k:H) (h:QAB H->G:=by
 intro QAA
 refine aK fun W1 aE=>?_
 obtain⟨cz,de,cN,cY,dc⟩:=yj B w aE
 have b1:av W1 w.heap.size 39 (aF r t):=by rw[aE.out];exact av.new rfl
 revert W1 aE cz de cN cY dc b1
 exact QAA.o):G:=h ⟨k⟩
theorem QAX {G H:Prop} (k:H) (h:QAB H->G:=by
 intro QAA
 refine aK fun W1 aE=>?_
 obtain⟨cz,de,cN,cY,dc,dX⟩:=Cm B w aE
 have b1:av W1 w.heap.size 39 (aF r t):=by rw[aE.out];exact(av.new rfl).alloc _
 revert W1 aE cz de cN cY dc dX b1
 exact QAA.o):G:=h ⟨k⟩
theorem QAY {G H:Prop} (k:H) (h:QAB H->G:=by
 intro QAA
 have e02:W2.cell? ⟨b,o,none⟩=some (.string (str t0)):=(bz a1.out _ _ ib.out).trans e0
 have ib2:Lt b W2:=⟨nL ib.out a2.out⟩
 have pJ:Hid (cX W2):=qh HL.out.up
 have H2:Hid (bZ X B D W2 k d ms):=qh H1.out.up
 have F2:Hid (Fr B jc w W2):=qh (F1.out.trans (by have:=H1.out.le;exact Fr.fK))
 revert e02 ib2 pJ H2 F2
 exact QAA.o):G:=h ⟨k⟩
theorem QAZ {G H:Prop} (k:H) (h:QAB H->G:=by
 intro QAA
 have Si:1<=ws.length:=hw0
 have hn2:(1:Int)<=(ws.length:Int):=nQ
 have Sh:(0:Int)<(ws.length:Int):=nQ
 have Sg:(1:Int)<=(cap:Int):=nQ
 have QY:(ws.length:Int)<=(cap:Int):=nQ
 have EZ:Hid ((ws.drop 1).length=ws.length-1):=qh (List.length_drop ..)
 have ie:Hid (∀W:nJ,aC W1.heap.size W1 W->Le W1.heap.size W->Le 8 W->cX W->Calls nH 69 #[.slice A2 (ws.length-1) (cap-1)] W (nj (cS (ws.drop 1)) W)):=qh fun W i1 i2 i3 h=>z8 (ws.drop 1) A2 (ws.length-1) (cap-1) EZ.out (fun x hx=>Jr.out x (List.mem_of_mem_drop hx)) (by rw[List.length_drop];omega) W1.heap.size W zw.out.up h
 revert Si hn2 Sh Sg QY EZ ie
 exact QAA.o):G:=h ⟨k⟩
theorem QBA {G H:Prop} (k:H) (h:QAB H->G:=by
 intro QAA
 refine aK fun W1 aE=>?_
 obtain⟨cz,de,cN,cY,dc,dX⟩:=Cm B w aE
 have b1:Hid (av W1 w.heap.size 39 (aF r t)):=by rw[aE.out];exact qh ((av.new rfl).alloc _)
 have b2:Hid (av W1 (w.heap.size+1) 39 (aF cV cL)):=by rw[aE.out];exact qh (av.new nV)
 revert W1 aE cz de cN cY dc dX b1 b2
 exact QAA.o):G:=h ⟨k⟩
theorem QBB {G H:Prop} (k:H) (h:QAB H->G:=by
 intro QAA
 unfold wpOp
 show if Region.wanted _ _=true then _ else _
 rw[if_pos nY]
 left
 exact QAA.o):G:=h ⟨k⟩
theorem QBC {G H:Prop} (k:H) (h:QAB H->G:=by
 intro QAA
 have ib1:Lt bb W1:=⟨nL gH cz.out⟩
 have Ar:=qh gH
 have nb1:pI bb g:=⟨by have:=hB.out;have:=gg.out;omega⟩
 have nb2:pI g bb:=⟨by have:=hB.out;have:=gg.out;omega⟩
 revert ib1 Ar nb1 nb2
 exact QAA.o):G:=h ⟨k⟩
theorem QBD {G H:Prop} (k:H) (h:QAB H->G:=by
 intro QAA
 have H3:Hid (bZ X B D W3 k d ms):=qh H2.out.up
 have F3:Hid (Fr B jc w W3):=qh (F2.out.trans (by have:=H2.out.le;exact Fr.fK))
 have e03:W3.cell? ⟨b,o,none⟩=some (.string (str t0)):=(bz a3.out _ _ ib2.out).trans e02
 have ib3:Lt b W3:=⟨nL ib2.out a4.out⟩
 revert H3 F3 e03 ib3
 exact QAA.o):G:=h ⟨k⟩
theorem QBE {G H:Prop} (k:H) (h:QAB H->G:=by
 intro QAA
 refine aK fun W3 bN=>?_
 have i1:mw B g:=⟨nT hB.out (by have:=gg.out;omega)⟩
 have i2:mw w.heap.size g:=⟨by have:=gg.out;omega⟩
 have i3:mw B W1.heap.size:=⟨nT hB.out nQ⟩
 have i4:mw w.heap.size W1.heap.size:=⟨nQ⟩
 have q7:aC B w W3:=iC bN
 have q8:aC w.heap.size w W3:=iC bN
 have q9:Le B W3:=fR bN
 have vD:Le w.heap.size W3:=fR bN
 revert W3 bN i1 i2 i3 i4 q7 q8 q9 vD
 exact QAA.o):G:=h ⟨k⟩
theorem QBF {G H:Prop} (k:H) (h:QAB H->G:=by
 intro QAA
 have yQ:Hid (∀W:nJ,aC W1.heap.size W1 W->Le W1.heap.size W->Le 8 W->cX W->Calls nH 68 #[.slice A ws.length cap] W (qd ws W)):=qh fun W i1 i2 i3 h=>CV ws A cap hw0 Jr.out hwn W1.heap.size W me.out.up h
 revert yQ
 exact QAA.o):G:=h ⟨k⟩
theorem QBG {G H:Prop} (k:H) (h:QAB H->G:=by
 intro QAA
 refine gI 5 (.int .i64 x0) rfl nP (Or.inl ⟨nY,by intro w5 h5;have e:=EL.out w5 h5.2;go_simp⟩) (⟨E0.out,G0⟩) ?_
 exact QAA.o):G:=h ⟨k⟩
theorem QBH {G H:Prop} (k:H) (h:QAB H->G:=by
 intro QAA
 have A3:Hid (av W3 w.heap.size 39 (aF r t)):=by rw[bN.out];exact qh (A4.out.eZ (by have:=gg.out;show w.heap.size≠g;omega) _)
 have Z3:Hid (av W3 (w.heap.size+1+1) 39 (aF cV cL)):=by rw[bN.out];exact qh (Z4.out.eZ (by have:=gg.out;show w.heap.size+1+1≠g;omega) _)
 revert A3 Z3
 exact QAA.o):G:=h ⟨k⟩
theorem QBI {G H:Prop} (k:H) (h:QAB H->G:=by
 intro QAA
 have i8:aC w.heap.size w wr:=⟨⟨i1.out.1.trans cY.out.1,i1.out.2.1.trans cY.out.2.1,i1.out.2.2.1.trans cY.out.2.2.1,fun b hb=>(i1.out.2.2.2 b (nL hb cN.out)).trans (cY.out.2.2.2 b hb)⟩⟩
 have i9:Le w.heap.size wr:=⟨nT cN.out i2.out⟩
 revert i8 i9
 exact QAA.o):G:=h ⟨k⟩
theorem QBJ {G H:Prop} (k:H) (h:QAB H->G:=by
 intro QAA
 have i5:Le B wr:=⟨nT cz.out i2.out⟩
 have i6:aC B w wr:=⟨⟨i1.out.1.trans de.out.1,i1.out.2.1.trans de.out.2.1,i1.out.2.2.1.trans de.out.2.2.1,fun b hb=>(i1.out.2.2.2 b (nL hb cz.out)).trans (de.out.2.2.2 b hb)⟩⟩
 have i7:aC B W1 wr:=⟨⟨i1.out.1,i1.out.2.1,i1.out.2.2.1,fun b hb=>i1.out.2.2.2 b (nL hb cz.out)⟩⟩
 have HO:=qh hown
 have HS:=qh hsub
 revert i5 i6 i7 HO HS
 exact QAA.o):G:=h ⟨k⟩
theorem QBK {G H:Prop} (k:H) (h:QAB H->G:=by
 intro QAA
 refine aK fun W3 bN=>?_
 have i1:mw B g:=⟨nT hB.out (by have:=gg.out;omega)⟩
 have i2:mw w.heap.size g:=⟨by have:=gg.out;omega⟩
 have q7:aC B w W3:=iC bN
 have q8:aC w.heap.size w W3:=iC bN
 have q9:Le B W3:=fR bN
 have vD:Le w.heap.size W3:=fR bN
 revert W3 bN i1 i2 q7 q8 q9 vD
 exact QAA.o):G:=h ⟨k⟩
theorem QBL {G H:Prop} (k:H) (h:QAB H->G:=by
 intro QAA
 have E9:Hid (av W9 g 53 (bX kk d)):=qh HE.out.eA
 have l9:Le wr.heap.size W9:=cK k9
 have f1:aC w.heap.size w W9:=⟨⟨g9.out.1.trans i1.out.1,g9.out.2.1.trans i1.out.2.1,g9.out.2.2.1.trans i1.out.2.2.1,fun b hb=>(g9.out.2.2.2 b (nL hb a2.out)).trans (i1.out.2.2.2 b hb)⟩⟩
 have f3:Le w.heap.size W9:=⟨nT a2.out l9.out⟩
 have f4:aC B w W9:=⟨⟨f1.out.1,f1.out.2.1,f1.out.2.2.1,fun b hb=>f1.out.2.2.2 b (nL hb hB.out)⟩⟩
 have f5:Le B W9:=⟨nT hB.out f3.out⟩
 have f6:Le W9.heap.size W9:=⟨nR _⟩
 have EK:Hid (Calls nH 13 #[aX k'.ax xd.ax] W9 fun e w'=>e=.returned (.bool (zu xd.ax))/\∃δ,w'=af W9 δ):=qh (Om k'.ax xd.ax W9.heap.size W9 (To9.out.is H.out))
 have C9:=qh C9
 revert E9 l9 f1 f3 f4 f5 f6 EK C9
 exact QAA.o):G:=h ⟨k⟩
theorem QBM {G H:Prop} (k:H) (h:QAB H->G:=by
 intro QAA
 refine aK fun W3 bN=>?_
 have q8:aC w.heap.size w W3:=iC bN
 have vD:Le w.heap.size W3:=fR bN
 revert W3 bN q8 vD
 exact QAA.o):G:=h ⟨k⟩
theorem QBN {G H:Prop} (k:H) (h:QAB H->G:=by
 intro QAA
 have hcell:∀b o,b<W1.heap.size->wr.cell? ⟨b,o,none⟩=W1.cell? ⟨b,o,none⟩:=bz i1.out
 have i3:Lt w.heap.size wr:=⟨nL dc.out i2.out⟩
 revert hcell i3
 exact QAA.o):G:=h ⟨k⟩
theorem QBO {G H:Prop} (k:H) (h:QAB H->G:=by
 intro QAA
 have d1:W1.cell? ⟨bb,oo+1,none⟩=some (.int .i64 (nth a 1)):=(HS.out.up (w':=W1)).jS (k:=1) xV.out
 obtain⟨x1,hx1⟩:∃x,nth a 1=x:=⟨_,rfl⟩
 revert d1 x1 hx1
 exact QAA.o):G:=h ⟨k⟩
theorem QBP {G H:Prop} (k:H) (h:QAB H->G:=by
 intro QAA
 have EL:Hid (∀W:nJ,aC w.heap.size w W->W.cell? ⟨bb,oo,none⟩=some (.int .i64 x0)):=qh fun W i=>((HS.out.up (w':=W)).jS (k:=0) hk0.out).trans (by rw[hx0])
 have EZ:Hid (∀W:nJ,aC w.heap.size w W->W.cell? ⟨bb,oo+1,none⟩=some (.int .i64 x1)):=qh fun W i=>((HS.out.up (w':=W)).jS (k:=1) xV.out).trans (by rw[hx1])
 revert EL EZ
 exact QAA.o):G:=h ⟨k⟩
theorem QBQ {G H:Prop} (k:H) (h:QAB H->G:=by
 intro QAA
 have Si:1<=ws.length:=h0
 have hn2:(1:Int)<=(ws.length:Int):=nQ
 have Sh:(0:Int)<(ws.length:Int):=nQ
 have Sg:(1:Int)<=(cap:Int):=nQ
 have QY:(ws.length:Int)<=(cap:Int):=nQ
 have HD:Hid ((ws.drop 1).length=ws.length-1):=qh (List.length_drop ..)
 have SG:Hid (∀x∈ws.drop 1,x.length<=1000):=qh fun x hx=>mG.out x (List.mem_of_mem_drop hx)
 have X7:Hid ((ws.drop 1).length<=1001):=qh (by rw[List.length_drop];omega)
 have ie:Hid (∀W:nJ,aC B w W->Le B W->Le 8 W->cX W->Calls nH 69 #[.slice A2 (ws.length-1) (cap-1)] W (nj (cS (ws.drop 1)) W)):=qh fun W i1 i2 i3 h=>z8 (ws.drop 1) A2 (ws.length-1) (cap-1) HD.out SG.out X7.out B W zw.out.up h
 revert Si hn2 Sh Sg QY HD SG X7 ie
 exact QAA.o):G:=h ⟨k⟩
theorem QBR {G H:Prop} (k:H) (h:QAB H->G:=by
 intro QAA
 have g1:W1.heap.size<=(af W1 δ1).heap.size:=(inferInstance:Le W1.heap.size (af W1 δ1)).out
 have g2:B<=(af W1 δ1).heap.size:=nT cz.out g1
 have q1:aC w.heap.size w W2:=bP k2 (nT cN.out g1)
 have q2:Le w.heap.size W2:=cK k2
 have q3:Le B W2:=cK k2
 have A2:Hid (av W2 w.heap.size 39 (aF r t)):=qh (((A1.out.af _).alloc _).eG k2 (Nat.ne_of_lt (nL dc.out g1)))
 have R2:Hid (av W2 (w.heap.size+1) 39 (aF cV cL)):=qh (((R1.out.af _).alloc _).eG k2 (Nat.ne_of_lt (nL dX.out g1)))
 have M2:Hid (aP B W2 r t):=qh ((M1.out.up (W:=(af W1 δ1).alloc _)).aO k2 (av.new rfl) nU g2 (by simpa using Nat.le_succ_of_le g2))
 revert g1 g2 q1 q2 q3 A2 R2 M2
 exact QAA.o):G:=h ⟨k⟩
theorem QBS {G H:Prop} (k:H) (h:QAB H->G:=by
 intro QAA
 have EL:Hid (∀W:nJ,aC B w W->W.cell? ⟨bb,oo,none⟩=some (.int .i64 x0)):=qh fun W i=>((HS.out.up (w':=W)).jS (k:=0) hk0.out).trans (by rw[hx0])
 have EZ:Hid (∀W:nJ,aC B w W->W.cell? ⟨bb,oo+1,none⟩=some (.int .i64 x1)):=qh fun W i=>((HS.out.up (w':=W)).jS (k:=1) xV.out).trans (by rw[hx1])
 revert EL EZ
 exact QAA.o):G:=h ⟨k⟩
theorem QBT {G H:Prop} (k:H) (h:QAB H->G:=by
 intro QAA
 refine gI 8 (.int .i64 x1) rfl nP (Or.inl ⟨nY,by intro w5 h5;have e:=EZ.out w5 h5.2;go_simp⟩) (⟨E0.out,G0⟩) ?_
 exact QAA.o):G:=h ⟨k⟩
theorem QBU {G H:Prop} (k:H) (h:QAB H->G:=by
 intro QAA
 have R3:Hid (av W3 (w.heap.size+1) 39 (aF cV cL)):=by rw[bN.out];exact qh ((R1.out.drew.af _).eZ (by show w.heap.size+1≠w.heap.size;omega) _)
 revert R3
 exact QAA.o):G:=h ⟨k⟩
theorem QBV {G H:Prop} (k:H) (h:QAB H->G:=by
 intro QAA
 obtain⟨g,hg⟩:∃g,(af W2 δ5).heap.size=g:=⟨_,rfl⟩
 rw[hg]
 refine aK fun W3 bN=>?_
 have a3:aC W2.heap.size W2 W3:=iC bN
 have a4:Le W2.heap.size W3:=fR bN
 revert g hg W3 bN a3 a4
 exact QAA.o):G:=h ⟨k⟩
theorem QBW {G H:Prop} (k:H) (h:QAB H->G:=by
 intro QAA
 have PG:Hid (∀i∈Sa.lY l (k:Int),i<h.parts.length):=qh fun i hi=>by have:=(Sa.Jd.1 hi).1;have:=HL.out;omega
 have PI:Hid ((Sa.lY l (k:Int)).length<=6):=qh (nT (Sa.By l _) LU)
 have mG:Hid ((Bz l (k:Int)).length=(Sa.lY l (k:Int)).length):=by unfold Hid Bz;rw[List.length_map]
 revert PG PI mG
 exact QAA.o):G:=h ⟨k⟩
theorem QBX {G H:Prop} (k:H) (h:QAB H->G:=by
 intro QAA
 refine fu (ps:=[]) (cells:=#[.int .i64 0,.string ⟨#[]⟩,.nilFunc,.nilFunc]) rfl _ _ rfl rfl Gk ?_
 refine ah (cs':=#[.int .i64 0,.string ⟨#[]⟩,.nilFunc,.nilFunc]) wZ rfl _ _ rfl rfl rfl O5.out rfl rfl (by simp[Value.oneCell']) ?_
 exact QAA.o):G:=h ⟨k⟩
theorem QBY {G H:Prop} (k:H) (h:QAB H->G:=by
 intro QAA
 refine wpQuiet_nil ?_
 exact QAA.o):G:=h ⟨k⟩
theorem QBZ {G H:Prop} (k:H) (h:QAB H->G:=by
 intro QAA
 have E9:Hid (av W9 g 53 (bX kk d)):=qh HE.out.eA
 have R9:Hid (av W9 (w.heap.size+1) 39 (aF cV cL)):=qh HR.out.eA
 have A9:Hid (W9.ownsRow W2.heap.size 9 1 (.slice Aa j ca) j (a.flatMap cm)):=qh (aT HA.out)
 have l9:Le wr.heap.size W9:=cK k9
 have f1:aC w.heap.size w W9:=⟨⟨g9.out.1.trans i1.out.1,g9.out.2.1.trans i1.out.2.1,g9.out.2.2.1.trans i1.out.2.2.1,fun b hb=>(g9.out.2.2.2 b (nL hb a2.out)).trans (i1.out.2.2.2 b hb)⟩⟩
 have f2:Le W2.heap.size W9:=⟨nT i2.out l9.out⟩
 have f3:Le w.heap.size W9:=⟨nT a2.out l9.out⟩
 have C9:=qh C9
 revert E9 R9 A9 l9 f1 f2 f3 C9
 exact QAA.o):G:=h ⟨k⟩
theorem QCA {G H:Prop} (k:H) (h:QAB H->G:=by
 intro QAA
 have HN:Hid (gZ t _=none):=qh ((qa HE.out).trans (if_neg (by rw[ke];decide)))
 revert HN
 exact QAA.o):G:=h ⟨k⟩
theorem QCB {G H:Prop} (k:H) (h:QAB H->G:=by
 intro QAA
 have b2:av W1 (w.heap.size+1) 159 #[.int .i64 2,.string (str tx),.slice A a.length cap]:=by rw[aE.out];exact av.new nV
 revert b2
 exact QAA.o):G:=h ⟨k⟩
theorem QCC {G H:Prop} (k:H) (h:QAB H->G:=by
 intro QAA
 have V1:=qh v1
 have V2:=qh v2
 have V3:=qh v3
 have H:=qh hT
 revert V1 V2 V3 H
 exact QAA.o):G:=h ⟨k⟩
theorem QCD {G H:Prop} (k:H) (h:QAB H->G:=by
 intro QAA
 have oM:Hid (bS B W1 ⟨kA,kc,pA,pc,bA,bc⟩ h):=qh HH.out.up
 revert oM
 exact QAA.o):G:=h ⟨k⟩
theorem QCE {G H:Prop} (k:H) (h:QAB H->G:=by
 intro QAA
 have RJ:=me
 have hcap:ws.length<=cap:=me.out.1
 have e0:W1.cell? ⟨b,o,none⟩=some (.string (str (nth ws 0))):=e0
 have ib:Lt b W1:=⟨hb⟩
 obtain⟨A2,uo⟩:∃A2,(if cap=1 then some (⟨b,o,none⟩:Addr) else some ⟨b,o+1,none⟩)=A2:=⟨_,rfl⟩
 revert RJ hcap e0 ib A2 uo
 exact QAA.o):G:=h ⟨k⟩
theorem QCF {G H:Prop} (k:H) (h:QAB H->G:=by
 intro QAA
 have a1:aC W1.heap.size W1 W2:=bP k2 (inferInstance:Le W1.heap.size (af (af (af W1 δ2) δ3) δ4)).out
 have a2:Le W1.heap.size W2:=cK k2
 have a3:Le B W2:=cK k2
 have a4:Le 8 W2:=⟨nT h8 a3.out⟩
 have H2:Hid (bZ X B D W2 k d ms):=qh H1.out.up
 have F2:Hid (Fr B jc w W2):=qh (F1.out.trans (by have:=H1.out.le;exact Fr.fK))
 have d14:W2.cell? ⟨D,14,none⟩=some (.slice k.oA d.aB.length k.oc):=H2.out.dY.box.cell rfl
 have lD2:=H2.out.dY.box.lt
 revert a1 a2 a3 a4 H2 F2 d14 lD2
 exact QAA.o):G:=h ⟨k⟩
theorem QCG {G H:Prop} (k:H) (h:QAB H->G:=by
 intro QAA
 have Rs:W1.cell? ⟨w.heap.size+1+1,2,none⟩=some (.slice none 0 0):=by rw[aE.out];go_simp
 have fw38:W1.frozen? ⟨w.heap.size+1+1,2,none⟩=false:=by rw[aE.out];go_simp
 have s1:Sl fX B W1 r.gA r.gc n.au:=h.1.up
 have hlen:=s1.len
 revert Rs fw38 s1 hlen
 exact QAA.o):G:=h ⟨k⟩
theorem QCH {G H:Prop} (k:H) (h:QAB H->G:=by
 intro QAA
 have A3:Hid (av W3 w.heap.size 39 (aF r t)):=by rw[bN.out];exact qh ((av.eZ (av.eZ (A2.out.drew) (by have:=gg.out;show w.heap.size≠g;omega) _) (by have:=gg.out;show w.heap.size≠g;omega) _))
 have Z3:Hid (av W3 (w.heap.size+1+1) 39 (aF cV cL)):=by rw[bN.out];exact qh ((av.eZ (av.eZ (Z2.out.drew) (by have:=gg.out;show w.heap.size+1+1≠g;omega) _) (by have:=gg.out;show w.heap.size+1+1≠g;omega) _))
 revert A3 Z3
 exact QAA.o):G:=h ⟨k⟩
theorem QCI {G H:Prop} (k:H) (h:QAB H->G:=by
 intro QAA
 refine gJ 1 ((.func (.func 131) #[] #[.pointer (some ⟨m.gq,0,none⟩),.pointer (some ⟨m.gs,0,none⟩),.pointer (some ⟨m.gn,0,none⟩)])) rfl nP (Or.inl ⟨nY,by intro w5 h5;have e:=(av.eA (hg:=h5) O2.out).cell (i:=2) (v:=(.func (.func 131) #[] #[.pointer (some ⟨m.gq,0,none⟩),.pointer (some ⟨m.gs,0,none⟩),.pointer (some ⟨m.gn,0,none⟩)])) rfl;go_simp⟩) (inferInstance) ?_
 exact QAA.o):G:=h ⟨k⟩
theorem QCJ {G H:Prop} (k:H) (h:QAB H->G:=by
 intro QAA
 refine aK fun W1 aE=>?_
 obtain⟨cz,de,cN,cY,dc,dX⟩:=Cm B w aE
 have lH:W1.cell? ⟨w.heap.size+1,0,none⟩=some (.slice kA h.kinds.length kc):=by rw[aE.out];go_simp
 have jU:W1.cell? ⟨w.heap.size+1,1,none⟩=some (.int .i64 h.floor):=by rw[aE.out];go_simp
 have kM:W1.cell? ⟨w.heap.size+1,2,none⟩=some (.slice pA h.parts.length pc):=by rw[aE.out];go_simp
 have iY:W1.cell? ⟨w.heap.size+1,3,none⟩=some (.slice bA h.bars.length bc):=by rw[aE.out];go_simp
 revert W1 aE cz de cN cY dc dX lH jU kM iY
 exact QAA.o):G:=h ⟨k⟩
theorem QCK {G H:Prop} (k:H) (h:QAB H->G:=by
 intro QAA
 refine aK fun W1 aE=>?_
 obtain⟨cz,de,cN,cY,dc,dX⟩:=Cm B w aE
 have lH:W1.cell? ⟨w.heap.size,0,none⟩=some (.slice kA h.kinds.length kc):=by rw[aE.out];go_simp
 have jU:W1.cell? ⟨w.heap.size,1,none⟩=some (.int .i64 h.floor):=by rw[aE.out];go_simp
 have kM:W1.cell? ⟨w.heap.size,2,none⟩=some (.slice pA h.parts.length pc):=by rw[aE.out];go_simp
 have iY:W1.cell? ⟨w.heap.size,3,none⟩=some (.slice bA h.bars.length bc):=by rw[aE.out];go_simp
 revert W1 aE cz de cN cY dc dX lH jU kM iY
 exact QAA.o):G:=h ⟨k⟩
theorem QCL {G H:Prop} (k:H) (h:QAB H->G:=by
 intro QAA
 have ib:Lt bb W2:=⟨nL gH q3.out⟩
 obtain⟨x0,hx0⟩:∃x,nth a 0=x:=⟨_,rfl⟩
 revert ib x0 hx0
 exact QAA.o):G:=h ⟨k⟩
theorem QCM {G H:Prop} (k:H) (h:QAB H->G:=by
 intro QAA
 refine aK fun W1 aE=>?_
 obtain⟨cz,de,cN,cY,dc⟩:=yj B w aE
 have rX:W1.cell? ⟨w.heap.size,0,none⟩=some (.int .i64 n.aN.lo):=by rw[aE.out];go_simp
 have lH:W1.cell? ⟨w.heap.size,1,none⟩=some (.int .i64 n.aN.hi):=by rw[aE.out];go_simp
 have jU:W1.cell? ⟨w.heap.size,2,none⟩=some (.int .i64 n.cur.lo):=by rw[aE.out];go_simp
 have kM:W1.cell? ⟨w.heap.size,3,none⟩=some (.int .i64 n.cur.hi):=by rw[aE.out];go_simp
 revert W1 aE cz de cN cY dc rX lH jU kM
 exact QAA.o):G:=h ⟨k⟩
theorem QCN {G H:Prop} (k:H) (h:QAB H->G:=by
 intro QAA
 refine aK fun W2 eu=>?_
 have a1:aC W1.heap.size W1 W2:=iC eu
 have a2:Le W1.heap.size W2:=fR eu
 revert W2 eu a1 a2
 exact QAA.o):G:=h ⟨k⟩
theorem QCO {G H:Prop} (k:H) (h:QAB H->G:=by
 intro QAA
 have p1:aC w.heap.size w W9:=bP k9 (nR _)
 have p2:Le w.heap.size W9:=cK k9
 revert p1 p2
 exact QAA.o):G:=h ⟨k⟩
theorem QCP {G H:Prop} (k:H) (h:QAB H->G:=by
 intro QAA
 have j1:¬(b.toNat:Int)<48:=nQ
 have j2:¬(57:Int)<(b.toNat:Int):=nQ
 have u1:IntKind.u8.wrap ((b.toNat:Int)-48)=((b.toNat-48:Nat):Int):=by rw[IntWalk.u8_in _ nQ];omega
 obtain⟨d,Py⟩:∃d,b.toNat-48=d:=⟨_,rfl⟩
 revert j1 j2 u1 d Py
 exact QAA.o):G:=h ⟨k⟩
theorem QCQ {G H:Prop} (k:H) (h:QAB H->G:=by
 intro QAA
 have g1:W1.heap.size<=(af W1 δ1).heap.size:=(inferInstance:Le W1.heap.size (af W1 δ1)).out
 have q3:aC w.heap.size w W2:=bP k2 (nT cN.out g1)
 have q4:Le w.heap.size W2:=cK k2
 have R2:Hid (av W2 (w.heap.size+1) 39 (aF cV cL)):=qh (((b2.out.af _).alloc _).eG k2 (Nat.ne_of_lt (nL dX.out g1)))
 have gw:Hid (w.heap.size+1<(af W1 δ1).heap.size):=qh (nL dX.out g1)
 revert g1 q3 q4 R2 gw
 exact QAA.o):G:=h ⟨k⟩
theorem QCR {G H:Prop} (k:H) (h:QAB H->G:=by
 intro QAA
 have ri:Hid (∀(k:cH) (W:nJ),aI W.heap.size W k.ax d.ax->Le W.heap.size W->dG W k.oA k.oc d.aB->Calls nH 14 #[gr k d,.string (str lj)] W (eF k d W (kS d lj))):=qh fun k W h1 h2 h3=>Qb k d lj gG HJ.out.valid HJ.out.aB HJ.out.Bk (nT HJ.out.given nQ) W.heap.size W h1 h3
 obtain⟨xd,xt,hx⟩:∃a b,kS d lj=(a,b):=⟨_,_,rfl⟩
 revert ri xd xt hx
 exact QAA.o):G:=h ⟨k⟩
theorem QCS {G H:Prop} (k:H) (h:QAB H->G:=by
 intro QAA
 unfold Hid
 rw[ht.out,List.all_append,hn.out]
 exact QAA.o):G:=h ⟨k⟩
theorem QCT {G H:Prop} (k:H) (h:QAB H->G:=by
 intro QAA
 have hj:=HI.out _ (aS is hlt)
 have HN:Hid (Sa.eX h (is.take (k+1))=Sa.mT h (Sa.eX h (is.take k)) (nth h.parts (nth is k))):=by unfold Hid;rw[bu is hlt,Sa.p5]
 revert hj HN
 exact QAA.o):G:=h ⟨k⟩
theorem QCU {G H:Prop} (k:H) (h:QAB H->G:=by
 intro QAA
 have ie:Hid (∀W:nJ,aC W1.heap.size W1 W->Le W1.heap.size W->Le 8 W->cX W->Calls nH 69 #[.slice A2 (ws.length-1) (cap-1)] W fun e w'=>∃(A:Option Addr) (c:Nat) (δ:nJ),e=.returned (.tuple #[.slice A 1 c,.bool true])/\w'=af W δ/\fm 3 aH (af W δ).heap.size (af W δ) A c [x]):=ie
 obtain⟨t0,ht0⟩:∃x,nth ws 0=x:=⟨_,rfl⟩
 revert ie t0 ht0
 exact QAA.o):G:=h ⟨k⟩
theorem QCV {G H:Prop} (k:H) (h:QAB H->G:=by
 intro QAA
 have E10:=qh E10
 have To10:=qh (To9.out.aO Cl E9.out nU)
 have O10:=qh (O9.out.aO Cl E9.out nU (nR _))
 have qw:=qh (ct A9.out Cl E9.out nU)
 have R10:=qh (R9.out.eG Cl (by have:=gw.out;omega))
 have n1:aC w.heap.size w W10:=bP Cl (by have:=gw.out;omega)
 have n2:Le W2.heap.size W10:=cK Cl
 have n3:Le w.heap.size W10:=cK Cl
 revert E10 To10 O10 qw R10 n1 n2 n3
 exact QAA.o):G:=h ⟨k⟩
theorem QCW {G H:Prop} (k:H) (h:QAB H->G:=by
 intro QAA
 have ib:Lt b W1:=⟨nL hb cz.out⟩
 have ib':Lt b' W1:=⟨nL hb' cz.out⟩
 revert ib ib'
 exact QAA.o):G:=h ⟨k⟩
theorem QCX {G H:Prop} (k:H) (h:QAB H->G:=by
 intro QAA
 have To9:Hid (cC r t w k'.ax xd.ax W9):=qh ((((LZ.out.up (W':=(wr.alloc _).drew)).trans Cg.out (nT a2.out (by show wr.heap.size<=(wr.alloc _).heap.size;simp)))).aO k9 (((av.new rfl).drew).af _) nU)
 have O9:Hid (dG W9 k'.oA k'.oc xd.aB):=qh (AL.out.aO k9 (((av.new rfl).drew).af _) nU (nR _))
 revert To9 O9
 exact QAA.o):G:=h ⟨k⟩
theorem QCY {G H:Prop} (k:H) (h:QAB H->G:=by
 intro QAA
 have I3:Hid (aI W3.heap.size W3 (r3) (t3)):=qh O3.out.is
 have lE:Le W3.heap.size W3:=⟨nR _⟩
 revert I3 lE
 exact QAA.o):G:=h ⟨k⟩
theorem QCZ {G H:Prop} (k:H) (h:QAB H->G:=by
 intro QAA
 have HE:Hid (jF t ⟨.eK,a⟩=some ⟨t.aD,qJ t.ai (nth (Me.fQ t.ai) 0).toNat,t.aa⟩):=by unfold Hid;rw[HE.out,if_neg hx]
 have ho:=Me.gT (Me.az.1 V2.out).2.2.2.2.2
 have hol:(Me.fQ t.ai).length=t.ai.hs.length:=Me.iV ho
 have h0:=(Me.wC ho).1 (aS (Me.fQ t.ai) (k:=0) nQ)
 revert HE ho hol h0
 exact QAA.o):G:=h ⟨k⟩
theorem QDA {G H:Prop} (k:H) (h:QAB H->G:=by
 intro QAA
 refine aK fun W1 aE=>?_
 obtain⟨cz,de,cN,cY,dc,dX⟩:=Cm B w aE
 have lH:W1.cell? ⟨w.heap.size,0,none⟩=some (.int .i64 n.m):=by rw[aE.out];go_simp
 have jU:W1.cell? ⟨w.heap.size,1,none⟩=some (.slice r.hA n.hs.length r.hc):=by rw[aE.out];go_simp
 have kM:W1.cell? ⟨w.heap.size,2,none⟩=some (.slice r.pA n.ps.length r.pc):=by rw[aE.out];go_simp
 revert W1 aE cz de cN cY dc dX lH jU kM
 exact QAA.o):G:=h ⟨k⟩
theorem QDB {G H:Prop} (k:H) (h:QAB H->G:=by
 intro QAA
 refine dQ bQ Tryz.results34 rfl C9 rfl ?_
 exact QAA.o):G:=h ⟨k⟩
theorem QDC {G H:Prop} (k:H) (h:QAB H->G:=by
 intro QAA
 have GN:(W.putObj (D+1) (.loop { rec .ready none with state:=.busy })).heap[D+1]?=some (.loop { rec .ready none with state:=.busy }):=World.putObj_heap_same hlt
 have hk2:(W.putObj (D+1) (.loop { rec .ready none with state:=.busy })).heap[D]?=some (.deferred (some [])):=(World.putObj_heap_other nQ).trans k3
 revert GN hk2
 exact QAA.o):G:=h ⟨k⟩
theorem QDD {G H:Prop} (k:H) (h:QAB H->G:=by
 intro QAA
 have W2':=qh eu
 have HF:=qh Rb
 have HB:=qh bN
 have HU:=qh hu
 have HI:=qh Q8
 have HT:=qh hts
 have WX:=qh wI
 have f1:¬k+1=i:=nQ
 have f2:(i:Int)<=(i:Int)+1:=nQ
 have f3:(i:Int)+1<=(k:Int)+1:=nQ
 have f4:(k:Int)+1<=(c:Int):=nQ
 have f5:(0:Int)<=(i:Int)+1:=nQ
 have f6:((i:Int)==(i:Int)+1)=false:=by simp;omega
 have f7:(i:Int)<=(c:Int):=nQ
 have f8:¬c=k:=nQ
 have f9:(k:Int)<=(k:Int)+1:=nQ
 revert W2' HF HB HU HI HT WX f1 f2 f3 f4 f5 f6 f7 f8 f9
 exact QAA.o):G:=h ⟨k⟩
theorem QDE {G H:Prop} (k:H) (h:QAB H->G:=by
 intro QAA
 have ib:=hq.lt
 have b0:w.cell? ⟨q,0,none⟩=some (.slice kA h.kinds.length kc):=hq.cell rfl
 have b1:w.cell? ⟨q,1,none⟩=some (.int .i64 h.floor):=hq.cell rfl
 have b2:w.cell? ⟨q,2,none⟩=some (.slice pA h.parts.length pc):=hq.cell rfl
 have b3:w.cell? ⟨q,3,none⟩=some (.slice bA h.bars.length bc):=hq.cell rfl
 revert ib b0 b1 b2 b3
 exact QAA.o):G:=h ⟨k⟩
theorem QDF {G H:Prop} (k:H) (h:QAB H->G:=by
 intro QAA
 show w'.ownsRow _ _ _ (.slice A' (List.length _) c') _ _
 rw[List.length_append,List.flatMap_append]
 exact QAA.o):G:=h ⟨k⟩
theorem QDG {G H:Prop} (k:H) (h:QAB H->G:=by
 intro QAA
 have VS:m<=3:=nQ
 have qM:1<=m:=nQ
 have HM:=qh hmm
 have eV:cD r n=Value.agg #[.int .i64 (m:Int),.slice r.hA n.hs.length r.hc,.slice r.pA n.ps.length r.pc]:=by unfold cD;rw[hmm]
 rw[eV]
 have hmk:=run_mk uC m nQ nQ
 have TP:=run_mk uC n.hs.length nQ nQ
 have HS:=qh hS
 have HN:=qh hN
 have HV:=qh hv
 have WM:=qh Xr
 have HL:=qh hl
 have hlc:=hS.1
 revert VS qM HM eV hmk TP HS HN HV WM HL hlc
 exact QAA.o):G:=h ⟨k⟩
theorem QDH {G H:Prop} (k:H) (h:QAB H->G:=by
 intro QAA
 have jx:=HX.out.lt
 have jz:=HZ.out.lt
 have j0:Lt w.heap.size wr:=⟨nL dc.out i3.out⟩
 have j6:Le w.heap.size wr:=⟨nS j0.out⟩
 have j7:Le (w.heap.size+1) wr:=⟨j0.out⟩
 have i4:Le B wr:=⟨nT cz.out i3.out⟩
 have i5:aC B w wr:=⟨⟨i1.out.1,i1.out.2.1,i1.out.2.2.1,fun b hb=>i1.out.2.2.2 b (nL hb hB.out)⟩⟩
 revert jx jz j0 j6 j7 i4 i5
 exact QAA.o):G:=h ⟨k⟩
theorem QDI {G H:Prop} (k:H) (h:QAB H->G:=by
 intro QAA
 have hb':Lt b' w:=⟨nL hb hB.out⟩
 have hm:=qh (aS xs hlt)
 have ht:=qh (bu xs hlt)
 revert hb' hm ht
 exact QAA.o):G:=h ⟨k⟩
theorem QDJ {G H:Prop} (k:H) (h:QAB H->G:=by
 intro QAA
 have To9:Hid (cC r t w k'.ax xd.ax W9):=qh ((((LZ.out.up (W':=wr.drew)).trans Cg.out a2.out).up (W':=(af wr.drew δ5).alloc _)).aO k9 (av.new rfl) nU)
 have O9:Hid (dG W9 k'.oA k'.oc xd.aB):=qh ((AL.out.up (w':=(af wr.drew δ5).alloc _)).aO k9 (av.new rfl) nU nV)
 revert To9 O9
 exact QAA.o):G:=h ⟨k⟩
theorem QDK {G H:Prop} (k:H) (h:QAB H->G:=by
 intro QAA
 rw[<-aq (w:=w)]
 exact QAA.o):G:=h ⟨k⟩
theorem QDL {G H:Prop} (k:H) (h:QAB H->G:=by
 intro QAA
 have vn:W1.cell? ⟨w.heap.size+1,0,none⟩=some (.int .i64 t.aN):=by rw[aE.out];go_simp
 have vm:W1.cell? ⟨w.heap.size+1,1,none⟩=some (.int .i64 t.cur):=by rw[aE.out];go_simp
 have yz:W1.cell? ⟨w.heap.size+1,2,none⟩=some (.slice rt.tA t.au.length rt.tc):=by rw[aE.out];go_simp
 revert vn vm yz
 exact QAA.o):G:=h ⟨k⟩
theorem QDM {G H:Prop} (k:H) (h:QAB H->G:=by
 intro QAA
 have HN:Hid (gZ t _=some (t3)):=qh ((qa HE.out).trans (if_pos ke))
 revert HN
 exact QAA.o):G:=h ⟨k⟩
theorem QDN {G H:Prop} (k:H) (h:QAB H->G:=by
 intro QAA
 have A1:Hid (av W1 w.heap.size 39 (aF r t)):=by rw[aE.out];exact qh (av.new rfl)
 revert A1
 exact QAA.o):G:=h ⟨k⟩
theorem QDO {G H:Prop} (k:H) (h:QAB H->G:=by
 intro QAA
 refine aK fun W2 eu=>?_
 have GH:Le B W2:=fR eu
 have Jc:aC B W1 W2:=iC eu
 obtain⟨sJ,uX,uW,tZ⟩:=He 8 W1 eu
 have tY:Lt (D) W2:=mb eu
 have H2:Hid (bZ X B D W2 k d ms):=qh H1.out.up
 have pJ:Hid (cX W2):=qh qv.out.up
 have F2:Hid (Fr B jc w W2):=qh (F1.out.trans (by have:=H1.out.le;exact Fr.fK))
 revert W2 eu GH Jc sJ uX uW tZ tY H2 pJ F2
 exact QAA.o):G:=h ⟨k⟩
theorem QDP {G H:Prop} (k:H) (h:QAB H->G:=by
 intro QAA
 have DH:Le B W3:=fR bN
 have GI:aC B w W3:=iC bN
 obtain⟨KM,KL,KK,KJ⟩:=He 8 w bN
 have KI:Lt (D) W3:=mb bN
 have G3:Hid (av W3 g 35 #[.slice A3 1 c3]):=by rw[bN.out,<-hg];exact qh (av.new rfl)
 have I3:Hid (fm 3 aH W3.heap.size W3 A3 c3 [x]):=by rw[bN.out];exact qh (si.out.wide)
 revert DH GI KM KL KK KJ KI G3 I3
 exact QAA.o):G:=h ⟨k⟩
theorem QDQ {G H:Prop} (k:H) (h:QAB H->G:=by
 intro QAA
 have HE:Hid (jF t ⟨.fU,a⟩=if 0<=nth a 0/\nth a 0<(t.aD.ay.length:Int) then some ⟨⟨t.aD.aN,t.aD.cur,t.aD.au,t.aD.ay.set (nth a 0).toNat ⟨nth a 1,(nth t.aD.ay (nth a 0).toNat).bt⟩,t.aD.aQ⟩,t.ai,t.aa⟩ else none):=rfl
 revert HE
 exact QAA.o):G:=h ⟨k⟩
theorem QDR {G H:Prop} (k:H) (h:QAB H->G:=by
 intro QAA
 obtain⟨td,Aj⟩:∃x,kf d.ax c=x:=⟨_,rfl⟩
 obtain⟨bb,gH⟩:∃x,(gZ d.ax c).isSome=x:=⟨_,rfl⟩
 revert td Aj bb gH
 exact QAA.o):G:=h ⟨k⟩
theorem QDS {G H:Prop} (k:H) (h:QAB H->G:=by
 intro QAA
 have E10:=qh E10
 have To10:=qh ((To9.out.up (W':=af W9 δ6)).aO Cl (E9.out.af _) nU)
 have O10:=qh ((O9.out.wide (w':=af W9 δ6)).aO Cl (E9.out.af _) nU (nR _))
 have n1:aC w.heap.size w W10:=bP Cl (by have:=gw.out;omega)
 have n3:Le w.heap.size W10:=cK Cl
 revert E10 To10 O10 n1 n3
 exact QAA.o):G:=h ⟨k⟩
theorem QDT {G H:Prop} (k:H) (h:QAB H->G:=by
 intro QAA
 have C2:=qh C2
 have la:=A2.out.lt
 have ld:=D2.out.lt
 have lz:=Z2.out.lt
 have lg:=C2.out.lt
 have z1:=D2.out.cell (i:=1) rfl
 have z2:=D2.out.cell (i:=2) rfl
 have gg:=qh g2
 revert C2 la ld lz lg z1 z2 gg
 exact QAA.o):G:=h ⟨k⟩
theorem QDU {G H:Prop} (k:H) (h:QAB H->G:=by
 intro QAA
 refine aK fun W1 aE=>?_
 obtain⟨cz,de,cN,cY,dc,dX⟩:=Cm B w aE
 have A1:Hid (av W1 w.heap.size 39 (aF r t)):=by rw[aE.out];exact qh ((av.new rfl).alloc _)
 have R1:Hid (av W1 (w.heap.size+1) 39 (aF cV cL)):=by rw[aE.out];exact qh (av.new nV)
 have M1:Hid (aP B W1 r t):=qh H.out.up
 revert W1 aE cz de cN cY dc dX A1 R1 M1
 exact QAA.o):G:=h ⟨k⟩
theorem QDV {G H:Prop} (k:H) (h:QAB H->G:=by
 intro QAA
 have h6:=(Sa.az.1 hv).1.2.2.1
 have h4:=(Sa.az.1 hv).1.2.2.2
 revert h6 h4
 exact QAA.o):G:=h ⟨k⟩
theorem QDW {G H:Prop} (k:H) (h:QAB H->G:=by
 intro QAA
 try simp only[Act.put,List.setIfInBounds_toArray,List.set_cons_zero,List.set_cons_succ]
 exact QAA.o):G:=h ⟨k⟩
theorem QDX {G H:Prop} (k:H) (h:QAB H->G:=by
 intro QAA
 have L2:=qh L2
 have ld:=D2.out.lt
 have lr:=R2.out.lt
 have lg:=L2.out.lt
 revert L2 ld lr lg
 exact QAA.o):G:=h ⟨k⟩
theorem QDY {G H:Prop} (k:H) (h:QAB H->G:=by
 intro QAA
 have HL:=qh hl
 have HV:=qh hv
 have HT:=qh hT
 have HO:=qh hO
 have HR:=qh hr
 revert HL HV HT HO HR
 exact QAA.o):G:=h ⟨k⟩
theorem QDZ {G H:Prop} (k:H) (h:QAB H->G:=by
 intro QAA
 have y1:=b2.cell (i:=1) rfl
 have y2:=b2.cell (i:=2) rfl
 revert y1 y2
 exact QAA.o):G:=h ⟨k⟩
theorem QEA {G H:Prop} (k:H) (h:QAB H->G:=by
 intro QAA
 have g3:W2.heap.size<=(af W2 δ2).heap.size:=(inferInstance:Le W2.heap.size (af W2 δ2)).out
 have D3:Hid (av (af W2 δ2) w.heap.size 53 (bX k d)):=qh (D2.out.af _)
 have R3:Hid (av (af W2 δ2) (w.heap.size+1) 53 (bX kP kQ)):=qh (R2.out.af _)
 revert g3 D3 R3
 exact QAA.o):G:=h ⟨k⟩
theorem QEB {G H:Prop} (k:H) (h:QAB H->G:=by
 intro QAA
 obtain⟨g,hg⟩:∃g,(af W1 δ1).heap.size=g:=⟨_,rfl⟩
 revert g hg
 exact QAA.o):G:=h ⟨k⟩
theorem QEC {G H:Prop} (k:H) (h:QAB H->G:=by
 intro QAA
 have hki:(k:Int)<(n.hs.length:Int):=nQ
 have hk0:¬(k:Int)<0:=nQ
 revert hki hk0
 exact QAA.o):G:=h ⟨k⟩
theorem QED {G H:Prop} (k:H) (h:QAB H->G:=by
 intro QAA
 have HS:=qh hS
 have hl0:(0:Int)<(a.length:Int):=nQ
 have hk0:Hid (0<a.length):=qh nQ
 have hm0:0<a.length:=nQ
 revert HS hl0 hk0 hm0
 exact QAA.o):G:=h ⟨k⟩
theorem QEE {G H:Prop} (k:H) (h:QAB H->G:=by
 intro QAA
 have hi:i<t.aD.ay.length:=nQ
 have HE:Hid (jF t ⟨.fU,a⟩=some ⟨⟨t.aD.aN,t.aD.cur,t.aD.au,t.aD.ay.set i ⟨x1,(nth t.aD.ay i).bt⟩,t.aD.aQ⟩,t.ai,t.aa⟩):=by unfold Hid;rw[HE.out,if_pos hx,Int.toNat_natCast]
 revert hi HE
 exact QAA.o):G:=h ⟨k⟩
theorem QEF {G H:Prop} (k:H) (h:QAB H->G:=by
 intro QAA
 have HV:=qh hv
 have lI:=qh (gL hv)
 have H:=qh hT
 revert HV lI H
 exact QAA.o):G:=h ⟨k⟩
theorem QEG {G H:Prop} (k:H) (h:QAB H->G:=by
 intro QAA
 have ET:=qm.2
 have qm:=qm.1
 have TU:=BI qm rfl
 have LR:cS (ws.drop 1)=some [x]:=by obtain⟨y,e,_,h⟩:=TU;injection e with _ e;injection e with e;rw[e];exact h
 have TV:nth ws 0=cJ .forget:=by obtain⟨y,_,h,_⟩:=TU;exact h
 revert ET qm TU LR TV
 exact QAA.o):G:=h ⟨k⟩
theorem QEH {G H:Prop} (k:H) (h:QAB H->G:=by
 intro QAA
 refine aK fun W1 aE=>?_
 have cz:Le B W1:=fR aE
 have de:aC B w W1:=iC aE
 revert W1 aE cz de
 exact QAA.o):G:=h ⟨k⟩
theorem QEI {G H:Prop} (k:H) (h:QAB H->G:=by
 intro QAA
 have me:Hid (Sl aH B W1 A c (vU is)):=qh HS.out.up
 have DZ:B<=W1.heap.size:=by have:=(inferInstance:Le B W1).out;exact this
 revert me DZ
 exact QAA.o):G:=h ⟨k⟩
theorem QEJ {G H:Prop} (k:H) (h:QAB H->G:=by
 intro QAA
 refine dQ wZ Tryz.results68 rfl C9 rfl ?_
 exact QAA.o):G:=h ⟨k⟩
theorem QEK {G H:Prop} (k:H) (h:QAB H->G:=by
 intro QAA
 refine(ri.out kk _ (LZ.out.up.is H.out) inferInstance HO.out.wide).mono ?_
 exact QAA.o):G:=h ⟨k⟩
theorem QEL {G H:Prop} (k:H) (h:QAB H->G:=by
 intro QAA
 refine wpH_tq 6 (.tuple #[gr k' xd,.string (str xt)]) (inferInstance) ?_
 exact QAA.o):G:=h ⟨k⟩
theorem QEM {G H:Prop} (k:H) (h:QAB H->G:=by
 intro QAA
 have b2:av W1 (w.heap.size+1) 159 #[.int .i64 3,.string (str tx),.slice A a.length cap]:=by rw[aE.out];exact av.new nV
 revert b2
 exact QAA.o):G:=h ⟨k⟩
theorem QEN {G H:Prop} (k:H) (h:QAB H->G:=by
 intro QAA
 have HS:Hid (fm 3 aH W2.heap.size W2 A cap c.a):=qh ((hS.up (w':=(af W1 δ1).alloc _)).aO kg (av.new rfl) nU nV)
 revert HS
 exact QAA.o):G:=h ⟨k⟩
theorem QEO {G H:Prop} (k:H) (h:QAB H->G:=by
 intro QAA
 rw[TZ]
 have Pq:=qh (show gW n (F,O) x=be+(nth n.hs x).hr by unfold gW;simp only[Int.toNat_natCast,PL.out,TZ])
 have y1:0<=be:=nQ
 have y2:be<=100:=by have:=HK.out;omega
 have y3:0<=(nth n.hs x).hr:=nQ
 have y4:(nth n.hs x).hr<=9:=nQ
 revert Pq y1 y2 y3 y4
 exact QAA.o):G:=h ⟨k⟩
theorem QEP {G H:Prop} (k:H) (h:QAB H->G:=by
 intro QAA
 have H:=qh hT
 have HS:=qh hS
 have HV:=qh hv
 have HC:Hid (cE (aG t) 120=0):=by unfold Hid;rw[hv];rfl
 have HX:Hid (nq t ls=(([],[]),cL,2)):=by unfold Hid nq;rw[if_neg (by rw[hv];decide),if_pos hl]
 have Pv:(30:Int)<(ls.length:Int):=nQ
 revert H HS HV HC HX Pv
 exact QAA.o):G:=h ⟨k⟩
theorem QEQ {G H:Prop} (k:H) (h:QAB H->G:=by
 intro QAA
 have ib:Lt x W1:=⟨nL hb DZ⟩
 have iy:Lt y W1:=⟨nL hy DZ⟩
 have hji:(j:Int)<(h.parts.length:Int):=nQ
 have hj0:¬(j:Int)<0:=nQ
 revert ib iy hji hj0
 exact QAA.o):G:=h ⟨k⟩
theorem QER {G H:Prop} (k:H) (h:QAB H->G:=by
 intro QAA
 have z2:W1.cell? ⟨gs,0,none⟩=some (.string (str [s])):=by rw[aE.out];go_simp
 have z3:W1.cell? ⟨gn,0,none⟩=some (.int .i64 n):=by rw[aE.out];go_simp
 have j1:Lt gq W1:=mb aE
 have j2:Lt gs W1:=mb aE
 have j3:Lt gn W1:=mb aE
 revert z2 z3 j1 j2 j3
 exact QAA.o):G:=h ⟨k⟩
theorem QES {G H:Prop} (k:H) (h:QAB H->G:=by
 intro QAA
 have ib:Lt b W1:=⟨nL hb cz.out⟩
 have in1:pI b (w.heap.size+1+1):=⟨by have:=hB.out;omega⟩
 have HA:=qh hA
 have HO:=qh hown
 revert ib in1 HA HO
 exact QAA.o):G:=h ⟨k⟩
theorem QET {G H:Prop} (k:H) (h:QAB H->G:=by
 intro QAA
 have HF:Hid (∀b,Sa.Fair 6 (dI h x b)):=qh fun b=>Sa.fe hv (by have:=(Sa.az.1 hv).1.2.2.1;omega) _
 revert HF
 exact QAA.o):G:=h ⟨k⟩
theorem QEU {G H:Prop} (k:H) (h:QAB H->G:=by
 intro QAA
 have zb:=qh (show own F=je F j by unfold own;rw[LF.out])
 have f2:=HF.out.cell (k:=je F j) (by rw[LF.out];exact hown)
 have TM:(je F j:Int)<(j:Int):=nQ
 have TN:¬(je F j:Int)<0:=nQ
 obtain⟨q,hq⟩:∃q,je F j=q:=⟨_,rfl⟩
 revert zb f2 TM TN q hq
 exact QAA.o):G:=h ⟨k⟩
theorem QEV {G H:Prop} (k:H) (h:QAB H->G:=by
 intro QAA
 have HV:=qh hv
 have HC:Hid (cE (aG t) 120=0):=by unfold Hid;rw[hv];rfl
 have Pv:¬(30:Int)<(ls.length:Int):=nQ
 have gG:¬30<ls.length:=nQ
 have VX:decide ((30:Int)<(ls.length:Int))=false:=decide_eq_false Pv
 have mG:=qh hlen
 revert HV HC Pv gG VX mG
 exact QAA.o):G:=h ⟨k⟩
theorem QEW {G H:Prop} (k:H) (h:QAB H->G:=by
 intro QAA
 have R3:Hid (av W3 (w.heap.size+1) 39 (aF cV cL)):=by rw[bN.out];exact qh ((R1.out.drew.eZ (by show w.heap.size+1≠w.heap.size;omega) _).eZ (by show w.heap.size+1≠w.heap.size;omega) _)
 revert R3
 exact QAA.o):G:=h ⟨k⟩
theorem QEX {G H:Prop} (k:H) (h:QAB H->G:=by
 intro QAA
 refine wpH_tq 2 (.pointer (some ⟨D,0,none⟩)) (inferInstance) ?_
 exact QAA.o):G:=h ⟨k⟩
theorem QEY {G H:Prop} (k:H) (h:QAB H->G:=by
 intro QAA
 refine wpH_tq 3 (.pointer (some ⟨D,0,none⟩)) (inferInstance) ?_
 exact QAA.o):G:=h ⟨k⟩
theorem QEZ {G H:Prop} (k:H) (h:QAB H->G:=by
 intro QAA
 obtain⟨b0,hb0⟩:∃b0,(if nth F q<(nth n.hs x).fr then (nth n.hs x).fr else nth F q)=b0:=⟨_,rfl⟩
 rw[hb0]
 have PL:=qh (show max (nth F (own F)) (nth n.hs x).fr=b0 by rw[zb.out,<-hb0];split<;>omega)
 revert b0 hb0 PL
 exact QAA.o):G:=h ⟨k⟩
theorem QFA {G H:Prop} (k:H) (h:QAB H->G:=by
 intro QAA
 have OE:W1.cell? ⟨w.heap.size+1+1,0,none⟩=some (.int .i64 n.aN.hi):=by rw[aE.out];go_simp
 have Rt:W1.cell? ⟨w.heap.size+1+1,1,none⟩=some (.int .i64 n.cur.hi):=by rw[aE.out];go_simp
 revert OE Rt
 exact QAA.o):G:=h ⟨k⟩
theorem QFB {G H:Prop} (k:H) (h:QAB H->G:=by
 intro QAA
 have f1:((str [60]).toList==[61])=false:=by rw[cA];rfl
 have f2:((str [60]).toList==[62])=false:=by rw[cA];rfl
 have HS:Hid (fF t q 60 n=decide (x<n)):=by unfold Hid;rw[HH.out];simp[zK]
 revert f1 f2 HS
 exact QAA.o):G:=h ⟨k⟩
theorem QFC {G H:Prop} (k:H) (h:QAB H->G:=by
 intro QAA
 have f1:((str [61]).toList==[61])=true:=by rw[cA];rfl
 have f2:((str [61]).toList==[62])=false:=by rw[cA];rfl
 have HS:Hid (fF t q 61 n=decide (x=n)):=by unfold Hid;rw[HH.out];simp[zK]
 revert f1 f2 HS
 exact QAA.o):G:=h ⟨k⟩
theorem QFD {G H:Prop} (k:H) (h:QAB H->G:=by
 intro QAA
 have f1:((str [62]).toList==[61])=false:=by rw[cA];rfl
 have f2:((str [62]).toList==[62])=true:=by rw[cA];rfl
 have HS:Hid (fF t q 62 n=decide (n<x)):=by unfold Hid;rw[HH.out];simp[zK]
 revert f1 f2 HS
 exact QAA.o):G:=h ⟨k⟩
theorem QFE {G H:Prop} (k:H) (h:QAB H->G:=by
 intro QAA
 obtain⟨A2,uo⟩:∃A2,(if cap=1 then some (⟨b,o,none⟩:Addr) else some ⟨b,o+1,none⟩)=A2:=⟨_,rfl⟩
 revert A2 uo
 exact QAA.o):G:=h ⟨k⟩
theorem QFF {G H:Prop} (k:H) (h:QAB H->G:=by
 intro QAA
 have a3:aC B w wr:=⟨⟨i1.out.1,i1.out.2.1,i1.out.2.2.1,fun b hb=>i1.out.2.2.2 b (nL hb hB.out)⟩⟩
 revert a3
 exact QAA.o):G:=h ⟨k⟩
theorem QFG {G H:Prop} (k:H) (h:QAB H->G:=by
 intro QAA
 have E0:=qh A1.out.drew
 have G0:aC w.heap.size w (World.drew W1):=inferInstance
 revert E0 G0
 exact QAA.o):G:=h ⟨k⟩
theorem QFH {G H:Prop} (k:H) (h:QAB H->G:=by
 intro QAA
 have HS:=qh hS
 have xX:xs.length<=cap:=hS.1
 have Ji:(xs.length:Int)<=(cap:Int):=nQ
 revert HS xX Ji
 exact QAA.o):G:=h ⟨k⟩
theorem QFI {G H:Prop} (k:H) (h:QAB H->G:=by
 intro QAA
 have x1:=fun(W:nJ) t q hh=>rD (P:=nH) W t q m (k:Int) k rfl b hh hb
 have Jj:b.toNat<256:=b.toNat_lt
 revert x1 Jj
 exact QAA.o):G:=h ⟨k⟩
theorem QFJ {G H:Prop} (k:H) (h:QAB H->G:=by
 intro QAA
 have lF:F.length=m:=by have:=HM.out;simp only at lF;omega
 have lO:O.length=n.hs.length:=lO
 have bF:jT 80 F:=ng bF nQ
 have bO:jT 80 O:=ng bO nQ
 have W8:=qh Jh
 have Iu:=qh hrun
 have HH:=qh hh
 revert lF lO bF bO W8 Iu HH
 exact QAA.o):G:=h ⟨k⟩
theorem QFK {G H:Prop} (k:H) (h:QAB H->G:=by
 intro QAA
 have GH:Le B W2:=fR eu
 have Jc:aC B w W2:=iC eu
 obtain⟨sJ,uX,uW,tZ⟩:=He 8 w eu
 have tY:Lt (D) W2:=mb eu
 revert GH Jc sJ uX uW tZ tY
 exact QAA.o):G:=h ⟨k⟩
theorem QFL {G H:Prop} (k:H) (h:QAB H->G:=by
 intro QAA
 obtain⟨D,hD⟩:∃D,D=w.heap.size:=⟨_,rfl⟩
 obtain⟨W1,aE⟩:∃W1,(w.alloc (.deferred (some []))).alloc (.loop (rec .ready none))=W1:=⟨_,rfl⟩
 have hs1:W1.heap.size=D+2:=by rw[<-aE];simp;omega
 revert D hD W1 aE hs1
 exact QAA.o):G:=h ⟨k⟩
theorem QFM {G H:Prop} (k:H) (h:QAB H->G:=by
 intro QAA
 have PJ:Hid (bS B W0 ⟨kA,kc,pA,pc,bA,bc⟩ h):=qh (HH.out.eG SD.out hB.out (fun _ h=>h.elim))
 revert PJ
 exact QAA.o):G:=h ⟨k⟩
theorem QFN {G H:Prop} (k:H) (h:QAB H->G:=by
 intro QAA
 have ib':Lt b' w:=⟨nL hb' hB.out⟩
 have KP:(i:Int)<(n.ay.length:Int):=nQ
 have hi0:¬(i:Int)<0:=nQ
 have hj0:(nth n.ay i).bt<(t.au.length:Int):=nQ
 have Xu:¬(nth n.ay i).bt<0:=nQ
 have HC:=qh hcd
 revert ib' KP hi0 hj0 Xu HC
 exact QAA.o):G:=h ⟨k⟩
theorem QFO {G H:Prop} (k:H) (h:QAB H->G:=by
 intro QAA
 refine gJ 4 (.string (str lj)) rfl nP (Or.inl ⟨nY,by intro w5 h5;have e5:=(bz h5.out sb (so+j) isb.out).trans e0;go_simp⟩) (inferInstance) ?_
 exact QAA.o):G:=h ⟨k⟩
theorem QFP {G H:Prop} (k:H) (h:QAB H->G:=by
 intro QAA
 have EW:W2.cell? ⟨w.heap.size,14,none⟩=some (.slice k.oA d.aB.length k.oc):=D2.out.cell rfl
 revert EW
 exact QAA.o):G:=h ⟨k⟩
theorem QFQ {G H:Prop} (k:H) (h:QAB H->G:=by
 intro QAA
 have G3:Hid (av W3 g 35 #[.slice A3 an c3]):=by rw[bN.out,<-hg];exact qh (av.new rfl)
 have I3:Hid (fm 3 aH W3.heap.size W3 A3 c3 a):=by rw[bN.out];exact qh (si.out.wide)
 revert G3 I3
 exact QAA.o):G:=h ⟨k⟩
theorem QFR {G H:Prop} (k:H) (h:QAB H->G:=by
 intro QAA
 have s1:∀W:nJ,(Op.stringOp .add (⟨#[32]⟩:ByteArray) (str tx)).run nH W=.ok (.string (str u1)) W:=fun W=>by rw[<-hu1];exact jy (P:=nH) W [32] tx (by simp;omega)
 revert s1
 exact QAA.o):G:=h ⟨k⟩
theorem QFS {G H:Prop} (k:H) (h:QAB H->G:=by
 intro QAA
 have s2:∀W:nJ,(Op.stringOp .add (str u1) (⟨#[58]⟩:ByteArray)).run nH W=.ok (.string (str u2)) W:=fun W=>by rw[<-Sb];exact jy (P:=nH) W u1 [58] (by simp;omega)
 revert s2
 exact QAA.o):G:=h ⟨k⟩
theorem QFT {G H:Prop} (k:H) (h:QAB H->G:=by
 intro QAA
 have g0:DataW.trod enc nH w 0 spare held n 3 [c0]=some y0:=by simpa [gS] using hg 0 _ rfl
 revert g0
 exact QAA.o):G:=h ⟨k⟩
section
open Classical in
noncomputable def dM(B:Nat)(w δ:nJ):nJ:=if Below B w δ then δ else w
theorem kK(B:Nat)(w δ:nJ):Below B w (dM B w δ):=by
 unfold dM;split
 ·assumption
 ·exact Below.refl _ _
theorem wH{B:Nat}{w w':nJ}(h:Below B w w'):dM B w w'=w':=by unfold dM;rw[if_pos h]
instance{b B:Nat}{w δ:nJ}[h:Lt b w]:Lt b (dM B w δ):=⟨nL h.out (kK B w δ).size⟩
instance{B B':Nat}{w δ:nJ}[h:Le B w]:Le B (dM B' w δ):=⟨nT h.out (kK B' w δ).size⟩
@[go_sem] theorem UX(W1 w δ:nJ)(b o:Nat)[h:Lt b W1]:(dM W1.heap.size w δ).cell? ⟨b,o,none⟩=w.cell? ⟨b,o,none⟩:=(kK _ w δ).cell (p:=⟨b,o,none⟩) h.out
@[go_sem] theorem Sq(W1 w δ:nJ)(b o:Nat)[h:Lt b W1]:(dM W1.heap.size w δ).frozen? ⟨b,o,none⟩=w.frozen? ⟨b,o,none⟩:=(kK _ w δ).frozen (p:=⟨b,o,none⟩) h.out
instance{B B':Nat}{w W δ:nJ}[h:aC B w W][hb:mw B B']:aC B w (dM B' W δ):=⟨by
 have hb:=(kK B' W δ).mono hb.out
 obtain⟨a,b,c,d⟩:=h.out
 exact⟨hb.os.trans a,hb.tape.trans b,hb.output.trans c,fun k hk=>(hb.block k hk).trans (d k hk)⟩⟩
theorem wU{w0 w2:nJ}(δ0:nJ){b i:Nat}{v0:nK}(x y:nK)(h:w0.cell? ⟨b,i,none⟩=some v0)[hb:Lt b w0](hg:Below w0.heap.size ((af w0 δ0).setCell ⟨b,i,none⟩ x) w2):∃δ',w2.setCell ⟨b,i,none⟩ y=(af w0 δ').setCell ⟨b,i,none⟩ y:=by
 have hl0:=fc w0 δ0;have NF:(af w0 δ0).setCell ⟨b,i,none⟩ v0=af w0 δ0:=eS (by rw[uw,h]);have TY:∀k,k<w0.heap.size->(w2.setCell ⟨b,i,none⟩ v0).heap[k]?=w0.heap[k]?:=by
  intro k hk;have e1:=hg.block k hk;have e2:(w2.setCell ⟨b,i,none⟩ v0).heap[k]?=(((af w0 δ0).setCell ⟨b,i,none⟩ x).setCell ⟨b,i,none⟩ v0).heap[k]?:=by
   simp only[World.setCell] at e1 ⊢;simp only[Array.getElem?_modify] at e1 ⊢;by_cases hk':b=k
   ·simp only[hk',if_true] at e1 ⊢;rw[e1]
   ·simp only[hk',if_false] at e1 ⊢;rw[e1]
  rw[e2,ju,NF];exact hl0.block k hk
 have hB:Below w0.heap.size w0 (w2.setCell ⟨b,i,none⟩ v0):=by refine⟨hg.os.trans hl0.os,hg.tape.trans hl0.tape,hg.output.trans hl0.output,?_,TY⟩;have:=hg.size;have:=hl0.size;simp only[World.setCell,Array.size_modify] at *;omega
 exact⟨_,by rw[bU hB,ju]⟩
class pI(a b:Nat):Prop where
 out:a≠b
@[go_sem] theorem Ss(w:nJ)(b b' i i':Nat)(u:nK)[h:pI b b']:(w.setCell ⟨b',i',none⟩ u).cell? ⟨b,i,none⟩=w.cell? ⟨b,i,none⟩:=
 World.cell?_setCell_other _ _ _ _ (by intro e;injection e with e1 _;exact h.out e1.symm)
def nw(P:Program)(t e:TypeId)(z:nK)(size bytes:Nat):Prop:=∃i,P.underlying t=some (.slice e)/\P.info? e=some i/\i.zero=some z/\i.size=size/\i.bytes=bytes/\z.cells.size=size/\0<size
theorem nw.mk{P:Program}{t e:TypeId}{z:nK}{size bytes:Nat}(ht:P.underlying t=some (.slice e))(hi:(P.info? e).map (fun i=>(i.zero,i.size,i.bytes))=some (some z,size,bytes))(hzs:z.cells.size=size)(hsz:0<size):nw P t e z size bytes:=by obtain⟨i,a,b,c,d⟩:=info_parts hi;exact⟨i,ht,a,b,c,d,hzs,hsz⟩
theorem sX{P:Program}(W1:nJ){W:nJ}{ops:Array Oper}{rest:List Oper}{o:Oper}{a:Act}{Q:Exit->Act->nJ->Prop}{t e:TypeId}{z:nK}{size bytes:Nat}(hT:nw P t e z size bytes)(s x:Operand)(hgd:o.guard=none)(ho:o.op=.call { callee:=.builtin .append,args:=#[s,x],argTypes:=#[t,t] })(v:nK)(n:Nat)(xs:List nK)(hs:a.eval s=v)(hown:W.ownsRow W1.heap.size e size v n xs)(ad:Addr)(m c:Nat)(news:List nK)(hx:a.eval x=.slice (some ad) m c)(hl:news.length=m*size)(hnews:∀j u,news[j]?=some u->W.cell? (ad.add j)=some u)(h1:∀u∈news,u.oneCell'=true)(h63:n+m<=9223372036854775807)(hbytes:(n+m)*bytes<=140737488355328)[hbase:Le W1.heap.size W](h:∀A' c' δ,(dM W1.heap.size W δ).ownsRow W1.heap.size e size (.slice A' (n+m) c') (n+m) (xs++news)->wpList P ops Q rest (a.put o.dst (.slice A' (n+m) c')) (dM W1.heap.size W δ)):wpList P ops Q (o::rest) a W:=by obtain⟨i,ht,hi,hz,hsize,hby,hzs,hsz⟩:=hT;refine wpList_append_own W hgd s x t ho W1.heap.size e i z size bytes ht hi hz hsize hby hzs hsz v n xs hs hown ad m c news hx hl hnews h1 h63 hbytes hbase.out ?_;intro v' w' hown' hg _;obtain⟨A',c',rfl⟩:=oV hown';have hB:Below W1.heap.size W w':=(Below.refl _ _).grown hg hbase.out fun k hk=>(hown.lt k hk).1;have:=h A' c' w';rw[wH hB] at this;exact this hown'
theorem dA{P:Program}(W1:nJ){W:nJ}{ops:Array Oper}{rest:List Oper}{o:Oper}{a:Act}{Q:Exit->Act->nJ->Prop}{t e:TypeId}{z:nK}{size bytes:Nat}(hT:nw P t e z size bytes)(s x:Operand)(hgd:o.guard=none)(ho:o.op=.call { callee:=.builtin .append,args:=#[s,x],argTypes:=#[t,t] }){v:nK}{n:Nat}{xs:List nK}(hown:W.ownsRow W1.heap.size e size v n xs)(hs:a.eval s=v){g m c:Nat}{arr:Array nK}{T:TypeId}(hx:a.eval x=.slice (some ⟨g,0,none⟩) m c)(hg:g=W.heap.size)(hl:arr.size=m*size)(h1:∀u∈arr.toList,u.oneCell'=true)(h63:n+m<=1000000)(hbytes:bytes<=1000)[hbase:Le W1.heap.size W](h:∀A' c' δ,(dM W1.heap.size (W.alloc (.cells arr T)) δ).ownsRow W1.heap.size e size (.slice A' (n+m) c') (n+m) (xs++arr.toList)->wpList P ops Q rest (a.put o.dst (.slice A' (n+m) c')) (dM W1.heap.size (W.alloc (.cells arr T)) δ)):wpList P ops Q (o::rest) a (W.alloc (.cells arr T)):=
 sX W1 hT s x hgd ho v n xs hs (hown.alloc _) ⟨g,0,none⟩ m c arr.toList hx (by simpa using hl)
  (fun j u hj=>by
   rw[show(⟨g,0,none⟩:Addr).add j=⟨g,j,none⟩ by simp[Addr.add_lit],World.cell?_alloc_at _ _ _ _ hg]
   simpa using hj) h1 nQ (by have:=Nat.mul_le_mul h63 hbytes;omega) h
theorem sQ{B:Nat}{w W:nJ}[h:aC B w W][hs:Le w.heap.size W]:Below B w W:=h.out.below
theorem p4{α:Type}[Inhabited α](enc:α->List nK)(xs:List α){k:Nat}(h:k<xs.length):(xs.take (k+1)).flatMap enc=(xs.take k).flatMap enc++enc (nth xs k):=by rw[bu xs h,List.flatMap_append];simp
theorem iq{α β:Type}[Inhabited α][Inhabited β](f:α->β)(xs:List α){k:Nat}(h:k<xs.length):nth (xs.map f) k=f (nth xs k):=by rw[bV _ (by simpa using h),bV _ h];simp
theorem Fx{α:Type}{enc:α->List nK}{w W:nJ}{A:Option Addr}{c:Nat}{xs:List α}(h:Sl enc W.heap.size W A c xs)[aC w.heap.size w W][Le w.heap.size W]:Sl enc (af w W).heap.size (af w W) A c xs:=by rwa [<-aq (w:=w) (W:=W)]
def av(w:nJ)(b:Nat)(T:TypeId)(cs:Array nK):Prop:=w.heap[b]?=some (.cells cs T (0,0))
section
variable{w W:nJ}{b:Nat}{T:TypeId}{cs:Array nK}
theorem av.rO(h:av w b T cs):b<w.heap.size:=by
 rcases Nat.lt_or_ge b w.heap.size with hlt|hge
 ·exact hlt
 ·unfold av at h;rw[Array.getElem?_eq_none hge] at h;cases h
theorem av.lt(h:av w b T cs):Lt b w:=⟨h.rO⟩
theorem av.cell(h:av w b T cs){i:Nat}{v:nK}(hv:cs[i]?=some v):w.cell? ⟨b,i,none⟩=some v:=by unfold av at h;unfold World.cell?;rw[h];exact hv
theorem av.free(h:av w b T cs)(i:Nat):w.frozen? ⟨b,i,none⟩=false:=by unfold av at h;simp[World.frozen?,h]
theorem av.new{o:Array nK}{n:Nat}(hn:n=w.heap.size):av (w.alloc (.cells o T)) n T o:=by subst hn;exact heap_alloc_new w _
theorem av.drew(h:av w b T cs):av w.drew b T cs:=h
theorem av.af(h:av w b T cs)(δ:nJ):av (af w δ) b T cs:=((fc w δ).block b h.rO).trans h
theorem av.alloc(h:av w b T cs)(o:Obj):av (w.alloc o) b T cs:=(Below.heap_alloc w o b h.rO).trans h
theorem av.set(h:av w b T cs)(i:Nat)(u:nK):av (w.setCell ⟨b,i,none⟩ u) b T (cs.setIfInBounds i u):=by unfold av at h ⊢;simp[World.setCell,Array.getElem?_modify,h]
theorem av.eZ(h:av w b T cs){p:Addr}(hp:b≠p.block)(u:nK):av (w.setCell p u) b T cs:=(Below.heap_setCell w p u b hp).trans h
theorem av.dM{B:Nat}(h:av w b T cs)(hb:b<B)(δ:nJ):av (dM B w δ) b T cs:=((kK B w δ).block b hb).trans h
end
def bM(hit:Nat->Bool):Nat->Nat->Nat
 |0,k=>k
 |f+1,k=>if hit k then k else bM hit f (k+1)
theorem fN(hit:Nat->Bool):∀f k,k<=bM hit f k/\bM hit f k<=k+f/\(∀j,k<=j->j<bM hit f k->hit j=false)/\(bM hit f k<k+f->hit (bM hit f k)=true)
 |0,k=>⟨nR _,nR _,fun j h1 h2=>absurd h2 (by simp[bM];omega),fun h=>absurd h (by simp[bM])⟩
 |f+1,k=>by
  unfold bM;by_cases h:hit k=true
  ·rw[if_pos h];exact⟨nR _,nQ,fun j h1 h2=>by omega,fun _=>h⟩
  ·rw[if_neg h];obtain⟨a,b,c,d⟩:=fN hit f (k+1);refine⟨nQ,nQ,fun j h1 h2=>?_,fun hh=>d nQ⟩;by_cases hj:j=k
   ·subst hj;simpa using h
   ·exact c j nQ h2
theorem qQ(hit:Nat->Bool){m k:Nat}(hk:k<m)(h0:∀j,j<k->hit j=false)(h1:hit k=true):bM hit m 0=k:=by
 obtain⟨a,b,c,d⟩:=fN hit m 0;rcases Nat.lt_trichotomy (bM hit m 0) k with h|h|h
 ·have:=d nQ;rw[h0 _ h] at this;cases this
 ·exact h
 ·have:=c k nQ h;rw[h1] at this;cases this
theorem oI(hit:Nat->Bool){m:Nat}(h0:∀j,j<m->hit j=false):bM hit m 0=m:=by
 obtain⟨a,b,c,d⟩:=fN hit m 0;rcases Nat.lt_or_ge (bM hit m 0) m with h|h
 ·have:=d nQ;rw[h0 _ h] at this;cases this
 ·omega
end
theorem run_append_nil{P:Program}(w:nJ){base:Nat}{t ty e:TypeId}{z:nK}{size bytes:Nat}(hT:nw P t e z size bytes){v:nK}{n:Nat}{xs:List nK}(hown:w.ownsRow base e size v n xs)(c:Nat):(Builtin.append_ #[t,t] ty #[v,.slice none 0 c]).run P w=.ok v w:=by
 obtain⟨i,ht,hi,_⟩:=hT;rcases hown.2 with⟨rfl,rfl⟩|⟨g,cap,cur,rfl,_,_,hnc,_⟩
 ·simp[Builtin.append_,run_underlying ht,sizeOf,typeInfo,hi,Builtin.lenOf,Builtin.firstCells]
 ·simp[Builtin.append_,run_underlying ht,sizeOf,typeInfo,hi,Builtin.lenOf,Builtin.firstCells,hnc,storeCells]
theorem uK{P:Program}(w:nJ){base:Nat}{t ty e:TypeId}{z:nK}{size bytes:Nat}(hT:nw P t e z size bytes){v:nK}{n:Nat}{xs:List nK}(hown:w.ownsRow base e size v n xs){B m c:Nat}{A:Option Addr}{news:List nK}(hr:Cells w B A news)(hl:news.length=m*size)(h1:∀u∈news,u.oneCell'=true)(h63:n+m<=1000000)(hbytes:bytes<=1000)[hbase:Le base w]:∃v' w',(Builtin.append_ #[t,t] ty #[v,.slice A m c]).run P w=.ok v' w'/\w'.ownsRow base e size v' (n+m) (xs++news)/\w.grownBy w' v.ownBlock:=by
 have hT':=hT;obtain⟨i,ht,hi,hz,hsize,hby,hzs,hsz⟩:=hT;cases A with
 |none=>
  have hn:news=[]:=by
   rcases news with _|⟨u,us⟩
   ·rfl
   ·obtain⟨_,_,h,_⟩:=hr nV;cases h
  subst hn
  have hm:m=0:=by
   rcases Nat.eq_zero_or_pos m with h|h
   ·exact h
   ·have:=Nat.mul_pos h hsz;simp at hl;omega
  subst hm
  exact⟨v,w,run_append_nil w hT' hown c,by simpa using hown,World.grownBy.refl w _⟩
 |some ad=>
  obtain⟨v',w',h2,h3,h4,_⟩:=run_append_own (P:=P) w base t ty e i z size bytes ht hi hz hsize hby hzs hsz v n xs hown ad m c news hl (by
   intro j u hj
   obtain⟨b,o,hA,_,hc⟩:=hr (by rintro rfl;simp at hj)
   injection hA with hA
   subst hA
   rw[show(⟨b,o,none⟩:Addr).add j=⟨b,o+j,none⟩ by simp[Addr.add_lit]]
   exact hc j u hj) h1 (by unfold maxLen;omega) (by have:=Nat.mul_le_mul h63 hbytes;omega) hbase.out
  exact⟨v',w',h2,h3,h4⟩
theorem fG{P:Program}(W1:nJ){W:nJ}{o:Oper}{a:Act}{K:Act->nJ->Prop}{Q:Exit->Act->nJ->Prop}{t e:TypeId}{z:nK}{size bytes:Nat}(hT:nw P t e z size bytes)(s x:Operand)(ho:o.op=.call { callee:=.builtin .append,args:=#[s,x],argTypes:=#[t,t] }){v:nK}{n:Nat}{xs:List nK}(hown:W.ownsRow W1.heap.size e size v n xs)(hs:a.eval s=v){B m c:Nat}{A:Option Addr}{news:List nK}(hx:a.eval x=.slice A m c)(hr:Cells W B A news)(hl:news.length=m*size)(h1:∀u∈news,u.oneCell'=true)(h63:n+m<=1000000)(hbytes:bytes<=1000)[hbase:Le W1.heap.size W](h:∀A' c' δ,(dM W1.heap.size W δ).ownsRow W1.heap.size e size (.slice A' (n+m) c') (n+m) (xs++news)->W.grownBy (dM W1.heap.size W δ) v.ownBlock->K (a.put o.dst (.slice A' (n+m) c')) (dM W1.heap.size W δ)):o.wp P a W K Q:=by obtain⟨v',w',hrun,hown',hg⟩:=uK (P:=P) (ty:=o.type) W hT hown hr hl h1 h63 hbytes;obtain⟨A',c',rfl⟩:=oV hown';have hB:Below W1.heap.size W w':=(Below.refl _ _).grown hg hbase.out fun k hk=>(hown.lt k hk).1;have:=h A' c' w';rw[wH hB] at this;have h9:=this hown' hg;unfold Oper.wp execOp;simp only[ho,resolve,invoke,builtin,Sem.run_bind,Sem.run_pure,Result.andThen_ok,List.map_toArray,List.map_cons,List.map_nil,hs,hx];rw[hrun];exact h9
theorem lP{P:Program}(W1:nJ){W:nJ}{ops:Array Oper}{rest:List Oper}{o:Oper}{a:Act}{Q:Exit->Act->nJ->Prop}{t e:TypeId}{z:nK}{size bytes:Nat}(hT:nw P t e z size bytes)(s x:Operand)(hgd:o.guard=none)(ho:o.op=.call { callee:=.builtin .append,args:=#[s,x],argTypes:=#[t,t] }){v:nK}{n:Nat}{xs:List nK}(hown:W.ownsRow W1.heap.size e size v n xs)(hs:a.eval s=v){B m c:Nat}{A:Option Addr}{news:List nK}(hx:a.eval x=.slice A m c)(hr:Cells W B A news)(hl:news.length=m*size)(h1:∀u∈news,u.oneCell'=true)(h63:n+m<=1000000)(hbytes:bytes<=1000)[hbase:Le W1.heap.size W](h:∀A' c' δ,(dM W1.heap.size W δ).ownsRow W1.heap.size e size (.slice A' (n+m) c') (n+m) (xs++news)->W.grownBy (dM W1.heap.size W δ) v.ownBlock->wpList P ops Q rest (a.put o.dst (.slice A' (n+m) c')) (dM W1.heap.size W δ)):wpList P ops Q (o::rest) a W:=
 wpList_plain hgd fun _ hK=>fG W1 hT s x ho hown hs hx hr hl h1 h63 hbytes fun A' c' δ h2 h3=>hK _ _ (h A' c' δ h2 h3)
theorem cQ{P:Program}(W1:nJ){W:nJ}{ops:Array Oper}{o:Oper}{a:Act}{K:Act->nJ->Prop}{Q:Exit->Act->nJ->Prop}{E:Prop}{t e:TypeId}{z:nK}{size bytes:Nat}(hT:nw P t e z size bytes)(s x:Operand)(hgd:o.guard=none)(ho:o.op=.call { callee:=.builtin .append,args:=#[s,x],argTypes:=#[t,t] }){v:nK}{n:Nat}{xs:List nK}(hown:W.ownsRow W1.heap.size e size v n xs)(hs:a.eval s=v){B m c:Nat}{A:Option Addr}{news:List nK}(hx:a.eval x=.slice A m c)(hr:Cells W B A news)(hl:news.length=m*size)(h1:∀u∈news,u.oneCell'=true)(h63:n+m<=1000000)(hbytes:bytes<=1000)[hbase:Le W1.heap.size W](h:∀A' c' δ,(dM W1.heap.size W δ).ownsRow W1.heap.size e size (.slice A' (n+m) c') (n+m) (xs++news)->W.grownBy (dM W1.heap.size W δ) v.ownBlock->K (a.put o.dst (.slice A' (n+m) c')) (dM W1.heap.size W δ)):if Region.wanted o (yielded ops a.tmps)=true then Oper.wp P o a W K Q else E:=by
 have hw:Region.wanted o (yielded ops a.tmps)=true:=by simp[Region.wanted,hgd]
 rw[if_pos hw];exact fG W1 hT s x ho hown hs hx hr hl h1 h63 hbytes h
theorem fZ{W:nJ}{arr:Array nK}{T:TypeId}{g:Nat}(hg:g=W.heap.size):Cells (W.alloc (.cells arr T)) (g+1) (some ⟨g,0,none⟩) arr.toList:=
 fun _=>⟨g,0,rfl,nQ,fun j v hj=>by rw[Nat.zero_add,World.cell?_alloc_at _ _ _ _ hg];simpa using hj⟩
theorem bK{P:Program}(W1:nJ){W:nJ}{ops:Array Oper}{rest:List Oper}{o:Oper}{a:Act}{Q:Exit->Act->nJ->Prop}{t e:TypeId}{z:nK}{size bytes:Nat}(hT:nw P t e z size bytes)(s x:Operand)(hgd:o.guard=none)(ho:o.op=.call { callee:=.builtin .append,args:=#[s,x],argTypes:=#[t,t] }){v:nK}{n:Nat}{xs:List nK}(hown:W.ownsRow W1.heap.size e size v n xs)(hs:a.eval s=v){g m c:Nat}{arr:Array nK}{T:TypeId}(hx:a.eval x=.slice (some ⟨g,0,none⟩) m c)(hg:g=W.heap.size)(hl:arr.size=m*size)(h1:∀u∈arr.toList,u.oneCell'=true)(h63:n+m<=1000000)(hbytes:bytes<=1000)[hbase:Le W1.heap.size W](h:∀A' c' δ,(dM W1.heap.size (W.alloc (.cells arr T)) δ).ownsRow W1.heap.size e size (.slice A' (n+m) c') (n+m) (xs++arr.toList)->(W.alloc (.cells arr T)).grownBy (dM W1.heap.size (W.alloc (.cells arr T)) δ) v.ownBlock->wpList P ops Q rest (a.put o.dst (.slice A' (n+m) c')) (dM W1.heap.size (W.alloc (.cells arr T)) δ)):wpList P ops Q (o::rest) a (W.alloc (.cells arr T)):=
 lP W1 hT s x hgd ho (hown.alloc _) hs hx (fZ hg) (by simpa using hl) h1 h63 hbytes h
section
variable{α:Type}{enc:α->List nK}{B:Nat}{w w':nJ}{A:Option Addr}{c:Nat}{xss:List (List α)}
end
def qf(T:TypeId)(w:nJ)(B:Nat)(A:Option Addr)(cs:List nK):Prop:=
 cs≠[]->∃b o cur fr,A=some ⟨b,o,none⟩/\b<B/\w.heap[b]?=some (.cells cur T fr)/\∀j v,cs[j]?=some v->cur[o+j]?=some v
section
variable{T:TypeId}{w w':nJ}{B B':Nat}{A:Option Addr}{cs:List nK}
theorem qf.nil:qf T w B A []:=fun h=>absurd rfl h
theorem qf.pV(h:qf T w B A cs)(hB:B<=B')(hk:∀b cur fr,b<B->w.heap[b]?=some (.cells cur T fr)->w'.heap[b]?=w.heap[b]?):qf T w' B' A cs:=fun hc=>by obtain⟨b,o,cur,fr,hA,hb,hh,hv⟩:=h hc;exact⟨b,o,cur,fr,hA,nL hb hB,(hk b cur fr hb hh).trans hh,hv⟩
theorem qf.plain(h:qf T w B A cs):Cells w B A cs:=fun hc=>by obtain⟨b,o,cur,fr,hA,hb,hh,hv⟩:=h hc;refine⟨b,o,hA,hb,fun j v hj=>?_⟩;simp only[World.cell?,hh];exact hv j v hj
end
def fm{α:Type}(T:TypeId)(enc:α->List nK)(B:Nat)(w:nJ)(A:Option Addr)(c:Nat)(xs:List α):Prop:=
 xs.length<=c/\c<=9223372036854775807/\qf T w B A (xs.flatMap enc)
section
variable{α:Type}{enc:α->List nK}{T:TypeId}{B B':Nat}{w w':nJ}{A:Option Addr}{c:Nat}{xs:List α}
theorem fm.plain(h:fm T enc B w A c xs):Sl enc B w A c xs:=⟨h.1,h.2.1,h.2.2.plain⟩
theorem fm.none_:fm T enc B w A 0 ([]:List α):=⟨nR _,nQ,qf.nil⟩
theorem fm.pV(h:fm T enc B w A c xs)(hB:B<=B')(hk:∀b cur fr,b<B->w.heap[b]?=some (.cells cur T fr)->w'.heap[b]?=w.heap[b]?):fm T enc B' w' A c xs:=⟨h.1,h.2.1,h.2.2.pV hB hk⟩
theorem fm.up(h:fm T enc B w A c xs)[hg:aC B w w']:fm T enc B w' A c xs:=h.pV (nR _) fun b _ _ hb _=>hg.out.2.2.2 b hb
theorem fm.wide(h:fm T enc B w A c xs)[hg:aC B w w'][hB:Le B w']:fm T enc w'.heap.size w' A c xs:=h.pV hB.out fun b _ _ hb _=>hg.out.2.2.2 b hb
theorem fm.grown(h:fm T enc w.heap.size w A c xs){v:nK}{base:Nat}{e:TypeId}{size n:Nat}{ys:List nK}(hown:w.ownsRow base e size v n ys)(hg:w.grownBy w' v.ownBlock)(hne:e≠T):fm T enc w'.heap.size w' A c xs:=
 h.pV hg.size fun b cur fr hb hh=>hg.block b hb (by
  rcases hown.2 with⟨rfl,_⟩|⟨g,cap,cur',rfl,_,BC,_⟩
  ·simp[Value.ownBlock]
  ·intro he
   have:b=g:=by simpa [Value.ownBlock] using he
   subst this
   rw[hh] at BC
   injection BC with BC
   injection BC with _ ht
   exact hne ht.symm)
theorem fm.bW{base:Nat}{size:Nat}{n:Nat}(h:w.ownsRow base T size (.slice A n c) n (xs.flatMap enc))(hn:xs.length=n):fm T enc w.heap.size w A c xs:=by
 subst hn;have hp:=Sl.bW h;refine⟨hp.1,hp.2.1,fun hne=>?_⟩;rcases h.2 with⟨hv,h0⟩|⟨g,cap,cur,hv,_,hh,hnc,_,hcs,ht⟩
 ·have:=h.1;rw[h0] at this;simp only[Nat.zero_mul] at this;exact absurd (List.eq_nil_of_length_eq_zero this) hne
 ·injection hv with hA _ hc;subst hA;have hg:g<w.heap.size:=by
   rcases Nat.lt_or_ge g w.heap.size with hlt|hge
   ·exact hlt
   ·rw[Array.getElem?_eq_none hge] at hh;cases hh
  refine⟨g,0,cur,(0,0),rfl,hg,hh,fun j v hj=>?_⟩;rw[<-ht] at hj;rw[Nat.zero_add,<-Array.getElem?_toList];rw[List.getElem?_take] at hj;split at hj
  ·exact hj
  ·cases hj
end
def ic{α:Type}(T:TypeId)(enc:α->List nK)(w:nJ)(cs:List nK)(xss:List (List α)):Prop:=
 cs.length=xss.length/\∀i (h:i<xss.length),∃A' c',cs[i]?=some (.slice A' xss[i].length c')/\fm T enc w.heap.size w A' c' xss[i]
section
variable{α:Type}{enc:α->List nK}{T:TypeId}{w w':nJ}{cs ds:List nK}{xss yss:List (List α)}
theorem ic.nil:ic T enc w [] ([]:List (List α)):=⟨rfl,fun i h=>absurd h nV⟩
theorem ic.pV(h:ic T enc w cs xss)(hB:w.heap.size<=w'.heap.size)(hk:∀b cur fr,b<w.heap.size->w.heap[b]?=some (.cells cur T fr)->w'.heap[b]?=w.heap[b]?):ic T enc w' cs xss:=
 ⟨h.1,fun i hi=>by obtain⟨A',c',e,s⟩:=h.2 i hi;exact⟨A',c',e,s.pV hB hk⟩⟩
theorem ic.below(h:ic T enc w cs xss)(hb:Below w.heap.size w w'):ic T enc w' cs xss:=h.pV hb.size fun b _ _ hb' _=>hb.block b hb'
theorem ic.grown(h:ic T enc w cs xss){v:nK}{base:Nat}{e:TypeId}{size n:Nat}{ys:List nK}(hown:w.ownsRow base e size v n ys)(hg:w.grownBy w' v.ownBlock)(hne:e≠T):ic T enc w' cs xss:=
 ⟨h.1,fun i hi=>by obtain⟨A',c',e',s⟩:=h.2 i hi;exact⟨A',c',e',s.grown hown hg hne⟩⟩
theorem ic.append(h:ic T enc w cs xss)(h':ic T enc w ds yss):ic T enc w (cs++ds) (xss++yss):=by
 refine⟨by rw[List.length_append,List.length_append,h.1,h'.1],fun i hi=>?_⟩;rw[List.length_append] at hi;by_cases hlt:i<xss.length
 ·obtain⟨A',c',e,s⟩:=h.2 i hlt;refine⟨A',c',?_,?_⟩
  ·rw[List.getElem?_append_left (by rw[h.1];exact hlt),e,List.getElem_append_left hlt]
  ·rw[List.getElem_append_left hlt];exact s
 ·obtain⟨A',c',e,s⟩:=h'.2 (i-xss.length) nQ;refine⟨A',c',?_,?_⟩
  ·rw[List.getElem?_append_right (by rw[h.1];omega),h.1,e,List.getElem_append_right nQ]
  ·rw[List.getElem_append_right nQ];exact s
theorem ic.up(h:ic T enc w cs xss)[hg:aC w.heap.size w w'][hs:Le w.heap.size w']:ic T enc w' cs xss:=h.below hg.out.below
theorem ic.Bj(h:ic T enc w cs xss):∀u∈cs,u.oneCell'=true:=by intro u hu;obtain⟨i,hi,rfl⟩:=List.getElem_of_mem hu;obtain⟨A',c',e,_⟩:=h.2 i (by rw[<-h.1];exact hi);rw[List.getElem?_eq_getElem hi] at e;injection e with e;rw[e];rfl
theorem ic.one{A:Option Addr}{c:Nat}{xs:List α}(h:fm T enc w.heap.size w A c xs):ic T enc w [.slice A xs.length c] [xs]:=
 ⟨rfl,fun i hi=>by
  have:i=0:=by simpa using hi
  subst this
  exact⟨A,c,rfl,h⟩⟩
end
def uD{α:Type}(T:TypeId)(enc:α->List nK)(w:nJ)(A:Option Addr)(c:Nat)(xss:List (List α)):Prop:=
 xss.length<=c/\c<=9223372036854775807/\∃cs:List nK,Cells w w.heap.size A cs/\ic T enc w cs xss
section
variable{α:Type}{enc:α->List nK}{T:TypeId}{w w':nJ}{A:Option Addr}{c:Nat}{xss:List (List α)}
theorem uD.below(h:uD T enc w A c xss)(hb:Below w.heap.size w w'):uD T enc w' A c xss:=by obtain⟨h1,h2,cs,h3,h4⟩:=h;exact⟨h1,h2,cs,h3.pV hb.size fun b o hb'=>hb.cell (p:=⟨b,o,none⟩) hb',h4.below hb⟩
theorem uD.up(h:uD T enc w A c xss)[hg:aC w.heap.size w w'][hs:Le w.heap.size w']:uD T enc w' A c xss:=h.below hg.out.below
theorem uD.at_(h:uD T enc w A c xss){k:Nat}(hk:k<xss.length):∃b o A' c',A=some ⟨b,o,none⟩/\b<w.heap.size/\w.cell? ⟨b,o+k,none⟩=some (.slice A' xss[k].length c')/\fm T enc w.heap.size w A' c' xss[k]:=by obtain⟨h1,h2,cs,h3,h4,h5⟩:=h;obtain⟨A',c',e,s⟩:=h5 k hk;obtain⟨b,o,hA,hb,hc⟩:=h3 (by rintro rfl;simp at e);exact⟨b,o,A',c',hA,hb,hc k _ e,s⟩
theorem uD.bW{base:Nat}{e:TypeId}{n:Nat}{cs:List nK}(h:w.ownsRow base e 1 (.slice A n c) n cs)(hs:ic T enc w cs xss)(hn:xss.length=n):uD T enc w A c xss:=by
 have hl:=h.1;refine⟨?_,?_,cs,Cells.bW h,hs⟩
 ·rcases h.2 with⟨hv,h0⟩|⟨g,cap,cur,hv,_,hh,hnc,_⟩
  ·omega
  ·injection hv with _ _ hc;omega
 ·rcases h.2 with⟨hv,h0⟩|⟨g,cap,cur,hv,_,hh,hnc,hm,_⟩
  ·injection hv with _ _ hc;omega
  ·injection hv with _ _ hc;unfold maxLen at hm;omega
end
section
variable{w:nJ}{base g i n cap size:Nat}{e:TypeId}{v u:nK}{xs:List nK}
theorem nN(h:w.ownsRow base e size (.slice (some ⟨g,0,none⟩) n cap) n xs)(_hi:i<xs.length):(w.setCell ⟨g,i,none⟩ u).ownsRow base e size (.slice (some ⟨g,0,none⟩) n cap) n (xs.set i u):=by
 refine⟨by rw[List.length_set];exact h.1,?_⟩;rcases h.2 with⟨hv,_⟩|⟨g',cap',cur,hv,h1,h2,h3,h4,h5,h6⟩
 ·cases hv
 ·injection hv with hA _ hc;injection hA with hA;injection hA with hg;subst hg hc;refine .inr ⟨g,cap,cur.setIfInBounds i u,rfl,h1,?_,h3,h4,by simpa using h5,?_⟩
  ·simp[World.setCell,Array.getElem?_modify,h2]
  ·have hl:=h.1;rw[Array.toList_setIfInBounds,List.take_set,h6]
theorem cT(h:w.ownsRow base e size v n xs){p:Addr}(hp:v.ownBlock≠some p.block):(w.setCell p u).ownsRow base e size v n xs:=by
 refine⟨h.1,?_⟩;rcases h.2 with h2|⟨g',cap',cur,hv,h1,h2,h3⟩
 ·exact .inl h2
 ·refine .inr ⟨g',cap',cur,hv,h1,?_,h3⟩;rw[<-h2];refine Below.heap_setCell w p u g' ?_;rintro rfl;exact hp (by rw[hv];rfl)
theorem pQ{A:Option Addr}{c:Nat}(h:w.ownsRow base e size (.slice A n c) n xs)(hn:0<n):∃g,A=some ⟨g,0,none⟩/\base<=g/\Lt g w/\(∀j x,xs[j]?=some x->w.cell? ⟨g,j,none⟩=some x)/\∀j,w.frozen? ⟨g,j,none⟩=false:=by
 rcases h.2 with⟨_,h0⟩|⟨g',cap',cur,hv,h1,h2,h3,h4,h5,h6⟩
 ·omega
 ·injection hv with hA _ hc;subst hA hc;refine⟨g',rfl,h1,⟨?_⟩,fun j x hj=>?_,fun j=>by simp[World.frozen?,h2]⟩
  ·rcases Nat.lt_or_ge g' w.heap.size with hlt|hge
   ·exact hlt
   ·rw[Array.getElem?_eq_none hge] at h2;cases h2
  ·have:=h.cells (g:=g') rfl j x hj;simpa [Addr.add_lit] using this
theorem uR{A:Option Addr}{c:Nat}(h:w.ownsRow base e size (.slice A n c) n xs):∀g,(Value.slice A n c).ownBlock=some g->base<=g/\g<w.heap.size:=fun g hg=>h.lt g hg
end
theorem iI{α:Type}[Inhabited α](enc:α->List nK)(size:Nat)(hs:∀x,(enc x).length=size)(xs:List α)(k j:Nat)(u:nK)(y:α)(hk:k<xs.length)(hj:j<size)(hy:enc y=(enc (nth xs k)).set j u):(xs.flatMap enc).set (k*size+j) u=(xs.set k y).flatMap enc:=by
 induction xs generalizing k with
 |nil=>simp at hk
 |cons x xs ih=>
  cases k with
  |zero=>
   rw[List.set_cons_zero,List.flatMap_cons,List.flatMap_cons,Nat.zero_mul,Nat.zero_add]
   rw[List.set_append_left _ _ (by rw[hs];exact hj)]
   rw[hy];rfl
  |succ k=>
   rw[List.set_cons_succ,List.flatMap_cons,List.flatMap_cons,Nat.succ_mul]
   rw[List.set_append_right _ _ (by rw[hs];omega),hs]
   rw[show k*size+size+j-size=k*size+j by omega,ih k (by simpa using hk) (by simpa [nth] using hy)]
theorem fL{α:Type}[Inhabited α](enc:α->List nK)(size:Nat)(hs:∀x,(enc x).length=size)(xs:List α)(k j:Nat)(hk:k<xs.length)(hj:j<size):(xs.flatMap enc)[k*size+j]?=(enc (nth xs k))[j]?:=by
 induction xs generalizing k with
 |nil=>simp at hk
 |cons x xs ih=>
  cases k with
  |zero=>
   rw[List.flatMap_cons,Nat.zero_mul,Nat.zero_add,List.getElem?_append_left (by rw[hs];exact hj)];rfl
  |succ k=>
   rw[List.flatMap_cons,Nat.succ_mul,List.getElem?_append_right (by rw[hs];omega),hs,show k*size+size+j-size=k*size+j by omega]
   rw[ih k (by simpa using hk)];rfl
theorem Dc{w:nJ}{base g n size:Nat}{e:TypeId}{cs:Array nK}(hb:base<=w.heap.size)(hg:g=w.heap.size)(hn:n<=9223372036854775807)(hs:cs.size=n*size):(w.alloc (.cells cs e)).ownsRow base e size (.slice (some ⟨g,0,none⟩) n n) n cs.toList:=by subst hg;refine⟨by simpa using hs,.inr ⟨w.heap.size,n,cs,rfl,hb,heap_alloc_new w _,nR _,by unfold maxLen;omega,hs,?_⟩⟩;rw[List.take_of_length_le (by simp;omega)]
def jo(z:nK)(size n:Nat):Array nK:=madeCells z.cells (n*size)
theorem rS(z:nK)(size n:Nat):(jo z size n).size=n*size:=size_madeCells _ _
theorem tR(n:Nat)(_x:nK):jo (.int .i64 0) 1 n=Array.replicate n (.int .i64 0):=by
 apply Array.ext
 ·rw[rS];simp
 ·intro i h1 h2;simp[jo,madeCells,Value.cells,Nat.mod_one]
theorem run_mk{P:Program}{t e:TypeId}{z:nK}{size bytes:Nat}(hT:nw P t e z size bytes)(n:Nat)(hn:n<=1000000)(hb:bytes<=1000):∀W:nJ,(Instr.makeSlice t (.int .i64 n) (.int .i64 n)).run P W=.ok (.slice (some ⟨W.heap.size,0,none⟩) n n) (W.alloc (.cells (jo z size n) e)):=by
 intro W;obtain⟨i,ht,hi,hz,hsize,hby,hzs,hsz⟩:=hT;have h1:bytes*n<=1000*1000000:=Nat.mul_le_mul hb hn;have h2:(i.bytes:Int)*(n:Int)<=281474976710656:=by
  have h:((i.bytes*n:Nat):Int)<=281474976710656:=by rw[hby];omega
  rwa [Int.natCast_mul] at h
 have:=run_make (P:=P) W t e i z ht hi hz .i64 .i64 n n nQ (Int.le_refl _) h2 nQ;simp only[Int.toNat_natCast,hsize] at this;exact this
def aH(x:Int):List nK:=[.int .i64 x]
section
variable{B:Nat}{w:nJ}{A:Option Addr}{c:Nat}
theorem Sl.int{xs:List Int}(h:Sl aH B w A c xs){k:Nat}(hk:k<xs.length):∃b o,A=some ⟨b,o,none⟩/\b<B/\w.cell? ⟨b,o+k,none⟩=some (.int .i64 (nth xs k)):=by obtain⟨b,o,hA,hb,hc⟩:=h.at_ (size:=1) (fun _=>rfl) hk nQ;refine⟨b,o,hA,hb,?_⟩;have:=hc 0 _ rfl;rw[bV _ hk];simpa using this
end
theorem wO(n low high:Int)(w:nJ):Calls nH 104 #[.int .i64 n,.int .i64 low,.int .i64 high] w fun e w'=>e=.returned (.bool (fj low high n))/\w=w':=by
 go_enter Tryz.func104,Tryz.ntmps104;by_cases h1:low<=n
 ·go_wp2;go_ret;exact⟨aW (by simp[fj,h1]),rfl⟩
 ·go_wp2;go_ret;exact⟨aW (by simp[fj];omega),rfl⟩
def xO(so all:Int):Int:=if so=0 then 2 else if so=all then 1 else 3
def cE(ok:Bool)(k:Int):Int:=if ok then 0 else k
theorem uC:nw nH 35 3 (.int .i64 0) 1 8:=nw.mk Tryz.underlying35 nP rfl nQ
theorem Sl.wide{α:Type}{enc:α->List nK}{B:Nat}{w W:nJ}{A:Option Addr}{c:Nat}{xs:List α}(h:Sl enc B w A c xs)[aC B w W][hB:Le B W]:Sl enc W.heap.size W A c xs:=h.up.more hB.out
theorem PX:nw nH 118 35 (.slice none 0 0) 1 24:=nw.mk Tryz.underlying118 nP rfl nQ
theorem aT{w W:nJ}{b e s n:Nat}{v:nK}{xs:List nK}(h:w.ownsRow b e s v n xs)[hg:aC w.heap.size w W]:W.ownsRow b e s v n xs:=by
 refine⟨h.1,?_⟩;rcases h.2 with h2|⟨g,cap,cur,hv,hb,hh,r⟩
 ·exact .inl h2
 ·refine .inr ⟨g,cap,cur,hv,hb,?_,r⟩;rw[hg.out.2.2.2 g,hh];rcases Nat.lt_or_ge g w.heap.size with hlt|hge
  ·exact hlt
  ·rw[Array.getElem?_eq_none hge] at hh;cases hh
theorem cx{W:nJ}{base e size g:Nat}(hb:base<=W.heap.size)(hg:g=W.heap.size):(W.alloc (.cells #[] e)).ownsRow base e size (.slice (some ⟨g,0,none⟩) 0 0) 0 []:=by subst hg;have:=World.ownsRow_lit (base:=base) (e:=e) (size:=size) W #[] 0 hb (by unfold maxLen;omega) nV;simpa using this
theorem tT(f:List Int):(f.flatMap aH).length=f.length*1:=by induction f with
 |nil=>rfl
 |cons x f ih=>simp only[List.flatMap_cons,List.length_append,ih,aH,List.length_cons,List.length_nil];omega
theorem mF{W:nJ}{g B:Nat}{v:nK}(h:W.cell? ⟨g,0,none⟩=some v)(hg:g<B):Cells W B (some ⟨g,0,none⟩) [v]:=fun _=>⟨g,0,rfl,hg,fun j u hj=>by
 cases j with
 |zero=>simp at hj;subst hj;exact h
 |succ j=>simp at hj⟩
theorem fh{P:Program}(W1:nJ){W:nJ}{ops:Array Oper}{o:Oper}{a:Act}{K:Act->nJ->Prop}{Q:Exit->Act->nJ->Prop}{E:Prop}{t e:TypeId}{z:nK}{size bytes:Nat}(hT:nw P t e z size bytes)(s x:Operand)(hgd:o.guard=none)(ho:o.op=.call { callee:=.builtin .append,args:=#[s,x],argTypes:=#[t,t] }){v:nK}(hown:W.ownsRow W1.heap.size e size v 0 [])(hs:a.eval s=v){B m c:Nat}{A:Option Addr}{news:List nK}(hx:a.eval x=.slice A m c)(hr:Cells W B A news)(hl:news.length=m*size)(h1:∀u∈news,u.oneCell'=true)(h63:m<=1000000)(hbytes:bytes<=1000)[hbase:Le W1.heap.size W](h:∀A' c' δ,(dM W1.heap.size W δ).ownsRow W1.heap.size e size (.slice A' m c') m news->W.grownBy (dM W1.heap.size W δ) v.ownBlock->K (a.put o.dst (.slice A' m c')) (dM W1.heap.size W δ)):if Region.wanted o (yielded ops a.tmps)=true then Oper.wp P o a W K Q else E:=
 cQ W1 hT s x hgd ho hown hs hx hr hl h1 nQ hbytes fun A' c' δ h2 h3=>by rw[Nat.zero_add,List.nil_append] at h2;rw[Nat.zero_add];exact h A' c' δ h2 h3
theorem cg{α:Type}(enc:α->List nK)(size:Nat)(h:∀x,(enc x).length=size)(xs:List α):(xs.flatMap enc).length=xs.length*size:=by
 induction xs with
 |nil=>simp
 |cons x xs ih=>rw[List.flatMap_cons,List.length_append,ih,h,List.length_cons,Nat.succ_mul];omega
theorem dS{α:Type}(enc:α->List nK)(h:∀x,∀u∈enc x,u.oneCell'=true)(xs:List α):∀u∈xs.flatMap enc,u.oneCell'=true:=by intro u hu;rw[List.mem_flatMap] at hu;obtain⟨x,_,hx⟩:=hu;exact h x u hx
theorem bR{P:Program}(W1:nJ){W:nJ}{ops:Array Oper}{rest:List Oper}{o:Oper}{a:Act}{Q:Exit->Act->nJ->Prop}{t e:TypeId}{z:nK}{size bytes:Nat}(hT:nw P t e z size bytes)(s x:Operand)(hgd:o.guard=none)(ho:o.op=.call { callee:=.builtin .append,args:=#[s,x],argTypes:=#[t,t] }){v:nK}(hown:W.ownsRow W1.heap.size e size v 0 [])(hs:a.eval s=v){B m c:Nat}{A:Option Addr}{news:List nK}(hx:a.eval x=.slice A m c)(hr:Cells W B A news)(hl:news.length=m*size)(h1:∀u∈news,u.oneCell'=true)(h63:m<=1000000)(hbytes:bytes<=1000)[hbase:Le W1.heap.size W](h:∀A' c' δ,(dM W1.heap.size W δ).ownsRow W1.heap.size e size (.slice A' m c') m news->W.grownBy (dM W1.heap.size W δ) v.ownBlock->wpList P ops Q rest (a.put o.dst (.slice A' m c')) (dM W1.heap.size W δ)):wpList P ops Q (o::rest) a W:=
 lP W1 hT s x hgd ho hown hs hx hr hl h1 nQ hbytes fun A' c' δ h2 h3=>by rw[Nat.zero_add,List.nil_append] at h2;rw[Nat.zero_add];exact h A' c' δ h2 h3
theorem iS{W W':nJ}{o:Obj}{base:Nat}{e:TypeId}{size n g k c:Nat}{v:nK}{xs:List nK}(h:W.ownsRow base e size v n xs)(hg:g=W.heap.size)(UO:(W.alloc o).grownBy W' (Value.slice (some ⟨g,0,none⟩) k c).ownBlock):W'.ownsRow base e size v n xs:=
 (h.alloc o).kept UO (.inr fun he=>by
  have:=(h.lt g (by rw[he];rfl)).2
  omega)
theorem dO{base base':Nat}{w:nJ}{e:TypeId}{size n:Nat}{v:nK}{xs:List nK}(h:w.ownsRow base e size v n xs)(hb:base'<=base):w.ownsRow base' e size v n xs:=
 ⟨h.1,h.2.imp id fun⟨g,cap,cur,h1,h2,h3⟩=>⟨g,cap,cur,h1,nT hb h2,h3⟩⟩
theorem oK{α:Type}{enc:α->List nK}{W:nJ}(xs:List α){T:TypeId}{b c:Nat}{cs:Array nK}(h:av W b T cs)(hn:xs.length<=c)(hc:c<=9223372036854775807)(hcs:cs.toList=xs.flatMap enc):Sl enc W.heap.size W (some ⟨b,0,none⟩) c xs:=by refine⟨hn,hc,fun _=>⟨_,_,rfl,h.rO,fun j v hj=>?_⟩⟩;rw[Nat.zero_add];refine h.cell ?_;rw[<-Array.getElem?_toList,hcs];exact hj
theorem Bh{w:nJ}{base base' g n n' c' size size':Nat}{e e':TypeId}{v:nK}{xs xs':List nK}(h:w.ownsRow base e size v n xs)(h':w.ownsRow base' e' size' (.slice (some ⟨g,0,none⟩) n' c') n' xs')(hne:e≠e'):v.ownBlock≠some g:=by
 intro hv;rcases h.2 with h2|⟨g1,adm,adb,hv1,_,h2,_⟩
 ·rw[h2.1] at hv;cases hv
 ·rw[hv1] at hv;injection hv with hv;rcases h'.2 with⟨h3,_⟩|⟨g2,_,ada,ue,_,h4,_⟩
  ·cases h3
  ·injection ue with hA;injection hA with hA;injection hA with hg;subst hg;subst hv;rw[h2] at h4;injection h4 with h4;injection h4 with _ he;exact hne he
structure bw(S:Nat->Prop)(W W':nJ):Prop where
 size:W.heap.size<=W'.heap.size
 os:W'.os=W.os
 tape:W'.tape=W.tape
 output:W'.output=W.output
 block:∀b,b<W.heap.size->¬S b->W'.heap[b]?=W.heap[b]?
theorem bw.refl(S:Nat->Prop)(W:nJ):bw S W W:=⟨nR _,rfl,rfl,rfl,fun _ _ _=>rfl⟩
theorem bw.trans{S:Nat->Prop}{A B C:nJ}(h:bw S A B)(k:bw S B C):bw S A C:=
 ⟨nT h.size k.size,k.os.trans h.os,k.tape.trans h.tape,k.output.trans h.output,fun b hb hs=>(k.block b (nL hb h.size) hs).trans (h.block b hb hs)⟩
theorem bw.mono{S S':Nat->Prop}{A B:nJ}(h:bw S A B)(hs:∀b,S b->S' b):bw S' A B:=⟨h.size,h.os,h.tape,h.output,fun b hb hn=>h.block b hb fun hc=>hn (hs b hc)⟩
theorem bw.dz{S:Nat->Prop}{A B:nJ}(h:Below A.heap.size A B):bw S A B:=⟨h.size,h.os,h.tape,h.output,fun b hb _=>h.block b hb⟩
theorem bw.af(S:Nat->Prop)(W δ:nJ):bw S W (af W δ):=.dz (fc W δ)
theorem bw.below{S:Nat->Prop}{A B:nJ}{k:Nat}(h:bw S A B)(hk:k<=A.heap.size)(hs:∀b,S b->k<=b):Below k A B:=
 ⟨h.os,h.tape,h.output,h.size,fun b hb=>h.block b nQ fun hc=>by have:=hs b hc;omega⟩
theorem bw.alloc{S:Nat->Prop}{A B:nJ}(h:bw S A B)(o:Obj):bw S A (B.alloc o):=h.trans (.dz ((Below.refl _ _).alloc (nR _) _))
theorem bw.drew{S:Nat->Prop}{A B:nJ}(h:bw S A B):bw S A B.drew:=⟨h.size,h.os,h.tape,h.output,h.block⟩
theorem bw.set{S:Nat->Prop}{A B:nJ}(h:bw S A B){b:Nat}(hb:S b)(i:Nat)(u:nK):bw S A (B.setCell ⟨b,i,none⟩ u):=
 ⟨by simpa [World.setCell] using h.size,h.os,h.tape,h.output,fun k hk hs=>(Below.heap_setCell B ⟨b,i,none⟩ u k (by rintro rfl;exact hs hb)).trans (h.block k hk hs)⟩
theorem bw.putObj{S:Nat->Prop}{A B:nJ}(h:bw S A B){b:Nat}(hb:S b)(o:Obj):bw S A (B.putObj b o):=by refine⟨?_,h.os,h.tape,h.output,fun k hk hs=>(World.putObj_heap_other (by rintro rfl;exact hs hb)).trans (h.block k hk hs)⟩;have:=h.size;simpa [World.putObj] using this
theorem bw.cell{S:Nat->Prop}{A B:nJ}(h:bw S A B){b o:Nat}(hb:b<A.heap.size)(hs:¬S b):B.cell? ⟨b,o,none⟩=A.cell? ⟨b,o,none⟩:=World.cell?_of_block (a:=⟨b,o,none⟩) (h.block b hb hs)
theorem bw.sl{α:Type}{enc:α->List nK}{S:Nat->Prop}{A B:nJ}{B0:Nat}{a:Option Addr}{c:Nat}{xs:List α}(h:bw S A B)(hS:Sl enc B0 A a c xs)(hB:B0<=A.heap.size)(hs:∀p,a=some p->¬S p.block):Sl enc B0 B a c xs:=by refine⟨hS.1,hS.2.1,fun hne=>?_⟩;obtain⟨b,o,hA,hb,hv⟩:=hS.2.2 hne;exact⟨b,o,hA,hb,fun j v hj=>(h.cell (nL hb hB) (hs _ hA)).trans (hv j v hj)⟩
theorem bw.PY{α:Type}{enc:α->List nK}{S:Nat->Prop}{A B:nJ}{B0:Nat}{a:Option Addr}{c:Nat}{xs:List α}(h:bw S A B)(hS:Sl enc B0 A a c xs)(hB:B0<=A.heap.size)(hs:∀b,S b->B0<=b):Sl enc B0 B a c xs:=by refine⟨hS.1,hS.2.1,fun hne=>?_⟩;obtain⟨b,o,hA,hb,hv⟩:=hS.2.2 hne;exact⟨b,o,hA,hb,fun j v hj=>(h.cell nQ (fun hc=>by have:=hs b hc;omega)).trans (hv j v hj)⟩
def EI(lo:Nat)(v:nK)(l:List Int)(W:nJ):Prop:=∃A c,v=.slice A l.length c/\Sl aH W.heap.size W A c l/\∀p,A=some p->lo<=p.block
theorem EI.eG{S:Nat->Prop}{lo:Nat}{v:nK}{l:List Int}{W W':nJ}(h:EI lo v l W)(k:bw S W W')(hs:∀b,S b->b<lo):EI lo v l W':=by obtain⟨A,c,hv,hS,hlo⟩:=h;exact⟨A,c,hv,(k.sl hS (nR _) (fun p hp hc=>by have:=hs _ hc;have:=hlo p hp;omega)).more k.size,hlo⟩
def AK{β:Type}(J:β->nJ->Prop):Prop:=∀p W W',J p W->Below W.heap.size W W'->J p W'
theorem fy{P:Program}{W:nJ}{ops:Array Oper}{o:Oper}{a:Act}{K:Act->nJ->Prop}{Q:Exit->Act->nJ->Prop}{E:Prop}{t e:TypeId}{z:nK}{size bytes:Nat}(hT:nw P t e z size bytes)(s x:Operand)(hgd:o.guard=none)(ho:o.op=.call { callee:=.builtin .append,args:=#[s,x],argTypes:=#[t,t] })(A:Option Addr)(n:Nat)(olds:List nK)(hs:a.eval s=.slice A n n)(hA:A=none->n=0)(hlo:olds.length=n*size)(holds:∀b,A=some b->∀j u,olds[j]?=some u->W.cell? (b.add j)=some u)(ad:Addr)(m c:Nat)(news:List nK)(hx:a.eval x=.slice (some ad) m c)(hm:0<m)(hn:news.length=m*size)(hc:∀j u,news[j]?=some u->W.cell? (ad.add j)=some u)(h1c:∀u∈news,u.oneCell'=true)(h63:n+m<=1000000)(hbytes:bytes<=1000)(hK:∀A' c' δ,(af W δ).ownsRow W.heap.size e size (.slice A' (n+m) c') (n+m) (olds++news)->K (a.put o.dst (.slice A' (n+m) c')) (af W δ)):if Region.wanted o (yielded ops a.tmps)=true then Oper.wp P o a W K Q else E:=by obtain⟨i,ht,hi,hz,hsize,hby,hzs,hsz⟩:=hT;refine step_append_grows hgd s x t ho e i z size bytes ht hi hz hsize hby hzs hsz A n n olds hs (fun h=>⟨hA h,hA h⟩) hlo holds ad m c news hx hn hc h1c nQ (by unfold maxLen;omega) (by have:=Nat.mul_le_mul h63 hbytes;omega) ?_;intro v' w' hown hg;obtain⟨A',c',rfl⟩:=oV hown;have hB:Below W.heap.size W w':=(Below.refl _ _).grown hg (nR _) (fun k e=>by cases e);have:=hK A' c' w';rw[bU hB] at this;exact this hown
theorem Sl.holds{α:Type}{enc:α->List nK}{B:Nat}{w:nJ}{A:Option Addr}{c:Nat}{xs:List α}(h:Sl enc B w A c xs):∀b,A=some b->∀j u,(xs.flatMap enc)[j]?=some u->w.cell? (b.add j)=some u:=by intro b hb j u hj;obtain⟨g,o,hA,_,hv⟩:=h.2.2 (fun e=>by rw[e] at hj;cases hj);rw[hA] at hb;injection hb with hb;subst hb;rw[Addr.add_lit];exact hv j u hj
theorem Sl.RV{B:Nat}{w:nJ}{A:Option Addr}{c:Nat}{xs:List Int}(h:Sl aH B w A c xs)(hA:A=none):xs.length=0:=by
 cases xs with
 |nil=>rfl
 |cons x xs=>
  obtain⟨g,o,oH,_,_⟩:=h.2.2 (by simp[aH])
  rw[hA] at oH;cases oH
theorem NQ{W:nJ}{g:Nat}{v:nK}(h:W.cell? ⟨g,0,none⟩=some v):∀j u,([v]:List nK)[j]?=some u->W.cell? ((⟨g,0,none⟩:Addr).add j)=some u:=fun j u hj=>by
 cases j with
 |zero=>simp at hj;subst hj;simpa [Addr.add_lit] using h
 |succ j=>simp at hj
theorem KB{W W':nJ}{base lo e c:Nat}{A:Option Addr}{l:List Int}{x:Int}(h:W.ownsRow base e 1 (.slice A (l.length+1) c) (l.length+1) (l.flatMap aH++[.int .i64 x]))(hlo:lo<=base)[g:aC W.heap.size W W'][hs:Le W.heap.size W']:EI lo (.slice A (l.length+1) c) (l++[x]) W':=by
 have h2:W.ownsRow base e 1 (.slice A (l++[x]).length c) (l++[x]).length ((l++[x]).flatMap aH):=by rw[List.length_append,List.flatMap_append];exact h
 obtain⟨b,rfl,hb,_⟩:=pQ h nQ;refine⟨_,c,by rw[List.length_append];rfl,(Sl.bW h2).wide,fun p hp=>?_⟩;cases hp;exact nT hlo hb
section
open Go.Shelf
def za(S:Nat->Prop)(D:Nat)(b:Nat):Prop:=S b\/b=D\/b=D+1
end
section
open Go.Shelf
def MK(S:Nat->Prop)(I:List (List Int)->nJ->Prop)(Ix:Code->List (List Int)->nJ->Prop)(xs:List (List Int))(W:nJ):Exit->Act->nJ->Prop
 |.normal,_,W'=>bw S W W'/\I xs W'
 |.ret,_,W'=>bw S W W'/\Ix .ret xs W'
 |.exit id,_,W'=>bw S W W'/\Ix (.exit id) xs W'
 |.goto t,_,W'=>bw S W W'/\Ix (.goto t) xs W'
 |.panic _,_,_=>False
 |.outgrown,_,_=>False
end
theorem av.eG{S:Nat->Prop}{W W':nJ}{b:Nat}{T:TypeId}{cs:Array nK}(h:av W b T cs)(k:bw S W W')(hs:¬S b):av W' b T cs:=(k.block b h.rO hs).trans h
theorem av.put{W:nJ}{b D:Nat}{T:TypeId}{cs:Array nK}(h:av W b T cs)(hne:b≠D)(o:Obj):av (W.putObj D o) b T cs:=(World.putObj_heap_other hne).trans h
theorem wP{D b:Nat}(h:b<D):¬za (fun _=>False) D b:=by rintro(h|h|h);exact h;omega;omega
theorem nc{f:FuncId}{fn:Func}{c:Code}{args:Array nK}{w:nJ}{R:Ending->nJ->Prop}(hf:Tryz.prog.funcs[f]?=some fn)(hb:fn.body=some c)(h:c.wp nH (bodyPostM Fence.wide 3 nH fn R) { tmps:=args++Array.replicate (fn.ntmps-args.size) undef,defers:=[] } w):Calls nH f args w R:=
 (callsIn_wide (n:=3)).1 (callsIn_of_wp_marks hf hb trivial (wpIn_wide.2 h) rfl)
theorem mK{fn:Func}{R:Ending->nJ->Prop}{t:Array nK}{D:Nat}{W:nJ}{v:nK}(hD:W.heap[D]?=some (.deferred (some [])))(hr:(results fn t).run nH (W.putObj D (.deferred none))=.ok v (W.putObj D (.deferred none)))(h:R (.returned v) (W.putObj D (.deferred none))):bodyPostM Fence.wide 3 nH fn R .ret { tmps:=t,defers:=[{ target:=.collected D,args:=#[] }] } W:=
 ⟨nV,.inl ⟨_,_,rfl,run_takeDeferred hD,_,hr,h⟩⟩
theorem Gh{w W0 W:nJ}{S:Nat->Prop}[g:aC w.heap.size w W0][l:Le w.heap.size W0](k:bw S W0 W)(hs:∀b,S b->w.heap.size<=b):Below w.heap.size w W:=(eP (w:=w) (W:=W0)).trans (k.below l.out hs)
theorem eU{w W0 W:nJ}{S:Nat->Prop}[g:aC w.heap.size w W0][l:Le w.heap.size W0](k:bw S W0 W)(hs:∀b,S b->w.heap.size<=b):∃δ,W=af w δ:=⟨W,(bU (Gh k hs)).symm⟩
theorem gz{P:Program}{fid:Nat}{args:Array nK}{W:nJ}{R R':Ending->nJ->Prop}{m l:Nat}(h:Calls P fid args W R')(hm:∀e w,R' e w->R e w):Fence.wide.fn fid/\(Fence.wide.depth.isSome=true->1<=m)/\CallsIn (Fence.wide.inRound l) (m-1) P fid args W R:=
 ⟨trivial,fun h=>by simp[Fence.wide] at h,(CallsIn.inRound l (callsIn_wide.2 (h.mono hm)))⟩
end Go.Proofs.YtcjjlikhlmfedaaGreatDoor
