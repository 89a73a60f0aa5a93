/- A part of the proof that a law of layer 12 holds, cut small by a program (names and blanks): Base, Base2, Base4, Base5, Base6, Hb. -/
import Derived.WalkKit
import Derived.WalkSpells
import Derived.WalkLawsBesides
import Derived.Deep.QuietTactic
import Derived.BigQuiet
import Derived.Lib.Hide
import Derived.Laws.AppendOwnNone
import Derived.Deep.Light
import Derived.Deep.LoopGhost
import Derived.Laws.MakeOwn
import Derived.Test.YtdmedlkonaclnaaGreatDoorRows
import Derived.RangeFuncNested
import Derived.RangeFuncCalls
import Derived.ArgAppend
import Derived.Deep.RegionLawGrows
import Derived.TacticsInMore
import Derived.OwnWalkIn
import Derived.Deep.RegionHeld3
import Derived.Shelf.Abstract
import Derived.Laws.EntriesVeiled
import Derived.LoopIn
import Derived.IntWalk
set_option maxRecDepth 100000
set_option maxHeartbeats 40000000
set_option linter.unusedVariables false
set_option linter.unusedSimpArgs false
namespace Go.Proofs.YtdmedlkonaclnaaGreatDoor
open Go.RowKit
open Nat renaming le_trans → nT, lt_of_lt_of_le → nL, le_refl → nR, le_of_lt → nS, le_succ → nF, le_add_right → nB
open Go.Proofs.Tryz renaming prog → nH
open Go renaming World → nJ, Value → nK
theorem qh {p:Prop} (h:p):Hid p:=Lib.hid h
theorem nP {p:Prop} (h:p:=by kernel_rfl):p:=h
theorem nQ {p:Prop} (h:p:=by omega):p:=h
theorem nU {p:Prop} (h:p:=by decide):p:=h
theorem nV {p:Prop} (h:p:=by simp):p:=h
theorem nW {p:Prop} (h:p:=by go_simp):p:=h
theorem nY {p:Prop} (h:p:=by rfl):p:=h
theorem nZ {p:Prop} (h:p:=by assumption):p:=h
theorem NT {p:Prop} (h:p:=by infer_instance):p:=h
section
open Classical in
noncomputable def af(w δ:nJ):nJ:=if Below w.heap.size w δ then δ else w
theorem eS(w δ:nJ):Below w.heap.size w (af w δ):=by
 unfold af;split
 ·assumption
 ·exact Below.refl _ _
theorem bN{w w':nJ}(h:Below w.heap.size w w'):af w w'=w':=by unfold af;rw[if_pos h]
theorem jm(w δ:nJ):w.heap.size<=(af w δ).heap.size:=(eS w δ).size
theorem DG(w δ ε:nJ):af (af w δ) ε=af w (af (af w δ) ε):=
 (bN ((eS w δ).trans ((eS _ ε).mono (jm _ _)))).symm
theorem bw(w:nJ):af w w=w:=bN (Below.refl _ _)
theorem GU(w:nJ):w.drew=af w w.drew:=(bN (Below.refl _ _).drew).symm
class Lt(b:Nat)(w:nJ):Prop where
 out:b<w.heap.size
class Le(B:Nat)(w:nJ):Prop where
 out:B<=w.heap.size
instance{b:Nat}{w δ:nJ}[h:Lt b w]:Lt b (af w δ):=⟨nL h.out (jm w δ)⟩
instance{b:Nat}{w:nJ}{o:Obj}[h:Lt b w]:Lt b (w.alloc o):=⟨by simpa using Nat.lt_succ_of_lt h.out⟩
instance{b:Nat}{w:nJ}[h:Lt b w]:Lt b w.drew:=⟨h.out⟩
instance{b:Nat}{w:nJ}{p:Addr}{u:nK}[h:Lt b w]:Lt b (w.setCell p u):=⟨by simpa [World.setCell] using h.out⟩
instance{w:nJ}{a:Obj}:Lt w.heap.size (w.alloc a):=⟨nV⟩
instance{w:nJ}{a b:Obj}:Lt (w.heap.size+1) ((w.alloc a).alloc b):=⟨nV⟩
instance{w:nJ}{a b c:Obj}:Lt (w.heap.size+2) (((w.alloc a).alloc b).alloc c):=⟨nV⟩
instance{w:nJ}{a b c d:Obj}:Lt (w.heap.size+3) ((((w.alloc a).alloc b).alloc c).alloc d):=⟨nV⟩
instance{w:nJ}{a b c d e:Obj}:Lt (w.heap.size+4) (((((w.alloc a).alloc b).alloc c).alloc d).alloc e):=⟨nV⟩
instance{w:nJ}{a b c d e f:Obj}:Lt (w.heap.size+5) ((((((w.alloc a).alloc b).alloc c).alloc d).alloc e).alloc f):=⟨nV⟩
instance{w:nJ}{a b c d e f g:Obj}:Lt (w.heap.size+6) (((((((w.alloc a).alloc b).alloc c).alloc d).alloc e).alloc f).alloc g):=⟨nV⟩
instance{w:nJ}{a b c d e f g h:Obj}:Lt (w.heap.size+7) ((((((((w.alloc a).alloc b).alloc c).alloc d).alloc e).alloc f).alloc g).alloc h):=⟨nV⟩
instance{w:nJ}:Le w.heap.size w:=⟨nR _⟩
instance{B:Nat}{w δ:nJ}[h:Le B w]:Le B (af w δ):=⟨nT h.out (jm w δ)⟩
instance{B:Nat}{w:nJ}{o:Obj}[h:Le B w]:Le B (w.alloc o):=⟨by simpa using Nat.le_succ_of_le h.out⟩
instance{B:Nat}{w:nJ}[h:Le B w]:Le B w.drew:=⟨h.out⟩
instance{B:Nat}{w:nJ}{p:Addr}{u:nK}[h:Le B w]:Le B (w.setCell p u):=⟨by simpa [World.setCell] using h.out⟩
instance{w:nJ}{a:Obj}:Le (w.heap.size+1) (w.alloc a):=⟨nV⟩
instance{w:nJ}{a b:Obj}:Le (w.heap.size+2) ((w.alloc a).alloc b):=⟨nV⟩
instance{w:nJ}{a b c:Obj}:Le (w.heap.size+3) (((w.alloc a).alloc b).alloc c):=⟨nV⟩
instance{w:nJ}{a b c d:Obj}:Le (w.heap.size+4) ((((w.alloc a).alloc b).alloc c).alloc d):=⟨nV⟩
instance{w:nJ}{a b c d e:Obj}:Le (w.heap.size+5) (((((w.alloc a).alloc b).alloc c).alloc d).alloc e):=⟨nV⟩
instance{w:nJ}{a b c d e f:Obj}:Le (w.heap.size+6) ((((((w.alloc a).alloc b).alloc c).alloc d).alloc e).alloc f):=⟨nV⟩
@[go_sem] theorem ab4(b:Nat)(w:nJ)[h:Lt b w]:b<w.heap.size:=h.out
@[go_sem] theorem ab5(b:Nat)(w:nJ)[h:Lt b w]:b<=w.heap.size:=nS h.out
@[go_sem] theorem Vw(b k:Nat)(w:nJ)[h:Lt b w]:b<w.heap.size+k:=Nat.lt_add_right k h.out
@[go_sem] theorem vH(b:Nat)(w:nJ)[h:Le b w]:b<=w.heap.size:=h.out
@[go_sem] theorem Vx(b k:Nat)(w:nJ)[h:Le b w]:b<=w.heap.size+k:=Nat.le_add_right_of_le h.out
@[go_sem] theorem vZ(w δ:nJ)(b o:Nat)[h:Lt b w]:(af w δ).cell? ⟨b,o,none⟩=w.cell? ⟨b,o,none⟩:=(eS w δ).cell (p:=⟨b,o,none⟩) h.out
@[go_sem] theorem XU(w δ:nJ)(b o:Nat)[h:Lt b w]:(af w δ).frozen? ⟨b,o,none⟩=w.frozen? ⟨b,o,none⟩:=(eS w δ).frozen (p:=⟨b,o,none⟩) h.out
def Same(B:Nat)(w W:nJ):Prop:=W.os=w.os/\W.tape=w.tape/\W.output=w.output/\∀k,k<B->W.heap[k]?=w.heap[k]?
theorem Same.below{B:Nat}{w W:nJ}(h:Same B w W)[hs:Le w.heap.size W]:Below B w W:=⟨h.1,h.2.1,h.2.2.1,hs.out,h.2.2.2⟩
theorem Same.of{B:Nat}{w W:nJ}(h:Below B w W):Same B w W:=⟨h.os,h.tape,h.output,h.block⟩
@[go_sem] theorem BQ(B:Nat)(w:nJ):Same B w w:=⟨rfl,rfl,rfl,fun _ _=>rfl⟩
@[go_sem] theorem EY(B:Nat)(w W δ:nJ)[hB:Le B W]:Same B w (af W δ)↔Same B w W:=by
 have hb:=eS W δ;unfold Same;rw[hb.os,hb.tape,hb.output];constructor
 ·rintro⟨a,b,c,d⟩;exact⟨a,b,c,fun k hk=>(hb.block k (nL hk hB.out)).symm.trans (d k hk)⟩
 ·rintro⟨a,b,c,d⟩;exact⟨a,b,c,fun k hk=>(hb.block k (nL hk hB.out)).trans (d k hk)⟩
@[go_sem] theorem IV(B:Nat)(w W:nJ)(o:Obj)[hB:Le B W]:Same B w (W.alloc o)↔Same B w W:=by
 have hb:∀k,k<B->(W.alloc o).heap[k]?=W.heap[k]?:=fun k hk=>Below.heap_alloc W o k (nL hk hB.out);constructor
 ·rintro⟨a,b,c,d⟩;exact⟨a,b,c,fun k hk=>(hb k hk).symm.trans (d k hk)⟩
 ·rintro⟨a,b,c,d⟩;exact⟨a,b,c,fun k hk=>(hb k hk).trans (d k hk)⟩
@[go_sem] theorem YF(B:Nat)(w W:nJ):Same B w W.drew↔Same B w W:=Iff.rfl
@[go_sem] theorem Di(B:Nat)(w W:nJ)(p:Addr)(u:nK)(hB:B<=p.block):Same B w (W.setCell p u)↔Same B w W:=by
 have hb:∀k,k<B->(W.setCell p u).heap[k]?=W.heap[k]?:=fun k hk=>Below.heap_setCell W p u k nQ;constructor
 ·rintro⟨a,b,c,d⟩;exact⟨a,b,c,fun k hk=>(hb k hk).symm.trans (d k hk)⟩
 ·rintro⟨a,b,c,d⟩;exact⟨a,b,c,fun k hk=>(hb k hk).trans (d k hk)⟩
class oy(a b:Nat):Prop where
 out:a<=b
instance{B:Nat}{w:nJ}[h:Le B w]:oy B w.heap.size:=⟨h.out⟩
instance{B a k:Nat}[h:oy B a]:oy B (a+k):=⟨Nat.le_add_right_of_le h.out⟩
class au(B:Nat)(w W:nJ):Prop where
 out:Same B w W
instance{B:Nat}{w:nJ}:au B w w:=⟨BQ _ _⟩
instance{B:Nat}{w W δ:nJ}[h:au B w W][Le B W]:au B w (af W δ):=⟨(EY _ _ _ _).2 h.out⟩
instance{B:Nat}{w W:nJ}{o:Obj}[h:au B w W][Le B W]:au B w (W.alloc o):=⟨(IV _ _ _ _).2 h.out⟩
instance{B:Nat}{w W:nJ}[h:au B w W]:au B w W.drew:=⟨h.out⟩
instance{B b i:Nat}{w W:nJ}{u:nK}[h:au B w W][hb:oy B b]:au B w (W.setCell ⟨b,i,none⟩ u):=⟨(Di _ _ _ ⟨b,i,none⟩ _ hb.out).2 h.out⟩
theorem aq{w W:nJ}[h:au w.heap.size w W][Le w.heap.size W]:W=af w W:=(bN h.out.below).symm
theorem ag{w W:nJ}[h:au w.heap.size w W][Le w.heap.size W]:∃δ,W=af w δ:=⟨W,(bN h.out.below).symm⟩
theorem fk{w W:nJ}[h:au w.heap.size w W][Le w.heap.size W]:Below w.heap.size w W:=h.out.below
theorem Bl{P:Program}{id:Nat}{Q:Exit->Act->nJ->Prop}{a:Act}{w:nJ}{l:List Oper}(hm:P.follows .mixedOrders=true)(hB:Region.lexB .any l.toArray=true)(h:wpQuiet P l.toArray (fun w'=>∃δ,w'=af w δ) (fun a'=>∀w',(∃δ,w'=af w δ)->Q .normal a' w') l a):(Code.region id l.toArray true).wp P Q a w:=
 wp_region_quiet (C:=fun w'=>∃δ,w'=af w δ) hm hB ⟨_,GU w⟩ (by simpa using h)
theorem Calls.bN{P:Program}{f:FuncId}{args:Array nK}{w:nJ}{n:nJ}{v:nK}(h:Calls P f args (af w n) fun e w'=>e=.returned v/\∃δ,w'=af (af w n) δ):Calls P f args (af w n) fun e w''=>e=.returned v/\∃m,w''=af w m:=
 h.mono fun _ _ ⟨he,m,hm⟩=>⟨he,af (af w n) m,by rw[hm,<-DG]⟩
theorem Calls.lC{P:Program}{f:FuncId}{args:Array nK}{w:nJ}{n:nJ}{v:nK}(h:Calls P f args (af w n) fun e w'=>e=.returned v/\af w n=w'):Calls P f args (af w n) fun e w''=>e=.returned v/\∃m,w''=af w m:=
 h.mono fun _ _ ⟨he,hm⟩=>⟨he,n,hm.symm⟩
theorem aL{P:Program}{c:Code}{Q:Exit->Act->nJ->Prop}{a:Act}{w:nJ}(h:∀W,Hid (W=w)->c.wp P Q a W):c.wp P Q a w:=h w rfl
theorem bu{a b:Bool}(h:a=b):Ending.returned (.bool a)=Ending.returned (.bool b):=by rw[h]
theorem cG{k:IntKind}{a b:Int}(h:a=b):Ending.returned (.int k a)=Ending.returned (.int k b):=by rw[h]
theorem int_eq{k:IntKind}{a b:Int}(h:a=b):Value.int k a=Value.int k b:=by rw[h]
theorem KY{x:Int}(h:-9223372036854775808<=x/\x<=9223372036854775807):wrap64 x=x:=IntWalk.wrap64_in _ h
def nth{α:Type}[Inhabited α](xs:List α)(k:Nat):α:=xs.getD k default
theorem bR{α:Type}[Inhabited α](xs:List α){k:Nat}(h:k<xs.length):nth xs k=xs[k]:=by simp[nth,List.getD,h]
theorem aV{α:Type}[Inhabited α](xs:List α){k:Nat}(h:k<xs.length):nth xs k∈xs:=by rw[bR _ h];exact List.getElem_mem h
theorem bE{α:Type}[Inhabited α](xs:List α){k:Nat}(h:k<xs.length):xs.take (k+1)=xs.take k++[nth xs k]:=by rw[List.take_succ_eq_append_getElem h,bR _ h]
def fH(low high x:Int):Bool:=decide (low<=x/\x<=high)
def Ej(lf:Int)(xs:List Int):Bool:=xs.all (fH 0 lf)
theorem dn{low high x:Int}:fH low high x=true↔low<=x/\x<=high:=by simp[fH]
theorem fo{w:nJ}{b i:Nat}{v:nK}(h:w.cell? ⟨b,i,none⟩=some v):w.setCell ⟨b,i,none⟩ v=w:=by
 obtain⟨heap,tape,drawn,os,output⟩:=w;simp only[World.setCell,World.cell?] at *;congr 1;apply Array.ext_getElem?;intro k;rw[Array.getElem?_modify];by_cases hk:b=k
 ·subst hk;rw[if_pos rfl];cases hh:heap[b]? with
  |none=>rfl
  |some o=>
   rw[hh] at h
   cases o with
   |cells c t f=>
    simp only[Option.isSome_none,Bool.false_eq_true,if_false] at h
    simp only[Option.map_some,Option.isSome_none,Bool.false_eq_true,if_false]
    have:c.setIfInBounds i v=c:=by
     apply Array.ext_getElem?;intro j;rw[Array.getElem?_setIfInBounds];split
     ·rename_i hij;subst hij;split
      ·rw[h]
      ·rename_i hlt;rw[Array.getElem?_eq_none nQ] at h;cases h
     ·rfl
    rw[this]
   |_=>cases h
 ·rw[if_neg hk]
theorem j9(w:nJ)(b i:Nat)(u v:nK):(w.setCell ⟨b,i,none⟩ u).setCell ⟨b,i,none⟩ v=w.setCell ⟨b,i,none⟩ v:=by
 obtain⟨heap,tape,drawn,os,output⟩:=w;simp only[World.setCell];congr 1;apply Array.ext_getElem?;intro k;simp only[Array.getElem?_modify];by_cases hk:b=k
 ·simp only[hk,if_true,Option.map_map];cases heap[k]? with
  |none=>rfl
  |some o=>
   cases o with
   |cells c t f=>simp[Array.setIfInBounds_setIfInBounds]
   |_=>rfl
 ·simp only[hk,if_false]
theorem Gd{w0:nJ}(δ0 δ:nJ){b i:Nat}{v0:nK}(x y:nK)(h:w0.cell? ⟨b,i,none⟩=some v0)[hb:Lt b w0]:∃δ',(af ((af w0 δ0).setCell ⟨b,i,none⟩ x) δ).setCell ⟨b,i,none⟩ y=(af w0 δ').setCell ⟨b,i,none⟩ y:=by
 have hsz:((af w0 δ0).setCell ⟨b,i,none⟩ x).heap.size=(af w0 δ0).heap.size:=by simp[World.setCell]
 have hL:=eS ((af w0 δ0).setCell ⟨b,i,none⟩ x) δ;have hl0:=eS w0 δ0;have QY:(af w0 δ0).setCell ⟨b,i,none⟩ v0=af w0 δ0:=fo (by rw[vZ,h]);have XL:∀k,k<w0.heap.size->((af ((af w0 δ0).setCell ⟨b,i,none⟩ x) δ).setCell ⟨b,i,none⟩ v0).heap[k]?=w0.heap[k]?:=by
  intro k hk;have h2:k<(af w0 δ0).heap.size:=nL hk (jm _ _);have e1:=hL.block k nQ;have e2:((af ((af w0 δ0).setCell ⟨b,i,none⟩ x) δ).setCell ⟨b,i,none⟩ v0).heap[k]?=(((af w0 δ0).setCell ⟨b,i,none⟩ x).setCell ⟨b,i,none⟩ v0).heap[k]?:=by
   simp only[World.setCell] at e1 ⊢;simp only[Array.getElem?_modify] at e1 ⊢;by_cases hk':b=k
   ·simp only[hk',if_true] at e1 ⊢;rw[e1]
   ·simp only[hk',if_false] at e1 ⊢;rw[e1]
  rw[e2,j9,QY];exact hl0.block k hk
 have hB:Below w0.heap.size w0 ((af ((af w0 δ0).setCell ⟨b,i,none⟩ x) δ).setCell ⟨b,i,none⟩ v0):=by
  refine⟨?_,?_,?_,?_,XL⟩
  ·exact hL.os.trans hl0.os
  ·exact hL.tape.trans hl0.tape
  ·exact hL.output.trans hl0.output
  ·have:=hL.size;have:=hl0.size;simp only[World.setCell,Array.size_modify] at *;omega
 exact⟨_,by rw[bN hB,j9]⟩
theorem We{P:Program}{f:FuncId}{args:Array nK}{w:nJ}{R:Ending->nJ->Prop}{b i:Nat}{v:nK}(h:w.cell? ⟨b,i,none⟩=some v)(hc:Calls P f args ((af w w).setCell ⟨b,i,none⟩ v) R):Calls P f args w R:=by rwa [bw,fo h] at hc
def Cells(w:nJ)(B:Nat)(A:Option Addr)(cs:List nK):Prop:=
 cs≠[]->∃b o,A=some ⟨b,o,none⟩/\b<B/\∀j v,cs[j]?=some v->w.cell? ⟨b,o+j,none⟩=some v
theorem Cells.nil{w:nJ}{B:Nat}{A:Option Addr}:Cells w B A []:=fun h=>absurd rfl h
theorem Cells.lQ{w w':nJ}{B B':Nat}{A:Option Addr}{cs:List nK}(h:Cells w B A cs)(hB:B<=B')(hk:∀b o,b<B->w'.cell? ⟨b,o,none⟩=w.cell? ⟨b,o,none⟩):Cells w' B' A cs:=fun hc=>by obtain⟨b,o,hA,hb,hv⟩:=h hc;exact⟨b,o,hA,nL hb hB,fun j v hj=>(hk b _ hb).trans (hv j v hj)⟩
def Sl{α:Type}(enc:α->List nK)(B:Nat)(w:nJ)(A:Option Addr)(c:Nat)(xs:List α):Prop:=
 xs.length<=c/\c<=9223372036854775807/\Cells w B A (xs.flatMap enc)
section
variable{α:Type}{enc:α->List nK}{B:Nat}{w w':nJ}{A:Option Addr}{c:Nat}{xs:List α}
theorem Sl.none_:Sl enc B w A 0 ([]:List α):=⟨nR _,nQ,Cells.nil⟩
theorem Sl.lQ(h:Sl enc B w A c xs){B':Nat}(hB:B<=B')(hk:∀b o,b<B->w'.cell? ⟨b,o,none⟩=w.cell? ⟨b,o,none⟩):Sl enc B' w' A c xs:=⟨h.1,h.2.1,h.2.2.lQ hB hk⟩
theorem Sl.more(h:Sl enc B w A c xs){B':Nat}(hB:B<=B'):Sl enc B' w A c xs:=h.lQ hB fun _ _ _=>rfl
theorem Sl.len(h:Sl enc B w A c xs):xs.length<=9223372036854775807:=nT h.1 h.2.1
theorem Sy(hk:∀b o,b<B->w'.cell? ⟨b,o,none⟩=w.cell? ⟨b,o,none⟩):Sl enc B w' A c xs↔Sl enc B w A c xs:=
 ⟨fun h=>h.lQ (nR _) fun b o hb=>(hk b o hb).symm,fun h=>h.lQ (nR _) hk⟩
theorem aZ(h:Same B w w'):∀b o,b<B->w'.cell? ⟨b,o,none⟩=w.cell? ⟨b,o,none⟩:=fun b o hb=>World.cell?_of_block (a:=⟨b,o,none⟩) (h.2.2.2 b hb)
@[go_sem] theorem AT(δ:nJ)[hB:Le B w]:Sl enc B (af w δ) A c xs↔Sl enc B w A c xs:=Sy (aZ ((EY B w w δ).2 (BQ _ _)))
theorem Sl.up(h:Sl enc B w A c xs)[hg:au B w w']:Sl enc B w' A c xs:=(Sy (aZ hg.out)).2 h
@[go_sem] theorem Ma:Sl enc B w.drew A c xs↔Sl enc B w A c xs:=Iff.rfl
theorem Sl.at_(h:Sl enc B w A c xs){size:Nat}(hs:∀x,(enc x).length=size){k:Nat}(hk:k<xs.length)(h0:0<size):∃b o,A=some ⟨b,o,none⟩/\b<B/\∀j v,(enc xs[k])[j]?=some v->w.cell? ⟨b,o+(k*size+j),none⟩=some v:=by
 have key:∀(l:List α) (k:Nat) (hk:k<l.length) (j:Nat) (v:nK),(enc l[k])[j]?=some v->(l.flatMap enc)[k*size+j]?=some v:=by
  intro l;induction l with
  |nil=>intro k hk;simp at hk
  |cons x l ih=>
   intro k hk j v hv
   rw[List.flatMap_cons]
   cases k with
   |zero=>
    rw[Nat.zero_mul,Nat.zero_add,List.getElem?_append_left]
    ·exact hv
    ·exact(List.getElem?_eq_some_iff.1 hv).1
   |succ k=>
    rw[List.getElem?_append_right (by rw[hs,Nat.succ_mul];omega),hs,Nat.succ_mul,show k*size+size+j-size=k*size+j by omega]
    exact ih k (by simpa using hk) j v hv
 have hne:xs.flatMap enc≠[]:=by
  intro he;have hl:0<(enc xs[k]).length:=by rw[hs];exact h0
  have:=key xs k hk 0 _ (List.getElem?_eq_getElem hl);rw[he] at this;cases this
 obtain⟨b,o,hA,hb,hc⟩:=h.2.2 hne;exact⟨b,o,hA,hb,fun j v hv=>hc _ v (key xs k hk j v hv)⟩
end
theorem Cells.bU{w:nJ}{base:Nat}{e:TypeId}{size n c:Nat}{A:Option Addr}{xs:List nK}(h:w.ownsRow base e size (.slice A n c) n xs):Cells w w.heap.size A xs:=by
 intro hne;rcases h.2 with⟨hv,rfl⟩|⟨g,cap,cur,hv,_,hh,hnc,_,hcs,ht⟩
 ·have:=h.1;simp at this;exact absurd this hne
 ·injection hv with hA _ hc;subst hA hc;refine⟨g,0,rfl,?_,?_⟩
  ·rcases Nat.lt_or_ge g w.heap.size with hlt|hge
   ·exact hlt
   ·rw[Array.getElem?_eq_none hge] at hh;cases hh
  ·intro j v hj;have hcell:=h.cells (g:=g) rfl j v hj;simpa [Addr.add_lit] using hcell
theorem Sl.bU{α:Type}{enc:α->List nK}{w:nJ}{base:Nat}{e:TypeId}{size c:Nat}{A:Option Addr}{xs:List α}(h:w.ownsRow base e size (.slice A xs.length c) xs.length (xs.flatMap enc)):Sl enc w.heap.size w A c xs:=by
 refine⟨?_,?_,Cells.bU h⟩
 ·rcases h.2 with⟨hv,h0⟩|⟨g,cap,cur,hv,_,hh,hnc,_,hcs,ht⟩
  ·omega
  ·injection hv with _ _ hc;omega
 ·rcases h.2 with⟨hv,h0⟩|⟨g,cap,cur,hv,_,hh,hnc,hm,hcs,ht⟩
  ·injection hv with _ _ hc;omega
  ·injection hv with _ _ hc;unfold maxLen at hm;omega
theorem qt{w:nJ}{base:Nat}{e:TypeId}{size n:Nat}{v:nK}{xs:List nK}(h:w.ownsRow base e size v n xs):∃A c,v=.slice A n c:=by
 rcases h.2 with⟨rfl,rfl⟩|⟨g,cap,cur,rfl,_⟩
 ·exact⟨_,_,rfl⟩
 ·exact⟨_,_,rfl⟩
theorem kY{w:nJ}(δ:nJ){base:Nat}{e:TypeId}{size n:Nat}{v:nK}{xs:List nK}(h:w.ownsRow base e size v n xs):(af w δ).ownsRow base e size v n xs:=by
 refine⟨h.1,?_⟩;rcases h.2 with h2|⟨g,cap,cur,hv,hg,hh,r⟩
 ·exact .inl h2
 ·refine .inr ⟨g,cap,cur,hv,hg,?_,r⟩;rw[(eS w δ).block g,hh];rcases Nat.lt_or_ge g w.heap.size with hlt|hge
  ·exact hlt
  ·rw[Array.getElem?_eq_none hge] at hh;cases hh
end
theorem wpRl {P:Program} {id:Nat} {Q:Exit->Act->World->Prop} {a:Act} {w:World} {l:List Oper} (h:wpQuiet P l.toArray (fun w'=>∃δ,w'=af w δ) (fun a'=>∀w',(∃δ,w'=af w δ)->Q .normal a' w') l a) (hm:P.follows .mixedOrders=true:=by kernel_rfl) (hB:Region.lexB .any l.toArray=true:=by kernel_rfl):(Code.region id l.toArray true).wp P Q a w:=Bl hm hB h
theorem fI {B:Nat} {X W:World} (h:Hid (X=W)) [i:Le B W]:Le B X:=h.out▸i
theorem gu {B:Nat} {w X W:World} (h:Hid (X=W)) [i:au B w W]:au B w X:=h.out▸i
theorem nt {b:Nat} {X W:World} (h:Hid (X=W)) [i:Lt b W]:Lt b X:=h.out▸i
theorem CG (B:Nat) (w:World) {X W:World} (h:Hid (X=W)) [i1:Le B W] [i2:au B w W] [i3:Le w.heap.size W] [i4:au w.heap.size w W]:Le B X/\au B w X/\Le w.heap.size X/\au w.heap.size w X:=⟨fI h,gu h,fI h,gu h⟩
theorem Au (B:Nat) (w:World) {X W:World} (h:Hid (X=W)) [i1:Le B W] [i2:au B w W] [i3:Le w.heap.size W] [i4:au w.heap.size w W] [i5:Lt w.heap.size W]:Le B X/\au B w X/\Le w.heap.size X/\au w.heap.size w X/\Lt w.heap.size X:=⟨fI h,gu h,fI h,gu h,nt h⟩
theorem UG (B:Nat) (w:World) {X W:World} (h:Hid (X=W)) [i1:Le B W] [i2:au B w W] [i3:Le w.heap.size W] [i4:au w.heap.size w W] [i5:Lt w.heap.size W] [i6:Lt (w.heap.size+1) W]:Le B X/\au B w X/\Le w.heap.size X/\au w.heap.size w X/\Lt w.heap.size X/\Lt (w.heap.size+1) X:=⟨fI h,gu h,fI h,gu h,nt h,nt h⟩
structure QAB (p:Prop):Prop where
  o:p
theorem QAC {G H:Prop} (k:H) (h:QAB H->G:=by
 intro QAA
 try simp only[Act.put,List.getElem_toArray,List.getElem_cons_succ,List.getElem_cons_zero,List.setIfInBounds_toArray,List.set_cons_zero,List.set_cons_succ]
 exact QAA.o):G:=h ⟨k⟩
theorem QAD {G H:Prop} (k:H) (h:QAB H->G:=by
 intro QAA
 have g1:W1.heap.size<=(af W1 δ1).heap.size:=(inferInstance:Le W1.heap.size (af W1 δ1)).out
 have g2:w.heap.size+1+1<(af W1 δ1).heap.size:=nL ju.out g1
 have q1:au B w W2:=cm kg (inferInstance:Le B (af W1 δ1)).out
 have q2:au w.heap.size w W2:=cm kg (inferInstance:Le w.heap.size (af W1 δ1)).out
 have q3:Le B W2:=dB kg
 have q4:Le w.heap.size W2:=dB kg
 have q5:Le W1.heap.size W2:=dB kg
 have q6:w.heap.size+1+1<W1.heap.size:=ju.out
 have A2:Hid (ax W2 w.heap.size 39 (aE r t)):=qh (((b1.out.af _).alloc _).eM kg nQ)
 have D2:Hid (ax W2 (w.heap.size+1) _ _):=qh (((B2.out.af _).alloc _).eM kg nQ)
 have Z2:Hid (ax W2 (w.heap.size+1+1) 39 (aE dc cO)):=qh (((b3.out.af _).alloc _).eM kg nQ)
 have O2:Hid (aK W1.heap.size W2 r1 t):=qh ((O1.out.alloc _).aR kg (ax.new rfl) nU)
 obtain⟨g,hg⟩:∃g,(af W1 δ1).heap.size=g:=⟨_,rfl⟩
 revert g1 g2 q1 q2 q3 q4 q5 q6 A2 D2 Z2 O2 g hg
 exact QAA.o):G:=h ⟨k⟩
theorem QAE {G H:Prop} (k:H) (h:QAB H->G:=by
 intro QAA
 refine aL fun W1 aH=>?_
 obtain⟨cJ,dF,cU,dA,dD⟩:=Au B w aH
 have um:W1.cell? ⟨w.heap.size,0,none⟩=some (.slice kA h.kinds.length kc):=by rw[aH.out];go_simp
 have mV:W1.cell? ⟨w.heap.size,1,none⟩=some (.int .i64 h.floor):=by rw[aH.out];go_simp
 have kR:W1.cell? ⟨w.heap.size,2,none⟩=some (.slice pA h.parts.length pc):=by rw[aH.out];go_simp
 have mG:W1.cell? ⟨w.heap.size,3,none⟩=some (.slice bA h.bars.length bc):=by rw[aH.out];go_simp
 revert W1 aH cJ dF cU dA dD um mV kR mG
 exact QAA.o):G:=h ⟨k⟩
theorem QAF {G H:Prop} (k:H) (h:QAB H->G:=by
 intro QAA
 unfold wpOp
 show if Region.wanted _ _=true then _ else _
 rw[if_pos nY]
 left
 unfold Oper.wp
 go_simp
 exact QAA.o):G:=h ⟨k⟩
theorem QAG {G H:Prop} (k:H) (h:QAB H->G:=by
 intro QAA
 have HV:=qh hv
 have HX:=qh hX
 have H:=qh hD
 have HL:=qh hL
 have lB:=hD.le
 have l8:Le 8 w:=⟨nT h8 lB.out⟩
 have lD:=hD.eE.box.lt
 obtain⟨ws,pO⟩:∃x,bG l=x:=⟨_,rfl⟩
 have Hy:Hid (Calls nH 86 #[.string (str l),.string ⟨#[32]⟩] w fun e w'=>∃(A:Option Addr) (n c:Nat) (δ:nJ),e=.returned (.slice A n c)/\ws.length=n/\w'=af w δ/\fN 9 aX (af w δ).heap.size (af w δ) A c ws):=qh (by rw[<-pO];exact Tg l hl w hL)
 have hw0:0<ws.length:=by rw[<-pO];exact List.length_pos_iff.2 (oC l)
 have hwn:ws.length<=1001:=by rw[<-pO];have:=(jv l).1;omega
 have Mb:Hid (∀x∈ws,x.length<=1000):=qh fun x hx=>by have:=(jv l).2 x (pO▸hx);omega
 revert HV HX H HL lB l8 lD ws pO Hy hw0 hwn Mb
 exact QAA.o):G:=h ⟨k⟩
theorem QAH {G H:Prop} (k:H) (h:QAB H->G:=by
 intro QAA
 obtain⟨cJ,dF,cU,dA,dD,eI⟩:=UG B w aH
 have ju:Lt (w.heap.size+1+1) W1:=nt aH
 have kR:W1.cell? ⟨w.heap.size,0,none⟩=some (.int .i64 n.aP.lo):=by rw[aH.out];go_simp
 have mG:W1.cell? ⟨w.heap.size,1,none⟩=some (.int .i64 n.aP.hi):=by rw[aH.out];go_simp
 have jE:W1.cell? ⟨w.heap.size,2,none⟩=some (.int .i64 n.cur.lo):=by rw[aH.out];go_simp
 have mR:W1.cell? ⟨w.heap.size,3,none⟩=some (.int .i64 n.cur.hi):=by rw[aH.out];go_simp
 have mQ:W1.cell? ⟨w.heap.size,4,none⟩=some (.slice r.gA n.ay.length r.gc):=by rw[aH.out];go_simp
 have vX:W1.cell? ⟨w.heap.size,5,none⟩=some (.slice r.aA n.aB.length r.ac):=by rw[aH.out];go_simp
 have xB:W1.cell? ⟨w.heap.size,6,none⟩=some (.slice r.wA n.aU.length r.wc):=by rw[aH.out];go_simp
 have xA:W1.cell? ⟨w.heap.size+1,0,none⟩=some (.int .i64 0):=by rw[aH.out];go_simp
 have AF:W1.cell? ⟨w.heap.size+1,1,none⟩=some (.int .i64 0):=by rw[aH.out];go_simp
 have Ku:W1.cell? ⟨w.heap.size+1,2,none⟩=some (.int .i64 0):=by rw[aH.out];go_simp
 have Kt:W1.cell? ⟨w.heap.size+1,3,none⟩=some (.int .i64 0):=by rw[aH.out];go_simp
 have Ks:W1.cell? ⟨w.heap.size+1,4,none⟩=some (.slice none 0 0):=by rw[aH.out];go_simp
 have GX:W1.cell? ⟨w.heap.size+1,5,none⟩=some (.slice none 0 0):=by rw[aH.out];go_simp
 have Oj:W1.cell? ⟨w.heap.size+1,6,none⟩=some (.slice none 0 0):=by rw[aH.out];go_simp
 revert cJ dF cU dA dD eI ju kR mG jE mR mQ vX xB xA AF Ku Kt Ks GX Oj
 exact QAA.o):G:=h ⟨k⟩
theorem QAI {G H:Prop} (k:H) (h:QAB H->G:=by
 intro QAA
 refine aL fun W1 aH=>?_
 obtain⟨cJ,dF,cU,dA,dD,eI⟩:=UG B w aH
 have A1:Hid (ax W1 w.heap.size 39 (aE r t)):=by rw[aH.out];exact qh ((ax.new rfl).alloc _)
 have R1:Hid (ax W1 (w.heap.size+1) 39 (aE dc cO)):=by rw[aH.out];exact qh (ax.new nV)
 have M1:Hid (aS B W1 r t):=qh H.out.up
 have ib:Lt bb W1:=⟨nL ir cU.out⟩
 have nb1:qM bb w.heap.size:=⟨nQ⟩
 have nb2:qM w.heap.size bb:=⟨nQ⟩
 have d0:W1.cell? ⟨bb,oo,none⟩=some (.int .i64 (nth a 0)):=(HS.out.up (w':=W1)).kN (k:=0) hk0.out
 obtain⟨x0,hx0⟩:∃x,nth a 0=x:=⟨_,rfl⟩
 revert W1 aH cJ dF cU dA dD eI A1 R1 M1 ib nb1 nb2 d0 x0 hx0
 exact QAA.o):G:=h ⟨k⟩
theorem QAJ {G H:Prop} (k:H) (h:QAB H->G:=by
 intro QAA
 have g1:W1.heap.size<=(af W1 δ1).heap.size:=(inferInstance:Le W1.heap.size (af W1 δ1)).out
 have g2:w.heap.size+1<(af W1 δ1).heap.size:=nL eI.out g1
 have q1:au B w W2:=cm kg (inferInstance:Le B (af W1 δ1)).out
 have q2:au w.heap.size w W2:=cm kg (inferInstance:Le w.heap.size (af W1 δ1)).out
 have q3:Le B W2:=dB kg
 have q4:Le w.heap.size W2:=dB kg
 have q5:w.heap.size+1<W1.heap.size:=eI.out
 have D2:Hid (ax W2 w.heap.size 82 (cD k d)):=qh (((b1.out.af _).alloc _).eM kg nQ)
 have R2:Hid (ax W2 (w.heap.size+1) 82 (cD mJ mK)):=qh (((b2.out.af _).alloc _).eM kg nQ)
 revert g1 g2 q1 q2 q3 q4 q5 D2 R2
 exact QAA.o):G:=h ⟨k⟩
theorem QAK {G H:Prop} (k:H) (h:QAB H->G:=by
 intro QAA
 refine aL fun W1 aH=>?_
 obtain⟨cJ,dF,cU,dA,dD,eI⟩:=UG B w aH
 have ju:Lt (w.heap.size+2) W1:=nt aH
 have b1:Hid (ax W1 w.heap.size 39 (aE r t)):=by rw[aH.out];exact qh (((ax.new rfl).alloc _).alloc _)
 have b2:ax W1 (w.heap.size+1) 66 #[.int .i64 1,.string (str tx),.slice (some ⟨bb,oo,none⟩) a.length cap]:=by rw[aH.out];exact(ax.new nV).alloc _
 have b3:Hid (ax W1 (w.heap.size+1+1) 39 (aE dc cO)):=by rw[aH.out];exact qh (ax.new nV)
 have y1:=b2.cell (i:=1) rfl
 have y2:=b2.cell (i:=2) rfl
 have B2:=qh b2
 revert W1 aH cJ dF cU dA dD eI ju b1 b2 b3 y1 y2 B2
 exact QAA.o):G:=h ⟨k⟩
theorem QAL {G H:Prop} (k:H) (h:QAB H->G:=by
 intro QAA
 refine aL fun W1 aH=>?_
 obtain⟨cJ,dF,cU,dA,dD⟩:=Au B w aH
 have um:W1.cell? ⟨w.heap.size,0,none⟩=some (.int .i64 n.aP.lo):=by rw[aH.out];go_simp
 have mV:W1.cell? ⟨w.heap.size,1,none⟩=some (.int .i64 n.aP.hi):=by rw[aH.out];go_simp
 have kR:W1.cell? ⟨w.heap.size,2,none⟩=some (.int .i64 n.cur.lo):=by rw[aH.out];go_simp
 have mG:W1.cell? ⟨w.heap.size,3,none⟩=some (.int .i64 n.cur.hi):=by rw[aH.out];go_simp
 have jE:W1.cell? ⟨w.heap.size,4,none⟩=some (.slice r.gA n.ay.length r.gc):=by rw[aH.out];go_simp
 have mR:W1.cell? ⟨w.heap.size,5,none⟩=some (.slice r.aA n.aB.length r.ac):=by rw[aH.out];go_simp
 have mQ:W1.cell? ⟨w.heap.size,6,none⟩=some (.slice r.wA n.aU.length r.wc):=by rw[aH.out];go_simp
 revert W1 aH cJ dF cU dA dD um mV kR mG jE mR mQ
 exact QAA.o):G:=h ⟨k⟩
theorem QAM {G H:Prop} (k:H) (h:QAB H->G:=by
 intro QAA
 refine aL fun W1 aH=>?_
 have cJ:Le B W1:=fI aH
 have dF:au B w W1:=gu aH
 obtain⟨cU,dA,dD,eI⟩:=CG 8 w aH
 have ju:Lt (D) W1:=nt aH
 have H1:Hid (bZ X B D W1 k d ms):=qh H.out.up
 have mY:Hid (Sl aX W1.heap.size W1 A cap ws):=by rw[aH.out];exact qh HS.out.plain
 have rO:Hid (cT W1):=qh HL.out.up
 have lS:Le W1.heap.size W1:=⟨nR _⟩
 have lS8:Le 8 W1:=inferInstance
 have F1:Hid (Fr B jI w W1):=qh Fr.gj
 revert W1 aH cJ dF cU dA dD eI ju H1 mY rO lS lS8 F1
 exact QAA.o):G:=h ⟨k⟩
theorem QAN {G H:Prop} (k:H) (h:QAB H->G:=by
 intro QAA
 have p1:au w.heap.size w W5:=cm k5 (nB _ 2)
 have p2:Le w.heap.size W5:=dB k5
 refine eu ai Tryz.results142 rfl C5 rfl ?_
 revert p1 p2
 exact QAA.o):G:=h ⟨k⟩
theorem QAO {G H:Prop} (k:H) (h:QAB H->G:=by
 intro QAA
 have pG:Hid (Calls nH 87 #[.slice A ws.length cap] W1 (kD (bM ws) W1)):=qh (qU ws A cap hw0 Mb.out hwn W1.heap.size W1 mY.out rO.out)
 have qf:Hid (∀W:nJ,au W1.heap.size W1 W->Le W1.heap.size W->Le 8 W->cT W->Calls nH 90 #[.slice A ws.length cap] W (lJ (bM ws) W)):=qh fun W i1 i2 i3 h=>sE ws A cap hw0 Mb.out hwn W1.heap.size W mY.out.up h
 revert pG qf
 exact QAA.o):G:=h ⟨k⟩
theorem QAP {G H:Prop} (k:H) (h:QAB H->G:=by
 intro QAA
 refine aL fun W1 aH=>?_
 obtain⟨cJ,dF,cU,dA,dD,eI⟩:=UG B w aH
 have mV:W1.cell? ⟨w.heap.size,0,none⟩=some (.int .i64 n.aP.lo):=by rw[aH.out];go_simp
 have kR:W1.cell? ⟨w.heap.size,1,none⟩=some (.int .i64 n.aP.hi):=by rw[aH.out];go_simp
 have mG:W1.cell? ⟨w.heap.size,2,none⟩=some (.int .i64 n.cur.lo):=by rw[aH.out];go_simp
 have jE:W1.cell? ⟨w.heap.size,3,none⟩=some (.int .i64 n.cur.hi):=by rw[aH.out];go_simp
 have mR:W1.cell? ⟨w.heap.size,4,none⟩=some (.slice r.gA n.ay.length r.gc):=by rw[aH.out];go_simp
 have mQ:W1.cell? ⟨w.heap.size,5,none⟩=some (.slice r.aA n.aB.length r.ac):=by rw[aH.out];go_simp
 have vX:W1.cell? ⟨w.heap.size,6,none⟩=some (.slice r.wA n.aU.length r.wc):=by rw[aH.out];go_simp
 revert W1 aH cJ dF cU dA dD eI mV kR mG jE mR mQ vX
 exact QAA.o):G:=h ⟨k⟩
theorem QAQ {G H:Prop} (k:H) (h:QAB H->G:=by
 intro QAA
 have R9:W1.cell? ⟨w.heap.size+1,7,none⟩=some (.int .i64 0):=by rw[aH.out];go_simp
 have Oi:W1.cell? ⟨w.heap.size+1,8,none⟩=some (.int .i64 0):=by rw[aH.out];go_simp
 have R8:W1.cell? ⟨w.heap.size+1,9,none⟩=some (.slice none 0 0):=by rw[aH.out];go_simp
 have fw25:W1.frozen? ⟨w.heap.size+1,0,none⟩=false:=by rw[aH.out];go_simp
 have fw26:W1.frozen? ⟨w.heap.size+1,1,none⟩=false:=by rw[aH.out];go_simp
 have fw27:W1.frozen? ⟨w.heap.size+1,2,none⟩=false:=by rw[aH.out];go_simp
 have fw28:W1.frozen? ⟨w.heap.size+1,3,none⟩=false:=by rw[aH.out];go_simp
 have fw29:W1.frozen? ⟨w.heap.size+1,4,none⟩=false:=by rw[aH.out];go_simp
 have fw30:W1.frozen? ⟨w.heap.size+1,5,none⟩=false:=by rw[aH.out];go_simp
 have fw31:W1.frozen? ⟨w.heap.size+1,6,none⟩=false:=by rw[aH.out];go_simp
 have fw32:W1.frozen? ⟨w.heap.size+1,7,none⟩=false:=by rw[aH.out];go_simp
 have fw33:W1.frozen? ⟨w.heap.size+1,8,none⟩=false:=by rw[aH.out];go_simp
 have fw34:W1.frozen? ⟨w.heap.size+1,9,none⟩=false:=by rw[aH.out];go_simp
 revert R9 Oi R8 fw25 fw26 fw27 fw28 fw29 fw30 fw31 fw32 fw33 fw34
 exact QAA.o):G:=h ⟨k⟩
theorem QAR {G H:Prop} (k:H) (h:QAB H->G:=by
 intro QAA
 have HS:=qh hS
 have hl0:(0:Int)<(a.length:Int):=nQ
 have hk0:Hid (0<a.length):=qh nQ
 have hm0:0<a.length:=nQ
 have hl1:(1:Int)<(a.length:Int):=nQ
 have Ad:Hid (1<a.length):=qh nQ
 have sQ:1<a.length:=nQ
 revert HS hl0 hk0 hm0 hl1 Ad sQ
 exact QAA.o):G:=h ⟨k⟩
theorem QAS {G H:Prop} (k:H) (h:QAB H->G:=by
 intro QAA
 refine aL fun W1 aH=>?_
 obtain⟨cJ,dF,cU,dA,dD,eI⟩:=UG B w aH
 have b1:Hid (ax W1 w.heap.size 82 (cD k d)):=by rw[aH.out];exact qh ((ax.new rfl).alloc _)
 have b2:Hid (ax W1 (w.heap.size+1) 82 (cD mJ mK)):=by rw[aH.out];exact qh (ax.new nV)
 revert W1 aH cJ dF cU dA dD eI b1 b2
 exact QAA.o):G:=h ⟨k⟩
theorem QAT {G H:Prop} (k:H) (h:QAB H->G:=by
 intro QAA
 have p1:au w.heap.size w W9:=cm k9 (nF _)
 have p2:Le w.heap.size W9:=dB k9
 revert p1 p2
 exact QAA.o):G:=h ⟨k⟩
theorem QAU {G H:Prop} (k:H) (h:QAB H->G:=by
 intro QAA
 have C2:=qh C2
 have la:=A2.out.lt
 have ld:=D2.out.lt
 have lz:=Z2.out.lt
 have lg:=C2.out.lt
 have z1:=D2.out.cell (i:=1) rfl
 have z2:=D2.out.cell (i:=2) rfl
 have gg:=qh g2
 have d0:W2.cell? ⟨bb,oo,none⟩=some (.int .i64 (nth a 0)):=(HS.out.up (w':=W2)).kN (k:=0) hk0.out
 have d1:W2.cell? ⟨bb,oo+1,none⟩=some (.int .i64 (nth a 1)):=(HS.out.up (w':=W2)).kN (k:=1) Ad.out
 revert C2 la ld lz lg z1 z2 gg d0 d1
 exact QAA.o):G:=h ⟨k⟩
theorem QAV {G H:Prop} (k:H) (h:QAB H->G:=by
 intro QAA
 refine aL fun W1 aH=>?_
 obtain⟨cJ,dF,cU,dA,dD⟩:=Au B w aH
 have um:W1.cell? ⟨w.heap.size,0,none⟩=some (.int .i64 n.m):=by rw[aH.out];go_simp
 have mV:W1.cell? ⟨w.heap.size,1,none⟩=some (.slice r.hA n.hs.length r.hc):=by rw[aH.out];go_simp
 have kR:W1.cell? ⟨w.heap.size,2,none⟩=some (.slice r.pA n.ps.length r.pc):=by rw[aH.out];go_simp
 revert W1 aH cJ dF cU dA dD um mV kR
 exact QAA.o):G:=h ⟨k⟩
theorem QAW {G H:Prop} (k:H) (h:QAB H->G:=by
 intro QAA
 refine aL fun W1 aH=>?_
 obtain⟨cJ,dF,cU,dA,dD⟩:=Au B w aH
 have b1:ax W1 w.heap.size 39 (aE r t):=by rw[aH.out];exact ax.new rfl
 revert W1 aH cJ dF cU dA dD b1
 exact QAA.o):G:=h ⟨k⟩
theorem QAX {G H:Prop} (k:H) (h:QAB H->G:=by
 intro QAA
 refine aL fun W1 aH=>?_
 obtain⟨cJ,dF,cU,dA,dD,eI⟩:=UG B w aH
 have b1:ax W1 w.heap.size 39 (aE r t):=by rw[aH.out];exact(ax.new rfl).alloc _
 revert W1 aH cJ dF cU dA dD eI b1
 exact QAA.o):G:=h ⟨k⟩
theorem QAY {G H:Prop} (k:H) (h:QAB H->G:=by
 intro QAA
 have e02:W2.cell? ⟨b,o,none⟩=some (.string (str t0)):=(aZ a1.out _ _ ib.out).trans e0
 have ib2:Lt b W2:=⟨nL ib.out a2.out⟩
 have qN:Hid (cT W2):=qh HL.out.up
 have H2:Hid (bZ X B D W2 k d ms):=qh H1.out.up
 have F2:Hid (Fr B jI w W2):=qh (F1.out.trans (by have:=H1.out.le;exact Fr.gj))
 revert e02 ib2 qN H2 F2
 exact QAA.o):G:=h ⟨k⟩
theorem QAZ {G H:Prop} (k:H) (h:QAB H->G:=by
 intro QAA
 have VH:1<=ws.length:=hw0
 have hn2:(1:Int)<=(ws.length:Int):=nQ
 have VG:(0:Int)<(ws.length:Int):=nQ
 have VF:(1:Int)<=(cap:Int):=nQ
 have Us:(ws.length:Int)<=(cap:Int):=nQ
 have Bh:Hid ((ws.drop 1).length=ws.length-1):=qh (List.length_drop ..)
 have iX:Hid (∀W:nJ,au W1.heap.size W1 W->Le W1.heap.size W->Le 8 W->cT W->Calls nH 92 #[.slice A2 (ws.length-1) (cap-1)] W (pg (cR (ws.drop 1)) W)):=qh fun W i1 i2 i3 h=>Cn (ws.drop 1) A2 (ws.length-1) (cap-1) Bh.out (fun x hx=>Mb.out x (List.mem_of_mem_drop hx)) (by rw[List.length_drop];omega) W1.heap.size W Bv.out.up h
 revert VH hn2 VG VF Us Bh iX
 exact QAA.o):G:=h ⟨k⟩
theorem QBA {G H:Prop} (k:H) (h:QAB H->G:=by
 intro QAA
 have ib1:Lt bb W1:=⟨nL ir cJ.out⟩
 have CD:=qh ir
 have nb1:qM bb g:=⟨by have:=hB.out;have:=gg.out;omega⟩
 have nb2:qM g bb:=⟨by have:=hB.out;have:=gg.out;omega⟩
 revert ib1 CD nb1 nb2
 exact QAA.o):G:=h ⟨k⟩
theorem QBB {G H:Prop} (k:H) (h:QAB H->G:=by
 intro QAA
 unfold wpOp
 show if Region.wanted _ _=true then _ else _
 rw[if_pos nY]
 left
 exact QAA.o):G:=h ⟨k⟩
theorem QBC {G H:Prop} (k:H) (h:QAB H->G:=by
 intro QAA
 have H3:Hid (bZ X B D W3 k d ms):=qh H2.out.up
 have F3:Hid (Fr B jI w W3):=qh (F2.out.trans (by have:=H2.out.le;exact Fr.gj))
 have e03:W3.cell? ⟨b,o,none⟩=some (.string (str t0)):=(aZ a3.out _ _ ib2.out).trans e02
 have ib3:Lt b W3:=⟨nL ib2.out a4.out⟩
 revert H3 F3 e03 ib3
 exact QAA.o):G:=h ⟨k⟩
theorem QBD {G H:Prop} (k:H) (h:QAB H->G:=by
 intro QAA
 refine aL fun W3 bQ=>?_
 have i1:oy B g:=⟨nT hB.out (by have:=gg.out;omega)⟩
 have i2:oy w.heap.size g:=⟨by have:=gg.out;omega⟩
 have i3:oy B W1.heap.size:=⟨nT hB.out nQ⟩
 have i4:oy w.heap.size W1.heap.size:=⟨nQ⟩
 have q7:au B w W3:=gu bQ
 have q8:au w.heap.size w W3:=gu bQ
 have q9:Le B W3:=fI bQ
 have wu:Le w.heap.size W3:=fI bQ
 revert W3 bQ i1 i2 i3 i4 q7 q8 q9 wu
 exact QAA.o):G:=h ⟨k⟩
theorem QBE {G H:Prop} (k:H) (h:QAB H->G:=by
 intro QAA
 have k3:au B w W6:=⟨⟨k1.out.1,k1.out.2.1,k1.out.2.2.1,fun b hb=>k1.out.2.2.2 b (nL hb hB.out)⟩⟩
 have k4:Le B W6:=⟨nT hB.out k2.out⟩
 have k5:au 8 w W6:=⟨⟨k1.out.1,k1.out.2.1,k1.out.2.2.1,fun b hb=>k1.out.2.2.2 b (nL hb h8.out)⟩⟩
 have k6:Le 8 W6:=⟨nT h8.out k2.out⟩
 have k7:Le W6.heap.size W6:=⟨nR _⟩
 revert k3 k4 k5 k6 k7
 exact QAA.o):G:=h ⟨k⟩
theorem QBF {G H:Prop} (k:H) (h:QAB H->G:=by
 intro QAA
 have yb:Hid (∀W:nJ,au W1.heap.size W1 W->Le W1.heap.size W->Le 8 W->cT W->Calls nH 91 #[.slice A ws.length cap] W (rL ws W)):=qh fun W i1 i2 i3 h=>Fj ws A cap hw0 Mb.out hwn W1.heap.size W mY.out.up h
 revert yb
 exact QAA.o):G:=h ⟨k⟩
theorem QBG {G H:Prop} (k:H) (h:QAB H->G:=by
 intro QAA
 refine iu 5 (.int .i64 x0) rfl nP (Or.inl ⟨nY,by intro w5 h5;have e:=H9.out w5 h5.2;go_simp⟩) (⟨E0.out,G0⟩) ?_
 exact QAA.o):G:=h ⟨k⟩
theorem QBH {G H:Prop} (k:H) (h:QAB H->G:=by
 intro QAA
 have A3:Hid (ax W3 w.heap.size 39 (aE r t)):=by rw[bQ.out];exact qh (A4.out.fD (by have:=gg.out;show w.heap.size≠g;omega) _)
 have Z3:Hid (ax W3 (w.heap.size+1+1) 39 (aE dc cO)):=by rw[bQ.out];exact qh (Z4.out.fD (by have:=gg.out;show w.heap.size+1+1≠g;omega) _)
 revert A3 Z3
 exact QAA.o):G:=h ⟨k⟩
theorem QBI {G H:Prop} (k:H) (h:QAB H->G:=by
 intro QAA
 have k3:au B w W:=⟨⟨k1.out.1,k1.out.2.1,k1.out.2.2.1,fun b hb=>k1.out.2.2.2 b (nL hb hB.out)⟩⟩
 have k4:Le B W:=⟨nT hB.out k2.out⟩
 have k5:au 8 w W:=⟨⟨k1.out.1,k1.out.2.1,k1.out.2.2.1,fun b hb=>k1.out.2.2.2 b (nL hb h8.out)⟩⟩
 have k6:Le 8 W:=⟨nT h8.out k2.out⟩
 revert k3 k4 k5 k6
 exact QAA.o):G:=h ⟨k⟩
theorem QBJ {G H:Prop} (k:H) (h:QAB H->G:=by
 intro QAA
 have i8:au w.heap.size w wr:=⟨⟨i1.out.1.trans dA.out.1,i1.out.2.1.trans dA.out.2.1,i1.out.2.2.1.trans dA.out.2.2.1,fun b hb=>(i1.out.2.2.2 b (nL hb cU.out)).trans (dA.out.2.2.2 b hb)⟩⟩
 have i9:Le w.heap.size wr:=⟨nT cU.out i2.out⟩
 revert i8 i9
 exact QAA.o):G:=h ⟨k⟩
theorem QBK {G H:Prop} (k:H) (h:QAB H->G:=by
 intro QAA
 have i5:Le B wr:=⟨nT cJ.out i2.out⟩
 have i6:au B w wr:=⟨⟨i1.out.1.trans dF.out.1,i1.out.2.1.trans dF.out.2.1,i1.out.2.2.1.trans dF.out.2.2.1,fun b hb=>(i1.out.2.2.2 b (nL hb cJ.out)).trans (dF.out.2.2.2 b hb)⟩⟩
 have i7:au B W1 wr:=⟨⟨i1.out.1,i1.out.2.1,i1.out.2.2.1,fun b hb=>i1.out.2.2.2 b (nL hb cJ.out)⟩⟩
 have HO:=qh hown
 have HS:=qh hsub
 revert i5 i6 i7 HO HS
 exact QAA.o):G:=h ⟨k⟩
theorem QBL {G H:Prop} (k:H) (h:QAB H->G:=by
 intro QAA
 refine aL fun W3 bQ=>?_
 have i1:oy B g:=⟨nT hB.out (by have:=gg.out;omega)⟩
 have i2:oy w.heap.size g:=⟨by have:=gg.out;omega⟩
 have q7:au B w W3:=gu bQ
 have q8:au w.heap.size w W3:=gu bQ
 have q9:Le B W3:=fI bQ
 have wu:Le w.heap.size W3:=fI bQ
 revert W3 bQ i1 i2 q7 q8 q9 wu
 exact QAA.o):G:=h ⟨k⟩
theorem QBM {G H:Prop} (k:H) (h:QAB H->G:=by
 intro QAA
 have E9:Hid (ax W9 g 82 (cD kk d)):=qh HE.out.dM
 have l9:Le wr.heap.size W9:=dB k9
 have f1:au w.heap.size w W9:=⟨⟨g9.out.1.trans i1.out.1,g9.out.2.1.trans i1.out.2.1,g9.out.2.2.1.trans i1.out.2.2.1,fun b hb=>(g9.out.2.2.2 b (nL hb a2.out)).trans (i1.out.2.2.2 b hb)⟩⟩
 have f3:Le w.heap.size W9:=⟨nT a2.out l9.out⟩
 have f4:au B w W9:=⟨⟨f1.out.1,f1.out.2.1,f1.out.2.2.1,fun b hb=>f1.out.2.2.2 b (nL hb hB.out)⟩⟩
 have f5:Le B W9:=⟨nT hB.out f3.out⟩
 have f6:Le W9.heap.size W9:=⟨nR _⟩
 have Hz:Hid (Calls nH 33 #[aO k'.az xd.az] W9 fun e w'=>e=.returned (.bool (GM xd.az))/\∃δ,w'=af W9 δ):=qh (RE k'.az xd.az W9.heap.size W9 (To9.out.is H.out))
 have C9:=qh C9
 revert E9 l9 f1 f3 f4 f5 f6 Hz C9
 exact QAA.o):G:=h ⟨k⟩
theorem QBN {G H:Prop} (k:H) (h:QAB H->G:=by
 intro QAA
 refine aL fun W3 bQ=>?_
 have q8:au w.heap.size w W3:=gu bQ
 have wu:Le w.heap.size W3:=fI bQ
 revert W3 bQ q8 wu
 exact QAA.o):G:=h ⟨k⟩
theorem QBO {G H:Prop} (k:H) (h:QAB H->G:=by
 intro QAA
 have hcell:∀b o,b<W1.heap.size->wr.cell? ⟨b,o,none⟩=W1.cell? ⟨b,o,none⟩:=aZ i1.out
 have i3:Lt w.heap.size wr:=⟨nL dD.out i2.out⟩
 revert hcell i3
 exact QAA.o):G:=h ⟨k⟩
theorem QBP {G H:Prop} (k:H) (h:QAB H->G:=by
 intro QAA
 have d1:W1.cell? ⟨bb,oo+1,none⟩=some (.int .i64 (nth a 1)):=(HS.out.up (w':=W1)).kN (k:=1) Ad.out
 obtain⟨x1,hx1⟩:∃x,nth a 1=x:=⟨_,rfl⟩
 revert d1 x1 hx1
 exact QAA.o):G:=h ⟨k⟩
theorem QBQ {G H:Prop} (k:H) (h:QAB H->G:=by
 intro QAA
 have H9:Hid (∀W:nJ,au w.heap.size w W->W.cell? ⟨bb,oo,none⟩=some (.int .i64 x0)):=qh fun W i=>((HS.out.up (w':=W)).kN (k:=0) hk0.out).trans (by rw[hx0])
 have Bh:Hid (∀W:nJ,au w.heap.size w W->W.cell? ⟨bb,oo+1,none⟩=some (.int .i64 x1)):=qh fun W i=>((HS.out.up (w':=W)).kN (k:=1) Ad.out).trans (by rw[hx1])
 revert H9 Bh
 exact QAA.o):G:=h ⟨k⟩
theorem QBR {G H:Prop} (k:H) (h:QAB H->G:=by
 intro QAA
 have VH:1<=ws.length:=h0
 have hn2:(1:Int)<=(ws.length:Int):=nQ
 have VG:(0:Int)<(ws.length:Int):=nQ
 have VF:(1:Int)<=(cap:Int):=nQ
 have Us:(ws.length:Int)<=(cap:Int):=nQ
 have HD:Hid ((ws.drop 1).length=ws.length-1):=qh (List.length_drop ..)
 have V8:Hid (∀x∈ws.drop 1,x.length<=1000):=qh fun x hx=>qd.out x (List.mem_of_mem_drop hx)
 have HDN:Hid ((ws.drop 1).length<=1001):=qh (by rw[List.length_drop];omega)
 have iX:Hid (∀W:nJ,au B w W->Le B W->Le 8 W->cT W->Calls nH 92 #[.slice A2 (ws.length-1) (cap-1)] W (pg (cR (ws.drop 1)) W)):=qh fun W i1 i2 i3 h=>Cn (ws.drop 1) A2 (ws.length-1) (cap-1) HD.out V8.out HDN.out B W Bv.out.up h
 revert VH hn2 VG VF Us HD V8 HDN iX
 exact QAA.o):G:=h ⟨k⟩
theorem QBS {G H:Prop} (k:H) (h:QAB H->G:=by
 intro QAA
 have g1:W1.heap.size<=(af W1 δ1).heap.size:=(inferInstance:Le W1.heap.size (af W1 δ1)).out
 have g2:B<=(af W1 δ1).heap.size:=nT cJ.out g1
 have q1:au w.heap.size w W2:=cm k2 (nT cU.out g1)
 have q2:Le w.heap.size W2:=dB k2
 have q3:Le B W2:=dB k2
 have A2:Hid (ax W2 w.heap.size 39 (aE r t)):=qh (((A1.out.af _).alloc _).eM k2 (Nat.ne_of_lt (nL dD.out g1)))
 have R2:Hid (ax W2 (w.heap.size+1) 39 (aE dc cO)):=qh (((R1.out.af _).alloc _).eM k2 (Nat.ne_of_lt (nL eI.out g1)))
 have M2:Hid (aS B W2 r t):=qh ((M1.out.up (W:=(af W1 δ1).alloc _)).aR k2 (ax.new rfl) nU g2 (by simpa using Nat.le_succ_of_le g2))
 revert g1 g2 q1 q2 q3 A2 R2 M2
 exact QAA.o):G:=h ⟨k⟩
theorem QBT {G H:Prop} (k:H) (h:QAB H->G:=by
 intro QAA
 refine wpQuiet_nil ?_
 exact QAA.o):G:=h ⟨k⟩
theorem QBU {G H:Prop} (k:H) (h:QAB H->G:=by
 intro QAA
 have H9:Hid (∀W:nJ,au B w W->W.cell? ⟨bb,oo,none⟩=some (.int .i64 x0)):=qh fun W i=>((HS.out.up (w':=W)).kN (k:=0) hk0.out).trans (by rw[hx0])
 have Bh:Hid (∀W:nJ,au B w W->W.cell? ⟨bb,oo+1,none⟩=some (.int .i64 x1)):=qh fun W i=>((HS.out.up (w':=W)).kN (k:=1) Ad.out).trans (by rw[hx1])
 revert H9 Bh
 exact QAA.o):G:=h ⟨k⟩
theorem QBV {G H:Prop} (k:H) (h:QAB H->G:=by
 intro QAA
 refine iu 8 (.int .i64 x1) rfl nP (Or.inl ⟨nY,by intro w5 h5;have e:=Bh.out w5 h5.2;go_simp⟩) (⟨E0.out,G0⟩) ?_
 exact QAA.o):G:=h ⟨k⟩
theorem QBW {G H:Prop} (k:H) (h:QAB H->G:=by
 intro QAA
 have R3:Hid (ax W3 (w.heap.size+1) 39 (aE dc cO)):=by rw[bQ.out];exact qh ((R1.out.drew.af _).fD (by show w.heap.size+1≠w.heap.size;omega) _)
 revert R3
 exact QAA.o):G:=h ⟨k⟩
theorem QBX {G H:Prop} (k:H) (h:QAB H->G:=by
 intro QAA
 obtain⟨g,hg⟩:∃g,(af W2 δ5).heap.size=g:=⟨_,rfl⟩
 rw[hg]
 refine aL fun W3 bQ=>?_
 have a3:au W2.heap.size W2 W3:=gu bQ
 have a4:Le W2.heap.size W3:=fI bQ
 revert g hg W3 bQ a3 a4
 exact QAA.o):G:=h ⟨k⟩
theorem QBY {G H:Prop} (k:H) (h:QAB H->G:=by
 intro QAA
 have SX:Hid (∀i∈Sa.nq l (k:Int),i<h.parts.length):=qh fun i hi=>by have:=(Sa.LI.1 hi).1;have:=HL.out;omega
 have SY:Hid ((Sa.nq l (k:Int)).length<=6):=qh (nT (Sa.DN l _) OX)
 have qd:Hid ((DO l (k:Int)).length=(Sa.nq l (k:Int)).length):=by unfold Hid DO;rw[List.length_map]
 revert SX SY qd
 exact QAA.o):G:=h ⟨k⟩
theorem QBZ {G H:Prop} (k:H) (h:QAB H->G:=by
 intro QAA
 refine gv (ps:=[]) (cells:=#[.int .i64 0,.string ⟨#[]⟩,.nilFunc,.nilFunc]) rfl _ _ rfl rfl Js ?_
 refine ak (cs':=#[.int .i64 0,.string ⟨#[]⟩,.nilFunc,.nilFunc]) zm rfl _ _ rfl rfl rfl O5.out rfl rfl (by simp[Value.oneCell']) ?_
 exact QAA.o):G:=h ⟨k⟩
theorem QCA {G H:Prop} (k:H) (h:QAB H->G:=by
 intro QAA
 have HN:Hid (fW t _=none):=qh ((rG HE.out).trans (if_neg (by rw[lI];decide)))
 revert HN
 exact QAA.o):G:=h ⟨k⟩
theorem QCB {G H:Prop} (k:H) (h:QAB H->G:=by
 intro QAA
 have b2:ax W1 (w.heap.size+1) 66 #[.int .i64 2,.string (str tx),.slice A a.length cap]:=by rw[aH.out];exact ax.new nV
 revert b2
 exact QAA.o):G:=h ⟨k⟩
theorem QCC {G H:Prop} (k:H) (h:QAB H->G:=by
 intro QAA
 have V1:=qh v1
 have V2:=qh v2
 have V3:=qh v3
 have H:=qh hT
 revert V1 V2 V3 H
 exact QAA.o):G:=h ⟨k⟩
theorem QCD {G H:Prop} (k:H) (h:QAB H->G:=by
 intro QAA
 refine aL fun W1 aH=>?_
 obtain⟨cJ,dF,cU,dA,dD,eI⟩:=UG B w aH
 revert W1 aH cJ dF cU dA dD eI
 exact QAA.o):G:=h ⟨k⟩
theorem QCE {G H:Prop} (k:H) (h:QAB H->G:=by
 intro QAA
 have qg:Hid (bT B W1 ⟨kA,kc,pA,pc,bA,bc⟩ h):=qh HH.out.up
 revert qg
 exact QAA.o):G:=h ⟨k⟩
theorem QCF {G H:Prop} (k:H) (h:QAB H->G:=by
 intro QAA
 have n1:au w.heap.size w Z5:=dQ (inferInstance:au w.heap.size w X) gS
 have n2:Le w.heap.size Z5:=⟨nT (inferInstance:Le w.heap.size X).out lS.out⟩
 have n3:au B w Z5:=⟨⟨n1.out.1,n1.out.2.1,n1.out.2.2.1,fun b hb=>n1.out.2.2.2 b (nL hb hB.out)⟩⟩
 have n4:Le B Z5:=⟨nT hB.out n2.out⟩
 have n5:au 8 w Z5:=⟨⟨n1.out.1,n1.out.2.1,n1.out.2.2.1,fun b hb=>n1.out.2.2.2 b (nL hb h8.out)⟩⟩
 have n6:Le 8 Z5:=⟨nT h8.out n2.out⟩
 have n7:Le Z5.heap.size Z5:=⟨nR _⟩
 revert n1 n2 n3 n4 n5 n6 n7
 exact QAA.o):G:=h ⟨k⟩
theorem QCG {G H:Prop} (k:H) (h:QAB H->G:=by
 intro QAA
 have Vf:=mY
 have hcap:ws.length<=cap:=mY.out.1
 have e0:W1.cell? ⟨b,o,none⟩=some (.string (str (nth ws 0))):=e0
 have ib:Lt b W1:=⟨hb⟩
 obtain⟨A2,vU⟩:∃A2,(if cap=1 then some (⟨b,o,none⟩:Addr) else some ⟨b,o+1,none⟩)=A2:=⟨_,rfl⟩
 revert Vf hcap e0 ib A2 vU
 exact QAA.o):G:=h ⟨k⟩
theorem QCH {G H:Prop} (k:H) (h:QAB H->G:=by
 intro QAA
 have a1:au W1.heap.size W1 W2:=cm k2 (inferInstance:Le W1.heap.size (af (af (af W1 δ2) δ3) δ4)).out
 have a2:Le W1.heap.size W2:=dB k2
 have a3:Le B W2:=dB k2
 have a4:Le 8 W2:=⟨nT h8 a3.out⟩
 have H2:Hid (bZ X B D W2 k d ms):=qh H1.out.up
 have F2:Hid (Fr B jI w W2):=qh (F1.out.trans (by have:=H1.out.le;exact Fr.gj))
 have d14:W2.cell? ⟨D,14,none⟩=some (.slice k.oA d.aC.length k.oc):=H2.out.eE.box.cell rfl
 have lD2:=H2.out.eE.box.lt
 revert a1 a2 a3 a4 H2 F2 d14 lD2
 exact QAA.o):G:=h ⟨k⟩
theorem QCI {G H:Prop} (k:H) (h:QAB H->G:=by
 intro QAA
 have US:W1.cell? ⟨w.heap.size+1+1,2,none⟩=some (.slice none 0 0):=by rw[aH.out];go_simp
 have fw38:W1.frozen? ⟨w.heap.size+1+1,2,none⟩=false:=by rw[aH.out];go_simp
 have s1:Sl gI B W1 r.gA r.gc n.ay:=h.1.up
 have hlen:=s1.len
 revert US fw38 s1 hlen
 exact QAA.o):G:=h ⟨k⟩
theorem QCJ {G H:Prop} (k:H) (h:QAB H->G:=by
 intro QAA
 have A3:Hid (ax W3 w.heap.size 39 (aE r t)):=by rw[bQ.out];exact qh ((ax.fD (ax.fD (A2.out.drew) (by have:=gg.out;show w.heap.size≠g;omega) _) (by have:=gg.out;show w.heap.size≠g;omega) _))
 have Z3:Hid (ax W3 (w.heap.size+1+1) 39 (aE dc cO)):=by rw[bQ.out];exact qh ((ax.fD (ax.fD (Z2.out.drew) (by have:=gg.out;show w.heap.size+1+1≠g;omega) _) (by have:=gg.out;show w.heap.size+1+1≠g;omega) _))
 revert A3 Z3
 exact QAA.o):G:=h ⟨k⟩
theorem QCK {G H:Prop} (k:H) (h:QAB H->G:=by
 intro QAA
 refine dV 1 ((.func (.func 179) #[] #[.pointer (some ⟨m.gq,0,none⟩),.pointer (some ⟨m.gs,0,none⟩),.pointer (some ⟨m.gn,0,none⟩)])) rfl nP (Or.inl ⟨nY,by intro w5 h5;have e:=(ax.dM (hg:=h5) O2.out).cell (i:=2) (v:=(.func (.func 179) #[] #[.pointer (some ⟨m.gq,0,none⟩),.pointer (some ⟨m.gs,0,none⟩),.pointer (some ⟨m.gn,0,none⟩)])) rfl;go_simp⟩) (inferInstance) ?_
 exact QAA.o):G:=h ⟨k⟩
theorem QCL {G H:Prop} (k:H) (h:QAB H->G:=by
 intro QAA
 obtain⟨kn,hkn⟩:∃n,lG (bK x)=n:=⟨_,rfl⟩
 have HK:=qh fun(W:nJ)=>qD x hx kn hkn W
 have k4:¬kn=4:=by rw[<-hkn];exact hk
 have Zh:(kn==4)=false:=by simpa using k4
 have k4c:(kn != 4)=true:=by simpa using k4
 refine wpRl ?_
 revert kn hkn HK k4 Zh k4c
 exact QAA.o):G:=h ⟨k⟩
theorem QCM {G H:Prop} (k:H) (h:QAB H->G:=by
 intro QAA
 have ib:Lt bb W2:=⟨nL ir q3.out⟩
 obtain⟨x0,hx0⟩:∃x,nth a 0=x:=⟨_,rfl⟩
 revert ib x0 hx0
 exact QAA.o):G:=h ⟨k⟩
theorem QCN {G H:Prop} (k:H) (h:QAB H->G:=by
 intro QAA
 refine aL fun X hX=>?_
 have cJ:Le B X:=fI hX
 have dF:au B w X:=gu hX
 obtain⟨cU,dA,dD,eI,ju⟩:=Au 8 w hX
 have X2:Hid (ax X w.heap.size 39 (aE r t)):=by rw[hX.out];exact qh (ax.new rfl)
 obtain⟨g3,rj⟩:∃g,w.heap.size=g:=⟨_,rfl⟩
 revert X hX cJ dF cU dA dD eI ju X2 g3 rj
 exact QAA.o):G:=h ⟨k⟩
theorem QCO {G H:Prop} (k:H) (h:QAB H->G:=by
 intro QAA
 have mV:W1.cell? ⟨w.heap.size+1,0,none⟩=some (.slice kA h.kinds.length kc):=by rw[aH.out];go_simp
 have kR:W1.cell? ⟨w.heap.size+1,1,none⟩=some (.int .i64 h.floor):=by rw[aH.out];go_simp
 have mG:W1.cell? ⟨w.heap.size+1,2,none⟩=some (.slice pA h.parts.length pc):=by rw[aH.out];go_simp
 have jE:W1.cell? ⟨w.heap.size+1,3,none⟩=some (.slice bA h.bars.length bc):=by rw[aH.out];go_simp
 revert mV kR mG jE
 exact QAA.o):G:=h ⟨k⟩
theorem QCP {G H:Prop} (k:H) (h:QAB H->G:=by
 intro QAA
 refine aL fun W1 aH=>?_
 obtain⟨cJ,dF,cU,dA,dD⟩:=Au B w aH
 have um:W1.cell? ⟨w.heap.size,0,none⟩=some (.int .i64 n.aP.lo):=by rw[aH.out];go_simp
 have mV:W1.cell? ⟨w.heap.size,1,none⟩=some (.int .i64 n.aP.hi):=by rw[aH.out];go_simp
 have kR:W1.cell? ⟨w.heap.size,2,none⟩=some (.int .i64 n.cur.lo):=by rw[aH.out];go_simp
 have mG:W1.cell? ⟨w.heap.size,3,none⟩=some (.int .i64 n.cur.hi):=by rw[aH.out];go_simp
 revert W1 aH cJ dF cU dA dD um mV kR mG
 exact QAA.o):G:=h ⟨k⟩
theorem QCQ {G H:Prop} (k:H) (h:QAB H->G:=by
 intro QAA
 refine aL fun W2 eJ=>?_
 have a1:au W1.heap.size W1 W2:=gu eJ
 have a2:Le W1.heap.size W2:=fI eJ
 revert W2 eJ a1 a2
 exact QAA.o):G:=h ⟨k⟩
theorem QCR {G H:Prop} (k:H) (h:QAB H->G:=by
 intro QAA
 have mV:W1.cell? ⟨w.heap.size,0,none⟩=some (.slice kA h.kinds.length kc):=by rw[aH.out];go_simp
 have kR:W1.cell? ⟨w.heap.size,1,none⟩=some (.int .i64 h.floor):=by rw[aH.out];go_simp
 have mG:W1.cell? ⟨w.heap.size,2,none⟩=some (.slice pA h.parts.length pc):=by rw[aH.out];go_simp
 have jE:W1.cell? ⟨w.heap.size,3,none⟩=some (.slice bA h.bars.length bc):=by rw[aH.out];go_simp
 revert mV kR mG jE
 exact QAA.o):G:=h ⟨k⟩
theorem QCS {G H:Prop} (k:H) (h:QAB H->G:=by
 intro QAA
 have p1:au w.heap.size w W9:=cm k9 (nR _)
 have p2:Le w.heap.size W9:=dB k9
 revert p1 p2
 exact QAA.o):G:=h ⟨k⟩
theorem QCT {G H:Prop} (k:H) (h:QAB H->G:=by
 intro QAA
 have j1:¬(b.toNat:Int)<48:=nQ
 have j2:¬(57:Int)<(b.toNat:Int):=nQ
 have u1:IntKind.u8.wrap ((b.toNat:Int)-48)=((b.toNat-48:Nat):Int):=by rw[IntWalk.u8_in _ nQ];omega
 obtain⟨d,SN⟩:∃d,b.toNat-48=d:=⟨_,rfl⟩
 revert j1 j2 u1 d SN
 exact QAA.o):G:=h ⟨k⟩
theorem QCU {G H:Prop} (k:H) (h:QAB H->G:=by
 intro QAA
 have b1:Hid (ax W1 w.heap.size 39 (aE r t)):=by rw[aH.out];exact qh ((ax.new rfl).alloc _)
 have b2:Hid (ax W1 (w.heap.size+1) 39 (aE dc cO)):=by rw[aH.out];exact qh (ax.new nV)
 revert b1 b2
 exact QAA.o):G:=h ⟨k⟩
theorem QCV {G H:Prop} (k:H) (h:QAB H->G:=by
 intro QAA
 unfold Hid
 rw[ht.out,List.all_append,hn.out]
 exact QAA.o):G:=h ⟨k⟩
theorem QCW {G H:Prop} (k:H) (h:QAB H->G:=by
 intro QAA
 have hj:=HI.out _ (aV is hlt)
 have HN:Hid (Sa.fB h (is.take (k+1))=Sa.oP h (Sa.fB h (is.take k)) (nth h.parts (nth is k))):=by unfold Hid;rw[bE is hlt,Sa.rz]
 revert hj HN
 exact QAA.o):G:=h ⟨k⟩
theorem QCX {G H:Prop} (k:H) (h:QAB H->G:=by
 intro QAA
 have iX:Hid (∀W:nJ,au W1.heap.size W1 W->Le W1.heap.size W->Le 8 W->cT W->Calls nH 92 #[.slice A2 (ws.length-1) (cap-1)] W fun e w'=>∃(A:Option Addr) (c:Nat) (δ:nJ),e=.returned (.tuple #[.slice A 1 c,.bool true])/\w'=af W δ/\fN 3 aI (af W δ).heap.size (af W δ) A c [x]):=iX
 obtain⟨t0,ht0⟩:∃x,nth ws 0=x:=⟨_,rfl⟩
 revert iX t0 ht0
 exact QAA.o):G:=h ⟨k⟩
theorem QCY {G H:Prop} (k:H) (h:QAB H->G:=by
 intro QAA
 have ib:Lt b W1:=⟨nL hb cJ.out⟩
 have ib':Lt b' W1:=⟨nL hb' cJ.out⟩
 revert ib ib'
 exact QAA.o):G:=h ⟨k⟩
theorem QCZ {G H:Prop} (k:H) (h:QAB H->G:=by
 intro QAA
 have I3:Hid (aJ W3.heap.size W3 (r3) (t3)):=qh O3.out.is
 have lE:Le W3.heap.size W3:=⟨nR _⟩
 revert I3 lE
 exact QAA.o):G:=h ⟨k⟩
theorem QDA {G H:Prop} (k:H) (h:QAB H->G:=by
 intro QAA
 have HE:Hid (kz t ⟨.eX,a⟩=some ⟨t.aF,sJ t.ah (nth (Me.gz t.ah) 0).toNat,t.aa⟩):=by unfold Hid;rw[HE.out,if_neg hx]
 have ho:=Me.iL (Me.aD.1 V2.out).2.2.2.2.2
 have hol:(Me.gz t.ah).length=t.ah.hs.length:=Me.jB ho
 have h0:=(Me.yF ho).1 (aV (Me.gz t.ah) (k:=0) nQ)
 revert HE ho hol h0
 exact QAA.o):G:=h ⟨k⟩
theorem QDB {G H:Prop} (k:H) (h:QAB H->G:=by
 intro QAA
 refine eu cx Tryz.results74 rfl C9 rfl ?_
 exact QAA.o):G:=h ⟨k⟩
theorem QDC {G H:Prop} (k:H) (h:QAB H->G:=by
 intro QAA
 have JY:(W.putObj (D+1) (.loop { rec .ready none with state:=.busy })).heap[D+1]?=some (.loop { rec .ready none with state:=.busy }):=World.putObj_heap_same hlt
 have hk2:(W.putObj (D+1) (.loop { rec .ready none with state:=.busy })).heap[D]?=some (.deferred (some [])):=(World.putObj_heap_other nQ).trans k3
 revert JY hk2
 exact QAA.o):G:=h ⟨k⟩
theorem QDD {G H:Prop} (k:H) (h:QAB H->G:=by
 intro QAA
 have W2':=qh eJ
 have HF:=qh Uz
 have HB:=qh bQ
 have HU:=qh hu
 have HI:=qh Ux
 have HT:=qh hts
 have HNL:=qh xm
 have f1:¬k+1=i:=nQ
 have f2:(i:Int)<=(i:Int)+1:=nQ
 have f3:(i:Int)+1<=(k:Int)+1:=nQ
 have f4:(k:Int)+1<=(c:Int):=nQ
 have f5:(0:Int)<=(i:Int)+1:=nQ
 have f6:((i:Int)==(i:Int)+1)=false:=by simp;omega
 have f7:(i:Int)<=(c:Int):=nQ
 have f8:¬c=k:=nQ
 have f9:(k:Int)<=(k:Int)+1:=nQ
 revert W2' HF HB HU HI HT HNL f1 f2 f3 f4 f5 f6 f7 f8 f9
 exact QAA.o):G:=h ⟨k⟩
theorem QDE {G H:Prop} (k:H) (h:QAB H->G:=by
 intro QAA
 have ib:=hq.lt
 have b0:w.cell? ⟨q,0,none⟩=some (.slice kA h.kinds.length kc):=hq.cell rfl
 have b1:w.cell? ⟨q,1,none⟩=some (.int .i64 h.floor):=hq.cell rfl
 have b2:w.cell? ⟨q,2,none⟩=some (.slice pA h.parts.length pc):=hq.cell rfl
 have b3:w.cell? ⟨q,3,none⟩=some (.slice bA h.bars.length bc):=hq.cell rfl
 revert ib b0 b1 b2 b3
 exact QAA.o):G:=h ⟨k⟩
theorem QDF {G H:Prop} (k:H) (h:QAB H->G:=by
 intro QAA
 show w'.ownsRow _ _ _ (.slice A' (List.length _) c') _ _
 rw[List.length_append,List.flatMap_append]
 exact QAA.o):G:=h ⟨k⟩
theorem QDG {G H:Prop} (k:H) (h:QAB H->G:=by
 intro QAA
 have ZK:m<=3:=nQ
 have sQ:1<=m:=nQ
 have HM:=qh hmm
 have eV:cI r n=Value.agg #[.int .i64 (m:Int),.slice r.hA n.hs.length r.hc,.slice r.pA n.ps.length r.pc]:=by unfold cI;rw[hmm]
 rw[eV]
 have hmk:=run_mk wo m nQ nQ
 have Xy:=run_mk wo n.hs.length nQ nQ
 have HS:=qh hS
 have HN:=qh hN
 have HV:=qh hv
 have HPV:=qh hpv
 have HL:=qh hl
 have hlc:=hS.1
 revert ZK sQ HM eV hmk Xy HS HN HV HPV HL hlc
 exact QAA.o):G:=h ⟨k⟩
theorem QDH {G H:Prop} (k:H) (h:QAB H->G:=by
 intro QAA
 have jx:=HX.out.lt
 have jz:=HZ.out.lt
 have j0:Lt w.heap.size wr:=⟨nL dD.out i3.out⟩
 have j6:Le w.heap.size wr:=⟨nS j0.out⟩
 have j7:Le (w.heap.size+1) wr:=⟨j0.out⟩
 have i4:Le B wr:=⟨nT cJ.out i3.out⟩
 have i5:au B w wr:=⟨⟨i1.out.1,i1.out.2.1,i1.out.2.2.1,fun b hb=>i1.out.2.2.2 b (nL hb hB.out)⟩⟩
 revert jx jz j0 j6 j7 i4 i5
 exact QAA.o):G:=h ⟨k⟩
theorem QDI {G H:Prop} (k:H) (h:QAB H->G:=by
 intro QAA
 have hb':Lt b' w:=⟨nL hb hB.out⟩
 have hm:=qh (aV xs hlt)
 have ht:=qh (bE xs hlt)
 revert hb' hm ht
 exact QAA.o):G:=h ⟨k⟩
theorem QDJ {G H:Prop} (k:H) (h:QAB H->G:=by
 intro QAA
 rw[<-aq (w:=w)]
 exact QAA.o):G:=h ⟨k⟩
theorem QDK {G H:Prop} (k:H) (h:QAB H->G:=by
 intro QAA
 have xB:W1.cell? ⟨w.heap.size+1,0,none⟩=some (.int .i64 t.aP):=by rw[aH.out];go_simp
 have xA:W1.cell? ⟨w.heap.size+1,1,none⟩=some (.int .i64 t.cur):=by rw[aH.out];go_simp
 have AF:W1.cell? ⟨w.heap.size+1,2,none⟩=some (.slice rt.tA t.ay.length rt.tc):=by rw[aH.out];go_simp
 revert xB xA AF
 exact QAA.o):G:=h ⟨k⟩
theorem QDL {G H:Prop} (k:H) (h:QAB H->G:=by
 intro QAA
 have mV:W1.cell? ⟨w.heap.size,0,none⟩=some (.int .i64 n.m):=by rw[aH.out];go_simp
 have kR:W1.cell? ⟨w.heap.size,1,none⟩=some (.slice r.hA n.hs.length r.hc):=by rw[aH.out];go_simp
 have mG:W1.cell? ⟨w.heap.size,2,none⟩=some (.slice r.pA n.ps.length r.pc):=by rw[aH.out];go_simp
 revert mV kR mG
 exact QAA.o):G:=h ⟨k⟩
theorem QDM {G H:Prop} (k:H) (h:QAB H->G:=by
 intro QAA
 have HN:Hid (fW t _=some (t3)):=qh ((rG HE.out).trans (if_pos lI))
 revert HN
 exact QAA.o):G:=h ⟨k⟩
theorem QDN {G H:Prop} (k:H) (h:QAB H->G:=by
 intro QAA
 have A1:Hid (ax W1 w.heap.size 39 (aE r t)):=by rw[aH.out];exact qh (ax.new rfl)
 revert A1
 exact QAA.o):G:=h ⟨k⟩
theorem QDO {G H:Prop} (k:H) (h:QAB H->G:=by
 intro QAA
 refine aL fun W2 eJ=>?_
 have Es:Le B W2:=fI eJ
 have Gh:au B W1 W2:=gu eJ
 obtain⟨sg,tX,tW,sM⟩:=CG 8 W1 eJ
 have tV:Lt (D) W2:=nt eJ
 have H2:Hid (bZ X B D W2 k d ms):=qh H1.out.up
 have qN:Hid (cT W2):=qh rO.out.up
 have F2:Hid (Fr B jI w W2):=qh (F1.out.trans (by have:=H1.out.le;exact Fr.gj))
 revert W2 eJ Es Gh sg tX tW sM tV H2 qN F2
 exact QAA.o):G:=h ⟨k⟩
theorem QDP {G H:Prop} (k:H) (h:QAB H->G:=by
 intro QAA
 have Bs:Le B W3:=fI bQ
 have DJ:au B w W3:=gu bQ
 obtain⟨Gk,Gj,Gi,JS⟩:=CG 8 w bQ
 have JR:Lt (D) W3:=nt bQ
 have G3:Hid (ax W3 g 35 #[.slice A3 1 c3]):=by rw[bQ.out,<-hg];exact qh (ax.new rfl)
 have I3:Hid (fN 3 aI W3.heap.size W3 A3 c3 [x]):=by rw[bQ.out];exact qh (uu.out.wide)
 revert Bs DJ Gk Gj Gi JS JR G3 I3
 exact QAA.o):G:=h ⟨k⟩
theorem QDQ {G H:Prop} (k:H) (h:QAB H->G:=by
 intro QAA
 have HE:Hid (kz t ⟨.gE,a⟩=if 0<=nth a 0/\nth a 0<(t.aF.aB.length:Int) then some ⟨⟨t.aF.aP,t.aF.cur,t.aF.ay,t.aF.aB.set (nth a 0).toNat ⟨nth a 1,(nth t.aF.aB (nth a 0).toNat).bt⟩,t.aF.aU⟩,t.ah,t.aa⟩ else none):=rfl
 revert HE
 exact QAA.o):G:=h ⟨k⟩
theorem QDR {G H:Prop} (k:H) (h:QAB H->G:=by
 intro QAA
 obtain⟨td,Cz⟩:∃x,iH d.az c=x:=⟨_,rfl⟩
 obtain⟨bb,ir⟩:∃x,(fW d.az c).isSome=x:=⟨_,rfl⟩
 revert td Cz bb ir
 exact QAA.o):G:=h ⟨k⟩
theorem QDS {G H:Prop} (k:H) (h:QAB H->G:=by
 intro QAA
 have E10:=qh E10
 have To10:=qh ((To9.out.up (W':=af W9 δ6)).aR Xf (E9.out.af _) nU)
 have O10:=qh ((O9.out.wide (w':=af W9 δ6)).aR Xf (E9.out.af _) nU (nR _))
 have n1:au w.heap.size w W10:=cm Xf (by have:=gw.out;omega)
 have n3:Le w.heap.size W10:=dB Xf
 revert E10 To10 O10 n1 n3
 exact QAA.o):G:=h ⟨k⟩
theorem QDT {G H:Prop} (k:H) (h:QAB H->G:=by
 intro QAA
 have C2:=qh C2
 have la:=A2.out.lt
 have ld:=D2.out.lt
 have lz:=Z2.out.lt
 have lg:=C2.out.lt
 have z1:=D2.out.cell (i:=1) rfl
 have z2:=D2.out.cell (i:=2) rfl
 have gg:=qh g2
 revert C2 la ld lz lg z1 z2 gg
 exact QAA.o):G:=h ⟨k⟩
theorem QDU {G H:Prop} (k:H) (h:QAB H->G:=by
 intro QAA
 have h6:=(Sa.aD.1 hv).1.2.2.1
 have h4:=(Sa.aD.1 hv).1.2.2.2
 revert h6 h4
 exact QAA.o):G:=h ⟨k⟩
theorem QDV {G H:Prop} (k:H) (h:QAB H->G:=by
 intro QAA
 try simp only[Act.put,List.setIfInBounds_toArray,List.set_cons_zero,List.set_cons_succ]
 exact QAA.o):G:=h ⟨k⟩
theorem QDW {G H:Prop} (k:H) (h:QAB H->G:=by
 intro QAA
 have L2:=qh L2
 have ld:=D2.out.lt
 have lr:=R2.out.lt
 have lg:=L2.out.lt
 revert L2 ld lr lg
 exact QAA.o):G:=h ⟨k⟩
theorem QDX {G H:Prop} (k:H) (h:QAB H->G:=by
 intro QAA
 have HL:=qh hl
 have HV:=qh hv
 have HT:=qh hT
 have HO:=qh hO
 have HR:=qh hr
 revert HL HV HT HO HR
 exact QAA.o):G:=h ⟨k⟩
theorem QDY {G H:Prop} (k:H) (h:QAB H->G:=by
 intro QAA
 have y1:=b2.cell (i:=1) rfl
 have y2:=b2.cell (i:=2) rfl
 revert y1 y2
 exact QAA.o):G:=h ⟨k⟩
theorem QDZ {G H:Prop} (k:H) (h:QAB H->G:=by
 intro QAA
 have g3:W2.heap.size<=(af W2 δ2).heap.size:=(inferInstance:Le W2.heap.size (af W2 δ2)).out
 have D3:Hid (ax (af W2 δ2) w.heap.size 82 (cD k d)):=qh (D2.out.af _)
 have R3:Hid (ax (af W2 δ2) (w.heap.size+1) 82 (cD mJ mK)):=qh (R2.out.af _)
 revert g3 D3 R3
 exact QAA.o):G:=h ⟨k⟩
theorem QEA {G H:Prop} (k:H) (h:QAB H->G:=by
 intro QAA
 refine aL fun W1 aH=>?_
 have cJ:Le B W1:=fI aH
 have dF:au B w W1:=gu aH
 obtain⟨cU,dA,dD,eI,ju⟩:=Au 8 w aH
 revert W1 aH cJ dF cU dA dD eI ju
 exact QAA.o):G:=h ⟨k⟩
theorem QEB {G H:Prop} (k:H) (h:QAB H->G:=by
 intro QAA
 have hki:(k:Int)<(n.hs.length:Int):=nQ
 have hk0:¬(k:Int)<0:=nQ
 revert hki hk0
 exact QAA.o):G:=h ⟨k⟩
theorem QEC {G H:Prop} (k:H) (h:QAB H->G:=by
 intro QAA
 have HS:=qh hS
 have hl0:(0:Int)<(a.length:Int):=nQ
 have hk0:Hid (0<a.length):=qh nQ
 have hm0:0<a.length:=nQ
 revert HS hl0 hk0 hm0
 exact QAA.o):G:=h ⟨k⟩
theorem QED {G H:Prop} (k:H) (h:QAB H->G:=by
 intro QAA
 have hi:i<t.aF.aB.length:=nQ
 have HE:Hid (kz t ⟨.gE,a⟩=some ⟨⟨t.aF.aP,t.aF.cur,t.aF.ay,t.aF.aB.set i ⟨x1,(nth t.aF.aB i).bt⟩,t.aF.aU⟩,t.ah,t.aa⟩):=by unfold Hid;rw[HE.out,if_pos hx,Int.toNat_natCast]
 revert hi HE
 exact QAA.o):G:=h ⟨k⟩
theorem QEE {G H:Prop} (k:H) (h:QAB H->G:=by
 intro QAA
 have HV:=qh hv
 have mW:=qh (iD hv)
 have H:=qh hT
 revert HV mW H
 exact QAA.o):G:=h ⟨k⟩
theorem QEF {G H:Prop} (k:H) (h:QAB H->G:=by
 intro QAA
 have Ij:=rU.2
 have rU:=rU.1
 have XE:=DX rU rfl
 have OV:cR (ws.drop 1)=some [x]:=by obtain⟨y,e,_,h⟩:=XE;injection e with _ e;injection e with e;rw[e];exact h
 have XG:nth ws 0=cj .forget:=by obtain⟨y,_,h,_⟩:=XE;exact h
 revert Ij rU XE OV XG
 exact QAA.o):G:=h ⟨k⟩
theorem QEG {G H:Prop} (k:H) (h:QAB H->G:=by
 intro QAA
 have A1:Hid (ax W1 w.heap.size 39 (aE r t)):=by rw[aH.out];exact qh ((ax.new rfl).alloc _)
 have R1:Hid (ax W1 (w.heap.size+1) 39 (aE dc cO)):=by rw[aH.out];exact qh (ax.new nV)
 have M1:Hid (aS B W1 r t):=qh H.out.up
 revert A1 R1 M1
 exact QAA.o):G:=h ⟨k⟩
theorem QEH {G H:Prop} (k:H) (h:QAB H->G:=by
 intro QAA
 have mY:Hid (Sl aI B W1 A c (yh is)):=qh HS.out.up
 have GH:B<=W1.heap.size:=by have:=(inferInstance:Le B W1).out;exact this
 revert mY GH
 exact QAA.o):G:=h ⟨k⟩
theorem QEI {G H:Prop} (k:H) (h:QAB H->G:=by
 intro QAA
 refine eu zm Tryz.results91 rfl C9 rfl ?_
 exact QAA.o):G:=h ⟨k⟩
theorem QEJ {G H:Prop} (k:H) (h:QAB H->G:=by
 intro QAA
 have hp:=uH hr
 have HQ:=qh (show cN q.w=2/\q.a.length=tq q.w/\(s=60\/s=61\/s=62) from⟨hp.1,hp.2.1,hp.2.2.2.2⟩)
 have xE:Hid (aJ X.heap.size X r t):=qh H.out.wide
 have OJ:Hid (Sl aX X.heap.size X A c ls):=qh HS.out.wide
 revert hp HQ xE OJ
 exact QAA.o):G:=h ⟨k⟩
theorem QEK {G H:Prop} (k:H) (h:QAB H->G:=by
 intro QAA
 have HS:Hid (fN 3 aI W2.heap.size W2 A cap c.a):=qh ((hS.up (w':=(af W1 δ1).alloc _)).aR kg (ax.new rfl) nU nV)
 revert HS
 exact QAA.o):G:=h ⟨k⟩
theorem QEL {G H:Prop} (k:H) (h:QAB H->G:=by
 intro QAA
 rw[XM]
 have SJ:=qh (show iP n (F,O) x=be+(nth n.hs x).hr by unfold iP;simp only[Int.toNat_natCast,S3.out,XM])
 have y1:0<=be:=nQ
 have y2:be<=100:=by have:=HK.out;omega
 have y3:0<=(nth n.hs x).hr:=nQ
 have y4:(nth n.hs x).hr<=9:=nQ
 revert SJ y1 y2 y3 y4
 exact QAA.o):G:=h ⟨k⟩
theorem QEM {G H:Prop} (k:H) (h:QAB H->G:=by
 intro QAA
 have b2:ax W1 (w.heap.size+1) 66 #[.int .i64 3,.string (str tx),.slice A a.length cap]:=by rw[aH.out];exact ax.new nV
 revert b2
 exact QAA.o):G:=h ⟨k⟩
theorem QEN {G H:Prop} (k:H) (h:QAB H->G:=by
 intro QAA
 have ib:Lt x W1:=⟨nL hb GH⟩
 have iy:Lt y W1:=⟨nL hy GH⟩
 have hji:(j:Int)<(h.parts.length:Int):=nQ
 have hj0:¬(j:Int)<0:=nQ
 revert ib iy hji hj0
 exact QAA.o):G:=h ⟨k⟩
theorem QEO {G H:Prop} (k:H) (h:QAB H->G:=by
 intro QAA
 obtain⟨g,hg⟩:∃g,(af W1 δ1).heap.size=g:=⟨_,rfl⟩
 revert g hg
 exact QAA.o):G:=h ⟨k⟩
theorem QEP {G H:Prop} (k:H) (h:QAB H->G:=by
 intro QAA
 have v3:au w.heap.size w V:=by rw[<-hV];infer_instance
 have v4:Le w.heap.size V:=by rw[<-hV];infer_instance
 have v5:au 8 w V:=by rw[<-hV];infer_instance
 have v6:Le 8 V:=by rw[<-hV];infer_instance
 have v7:Le V.heap.size V:=⟨nR _⟩
 revert v3 v4 v5 v6 v7
 exact QAA.o):G:=h ⟨k⟩
theorem QEQ {G H:Prop} (k:H) (h:QAB H->G:=by
 intro QAA
 have z2:W1.cell? ⟨gs,0,none⟩=some (.string (str [s])):=by rw[aH.out];go_simp
 have z3:W1.cell? ⟨gn,0,none⟩=some (.int .i64 n):=by rw[aH.out];go_simp
 have j1:Lt gq W1:=nt aH
 have j2:Lt gs W1:=nt aH
 have j3:Lt gn W1:=nt aH
 revert z2 z3 j1 j2 j3
 exact QAA.o):G:=h ⟨k⟩
theorem QER {G H:Prop} (k:H) (h:QAB H->G:=by
 intro QAA
 have ib:Lt b W1:=⟨nL hb cJ.out⟩
 have in1:qM b (w.heap.size+1+1):=⟨by have:=hB.out;omega⟩
 have HA:=qh hA
 have HO:=qh hown
 revert ib in1 HA HO
 exact QAA.o):G:=h ⟨k⟩
theorem QES {G H:Prop} (k:H) (h:QAB H->G:=by
 intro QAA
 have HF:Hid (∀b,Sa.Fair 6 (dW h x b)):=qh fun b=>Sa.fF hv (by have:=(Sa.aD.1 hv).1.2.2.1;omega) _
 revert HF
 exact QAA.o):G:=h ⟨k⟩
theorem QET {G H:Prop} (k:H) (h:QAB H->G:=by
 intro QAA
 have Bg:=qh (show own F=jL F j by unfold own;rw[LF.out])
 have f2:=HF.out.cell (k:=jL F j) (by rw[LF.out];exact hown)
 have VC:(jL F j:Int)<(j:Int):=nQ
 have Xw:¬(jL F j:Int)<0:=nQ
 obtain⟨q,hq⟩:∃q,jL F j=q:=⟨_,rfl⟩
 revert Bg f2 VC Xw q hq
 exact QAA.o):G:=h ⟨k⟩
theorem QEU {G H:Prop} (k:H) (h:QAB H->G:=by
 intro QAA
 have u1:au W7.heap.size W7 U:=by rw[<-hU];infer_instance
 have u2:Le W7.heap.size U:=by rw[<-hU];infer_instance
 have u3:au w.heap.size w U:=by rw[<-hU];infer_instance
 have u4:Le w.heap.size U:=by rw[<-hU];infer_instance
 revert u1 u2 u3 u4
 exact QAA.o):G:=h ⟨k⟩
theorem QEV {G H:Prop} (k:H) (h:QAB H->G:=by
 intro QAA
 have R3:Hid (ax W3 (w.heap.size+1) 39 (aE dc cO)):=by rw[bQ.out];exact qh ((R1.out.drew.fD (by show w.heap.size+1≠w.heap.size;omega) _).fD (by show w.heap.size+1≠w.heap.size;omega) _)
 revert R3
 exact QAA.o):G:=h ⟨k⟩
theorem QEW {G H:Prop} (k:H) (h:QAB H->G:=by
 intro QAA
 have LT:Sl aX (World.alloc Z1 (.cells #[.string (str x)] 9)).heap.size (World.alloc Z1 (.cells #[.string (str x)] 9)) (some ⟨Z1.heap.size,0,none⟩) 1 [x]:=fE (ls:=[x]) (ax.new rfl) rfl nV
 revert LT
 exact QAA.o):G:=h ⟨k⟩
theorem QEX {G H:Prop} (k:H) (h:QAB H->G:=by
 intro QAA
 refine wpH_tq 2 (.pointer (some ⟨D,0,none⟩)) (inferInstance) ?_
 exact QAA.o):G:=h ⟨k⟩
theorem QEY {G H:Prop} (k:H) (h:QAB H->G:=by
 intro QAA
 refine wpH_tq 3 (.pointer (some ⟨D,0,none⟩)) (inferInstance) ?_
 exact QAA.o):G:=h ⟨k⟩
theorem QEZ {G H:Prop} (k:H) (h:QAB H->G:=by
 intro QAA
 obtain⟨b0,hb0⟩:∃b0,(if nth F q<(nth n.hs x).fr then (nth n.hs x).fr else nth F q)=b0:=⟨_,rfl⟩
 rw[hb0]
 have S3:=qh (show max (nth F (own F)) (nth n.hs x).fr=b0 by rw[Bg.out,<-hb0];split<;>omega)
 revert b0 hb0 S3
 exact QAA.o):G:=h ⟨k⟩
theorem QFA {G H:Prop} (k:H) (h:QAB H->G:=by
 intro QAA
 have RZ:W1.cell? ⟨w.heap.size+1+1,0,none⟩=some (.int .i64 n.aP.hi):=by rw[aH.out];go_simp
 have UT:W1.cell? ⟨w.heap.size+1+1,1,none⟩=some (.int .i64 n.cur.hi):=by rw[aH.out];go_simp
 revert RZ UT
 exact QAA.o):G:=h ⟨k⟩
theorem QFB {G H:Prop} (k:H) (h:QAB H->G:=by
 intro QAA
 have f1:((str [60]).toList==[61])=false:=by rw[cF];rfl
 have f2:((str [60]).toList==[62])=false:=by rw[cF];rfl
 have HS:Hid (cY t q 60 n=decide (x<n)):=by unfold Hid;rw[HH.out];simp[BN]
 revert f1 f2 HS
 exact QAA.o):G:=h ⟨k⟩
theorem QFC {G H:Prop} (k:H) (h:QAB H->G:=by
 intro QAA
 have f1:((str [61]).toList==[61])=true:=by rw[cF];rfl
 have f2:((str [61]).toList==[62])=false:=by rw[cF];rfl
 have HS:Hid (cY t q 61 n=decide (x=n)):=by unfold Hid;rw[HH.out];simp[BN]
 revert f1 f2 HS
 exact QAA.o):G:=h ⟨k⟩
theorem QFD {G H:Prop} (k:H) (h:QAB H->G:=by
 intro QAA
 have f1:((str [62]).toList==[61])=false:=by rw[cF];rfl
 have f2:((str [62]).toList==[62])=true:=by rw[cF];rfl
 have HS:Hid (cY t q 62 n=decide (n<x)):=by unfold Hid;rw[HH.out];simp[BN]
 revert f1 f2 HS
 exact QAA.o):G:=h ⟨k⟩
theorem QFE {G H:Prop} (k:H) (h:QAB H->G:=by
 intro QAA
 obtain⟨A2,vU⟩:∃A2,(if cap=1 then some (⟨b,o,none⟩:Addr) else some ⟨b,o+1,none⟩)=A2:=⟨_,rfl⟩
 revert A2 vU
 exact QAA.o):G:=h ⟨k⟩
theorem QFF {G H:Prop} (k:H) (h:QAB H->G:=by
 intro QAA
 have E0:=qh A1.out.drew
 have G0:au w.heap.size w (World.drew W1):=inferInstance
 revert E0 G0
 exact QAA.o):G:=h ⟨k⟩
theorem QFG {G H:Prop} (k:H) (h:QAB H->G:=by
 intro QAA
 have HS:=qh hS
 have Af:xs.length<=cap:=hS.1
 have LX:(xs.length:Int)<=(cap:Int):=nQ
 revert HS Af LX
 exact QAA.o):G:=h ⟨k⟩
theorem QFH {G H:Prop} (k:H) (h:QAB H->G:=by
 intro QAA
 have x1:=fun(W:nJ) t q hh=>tP (P:=nH) W t q m (k:Int) k rfl b hh hb
 have LY:b.toNat<256:=b.toNat_lt
 revert x1 LY
 exact QAA.o):G:=h ⟨k⟩
theorem QFI {G H:Prop} (k:H) (h:QAB H->G:=by
 intro QAA
 have lF:F.length=m:=by have:=HM.out;simp only at lF;omega
 have lO:O.length=n.hs.length:=lO
 have bF:kO 80 F:=oX bF nQ
 have bO:kO 80 O:=oX bO nQ
 have HMD:=qh LQ
 have KS:=qh hrun
 have HH:=qh hh
 revert lF lO bF bO HMD KS HH
 exact QAA.o):G:=h ⟨k⟩
theorem QFJ {G H:Prop} (k:H) (h:QAB H->G:=by
 intro QAA
 have Es:Le B W2:=fI eJ
 have Gh:au B w W2:=gu eJ
 obtain⟨sg,tX,tW,sM⟩:=CG 8 w eJ
 have tV:Lt (D) W2:=nt eJ
 revert Es Gh sg tX tW sM tV
 exact QAA.o):G:=h ⟨k⟩
theorem QFK {G H:Prop} (k:H) (h:QAB H->G:=by
 intro QAA
 obtain⟨D,hD⟩:∃D,D=w.heap.size:=⟨_,rfl⟩
 obtain⟨W1,aH⟩:∃W1,(w.alloc (.deferred (some []))).alloc (.loop (rec .ready none))=W1:=⟨_,rfl⟩
 have hs1:W1.heap.size=D+2:=by rw[<-aH];simp;omega
 revert D hD W1 aH hs1
 exact QAA.o):G:=h ⟨k⟩
theorem QFL {G H:Prop} (k:H) (h:QAB H->G:=by
 intro QAA
 have SZ:Hid (bT B W0 ⟨kA,kc,pA,pc,bA,bc⟩ h):=qh (HH.out.eM V5.out hB.out (fun _ h=>h.elim))
 revert SZ
 exact QAA.o):G:=h ⟨k⟩
theorem QFM {G H:Prop} (k:H) (h:QAB H->G:=by
 intro QAA
 have ib':Lt b' w:=⟨nL hb' hB.out⟩
 have LW:(i:Int)<(n.aB.length:Int):=nQ
 have hi0:¬(i:Int)<0:=nQ
 have hj0:(nth n.aB i).bt<(t.ay.length:Int):=nQ
 have hj1:¬(nth n.aB i).bt<0:=nQ
 have HC:=qh hcd
 revert ib' LW hi0 hj0 hj1 HC
 exact QAA.o):G:=h ⟨k⟩
theorem QFN {G H:Prop} (k:H) (h:QAB H->G:=by
 intro QAA
 have L4:W2.cell? ⟨w.heap.size,14,none⟩=some (.slice k.oA d.aC.length k.oc):=D2.out.cell rfl
 revert L4
 exact QAA.o):G:=h ⟨k⟩
theorem QFO {G H:Prop} (k:H) (h:QAB H->G:=by
 intro QAA
 have G3:Hid (ax W3 g 35 #[.slice A3 an c3]):=by rw[bQ.out,<-hg];exact qh (ax.new rfl)
 have I3:Hid (fN 3 aI W3.heap.size W3 A3 c3 a):=by rw[bQ.out];exact qh (uu.out.wide)
 revert G3 I3
 exact QAA.o):G:=h ⟨k⟩
theorem QFP {G H:Prop} (k:H) (h:QAB H->G:=by
 intro QAA
 have s1:∀W:nJ,(Op.stringOp .add (⟨#[32]⟩:ByteArray) (str tx)).run nH W=.ok (.string (str u1)) W:=fun W=>by rw[<-hu1];exact gp (P:=nH) W [32] tx (by simp;omega)
 revert s1
 exact QAA.o):G:=h ⟨k⟩
theorem QFQ {G H:Prop} (k:H) (h:QAB H->G:=by
 intro QAA
 have s2:∀W:nJ,(Op.stringOp .add (str u1) (⟨#[58]⟩:ByteArray)).run nH W=.ok (.string (str u2)) W:=fun W=>by rw[<-Vy];exact gp (P:=nH) W u1 [58] (by simp;omega)
 revert s2
 exact QAA.o):G:=h ⟨k⟩
theorem QFR {G H:Prop} (k:H) (h:QAB H->G:=by
 intro QAA
 have g0:DataW.trod enc nH w 0 spare held n 3 [c0]=some y0:=by simpa [iK] using hg 0 _ rfl
 revert g0
 exact QAA.o):G:=h ⟨k⟩
section
open Classical in
noncomputable def ez(B:Nat)(w δ:nJ):nJ:=if Below B w δ then δ else w
theorem mD(B:Nat)(w δ:nJ):Below B w (ez B w δ):=by
 unfold ez;split
 ·assumption
 ·exact Below.refl _ _
theorem yK{B:Nat}{w w':nJ}(h:Below B w w'):ez B w w'=w':=by unfold ez;rw[if_pos h]
instance{b B:Nat}{w δ:nJ}[h:Lt b w]:Lt b (ez B w δ):=⟨nL h.out (mD B w δ).size⟩
instance{B B':Nat}{w δ:nJ}[h:Le B w]:Le B (ez B' w δ):=⟨nT h.out (mD B' w δ).size⟩
@[go_sem] theorem YV(W1 w δ:nJ)(b o:Nat)[h:Lt b W1]:(ez W1.heap.size w δ).cell? ⟨b,o,none⟩=w.cell? ⟨b,o,none⟩:=(mD _ w δ).cell (p:=⟨b,o,none⟩) h.out
@[go_sem] theorem VO(W1 w δ:nJ)(b o:Nat)[h:Lt b W1]:(ez W1.heap.size w δ).frozen? ⟨b,o,none⟩=w.frozen? ⟨b,o,none⟩:=(mD _ w δ).frozen (p:=⟨b,o,none⟩) h.out
instance{B B':Nat}{w W δ:nJ}[h:au B w W][hb:oy B B']:au B w (ez B' W δ):=⟨by
 have hb:=(mD B' W δ).mono hb.out
 obtain⟨a,b,c,d⟩:=h.out
 exact⟨hb.os.trans a,hb.tape.trans b,hb.output.trans c,fun k hk=>(hb.block k hk).trans (d k hk)⟩⟩
theorem ze{w0 w2:nJ}(δ0:nJ){b i:Nat}{v0:nK}(x y:nK)(h:w0.cell? ⟨b,i,none⟩=some v0)[hb:Lt b w0](hg:Below w0.heap.size ((af w0 δ0).setCell ⟨b,i,none⟩ x) w2):∃δ',w2.setCell ⟨b,i,none⟩ y=(af w0 δ').setCell ⟨b,i,none⟩ y:=by
 have hl0:=eS w0 δ0;have QY:(af w0 δ0).setCell ⟨b,i,none⟩ v0=af w0 δ0:=fo (by rw[vZ,h]);have XL:∀k,k<w0.heap.size->(w2.setCell ⟨b,i,none⟩ v0).heap[k]?=w0.heap[k]?:=by
  intro k hk;have e1:=hg.block k hk;have e2:(w2.setCell ⟨b,i,none⟩ v0).heap[k]?=(((af w0 δ0).setCell ⟨b,i,none⟩ x).setCell ⟨b,i,none⟩ v0).heap[k]?:=by
   simp only[World.setCell] at e1 ⊢;simp only[Array.getElem?_modify] at e1 ⊢;by_cases hk':b=k
   ·simp only[hk',if_true] at e1 ⊢;rw[e1]
   ·simp only[hk',if_false] at e1 ⊢;rw[e1]
  rw[e2,j9,QY];exact hl0.block k hk
 have hB:Below w0.heap.size w0 (w2.setCell ⟨b,i,none⟩ v0):=by refine⟨hg.os.trans hl0.os,hg.tape.trans hl0.tape,hg.output.trans hl0.output,?_,XL⟩;have:=hg.size;have:=hl0.size;simp only[World.setCell,Array.size_modify] at *;omega
 exact⟨_,by rw[bN hB,j9]⟩
class qM(a b:Nat):Prop where
 out:a≠b
@[go_sem] theorem VQ(w:nJ)(b b' i i':Nat)(u:nK)[h:qM b b']:(w.setCell ⟨b',i',none⟩ u).cell? ⟨b,i,none⟩=w.cell? ⟨b,i,none⟩:=
 World.cell?_setCell_other _ _ _ _ (by intro e;injection e with e1 _;exact h.out e1.symm)
def pF(P:Program)(t e:TypeId)(z:nK)(size bytes:Nat):Prop:=∃i,P.underlying t=some (.slice e)/\P.info? e=some i/\i.zero=some z/\i.size=size/\i.bytes=bytes/\z.cells.size=size/\0<size
theorem pF.mk{P:Program}{t e:TypeId}{z:nK}{size bytes:Nat}(ht:P.underlying t=some (.slice e))(hi:(P.info? e).map (fun i=>(i.zero,i.size,i.bytes))=some (some z,size,bytes))(hzs:z.cells.size=size)(hsz:0<size):pF P t e z size bytes:=by obtain⟨i,a,b,c,d⟩:=info_parts hi;exact⟨i,ht,a,b,c,d,hzs,hsz⟩
theorem uU{P:Program}(W1:nJ){W:nJ}{ops:Array Oper}{rest:List Oper}{o:Oper}{a:Act}{Q:Exit->Act->nJ->Prop}{t e:TypeId}{z:nK}{size bytes:Nat}(hT:pF P t e z size bytes)(s x:Operand)(hgd:o.guard=none)(ho:o.op=.call { callee:=.builtin .append,args:=#[s,x],argTypes:=#[t,t] })(v:nK)(n:Nat)(xs:List nK)(hs:a.eval s=v)(hown:W.ownsRow W1.heap.size e size v n xs)(ad:Addr)(m c:Nat)(news:List nK)(hx:a.eval x=.slice (some ad) m c)(hl:news.length=m*size)(hnews:∀j u,news[j]?=some u->W.cell? (ad.add j)=some u)(h1:∀u∈news,u.oneCell'=true)(h63:n+m<=9223372036854775807)(hbytes:(n+m)*bytes<=140737488355328)[hbase:Le W1.heap.size W](h:∀A' c' δ,(ez W1.heap.size W δ).ownsRow W1.heap.size e size (.slice A' (n+m) c') (n+m) (xs++news)->wpList P ops Q rest (a.put o.dst (.slice A' (n+m) c')) (ez W1.heap.size W δ)):wpList P ops Q (o::rest) a W:=by obtain⟨i,ht,hi,hz,hsize,hby,hzs,hsz⟩:=hT;refine wpList_append_own W hgd s x t ho W1.heap.size e i z size bytes ht hi hz hsize hby hzs hsz v n xs hs hown ad m c news hx hl hnews h1 h63 hbytes hbase.out ?_;intro v' w' hown' hg _;obtain⟨A',c',rfl⟩:=qt hown';have hB:Below W1.heap.size W w':=(Below.refl _ _).grown hg hbase.out fun k hk=>(hown.lt k hk).1;have:=h A' c' w';rw[yK hB] at this;exact this hown'
theorem dL{P:Program}(W1:nJ){W:nJ}{ops:Array Oper}{rest:List Oper}{o:Oper}{a:Act}{Q:Exit->Act->nJ->Prop}{t e:TypeId}{z:nK}{size bytes:Nat}(hT:pF P t e z size bytes)(s x:Operand)(hgd:o.guard=none)(ho:o.op=.call { callee:=.builtin .append,args:=#[s,x],argTypes:=#[t,t] }){v:nK}{n:Nat}{xs:List nK}(hown:W.ownsRow W1.heap.size e size v n xs)(hs:a.eval s=v){g m c:Nat}{arr:Array nK}{T:TypeId}(hx:a.eval x=.slice (some ⟨g,0,none⟩) m c)(hg:g=W.heap.size)(hl:arr.size=m*size)(h1:∀u∈arr.toList,u.oneCell'=true)(h63:n+m<=1000000)(hbytes:bytes<=1000)[hbase:Le W1.heap.size W](h:∀A' c' δ,(ez W1.heap.size (W.alloc (.cells arr T)) δ).ownsRow W1.heap.size e size (.slice A' (n+m) c') (n+m) (xs++arr.toList)->wpList P ops Q rest (a.put o.dst (.slice A' (n+m) c')) (ez W1.heap.size (W.alloc (.cells arr T)) δ)):wpList P ops Q (o::rest) a (W.alloc (.cells arr T)):=
 uU W1 hT s x hgd ho v n xs hs (hown.alloc _) ⟨g,0,none⟩ m c arr.toList hx (by simpa using hl)
  (fun j u hj=>by
   rw[show(⟨g,0,none⟩:Addr).add j=⟨g,j,none⟩ by simp[Addr.add_lit],World.cell?_alloc_at _ _ _ _ hg]
   simpa using hj) h1 nQ (by have:=Nat.mul_le_mul h63 hbytes;omega) h
theorem uQ{B:Nat}{w W:nJ}[h:au B w W][hs:Le w.heap.size W]:Below B w W:=h.out.below
theorem ry{α:Type}[Inhabited α](enc:α->List nK)(xs:List α){k:Nat}(h:k<xs.length):(xs.take (k+1)).flatMap enc=(xs.take k).flatMap enc++enc (nth xs k):=by rw[bE xs h,List.flatMap_append];simp
theorem jC{α β:Type}[Inhabited α][Inhabited β](f:α->β)(xs:List α){k:Nat}(h:k<xs.length):nth (xs.map f) k=f (nth xs k):=by rw[bR _ (by simpa using h),bR _ h];simp
theorem IQ{α:Type}{enc:α->List nK}{w W:nJ}{A:Option Addr}{c:Nat}{xs:List α}(h:Sl enc W.heap.size W A c xs)[au w.heap.size w W][Le w.heap.size W]:Sl enc (af w W).heap.size (af w W) A c xs:=by rwa [<-aq (w:=w) (W:=W)]
def ax(w:nJ)(b:Nat)(T:TypeId)(cs:Array nK):Prop:=w.heap[b]?=some (.cells cs T (0,0))
section
variable{w W:nJ}{b:Nat}{T:TypeId}{cs:Array nK}
theorem ax.tN(h:ax w b T cs):b<w.heap.size:=by
 rcases Nat.lt_or_ge b w.heap.size with hlt|hge
 ·exact hlt
 ·unfold ax at h;rw[Array.getElem?_eq_none hge] at h;cases h
theorem ax.lt(h:ax w b T cs):Lt b w:=⟨h.tN⟩
theorem ax.cell(h:ax w b T cs){i:Nat}{v:nK}(hv:cs[i]?=some v):w.cell? ⟨b,i,none⟩=some v:=by unfold ax at h;unfold World.cell?;rw[h];exact hv
theorem ax.free(h:ax w b T cs)(i:Nat):w.frozen? ⟨b,i,none⟩=false:=by unfold ax at h;simp[World.frozen?,h]
theorem ax.new{o:Array nK}{n:Nat}(hn:n=w.heap.size):ax (w.alloc (.cells o T)) n T o:=by subst hn;exact heap_alloc_new w _
theorem ax.drew(h:ax w b T cs):ax w.drew b T cs:=h
theorem ax.af(h:ax w b T cs)(δ:nJ):ax (af w δ) b T cs:=((eS w δ).block b h.tN).trans h
theorem ax.alloc(h:ax w b T cs)(o:Obj):ax (w.alloc o) b T cs:=(Below.heap_alloc w o b h.tN).trans h
theorem ax.set(h:ax w b T cs)(i:Nat)(u:nK):ax (w.setCell ⟨b,i,none⟩ u) b T (cs.setIfInBounds i u):=by unfold ax at h ⊢;simp[World.setCell,Array.getElem?_modify,h]
theorem ax.fD(h:ax w b T cs){p:Addr}(hp:b≠p.block)(u:nK):ax (w.setCell p u) b T cs:=(Below.heap_setCell w p u b hp).trans h
theorem ax.ez{B:Nat}(h:ax w b T cs)(hb:b<B)(δ:nJ):ax (ez B w δ) b T cs:=((mD B w δ).block b hb).trans h
end
def bP(hit:Nat->Bool):Nat->Nat->Nat
 |0,k=>k
 |f+1,k=>if hit k then k else bP hit f (k+1)
theorem gx(hit:Nat->Bool):∀f k,k<=bP hit f k/\bP hit f k<=k+f/\(∀j,k<=j->j<bP hit f k->hit j=false)/\(bP hit f k<k+f->hit (bP hit f k)=true)
 |0,k=>⟨nR _,nR _,fun j h1 h2=>absurd h2 (by simp[bP];omega),fun h=>absurd h (by simp[bP])⟩
 |f+1,k=>by
  unfold bP;by_cases h:hit k=true
  ·rw[if_pos h];exact⟨nR _,nQ,fun j h1 h2=>by omega,fun _=>h⟩
  ·rw[if_neg h];obtain⟨a,b,c,d⟩:=gx hit f (k+1);refine⟨nQ,nQ,fun j h1 h2=>?_,fun hh=>d nQ⟩;by_cases hj:j=k
   ·subst hj;simpa using h
   ·exact c j nQ h2
theorem sX(hit:Nat->Bool){m k:Nat}(hk:k<m)(h0:∀j,j<k->hit j=false)(h1:hit k=true):bP hit m 0=k:=by
 obtain⟨a,b,c,d⟩:=gx hit m 0;rcases Nat.lt_trichotomy (bP hit m 0) k with h|h|h
 ·have:=d nQ;rw[h0 _ h] at this;cases this
 ·exact h
 ·have:=c k nQ h;rw[h1] at this;cases this
theorem p6(hit:Nat->Bool){m:Nat}(h0:∀j,j<m->hit j=false):bP hit m 0=m:=by
 obtain⟨a,b,c,d⟩:=gx hit m 0;rcases Nat.lt_or_ge (bP hit m 0) m with h|h
 ·have:=d nQ;rw[h0 _ h] at this;cases this
 ·omega
end
theorem run_append_nil{P:Program}(w:nJ){base:Nat}{t ty e:TypeId}{z:nK}{size bytes:Nat}(hT:pF P t e z size bytes){v:nK}{n:Nat}{xs:List nK}(hown:w.ownsRow base e size v n xs)(c:Nat):(Builtin.append_ #[t,t] ty #[v,.slice none 0 c]).run P w=.ok v w:=by
 obtain⟨i,ht,hi,_⟩:=hT;rcases hown.2 with⟨rfl,rfl⟩|⟨g,cap,cur,rfl,_,_,hnc,_⟩
 ·simp[Builtin.append_,run_underlying ht,sizeOf,typeInfo,hi,Builtin.lenOf,Builtin.firstCells]
 ·simp[Builtin.append_,run_underlying ht,sizeOf,typeInfo,hi,Builtin.lenOf,Builtin.firstCells,hnc,storeCells]
theorem wM{P:Program}(w:nJ){base:Nat}{t ty e:TypeId}{z:nK}{size bytes:Nat}(hT:pF P t e z size bytes){v:nK}{n:Nat}{xs:List nK}(hown:w.ownsRow base e size v n xs){B m c:Nat}{A:Option Addr}{news:List nK}(hr:Cells w B A news)(hl:news.length=m*size)(h1:∀u∈news,u.oneCell'=true)(h63:n+m<=4000000)(hbytes:bytes<=1000)[hbase:Le base w]:∃v' w',(Builtin.append_ #[t,t] ty #[v,.slice A m c]).run P w=.ok v' w'/\w'.ownsRow base e size v' (n+m) (xs++news)/\w.grownBy w' v.ownBlock:=by
 have hT':=hT;obtain⟨i,ht,hi,hz,hsize,hby,hzs,hsz⟩:=hT;cases A with
 |none=>
  have hn:news=[]:=by
   rcases news with _|⟨u,us⟩
   ·rfl
   ·obtain⟨_,_,h,_⟩:=hr nV;cases h
  subst hn
  have hm:m=0:=by
   rcases Nat.eq_zero_or_pos m with h|h
   ·exact h
   ·have:=Nat.mul_pos h hsz;simp at hl;omega
  subst hm
  exact⟨v,w,run_append_nil w hT' hown c,by simpa using hown,World.grownBy.refl w _⟩
 |some ad=>
  obtain⟨v',w',h2,h3,h4,_⟩:=run_append_own (P:=P) w base t ty e i z size bytes ht hi hz hsize hby hzs hsz v n xs hown ad m c news hl (by
   intro j u hj
   obtain⟨b,o,hA,_,hc⟩:=hr (by rintro rfl;simp at hj)
   injection hA with hA
   subst hA
   rw[show(⟨b,o,none⟩:Addr).add j=⟨b,o+j,none⟩ by simp[Addr.add_lit]]
   exact hc j u hj) h1 (by unfold maxLen;omega) (by have:=Nat.mul_le_mul h63 hbytes;omega) hbase.out
  exact⟨v',w',h2,h3,h4⟩
theorem fX{P:Program}(W1:nJ){W:nJ}{o:Oper}{a:Act}{K:Act->nJ->Prop}{Q:Exit->Act->nJ->Prop}{t e:TypeId}{z:nK}{size bytes:Nat}(hT:pF P t e z size bytes)(s x:Operand)(ho:o.op=.call { callee:=.builtin .append,args:=#[s,x],argTypes:=#[t,t] }){v:nK}{n:Nat}{xs:List nK}(hown:W.ownsRow W1.heap.size e size v n xs)(hs:a.eval s=v){B m c:Nat}{A:Option Addr}{news:List nK}(hx:a.eval x=.slice A m c)(hr:Cells W B A news)(hl:news.length=m*size)(h1:∀u∈news,u.oneCell'=true)(h63:n+m<=4000000)(hbytes:bytes<=1000)[hbase:Le W1.heap.size W](h:∀A' c' δ,(ez W1.heap.size W δ).ownsRow W1.heap.size e size (.slice A' (n+m) c') (n+m) (xs++news)->W.grownBy (ez W1.heap.size W δ) v.ownBlock->K (a.put o.dst (.slice A' (n+m) c')) (ez W1.heap.size W δ)):o.wp P a W K Q:=by obtain⟨v',w',hrun,hown',hg⟩:=wM (P:=P) (ty:=o.type) W hT hown hr hl h1 h63 hbytes;obtain⟨A',c',rfl⟩:=qt hown';have hB:Below W1.heap.size W w':=(Below.refl _ _).grown hg hbase.out fun k hk=>(hown.lt k hk).1;have:=h A' c' w';rw[yK hB] at this;have h9:=this hown' hg;unfold Oper.wp execOp;simp only[ho,resolve,invoke,builtin,Sem.run_bind,Sem.run_pure,Result.andThen_ok,List.map_toArray,List.map_cons,List.map_nil,hs,hx];rw[hrun];exact h9
theorem jK{P:Program}(W1:nJ){W:nJ}{ops:Array Oper}{rest:List Oper}{o:Oper}{a:Act}{Q:Exit->Act->nJ->Prop}{t e:TypeId}{z:nK}{size bytes:Nat}(hT:pF P t e z size bytes)(s x:Operand)(hgd:o.guard=none)(ho:o.op=.call { callee:=.builtin .append,args:=#[s,x],argTypes:=#[t,t] }){v:nK}{n:Nat}{xs:List nK}(hown:W.ownsRow W1.heap.size e size v n xs)(hs:a.eval s=v){B m c:Nat}{A:Option Addr}{news:List nK}(hx:a.eval x=.slice A m c)(hr:Cells W B A news)(hl:news.length=m*size)(h1:∀u∈news,u.oneCell'=true)(h63:n+m<=4000000)(hbytes:bytes<=1000)[hbase:Le W1.heap.size W](h:∀A' c' δ,(ez W1.heap.size W δ).ownsRow W1.heap.size e size (.slice A' (n+m) c') (n+m) (xs++news)->W.grownBy (ez W1.heap.size W δ) v.ownBlock->wpList P ops Q rest (a.put o.dst (.slice A' (n+m) c')) (ez W1.heap.size W δ)):wpList P ops Q (o::rest) a W:=
 wpList_plain hgd fun _ hK=>fX W1 hT s x ho hown hs hx hr hl h1 h63 hbytes fun A' c' δ h2 h3=>hK _ _ (h A' c' δ h2 h3)
theorem cW{P:Program}(W1:nJ){W:nJ}{ops:Array Oper}{o:Oper}{a:Act}{K:Act->nJ->Prop}{Q:Exit->Act->nJ->Prop}{E:Prop}{t e:TypeId}{z:nK}{size bytes:Nat}(hT:pF P t e z size bytes)(s x:Operand)(hgd:o.guard=none)(ho:o.op=.call { callee:=.builtin .append,args:=#[s,x],argTypes:=#[t,t] }){v:nK}{n:Nat}{xs:List nK}(hown:W.ownsRow W1.heap.size e size v n xs)(hs:a.eval s=v){B m c:Nat}{A:Option Addr}{news:List nK}(hx:a.eval x=.slice A m c)(hr:Cells W B A news)(hl:news.length=m*size)(h1:∀u∈news,u.oneCell'=true)(h63:n+m<=4000000)(hbytes:bytes<=1000)[hbase:Le W1.heap.size W](h:∀A' c' δ,(ez W1.heap.size W δ).ownsRow W1.heap.size e size (.slice A' (n+m) c') (n+m) (xs++news)->W.grownBy (ez W1.heap.size W δ) v.ownBlock->K (a.put o.dst (.slice A' (n+m) c')) (ez W1.heap.size W δ)):if Region.wanted o (yielded ops a.tmps)=true then Oper.wp P o a W K Q else E:=by
 have hw:Region.wanted o (yielded ops a.tmps)=true:=by simp[Region.wanted,hgd]
 rw[if_pos hw];exact fX W1 hT s x ho hown hs hx hr hl h1 h63 hbytes h
theorem gi{W:nJ}{arr:Array nK}{T:TypeId}{g:Nat}(hg:g=W.heap.size):Cells (W.alloc (.cells arr T)) (g+1) (some ⟨g,0,none⟩) arr.toList:=
 fun _=>⟨g,0,rfl,nQ,fun j v hj=>by rw[Nat.zero_add,World.cell?_alloc_at _ _ _ _ hg];simpa using hj⟩
theorem cq{P:Program}(W1:nJ){W:nJ}{ops:Array Oper}{rest:List Oper}{o:Oper}{a:Act}{Q:Exit->Act->nJ->Prop}{t e:TypeId}{z:nK}{size bytes:Nat}(hT:pF P t e z size bytes)(s x:Operand)(hgd:o.guard=none)(ho:o.op=.call { callee:=.builtin .append,args:=#[s,x],argTypes:=#[t,t] }){v:nK}{n:Nat}{xs:List nK}(hown:W.ownsRow W1.heap.size e size v n xs)(hs:a.eval s=v){g m c:Nat}{arr:Array nK}{T:TypeId}(hx:a.eval x=.slice (some ⟨g,0,none⟩) m c)(hg:g=W.heap.size)(hl:arr.size=m*size)(h1:∀u∈arr.toList,u.oneCell'=true)(h63:n+m<=4000000)(hbytes:bytes<=1000)[hbase:Le W1.heap.size W](h:∀A' c' δ,(ez W1.heap.size (W.alloc (.cells arr T)) δ).ownsRow W1.heap.size e size (.slice A' (n+m) c') (n+m) (xs++arr.toList)->(W.alloc (.cells arr T)).grownBy (ez W1.heap.size (W.alloc (.cells arr T)) δ) v.ownBlock->wpList P ops Q rest (a.put o.dst (.slice A' (n+m) c')) (ez W1.heap.size (W.alloc (.cells arr T)) δ)):wpList P ops Q (o::rest) a (W.alloc (.cells arr T)):=
 jK W1 hT s x hgd ho (hown.alloc _) hs hx (gi hg) (by simpa using hl) h1 h63 hbytes h
section
variable{α:Type}{enc:α->List nK}{B:Nat}{w w':nJ}{A:Option Addr}{c:Nat}{xss:List (List α)}
end
def rP(T:TypeId)(w:nJ)(B:Nat)(A:Option Addr)(cs:List nK):Prop:=
 cs≠[]->∃b o cur fr,A=some ⟨b,o,none⟩/\b<B/\w.heap[b]?=some (.cells cur T fr)/\∀j v,cs[j]?=some v->cur[o+j]?=some v
section
variable{T:TypeId}{w w':nJ}{B B':Nat}{A:Option Addr}{cs:List nK}
theorem rP.nil:rP T w B A []:=fun h=>absurd rfl h
theorem rP.lQ(h:rP T w B A cs)(hB:B<=B')(hk:∀b cur fr,b<B->w.heap[b]?=some (.cells cur T fr)->w'.heap[b]?=w.heap[b]?):rP T w' B' A cs:=fun hc=>by obtain⟨b,o,cur,fr,hA,hb,hh,hv⟩:=h hc;exact⟨b,o,cur,fr,hA,nL hb hB,(hk b cur fr hb hh).trans hh,hv⟩
theorem rP.plain(h:rP T w B A cs):Cells w B A cs:=fun hc=>by obtain⟨b,o,cur,fr,hA,hb,hh,hv⟩:=h hc;refine⟨b,o,hA,hb,fun j v hj=>?_⟩;simp only[World.cell?,hh];exact hv j v hj
end
def fN{α:Type}(T:TypeId)(enc:α->List nK)(B:Nat)(w:nJ)(A:Option Addr)(c:Nat)(xs:List α):Prop:=
 xs.length<=c/\c<=9223372036854775807/\rP T w B A (xs.flatMap enc)
section
variable{α:Type}{enc:α->List nK}{T:TypeId}{B B':Nat}{w w':nJ}{A:Option Addr}{c:Nat}{xs:List α}
theorem fN.plain(h:fN T enc B w A c xs):Sl enc B w A c xs:=⟨h.1,h.2.1,h.2.2.plain⟩
theorem fN.none_:fN T enc B w A 0 ([]:List α):=⟨nR _,nQ,rP.nil⟩
theorem fN.lQ(h:fN T enc B w A c xs)(hB:B<=B')(hk:∀b cur fr,b<B->w.heap[b]?=some (.cells cur T fr)->w'.heap[b]?=w.heap[b]?):fN T enc B' w' A c xs:=⟨h.1,h.2.1,h.2.2.lQ hB hk⟩
theorem fN.up(h:fN T enc B w A c xs)[hg:au B w w']:fN T enc B w' A c xs:=h.lQ (nR _) fun b _ _ hb _=>hg.out.2.2.2 b hb
theorem fN.wide(h:fN T enc B w A c xs)[hg:au B w w'][hB:Le B w']:fN T enc w'.heap.size w' A c xs:=h.lQ hB.out fun b _ _ hb _=>hg.out.2.2.2 b hb
theorem fN.grown(h:fN T enc w.heap.size w A c xs){v:nK}{base:Nat}{e:TypeId}{size n:Nat}{ys:List nK}(hown:w.ownsRow base e size v n ys)(hg:w.grownBy w' v.ownBlock)(hne:e≠T):fN T enc w'.heap.size w' A c xs:=
 h.lQ hg.size fun b cur fr hb hh=>hg.block b hb (by
  rcases hown.2 with⟨rfl,_⟩|⟨g,cap,cur',rfl,_,DS,_⟩
  ·simp[Value.ownBlock]
  ·intro he
   have:b=g:=by simpa [Value.ownBlock] using he
   subst this
   rw[hh] at DS
   injection DS with DS
   injection DS with _ ht
   exact hne ht.symm)
theorem fN.bU{base:Nat}{size:Nat}{n:Nat}(h:w.ownsRow base T size (.slice A n c) n (xs.flatMap enc))(hn:xs.length=n):fN T enc w.heap.size w A c xs:=by
 subst hn;have hp:=Sl.bU h;refine⟨hp.1,hp.2.1,fun hne=>?_⟩;rcases h.2 with⟨hv,h0⟩|⟨g,cap,cur,hv,_,hh,hnc,_,hcs,ht⟩
 ·have:=h.1;rw[h0] at this;simp only[Nat.zero_mul] at this;exact absurd (List.eq_nil_of_length_eq_zero this) hne
 ·injection hv with hA _ hc;subst hA;have hg:g<w.heap.size:=by
   rcases Nat.lt_or_ge g w.heap.size with hlt|hge
   ·exact hlt
   ·rw[Array.getElem?_eq_none hge] at hh;cases hh
  refine⟨g,0,cur,(0,0),rfl,hg,hh,fun j v hj=>?_⟩;rw[<-ht] at hj;rw[Nat.zero_add,<-Array.getElem?_toList];rw[List.getElem?_take] at hj;split at hj
  ·exact hj
  ·cases hj
end
def iV{α:Type}(T:TypeId)(enc:α->List nK)(w:nJ)(cs:List nK)(xss:List (List α)):Prop:=
 cs.length=xss.length/\∀i (h:i<xss.length),∃A' c',cs[i]?=some (.slice A' xss[i].length c')/\fN T enc w.heap.size w A' c' xss[i]
section
variable{α:Type}{enc:α->List nK}{T:TypeId}{w w':nJ}{cs ds:List nK}{xss yss:List (List α)}
theorem iV.nil:iV T enc w [] ([]:List (List α)):=⟨rfl,fun i h=>absurd h nV⟩
theorem iV.lQ(h:iV T enc w cs xss)(hB:w.heap.size<=w'.heap.size)(hk:∀b cur fr,b<w.heap.size->w.heap[b]?=some (.cells cur T fr)->w'.heap[b]?=w.heap[b]?):iV T enc w' cs xss:=
 ⟨h.1,fun i hi=>by obtain⟨A',c',e,s⟩:=h.2 i hi;exact⟨A',c',e,s.lQ hB hk⟩⟩
theorem iV.below(h:iV T enc w cs xss)(hb:Below w.heap.size w w'):iV T enc w' cs xss:=h.lQ hb.size fun b _ _ hb' _=>hb.block b hb'
theorem iV.grown(h:iV T enc w cs xss){v:nK}{base:Nat}{e:TypeId}{size n:Nat}{ys:List nK}(hown:w.ownsRow base e size v n ys)(hg:w.grownBy w' v.ownBlock)(hne:e≠T):iV T enc w' cs xss:=
 ⟨h.1,fun i hi=>by obtain⟨A',c',e',s⟩:=h.2 i hi;exact⟨A',c',e',s.grown hown hg hne⟩⟩
theorem iV.append(h:iV T enc w cs xss)(h':iV T enc w ds yss):iV T enc w (cs++ds) (xss++yss):=by
 refine⟨by rw[List.length_append,List.length_append,h.1,h'.1],fun i hi=>?_⟩;rw[List.length_append] at hi;by_cases hlt:i<xss.length
 ·obtain⟨A',c',e,s⟩:=h.2 i hlt;refine⟨A',c',?_,?_⟩
  ·rw[List.getElem?_append_left (by rw[h.1];exact hlt),e,List.getElem_append_left hlt]
  ·rw[List.getElem_append_left hlt];exact s
 ·obtain⟨A',c',e,s⟩:=h'.2 (i-xss.length) nQ;refine⟨A',c',?_,?_⟩
  ·rw[List.getElem?_append_right (by rw[h.1];omega),h.1,e,List.getElem_append_right nQ]
  ·rw[List.getElem_append_right nQ];exact s
theorem iV.up(h:iV T enc w cs xss)[hg:au w.heap.size w w'][hs:Le w.heap.size w']:iV T enc w' cs xss:=h.below hg.out.below
theorem iV.Dx(h:iV T enc w cs xss):∀u∈cs,u.oneCell'=true:=by intro u hu;obtain⟨i,hi,rfl⟩:=List.getElem_of_mem hu;obtain⟨A',c',e,_⟩:=h.2 i (by rw[<-h.1];exact hi);rw[List.getElem?_eq_getElem hi] at e;injection e with e;rw[e];rfl
theorem iV.one{A:Option Addr}{c:Nat}{xs:List α}(h:fN T enc w.heap.size w A c xs):iV T enc w [.slice A xs.length c] [xs]:=
 ⟨rfl,fun i hi=>by
  have:i=0:=by simpa using hi
  subst this
  exact⟨A,c,rfl,h⟩⟩
end
def wv{α:Type}(T:TypeId)(enc:α->List nK)(w:nJ)(A:Option Addr)(c:Nat)(xss:List (List α)):Prop:=
 xss.length<=c/\c<=9223372036854775807/\∃cs:List nK,Cells w w.heap.size A cs/\iV T enc w cs xss
section
variable{α:Type}{enc:α->List nK}{T:TypeId}{w w':nJ}{A:Option Addr}{c:Nat}{xss:List (List α)}
theorem wv.below(h:wv T enc w A c xss)(hb:Below w.heap.size w w'):wv T enc w' A c xss:=by obtain⟨h1,h2,cs,h3,h4⟩:=h;exact⟨h1,h2,cs,h3.lQ hb.size fun b o hb'=>hb.cell (p:=⟨b,o,none⟩) hb',h4.below hb⟩
theorem wv.up(h:wv T enc w A c xss)[hg:au w.heap.size w w'][hs:Le w.heap.size w']:wv T enc w' A c xss:=h.below hg.out.below
theorem wv.at_(h:wv T enc w A c xss){k:Nat}(hk:k<xss.length):∃b o A' c',A=some ⟨b,o,none⟩/\b<w.heap.size/\w.cell? ⟨b,o+k,none⟩=some (.slice A' xss[k].length c')/\fN T enc w.heap.size w A' c' xss[k]:=by obtain⟨h1,h2,cs,h3,h4,h5⟩:=h;obtain⟨A',c',e,s⟩:=h5 k hk;obtain⟨b,o,hA,hb,hc⟩:=h3 (by rintro rfl;simp at e);exact⟨b,o,A',c',hA,hb,hc k _ e,s⟩
theorem wv.bU{base:Nat}{e:TypeId}{n:Nat}{cs:List nK}(h:w.ownsRow base e 1 (.slice A n c) n cs)(hs:iV T enc w cs xss)(hn:xss.length=n):wv T enc w A c xss:=by
 have hl:=h.1;refine⟨?_,?_,cs,Cells.bU h,hs⟩
 ·rcases h.2 with⟨hv,h0⟩|⟨g,cap,cur,hv,_,hh,hnc,_⟩
  ·omega
  ·injection hv with _ _ hc;omega
 ·rcases h.2 with⟨hv,h0⟩|⟨g,cap,cur,hv,_,hh,hnc,hm,_⟩
  ·injection hv with _ _ hc;omega
  ·injection hv with _ _ hc;unfold maxLen at hm;omega
end
section
variable{w:nJ}{base g i n cap size:Nat}{e:TypeId}{v u:nK}{xs:List nK}
theorem pL(h:w.ownsRow base e size (.slice (some ⟨g,0,none⟩) n cap) n xs)(_hi:i<xs.length):(w.setCell ⟨g,i,none⟩ u).ownsRow base e size (.slice (some ⟨g,0,none⟩) n cap) n (xs.set i u):=by
 refine⟨by rw[List.length_set];exact h.1,?_⟩;rcases h.2 with⟨hv,_⟩|⟨g',cap',cur,hv,h1,h2,h3,h4,h5,h6⟩
 ·cases hv
 ·injection hv with hA _ hc;injection hA with hA;injection hA with hg;subst hg hc;refine .inr ⟨g,cap,cur.setIfInBounds i u,rfl,h1,?_,h3,h4,by simpa using h5,?_⟩
  ·simp[World.setCell,Array.getElem?_modify,h2]
  ·have hl:=h.1;rw[Array.toList_setIfInBounds,List.take_set,h6]
theorem dh(h:w.ownsRow base e size v n xs){p:Addr}(hp:v.ownBlock≠some p.block):(w.setCell p u).ownsRow base e size v n xs:=by
 refine⟨h.1,?_⟩;rcases h.2 with h2|⟨g',cap',cur,hv,h1,h2,h3⟩
 ·exact .inl h2
 ·refine .inr ⟨g',cap',cur,hv,h1,?_,h3⟩;rw[<-h2];refine Below.heap_setCell w p u g' ?_;rintro rfl;exact hp (by rw[hv];rfl)
theorem qV{A:Option Addr}{c:Nat}(h:w.ownsRow base e size (.slice A n c) n xs)(hn:0<n):∃g,A=some ⟨g,0,none⟩/\base<=g/\Lt g w/\(∀j x,xs[j]?=some x->w.cell? ⟨g,j,none⟩=some x)/\∀j,w.frozen? ⟨g,j,none⟩=false:=by
 rcases h.2 with⟨_,h0⟩|⟨g',cap',cur,hv,h1,h2,h3,h4,h5,h6⟩
 ·omega
 ·injection hv with hA _ hc;subst hA hc;refine⟨g',rfl,h1,⟨?_⟩,fun j x hj=>?_,fun j=>by simp[World.frozen?,h2]⟩
  ·rcases Nat.lt_or_ge g' w.heap.size with hlt|hge
   ·exact hlt
   ·rw[Array.getElem?_eq_none hge] at h2;cases h2
  ·have:=h.cells (g:=g') rfl j x hj;simpa [Addr.add_lit] using this
theorem wV{A:Option Addr}{c:Nat}(h:w.ownsRow base e size (.slice A n c) n xs):∀g,(Value.slice A n c).ownBlock=some g->base<=g/\g<w.heap.size:=fun g hg=>h.lt g hg
end
theorem jn{α:Type}[Inhabited α](enc:α->List nK)(size:Nat)(hs:∀x,(enc x).length=size)(xs:List α)(k j:Nat)(u:nK)(y:α)(hk:k<xs.length)(hj:j<size)(hy:enc y=(enc (nth xs k)).set j u):(xs.flatMap enc).set (k*size+j) u=(xs.set k y).flatMap enc:=by
 induction xs generalizing k with
 |nil=>simp at hk
 |cons x xs ih=>
  cases k with
  |zero=>
   rw[List.set_cons_zero,List.flatMap_cons,List.flatMap_cons,Nat.zero_mul,Nat.zero_add]
   rw[List.set_append_left _ _ (by rw[hs];exact hj)]
   rw[hy];rfl
  |succ k=>
   rw[List.set_cons_succ,List.flatMap_cons,List.flatMap_cons,Nat.succ_mul]
   rw[List.set_append_right _ _ (by rw[hs];omega),hs]
   rw[show k*size+size+j-size=k*size+j by omega,ih k (by simpa using hk) (by simpa [nth] using hy)]
theorem gk{α:Type}[Inhabited α](enc:α->List nK)(size:Nat)(hs:∀x,(enc x).length=size)(xs:List α)(k j:Nat)(hk:k<xs.length)(hj:j<size):(xs.flatMap enc)[k*size+j]?=(enc (nth xs k))[j]?:=by
 induction xs generalizing k with
 |nil=>simp at hk
 |cons x xs ih=>
  cases k with
  |zero=>
   rw[List.flatMap_cons,Nat.zero_mul,Nat.zero_add,List.getElem?_append_left (by rw[hs];exact hj)];rfl
  |succ k=>
   rw[List.flatMap_cons,Nat.succ_mul,List.getElem?_append_right (by rw[hs];omega),hs,show k*size+size+j-size=k*size+j by omega]
   rw[ih k (by simpa using hk)];rfl
theorem Fx{w:nJ}{base g n size:Nat}{e:TypeId}{cs:Array nK}(hb:base<=w.heap.size)(hg:g=w.heap.size)(hn:n<=9223372036854775807)(hs:cs.size=n*size):(w.alloc (.cells cs e)).ownsRow base e size (.slice (some ⟨g,0,none⟩) n n) n cs.toList:=by subst hg;refine⟨by simpa using hs,.inr ⟨w.heap.size,n,cs,rfl,hb,heap_alloc_new w _,nR _,by unfold maxLen;omega,hs,?_⟩⟩;rw[List.take_of_length_le (by simp;omega)]
def jW(z:nK)(size n:Nat):Array nK:=madeCells z.cells (n*size)
theorem ug(z:nK)(size n:Nat):(jW z size n).size=n*size:=size_madeCells _ _
theorem vE(n:Nat)(_x:nK):jW (.int .i64 0) 1 n=Array.replicate n (.int .i64 0):=by
 apply Array.ext
 ·rw[ug];simp
 ·intro i h1 h2;simp[jW,madeCells,Value.cells,Nat.mod_one]
theorem run_mk{P:Program}{t e:TypeId}{z:nK}{size bytes:Nat}(hT:pF P t e z size bytes)(n:Nat)(hn:n<=1000000)(hb:bytes<=1000):∀W:nJ,(Instr.makeSlice t (.int .i64 n) (.int .i64 n)).run P W=.ok (.slice (some ⟨W.heap.size,0,none⟩) n n) (W.alloc (.cells (jW z size n) e)):=by
 intro W;obtain⟨i,ht,hi,hz,hsize,hby,hzs,hsz⟩:=hT;have h1:bytes*n<=1000*1000000:=Nat.mul_le_mul hb hn;have h2:(i.bytes:Int)*(n:Int)<=281474976710656:=by
  have h:((i.bytes*n:Nat):Int)<=281474976710656:=by rw[hby];omega
  rwa [Int.natCast_mul] at h
 have:=run_make (P:=P) W t e i z ht hi hz .i64 .i64 n n nQ (Int.le_refl _) h2 nQ;simp only[Int.toNat_natCast,hsize] at this;exact this
def aI(x:Int):List nK:=[.int .i64 x]
section
variable{B:Nat}{w:nJ}{A:Option Addr}{c:Nat}
theorem Sl.int{xs:List Int}(h:Sl aI B w A c xs){k:Nat}(hk:k<xs.length):∃b o,A=some ⟨b,o,none⟩/\b<B/\w.cell? ⟨b,o+k,none⟩=some (.int .i64 (nth xs k)):=by obtain⟨b,o,hA,hb,hc⟩:=h.at_ (size:=1) (fun _=>rfl) hk nQ;refine⟨b,o,hA,hb,?_⟩;have:=hc 0 _ rfl;rw[bR _ hk];simpa using this
end
theorem yQ(n low high:Int)(w:nJ):Calls nH 148 #[.int .i64 n,.int .i64 low,.int .i64 high] w fun e w'=>e=.returned (.bool (fH low high n))/\w=w':=by
 go_enter Tryz.func148,Tryz.ntmps148;by_cases h1:low<=n
 ·go_wp2;go_ret;exact⟨bu (by simp[fH,h1]),rfl⟩
 ·go_wp2;go_ret;exact⟨bu (by simp[fH];omega),rfl⟩
def zV(so all:Int):Int:=if so=0 then 2 else if so=all then 1 else 3
def cC(ok:Bool)(k:Int):Int:=if ok then 0 else k
theorem wo:pF nH 35 3 (.int .i64 0) 1 8:=pF.mk Tryz.underlying35 nP rfl nQ
theorem Sl.wide{α:Type}{enc:α->List nK}{B:Nat}{w W:nJ}{A:Option Addr}{c:Nat}{xs:List α}(h:Sl enc B w A c xs)[au B w W][hB:Le B W]:Sl enc W.heap.size W A c xs:=h.up.more hB.out
theorem Ti:pF nH 133 35 (.slice none 0 0) 1 24:=pF.mk Tryz.underlying133 nP rfl nQ
theorem bg{w W:nJ}{b e s n:Nat}{v:nK}{xs:List nK}(h:w.ownsRow b e s v n xs)[hg:au w.heap.size w W]:W.ownsRow b e s v n xs:=by
 refine⟨h.1,?_⟩;rcases h.2 with h2|⟨g,cap,cur,hv,hb,hh,r⟩
 ·exact .inl h2
 ·refine .inr ⟨g,cap,cur,hv,hb,?_,r⟩;rw[hg.out.2.2.2 g,hh];rcases Nat.lt_or_ge g w.heap.size with hlt|hge
  ·exact hlt
  ·rw[Array.getElem?_eq_none hge] at hh;cases hh
theorem cB{W:nJ}{base e size g:Nat}(hb:base<=W.heap.size)(hg:g=W.heap.size):(W.alloc (.cells #[] e)).ownsRow base e size (.slice (some ⟨g,0,none⟩) 0 0) 0 []:=by subst hg;have:=World.ownsRow_lit (base:=base) (e:=e) (size:=size) W #[] 0 hb (by unfold maxLen;omega) nV;simpa using this
theorem vG(f:List Int):(f.flatMap aI).length=f.length*1:=by induction f with
 |nil=>rfl
 |cons x f ih=>simp only[List.flatMap_cons,List.length_append,ih,aI,List.length_cons,List.length_nil];omega
theorem ox{W:nJ}{g B:Nat}{v:nK}(h:W.cell? ⟨g,0,none⟩=some v)(hg:g<B):Cells W B (some ⟨g,0,none⟩) [v]:=fun _=>⟨g,0,rfl,hg,fun j u hj=>by
 cases j with
 |zero=>simp at hj;subst hj;exact h
 |succ j=>simp at hj⟩
theorem fG{P:Program}(W1:nJ){W:nJ}{ops:Array Oper}{o:Oper}{a:Act}{K:Act->nJ->Prop}{Q:Exit->Act->nJ->Prop}{E:Prop}{t e:TypeId}{z:nK}{size bytes:Nat}(hT:pF P t e z size bytes)(s x:Operand)(hgd:o.guard=none)(ho:o.op=.call { callee:=.builtin .append,args:=#[s,x],argTypes:=#[t,t] }){v:nK}(hown:W.ownsRow W1.heap.size e size v 0 [])(hs:a.eval s=v){B m c:Nat}{A:Option Addr}{news:List nK}(hx:a.eval x=.slice A m c)(hr:Cells W B A news)(hl:news.length=m*size)(h1:∀u∈news,u.oneCell'=true)(h63:m<=4000000)(hbytes:bytes<=1000)[hbase:Le W1.heap.size W](h:∀A' c' δ,(ez W1.heap.size W δ).ownsRow W1.heap.size e size (.slice A' m c') m news->W.grownBy (ez W1.heap.size W δ) v.ownBlock->K (a.put o.dst (.slice A' m c')) (ez W1.heap.size W δ)):if Region.wanted o (yielded ops a.tmps)=true then Oper.wp P o a W K Q else E:=
 cW W1 hT s x hgd ho hown hs hx hr hl h1 nQ hbytes fun A' c' δ h2 h3=>by rw[Nat.zero_add,List.nil_append] at h2;rw[Nat.zero_add];exact h A' c' δ h2 h3
theorem bX{α:Type}(enc:α->List nK)(size:Nat)(h:∀x,(enc x).length=size)(xs:List α):(xs.flatMap enc).length=xs.length*size:=by
 induction xs with
 |nil=>simp
 |cons x xs ih=>rw[List.flatMap_cons,List.length_append,ih,h,List.length_cons,Nat.succ_mul];omega
theorem ei{α:Type}(enc:α->List nK)(h:∀x,∀u∈enc x,u.oneCell'=true)(xs:List α):∀u∈xs.flatMap enc,u.oneCell'=true:=by intro u hu;rw[List.mem_flatMap] at hu;obtain⟨x,_,hx⟩:=hu;exact h x u hx
theorem bS{P:Program}(W1:nJ){W:nJ}{ops:Array Oper}{rest:List Oper}{o:Oper}{a:Act}{Q:Exit->Act->nJ->Prop}{t e:TypeId}{z:nK}{size bytes:Nat}(hT:pF P t e z size bytes)(s x:Operand)(hgd:o.guard=none)(ho:o.op=.call { callee:=.builtin .append,args:=#[s,x],argTypes:=#[t,t] }){v:nK}(hown:W.ownsRow W1.heap.size e size v 0 [])(hs:a.eval s=v){B m c:Nat}{A:Option Addr}{news:List nK}(hx:a.eval x=.slice A m c)(hr:Cells W B A news)(hl:news.length=m*size)(h1:∀u∈news,u.oneCell'=true)(h63:m<=4000000)(hbytes:bytes<=1000)[hbase:Le W1.heap.size W](h:∀A' c' δ,(ez W1.heap.size W δ).ownsRow W1.heap.size e size (.slice A' m c') m news->W.grownBy (ez W1.heap.size W δ) v.ownBlock->wpList P ops Q rest (a.put o.dst (.slice A' m c')) (ez W1.heap.size W δ)):wpList P ops Q (o::rest) a W:=
 jK W1 hT s x hgd ho hown hs hx hr hl h1 nQ hbytes fun A' c' δ h2 h3=>by rw[Nat.zero_add,List.nil_append] at h2;rw[Nat.zero_add];exact h A' c' δ h2 h3
theorem jw{W W':nJ}{o:Obj}{base:Nat}{e:TypeId}{size n g k c:Nat}{v:nK}{xs:List nK}(h:W.ownsRow base e size v n xs)(hg:g=W.heap.size)(YM:(W.alloc o).grownBy W' (Value.slice (some ⟨g,0,none⟩) k c).ownBlock):W'.ownsRow base e size v n xs:=
 (h.alloc o).kept YM (.inr fun he=>by
  have:=(h.lt g (by rw[he];rfl)).2
  omega)
theorem de{base base':Nat}{w:nJ}{e:TypeId}{size n:Nat}{v:nK}{xs:List nK}(h:w.ownsRow base e size v n xs)(hb:base'<=base):w.ownsRow base' e size v n xs:=
 ⟨h.1,h.2.imp id fun⟨g,cap,cur,h1,h2,h3⟩=>⟨g,cap,cur,h1,nT hb h2,h3⟩⟩
theorem p9{α:Type}{enc:α->List nK}{W:nJ}(xs:List α){T:TypeId}{b c:Nat}{cs:Array nK}(h:ax W b T cs)(hn:xs.length<=c)(hc:c<=9223372036854775807)(hcs:cs.toList=xs.flatMap enc):Sl enc W.heap.size W (some ⟨b,0,none⟩) c xs:=by refine⟨hn,hc,fun _=>⟨_,_,rfl,h.tN,fun j v hj=>?_⟩⟩;rw[Nat.zero_add];refine h.cell ?_;rw[<-Array.getElem?_toList,hcs];exact hj
theorem Dv{w:nJ}{base base' g n n' c' size size':Nat}{e e':TypeId}{v:nK}{xs xs':List nK}(h:w.ownsRow base e size v n xs)(h':w.ownsRow base' e' size' (.slice (some ⟨g,0,none⟩) n' c') n' xs')(hne:e≠e'):v.ownBlock≠some g:=by
 intro hv;rcases h.2 with h2|⟨g1,ahn,ahf,hv1,_,h2,_⟩
 ·rw[h2.1] at hv;cases hv
 ·rw[hv1] at hv;injection hv with hv;rcases h'.2 with⟨h3,_⟩|⟨g2,_,ahe,vO,_,h4,_⟩
  ·cases h3
  ·injection vO with hA;injection hA with hA;injection hA with hg;subst hg;subst hv;rw[h2] at h4;injection h4 with h4;injection h4 with _ he;exact hne he
structure bH(S:Nat->Prop)(W W':nJ):Prop where
 size:W.heap.size<=W'.heap.size
 os:W'.os=W.os
 tape:W'.tape=W.tape
 output:W'.output=W.output
 block:∀b,b<W.heap.size->¬S b->W'.heap[b]?=W.heap[b]?
theorem bH.refl(S:Nat->Prop)(W:nJ):bH S W W:=⟨nR _,rfl,rfl,rfl,fun _ _ _=>rfl⟩
theorem bH.trans{S:Nat->Prop}{A B C:nJ}(h:bH S A B)(k:bH S B C):bH S A C:=
 ⟨nT h.size k.size,k.os.trans h.os,k.tape.trans h.tape,k.output.trans h.output,fun b hb hs=>(k.block b (nL hb h.size) hs).trans (h.block b hb hs)⟩
theorem bH.mono{S S':Nat->Prop}{A B:nJ}(h:bH S A B)(hs:∀b,S b->S' b):bH S' A B:=⟨h.size,h.os,h.tape,h.output,fun b hb hn=>h.block b hb fun hc=>hn (hs b hc)⟩
theorem bH.dK{S:Nat->Prop}{A B:nJ}(h:Below A.heap.size A B):bH S A B:=⟨h.size,h.os,h.tape,h.output,fun b hb _=>h.block b hb⟩
theorem bH.af(S:Nat->Prop)(W δ:nJ):bH S W (af W δ):=.dK (eS W δ)
theorem bH.below{S:Nat->Prop}{A B:nJ}{k:Nat}(h:bH S A B)(hk:k<=A.heap.size)(hs:∀b,S b->k<=b):Below k A B:=
 ⟨h.os,h.tape,h.output,h.size,fun b hb=>h.block b nQ fun hc=>by have:=hs b hc;omega⟩
theorem bH.alloc{S:Nat->Prop}{A B:nJ}(h:bH S A B)(o:Obj):bH S A (B.alloc o):=h.trans (.dK ((Below.refl _ _).alloc (nR _) _))
theorem bH.drew{S:Nat->Prop}{A B:nJ}(h:bH S A B):bH S A B.drew:=⟨h.size,h.os,h.tape,h.output,h.block⟩
theorem bH.set{S:Nat->Prop}{A B:nJ}(h:bH S A B){b:Nat}(hb:S b)(i:Nat)(u:nK):bH S A (B.setCell ⟨b,i,none⟩ u):=
 ⟨by simpa [World.setCell] using h.size,h.os,h.tape,h.output,fun k hk hs=>(Below.heap_setCell B ⟨b,i,none⟩ u k (by rintro rfl;exact hs hb)).trans (h.block k hk hs)⟩
theorem bH.putObj{S:Nat->Prop}{A B:nJ}(h:bH S A B){b:Nat}(hb:S b)(o:Obj):bH S A (B.putObj b o):=by refine⟨?_,h.os,h.tape,h.output,fun k hk hs=>(World.putObj_heap_other (by rintro rfl;exact hs hb)).trans (h.block k hk hs)⟩;have:=h.size;simpa [World.putObj] using this
theorem bH.cell{S:Nat->Prop}{A B:nJ}(h:bH S A B){b o:Nat}(hb:b<A.heap.size)(hs:¬S b):B.cell? ⟨b,o,none⟩=A.cell? ⟨b,o,none⟩:=World.cell?_of_block (a:=⟨b,o,none⟩) (h.block b hb hs)
theorem bH.sl{α:Type}{enc:α->List nK}{S:Nat->Prop}{A B:nJ}{B0:Nat}{a:Option Addr}{c:Nat}{xs:List α}(h:bH S A B)(hS:Sl enc B0 A a c xs)(hB:B0<=A.heap.size)(hs:∀p,a=some p->¬S p.block):Sl enc B0 B a c xs:=by refine⟨hS.1,hS.2.1,fun hne=>?_⟩;obtain⟨b,o,hA,hb,hv⟩:=hS.2.2 hne;exact⟨b,o,hA,hb,fun j v hj=>(h.cell (nL hb hB) (hs _ hA)).trans (hv j v hj)⟩
theorem bH.Tj{α:Type}{enc:α->List nK}{S:Nat->Prop}{A B:nJ}{B0:Nat}{a:Option Addr}{c:Nat}{xs:List α}(h:bH S A B)(hS:Sl enc B0 A a c xs)(hB:B0<=A.heap.size)(hs:∀b,S b->B0<=b):Sl enc B0 B a c xs:=by refine⟨hS.1,hS.2.1,fun hne=>?_⟩;obtain⟨b,o,hA,hb,hv⟩:=hS.2.2 hne;exact⟨b,o,hA,hb,fun j v hj=>(h.cell nQ (fun hc=>by have:=hs b hc;omega)).trans (hv j v hj)⟩
def Hx(lo:Nat)(v:nK)(l:List Int)(W:nJ):Prop:=∃A c,v=.slice A l.length c/\Sl aI W.heap.size W A c l/\∀p,A=some p->lo<=p.block
theorem Hx.eM{S:Nat->Prop}{lo:Nat}{v:nK}{l:List Int}{W W':nJ}(h:Hx lo v l W)(k:bH S W W')(hs:∀b,S b->b<lo):Hx lo v l W':=by obtain⟨A,c,hv,hS,hlo⟩:=h;exact⟨A,c,hv,(k.sl hS (nR _) (fun p hp hc=>by have:=hs _ hc;have:=hlo p hp;omega)).more k.size,hlo⟩
def CX{β:Type}(J:β->nJ->Prop):Prop:=∀p W W',J p W->Below W.heap.size W W'->J p W'
theorem fO{P:Program}{W:nJ}{ops:Array Oper}{o:Oper}{a:Act}{K:Act->nJ->Prop}{Q:Exit->Act->nJ->Prop}{E:Prop}{t e:TypeId}{z:nK}{size bytes:Nat}(hT:pF P t e z size bytes)(s x:Operand)(hgd:o.guard=none)(ho:o.op=.call { callee:=.builtin .append,args:=#[s,x],argTypes:=#[t,t] })(A:Option Addr)(n:Nat)(FF:List nK)(hs:a.eval s=.slice A n n)(hA:A=none->n=0)(hlo:FF.length=n*size)(holds:∀b,A=some b->∀j u,FF[j]?=some u->W.cell? (b.add j)=some u)(ad:Addr)(m c:Nat)(news:List nK)(hx:a.eval x=.slice (some ad) m c)(hm:0<m)(hn:news.length=m*size)(hc:∀j u,news[j]?=some u->W.cell? (ad.add j)=some u)(h1c:∀u∈news,u.oneCell'=true)(h63:n+m<=4000000)(hbytes:bytes<=1000)(hK:∀A' c' δ,(af W δ).ownsRow W.heap.size e size (.slice A' (n+m) c') (n+m) (FF++news)->K (a.put o.dst (.slice A' (n+m) c')) (af W δ)):if Region.wanted o (yielded ops a.tmps)=true then Oper.wp P o a W K Q else E:=by obtain⟨i,ht,hi,hz,hsize,hby,hzs,hsz⟩:=hT;refine step_append_grows hgd s x t ho e i z size bytes ht hi hz hsize hby hzs hsz A n n FF hs (fun h=>⟨hA h,hA h⟩) hlo holds ad m c news hx hn hc h1c nQ (by unfold maxLen;omega) (by have:=Nat.mul_le_mul h63 hbytes;omega) ?_;intro v' w' hown hg;obtain⟨A',c',rfl⟩:=qt hown;have hB:Below W.heap.size W w':=(Below.refl _ _).grown hg (nR _) (fun k e=>by cases e);have:=hK A' c' w';rw[bN hB] at this;exact this hown
theorem Sl.holds{α:Type}{enc:α->List nK}{B:Nat}{w:nJ}{A:Option Addr}{c:Nat}{xs:List α}(h:Sl enc B w A c xs):∀b,A=some b->∀j u,(xs.flatMap enc)[j]?=some u->w.cell? (b.add j)=some u:=by intro b hb j u hj;obtain⟨g,o,hA,_,hv⟩:=h.2.2 (fun e=>by rw[e] at hj;cases hj);rw[hA] at hb;injection hb with hb;subst hb;rw[Addr.add_lit];exact hv j u hj
theorem Sl.Vt{B:Nat}{w:nJ}{A:Option Addr}{c:Nat}{xs:List Int}(h:Sl aI B w A c xs)(hA:A=none):xs.length=0:=by
 cases xs with
 |nil=>rfl
 |cons x xs=>
  obtain⟨g,o,p5,_,_⟩:=h.2.2 (by simp[aI])
  rw[hA] at p5;cases p5
theorem Rd{W:nJ}{g:Nat}{v:nK}(h:W.cell? ⟨g,0,none⟩=some v):∀j u,([v]:List nK)[j]?=some u->W.cell? ((⟨g,0,none⟩:Addr).add j)=some u:=fun j u hj=>by
 cases j with
 |zero=>simp at hj;subst hj;simpa [Addr.add_lit] using h
 |succ j=>simp at hj
theorem Ns{W W':nJ}{base lo e c:Nat}{A:Option Addr}{l:List Int}{x:Int}(h:W.ownsRow base e 1 (.slice A (l.length+1) c) (l.length+1) (l.flatMap aI++[.int .i64 x]))(hlo:lo<=base)[g:au W.heap.size W W'][hs:Le W.heap.size W']:Hx lo (.slice A (l.length+1) c) (l++[x]) W':=by
 have h2:W.ownsRow base e 1 (.slice A (l++[x]).length c) (l++[x]).length ((l++[x]).flatMap aI):=by rw[List.length_append,List.flatMap_append];exact h
 obtain⟨b,rfl,hb,_⟩:=qV h nQ;refine⟨_,c,by rw[List.length_append];rfl,(Sl.bU h2).wide,fun p hp=>?_⟩;cases hp;exact nT hlo hb
section
open Go.Shelf
def Bf(S:Nat->Prop)(D:Nat)(b:Nat):Prop:=S b\/b=D\/b=D+1
end
section
open Go.Shelf
def P6(S:Nat->Prop)(I:List (List Int)->nJ->Prop)(Ix:Code->List (List Int)->nJ->Prop)(xs:List (List Int))(W:nJ):Exit->Act->nJ->Prop
 |.normal,_,W'=>bH S W W'/\I xs W'
 |.ret,_,W'=>bH S W W'/\Ix .ret xs W'
 |.exit id,_,W'=>bH S W W'/\Ix (.exit id) xs W'
 |.goto t,_,W'=>bH S W W'/\Ix (.goto t) xs W'
 |.panic _,_,_=>False
 |.outgrown,_,_=>False
end
theorem ax.eM{S:Nat->Prop}{W W':nJ}{b:Nat}{T:TypeId}{cs:Array nK}(h:ax W b T cs)(k:bH S W W')(hs:¬S b):ax W' b T cs:=(k.block b h.tN hs).trans h
theorem ax.put{W:nJ}{b D:Nat}{T:TypeId}{cs:Array nK}(h:ax W b T cs)(hne:b≠D)(o:Obj):ax (W.putObj D o) b T cs:=(World.putObj_heap_other hne).trans h
theorem yR{D b:Nat}(h:b<D):¬Bf (fun _=>False) D b:=by rintro(h|h|h);exact h;omega;omega
theorem oW{f:FuncId}{fn:Func}{c:Code}{args:Array nK}{w:nJ}{R:Ending->nJ->Prop}(hf:Tryz.prog.funcs[f]?=some fn)(hb:fn.body=some c)(h:c.wp nH (bodyPostM Fence.wide 3 nH fn R) { tmps:=args++Array.replicate (fn.ntmps-args.size) undef,defers:=[] } w):Calls nH f args w R:=
 (callsIn_wide (n:=3)).1 (callsIn_of_wp_marks hf hb trivial (wpIn_wide.2 h) rfl)
theorem oF{fn:Func}{R:Ending->nJ->Prop}{t:Array nK}{D:Nat}{W:nJ}{v:nK}(hD:W.heap[D]?=some (.deferred (some [])))(hr:(results fn t).run nH (W.putObj D (.deferred none))=.ok v (W.putObj D (.deferred none)))(h:R (.returned v) (W.putObj D (.deferred none))):bodyPostM Fence.wide 3 nH fn R .ret { tmps:=t,defers:=[{ target:=.collected D,args:=#[] }] } W:=
 ⟨nV,.inl ⟨_,_,rfl,run_takeDeferred hD,_,hr,h⟩⟩
theorem Jp{w W0 W:nJ}{S:Nat->Prop}[g:au w.heap.size w W0][l:Le w.heap.size W0](k:bH S W0 W)(hs:∀b,S b->w.heap.size<=b):Below w.heap.size w W:=(fk (w:=w) (W:=W0)).trans (k.below l.out hs)
theorem fy{w W0 W:nJ}{S:Nat->Prop}[g:au w.heap.size w W0][l:Le w.heap.size W0](k:bH S W0 W)(hs:∀b,S b->w.heap.size<=b):∃δ,W=af w δ:=⟨W,(bN (Jp k hs)).symm⟩
theorem gY{P:Program}{fid:Nat}{args:Array nK}{W:nJ}{R R':Ending->nJ->Prop}{m l:Nat}(h:Calls P fid args W R')(hm:∀e w,R' e w->R e w):Fence.wide.fn fid/\(Fence.wide.depth.isSome=true->1<=m)/\CallsIn (Fence.wide.inRound l) (m-1) P fid args W R:=
 ⟨trivial,fun h=>by simp[Fence.wide] at h,(CallsIn.inRound l (callsIn_wide.2 (h.mono hm)))⟩
end Go.Proofs.YtdmedlkonaclnaaGreatDoor
