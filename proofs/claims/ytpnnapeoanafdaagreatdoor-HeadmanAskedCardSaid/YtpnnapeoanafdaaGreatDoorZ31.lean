/- A part of the proof that a law of layer 12 holds, cut small by a program (names and blanks): Ho10, Ho11. -/
import Derived.Test.YtpnnapeoanafdaaGreatDoorZ29
set_option maxRecDepth 100000
set_option maxHeartbeats 40000000
set_option linter.unusedVariables false
set_option linter.unusedSimpArgs false
namespace Go.Proofs.YtpnnapeoanafdaaGreatDoor
open Go.RowKit
open Nat renaming le_trans → nT, le_refl → nR
open Go renaming World → nJ, Value → nK
section
open Hd
def lf(t:aO)(ls:List aQ):(List aQ × List aQ) × aO × Int:=
 if aE t=false then (([],[]),cS,120) else if 30<ls.length then (([],[]),cS,2) else
  (((dJ (bZ t) ls).2,(dJ (bZ t) ls).1.az.map (·.line)),(dJ (bZ t) ls).1.ax,0)
def rR(t:aO)(ls:List aQ)(w:nJ)(e:Ending)(w':nJ):Prop:=
 ∃(aA:Option Addr) (ac:Nat) (r':aW) (lA:Option Addr) (lc:Nat) (δ:nJ),e=.returned (.tuple #[.slice aA (lf t ls).1.1.length ac,aY r' (lf t ls).2.1,.slice lA (lf t ls).1.2.length lc,.int .i64 (lf t ls).2.2])/\w'=ah w δ /\
  Sl bS (ah w δ).heap.size (ah w δ) aA ac (lf t ls).1.1/\aN (ah w δ).heap.size (ah w δ) r' (lf t ls).2.1/\Sl bS (ah w δ).heap.size (ah w δ) lA lc (lf t ls).1.2
theorem Lu(r:aW)(t:aO):Tryz.prog.built 125 [(0,aY r t)]=some (cE ⟨r,none,0⟩ (bZ t)):=by kernel_rfl
theorem vw{P:Program}{W:nJ}{b:Nat}{T ty:TypeId}{cs:Array nK}{n:Nat}{fn:Func}{p s u v:Tmp}{R:Ending->nJ->Prop}{t:Array nK}(hT:gi P ty n)(hr:fn.results=#[.tmp s,.cell p ty,.tmp u,.tmp v])(hp:t.getD p undef=.pointer (some ⟨b,0,none⟩))(hb:ay W b T cs)(hn:cs.size=n)(h:R (.returned (.tuple #[t.getD s undef,.agg cs,t.getD u undef,t.getD v undef])) W):bodyPost P fn R .ret { tmps:=t,defers:=[] } W:=by
 obtain⟨⟨d,h1,h2⟩,h3⟩:=hT;subst hn;refine bodyPost_ret (v:=.tuple #[t.getD s undef,.agg cs,t.getD u undef,t.getD v undef]) ?_ rfl h;have hl:=run_loadVar_row (P:=P) W b T ty cs (0,0) d hb h1 (by cases d<;>first|rfl|cases h2) h3;have hp':t[p]?.getD undef=.pointer (some ⟨b,0,none⟩):=by rw[<-hp];simp
 simp only[results,hr];simp[Sem.run_bind,Result.andThen,hp',asAddr,Sem.run_pure,hl]
theorem Um{B:Nat}{w:nJ}:aN B w dc cS:=⟨⟨Sl.none_,Sl.none_,Sl.none_⟩,⟨Sl.none_,Sl.none_⟩,⟨Sl.none_,Sl.none_,Sl.none_⟩⟩
theorem Mr{t:aO}{ls:List aQ}{w W:nJ}{e:Int}(h:lf t ls=(([],[]),cS,e))[aD w.heap.size w W][Le w.heap.size W]:rR t ls w (.returned (.tuple #[.slice none 0 0,aY dc cS,.slice none 0 0,.int .i64 e])) W:=by
 refine⟨none,0,dc,none,0,W,?_,ai,?_,?_,?_⟩
 ·rw[h];rfl
 ·rw[h];exact Sl.none_
 ·rw[h];exact Um
 ·rw[h];exact Sl.none_
end
section
open Hd
structure L6(t:aO)(ls:List aQ)(j:Nat)(d:ct)(a:List aQ):Prop where
 run:dJ (bZ t) (ls.take j)=(d,a)
 valid:aE d.ax=true
 az:ie d.az
 Ef:o8 d.az
 given:d.given<=j
 len:a.length=j
theorem CI{t:aO}{ls:List aQ}(hv:aE t=true):L6 t ls 0 (bZ t) []:=⟨rfl,hv,sJ,fun o ho=>(List.not_mem_nil ho).elim,nR _,rfl⟩
theorem L6.step{t:aO}{ls:List aQ}{j:Nat}{d:ct}{a:List aQ}(h:L6 t ls j d a)(hj:j<ls.length)(h3:j<=1000)(hl:(nth ls j).length<=1000):L6 t ls (j+1) (fO d (nth ls j)).1 (a++[(fO d (nth ls j)).2]):=by refine⟨?_,uE h.valid _,wW h.az _,Nx h.Ef (nT h.given h3) hl,nT (JB _ _) (Nat.succ_le_succ h.given),by rw[List.length_append,h.len];rfl⟩;rw[bz ls hj,NK,h.run]
end
end Go.Proofs.YtpnnapeoanafdaaGreatDoor
