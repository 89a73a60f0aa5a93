/- A part of the proof that a law of layer 12 holds, cut small by a program (names and blanks): Ho10, Ho11. -/
import Derived.Test.YtdmedlkonaclnaaGreatDoorZ28
set_option maxRecDepth 100000
set_option maxHeartbeats 40000000
set_option linter.unusedVariables false
set_option linter.unusedSimpArgs false
namespace Go.Proofs.YtdmedlkonaclnaaGreatDoor
open Go.RowKit
open Nat renaming le_trans → nT, le_refl → nR
open Go renaming World → nJ, Value → nK
section
open Hd
def kQ(t:aW)(ls:List bz):(List bz × List bz) × aW × Int:=
 if aG t=false then (([],[]),cO,120) else if 30<ls.length then (([],[]),cO,2) else
  (((dJ (bY t) ls).2,(dJ (bY t) ls).1.aC.map (·.line)),(dJ (bY t) ls).1.az,0)
def rK(t:aW)(ls:List bz)(w:nJ)(e:Ending)(w':nJ):Prop:=
 ∃(aA:Option Addr) (ac:Nat) (r':aQ) (lA:Option Addr) (lc:Nat) (δ:nJ),e=.returned (.tuple #[.slice aA (kQ t ls).1.1.length ac,aO r' (kQ t ls).2.1,.slice lA (kQ t ls).1.2.length lc,.int .i64 (kQ t ls).2.2])/\w'=af w δ /\
  Sl aX (af w δ).heap.size (af w δ) aA ac (kQ t ls).1.1/\aJ (af w δ).heap.size (af w δ) r' (kQ t ls).2.1/\Sl aX (af w δ).heap.size (af w δ) lA lc (kQ t ls).1.2
theorem Kn(r:aQ)(t:aW):Tryz.prog.built 82 [(0,aO r t)]=some (cD ⟨r,none,0⟩ (bY t)):=by kernel_rfl
theorem vk{P:Program}{W:nJ}{b:Nat}{T ty:TypeId}{cs:Array nK}{n:Nat}{fn:Func}{p s u v:Tmp}{R:Ending->nJ->Prop}{t:Array nK}(hT:fT P ty n)(hr:fn.results=#[.tmp s,.cell p ty,.tmp u,.tmp v])(hp:t.getD p undef=.pointer (some ⟨b,0,none⟩))(hb:ax W b T cs)(hn:cs.size=n)(h:R (.returned (.tuple #[t.getD s undef,.agg cs,t.getD u undef,t.getD v undef])) W):bodyPost P fn R .ret { tmps:=t,defers:=[] } W:=by
 obtain⟨⟨d,h1,h2⟩,h3⟩:=hT;subst hn;refine bodyPost_ret (v:=.tuple #[t.getD s undef,.agg cs,t.getD u undef,t.getD v undef]) ?_ rfl h;have hl:=run_loadVar_row (P:=P) W b T ty cs (0,0) d hb h1 (by cases d<;>first|rfl|cases h2) h3;have hp':t[p]?.getD undef=.pointer (some ⟨b,0,none⟩):=by rw[<-hp];simp
 simp only[results,hr];simp[Sem.run_bind,Result.andThen,hp',asAddr,Sem.run_pure,hl]
theorem S6{B:Nat}{w:nJ}:aJ B w dc cO:=⟨⟨Sl.none_,Sl.none_,Sl.none_⟩,⟨Sl.none_,Sl.none_⟩,⟨Sl.none_,Sl.none_,Sl.none_⟩⟩
theorem Lb{t:aW}{ls:List bz}{w W:nJ}{e:Int}(h:kQ t ls=(([],[]),cO,e))[au w.heap.size w W][Le w.heap.size W]:rK t ls w (.returned (.tuple #[.slice none 0 0,aO dc cO,.slice none 0 0,.int .i64 e])) W:=by
 refine⟨none,0,dc,none,0,W,?_,aq,?_,?_,?_⟩
 ·rw[h];rfl
 ·rw[h];exact Sl.none_
 ·rw[h];exact S6
 ·rw[h];exact Sl.none_
end
section
open Hd
structure KR(t:aW)(ls:List bz)(j:Nat)(d:cE)(a:List bz):Prop where
 run:dJ (bY t) (ls.take j)=(d,a)
 valid:aG d.az=true
 aC:gL d.aC
 Dy:oZ d.aC
 given:d.given<=j
 len:a.length=j
theorem Ca{t:aW}{ls:List bz}(hv:aG t=true):KR t ls 0 (bY t) []:=⟨rfl,hv,zz,fun o ho=>(List.not_mem_nil ho).elim,nR _,rfl⟩
theorem KR.step{t:aW}{ls:List bz}{j:Nat}{d:cE}{a:List bz}(h:KR t ls j d a)(hj:j<ls.length)(h3:j<=1000)(hl:(nth ls j).length<=1000):KR t ls (j+1) (iC d (nth ls j)).1 (a++[(iC d (nth ls j)).2]):=by refine⟨?_,uB h.valid _,wK h.aC _,Mp h.Dy (nT h.given h3) hl,nT (ID _ _) (Nat.succ_le_succ h.given),by rw[List.length_append,h.len];rfl⟩;rw[bE ls hj,MA,h.run]
end
end Go.Proofs.YtdmedlkonaclnaaGreatDoor
