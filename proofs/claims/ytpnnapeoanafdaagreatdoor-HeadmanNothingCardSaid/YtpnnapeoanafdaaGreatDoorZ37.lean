/- A part of the proof that a law of layer 12 holds, cut small by a program (names and blanks): Hk4. -/
import Derived.Test.YtpnnapeoanafdaaGreatDoorZ36
set_option maxRecDepth 100000
set_option maxHeartbeats 40000000
set_option linter.unusedVariables false
set_option linter.unusedSimpArgs false
namespace Go.Proofs.YtpnnapeoanafdaaGreatDoor
open Go.RowKit
open Nat renaming le_trans → nT, le_refl → nR, zero_le → nE
open Go.Proofs.Tryz renaming prog → nH
open Go renaming World → nJ
section
open Hd
def Bp(n:Nat)(d:ct)(a:List aQ)(w:nJ)(e:Ending)(w':nJ):Prop:=
 ∃(aA:Option Addr) (ac:Nat) (r':aW) (lA:Option Addr) (lc:Nat) (δ:nJ),e=.returned (.tuple #[.slice aA n ac,aY r' d.ax,.slice lA d.az.length lc,.bool true])/\w'=ah w δ /\
  (ah w δ).ownsRow w.heap.size 9 1 (.slice aA n ac) n (a.flatMap bS)/\aK w.heap.size (ah w δ) r' d.ax/\(ah w δ).ownsRow w.heap.size 9 1 (.slice lA d.az.length lc) d.az.length ((d.az.map (·.line)).flatMap bS)
theorem vt(r:aW)(t:aO)(ls:List aQ)(A:Option Addr)(c:Nat)(hv:aE t=true)(hl:ls.length<=30)(hlen:∀x∈ls,x.length<=1000)(d:ct)(a:List aQ)(hd:(dJ (bZ t) ls).1=d)(ha:(dJ (bZ t) ls).2=a)(n:Nat)(hn:ls.length=n)(B:Nat)(w:nJ)(hT:aN B w r t)[hB:Le B w][h8:Le 8 w](hL:cT w)(hS:Sl bS B w A c ls):Calls nH 13 #[aY r t,.slice A n c] w (Bp n d a w):=by subst hd ha hn;exact UE r t ls A c hv hl hlen B w hT hL hS
theorem uH{base:Nat}{W:nJ}{A:Option Addr}{c n:Nat}{a:List aQ}(h:W.ownsRow base 9 1 (.slice A n c) n (a.flatMap bS))(hn:a.length=n):Sl bS W.heap.size W A c a:=by subst hn;exact Sl.bU h
theorem Tj{l:aQ}{k:Nat}{b:UInt8}(hb:l[k]?=some b):fS (l.take (k+1))=fS (l.take k)+if b=58 then 1 else 0:=by
 rw[List.take_add_one,hb];unfold fS;rw[List.count_append];by_cases h:b=58
 ·subst h;simp
 ·simp[h]
theorem Wc(l:aQ):fS l<=l.length:=List.count_le_length
theorem V9(l:aQ)(hl:l.length<=1000)(m:Nat)(hm:fS l=m)(w:nJ):Calls nH 18 #[.string (str l)] w fun e w'=>e=.returned (.int .i64 m)/\∃δ,w'=ah w δ:=by
 subst hm;go_enter Tryz.func18,Tryz.ntmps18;go_wp2_with fail;go_loopg [3,4] l.length (fun gg n i wr=>∃(k m:Nat) (δ:nJ),k<=l.length/\m<=k/\gg=l.length-k/\n=.int .i64 m/\i=.int .i64 k/\wr=ah w δ/\Hid (m=fS (l.take k)))
 case atStart=>exact⟨0,0,w,nE _,nR _,rfl,rfl,rfl,(bw w).symm,qh rfl⟩
 case round=>
  obtain⟨k,m,δ,hk,hmk,rfl,rfl,rfl,rfl,HM⟩:=hrel;by_cases hlt:k<l.length
  ·have hki:(k:Int)<(l.length:Int):=nQ;obtain⟨b,hb⟩:∃b,l[k]?=some b:=⟨l[k],by simp[hlt]⟩;have x1:=fun(W:nJ) t q hh=>rq (P:=nH) W t q l (k:Int) k rfl b hh hb;have HT:=qh (Tj hb);rw[<-HM.out] at HT;clear hb;by_cases h58:b=58
   ·have Fs:=qh (HT.out.trans (by rw[if_pos h58]));subst h58;have e58:((UInt8.toNat 58:Nat):Int)=58:=rfl;clear HT;go_wp2_with fail;go_roundg (l.length-(k+1))
    case measure=>omega
    case rel=>exact⟨k+1,m+1,_,nQ,nQ,rfl,by go_num,by go_num,ai,qh Fs.out.symm⟩
   ·have Fs:=qh (HT.out.trans (by rw[if_neg h58,Nat.add_zero]));have n58:((b.toNat:Int)==58)=false:=by simp;intro e;exact h58 (UInt8.toNat_inj.1 (show b.toNat=(58:UInt8).toNat by simpa using (by omega:b.toNat=58)))
    clear HT h58;go_wp2_with fail;go_roundg (l.length-(k+1))
    case measure=>omega
    case rel=>exact⟨k+1,m,_,nQ,nQ,rfl,rfl,by go_num,ai,qh Fs.out.symm⟩
  ·obtain rfl:k=l.length:=by omega
   have HF:Hid (m=fS l):=qh (by rw[HM.out,List.take_length]);go_wp2_with fail;go_ret;rw[<-HF.out];exact⟨rfl,ag⟩
theorem Kz{x:aQ}{n:Int}(h:numOf x=some n)(hl:x.length<=1000)(W:nJ):Calls nH 36 #[.string (str x)] W fun e w'=>e=.returned (.tuple #[.int .i64 n,.bool true])/\∃δ,w'=ah W δ:=by have:=gS x hl W;rw[h] at this;exact this
theorem X8{x:aQ}(h:numOf x=none)(hl:x.length<=1000)(W:nJ):Calls nH 36 #[.string (str x)] W fun e w'=>e=.returned (.tuple #[.int .i64 0,.bool false])/\∃δ,w'=ah W δ:=by have:=gS x hl W;rw[h] at this;exact this
theorem zK:∀k:Nat,mG (k+1)=mG k++[pR,sP]
 |0=>rfl
 |k+1=>by show pR::sP::mG (k+1)=(pR::sP::mG k)++[pR,sP];rw[zK k];rfl
theorem xk:∀k:Nat,(mG k).length=2*k
 |0=>rfl
 |k+1=>by show(mG k).length+1+1=_;rw[xk k];omega
def yh(t:aO)(m:Nat):List aQ:=(List.range m).flatMap fun j=>[jB (decide (t.af.hs.length-j≠0)),Lib.itoa (gD t (j+1))]
theorem Ad(t:aO)(m:Nat):yh t (m+1)=yh t m++[jB (decide (t.af.hs.length-m≠0)),Lib.itoa (gD t (m+1))]:=by unfold yh;rw[List.range_succ,List.flatMap_append];simp
theorem xy(t:aO):∀m:Nat,(yh t m).length=2*m
 |0=>rfl
 |m+1=>by rw[Ad,List.length_append,xy t m];simp;omega
theorem CT{α:Type}[Inhabited α]{a b:List α}{i:Nat}(h:i<a.length):nth (a++b) i=nth a i:=by unfold nth;rw[List.getD_eq_getElem?_getD,List.getD_eq_getElem?_getD,List.getElem?_append_left h]
theorem CS{α:Type}[Inhabited α]{a b:List α}{i:Nat}(h:a.length<=i):nth (a++b) i=nth b (i-a.length):=by unfold nth;rw[List.getD_eq_getElem?_getD,List.getD_eq_getElem?_getD,List.getElem?_append_right h]
theorem Ae(t:aO):∀(m p:Nat),p<m->nth (yh t m) (2*p)=jB (decide (t.af.hs.length-p≠0))/\nth (yh t m) (2*p+1)=Lib.itoa (gD t (p+1))
 |0,p,h=>absurd h (Nat.not_lt_zero _)
 |m+1,p,h=>by
  have hl:=xy t m;rw[Ad];by_cases hp:p<m
  ·rw[CT nQ,CT nQ];exact Ae t m p hp
  ·obtain rfl:p=m:=by omega
   rw[CS nQ,CS nQ,hl,Nat.sub_self,show 2*p+1-2*p=1 by omega];exact⟨rfl,rfl⟩
def pO(t:aO)(m:Nat):List aQ:=Lib.itoa (gD t 0)::yh t m
theorem yg(t:aO)(m:Nat):(pO t m).length=2*m+1:=by unfold pO;rw[List.length_cons,xy]
theorem vS(t:aO)(m p:Nat)(h:p<=m):nth (pO t m) (2*p)=Lib.itoa (gD t p):=by
 cases p with
 |zero=>rfl
 |succ p=>exact(Ae t m p nQ).2
theorem GR(t:aO)(m p:Nat)(h:p<m):nth (pO t m) (2*p+1)=jB (decide (t.af.hs.length-p≠0)):=(Ae t m p h).1
theorem GU{t:aO}(hv:aE t=true)(j:Nat):numOf (Lib.itoa (gD t j))=some (gD t j)/\(Lib.itoa (gD t j)).length<=1000:=by
 have h1:=(aX.1 (rj j hv).1).2.1;have h2:=Db h1;have h3:-1000000<gD t j/\gD t j<1000000:=by unfold gD;omega
 exact⟨jF.2 ⟨rfl,h3⟩,nT (we 6 nQ) nU⟩
theorem OJ(k:Nat):∀x∈CV k,x.length<=1000:=by
 have key:∀k,∀x∈mG k,x.length<=1000:=by
  intro k;induction k with
  |zero=>intro x hx;cases hx
  |succ k ih=>
   intro x hx
   rcases List.mem_cons.1 hx with rfl|hx
   ·decide
   ·rcases List.mem_cons.1 hx with rfl|hx
    ·decide
    ·exact ih x hx
 intro x hx;rcases List.mem_cons.1 hx with rfl|hx
 ·decide
 ·exact key _ x hx
end
end Go.Proofs.YtpnnapeoanafdaaGreatDoor
