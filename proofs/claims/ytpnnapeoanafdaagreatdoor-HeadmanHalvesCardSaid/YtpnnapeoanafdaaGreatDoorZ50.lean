/- A part of the proof that a law of layer 12 holds, cut small by a program (names and blanks): Hk14. -/
import Derived.Test.YtpnnapeoanafdaaGreatDoorZ37
set_option maxRecDepth 100000
set_option maxHeartbeats 40000000
set_option linter.unusedVariables false
set_option linter.unusedSimpArgs false
namespace Go.Proofs.YtpnnapeoanafdaaGreatDoor
open Go.RowKit
open Nat renaming le_trans → nT, lt_of_lt_of_le → nL, le_refl → nR, zero_le → nE
open Go.Proofs.Tryz renaming prog → nH
open Go renaming World → nJ, Value → nK
section
open Hd
def Sll{α:Type}(enc:α->List nK)(B:Nat)(w:nJ)(A:Option Addr)(c:Nat)(xss:List (List α)):Prop:=
 xss.length<=c/\c<=9223372036854775807/\∃cs:List nK,Cells w B A cs/\cs.length=xss.length/\∀i (h:i<xss.length),∃A' c',cs[i]?=some (.slice A' xss[i].length c')/\Sl enc B w A' c' xss[i]
theorem Sll.at_{α:Type}{enc:α->List nK}{B:Nat}{w:nJ}{A:Option Addr}{c:Nat}{xss:List (List α)}(h:Sll enc B w A c xss){k:Nat}(hk:k<xss.length):∃b o A' c',A=some ⟨b,o,none⟩/\b<B/\w.cell? ⟨b,o+k,none⟩=some (.slice A' xss[k].length c')/\Sl enc B w A' c' xss[k]:=by obtain⟨h1,h2,cs,h3,h4,h5⟩:=h;obtain⟨A',c',e,s⟩:=h5 k hk;obtain⟨b,o,hA,hb,hc⟩:=h3 (by rintro rfl;simp at e);exact⟨b,o,A',c',hA,hb,hc k _ e,s⟩
theorem lit_lists{W U:nJ}{A1 A2:Option Addr}{n1 n2 c1 c2:Nat}{a1 a2:List aQ}{T:TypeId}(h1:Sl bS W.heap.size W A1 c1 a1)(h2:Sl bS W.heap.size W A2 c2 a2)(e1:a1.length=n1)(e2:a2.length=n2)(hU:W.alloc (.cells #[.slice A1 n1 c1,.slice A2 n2 c2] T)=U):Sll bS U.heap.size U (some ⟨W.heap.size,0,none⟩) 2 [a1,a2]:=by
 subst hU e1 e2;have w1:aD W.heap.size W (W.alloc (.cells #[.slice A1 a1.length c1,.slice A2 a2.length c2] T)):=inferInstance;have w2:Le W.heap.size (W.alloc (.cells #[.slice A1 a1.length c1,.slice A2 a2.length c2] T)):=inferInstance;have e:(W.alloc (.cells #[.slice A1 a1.length c1,.slice A2 a2.length c2] T)).heap.size=W.heap.size+1:=nV;refine⟨nR _,nQ,[.slice A1 a1.length c1,.slice A2 a2.length c2],?_,rfl,fun i hi=>?_⟩
 ·rw[e];exact ia rfl
 ·match i,hi with
  |0,_=>exact⟨_,_,rfl,h1.wide⟩
  |1,_=>exact⟨_,_,rfl,h2.wide⟩
theorem joinS_c(xss:List (List aQ))(A:Option Addr)(c:Nat)(B:Nat)(w:nJ)(hS:Sll bS B w A c xss)[hB:Le B w](hn:xss.length<=10)(hm:∀x∈xss,x.length<=1000):Calls nH 15 #[.slice A xss.length c] w fun e w'=>∃(A':Option Addr) (c':Nat),e=.returned (.slice A' xss.flatten.length c')/\Sl bS w'.heap.size w' A' c' xss.flatten/\∃δ,w'=ah w δ:=by
 have HS:=qh hS;have HM:Hid (∀k,k<=xss.length->(xss.take k).flatten.length<=1000*k):=qh fun k=>by
  induction k with
  |zero=>intro _;simp
  |succ k ih=>
   intro h
   rw[bz _ nQ,List.flatten_append,List.length_append]
   have h1:=ih nQ
   have h2:=hm _ (aR xss (k:=k) nQ)
   simp only[List.flatten_cons,List.flatten_nil,List.append_nil]
   omega
 have Xg:=qh hm;clear hS hm;go_enter Tryz.func15,Tryz.ntmps15;go_wp2_with fail;go_loopg [3,4] xss.length (fun g o i wr=>∃(k:Nat) (A':Option Addr) (c':Nat) (L:List aQ),k<=xss.length/\g=xss.length-k/\o=.slice A' L.length c'/\i=.int .i64 k/\Hid (L=(xss.take k).flatten)/\Hid (wr.ownsRow w.heap.size 9 1 (.slice A' L.length c') L.length (L.flatMap bS))/\aD w.heap.size w wr/\Le w.heap.size wr)
 case atStart=>exact⟨0,none,0,[],nE _,rfl,rfl,rfl,rfl,qh (World.ownsRow_nil _ _ _ _),inferInstance,inferInstance⟩
 case round=>
  obtain⟨k,A',c',L,hk,rfl,rfl,rfl,HK,HO,i1,i2⟩:=hrel;by_cases hlt:k<xss.length
  ·obtain⟨b,o,A2,c2,hA,hb,hc,hs⟩:=HS.out.at_ hlt;subst hA;have hki:(k:Int)<(xss.length:Int):=nQ;have hk0:¬(k:Int)<0:=nQ;have ib:Lt b wr:=⟨nL hb (nT hB.out i2.out)⟩;have d0:wr.cell? ⟨b,o+k,none⟩=some (.slice A2 xss[k].length c2):=(bB i1.out _ _ (nL hb hB.out)).trans hc;obtain⟨x,hx⟩:∃x,xss[k]=x:=⟨_,rfl⟩;have hx2:nth xss k=x:=by rw[bN _ hlt];exact hx
   rw[hx] at hs d0;have aa0:aD B w wr:=⟨⟨i1.out.1,i1.out.2.1,i1.out.2.2.1,fun b hb=>i1.out.2.2.2 b (nL hb hB.out)⟩⟩;have lB:Le B wr:=⟨nT hB.out i2.out⟩;have HX:=qh hs;have pY:Hid (L.length<=10000):=qh (by have:=HM.out k nQ;rw[<-HK.out] at this;omega);have qQ:Hid (x.length<=1000):=qh (by rw[<-hx];exact Xg.out _ (List.getElem_mem hlt));have Jl:Hid (L++x=(xss.take (k+1)).flatten):=qh (by rw[bz _ hlt,List.flatten_append,<-HK.out,hx2];simp);clear hc hs hx hx2;go_wp2_with (at_builtin;(refine jN w Ut (.tmp 11) (.tmp 15) rfl rfl (v:=.slice A' L.length c') (n:=L.length) (xs:=L.flatMap bS) HO.out rfl (B:=B) (A:=A2) (m:=x.length) (c:=c2) (news:=x.flatMap bS) rfl (HX.out.up.2.2) (cm bS 1 gP x) (dX bS (fun x u hu=>by simp[bS] at hu;subst hu;rfl) _) (by have:=pY.out;have:=qQ.out;omega) nQ ?_);intro A3 c3 δ3 lK uO);go_roundg (xss.length-(k+1))
   case measure=>omega
   case rel=>refine⟨k+1,A3,c3,L++x,nQ,rfl,by rw[List.length_append],by go_num,Jl,?_,inferInstance,inferInstance⟩;unfold Hid;rw[List.length_append,List.flatMap_append];exact lK
  ·obtain rfl:k=xss.length:=by omega
   have HF:Hid (L=xss.flatten):=qh (by rw[HK.out,List.take_length]);go_wp2_with fail;go_ret;rw[<-HF.out];exact⟨A',c',rfl,Sl.bU HO.out,ag⟩
theorem runS_app'(a:List aQ):∀(d:ct) (b:List aQ),dJ d (a++b)=((dJ (dJ d a).1 b).1,(dJ d a).2++(dJ (dJ d a).1 b).2):=by
 induction a with
 |nil=>intro d b;rfl
 |cons x xs ih=>intro d b;rw[List.cons_append,dJ,ih];rfl
theorem ab7{t:aO}{ls:List aQ}{cut:Nat}(h:∀l∈ls.take cut,jQ l=false):(dJ (bZ t) (ls.take cut)).1.az=[]/\(dJ (bZ t) ls).2=(dJ (bZ t) (ls.take cut)).2++(dJ (bZ (dJ (bZ t) (ls.take cut)).1.ax) (ls.drop cut)).2/\(dJ (bZ t) ls).1.ax=(dJ (bZ (dJ (bZ t) (ls.take cut)).1.ax) (ls.drop cut)).1.ax/\(dJ (bZ t) ls).1.az=(dJ (bZ (dJ (bZ t) (ls.take cut)).1.ax) (ls.drop cut)).1.az:=by have hp:=tH h t 0;have e:=runS_app' (ls.take cut) (bZ t) (ls.drop cut);rw[List.take_append_drop] at e;have hd:dJ (bZ t) (ls.take cut)=(⟨(qX t (ls.take cut)).1,[],0⟩,(qX t (ls.take cut)).2):=hp;rw[e,hd];exact⟨rfl,rfl,rfl,rfl⟩
end
end Go.Proofs.YtpnnapeoanafdaaGreatDoor
