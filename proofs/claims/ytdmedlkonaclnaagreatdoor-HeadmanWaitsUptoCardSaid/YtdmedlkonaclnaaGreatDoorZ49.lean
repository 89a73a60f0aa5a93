/- A part of the proof that a law of layer 12 holds, cut small by a program (names and blanks): Hk14. -/
import Derived.Test.YtdmedlkonaclnaaGreatDoorZ36
set_option maxRecDepth 100000
set_option maxHeartbeats 40000000
set_option linter.unusedVariables false
set_option linter.unusedSimpArgs false
namespace Go.Proofs.YtdmedlkonaclnaaGreatDoor
open Go.RowKit
open Nat renaming le_trans → nT, lt_of_lt_of_le → nL, le_refl → nR, zero_le → nE
open Go.Proofs.Tryz renaming prog → nH
open Go renaming World → nJ, Value → nK
section
open Hd
def Hu{α:Type}(enc:α->List nK)(B:Nat)(w:nJ)(A:Option Addr)(c:Nat)(xss:List (List α)):Prop:=
 xss.length<=c/\c<=9223372036854775807/\∃cs:List nK,Cells w B A cs/\cs.length=xss.length/\∀i (h:i<xss.length),∃A' c',cs[i]?=some (.slice A' xss[i].length c')/\Sl enc B w A' c' xss[i]
theorem Hu.at_{α:Type}{enc:α->List nK}{B:Nat}{w:nJ}{A:Option Addr}{c:Nat}{xss:List (List α)}(h:Hu enc B w A c xss){k:Nat}(hk:k<xss.length):∃b o A' c',A=some ⟨b,o,none⟩/\b<B/\w.cell? ⟨b,o+k,none⟩=some (.slice A' xss[k].length c')/\Sl enc B w A' c' xss[k]:=by obtain⟨h1,h2,cs,h3,h4,h5⟩:=h;obtain⟨A',c',e,s⟩:=h5 k hk;obtain⟨b,o,hA,hb,hc⟩:=h3 (by rintro rfl;simp at e);exact⟨b,o,A',c',hA,hb,hc k _ e,s⟩
theorem ov{W U:nJ}{A1 A2:Option Addr}{n1 n2 c1 c2:Nat}{a1 a2:List bz}{T:TypeId}(h1:Sl aX W.heap.size W A1 c1 a1)(h2:Sl aX W.heap.size W A2 c2 a2)(e1:a1.length=n1)(e2:a2.length=n2)(hU:W.alloc (.cells #[.slice A1 n1 c1,.slice A2 n2 c2] T)=U):Hu aX U.heap.size U (some ⟨W.heap.size,0,none⟩) 2 [a1,a2]:=by
 subst hU e1 e2;have w1:au W.heap.size W (W.alloc (.cells #[.slice A1 a1.length c1,.slice A2 a2.length c2] T)):=inferInstance;have w2:Le W.heap.size (W.alloc (.cells #[.slice A1 a1.length c1,.slice A2 a2.length c2] T)):=inferInstance;have e:(W.alloc (.cells #[.slice A1 a1.length c1,.slice A2 a2.length c2] T)).heap.size=W.heap.size+1:=nV;refine⟨nR _,nQ,[.slice A1 a1.length c1,.slice A2 a2.length c2],?_,rfl,fun i hi=>?_⟩
 ·rw[e];exact gi rfl
 ·match i,hi with
  |0,_=>exact⟨_,_,rfl,h1.wide⟩
  |1,_=>exact⟨_,_,rfl,h2.wide⟩
theorem yL(xss:List (List bz))(A:Option Addr)(c:Nat)(B:Nat)(w:nJ)(hS:Hu aX B w A c xss)[hB:Le B w](hn:xss.length<=10)(hm:∀x∈xss,x.length<=1000):Calls nH 28 #[.slice A xss.length c] w fun e w'=>∃(A':Option Addr) (c':Nat),e=.returned (.slice A' xss.flatten.length c')/\Sl aX w'.heap.size w' A' c' xss.flatten/\∃δ,w'=af w δ:=by
 have HS:=qh hS;have HM:Hid (∀k,k<=xss.length->(xss.take k).flatten.length<=1000*k):=qh fun k=>by
  induction k with
  |zero=>intro _;simp
  |succ k ih=>
   intro h
   rw[bE _ nQ,List.flatten_append,List.length_append]
   have h1:=ih nQ
   have h2:=hm _ (aV xss (k:=k) nQ)
   simp only[List.flatten_cons,List.flatten_nil,List.append_nil]
   omega
 have V0:=qh hm;clear hS hm;go_enter Tryz.func28,Tryz.ntmps28;go_wp2_with fail;go_loopg [3,4] xss.length (fun g o i wr=>∃(k:Nat) (A':Option Addr) (c':Nat) (L:List bz),k<=xss.length/\g=xss.length-k/\o=.slice A' L.length c'/\i=.int .i64 k/\Hid (L=(xss.take k).flatten)/\Hid (wr.ownsRow w.heap.size 9 1 (.slice A' L.length c') L.length (L.flatMap aX))/\au w.heap.size w wr/\Le w.heap.size wr)
 case atStart=>exact⟨0,none,0,[],nE _,rfl,rfl,rfl,rfl,qh (World.ownsRow_nil _ _ _ _),inferInstance,inferInstance⟩
 case round=>
  obtain⟨k,A',c',L,hk,rfl,rfl,rfl,HK,HO,i1,i2⟩:=hrel;by_cases hlt:k<xss.length
  ·obtain⟨b,o,A2,c2,hA,hb,hc,hs⟩:=HS.out.at_ hlt;subst hA;have hki:(k:Int)<(xss.length:Int):=nQ;have hk0:¬(k:Int)<0:=nQ;have ib:Lt b wr:=⟨nL hb (nT hB.out i2.out)⟩;have d0:wr.cell? ⟨b,o+k,none⟩=some (.slice A2 xss[k].length c2):=(aZ i1.out _ _ (nL hb hB.out)).trans hc;obtain⟨x,hx⟩:∃x,xss[k]=x:=⟨_,rfl⟩;have hx2:nth xss k=x:=by rw[bR _ hlt];exact hx
   rw[hx] at hs d0;have gB:au B w wr:=⟨⟨i1.out.1,i1.out.2.1,i1.out.2.2.1,fun b hb=>i1.out.2.2.2 b (nL hb hB.out)⟩⟩;have lB:Le B wr:=⟨nT hB.out i2.out⟩;have HX:=qh hs;have rO:Hid (L.length<=10000):=qh (by have:=HM.out k nQ;rw[<-HK.out] at this;omega);have qN:Hid (x.length<=1000):=qh (by rw[<-hx];exact V0.out _ (List.getElem_mem hlt));have Mg:Hid (L++x=(xss.take (k+1)).flatten):=qh (by rw[bE _ hlt,List.flatten_append,<-HK.out,hx2];simp);clear hc hs hx hx2;go_wp2_with (at_builtin;(refine jK w YE (.tmp 11) (.tmp 15) rfl rfl (v:=.slice A' L.length c') (n:=L.length) (xs:=L.flatMap aX) HO.out rfl (B:=B) (A:=A2) (m:=x.length) (c:=c2) (news:=x.flatMap aX) rfl (HX.out.up.2.2) (bX aX 1 gD x) (ei aX (fun x u hu=>by simp[aX] at hu;subst hu;rfl) _) (by have:=rO.out;have:=qN.out;omega) nQ ?_);intro A3 c3 δ3 mq rj);go_roundg (xss.length-(k+1))
   case measure=>omega
   case rel=>refine⟨k+1,A3,c3,L++x,nQ,rfl,by rw[List.length_append],by go_num,Mg,?_,inferInstance,inferInstance⟩;unfold Hid;rw[List.length_append,List.flatMap_append];exact mq
  ·obtain rfl:k=xss.length:=by omega
   have HF:Hid (L=xss.flatten):=qh (by rw[HK.out,List.take_length]);go_wp2_with fail;go_ret;rw[<-HF.out];exact⟨A',c',rfl,Sl.bU HO.out,ag⟩
end
end Go.Proofs.YtdmedlkonaclnaaGreatDoor
