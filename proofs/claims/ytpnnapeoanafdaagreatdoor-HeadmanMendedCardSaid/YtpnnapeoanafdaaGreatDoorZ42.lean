/- A part of the proof that a law of layer 12 holds, cut small by a program (names and blanks): Hk6. -/
import Derived.Test.YtpnnapeoanafdaaGreatDoorZ37
set_option maxRecDepth 100000
set_option maxHeartbeats 40000000
set_option linter.unusedVariables false
set_option linter.unusedSimpArgs false
namespace Go.Proofs.YtpnnapeoanafdaaGreatDoor
open Go.RowKit
open Nat renaming le_trans → nT, lt_of_lt_of_le → nL, le_refl → nR, zero_le → nE
open Go.Proofs.Tryz renaming prog → nH
open Go renaming World → nJ
section
open Hd
theorem G5(r:aW)(t:aO)(B:Nat)(w:nJ)(hT:aN B w r t)[hB:Le B w][h8:Le 8 w](hL:cT w):Calls nH 8 #[aY r t] w fun e w'=>e=.returned (.bool true)/\∃δ,w'=ah w δ:=by
 have H:=qh hT;have HL:=qh hL;clear hT hL;go_enter Tryz.func8,Tryz.ntmps8;go_upto_region 1 with fail;refine QBT ?_;intro W1 aH cJ dF cW di dz eL jG;refine QDK ?_;intro X1;clear aH;go_wp2_with (refine au aq rfl _ rfl rfl X1.out rfl ?_);refine(qv r t [] none 0 B _ H.out.up Sl.none_).mono ?_;unfold kZ;rintro e w1 ⟨b,δ1,rfl,rfl,hr⟩;cases b with
 |false=>
  clear hr
  go_wp2_with (go_at_call 11;refine(dK _ HL.out.up).mono ?_;rintro e w1 ⟨rfl,δ2,rfl⟩)
  go_ret
  exact⟨rfl,ag⟩
 |true=>
  obtain⟨Hv,hv,Qr⟩:=hr rfl
  have hn6:=(Me.aC.1 (aX.1 hv).2.1).2.1
  have HV:=qh hv
  obtain⟨n,hn⟩:∃n,t.af.hs.length=n:=⟨_,rfl⟩
  have HN:=qh hn
  rw[hn] at hn6
  clear hr Hv hv Qr
  obtain⟨X,hX⟩:∃X,ah W1 δ1=X:=⟨_,rfl⟩
  obtain⟨g2,mu⟩:∃g,w.heap.size=g:=⟨_,rfl⟩
  have x1:aD w.heap.size w X:=by rw[<-hX];infer_instance
  have x2:Le w.heap.size X:=by rw[<-hX];infer_instance
  have x3:aD B w X:=by rw[<-hX];infer_instance
  have x4:Le B X:=by rw[<-hX];infer_instance
  have x5:aD 8 w X:=by rw[<-hX];infer_instance
  have x6:Le 8 X:=by rw[<-hX];infer_instance
  have X2:Hid (ay X g2 39 (aG r t)):=by rw[<-hX,<-mu];exact qh (X1.out.ah _)
  have x8:=X2.out.ax.2.2.2.2.2.2.2.2.1
  have x7:=X2.out.ax.2.2.2.2.2.2.2.1
  have xl:Lt g2 X:=X2.out.lt
  rw[hn] at x8
  rw[hX,mu]
  clear hX X1 hn
  go_wp2_with fail
  go_loopg [3,4] (n+1) (fun gn s3 s4 wr=>∃(j c':Nat) (A':Option Addr) (L:List aQ),j<=n+1/\gn=n+1-j/\s3=.slice A' L.length c'/\s4=.int .i64 j/\Hid (L=sP::mG j)/\Hid (wr.ownsRow X.heap.size 9 1 (.slice A' L.length c') L.length (L.flatMap bS))/\aD X.heap.size X wr/\Le X.heap.size wr)
  case atStart=>exact⟨0,1,some ⟨X.heap.size,0,none⟩,[sP],nE _,rfl,rfl,rfl,qh rfl,qh (vF (n:=1) (nR _) rfl nQ rfl),inferInstance,inferInstance⟩
  case round=>
   obtain⟨j,c',A',L,hj,rfl,rfl,rfl,HK,HO,i1,i2⟩:=hrel;have z8:wr.cell? ⟨g2,8,none⟩=some (.slice r.af.hA n r.af.hc):=(bB i1.out _ _ xl.out).trans x8;have zl:Lt g2 wr:=⟨nL xl.out i2.out⟩;by_cases hlt:j<n+1
   ·have hji:(j:Int)<=(n:Int):=nQ;have hxl:L.length<=100:=by rw[HK.out,List.length_cons,xk];omega
    go_wp2_with (at_builtin;(refine bP X Ut (.tmp 27) (.tmp 28) rfl rfl HO.out rfl rfl nW rfl (by simp[Value.oneCell']) nQ nQ ?_);intro A2 c2 δ2 gK adD);go_roundg (n+1-(j+1))
    case measure=>omega
    case rel=>refine⟨j+1,c2,A2,L++[pR,sP],nQ,rfl,by rw[List.length_append];rfl,by go_num,qh (by rw[HK.out,zK];rfl),?_,inferInstance,inferInstance⟩;unfold Hid;rw[List.length_append,List.flatMap_append];exact gK
   ·obtain rfl:j=n+1:=by omega
    have hji:¬(((n+1:Nat):Int)<=(n:Int)):=nQ;have ahA:¬((n:Int)+1<=(n:Int)):=nQ;have HLn:Hid (L.length=2*n+3):=qh (by rw[HK.out,List.length_cons,xk];omega);have HLl:Hid (∀x∈L,x.length<=1000):=qh (by rw[HK.out];exact OJ n);have hrun:=KD HV.out;have hend:=KF HV.out;rw[HN.out] at hrun hend;have HLe:Hid (L=CV n):=qh HK.out;rw[<-HLe.out] at hrun;have HA:Hid ((dJ (bZ t) L).2=pO t (n+1)):=qh (by rw[hrun];unfold pO yh;rw[HN.out]);obtain⟨tt,Vx⟩:∃x,iterM (n+1) t=x:=⟨_,rfl⟩;rw[Vx] at hrun hend;obtain⟨nn,tn,hh⟩:=tt;simp only[] at hend;subst hend;have HD:Hid ((dJ (bZ t) L).1=⟨⟨nn,⟨t.af.m,[],[]⟩,hh⟩,[],0⟩):=qh (by rw[hrun]);have Jk:Hid (Sl bS wr.heap.size wr A' c' L):=qh (Sl.bU HO.out);have g1:aD w.heap.size w wr:=pU x1 i1;have g2':Le w.heap.size wr:=⟨nT x2.out i2.out⟩;have g3:aD B w wr:=⟨⟨g1.out.1,g1.out.2.1,g1.out.2.2.1,fun b hb=>g1.out.2.2.2 b (nL hb hB.out)⟩⟩;have g4:Le B wr:=⟨nT hB.out g2'.out⟩;have g5:aD 8 w wr:=⟨⟨g1.out.1,g1.out.2.1,g1.out.2.2.1,fun b hb=>g1.out.2.2.2 b (nL hb h8.out)⟩⟩;have g6:Le 8 wr:=⟨nT h8.out g2'.out⟩;have g7:Le wr.heap.size wr:=⟨nR _⟩;obtain⟨m,hm⟩:∃m,L.length=m:=⟨_,rfl⟩;have HM:=qh hm;have HR:Hid (Calls nH 13 #[aY r t,.slice A' m c'] wr (Bp m ⟨⟨nn,⟨t.af.m,[],[]⟩,hh⟩,[],0⟩ (pO t (n+1)) wr)):=
     qh (vt r t L A' c' HV.out (by rw[HLn.out];omega) HLl.out _ _ HD.out HA.out m hm wr.heap.size wr H.out.wide HL.out.up Jk.out)
    have X3:Hid (ay wr g2 39 (aG r t)):=qh (ay.eO X2.out);rw[hm];have HM3:Hid (m=2*n+3):=qh (by rw[<-hm];exact HLn.out);clear hrun Vx HO Jk HLn HLl HLe HA HD HK hm;go_upto_region 9 with(first|(refine au aq rfl _ rfl rfl X3.out rfl ?_)|(go_at_call 13;refine HR.out.mono ?_;unfold Bp;rintro e w1 ⟨aA,ac,rN,lA,lc,δ5,rfl,rfl,oA,oT,oL⟩;have OA:=qh oA;have OT:=qh oT;have OL:=qh oL;clear oA oT oL)|(refine iS (cs':=aG rN ⟨nn,⟨t.af.m,[],[]⟩,hh⟩) aq rfl _ _ rfl rfl rfl rfl rfl (aL _ _) ?_));obtain⟨g,hg⟩:∃g,(ah wr δ5).heap.size=g:=⟨_,rfl⟩;refine aM fun W5 jT=>?_;have f1:aD w.heap.size w W5:=gy jT;have f2:Le w.heap.size W5:=fI jT;have f3:aD X.heap.size X W5:=gy jT;have f4:Le X.heap.size W5:=fI jT;have f5:aD 8 w W5:=gy jT;have f6:Le 8 W5:=fI jT;have E5:Hid (ay W5 g 39 (aG rN ⟨nn,⟨t.af.m,[],[]⟩,hh⟩)):=by rw[jT.out];exact qh (ay.new hg.symm)
    have SA5:Hid (Sl bS W5.heap.size W5 aA ac (pO t (n+1))):=by rw[jT.out];exact qh (uH (OA.out.alloc _) (by have:=HM3.out;rw[yg];omega))
    clear jT OA OT OL HR;have lw:Le W5.heap.size W5:=⟨nR _⟩;rw[hg];clear hg;have y7:=E5.out.ax.2.2.2.2.2.2.2.1;have y8:=E5.out.ax.2.2.2.2.2.2.2.2.1;have y9:=E5.out.ax.2.2.2.2.2.2.2.2.2.1;have ylt:Lt g W5:=E5.out.lt;simp only[List.length_nil] at y8 y9;have z7:W5.cell? ⟨g2,7,none⟩=some (.int .i64 t.af.m):=(bB f3.out _ _ xl.out).trans x7;have zl5:Lt g2 W5:=⟨nL xl.out f4.out⟩;go_wp2_with fail;go_loopg [9] (n+1) (fun gn s9 wr=>∃(p q:Nat) (δ:nJ),p<=n+1/\gn=n+1-p/\s9=.int .i64 q/\wr=ah W5 δ/\Hid (q=2*p+1))
    case atStart=>exact⟨0,1,W5,nE _,rfl,rfl,ai,qh rfl⟩
    case round=>
     obtain⟨p,q,δ7,hp,rfl,rfl,rfl,HQ⟩:=hrel;have hq:=HQ.out;have WQ:=HM3.out;by_cases hpl:p<n+1
     ·have hqm:(q:Int)<(m:Int):=nQ;have T0:¬(q:Int)<0:=nQ;obtain⟨q1,hq1⟩:∃k,2*p=k:=⟨_,rfl⟩;obtain⟨q2,BE⟩:∃k,2*(p+1)=k:=⟨_,rfl⟩;obtain⟨m2,hm2⟩:∃k,2*n+1=k:=⟨_,rfl⟩;have e1:IntKind.i64.wrap ((q:Int)-1)=(q1:Int):=by rw[IntWalk.i64_in];omega;omega
      have e2:IntKind.i64.wrap ((q:Int)+1)=(q2:Int):=by rw[IntWalk.i64_in];omega;omega
      have e3:IntKind.i64.wrap ((m:Int)-2)=(m2:Int):=by rw[IntWalk.i64_in];omega;omega
      have ahk:(q1:Int)<(m:Int):=nQ;have ahi:(q2:Int)<(m:Int):=nQ;have ahl:¬(q1:Int)<0:=nQ;have ahj:¬(q2:Int)<0:=nQ;have hlen:=yg t (n+1);obtain⟨ab,ao,rfl,hab,d0⟩:=SA5.out.kK (k:=q1) nQ;obtain⟨ab',ao',B9,ab3,d1⟩:=SA5.out.kK (k:=q) nQ;injection B9 with B9;injection B9 with rz AH;subst rz AH;obtain⟨ab',ao',B9,ab3,d2⟩:=SA5.out.kK (k:=q2) nQ;injection B9 with B9;injection B9 with rz AH;subst rz AH;have iab:Lt ab W5:=⟨hab⟩;rw[<-hq1,vS t _ p nQ,hq1] at d0;rw[hq,GR t _ p nQ,<-hq,HN.out] at d1;rw[<-BE,vS t _ (p+1) nQ,BE] at d2;have hle:=OR HV.out p;obtain⟨hn0,hl0⟩:=GU HV.out p;obtain⟨Jc,hl1⟩:=GU HV.out (p+1);obtain⟨x,hx⟩:∃x,Lib.itoa (gD t p)=x:=⟨_,rfl⟩;obtain⟨y,hy⟩:∃x,Lib.itoa (gD t (p+1))=x:=⟨_,rfl⟩;obtain⟨lx,YJ⟩:∃x,gD t p=x:=⟨_,rfl⟩;obtain⟨ly,YI⟩:∃x,gD t (p+1)=x:=⟨_,rfl⟩;rw[hx] at d0 hn0 hl0;rw[hy] at d2 Jc hl1;rw[YJ] at hn0 hle;rw[YI] at Jc hle;have hgt:¬lx<ly:=nQ;have hgd:decide (lx<ly)=false:=decide_eq_false hgt;have HX:=qh (show ∀W:nJ,Calls nH 36 #[.string (str x)] W fun e w'=>e=.returned (.tuple #[.int .i64 lx,.bool true])/\∃δ,w'=ah W δ from fun W=>Kz hn0 hl0 W);have HY:=qh (show ∀W:nJ,Calls nH 36 #[.string (str y)] W fun e w'=>e=.returned (.tuple #[.int .i64 ly,.bool true])/\∃δ,w'=ah W δ from fun W=>Kz Jc hl1 W);have afe:q<=100:=nQ;have TW:Hid (q+2=2*(p+1)+1):=qh nQ;have kS:p<n->(q:Int)<(m2:Int):=nQ;have fX:¬p<n->¬(q:Int)<(m2:Int):=nQ;clear hle hn0 hl0 Jc hl1 hx hy YJ YI hab ab3 hlen hq WQ hq1 BE hm2 HQ;by_cases hpn:p<n
      ·have hb:decide (n-p≠0)=true:=decide_eq_true nQ;rw[hb] at d1;replace d1:W5.cell? ⟨ab,ao+q,none⟩=some (.string (str tW)):=d1;have s1:((str tW).toList==[111,107])=true:=cj tW _;have YA:(q:Int)<(m2:Int):=kS hpn;have hqd:decide ((q:Int)<(m2:Int))=true:=decide_eq_true YA;clear hb hpn kS fX;obtain⟨u,hu⟩:∃u,tW=u:=⟨_,rfl⟩;rw[hu] at d1 s1;clear hu;go_wp2_with (first|(go_at_call 36;(first|(with_reducible refine Calls.mono (HX.out _) ?_)|(with_reducible refine Calls.mono (HY.out _) ?_));rintro e w1 ⟨rfl,δ8,rfl⟩));go_roundg (n+1-(p+1))
       case measure=>omega
       case rel=>exact⟨p+1,q+2,_,nQ,rfl,by go_num,ai,TW⟩
      ·have hb:decide (n-p≠0)=false:=decide_eq_false nQ;rw[hb] at d1;replace d1:W5.cell? ⟨ab,ao+q,none⟩=some (.string (str vk)):=d1;have s1:((str vk).toList==[111,107])=false:=(cj vk _).trans nU;have s2:((str vk).toList==[110,111])=true:=cj vk _;have YA:¬(q:Int)<(m2:Int):=fX hpn;have hqd:decide ((q:Int)<(m2:Int))=false:=decide_eq_false YA;clear hb hpn kS fX;obtain⟨u,hu⟩:∃u,vk=u:=⟨_,rfl⟩;rw[hu] at d1 s1 s2;clear hu;go_wp2_with (first|(go_at_call 36;(first|(with_reducible refine Calls.mono (HX.out _) ?_)|(with_reducible refine Calls.mono (HY.out _) ?_));rintro e w1 ⟨rfl,δ8,rfl⟩));go_roundg (n+1-(p+1))
       case measure=>omega
       case rel=>exact⟨p+1,q+2,_,nQ,rfl,by go_num,ai,TW⟩
     ·obtain rfl:p=n+1:=by omega
      have hqm:¬(q:Int)<(m:Int):=nQ;clear hq WQ;go_wp2_with (go_at_call 11;refine(dK _ HL.out.up).mono ?_;rintro e w1 ⟨rfl,δ2,rfl⟩);go_ret;exact⟨rfl,ag⟩
end
end Go.Proofs.YtpnnapeoanafdaaGreatDoor
