/- A part of the proof that a law of layer 12 holds, cut small by a program (names and blanks): Ha7. -/
import Derived.Test.YtpnnapeoanafdaaGreatDoorZ5
set_option maxRecDepth 100000
set_option maxHeartbeats 40000000
set_option linter.unusedVariables false
set_option linter.unusedSimpArgs false
namespace Go.Proofs.YtpnnapeoanafdaaGreatDoor
open Go.RowKit
open Nat renaming lt_of_lt_of_le → nL, zero_le → nE
open Go.Proofs.Tryz renaming prog → nH
open Go renaming World → nJ
section
open An
namespace An
def wk(n:Net)(i:Nat):Bool:=decide (0<=spare n (bY n) i (fun _=>false))
end An
theorem VD(r:eS)(n:Net)(i:Nat)(B:Nat)(w:nJ)[hB:Le B w](h:cr B w r n)(hv:valid n=true)(hi:i<n.aB.length):Calls nH 257 #[eK r n,.int .i64 i] w fun e w'=>e=.returned (.bool (wk n i))/\∃δ,w'=ah w δ:=by
 have HV:=qh hv;have HI:=qh hi;have hlen:=xR hv;clear hv hi;go_enter Tryz.func257,Tryz.ntmps257;go_wp2_with (go_at_call 205;refine(Fz r n B _ h.up HV.out).mono ?_;rintro e w1 ⟨Al,cl,δ,rfl,rfl,Jh⟩);refine QAL ?_;intro W1 aH cJ dF cW di dz uu nt lC mQ jI nk nj;have Ji:uw W1 Al cl (bK n):=by rw[aH.out];exact Jh
 have HS:=qh Ji;have g1:cr W1.heap.size W1 r n:=(h.up (w':=W1)).wide;clear Ji Jh;obtain⟨b,o,hA,hb,hall⟩:=HS.out.Zo (xQ HV.out);subst hA;have HA:=qh hall;have ib:Lt b W1:=⟨hb⟩;clear hall hb;go_loopg [6] (bK n).length (fun g i' wr=>∃(k:Nat) (δ:nJ),k<=(bK n).length/\g=(bK n).length-k/\i'=.int .i64 k/\Hid (∀j,j<k->0<=spare n (nth (bK n) j) i (fun _=>false))/\wr=ah W1 δ)
 case atStart=>exact⟨0,W1,nE _,rfl,rfl,fun j hj=>by omega,(bw W1).symm⟩
 case round=>
  obtain⟨k,δ,hk,rfl,rfl,hn,rfl⟩:=hrel;by_cases hlt:k<(bK n).length
  ·obtain⟨A',c',d0,d1,d2,T6⟩:=HA.out k hlt;have Ja:uB n (nth (bK n) k)=true:=iu.1 (aR _ hlt);have Qe:=qh (GF HV.out Ja);have hki:(k:Int)<((bK n).length:Int):=nQ;have hk0:¬(k:Int)<0:=nQ;have HH:=qh (vm HV.out (wu Ja) (d:=fun _=>false) HI.out);clear Ja;by_cases hs:spare n (nth (bK n) k) i (fun _=>false)<0
   ·have TU:=qh hs;go_wp2_with fail;refine wpRl ?_;repeat (go_big_quiet_step ((first|(go_at_call 272;exact Calls.bV (Ct r n ⟨A',c'⟩ (nth (bK n) k) i W1.heap.size _ g1.up T6.up Qe.out HI.out)))))
    refine QBU ?_;rintro _ ⟨δq,rfl⟩;go_wp2_with fail;go_ret;exact⟨bg (by unfold wk;have:=TU.out;have:=HH.out;simp;omega),ag⟩
   ·have TU:=qh hs;go_wp2_with fail;refine wpRl ?_;repeat (go_big_quiet_step ((first|(go_at_call 272;exact Calls.bV (Ct r n ⟨A',c'⟩ (nth (bK n) k) i W1.heap.size _ g1.up T6.up Qe.out HI.out)))))
    refine QBU ?_;rintro _ ⟨δq,rfl⟩;go_wp2_with fail;go_roundg ((bK n).length-(k+1))
    case measure=>omega
    case rel=>
     refine⟨k+1,_,nQ,rfl,by go_num,fun j hj=>?_,ai⟩;by_cases VJ:j=k
     ·subst VJ;have:=TU.out;omega
     ·exact hn.out j nQ
  ·obtain rfl:k=(bK n).length:=by omega
   have HF:=qh (show wk n i=true by
    unfold wk
    have hm:=iu.2 (Cf HV.out)
    obtain⟨j,hj,hje⟩:=List.getElem_of_mem hm
    have:=hn.out j hj
    rw[bN _ hj,hje] at this
    exact decide_eq_true this)
   go_wp2_with fail;go_ret;exact⟨bg HF.out.symm,ag⟩
theorem Hs{n:Net}{i:Nat}{b:Bool}(hb:wk n i=b){r:eS}{B:Nat}{w:nJ}[hB:Le B w](h:cr B w r n)(hv:valid n=true)(hi:i<n.aB.length):Calls nH 257 #[eK r n,.int .i64 i] w fun e w'=>e=.returned (.bool b)/\∃δ,w'=ah w δ:=by subst hb;exact VD r n i B w h hv hi
namespace An
theorem FQ(n:Net){i k:Nat}(hi:i<n.aB.length):spare (uQ n i k) (bY (uQ n i k)) i (fun _=>false)=lH n i k:=by unfold spare can;rw[Hw _ _ _ hi,if_pos rfl];rfl
theorem Az(n:Net){i k:Nat}(hi:i<n.aB.length):wk (uQ n i k) i=decide (0<=lH n i k):=by unfold wk;rw[FQ _ hi]
end An
end
namespace An
theorem GN{n:Net}(hv:valid n=true)(hok:kG n=true):kQ n=(List.range n.aB.length).map fun i=>(eM n i:Int):=by unfold kQ;rw[hv,hok];rfl
theorem GM{n:Net}(hok:kG n=false):kQ n=[]:=by unfold kQ;rw[hok];simp
theorem RC{n:Net}(hv:valid n=true)(hok:kG n=true):nc n=0:=by unfold nc;rw[hv,hok];rfl
theorem RD{n:Net}(hv:valid n=true)(hok:kG n=false):nc n=3:=by unfold nc;rw[hv,hok];rfl
end An
section
open An
namespace An
def uM(n:Net)(k:Nat):List Int:=(List.range k).map fun j=>(eM n j:Int)
theorem GO(n:Net)(k:Nat):uM n (k+1)=uM n k++[(eM n k:Int)]:=by simp[uM,List.range_succ]
theorem zX(n:Net)(k:Nat):(uM n k).length=k:=by simp[uM]
end An
theorem UM(r:eS)(n:Net)(B:Nat)(w:nJ)[hB:Le B w](h:cr B w r n):Calls nH 228 #[eK r n] w fun e w'=>∃(A:Option Addr) (c:Nat) (δ:nJ),e=.returned (.tuple #[.slice A (kQ n).length c,.int .i64 (nc n)])/\w'=ah w δ/\Sl aI (ah w δ).heap.size (ah w δ) A c (kQ n):=by
 have H:=qh h;clear h;by_cases hv:valid n=true;all_goals try rw[Bool.not_eq_true] at hv
 case neg=>have HF:=qh (show kQ n=[] by simp[kQ,hv]);have HE:=qh (show nc n=20 by simp[nc,hv]);have HV:=qh hv;clear hv;go_enter Tryz.func228,Tryz.ntmps228;go_wp2_with (go_at_call 72;refine(jY r n B _ H.out.up).mono ?_;rw[HV.out];rintro e w1 ⟨rfl,δ,rfl⟩);go_ret2;rw[HF.out,HE.out];exact⟨none,0,_,rfl,ai,Sl.none_⟩
 have HV:=qh hv;have h6:=(aC.1 hv).2.2.2.1;have HL:=qh (aC.1 hv);clear hv;obtain⟨gA,gc,aA,ac,wA,wc⟩:=r;go_enter Tryz.func228,Tryz.ntmps228;rw[show eK ⟨gA,gc,aA,ac,wA,wc⟩ n=Value.agg #[.int .i64 n.aP.lo,.int .i64 n.aP.hi,.int .i64 n.cur.lo,.int .i64 n.cur.hi,.slice gA n.av.length gc,.slice aA n.aB.length ac,.slice wA n.aU.length wc] from rfl];go_upto_region 4 with(go_at_call 72;refine(jY ⟨gA,gc,aA,ac,wA,wc⟩ n B _ H.out.up).mono ?_;rw[HV.out];rintro e w1 ⟨rfl,δ,rfl⟩);refine QCL ?_;intro W1 aH cJ dF cW di dz uu nt lC mQ;have jI:W1.cell? ⟨w.heap.size,4,none⟩=some (.slice gA n.av.length gc):=by rw[aH.out];go_simp
 have nk:W1.cell? ⟨w.heap.size,5,none⟩=some (.slice aA n.aB.length ac):=by rw[aH.out];go_simp
 have nj:W1.cell? ⟨w.heap.size,6,none⟩=some (.slice wA n.aU.length wc):=by rw[aH.out];go_simp
 have G1:=qh (show cr B W1 ⟨gA,gc,aA,ac,wA,wc⟩ n from H.out.up);clear H;go_wp2_with fail;go_loopg [5,6] n.aB.length (fun g o i wr=>∃(k c:Nat) (A:Option Addr) (δ:nJ),k<=n.aB.length/\g=n.aB.length-k/\o=.slice A k c/\i=.int .i64 k/\Hid (wr.ownsRow W1.heap.size 3 1 (.slice A k c) k ((uM n k).flatMap aI))/\Hid (∀j,j<k->eM n j<jV n j)/\wr=ah W1 δ)
 case atStart=>exact⟨0,0,none,W1,nE _,rfl,rfl,rfl,World.ownsRow_nil _ _ _ _,fun j hj=>by omega,(bw W1).symm⟩
 case round=>
  obtain⟨k,c,A,δ,hk,rfl,rfl,rfl,HO,hn,rfl⟩:=hrel;by_cases hlt:k<n.aB.length
  ·obtain⟨b,o,hA,hb,d0,d1⟩:=G1.out.2.1.Zm hlt;have hA:aA=some ⟨b,o,none⟩:=hA;subst hA;have ib:Lt b W1:=⟨nL hb cJ.out⟩;have hki:(k:Int)<(n.aB.length:Int):=nQ;have hk0:¬(k:Int)<0:=nQ;have ha:=mI HV.out hlt;simp only[mY,decide_eq_true_eq] at ha;have ha0:0<=(nth n.aB k).wt:=ha.1;have ZY:(nth n.aB k).wt<=20:=ha.2.1;have HK:=qh hlt;have htk:=FH HV.out hlt;have HT:=qh htk;have hle:=RB n k;clear ha htk;go_wp2_with fail;go_loopg [7] (eM n k+1) (fun g m wr=>∃(j:Nat) (δ':nJ),j<=eM n k/\g=eM n k+1-j/\m=.int .i64 j/\wr=ah (ah W1 δ) δ')
   case atStart=>exact⟨0,ah W1 δ,nE _,rfl,rfl,(bw _).symm⟩
   case round=>
    obtain⟨j,δ',hj,rfl,rfl,rfl⟩:=hrel;have hj1:(j:Int)<=21:=by have:=HT.out;omega
    by_cases hlt2:j<eM n k
    ·have h20:(nth n.aB k).wt+(j:Int)<=20:=by have:=HT.out;omega
     have HHB:=qh (show wk (uQ n k j) k=false by rw[Az n HK.out];exact decide_eq_false (Int.not_le.2 (KA hlt2)));have Wu:=qh (AB HV.out (x:=j) HK.out nQ nQ);have HW1:=qh (show -100<=(nth n.aB k).wt+(j:Int)/\(nth n.aB k).wt+(j:Int)<=100 by omega);go_wp2_with fail;refine(Di ⟨gA,gc,some ⟨b,o,none⟩,ac,wA,wc⟩ n k j HK.out HW1.out B _ G1.out.up (by have:=HL.out;omega) (by have:=HL.out;omega) (by have:=HL.out;omega)).mono ?_;rintro e w1 ⟨r',δ1,rfl,rfl,ho⟩;have HOo:=qh ho;clear ho;go_wp2_with fail;refine(Hs HHB.out HOo.out.wide Wu.out (by rw[qI];exact HK.out)).mono ?_;rintro e w1 ⟨rfl,δ2,rfl⟩;go_wp2_with fail;go_roundg (eM n k+1-(j+1))
     case measure=>omega
     case rel=>exact⟨j+1,_,nQ,rfl,by go_num,ai⟩
    ·obtain rfl:j=eM n k:=by omega
     by_cases ht:eM n k<jV n k
     ·have h20:(nth n.aB k).wt+(eM n k:Int)<=20:=by have:=HT.out;omega
      have HHB:=qh (show wk (uQ n k (eM n k)) k=true by rw[Az n HK.out];exact decide_eq_true (OC ht));have Wu:=qh (AB HV.out (x:=eM n k) HK.out nQ nQ);have HW1:=qh (show -100<=(nth n.aB k).wt+(eM n k:Int)/\(nth n.aB k).wt+(eM n k:Int)<=100 by omega);have Wr:=qh ht;clear ht;go_wp2_with fail;refine(Di ⟨gA,gc,some ⟨b,o,none⟩,ac,wA,wc⟩ n k (eM n k) HK.out HW1.out B _ G1.out.up (by have:=HL.out;omega) (by have:=HL.out;omega) (by have:=HL.out;omega)).mono ?_;rintro e w1 ⟨r',δ1,rfl,rfl,ho⟩;have HOo:=qh ho;clear ho;go_wp2_with fail;refine(Hs HHB.out HOo.out.wide Wu.out (by rw[qI];exact HK.out)).mono ?_;rintro e w1 ⟨rfl,δ2,rfl⟩;go_wp2_with (at_builtin;(refine dL W1 wO (.tmp 49) (.tmp 51) rfl rfl (bu HO.out) rfl rfl nW rfl (by simp[Value.oneCell']) nQ nQ ?_);intro ZK Zh δ'' hown');go_roundg (n.aB.length-(k+1))
      case measure=>omega
      case rel=>
       refine⟨k+1,Zh,ZK,_,nQ,rfl,rfl,by go_num,?_,fun i hi=>?_,ai⟩
       ·rw[GO,List.flatMap_append];exact hown'
       ·by_cases hik:i=k
        ·subst hik;exact Wr.out
        ·exact hn.out i nQ
     ·have h21:(nth n.aB k).wt+(eM n k:Int)=21:=by have:=HT.out;omega
      have HN:=qh (show nc n=3/\kQ n=[] by
       have hno:kG n=false:=by
        rw[Bool.eq_false_iff]
        intro hh
        exact ht (uN.1 hh k HK.out)
       exact⟨RD HV.out hno,GM hno⟩)
      have h22:¬((nth n.aB k).wt+(eM n k:Int)<=20):=nQ;have h23:20<(nth n.aB k).wt+(eM n k:Int):=nQ;clear h21 ht;go_wp2_with fail;go_ret2;refine⟨none,0,?_,ah (ah W1 δ) δ',ai,?_⟩
      ·rw[HN.out.1,HN.out.2];rfl
      ·rw[HN.out.2];exact Sl.none_
  ·obtain rfl:k=n.aB.length:=by omega
   have HE:=qh (show nc n=0/\kQ n=uM n n.aB.length by
    have hok:kG n=true:=uN.2 hn.out
    exact⟨RC HV.out hok,GN HV.out hok⟩)
   go_wp2_with fail;go_ret2;refine⟨A,c,ah W1 δ,?_,ai,?_⟩
   ·rw[HE.out.1,HE.out.2,zX];rfl
   ·rw[HE.out.2,<-ai (w:=w) (W:=ah W1 δ)];exact Sl.bU (by rw[zX];exact HO.out)
end
section
open An
namespace An
def Eo(n:Net):Nat->Int
 |0=>n.cur.hi-n.cur.lo+1
 |k+1=>Eo n k*((nth n.av k).hi-(nth n.av k).lo+1)
def Ij(n:Net):Bool:=MR n ⟨0,0,[]⟩||(valid n&&(decide (24<Eo n n.av.length)||decide (100<Eo n n.av.length*(n.aP.hi-n.aP.lo+1))))
end An
theorem Y8(r:eS)(n:Net)(B:Nat)(w:nJ)[hB:Le B w](h:cr B w r n):Calls nH 115 #[eK r n] w fun e w'=>e=.returned (.bool (Ij n))/\∃δ,w'=ah w δ:=by
 by_cases hg:MR n ⟨0,0,[]⟩=true
 ·go_enter Tryz.func115,Tryz.ntmps115;go_wp2_with (go_at_call 176;refine(KX r n ⟨none,0⟩ ⟨0,0,[]⟩ _).mono ?_;rw[hg];rintro e w1 ⟨rfl,δ,rfl⟩);go_ret;exact⟨bg (by unfold Ij;rw[hg];rfl),ag⟩
 ·rw[Bool.not_eq_true] at hg;have HG:=qh hg;clear hg;by_cases hv:valid n=true;all_goals try rw[Bool.not_eq_true] at hv
  all_goals have HV:=qh hv;clear hv
  ·have uO:n.av.length<=3:=(aC.1 HV.out).2.2.1;have hc:0<=n.cur.lo/\n.cur.lo<=n.cur.hi/\n.cur.hi<=20:=by have:=(aC.1 HV.out).2.1;simp only[jP,decide_eq_true_eq] at this;omega
   have hw:0<=n.aP.lo/\n.aP.lo<=n.aP.hi/\n.aP.hi<=20:=by have:=(aC.1 HV.out).1;simp only[jP,decide_eq_true_eq] at this;omega
   go_enter Tryz.func115,Tryz.ntmps115;go_upto_region 6 with(first|(go_at_call 176;refine(KX r n ⟨none,0⟩ ⟨0,0,[]⟩ _).mono ?_;rw[HG.out];rintro e w1 ⟨rfl,δ,rfl⟩)|(go_at_call 72;refine(jY r n B _ h.up).mono ?_;rw[HV.out];rintro e w1 ⟨rfl,δ',rfl⟩));refine QAL ?_;intro W1 aH cJ dF cW di dz uu nt lC mQ jI nk nj;have s1:Sl gY B W1 r.gA r.gc n.av:=h.1.up;have hlen:=s1.len;go_wp2_with fail;go_loopg [3,4] n.av.length (fun g v i wr=>∃(k:Nat) (m:Int) (δ:nJ),k<=n.av.length/\g=n.av.length-k/\v=.int .i64 m/\i=.int .i64 k/\Hid ((0<=m/\m<=21*(10:Int) ^ k)/\m=Eo n k)/\wr=ah W1 δ)
   case atStart=>exact⟨0,_,W1,nE _,rfl,rfl,rfl,by unfold Hid;exact⟨nQ,rfl⟩,(bw W1).symm⟩
   case round=>
    obtain⟨k,m,δ,hk,rfl,rfl,rfl,hm,rfl⟩:=hrel;by_cases hlt:k<n.av.length
    ·obtain⟨b,o,hA,hb,d0,d1⟩:=s1.sp hlt;have ib:Lt b W1:=⟨nL hb cJ.out⟩;have hgk:0<=(nth n.av k).lo/\(nth n.av k).lo<=(nth n.av k).hi/\(nth n.av k).hi<=9:=by have:=(List.all_eq_true.1 (by have:=(aC.1 HV.out).2.2.2.2.2.1;unfold nI at this;exact this)) _ (aR n.av hlt);simp only[jP,decide_eq_true_eq] at this;omega
     have sw:0<=m/\m<=2100:=by
      have h1:=hm.out.1;have:(10:Int) ^ k<=10 ^ 2:=by rcases(show k=0\/k=1\/k=2 by omega) with h|h|h<;>rw[h]<;>decide
      omega
     have MW:=xw (a:=m) (A:=2100) (b:=(nth n.av k).hi-(nth n.av k).lo+1) (B:=10) sw.1 sw.2 nQ nQ;have HM:=qh (show 0<=m*((nth n.av k).hi-(nth n.av k).lo+1)/\m*((nth n.av k).hi-(nth n.av k).lo+1)<=21*(10:Int) ^ (k+1) by
      have h1:=hm.out.1
      have h2:=xw (a:=m) (A:=21*(10:Int) ^ k) (b:=(nth n.av k).hi-(nth n.av k).lo+1) (B:=10) sw.1 h1.2 nQ nQ
      refine⟨h2.1,?_⟩
      rw[Int.pow_succ,<-Int.mul_assoc]
      exact h2.2)
     have hki:(k:Int)<(n.av.length:Int):=nQ;have hk0:¬(k:Int)<0:=nQ;rw[hA] at jI;clear hA;go_wp2_with fail;refine wpRl ?_;repeat (go_big_quiet_step ((first|(fail))))
     refine QBU ?_;rintro _ ⟨δq,rfl⟩;go_wp2_with fail;go_roundg (n.av.length-(k+1))
     case measure=>omega
     case rel=>exact⟨k+1,_,_,nQ,rfl,rfl,by go_num,⟨HM.out,by rw[hm.out.2];rfl⟩,ai⟩
    ·obtain rfl:k=n.av.length:=by omega
     have sw:0<=m/\m<=21000:=by
      have h1:=hm.out.1;have:(10:Int) ^ n.av.length<=10 ^ 3:=by rcases(show n.av.length=0\/n.av.length=1\/n.av.length=2\/n.av.length=3 by omega) with h|h|h|h<;>rw[h]<;>decide
      omega
     have MW:=xw (a:=m) (A:=21000) (b:=n.aP.hi-n.aP.lo+1) (B:=21) sw.1 sw.2 nQ nQ;have HF:=qh (show Ij n=(decide (24<m)||decide (100<m*(n.aP.hi-n.aP.lo+1))) by unfold Ij;rw[HG.out,HV.out,hm.out.2];rfl);by_cases q1:24<m
     ·go_wp2_with fail;go_ret;exact⟨bg (by rw[HF.out,decide_eq_true q1];rfl),ag⟩
     ·by_cases q2:100<m*(n.aP.hi-n.aP.lo+1);all_goals have HQ:=qh q2;go_wp2_with fail;go_ret
      ·exact⟨bg (by rw[HF.out,decide_eq_true HQ.out];simp),ag⟩
      ·exact⟨bg (by rw[HF.out,decide_eq_false (Int.not_lt.2 HQ.out),decide_eq_false (Int.not_lt.2 q1)];rfl),ag⟩
  ·go_enter Tryz.func115,Tryz.ntmps115;go_wp2_with (first|(go_at_call 176;refine(KX r n ⟨none,0⟩ ⟨0,0,[]⟩ _).mono ?_;rw[HG.out];rintro e w1 ⟨rfl,δ,rfl⟩)|(go_at_call 72;refine(jY r n B _ h.up).mono ?_;rw[HV.out];rintro e w1 ⟨rfl,δ,rfl⟩));go_ret;exact⟨bg (by unfold Ij;rw[HG.out,HV.out];rfl),ag⟩
namespace An
end An
end
section
open An
namespace An
end An
end
section
open An
end
end Go.Proofs.YtpnnapeoanafdaaGreatDoor
