/- A part of the proof that a law of layer 12 holds, cut small by a program (names and blanks): Ha7. -/
import Derived.Test.YtdmedlkonaclnaaGreatDoorZ5
set_option maxRecDepth 100000
set_option maxHeartbeats 40000000
set_option linter.unusedVariables false
set_option linter.unusedSimpArgs false
namespace Go.Proofs.YtdmedlkonaclnaaGreatDoor
open Go.RowKit
open Nat renaming lt_of_lt_of_le → nL, zero_le → nE
open Go.Proofs.Tryz renaming prog → nH
open Go renaming World → nJ
section
open An
namespace An
def vQ(n:Net)(i:Nat):Bool:=decide (0<=spare n (bW n) i (fun _=>false))
end An
theorem Uq(r:eP)(n:Net)(i:Nat)(B:Nat)(w:nJ)[hB:Le B w](h:cg B w r n)(hv:valid n=true)(hi:i<n.aB.length):Calls nH 246 #[eK r n,.int .i64 i] w fun e w'=>e=.returned (.bool (vQ n i))/\∃δ,w'=af w δ:=by
 have HV:=qh hv;have HI:=qh hi;have hlen:=xH hv;clear hv hi;go_enter Tryz.func246,Tryz.ntmps246;go_wp2_with (go_at_call 237;refine(EE r n B _ h.up HV.out).mono ?_;rintro e w1 ⟨Al,cl,δ,rfl,rfl,Ik⟩);refine QAL ?_;intro W1 aH cJ dF cU dA dD um mV kR mG jE mR mQ;have Il:ur W1 Al cl (bI n):=by rw[aH.out];exact Ik
 have HS:=qh Il;have g1:cg W1.heap.size W1 r n:=(h.up (w':=W1)).wide;clear Il Ik;obtain⟨b,o,hA,hb,hall⟩:=HS.out.Yj (xG HV.out);subst hA;have HA:=qh hall;have ib:Lt b W1:=⟨hb⟩;clear hall hb;go_loopg [6] (bI n).length (fun g i' wr=>∃(k:Nat) (δ:nJ),k<=(bI n).length/\g=(bI n).length-k/\i'=.int .i64 k/\Hid (∀j,j<k->0<=spare n (nth (bI n) j) i (fun _=>false))/\wr=af W1 δ)
 case atStart=>exact⟨0,W1,nE _,rfl,rfl,fun j hj=>by omega,(bw W1).symm⟩
 case round=>
  obtain⟨k,δ,hk,rfl,rfl,hn,rfl⟩:=hrel;by_cases hlt:k<(bI n).length
  ·obtain⟨A',c',d0,d1,d2,SM⟩:=HA.out k hlt;have Ig:uy n (nth (bI n) k)=true:=gR.1 (aV _ hlt);have OO:=qh (FG HV.out Ig);have hki:(k:Int)<((bI n).length:Int):=nQ;have hk0:¬(k:Int)<0:=nQ;have HH:=qh (vb HV.out (vT Ig) (d:=fun _=>false) HI.out);clear Ig;by_cases hs:spare n (nth (bI n) k) i (fun _=>false)<0
   ·have SF:=qh hs;go_wp2_with fail;refine wpRl ?_;repeat (go_big_quiet_step ((first|(go_at_call 268;exact Calls.bN (BJ r n ⟨A',c'⟩ (nth (bI n) k) i W1.heap.size _ g1.up SM.up OO.out HI.out)))))
    refine QBT ?_;rintro _ ⟨δq,rfl⟩;go_wp2_with fail;go_ret;exact⟨bu (by unfold vQ;have:=SF.out;have:=HH.out;simp;omega),ag⟩
   ·have SF:=qh hs;go_wp2_with fail;refine wpRl ?_;repeat (go_big_quiet_step ((first|(go_at_call 268;exact Calls.bN (BJ r n ⟨A',c'⟩ (nth (bI n) k) i W1.heap.size _ g1.up SM.up OO.out HI.out)))))
    refine QBT ?_;rintro _ ⟨δq,rfl⟩;go_wp2_with fail;go_roundg ((bI n).length-(k+1))
    case measure=>omega
    case rel=>
     refine⟨k+1,_,nQ,rfl,by go_num,fun j hj=>?_,aq⟩;by_cases Uw:j=k
     ·subst Uw;have:=SF.out;omega
     ·exact hn.out j nQ
  ·obtain rfl:k=(bI n).length:=by omega
   have HF:=qh (show vQ n i=true by
    unfold vQ
    have hm:=gR.2 (By HV.out)
    obtain⟨j,hj,hje⟩:=List.getElem_of_mem hm
    have:=hn.out j hj
    rw[bR _ hj,hje] at this
    exact decide_eq_true this)
   go_wp2_with fail;go_ret;exact⟨bu HF.out.symm,ag⟩
theorem Gw{n:Net}{i:Nat}{b:Bool}(hb:vQ n i=b){r:eP}{B:Nat}{w:nJ}[hB:Le B w](h:cg B w r n)(hv:valid n=true)(hi:i<n.aB.length):Calls nH 246 #[eK r n,.int .i64 i] w fun e w'=>e=.returned (.bool b)/\∃δ,w'=af w δ:=by subst hb;exact Uq r n i B w h hv hi
namespace An
theorem EU(n:Net){i k:Nat}(hi:i<n.aB.length):spare (uL n i k) (bW (uL n i k)) i (fun _=>false)=kW n i k:=by unfold spare can;rw[Gz _ _ _ hi,if_pos rfl];rfl
theorem Ac(n:Net){i k:Nat}(hi:i<n.aB.length):vQ (uL n i k) i=decide (0<=kW n i k):=by unfold vQ;rw[EU _ hi]
end An
end
namespace An
theorem FM{n:Net}(hv:valid n=true)(hok:kq n=true):kJ n=(List.range n.aB.length).map fun i=>(eL n i:Int):=by unfold kJ;rw[hv,hok];rfl
theorem FL{n:Net}(hok:kq n=false):kJ n=[]:=by unfold kJ;rw[hok];simp
theorem Qo{n:Net}(hv:valid n=true)(hok:kq n=true):mO n=0:=by unfold mO;rw[hv,hok];rfl
theorem Qp{n:Net}(hv:valid n=true)(hok:kq n=false):mO n=3:=by unfold mO;rw[hv,hok];rfl
end An
section
open An
namespace An
def uI(n:Net)(k:Nat):List Int:=(List.range k).map fun j=>(eL n j:Int)
theorem FN(n:Net)(k:Nat):uI n (k+1)=uI n k++[(eL n k:Int)]:=by simp[uI,List.range_succ]
theorem zJ(n:Net)(k:Nat):(uI n k).length=k:=by simp[uI]
end An
theorem TA(r:eP)(n:Net)(B:Nat)(w:nJ)[hB:Le B w](h:cg B w r n):Calls nH 202 #[eK r n] w fun e w'=>∃(A:Option Addr) (c:Nat) (δ:nJ),e=.returned (.tuple #[.slice A (kJ n).length c,.int .i64 (mO n)])/\w'=af w δ/\Sl aI (af w δ).heap.size (af w δ) A c (kJ n):=by
 have H:=qh h;clear h;by_cases hv:valid n=true;all_goals try rw[Bool.not_eq_true] at hv
 case neg=>have HF:=qh (show kJ n=[] by simp[kJ,hv]);have HE:=qh (show mO n=20 by simp[mO,hv]);have HV:=qh hv;clear hv;go_enter Tryz.func202,Tryz.ntmps202;go_wp2_with (go_at_call 35;refine(jU r n B _ H.out.up).mono ?_;rw[HV.out];rintro e w1 ⟨rfl,δ,rfl⟩);go_ret2;rw[HF.out,HE.out];exact⟨none,0,_,rfl,aq,Sl.none_⟩
 have HV:=qh hv;have h6:=(aD.1 hv).2.2.2.1;have HL:=qh (aD.1 hv);clear hv;obtain⟨gA,gc,aA,ac,wA,wc⟩:=r;go_enter Tryz.func202,Tryz.ntmps202;rw[show eK ⟨gA,gc,aA,ac,wA,wc⟩ n=Value.agg #[.int .i64 n.aP.lo,.int .i64 n.aP.hi,.int .i64 n.cur.lo,.int .i64 n.cur.hi,.slice gA n.ay.length gc,.slice aA n.aB.length ac,.slice wA n.aU.length wc] from rfl];go_upto_region 4 with(go_at_call 35;refine(jU ⟨gA,gc,aA,ac,wA,wc⟩ n B _ H.out.up).mono ?_;rw[HV.out];rintro e w1 ⟨rfl,δ,rfl⟩);refine QCP ?_;intro W1 aH cJ dF cU dA dD um mV kR mG;have jE:W1.cell? ⟨w.heap.size,4,none⟩=some (.slice gA n.ay.length gc):=by rw[aH.out];go_simp
 have mR:W1.cell? ⟨w.heap.size,5,none⟩=some (.slice aA n.aB.length ac):=by rw[aH.out];go_simp
 have mQ:W1.cell? ⟨w.heap.size,6,none⟩=some (.slice wA n.aU.length wc):=by rw[aH.out];go_simp
 have G1:=qh (show cg B W1 ⟨gA,gc,aA,ac,wA,wc⟩ n from H.out.up);clear H;go_wp2_with fail;go_loopg [5,6] n.aB.length (fun g o i wr=>∃(k c:Nat) (A:Option Addr) (δ:nJ),k<=n.aB.length/\g=n.aB.length-k/\o=.slice A k c/\i=.int .i64 k/\Hid (wr.ownsRow W1.heap.size 3 1 (.slice A k c) k ((uI n k).flatMap aI))/\Hid (∀j,j<k->eL n j<jS n j)/\wr=af W1 δ)
 case atStart=>exact⟨0,0,none,W1,nE _,rfl,rfl,rfl,World.ownsRow_nil _ _ _ _,fun j hj=>by omega,(bw W1).symm⟩
 case round=>
  obtain⟨k,c,A,δ,hk,rfl,rfl,rfl,HO,hn,rfl⟩:=hrel;by_cases hlt:k<n.aB.length
  ·obtain⟨b,o,hA,hb,d0,d1⟩:=G1.out.2.1.Yh hlt;have hA:aA=some ⟨b,o,none⟩:=hA;subst hA;have ib:Lt b W1:=⟨nL hb cJ.out⟩;have hki:(k:Int)<(n.aB.length:Int):=nQ;have hk0:¬(k:Int)<0:=nQ;have ha:=mz HV.out hlt;simp only[mN,decide_eq_true_eq] at ha;have ha0:0<=(nth n.aB k).wt:=ha.1;have YR:(nth n.aB k).wt<=20:=ha.2.1;have HK:=qh hlt;have htk:=EM HV.out hlt;have HT:=qh htk;have hle:=Qn n k;clear ha htk;go_wp2_with fail;go_loopg [7] (eL n k+1) (fun g m wr=>∃(j:Nat) (δ':nJ),j<=eL n k/\g=eL n k+1-j/\m=.int .i64 j/\wr=af (af W1 δ) δ')
   case atStart=>exact⟨0,af W1 δ,nE _,rfl,rfl,(bw _).symm⟩
   case round=>
    obtain⟨j,δ',hj,rfl,rfl,rfl⟩:=hrel;have hj1:(j:Int)<=21:=by have:=HT.out;omega
    by_cases hlt2:j<eL n k
    ·have h20:(nth n.aB k).wt+(j:Int)<=20:=by have:=HT.out;omega
     have HHB:=qh (show vQ (uL n k j) k=false by rw[Ac n HK.out];exact decide_eq_false (Int.not_le.2 (JC hlt2)));have Vh:=qh (Ae HV.out (x:=j) HK.out nQ nQ);have HW1:=qh (show -100<=(nth n.aB k).wt+(j:Int)/\(nth n.aB k).wt+(j:Int)<=100 by omega);go_wp2_with fail;refine(CC ⟨gA,gc,some ⟨b,o,none⟩,ac,wA,wc⟩ n k j HK.out HW1.out B _ G1.out.up (by have:=HL.out;omega) (by have:=HL.out;omega) (by have:=HL.out;omega)).mono ?_;rintro e w1 ⟨r',δ1,rfl,rfl,ho⟩;have HOo:=qh ho;clear ho;go_wp2_with fail;refine(Gw HHB.out HOo.out.wide Vh.out (by rw[qG];exact HK.out)).mono ?_;rintro e w1 ⟨rfl,δ2,rfl⟩;go_wp2_with fail;go_roundg (eL n k+1-(j+1))
     case measure=>omega
     case rel=>exact⟨j+1,_,nQ,rfl,by go_num,aq⟩
    ·obtain rfl:j=eL n k:=by omega
     by_cases ht:eL n k<jS n k
     ·have h20:(nth n.aB k).wt+(eL n k:Int)<=20:=by have:=HT.out;omega
      have HHB:=qh (show vQ (uL n k (eL n k)) k=true by rw[Ac n HK.out];exact decide_eq_true (Nd ht));have Vh:=qh (Ae HV.out (x:=eL n k) HK.out nQ nQ);have HW1:=qh (show -100<=(nth n.aB k).wt+(eL n k:Int)/\(nth n.aB k).wt+(eL n k:Int)<=100 by omega);have HTT:=qh ht;clear ht;go_wp2_with fail;refine(CC ⟨gA,gc,some ⟨b,o,none⟩,ac,wA,wc⟩ n k (eL n k) HK.out HW1.out B _ G1.out.up (by have:=HL.out;omega) (by have:=HL.out;omega) (by have:=HL.out;omega)).mono ?_;rintro e w1 ⟨r',δ1,rfl,rfl,ho⟩;have HOo:=qh ho;clear ho;go_wp2_with fail;refine(Gw HHB.out HOo.out.wide Vh.out (by rw[qG];exact HK.out)).mono ?_;rintro e w1 ⟨rfl,δ2,rfl⟩;go_wp2_with (at_builtin;(refine dL W1 wo (.tmp 49) (.tmp 51) rfl rfl (bg HO.out) rfl rfl nW rfl (by simp[Value.oneCell']) nQ nQ ?_);intro YD Yc δ'' hown');go_roundg (n.aB.length-(k+1))
      case measure=>omega
      case rel=>
       refine⟨k+1,Yc,YD,_,nQ,rfl,rfl,by go_num,?_,fun i hi=>?_,aq⟩
       ·rw[FN,List.flatMap_append];exact hown'
       ·by_cases hik:i=k
        ·subst hik;exact HTT.out
        ·exact hn.out i nQ
     ·have h21:(nth n.aB k).wt+(eL n k:Int)=21:=by have:=HT.out;omega
      have HN:=qh (show mO n=3/\kJ n=[] by
       have hno:kq n=false:=by
        rw[Bool.eq_false_iff]
        intro hh
        exact ht (uJ.1 hh k HK.out)
       exact⟨Qp HV.out hno,FL hno⟩)
      have h22:¬((nth n.aB k).wt+(eL n k:Int)<=20):=nQ;have h23:20<(nth n.aB k).wt+(eL n k:Int):=nQ;clear h21 ht;go_wp2_with fail;go_ret2;refine⟨none,0,?_,af (af W1 δ) δ',aq,?_⟩
      ·rw[HN.out.1,HN.out.2];rfl
      ·rw[HN.out.2];exact Sl.none_
  ·obtain rfl:k=n.aB.length:=by omega
   have HE:=qh (show mO n=0/\kJ n=uI n n.aB.length by
    have hok:kq n=true:=uJ.2 hn.out
    exact⟨Qo HV.out hok,FM HV.out hok⟩)
   go_wp2_with fail;go_ret2;refine⟨A,c,af W1 δ,?_,aq,?_⟩
   ·rw[HE.out.1,HE.out.2,zJ];rfl
   ·rw[HE.out.2,<-aq (w:=w) (W:=af W1 δ)];exact Sl.bU (by rw[zJ];exact HO.out)
end
section
open An
namespace An
def DC(n:Net):Nat->Int
 |0=>n.cur.hi-n.cur.lo+1
 |k+1=>DC n k*((nth n.ay k).hi-(nth n.ay k).lo+1)
def GL(n:Net):Bool:=LJ n ⟨0,0,[]⟩||(valid n&&(decide (24<DC n n.ay.length)||decide (100<DC n n.ay.length*(n.aP.hi-n.aP.lo+1))))
end An
theorem XV(r:eP)(n:Net)(B:Nat)(w:nJ)[hB:Le B w](h:cg B w r n):Calls nH 71 #[eK r n] w fun e w'=>e=.returned (.bool (GL n))/\∃δ,w'=af w δ:=by
 by_cases hg:LJ n ⟨0,0,[]⟩=true
 ·go_enter Tryz.func71,Tryz.ntmps71;go_wp2_with (go_at_call 139;refine(JX r n ⟨none,0⟩ ⟨0,0,[]⟩ _).mono ?_;rw[hg];rintro e w1 ⟨rfl,δ,rfl⟩);go_ret;exact⟨bu (by unfold GL;rw[hg];rfl),ag⟩
 ·rw[Bool.not_eq_true] at hg;have HG:=qh hg;clear hg;by_cases hv:valid n=true;all_goals try rw[Bool.not_eq_true] at hv
  all_goals have HV:=qh hv;clear hv
  ·have rj:n.ay.length<=3:=(aD.1 HV.out).2.2.1;have hc:0<=n.cur.lo/\n.cur.lo<=n.cur.hi/\n.cur.hi<=20:=by have:=(aD.1 HV.out).2.1;simp only[jM,decide_eq_true_eq] at this;omega
   have hw:0<=n.aP.lo/\n.aP.lo<=n.aP.hi/\n.aP.hi<=20:=by have:=(aD.1 HV.out).1;simp only[jM,decide_eq_true_eq] at this;omega
   go_enter Tryz.func71,Tryz.ntmps71;go_upto_region 6 with(first|(go_at_call 139;refine(JX r n ⟨none,0⟩ ⟨0,0,[]⟩ _).mono ?_;rw[HG.out];rintro e w1 ⟨rfl,δ,rfl⟩)|(go_at_call 35;refine(jU r n B _ h.up).mono ?_;rw[HV.out];rintro e w1 ⟨rfl,δ',rfl⟩));refine QAL ?_;intro W1 aH cJ dF cU dA dD um mV kR mG jE mR mQ;have s1:Sl gI B W1 r.gA r.gc n.ay:=h.1.up;have hlen:=s1.len;go_wp2_with fail;go_loopg [3,4] n.ay.length (fun g v i wr=>∃(k:Nat) (m:Int) (δ:nJ),k<=n.ay.length/\g=n.ay.length-k/\v=.int .i64 m/\i=.int .i64 k/\Hid ((0<=m/\m<=21*(10:Int) ^ k)/\m=DC n k)/\wr=af W1 δ)
   case atStart=>exact⟨0,_,W1,nE _,rfl,rfl,rfl,by unfold Hid;exact⟨nQ,rfl⟩,(bw W1).symm⟩
   case round=>
    obtain⟨k,m,δ,hk,rfl,rfl,rfl,hm,rfl⟩:=hrel;by_cases hlt:k<n.ay.length
    ·obtain⟨b,o,hA,hb,d0,d1⟩:=s1.sp hlt;have ib:Lt b W1:=⟨nL hb cJ.out⟩;have hgk:0<=(nth n.ay k).lo/\(nth n.ay k).lo<=(nth n.ay k).hi/\(nth n.ay k).hi<=9:=by have:=(List.all_eq_true.1 (by have:=(aD.1 HV.out).2.2.2.2.2.1;unfold nk at this;exact this)) _ (aV n.ay hlt);simp only[jM,decide_eq_true_eq] at this;omega
     have sQ:0<=m/\m<=2100:=by
      have h1:=hm.out.1;have:(10:Int) ^ k<=10 ^ 2:=by rcases(show k=0\/k=1\/k=2 by omega) with h|h|h<;>rw[h]<;>decide
      omega
     have LQ:=wZ (a:=m) (A:=2100) (b:=(nth n.ay k).hi-(nth n.ay k).lo+1) (B:=10) sQ.1 sQ.2 nQ nQ;have HM:=qh (show 0<=m*((nth n.ay k).hi-(nth n.ay k).lo+1)/\m*((nth n.ay k).hi-(nth n.ay k).lo+1)<=21*(10:Int) ^ (k+1) by
      have h1:=hm.out.1
      have h2:=wZ (a:=m) (A:=21*(10:Int) ^ k) (b:=(nth n.ay k).hi-(nth n.ay k).lo+1) (B:=10) sQ.1 h1.2 nQ nQ
      refine⟨h2.1,?_⟩
      rw[Int.pow_succ,<-Int.mul_assoc]
      exact h2.2)
     have hki:(k:Int)<(n.ay.length:Int):=nQ;have hk0:¬(k:Int)<0:=nQ;rw[hA] at jE;clear hA;go_wp2_with fail;refine wpRl ?_;repeat (go_big_quiet_step ((first|(fail))))
     refine QBT ?_;rintro _ ⟨δq,rfl⟩;go_wp2_with fail;go_roundg (n.ay.length-(k+1))
     case measure=>omega
     case rel=>exact⟨k+1,_,_,nQ,rfl,rfl,by go_num,⟨HM.out,by rw[hm.out.2];rfl⟩,aq⟩
    ·obtain rfl:k=n.ay.length:=by omega
     have sQ:0<=m/\m<=21000:=by
      have h1:=hm.out.1;have:(10:Int) ^ n.ay.length<=10 ^ 3:=by rcases(show n.ay.length=0\/n.ay.length=1\/n.ay.length=2\/n.ay.length=3 by omega) with h|h|h|h<;>rw[h]<;>decide
      omega
     have LQ:=wZ (a:=m) (A:=21000) (b:=n.aP.hi-n.aP.lo+1) (B:=21) sQ.1 sQ.2 nQ nQ;have HF:=qh (show GL n=(decide (24<m)||decide (100<m*(n.aP.hi-n.aP.lo+1))) by unfold GL;rw[HG.out,HV.out,hm.out.2];rfl);by_cases q1:24<m
     ·go_wp2_with fail;go_ret;exact⟨bu (by rw[HF.out,decide_eq_true q1];rfl),ag⟩
     ·by_cases q2:100<m*(n.aP.hi-n.aP.lo+1);all_goals have HQ:=qh q2;go_wp2_with fail;go_ret
      ·exact⟨bu (by rw[HF.out,decide_eq_true HQ.out];simp),ag⟩
      ·exact⟨bu (by rw[HF.out,decide_eq_false (Int.not_lt.2 HQ.out),decide_eq_false (Int.not_lt.2 q1)];rfl),ag⟩
  ·go_enter Tryz.func71,Tryz.ntmps71;go_wp2_with (first|(go_at_call 139;refine(JX r n ⟨none,0⟩ ⟨0,0,[]⟩ _).mono ?_;rw[HG.out];rintro e w1 ⟨rfl,δ,rfl⟩)|(go_at_call 35;refine(jU r n B _ h.up).mono ?_;rw[HV.out];rintro e w1 ⟨rfl,δ,rfl⟩));go_ret;exact⟨bu (by unfold GL;rw[HG.out,HV.out];rfl),ag⟩
namespace An
end An
end
section
open An
namespace An
end An
end
section
open An
end
end Go.Proofs.YtdmedlkonaclnaaGreatDoor
