/- A part of the proof that the statement HeadmanRunCardSaid holds, cut small by a program (names and blanks): Ha7. -/
import Derived.Test.YtcjjlikhlmfedaaGreatDoorZ5
set_option maxRecDepth 100000
set_option maxHeartbeats 40000000
set_option linter.unusedVariables false
set_option linter.unusedSimpArgs false
namespace Go.Proofs.YtcjjlikhlmfedaaGreatDoor
open Go.RowKit
open Nat renaming lt_of_lt_of_le → nL, zero_le → nE
open Go.Proofs.Tryz renaming prog → nH
open Go renaming World → nJ
section
open An
namespace An
def uh(n:Net)(i:Nat):Bool:=decide (0<=spare n (bT n) i (fun _=>false))
end An
theorem QW(r:eD)(n:Net)(i:Nat)(B:Nat)(w:nJ)[hB:Le B w](h:cj B w r n)(hv:valid n=true)(hi:i<n.ay.length):Calls nH 205 #[ew r n,.int .i64 i] w fun e w'=>e=.returned (.bool (uh n i))/\∃δ,w'=af w δ:=by
 have HV:=qh hv;have HI:=qh hi;have hlen:=vu hv;clear hv hi;go_enter Tryz.func205,Tryz.ntmps205;go_wp2_with (go_at_call 232;refine(Cs r n B _ h.up HV.out).mono ?_;rintro e w1 ⟨Al,cl,δ,rfl,rfl,EU⟩);refine QAL ?_;intro W1 aE cz de cN cY dc rX lH jU kM iY lC lu;have EV:sg W1 Al cl (bB n):=by rw[aE.out];exact EU
 have HS:=qh EV;have g1:cj W1.heap.size W1 r n:=(h.up (w':=W1)).wide;clear EV EU;obtain⟨b,o,hA,hb,hall⟩:=HS.out.Up (vt HV.out);subst hA;have HA:=qh hall;have ib:Lt b W1:=⟨hb⟩;clear hall hb;go_loopg [6] (bB n).length (fun g i' wr=>∃(k:Nat) (δ:nJ),k<=(bB n).length/\g=(bB n).length-k/\i'=.int .i64 k/\Hid (∀j,j<k->0<=spare n (nth (bB n) j) i (fun _=>false))/\wr=af W1 δ)
 case atStart=>exact⟨0,W1,nE _,rfl,rfl,fun j hj=>by omega,(aY W1).symm⟩
 case round=>
  obtain⟨k,δ,hk,rfl,rfl,hn,rfl⟩:=hrel;by_cases hlt:k<(bB n).length
  ·obtain⟨A',c',d0,d1,d2,Px⟩:=HA.out k hlt;have EO:su n (nth (bB n) k)=true:=gp.1 (aS _ hlt);have Pn:=qh (Dk HV.out EO);have hki:(k:Int)<((bB n).length:Int):=nQ;have hk0:¬(k:Int)<0:=nQ;have HH:=qh (tg HV.out (um EO) (d:=fun _=>false) HI.out);clear EO;by_cases hs:spare n (nth (bB n) k) i (fun _=>false)<0
   ·have Pm:=qh hs;go_wp2_with fail;refine wpRl ?_;repeat (go_big_quiet_step ((first|(go_at_call 242;exact Calls.bU (zH r n ⟨A',c'⟩ (nth (bB n) k) i W1.heap.size _ g1.up Px.up Pn.out HI.out)))))
    refine QBY ?_;rintro _ ⟨δq,rfl⟩;go_wp2_with fail;go_ret;exact⟨aW (by unfold uh;have:=Pm.out;have:=HH.out;simp;omega),ag⟩
   ·have Pm:=qh hs;go_wp2_with fail;refine wpRl ?_;repeat (go_big_quiet_step ((first|(go_at_call 242;exact Calls.bU (zH r n ⟨A',c'⟩ (nth (bB n) k) i W1.heap.size _ g1.up Px.up Pn.out HI.out)))))
    refine QBY ?_;rintro _ ⟨δq,rfl⟩;go_wp2_with fail;go_roundg ((bB n).length-(k+1))
    case measure=>omega
    case rel=>
     refine⟨k+1,_,nQ,rfl,by go_num,fun j hj=>?_,aq⟩;by_cases Q7:j=k
     ·subst Q7;have:=Pm.out;omega
     ·exact hn.out j nQ
  ·obtain rfl:k=(bB n).length:=by omega
   have HF:=qh (show uh n i=true by
    unfold uh
    have hm:=gp.2 (zz HV.out)
    obtain⟨j,hj,hje⟩:=List.getElem_of_mem hm
    have:=hn.out j hj
    rw[bV _ hj,hje] at this
    exact decide_eq_true this)
   go_wp2_with fail;go_ret;exact⟨aW HF.out.symm,ag⟩
theorem DS{n:Net}{i:Nat}{b:Bool}(hb:uh n i=b){r:eD}{B:Nat}{w:nJ}[hB:Le B w](h:cj B w r n)(hv:valid n=true)(hi:i<n.ay.length):Calls nH 205 #[ew r n,.int .i64 i] w fun e w'=>e=.returned (.bool b)/\∃δ,w'=af w δ:=by subst hb;exact QW r n i B w h hv hi
namespace An
theorem CI(n:Net){i k:Nat}(hi:i<n.ay.length):spare (sL n i k) (bT (sL n i k)) i (fun _=>false)=jW n i k:=by unfold spare can;rw[DT _ _ _ hi,if_pos rfl];rfl
theorem xU(n:Net){i k:Nat}(hi:i<n.ay.length):uh (sL n i k) i=decide (0<=jW n i k):=by unfold uh;rw[CI _ hi]
end An
end
namespace An
theorem Dr{n:Net}(hv:valid n=true)(hok:jD n=true):jO n=(List.range n.ay.length).map fun i=>(ez n i:Int):=by unfold jO;rw[hv,hok];rfl
theorem Dq{n:Net}(hok:jD n=false):jO n=[]:=by unfold jO;rw[hok];simp
theorem M7{n:Net}(hv:valid n=true)(hok:jD n=true):kZ n=0:=by unfold kZ;rw[hv,hok];rfl
theorem M8{n:Net}(hv:valid n=true)(hok:jD n=false):kZ n=3:=by unfold kZ;rw[hv,hok];rfl
end An
section
open An
namespace An
def sH(n:Net)(k:Nat):List Int:=(List.range k).map fun j=>(ez n j:Int)
theorem Ds(n:Net)(k:Nat):sH n (k+1)=sH n k++[(ez n k:Int)]:=by simp[sH,List.range_succ]
theorem xC(n:Net)(k:Nat):(sH n k).length=k:=by simp[sH]
end An
theorem Qe(r:eD)(n:Net)(B:Nat)(w:nJ)[hB:Le B w](h:cj B w r n):Calls nH 147 #[ew r n] w fun e w'=>∃(A:Option Addr) (c:Nat) (δ:nJ),e=.returned (.tuple #[.slice A (jO n).length c,.int .i64 (kZ n)])/\w'=af w δ/\Sl aH (af w δ).heap.size (af w δ) A c (jO n):=by
 have H:=qh h;clear h;by_cases hv:valid n=true;all_goals try rw[Bool.not_eq_true] at hv
 case neg=>have HF:=qh (show jO n=[] by simp[jO,hv]);have HE:=qh (show kZ n=20 by simp[kZ,hv]);have HV:=qh hv;clear hv;go_enter Tryz.func147,Tryz.ntmps147;go_wp2_with (go_at_call 22;refine(jm r n B _ H.out.up).mono ?_;rw[HV.out];rintro e w1 ⟨rfl,δ,rfl⟩);go_ret2;rw[HF.out,HE.out];exact⟨none,0,_,rfl,aq,Sl.none_⟩
 have HV:=qh hv;have h6:=(az.1 hv).2.2.2.1;have HL:=qh (az.1 hv);clear hv;obtain⟨gA,gc,aA,ac,wA,wc⟩:=r;go_enter Tryz.func147,Tryz.ntmps147;rw[show ew ⟨gA,gc,aA,ac,wA,wc⟩ n=Value.agg #[.int .i64 n.aN.lo,.int .i64 n.aN.hi,.int .i64 n.cur.lo,.int .i64 n.cur.hi,.slice gA n.au.length gc,.slice aA n.ay.length ac,.slice wA n.aQ.length wc] from rfl];go_upto_region 4 with(go_at_call 22;refine(jm ⟨gA,gc,aA,ac,wA,wc⟩ n B _ H.out.up).mono ?_;rw[HV.out];rintro e w1 ⟨rfl,δ,rfl⟩);refine QCM ?_;intro W1 aE cz de cN cY dc rX lH jU kM;have iY:W1.cell? ⟨w.heap.size,4,none⟩=some (.slice gA n.au.length gc):=by rw[aE.out];go_simp
 have lC:W1.cell? ⟨w.heap.size,5,none⟩=some (.slice aA n.ay.length ac):=by rw[aE.out];go_simp
 have lu:W1.cell? ⟨w.heap.size,6,none⟩=some (.slice wA n.aQ.length wc):=by rw[aE.out];go_simp
 have G1:=qh (show cj B W1 ⟨gA,gc,aA,ac,wA,wc⟩ n from H.out.up);clear H;go_wp2_with fail;go_loopg [5,6] n.ay.length (fun g o i wr=>∃(k c:Nat) (A:Option Addr) (δ:nJ),k<=n.ay.length/\g=n.ay.length-k/\o=.slice A k c/\i=.int .i64 k/\Hid (wr.ownsRow W1.heap.size 3 1 (.slice A k c) k ((sH n k).flatMap aH))/\Hid (∀j,j<k->ez n j<jk n j)/\wr=af W1 δ)
 case atStart=>exact⟨0,0,none,W1,nE _,rfl,rfl,rfl,World.ownsRow_nil _ _ _ _,fun j hj=>by omega,(aY W1).symm⟩
 case round=>
  obtain⟨k,c,A,δ,hk,rfl,rfl,rfl,HO,hn,rfl⟩:=hrel;by_cases hlt:k<n.ay.length
  ·obtain⟨b,o,hA,hb,d0,d1⟩:=G1.out.2.1.Un hlt;have hA:aA=some ⟨b,o,none⟩:=hA;subst hA;have ib:Lt b W1:=⟨nL hb cz.out⟩;have hki:(k:Int)<(n.ay.length:Int):=nQ;have hk0:¬(k:Int)<0:=nQ;have ha:=kH HV.out hlt;simp only[kY,decide_eq_true_eq] at ha;have ha0:0<=(nth n.ay k).wt:=ha.1;have UT:(nth n.ay k).wt<=20:=ha.2.1;have HK:=qh hlt;have htk:=CA HV.out hlt;have HT:=qh htk;have hle:=M6 n k;clear ha htk;go_wp2_with fail;go_loopg [7] (ez n k+1) (fun g m wr=>∃(j:Nat) (δ':nJ),j<=ez n k/\g=ez n k+1-j/\m=.int .i64 j/\wr=af (af W1 δ) δ')
   case atStart=>exact⟨0,af W1 δ,nE _,rfl,rfl,(aY _).symm⟩
   case round=>
    obtain⟨j,δ',hj,rfl,rfl,rfl⟩:=hrel;have Xu:(j:Int)<=21:=by have:=HT.out;omega
    by_cases hlt2:j<ez n k
    ·have h20:(nth n.ay k).wt+(j:Int)<=20:=by have:=HT.out;omega
     have ZR:=qh (show uh (sL n k j) k=false by rw[xU n HK.out];exact decide_eq_false (Int.not_le.2 (Gv hlt2)));have RL:=qh (xW HV.out (x:=j) HK.out nQ nQ);have Zv:=qh (show -100<=(nth n.ay k).wt+(j:Int)/\(nth n.ay k).wt+(j:Int)<=100 by omega);go_wp2_with fail;refine(Aq ⟨gA,gc,some ⟨b,o,none⟩,ac,wA,wc⟩ n k j HK.out Zv.out B _ G1.out.up (by have:=HL.out;omega) (by have:=HL.out;omega) (by have:=HL.out;omega)).mono ?_;rintro e w1 ⟨r',δ1,rfl,rfl,ho⟩;have ZD:=qh ho;clear ho;go_wp2_with fail;refine(DS ZR.out ZD.out.wide RL.out (by rw[pg];exact HK.out)).mono ?_;rintro e w1 ⟨rfl,δ2,rfl⟩;go_wp2_with fail;go_roundg (ez n k+1-(j+1))
     case measure=>omega
     case rel=>exact⟨j+1,_,nQ,rfl,by go_num,aq⟩
    ·obtain rfl:j=ez n k:=by omega
     by_cases ht:ez n k<jk n k
     ·have h20:(nth n.ay k).wt+(ez n k:Int)<=20:=by have:=HT.out;omega
      have ZR:=qh (show uh (sL n k (ez n k)) k=true by rw[xU n HK.out];exact decide_eq_true (Kn ht));have RL:=qh (xW HV.out (x:=ez n k) HK.out nQ nQ);have Zv:=qh (show -100<=(nth n.ay k).wt+(ez n k:Int)/\(nth n.ay k).wt+(ez n k:Int)<=100 by omega);have HTT:=qh ht;clear ht;go_wp2_with fail;refine(Aq ⟨gA,gc,some ⟨b,o,none⟩,ac,wA,wc⟩ n k (ez n k) HK.out Zv.out B _ G1.out.up (by have:=HL.out;omega) (by have:=HL.out;omega) (by have:=HL.out;omega)).mono ?_;rintro e w1 ⟨r',δ1,rfl,rfl,ho⟩;have ZD:=qh ho;clear ho;go_wp2_with fail;refine(DS ZR.out ZD.out.wide RL.out (by rw[pg];exact HK.out)).mono ?_;rintro e w1 ⟨rfl,δ2,rfl⟩;go_wp2_with (at_builtin;(refine dA W1 uC (.tmp 49) (.tmp 51) rfl rfl (aT HO.out) rfl rfl nW rfl (by simp[Value.oneCell']) nQ nQ ?_);intro UJ Ui ZY hown');go_roundg (n.ay.length-(k+1))
      case measure=>omega
      case rel=>
       refine⟨k+1,Ui,UJ,_,nQ,rfl,rfl,by go_num,?_,fun i hi=>?_,aq⟩
       ·rw[Ds,List.flatMap_append];exact hown'
       ·by_cases hik:i=k
        ·subst hik;exact HTT.out
        ·exact hn.out i nQ
     ·have h21:(nth n.ay k).wt+(ez n k:Int)=21:=by have:=HT.out;omega
      have HN:=qh (show kZ n=3/\jO n=[] by
       have hno:jD n=false:=by
        rw[Bool.eq_false_iff]
        intro hh
        exact ht (sI.1 hh k HK.out)
       exact⟨M8 HV.out hno,Dq hno⟩)
      have h22:¬((nth n.ay k).wt+(ez n k:Int)<=20):=nQ;have h23:20<(nth n.ay k).wt+(ez n k:Int):=nQ;clear h21 ht;go_wp2_with fail;go_ret2;refine⟨none,0,?_,af (af W1 δ) δ',aq,?_⟩
      ·rw[HN.out.1,HN.out.2];rfl
      ·rw[HN.out.2];exact Sl.none_
  ·obtain rfl:k=n.ay.length:=by omega
   have HE:=qh (show kZ n=0/\jO n=sH n n.ay.length by
    have hok:jD n=true:=sI.2 hn.out
    exact⟨M7 HV.out hok,Dr HV.out hok⟩)
   go_wp2_with fail;go_ret2;refine⟨A,c,af W1 δ,?_,aq,?_⟩
   ·rw[HE.out.1,HE.out.2,xC];rfl
   ·rw[HE.out.2,<-aq (w:=w) (W:=af W1 δ)];exact Sl.bW (by rw[xC];exact HO.out)
end
section
open An
namespace An
def Bo(n:Net):Nat->Int
 |0=>n.cur.hi-n.cur.lo+1
 |k+1=>Bo n k*((nth n.au k).hi-(nth n.au k).lo+1)
def BM(n:Net):Bool:=DP n ⟨0,0,[]⟩||(valid n&&(decide (24<Bo n n.au.length)||decide (100<Bo n n.au.length*(n.aN.hi-n.aN.lo+1))))
end An
theorem Ua(r:eD)(n:Net)(B:Nat)(w:nJ)[hB:Le B w](h:cj B w r n):Calls nH 31 #[ew r n] w fun e w'=>e=.returned (.bool (BM n))/\∃δ,w'=af w δ:=by
 by_cases hg:DP n ⟨0,0,[]⟩=true
 ·go_enter Tryz.func31,Tryz.ntmps31;go_wp2_with (go_at_call 85;refine(GM r n ⟨none,0⟩ ⟨0,0,[]⟩ _).mono ?_;rw[hg];rintro e w1 ⟨rfl,δ,rfl⟩);go_ret;exact⟨aW (by unfold BM;rw[hg];rfl),ag⟩
 ·rw[Bool.not_eq_true] at hg;have HG:=qh hg;clear hg;by_cases hv:valid n=true;all_goals try rw[Bool.not_eq_true] at hv
  all_goals have HV:=qh hv;clear hv
  ·have qj:n.au.length<=3:=(az.1 HV.out).2.2.1;have hc:0<=n.cur.lo/\n.cur.lo<=n.cur.hi/\n.cur.hi<=20:=by have:=(az.1 HV.out).2.1;simp only[jf,decide_eq_true_eq] at this;omega
   have hw:0<=n.aN.lo/\n.aN.lo<=n.aN.hi/\n.aN.hi<=20:=by have:=(az.1 HV.out).1;simp only[jf,decide_eq_true_eq] at this;omega
   go_enter Tryz.func31,Tryz.ntmps31;go_upto_region 6 with(first|(go_at_call 85;refine(GM r n ⟨none,0⟩ ⟨0,0,[]⟩ _).mono ?_;rw[HG.out];rintro e w1 ⟨rfl,δ,rfl⟩)|(go_at_call 22;refine(jm r n B _ h.up).mono ?_;rw[HV.out];rintro e w1 ⟨rfl,δ',rfl⟩));refine QAL ?_;intro W1 aE cz de cN cY dc rX lH jU kM iY lC lu;have s1:Sl fX B W1 r.gA r.gc n.au:=h.1.up;have hlen:=s1.len;go_wp2_with fail;go_loopg [3,4] n.au.length (fun g v i wr=>∃(k:Nat) (m:Int) (δ:nJ),k<=n.au.length/\g=n.au.length-k/\v=.int .i64 m/\i=.int .i64 k/\Hid ((0<=m/\m<=21*(10:Int) ^ k)/\m=Bo n k)/\wr=af W1 δ)
   case atStart=>exact⟨0,_,W1,nE _,rfl,rfl,rfl,by unfold Hid;exact⟨nQ,rfl⟩,(aY W1).symm⟩
   case round=>
    obtain⟨k,m,δ,hk,rfl,rfl,rfl,hm,rfl⟩:=hrel;by_cases hlt:k<n.au.length
    ·obtain⟨b,o,hA,hb,d0,d1⟩:=s1.sp hlt;have ib:Lt b W1:=⟨nL hb cz.out⟩;have hgk:0<=(nth n.au k).lo/\(nth n.au k).lo<=(nth n.au k).hi/\(nth n.au k).hi<=9:=by have:=(List.all_eq_true.1 (by have:=(az.1 HV.out).2.2.2.2.2.1;unfold lW at this;exact this)) _ (aS n.au hlt);simp only[jf,decide_eq_true_eq] at this;omega
     have qM:0<=m/\m<=2100:=by
      have h1:=hm.out.1;have:(10:Int) ^ k<=10 ^ 2:=by rcases(show k=0\/k=1\/k=2 by omega) with h|h|h<;>rw[h]<;>decide
      omega
     have Jh:=uT (a:=m) (A:=2100) (b:=(nth n.au k).hi-(nth n.au k).lo+1) (B:=10) qM.1 qM.2 nQ nQ;have HM:=qh (show 0<=m*((nth n.au k).hi-(nth n.au k).lo+1)/\m*((nth n.au k).hi-(nth n.au k).lo+1)<=21*(10:Int) ^ (k+1) by
      have h1:=hm.out.1
      have h2:=uT (a:=m) (A:=21*(10:Int) ^ k) (b:=(nth n.au k).hi-(nth n.au k).lo+1) (B:=10) qM.1 h1.2 nQ nQ
      refine⟨h2.1,?_⟩
      rw[Int.pow_succ,<-Int.mul_assoc]
      exact h2.2)
     have hki:(k:Int)<(n.au.length:Int):=nQ;have hk0:¬(k:Int)<0:=nQ;rw[hA] at iY;clear hA;go_wp2_with fail;refine wpRl ?_;repeat (go_big_quiet_step ((first|(fail))))
     refine QBY ?_;rintro _ ⟨δq,rfl⟩;go_wp2_with fail;go_roundg (n.au.length-(k+1))
     case measure=>omega
     case rel=>exact⟨k+1,_,_,nQ,rfl,rfl,by go_num,⟨HM.out,by rw[hm.out.2];rfl⟩,aq⟩
    ·obtain rfl:k=n.au.length:=by omega
     have qM:0<=m/\m<=21000:=by
      have h1:=hm.out.1;have:(10:Int) ^ n.au.length<=10 ^ 3:=by rcases(show n.au.length=0\/n.au.length=1\/n.au.length=2\/n.au.length=3 by omega) with h|h|h|h<;>rw[h]<;>decide
      omega
     have Jh:=uT (a:=m) (A:=21000) (b:=n.aN.hi-n.aN.lo+1) (B:=21) qM.1 qM.2 nQ nQ;have HF:=qh (show BM n=(decide (24<m)||decide (100<m*(n.aN.hi-n.aN.lo+1))) by unfold BM;rw[HG.out,HV.out,hm.out.2];rfl);by_cases q1:24<m
     ·go_wp2_with fail;go_ret;exact⟨aW (by rw[HF.out,decide_eq_true q1];rfl),ag⟩
     ·by_cases q2:100<m*(n.aN.hi-n.aN.lo+1);all_goals have HQ:=qh q2;go_wp2_with fail;go_ret
      ·exact⟨aW (by rw[HF.out,decide_eq_true HQ.out];simp),ag⟩
      ·exact⟨aW (by rw[HF.out,decide_eq_false (Int.not_lt.2 HQ.out),decide_eq_false (Int.not_lt.2 q1)];rfl),ag⟩
  ·go_enter Tryz.func31,Tryz.ntmps31;go_wp2_with (first|(go_at_call 85;refine(GM r n ⟨none,0⟩ ⟨0,0,[]⟩ _).mono ?_;rw[HG.out];rintro e w1 ⟨rfl,δ,rfl⟩)|(go_at_call 22;refine(jm r n B _ h.up).mono ?_;rw[HV.out];rintro e w1 ⟨rfl,δ,rfl⟩));go_ret;exact⟨aW (by unfold BM;rw[HG.out,HV.out];rfl),ag⟩
namespace An
end An
end
section
open An
namespace An
end An
end
section
open An
end
end Go.Proofs.YtcjjlikhlmfedaaGreatDoor
