/- A part of the proof that a law of layer 12 holds, cut small by a program (names and blanks): Hm8. -/
import Derived.Deep.RegionWith
import Derived.Test.YtpnnapeoanafdaaGreatDoorZ9
set_option maxRecDepth 100000
set_option maxHeartbeats 40000000
set_option linter.unusedVariables false
set_option linter.unusedSimpArgs false
namespace Go.Proofs.YtpnnapeoanafdaaGreatDoor
open Go.RowKit
open Nat renaming le_trans → nT, lt_of_lt_of_le → nL, zero_le → nE
open Go.Proofs.Tryz renaming prog → nH
open Go renaming World → nJ
section
open Me
theorem IU{n:Net}(hv:valid n=true):0<(uv n).length/\(uv n).length<=50000/\nth (uv n) 0=fZ n:=by obtain⟨ys,h⟩:=P7 (qc hv);refine⟨by rw[h];simp,nT (List.length_filter_le _ _) (Bk hv).2,by rw[h];rfl⟩
theorem J8(r:cx)(n:Net)(hv:valid n=true)(B:Nat)(w:nJ)(hN:bL B w r n)[hB:Le B w]:Calls nH 150 #[cH r n] w fun e w'=>e=.returned (.int .i64 (cR n))/\∃δ,w'=ah w δ:=by
 have HN:=qh hN;have HV:=qh hv;obtain⟨l0,l1,l2⟩:=IU hv;have HB:=qh (gp (qc hv));have Qv:=qh (ji (gp (qc hv)));have qQ:=qh l2;have qm:=qh (show cR n=dM n (fZ n) from rfl);have hl0:(0:Int)<((uv n).length:Int):=nQ;clear hN hv l2;go_enter Tryz.func150,Tryz.ntmps150;go_wp2_with fail;go_region_with
  (first|(go_at_call 209;refine(Mw r n HV.out B _ HN.out.up).mono ?_;rintro e w1 ⟨A1,c1,δ1,rfl,rfl,hS⟩;obtain⟨b,o,A0,c0,rfl,hb,hc,hs0⟩:=hS.nth l0 (by rw[qQ.out,Qv.out]);rw[Nat.add_zero] at hc;have ib:=Lt.mk hb;rw[qQ.out] at hs0;have H0:=qh hs0.plain;clear hs0 hb)|(go_at_call 208;refine(mF r n A0 c0 _ (fZ n) _ _ H0.out.up HN.out.wide.up HV.out HB.out Qv.out).mono ?_;rintro e w1 ⟨rfl,δ2,rfl⟩))
 all_goals go_wp2_with fail;go_ret;rw[qm.out];exact⟨rfl,ag⟩
theorem J7(r:cx)(n:Net)(hv:valid n=true)(B:Nat)(w:nJ)(hN:bL B w r n)[hB:Le B w]:Calls nH 88 #[cH r n] w fun e w'=>e=.returned (.tuple #[.int .i64 (cR n),.int .i64 0])/\∃δ,w'=ah w δ:=by have HN:=qh hN;have HV:=qh hv;clear hN hv;go_enter Tryz.func88,Tryz.ntmps88;go_wp2_with (first|(go_at_call 73;refine(uJ r n HV.out B _ HN.out.up).mono ?_;rintro e w1 ⟨rfl,δ,rfl⟩)|(go_at_call 150;refine(J8 r n HV.out B _ HN.out.up).mono ?_;rintro e w1 ⟨rfl,δ2,rfl⟩));go_ret2;exact⟨rfl,ag⟩
theorem zG(r:cx)(n:Net)(hv:valid n=true)(B:Nat)(w:nJ)(hN:bL B w r n)[hB:Le B w]:Calls nH 226 #[cH r n] w fun e w'=>∃(A:Option Addr) (c:Nat) (δ:nJ),e=.returned (.tuple #[.slice A n.hs.length c,.int .i64 0])/\w'=ah w δ/\Hid (Sl aI (ah w δ).heap.size (ah w δ) A c (fZ n)):=by have HN:=qh hN;have HV:=qh hv;obtain⟨l0,l1,l2⟩:=IU hv;have Qv:=qh (ji (gp (qc hv)));have qQ:=qh l2;have hl0:(0:Int)<((uv n).length:Int):=nQ;clear hN hv l2;go_enter Tryz.func226,Tryz.ntmps226;go_wp2_with (first|(go_at_call 73;refine(uJ r n HV.out B _ HN.out.up).mono ?_;rintro e w1 ⟨rfl,δ,rfl⟩)|(go_at_call 209;refine(Mw r n HV.out B _ HN.out.up).mono ?_;rintro e w1 ⟨A1,c1,δ1,rfl,rfl,hS⟩;obtain⟨b,o,A0,c0,rfl,hb,hc,hs0⟩:=hS.nth l0 (by rw[qQ.out,Qv.out]);rw[Nat.add_zero] at hc;have ib:=Lt.mk hb;rw[qQ.out] at hs0;have H0:=qh hs0.plain;clear hs0 hb));go_ret2;refine⟨A0,c0,_,rfl,ai,?_⟩;refine QDF ?_;exact H0
end
section
open Me
theorem NU(r:cx)(n:Net)(hv:valid n=true)(B:Nat)(w:nJ)(hN:bL B w r n)[hB:Le B w]:Calls nH 89 #[cH r n] w fun e w'=>e=.returned (.tuple #[.int .i64 (mE n),.int .i64 0])/\∃δ,w'=ah w δ:=by
 have h6:=(kO hv).2.1;obtain⟨l0,l1⟩:=Bk hv;have HN:=qh hN;have HV:=qh hv;have H6:=qh h6;have ZF:=qh (GQ (f:=eZ n) (mP (qc hv)));clear hN hv h6;obtain⟨L,hL⟩:∃L,gH n=L:=⟨_,rfl⟩;have HL:=qh hL;rw[hL] at l0 l1;clear hL;go_enter Tryz.func89,Tryz.ntmps89;go_wp2_with (first|(go_at_call 73;refine(uJ r n HV.out B _ HN.out.up).mono ?_;rintro e w1 ⟨rfl,δ,rfl⟩)|(go_at_call 124;refine(tI r n B _ HN.out.up H6.out).mono ?_;rw[HL.out];rintro e w1 ⟨A,c,δ,rfl,rfl,hS⟩));refine QAV ?_;intro W1 aH cJ dF cW di dz uu nt lC;have S1:Hid (wP 3 aI W1 A c L):=by rw[aH.out];exact hS
 have N1:=qh (HN.out.up:bL B W1 r n);clear aH hS;have HAT:∀k,k<L.length->eu n (nth L k)=true/\(nth L k).length=n.hs.length:=by rw[<-HL.out];exact fun k hk=>Ng hk
 have HA:=qh HAT;clear HAT;obtain⟨b,o,A0,c0,rfl,hb,hc,hs0⟩:=S1.out.nth l0 (HA.out 0 l0).2;rw[Nat.add_zero] at hc;have ib:Lt b W1:=⟨hb⟩;have H0:=qh hs0.plain;clear hs0;have hl0:(0:Int)<(L.length:Int):=nQ;refine wpRl ?_;repeat (go_big_quiet_step ((first|(go_at_call 151;exact Calls.bV (xg r n A0 c0 _ (nth L 0) _ _ H0.out.up N1.out.wide.up HV.out (HA.out 0 l0).1 (HA.out 0 l0).2)))))
 refine QBU ?_;rintro _ ⟨δq,rfl⟩;obtain⟨v,hv0⟩:∃v,eZ n (nth L 0)=v:=⟨_,rfl⟩;rw[hv0];have ZF:Hid (oe (eZ n) v L L.length=mE n):=by have:=ZF.out;rw[HL.out,hv0] at this;exact this.trans (by unfold mE;rw[HL.out])
 clear hv0;go_wp2_with fail;go_loopg [6,7] L.length (fun g s4 s5 wr=>∃(k:Nat) (δ:nJ),k<=L.length/\g=L.length-k/\s5=.int .i64 k/\s4=.int .i64 (oe (eZ n) v L k)/\wr=ah W1 δ)
 case atStart=>exact⟨0,_,nE _,rfl,rfl,rfl,rfl⟩
 case round=>
  obtain⟨k,δ,hk,rfl,rfl,rfl,rfl⟩:=hrel;by_cases hlt:k<L.length
  ·obtain⟨b',o',Ak,ck,qf,hbk,K8,Vy⟩:=S1.out.nth hlt (HA.out k hlt).2;obtain⟨rfl,rfl⟩:b=b'/\o=o':=by simpa using qf
   have HK:=qh Vy.plain;have hki:(k:Int)<(L.length:Int):=nQ;have hk0:¬(k:Int)<0:=nQ;have iZ:=qh hlt;clear hlt hk Vy hbk hc;by_cases hmn:eZ n (nth L k)<oe (eZ n) v L k
   ·have HE:=qh (show oe (eZ n) v L (k+1)=eZ n (nth L k) by rw[oe];omega);go_wp2_with fail;refine wpRl ?_;repeat (go_big_quiet_step ((first|(go_at_call 151;exact Calls.bV (xg r n Ak ck _ (nth L k) _ _ HK.out.up N1.out.wide.up HV.out (HA.out k iZ.out).1 (HA.out k iZ.out).2)))))
    refine QBU ?_;rintro _ ⟨Wz,rfl⟩;go_wp2_with fail;go_roundg (L.length-(k+1))
    case measure=>have:=iZ.out;omega
    case rel=>exact⟨k+1,_,iZ.out,rfl,by go_num,by rw[HE.out],ai⟩
   ·have HE:=qh (show oe (eZ n) v L (k+1)=oe (eZ n) v L k by rw[oe];omega);go_wp2_with fail;refine wpRl ?_;repeat (go_big_quiet_step ((first|(go_at_call 151;exact Calls.bV (xg r n Ak ck _ (nth L k) _ _ HK.out.up N1.out.wide.up HV.out (HA.out k iZ.out).1 (HA.out k iZ.out).2)))))
    refine QBU ?_;rintro _ ⟨Wz,rfl⟩;go_wp2_with fail;go_roundg (L.length-(k+1))
    case measure=>have:=iZ.out;omega
    case rel=>exact⟨k+1,_,iZ.out,rfl,by go_num,by rw[HE.out],ai⟩
  ·obtain rfl:k=L.length:=by omega
   rw[ZF.out];go_wp2_with fail;go_ret2;exact⟨rfl,ag⟩
end
section
open Me
theorem Vb(r r':cx)(n:Net)(B:Nat)(w:nJ)[hB:Le B w](h:bL B w r n)(h':bL B w r' n):Calls nH 44 #[cH r n,cH r' n] w fun e w'=>e=.returned (.bool true)/\∃δ,w'=ah w δ:=by
 have l1:=h.1.len;have l2:=h.2.len;go_enter Tryz.func44,Tryz.ntmps44;go_upto_region 3 with fail;refine QCC ?_;intro W1 aH cJ dF cW di dz eL;refine QDH ?_;intro nt lC mQ;have jI:W1.cell? ⟨w.heap.size+1,0,none⟩=some (.int .i64 n.m):=by rw[aH.out];go_simp
 have nk:W1.cell? ⟨w.heap.size+1,1,none⟩=some (.slice r'.hA n.hs.length r'.hc):=by rw[aH.out];go_simp
 have nj:W1.cell? ⟨w.heap.size+1,2,none⟩=some (.slice r'.pA n.ps.length r'.pc):=by rw[aH.out];go_simp
 have s1:bL B W1 r n:=h.up;have s2:bL B W1 r' n:=h'.up;have S1:=qh s1;have S2:=qh s2;clear aH s1 s2 h h';go_wp2_with fail;go_loopw [5] (fun i wr=>∃(k:Nat) (δ:nJ),k<=n.hs.length/\i=.int .i64 k/\wr=ah W1 δ) (fun i _=>n.hs.length-(intOf i).toNat)
 case atStart=>exact⟨0,W1,nE _,rfl,(bw W1).symm⟩
 case round=>
  obtain⟨k,δ,hk,rfl,rfl⟩:=hrel;by_cases hlt:k<n.hs.length
  ·obtain⟨b,o,hA,hb,d0,d1,d2,d3⟩:=S1.out.1.hole hlt;obtain⟨b',o',qf,hb',d0',d1',d2',d3'⟩:=S2.out.1.hole hlt;refine QCU ?_;intro ib ib';refine QDY ?_;intro hki hk0;rw[hA] at lC;rw[qf] at nk;clear hA qf;go_wp2_with fail;refine wpRl ?_;repeat (go_big_quiet_step ((first|(fail))))
   refine QBU ?_;rintro _ ⟨δq,rfl⟩;go_wp2_with fail;go_roundw
   case rel=>exact⟨k+1,_,nQ,by go_num,ai⟩
   case measure=>simp[intOf];omega
  ·obtain rfl:k=n.hs.length:=by omega
   go_wp2_with fail;go_loopw [6] (fun i wr=>∃(k:Nat) (δ:nJ),k<=n.ps.length/\i=.int .i64 k/\wr=ah W1 δ) (fun i _=>n.ps.length-(intOf i).toNat)
   case atStart=>exact⟨0,δ,nE _,rfl,rfl⟩
   case round=>
    clear hk hlt;obtain⟨k,δ,hk,rfl,rfl⟩:=hrel;by_cases hlt:k<n.ps.length
    ·obtain⟨b,o,hA,hb,d0,d1⟩:=S1.out.2.pr hlt;obtain⟨b',o',qf,hb',d0',d1'⟩:=S2.out.2.pr hlt;refine QCU ?_;intro ib ib';have hki:(k:Int)<(n.ps.length:Int):=nQ;have hk0:¬(k:Int)<0:=nQ;rw[hA] at mQ;rw[qf] at nj;clear hA qf;go_wp2_with fail;refine wpRl ?_;repeat (go_big_quiet_step ((first|(fail))))
     refine QBU ?_;rintro _ ⟨δq,rfl⟩;go_wp2_with fail;go_roundw
     case rel=>exact⟨k+1,_,nQ,by go_num,ai⟩
     case measure=>simp[intOf];omega
    ·obtain rfl:k=n.ps.length:=by omega
     go_wp2_with fail;go_ret;exact⟨rfl,ag⟩
end
end Go.Proofs.YtpnnapeoanafdaaGreatDoor
