/- A part of the proof that a law of layer 12 holds, cut small by a program (names and blanks): Ho1, Ho2, Ho3, Ho4, Ho5, Ho6, Ho7, Ho8, Ho9. -/
import Derived.Test.YtpnnapeoanafdaaGreatDoorZ24
set_option maxRecDepth 100000
set_option maxHeartbeats 40000000
set_option linter.unusedVariables false
set_option linter.unusedSimpArgs false
namespace Go.Proofs.YtpnnapeoanafdaaGreatDoor
open Go.RowKit
open Nat renaming le_trans → nT, lt_of_lt_of_le → nL, le_refl → nR, zero_le → nE, le_succ → nF
open Go.Proofs.Tryz renaming prog → nH
open Go renaming World → nJ
section
open Hd
theorem Rh(k:cO)(d:ct)(l:aQ)(hl:l.length<=1000)(hv:aE d.ax=true)(hr:bH l=.none)(B:Nat)(w:nJ)(hT:aN B w k.ax d.ax)[hB:Le B w](hO:dW w k.oA k.oc d.az):Calls nH 118 #[jk k d,.string (str l)] w (fh k d w (cI d l)):=by
 have HX:Hid (cI d l=(d,mC)):=by unfold Hid cI;rw[hr]
 refine QDV ?_;intro HL HV HT HO HR;clear hl hv hT hO hr;go_enter Tryz.func118,Tryz.ntmps118;go_upto_region 1 with fail;refine QAR ?_;intro W1 aH cJ dF cW di dz eL b1 b2;clear aH;go_upto_region 2 with(first|(go_at_call 20;refine(kz l HL.out _).mono ?_;rw[HR.out];rintro e w1 ⟨v,δ1,rfl,rfl,hx⟩;obtain rfl:v=_:=hx)|(refine ak cV rfl _ _ rfl rfl rfl (ay.new (T:=55) rfl) rfl rfl (by simp[Value.oneCell']) ?_;intro W2 L2 kg));refine QAJ ?_;intro g1 g2 q1 q2 q3 q4 q5 D2 R2;refine QEK ?_;intro g hg;rw[hg] at g1 g2 L2 ⊢;refine QDU ?_;intro L2 ld lr lg;have y0:W2.cell? ⟨g,0,none⟩=some (.int .i64 (0)):=L2.out.cell (i:=0) rfl;have gg:=qh g2;clear b1 b2 kg g1 g2;go_upto_region 27 with fail;go_wp2_with (first|(refine au cz rfl _ rfl rfl D2.out rfl ?_)|(refine ak cz rfl _ _ rfl rfl rfl R2.out rfl rfl (dO _ _) ?_;intro W9 C9 k9));refine QAT ?_;intro p1 p2;refine QCX ?_;exact jv (k:=k) (d:=d) (w:=w) (W:=W9) (x:=cI d l) (k':=k) (d':=d) (by rw[HX.out]) (by first|(rw[HX.out];done)|(rw[HX.out];rfl)) (cY.refl) (HO.out.wide)
end
section
open Hd
theorem Kk(k:cO)(d:ct)(l:aQ)(hl:l.length<=1000)(hv:aE d.ax=true)(c:eB)(hr:bH l=.cmd c)(hk:cg c.w=1)(B:Nat)(w:nJ)(hT:aN B w k.ax d.ax)[hB:Le B w](hO:dW w k.oA k.oc d.az):Calls nH 118 #[jk k d,.string (str l)] w (fh k d w (cI d l)):=by
 have hw:=qE hr;have Sq:((cg c.w:Nat):Int)=1:=by rw[hk];rfl
 have HX:Hid (cI d l=(⟨jc d.ax c,d.az,d.given⟩,jB (gz d.ax c).isSome)):=by unfold Hid cI;rw[hr];simp only[];rw[if_pos hk]
 refine QDV ?_;intro HL HV HT HO HR;clear hl hv hT hO hr;go_enter Tryz.func118,Tryz.ntmps118;go_upto_region 1 with fail;refine QAR ?_;intro W1 aH cJ dF cW di dz eL b1 b2;clear aH;go_upto_region 2 with(first|(go_at_call 20;refine(kz l HL.out _).mono ?_;rw[HR.out];rintro e w1 ⟨v,δ1,rfl,rfl,hx⟩;obtain⟨A,cap,rfl,hS⟩:=hx;rw[Sq])|(refine ak cV rfl _ _ rfl rfl rfl (ay.new (T:=55) rfl) rfl rfl (by simp[Value.oneCell']) ?_;intro W2 L2 kg));refine QAJ ?_;intro g1 g2 q1 q2 q3 q4 q5 D2 R2;refine QEG ?_;intro HS;clear hS;refine QEK ?_;intro g hg;rw[hg] at g1 g2 L2 ⊢;refine QDU ?_;intro L2 ld lr lg;have y0:W2.cell? ⟨g,0,none⟩=some (.int .i64 (1)):=L2.out.cell (i:=0) rfl;have gg:=qh g2;have lw:Le W2.heap.size W2:=⟨nR _⟩;have HC:Hid (Calls nH 179 #[aY k.ax d.ax,.agg #[.int .i64 1,.string (str (cF c.w)),.slice A c.a.length cap]] W2 (gM k.ax d.ax c W2)):=qh (zH k.ax d.ax HV.out c hk hw.1 _ W2.heap.size W2 HT.out.wide ⟨A,cap,by rw[Sq],HS.out⟩);unfold gM at HC;refine QDP ?_;intro td Dg bb ij;rw[Dg,ij] at HC;rw[Dg,ij] at HX;clear Dg ij HS hw Sq hk b1 b2 kg g1 g2;go_upto_region 5 with(first|(refine cA (cs':=aG k.ax d.ax) aq rfl _ rfl rfl D2.out (eU k d) rfl ?_)|(refine cA (cs':=#[.int .i64 1,.string (str (cF c.w)),.slice A c.a.length cap]) rowWords rfl _ rfl rfl L2.out rfl rfl ?_)|(go_at_call 179;refine HC.out.mono ?_;rintro e w1 ⟨r',δ2,rfl,rfl,SC⟩)|(refine ak aq rfl _ _ rfl rfl rfl (ay.new (T:=39) rfl) rfl rfl (aL _ _) ?_;intro W3 T3 k3));have g3:W2.heap.size<=(ah W2 δ2).heap.size:=(inferInstance:Le W2.heap.size (ah W2 δ2)).out;have u2:aD w.heap.size w W3:=cC k3 (nT q4.out g3);have u4:Le w.heap.size W3:=dB k3;have D3:Hid (ay W3 w.heap.size 125 (cE k d)):=qh (((D2.out.ah _).alloc _).eN k3 (Nat.ne_of_lt (nL ld.out g3)));have R3:Hid (ay W3 (w.heap.size+1) 125 (cE mT mU)):=qh (((R2.out.ah _).alloc _).eN k3 (Nat.ne_of_lt (nL lr.out g3)));have T3:=qh T3;have ab6:Hid (cY k.ax d.ax w r' td W3):=qh (((SC.up (W':=(ah W2 δ2).alloc _)).aV k3 (ay.new rfl) nU).from_ q4.out);clear D2 R2 SC k3;go_upto_region 6 with(first|(refine au aq rfl _ rfl rfl T3.out rfl ?_)|(refine nw aq rfl _ _ rfl rfl rfl D3.out rfl (AR k d) (aL _ _) (AQ k d r' td) ?_;intro W4 D4 k4));have D4:=qh D4;have R4:Hid (ay W4 (w.heap.size+1) 125 (cE mT mU)):=qh (R3.out.eN k4 nQ);have u5:aD w.heap.size w W4:=cC k4 (nR _);have u6:Le w.heap.size W4:=dB k4;have adQ:Hid (cY k.ax d.ax w r' td W4):=qh (ab6.out.aV k4 D3.out nU);clear D3 R3 T3 ab6 k4;refine wp_region_held (S:=fun W=>ay W w.heap.size 125 (cE ⟨r',k.oA,k.oc⟩ ⟨td,d.az,d.given⟩)) nP ?_;change wpAnyH _ _ _ _ _ _ _ _ (World.drew _);refine gN 0 (jk ⟨r',k.oA,k.oc⟩ ⟨td,d.az,d.given⟩) rfl nP (iE cz nY _ rfl rfl (fun _ h=>h) rfl) (D4.out) ?_;refine QAC ?_;refine wpH_tq 1 (.bool bb) (D4.out) ?_;refine QAC ?_;refine wpAnyH_all (rs:=[2]) nP nV ?_;intro i hi;obtain rfl:=List.mem_singleton.1 hi;refine QAF ?_;refine(Q9 bb _).mono ?_;rintro e w1 ⟨rfl,δ22,rfl⟩;refine⟨D4.out.drew.ah _,?_⟩;refine QAC ?_;refine wpAnyH_all (rs:=[3]) nP nV ?_;intro i hi;obtain rfl:=List.mem_singleton.1 hi;refine QBB ?_;refine oB cz _ _ rfl rfl rfl (R4.out.drew.ah _) rfl rfl (dO _ _) ?_;intro W9 C9 k9;refine⟨(D4.out.drew.ah _).eN k9 nQ,?_⟩;refine QAC ?_;refine wpH_tq 4 (.string (str (jB bb))) ((D4.out.drew.ah _).eN k9 nQ) ?_;refine QAC ?_;refine wpAnyH_done nP ?_ _;go_wp2_with fail;refine QAT ?_;intro p1 p2;refine QCX ?_;exact jv (k:=k) (d:=d) (w:=w) (W:=W9) (x:=cI d l) (k':=⟨r',k.oA,k.oc⟩) (d':=⟨td,d.az,d.given⟩) (by rw[HX.out]) (by first|(rw[HX.out];done)|(rw[HX.out];rfl)) ((adQ.out.abp.up).aV k9 (R4.out.drew.ah _) nU) (HO.out.wide)
end
section
open Hd
theorem U0(k:cO)(d:ct)(l:aQ)(hl:l.length<=1000)(hv:aE d.ax=true)(c:eB)(hr:bH l=.cmd c)(hk:cg c.w=2)(B:Nat)(w:nJ)(hT:aN B w k.ax d.ax)[hB:Le B w](hO:dW w k.oA k.oc d.az):Calls nH 118 #[jk k d,.string (str l)] w (fh k d w (cI d l)):=by
 have hw:=qE hr;have Sq:((cg c.w:Nat):Int)=2:=by rw[hk];rfl
 have HX:Hid (cI d l=(d,fY d.ax c)):=by unfold Hid cI;rw[hr];simp only[];rw[if_neg nQ,if_neg nQ]
 refine QDV ?_;intro HL HV HT HO HR;clear hl hv hT hO hr;go_enter Tryz.func118,Tryz.ntmps118;go_upto_region 1 with fail;refine QAR ?_;intro W1 aH cJ dF cW di dz eL b1 b2;clear aH;go_upto_region 2 with(first|(go_at_call 20;refine(kz l HL.out _).mono ?_;rw[HR.out];rintro e w1 ⟨v,δ1,rfl,rfl,hx⟩;obtain⟨A,cap,rfl,hS⟩:=hx;rw[Sq])|(refine ak cV rfl _ _ rfl rfl rfl (ay.new (T:=55) rfl) rfl rfl (by simp[Value.oneCell']) ?_;intro W2 L2 kg));refine QAJ ?_;intro g1 g2 q1 q2 q3 q4 q5 D2 R2;refine QEG ?_;intro HS;clear hS;refine QEK ?_;intro g hg;rw[hg] at g1 g2 L2 ⊢;refine QDU ?_;intro L2 ld lr lg;have y0:W2.cell? ⟨g,0,none⟩=some (.int .i64 (2)):=L2.out.cell (i:=0) rfl;have gg:=qh g2;have lw:Le W2.heap.size W2:=⟨nR _⟩;have HC:=qh (Gr k.ax d.ax HV.out c hk hw.1 _ W2.heap.size W2 HT.out.wide (⟨A,cap,rfl,HS.out⟩:dZ W2.heap.size W2 (.agg #[.int .i64 (cg c.w:Nat),.string (str (cF c.w)),.slice A c.a.length cap]) (some c)));rw[Sq] at HC;have HB:=qh (L4 HV.out c);have HA:Hid (fY d.ax c=mB (ew d.ax c).2 (Lib.itoa (ew d.ax c).1)):=by unfold Hid fY;rw[if_neg nQ]
 obtain⟨x,er,hx⟩:∃x e,ew d.ax c=(x,e):=⟨_,_,rfl⟩;rw[hx] at HC HB HA;obtain⟨tx,fW⟩:∃t,Lib.itoa x=t:=⟨_,rfl⟩;have Nk:=qh fW;have Bw:Hid (-10000<=x/\x<=1000000):=qh (by have:=HB.out;simp only[] at this;omega);simp only[fW] at HA;clear hx fW HB HS hw Sq hk b1 b2 kg g1 g2;go_upto_region 9 with(first|(refine cA (cs':=aG k.ax d.ax) aq rfl _ rfl rfl D2.out (eU k d) rfl ?_)|(refine cA (cs':=#[.int .i64 2,.string (str (cF c.w)),.slice A c.a.length cap]) rowWords rfl _ rfl rfl L2.out rfl rfl ?_)|(go_at_call 46;refine HC.out.mono ?_;rintro e w1 ⟨rfl,δ2,rfl⟩));refine QDX ?_;intro g3 D3 R3;refine wp_region_held (S:=fun W=>ay W w.heap.size 125 (cE k d)) nP ?_;change wpAnyH _ _ _ _ _ _ _ _ (World.drew _);refine gN 0 (jk k d) rfl nP (iE cz nY _ rfl rfl (fun _ h=>h) rfl) (D3.out) ?_;refine QAC ?_;refine wpH_tq 1 (.int .i64 er) (D3.out) ?_;refine QAC ?_;refine wpH_tq 2 (.int .i64 x) (D3.out) ?_;refine QAC ?_;refine wpAnyH_all (rs:=[3]) nP nV ?_;intro i hi;obtain rfl:=List.mem_singleton.1 hi;refine QAF ?_;refine(yU x Bw.out tx Nk.out _).mono ?_;rintro e w1 ⟨rfl,δ23,rfl⟩;refine⟨D3.out.drew.ah _,?_⟩;refine QAC ?_;refine wpAnyH_all (rs:=[4]) nP nV ?_;intro i hi;obtain rfl:=List.mem_singleton.1 hi;refine QAF ?_;refine(CL er tx _).mono ?_;rintro e w1 ⟨rfl,δ24,rfl⟩;refine⟨(D3.out.drew.ah _).ah _,?_⟩;refine QAC ?_;refine wpAnyH_all (rs:=[5]) nP nV ?_;intro i hi;obtain rfl:=List.mem_singleton.1 hi;refine QBB ?_;refine oB cz _ _ rfl rfl rfl ((R3.out.drew.ah _).ah _) rfl rfl (dO _ _) ?_;intro W9 C9 k9;refine⟨((D3.out.drew.ah _).ah _).eN k9 nQ,?_⟩;refine QAC ?_;refine wpH_tq 6 (.string (str (mB er tx))) (((D3.out.drew.ah _).ah _).eN k9 nQ) ?_;refine QAC ?_;refine wpAnyH_done nP ?_ _;go_wp2_with fail;refine QAT ?_;intro p1 p2;refine QCX ?_;exact jv (k:=k) (d:=d) (w:=w) (W:=W9) (x:=cI d l) (k':=k) (d':=d) (by rw[HX.out]) (by first|(rw[HX.out];done)|(rw[HX.out];show _=str (fY d.ax c);rw[HA.out])) (cY.refl) (HO.out.wide)
end
section
open Hd
theorem Rj(k:cO)(d:ct)(l:aQ)(hl:l.length<=1000)(hv:aE d.ax=true)(c:eB)(hr:bH l=.cmd c)(hk:cg c.w=3)(B:Nat)(w:nJ)(hT:aN B w k.ax d.ax)[hB:Le B w](hO:dW w k.oA k.oc d.az):Calls nH 118 #[jk k d,.string (str l)] w (fh k d w (cI d l)):=by
 have hw:=qE hr;have Sq:((cg c.w:Nat):Int)=3:=by rw[hk];rfl
 have HX:Hid (cI d l=(d,fY d.ax c)):=by unfold Hid cI;rw[hr];simp only[];rw[if_neg nQ,if_neg nQ]
 refine QDV ?_;intro HL HV HT HO HR;clear hl hv hT hO hr;go_enter Tryz.func118,Tryz.ntmps118;go_upto_region 1 with fail;refine QAR ?_;intro W1 aH cJ dF cW di dz eL b1 b2;clear aH;go_upto_region 2 with(first|(go_at_call 20;refine(kz l HL.out _).mono ?_;rw[HR.out];rintro e w1 ⟨v,δ1,rfl,rfl,hx⟩;obtain⟨A,cap,rfl,hS⟩:=hx;rw[Sq])|(refine ak cV rfl _ _ rfl rfl rfl (ay.new (T:=55) rfl) rfl rfl (by simp[Value.oneCell']) ?_;intro W2 L2 kg));refine QAJ ?_;intro g1 g2 q1 q2 q3 q4 q5 D2 R2;refine QEG ?_;intro HS;clear hS;refine QEK ?_;intro g hg;rw[hg] at g1 g2 L2 ⊢;refine QDU ?_;intro L2 ld lr lg;have y0:W2.cell? ⟨g,0,none⟩=some (.int .i64 (3)):=L2.out.cell (i:=0) rfl;have gg:=qh g2;have lw:Le W2.heap.size W2:=⟨nR _⟩;have HC:=qh (NR k.ax d.ax HV.out c hk _ W2.heap.size W2 HT.out.wide (⟨A,cap,rfl,HS.out⟩:dZ W2.heap.size W2 (.agg #[.int .i64 (cg c.w:Nat),.string (str (cF c.w)),.slice A c.a.length cap]) (some c)));rw[Sq] at HC;have HF:=qh (EN HV.out c);have HA:Hid (fY d.ax c=mB (lP d.ax c).2 (pP (lP d.ax c).1)):=by unfold Hid fY;rw[if_pos hk]
 obtain⟨x,er,hx⟩:∃x e,lP d.ax c=(x,e):=⟨_,_,rfl⟩;rw[hx] at HC HF HA;obtain⟨tx,fW⟩:∃t,pP x=t:=⟨_,rfl⟩;have Nk:Hid (∀(A:Option Addr) (c B:Nat) (w:nJ),Sl aI B w A c x->Le B w->Calls nH 183 #[.slice A x.length c] w fun e w'=>e=.returned (.string (str tx))/\∃δ,w'=ah w δ):=qh fun A c B w h i=>by have:=UN x HF.out A c B w h;rw[fW] at this;exact this
 simp only[fW] at HA;clear hx fW HF HS hw Sq hk b1 b2 kg g1 g2;go_upto_region 12 with(first|(refine cA (cs':=aG k.ax d.ax) aq rfl _ rfl rfl D2.out (eU k d) rfl ?_)|(refine cA (cs':=#[.int .i64 3,.string (str (cF c.w)),.slice A c.a.length cap]) rowWords rfl _ rfl rfl L2.out rfl rfl ?_)|(go_at_call 182;refine HC.out.mono ?_;rintro e w1 ⟨lA,ln,lc,δ2,rfl,rfl,rfl,AG⟩;have ux:=qh AG;clear AG));refine QDX ?_;intro g3 D3 R3;refine wp_region_held (S:=fun W=>ay W w.heap.size 125 (cE k d)) nP ?_;change wpAnyH _ _ _ _ _ _ _ _ (World.drew _);refine gN 0 (jk k d) rfl nP (iE cz nY _ rfl rfl (fun _ h=>h) rfl) (D3.out) ?_;refine QAC ?_;refine wpH_tq 1 (.int .i64 er) (D3.out) ?_;refine QAC ?_;refine wpH_tq 2 (.slice lA x.length lc) (D3.out) ?_;refine QAC ?_;refine wpAnyH_all (rs:=[3]) nP nV ?_;intro i hi;obtain rfl:=List.mem_singleton.1 hi;refine QAF ?_;refine(Nk.out lA lc (ah W2 δ2).heap.size _ ux.out.up inferInstance).mono ?_;rintro e w1 ⟨rfl,δ23,rfl⟩;refine⟨D3.out.drew.ah _,?_⟩;refine QAC ?_;refine wpAnyH_all (rs:=[4]) nP nV ?_;intro i hi;obtain rfl:=List.mem_singleton.1 hi;refine QAF ?_;refine(CL er tx _).mono ?_;rintro e w1 ⟨rfl,δ24,rfl⟩;refine⟨(D3.out.drew.ah _).ah _,?_⟩;refine QAC ?_;refine wpAnyH_all (rs:=[5]) nP nV ?_;intro i hi;obtain rfl:=List.mem_singleton.1 hi;refine QBB ?_;refine oB cz _ _ rfl rfl rfl ((R3.out.drew.ah _).ah _) rfl rfl (dO _ _) ?_;intro W9 C9 k9;refine⟨((D3.out.drew.ah _).ah _).eN k9 nQ,?_⟩;refine QAC ?_;refine wpH_tq 6 (.string (str (mB er tx))) (((D3.out.drew.ah _).ah _).eN k9 nQ) ?_;refine QAC ?_;refine wpAnyH_done nP ?_ _;go_wp2_with fail;refine QAT ?_;intro p1 p2;refine QCX ?_;exact jv (k:=k) (d:=d) (w:=w) (W:=W9) (x:=cI d l) (k':=k) (d':=d) (by rw[HX.out]) (by first|(rw[HX.out];done)|(rw[HX.out];show _=str (fY d.ax c);rw[HA.out])) (cY.refl) (HO.out.wide)
end
section
open Hd
theorem Rk(k:cO)(d:ct)(l:aQ)(hl:l.length<=1000)(hv:aE d.ax=true)(q c:eB)(s:UInt8)(n:Int)(hr:bH l=.ord q s n c)(h5:d.az.length=5)(B:Nat)(w:nJ)(hT:aN B w k.ax d.ax)[hB:Le B w](hO:dW w k.oA k.oc d.az):Calls nH 118 #[jk k d,.string (str l)] w (fh k d w (cI d l)):=by
 have HX:Hid (cI d l=(d,vk)):=by unfold Hid cI;rw[hr];simp only[];rw[if_pos h5]
 refine QDV ?_;intro HL HV HT HO HR;clear hl hv hT hO hr;go_enter Tryz.func118,Tryz.ntmps118;go_upto_region 1 with fail;refine QAR ?_;intro W1 aH cJ dF cW di dz eL b1 b2;clear aH;go_upto_region 2 with(first|(go_at_call 20;refine(kz l HL.out _).mono ?_;rw[HR.out];rintro e w1 ⟨v,δ1,rfl,rfl,hx⟩;obtain⟨A,cap,A',cap',rfl,hS,hS'⟩:=hx)|(refine ak cV rfl _ _ rfl rfl rfl (ay.new (T:=55) rfl) rfl rfl (by simp[Value.oneCell']) ?_;intro W2 L2 kg));refine QAJ ?_;intro g1 g2 q1 q2 q3 q4 q5 D2 R2;refine QEK ?_;intro g hg;rw[hg] at g1 g2 L2 ⊢;refine QDU ?_;intro L2 ld lr lg;have y0:W2.cell? ⟨g,0,none⟩=some (.int .i64 (4)):=L2.out.cell (i:=0) rfl;have gg:=qh g2;clear b1 b2 kg g1 g2;refine QFG ?_;intro Nf;have h5i:(d.az.length:Int)=5:=nQ;go_upto_region 15 with fail;go_wp2_with (first|(refine au cz rfl _ rfl rfl D2.out rfl ?_)|(refine ak cz rfl _ _ rfl rfl rfl R2.out rfl rfl (dO _ _) ?_;intro W9 C9 k9));refine QAT ?_;intro p1 p2;refine QCX ?_;exact jv (k:=k) (d:=d) (w:=w) (W:=W9) (x:=cI d l) (k':=k) (d':=d) (by rw[HX.out]) (by first|(rw[HX.out];done)|(rw[HX.out];rfl)) (cY.refl) (HO.out.wide)
theorem xu{c:Bool}{A E:Prop}(hc:c=true)(h:if c=true then A else E):A:=by rw[if_pos hc] at h;exact h
theorem Rg(k:cO)(d:ct)(l:aQ)(hl:l.length<=1000)(hv:aE d.ax=true)(hgv:d.given<=1000)(q c:eB)(s:UInt8)(n:Int)(hr:bH l=.ord q s n c)(h5:d.az.length<5)(B:Nat)(w:nJ)(hT:aN B w k.ax d.ax)[hB:Le B w](hO:dW w k.oA k.oc d.az):Calls nH 118 #[jk k d,.string (str l)] w (fh k d w (cI d l)):=by
 have HX:Hid (cI d l=(⟨d.ax,d.az++[⟨d.given,l⟩],d.given+1⟩,tW)):=by unfold Hid cI;rw[hr];simp only[];rw[if_neg nQ]
 refine QDV ?_;intro HL HV HT HO HR;clear hl hv hT hO hr;go_enter Tryz.func118,Tryz.ntmps118;go_upto_region 1 with fail;refine QAR ?_;intro W1 aH cJ dF cW di dz eL b1 b2;clear aH;go_upto_region 2 with(first|(go_at_call 20;refine(kz l HL.out _).mono ?_;rw[HR.out];rintro e w1 ⟨v,δ1,rfl,rfl,hx⟩;obtain⟨A,cap,A',cap',rfl,hS,hS'⟩:=hx)|(refine ak cV rfl _ _ rfl rfl rfl (ay.new (T:=55) rfl) rfl rfl (by simp[Value.oneCell']) ?_;intro W2 L2 kg));refine QAJ ?_;intro g1 g2 q1 q2 q3 q4 q5 D2 R2;refine QEK ?_;intro g hg;rw[hg] at g1 g2 L2 ⊢;refine QDU ?_;intro L2 ld lr lg;have y0:W2.cell? ⟨g,0,none⟩=some (.int .i64 (4)):=L2.out.cell (i:=0) rfl;have gg:=qh g2;clear b1 b2 kg g1 g2;refine QFG ?_;intro Nf;have c15:W2.cell? ⟨w.heap.size,15,none⟩=some (.int .i64 (d.given:Nat)):=D2.out.cell rfl;have fr14:=D2.out.free 14;have h5i:((d.az.length:Int)==5)=false:=by simp;omega
 have h5n:(d.az.length==5)=false:=by simp;omega
 have hwr:IntKind.i64.wrap ((d.given:Int)+1)=((d.given+1:Nat):Int):=by rw[IntWalk.i64_in _ nQ];omega
 have jn1:oE w.heap.size W2.heap.size:=⟨q4.out⟩;have jn2:oE B W2.heap.size:=⟨q3.out⟩;have HLn:Hid ((d.az.flatMap mw).length=d.az.length*2):=qh (cm mw 2 tj _);go_upto_region 16 with fail;refine eW (S:=fun W=>ay W w.heap.size 125 (cE k d)) (N:=[11]) nP ?_;change wpAnyS _ _ _ _ _ _ _ _ _ (World.drew _);refine wpS_pq 1 (.pointer (some ⟨w.heap.size,14,none⟩)) (fun _=>D2.out.drew) ?_;refine QAC ?_;refine iP 2 (.slice k.oA d.az.length k.oc) rfl nP (Or.inl ⟨nY,by intro w5 h5;have e:=ay.cell h5 (i:=14) (v:=.slice k.oA d.az.length k.oc) rfl;go_simp⟩) (D2.out.drew) ?_;refine QAC ?_;refine wpS_pq 4 (.pointer (some ⟨w.heap.size,15,none⟩)) (fun _=>D2.out.drew) ?_;refine QAC ?_;refine iP 5 (.int .i64 (d.given:Nat)) rfl nP (Or.inl ⟨nY,by intro w5 h5;have e:=ay.cell h5 (i:=15) (v:=.int .i64 (d.given:Nat)) rfl;go_simp⟩) (D2.out.drew) ?_;refine QAC ?_;refine wpS_pq 6 (.string (str l)) (fun _=>D2.out.drew) ?_;refine QAC ?_;refine wpS_pq 7 (.agg #[.int .i64 (d.given:Nat),.string (str l)]) (fun _=>D2.out.drew) ?_;refine QAC ?_;refine aZ (rs:=[0,8]) (by decide +kernel) nV ?_;intro i hi;simp only[List.mem_cons,List.not_mem_nil,or_false] at hi;rcases hi with rfl|rfl;all_goals refine QBB ?_;unfold Oper.wp;go_simp;refine⟨fun _=>ay.eO D2.out,?_⟩;try simp only[Act.put,List.getElem_toArray,List.getElem_cons_succ,List.getElem_cons_zero,List.setIfInBounds_toArray,List.set_cons_zero,List.set_cons_succ]
 all_goals first|(refine aZ (rs:=[3,8]) (by decide +kernel) nV ?_;intro i hi;simp only[List.mem_cons,List.not_mem_nil,or_false] at hi;rcases hi with rfl|rfl)|(refine aZ (rs:=[0]) (by decide +kernel) nV ?_;intro i hi;obtain rfl:=List.mem_singleton.1 hi)
 all_goals refine QBB ?_;first|(refine xu (E:=True) nY (fE (ops:=#[]) W2 slO (.tmp 70) (.tmp 72) rfl rfl (v:=.slice (some ⟨_,0,none⟩) 0 0) (by first|exact cB (by go_simp;done) (by go_simp;done)|exact(cB (by go_simp;done) (by go_simp;done)).alloc _) rfl (B:=w.heap.size) (A:=k.oA) (m:=d.az.length) (c:=k.oc) (news:=d.az.flatMap mw) rfl ((HO.out.plain).up.2.2) HLn.out (dX mw vJ _) nQ nQ ?_);intro A1 c1 δ1' eG hg1;refine⟨fun _=>ay.eO D2.out,?_⟩;try simp only[Act.put,List.getElem_toArray,List.getElem_cons_succ,List.getElem_cons_zero,List.setIfInBounds_toArray,List.set_cons_zero,List.set_cons_succ])|(unfold Oper.wp;go_simp;refine⟨fun _=>ay.eO D2.out,?_⟩;try simp only[Act.put,List.getElem_toArray,List.getElem_cons_succ,List.getElem_cons_zero,List.setIfInBounds_toArray,List.set_cons_zero,List.set_cons_succ])
 all_goals first|(refine aZ (rs:=[8]) (by decide +kernel) nV ?_;intro i hi;obtain rfl:=List.mem_singleton.1 hi)|(refine aZ (rs:=[3]) (by decide +kernel) nV ?_;intro i hi;obtain rfl:=List.mem_singleton.1 hi)
 all_goals refine QBB ?_;first|(refine xu (E:=True) nY (fE (ops:=#[]) W2 slO (.tmp 70) (.tmp 72) rfl rfl (v:=.slice (some ⟨_,0,none⟩) 0 0) (by first|exact cB (by go_simp;done) (by go_simp;done)|exact(cB (by go_simp;done) (by go_simp;done)).alloc _) rfl (B:=w.heap.size) (A:=k.oA) (m:=d.az.length) (c:=k.oc) (news:=d.az.flatMap mw) rfl ((HO.out.plain).up.2.2) HLn.out (dX mw vJ _) nQ nQ ?_);intro A1 c1 δ1' eG hg1;refine⟨fun _=>ay.eO D2.out,?_⟩;try simp only[Act.put,List.getElem_toArray,List.getElem_cons_succ,List.getElem_cons_zero,List.setIfInBounds_toArray,List.set_cons_zero,List.set_cons_succ])|(unfold Oper.wp;go_simp;refine⟨fun _=>ay.eO D2.out,?_⟩;try simp only[Act.put,List.getElem_toArray,List.getElem_cons_succ,List.getElem_cons_zero,List.setIfInBounds_toArray,List.set_cons_zero,List.set_cons_succ])
 all_goals refine aZ (rs:=[9]) (by decide +kernel) nV ?_;intro i hi;obtain rfl:=List.mem_singleton.1 hi;refine QBB ?_;refine xu (E:=True) nY (cU (ops:=#[]) W2 slO (.tmp 73) (.tmp 78) rfl rfl (v:=.slice A1 d.az.length c1) (n:=d.az.length) (xs:=d.az.flatMap mw) (by first|exact eG|exact eG.alloc _) rfl (m:=1) (c:=1) (news:=mw ⟨d.given,l⟩) rfl (by first|exact ia rfl|(have hl:=RU rfl hg1 (by simp[Value.ownBlock]);exact hl)|(have hl:=OU rfl hg1 (by simp[Value.ownBlock]);exact hl)) rfl (vJ _) nQ nQ ?_);intro A2 c2 δ2 gK mu;refine⟨fun _=>ay.eO D2.out,?_⟩;try simp only[Act.put,List.getElem_toArray,List.getElem_cons_succ,List.getElem_cons_zero,List.setIfInBounds_toArray,List.set_cons_zero,List.set_cons_succ]
 all_goals refine wpS_pq 10 (.pointer (some ⟨w.heap.size,14,none⟩)) (fun _=>ay.eO D2.out) ?_;refine QAC ?_;refine aZ (rs:=[11]) (by decide +kernel) nV ?_;intro i hi;obtain rfl:=List.mem_singleton.1 hi;refine QAF ?_;refine⟨fun h=>absurd h nU,?_⟩;refine QAC ?_;refine eX nP ?_ _
 all_goals
  go_upto_region 17 with fail;refine QBL ?_;intro W3 bR q8 yb;have D3:Hid (ay W3 w.heap.size 125 (cE ⟨k.ax,A2,c2⟩ ⟨d.ax,d.az++[⟨d.given,l⟩],d.given⟩)):=by rw[bR.out,Lv];exact qh (ay.set (ay.eO D2.out) 14 _)
  have R3:Hid (ay W3 (w.heap.size+1) 125 (cE mT mU)):=by rw[bR.out];exact qh (ay.fB (ay.eO R2.out) (by show w.heap.size+1≠w.heap.size;omega) _)
  have O3:Hid (dW W3 A2 c2 (d.az++[⟨d.given,l⟩])):=by rw[bR.out];exact qh (Rn (ownsRow_setCell_below gK (a:=⟨w.heap.size,14,none⟩) ld.out _))
  have aiC:W3.cell? ⟨w.heap.size,15,none⟩=some (.int .i64 (d.given:Nat)):=D3.out.cell rfl;have fr15:=D3.out.free 15;have lD3:=D3.out.lt;clear eG gK hg1 mu bR;go_upto_region 18 with fail;refine aM fun W4 jU=>?_;have p8:aD w.heap.size w W4:=gy jU;have p10:Le w.heap.size W4:=fI jU;have D4:Hid (ay W4 w.heap.size 125 (cE ⟨k.ax,A2,c2⟩ ⟨d.ax,d.az++[⟨d.given,l⟩],d.given+1⟩)):=by rw[jU.out];exact qh (D3.out.set 15 _)
  have R4:Hid (ay W4 (w.heap.size+1) 125 (cE mT mU)):=by rw[jU.out];exact qh (R3.out.fB (by show w.heap.size+1≠w.heap.size;omega) _)
  have O4:Hid (dW W4 A2 c2 (d.az++[⟨d.given,l⟩])):=by rw[jU.out];exact qh (O3.out.aV ((bI.refl (fun x=>x=w.heap.size) W3).set (b:=w.heap.size) rfl 15 _) D3.out nU (nR _))
  clear jU D3 R3 O3;go_wp2_with (first|(refine au cz rfl _ rfl rfl D4.out rfl ?_)|(refine ak cz rfl _ _ rfl rfl rfl R4.out rfl rfl (dO _ _) ?_;intro W9 C9 k9));refine QAT ?_;intro p1 p2;refine QCX ?_;exact jv (k:=k) (d:=d) (w:=w) (W:=W9) (x:=cI d l) (k':=⟨k.ax,A2,c2⟩) (d':=⟨d.ax,d.az++[⟨d.given,l⟩],d.given+1⟩) (by rw[HX.out]) (by first|(rw[HX.out];done)|(rw[HX.out];rfl)) (cY.refl) (O4.out.aV k9 R4.out nU (nR _))
end
section
open Hd
theorem Kj(k:cO)(d:ct)(l:aQ)(hl:l.length<=1000)(hv:aE d.ax=true)(h5:d.az.length<=5)(x:Int)(hr:bH l=.cmd ⟨.forget,[x]⟩)(B:Nat)(w:nJ)(hT:aN B w k.ax d.ax)[hB:Le B w](hO:dW w k.oA k.oc d.az):Calls nH 118 #[jk k d,.string (str l)] w (fh k d w (cI d l)):=by
 have HX:Hid (cI d l=(match d.az.findIdx? (fun o=>decide ((o.num:Int)=x)) with|none=>(d,vk)|some i=>(⟨d.ax,d.az.eraseIdx i,d.given⟩,tW))):=by unfold Hid cI;rw[hr];simp only[];rw[if_neg (by show ¬cg .forget=1;decide),if_pos (by show cg .forget=5;decide)];rfl
 refine QDV ?_;intro HL HV HT HO HR;clear hl hv hT hO hr;go_enter Tryz.func118,Tryz.ntmps118;go_upto_region 1 with fail;refine QAR ?_;intro W1 aH cJ dF cW di dz eL b1 b2;clear aH;go_upto_region 2 with(first|(go_at_call 20;refine(kz l HL.out _).mono ?_;rw[HR.out];rintro e w1 ⟨v,δ1,rfl,rfl,hx⟩;obtain⟨A,cap,rfl,hS⟩:=hx;rw[show((cg (eB.mk .forget [x]).w:Nat):Int)=5 from rfl];obtain⟨tw,htw⟩:∃t,cF (eB.mk .forget [x]).w=t:=⟨_,rfl⟩;rw[htw])|(refine ak cV rfl _ _ rfl rfl rfl (ay.new (T:=55) rfl) rfl rfl (by simp[Value.oneCell']) ?_;intro W2 L2 kg));refine QAJ ?_;intro g1 g2 q1 q2 q3 q4 q5 D2 R2;have HS:Hid (fN 3 aI W2.heap.size W2 A cap [x]):=qh ((hS.up (w':=(ah W1 δ1).alloc _)).aV kg (ay.new rfl) nU nV);clear hS;refine QEK ?_;intro g hg;rw[hg] at g1 g2 L2 ⊢;refine QDU ?_;intro L2 ld lr lg;have y0:W2.cell? ⟨g,0,none⟩=some (.int .i64 (5)):=L2.out.cell (i:=0) rfl;have gg:=qh g2;clear b1 b2 kg g1 g2;obtain⟨la,lo,hA,hlb,dx⟩:=HS.out.plain.int (k:=0) nV;have ilb:Lt la W2:=⟨hlb⟩;have dx:W2.cell? ⟨la,lo,none⟩=some (.int .i64 x):=dx;have z3:W2.cell? ⟨g,3,none⟩=some (.slice (some ⟨la,lo,none⟩) 1 cap):=by rw[<-hA];exact L2.out.cell rfl
 refine QFG ?_;intro Nf;have fr14:=D2.out.free 14;have BK:Hid (dW W2 k.oA k.oc d.az):=qh HO.out.wide;clear hA hlb HS;go_upto_region 21 with fail;go_loopg [13] d.az.length (fun gn i wr=>∃(j:Nat) (δ:nJ),j<=d.az.length/\gn=d.az.length-j/\i=.int .i64 j/\wr=ah W2 δ/\Hid (∀m,m<j->((nth d.az m).num:Int)≠x))
 case atStart=>exact⟨0,W2,nE _,rfl,rfl,(bw W2).symm,qh fun m hm=>absurd hm (Nat.not_lt_zero _)⟩
 case round=>
  obtain⟨j,δ,hj,rfl,rfl,rfl,HN⟩:=hrel;by_cases hlt:j<d.az.length
  ·have hji:(j:Int)<(d.az.length:Int):=nQ;have hj0:¬(j:Int)<0:=nQ;obtain⟨ob,oo,Fq,EF,e0,e1⟩:=BK.out.plain.order hlt;have iob:Lt ob W2:=⟨EF⟩;rw[Fq] at Nf;obtain⟨nm,hnm⟩:∃v,(nth d.az j).num=v:=⟨_,rfl⟩;rw[hnm] at e0;clear EF e1;by_cases hx:(nm:Int)=x
   ·have Yu:((nm:Int)==x)=true:=by simp[hx]
    have HOR:Hid (dW W2 (some ⟨ob,oo,none⟩) k.oc d.az):=by rw[<-Fq];exact BK
    have h6:d.az.length<=1000:=nQ;have HXS:Hid (cI d l=(⟨d.ax,d.az.eraseIdx j,d.given⟩,tW)):=by unfold Hid;rw[HX.out,uS (j:=j) hlt (by simp[hnm,hx]) fun m hm=>by simpa using HN.out m hm]
    clear HX HN hx Fq hnm;have HX:=HXS;go_upto_region 23 with fail;refine wpRl ?_;repeat (go_big_quiet_step ((first|(fail))))
    refine QBU ?_;rintro _ ⟨δq,rfl⟩;go_upto_region 25 with(go_at_call 184;refine(xY d.az j hlt h6 (some ⟨ob,oo,none⟩) k.oc W2.heap.size _ HOR.out.plain.up).mono ?_;rintro e w1 ⟨A',c',δ',rfl,rfl,hO'⟩;have Wu:=qh hO';clear hO');refine QBL ?_;intro W3 bR q8 yb;have D3:Hid (ay W3 w.heap.size 125 (cE ⟨k.ax,A',c'⟩ ⟨d.ax,d.az.eraseIdx j,d.given⟩)):=by rw[bR.out];exact qh (ay.set (ay.eO D2.out) 14 _)
    have R3:Hid (ay W3 (w.heap.size+1) 125 (cE mT mU)):=by rw[bR.out];exact qh (ay.fB (ay.eO R2.out) (by show w.heap.size+1≠w.heap.size;omega) _)
    have O3:Hid (dW W3 A' c' (d.az.eraseIdx j)):=by rw[bR.out];exact qh (Wu.out.aV ((bI.refl (fun x=>x=w.heap.size) _).set (b:=w.heap.size) rfl 14 _) (ay.eO D2.out) nU (nR _))
    clear Wu bR;go_wp2_with (first|(refine au cz rfl _ rfl rfl D3.out rfl ?_)|(refine ak cz rfl _ _ rfl rfl rfl R3.out rfl rfl (dO _ _) ?_;intro W9 C9 k9));refine QAT ?_;intro p1 p2;refine QCX ?_;exact jv (k:=k) (d:=d) (w:=w) (W:=W9) (x:=cI d l) (k':=⟨k.ax,A',c'⟩) (d':=⟨d.ax,d.az.eraseIdx j,d.given⟩) (by rw[HX.out]) (by first|(rw[HX.out];done)|(rw[HX.out];rfl)) (cY.refl) (O3.out.aV k9 R3.out nU (nR _))
   ·have Yu:((nm:Int)==x)=false:=by simp[hx]
    go_upto_region 23 with fail;refine wpRl ?_;repeat (go_big_quiet_step ((first|(fail))))
    refine QBU ?_;rintro _ ⟨δq,rfl⟩;go_wp2_with fail;go_roundg (d.az.length-(j+1))
    case measure=>omega
    case rel=>
     refine⟨j+1,_,nQ,rfl,by go_num,ai,qh fun m hm=>?_⟩;rcases Nat.lt_succ_iff_lt_or_eq.1 hm with h|rfl
     ·exact HN.out m h
     ·rw[hnm];exact hx
  ·obtain rfl:j=d.az.length:=by omega
   have hjn:¬((d.az.length:Int)<(d.az.length:Int)):=nQ;have HXS:Hid (cI d l=(d,vk)):=by unfold Hid;rw[HX.out,uT fun m hm=>by simpa using HN.out m hm]
   clear HX HN;have HX:=HXS;have D3:Hid (ay (ah W2 δ) w.heap.size 125 (cE k d)):=qh (D2.out.ah _);have R3:Hid (ay (ah W2 δ) (w.heap.size+1) 125 (cE mT mU)):=qh (R2.out.ah _);go_upto_region 26 with fail;go_wp2_with (first|(refine au cz rfl _ rfl rfl D3.out rfl ?_)|(refine ak cz rfl _ _ rfl rfl rfl R3.out rfl rfl (dO _ _) ?_;intro W9 C9 k9));refine QAT ?_;intro p1 p2;refine QCX ?_;exact jv (k:=k) (d:=d) (w:=w) (W:=W9) (x:=cI d l) (k':=k) (d':=d) (by rw[HX.out]) (by first|(rw[HX.out];done)|(rw[HX.out];rfl)) (cY.refl) (HO.out.wide)
end
section
open Hd
theorem XM(k:cO)(d:ct)(l:aQ)(hl:l.length<=1000)(hv:aE d.ax=true)(ho:ie d.az)(hg:d.given<=1000)(B:Nat)(w:nJ)(hT:aN B w k.ax d.ax)[hB:Le B w](hO:dW w k.oA k.oc d.az):Calls nH 118 #[jk k d,.string (str l)] w (fh k d w (cI d l)):=by
 cases hr:bH l with
 |none=>exact Rh k d l hl hv hr B w hT hO
 |cmd c=>
  rcases vY c.w with hk|hk|hk|hk
  ·exact Kk k d l hl hv c hr hk B w hT hO
  ·exact U0 k d l hl hv c hr hk B w hT hO
  ·exact Rj k d l hl hv c hr hk B w hT hO
  ·obtain⟨dw,a⟩:=c;have hw:=(qE hr).1;cases dw with
   |forget=>
    match a,hw with
    |[x],_=>exact Kj k d l hl hv ho.1 x hr B w hT hO
   |aP=>exact absurd hk (by show ¬cg .aP=5;decide)
   |current=>exact absurd hk (by show ¬cg .current=5;decide)
   |gJ=>exact absurd hk (by show ¬cg .gJ=5;decide)
   |af=>exact absurd hk (by show ¬cg .af=5;decide)
   |mV=>exact absurd hk (by show ¬cg .mV=5;decide)
   |dY=>exact absurd hk (by show ¬cg .dY=5;decide)
   |eE=>exact absurd hk (by show ¬cg .eE=5;decide)
   |part=>exact absurd hk (by show ¬cg .part=5;decide)
   |fG=>exact absurd hk (by show ¬cg .fG=5;decide)
   |safe=>exact absurd hk (by show ¬cg .safe=5;decide)
   |gr=>exact absurd hk (by show ¬cg .gr=5;decide)
   |jl=>exact absurd hk (by show ¬cg .jl=5;decide)
   |done=>exact absurd hk (by show ¬cg .done=5;decide)
   |fV=>exact absurd hk (by show ¬cg .fV=5;decide)
   |yB=>exact absurd hk (by show ¬cg .yB=5;decide)
   |early=>exact absurd hk (by show ¬cg .early=5;decide)
   |nD=>exact absurd hk (by show ¬cg .nD=5;decide)
   |order=>exact absurd hk (by show ¬cg .order=5;decide)
   |pack=>exact absurd hk (by show ¬cg .pack=5;decide)
 |ord q s n c=>
  by_cases h5:d.az.length=5
  ·exact Rk k d l hl hv q c s n hr h5 B w hT hO
  ·exact Rg k d l hl hv hg q c s n hr (by have:=ho.1;omega) B w hT hO
end
section
open Hd
def o8(os:List Ord):Prop:=∀o∈os,o.num<=1000/\o.line.length<=1000
theorem mJ{os:List Ord}(h:o8 os)(i:Nat):o8 (os.eraseIdx i):=fun o ho=>h o (List.mem_of_mem_eraseIdx ho)
theorem vq{n:Nat}(h:n<=1000)(b:Bool):(rW n b).length<=20:=by
 have h1:(Lib.itoa (n:Int)).length<=5:=we 3 nQ;have h2:(jB b).length=2:=by cases b<;>rfl
 unfold rW;simp only[List.length_append,List.length_cons,h2];omega
theorem uF(m:Nat):∀d:ct,o8 d.az->(de m d).2.length<=m*20:=by
 induction m with
 |zero=>intro d _;exact nE _
 |succ m ih=>
  intro d hn
  rw[de]
  cases hf:gE d.ax d.az with
  |none=>exact nE _
  |some i=>
   simp only[List.length_append]
   have h1:=vq (hn _ (aR d.az (sY hf).1)).1 (gz d.ax (Cl (bH (nth d.az i).line))).isSome
   have h2:=ih ⟨jc d.ax (Cl (bH (nth d.az i).line)),d.az.eraseIdx i,d.given⟩ (mJ hn i)
   omega
theorem Sl.aak{B:Nat}{w:nJ}{b o c:Nat}{xs:List Ord}(h:Sl mw B w (some ⟨b,o,none⟩) c xs){k:Nat}(hk:k<xs.length):w.cell? ⟨b,o+k*2,none⟩=some (.int .i64 ((nth xs k).num:Nat))/\w.cell? ⟨b,o+k*2+1,none⟩=some (.string (str (nth xs k).line)):=by obtain⟨b',o',e,_,d⟩:=h.order hk;injection e with e;injection e with e1 e2;subst e1;subst e2;exact d
def TN(m:Nat):Prop:=∀(k:cO) (d:ct),aE d.ax=true->ie d.az->o8 d.az->d.az.length=m->∀(B:Nat) (w:nJ),aN B w k.ax d.ax->Le B w->dW w k.oA k.oc d.az ->
 Calls nH 119 #[jk k d] w (fh k d w (de m d))
theorem yy{t:aO}{os:List Ord}(h:∀m,m<os.length->oW t (bH (nth os m).line)=false):gE t os=none:=uT h
theorem yx{t:aO}{os:List Ord}{j:Nat}(hj:j<os.length)(h:oW t (bH (nth os j).line)=true)(hn:∀m,m<j->oW t (bH (nth os m).line)=false):gE t os=some j:=uS hj h hn
theorem ye(m:Nat)(IH:∀m',m'+1=m->TN m'):TN m:=by
 intro k d hv ho hn hm B w hT hB hO;have HV:=qh hv;have Qe:=qh ho;have gB:=qh hn;have HT:=qh hT;have HM:=qh hm;have Ww:=qh IH;have abl:d.az.length<=1000:=by have:=ho.1;omega
 clear hv ho hn hm IH;go_enter Tryz.func119,Tryz.ntmps119;go_upto_region 1 with fail;refine QAR ?_;intro W1 aH cJ dF cW di dz eL b1 b2;have Nf:W1.cell? ⟨w.heap.size,14,none⟩=some (.slice k.oA d.az.length k.oc):=b1.out.cell rfl;have BK:Hid (dW W1 k.oA k.oc d.az):=qh hO.wide;clear aH hO hT;have jl1:oE w.heap.size W1.heap.size:=⟨cW.out⟩;have jl2:oE B W1.heap.size:=⟨cJ.out⟩;go_upto_region 2 with fail;go_loopg [4] d.az.length (fun gn i wr=>∃j:Nat,j<=d.az.length/\gn=d.az.length-j/\i=.int .i64 j/\aD W1.heap.size W1 wr/\Le W1.heap.size wr/\Hid (∀p,p<j->oW d.ax (bH (nth d.az p).line)=false))
 case atStart=>exact⟨0,nE _,rfl,rfl,inferInstance,inferInstance,qh fun p hp=>absurd hp (Nat.not_lt_zero _)⟩
 case round=>
  obtain⟨j,hj,rfl,rfl,i1,i2,HN⟩:=hrel;have D1:Hid (ay wr w.heap.size 125 (cE k d)):=qh b1.out.eO;have R1:Hid (ay wr (w.heap.size+1) 125 (cE mT mU)):=qh b2.out.eO;have lD:=D1.out.lt;have lR:=R1.out.lt;have a1:aD w.heap.size w wr:=⟨⟨i1.out.1.trans di.out.1,i1.out.2.1.trans di.out.2.1,i1.out.2.2.1.trans di.out.2.2.1,fun b hb=>(i1.out.2.2.2 b (nL hb cW.out)).trans (di.out.2.2.2 b hb)⟩⟩;have a2:Le w.heap.size wr:=⟨nT cW.out i2.out⟩;have a3:aD B w wr:=⟨⟨a1.out.1,a1.out.2.1,a1.out.2.2.1,fun b hb=>a1.out.2.2.2 b (nL hb hB.out)⟩⟩;have a4:Le B wr:=⟨nT hB.out a2.out⟩;have abu:wr.cell? ⟨w.heap.size,14,none⟩=some (.slice k.oA d.az.length k.oc):=D1.out.cell rfl;by_cases hlt:j<d.az.length
  ·have hji:(j:Int)<(d.az.length:Int):=nQ;have hj0:¬(j:Int)<0:=nQ;obtain⟨ob,oo,Fq,EF,_⟩:=BK.out.plain.order hlt;have HOR:Hid (dW W1 (some ⟨ob,oo,none⟩) k.oc d.az):=by rw[<-Fq];exact BK
   rw[Fq] at abu;have iob:Lt ob wr:=⟨nL EF i2.out⟩;have iob3:Lt ob W1:=⟨EF⟩;obtain⟨e0,e1⟩:=(HOR.out.up (w':=wr)).plain.aak hlt;obtain⟨q,s,n,c,hr⟩:=Qe.out.2 _ (aR d.az hlt);have hNB:=gB.out _ (aR d.az hlt);have HPa:=qh (zQ hr);have HR:=qh hr;have Qh:Hid (oW d.ax (bH (nth d.az j).line)=fR d.ax q s n):=by unfold Hid;rw[hr];rfl
   obtain⟨nm,hnm⟩:∃v,(nth d.az j).num=v:=⟨_,rfl⟩;obtain⟨ln,jA⟩:∃v,(nth d.az j).line=v:=⟨_,rfl⟩;rw[jA] at e1 HR hNB Qh;rw[hnm] at e0 hNB;clear hr EF;go_upto_region 5 with(first|(go_at_call 20;refine(kz ln hNB.2 _).mono ?_;rw[HR.out];rintro e w1 ⟨v,δ1,rfl,rfl,hx⟩;obtain⟨A,cap,A',cap',rfl,hS,hS'⟩:=hx)|(refine ak cV rfl _ _ rfl rfl rfl (ay.new (T:=55) rfl) rfl rfl (by simp[Value.oneCell']) ?_;intro W2 L2 kg));have g1:W1.heap.size<=(ah wr δ1).heap.size:=(inferInstance:Le W1.heap.size (ah wr δ1)).out;have g2:wr.heap.size<=(ah wr δ1).heap.size:=(inferInstance:Le wr.heap.size (ah wr δ1)).out;have q1:aD W1.heap.size W1 W2:=cC kg g1;have q2:Le W1.heap.size W2:=dB kg;have q3:aD w.heap.size w W2:=cC kg (nT cW.out g1);have q4:Le w.heap.size W2:=dB kg;have q5:aD B w W2:=cC kg (nT cJ.out g1);have q6:Le B W2:=dB kg;have D2:Hid (ay W2 w.heap.size 125 (cE k d)):=qh (((D1.out.ah _).alloc _).eN kg (Nat.ne_of_lt (nL lD.out g2)));have R2:Hid (ay W2 (w.heap.size+1) 125 (cE mT mU)):=qh (((R1.out.ah _).alloc _).eN kg (Nat.ne_of_lt (nL lR.out g2)));have HLI:Hid (Bs W2.heap.size W2 (.agg #[.int .i64 4,.int .i64 (cg q.w:Nat),.string (str (cF q.w)),.slice A q.a.length cap,.int .i64 (cg c.w:Nat),.string (str (cF c.w)),.slice A' c.a.length cap',.string (str [s]),.int .i64 n]) (.ord q s n c)):=
    qh ⟨A,cap,A',cap',rfl,(hS.up (w':=(ah wr δ1).alloc _)).aV kg (ay.new rfl) nU nV,(hS'.up (w':=(ah wr δ1).alloc _)).aV kg (ay.new rfl) nU nV⟩
   have HWI:Hid (dZ W2.heap.size W2 (.agg #[.int .i64 (cg c.w:Nat),.string (str (cF c.w)),.slice A' c.a.length cap']) (some c)):=
    qh ⟨A',cap',rfl,(hS'.up (w':=(ah wr δ1).alloc _)).aV kg (ay.new rfl) nU nV⟩
   obtain⟨g,hg⟩:∃g,(ah wr δ1).heap.size=g:=⟨_,rfl⟩;rw[hg] at L2 ⊢;have L2:=qh L2;have lD2:=D2.out.lt;have lR2:=R2.out.lt;have lg:=L2.out.lt;have lS:Le W2.heap.size W2:=⟨nR _⟩;have HH:Hid (Calls nH 19 #[aY k.ax d.ax,.agg #[.int .i64 4,.int .i64 (cg q.w:Nat),.string (str (cF q.w)),.slice A q.a.length cap,.int .i64 (cg c.w:Nat),.string (str (cF c.w)),.slice A' c.a.length cap',.string (str [s]),.int .i64 n]] W2 fun e w'=>e=.returned (.bool (fR d.ax q s n))/\∃δ,w'=ah W2 δ):=
    qh (Gp k.ax d.ax HV.out q c s n HPa.out.1 HPa.out.2.1 HPa.out.2.2.2.2 _ W2.heap.size W2 HT.out.wide HLI.out)
   clear hS hS' kg hg g1 g2 D1 R1 e0 e1 abu;rcases hh:fR d.ax q s n with _|_
   ·rw[hh] at HH Qh;clear hh;go_wp2_with (first|(refine cA (cs':=aG k.ax d.ax) aq rfl _ rfl rfl D2.out (eU k d) rfl ?_)|(refine au cV rfl _ rfl rfl L2.out rfl ?_)|(go_at_call 19;refine HH.out.mono ?_;rintro e w1 ⟨rfl,δ2,rfl⟩));go_roundg (d.az.length-(j+1))
    case measure=>omega
    case rel=>
     refine⟨j+1,nQ,rfl,by go_num,inferInstance,inferInstance,qh fun p hp=>?_⟩;rcases Nat.lt_succ_iff_lt_or_eq.1 hp with h|rfl
     ·exact HN.out p h
     ·rw[jA];exact Qh.out
   ·rw[hh] at HH Qh;clear hh;have HKC:=HPa.out.2.2.1;have HLC:=HPa.out.2.2.2.1;have FO:Hid (gE d.ax d.az=some j):=qh (yx hlt (by rw[jA];exact Qh.out) HN.out);obtain⟨m',rfl⟩:∃m',m=m'+1:=⟨m-1,by have:=HM.out;omega⟩;have HC:Hid (∀(B':Nat) (W:nJ),aN B' W k.ax d.ax->Le B' W->dZ B' W (.agg #[.int .i64 (cg c.w:Nat),.string (str (cF c.w)),.slice A' c.a.length cap']) (some c)->Calls nH 179 #[aY k.ax d.ax,.agg #[.int .i64 (cg c.w:Nat),.string (str (cF c.w)),.slice A' c.a.length cap']] W (gM k.ax d.ax c W)):=qh fun B' W h i h2=>zH k.ax d.ax HV.out c HKC HLC _ B' W h h2;have HX:Hid (de (m'+1) d=((de m' ⟨jc d.ax c,d.az.eraseIdx j,d.given⟩).1,rW nm (gz d.ax c).isSome++(de m' ⟨jc d.ax c,d.az.eraseIdx j,d.given⟩).2)):=by unfold Hid;rw[de,FO.out];simp only[jA,hnm];rw[HR.out];rfl
    have HVt:=qh (rP HV.out c);have HTL:=qh (uF m' ⟨jc d.ax c,d.az.eraseIdx j,d.given⟩ (mJ gB.out j));unfold gM at HC;refine QDP ?_;intro td Dg bb ij;rw[Dg,ij] at HC HX;rw[Dg] at HTL HVt;have Jk:=qh (vq hNB.1 bb);have yN:Hid (∀(k':cO) (B:Nat) (w:nJ),aN B w k'.ax td->Le B w->dW w k'.oA k'.oc (d.az.eraseIdx j)->Calls nH 119 #[jk k' ⟨td,d.az.eraseIdx j,d.given⟩] w (fh k' ⟨td,d.az.eraseIdx j,d.given⟩ w (de m' ⟨td,d.az.eraseIdx j,d.given⟩))):=qh fun k' B w h1 h2 h3=>Ww.out m' rfl k' ⟨td,d.az.eraseIdx j,d.given⟩ HVt.out (qZ Qe.out j) (mJ gB.out j) (by have:=HM.out;show(d.az.eraseIdx j).length=m';rw[List.length_eraseIdx];simp[hlt];omega) B w h1 h2 h3;obtain⟨xd,xt,hx⟩:∃xd xt,de m' ⟨td,d.az.eraseIdx j,d.given⟩=(xd,xt):=⟨_,_,rfl⟩;rw[hx] at HX yN HTL;have hm5:m'<=5:=by have:=Qe.out.1;have:=HM.out;omega
    have hxt:xt.length<=1000:=by have:=HTL.out;simp only[] at this;omega
    unfold fh at yN;clear Dg ij hx HTL jA HR Qh FO HN HKC HLC;go_upto_region 6 with(first|(refine cA (cs':=aG k.ax d.ax) aq rfl _ rfl rfl D2.out (eU k d) rfl ?_)|(refine au cV rfl _ rfl rfl L2.out rfl ?_)|(go_at_call 19;refine HH.out.mono ?_;rintro e w1 ⟨rfl,δ2,rfl⟩));go_upto_region 7 with(first|(refine cA (cs':=aG k.ax d.ax) aq rfl _ rfl rfl (D2.out.ah _) (eU k d) rfl ?_)|(refine cA (cs':=#[.int .i64 (cg c.w:Nat),.string (str (cF c.w)),.slice A' c.a.length cap']) rowWords rfl _ rfl rfl (L2.out.ah _) rfl rfl ?_)|(go_at_call 179;refine(HC.out (ah W2 δ2).heap.size _ HT.out.wide ⟨nR _⟩ HWI.out.wide).mono ?_;rintro e w1 ⟨r',δ3,rfl,rfl,SC⟩)|(refine ak aq rfl _ _ rfl rfl rfl (ay.new (T:=39) rfl) rfl rfl (aL _ _) ?_;intro W3 T3 k3));have g3:W2.heap.size<=(ah (ah W2 δ2) δ3).heap.size:=(inferInstance:Le W2.heap.size (ah (ah W2 δ2) δ3)).out;have m1:aD W1.heap.size W1 W3:=cC k3 (nT q2.out g3);have m2:Le W1.heap.size W3:=dB k3;have m3:aD w.heap.size w W3:=cC k3 (nT q4.out g3);have m4:Le w.heap.size W3:=dB k3;have D3:Hid (ay W3 w.heap.size 125 (cE k d)):=qh ((((D2.out.ah _).ah _).alloc _).eN k3 (Nat.ne_of_lt (nL lD2.out g3)));have R3:Hid (ay W3 (w.heap.size+1) 125 (cE mT mU)):=qh ((((R2.out.ah _).ah _).alloc _).eN k3 (Nat.ne_of_lt (nL lR2.out g3)));have T3:=qh T3;have To3:Hid (cY k.ax d.ax w r' td W3):=qh (((SC.up (W':=(ah (ah W2 δ2) δ3).alloc _)).aV k3 (ay.new rfl) nU).from_ (inferInstance:Le w.heap.size (ah W2 δ2)).out);have e14:W3.cell? ⟨w.heap.size,14,none⟩=some (.slice (some ⟨ob,oo,none⟩) d.az.length k.oc):=by rw[<-Fq];exact D3.out.cell rfl
    obtain⟨e0,e1⟩:=(HOR.out.up (w':=W3)).plain.aak hlt;rw[hnm] at e0;have lD3:=D3.out.lt;have lob:Lt ob W3:=⟨nL iob3.out m2.out⟩;obtain⟨tx,fW⟩:∃t,Lib.itoa (nm:Int)=t:=⟨_,rfl⟩;have Nk:=qh fW;have hnB:Hid (-10000<=(nm:Int)/\(nm:Int)<=1000000):=qh (by have:=hNB.1;omega);have Ws:Hid (rW nm bb=32::tx++[58]++jB bb):=by unfold Hid rW;rw[fW];simp
    have yJ:(32::tx++[58]++jB bb).length<=20:=by rw[<-Ws.out];exact Jk.out
    obtain⟨yt,Yt⟩:∃t,jB bb=t:=⟨_,rfl⟩;have HYT:Hid (∀W:nJ,Calls nH 180 #[.bool bb] W fun e w'=>e=.returned (.string (str yt))/\∃δ,w'=ah W δ):=qh fun W=>by rw[<-Yt];exact Q9 bb W
    rw[Yt] at yJ Ws;obtain⟨u1,hu1⟩:∃t,32::tx=t:=⟨_,rfl⟩;rw[hu1] at yJ Ws;have l1:tx.length+1=u1.length:=by rw[<-hu1];rfl
    have l3:(u1++[58]++yt).length=u1.length+1+yt.length:=by simp[Nat.add_comm,Nat.add_left_comm]
    refine QFI ?_;intro s1;obtain⟨u2,Qk⟩:∃t,u1++[58]=t:=⟨_,rfl⟩;refine QFJ ?_;intro s2;have l2:u2.length=u1.length+1:=by rw[<-Qk];simp
    rw[Qk] at yJ Ws l3;obtain⟨tl,Jb⟩:∃t,u2++yt=t:=⟨_,rfl⟩;have s3:∀W:nJ,(Op.stringOp .add (str u2) (str yt)).run nH W=.ok (.string (str tl)) W:=fun W=>by rw[<-Jb];exact eA (P:=nH) W u2 yt nQ
    rw[Jb] at yJ Ws;have s4:∀W:nJ,(Op.stringOp .add (str tl) (str xt)).run nH W=.ok (.string (str (tl++xt))) W:=fun W=>eA (P:=nH) W tl xt nQ;clear fW Yt Jb hu1 Qk l1 l2 l3 yJ hnm SC k3 D2 R2 L2 HLI HWI HH HC lD2 lR2 lg g3;go_upto_region 8 with(first|(go_at_call 34;refine(yU (nm:Int) hnB.out tx Nk.out _).mono ?_;rintro e w1 ⟨rfl,δ4,rfl⟩)|(go_at_call 180;refine(HYT.out _).mono ?_;rintro e w1 ⟨rfl,δ5,rfl⟩));have g4:W3.heap.size<=(ah (ah W3 δ4) δ5).heap.size:=(inferInstance:Le W3.heap.size (ah (ah W3 δ4) δ5)).out;have D4:Hid (ay (ah (ah W3 δ4) δ5) w.heap.size 125 (cE k d)):=qh ((D3.out.ah _).ah _);have T4:Hid (ay (ah (ah W3 δ4) δ5) _ _ _):=qh ((T3.out.ah _).ah _);have To4:Hid (cY k.ax d.ax w r' td (ah (ah W3 δ4) δ5)):=qh To3.out.up;go_upto_region 9 with(first|(refine au aq rfl _ rfl rfl T4.out rfl ?_)|(refine nw aq rfl _ _ rfl rfl rfl D4.out rfl (AR k d) (aL _ _) (AQ k d r' td) ?_;intro W5 D5 k5));have D5:=qh D5;have v1:aD W1.heap.size W1 (ah (ah W3 δ4) δ5):=inferInstance;have v3:aD w.heap.size w W5:=cC k5 (nR _);have v4:Le w.heap.size W5:=dB k5;have v5:Le W1.heap.size W5:=dB k5;have R5:Hid (ay W5 (w.heap.size+1) 125 (cE mT mU)):=qh (((R3.out.ah _).ah _).eN k5 nQ);have To5:Hid (cY k.ax d.ax w r' td W5):=qh (To4.out.aV k5 D4.out nU);have HO5:Hid (dW W5 (some ⟨ob,oo,none⟩) k.oc d.az):=qh ((HOR.out.up (w':=ah (ah W3 δ4) δ5)).aV k5 D4.out nU (inferInstance:Le W1.heap.size (ah (ah W3 δ4) δ5)).out);have f14:W5.cell? ⟨w.heap.size,14,none⟩=some (.slice (some ⟨ob,oo,none⟩) d.az.length k.oc):=by rw[<-Fq];exact D5.out.cell rfl
    have fr14:=D5.out.free 14;have lD5:=D5.out.lt;have lS5:Le W5.heap.size W5:=⟨nR _⟩;clear To4 T4 D4 k5 T3 D3 R3 To3 e14 e0 e1 lD3 lob s1 s2 s3 Nk HYT g4;go_upto_region 10 with(go_at_call 184;refine(xY d.az j hlt abl (some ⟨ob,oo,none⟩) k.oc W5.heap.size _ HO5.out.plain).mono ?_;rintro e w1 ⟨A2,c2,δ6,rfl,rfl,hO'⟩;have Wu:=qh hO';clear hO');refine aM fun W6 Dk=>?_;have w3:aD w.heap.size w W6:=gy Dk;have w4:Le w.heap.size W6:=fI Dk;have w5:aD B w W6:=⟨⟨w3.out.1,w3.out.2.1,w3.out.2.2.1,fun b hb=>w3.out.2.2.2 b (nL hb hB.out)⟩⟩;have w6:Le B W6:=⟨nT hB.out w4.out⟩;have D6:Hid (ay W6 w.heap.size 125 (cE ⟨r',A2,c2⟩ ⟨td,d.az.eraseIdx j,d.given⟩)):=by rw[Dk.out];exact qh (ay.set (ay.eO D5.out) 14 _)
    have R6:Hid (ay W6 (w.heap.size+1) 125 (cE mT mU)):=by rw[Dk.out];exact qh (ay.fB (ay.eO R5.out) (by show w.heap.size+1≠w.heap.size;omega) _)
    have O6:Hid (dW W6 A2 c2 (d.az.eraseIdx j)):=by rw[Dk.out];exact qh (Wu.out.aV ((bI.refl (fun x=>x=w.heap.size) _).set (b:=w.heap.size) rfl 14 _) (ay.eO D5.out) nU (nR _))
    have To6:Hid (cY k.ax d.ax w r' td W6):=by rw[Dk.out];exact qh ((To5.out.up (W':=ah W5 δ6)).aV ((bI.refl (fun x=>x=w.heap.size) _).set (b:=w.heap.size) rfl 14 _) (ay.eO D5.out) nU)
    have lD6:=D6.out.lt;have lR6:=R6.out.lt;clear Dk Wu D5 R5 To5 f14 fr14 HO5;go_upto_region 11 with(first|(refine au cz rfl _ rfl rfl D6.out rfl ?_)|(go_at_call 119;refine(yN.out ⟨r',A2,c2⟩ W6.heap.size _ (To6.out.is HT.out) ⟨nR _⟩ O6.out).mono ?_;rintro e w1 ⟨k',δ7,rfl,rfl,ab5,hO7⟩;have abA:=qh ab5;have HO7:=qh hO7;clear ab5 hO7)|(refine ak cz rfl _ _ rfl rfl rfl (ay.new (T:=125) rfl) rfl rfl (dO _ _) ?_;intro W7 E7 k7));have g7:W6.heap.size<=(ah W6 δ7).heap.size:=(inferInstance:Le W6.heap.size (ah W6 δ7)).out;have x3:aD w.heap.size w W7:=cC k7 (nT w4.out g7);have x4:Le w.heap.size W7:=dB k7;have E7:=qh E7;have R7:Hid (ay W7 (w.heap.size+1) 125 (cE mT mU)):=qh (((R6.out.ah _).alloc _).eN k7 (Nat.ne_of_lt (nL lR6.out g7)));have To7:Hid (cY k.ax d.ax w k'.ax xd.ax W7):=qh (((To6.out.trans abA.out w4.out).up (W':=(ah W6 δ7).alloc _)).aV k7 (ay.new rfl) nU);have O7:Hid (dW W7 k'.oA k'.oc xd.az):=qh ((HO7.out.up (w':=(ah W6 δ7).alloc _)).aV k7 (ay.new rfl) nU nV);clear k7 abA HO7 To6 O6 D6 R6;go_wp2_with (first|(refine au cz rfl _ rfl rfl E7.out rfl ?_)|(refine ak cz rfl _ _ rfl rfl rfl R7.out rfl rfl (dO _ _) ?_;intro W9 C9 k9));refine QAT ?_;intro p1 p2;refine ep cz Tryz.results119 rfl C9 rfl ?_;exact jv (k:=k) (d:=d) (w:=w) (W:=W9) (x:=de (m'+1) d) (k':=k') (d':=xd) (by rw[HX.out]) (by rw[HX.out,Ws.out]) (To7.out.aV k9 R7.out nU) (O7.out.aV k9 R7.out nU (nR _))
  ·obtain rfl:j=d.az.length:=by omega
   have hjn:¬((d.az.length:Int)<(d.az.length:Int)):=nQ;have HX:Hid (de m d=(d,[])):=qh (zv (yy HN.out));have aeC:=qh (BK.out.up (w':=wr));clear HN;go_upto_region 12 with fail;go_wp2_with (first|(refine au cz rfl _ rfl rfl D1.out rfl ?_)|(refine ak cz rfl _ _ rfl rfl rfl R1.out rfl rfl (dO _ _) ?_;intro W9 C9 k9));refine QAT ?_;intro p1 p2;refine ep cz Tryz.results119 rfl C9 rfl ?_;exact jv (k:=k) (d:=d) (w:=w) (W:=W9) (x:=de m d) (k':=k) (d':=d) (by rw[HX.out]) (by rw[HX.out];rfl) cY.refl (aeC.out.aV k9 R1.out nU i2.out)
theorem xZ:∀m,TN m
 |0=>ye 0 fun m' h=>by omega
 |m+1=>ye (m+1) fun m' h=>by have:m'=m:=nQ;subst this;exact xZ m'
end
section
open Hd
theorem zM{d:ct}{l:aQ}(h:o8 d.az)(hg:d.given<=1000)(hl:l.length<=1000):o8 (cI d l).1.az:=by
 unfold cI;split
 ·exact h
 ·split
  ·exact h
  ·intro o ho;rcases List.mem_append.1 ho with h1|h1
   ·exact h o h1
   ·simp at h1;subst h1;exact⟨hg,hl⟩
 ·split
  ·exact h
  ·split
   ·split
    ·exact h
    ·exact mJ h _
   ·exact h
theorem JH(m:Nat):∀d:ct,o8 d.az->o8 (de m d).1.az:=by
 induction m with
 |zero=>intro d h;exact h
 |succ m ih=>
  intro d h
  rw[de]
  cases gE d.ax d.az with
  |none=>exact h
  |some i=>exact ih _ (mJ h i)
theorem Nx{d:ct}{l:aQ}(h:o8 d.az)(hg:d.given<=1000)(hl:l.length<=1000):o8 (fO d l).1.az:=JH _ _ (zM h hg hl)
theorem Oc(d:ct)(l:aQ):(cI d l).1.given<=d.given+1:=by
 unfold cI;split
 ·exact nF _
 ·split
  ·exact nF _
  ·exact nR _
 ·split
  ·exact nF _
  ·split
   ·split<;>exact nF _
   ·exact nF _
theorem FN(m:Nat):∀d:ct,(de m d).1.given=d.given:=by
 induction m with
 |zero=>intro d;rfl
 |succ m ih=>
  intro d
  rw[de]
  cases gE d.ax d.az with
  |none=>rfl
  |some i=>exact ih _
theorem JB(d:ct)(l:aQ):(fO d l).1.given<=d.given+1:=by show(de _ _).1.given<=_;rw[FN];exact Oc d l
theorem Gv{d:ct}{l:aQ}(hv:aE d.ax=true):(cI d l).2.length<=60:=by
 have a1:mC.length<=60:=nU;have a2:vk.length<=60:=nU;have a3:tW.length<=60:=nU;have a4:∀b,(jB b).length<=60:=nU;unfold cI;split
 ·exact a1
 ·split
  ·exact a2
  ·exact a3
 ·split
  ·exact a4 _
  ·split
   ·split
    ·exact a2
    ·exact a3
   ·exact DD d.ax _ hv
theorem UK(k:cO)(d:ct)(l:aQ)(hl:l.length<=1000)(hv:aE d.ax=true)(ho:ie d.az)(hn:o8 d.az)(hg:d.given<=1000)(B:Nat)(w:nJ)(hT:aN B w k.ax d.ax)[hB:Le B w](hO:dW w k.oA k.oc d.az):Calls nH 71 #[jk k d,.string (str l)] w (fh k d w (fO d l)):=by have HT:=qh hT;have HO:=qh hO;have BK:Hid (∀(W:nJ),aN B W k.ax d.ax->Le B W->dW W k.oA k.oc d.az->Calls nH 118 #[jk k d,.string (str l)] W (fh k d W (cI d l))):=qh fun W h1 h2 h3=>XM k d l hl hv ho hg B W h1 h3;have Qd:=xm hv l;have xO:=vE ho l;have Fk:=zM hn hg hl;have h60:=Gv (l:=l) hv;have HX:Hid (fO d l=((de (cI d l).1.az.length (cI d l).1).1,(cI d l).2++(de (cI d l).1.az.length (cI d l).1).2)):=rfl;obtain⟨od,ot,Ql⟩:∃a b,cI d l=(a,b):=⟨_,_,rfl⟩;rw[Ql] at BK HX Qd xO Fk h60;simp only[] at HX Qd xO Fk h60;have uX:Hid (∀(k':cO) (B:Nat) (W:nJ),aN B W k'.ax od.ax->Le B W->dW W k'.oA k'.oc od.az->Calls nH 119 #[jk k' od] W (fh k' od W (de od.az.length od))):=qh fun k' B W h1 h2 h3=>xZ od.az.length k' od Qd xO Fk rfl B W h1 h2 h3;have hx2:=uF od.az.length od Fk;have hx5:=xO.1;obtain⟨sd,st,WK⟩:∃a b,de od.az.length od=(a,b):=⟨_,_,rfl⟩;rw[WK] at HX uX hx2;simp only[] at HX hx2;have s1:∀W:nJ,(Op.stringOp .add (str ot) (str st)).run nH W=.ok (.string (str (ot++st))) W:=fun W=>eA (P:=nH) W ot st nQ;unfold fh at BK uX;clear hT hO hv ho hn hg hl Qd xO Fk h60 Ql WK hx2 hx5;go_enter Tryz.func71,Tryz.ntmps71;go_upto_region 1 with fail;refine QAR ?_;intro W1 aH cJ dF cW di dz eL b1 b2;clear aH;go_upto_region 2 with(first|(refine au cz rfl _ rfl rfl b1.out rfl ?_)|(go_at_call 118;refine(BK.out _ HT.out.up inferInstance HO.out.wide).mono ?_;rintro e w1 ⟨k1,δ1,rfl,rfl,SC,SE⟩;have Ub:=qh SC;have Ft:=qh SE;clear SC SE)|(refine ak cz rfl _ _ rfl rfl rfl (ay.new (T:=125) rfl) rfl rfl (dO _ _) ?_;intro W2 C2 k2));have g1:W1.heap.size<=(ah W1 δ1).heap.size:=(inferInstance:Le W1.heap.size (ah W1 δ1)).out;have q1:aD B w W2:=cC k2 (nT cJ.out g1);have q2:Le B W2:=dB k2;have q3:aD w.heap.size w W2:=cC k2 (nT cW.out g1);have q4:Le w.heap.size W2:=dB k2;have R2:Hid (ay W2 (w.heap.size+1) 125 (cE mT mU)):=qh (((b2.out.ah _).alloc _).eN k2 (Nat.ne_of_lt (nL eL.out g1)));have To2:Hid (cY k.ax d.ax w k1.ax od.ax W2):=qh (((Ub.out.up (W':=(ah W1 δ1).alloc _)).aV k2 (ay.new rfl) nU).from_ cW.out);have O2:Hid (dW W2 k1.oA k1.oc od.az):=qh ((Ft.out.up (w':=(ah W1 δ1).alloc _)).aV k2 (ay.new rfl) nU nV);have C2:=qh C2;have lR2:=R2.out.lt;clear k2 b1 b2 Ub Ft;go_upto_region 3 with(first|(refine au cz rfl _ rfl rfl C2.out rfl ?_)|(go_at_call 119;refine(uX.out k1 W2.heap.size _ (To2.out.is HT.out) ⟨nR _⟩ O2.out).mono ?_;rintro e w1 ⟨k',δ3,rfl,rfl,SC,SE⟩;have Ub:=qh SC;have Ft:=qh SE;clear SC SE)|(refine ak cz rfl _ _ rfl rfl rfl (ay.new (T:=125) rfl) rfl rfl (dO _ _) ?_;intro W3 C3 k3));have g2:W2.heap.size<=(ah W2 δ3).heap.size:=(inferInstance:Le W2.heap.size (ah W2 δ3)).out;have x3:aD w.heap.size w W3:=cC k3 (nT q4.out g2);have x4:Le w.heap.size W3:=dB k3;have R3:Hid (ay W3 (w.heap.size+1) 125 (cE mT mU)):=qh (((R2.out.ah _).alloc _).eN k3 (Nat.ne_of_lt (nL lR2.out g2)));have To3:Hid (cY k.ax d.ax w k'.ax sd.ax W3):=qh (((To2.out.trans Ub.out q4.out).up (W':=(ah W2 δ3).alloc _)).aV k3 (ay.new rfl) nU);have O3:Hid (dW W3 k'.oA k'.oc sd.az):=qh ((Ft.out.up (w':=(ah W2 δ3).alloc _)).aV k3 (ay.new rfl) nU nV);have C3:=qh C3;clear k3 Ub Ft To2 O2 R2 C2;go_wp2_with (first|(refine au cz rfl _ rfl rfl C3.out rfl ?_)|(refine ak cz rfl _ _ rfl rfl rfl R3.out rfl rfl (dO _ _) ?_;intro W9 C9 k9));refine QAT ?_;intro p1 p2;refine ep cz Tryz.results71 rfl C9 rfl ?_;exact jv (k:=k) (d:=d) (w:=w) (W:=W9) (x:=fO d l) (k':=k') (d':=sd) (by rw[HX.out]) (by rw[HX.out];first|done|rfl) (To3.out.aV k9 R3.out nU) (O3.out.aV k9 R3.out nU (nR _))
end
end Go.Proofs.YtpnnapeoanafdaaGreatDoor
