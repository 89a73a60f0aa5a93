/- A part of the proof that the statement HeadmanRunCardSaid holds, cut small by a program (names and blanks): Ho1, Ho2, Ho3, Ho4, Ho5, Ho6, Ho7, Ho8, Ho9. -/
import Derived.Test.YtcjjlikhlmfedaaGreatDoorZ23
set_option maxRecDepth 100000
set_option maxHeartbeats 40000000
set_option linter.unusedVariables false
set_option linter.unusedSimpArgs false
namespace Go.Proofs.YtcjjlikhlmfedaaGreatDoor
open Go.RowKit
open Nat renaming le_trans → nT, lt_of_lt_of_le → nL, le_refl → nR, zero_le → nE, le_succ → nF
open Go.Proofs.Tryz renaming prog → nH
open Go renaming World → nJ
section
open Hd
theorem MG(k:cH)(d:cU)(l:bL)(hl:l.length<=1000)(hv:aG d.ax=true)(hr:di l=.none)(B:Nat)(w:nJ)(hT:aI B w k.ax d.ax)[hB:Le B w](hO:dG w k.oA k.oc d.aB):Calls nH 34 #[gr k d,.string (str l)] w (eF k d w (dF d l)):=by
 have HX:Hid (dF d l=(d,CC)):=by unfold Hid dF;rw[hr]
 refine QDY ?_;intro HL HV HT HO HR;clear hl hv hT hO hr;go_enter Tryz.func34,Tryz.ntmps34;go_upto_region 1 with fail;refine QAT ?_;intro W1 aE cz de cN cY dc dX b1 b2;clear aE;go_upto_region 2 with(first|(go_at_call 88;refine(nD l HL.out _).mono ?_;rw[HR.out];rintro e w1 ⟨v,δ1,rfl,rfl,hx⟩;obtain rfl:v=_:=hx)|(refine ah cR rfl _ _ rfl rfl rfl (av.new (T:=161) rfl) rfl rfl (by simp[Value.oneCell']) ?_;intro W2 L2 kg));refine QAJ ?_;intro g1 g2 q1 q2 q3 q4 q5 D2 R2;refine QEB ?_;intro g hg;rw[hg] at g1 g2 L2 ⊢;refine QDX ?_;intro L2 ld lr lg;have y0:W2.cell? ⟨g,0,none⟩=some (.int .i64 (0)):=L2.out.cell (i:=0) rfl;have gg:=qh g2;clear b1 b2 kg g1 g2;go_upto_region 27 with fail;go_wp2_with (first|(refine aj bQ rfl _ rfl rfl D2.out rfl ?_)|(refine ah bQ rfl _ _ rfl rfl rfl R2.out rfl rfl (cO _ _) ?_;intro W9 C9 k9));refine QAR ?_;intro p1 p2;refine QDB ?_;exact iK (k:=k) (d:=d) (w:=w) (W:=W9) (x:=dF d l) (k':=k) (d':=d) (by rw[HX.out]) (by first|(rw[HX.out];done)|(rw[HX.out];rfl)) (cC.refl) (HO.out.wide)
end
section
open Hd
theorem Gf(k:cH)(d:cU)(l:bL)(hl:l.length<=1000)(hv:aG d.ax=true)(c:eH)(hr:di l=.cmd c)(hk:cP c.w=1)(B:Nat)(w:nJ)(hT:aI B w k.ax d.ax)[hB:Le B w](hO:dG w k.oA k.oc d.aB):Calls nH 34 #[gr k d,.string (str l)] w (eF k d w (dF d l)):=by
 have hw:=o7 hr;have NJ:((cP c.w:Nat):Int)=1:=by rw[hk];rfl
 have HX:Hid (dF d l=(⟨kf d.ax c,d.aB,d.given⟩,sV (gZ d.ax c).isSome)):=by unfold Hid dF;rw[hr];simp only[];rw[if_pos hk]
 refine QDY ?_;intro HL HV HT HO HR;clear hl hv hT hO hr;go_enter Tryz.func34,Tryz.ntmps34;go_upto_region 1 with fail;refine QAT ?_;intro W1 aE cz de cN cY dc dX b1 b2;clear aE;go_upto_region 2 with(first|(go_at_call 88;refine(nD l HL.out _).mono ?_;rw[HR.out];rintro e w1 ⟨v,δ1,rfl,rfl,hx⟩;obtain⟨A,cap,rfl,hS⟩:=hx;rw[NJ])|(refine ah cR rfl _ _ rfl rfl rfl (av.new (T:=161) rfl) rfl rfl (by simp[Value.oneCell']) ?_;intro W2 L2 kg));refine QAJ ?_;intro g1 g2 q1 q2 q3 q4 q5 D2 R2;refine QEN ?_;intro HS;clear hS;refine QEB ?_;intro g hg;rw[hg] at g1 g2 L2 ⊢;refine QDX ?_;intro L2 ld lr lg;have y0:W2.cell? ⟨g,0,none⟩=some (.int .i64 (1)):=L2.out.cell (i:=0) rfl;have gg:=qh g2;have lw:Le W2.heap.size W2:=⟨nR _⟩;have HC:Hid (Calls nH 89 #[aX k.ax d.ax,.agg #[.int .i64 1,.string (str (cJ c.w)),.slice A c.a.length cap]] W2 (fS k.ax d.ax c W2)):=qh (xh k.ax d.ax HV.out c hk hw.1 _ W2.heap.size W2 HT.out.wide ⟨A,cap,by rw[NJ],HS.out⟩);unfold fS at HC;refine QDR ?_;intro td Aj bb gH;rw[Aj,gH] at HC;rw[Aj,gH] at HX;clear Aj gH HS hw NJ hk b1 b2 kg g1 g2;go_upto_region 5 with(first|(refine bY (cs':=aF k.ax d.ax) ak rfl _ rfl rfl D2.out (eo k d) rfl ?_)|(refine bY (cs':=#[.int .i64 1,.string (str (cJ c.w)),.slice A c.a.length cap]) rowWords rfl _ rfl rfl L2.out rfl rfl ?_)|(go_at_call 89;refine HC.out.mono ?_;rintro e w1 ⟨r',δ2,rfl,rfl,NY⟩)|(refine ah ak rfl _ _ rfl rfl rfl (av.new (T:=39) rfl) rfl rfl (aJ _ _) ?_;intro W3 T3 k3));have g3:W2.heap.size<=(af W2 δ2).heap.size:=(inferInstance:Le W2.heap.size (af W2 δ2)).out;have u2:aC w.heap.size w W3:=bP k3 (nT q4.out g3);have u4:Le w.heap.size W3:=cK k3;have D3:Hid (av W3 w.heap.size 53 (bX k d)):=qh (((D2.out.af _).alloc _).eG k3 (Nat.ne_of_lt (nL ld.out g3)));have R3:Hid (av W3 (w.heap.size+1) 53 (bX kP kQ)):=qh (((R2.out.af _).alloc _).eG k3 (Nat.ne_of_lt (nL lr.out g3)));have T3:=qh T3;have Wf:Hid (cC k.ax d.ax w r' td W3):=qh (((NY.up (W':=(af W2 δ2).alloc _)).aO k3 (av.new rfl) nU).from_ q4.out);clear D2 R2 NY k3;go_upto_region 6 with(first|(refine aj ak rfl _ rfl rfl T3.out rfl ?_)|(refine lJ ak rfl _ _ rfl rfl rfl D3.out rfl (yq k d) (aJ _ _) (yp k d r' td) ?_;intro W4 D4 k4));have D4:=qh D4;have R4:Hid (av W4 (w.heap.size+1) 53 (bX kP kQ)):=qh (R3.out.eG k4 nQ);have u5:aC w.heap.size w W4:=bP k4 (nR _);have u6:Le w.heap.size W4:=cK k4;have YP:Hid (cC k.ax d.ax w r' td W4):=qh (Wf.out.aO k4 D3.out nU);clear D3 R3 T3 Wf k4;refine wp_region_held (S:=fun W=>av W w.heap.size 53 (bX ⟨r',k.oA,k.oc⟩ ⟨td,d.aB,d.given⟩)) nP ?_;change wpAnyH _ _ _ _ _ _ _ _ (World.drew _);refine gJ 0 (gr ⟨r',k.oA,k.oc⟩ ⟨td,d.aB,d.given⟩) rfl nP (gx bQ nY _ rfl rfl (fun _ h=>h) rfl) (D4.out) ?_;refine QAI ?_;refine wpH_tq 1 (.bool bb) (D4.out) ?_;refine QAI ?_;refine wpAnyH_all (rs:=[2]) nP nV ?_;intro i hi;obtain rfl:=List.mem_singleton.1 hi;refine QAE ?_;refine(Mx bb _).mono ?_;rintro e w1 ⟨rfl,δ22,rfl⟩;refine⟨D4.out.drew.af _,?_⟩;refine QAI ?_;refine wpAnyH_all (rs:=[3]) nP nV ?_;intro i hi;obtain rfl:=List.mem_singleton.1 hi;refine QBB ?_;refine kF bQ _ _ rfl rfl rfl (R4.out.drew.af _) rfl rfl (cO _ _) ?_;intro W9 C9 k9;refine⟨(D4.out.drew.af _).eG k9 nQ,?_⟩;refine QAI ?_;refine wpH_tq 4 (.string (str (sV bb))) ((D4.out.drew.af _).eG k9 nQ) ?_;refine QAI ?_;refine wpAnyH_done nP ?_ _;go_wp2_with fail;refine QAR ?_;intro p1 p2;refine QDB ?_;exact iK (k:=k) (d:=d) (w:=w) (W:=W9) (x:=dF d l) (k':=⟨r',k.oA,k.oc⟩) (d':=⟨td,d.aB,d.given⟩) (by rw[HX.out]) (by first|(rw[HX.out];done)|(rw[HX.out];rfl)) ((YP.out.Wz.up).aO k9 (R4.out.drew.af _) nU) (HO.out.wide)
end
section
open Hd
theorem Ql(k:cH)(d:cU)(l:bL)(hl:l.length<=1000)(hv:aG d.ax=true)(c:eH)(hr:di l=.cmd c)(hk:cP c.w=2)(B:Nat)(w:nJ)(hT:aI B w k.ax d.ax)[hB:Le B w](hO:dG w k.oA k.oc d.aB):Calls nH 34 #[gr k d,.string (str l)] w (eF k d w (dF d l)):=by
 have hw:=o7 hr;have NJ:((cP c.w:Nat):Int)=2:=by rw[hk];rfl
 have HX:Hid (dF d l=(d,nt d.ax c)):=by unfold Hid dF;rw[hr];simp only[];rw[if_neg nQ,if_neg nQ]
 refine QDY ?_;intro HL HV HT HO HR;clear hl hv hT hO hr;go_enter Tryz.func34,Tryz.ntmps34;go_upto_region 1 with fail;refine QAT ?_;intro W1 aE cz de cN cY dc dX b1 b2;clear aE;go_upto_region 2 with(first|(go_at_call 88;refine(nD l HL.out _).mono ?_;rw[HR.out];rintro e w1 ⟨v,δ1,rfl,rfl,hx⟩;obtain⟨A,cap,rfl,hS⟩:=hx;rw[NJ])|(refine ah cR rfl _ _ rfl rfl rfl (av.new (T:=161) rfl) rfl rfl (by simp[Value.oneCell']) ?_;intro W2 L2 kg));refine QAJ ?_;intro g1 g2 q1 q2 q3 q4 q5 D2 R2;refine QEN ?_;intro HS;clear hS;refine QEB ?_;intro g hg;rw[hg] at g1 g2 L2 ⊢;refine QDX ?_;intro L2 ld lr lg;have y0:W2.cell? ⟨g,0,none⟩=some (.int .i64 (2)):=L2.out.cell (i:=0) rfl;have gg:=qh g2;have lw:Le W2.heap.size W2:=⟨nR _⟩;have HC:=qh (C7 k.ax d.ax HV.out c hk hw.1 _ W2.heap.size W2 HT.out.wide (⟨A,cap,rfl,HS.out⟩:dL W2.heap.size W2 (.agg #[.int .i64 (cP c.w:Nat),.string (str (cJ c.w)),.slice A c.a.length cap]) (some c)));rw[NJ] at HC;have HB:=qh (Iq HV.out c);have HA:Hid (nt d.ax c=lT (eR d.ax c).2 (Lib.itoa (eR d.ax c).1)):=by unfold Hid nt;rw[if_neg nQ]
 obtain⟨x,er,hx⟩:∃x e,eR d.ax c=(x,e):=⟨_,_,rfl⟩;rw[hx] at HC HB HA;obtain⟨tx,fM⟩:∃t,Lib.itoa x=t:=⟨_,rfl⟩;have Js:=qh fM;have EM:Hid (-10000<=x/\x<=1000000):=qh (by have:=HB.out;simp only[] at this;omega);simp only[fM] at HA;clear hx fM HB HS hw NJ hk b1 b2 kg g1 g2;go_upto_region 9 with(first|(refine bY (cs':=aF k.ax d.ax) ak rfl _ rfl rfl D2.out (eo k d) rfl ?_)|(refine bY (cs':=#[.int .i64 2,.string (str (cJ c.w)),.slice A c.a.length cap]) rowWords rfl _ rfl rfl L2.out rfl rfl ?_)|(go_at_call 91;refine HC.out.mono ?_;rintro e w1 ⟨rfl,δ2,rfl⟩));refine QEA ?_;intro g3 D3 R3;refine wp_region_held (S:=fun W=>av W w.heap.size 53 (bX k d)) nP ?_;change wpAnyH _ _ _ _ _ _ _ _ (World.drew _);refine gJ 0 (gr k d) rfl nP (gx bQ nY _ rfl rfl (fun _ h=>h) rfl) (D3.out) ?_;refine QAI ?_;refine wpH_tq 1 (.int .i64 er) (D3.out) ?_;refine QAI ?_;refine wpH_tq 2 (.int .i64 x) (D3.out) ?_;refine QAI ?_;refine wpAnyH_all (rs:=[3]) nP nV ?_;intro i hi;obtain rfl:=List.mem_singleton.1 hi;refine QAE ?_;refine(wz x EM.out tx Js.out _).mono ?_;rintro e w1 ⟨rfl,δ23,rfl⟩;refine⟨D3.out.drew.af _,?_⟩;refine QAI ?_;refine wpAnyH_all (rs:=[4]) nP nV ?_;intro i hi;obtain rfl:=List.mem_singleton.1 hi;refine QAE ?_;refine(zU er tx _).mono ?_;rintro e w1 ⟨rfl,δ24,rfl⟩;refine⟨(D3.out.drew.af _).af _,?_⟩;refine QAI ?_;refine wpAnyH_all (rs:=[5]) nP nV ?_;intro i hi;obtain rfl:=List.mem_singleton.1 hi;refine QBB ?_;refine kF bQ _ _ rfl rfl rfl ((R3.out.drew.af _).af _) rfl rfl (cO _ _) ?_;intro W9 C9 k9;refine⟨((D3.out.drew.af _).af _).eG k9 nQ,?_⟩;refine QAI ?_;refine wpH_tq 6 (.string (str (lT er tx))) (((D3.out.drew.af _).af _).eG k9 nQ) ?_;refine QAI ?_;refine wpAnyH_done nP ?_ _;go_wp2_with fail;refine QAR ?_;intro p1 p2;refine QDB ?_;exact iK (k:=k) (d:=d) (w:=w) (W:=W9) (x:=dF d l) (k':=k) (d':=d) (by rw[HX.out]) (by first|(rw[HX.out];done)|(rw[HX.out];show _=str (nt d.ax c);rw[HA.out])) (cC.refl) (HO.out.wide)
end
section
open Hd
theorem MH(k:cH)(d:cU)(l:bL)(hl:l.length<=1000)(hv:aG d.ax=true)(c:eH)(hr:di l=.cmd c)(hk:cP c.w=3)(B:Nat)(w:nJ)(hT:aI B w k.ax d.ax)[hB:Le B w](hO:dG w k.oA k.oc d.aB):Calls nH 34 #[gr k d,.string (str l)] w (eF k d w (dF d l)):=by
 have hw:=o7 hr;have NJ:((cP c.w:Nat):Int)=3:=by rw[hk];rfl
 have HX:Hid (dF d l=(d,nt d.ax c)):=by unfold Hid dF;rw[hr];simp only[];rw[if_neg nQ,if_neg nQ]
 refine QDY ?_;intro HL HV HT HO HR;clear hl hv hT hO hr;go_enter Tryz.func34,Tryz.ntmps34;go_upto_region 1 with fail;refine QAT ?_;intro W1 aE cz de cN cY dc dX b1 b2;clear aE;go_upto_region 2 with(first|(go_at_call 88;refine(nD l HL.out _).mono ?_;rw[HR.out];rintro e w1 ⟨v,δ1,rfl,rfl,hx⟩;obtain⟨A,cap,rfl,hS⟩:=hx;rw[NJ])|(refine ah cR rfl _ _ rfl rfl rfl (av.new (T:=161) rfl) rfl rfl (by simp[Value.oneCell']) ?_;intro W2 L2 kg));refine QAJ ?_;intro g1 g2 q1 q2 q3 q4 q5 D2 R2;refine QEN ?_;intro HS;clear hS;refine QEB ?_;intro g hg;rw[hg] at g1 g2 L2 ⊢;refine QDX ?_;intro L2 ld lr lg;have y0:W2.cell? ⟨g,0,none⟩=some (.int .i64 (3)):=L2.out.cell (i:=0) rfl;have gg:=qh g2;have lw:Le W2.heap.size W2:=⟨nR _⟩;have HC:=qh (JS k.ax d.ax HV.out c hk _ W2.heap.size W2 HT.out.wide (⟨A,cap,rfl,HS.out⟩:dL W2.heap.size W2 (.agg #[.int .i64 (cP c.w:Nat),.string (str (cJ c.w)),.slice A c.a.length cap]) (some c)));rw[NJ] at HC;have HF:=qh (BK HV.out c);have HA:Hid (nt d.ax c=lT (pU d.ax c).2 (o6 (pU d.ax c).1)):=by unfold Hid nt;rw[if_pos hk]
 obtain⟨x,er,hx⟩:∃x e,pU d.ax c=(x,e):=⟨_,_,rfl⟩;rw[hx] at HC HF HA;obtain⟨tx,fM⟩:∃t,o6 x=t:=⟨_,rfl⟩;have Js:Hid (∀(A:Option Addr) (c B:Nat) (w:nJ),Sl aH B w A c x->Le B w->Calls nH 95 #[.slice A x.length c] w fun e w'=>e=.returned (.string (str tx))/\∃δ,w'=af w δ):=qh fun A c B w h i=>by have:=Qf x HF.out A c B w h;rw[fM] at this;exact this
 simp only[fM] at HA;clear hx fM HF HS hw NJ hk b1 b2 kg g1 g2;go_upto_region 12 with(first|(refine bY (cs':=aF k.ax d.ax) ak rfl _ rfl rfl D2.out (eo k d) rfl ?_)|(refine bY (cs':=#[.int .i64 3,.string (str (cJ c.w)),.slice A c.a.length cap]) rowWords rfl _ rfl rfl L2.out rfl rfl ?_)|(go_at_call 94;refine HC.out.mono ?_;rintro e w1 ⟨lA,ln,lc,δ2,rfl,rfl,rfl,ya⟩;have si:=qh ya;clear ya));refine QEA ?_;intro g3 D3 R3;refine wp_region_held (S:=fun W=>av W w.heap.size 53 (bX k d)) nP ?_;change wpAnyH _ _ _ _ _ _ _ _ (World.drew _);refine gJ 0 (gr k d) rfl nP (gx bQ nY _ rfl rfl (fun _ h=>h) rfl) (D3.out) ?_;refine QAI ?_;refine wpH_tq 1 (.int .i64 er) (D3.out) ?_;refine QAI ?_;refine wpH_tq 2 (.slice lA x.length lc) (D3.out) ?_;refine QAI ?_;refine wpAnyH_all (rs:=[3]) nP nV ?_;intro i hi;obtain rfl:=List.mem_singleton.1 hi;refine QAE ?_;refine(Js.out lA lc (af W2 δ2).heap.size _ si.out.up inferInstance).mono ?_;rintro e w1 ⟨rfl,δ23,rfl⟩;refine⟨D3.out.drew.af _,?_⟩;refine QAI ?_;refine wpAnyH_all (rs:=[4]) nP nV ?_;intro i hi;obtain rfl:=List.mem_singleton.1 hi;refine QAE ?_;refine(zU er tx _).mono ?_;rintro e w1 ⟨rfl,δ24,rfl⟩;refine⟨(D3.out.drew.af _).af _,?_⟩;refine QAI ?_;refine wpAnyH_all (rs:=[5]) nP nV ?_;intro i hi;obtain rfl:=List.mem_singleton.1 hi;refine QBB ?_;refine kF bQ _ _ rfl rfl rfl ((R3.out.drew.af _).af _) rfl rfl (cO _ _) ?_;intro W9 C9 k9;refine⟨((D3.out.drew.af _).af _).eG k9 nQ,?_⟩;refine QAI ?_;refine wpH_tq 6 (.string (str (lT er tx))) (((D3.out.drew.af _).af _).eG k9 nQ) ?_;refine QAI ?_;refine wpAnyH_done nP ?_ _;go_wp2_with fail;refine QAR ?_;intro p1 p2;refine QDB ?_;exact iK (k:=k) (d:=d) (w:=w) (W:=W9) (x:=dF d l) (k':=k) (d':=d) (by rw[HX.out]) (by first|(rw[HX.out];done)|(rw[HX.out];show _=str (nt d.ax c);rw[HA.out])) (cC.refl) (HO.out.wide)
end
section
open Hd
theorem MI(k:cH)(d:cU)(l:bL)(hl:l.length<=1000)(hv:aG d.ax=true)(q c:eH)(s:UInt8)(n:Int)(hr:di l=.ord q s n c)(h5:d.aB.length=5)(B:Nat)(w:nJ)(hT:aI B w k.ax d.ax)[hB:Le B w](hO:dG w k.oA k.oc d.aB):Calls nH 34 #[gr k d,.string (str l)] w (eF k d w (dF d l)):=by
 have HX:Hid (dF d l=(d,LQ)):=by unfold Hid dF;rw[hr];simp only[];rw[if_pos h5]
 refine QDY ?_;intro HL HV HT HO HR;clear hl hv hT hO hr;go_enter Tryz.func34,Tryz.ntmps34;go_upto_region 1 with fail;refine QAT ?_;intro W1 aE cz de cN cY dc dX b1 b2;clear aE;go_upto_region 2 with(first|(go_at_call 88;refine(nD l HL.out _).mono ?_;rw[HR.out];rintro e w1 ⟨v,δ1,rfl,rfl,hx⟩;obtain⟨A,cap,A',cap',rfl,hS,Wh⟩:=hx)|(refine ah cR rfl _ _ rfl rfl rfl (av.new (T:=161) rfl) rfl rfl (by simp[Value.oneCell']) ?_;intro W2 L2 kg));refine QAJ ?_;intro g1 g2 q1 q2 q3 q4 q5 D2 R2;refine QEB ?_;intro g hg;rw[hg] at g1 g2 L2 ⊢;refine QDX ?_;intro L2 ld lr lg;have y0:W2.cell? ⟨g,0,none⟩=some (.int .i64 (4)):=L2.out.cell (i:=0) rfl;have gg:=qh g2;clear b1 b2 kg g1 g2;refine QFP ?_;intro EW;have YZ:(d.aB.length:Int)=5:=nQ;go_upto_region 15 with fail;go_wp2_with (first|(refine aj bQ rfl _ rfl rfl D2.out rfl ?_)|(refine ah bQ rfl _ _ rfl rfl rfl R2.out rfl rfl (cO _ _) ?_;intro W9 C9 k9));refine QAR ?_;intro p1 p2;refine QDB ?_;exact iK (k:=k) (d:=d) (w:=w) (W:=W9) (x:=dF d l) (k':=k) (d':=d) (by rw[HX.out]) (by first|(rw[HX.out];done)|(rw[HX.out];rfl)) (cC.refl) (HO.out.wide)
theorem uS{c:Bool}{A E:Prop}(hc:c=true)(h:if c=true then A else E):A:=by rw[if_pos hc] at h;exact h
theorem MF(k:cH)(d:cU)(l:bL)(hl:l.length<=1000)(hv:aG d.ax=true)(YE:d.given<=1000)(q c:eH)(s:UInt8)(n:Int)(hr:di l=.ord q s n c)(h5:d.aB.length<5)(B:Nat)(w:nJ)(hT:aI B w k.ax d.ax)[hB:Le B w](hO:dG w k.oA k.oc d.aB):Calls nH 34 #[gr k d,.string (str l)] w (eF k d w (dF d l)):=by
 have HX:Hid (dF d l=(⟨d.ax,d.aB++[⟨d.given,l⟩],d.given+1⟩,LP)):=by unfold Hid dF;rw[hr];simp only[];rw[if_neg nQ]
 refine QDY ?_;intro HL HV HT HO HR;clear hl hv hT hO hr;go_enter Tryz.func34,Tryz.ntmps34;go_upto_region 1 with fail;refine QAT ?_;intro W1 aE cz de cN cY dc dX b1 b2;clear aE;go_upto_region 2 with(first|(go_at_call 88;refine(nD l HL.out _).mono ?_;rw[HR.out];rintro e w1 ⟨v,δ1,rfl,rfl,hx⟩;obtain⟨A,cap,A',cap',rfl,hS,Wh⟩:=hx)|(refine ah cR rfl _ _ rfl rfl rfl (av.new (T:=161) rfl) rfl rfl (by simp[Value.oneCell']) ?_;intro W2 L2 kg));refine QAJ ?_;intro g1 g2 q1 q2 q3 q4 q5 D2 R2;refine QEB ?_;intro g hg;rw[hg] at g1 g2 L2 ⊢;refine QDX ?_;intro L2 ld lr lg;have y0:W2.cell? ⟨g,0,none⟩=some (.int .i64 (4)):=L2.out.cell (i:=0) rfl;have gg:=qh g2;clear b1 b2 kg g1 g2;refine QFP ?_;intro EW;have c15:W2.cell? ⟨w.heap.size,15,none⟩=some (.int .i64 (d.given:Nat)):=D2.out.cell rfl;have fr14:=D2.out.free 14;have YZ:((d.aB.length:Int)==5)=false:=by simp;omega
 have h5n:(d.aB.length==5)=false:=by simp;omega
 have hwr:IntKind.i64.wrap ((d.given:Int)+1)=((d.given+1:Nat):Int):=by rw[IntWalk.i64_in _ nQ];omega
 have jn1:mw w.heap.size W2.heap.size:=⟨q4.out⟩;have jn2:mw B W2.heap.size:=⟨q3.out⟩;have Xa:Hid ((d.aB.flatMap kz).length=d.aB.length*2):=qh (cg kz 2 qR _);go_upto_region 16 with fail;refine eI (S:=fun W=>av W w.heap.size 53 (bX k d)) (N:=[11]) nP ?_;change wpAnyS _ _ _ _ _ _ _ _ _ (World.drew _);refine wpS_pq 1 (.pointer (some ⟨w.heap.size,14,none⟩)) (fun _=>D2.out.drew) ?_;refine QAI ?_;refine gI 2 (.slice k.oA d.aB.length k.oc) rfl nP (Or.inl ⟨nY,by intro w5 h5;have e:=av.cell h5 (i:=14) (v:=.slice k.oA d.aB.length k.oc) rfl;go_simp⟩) (D2.out.drew) ?_;refine QAI ?_;refine wpS_pq 4 (.pointer (some ⟨w.heap.size,15,none⟩)) (fun _=>D2.out.drew) ?_;refine QAI ?_;refine gI 5 (.int .i64 (d.given:Nat)) rfl nP (Or.inl ⟨nY,by intro w5 h5;have e:=av.cell h5 (i:=15) (v:=.int .i64 (d.given:Nat)) rfl;go_simp⟩) (D2.out.drew) ?_;refine QAI ?_;refine wpS_pq 6 (.string (str l)) (fun _=>D2.out.drew) ?_;refine QAI ?_;refine wpS_pq 7 (.agg #[.int .i64 (d.given:Nat),.string (str l)]) (fun _=>D2.out.drew) ?_;refine QAI ?_;refine aU (rs:=[0,8]) (by decide +kernel) nV ?_;intro i hi;simp only[List.mem_cons,List.not_mem_nil,or_false] at hi;rcases hi with rfl|rfl;all_goals refine QBB ?_;unfold Oper.wp;go_simp;refine⟨fun _=>av.eA D2.out,?_⟩;try simp only[Act.put,List.getElem_toArray,List.getElem_cons_succ,List.getElem_cons_zero,List.setIfInBounds_toArray,List.set_cons_zero,List.set_cons_succ]
 all_goals first|(refine aU (rs:=[3,8]) (by decide +kernel) nV ?_;intro i hi;simp only[List.mem_cons,List.not_mem_nil,or_false] at hi;rcases hi with rfl|rfl)|(refine aU (rs:=[0]) (by decide +kernel) nV ?_;intro i hi;obtain rfl:=List.mem_singleton.1 hi)
 all_goals refine QBB ?_;first|(refine uS (E:=True) nY (fh (ops:=#[]) W2 Vg (.tmp 70) (.tmp 72) rfl rfl (v:=.slice (some ⟨_,0,none⟩) 0 0) (by first|exact cx (by go_simp;done) (by go_simp;done)|exact(cx (by go_simp;done) (by go_simp;done)).alloc _) rfl (B:=w.heap.size) (A:=k.oA) (m:=d.aB.length) (c:=k.oc) (news:=d.aB.flatMap kz) rfl ((HO.out.plain).up.2.2) Xa.out (dS kz tL _) nQ nQ ?_);intro A1 c1 δ1' ei hg1;refine⟨fun _=>av.eA D2.out,?_⟩;try simp only[Act.put,List.getElem_toArray,List.getElem_cons_succ,List.getElem_cons_zero,List.setIfInBounds_toArray,List.set_cons_zero,List.set_cons_succ])|(unfold Oper.wp;go_simp;refine⟨fun _=>av.eA D2.out,?_⟩;try simp only[Act.put,List.getElem_toArray,List.getElem_cons_succ,List.getElem_cons_zero,List.setIfInBounds_toArray,List.set_cons_zero,List.set_cons_succ])
 all_goals first|(refine aU (rs:=[8]) (by decide +kernel) nV ?_;intro i hi;obtain rfl:=List.mem_singleton.1 hi)|(refine aU (rs:=[3]) (by decide +kernel) nV ?_;intro i hi;obtain rfl:=List.mem_singleton.1 hi)
 all_goals refine QBB ?_;first|(refine uS (E:=True) nY (fh (ops:=#[]) W2 Vg (.tmp 70) (.tmp 72) rfl rfl (v:=.slice (some ⟨_,0,none⟩) 0 0) (by first|exact cx (by go_simp;done) (by go_simp;done)|exact(cx (by go_simp;done) (by go_simp;done)).alloc _) rfl (B:=w.heap.size) (A:=k.oA) (m:=d.aB.length) (c:=k.oc) (news:=d.aB.flatMap kz) rfl ((HO.out.plain).up.2.2) Xa.out (dS kz tL _) nQ nQ ?_);intro A1 c1 δ1' ei hg1;refine⟨fun _=>av.eA D2.out,?_⟩;try simp only[Act.put,List.getElem_toArray,List.getElem_cons_succ,List.getElem_cons_zero,List.setIfInBounds_toArray,List.set_cons_zero,List.set_cons_succ])|(unfold Oper.wp;go_simp;refine⟨fun _=>av.eA D2.out,?_⟩;try simp only[Act.put,List.getElem_toArray,List.getElem_cons_succ,List.getElem_cons_zero,List.setIfInBounds_toArray,List.set_cons_zero,List.set_cons_succ])
 all_goals refine aU (rs:=[9]) (by decide +kernel) nV ?_;intro i hi;obtain rfl:=List.mem_singleton.1 hi;refine QBB ?_;refine uS (E:=True) nY (cQ (ops:=#[]) W2 Vg (.tmp 73) (.tmp 78) rfl rfl (v:=.slice A1 d.aB.length c1) (n:=d.aB.length) (xs:=d.aB.flatMap kz) (by first|exact ei|exact ei.alloc _) rfl (m:=1) (c:=1) (news:=kz ⟨d.given,l⟩) rfl (by first|exact fZ rfl|(have hl:=No rfl hg1 (by simp[Value.ownBlock]);exact hl)|(have hl:=Kz rfl hg1 (by simp[Value.ownBlock]);exact hl)) rfl (tL _) nQ nQ ?_);intro A2 c2 δ2 gM kC;refine⟨fun _=>av.eA D2.out,?_⟩;try simp only[Act.put,List.getElem_toArray,List.getElem_cons_succ,List.getElem_cons_zero,List.setIfInBounds_toArray,List.set_cons_zero,List.set_cons_succ]
 all_goals refine wpS_pq 10 (.pointer (some ⟨w.heap.size,14,none⟩)) (fun _=>av.eA D2.out) ?_;refine QAI ?_;refine aU (rs:=[11]) (by decide +kernel) nV ?_;intro i hi;obtain rfl:=List.mem_singleton.1 hi;refine QAE ?_;refine⟨fun h=>absurd h nU,?_⟩;refine QAI ?_;refine eJ nP ?_ _
 all_goals
  go_upto_region 17 with fail;refine QBM ?_;intro W3 bN q8 vD;have D3:Hid (av W3 w.heap.size 53 (bX ⟨k.ax,A2,c2⟩ ⟨d.ax,d.aB++[⟨d.given,l⟩],d.given⟩)):=by rw[bN.out,Hp];exact qh (av.set (av.eA D2.out) 14 _)
  have R3:Hid (av W3 (w.heap.size+1) 53 (bX kP kQ)):=by rw[bN.out];exact qh (av.eZ (av.eA R2.out) (by show w.heap.size+1≠w.heap.size;omega) _)
  have O3:Hid (dG W3 A2 c2 (d.aB++[⟨d.given,l⟩])):=by rw[bN.out];exact qh (MM (ownsRow_setCell_below gM (a:=⟨w.heap.size,14,none⟩) ld.out _))
  have ado:W3.cell? ⟨w.heap.size,15,none⟩=some (.int .i64 (d.given:Nat)):=D3.out.cell rfl;have fr15:=D3.out.free 15;have lD3:=D3.out.lt;clear ei gM hg1 kC bN;go_upto_region 18 with fail;refine aK fun W4 gP=>?_;have p8:aC w.heap.size w W4:=iC gP;have p10:Le w.heap.size W4:=fR gP;have D4:Hid (av W4 w.heap.size 53 (bX ⟨k.ax,A2,c2⟩ ⟨d.ax,d.aB++[⟨d.given,l⟩],d.given+1⟩)):=by rw[gP.out];exact qh (D3.out.set 15 _)
  have R4:Hid (av W4 (w.heap.size+1) 53 (bX kP kQ)):=by rw[gP.out];exact qh (R3.out.eZ (by show w.heap.size+1≠w.heap.size;omega) _)
  have O4:Hid (dG W4 A2 c2 (d.aB++[⟨d.given,l⟩])):=by rw[gP.out];exact qh (O3.out.aO ((bw.refl (fun x=>x=w.heap.size) W3).set (b:=w.heap.size) rfl 15 _) D3.out nU (nR _))
  clear gP D3 R3 O3;go_wp2_with (first|(refine aj bQ rfl _ rfl rfl D4.out rfl ?_)|(refine ah bQ rfl _ _ rfl rfl rfl R4.out rfl rfl (cO _ _) ?_;intro W9 C9 k9));refine QAR ?_;intro p1 p2;refine QDB ?_;exact iK (k:=k) (d:=d) (w:=w) (W:=W9) (x:=dF d l) (k':=⟨k.ax,A2,c2⟩) (d':=⟨d.ax,d.aB++[⟨d.given,l⟩],d.given+1⟩) (by rw[HX.out]) (by first|(rw[HX.out];done)|(rw[HX.out];rfl)) (cC.refl) (O4.out.aO k9 R4.out nU (nR _))
end
section
open Hd
theorem Ge(k:cH)(d:cU)(l:bL)(hl:l.length<=1000)(hv:aG d.ax=true)(h5:d.aB.length<=5)(x:Int)(hr:di l=.cmd ⟨.forget,[x]⟩)(B:Nat)(w:nJ)(hT:aI B w k.ax d.ax)[hB:Le B w](hO:dG w k.oA k.oc d.aB):Calls nH 34 #[gr k d,.string (str l)] w (eF k d w (dF d l)):=by
 have HX:Hid (dF d l=(match d.aB.findIdx? (fun o=>decide ((o.num:Int)=x)) with|none=>(d,LQ)|some i=>(⟨d.ax,d.aB.eraseIdx i,d.given⟩,LP))):=by unfold Hid dF;rw[hr];simp only[];rw[if_neg (by show ¬cP .forget=1;decide),if_pos (by show cP .forget=5;decide)];rfl
 refine QDY ?_;intro HL HV HT HO HR;clear hl hv hT hO hr;go_enter Tryz.func34,Tryz.ntmps34;go_upto_region 1 with fail;refine QAT ?_;intro W1 aE cz de cN cY dc dX b1 b2;clear aE;go_upto_region 2 with(first|(go_at_call 88;refine(nD l HL.out _).mono ?_;rw[HR.out];rintro e w1 ⟨v,δ1,rfl,rfl,hx⟩;obtain⟨A,cap,rfl,hS⟩:=hx;rw[show((cP (eH.mk .forget [x]).w:Nat):Int)=5 from rfl];obtain⟨tw,htw⟩:∃t,cJ (eH.mk .forget [x]).w=t:=⟨_,rfl⟩;rw[htw])|(refine ah cR rfl _ _ rfl rfl rfl (av.new (T:=161) rfl) rfl rfl (by simp[Value.oneCell']) ?_;intro W2 L2 kg));refine QAJ ?_;intro g1 g2 q1 q2 q3 q4 q5 D2 R2;have HS:Hid (fm 3 aH W2.heap.size W2 A cap [x]):=qh ((hS.up (w':=(af W1 δ1).alloc _)).aO kg (av.new rfl) nU nV);clear hS;refine QEB ?_;intro g hg;rw[hg] at g1 g2 L2 ⊢;refine QDX ?_;intro L2 ld lr lg;have y0:W2.cell? ⟨g,0,none⟩=some (.int .i64 (5)):=L2.out.cell (i:=0) rfl;have gg:=qh g2;clear b1 b2 kg g1 g2;obtain⟨la,lo,hA,hlb,dx⟩:=HS.out.plain.int (k:=0) nV;have ilb:Lt la W2:=⟨hlb⟩;have dx:W2.cell? ⟨la,lo,none⟩=some (.int .i64 x):=dx;have z3:W2.cell? ⟨g,3,none⟩=some (.slice (some ⟨la,lo,none⟩) 1 cap):=by rw[<-hA];exact L2.out.cell rfl
 refine QFP ?_;intro EW;have fr14:=D2.out.free 14;have zb:Hid (dG W2 k.oA k.oc d.aB):=qh HO.out.wide;clear hA hlb HS;go_upto_region 21 with fail;go_loopg [13] d.aB.length (fun gn i wr=>∃(j:Nat) (δ:nJ),j<=d.aB.length/\gn=d.aB.length-j/\i=.int .i64 j/\wr=af W2 δ/\Hid (∀m,m<j->((nth d.aB m).num:Int)≠x))
 case atStart=>exact⟨0,W2,nE _,rfl,rfl,(aY W2).symm,qh fun m hm=>absurd hm (Nat.not_lt_zero _)⟩
 case round=>
  obtain⟨j,δ,hj,rfl,rfl,rfl,HN⟩:=hrel;by_cases hlt:j<d.aB.length
  ·have hji:(j:Int)<(d.aB.length:Int):=nQ;have hj0:¬(j:Int)<0:=nQ;obtain⟨ob,oo,zq,yX,e0,e1⟩:=zb.out.plain.order hlt;have iob:Lt ob W2:=⟨yX⟩;rw[zq] at EW;obtain⟨nm,hnm⟩:∃v,(nth d.aB j).num=v:=⟨_,rfl⟩;rw[hnm] at e0;clear yX e1;by_cases hx:(nm:Int)=x
   ·have TF:((nm:Int)==x)=true:=by simp[hx]
    have WQ:Hid (dG W2 (some ⟨ob,oo,none⟩) k.oc d.aB):=by rw[<-zq];exact zb
    have h6:d.aB.length<=1000:=nQ;have Zt:Hid (dF d l=(⟨d.ax,d.aB.eraseIdx j,d.given⟩,LP)):=by unfold Hid;rw[HX.out,sN (j:=j) hlt (by simp[hnm,hx]) fun m hm=>by simpa using HN.out m hm]
    clear HX HN hx zq hnm;have HX:=Zt;go_upto_region 23 with fail;refine wpRl ?_;repeat (go_big_quiet_step ((first|(fail))))
    refine QBY ?_;rintro _ ⟨δq,rfl⟩;go_upto_region 25 with(go_at_call 96;refine(vA d.aB j hlt h6 (some ⟨ob,oo,none⟩) k.oc W2.heap.size _ WQ.out.plain.up).mono ?_;rintro e w1 ⟨A',c',δ',rfl,rfl,Wi⟩;have RL:=qh Wi;clear Wi);refine QBM ?_;intro W3 bN q8 vD;have D3:Hid (av W3 w.heap.size 53 (bX ⟨k.ax,A',c'⟩ ⟨d.ax,d.aB.eraseIdx j,d.given⟩)):=by rw[bN.out];exact qh (av.set (av.eA D2.out) 14 _)
    have R3:Hid (av W3 (w.heap.size+1) 53 (bX kP kQ)):=by rw[bN.out];exact qh (av.eZ (av.eA R2.out) (by show w.heap.size+1≠w.heap.size;omega) _)
    have O3:Hid (dG W3 A' c' (d.aB.eraseIdx j)):=by rw[bN.out];exact qh (RL.out.aO ((bw.refl (fun x=>x=w.heap.size) _).set (b:=w.heap.size) rfl 14 _) (av.eA D2.out) nU (nR _))
    clear RL bN;go_wp2_with (first|(refine aj bQ rfl _ rfl rfl D3.out rfl ?_)|(refine ah bQ rfl _ _ rfl rfl rfl R3.out rfl rfl (cO _ _) ?_;intro W9 C9 k9));refine QAR ?_;intro p1 p2;refine QDB ?_;exact iK (k:=k) (d:=d) (w:=w) (W:=W9) (x:=dF d l) (k':=⟨k.ax,A',c'⟩) (d':=⟨d.ax,d.aB.eraseIdx j,d.given⟩) (by rw[HX.out]) (by first|(rw[HX.out];done)|(rw[HX.out];rfl)) (cC.refl) (O3.out.aO k9 R3.out nU (nR _))
   ·have TF:((nm:Int)==x)=false:=by simp[hx]
    go_upto_region 23 with fail;refine wpRl ?_;repeat (go_big_quiet_step ((first|(fail))))
    refine QBY ?_;rintro _ ⟨δq,rfl⟩;go_wp2_with fail;go_roundg (d.aB.length-(j+1))
    case measure=>omega
    case rel=>
     refine⟨j+1,_,nQ,rfl,by go_num,aq,qh fun m hm=>?_⟩;rcases Nat.lt_succ_iff_lt_or_eq.1 hm with h|rfl
     ·exact HN.out m h
     ·rw[hnm];exact hx
  ·obtain rfl:j=d.aB.length:=by omega
   have hjn:¬((d.aB.length:Int)<(d.aB.length:Int)):=nQ;have Zt:Hid (dF d l=(d,LQ)):=by unfold Hid;rw[HX.out,sO fun m hm=>by simpa using HN.out m hm]
   clear HX HN;have HX:=Zt;have D3:Hid (av (af W2 δ) w.heap.size 53 (bX k d)):=qh (D2.out.af _);have R3:Hid (av (af W2 δ) (w.heap.size+1) 53 (bX kP kQ)):=qh (R2.out.af _);go_upto_region 26 with fail;go_wp2_with (first|(refine aj bQ rfl _ rfl rfl D3.out rfl ?_)|(refine ah bQ rfl _ _ rfl rfl rfl R3.out rfl rfl (cO _ _) ?_;intro W9 C9 k9));refine QAR ?_;intro p1 p2;refine QDB ?_;exact iK (k:=k) (d:=d) (w:=w) (W:=W9) (x:=dF d l) (k':=k) (d':=d) (by rw[HX.out]) (by first|(rw[HX.out];done)|(rw[HX.out];rfl)) (cC.refl) (HO.out.wide)
end
section
open Hd
theorem S7(k:cH)(d:cU)(l:bL)(hl:l.length<=1000)(hv:aG d.ax=true)(ho:iM d.aB)(hg:d.given<=1000)(B:Nat)(w:nJ)(hT:aI B w k.ax d.ax)[hB:Le B w](hO:dG w k.oA k.oc d.aB):Calls nH 34 #[gr k d,.string (str l)] w (eF k d w (dF d l)):=by
 cases hr:di l with
 |none=>exact MG k d l hl hv hr B w hT hO
 |cmd c=>
  rcases DF c.w with hk|hk|hk|hk
  ·exact Gf k d l hl hv c hr hk B w hT hO
  ·exact Ql k d l hl hv c hr hk B w hT hO
  ·exact MH k d l hl hv c hr hk B w hT hO
  ·obtain⟨dw,a⟩:=c;have hw:=(o7 hr).1;cases dw with
   |forget=>
    match a,hw with
    |[x],_=>exact Ge k d l hl hv ho.1 x hr B w hT hO
   |aN=>exact absurd hk (by show ¬cP .aN=5;decide)
   |current=>exact absurd hk (by show ¬cP .current=5;decide)
   |fU=>exact absurd hk (by show ¬cP .fU=5;decide)
   |ai=>exact absurd hk (by show ¬cP .ai=5;decide)
   |lM=>exact absurd hk (by show ¬cP .lM=5;decide)
   |dU=>exact absurd hk (by show ¬cP .dU=5;decide)
   |eK=>exact absurd hk (by show ¬cP .eK=5;decide)
   |part=>exact absurd hk (by show ¬cP .part=5;decide)
   |fo=>exact absurd hk (by show ¬cP .fo=5;decide)
   |safe=>exact absurd hk (by show ¬cP .safe=5;decide)
   |fP=>exact absurd hk (by show ¬cP .fP=5;decide)
   |jE=>exact absurd hk (by show ¬cP .jE=5;decide)
   |done=>exact absurd hk (by show ¬cP .done=5;decide)
   |fD=>exact absurd hk (by show ¬cP .fD=5;decide)
   |we=>exact absurd hk (by show ¬cP .we=5;decide)
   |early=>exact absurd hk (by show ¬cP .early=5;decide)
   |mj=>exact absurd hk (by show ¬cP .mj=5;decide)
   |order=>exact absurd hk (by show ¬cP .order=5;decide)
   |pack=>exact absurd hk (by show ¬cP .pack=5;decide)
 |ord q s n c=>
  by_cases h5:d.aB.length=5
  ·exact MI k d l hl hv q c s n hr h5 B w hT hO
  ·exact MF k d l hl hv hg q c s n hr (by have:=ho.1;omega) B w hT hO
end
section
open Hd
def ni(os:List Ord):Prop:=∀o∈os,o.num<=1000/\o.line.length<=1000
theorem kI{os:List Ord}(h:ni os)(i:Nat):ni (os.eraseIdx i):=fun o ho=>h o (List.mem_of_mem_eraseIdx ho)
theorem tu{n:Nat}(h:n<=1000)(b:Bool):(tB n b).length<=20:=by
 have h1:(Lib.itoa (n:Int)).length<=5:=xS 3 nQ;have h2:(sV b).length=2:=by cases b<;>rfl
 unfold tB;simp only[List.length_append,List.length_cons,h2];omega
theorem sB(m:Nat):∀d:cU,ni d.aB->(ey m d).2.length<=m*20:=by
 induction m with
 |zero=>intro d _;exact nE _
 |succ m ih=>
  intro d hn
  rw[ey]
  cases hf:ji d.ax d.aB with
  |none=>exact nE _
  |some i=>
   simp only[List.length_append]
   have h1:=tu (hn _ (aS d.aB (D8 hf).1)).1 (gZ d.ax (IE (di (nth d.aB i).line))).isSome
   have h2:=ih ⟨kf d.ax (IE (di (nth d.aB i).line)),d.aB.eraseIdx i,d.given⟩ (kI hn i)
   omega
theorem Sl.Vm{B:Nat}{w:nJ}{b o c:Nat}{xs:List Ord}(h:Sl kz B w (some ⟨b,o,none⟩) c xs){k:Nat}(hk:k<xs.length):w.cell? ⟨b,o+k*2,none⟩=some (.int .i64 ((nth xs k).num:Nat))/\w.cell? ⟨b,o+k*2+1,none⟩=some (.string (str (nth xs k).line)):=by obtain⟨b',o',e,_,d⟩:=h.order hk;injection e with e;injection e with e1 e2;subst e1;subst e2;exact d
def Pg(m:Nat):Prop:=∀(k:cH) (d:cU),aG d.ax=true->iM d.aB->ni d.aB->d.aB.length=m->∀(B:Nat) (w:nJ),aI B w k.ax d.ax->Le B w->dG w k.oA k.oc d.aB ->
 Calls nH 35 #[gr k d] w (eF k d w (ey m d))
theorem vN{t:aV}{os:List Ord}(h:∀m,m<os.length->oF t (di (nth os m).line)=false):ji t os=none:=sO h
theorem vM{t:aV}{os:List Ord}{j:Nat}(hj:j<os.length)(h:oF t (di (nth os j).line)=true)(hn:∀m,m<j->oF t (di (nth os m).line)=false):ji t os=some j:=sN hj h hn
theorem vF(m:Nat)(IH:∀m',m'+1=m->Pg m'):Pg m:=by
 intro k d hv ho hn hm B w hT hB hO;have HV:=qh hv;have Pn:=qh ho;have U0:=qh hn;have HT:=qh hT;have HM:=qh hm;have RN:=qh IH;have Wu:d.aB.length<=1000:=by have:=ho.1;omega
 clear hv ho hn hm IH;go_enter Tryz.func35,Tryz.ntmps35;go_upto_region 1 with fail;refine QAT ?_;intro W1 aE cz de cN cY dc dX b1 b2;have EW:W1.cell? ⟨w.heap.size,14,none⟩=some (.slice k.oA d.aB.length k.oc):=b1.out.cell rfl;have zb:Hid (dG W1 k.oA k.oc d.aB):=qh hO.wide;clear aE hO hT;have jl1:mw w.heap.size W1.heap.size:=⟨cN.out⟩;have jl2:mw B W1.heap.size:=⟨cz.out⟩;go_upto_region 2 with fail;go_loopg [4] d.aB.length (fun gn i wr=>∃j:Nat,j<=d.aB.length/\gn=d.aB.length-j/\i=.int .i64 j/\aC W1.heap.size W1 wr/\Le W1.heap.size wr/\Hid (∀p,p<j->oF d.ax (di (nth d.aB p).line)=false))
 case atStart=>exact⟨0,nE _,rfl,rfl,inferInstance,inferInstance,qh fun p hp=>absurd hp (Nat.not_lt_zero _)⟩
 case round=>
  obtain⟨j,hj,rfl,rfl,i1,i2,HN⟩:=hrel;have D1:Hid (av wr w.heap.size 53 (bX k d)):=qh b1.out.eA;have R1:Hid (av wr (w.heap.size+1) 53 (bX kP kQ)):=qh b2.out.eA;have lD:=D1.out.lt;have lR:=R1.out.lt;have a1:aC w.heap.size w wr:=⟨⟨i1.out.1.trans cY.out.1,i1.out.2.1.trans cY.out.2.1,i1.out.2.2.1.trans cY.out.2.2.1,fun b hb=>(i1.out.2.2.2 b (nL hb cN.out)).trans (cY.out.2.2.2 b hb)⟩⟩;have a2:Le w.heap.size wr:=⟨nT cN.out i2.out⟩;have a3:aC B w wr:=⟨⟨a1.out.1,a1.out.2.1,a1.out.2.2.1,fun b hb=>a1.out.2.2.2 b (nL hb hB.out)⟩⟩;have a4:Le B wr:=⟨nT hB.out a2.out⟩;have WC:wr.cell? ⟨w.heap.size,14,none⟩=some (.slice k.oA d.aB.length k.oc):=D1.out.cell rfl;by_cases hlt:j<d.aB.length
  ·have hji:(j:Int)<(d.aB.length:Int):=nQ;have hj0:¬(j:Int)<0:=nQ;obtain⟨ob,oo,zq,yX,_⟩:=zb.out.plain.order hlt;have WQ:Hid (dG W1 (some ⟨ob,oo,none⟩) k.oc d.aB):=by rw[<-zq];exact zb
   rw[zq] at WC;have iob:Lt ob wr:=⟨nL yX i2.out⟩;have iob3:Lt ob W1:=⟨yX⟩;obtain⟨e0,e1⟩:=(WQ.out.up (w':=wr)).plain.Vm hlt;obtain⟨q,s,n,c,hr⟩:=Pn.out.2 _ (aS d.aB hlt);have Wj:=U0.out _ (aS d.aB hlt);have WL:=qh (Gl hr);have HR:=qh hr;have LM:Hid (oF d.ax (di (nth d.aB j).line)=fF d.ax q s n):=by unfold Hid;rw[hr];rfl
   obtain⟨nm,hnm⟩:∃v,(nth d.aB j).num=v:=⟨_,rfl⟩;obtain⟨ln,gG⟩:∃v,(nth d.aB j).line=v:=⟨_,rfl⟩;rw[gG] at e1 HR Wj LM;rw[hnm] at e0 Wj;clear hr yX;go_upto_region 5 with(first|(go_at_call 88;refine(nD ln Wj.2 _).mono ?_;rw[HR.out];rintro e w1 ⟨v,δ1,rfl,rfl,hx⟩;obtain⟨A,cap,A',cap',rfl,hS,Wh⟩:=hx)|(refine ah cR rfl _ _ rfl rfl rfl (av.new (T:=161) rfl) rfl rfl (by simp[Value.oneCell']) ?_;intro W2 L2 kg));have g1:W1.heap.size<=(af wr δ1).heap.size:=(inferInstance:Le W1.heap.size (af wr δ1)).out;have g2:wr.heap.size<=(af wr δ1).heap.size:=(inferInstance:Le wr.heap.size (af wr δ1)).out;have q1:aC W1.heap.size W1 W2:=bP kg g1;have q2:Le W1.heap.size W2:=cK kg;have q3:aC w.heap.size w W2:=bP kg (nT cN.out g1);have q4:Le w.heap.size W2:=cK kg;have q5:aC B w W2:=bP kg (nT cz.out g1);have q6:Le B W2:=cK kg;have D2:Hid (av W2 w.heap.size 53 (bX k d)):=qh (((D1.out.af _).alloc _).eG kg (Nat.ne_of_lt (nL lD.out g2)));have R2:Hid (av W2 (w.heap.size+1) 53 (bX kP kQ)):=qh (((R1.out.af _).alloc _).eG kg (Nat.ne_of_lt (nL lR.out g2)));have HLI:Hid (Is W2.heap.size W2 (.agg #[.int .i64 4,.int .i64 (cP q.w:Nat),.string (str (cJ q.w)),.slice A q.a.length cap,.int .i64 (cP c.w:Nat),.string (str (cJ c.w)),.slice A' c.a.length cap',.string (str [s]),.int .i64 n]) (.ord q s n c)):=
    qh ⟨A,cap,A',cap',rfl,(hS.up (w':=(af wr δ1).alloc _)).aO kg (av.new rfl) nU nV,(Wh.up (w':=(af wr δ1).alloc _)).aO kg (av.new rfl) nU nV⟩
   have HWI:Hid (dL W2.heap.size W2 (.agg #[.int .i64 (cP c.w:Nat),.string (str (cJ c.w)),.slice A' c.a.length cap']) (some c)):=
    qh ⟨A',cap',rfl,(Wh.up (w':=(af wr δ1).alloc _)).aO kg (av.new rfl) nU nV⟩
   obtain⟨g,hg⟩:∃g,(af wr δ1).heap.size=g:=⟨_,rfl⟩;rw[hg] at L2 ⊢;have L2:=qh L2;have lD2:=D2.out.lt;have lR2:=R2.out.lt;have lg:=L2.out.lt;have lS:Le W2.heap.size W2:=⟨nR _⟩;have HH:Hid (Calls nH 97 #[aX k.ax d.ax,.agg #[.int .i64 4,.int .i64 (cP q.w:Nat),.string (str (cJ q.w)),.slice A q.a.length cap,.int .i64 (cP c.w:Nat),.string (str (cJ c.w)),.slice A' c.a.length cap',.string (str [s]),.int .i64 n]] W2 fun e w'=>e=.returned (.bool (fF d.ax q s n))/\∃δ,w'=af W2 δ):=
    qh (MB k.ax d.ax HV.out q c s n WL.out.1 WL.out.2.1 WL.out.2.2.2.2 _ W2.heap.size W2 HT.out.wide HLI.out)
   clear hS Wh kg hg g1 g2 D1 R1 e0 e1 WC;rcases hh:fF d.ax q s n with _|_
   ·rw[hh] at HH LM;clear hh;go_wp2_with (first|(refine bY (cs':=aF k.ax d.ax) ak rfl _ rfl rfl D2.out (eo k d) rfl ?_)|(refine aj cR rfl _ rfl rfl L2.out rfl ?_)|(go_at_call 97;refine HH.out.mono ?_;rintro e w1 ⟨rfl,δ2,rfl⟩));go_roundg (d.aB.length-(j+1))
    case measure=>omega
    case rel=>
     refine⟨j+1,nQ,rfl,by go_num,inferInstance,inferInstance,qh fun p hp=>?_⟩;rcases Nat.lt_succ_iff_lt_or_eq.1 hp with h|rfl
     ·exact HN.out p h
     ·rw[gG];exact LM.out
   ·rw[hh] at HH LM;clear hh;have HKC:=WL.out.2.2.1;have HLC:=WL.out.2.2.2.1;have FO:Hid (ji d.ax d.aB=some j):=qh (vM hlt (by rw[gG];exact LM.out) HN.out);obtain⟨m',rfl⟩:∃m',m=m'+1:=⟨m-1,by have:=HM.out;omega⟩;have HC:Hid (∀(B':Nat) (W:nJ),aI B' W k.ax d.ax->Le B' W->dL B' W (.agg #[.int .i64 (cP c.w:Nat),.string (str (cJ c.w)),.slice A' c.a.length cap']) (some c)->Calls nH 89 #[aX k.ax d.ax,.agg #[.int .i64 (cP c.w:Nat),.string (str (cJ c.w)),.slice A' c.a.length cap']] W (fS k.ax d.ax c W)):=qh fun B' W h i h2=>xh k.ax d.ax HV.out c HKC HLC _ B' W h h2;have HX:Hid (ey (m'+1) d=((ey m' ⟨kf d.ax c,d.aB.eraseIdx j,d.given⟩).1,tB nm (gZ d.ax c).isSome++(ey m' ⟨kf d.ax c,d.aB.eraseIdx j,d.given⟩).2)):=by unfold Hid;rw[ey,FO.out];simp only[gG,hnm];rw[HR.out];rfl
    have HVt:=qh (qb HV.out c);have XJ:=qh (sB m' ⟨kf d.ax c,d.aB.eraseIdx j,d.given⟩ (kI U0.out j));unfold fS at HC;refine QDR ?_;intro td Aj bb gH;rw[Aj,gH] at HC HX;rw[Aj] at XJ HVt;have LJ:=qh (tu Wj.1 bb);have wh:Hid (∀(k':cH) (B:Nat) (w:nJ),aI B w k'.ax td->Le B w->dG w k'.oA k'.oc (d.aB.eraseIdx j)->Calls nH 35 #[gr k' ⟨td,d.aB.eraseIdx j,d.given⟩] w (eF k' ⟨td,d.aB.eraseIdx j,d.given⟩ w (ey m' ⟨td,d.aB.eraseIdx j,d.given⟩))):=qh fun k' B w h1 h2 h3=>RN.out m' rfl k' ⟨td,d.aB.eraseIdx j,d.given⟩ HVt.out (pR Pn.out j) (kI U0.out j) (by have:=HM.out;show(d.aB.eraseIdx j).length=m';rw[List.length_eraseIdx];simp[hlt];omega) B w h1 h2 h3;obtain⟨xd,xt,hx⟩:∃xd xt,ey m' ⟨td,d.aB.eraseIdx j,d.given⟩=(xd,xt):=⟨_,_,rfl⟩;rw[hx] at HX wh XJ;have hm5:m'<=5:=by have:=Pn.out.1;have:=HM.out;omega
    have Yp:xt.length<=1000:=by have:=XJ.out;simp only[] at this;omega
    unfold eF at wh;clear Aj gH hx XJ gG HR LM FO HN HKC HLC;go_upto_region 6 with(first|(refine bY (cs':=aF k.ax d.ax) ak rfl _ rfl rfl D2.out (eo k d) rfl ?_)|(refine aj cR rfl _ rfl rfl L2.out rfl ?_)|(go_at_call 97;refine HH.out.mono ?_;rintro e w1 ⟨rfl,δ2,rfl⟩));go_upto_region 7 with(first|(refine bY (cs':=aF k.ax d.ax) ak rfl _ rfl rfl (D2.out.af _) (eo k d) rfl ?_)|(refine bY (cs':=#[.int .i64 (cP c.w:Nat),.string (str (cJ c.w)),.slice A' c.a.length cap']) rowWords rfl _ rfl rfl (L2.out.af _) rfl rfl ?_)|(go_at_call 89;refine(HC.out (af W2 δ2).heap.size _ HT.out.wide ⟨nR _⟩ HWI.out.wide).mono ?_;rintro e w1 ⟨r',δ3,rfl,rfl,NY⟩)|(refine ah ak rfl _ _ rfl rfl rfl (av.new (T:=39) rfl) rfl rfl (aJ _ _) ?_;intro W3 T3 k3));have g3:W2.heap.size<=(af (af W2 δ2) δ3).heap.size:=(inferInstance:Le W2.heap.size (af (af W2 δ2) δ3)).out;have m1:aC W1.heap.size W1 W3:=bP k3 (nT q2.out g3);have m2:Le W1.heap.size W3:=cK k3;have m3:aC w.heap.size w W3:=bP k3 (nT q4.out g3);have m4:Le w.heap.size W3:=cK k3;have D3:Hid (av W3 w.heap.size 53 (bX k d)):=qh ((((D2.out.af _).af _).alloc _).eG k3 (Nat.ne_of_lt (nL lD2.out g3)));have R3:Hid (av W3 (w.heap.size+1) 53 (bX kP kQ)):=qh ((((R2.out.af _).af _).alloc _).eG k3 (Nat.ne_of_lt (nL lR2.out g3)));have T3:=qh T3;have To3:Hid (cC k.ax d.ax w r' td W3):=qh (((NY.up (W':=(af (af W2 δ2) δ3).alloc _)).aO k3 (av.new rfl) nU).from_ (inferInstance:Le w.heap.size (af W2 δ2)).out);have e14:W3.cell? ⟨w.heap.size,14,none⟩=some (.slice (some ⟨ob,oo,none⟩) d.aB.length k.oc):=by rw[<-zq];exact D3.out.cell rfl
    obtain⟨e0,e1⟩:=(WQ.out.up (w':=W3)).plain.Vm hlt;rw[hnm] at e0;have lD3:=D3.out.lt;have lob:Lt ob W3:=⟨nL iob3.out m2.out⟩;obtain⟨tx,fM⟩:∃t,Lib.itoa (nm:Int)=t:=⟨_,rfl⟩;have Js:=qh fM;have hnB:Hid (-10000<=(nm:Int)/\(nm:Int)<=1000000):=qh (by have:=Wj.1;omega);have RI:Hid (tB nm bb=32::tx++[58]++sV bb):=by unfold Hid tB;rw[fM];simp
    have vX:(32::tx++[58]++sV bb).length<=20:=by rw[<-RI.out];exact LJ.out
    obtain⟨yt,TE⟩:∃t,sV bb=t:=⟨_,rfl⟩;have HYT:Hid (∀W:nJ,Calls nH 90 #[.bool bb] W fun e w'=>e=.returned (.string (str yt))/\∃δ,w'=af W δ):=qh fun W=>by rw[<-TE];exact Mx bb W
    rw[TE] at vX RI;obtain⟨u1,hu1⟩:∃t,32::tx=t:=⟨_,rfl⟩;rw[hu1] at vX RI;have l1:tx.length+1=u1.length:=by rw[<-hu1];rfl
    have l3:(u1++[58]++yt).length=u1.length+1+yt.length:=by simp[Nat.add_comm,Nat.add_left_comm]
    refine QFR ?_;intro s1;obtain⟨u2,Sb⟩:∃t,u1++[58]=t:=⟨_,rfl⟩;refine QFS ?_;intro s2;have l2:u2.length=u1.length+1:=by rw[<-Sb];simp
    rw[Sb] at vX RI l3;obtain⟨tl,EP⟩:∃t,u2++yt=t:=⟨_,rfl⟩;have s3:∀W:nJ,(Op.stringOp .add (str u2) (str yt)).run nH W=.ok (.string (str tl)) W:=fun W=>by rw[<-EP];exact jy (P:=nH) W u2 yt nQ
    rw[EP] at vX RI;have s4:∀W:nJ,(Op.stringOp .add (str tl) (str xt)).run nH W=.ok (.string (str (tl++xt))) W:=fun W=>jy (P:=nH) W tl xt nQ;clear fM TE EP hu1 Sb l1 l2 l3 vX hnm NY k3 D2 R2 L2 HLI HWI HH HC lD2 lR2 lg g3;go_upto_region 8 with(first|(go_at_call 93;refine(wz (nm:Int) hnB.out tx Js.out _).mono ?_;rintro e w1 ⟨rfl,δ4,rfl⟩)|(go_at_call 90;refine(HYT.out _).mono ?_;rintro e w1 ⟨rfl,δ5,rfl⟩));have g4:W3.heap.size<=(af (af W3 δ4) δ5).heap.size:=(inferInstance:Le W3.heap.size (af (af W3 δ4) δ5)).out;have D4:Hid (av (af (af W3 δ4) δ5) w.heap.size 53 (bX k d)):=qh ((D3.out.af _).af _);have T4:Hid (av (af (af W3 δ4) δ5) _ _ _):=qh ((T3.out.af _).af _);have To4:Hid (cC k.ax d.ax w r' td (af (af W3 δ4) δ5)):=qh To3.out.up;go_upto_region 9 with(first|(refine aj ak rfl _ rfl rfl T4.out rfl ?_)|(refine lJ ak rfl _ _ rfl rfl rfl D4.out rfl (yq k d) (aJ _ _) (yp k d r' td) ?_;intro W5 D5 k5));have D5:=qh D5;have v1:aC W1.heap.size W1 (af (af W3 δ4) δ5):=inferInstance;have v3:aC w.heap.size w W5:=bP k5 (nR _);have v4:Le w.heap.size W5:=cK k5;have v5:Le W1.heap.size W5:=cK k5;have R5:Hid (av W5 (w.heap.size+1) 53 (bX kP kQ)):=qh (((R3.out.af _).af _).eG k5 nQ);have To5:Hid (cC k.ax d.ax w r' td W5):=qh (To4.out.aO k5 D4.out nU);have WS:Hid (dG W5 (some ⟨ob,oo,none⟩) k.oc d.aB):=qh ((WQ.out.up (w':=af (af W3 δ4) δ5)).aO k5 D4.out nU (inferInstance:Le W1.heap.size (af (af W3 δ4) δ5)).out);have f14:W5.cell? ⟨w.heap.size,14,none⟩=some (.slice (some ⟨ob,oo,none⟩) d.aB.length k.oc):=by rw[<-zq];exact D5.out.cell rfl
    have fr14:=D5.out.free 14;have lD5:=D5.out.lt;have lS5:Le W5.heap.size W5:=⟨nR _⟩;clear To4 T4 D4 k5 T3 D3 R3 To3 e14 e0 e1 lD3 lob s1 s2 s3 Js HYT g4;go_upto_region 10 with(go_at_call 96;refine(vA d.aB j hlt Wu (some ⟨ob,oo,none⟩) k.oc W5.heap.size _ WS.out.plain).mono ?_;rintro e w1 ⟨A2,c2,δ6,rfl,rfl,Wi⟩;have RL:=qh Wi;clear Wi);refine aK fun W6 PA=>?_;have w3:aC w.heap.size w W6:=iC PA;have w4:Le w.heap.size W6:=fR PA;have w5:aC B w W6:=⟨⟨w3.out.1,w3.out.2.1,w3.out.2.2.1,fun b hb=>w3.out.2.2.2 b (nL hb hB.out)⟩⟩;have w6:Le B W6:=⟨nT hB.out w4.out⟩;have D6:Hid (av W6 w.heap.size 53 (bX ⟨r',A2,c2⟩ ⟨td,d.aB.eraseIdx j,d.given⟩)):=by rw[PA.out];exact qh (av.set (av.eA D5.out) 14 _)
    have R6:Hid (av W6 (w.heap.size+1) 53 (bX kP kQ)):=by rw[PA.out];exact qh (av.eZ (av.eA R5.out) (by show w.heap.size+1≠w.heap.size;omega) _)
    have O6:Hid (dG W6 A2 c2 (d.aB.eraseIdx j)):=by rw[PA.out];exact qh (RL.out.aO ((bw.refl (fun x=>x=w.heap.size) _).set (b:=w.heap.size) rfl 14 _) (av.eA D5.out) nU (nR _))
    have To6:Hid (cC k.ax d.ax w r' td W6):=by rw[PA.out];exact qh ((To5.out.up (W':=af W5 δ6)).aO ((bw.refl (fun x=>x=w.heap.size) _).set (b:=w.heap.size) rfl 14 _) (av.eA D5.out) nU)
    have lD6:=D6.out.lt;have lR6:=R6.out.lt;clear PA RL D5 R5 To5 f14 fr14 WS;go_upto_region 11 with(first|(refine aj bQ rfl _ rfl rfl D6.out rfl ?_)|(go_at_call 35;refine(wh.out ⟨r',A2,c2⟩ W6.heap.size _ (To6.out.is HT.out) ⟨nR _⟩ O6.out).mono ?_;rintro e w1 ⟨k',δ7,rfl,rfl,We,hO7⟩;have WH:=qh We;have HO7:=qh hO7;clear We hO7)|(refine ah bQ rfl _ _ rfl rfl rfl (av.new (T:=53) rfl) rfl rfl (cO _ _) ?_;intro W7 E7 k7));have g7:W6.heap.size<=(af W6 δ7).heap.size:=(inferInstance:Le W6.heap.size (af W6 δ7)).out;have x3:aC w.heap.size w W7:=bP k7 (nT w4.out g7);have x4:Le w.heap.size W7:=cK k7;have E7:=qh E7;have R7:Hid (av W7 (w.heap.size+1) 53 (bX kP kQ)):=qh (((R6.out.af _).alloc _).eG k7 (Nat.ne_of_lt (nL lR6.out g7)));have To7:Hid (cC k.ax d.ax w k'.ax xd.ax W7):=qh (((To6.out.trans WH.out w4.out).up (W':=(af W6 δ7).alloc _)).aO k7 (av.new rfl) nU);have O7:Hid (dG W7 k'.oA k'.oc xd.aB):=qh ((HO7.out.up (w':=(af W6 δ7).alloc _)).aO k7 (av.new rfl) nU nV);clear k7 WH HO7 To6 O6 D6 R6;go_wp2_with (first|(refine aj bQ rfl _ rfl rfl E7.out rfl ?_)|(refine ah bQ rfl _ _ rfl rfl rfl R7.out rfl rfl (cO _ _) ?_;intro W9 C9 k9));refine QAR ?_;intro p1 p2;refine dQ bQ Tryz.results35 rfl C9 rfl ?_;exact iK (k:=k) (d:=d) (w:=w) (W:=W9) (x:=ey (m'+1) d) (k':=k') (d':=xd) (by rw[HX.out]) (by rw[HX.out,RI.out]) (To7.out.aO k9 R7.out nU) (O7.out.aO k9 R7.out nU (nR _))
  ·obtain rfl:j=d.aB.length:=by omega
   have hjn:¬((d.aB.length:Int)<(d.aB.length:Int)):=nQ;have HX:Hid (ey m d=(d,[])):=qh (wT (vN HN.out));have ZE:=qh (zb.out.up (w':=wr));clear HN;go_upto_region 12 with fail;go_wp2_with (first|(refine aj bQ rfl _ rfl rfl D1.out rfl ?_)|(refine ah bQ rfl _ _ rfl rfl rfl R1.out rfl rfl (cO _ _) ?_;intro W9 C9 k9));refine QAR ?_;intro p1 p2;refine dQ bQ Tryz.results35 rfl C9 rfl ?_;exact iK (k:=k) (d:=d) (w:=w) (W:=W9) (x:=ey m d) (k':=k) (d':=d) (by rw[HX.out]) (by rw[HX.out];rfl) cC.refl (ZE.out.aO k9 R1.out nU i2.out)
theorem vB:∀m,Pg m
 |0=>vF 0 fun m' h=>by omega
 |m+1=>vF (m+1) fun m' h=>by have:m'=m:=nQ;subst this;exact vB m'
end
section
open Hd
theorem xo{d:cU}{l:bL}(h:ni d.aB)(hg:d.given<=1000)(hl:l.length<=1000):ni (dF d l).1.aB:=by
 unfold dF;split
 ·exact h
 ·split
  ·exact h
  ·intro o ho;rcases List.mem_append.1 ho with h1|h1
   ·exact h o h1
   ·simp at h1;subst h1;exact⟨hg,hl⟩
 ·split
  ·exact h
  ·split
   ·split
    ·exact h
    ·exact kI h _
   ·exact h
theorem Fs(m:Nat):∀d:cU,ni d.aB->ni (ey m d).1.aB:=by
 induction m with
 |zero=>intro d h;exact h
 |succ m ih=>
  intro d h
  rw[ey]
  cases ji d.ax d.aB with
  |none=>exact h
  |some i=>exact ih _ (kI h i)
theorem JE{d:cU}{l:bL}(h:ni d.aB)(hg:d.given<=1000)(hl:l.length<=1000):ni (kS d l).1.aB:=Fs _ _ (xo h hg hl)
theorem J1(d:cU)(l:bL):(dF d l).1.given<=d.given+1:=by
 unfold dF;split
 ·exact nF _
 ·split
  ·exact nF _
  ·exact nR _
 ·split
  ·exact nF _
  ·split
   ·split<;>exact nF _
   ·exact nF _
theorem CG(m:Nat):∀d:cU,(ey m d).1.given=d.given:=by
 induction m with
 |zero=>intro d;rfl
 |succ m ih=>
  intro d
  rw[ey]
  cases ji d.ax d.aB with
  |none=>rfl
  |some i=>exact ih _
theorem Fl(d:cU)(l:bL):(kS d l).1.given<=d.given+1:=by show(ey _ _).1.given<=_;rw[CG];exact J1 d l
theorem Db{d:cU}{l:bL}(hv:aG d.ax=true):(dF d l).2.length<=60:=by
 have a1:CC.length<=60:=nU;have a2:LQ.length<=60:=nU;have a3:LP.length<=60:=nU;have a4:∀b,(sV b).length<=60:=nU;unfold dF;split
 ·exact a1
 ·split
  ·exact a2
  ·exact a3
 ·split
  ·exact a4 _
  ·split
   ·split
    ·exact a2
    ·exact a3
   ·exact LH d.ax _ hv
theorem Qb(k:cH)(d:cU)(l:bL)(hl:l.length<=1000)(hv:aG d.ax=true)(ho:iM d.aB)(hn:ni d.aB)(hg:d.given<=1000)(B:Nat)(w:nJ)(hT:aI B w k.ax d.ax)[hB:Le B w](hO:dG w k.oA k.oc d.aB):Calls nH 14 #[gr k d,.string (str l)] w (eF k d w (kS d l)):=by have HT:=qh hT;have HO:=qh hO;have zb:Hid (∀(W:nJ),aI B W k.ax d.ax->Le B W->dG W k.oA k.oc d.aB->Calls nH 34 #[gr k d,.string (str l)] W (eF k d W (dF d l))):=qh fun W h1 h2 h3=>S7 k d l hl hv ho hg B W h1 h3;have LI:=uQ hv l;have wg:=xk ho l;have Ci:=xo hn hg hl;have Wp:=Db (l:=l) hv;have HX:Hid (kS d l=((ey (dF d l).1.aB.length (dF d l).1).1,(dF d l).2++(ey (dF d l).1.aB.length (dF d l).1).2)):=rfl;obtain⟨od,ot,VQ⟩:∃a b,dF d l=(a,b):=⟨_,_,rfl⟩;rw[VQ] at zb HX LI wg Ci Wp;simp only[] at HX LI wg Ci Wp;have ri:Hid (∀(k':cH) (B:Nat) (W:nJ),aI B W k'.ax od.ax->Le B W->dG W k'.oA k'.oc od.aB->Calls nH 35 #[gr k' od] W (eF k' od W (ey od.aB.length od))):=qh fun k' B W h1 h2 h3=>vB od.aB.length k' od LI wg Ci rfl B W h1 h2 h3;have hx2:=sB od.aB.length od Ci;have VD:=wg.1;obtain⟨sd,st,Sc⟩:∃a b,ey od.aB.length od=(a,b):=⟨_,_,rfl⟩;rw[Sc] at HX ri hx2;simp only[] at HX hx2;have s1:∀W:nJ,(Op.stringOp .add (str ot) (str st)).run nH W=.ok (.string (str (ot++st))) W:=fun W=>jy (P:=nH) W ot st nQ;unfold eF at zb ri;clear hT hO hv ho hn hg hl LI wg Ci Wp VQ Sc hx2 VD;go_enter Tryz.func14,Tryz.ntmps14;go_upto_region 1 with fail;refine QAT ?_;intro W1 aE cz de cN cY dc dX b1 b2;clear aE;go_upto_region 2 with(first|(refine aj bQ rfl _ rfl rfl b1.out rfl ?_)|(go_at_call 34;refine(zb.out _ HT.out.up inferInstance HO.out.wide).mono ?_;rintro e w1 ⟨k1,δ1,rfl,rfl,NY,DY⟩;have LZ:=qh NY;have AL:=qh DY;clear NY DY)|(refine ah bQ rfl _ _ rfl rfl rfl (av.new (T:=53) rfl) rfl rfl (cO _ _) ?_;intro W2 C2 k2));have g1:W1.heap.size<=(af W1 δ1).heap.size:=(inferInstance:Le W1.heap.size (af W1 δ1)).out;have q1:aC B w W2:=bP k2 (nT cz.out g1);have q2:Le B W2:=cK k2;have q3:aC w.heap.size w W2:=bP k2 (nT cN.out g1);have q4:Le w.heap.size W2:=cK k2;have R2:Hid (av W2 (w.heap.size+1) 53 (bX kP kQ)):=qh (((b2.out.af _).alloc _).eG k2 (Nat.ne_of_lt (nL dX.out g1)));have To2:Hid (cC k.ax d.ax w k1.ax od.ax W2):=qh (((LZ.out.up (W':=(af W1 δ1).alloc _)).aO k2 (av.new rfl) nU).from_ cN.out);have O2:Hid (dG W2 k1.oA k1.oc od.aB):=qh ((AL.out.up (w':=(af W1 δ1).alloc _)).aO k2 (av.new rfl) nU nV);have C2:=qh C2;have lR2:=R2.out.lt;clear k2 b1 b2 LZ AL;go_upto_region 3 with(first|(refine aj bQ rfl _ rfl rfl C2.out rfl ?_)|(go_at_call 35;refine(ri.out k1 W2.heap.size _ (To2.out.is HT.out) ⟨nR _⟩ O2.out).mono ?_;rintro e w1 ⟨k',δ3,rfl,rfl,NY,DY⟩;have LZ:=qh NY;have AL:=qh DY;clear NY DY)|(refine ah bQ rfl _ _ rfl rfl rfl (av.new (T:=53) rfl) rfl rfl (cO _ _) ?_;intro W3 C3 k3));have g2:W2.heap.size<=(af W2 δ3).heap.size:=(inferInstance:Le W2.heap.size (af W2 δ3)).out;have x3:aC w.heap.size w W3:=bP k3 (nT q4.out g2);have x4:Le w.heap.size W3:=cK k3;have R3:Hid (av W3 (w.heap.size+1) 53 (bX kP kQ)):=qh (((R2.out.af _).alloc _).eG k3 (Nat.ne_of_lt (nL lR2.out g2)));have To3:Hid (cC k.ax d.ax w k'.ax sd.ax W3):=qh (((To2.out.trans LZ.out q4.out).up (W':=(af W2 δ3).alloc _)).aO k3 (av.new rfl) nU);have O3:Hid (dG W3 k'.oA k'.oc sd.aB):=qh ((AL.out.up (w':=(af W2 δ3).alloc _)).aO k3 (av.new rfl) nU nV);have C3:=qh C3;clear k3 LZ AL To2 O2 R2 C2;go_wp2_with (first|(refine aj bQ rfl _ rfl rfl C3.out rfl ?_)|(refine ah bQ rfl _ _ rfl rfl rfl R3.out rfl rfl (cO _ _) ?_;intro W9 C9 k9));refine QAR ?_;intro p1 p2;refine dQ bQ Tryz.results14 rfl C9 rfl ?_;exact iK (k:=k) (d:=d) (w:=w) (W:=W9) (x:=kS d l) (k':=k') (d':=sd) (by rw[HX.out]) (by rw[HX.out];first|done|rfl) (To3.out.aO k9 R3.out nU) (O3.out.aO k9 R3.out nU (nR _))
end
end Go.Proofs.YtcjjlikhlmfedaaGreatDoor
