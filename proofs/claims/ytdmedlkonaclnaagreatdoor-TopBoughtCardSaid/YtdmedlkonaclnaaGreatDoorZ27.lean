/- A part of the proof that a law of layer 12 holds, cut small by a program (names and blanks): Ho1, Ho2, Ho3, Ho4, Ho5, Ho6, Ho7, Ho8, Ho9. -/
import Derived.Test.YtdmedlkonaclnaaGreatDoorZ23
set_option maxRecDepth 100000
set_option maxHeartbeats 40000000
set_option linter.unusedVariables false
set_option linter.unusedSimpArgs false
namespace Go.Proofs.YtdmedlkonaclnaaGreatDoor
open Go.RowKit
open Nat renaming le_trans → nT, lt_of_lt_of_le → nL, le_refl → nR, zero_le → nE, le_succ → nF
open Go.Proofs.Tryz renaming prog → nH
open Go renaming World → nJ
section
open Hd
theorem PZ(k:cP)(d:cE)(l:bz)(hl:l.length<=1000)(hv:aG d.az=true)(hr:bK l=.none)(B:Nat)(w:nJ)(hT:aJ B w k.az d.az)[hB:Le B w](hO:dZ w k.oA k.oc d.aC):Calls nH 74 #[jf k d,.string (str l)] w (fh k d w (di d l)):=by
 have HX:Hid (di d l=(d,yW)):=by unfold Hid di;rw[hr]
 refine QDX ?_;intro HL HV HT HO HR;clear hl hv hT hO hr;go_enter Tryz.func74,Tryz.ntmps74;go_upto_region 1 with fail;refine QAS ?_;intro W1 aH cJ dF cU dA dD eI b1 b2;clear aH;go_upto_region 2 with(first|(go_at_call 27;refine(ke l HL.out _).mono ?_;rw[HR.out];rintro e w1 ⟨v,δ1,rfl,rfl,hx⟩;obtain rfl:v=_:=hx)|(refine ak cK rfl _ _ rfl rfl rfl (ax.new (T:=68) rfl) rfl rfl (by simp[Value.oneCell']) ?_;intro W2 L2 kg));refine QAJ ?_;intro g1 g2 q1 q2 q3 q4 q5 D2 R2;refine QEO ?_;intro g hg;rw[hg] at g1 g2 L2 ⊢;refine QDW ?_;intro L2 ld lr lg;have y0:W2.cell? ⟨g,0,none⟩=some (.int .i64 (0)):=L2.out.cell (i:=0) rfl;have gg:=qh g2;clear b1 b2 kg g1 g2;go_upto_region 27 with fail;go_wp2_with (first|(refine av cx rfl _ rfl rfl D2.out rfl ?_)|(refine ak cx rfl _ _ rfl rfl rfl R2.out rfl rfl (dP _ _) ?_;intro W9 C9 k9));refine QAT ?_;intro p1 p2;refine QDB ?_;exact jq (k:=k) (d:=d) (w:=w) (W:=W9) (x:=di d l) (k':=k) (d':=d) (by rw[HX.out]) (by first|(rw[HX.out];done)|(rw[HX.out];rfl)) (cZ.refl) (HO.out.wide)
end
section
open Hd
theorem Jn(k:cP)(d:cE)(l:bz)(hl:l.length<=1000)(hv:aG d.az=true)(c:dU)(hr:bK l=.cmd c)(hk:cN c.w=1)(B:Nat)(w:nJ)(hT:aJ B w k.az d.az)[hB:Le B w](hO:dZ w k.oA k.oc d.aC):Calls nH 74 #[jf k d,.string (str l)] w (fh k d w (di d l)):=by
 have hw:=qB hr;have Q8:((cN c.w:Nat):Int)=1:=by rw[hk];rfl
 have HX:Hid (di d l=(⟨iH d.az c,d.aC,d.given⟩,me (fW d.az c).isSome)):=by unfold Hid di;rw[hr];simp only[];rw[if_pos hk]
 refine QDX ?_;intro HL HV HT HO HR;clear hl hv hT hO hr;go_enter Tryz.func74,Tryz.ntmps74;go_upto_region 1 with fail;refine QAS ?_;intro W1 aH cJ dF cU dA dD eI b1 b2;clear aH;go_upto_region 2 with(first|(go_at_call 27;refine(ke l HL.out _).mono ?_;rw[HR.out];rintro e w1 ⟨v,δ1,rfl,rfl,hx⟩;obtain⟨A,cap,rfl,hS⟩:=hx;rw[Q8])|(refine ak cK rfl _ _ rfl rfl rfl (ax.new (T:=68) rfl) rfl rfl (by simp[Value.oneCell']) ?_;intro W2 L2 kg));refine QAJ ?_;intro g1 g2 q1 q2 q3 q4 q5 D2 R2;refine QEK ?_;intro HS;clear hS;refine QEO ?_;intro g hg;rw[hg] at g1 g2 L2 ⊢;refine QDW ?_;intro L2 ld lr lg;have y0:W2.cell? ⟨g,0,none⟩=some (.int .i64 (1)):=L2.out.cell (i:=0) rfl;have gg:=qh g2;have lw:Le W2.heap.size W2:=⟨nR _⟩;have HC:Hid (Calls nH 142 #[aO k.az d.az,.agg #[.int .i64 1,.string (str (cj c.w)),.slice A c.a.length cap]] W2 (gC k.az d.az c W2)):=qh (zu k.az d.az HV.out c hk hw.1 _ W2.heap.size W2 HT.out.wide ⟨A,cap,by rw[Q8],HS.out⟩);unfold gC at HC;refine QDR ?_;intro td Cz bb ir;rw[Cz,ir] at HC;rw[Cz,ir] at HX;clear Cz ir HS hw Q8 hk b1 b2 kg g1 g2;go_upto_region 5 with(first|(refine cz (cs':=aE k.az d.az) ai rfl _ rfl rfl D2.out (eT k d) rfl ?_)|(refine cz (cs':=#[.int .i64 1,.string (str (cj c.w)),.slice A c.a.length cap]) rowWords rfl _ rfl rfl L2.out rfl rfl ?_)|(go_at_call 142;refine HC.out.mono ?_;rintro e w1 ⟨r',δ2,rfl,rfl,Rl⟩)|(refine ak ai rfl _ _ rfl rfl rfl (ax.new (T:=39) rfl) rfl rfl (aM _ _) ?_;intro W3 T3 k3));have g3:W2.heap.size<=(af W2 δ2).heap.size:=(inferInstance:Le W2.heap.size (af W2 δ2)).out;have u2:au w.heap.size w W3:=cm k3 (nT q4.out g3);have u4:Le w.heap.size W3:=dB k3;have D3:Hid (ax W3 w.heap.size 82 (cD k d)):=qh (((D2.out.af _).alloc _).eM k3 (Nat.ne_of_lt (nL ld.out g3)));have R3:Hid (ax W3 (w.heap.size+1) 82 (cD mJ mK)):=qh (((R2.out.af _).alloc _).eM k3 (Nat.ne_of_lt (nL lr.out g3)));have T3:=qh T3;have aa3:Hid (cZ k.az d.az w r' td W3):=qh (((Rl.up (W':=(af W2 δ2).alloc _)).aR k3 (ax.new rfl) nU).from_ q4.out);clear D2 R2 Rl k3;go_upto_region 6 with(first|(refine av ai rfl _ rfl rfl T3.out rfl ?_)|(refine mZ ai rfl _ _ rfl rfl rfl D3.out rfl (AA k d) (aM _ _) (Az k d r' td) ?_;intro W4 D4 k4));have D4:=qh D4;have R4:Hid (ax W4 (w.heap.size+1) 82 (cD mJ mK)):=qh (R3.out.eM k4 nQ);have u5:au w.heap.size w W4:=cm k4 (nR _);have u6:Le w.heap.size W4:=dB k4;have acF:Hid (cZ k.az d.az w r' td W4):=qh (aa3.out.aR k4 D3.out nU);clear D3 R3 T3 aa3 k4;refine wp_region_held (S:=fun W=>ax W w.heap.size 82 (cD ⟨r',k.oA,k.oc⟩ ⟨td,d.aC,d.given⟩)) nP ?_;change wpAnyH _ _ _ _ _ _ _ _ (World.drew _);refine dV 0 (jf ⟨r',k.oA,k.oc⟩ ⟨td,d.aC,d.given⟩) rfl nP (cV cx nY _ rfl rfl (fun _ h=>h) rfl) (D4.out) ?_;refine QAC ?_;refine wpH_tq 1 (.bool bb) (D4.out) ?_;refine QAC ?_;refine wpAnyH_all (rs:=[2]) nP nV ?_;intro i hi;obtain rfl:=List.mem_singleton.1 hi;refine QAF ?_;refine(PR bb _).mono ?_;rintro e w1 ⟨rfl,δ22,rfl⟩;refine⟨D4.out.drew.af _,?_⟩;refine QAC ?_;refine wpAnyH_all (rs:=[3]) nP nV ?_;intro i hi;obtain rfl:=List.mem_singleton.1 hi;refine QBB ?_;refine mu cx _ _ rfl rfl rfl (R4.out.drew.af _) rfl rfl (dP _ _) ?_;intro W9 C9 k9;refine⟨(D4.out.drew.af _).eM k9 nQ,?_⟩;refine QAC ?_;refine wpH_tq 4 (.string (str (me bb))) ((D4.out.drew.af _).eM k9 nQ) ?_;refine QAC ?_;refine wpAnyH_done nP ?_ _;go_wp2_with fail;refine QAT ?_;intro p1 p2;refine QDB ?_;exact jq (k:=k) (d:=d) (w:=w) (W:=W9) (x:=di d l) (k':=⟨r',k.oA,k.oc⟩) (d':=⟨td,d.aC,d.given⟩) (by rw[HX.out]) (by first|(rw[HX.out];done)|(rw[HX.out];rfl)) ((acF.out.aam.up).aR k9 (R4.out.drew.af _) nU) (HO.out.wide)
end
section
open Hd
theorem TK(k:cP)(d:cE)(l:bz)(hl:l.length<=1000)(hv:aG d.az=true)(c:dU)(hr:bK l=.cmd c)(hk:cN c.w=2)(B:Nat)(w:nJ)(hT:aJ B w k.az d.az)[hB:Le B w](hO:dZ w k.oA k.oc d.aC):Calls nH 74 #[jf k d,.string (str l)] w (fh k d w (di d l)):=by
 have hw:=qB hr;have Q8:((cN c.w:Nat):Int)=2:=by rw[hk];rfl
 have HX:Hid (di d l=(d,nC d.az c)):=by unfold Hid di;rw[hr];simp only[];rw[if_neg nQ,if_neg nQ]
 refine QDX ?_;intro HL HV HT HO HR;clear hl hv hT hO hr;go_enter Tryz.func74,Tryz.ntmps74;go_upto_region 1 with fail;refine QAS ?_;intro W1 aH cJ dF cU dA dD eI b1 b2;clear aH;go_upto_region 2 with(first|(go_at_call 27;refine(ke l HL.out _).mono ?_;rw[HR.out];rintro e w1 ⟨v,δ1,rfl,rfl,hx⟩;obtain⟨A,cap,rfl,hS⟩:=hx;rw[Q8])|(refine ak cK rfl _ _ rfl rfl rfl (ax.new (T:=68) rfl) rfl rfl (by simp[Value.oneCell']) ?_;intro W2 L2 kg));refine QAJ ?_;intro g1 g2 q1 q2 q3 q4 q5 D2 R2;refine QEK ?_;intro HS;clear hS;refine QEO ?_;intro g hg;rw[hg] at g1 g2 L2 ⊢;refine QDW ?_;intro L2 ld lr lg;have y0:W2.cell? ⟨g,0,none⟩=some (.int .i64 (2)):=L2.out.cell (i:=0) rfl;have gg:=qh g2;have lw:Le W2.heap.size W2:=⟨nR _⟩;have HC:=qh (Ft k.az d.az HV.out c hk hw.1 _ W2.heap.size W2 HT.out.wide (⟨A,cap,rfl,HS.out⟩:ek W2.heap.size W2 (.agg #[.int .i64 (cN c.w:Nat),.string (str (cj c.w)),.slice A c.a.length cap]) (some c)));rw[Q8] at HC;have HB:=qh (KO HV.out c);have HA:Hid (nC d.az c=nj (fm d.az c).2 (Lib.itoa (fm d.az c).1)):=by unfold Hid nC;rw[if_neg nQ]
 obtain⟨x,er,hx⟩:∃x e,fm d.az c=(x,e):=⟨_,_,rfl⟩;rw[hx] at HC HB HA;obtain⟨tx,gr⟩:∃t,Lib.itoa x=t:=⟨_,rfl⟩;have xE:=qh gr;have Ia:Hid (-10000<=x/\x<=1000000):=qh (by have:=HB.out;simp only[] at this;omega);simp only[gr] at HA;clear hx gr HB HS hw Q8 hk b1 b2 kg g1 g2;go_upto_region 9 with(first|(refine cz (cs':=aE k.az d.az) ai rfl _ rfl rfl D2.out (eT k d) rfl ?_)|(refine cz (cs':=#[.int .i64 2,.string (str (cj c.w)),.slice A c.a.length cap]) rowWords rfl _ rfl rfl L2.out rfl rfl ?_)|(go_at_call 60;refine HC.out.mono ?_;rintro e w1 ⟨rfl,δ2,rfl⟩));refine QDZ ?_;intro g3 D3 R3;refine wp_region_held (S:=fun W=>ax W w.heap.size 82 (cD k d)) nP ?_;change wpAnyH _ _ _ _ _ _ _ _ (World.drew _);refine dV 0 (jf k d) rfl nP (cV cx nY _ rfl rfl (fun _ h=>h) rfl) (D3.out) ?_;refine QAC ?_;refine wpH_tq 1 (.int .i64 er) (D3.out) ?_;refine QAC ?_;refine wpH_tq 2 (.int .i64 x) (D3.out) ?_;refine QAC ?_;refine wpAnyH_all (rs:=[3]) nP nV ?_;intro i hi;obtain rfl:=List.mem_singleton.1 hi;refine QAF ?_;refine(yE x Ia.out tx xE.out _).mono ?_;rintro e w1 ⟨rfl,δ23,rfl⟩;refine⟨D3.out.drew.af _,?_⟩;refine QAC ?_;refine wpAnyH_all (rs:=[4]) nP nV ?_;intro i hi;obtain rfl:=List.mem_singleton.1 hi;refine QAF ?_;refine(Ce er tx _).mono ?_;rintro e w1 ⟨rfl,δ24,rfl⟩;refine⟨(D3.out.drew.af _).af _,?_⟩;refine QAC ?_;refine wpAnyH_all (rs:=[5]) nP nV ?_;intro i hi;obtain rfl:=List.mem_singleton.1 hi;refine QBB ?_;refine mu cx _ _ rfl rfl rfl ((R3.out.drew.af _).af _) rfl rfl (dP _ _) ?_;intro W9 C9 k9;refine⟨((D3.out.drew.af _).af _).eM k9 nQ,?_⟩;refine QAC ?_;refine wpH_tq 6 (.string (str (nj er tx))) (((D3.out.drew.af _).af _).eM k9 nQ) ?_;refine QAC ?_;refine wpAnyH_done nP ?_ _;go_wp2_with fail;refine QAT ?_;intro p1 p2;refine QDB ?_;exact jq (k:=k) (d:=d) (w:=w) (W:=W9) (x:=di d l) (k':=k) (d':=d) (by rw[HX.out]) (by first|(rw[HX.out];done)|(rw[HX.out];show _=str (nC d.az c);rw[HA.out])) (cZ.refl) (HO.out.wide)
end
section
open Hd
theorem P0(k:cP)(d:cE)(l:bz)(hl:l.length<=1000)(hv:aG d.az=true)(c:dU)(hr:bK l=.cmd c)(hk:cN c.w=3)(B:Nat)(w:nJ)(hT:aJ B w k.az d.az)[hB:Le B w](hO:dZ w k.oA k.oc d.aC):Calls nH 74 #[jf k d,.string (str l)] w (fh k d w (di d l)):=by
 have hw:=qB hr;have Q8:((cN c.w:Nat):Int)=3:=by rw[hk];rfl
 have HX:Hid (di d l=(d,nC d.az c)):=by unfold Hid di;rw[hr];simp only[];rw[if_neg nQ,if_neg nQ]
 refine QDX ?_;intro HL HV HT HO HR;clear hl hv hT hO hr;go_enter Tryz.func74,Tryz.ntmps74;go_upto_region 1 with fail;refine QAS ?_;intro W1 aH cJ dF cU dA dD eI b1 b2;clear aH;go_upto_region 2 with(first|(go_at_call 27;refine(ke l HL.out _).mono ?_;rw[HR.out];rintro e w1 ⟨v,δ1,rfl,rfl,hx⟩;obtain⟨A,cap,rfl,hS⟩:=hx;rw[Q8])|(refine ak cK rfl _ _ rfl rfl rfl (ax.new (T:=68) rfl) rfl rfl (by simp[Value.oneCell']) ?_;intro W2 L2 kg));refine QAJ ?_;intro g1 g2 q1 q2 q3 q4 q5 D2 R2;refine QEK ?_;intro HS;clear hS;refine QEO ?_;intro g hg;rw[hg] at g1 g2 L2 ⊢;refine QDW ?_;intro L2 ld lr lg;have y0:W2.cell? ⟨g,0,none⟩=some (.int .i64 (3)):=L2.out.cell (i:=0) rfl;have gg:=qh g2;have lw:Le W2.heap.size W2:=⟨nR _⟩;have HC:=qh (MF k.az d.az HV.out c hk _ W2.heap.size W2 HT.out.wide (⟨A,cap,rfl,HS.out⟩:ek W2.heap.size W2 (.agg #[.int .i64 (cN c.w:Nat),.string (str (cj c.w)),.slice A c.a.length cap]) (some c)));rw[Q8] at HC;have HF:=qh (DZ HV.out c);have HA:Hid (nC d.az c=nj (qY d.az c).2 (qz (qY d.az c).1)):=by unfold Hid nC;rw[if_pos hk]
 obtain⟨x,er,hx⟩:∃x e,qY d.az c=(x,e):=⟨_,_,rfl⟩;rw[hx] at HC HF HA;obtain⟨tx,gr⟩:∃t,qz x=t:=⟨_,rfl⟩;have xE:Hid (∀(A:Option Addr) (c B:Nat) (w:nJ),Sl aI B w A c x->Le B w->Calls nH 146 #[.slice A x.length c] w fun e w'=>e=.returned (.string (str tx))/\∃δ,w'=af w δ):=qh fun A c B w h i=>by have:=TB x HF.out A c B w h;rw[gr] at this;exact this
 simp only[gr] at HA;clear hx gr HF HS hw Q8 hk b1 b2 kg g1 g2;go_upto_region 12 with(first|(refine cz (cs':=aE k.az d.az) ai rfl _ rfl rfl D2.out (eT k d) rfl ?_)|(refine cz (cs':=#[.int .i64 3,.string (str (cj c.w)),.slice A c.a.length cap]) rowWords rfl _ rfl rfl L2.out rfl rfl ?_)|(go_at_call 145;refine HC.out.mono ?_;rintro e w1 ⟨lA,ln,lc,δ2,rfl,rfl,rfl,Ah⟩;have uu:=qh Ah;clear Ah));refine QDZ ?_;intro g3 D3 R3;refine wp_region_held (S:=fun W=>ax W w.heap.size 82 (cD k d)) nP ?_;change wpAnyH _ _ _ _ _ _ _ _ (World.drew _);refine dV 0 (jf k d) rfl nP (cV cx nY _ rfl rfl (fun _ h=>h) rfl) (D3.out) ?_;refine QAC ?_;refine wpH_tq 1 (.int .i64 er) (D3.out) ?_;refine QAC ?_;refine wpH_tq 2 (.slice lA x.length lc) (D3.out) ?_;refine QAC ?_;refine wpAnyH_all (rs:=[3]) nP nV ?_;intro i hi;obtain rfl:=List.mem_singleton.1 hi;refine QAF ?_;refine(xE.out lA lc (af W2 δ2).heap.size _ uu.out.up inferInstance).mono ?_;rintro e w1 ⟨rfl,δ23,rfl⟩;refine⟨D3.out.drew.af _,?_⟩;refine QAC ?_;refine wpAnyH_all (rs:=[4]) nP nV ?_;intro i hi;obtain rfl:=List.mem_singleton.1 hi;refine QAF ?_;refine(Ce er tx _).mono ?_;rintro e w1 ⟨rfl,δ24,rfl⟩;refine⟨(D3.out.drew.af _).af _,?_⟩;refine QAC ?_;refine wpAnyH_all (rs:=[5]) nP nV ?_;intro i hi;obtain rfl:=List.mem_singleton.1 hi;refine QBB ?_;refine mu cx _ _ rfl rfl rfl ((R3.out.drew.af _).af _) rfl rfl (dP _ _) ?_;intro W9 C9 k9;refine⟨((D3.out.drew.af _).af _).eM k9 nQ,?_⟩;refine QAC ?_;refine wpH_tq 6 (.string (str (nj er tx))) (((D3.out.drew.af _).af _).eM k9 nQ) ?_;refine QAC ?_;refine wpAnyH_done nP ?_ _;go_wp2_with fail;refine QAT ?_;intro p1 p2;refine QDB ?_;exact jq (k:=k) (d:=d) (w:=w) (W:=W9) (x:=di d l) (k':=k) (d':=d) (by rw[HX.out]) (by first|(rw[HX.out];done)|(rw[HX.out];show _=str (nC d.az c);rw[HA.out])) (cZ.refl) (HO.out.wide)
end
section
open Hd
theorem P3(k:cP)(d:cE)(l:bz)(hl:l.length<=1000)(hv:aG d.az=true)(q c:dU)(s:UInt8)(n:Int)(hr:bK l=.ord q s n c)(h5:d.aC.length=5)(B:Nat)(w:nJ)(hT:aJ B w k.az d.az)[hB:Le B w](hO:dZ w k.oA k.oc d.aC):Calls nH 74 #[jf k d,.string (str l)] w (fh k d w (di d l)):=by
 have HX:Hid (di d l=(d,Ic)):=by unfold Hid di;rw[hr];simp only[];rw[if_pos h5]
 refine QDX ?_;intro HL HV HT HO HR;clear hl hv hT hO hr;go_enter Tryz.func74,Tryz.ntmps74;go_upto_region 1 with fail;refine QAS ?_;intro W1 aH cJ dF cU dA dD eI b1 b2;clear aH;go_upto_region 2 with(first|(go_at_call 27;refine(ke l HL.out _).mono ?_;rw[HR.out];rintro e w1 ⟨v,δ1,rfl,rfl,hx⟩;obtain⟨A,cap,A',cap',rfl,hS,hS'⟩:=hx)|(refine ak cK rfl _ _ rfl rfl rfl (ax.new (T:=68) rfl) rfl rfl (by simp[Value.oneCell']) ?_;intro W2 L2 kg));refine QAJ ?_;intro g1 g2 q1 q2 q3 q4 q5 D2 R2;refine QEO ?_;intro g hg;rw[hg] at g1 g2 L2 ⊢;refine QDW ?_;intro L2 ld lr lg;have y0:W2.cell? ⟨g,0,none⟩=some (.int .i64 (4)):=L2.out.cell (i:=0) rfl;have gg:=qh g2;clear b1 b2 kg g1 g2;refine QFN ?_;intro L4;have h5i:(d.aC.length:Int)=5:=nQ;go_upto_region 15 with fail;go_wp2_with (first|(refine av cx rfl _ rfl rfl D2.out rfl ?_)|(refine ak cx rfl _ _ rfl rfl rfl R2.out rfl rfl (dP _ _) ?_;intro W9 C9 k9));refine QAT ?_;intro p1 p2;refine QDB ?_;exact jq (k:=k) (d:=d) (w:=w) (W:=W9) (x:=di d l) (k':=k) (d':=d) (by rw[HX.out]) (by first|(rw[HX.out];done)|(rw[HX.out];rfl)) (cZ.refl) (HO.out.wide)
theorem wY{c:Bool}{A E:Prop}(hc:c=true)(h:if c=true then A else E):A:=by rw[if_pos hc] at h;exact h
theorem PY(k:cP)(d:cE)(l:bz)(hl:l.length<=1000)(hv:aG d.az=true)(hgv:d.given<=1000)(q c:dU)(s:UInt8)(n:Int)(hr:bK l=.ord q s n c)(h5:d.aC.length<5)(B:Nat)(w:nJ)(hT:aJ B w k.az d.az)[hB:Le B w](hO:dZ w k.oA k.oc d.aC):Calls nH 74 #[jf k d,.string (str l)] w (fh k d w (di d l)):=by
 have HX:Hid (di d l=(⟨d.az,d.aC++[⟨d.given,l⟩],d.given+1⟩,iq)):=by unfold Hid di;rw[hr];simp only[];rw[if_neg nQ]
 refine QDX ?_;intro HL HV HT HO HR;clear hl hv hT hO hr;go_enter Tryz.func74,Tryz.ntmps74;go_upto_region 1 with fail;refine QAS ?_;intro W1 aH cJ dF cU dA dD eI b1 b2;clear aH;go_upto_region 2 with(first|(go_at_call 27;refine(ke l HL.out _).mono ?_;rw[HR.out];rintro e w1 ⟨v,δ1,rfl,rfl,hx⟩;obtain⟨A,cap,A',cap',rfl,hS,hS'⟩:=hx)|(refine ak cK rfl _ _ rfl rfl rfl (ax.new (T:=68) rfl) rfl rfl (by simp[Value.oneCell']) ?_;intro W2 L2 kg));refine QAJ ?_;intro g1 g2 q1 q2 q3 q4 q5 D2 R2;refine QEO ?_;intro g hg;rw[hg] at g1 g2 L2 ⊢;refine QDW ?_;intro L2 ld lr lg;have y0:W2.cell? ⟨g,0,none⟩=some (.int .i64 (4)):=L2.out.cell (i:=0) rfl;have gg:=qh g2;clear b1 b2 kg g1 g2;refine QFN ?_;intro L4;have c15:W2.cell? ⟨w.heap.size,15,none⟩=some (.int .i64 (d.given:Nat)):=D2.out.cell rfl;have fr14:=D2.out.free 14;have h5i:((d.aC.length:Int)==5)=false:=by simp;omega
 have h5n:(d.aC.length==5)=false:=by simp;omega
 have hwr:IntKind.i64.wrap ((d.given:Int)+1)=((d.given+1:Nat):Int):=by rw[IntWalk.i64_in _ nQ];omega
 have jn1:oy w.heap.size W2.heap.size:=⟨q4.out⟩;have jn2:oy B W2.heap.size:=⟨q3.out⟩;have Vj:Hid ((d.aC.flatMap lW).length=d.aC.length*2):=qh (bX lW 2 sY _);go_upto_region 16 with fail;refine eU (S:=fun W=>ax W w.heap.size 82 (cD k d)) (N:=[11]) nP ?_;change wpAnyS _ _ _ _ _ _ _ _ _ (World.drew _);refine wpS_pq 1 (.pointer (some ⟨w.heap.size,14,none⟩)) (fun _=>D2.out.drew) ?_;refine QAC ?_;refine iu 2 (.slice k.oA d.aC.length k.oc) rfl nP (Or.inl ⟨nY,by intro w5 h5;have e:=ax.cell h5 (i:=14) (v:=.slice k.oA d.aC.length k.oc) rfl;go_simp⟩) (D2.out.drew) ?_;refine QAC ?_;refine wpS_pq 4 (.pointer (some ⟨w.heap.size,15,none⟩)) (fun _=>D2.out.drew) ?_;refine QAC ?_;refine iu 5 (.int .i64 (d.given:Nat)) rfl nP (Or.inl ⟨nY,by intro w5 h5;have e:=ax.cell h5 (i:=15) (v:=.int .i64 (d.given:Nat)) rfl;go_simp⟩) (D2.out.drew) ?_;refine QAC ?_;refine wpS_pq 6 (.string (str l)) (fun _=>D2.out.drew) ?_;refine QAC ?_;refine wpS_pq 7 (.agg #[.int .i64 (d.given:Nat),.string (str l)]) (fun _=>D2.out.drew) ?_;refine QAC ?_;refine aY (rs:=[0,8]) (by decide +kernel) nV ?_;intro i hi;simp only[List.mem_cons,List.not_mem_nil,or_false] at hi;rcases hi with rfl|rfl;all_goals refine QBB ?_;unfold Oper.wp;go_simp;refine⟨fun _=>ax.dM D2.out,?_⟩;try simp only[Act.put,List.getElem_toArray,List.getElem_cons_succ,List.getElem_cons_zero,List.setIfInBounds_toArray,List.set_cons_zero,List.set_cons_succ]
 all_goals first|(refine aY (rs:=[3,8]) (by decide +kernel) nV ?_;intro i hi;simp only[List.mem_cons,List.not_mem_nil,or_false] at hi;rcases hi with rfl|rfl)|(refine aY (rs:=[0]) (by decide +kernel) nV ?_;intro i hi;obtain rfl:=List.mem_singleton.1 hi)
 all_goals refine QBB ?_;first|(refine wY (E:=True) nY (fG (ops:=#[]) W2 Y8 (.tmp 70) (.tmp 72) rfl rfl (v:=.slice (some ⟨_,0,none⟩) 0 0) (by first|exact cB (by go_simp;done) (by go_simp;done)|exact(cB (by go_simp;done) (by go_simp;done)).alloc _) rfl (B:=w.heap.size) (A:=k.oA) (m:=d.aC.length) (c:=k.oc) (news:=d.aC.flatMap lW) rfl ((HO.out.plain).up.2.2) Vj.out (ei lW vw _) nQ nQ ?_);intro A1 c1 δ1' eF hg1;refine⟨fun _=>ax.dM D2.out,?_⟩;try simp only[Act.put,List.getElem_toArray,List.getElem_cons_succ,List.getElem_cons_zero,List.setIfInBounds_toArray,List.set_cons_zero,List.set_cons_succ])|(unfold Oper.wp;go_simp;refine⟨fun _=>ax.dM D2.out,?_⟩;try simp only[Act.put,List.getElem_toArray,List.getElem_cons_succ,List.getElem_cons_zero,List.setIfInBounds_toArray,List.set_cons_zero,List.set_cons_succ])
 all_goals first|(refine aY (rs:=[8]) (by decide +kernel) nV ?_;intro i hi;obtain rfl:=List.mem_singleton.1 hi)|(refine aY (rs:=[3]) (by decide +kernel) nV ?_;intro i hi;obtain rfl:=List.mem_singleton.1 hi)
 all_goals refine QBB ?_;first|(refine wY (E:=True) nY (fG (ops:=#[]) W2 Y8 (.tmp 70) (.tmp 72) rfl rfl (v:=.slice (some ⟨_,0,none⟩) 0 0) (by first|exact cB (by go_simp;done) (by go_simp;done)|exact(cB (by go_simp;done) (by go_simp;done)).alloc _) rfl (B:=w.heap.size) (A:=k.oA) (m:=d.aC.length) (c:=k.oc) (news:=d.aC.flatMap lW) rfl ((HO.out.plain).up.2.2) Vj.out (ei lW vw _) nQ nQ ?_);intro A1 c1 δ1' eF hg1;refine⟨fun _=>ax.dM D2.out,?_⟩;try simp only[Act.put,List.getElem_toArray,List.getElem_cons_succ,List.getElem_cons_zero,List.setIfInBounds_toArray,List.set_cons_zero,List.set_cons_succ])|(unfold Oper.wp;go_simp;refine⟨fun _=>ax.dM D2.out,?_⟩;try simp only[Act.put,List.getElem_toArray,List.getElem_cons_succ,List.getElem_cons_zero,List.setIfInBounds_toArray,List.set_cons_zero,List.set_cons_succ])
 all_goals refine aY (rs:=[9]) (by decide +kernel) nV ?_;intro i hi;obtain rfl:=List.mem_singleton.1 hi;refine QBB ?_;refine wY (E:=True) nY (cW (ops:=#[]) W2 Y8 (.tmp 73) (.tmp 78) rfl rfl (v:=.slice A1 d.aC.length c1) (n:=d.aC.length) (xs:=d.aC.flatMap lW) (by first|exact eF|exact eF.alloc _) rfl (m:=1) (c:=1) (news:=lW ⟨d.given,l⟩) rfl (by first|exact gi rfl|(have hl:=QD rfl hg1 (by simp[Value.ownBlock]);exact hl)|(have hl:=Nq rfl hg1 (by simp[Value.ownBlock]);exact hl)) rfl (vw _) nQ nQ ?_);intro A2 c2 δ2 iE mU;refine⟨fun _=>ax.dM D2.out,?_⟩;try simp only[Act.put,List.getElem_toArray,List.getElem_cons_succ,List.getElem_cons_zero,List.setIfInBounds_toArray,List.set_cons_zero,List.set_cons_succ]
 all_goals refine wpS_pq 10 (.pointer (some ⟨w.heap.size,14,none⟩)) (fun _=>ax.dM D2.out) ?_;refine QAC ?_;refine aY (rs:=[11]) (by decide +kernel) nV ?_;intro i hi;obtain rfl:=List.mem_singleton.1 hi;refine QAF ?_;refine⟨fun h=>absurd h nU,?_⟩;refine QAC ?_;refine eW nP ?_ _
 all_goals
  go_upto_region 17 with fail;refine QBN ?_;intro W3 bQ q8 wu;have D3:Hid (ax W3 w.heap.size 82 (cD ⟨k.az,A2,c2⟩ ⟨d.az,d.aC++[⟨d.given,l⟩],d.given⟩)):=by rw[bQ.out,Ko];exact qh (ax.set (ax.dM D2.out) 14 _)
  have R3:Hid (ax W3 (w.heap.size+1) 82 (cD mJ mK)):=by rw[bQ.out];exact qh (ax.fD (ax.dM R2.out) (by show w.heap.size+1≠w.heap.size;omega) _)
  have O3:Hid (dZ W3 A2 c2 (d.aC++[⟨d.given,l⟩])):=by rw[bQ.out];exact qh (P7 (ownsRow_setCell_below iE (a:=⟨w.heap.size,14,none⟩) ld.out _))
  have ahp:W3.cell? ⟨w.heap.size,15,none⟩=some (.int .i64 (d.given:Nat)):=D3.out.cell rfl;have fr15:=D3.out.free 15;have lD3:=D3.out.lt;clear eF iE hg1 mU bQ;go_upto_region 18 with fail;refine aL fun W4 jQ=>?_;have p8:au w.heap.size w W4:=gu jQ;have p10:Le w.heap.size W4:=fI jQ;have D4:Hid (ax W4 w.heap.size 82 (cD ⟨k.az,A2,c2⟩ ⟨d.az,d.aC++[⟨d.given,l⟩],d.given+1⟩)):=by rw[jQ.out];exact qh (D3.out.set 15 _)
  have R4:Hid (ax W4 (w.heap.size+1) 82 (cD mJ mK)):=by rw[jQ.out];exact qh (R3.out.fD (by show w.heap.size+1≠w.heap.size;omega) _)
  have O4:Hid (dZ W4 A2 c2 (d.aC++[⟨d.given,l⟩])):=by rw[jQ.out];exact qh (O3.out.aR ((bH.refl (fun x=>x=w.heap.size) W3).set (b:=w.heap.size) rfl 15 _) D3.out nU (nR _))
  clear jQ D3 R3 O3;go_wp2_with (first|(refine av cx rfl _ rfl rfl D4.out rfl ?_)|(refine ak cx rfl _ _ rfl rfl rfl R4.out rfl rfl (dP _ _) ?_;intro W9 C9 k9));refine QAT ?_;intro p1 p2;refine QDB ?_;exact jq (k:=k) (d:=d) (w:=w) (W:=W9) (x:=di d l) (k':=⟨k.az,A2,c2⟩) (d':=⟨d.az,d.aC++[⟨d.given,l⟩],d.given+1⟩) (by rw[HX.out]) (by first|(rw[HX.out];done)|(rw[HX.out];rfl)) (cZ.refl) (O4.out.aR k9 R4.out nU (nR _))
end
section
open Hd
theorem Jm(k:cP)(d:cE)(l:bz)(hl:l.length<=1000)(hv:aG d.az=true)(h5:d.aC.length<=5)(x:Int)(hr:bK l=.cmd ⟨.forget,[x]⟩)(B:Nat)(w:nJ)(hT:aJ B w k.az d.az)[hB:Le B w](hO:dZ w k.oA k.oc d.aC):Calls nH 74 #[jf k d,.string (str l)] w (fh k d w (di d l)):=by
 have HX:Hid (di d l=(match d.aC.findIdx? (fun o=>decide ((o.num:Int)=x)) with|none=>(d,Ic)|some i=>(⟨d.az,d.aC.eraseIdx i,d.given⟩,iq))):=by unfold Hid di;rw[hr];simp only[];rw[if_neg (by show ¬cN .forget=1;decide),if_pos (by show cN .forget=5;decide)];rfl
 refine QDX ?_;intro HL HV HT HO HR;clear hl hv hT hO hr;go_enter Tryz.func74,Tryz.ntmps74;go_upto_region 1 with fail;refine QAS ?_;intro W1 aH cJ dF cU dA dD eI b1 b2;clear aH;go_upto_region 2 with(first|(go_at_call 27;refine(ke l HL.out _).mono ?_;rw[HR.out];rintro e w1 ⟨v,δ1,rfl,rfl,hx⟩;obtain⟨A,cap,rfl,hS⟩:=hx;rw[show((cN (dU.mk .forget [x]).w:Nat):Int)=5 from rfl];obtain⟨tw,htw⟩:∃t,cj (dU.mk .forget [x]).w=t:=⟨_,rfl⟩;rw[htw])|(refine ak cK rfl _ _ rfl rfl rfl (ax.new (T:=68) rfl) rfl rfl (by simp[Value.oneCell']) ?_;intro W2 L2 kg));refine QAJ ?_;intro g1 g2 q1 q2 q3 q4 q5 D2 R2;have HS:Hid (fN 3 aI W2.heap.size W2 A cap [x]):=qh ((hS.up (w':=(af W1 δ1).alloc _)).aR kg (ax.new rfl) nU nV);clear hS;refine QEO ?_;intro g hg;rw[hg] at g1 g2 L2 ⊢;refine QDW ?_;intro L2 ld lr lg;have y0:W2.cell? ⟨g,0,none⟩=some (.int .i64 (5)):=L2.out.cell (i:=0) rfl;have gg:=qh g2;clear b1 b2 kg g1 g2;obtain⟨la,lo,hA,hlb,dx⟩:=HS.out.plain.int (k:=0) nV;have ilb:Lt la W2:=⟨hlb⟩;have dx:W2.cell? ⟨la,lo,none⟩=some (.int .i64 x):=dx;have z3:W2.cell? ⟨g,3,none⟩=some (.slice (some ⟨la,lo,none⟩) 1 cap):=by rw[<-hA];exact L2.out.cell rfl
 refine QFN ?_;intro L4;have fr14:=D2.out.free 14;have Bg:Hid (dZ W2 k.oA k.oc d.aC):=qh HO.out.wide;clear hA hlb HS;go_upto_region 21 with fail;go_loopg [13] d.aC.length (fun gn i wr=>∃(j:Nat) (δ:nJ),j<=d.aC.length/\gn=d.aC.length-j/\i=.int .i64 j/\wr=af W2 δ/\Hid (∀m,m<j->((nth d.aC m).num:Int)≠x))
 case atStart=>exact⟨0,W2,nE _,rfl,rfl,(bw W2).symm,qh fun m hm=>absurd hm (Nat.not_lt_zero _)⟩
 case round=>
  obtain⟨j,δ,hj,rfl,rfl,rfl,HN⟩:=hrel;by_cases hlt:j<d.aC.length
  ·have hji:(j:Int)<(d.aC.length:Int):=nQ;have hj0:¬(j:Int)<0:=nQ;obtain⟨ob,oo,Et,DQ,e0,e1⟩:=Bg.out.plain.order hlt;have iob:Lt ob W2:=⟨DQ⟩;rw[Et] at L4;obtain⟨nm,hnm⟩:∃v,(nth d.aC j).num=v:=⟨_,rfl⟩;rw[hnm] at e0;clear DQ e1;by_cases hx:(nm:Int)=x
   ·have Ui:((nm:Int)==x)=true:=by simp[hx]
    have HOR:Hid (dZ W2 (some ⟨ob,oo,none⟩) k.oc d.aC):=by rw[<-Et];exact Bg
    have h6:d.aC.length<=1000:=nQ;have HXS:Hid (di d l=(⟨d.az,d.aC.eraseIdx j,d.given⟩,iq)):=by unfold Hid;rw[HX.out,uN (j:=j) hlt (by simp[hnm,hx]) fun m hm=>by simpa using HN.out m hm]
    clear HX HN hx Et hnm;have HX:=HXS;go_upto_region 23 with fail;refine wpRl ?_;repeat (go_big_quiet_step ((first|(fail))))
    refine QBT ?_;rintro _ ⟨δq,rfl⟩;go_upto_region 25 with(go_at_call 147;refine(xL d.aC j hlt h6 (some ⟨ob,oo,none⟩) k.oc W2.heap.size _ HOR.out.plain.up).mono ?_;rintro e w1 ⟨A',c',δ',rfl,rfl,hO'⟩;have Vh:=qh hO';clear hO');refine QBN ?_;intro W3 bQ q8 wu;have D3:Hid (ax W3 w.heap.size 82 (cD ⟨k.az,A',c'⟩ ⟨d.az,d.aC.eraseIdx j,d.given⟩)):=by rw[bQ.out];exact qh (ax.set (ax.dM D2.out) 14 _)
    have R3:Hid (ax W3 (w.heap.size+1) 82 (cD mJ mK)):=by rw[bQ.out];exact qh (ax.fD (ax.dM R2.out) (by show w.heap.size+1≠w.heap.size;omega) _)
    have O3:Hid (dZ W3 A' c' (d.aC.eraseIdx j)):=by rw[bQ.out];exact qh (Vh.out.aR ((bH.refl (fun x=>x=w.heap.size) _).set (b:=w.heap.size) rfl 14 _) (ax.dM D2.out) nU (nR _))
    clear Vh bQ;go_wp2_with (first|(refine av cx rfl _ rfl rfl D3.out rfl ?_)|(refine ak cx rfl _ _ rfl rfl rfl R3.out rfl rfl (dP _ _) ?_;intro W9 C9 k9));refine QAT ?_;intro p1 p2;refine QDB ?_;exact jq (k:=k) (d:=d) (w:=w) (W:=W9) (x:=di d l) (k':=⟨k.az,A',c'⟩) (d':=⟨d.az,d.aC.eraseIdx j,d.given⟩) (by rw[HX.out]) (by first|(rw[HX.out];done)|(rw[HX.out];rfl)) (cZ.refl) (O3.out.aR k9 R3.out nU (nR _))
   ·have Ui:((nm:Int)==x)=false:=by simp[hx]
    go_upto_region 23 with fail;refine wpRl ?_;repeat (go_big_quiet_step ((first|(fail))))
    refine QBT ?_;rintro _ ⟨δq,rfl⟩;go_wp2_with fail;go_roundg (d.aC.length-(j+1))
    case measure=>omega
    case rel=>
     refine⟨j+1,_,nQ,rfl,by go_num,aq,qh fun m hm=>?_⟩;rcases Nat.lt_succ_iff_lt_or_eq.1 hm with h|rfl
     ·exact HN.out m h
     ·rw[hnm];exact hx
  ·obtain rfl:j=d.aC.length:=by omega
   have hjn:¬((d.aC.length:Int)<(d.aC.length:Int)):=nQ;have HXS:Hid (di d l=(d,Ic)):=by unfold Hid;rw[HX.out,uO fun m hm=>by simpa using HN.out m hm]
   clear HX HN;have HX:=HXS;have D3:Hid (ax (af W2 δ) w.heap.size 82 (cD k d)):=qh (D2.out.af _);have R3:Hid (ax (af W2 δ) (w.heap.size+1) 82 (cD mJ mK)):=qh (R2.out.af _);go_upto_region 26 with fail;go_wp2_with (first|(refine av cx rfl _ rfl rfl D3.out rfl ?_)|(refine ak cx rfl _ _ rfl rfl rfl R3.out rfl rfl (dP _ _) ?_;intro W9 C9 k9));refine QAT ?_;intro p1 p2;refine QDB ?_;exact jq (k:=k) (d:=d) (w:=w) (W:=W9) (x:=di d l) (k':=k) (d':=d) (by rw[HX.out]) (by first|(rw[HX.out];done)|(rw[HX.out];rfl)) (cZ.refl) (HO.out.wide)
end
section
open Hd
theorem Wz(k:cP)(d:cE)(l:bz)(hl:l.length<=1000)(hv:aG d.az=true)(ho:gL d.aC)(hg:d.given<=1000)(B:Nat)(w:nJ)(hT:aJ B w k.az d.az)[hB:Le B w](hO:dZ w k.oA k.oc d.aC):Calls nH 74 #[jf k d,.string (str l)] w (fh k d w (di d l)):=by
 cases hr:bK l with
 |none=>exact PZ k d l hl hv hr B w hT hO
 |cmd c=>
  rcases qF c.w with hk|hk|hk|hk
  ·exact Jn k d l hl hv c hr hk B w hT hO
  ·exact TK k d l hl hv c hr hk B w hT hO
  ·exact P0 k d l hl hv c hr hk B w hT hO
  ·obtain⟨dw,a⟩:=c;have hw:=(qB hr).1;cases dw with
   |forget=>
    match a,hw with
    |[x],_=>exact Jm k d l hl hv ho.1 x hr B w hT hO
   |aP=>exact absurd hk (by show ¬cN .aP=5;decide)
   |current=>exact absurd hk (by show ¬cN .current=5;decide)
   |gE=>exact absurd hk (by show ¬cN .gE=5;decide)
   |ah=>exact absurd hk (by show ¬cN .ah=5;decide)
   |ng=>exact absurd hk (by show ¬cN .ng=5;decide)
   |ey=>exact absurd hk (by show ¬cN .ey=5;decide)
   |eX=>exact absurd hk (by show ¬cN .eX=5;decide)
   |part=>exact absurd hk (by show ¬cN .part=5;decide)
   |fM=>exact absurd hk (by show ¬cN .fM=5;decide)
   |safe=>exact absurd hk (by show ¬cN .safe=5;decide)
   |gy=>exact absurd hk (by show ¬cN .gy=5;decide)
   |kr=>exact absurd hk (by show ¬cN .kr=5;decide)
   |done=>exact absurd hk (by show ¬cN .done=5;decide)
   |fU=>exact absurd hk (by show ¬cN .fU=5;decide)
   |yu=>exact absurd hk (by show ¬cN .yu=5;decide)
   |early=>exact absurd hk (by show ¬cN .early=5;decide)
   |nw=>exact absurd hk (by show ¬cN .nw=5;decide)
   |order=>exact absurd hk (by show ¬cN .order=5;decide)
   |pack=>exact absurd hk (by show ¬cN .pack=5;decide)
 |ord q s n c=>
  by_cases h5:d.aC.length=5
  ·exact P3 k d l hl hv q c s n hr h5 B w hT hO
  ·exact PY k d l hl hv hg q c s n hr (by have:=ho.1;omega) B w hT hO
end
section
open Hd
def oZ(os:List Ord):Prop:=∀o∈os,o.num<=1000/\o.line.length<=1000
theorem mB{os:List Ord}(h:oZ os)(i:Nat):oZ (os.eraseIdx i):=fun o ho=>h o (List.mem_of_mem_eraseIdx ho)
theorem vg{n:Nat}(h:n<=1000)(b:Bool):(lZ n b).length<=20:=by
 have h1:(Lib.itoa (n:Int)).length<=5:=sN 3 nQ;have h2:(me b).length=2:=by cases b<;>rfl
 unfold lZ;simp only[List.length_append,List.length_cons,h2];omega
theorem uC(m:Nat):∀d:cE,oZ d.aC->(dO m d).2.length<=m*20:=by
 induction m with
 |zero=>intro d _;exact nE _
 |succ m ih=>
  intro d hn
  rw[dO]
  cases hf:ie d.az d.aC with
  |none=>exact nE _
  |some i=>
   simp only[List.length_append]
   have h1:=vg (hn _ (aV d.aC (Aq hf).1)).1 (fW d.az (yU (bK (nth d.aC i).line))).isSome
   have h2:=ih ⟨iH d.az (yU (bK (nth d.aC i).line)),d.aC.eraseIdx i,d.given⟩ (mB hn i)
   omega
theorem Sl.Zf{B:Nat}{w:nJ}{b o c:Nat}{xs:List Ord}(h:Sl lW B w (some ⟨b,o,none⟩) c xs){k:Nat}(hk:k<xs.length):w.cell? ⟨b,o+k*2,none⟩=some (.int .i64 ((nth xs k).num:Nat))/\w.cell? ⟨b,o+k*2+1,none⟩=some (.string (str (nth xs k).line)):=by obtain⟨b',o',e,_,d⟩:=h.order hk;injection e with e;injection e with e1 e2;subst e1;subst e2;exact d
def SA(m:Nat):Prop:=∀(k:cP) (d:cE),aG d.az=true->gL d.aC->oZ d.aC->d.aC.length=m->∀(B:Nat) (w:nJ),aJ B w k.az d.az->Le B w->dZ w k.oA k.oc d.aC ->
 Calls nH 75 #[jf k d] w (fh k d w (dO m d))
theorem xY{t:aW}{os:List Ord}(h:∀m,m<os.length->ni t (bK (nth os m).line)=false):ie t os=none:=uO h
theorem xX{t:aW}{os:List Ord}{j:Nat}(hj:j<os.length)(h:ni t (bK (nth os j).line)=true)(hn:∀m,m<j->ni t (bK (nth os m).line)=false):ie t os=some j:=uN hj h hn
theorem xP(m:Nat)(IH:∀m',m'+1=m->SA m'):SA m:=by
 intro k d hv ho hn hm B w hT hB hO;have HV:=qh hv;have OO:=qh ho;have YY:=qh hn;have HT:=qh hT;have HM:=qh hm;have Vk:=qh IH;have aah:d.aC.length<=1000:=by have:=ho.1;omega
 clear hv ho hn hm IH;go_enter Tryz.func75,Tryz.ntmps75;go_upto_region 1 with fail;refine QAS ?_;intro W1 aH cJ dF cU dA dD eI b1 b2;have L4:W1.cell? ⟨w.heap.size,14,none⟩=some (.slice k.oA d.aC.length k.oc):=b1.out.cell rfl;have Bg:Hid (dZ W1 k.oA k.oc d.aC):=qh hO.wide;clear aH hO hT;have jl1:oy w.heap.size W1.heap.size:=⟨cU.out⟩;have jl2:oy B W1.heap.size:=⟨cJ.out⟩;go_upto_region 2 with fail;go_loopg [4] d.aC.length (fun gn i wr=>∃j:Nat,j<=d.aC.length/\gn=d.aC.length-j/\i=.int .i64 j/\au W1.heap.size W1 wr/\Le W1.heap.size wr/\Hid (∀p,p<j->ni d.az (bK (nth d.aC p).line)=false))
 case atStart=>exact⟨0,nE _,rfl,rfl,inferInstance,inferInstance,qh fun p hp=>absurd hp (Nat.not_lt_zero _)⟩
 case round=>
  obtain⟨j,hj,rfl,rfl,i1,i2,HN⟩:=hrel;have D1:Hid (ax wr w.heap.size 82 (cD k d)):=qh b1.out.dM;have R1:Hid (ax wr (w.heap.size+1) 82 (cD mJ mK)):=qh b2.out.dM;have lD:=D1.out.lt;have lR:=R1.out.lt;have a1:au w.heap.size w wr:=⟨⟨i1.out.1.trans dA.out.1,i1.out.2.1.trans dA.out.2.1,i1.out.2.2.1.trans dA.out.2.2.1,fun b hb=>(i1.out.2.2.2 b (nL hb cU.out)).trans (dA.out.2.2.2 b hb)⟩⟩;have a2:Le w.heap.size wr:=⟨nT cU.out i2.out⟩;have a3:au B w wr:=⟨⟨a1.out.1,a1.out.2.1,a1.out.2.2.1,fun b hb=>a1.out.2.2.2 b (nL hb hB.out)⟩⟩;have a4:Le B wr:=⟨nT hB.out a2.out⟩;have aaq:wr.cell? ⟨w.heap.size,14,none⟩=some (.slice k.oA d.aC.length k.oc):=D1.out.cell rfl;by_cases hlt:j<d.aC.length
  ·have hji:(j:Int)<(d.aC.length:Int):=nQ;have hj0:¬(j:Int)<0:=nQ;obtain⟨ob,oo,Et,DQ,_⟩:=Bg.out.plain.order hlt;have HOR:Hid (dZ W1 (some ⟨ob,oo,none⟩) k.oc d.aC):=by rw[<-Et];exact Bg
   rw[Et] at aaq;have iob:Lt ob wr:=⟨nL DQ i2.out⟩;have iob3:Lt ob W1:=⟨DQ⟩;obtain⟨e0,e1⟩:=(HOR.out.up (w':=wr)).plain.Zf hlt;obtain⟨q,s,n,c,hr⟩:=OO.out.2 _ (aV d.aC hlt);have hNB:=YY.out _ (aV d.aC hlt);have HPa:=qh (uH hr);have HR:=qh hr;have OS:Hid (ni d.az (bK (nth d.aC j).line)=cY d.az q s n):=by unfold Hid;rw[hr];rfl
   obtain⟨nm,hnm⟩:∃v,(nth d.aC j).num=v:=⟨_,rfl⟩;obtain⟨ln,jg⟩:∃v,(nth d.aC j).line=v:=⟨_,rfl⟩;rw[jg] at e1 HR hNB OS;rw[hnm] at e0 hNB;clear hr DQ;go_upto_region 5 with(first|(go_at_call 27;refine(ke ln hNB.2 _).mono ?_;rw[HR.out];rintro e w1 ⟨v,δ1,rfl,rfl,hx⟩;obtain⟨A,cap,A',cap',rfl,hS,hS'⟩:=hx)|(refine ak cK rfl _ _ rfl rfl rfl (ax.new (T:=68) rfl) rfl rfl (by simp[Value.oneCell']) ?_;intro W2 L2 kg));have g1:W1.heap.size<=(af wr δ1).heap.size:=(inferInstance:Le W1.heap.size (af wr δ1)).out;have g2:wr.heap.size<=(af wr δ1).heap.size:=(inferInstance:Le wr.heap.size (af wr δ1)).out;have q1:au W1.heap.size W1 W2:=cm kg g1;have q2:Le W1.heap.size W2:=dB kg;have q3:au w.heap.size w W2:=cm kg (nT cU.out g1);have q4:Le w.heap.size W2:=dB kg;have q5:au B w W2:=cm kg (nT cJ.out g1);have q6:Le B W2:=dB kg;have D2:Hid (ax W2 w.heap.size 82 (cD k d)):=qh (((D1.out.af _).alloc _).eM kg (Nat.ne_of_lt (nL lD.out g2)));have R2:Hid (ax W2 (w.heap.size+1) 82 (cD mJ mK)):=qh (((R1.out.af _).alloc _).eM kg (Nat.ne_of_lt (nL lR.out g2)));have HLI:Hid (mF W2.heap.size W2 (.agg #[.int .i64 4,.int .i64 (cN q.w:Nat),.string (str (cj q.w)),.slice A q.a.length cap,.int .i64 (cN c.w:Nat),.string (str (cj c.w)),.slice A' c.a.length cap',.string (str [s]),.int .i64 n]) (.ord q s n c)):=
    qh ⟨A,cap,A',cap',rfl,(hS.up (w':=(af wr δ1).alloc _)).aR kg (ax.new rfl) nU nV,(hS'.up (w':=(af wr δ1).alloc _)).aR kg (ax.new rfl) nU nV⟩
   have HWI:Hid (ek W2.heap.size W2 (.agg #[.int .i64 (cN c.w:Nat),.string (str (cj c.w)),.slice A' c.a.length cap']) (some c)):=
    qh ⟨A',cap',rfl,(hS'.up (w':=(af wr δ1).alloc _)).aR kg (ax.new rfl) nU nV⟩
   obtain⟨g,hg⟩:∃g,(af wr δ1).heap.size=g:=⟨_,rfl⟩;rw[hg] at L2 ⊢;have L2:=qh L2;have lD2:=D2.out.lt;have lR2:=R2.out.lt;have lg:=L2.out.lt;have lS:Le W2.heap.size W2:=⟨nR _⟩;have HH:Hid (Calls nH 26 #[aO k.az d.az,.agg #[.int .i64 4,.int .i64 (cN q.w:Nat),.string (str (cj q.w)),.slice A q.a.length cap,.int .i64 (cN c.w:Nat),.string (str (cj c.w)),.slice A' c.a.length cap',.string (str [s]),.int .i64 n]] W2 fun e w'=>e=.returned (.bool (cY d.az q s n))/\∃δ,w'=af W2 δ):=
    qh (vl k.az d.az HV.out q c s n HPa.out.1 HPa.out.2.1 HPa.out.2.2.2.2 _ W2.heap.size W2 HT.out.wide HLI.out)
   clear hS hS' kg hg g1 g2 D1 R1 e0 e1 aaq;rcases hh:cY d.az q s n with _|_
   ·rw[hh] at HH OS;clear hh;go_wp2_with (first|(refine cz (cs':=aE k.az d.az) ai rfl _ rfl rfl D2.out (eT k d) rfl ?_)|(refine av cK rfl _ rfl rfl L2.out rfl ?_)|(go_at_call 26;refine HH.out.mono ?_;rintro e w1 ⟨rfl,δ2,rfl⟩));go_roundg (d.aC.length-(j+1))
    case measure=>omega
    case rel=>
     refine⟨j+1,nQ,rfl,by go_num,inferInstance,inferInstance,qh fun p hp=>?_⟩;rcases Nat.lt_succ_iff_lt_or_eq.1 hp with h|rfl
     ·exact HN.out p h
     ·rw[jg];exact OS.out
   ·rw[hh] at HH OS;clear hh;have HKC:=HPa.out.2.2.1;have HLC:=HPa.out.2.2.2.1;have FO:Hid (ie d.az d.aC=some j):=qh (xX hlt (by rw[jg];exact OS.out) HN.out);obtain⟨m',rfl⟩:∃m',m=m'+1:=⟨m-1,by have:=HM.out;omega⟩;have HC:Hid (∀(B':Nat) (W:nJ),aJ B' W k.az d.az->Le B' W->ek B' W (.agg #[.int .i64 (cN c.w:Nat),.string (str (cj c.w)),.slice A' c.a.length cap']) (some c)->Calls nH 142 #[aO k.az d.az,.agg #[.int .i64 (cN c.w:Nat),.string (str (cj c.w)),.slice A' c.a.length cap']] W (gC k.az d.az c W)):=qh fun B' W h i h2=>zu k.az d.az HV.out c HKC HLC _ B' W h h2;have HX:Hid (dO (m'+1) d=((dO m' ⟨iH d.az c,d.aC.eraseIdx j,d.given⟩).1,lZ nm (fW d.az c).isSome++(dO m' ⟨iH d.az c,d.aC.eraseIdx j,d.given⟩).2)):=by unfold Hid;rw[dO,FO.out];simp only[jg,hnm];rw[HR.out];rfl
    have HVt:=qh (rI HV.out c);have HTL:=qh (uC m' ⟨iH d.az c,d.aC.eraseIdx j,d.given⟩ (mB YY.out j));unfold gC at HC;refine QDR ?_;intro td Cz bb ir;rw[Cz,ir] at HC HX;rw[Cz] at HTL HVt;have ON:=qh (vg hNB.1 bb);have yx:Hid (∀(k':cP) (B:Nat) (w:nJ),aJ B w k'.az td->Le B w->dZ w k'.oA k'.oc (d.aC.eraseIdx j)->Calls nH 75 #[jf k' ⟨td,d.aC.eraseIdx j,d.given⟩] w (fh k' ⟨td,d.aC.eraseIdx j,d.given⟩ w (dO m' ⟨td,d.aC.eraseIdx j,d.given⟩))):=qh fun k' B w h1 h2 h3=>Vk.out m' rfl k' ⟨td,d.aC.eraseIdx j,d.given⟩ HVt.out (qW OO.out j) (mB YY.out j) (by have:=HM.out;show(d.aC.eraseIdx j).length=m';rw[List.length_eraseIdx];simp[hlt];omega) B w h1 h2 h3;obtain⟨xd,xt,hx⟩:∃xd xt,dO m' ⟨td,d.aC.eraseIdx j,d.given⟩=(xd,xt):=⟨_,_,rfl⟩;rw[hx] at HX yx HTL;have hm5:m'<=5:=by have:=OO.out.1;have:=HM.out;omega
    have hxt:xt.length<=1000:=by have:=HTL.out;simp only[] at this;omega
    unfold fh at yx;clear Cz ir hx HTL jg HR OS FO HN HKC HLC;go_upto_region 6 with(first|(refine cz (cs':=aE k.az d.az) ai rfl _ rfl rfl D2.out (eT k d) rfl ?_)|(refine av cK rfl _ rfl rfl L2.out rfl ?_)|(go_at_call 26;refine HH.out.mono ?_;rintro e w1 ⟨rfl,δ2,rfl⟩));go_upto_region 7 with(first|(refine cz (cs':=aE k.az d.az) ai rfl _ rfl rfl (D2.out.af _) (eT k d) rfl ?_)|(refine cz (cs':=#[.int .i64 (cN c.w:Nat),.string (str (cj c.w)),.slice A' c.a.length cap']) rowWords rfl _ rfl rfl (L2.out.af _) rfl rfl ?_)|(go_at_call 142;refine(HC.out (af W2 δ2).heap.size _ HT.out.wide ⟨nR _⟩ HWI.out.wide).mono ?_;rintro e w1 ⟨r',δ3,rfl,rfl,Rl⟩)|(refine ak ai rfl _ _ rfl rfl rfl (ax.new (T:=39) rfl) rfl rfl (aM _ _) ?_;intro W3 T3 k3));have g3:W2.heap.size<=(af (af W2 δ2) δ3).heap.size:=(inferInstance:Le W2.heap.size (af (af W2 δ2) δ3)).out;have m1:au W1.heap.size W1 W3:=cm k3 (nT q2.out g3);have m2:Le W1.heap.size W3:=dB k3;have m3:au w.heap.size w W3:=cm k3 (nT q4.out g3);have m4:Le w.heap.size W3:=dB k3;have D3:Hid (ax W3 w.heap.size 82 (cD k d)):=qh ((((D2.out.af _).af _).alloc _).eM k3 (Nat.ne_of_lt (nL lD2.out g3)));have R3:Hid (ax W3 (w.heap.size+1) 82 (cD mJ mK)):=qh ((((R2.out.af _).af _).alloc _).eM k3 (Nat.ne_of_lt (nL lR2.out g3)));have T3:=qh T3;have To3:Hid (cZ k.az d.az w r' td W3):=qh (((Rl.up (W':=(af (af W2 δ2) δ3).alloc _)).aR k3 (ax.new rfl) nU).from_ (inferInstance:Le w.heap.size (af W2 δ2)).out);have e14:W3.cell? ⟨w.heap.size,14,none⟩=some (.slice (some ⟨ob,oo,none⟩) d.aC.length k.oc):=by rw[<-Et];exact D3.out.cell rfl
    obtain⟨e0,e1⟩:=(HOR.out.up (w':=W3)).plain.Zf hlt;rw[hnm] at e0;have lD3:=D3.out.lt;have lob:Lt ob W3:=⟨nL iob3.out m2.out⟩;obtain⟨tx,gr⟩:∃t,Lib.itoa (nm:Int)=t:=⟨_,rfl⟩;have xE:=qh gr;have hnB:Hid (-10000<=(nm:Int)/\(nm:Int)<=1000000):=qh (by have:=hNB.1;omega);have Ve:Hid (lZ nm bb=32::tx++[58]++me bb):=by unfold Hid lZ;rw[gr];simp
    have ym:(32::tx++[58]++me bb).length<=20:=by rw[<-Ve.out];exact ON.out
    obtain⟨yt,Xl⟩:∃t,me bb=t:=⟨_,rfl⟩;have HYT:Hid (∀W:nJ,Calls nH 143 #[.bool bb] W fun e w'=>e=.returned (.string (str yt))/\∃δ,w'=af W δ):=qh fun W=>by rw[<-Xl];exact PR bb W
    rw[Xl] at ym Ve;obtain⟨u1,hu1⟩:∃t,32::tx=t:=⟨_,rfl⟩;rw[hu1] at ym Ve;have l1:tx.length+1=u1.length:=by rw[<-hu1];rfl
    have l3:(u1++[58]++yt).length=u1.length+1+yt.length:=by simp[Nat.add_comm,Nat.add_left_comm]
    refine QFP ?_;intro s1;obtain⟨u2,Vy⟩:∃t,u1++[58]=t:=⟨_,rfl⟩;refine QFQ ?_;intro s2;have l2:u2.length=u1.length+1:=by rw[<-Vy];simp
    rw[Vy] at ym Ve l3;obtain⟨tl,Ih⟩:∃t,u2++yt=t:=⟨_,rfl⟩;have s3:∀W:nJ,(Op.stringOp .add (str u2) (str yt)).run nH W=.ok (.string (str tl)) W:=fun W=>by rw[<-Ih];exact gp (P:=nH) W u2 yt nQ
    rw[Ih] at ym Ve;have s4:∀W:nJ,(Op.stringOp .add (str tl) (str xt)).run nH W=.ok (.string (str (tl++xt))) W:=fun W=>gp (P:=nH) W tl xt nQ;clear gr Xl Ih hu1 Vy l1 l2 l3 ym hnm Rl k3 D2 R2 L2 HLI HWI HH HC lD2 lR2 lg g3;go_upto_region 8 with(first|(go_at_call 46;refine(yE (nm:Int) hnB.out tx xE.out _).mono ?_;rintro e w1 ⟨rfl,δ4,rfl⟩)|(go_at_call 143;refine(HYT.out _).mono ?_;rintro e w1 ⟨rfl,δ5,rfl⟩));have g4:W3.heap.size<=(af (af W3 δ4) δ5).heap.size:=(inferInstance:Le W3.heap.size (af (af W3 δ4) δ5)).out;have D4:Hid (ax (af (af W3 δ4) δ5) w.heap.size 82 (cD k d)):=qh ((D3.out.af _).af _);have T4:Hid (ax (af (af W3 δ4) δ5) _ _ _):=qh ((T3.out.af _).af _);have To4:Hid (cZ k.az d.az w r' td (af (af W3 δ4) δ5)):=qh To3.out.up;go_upto_region 9 with(first|(refine av ai rfl _ rfl rfl T4.out rfl ?_)|(refine mZ ai rfl _ _ rfl rfl rfl D4.out rfl (AA k d) (aM _ _) (Az k d r' td) ?_;intro W5 D5 k5));have D5:=qh D5;have v1:au W1.heap.size W1 (af (af W3 δ4) δ5):=inferInstance;have v3:au w.heap.size w W5:=cm k5 (nR _);have v4:Le w.heap.size W5:=dB k5;have v5:Le W1.heap.size W5:=dB k5;have R5:Hid (ax W5 (w.heap.size+1) 82 (cD mJ mK)):=qh (((R3.out.af _).af _).eM k5 nQ);have To5:Hid (cZ k.az d.az w r' td W5):=qh (To4.out.aR k5 D4.out nU);have HO5:Hid (dZ W5 (some ⟨ob,oo,none⟩) k.oc d.aC):=qh ((HOR.out.up (w':=af (af W3 δ4) δ5)).aR k5 D4.out nU (inferInstance:Le W1.heap.size (af (af W3 δ4) δ5)).out);have f14:W5.cell? ⟨w.heap.size,14,none⟩=some (.slice (some ⟨ob,oo,none⟩) d.aC.length k.oc):=by rw[<-Et];exact D5.out.cell rfl
    have fr14:=D5.out.free 14;have lD5:=D5.out.lt;have lS5:Le W5.heap.size W5:=⟨nR _⟩;clear To4 T4 D4 k5 T3 D3 R3 To3 e14 e0 e1 lD3 lob s1 s2 s3 xE HYT g4;go_upto_region 10 with(go_at_call 147;refine(xL d.aC j hlt aah (some ⟨ob,oo,none⟩) k.oc W5.heap.size _ HO5.out.plain).mono ?_;rintro e w1 ⟨A2,c2,δ6,rfl,rfl,hO'⟩;have Vh:=qh hO';clear hO');refine aL fun W6 SP=>?_;have w3:au w.heap.size w W6:=gu SP;have w4:Le w.heap.size W6:=fI SP;have w5:au B w W6:=⟨⟨w3.out.1,w3.out.2.1,w3.out.2.2.1,fun b hb=>w3.out.2.2.2 b (nL hb hB.out)⟩⟩;have w6:Le B W6:=⟨nT hB.out w4.out⟩;have D6:Hid (ax W6 w.heap.size 82 (cD ⟨r',A2,c2⟩ ⟨td,d.aC.eraseIdx j,d.given⟩)):=by rw[SP.out];exact qh (ax.set (ax.dM D5.out) 14 _)
    have R6:Hid (ax W6 (w.heap.size+1) 82 (cD mJ mK)):=by rw[SP.out];exact qh (ax.fD (ax.dM R5.out) (by show w.heap.size+1≠w.heap.size;omega) _)
    have O6:Hid (dZ W6 A2 c2 (d.aC.eraseIdx j)):=by rw[SP.out];exact qh (Vh.out.aR ((bH.refl (fun x=>x=w.heap.size) _).set (b:=w.heap.size) rfl 14 _) (ax.dM D5.out) nU (nR _))
    have To6:Hid (cZ k.az d.az w r' td W6):=by rw[SP.out];exact qh ((To5.out.up (W':=af W5 δ6)).aR ((bH.refl (fun x=>x=w.heap.size) _).set (b:=w.heap.size) rfl 14 _) (ax.dM D5.out) nU)
    have lD6:=D6.out.lt;have lR6:=R6.out.lt;clear SP Vh D5 R5 To5 f14 fr14 HO5;go_upto_region 11 with(first|(refine av cx rfl _ rfl rfl D6.out rfl ?_)|(go_at_call 75;refine(yx.out ⟨r',A2,c2⟩ W6.heap.size _ (To6.out.is HT.out) ⟨nR _⟩ O6.out).mono ?_;rintro e w1 ⟨k',δ7,rfl,rfl,aa2,hO7⟩;have aaw:=qh aa2;have HO7:=qh hO7;clear aa2 hO7)|(refine ak cx rfl _ _ rfl rfl rfl (ax.new (T:=82) rfl) rfl rfl (dP _ _) ?_;intro W7 E7 k7));have g7:W6.heap.size<=(af W6 δ7).heap.size:=(inferInstance:Le W6.heap.size (af W6 δ7)).out;have x3:au w.heap.size w W7:=cm k7 (nT w4.out g7);have x4:Le w.heap.size W7:=dB k7;have E7:=qh E7;have R7:Hid (ax W7 (w.heap.size+1) 82 (cD mJ mK)):=qh (((R6.out.af _).alloc _).eM k7 (Nat.ne_of_lt (nL lR6.out g7)));have To7:Hid (cZ k.az d.az w k'.az xd.az W7):=qh (((To6.out.trans aaw.out w4.out).up (W':=(af W6 δ7).alloc _)).aR k7 (ax.new rfl) nU);have O7:Hid (dZ W7 k'.oA k'.oc xd.aC):=qh ((HO7.out.up (w':=(af W6 δ7).alloc _)).aR k7 (ax.new rfl) nU nV);clear k7 aaw HO7 To6 O6 D6 R6;go_wp2_with (first|(refine av cx rfl _ rfl rfl E7.out rfl ?_)|(refine ak cx rfl _ _ rfl rfl rfl R7.out rfl rfl (dP _ _) ?_;intro W9 C9 k9));refine QAT ?_;intro p1 p2;refine eu cx Tryz.results75 rfl C9 rfl ?_;exact jq (k:=k) (d:=d) (w:=w) (W:=W9) (x:=dO (m'+1) d) (k':=k') (d':=xd) (by rw[HX.out]) (by rw[HX.out,Ve.out]) (To7.out.aR k9 R7.out nU) (O7.out.aR k9 R7.out nU (nR _))
  ·obtain rfl:j=d.aC.length:=by omega
   have hjn:¬((d.aC.length:Int)<(d.aC.length:Int)):=nQ;have HX:Hid (dO m d=(d,[])):=qh (za (xY HN.out));have adu:=qh (Bg.out.up (w':=wr));clear HN;go_upto_region 12 with fail;go_wp2_with (first|(refine av cx rfl _ rfl rfl D1.out rfl ?_)|(refine ak cx rfl _ _ rfl rfl rfl R1.out rfl rfl (dP _ _) ?_;intro W9 C9 k9));refine QAT ?_;intro p1 p2;refine eu cx Tryz.results75 rfl C9 rfl ?_;exact jq (k:=k) (d:=d) (w:=w) (W:=W9) (x:=dO m d) (k':=k) (d':=d) (by rw[HX.out]) (by rw[HX.out];rfl) cZ.refl (adu.out.aR k9 R1.out nU i2.out)
theorem xM:∀m,SA m
 |0=>xP 0 fun m' h=>by omega
 |m+1=>xP (m+1) fun m' h=>by have:m'=m:=nQ;subst this;exact xM m'
end
section
open Hd
theorem zy{d:cE}{l:bz}(h:oZ d.aC)(hg:d.given<=1000)(hl:l.length<=1000):oZ (di d l).1.aC:=by
 unfold di;split
 ·exact h
 ·split
  ·exact h
  ·intro o ho;rcases List.mem_append.1 ho with h1|h1
   ·exact h o h1
   ·simp at h1;subst h1;exact⟨hg,hl⟩
 ·split
  ·exact h
  ·split
   ·split
    ·exact h
    ·exact mB h _
   ·exact h
theorem IJ(m:Nat):∀d:cE,oZ d.aC->oZ (dO m d).1.aC:=by
 induction m with
 |zero=>intro d h;exact h
 |succ m ih=>
  intro d h
  rw[dO]
  cases ie d.az d.aC with
  |none=>exact h
  |some i=>exact ih _ (mB h i)
theorem Mp{d:cE}{l:bz}(h:oZ d.aC)(hg:d.given<=1000)(hl:l.length<=1000):oZ (iC d l).1.aC:=IJ _ _ (zy h hg hl)
theorem MP(d:cE)(l:bz):(di d l).1.given<=d.given+1:=by
 unfold di;split
 ·exact nF _
 ·split
  ·exact nF _
  ·exact nR _
 ·split
  ·exact nF _
  ·split
   ·split<;>exact nF _
   ·exact nF _
theorem ES(m:Nat):∀d:cE,(dO m d).1.given=d.given:=by
 induction m with
 |zero=>intro d;rfl
 |succ m ih=>
  intro d
  rw[dO]
  cases ie d.az d.aC with
  |none=>rfl
  |some i=>exact ih _
theorem ID(d:cE)(l:bz):(iC d l).1.given<=d.given+1:=by show(dO _ _).1.given<=_;rw[ES];exact MP d l
theorem Fw{d:cE}{l:bz}(hv:aG d.az=true):(di d l).2.length<=60:=by
 have a1:yW.length<=60:=nU;have a2:Ic.length<=60:=nU;have a3:iq.length<=60:=nU;have a4:∀b,(me b).length<=60:=nU;unfold di;split
 ·exact a1
 ·split
  ·exact a2
  ·exact a3
 ·split
  ·exact a4 _
  ·split
   ·split
    ·exact a2
    ·exact a3
   ·exact CV d.az _ hv
theorem Ty(k:cP)(d:cE)(l:bz)(hl:l.length<=1000)(hv:aG d.az=true)(ho:gL d.aC)(hn:oZ d.aC)(hg:d.given<=1000)(B:Nat)(w:nJ)(hT:aJ B w k.az d.az)[hB:Le B w](hO:dZ w k.oA k.oc d.aC):Calls nH 34 #[jf k d,.string (str l)] w (fh k d w (iC d l)):=by have HT:=qh hT;have HO:=qh hO;have Bg:Hid (∀(W:nJ),aJ B W k.az d.az->Le B W->dZ W k.oA k.oc d.aC->Calls nH 74 #[jf k d,.string (str l)] W (fh k d W (di d l))):=qh fun W h1 h2 h3=>Wz k d l hl hv ho hg B W h1 h3;have OI:=wU hv l;have yw:=vq ho l;have Eo:=zy hn hg hl;have h60:=Fw (l:=l) hv;have HX:Hid (iC d l=((dO (di d l).1.aC.length (di d l).1).1,(di d l).2++(dO (di d l).1.aC.length (di d l).1).2)):=rfl;obtain⟨od,ot,VD⟩:∃a b,di d l=(a,b):=⟨_,_,rfl⟩;rw[VD] at Bg HX OI yw Eo h60;simp only[] at HX OI yw Eo h60;have tZ:Hid (∀(k':cP) (B:Nat) (W:nJ),aJ B W k'.az od.az->Le B W->dZ W k'.oA k'.oc od.aC->Calls nH 75 #[jf k' od] W (fh k' od W (dO od.aC.length od))):=qh fun k' B W h1 h2 h3=>xM od.aC.length k' od OI yw Eo rfl B W h1 h2 h3;have hx2:=uC od.aC.length od Eo;have Zu:=yw.1;obtain⟨sd,st,Vz⟩:∃a b,dO od.aC.length od=(a,b):=⟨_,_,rfl⟩;rw[Vz] at HX tZ hx2;simp only[] at HX hx2;have s1:∀W:nJ,(Op.stringOp .add (str ot) (str st)).run nH W=.ok (.string (str (ot++st))) W:=fun W=>gp (P:=nH) W ot st nQ;unfold fh at Bg tZ;clear hT hO hv ho hn hg hl OI yw Eo h60 VD Vz hx2 Zu;go_enter Tryz.func34,Tryz.ntmps34;go_upto_region 1 with fail;refine QAS ?_;intro W1 aH cJ dF cU dA dD eI b1 b2;clear aH;go_upto_region 2 with(first|(refine av cx rfl _ rfl rfl b1.out rfl ?_)|(go_at_call 74;refine(Bg.out _ HT.out.up inferInstance HO.out.wide).mono ?_;rintro e w1 ⟨k1,δ1,rfl,rfl,Rl,Rn⟩;have SS:=qh Rl;have Ip:=qh Rn;clear Rl Rn)|(refine ak cx rfl _ _ rfl rfl rfl (ax.new (T:=82) rfl) rfl rfl (dP _ _) ?_;intro W2 C2 k2));have g1:W1.heap.size<=(af W1 δ1).heap.size:=(inferInstance:Le W1.heap.size (af W1 δ1)).out;have q1:au B w W2:=cm k2 (nT cJ.out g1);have q2:Le B W2:=dB k2;have q3:au w.heap.size w W2:=cm k2 (nT cU.out g1);have q4:Le w.heap.size W2:=dB k2;have R2:Hid (ax W2 (w.heap.size+1) 82 (cD mJ mK)):=qh (((b2.out.af _).alloc _).eM k2 (Nat.ne_of_lt (nL eI.out g1)));have To2:Hid (cZ k.az d.az w k1.az od.az W2):=qh (((SS.out.up (W':=(af W1 δ1).alloc _)).aR k2 (ax.new rfl) nU).from_ cU.out);have O2:Hid (dZ W2 k1.oA k1.oc od.aC):=qh ((Ip.out.up (w':=(af W1 δ1).alloc _)).aR k2 (ax.new rfl) nU nV);have C2:=qh C2;have lR2:=R2.out.lt;clear k2 b1 b2 SS Ip;go_upto_region 3 with(first|(refine av cx rfl _ rfl rfl C2.out rfl ?_)|(go_at_call 75;refine(tZ.out k1 W2.heap.size _ (To2.out.is HT.out) ⟨nR _⟩ O2.out).mono ?_;rintro e w1 ⟨k',δ3,rfl,rfl,Rl,Rn⟩;have SS:=qh Rl;have Ip:=qh Rn;clear Rl Rn)|(refine ak cx rfl _ _ rfl rfl rfl (ax.new (T:=82) rfl) rfl rfl (dP _ _) ?_;intro W3 C3 k3));have g2:W2.heap.size<=(af W2 δ3).heap.size:=(inferInstance:Le W2.heap.size (af W2 δ3)).out;have x3:au w.heap.size w W3:=cm k3 (nT q4.out g2);have x4:Le w.heap.size W3:=dB k3;have R3:Hid (ax W3 (w.heap.size+1) 82 (cD mJ mK)):=qh (((R2.out.af _).alloc _).eM k3 (Nat.ne_of_lt (nL lR2.out g2)));have To3:Hid (cZ k.az d.az w k'.az sd.az W3):=qh (((To2.out.trans SS.out q4.out).up (W':=(af W2 δ3).alloc _)).aR k3 (ax.new rfl) nU);have O3:Hid (dZ W3 k'.oA k'.oc sd.aC):=qh ((Ip.out.up (w':=(af W2 δ3).alloc _)).aR k3 (ax.new rfl) nU nV);have C3:=qh C3;clear k3 SS Ip To2 O2 R2 C2;go_wp2_with (first|(refine av cx rfl _ rfl rfl C3.out rfl ?_)|(refine ak cx rfl _ _ rfl rfl rfl R3.out rfl rfl (dP _ _) ?_;intro W9 C9 k9));refine QAT ?_;intro p1 p2;refine eu cx Tryz.results34 rfl C9 rfl ?_;exact jq (k:=k) (d:=d) (w:=w) (W:=W9) (x:=iC d l) (k':=k') (d':=sd) (by rw[HX.out]) (by rw[HX.out];first|done|rfl) (To3.out.aR k9 R3.out nU) (O3.out.aR k9 R3.out nU (nR _))
end
end Go.Proofs.YtdmedlkonaclnaaGreatDoor
