/- A part of the proof that a law of layer 12 holds, cut small by a program (names and blanks): Sl1, Hl1, Hl2, Hl3, Hl4. -/
import Derived.Test.YtpnnapeoanafdaaGreatDoorZ32
set_option maxRecDepth 100000
set_option maxHeartbeats 40000000
set_option linter.unusedVariables false
set_option linter.unusedSimpArgs false
namespace Go.Proofs.YtpnnapeoanafdaaGreatDoor
open Go.RowKit
open Nat renaming le_trans → nT, lt_of_lt_of_le → nL, le_refl → nR, zero_le → nE, le_of_ble_eq_true → nG
open Go.Proofs.Tryz renaming prog → nH
open Go renaming World → nJ, Value → nK
theorem FZ(A A':Option Addr)(c c':Nat)(l:List Int)(B:Nat)(w:nJ)[hB:Le B w](h:Sl aI B w A c l)(h':Sl aI B w A' c' l)(ln:Nat)(hn:l.length=ln):Calls nH 85 #[.slice A ln c,.slice A' ln c'] w fun e w'=>e=.returned (.bool true)/\∃δ,w'=ah w δ:=by
 subst hn;have l1:=h.len;have H:=qh h;have H':=qh h';clear h h';go_enter Tryz.func85,Tryz.ntmps85;go_wp2_with fail;go_loopg [5] l.length (fun g i wr=>∃(k:Nat) (δ:nJ),k<=l.length/\g=l.length-k/\i=.int .i64 k/\wr=ah w δ)
 case atStart=>exact⟨0,w,nE _,rfl,rfl,(bw w).symm⟩
 case round=>
  obtain⟨k,δ,hk,rfl,rfl,rfl⟩:=hrel;by_cases hlt:k<l.length
  ·obtain⟨b,o,rfl,hb,d0⟩:=H.out.int hlt;obtain⟨b',o',rfl,hb',d0'⟩:=H'.out.int hlt;have ib:Lt b w:=⟨nL hb hB.out⟩;have ib':Lt b' w:=⟨nL hb' hB.out⟩;have hki:(k:Int)<(l.length:Int):=nQ;have hk0:¬(k:Int)<0:=nQ;go_wp2_with fail;refine wpRl ?_;repeat (go_big_quiet_step ((first|(fail))))
   refine QBU ?_;rintro _ ⟨δq,rfl⟩;go_wp2_with fail;go_roundg (l.length-(k+1))
   case measure=>omega
   case rel=>exact⟨k+1,_,nQ,rfl,by go_num,ai⟩
  ·obtain rfl:k=l.length:=by omega
   go_wp2;go_ret;exact⟨rfl,ag⟩
def sV(h:Sa.aJ):Bool:=decide (40<h.kinds.length)||decide (40<h.parts.length)||decide (40<h.bars.length)
theorem ED(r:eT)(h:Sa.aJ)(w:nJ):Calls nH 178 #[fu r h] w fun e w'=>e=.returned (.bool (sV h))/\∃δ,w'=ah w δ:=by
 obtain⟨kA,kc,pA,pc,bA,bc⟩:=r;by_cases h1:(40:Int)<(h.kinds.length:Int)
 ·have H1:Hid (sV h=true):=by unfold Hid sV;rw[decide_eq_true (show 40<h.kinds.length by omega)];rfl
  go_enter Tryz.func178,Tryz.ntmps178;go_wp2;go_ret;exact⟨bg H1.out.symm,ag⟩
 by_cases h2:(40:Int)<(h.parts.length:Int)
 ·have H1:Hid (sV h=true):=by unfold Hid sV;rw[decide_eq_true (show 40<h.parts.length by omega)];simp
  go_enter Tryz.func178,Tryz.ntmps178;go_wp2;go_ret;exact⟨bg H1.out.symm,ag⟩
 by_cases h3:(40:Int)<(h.bars.length:Int)
 ·have H1:Hid (sV h=true):=by unfold Hid sV;rw[decide_eq_true (show 40<h.bars.length by omega)];simp
  go_enter Tryz.func178,Tryz.ntmps178;go_wp2;go_ret;exact⟨bg H1.out.symm,ag⟩
 ·have H1:Hid (sV h=false):=by unfold Hid sV;simp;omega
  go_enter Tryz.func178,Tryz.ntmps178;go_wp2;go_ret;exact⟨bg H1.out.symm,ag⟩
def zI(b:Int):Nat->Int
 |0=>1
 |k+1=>zI b k*b
theorem UW{b:Int}(h:1<=b/\b<=5):∀k,k<=6->1<=zI b k/\zI b k<=15625
 |0,_=>by simp only[zI];omega
 |1,_=>by simp only[zI];omega
 |2,_=>by obtain⟨h1,h2⟩:=h;have:b=1\/b=2\/b=3\/b=4\/b=5:=nQ;rcases this with rfl|rfl|rfl|rfl|rfl<;>decide
 |3,_=>by obtain⟨h1,h2⟩:=h;have:b=1\/b=2\/b=3\/b=4\/b=5:=nQ;rcases this with rfl|rfl|rfl|rfl|rfl<;>decide
 |4,_=>by obtain⟨h1,h2⟩:=h;have:b=1\/b=2\/b=3\/b=4\/b=5:=nQ;rcases this with rfl|rfl|rfl|rfl|rfl<;>decide
 |5,_=>by obtain⟨h1,h2⟩:=h;have:b=1\/b=2\/b=3\/b=4\/b=5:=nQ;rcases this with rfl|rfl|rfl|rfl|rfl<;>decide
 |6,_=>by obtain⟨h1,h2⟩:=h;have:b=1\/b=2\/b=3\/b=4\/b=5:=nQ;rcases this with rfl|rfl|rfl|rfl|rfl<;>decide
 |k+7,h=>by omega
def Ca(h:Sa.aJ):Bool:=sV h||(Sa.valid h&&decide (700<zI ((h.bars.length:Int)+1) h.parts.length))
theorem Y9(r:eT)(h:Sa.aJ)(B:Nat)(w:nJ)[hB:Le B w](hH:bW B w r h):Calls nH 117 #[fu r h] w fun e w'=>e=.returned (.bool (Ca h))/\∃δ,w'=ah w δ:=by
 have HH:=qh hH;have lb:=hH.2.2.len;obtain⟨kA,kc,pA,pc,bA,bc⟩:=r;clear hH;rcases hu:sV h with _|_
 ·rcases hv:Sa.valid h with _|_
  ·have HU:=qh hu;have HV:Hid (cD (Sa.valid h) 80=80):=by unfold Hid;rw[hv];rfl
   have HF:Hid (Ca h=false):=by unfold Hid Ca;rw[hu,hv];rfl
   clear hu hv;go_enter Tryz.func117,Tryz.ntmps117;go_wp2_with (first|(go_at_call 178;refine(ED ⟨kA,kc,pA,pc,bA,bc⟩ h _).mono ?_;rw[HU.out];rintro e w1 ⟨rfl,δ1,rfl⟩)|(go_at_call 74;refine(xh ⟨kA,kc,pA,pc,bA,bc⟩ h B _ HH.out.up).mono ?_;rw[HV.out];rintro e w1 ⟨rfl,δ1,rfl⟩));go_ret;exact⟨bg HF.out.symm,ag⟩
  ·have HU:=qh hu;have HV:=qh hv;have HF:Hid (Ca h=decide (700<zI ((h.bars.length:Int)+1) h.parts.length)):=by unfold Hid Ca;rw[hu,hv];rfl
   refine QDS ?_;intro h6 h4;have Xf:=qh (UW (b:=(h.bars.length:Int)+1) nQ);clear hu hv;go_enter Tryz.func117,Tryz.ntmps117;go_wp2_with (first|(go_at_call 178;refine(ED ⟨kA,kc,pA,pc,bA,bc⟩ h _).mono ?_;rw[HU.out];rintro e w1 ⟨rfl,δ1,rfl⟩)|(go_at_call 74;refine(mW ⟨kA,kc,pA,pc,bA,bc⟩ h HV.out B _ HH.out.up).mono ?_;rintro e w1 ⟨rfl,δ1,rfl⟩));refine QAE ?_;intro W1 aH cJ dF cW di dz uu nt lC mQ;clear aH;go_loopg [3,4] h.parts.length (fun gg n i wr=>∃(k:Nat) (δ:nJ),k<=h.parts.length/\gg=h.parts.length-k/\n=.int .i64 (zI ((h.bars.length:Int)+1) k)/\i=.int .i64 k/\wr=ah W1 δ)
   case atStart=>exact⟨0,W1,nE _,rfl,rfl,rfl,(bw W1).symm⟩
   case round=>
    obtain⟨k,δ,hk,rfl,rfl,rfl,rfl⟩:=hrel;by_cases hlt:k<h.parts.length
    ·have hki:(k:Int)<(h.parts.length:Int):=nQ;have HN:Hid (zI ((h.bars.length:Int)+1) (k+1)=zI ((h.bars.length:Int)+1) k*((h.bars.length:Int)+1)):=rfl;have kS:=Xf.out (k+1) nQ;rw[HN.out] at kS;obtain⟨n,hn⟩:∃n,zI ((h.bars.length:Int)+1) k=n:=⟨_,rfl⟩;rw[hn] at HN kS;rw[hn];have hwr:IntKind.i64.wrap (n*((h.bars.length:Int)+1))=n*((h.bars.length:Int)+1):=by rw[IntWalk.i64_in];omega
     clear hn;go_wp2;go_roundg (h.parts.length-(k+1))
     case measure=>omega
     case rel=>exact⟨k+1,_,nQ,rfl,by rw[HN.out],by go_num,ai⟩
    ·obtain rfl:k=h.parts.length:=by omega
     go_wp2_with fail;go_ret;exact⟨bg HF.out.symm,ag⟩
 ·have HU:=qh hu;have HF:Hid (Ca h=true):=by unfold Hid Ca;rw[hu];rfl
  clear hu;go_enter Tryz.func117,Tryz.ntmps117;go_wp2_with (go_at_call 178;refine(ED ⟨kA,kc,pA,pc,bA,bc⟩ h _).mono ?_;rw[HU.out];rintro e w1 ⟨rfl,δ1,rfl⟩);go_ret;exact⟨bg HF.out.symm,ag⟩
theorem UB(r r':eT)(h:Sa.aJ)(B:Nat)(w:nJ)[hB:Le B w](hH:bW B w r h)(hH':bW B w r' h):Calls nH 45 #[fu r h,fu r' h] w fun e w'=>e=.returned (.bool true)/\∃δ,w'=ah w δ:=by
 have l1:=hH.1.len;have l2:=hH.2.1.len;have H:=qh hH;have H':=qh hH';obtain⟨kA,kc,pA,pc,bA,bc⟩:=r;obtain⟨Vs,Vr,pA',pc',bA',bc'⟩:=r';clear hH hH';go_enter Tryz.func45,Tryz.ntmps45;go_wp2_with (go_at_call 85;refine(FZ bA bA' bc bc' h.bars B _ H.out.2.2.up H'.out.2.2.up _ rfl).mono ?_;rintro e w1 ⟨rfl,δ,rfl⟩);refine QCC ?_;intro W1 aH cJ dF cW di dz eL;refine QCN ?_;intro nt lC mQ jI;have nk:W1.cell? ⟨w.heap.size+1,0,none⟩=some (.slice Vs h.kinds.length Vr):=by rw[aH.out];go_simp
 have nj:W1.cell? ⟨w.heap.size+1,1,none⟩=some (.int .i64 h.floor):=by rw[aH.out];go_simp
 have wC:W1.cell? ⟨w.heap.size+1,2,none⟩=some (.slice pA' h.parts.length pc'):=by rw[aH.out];go_simp
 have xL:W1.cell? ⟨w.heap.size+1,3,none⟩=some (.slice bA' h.bars.length bc'):=by rw[aH.out];go_simp
 have s1:bW B W1 ⟨kA,kc,pA,pc,bA,bc⟩ h:=H.out.up;have s2:bW B W1 ⟨Vs,Vr,pA',pc',bA',bc'⟩ h:=H'.out.up;have S1:=qh s1;have S2:=qh s2;clear aH s1 s2;go_loopg [5] h.kinds.length (fun g i wr=>∃(k:Nat) (δ:nJ),k<=h.kinds.length/\g=h.kinds.length-k/\i=.int .i64 k/\wr=ah W1 δ)
 case atStart=>exact⟨0,W1,nE _,rfl,rfl,(bw W1).symm⟩
 case round=>
  obtain⟨k,δ,hk,rfl,rfl,rfl⟩:=hrel;by_cases hlt:k<h.kinds.length
  ·obtain⟨b,o,rfl,hb,d0,d1⟩:=S1.out.1.kind hlt;obtain⟨b',o',rfl,hb',d0',d1'⟩:=S2.out.1.kind hlt;refine QCU ?_;intro ib ib';have hki:(k:Int)<(h.kinds.length:Int):=nQ;have hk0:¬(k:Int)<0:=nQ;go_wp2_with fail;refine wpRl ?_;repeat (go_big_quiet_step ((first|(fail))))
   refine QBU ?_;rintro _ ⟨δq,rfl⟩;go_wp2_with fail;go_roundg (h.kinds.length-(k+1))
   case measure=>omega
   case rel=>exact⟨k+1,_,nQ,rfl,by go_num,ai⟩
  ·obtain rfl:k=h.kinds.length:=by omega
   go_wp2_with fail;go_loopg [6] h.parts.length (fun g i wr=>∃(k:Nat) (δ:nJ),k<=h.parts.length/\g=h.parts.length-k/\i=.int .i64 k/\wr=ah W1 δ)
   case atStart=>exact⟨0,δ,nE _,rfl,rfl,rfl⟩
   case round=>
    clear hk hlt;obtain⟨k,δ,hk,rfl,rfl,rfl⟩:=hrel;by_cases hlt:k<h.parts.length
    ·obtain⟨b,o,rfl,hb,d0,d1⟩:=S1.out.2.1.part hlt;obtain⟨b',o',rfl,hb',d0',d1'⟩:=S2.out.2.1.part hlt;refine QCU ?_;intro ib ib';have hki:(k:Int)<(h.parts.length:Int):=nQ;have hk0:¬(k:Int)<0:=nQ;go_wp2_with fail;refine wpRl ?_;repeat (go_big_quiet_step ((first|(fail))))
     refine QBU ?_;rintro _ ⟨δq,rfl⟩;go_wp2_with fail;go_roundg (h.parts.length-(k+1))
     case measure=>omega
     case rel=>exact⟨k+1,_,nQ,rfl,by go_num,ai⟩
    ·obtain rfl:k=h.parts.length:=by omega
     go_wp2_with fail;go_ret;exact⟨rfl,ag⟩
def BV:Sa.aJ:=⟨[⟨3,10⟩,⟨5,4⟩],2,[⟨0,10⟩,⟨0,15⟩,⟨1,8⟩],[40,20]⟩
def QK:Sa.aJ:=⟨[⟨3,10⟩,⟨5,4⟩],2,[⟨0,10⟩,⟨0,15⟩,⟨1,8⟩],[40,13]⟩
theorem Lm(w:nJ):Calls nH 81 #[] w fun e w'=>∃(r r2:eT) (δ:nJ),e=.returned (.tuple #[fu r BV,fu r2 QK])/\w'=ah w δ/\bW (ah w δ).heap.size (ah w δ) r BV:=by
 go_enter Tryz.func81,Tryz.ntmps81;go_wp2_with fail;refine aM fun W0 jR=>?_;have q0:ay W0 w.heap.size 37 #[.slice (some ⟨w.heap.size+1+1,0,none⟩) 2 2,.int .i64 2,.slice (some ⟨w.heap.size+1+1+1,0,none⟩) 3 3,.slice (some ⟨w.heap.size+1+1+1+1,0,none⟩) 2 2]:=by rw[jR.out];repeat (first|exact ay.new nV|refine ay.alloc ?_ _)
 have q1:ay W0 (w.heap.size+1) 37 #[.slice (some ⟨w.heap.size+1+1,0,none⟩) 2 2,.int .i64 2,.slice (some ⟨w.heap.size+1+1+1,0,none⟩) 3 3,.slice (some ⟨w.heap.size+1+1+1+1+1,0,none⟩) 2 2]:=by rw[jR.out];repeat (first|exact ay.new nV|refine ay.alloc ?_ _)
 have q2:ay W0 (w.heap.size+1+1) 155 #[.int .i64 3,.int .i64 10,.int .i64 5,.int .i64 4]:=by rw[jR.out];repeat (first|exact ay.new nV|refine ay.alloc ?_ _)
 have q3:ay W0 (w.heap.size+1+1+1) 157 #[.int .i64 0,.int .i64 10,.int .i64 0,.int .i64 15,.int .i64 1,.int .i64 8]:=by rw[jR.out];repeat (first|exact ay.new nV|refine ay.alloc ?_ _)
 have q4:ay W0 (w.heap.size+1+1+1+1) 3 #[.int .i64 40,.int .i64 20]:=by rw[jR.out];repeat (first|exact ay.new nV|refine ay.alloc ?_ _)
 have g1:aD w.heap.size w W0:=gy jR;have g2:Le w.heap.size W0:=fI jR;have c0:=q0.cell (i:=0) rfl;have c1:=q0.cell (i:=1) rfl;have c2:=q0.cell (i:=2) rfl;have c3:=q0.cell (i:=3) rfl;have d0:=q1.cell (i:=0) rfl;have d1:=q1.cell (i:=1) rfl;have d2:=q1.cell (i:=2) rfl;have d3:=q1.cell (i:=3) rfl;have k0:=q0.free 0;have k1:=q0.free 1;have k2:=q0.free 2;have k3:=q0.free 3;have k4:=q1.free 0;have k5:=q1.free 1;have k6:=q1.free 2;have k7:=q1.free 3;have j0:=q0.lt;have j1:=q1.lt;have Q2:=qh q2;have Q3:=qh q3;have Q4:=qh q4;clear jR q2 q3 q4 q0 q1;go_region;all_goals
  go_wp2_with fail;refine bodyPost_ret (v:=.tuple #[fu ⟨some ⟨w.heap.size+1+1,0,none⟩,2,some ⟨w.heap.size+1+1+1,0,none⟩,3,some ⟨w.heap.size+1+1+1+1,0,none⟩,2⟩ BV,fu ⟨some ⟨w.heap.size+1+1,0,none⟩,2,some ⟨w.heap.size+1+1+1,0,none⟩,3,some ⟨w.heap.size+1+1+1+1+1,0,none⟩,2⟩ QK]) ?_ rfl ?_
  ·simp only[results,Tryz.results81];go_simp;simp[BV,QK]
  ·refine⟨⟨some ⟨w.heap.size+1+1,0,none⟩,2,some ⟨w.heap.size+1+1+1,0,none⟩,3,some ⟨w.heap.size+1+1+1+1,0,none⟩,2⟩,⟨some ⟨w.heap.size+1+1,0,none⟩,2,some ⟨w.heap.size+1+1+1,0,none⟩,3,some ⟨w.heap.size+1+1+1+1+1,0,none⟩,2⟩,_,rfl,ai,?_⟩;refine QDF ?_;refine⟨qj BV.kinds (T:=155) (cs:=#[.int .i64 3,.int .i64 10,.int .i64 5,.int .i64 4]) ?_ (nG rfl) (nG rfl) rfl,qj BV.parts (T:=157) (cs:=#[.int .i64 0,.int .i64 10,.int .i64 0,.int .i64 15,.int .i64 1,.int .i64 8]) ?_ (nG rfl) (nG rfl) rfl,qj BV.bars (T:=3) (cs:=#[.int .i64 40,.int .i64 20]) ?_ (nG rfl) (nG rfl) rfl⟩
   ·refine ay.drew ?_;iterate 8 (refine ay.fB ?_ (by first|(show w.heap.size+1+1≠w.heap.size;omega)|(show w.heap.size+1+1≠w.heap.size+1;omega)) _)
    exact Q2.out
   ·refine ay.drew ?_;iterate 8 (refine ay.fB ?_ (by first|(show w.heap.size+1+1+1≠w.heap.size;omega)|(show w.heap.size+1+1+1≠w.heap.size+1;omega)) _)
    exact Q3.out
   ·refine ay.drew ?_;iterate 8 (refine ay.fB ?_ (by first|(show w.heap.size+1+1+1+1≠w.heap.size;omega)|(show w.heap.size+1+1+1+1≠w.heap.size+1;omega)) _)
    exact Q4.out
section
open Hd
theorem xU(A A':Option Addr)(c c':Nat)(l:List aQ)(B:Nat)(w:nJ)[hB:Le B w](h:Sl bS B w A c l)(h':Sl bS B w A' c' l)(ln ln':Nat)(hn:l.length=ln)(hn':l.length=ln'):Calls nH 14 #[.slice A ln c,.slice A' ln' c'] w fun e w'=>e=.returned (.bool true)/\∃δ,w'=ah w δ:=by
 subst hn hn';have l1:=h.len;have H:=qh h;have H':=qh h';clear h h';go_enter Tryz.func14,Tryz.ntmps14;go_wp2_with fail;go_loopg [5] l.length (fun g i wr=>∃(k:Nat) (δ:nJ),k<=l.length/\g=l.length-k/\i=.int .i64 k/\wr=ah w δ)
 case atStart=>exact⟨0,w,nE _,rfl,rfl,(bw w).symm⟩
 case round=>
  obtain⟨k,δ,hk,rfl,rfl,rfl⟩:=hrel;by_cases hlt:k<l.length
  ·obtain⟨b,o,rfl,hb,d0⟩:=H.out.kK hlt;obtain⟨b',o',rfl,hb',d0'⟩:=H'.out.kK hlt;have ib:Lt b w:=⟨nL hb hB.out⟩;have ib':Lt b' w:=⟨nL hb' hB.out⟩;have hki:(k:Int)<(l.length:Int):=nQ;have hk0:¬(k:Int)<0:=nQ;go_wp2_with fail;refine wpRl ?_;repeat (go_big_quiet_step ((first|(fail))))
   refine QBU ?_;rintro _ ⟨δq,rfl⟩;go_wp2_with fail;go_roundg (l.length-(k+1))
   case measure=>omega
   case rel=>exact⟨k+1,_,nQ,rfl,by go_num,ai⟩
  ·obtain rfl:k=l.length:=by omega
   go_wp2;go_ret;exact⟨rfl,ag⟩
theorem Mp(r r':aW)(t:aO)(B:Nat)(w:nJ)[hB:Le B w](h:aN B w r t)(h':aN B w r' t):Calls nH 16 #[aY r t,aY r' t] w fun e w'=>e=.returned (.bool true)/\∃δ,w'=ah w δ:=by
 have H:=qh h;have H':=qh h';clear h h';go_enter Tryz.func16,Tryz.ntmps16;go_upto_region 1 with fail;refine QAX ?_;intro W1 aH cJ dF cW di dz eL b1;have b2:ay W1 (w.heap.size+1) 39 (aG r' t):=by rw[aH.out];exact ay.new nV
 obtain⟨x0,x1,x2,x3,x4,x5,x6,x7,x8,x9,yQ,yP,ve,yO⟩:=b1.ax;obtain⟨y0,y1,y2,y3,y4,y5,y6,y7,y8,y9,y10,y11,y12,y13⟩:=b2.ax;clear aH b1 b2;go_wp2_with (first|(go_at_call 43;refine(XC r.aF r'.aF t.aF B _ H.out.1.up H'.out.1.up).mono ?_;rintro e w1 ⟨rfl,δ1,rfl⟩)|(go_at_call 44;refine(Vb r.af r'.af t.af B _ H.out.2.1.up H'.out.2.1.up).mono ?_;rintro e w1 ⟨rfl,δ2,rfl⟩)|(go_at_call 45;refine(UB r.aa r'.aa t.aa B _ H.out.2.2.up H'.out.2.2.up).mono ?_;rintro e w1 ⟨rfl,δ3,rfl⟩));go_ret;exact⟨rfl,ag⟩
def Ik(t:aO):Bool:=An.Ij t.aF||(PB t.af 4||Ca t.aa)
theorem SX(r:aW)(t:aO)(B:Nat)(w:nJ)[hB:Le B w](h:aN B w r t):Calls nH 70 #[aY r t] w fun e w'=>e=.returned (.bool (Ik t))/\∃δ,w'=ah w δ:=by
 have H:=qh h;clear h;rcases ha:An.Ij t.aF with _|_;all_goals rcases hb:PB t.af 4 with _|_
 all_goals rcases hc:Ca t.aa with _|_
 all_goals have HF:Hid (Ik t=(An.Ij t.aF||(PB t.af 4||Ca t.aa))):=rfl;rw[ha,hb,hc] at HF;have HA:=qh ha;have HB:=qh hb;have HC:=qh hc;clear ha hb hc;go_enter Tryz.func70,Tryz.ntmps70;go_upto_region 1 with fail;refine QAW ?_;intro W1 aH cJ dF cW di dz b1;obtain⟨x0,x1,x2,x3,x4,x5,x6,x7,x8,x9,yQ,yP,ve,yO⟩:=b1.ax;clear aH b1;go_wp2_with (first|(go_at_call 115;refine(Y8 r.aF t.aF B _ H.out.1.up).mono ?_;rw[HA.out];rintro e w1 ⟨rfl,δ1,rfl⟩)|(go_at_call 116;refine(Yf r.af t.af 4 nQ _ HB.out B _ H.out.2.1.up).mono ?_;rintro e w1 ⟨rfl,δ2,rfl⟩)|(go_at_call 117;refine(Y9 r.aa t.aa B _ H.out.2.2.up).mono ?_;rw[HC.out];rintro e w1 ⟨rfl,δ3,rfl⟩));go_ret;exact⟨bg HF.out.symm,ag⟩
end
section
open Hd
def I8(t:aO)(ls:List aQ):Prop:=Ik t=false/\ls.length<=60/\∀x∈ls,x.length<=60
def Fm(t:aO)(ls:List aQ)(w:nJ)(e:Ending)(w':nJ):Prop:=∃(b:Bool) (δ:nJ),e=.returned (.bool b)/\w'=ah w δ/\(b=false->I8 t ls)
theorem wv{t:aO}{ls:List aQ}{w W:nJ}(h:∃δ,W=ah w δ):Fm t ls w (.returned (.bool true)) W:=by obtain⟨δ,rfl⟩:=h;exact⟨true,δ,rfl,rfl,fun h=>by cases h⟩
theorem Ll{t:aO}{ls:List aQ}{w W:nJ}(h:∃δ,W=ah w δ)(ho:I8 t ls):Fm t ls w (.returned (.bool false)) W:=by obtain⟨δ,rfl⟩:=h;exact⟨false,δ,rfl,rfl,fun _=>ho⟩
theorem Wp{ls:List aQ}{k:Nat}(h:∀p,p<ls.length->(nth ls p).length<=k):∀x∈ls,x.length<=k:=by intro x hx;obtain⟨i,hi,rfl⟩:=List.getElem_of_mem hx;have:=h i hi;rwa [bN _ hi] at this
theorem Sc(r:aW)(t:aO)(ls:List aQ)(A:Option Addr)(cap:Nat)(B:Nat)(w:nJ)(hT:aN B w r t)[hB:Le B w](hS:Sl bS B w A cap ls):Calls nH 38 #[aY r t,.slice A ls.length cap] w (Fm t ls w):=by
 have H:=qh hT;have HS:=qh hS;have HFA:Hid (∀W:nJ,aD B w W->Le B W->Calls nH 70 #[aY r t] W fun e w'=>e=.returned (.bool (Ik t))/\∃δ,w'=ah W δ):=qh fun W i1 i2=>SX r t B W H.out.up;clear hT hS;rcases hfr:Ik t with _|_
 ·have HF0:=qh hfr;rw[hfr] at HFA;clear hfr;by_cases h60:60<ls.length
  ·have abf:(60:Int)<(ls.length:Int):=nQ;go_enter Tryz.func38,Tryz.ntmps38;go_upto_region 1 with fail;refine aM fun W1 aH=>?_;obtain⟨cJ,dF,cW,di,dz⟩:=BH B w aH;have b1:Hid (ay W1 w.heap.size 39 (aG r t)):=by rw[aH.out];exact qh (ay.new rfl)
   clear aH;go_wp2_with (first|(refine au aq rfl _ rfl rfl b1.out rfl ?_)|(go_at_call 70;refine(HFA.out _ inferInstance inferInstance).mono ?_;rintro e w1 ⟨rfl,δ1,rfl⟩));go_ret;exact wv ag
  ·have abf:¬(60:Int)<(ls.length:Int):=nQ;have ai2:decide ((60:Int)<(ls.length:Int))=false:=decide_eq_false abf;have aeF:Hid (ls.length<=60):=qh nQ;go_enter Tryz.func38,Tryz.ntmps38;go_upto_region 1 with fail;refine aM fun W1 aH=>?_;obtain⟨eL,jG,Fo,G9,su⟩:=BH B w aH;have b1:Hid (ay W1 w.heap.size 39 (aG r t)):=by rw[aH.out];exact qh (ay.new rfl)
   clear aH;go_upto_region 4 with(first|(refine au aq rfl _ rfl rfl b1.out rfl ?_)|(go_at_call 70;refine(HFA.out _ inferInstance inferInstance).mono ?_;rintro e w1 ⟨rfl,δ1,rfl⟩));go_loopg [5] ls.length (fun gn s5 wr=>∃(j:Nat) (δ:nJ),j<=ls.length/\gn=ls.length-j/\s5=.int .i64 j/\wr=ah W1 δ/\Hid (∀p,p<j->(nth ls p).length<=60))
   case atStart=>exact⟨0,δ1,nE _,rfl,rfl,rfl,qh fun p hp=>absurd hp (Nat.not_lt_zero _)⟩
   case round=>
    obtain⟨j,δ2,hj,rfl,rfl,rfl,HP⟩:=hrel;by_cases hlt:j<ls.length
    ·have hji:(j:Int)<(ls.length:Int):=nQ;have hj0:¬(j:Int)<0:=nQ;obtain⟨sb,so,rfl,EE,e0⟩:=(HS.out.up (w':=W1)).kK hlt;have isb:Lt sb W1:=⟨nL EE eL.out⟩;obtain⟨lj,Jd⟩:∃x,nth ls j=x:=⟨_,rfl⟩;rw[Jd] at e0;by_cases Pk:60<lj.length
     ·have aaV:(60:Int)<(lj.length:Int):=nQ;clear EE Jd;go_wp2_with fail;go_ret;exact wv ag
     ·have aaV:¬(60:Int)<(lj.length:Int):=nQ;have aht:decide ((60:Int)<(lj.length:Int))=false:=decide_eq_false aaV;have HP2:Hid (∀p,p<j+1->(nth ls p).length<=60):=qh fun p hp=>by
       rcases Nat.lt_succ_iff_lt_or_eq.1 hp with h|rfl
       ·exact HP.out p h
       ·rw[Jd];omega
      clear EE Jd Pk;go_wp2_with fail;go_roundg (ls.length-(j+1))
      case measure=>omega
      case rel=>exact⟨j+1,_,nQ,rfl,by go_num,rfl,HP2⟩
    ·obtain rfl:j=ls.length:=by omega
     have hjn:¬((ls.length:Int)<(ls.length:Int)):=nQ;have Qe:Hid (I8 t ls):=qh ⟨HF0.out,aeF.out,Wp HP.out⟩;have qm:Hid (∀x∈ls,x.length<=1000):=qh fun x hx=>nT (Qe.out.2.2 x hx) nU;have b2:Hid (ay (ah W1 δ2) w.heap.size 39 (aG r t)):=qh (b1.out.ah _);clear HP hlt h60;rcases hv:aE t with _|_
     ·have HC:Hid (cD (aE t) 120=120):=by unfold Hid;rw[hv];rfl
      clear hv;go_wp2_with (first|(refine au aq rfl _ rfl rfl b2.out rfl ?_)|(go_at_call 39;refine(cw r t B _ H.out.up).mono ?_;rw[HC.out];rintro e w1 ⟨rfl,δ3,rfl⟩));go_ret;exact Ll ag Qe.out
     ·have HC:Hid (cD (aE t) 120=0):=by unfold Hid;rw[hv];rfl
      have HV:=qh hv;clear hv;by_cases Qr:30<ls.length
      ·have Y6:(30:Int)<(ls.length:Int):=nQ;clear Qr;go_wp2_with (first|(refine au aq rfl _ rfl rfl b2.out rfl ?_)|(go_at_call 39;refine(cw r t B _ H.out.up).mono ?_;rw[HC.out];rintro e w1 ⟨rfl,δ3,rfl⟩));go_ret;exact Ll ag Qe.out
      ·have Y6:¬(30:Int)<(ls.length:Int):=nQ;have ai6:decide ((30:Int)<(ls.length:Int))=false:=decide_eq_false Y6;go_upto_region 10 with(first|(refine au aq rfl _ rfl rfl b2.out rfl ?_)|(go_at_call 39;refine(cw r t B _ H.out.up).mono ?_;rw[HC.out];rintro e w1 ⟨rfl,δ3,rfl⟩));apply wp_region_lit;refine au aq rfl _ rfl rfl (b2.out.ah _) rfl ?_;refine gC (ps:=[(0,aY r t)]) (cells:=cE ⟨r,none,0⟩ (bZ t)) rfl _ _ rfl rfl (Lu r t) ?_;go_upto_region 11 with(first|(refine ak (cs':=cE ⟨r,none,0⟩ (bZ t)) cz rfl _ _ rfl rfl rfl (ay.new (T:=125) rfl) rfl rfl (dO _ _) ?_;intro W2 E2 k2));have g1:W1.heap.size<=(ah (ah W1 δ2) δ3).heap.size:=(inferInstance:Le W1.heap.size (ah (ah W1 δ2) δ3)).out;have q3:aD w.heap.size w W2:=cC k2 (nT Fo.out g1);have q4:Le w.heap.size W2:=dB k2;have gw:Hid (w.heap.size<(ah (ah W1 δ2) δ3).heap.size):=qh (nL su.out g1);obtain⟨g,hg⟩:∃g,(ah (ah W1 δ2) δ3).heap.size=g:=⟨_,rfl⟩;rw[hg] at E2 gw ⊢;have E2:=qh E2;clear k2 b1 b2 g1 hg;go_upto_region 12 with fail;go_loopg [7] ls.length (fun gn s7 wr=>∃(j:Nat) (kk:cO) (d:ct) (a:List aQ),j<=ls.length/\gn=ls.length-j/\s7=.int .i64 j/\Hid (L6 t ls j d a)/\Hid (ay wr g 125 (cE kk d))/\Hid (cY r t w kk.ax d.ax wr)/\Hid (dW wr kk.oA kk.oc d.az)/\aD w.heap.size w wr/\Le w.heap.size wr)
       case atStart=>exact⟨0,⟨r,none,0⟩,bZ t,[],nE _,rfl,rfl,qh (CI HV.out),E2,qh cY.refl,qh fN.none_,q3,q4⟩
       case round=>
        obtain⟨j,kk,d,a,hj,rfl,rfl,HJ,HE,Ub,HO,i1,a2⟩:=hrel;have a3:aD B w wr:=⟨⟨i1.out.1,i1.out.2.1,i1.out.2.2.1,fun b hb=>i1.out.2.2.2 b (nL hb hB.out)⟩⟩;have a4:Le B wr:=⟨nT hB.out a2.out⟩;have lE:=HE.out.lt;by_cases hlt:j<ls.length
        ·have hji:(j:Int)<(ls.length:Int):=nQ;have hj0:¬(j:Int)<0:=nQ;obtain⟨sb,so,rfl,EE,e0⟩:=(HS.out.up (w':=wr)).kK hlt;have isb:Lt sb wr:=⟨nL EE a4.out⟩;have Ue:=qh (HJ.out.step hlt nQ (qm.out _ (aR ls hlt)));have jA:=qm.out _ (aR ls hlt);obtain⟨lj,Jd⟩:∃x,nth ls j=x:=⟨_,rfl⟩;rw[Jd] at e0 Ue jA;have uX:Hid (∀(k:cO) (W:nJ),aN W.heap.size W k.ax d.ax->Le W.heap.size W->dW W k.oA k.oc d.az->Calls nH 71 #[jk k d,.string (str lj)] W (fh k d W (fO d lj))):=qh fun k W h1 h2 h3=>UK k d lj jA HJ.out.valid HJ.out.az HJ.out.Ef (nT HJ.out.given nQ) W.heap.size W h1 h3;obtain⟨xd,xt,hx⟩:∃a b,fO d lj=(a,b):=⟨_,_,rfl⟩;rw[hx] at uX Ue;simp only[] at Ue;unfold fh at uX;clear Jd jA hx;go_upto_region 14 with fail;refine wp_region_held (S:=fun W=>aD wr.heap.size wr W) nP ?_;change wpAnyH _ _ _ _ _ _ _ _ (World.drew _);refine gN 0 (jk kk d) rfl nP (iE cz nY _ rfl rfl (fun W h=>ay.eO (hg:=h) HE.out) rfl) (inferInstance) ?_;refine QAC ?_;refine wpH_tq 1 (.slice (some ⟨sb,so,none⟩) ls.length cap) (inferInstance) ?_;refine QAC ?_;refine wpH_tq 2 (.int .i64 j) (inferInstance) ?_;refine QAC ?_;refine wpH_tq 3 (.pointer (some ⟨sb,so+j,none⟩)) (inferInstance) ?_;refine QAC ?_;refine gN 4 (.string (str lj)) rfl nP (Or.inl ⟨nY,by intro w5 h5;have e5:=(bB h5.out sb (so+j) isb.out).trans e0;go_simp⟩) (inferInstance) ?_;refine QAC ?_;refine wpAnyH_all (rs:=[5,9]) nP nV ?_;intro i hi;rcases List.mem_cons.1 hi with rfl|hi
         ·unfold wpOp;show if Region.wanted _ _=true then _ else _;rw[if_pos nY];left;unfold Oper.wp;go_simp;refine(uX.out kk _ (Ub.out.up.is H.out) inferInstance HO.out.wide).mono ?_;rintro e w1 ⟨k',δ5,rfl,rfl,SB,SE⟩;have TR:=qh SB;have Ft:=qh SE;clear SB SE;refine⟨inferInstance,?_⟩;refine QAC ?_;refine wpH_tq 6 (.tuple #[jk k' xd,.string (str xt)]) (inferInstance) ?_;refine QAC ?_;refine wpH_tq 7 (jk k' xd) (inferInstance) ?_;refine QAC ?_;refine wpH_tq 8 (.string (str xt)) (inferInstance) ?_;refine QAC ?_;refine wpAnyH_all (rs:=[9]) nP nV ?_;intro i hi;obtain rfl:=List.mem_singleton.1 hi;refine QAF ?_;refine⟨inferInstance,?_⟩;refine QAC ?_;refine wpAnyH_all (rs:=[10]) nP nV ?_;intro i hi;obtain rfl:=List.mem_singleton.1 hi;refine QBB ?_;refine oB cz _ _ rfl rfl rfl (ay.new (T:=125) rfl) rfl rfl (dO _ _) ?_;intro W9 C9 k9;have g9:aD wr.heap.size wr W9:=cC k9 ((inferInstance:Le wr.heap.size (ah wr.drew δ5)).out);refine⟨g9,?_⟩;refine QAC ?_;refine wpH_tq 11 (.string (str xt)) (g9) ?_;refine QAC ?_;refine wpAnyH_done nP ?_ _;have To9:Hid (cY r t w k'.ax xd.ax W9):=qh ((((Ub.out.up (W':=wr.drew)).trans TR.out a2.out).up (W':=(ah wr.drew δ5).alloc _)).aV k9 (ay.new rfl) nU);have O9:Hid (dW W9 k'.oA k'.oc xd.az):=qh ((Ft.out.up (w':=(ah wr.drew δ5).alloc _)).aV k9 (ay.new rfl) nU nV);refine QBK ?_;intro E9 l9 f1 f3 f4 f5 f6 I6 C9;clear k9 TR Ft;rcases hf:Ik xd.ax with _|_
          ·rw[hf] at I6;clear hf;go_upto_region 17 with(first|(refine cA (cs':=aG k'.ax xd.ax) aq rfl _ rfl rfl C9.out (eU k' xd) rfl ?_)|(go_at_call 70;refine I6.out.mono ?_;rintro e w1 ⟨rfl,δ6,rfl⟩));go_upto_region 13 with(first|(refine au cz rfl _ rfl rfl (C9.out.ah _) rfl ?_)|(refine ak cz rfl _ _ rfl rfl rfl (E9.out.ah _) rfl rfl (dO _ _) ?_;intro W10 E10 Yl));refine QDQ ?_;intro E10 To10 O10 n1 n3;clear E9 To9 O9 Yl C9;go_wp2_with fail;go_roundg (ls.length-(j+1))
           case measure=>omega
           case rel=>exact⟨j+1,k',xd,a++[xt],nQ,rfl,by go_num,Ue,E10,To10,O10,n1,n3⟩
          ·rw[hf] at I6;clear hf;go_wp2_with (first|(refine cA (cs':=aG k'.ax xd.ax) aq rfl _ rfl rfl C9.out (eU k' xd) rfl ?_)|(go_at_call 70;refine I6.out.mono ?_;rintro e w1 ⟨rfl,δ6,rfl⟩));go_ret;exact wv ag
         ·obtain rfl:=List.mem_singleton.1 hi;refine QAF ?_;refine⟨inferInstance,?_⟩;refine QAC ?_;refine wpAnyH_all (rs:=[5]) nP nV ?_;intro i hi;obtain rfl:=List.mem_singleton.1 hi;refine QAF ?_;refine(uX.out kk _ (Ub.out.up.is H.out) inferInstance HO.out.wide).mono ?_;rintro e w1 ⟨k',δ5,rfl,rfl,SB,SE⟩;have TR:=qh SB;have Ft:=qh SE;clear SB SE;refine⟨inferInstance,?_⟩;refine QAC ?_;refine wpH_tq 6 (.tuple #[jk k' xd,.string (str xt)]) (inferInstance) ?_;refine QAC ?_;refine wpH_tq 7 (jk k' xd) (inferInstance) ?_;refine QAC ?_;refine wpH_tq 8 (.string (str xt)) (inferInstance) ?_;refine QAC ?_;refine wpAnyH_all (rs:=[10]) nP nV ?_;intro i hi;obtain rfl:=List.mem_singleton.1 hi;refine QBB ?_;refine oB cz _ _ rfl rfl rfl (((ay.new (T:=125) rfl).drew).ah _) rfl rfl (dO _ _) ?_;intro W9 C9 k9;have g9:aD wr.heap.size wr W9:=cC k9 (nR _);refine⟨g9,?_⟩;refine QAC ?_;refine wpH_tq 11 (.string (str xt)) (g9) ?_;refine QAC ?_;refine wpAnyH_done nP ?_ _;have To9:Hid (cY r t w k'.ax xd.ax W9):=qh ((((Ub.out.up (W':=(wr.alloc _).drew)).trans TR.out (nT a2.out (by show wr.heap.size<=(wr.alloc _).heap.size;simp)))).aV k9 (((ay.new rfl).drew).ah _) nU);have O9:Hid (dW W9 k'.oA k'.oc xd.az):=qh (Ft.out.aV k9 (((ay.new rfl).drew).ah _) nU (nR _));refine QBK ?_;intro E9 l9 f1 f3 f4 f5 f6 I6 C9;clear k9 TR Ft;rcases hf:Ik xd.ax with _|_
          ·rw[hf] at I6;clear hf;go_upto_region 17 with(first|(refine cA (cs':=aG k'.ax xd.ax) aq rfl _ rfl rfl C9.out (eU k' xd) rfl ?_)|(go_at_call 70;refine I6.out.mono ?_;rintro e w1 ⟨rfl,δ6,rfl⟩));go_upto_region 13 with(first|(refine au cz rfl _ rfl rfl (C9.out.ah _) rfl ?_)|(refine ak cz rfl _ _ rfl rfl rfl (E9.out.ah _) rfl rfl (dO _ _) ?_;intro W10 E10 Yl));refine QDQ ?_;intro E10 To10 O10 n1 n3;clear E9 To9 O9 Yl C9;go_wp2_with fail;go_roundg (ls.length-(j+1))
           case measure=>omega
           case rel=>exact⟨j+1,k',xd,a++[xt],nQ,rfl,by go_num,Ue,E10,To10,O10,n1,n3⟩
          ·rw[hf] at I6;clear hf;go_wp2_with (first|(refine cA (cs':=aG k'.ax xd.ax) aq rfl _ rfl rfl C9.out (eU k' xd) rfl ?_)|(go_at_call 70;refine I6.out.mono ?_;rintro e w1 ⟨rfl,δ6,rfl⟩));go_ret;exact wv ag
        ·obtain rfl:j=ls.length:=by omega
         have ahz:¬((ls.length:Int)<(ls.length:Int)):=nQ;go_wp2_with fail;go_ret;exact Ll ag Qe.out
 ·rw[hfr] at HFA;clear hfr;go_enter Tryz.func38,Tryz.ntmps38;go_upto_region 1 with fail;refine aM fun W1 aH=>?_;obtain⟨tZ,tY,sR,tX,Ex⟩:=BH B w aH;have b1:Hid (ay W1 w.heap.size 39 (aG r t)):=by rw[aH.out];exact qh (ay.new rfl)
  clear aH;go_wp2_with (first|(refine au aq rfl _ rfl rfl b1.out rfl ?_)|(go_at_call 70;refine(HFA.out _ inferInstance inferInstance).mono ?_;rintro e w1 ⟨rfl,δ1,rfl⟩));go_ret;exact wv ag
end
section
open Hd
theorem Sl.apart{α:Type}{enc:α->List nK}{B b c:Nat}{W W':nJ}{A:Option Addr}{xs:List α}{T:TypeId}{cs:Array nK}(h:Sl enc B W A c xs)(hb:ay W b T cs)(hz:∀(i:Nat) (v:Int),cs[i]?=some (Value.int .i64 v)->v=0)(hx:∃(j:Nat) (v:Int),(xs.flatMap enc)[j]?=some (Value.int .i64 v)/\v≠0)(hB:B<=W.heap.size)(k:bI (fun x=>x=b) W W'):Sl enc B W' A c xs:=by
 refine⟨h.1,h.2.1,fun hne=>?_⟩;obtain⟨b',o,e,hlt,hc⟩:=h.2.2 hne;refine⟨b',o,e,hlt,fun j v hj=>?_⟩;have ij:¬b'=b:=by rintro rfl;obtain⟨i,u,hi,hu⟩:=hx;have h1:=hc i _ hi;rw[cell_of_row W b' (o+i) cs T (0,0) hb] at h1;exact hu (hz _ _ h1)
 rw[World.cell?_of_block (a:=⟨b',o+j,none⟩) (k.block b' (nL hlt hB) ij)];exact hc j v hj
theorem Jn(i:Nat)(v:Int)(h:(aG dc cS)[i]?=some (.int .i64 v)):v=0:=by
 rw[Np] at h;match i,h with
 |0,h=>injection h with h;injection h with _ h;exact h.symm
 |1,h=>injection h with h;injection h with _ h;exact h.symm
 |2,h=>injection h with h;injection h with _ h;exact h.symm
 |3,h=>injection h with h;injection h with _ h;exact h.symm
 |4,h=>injection h with h;cases h
 |5,h=>injection h with h;cases h
 |6,h=>injection h with h;cases h
 |7,h=>injection h with h;injection h with _ h;exact h.symm
 |8,h=>injection h with h;cases h
 |9,h=>injection h with h;cases h
 |10,h=>injection h with h;cases h
 |11,h=>injection h with h;injection h with _ h;exact h.symm
 |12,h=>injection h with h;cases h
 |13,h=>injection h with h;cases h
 |n+14,h=>cases h
theorem XI:gi nH 28 7:=gi.mk' Tryz.underlying28 rfl nP
theorem UF:gi nH 32 3:=gi.mk' Tryz.underlying32 rfl nP
theorem QY:gi nH 37 4:=gi.mk' Tryz.underlying37 rfl nP
abbrev Ya(r:eS)(n:An.Net):Array nK:=#[.int .i64 n.aP.lo,.int .i64 n.aP.hi,.int .i64 n.cur.lo,.int .i64 n.cur.hi,.slice r.gA n.av.length r.gc,.slice r.aA n.aB.length r.ac,.slice r.wA n.aU.length r.wc]
abbrev WE(r:cx)(n:Me.Net):Array nK:=#[.int .i64 n.m,.slice r.hA n.hs.length r.hc,.slice r.pA n.ps.length r.pc]
abbrev aaN(r:eT)(h:Sa.aJ):Array nK:=#[.slice r.kA h.kinds.length r.kc,.int .i64 h.floor,.slice r.pA h.parts.length r.pc,.slice r.bA h.bars.length r.bc]
theorem Ju(r:aW)(t:aO):Tryz.prog.built 39 [(0,eK r.aF t.aF),(1,cH r.af t.af),(2,fu r.aa t.aa)]=some (aG r t):=by kernel_rfl
theorem Ev(w:nJ):Calls nH 41 #[] w fun e w'=>∃(r:aW) (δ:nJ),e=.returned (aY r gX)/\w'=ah w δ/\aN (ah w δ).heap.size (ah w δ) r gX:=by
 go_enter Tryz.func41,Tryz.ntmps41;go_upto_region 1 with fail;refine aM fun W0 jR=>?_;have a1:aD w.heap.size w W0:=gy jR;have a2:Le w.heap.size W0:=fI jR;have b0:Hid (ay W0 w.heap.size 39 (aG dc cS)):=by rw[jR.out];exact qh (ay.new rfl)
 have l0:=b0.out.lt;clear jR;go_upto_region 2 with(go_at_call 79;refine(PE _).mono ?_;rintro e w1 ⟨rN,ra,rb,δ1,rfl,rfl,hN,_,_⟩;have HN:=qh hN;clear hN);refine aM fun W1 aH=>?_;obtain⟨g1,hg1⟩:∃g,(ah W0 δ1).heap.size=g:=⟨_,rfl⟩;have a3:aD w.heap.size w W1:=gy aH;have a4:Le w.heap.size W1:=fI aH;have b1:Hid (ay W1 w.heap.size 39 (aG dc cS)):=by rw[aH.out];exact qh ((((b0.out.ah _).alloc _).alloc _).alloc _)
 have n1:Hid (ay W1 g1 28 (Ya rN Lo)):=by rw[aH.out,<-hg1];exact qh (((ay.new rfl).alloc _).alloc _)
 have N1:Hid (cr W1.heap.size W1 rN Lo):=by rw[aH.out];exact qh (HN.out.wide)
 have ln1:=n1.out.lt;rw[hg1];clear aH HN b0 l0 hg1;go_upto_region 3 with(go_at_call 80;refine(KC _).mono ?_;rintro e w1 ⟨rM,δ2,rfl,rfl,HM⟩);refine aM fun W2 eJ=>?_;obtain⟨g2,mu⟩:∃g,(ah W1 δ2).heap.size=g:=⟨_,rfl⟩;have a5:aD w.heap.size w W2:=gy eJ;have a6:Le w.heap.size W2:=fI eJ;have b2:Hid (ay W2 w.heap.size 39 (aG dc cS)):=by rw[eJ.out];exact qh (((b1.out.ah _).alloc _).alloc _)
 have n2:Hid (ay W2 g1 28 (Ya rN Lo)):=by rw[eJ.out];exact qh (((n1.out.ah _).alloc _).alloc _)
 have m2:Hid (ay W2 g2 32 (WE rM yH)):=by rw[eJ.out,<-mu];exact qh ((ay.new rfl).alloc _)
 have N2:Hid (cr W2.heap.size W2 rN Lo):=by rw[eJ.out];exact qh (N1.out.wide)
 have M2:Hid (bL W2.heap.size W2 rM yH):=by rw[eJ.out];exact qh (HM.out.wide)
 rw[mu];clear eJ HM b1 n1 N1 ln1 mu;go_upto_region 4 with(go_at_call 81;refine(Lm _).mono ?_;rintro e w1 ⟨rH,rH2,δ3,rfl,rfl,hH⟩;have HH:=qh hH;clear hH);refine aM fun W3 bR=>?_;obtain⟨g3,uO⟩:∃g,(ah W2 δ3).heap.size=g:=⟨_,rfl⟩;have a7:aD w.heap.size w W3:=gy bR;have a8:Le w.heap.size W3:=fI bR;have b3:Hid (ay W3 w.heap.size 39 (aG dc cS)):=by rw[bR.out];exact qh (((b2.out.ah _).alloc _).alloc _)
 have n3:Hid (ay W3 g1 28 (Ya rN Lo)):=by rw[bR.out];exact qh (((n2.out.ah _).alloc _).alloc _)
 have m3:Hid (ay W3 g2 32 (WE rM yH)):=by rw[bR.out];exact qh (((m2.out.ah _).alloc _).alloc _)
 have s3:Hid (ay W3 g3 37 (aaN rH BV)):=by rw[bR.out,<-uO];exact qh ((ay.new rfl).alloc _)
 have N3:Hid (cr W3.heap.size W3 rN Lo):=by rw[bR.out];exact qh (N2.out.wide)
 have M3:Hid (bL W3.heap.size W3 rM yH):=by rw[bR.out];exact qh (M2.out.wide)
 have H3:Hid (bW W3.heap.size W3 rH BV):=by rw[bR.out];exact qh (HH.out.wide)
 rw[uO];clear bR HH b2 n2 N2 m2 M2 uO;apply wp_region_lit;refine au XI rfl _ rfl rfl n3.out rfl ?_;refine au UF rfl _ rfl rfl m3.out rfl ?_;refine au QY rfl _ rfl rfl s3.out rfl ?_;refine gC (ps:=[(0,eK rN Lo),(1,cH rM yH),(2,fu rH BV)]) (cells:=aG ⟨rN,rM,rH⟩ gX) rfl _ _ rfl rfl (Ju ⟨rN,rM,rH⟩ gX) ?_;go_wp2_with (refine ak (cs':=aG ⟨rN,rM,rH⟩ gX) aq rfl _ _ rfl rfl rfl b3.out rfl rfl (aL _ _) ?_;intro W9 C9 k9);refine QCO ?_;intro p1 p2;refine iI aq Tryz.results41 rfl C9 rfl ?_;refine⟨⟨rN,rM,rH⟩,W9,rfl,ai,?_⟩;refine QDF ?_;have z:=Jn;exact⟨⟨Sl.apart N3.out.1 b3.out z ⟨0,2,rfl,nU⟩ (nR _) k9 |>.more k9.size,Sl.apart N3.out.2.1 b3.out z ⟨0,6,rfl,nU⟩ (nR _) k9 |>.more k9.size,Sl.apart N3.out.2.2 b3.out z ⟨0,2,rfl,nU⟩ (nR _) k9 |>.more k9.size⟩,
  ⟨Sl.apart M3.out.1 b3.out z ⟨1,2,rfl,nU⟩ (nR _) k9 |>.more k9.size,Sl.apart M3.out.2 b3.out z ⟨1,2,rfl,nU⟩ (nR _) k9 |>.more k9.size⟩,
  ⟨Sl.apart H3.out.1 b3.out z ⟨0,3,rfl,nU⟩ (nR _) k9 |>.more k9.size,Sl.apart H3.out.2.1 b3.out z ⟨1,10,rfl,nU⟩ (nR _) k9 |>.more k9.size,Sl.apart H3.out.2.2 b3.out z ⟨0,40,rfl,nU⟩ (nR _) k9 |>.more k9.size⟩⟩
end
section
open Hd
theorem Za:lf gX iM=((kU,[Il]),(dJ (bZ gX) iM).1.ax,0):=by have Qr:¬30<iM.length:=nU;unfold lf;rw[if_neg (by rw[SZ];decide),if_neg Qr,Ln,VU]
theorem mK{W:nJ}{g:Nat}{arr:Array nK}{ls:List aQ}(hb:ay W g 9 arr)(he:arr.toList=ls.flatMap bS)(h2:ls.length<=1000):Sl bS W.heap.size W (some ⟨g,0,none⟩) ls.length ls:=by refine⟨nR _,nQ,fun _=>⟨g,0,rfl,hb.tN,fun j v hj=>?_⟩⟩;rw[Nat.zero_add];exact hb.cell (by rw[<-Array.getElem?_toList,he];exact hj)
theorem iA{P:Program}{f:FuncId}{args:Array nK}{W:nJ}{R:Ending->nJ->Prop}(h:∀X,W=X->Calls P f args X R):Calls P f args W R:=h W rfl
theorem dK(w:nJ)[h8:Le 8 w](hL:cT w):Calls nH 11 #[] w fun e w'=>e=.returned (.bool true)/\∃δ,w'=ah w δ:=by
 have HL:=qh hL;have HEX:Hid (∀(r:aW) (g B:Nat) (W:nJ),aN B W r gX->Le B W->Le 8 W->cT W->Sl bS B W (some ⟨g,0,none⟩) 7 iM->Calls nH 40 #[aY r gX,.slice (some ⟨g,0,none⟩) 7 7] W (rR gX iM W)):=qh fun r g B W h1 h2 h3 h4 h5=>
  Y0 r gX iM (some ⟨g,0,none⟩) 7 nU B W h1 h4 h5
 unfold rR at HEX;rw[Za] at HEX;have m1:(dJ (bZ gX) iM).1.ax.af.m=2:=Zb;have m2:=VT;obtain⟨tt,Vx⟩:∃x,(dJ (bZ gX) iM).1.ax=x:=⟨_,rfl⟩;rw[Vx] at HEX m1 m2;have M1:=qh m1;have M2:=qh m2;clear hL Vx m1 m2;go_enter Tryz.func11,Tryz.ntmps11;go_wp2_with (go_at_call 41;refine(Ev _).mono ?_;rintro e w1 ⟨rE,δ1,rfl,rfl,hE⟩;have HE:=qh hE;clear hE);refine iA fun X hX=>?_;have x0:aD w.heap.size w X:=by rw[<-hX];infer_instance
 have x1:Le w.heap.size X:=by rw[<-hX];infer_instance
 have x2:Hid (aN X.heap.size X rE gX):=by rw[<-hX];exact qh HE.out.wide
 have x3:Hid (Sl bS X.heap.size X (some ⟨(ah w δ1).heap.size,0,none⟩) 7 iM):=by rw[<-hX];exact qh (mK (ls:=iM) (ay.new rfl) rfl nU)
 have x5:aD 8 w X:=by rw[<-hX];infer_instance
 clear hX;have x4:Le 8 X:=⟨nT h8.out x1.out⟩;have x6:Le X.heap.size X:=⟨nR _⟩;refine(HEX.out rE _ X.heap.size X x2.out x6 x4 HL.out.up x3.out).mono ?_;rintro e w1 ⟨aA,ac,rT,lA,lc,δ2,rfl,rfl,ha,hT,hl⟩;have ac5:=qh ha;have HLf:=qh hl;clear ha hT hl;go_upto_region 2 with(refine ak (cs':=aG rT tt) aq rfl _ _ rfl rfl rfl (ay.new (T:=39) rfl) rfl rfl (aL _ _) ?_;intro W3 T3 k3);have n1:aD w.heap.size w W3:=cC k3 (inferInstance:Le w.heap.size (ah X δ2)).out;have n2:Le w.heap.size W3:=dB k3;have q1:aD (ah X δ2).heap.size (ah X δ2) W3:=cC k3 (nR _);have q2:Le (ah X δ2).heap.size W3:=dB k3;have A3:Hid (Sl bS W3.heap.size W3 aA ac kU):=qh ac5.out.wide;have L3:Hid (Sl bS W3.heap.size W3 lA lc [Il]):=qh HLf.out.wide;have y7:=T3.cell (i:=7) (v:=.int .i64 tt.af.m) rfl;have y0:=T3.cell (i:=0) (v:=.int .i64 tt.aF.aP.lo) rfl;have y1:=T3.cell (i:=1) (v:=.int .i64 tt.aF.aP.hi) rfl;rw[M1.out] at y7;rw[M2.out.1] at y0;rw[M2.out.2] at y1;have lg:=T3.lt;obtain⟨g,hg⟩:∃g,(ah X δ2).heap.size=g:=⟨_,rfl⟩;rw[hg] at y7 y0 y1 lg ⊢;have lw:Le W3.heap.size W3:=⟨nR _⟩;clear q1 q2 ac5 HLf k3 T3;go_wp2_with fail;refine iA fun Y hY=>?_;have z1:Hid (Sl bS Y.heap.size Y lA lc [Il]):=by rw[<-hY];exact qh L3.out.wide
 have z2:Hid (Sl bS Y.heap.size Y (some ⟨W3.heap.size,0,none⟩) 1 [Il]):=by rw[<-hY];exact qh (mK (ls:=[Il]) (ay.new rfl) rfl nU)
 have z3:Hid (Sl bS Y.heap.size Y aA ac kU):=by rw[<-hY];exact qh A3.out.wide
 have z4:aD w.heap.size w Y:=by rw[<-hY];infer_instance
 have z5:Le w.heap.size Y:=by rw[<-hY];infer_instance
 clear hY;have z6:Le Y.heap.size Y:=⟨nR _⟩;refine(xU lA _ lc _ [Il] Y.heap.size Y z1.out z2.out _ _ rfl rfl).mono ?_;rintro e w1 ⟨rfl,δ3,rfl⟩;go_wp2_with fail;refine iA fun Z hZ=>?_;have u1:Hid (Sl bS Z.heap.size Z aA ac kU):=by rw[<-hZ];exact qh z3.out.wide
 have u2:Hid (Sl bS Z.heap.size Z (some ⟨(ah Y δ3).heap.size,0,none⟩) 7 kU):=by rw[<-hZ];exact qh (mK (ls:=kU) (ay.new rfl) rfl nU)
 have u4:aD w.heap.size w Z:=by rw[<-hZ];infer_instance
 have u5:Le w.heap.size Z:=by rw[<-hZ];infer_instance
 clear hZ;have u6:Le Z.heap.size Z:=⟨nR _⟩;refine(xU aA _ ac _ kU Z.heap.size Z u1.out u2.out _ _ rfl rfl).mono ?_;rintro e w1 ⟨rfl,δ4,rfl⟩;go_wp2_with fail;go_ret;exact⟨rfl,ag⟩
end
end Go.Proofs.YtpnnapeoanafdaaGreatDoor
