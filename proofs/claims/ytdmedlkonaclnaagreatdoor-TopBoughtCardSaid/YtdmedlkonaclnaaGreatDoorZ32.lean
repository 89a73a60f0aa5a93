/- A part of the proof that a law of layer 12 holds, cut small by a program (names and blanks): Sl1, Hl1, Hl2, Hl3, Hl4. -/
import Derived.Test.YtdmedlkonaclnaaGreatDoorZ31
set_option maxRecDepth 100000
set_option maxHeartbeats 40000000
set_option linter.unusedVariables false
set_option linter.unusedSimpArgs false
namespace Go.Proofs.YtdmedlkonaclnaaGreatDoor
open Go.RowKit
open Nat renaming le_trans → nT, lt_of_lt_of_le → nL, le_refl → nR, zero_le → nE, le_of_ble_eq_true → nG
open Go.Proofs.Tryz renaming prog → nH
open Go renaming World → nJ, Value → nK
theorem EZ(A A':Option Addr)(c c':Nat)(l:List Int)(B:Nat)(w:nJ)[hB:Le B w](h:Sl aI B w A c l)(h':Sl aI B w A' c' l)(ln:Nat)(hn:l.length=ln):Calls nH 120 #[.slice A ln c,.slice A' ln c'] w fun e w'=>e=.returned (.bool true)/\∃δ,w'=af w δ:=by
 subst hn;have l1:=h.len;have H:=qh h;have H':=qh h';clear h h';go_enter Tryz.func120,Tryz.ntmps120;go_wp2_with fail;go_loopg [5] l.length (fun g i wr=>∃(k:Nat) (δ:nJ),k<=l.length/\g=l.length-k/\i=.int .i64 k/\wr=af w δ)
 case atStart=>exact⟨0,w,nE _,rfl,rfl,(bw w).symm⟩
 case round=>
  obtain⟨k,δ,hk,rfl,rfl,rfl⟩:=hrel;by_cases hlt:k<l.length
  ·obtain⟨b,o,rfl,hb,d0⟩:=H.out.int hlt;obtain⟨b',o',rfl,hb',d0'⟩:=H'.out.int hlt;have ib:Lt b w:=⟨nL hb hB.out⟩;have ib':Lt b' w:=⟨nL hb' hB.out⟩;have hki:(k:Int)<(l.length:Int):=nQ;have hk0:¬(k:Int)<0:=nQ;go_wp2_with fail;refine wpRl ?_;repeat (go_big_quiet_step ((first|(fail))))
   refine QBT ?_;rintro _ ⟨δq,rfl⟩;go_wp2_with fail;go_roundg (l.length-(k+1))
   case measure=>omega
   case rel=>exact⟨k+1,_,nQ,rfl,by go_num,aq⟩
  ·obtain rfl:k=l.length:=by omega
   go_wp2;go_ret;exact⟨rfl,ag⟩
def sP(h:Sa.aN):Bool:=decide (40<h.kinds.length)||decide (40<h.parts.length)||decide (40<h.bars.length)
theorem DP(r:eR)(h:Sa.aN)(w:nJ):Calls nH 141 #[fA r h] w fun e w'=>e=.returned (.bool (sP h))/\∃δ,w'=af w δ:=by
 obtain⟨kA,kc,pA,pc,bA,bc⟩:=r;by_cases h1:(40:Int)<(h.kinds.length:Int)
 ·have H1:Hid (sP h=true):=by unfold Hid sP;rw[decide_eq_true (show 40<h.kinds.length by omega)];rfl
  go_enter Tryz.func141,Tryz.ntmps141;go_wp2;go_ret;exact⟨bu H1.out.symm,ag⟩
 by_cases h2:(40:Int)<(h.parts.length:Int)
 ·have H1:Hid (sP h=true):=by unfold Hid sP;rw[decide_eq_true (show 40<h.parts.length by omega)];simp
  go_enter Tryz.func141,Tryz.ntmps141;go_wp2;go_ret;exact⟨bu H1.out.symm,ag⟩
 by_cases h3:(40:Int)<(h.bars.length:Int)
 ·have H1:Hid (sP h=true):=by unfold Hid sP;rw[decide_eq_true (show 40<h.bars.length by omega)];simp
  go_enter Tryz.func141,Tryz.ntmps141;go_wp2;go_ret;exact⟨bu H1.out.symm,ag⟩
 ·have H1:Hid (sP h=false):=by unfold Hid sP;simp;omega
  go_enter Tryz.func141,Tryz.ntmps141;go_wp2;go_ret;exact⟨bu H1.out.symm,ag⟩
def zw(b:Int):Nat->Int
 |0=>1
 |k+1=>zw b k*b
theorem TH{b:Int}(h:1<=b/\b<=5):∀k,k<=6->1<=zw b k/\zw b k<=15625
 |0,_=>by simp only[zw];omega
 |1,_=>by simp only[zw];omega
 |2,_=>by obtain⟨h1,h2⟩:=h;have:b=1\/b=2\/b=3\/b=4\/b=5:=nQ;rcases this with rfl|rfl|rfl|rfl|rfl<;>decide
 |3,_=>by obtain⟨h1,h2⟩:=h;have:b=1\/b=2\/b=3\/b=4\/b=5:=nQ;rcases this with rfl|rfl|rfl|rfl|rfl<;>decide
 |4,_=>by obtain⟨h1,h2⟩:=h;have:b=1\/b=2\/b=3\/b=4\/b=5:=nQ;rcases this with rfl|rfl|rfl|rfl|rfl<;>decide
 |5,_=>by obtain⟨h1,h2⟩:=h;have:b=1\/b=2\/b=3\/b=4\/b=5:=nQ;rcases this with rfl|rfl|rfl|rfl|rfl<;>decide
 |6,_=>by obtain⟨h1,h2⟩:=h;have:b=1\/b=2\/b=3\/b=4\/b=5:=nQ;rcases this with rfl|rfl|rfl|rfl|rfl<;>decide
 |k+7,h=>by omega
def Bt(h:Sa.aN):Bool:=sP h||(Sa.valid h&&decide (700<zw ((h.bars.length:Int)+1) h.parts.length))
theorem XW(r:eR)(h:Sa.aN)(B:Nat)(w:nJ)[hB:Le B w](hH:bT B w r h):Calls nH 73 #[fA r h] w fun e w'=>e=.returned (.bool (Bt h))/\∃δ,w'=af w δ:=by
 have HH:=qh hH;have lb:=hH.2.2.len;obtain⟨kA,kc,pA,pc,bA,bc⟩:=r;clear hH;rcases hu:sP h with _|_
 ·rcases hv:Sa.valid h with _|_
  ·have HU:=qh hu;have HV:Hid (cC (Sa.valid h) 80=80):=by unfold Hid;rw[hv];rfl
   have HF:Hid (Bt h=false):=by unfold Hid Bt;rw[hu,hv];rfl
   clear hu hv;go_enter Tryz.func73,Tryz.ntmps73;go_wp2_with (first|(go_at_call 141;refine(DP ⟨kA,kc,pA,pc,bA,bc⟩ h _).mono ?_;rw[HU.out];rintro e w1 ⟨rfl,δ1,rfl⟩)|(go_at_call 37;refine(wT ⟨kA,kc,pA,pc,bA,bc⟩ h B _ HH.out.up).mono ?_;rw[HV.out];rintro e w1 ⟨rfl,δ1,rfl⟩));go_ret;exact⟨bu HF.out.symm,ag⟩
  ·have HU:=qh hu;have HV:=qh hv;have HF:Hid (Bt h=decide (700<zw ((h.bars.length:Int)+1) h.parts.length)):=by unfold Hid Bt;rw[hu,hv];rfl
   refine QDU ?_;intro h6 h4;have VX:=qh (TH (b:=(h.bars.length:Int)+1) nQ);clear hu hv;go_enter Tryz.func73,Tryz.ntmps73;go_wp2_with (first|(go_at_call 141;refine(DP ⟨kA,kc,pA,pc,bA,bc⟩ h _).mono ?_;rw[HU.out];rintro e w1 ⟨rfl,δ1,rfl⟩)|(go_at_call 37;refine(mM ⟨kA,kc,pA,pc,bA,bc⟩ h HV.out B _ HH.out.up).mono ?_;rintro e w1 ⟨rfl,δ1,rfl⟩));refine QAE ?_;intro W1 aH cJ dF cU dA dD um mV kR mG;clear aH;go_loopg [3,4] h.parts.length (fun gg n i wr=>∃(k:Nat) (δ:nJ),k<=h.parts.length/\gg=h.parts.length-k/\n=.int .i64 (zw ((h.bars.length:Int)+1) k)/\i=.int .i64 k/\wr=af W1 δ)
   case atStart=>exact⟨0,W1,nE _,rfl,rfl,rfl,(bw W1).symm⟩
   case round=>
    obtain⟨k,δ,hk,rfl,rfl,rfl,rfl⟩:=hrel;by_cases hlt:k<h.parts.length
    ·have hki:(k:Int)<(h.parts.length:Int):=nQ;have HN:Hid (zw ((h.bars.length:Int)+1) (k+1)=zw ((h.bars.length:Int)+1) k*((h.bars.length:Int)+1)):=rfl;have kL:=VX.out (k+1) nQ;rw[HN.out] at kL;obtain⟨n,hn⟩:∃n,zw ((h.bars.length:Int)+1) k=n:=⟨_,rfl⟩;rw[hn] at HN kL;rw[hn];have hwr:IntKind.i64.wrap (n*((h.bars.length:Int)+1))=n*((h.bars.length:Int)+1):=by rw[IntWalk.i64_in];omega
     clear hn;go_wp2;go_roundg (h.parts.length-(k+1))
     case measure=>omega
     case rel=>exact⟨k+1,_,nQ,rfl,by rw[HN.out],by go_num,aq⟩
    ·obtain rfl:k=h.parts.length:=by omega
     go_wp2_with fail;go_ret;exact⟨bu HF.out.symm,ag⟩
 ·have HU:=qh hu;have HF:Hid (Bt h=true):=by unfold Hid Bt;rw[hu];rfl
  clear hu;go_enter Tryz.func73,Tryz.ntmps73;go_wp2_with (go_at_call 141;refine(DP ⟨kA,kc,pA,pc,bA,bc⟩ h _).mono ?_;rw[HU.out];rintro e w1 ⟨rfl,δ1,rfl⟩);go_ret;exact⟨bu HF.out.symm,ag⟩
theorem To(r r':eR)(h:Sa.aN)(B:Nat)(w:nJ)[hB:Le B w](hH:bT B w r h)(hH':bT B w r' h):Calls nH 59 #[fA r h,fA r' h] w fun e w'=>e=.returned (.bool true)/\∃δ,w'=af w δ:=by
 have l1:=hH.1.len;have l2:=hH.2.1.len;have H:=qh hH;have H':=qh hH';obtain⟨kA,kc,pA,pc,bA,bc⟩:=r;obtain⟨Ue,Ud,pA',pc',bA',bc'⟩:=r';clear hH hH';go_enter Tryz.func59,Tryz.ntmps59;go_wp2_with (go_at_call 120;refine(EZ bA bA' bc bc' h.bars B _ H.out.2.2.up H'.out.2.2.up _ rfl).mono ?_;rintro e w1 ⟨rfl,δ,rfl⟩);refine QCD ?_;intro W1 aH cJ dF cU dA dD eI;refine QCR ?_;intro mV kR mG jE;have mR:W1.cell? ⟨w.heap.size+1,0,none⟩=some (.slice Ue h.kinds.length Ud):=by rw[aH.out];go_simp
 have mQ:W1.cell? ⟨w.heap.size+1,1,none⟩=some (.int .i64 h.floor):=by rw[aH.out];go_simp
 have vX:W1.cell? ⟨w.heap.size+1,2,none⟩=some (.slice pA' h.parts.length pc'):=by rw[aH.out];go_simp
 have xB:W1.cell? ⟨w.heap.size+1,3,none⟩=some (.slice bA' h.bars.length bc'):=by rw[aH.out];go_simp
 have s1:bT B W1 ⟨kA,kc,pA,pc,bA,bc⟩ h:=H.out.up;have s2:bT B W1 ⟨Ue,Ud,pA',pc',bA',bc'⟩ h:=H'.out.up;have S1:=qh s1;have S2:=qh s2;clear aH s1 s2;go_loopg [5] h.kinds.length (fun g i wr=>∃(k:Nat) (δ:nJ),k<=h.kinds.length/\g=h.kinds.length-k/\i=.int .i64 k/\wr=af W1 δ)
 case atStart=>exact⟨0,W1,nE _,rfl,rfl,(bw W1).symm⟩
 case round=>
  obtain⟨k,δ,hk,rfl,rfl,rfl⟩:=hrel;by_cases hlt:k<h.kinds.length
  ·obtain⟨b,o,rfl,hb,d0,d1⟩:=S1.out.1.kind hlt;obtain⟨b',o',rfl,hb',d0',d1'⟩:=S2.out.1.kind hlt;refine QCY ?_;intro ib ib';have hki:(k:Int)<(h.kinds.length:Int):=nQ;have hk0:¬(k:Int)<0:=nQ;go_wp2_with fail;refine wpRl ?_;repeat (go_big_quiet_step ((first|(fail))))
   refine QBT ?_;rintro _ ⟨δq,rfl⟩;go_wp2_with fail;go_roundg (h.kinds.length-(k+1))
   case measure=>omega
   case rel=>exact⟨k+1,_,nQ,rfl,by go_num,aq⟩
  ·obtain rfl:k=h.kinds.length:=by omega
   go_wp2_with fail;go_loopg [6] h.parts.length (fun g i wr=>∃(k:Nat) (δ:nJ),k<=h.parts.length/\g=h.parts.length-k/\i=.int .i64 k/\wr=af W1 δ)
   case atStart=>exact⟨0,δ,nE _,rfl,rfl,rfl⟩
   case round=>
    clear hk hlt;obtain⟨k,δ,hk,rfl,rfl,rfl⟩:=hrel;by_cases hlt:k<h.parts.length
    ·obtain⟨b,o,rfl,hb,d0,d1⟩:=S1.out.2.1.part hlt;obtain⟨b',o',rfl,hb',d0',d1'⟩:=S2.out.2.1.part hlt;refine QCY ?_;intro ib ib';have hki:(k:Int)<(h.parts.length:Int):=nQ;have hk0:¬(k:Int)<0:=nQ;go_wp2_with fail;refine wpRl ?_;repeat (go_big_quiet_step ((first|(fail))))
     refine QBT ?_;rintro _ ⟨δq,rfl⟩;go_wp2_with fail;go_roundg (h.parts.length-(k+1))
     case measure=>omega
     case rel=>exact⟨k+1,_,nQ,rfl,by go_num,aq⟩
    ·obtain rfl:k=h.parts.length:=by omega
     go_wp2_with fail;go_ret;exact⟨rfl,ag⟩
def Bo:Sa.aN:=⟨[⟨3,10⟩,⟨5,4⟩],2,[⟨0,10⟩,⟨0,15⟩,⟨1,8⟩],[40,20]⟩
def Px:Sa.aN:=⟨[⟨3,10⟩,⟨5,4⟩],2,[⟨0,10⟩,⟨0,15⟩,⟨1,8⟩],[40,13]⟩
theorem Kg(w:nJ):Calls nH 84 #[] w fun e w'=>∃(r r2:eR) (δ:nJ),e=.returned (.tuple #[fA r Bo,fA r2 Px])/\w'=af w δ/\bT (af w δ).heap.size (af w δ) r Bo:=by
 go_enter Tryz.func84,Tryz.ntmps84;go_wp2_with fail;refine aL fun W0 jO=>?_;have q0:ax W0 w.heap.size 37 #[.slice (some ⟨w.heap.size+1+1,0,none⟩) 2 2,.int .i64 2,.slice (some ⟨w.heap.size+1+1+1,0,none⟩) 3 3,.slice (some ⟨w.heap.size+1+1+1+1,0,none⟩) 2 2]:=by rw[jO.out];repeat (first|exact ax.new nV|refine ax.alloc ?_ _)
 have q1:ax W0 (w.heap.size+1) 37 #[.slice (some ⟨w.heap.size+1+1,0,none⟩) 2 2,.int .i64 2,.slice (some ⟨w.heap.size+1+1+1,0,none⟩) 3 3,.slice (some ⟨w.heap.size+1+1+1+1+1,0,none⟩) 2 2]:=by rw[jO.out];repeat (first|exact ax.new nV|refine ax.alloc ?_ _)
 have q2:ax W0 (w.heap.size+1+1) 152 #[.int .i64 3,.int .i64 10,.int .i64 5,.int .i64 4]:=by rw[jO.out];repeat (first|exact ax.new nV|refine ax.alloc ?_ _)
 have q3:ax W0 (w.heap.size+1+1+1) 74 #[.int .i64 0,.int .i64 10,.int .i64 0,.int .i64 15,.int .i64 1,.int .i64 8]:=by rw[jO.out];repeat (first|exact ax.new nV|refine ax.alloc ?_ _)
 have q4:ax W0 (w.heap.size+1+1+1+1) 3 #[.int .i64 40,.int .i64 20]:=by rw[jO.out];repeat (first|exact ax.new nV|refine ax.alloc ?_ _)
 have g1:au w.heap.size w W0:=gu jO;have g2:Le w.heap.size W0:=fI jO;have c0:=q0.cell (i:=0) rfl;have c1:=q0.cell (i:=1) rfl;have c2:=q0.cell (i:=2) rfl;have c3:=q0.cell (i:=3) rfl;have d0:=q1.cell (i:=0) rfl;have d1:=q1.cell (i:=1) rfl;have d2:=q1.cell (i:=2) rfl;have d3:=q1.cell (i:=3) rfl;have k0:=q0.free 0;have k1:=q0.free 1;have k2:=q0.free 2;have k3:=q0.free 3;have k4:=q1.free 0;have k5:=q1.free 1;have k6:=q1.free 2;have k7:=q1.free 3;have j0:=q0.lt;have j1:=q1.lt;have Q2:=qh q2;have Q3:=qh q3;have Q4:=qh q4;clear jO q2 q3 q4 q0 q1;go_region;all_goals
  go_wp2_with fail;refine bodyPost_ret (v:=.tuple #[fA ⟨some ⟨w.heap.size+1+1,0,none⟩,2,some ⟨w.heap.size+1+1+1,0,none⟩,3,some ⟨w.heap.size+1+1+1+1,0,none⟩,2⟩ Bo,fA ⟨some ⟨w.heap.size+1+1,0,none⟩,2,some ⟨w.heap.size+1+1+1,0,none⟩,3,some ⟨w.heap.size+1+1+1+1+1,0,none⟩,2⟩ Px]) ?_ rfl ?_
  ·simp only[results,Tryz.results84];go_simp;simp[Bo,Px]
  ·refine⟨⟨some ⟨w.heap.size+1+1,0,none⟩,2,some ⟨w.heap.size+1+1+1,0,none⟩,3,some ⟨w.heap.size+1+1+1+1,0,none⟩,2⟩,⟨some ⟨w.heap.size+1+1,0,none⟩,2,some ⟨w.heap.size+1+1+1,0,none⟩,3,some ⟨w.heap.size+1+1+1+1+1,0,none⟩,2⟩,_,rfl,aq,?_⟩;refine QDJ ?_;refine⟨p9 Bo.kinds (T:=152) (cs:=#[.int .i64 3,.int .i64 10,.int .i64 5,.int .i64 4]) ?_ (nG rfl) (nG rfl) rfl,p9 Bo.parts (T:=74) (cs:=#[.int .i64 0,.int .i64 10,.int .i64 0,.int .i64 15,.int .i64 1,.int .i64 8]) ?_ (nG rfl) (nG rfl) rfl,p9 Bo.bars (T:=3) (cs:=#[.int .i64 40,.int .i64 20]) ?_ (nG rfl) (nG rfl) rfl⟩
   ·refine ax.drew ?_;iterate 8 (refine ax.fD ?_ (by first|(show w.heap.size+1+1≠w.heap.size;omega)|(show w.heap.size+1+1≠w.heap.size+1;omega)) _)
    exact Q2.out
   ·refine ax.drew ?_;iterate 8 (refine ax.fD ?_ (by first|(show w.heap.size+1+1+1≠w.heap.size;omega)|(show w.heap.size+1+1+1≠w.heap.size+1;omega)) _)
    exact Q3.out
   ·refine ax.drew ?_;iterate 8 (refine ax.fD ?_ (by first|(show w.heap.size+1+1+1+1≠w.heap.size;omega)|(show w.heap.size+1+1+1+1≠w.heap.size+1;omega)) _)
    exact Q4.out
section
open Hd
theorem jk(A A':Option Addr)(c c':Nat)(l:List bz)(B:Nat)(w:nJ)[hB:Le B w](h:Sl aX B w A c l)(h':Sl aX B w A' c' l)(ln ln':Nat)(hn:l.length=ln)(hn':l.length=ln'):Calls nH 20 #[.slice A ln c,.slice A' ln' c'] w fun e w'=>e=.returned (.bool true)/\∃δ,w'=af w δ:=by
 subst hn hn';have l1:=h.len;have H:=qh h;have H':=qh h';clear h h';go_enter Tryz.func20,Tryz.ntmps20;go_wp2_with fail;go_loopg [5] l.length (fun g i wr=>∃(k:Nat) (δ:nJ),k<=l.length/\g=l.length-k/\i=.int .i64 k/\wr=af w δ)
 case atStart=>exact⟨0,w,nE _,rfl,rfl,(bw w).symm⟩
 case round=>
  obtain⟨k,δ,hk,rfl,rfl,rfl⟩:=hrel;by_cases hlt:k<l.length
  ·obtain⟨b,o,rfl,hb,d0⟩:=H.out.mh hlt;obtain⟨b',o',rfl,hb',d0'⟩:=H'.out.mh hlt;have ib:Lt b w:=⟨nL hb hB.out⟩;have ib':Lt b' w:=⟨nL hb' hB.out⟩;have hki:(k:Int)<(l.length:Int):=nQ;have hk0:¬(k:Int)<0:=nQ;go_wp2_with fail;refine wpRl ?_;repeat (go_big_quiet_step ((first|(fail))))
   refine QBT ?_;rintro _ ⟨δq,rfl⟩;go_wp2_with fail;go_roundg (l.length-(k+1))
   case measure=>omega
   case rel=>exact⟨k+1,_,nQ,rfl,by go_num,aq⟩
  ·obtain rfl:k=l.length:=by omega
   go_wp2;go_ret;exact⟨rfl,ag⟩
theorem yC(r r':aQ)(t:aW)(B:Nat)(w:nJ)[hB:Le B w](h:aJ B w r t)(h':aJ B w r' t):Calls nH 19 #[aO r t,aO r' t] w fun e w'=>e=.returned (.bool true)/\∃δ,w'=af w δ:=by
 have H:=qh h;have H':=qh h';clear h h';go_enter Tryz.func19,Tryz.ntmps19;go_upto_region 1 with fail;refine QAX ?_;intro W1 aH cJ dF cU dA dD eI b1;have b2:ax W1 (w.heap.size+1) 39 (aE r' t):=by rw[aH.out];exact ax.new nV
 obtain⟨x0,x1,x2,x3,x4,x5,x6,x7,x8,x9,yA,yz,uT,yy⟩:=b1.az;obtain⟨y0,y1,y2,y3,y4,y5,y6,y7,y8,y9,y10,y11,y12,y13⟩:=b2.az;clear aH b1 b2;go_wp2_with (first|(go_at_call 57;refine(Wq r.aF r'.aF t.aF B _ H.out.1.up H'.out.1.up).mono ?_;rintro e w1 ⟨rfl,δ1,rfl⟩)|(go_at_call 58;refine(TR r.ah r'.ah t.ah B _ H.out.2.1.up H'.out.2.1.up).mono ?_;rintro e w1 ⟨rfl,δ2,rfl⟩)|(go_at_call 59;refine(To r.aa r'.aa t.aa B _ H.out.2.2.up H'.out.2.2.up).mono ?_;rintro e w1 ⟨rfl,δ3,rfl⟩));go_ret;exact⟨rfl,ag⟩
def GM(t:aW):Bool:=An.GL t.aF||(NY t.ah 4||Bt t.aa)
theorem RE(r:aQ)(t:aW)(B:Nat)(w:nJ)[hB:Le B w](h:aJ B w r t):Calls nH 33 #[aO r t] w fun e w'=>e=.returned (.bool (GM t))/\∃δ,w'=af w δ:=by
 have H:=qh h;clear h;rcases ha:An.GL t.aF with _|_;all_goals rcases hb:NY t.ah 4 with _|_
 all_goals rcases hc:Bt t.aa with _|_
 all_goals have HF:Hid (GM t=(An.GL t.aF||(NY t.ah 4||Bt t.aa))):=rfl;rw[ha,hb,hc] at HF;have HA:=qh ha;have HB:=qh hb;have HC:=qh hc;clear ha hb hc;go_enter Tryz.func33,Tryz.ntmps33;go_upto_region 1 with fail;refine QAW ?_;intro W1 aH cJ dF cU dA dD b1;obtain⟨x0,x1,x2,x3,x4,x5,x6,x7,x8,x9,yA,yz,uT,yy⟩:=b1.az;clear aH b1;go_wp2_with (first|(go_at_call 71;refine(XV r.aF t.aF B _ H.out.1.up).mono ?_;rw[HA.out];rintro e w1 ⟨rfl,δ1,rfl⟩)|(go_at_call 72;refine(WY r.ah t.ah 4 nQ _ HB.out B _ H.out.2.1.up).mono ?_;rintro e w1 ⟨rfl,δ2,rfl⟩)|(go_at_call 73;refine(XW r.aa t.aa B _ H.out.2.2.up).mono ?_;rw[HC.out];rintro e w1 ⟨rfl,δ3,rfl⟩));go_ret;exact⟨bu HF.out.symm,ag⟩
end
section
open Hd
def Ib(t:aW)(ls:List bz):Prop:=GM t=false/\ls.length<=60/\∀x∈ls,x.length<=60
def Ep(t:aW)(ls:List bz)(w:nJ)(e:Ending)(w':nJ):Prop:=∃(b:Bool) (δ:nJ),e=.returned (.bool b)/\w'=af w δ/\(b=false->Ib t ls)
theorem vV{t:aW}{ls:List bz}{w W:nJ}(h:∃δ,W=af w δ):Ep t ls w (.returned (.bool true)) W:=by obtain⟨δ,rfl⟩:=h;exact⟨true,δ,rfl,rfl,fun h=>by cases h⟩
theorem Ke{t:aW}{ls:List bz}{w W:nJ}(h:∃δ,W=af w δ)(ho:Ib t ls):Ep t ls w (.returned (.bool false)) W:=by obtain⟨δ,rfl⟩:=h;exact⟨false,δ,rfl,rfl,fun _=>ho⟩
theorem Vb{ls:List bz}{k:Nat}(h:∀p,p<ls.length->(nth ls p).length<=k):∀x∈ls,x.length<=k:=by intro x hx;obtain⟨i,hi,rfl⟩:=List.getElem_of_mem hx;have:=h i hi;rwa [bR _ hi] at this
theorem QM(r:aQ)(t:aW)(ls:List bz)(A:Option Addr)(cap:Nat)(B:Nat)(w:nJ)(hT:aJ B w r t)[hB:Le B w](hS:Sl aX B w A cap ls):Calls nH 8 #[aO r t,.slice A ls.length cap] w (Ep t ls w):=by
 have H:=qh hT;have HS:=qh hS;have HFA:Hid (∀W:nJ,au B w W->Le B W->Calls nH 33 #[aO r t] W fun e w'=>e=.returned (.bool (GM t))/\∃δ,w'=af W δ):=qh fun W i1 i2=>RE r t B W H.out.up;clear hT hS;rcases hfr:GM t with _|_
 ·have HF0:=qh hfr;rw[hfr] at HFA;clear hfr;by_cases h60:60<ls.length
  ·have aab:(60:Int)<(ls.length:Int):=nQ;go_enter Tryz.func8,Tryz.ntmps8;go_upto_region 1 with fail;refine aL fun W1 aH=>?_;obtain⟨cJ,dF,cU,dA,dD⟩:=Au B w aH;have b1:Hid (ax W1 w.heap.size 39 (aE r t)):=by rw[aH.out];exact qh (ax.new rfl)
   clear aH;go_wp2_with (first|(refine av ai rfl _ rfl rfl b1.out rfl ?_)|(go_at_call 33;refine(HFA.out _ inferInstance inferInstance).mono ?_;rintro e w1 ⟨rfl,δ1,rfl⟩));go_ret;exact vV ag
  ·have aab:¬(60:Int)<(ls.length:Int):=nQ;have agR:decide ((60:Int)<(ls.length:Int))=false:=decide_eq_false aab;have adx:Hid (ls.length<=60):=qh nQ;go_enter Tryz.func8,Tryz.ntmps8;go_upto_region 1 with fail;refine aL fun W1 aH=>?_;obtain⟨eI,ju,Es,Gh,sg⟩:=Au B w aH;have b1:Hid (ax W1 w.heap.size 39 (aE r t)):=by rw[aH.out];exact qh (ax.new rfl)
   clear aH;go_upto_region 4 with(first|(refine av ai rfl _ rfl rfl b1.out rfl ?_)|(go_at_call 33;refine(HFA.out _ inferInstance inferInstance).mono ?_;rintro e w1 ⟨rfl,δ1,rfl⟩));go_loopg [5] ls.length (fun gn s5 wr=>∃(j:Nat) (δ:nJ),j<=ls.length/\gn=ls.length-j/\s5=.int .i64 j/\wr=af W1 δ/\Hid (∀p,p<j->(nth ls p).length<=60))
   case atStart=>exact⟨0,δ1,nE _,rfl,rfl,rfl,qh fun p hp=>absurd hp (Nat.not_lt_zero _)⟩
   case round=>
    obtain⟨j,δ2,hj,rfl,rfl,rfl,HP⟩:=hrel;by_cases hlt:j<ls.length
    ·have hji:(j:Int)<(ls.length:Int):=nQ;have hj0:¬(j:Int)<0:=nQ;obtain⟨sb,so,rfl,xj,e0⟩:=(HS.out.up (w':=W1)).mh hlt;have isb:Lt sb W1:=⟨nL xj eI.out⟩;obtain⟨lj,yM⟩:∃x,nth ls j=x:=⟨_,rfl⟩;rw[yM] at e0;by_cases OX:60<lj.length
     ·have ZR:(60:Int)<(lj.length:Int):=nQ;clear xj yM;go_wp2_with fail;go_ret;exact vV ag
     ·have ZR:¬(60:Int)<(lj.length:Int):=nQ;have age:decide ((60:Int)<(lj.length:Int))=false:=decide_eq_false ZR;have SG:Hid (∀p,p<j+1->(nth ls p).length<=60):=qh fun p hp=>by
       rcases Nat.lt_succ_iff_lt_or_eq.1 hp with h|rfl
       ·exact HP.out p h
       ·rw[yM];omega
      clear xj yM OX;go_wp2_with fail;go_roundg (ls.length-(j+1))
      case measure=>omega
      case rel=>exact⟨j+1,_,nQ,rfl,by go_num,rfl,SG⟩
    ·obtain rfl:j=ls.length:=by omega
     have hjn:¬((ls.length:Int)<(ls.length:Int)):=nQ;have OO:Hid (Ib t ls):=qh ⟨HF0.out,adx.out,Vb HP.out⟩;have qd:Hid (∀x∈ls,x.length<=1000):=qh fun x hx=>nT (OO.out.2.2 x hx) nU;have b2:Hid (ax (af W1 δ2) w.heap.size 39 (aE r t)):=qh (b1.out.af _);clear HP hlt h60;rcases hv:aG t with _|_
     ·have HC:Hid (cC (aG t) 120=120):=by unfold Hid;rw[hv];rfl
      clear hv;go_wp2_with (first|(refine av ai rfl _ rfl rfl b2.out rfl ?_)|(go_at_call 9;refine(ct r t B _ H.out.up).mono ?_;rw[HC.out];rintro e w1 ⟨rfl,δ3,rfl⟩));go_ret;exact Ke ag OO.out
     ·have HC:Hid (cC (aG t) 120=0):=by unfold Hid;rw[hv];rfl
      have HV:=qh hv;clear hv;by_cases UC:30<ls.length
      ·have aae:(30:Int)<(ls.length:Int):=nQ;clear UC;go_wp2_with (first|(refine av ai rfl _ rfl rfl b2.out rfl ?_)|(go_at_call 9;refine(ct r t B _ H.out.up).mono ?_;rw[HC.out];rintro e w1 ⟨rfl,δ3,rfl⟩));go_ret;exact Ke ag OO.out
      ·have aae:¬(30:Int)<(ls.length:Int):=nQ;have agV:decide ((30:Int)<(ls.length:Int))=false:=decide_eq_false aae;go_upto_region 10 with(first|(refine av ai rfl _ rfl rfl b2.out rfl ?_)|(go_at_call 9;refine(ct r t B _ H.out.up).mono ?_;rw[HC.out];rintro e w1 ⟨rfl,δ3,rfl⟩));apply wp_region_lit;refine av ai rfl _ rfl rfl (b2.out.af _) rfl ?_;refine gv (ps:=[(0,aO r t)]) (cells:=cD ⟨r,none,0⟩ (bY t)) rfl _ _ rfl rfl (Kn r t) ?_;go_upto_region 11 with(first|(refine ak (cs':=cD ⟨r,none,0⟩ (bY t)) cx rfl _ _ rfl rfl rfl (ax.new (T:=82) rfl) rfl rfl (dP _ _) ?_;intro W2 E2 k2));have g1:W1.heap.size<=(af (af W1 δ2) δ3).heap.size:=(inferInstance:Le W1.heap.size (af (af W1 δ2) δ3)).out;have q3:au w.heap.size w W2:=cm k2 (nT Es.out g1);have q4:Le w.heap.size W2:=dB k2;have gw:Hid (w.heap.size<(af (af W1 δ2) δ3).heap.size):=qh (nL sg.out g1);obtain⟨g,hg⟩:∃g,(af (af W1 δ2) δ3).heap.size=g:=⟨_,rfl⟩;rw[hg] at E2 gw ⊢;have E2:=qh E2;clear k2 b1 b2 g1 hg;go_upto_region 12 with fail;go_loopg [7] ls.length (fun gn s7 wr=>∃(j:Nat) (kk:cP) (d:cE) (a:List bz),j<=ls.length/\gn=ls.length-j/\s7=.int .i64 j/\Hid (KR t ls j d a)/\Hid (ax wr g 82 (cD kk d))/\Hid (cZ r t w kk.az d.az wr)/\Hid (dZ wr kk.oA kk.oc d.aC)/\au w.heap.size w wr/\Le w.heap.size wr)
       case atStart=>exact⟨0,⟨r,none,0⟩,bY t,[],nE _,rfl,rfl,qh (Ca HV.out),E2,qh cZ.refl,qh fN.none_,q3,q4⟩
       case round=>
        obtain⟨j,kk,d,a,hj,rfl,rfl,HJ,HE,SS,HO,i1,a2⟩:=hrel;have a3:au B w wr:=⟨⟨i1.out.1,i1.out.2.1,i1.out.2.2.1,fun b hb=>i1.out.2.2.2 b (nL hb hB.out)⟩⟩;have a4:Le B wr:=⟨nT hB.out a2.out⟩;have lE:=HE.out.lt;by_cases hlt:j<ls.length
        ·have hji:(j:Int)<(ls.length:Int):=nQ;have hj0:¬(j:Int)<0:=nQ;obtain⟨sb,so,rfl,xj,e0⟩:=(HS.out.up (w':=wr)).mh hlt;have isb:Lt sb wr:=⟨nL xj a4.out⟩;have KU:=qh (HJ.out.step hlt nQ (qd.out _ (aV ls hlt)));have jg:=qd.out _ (aV ls hlt);obtain⟨lj,yM⟩:∃x,nth ls j=x:=⟨_,rfl⟩;rw[yM] at e0 KU jg;have tZ:Hid (∀(k:cP) (W:nJ),aJ W.heap.size W k.az d.az->Le W.heap.size W->dZ W k.oA k.oc d.aC->Calls nH 34 #[jf k d,.string (str lj)] W (fh k d W (iC d lj))):=qh fun k W h1 h2 h3=>Ty k d lj jg HJ.out.valid HJ.out.aC HJ.out.Dy (nT HJ.out.given nQ) W.heap.size W h1 h3;obtain⟨xd,xt,hx⟩:∃a b,iC d lj=(a,b):=⟨_,_,rfl⟩;rw[hx] at tZ KU;simp only[] at KU;unfold fh at tZ;clear yM jg hx;go_upto_region 14 with fail;refine wp_region_held (S:=fun W=>au wr.heap.size wr W) nP ?_;change wpAnyH _ _ _ _ _ _ _ _ (World.drew _);refine dV 0 (jf kk d) rfl nP (cV cx nY _ rfl rfl (fun W h=>ax.dM (hg:=h) HE.out) rfl) (inferInstance) ?_;refine QAC ?_;refine wpH_tq 1 (.slice (some ⟨sb,so,none⟩) ls.length cap) (inferInstance) ?_;refine QAC ?_;refine wpH_tq 2 (.int .i64 j) (inferInstance) ?_;refine QAC ?_;refine wpH_tq 3 (.pointer (some ⟨sb,so+j,none⟩)) (inferInstance) ?_;refine QAC ?_;refine dV 4 (.string (str lj)) rfl nP (Or.inl ⟨nY,by intro w5 h5;have e5:=(aZ h5.out sb (so+j) isb.out).trans e0;go_simp⟩) (inferInstance) ?_;refine QAC ?_;refine wpAnyH_all (rs:=[5,9]) nP nV ?_;intro i hi;rcases List.mem_cons.1 hi with rfl|hi
         ·unfold wpOp;show if Region.wanted _ _=true then _ else _;rw[if_pos nY];left;unfold Oper.wp;go_simp;refine(tZ.out kk _ (SS.out.up.is H.out) inferInstance HO.out.wide).mono ?_;rintro e w1 ⟨k',δ5,rfl,rfl,Rk,Rn⟩;have SE:=qh Rk;have Ip:=qh Rn;clear Rk Rn;refine⟨inferInstance,?_⟩;refine QAC ?_;refine wpH_tq 6 (.tuple #[jf k' xd,.string (str xt)]) (inferInstance) ?_;refine QAC ?_;refine wpH_tq 7 (jf k' xd) (inferInstance) ?_;refine QAC ?_;refine wpH_tq 8 (.string (str xt)) (inferInstance) ?_;refine QAC ?_;refine wpAnyH_all (rs:=[9]) nP nV ?_;intro i hi;obtain rfl:=List.mem_singleton.1 hi;refine QAF ?_;refine⟨inferInstance,?_⟩;refine QAC ?_;refine wpAnyH_all (rs:=[10]) nP nV ?_;intro i hi;obtain rfl:=List.mem_singleton.1 hi;refine QBB ?_;refine mu cx _ _ rfl rfl rfl (ax.new (T:=82) rfl) rfl rfl (dP _ _) ?_;intro W9 C9 k9;have g9:au wr.heap.size wr W9:=cm k9 ((inferInstance:Le wr.heap.size (af wr.drew δ5)).out);refine⟨g9,?_⟩;refine QAC ?_;refine wpH_tq 11 (.string (str xt)) (g9) ?_;refine QAC ?_;refine wpAnyH_done nP ?_ _;have To9:Hid (cZ r t w k'.az xd.az W9):=qh ((((SS.out.up (W':=wr.drew)).trans SE.out a2.out).up (W':=(af wr.drew δ5).alloc _)).aR k9 (ax.new rfl) nU);have O9:Hid (dZ W9 k'.oA k'.oc xd.aC):=qh ((Ip.out.up (w':=(af wr.drew δ5).alloc _)).aR k9 (ax.new rfl) nU nV);refine QBM ?_;intro E9 l9 f1 f3 f4 f5 f6 Hz C9;clear k9 SE Ip;rcases hf:GM xd.az with _|_
          ·rw[hf] at Hz;clear hf;go_upto_region 17 with(first|(refine cz (cs':=aE k'.az xd.az) ai rfl _ rfl rfl C9.out (eT k' xd) rfl ?_)|(go_at_call 33;refine Hz.out.mono ?_;rintro e w1 ⟨rfl,δ6,rfl⟩));go_upto_region 13 with(first|(refine av cx rfl _ rfl rfl (C9.out.af _) rfl ?_)|(refine ak cx rfl _ _ rfl rfl rfl (E9.out.af _) rfl rfl (dP _ _) ?_;intro W10 E10 Xf));refine QDS ?_;intro E10 To10 O10 n1 n3;clear E9 To9 O9 Xf C9;go_wp2_with fail;go_roundg (ls.length-(j+1))
           case measure=>omega
           case rel=>exact⟨j+1,k',xd,a++[xt],nQ,rfl,by go_num,KU,E10,To10,O10,n1,n3⟩
          ·rw[hf] at Hz;clear hf;go_wp2_with (first|(refine cz (cs':=aE k'.az xd.az) ai rfl _ rfl rfl C9.out (eT k' xd) rfl ?_)|(go_at_call 33;refine Hz.out.mono ?_;rintro e w1 ⟨rfl,δ6,rfl⟩));go_ret;exact vV ag
         ·obtain rfl:=List.mem_singleton.1 hi;refine QAF ?_;refine⟨inferInstance,?_⟩;refine QAC ?_;refine wpAnyH_all (rs:=[5]) nP nV ?_;intro i hi;obtain rfl:=List.mem_singleton.1 hi;refine QAF ?_;refine(tZ.out kk _ (SS.out.up.is H.out) inferInstance HO.out.wide).mono ?_;rintro e w1 ⟨k',δ5,rfl,rfl,Rk,Rn⟩;have SE:=qh Rk;have Ip:=qh Rn;clear Rk Rn;refine⟨inferInstance,?_⟩;refine QAC ?_;refine wpH_tq 6 (.tuple #[jf k' xd,.string (str xt)]) (inferInstance) ?_;refine QAC ?_;refine wpH_tq 7 (jf k' xd) (inferInstance) ?_;refine QAC ?_;refine wpH_tq 8 (.string (str xt)) (inferInstance) ?_;refine QAC ?_;refine wpAnyH_all (rs:=[10]) nP nV ?_;intro i hi;obtain rfl:=List.mem_singleton.1 hi;refine QBB ?_;refine mu cx _ _ rfl rfl rfl (((ax.new (T:=82) rfl).drew).af _) rfl rfl (dP _ _) ?_;intro W9 C9 k9;have g9:au wr.heap.size wr W9:=cm k9 (nR _);refine⟨g9,?_⟩;refine QAC ?_;refine wpH_tq 11 (.string (str xt)) (g9) ?_;refine QAC ?_;refine wpAnyH_done nP ?_ _;have To9:Hid (cZ r t w k'.az xd.az W9):=qh ((((SS.out.up (W':=(wr.alloc _).drew)).trans SE.out (nT a2.out (by show wr.heap.size<=(wr.alloc _).heap.size;simp)))).aR k9 (((ax.new rfl).drew).af _) nU);have O9:Hid (dZ W9 k'.oA k'.oc xd.aC):=qh (Ip.out.aR k9 (((ax.new rfl).drew).af _) nU (nR _));refine QBM ?_;intro E9 l9 f1 f3 f4 f5 f6 Hz C9;clear k9 SE Ip;rcases hf:GM xd.az with _|_
          ·rw[hf] at Hz;clear hf;go_upto_region 17 with(first|(refine cz (cs':=aE k'.az xd.az) ai rfl _ rfl rfl C9.out (eT k' xd) rfl ?_)|(go_at_call 33;refine Hz.out.mono ?_;rintro e w1 ⟨rfl,δ6,rfl⟩));go_upto_region 13 with(first|(refine av cx rfl _ rfl rfl (C9.out.af _) rfl ?_)|(refine ak cx rfl _ _ rfl rfl rfl (E9.out.af _) rfl rfl (dP _ _) ?_;intro W10 E10 Xf));refine QDS ?_;intro E10 To10 O10 n1 n3;clear E9 To9 O9 Xf C9;go_wp2_with fail;go_roundg (ls.length-(j+1))
           case measure=>omega
           case rel=>exact⟨j+1,k',xd,a++[xt],nQ,rfl,by go_num,KU,E10,To10,O10,n1,n3⟩
          ·rw[hf] at Hz;clear hf;go_wp2_with (first|(refine cz (cs':=aE k'.az xd.az) ai rfl _ rfl rfl C9.out (eT k' xd) rfl ?_)|(go_at_call 33;refine Hz.out.mono ?_;rintro e w1 ⟨rfl,δ6,rfl⟩));go_ret;exact vV ag
        ·obtain rfl:j=ls.length:=by omega
         have agl:¬((ls.length:Int)<(ls.length:Int)):=nQ;go_wp2_with fail;go_ret;exact Ke ag OO.out
 ·rw[hfr] at HFA;clear hfr;go_enter Tryz.func8,Tryz.ntmps8;go_upto_region 1 with fail;refine aL fun W1 aH=>?_;obtain⟨tX,tW,sM,tV,Bs⟩:=Au B w aH;have b1:Hid (ax W1 w.heap.size 39 (aE r t)):=by rw[aH.out];exact qh (ax.new rfl)
  clear aH;go_wp2_with (first|(refine av ai rfl _ rfl rfl b1.out rfl ?_)|(go_at_call 33;refine(HFA.out _ inferInstance inferInstance).mono ?_;rintro e w1 ⟨rfl,δ1,rfl⟩));go_ret;exact vV ag
end
section
open Hd
theorem Sl.apart{α:Type}{enc:α->List nK}{B b c:Nat}{W W':nJ}{A:Option Addr}{xs:List α}{T:TypeId}{cs:Array nK}(h:Sl enc B W A c xs)(hb:ax W b T cs)(hz:∀(i:Nat) (v:Int),cs[i]?=some (Value.int .i64 v)->v=0)(hx:∃(j:Nat) (v:Int),(xs.flatMap enc)[j]?=some (Value.int .i64 v)/\v≠0)(hB:B<=W.heap.size)(k:bH (fun x=>x=b) W W'):Sl enc B W' A c xs:=by
 refine⟨h.1,h.2.1,fun hne=>?_⟩;obtain⟨b',o,e,hlt,hc⟩:=h.2.2 hne;refine⟨b',o,e,hlt,fun j v hj=>?_⟩;have ir:¬b'=b:=by rintro rfl;obtain⟨i,u,hi,hu⟩:=hx;have h1:=hc i _ hi;rw[cell_of_row W b' (o+i) cs T (0,0) hb] at h1;exact hu (hz _ _ h1)
 rw[World.cell?_of_block (a:=⟨b',o+j,none⟩) (k.block b' (nL hlt hB) ir)];exact hc j v hj
theorem Iq(i:Nat)(v:Int)(h:(aE dc cO)[i]?=some (.int .i64 v)):v=0:=by
 rw[Mj] at h;match i,h with
 |0,h=>injection h with h;injection h with _ h;exact h.symm
 |1,h=>injection h with h;injection h with _ h;exact h.symm
 |2,h=>injection h with h;injection h with _ h;exact h.symm
 |3,h=>injection h with h;injection h with _ h;exact h.symm
 |4,h=>injection h with h;cases h
 |5,h=>injection h with h;cases h
 |6,h=>injection h with h;cases h
 |7,h=>injection h with h;injection h with _ h;exact h.symm
 |8,h=>injection h with h;cases h
 |9,h=>injection h with h;cases h
 |10,h=>injection h with h;cases h
 |11,h=>injection h with h;injection h with _ h;exact h.symm
 |12,h=>injection h with h;cases h
 |13,h=>injection h with h;cases h
 |n+14,h=>cases h
theorem Ww:fT nH 28 7:=fT.mk' Tryz.underlying28 rfl nP
theorem Tu:fT nH 32 3:=fT.mk' Tryz.underlying32 rfl nP
theorem PK:fT nH 37 4:=fT.mk' Tryz.underlying37 rfl nP
abbrev WT(r:eP)(n:An.Net):Array nK:=#[.int .i64 n.aP.lo,.int .i64 n.aP.hi,.int .i64 n.cur.lo,.int .i64 n.cur.hi,.slice r.gA n.ay.length r.gc,.slice r.aA n.aB.length r.ac,.slice r.wA n.aU.length r.wc]
abbrev Vu(r:cw)(n:Me.Net):Array nK:=#[.int .i64 n.m,.slice r.hA n.hs.length r.hc,.slice r.pA n.ps.length r.pc]
abbrev ZH(r:eR)(h:Sa.aN):Array nK:=#[.slice r.kA h.kinds.length r.kc,.int .i64 h.floor,.slice r.pA h.parts.length r.pc,.slice r.bA h.bars.length r.bc]
theorem Iz(r:aQ)(t:aW):Tryz.prog.built 39 [(0,eK r.aF t.aF),(1,cI r.ah t.ah),(2,fA r.aa t.aa)]=some (aE r t):=by kernel_rfl
theorem DH(w:nJ):Calls nH 38 #[] w fun e w'=>∃(r:aQ) (δ:nJ),e=.returned (aO r gH)/\w'=af w δ/\aJ (af w δ).heap.size (af w δ) r gH:=by
 go_enter Tryz.func38,Tryz.ntmps38;go_upto_region 1 with fail;refine aL fun W0 jO=>?_;have a1:au w.heap.size w W0:=gu jO;have a2:Le w.heap.size W0:=fI jO;have b0:Hid (ax W0 w.heap.size 39 (aE dc cO)):=by rw[jO.out];exact qh (ax.new rfl)
 have l0:=b0.out.lt;clear jO;go_upto_region 2 with(go_at_call 82;refine(N8 _).mono ?_;rintro e w1 ⟨rN,ra,rb,δ1,rfl,rfl,hN,_,_⟩;have HN:=qh hN;clear hN);refine aL fun W1 aH=>?_;obtain⟨g1,hg1⟩:∃g,(af W0 δ1).heap.size=g:=⟨_,rfl⟩;have a3:au w.heap.size w W1:=gu aH;have a4:Le w.heap.size W1:=fI aH;have b1:Hid (ax W1 w.heap.size 39 (aE dc cO)):=by rw[aH.out];exact qh ((((b0.out.af _).alloc _).alloc _).alloc _)
 have n1:Hid (ax W1 g1 28 (WT rN Ki)):=by rw[aH.out,<-hg1];exact qh (((ax.new rfl).alloc _).alloc _)
 have N1:Hid (cg W1.heap.size W1 rN Ki):=by rw[aH.out];exact qh (HN.out.wide)
 have ln1:=n1.out.lt;rw[hg1];clear aH HN b0 l0 hg1;go_upto_region 3 with(go_at_call 83;refine(JE _).mono ?_;rintro e w1 ⟨rM,δ2,rfl,rfl,HM⟩);refine aL fun W2 eJ=>?_;obtain⟨g2,mU⟩:∃g,(af W1 δ2).heap.size=g:=⟨_,rfl⟩;have a5:au w.heap.size w W2:=gu eJ;have a6:Le w.heap.size W2:=fI eJ;have b2:Hid (ax W2 w.heap.size 39 (aE dc cO)):=by rw[eJ.out];exact qh (((b1.out.af _).alloc _).alloc _)
 have n2:Hid (ax W2 g1 28 (WT rN Ki)):=by rw[eJ.out];exact qh (((n1.out.af _).alloc _).alloc _)
 have m2:Hid (ax W2 g2 32 (Vu rM yj)):=by rw[eJ.out,<-mU];exact qh ((ax.new rfl).alloc _)
 have N2:Hid (cg W2.heap.size W2 rN Ki):=by rw[eJ.out];exact qh (N1.out.wide)
 have M2:Hid (bJ W2.heap.size W2 rM yj):=by rw[eJ.out];exact qh (HM.out.wide)
 rw[mU];clear eJ HM b1 n1 N1 ln1 mU;go_upto_region 4 with(go_at_call 84;refine(Kg _).mono ?_;rintro e w1 ⟨rH,rH2,δ3,rfl,rfl,hH⟩;have HH:=qh hH;clear hH);refine aL fun W3 bQ=>?_;obtain⟨g3,rj⟩:∃g,(af W2 δ3).heap.size=g:=⟨_,rfl⟩;have a7:au w.heap.size w W3:=gu bQ;have a8:Le w.heap.size W3:=fI bQ;have b3:Hid (ax W3 w.heap.size 39 (aE dc cO)):=by rw[bQ.out];exact qh (((b2.out.af _).alloc _).alloc _)
 have n3:Hid (ax W3 g1 28 (WT rN Ki)):=by rw[bQ.out];exact qh (((n2.out.af _).alloc _).alloc _)
 have m3:Hid (ax W3 g2 32 (Vu rM yj)):=by rw[bQ.out];exact qh (((m2.out.af _).alloc _).alloc _)
 have s3:Hid (ax W3 g3 37 (ZH rH Bo)):=by rw[bQ.out,<-rj];exact qh ((ax.new rfl).alloc _)
 have N3:Hid (cg W3.heap.size W3 rN Ki):=by rw[bQ.out];exact qh (N2.out.wide)
 have M3:Hid (bJ W3.heap.size W3 rM yj):=by rw[bQ.out];exact qh (M2.out.wide)
 have H3:Hid (bT W3.heap.size W3 rH Bo):=by rw[bQ.out];exact qh (HH.out.wide)
 rw[rj];clear bQ HH b2 n2 N2 m2 M2 rj;apply wp_region_lit;refine av Ww rfl _ rfl rfl n3.out rfl ?_;refine av Tu rfl _ rfl rfl m3.out rfl ?_;refine av PK rfl _ rfl rfl s3.out rfl ?_;refine gv (ps:=[(0,eK rN Ki),(1,cI rM yj),(2,fA rH Bo)]) (cells:=aE ⟨rN,rM,rH⟩ gH) rfl _ _ rfl rfl (Iz ⟨rN,rM,rH⟩ gH) ?_;go_wp2_with (refine ak (cs':=aE ⟨rN,rM,rH⟩ gH) ai rfl _ _ rfl rfl rfl b3.out rfl rfl (aM _ _) ?_;intro W9 C9 k9);refine QCS ?_;intro p1 p2;refine gZ ai Tryz.results38 rfl C9 rfl ?_;refine⟨⟨rN,rM,rH⟩,W9,rfl,aq,?_⟩;refine QDJ ?_;have z:=Iq;exact⟨⟨Sl.apart N3.out.1 b3.out z ⟨0,2,rfl,nU⟩ (nR _) k9 |>.more k9.size,Sl.apart N3.out.2.1 b3.out z ⟨0,6,rfl,nU⟩ (nR _) k9 |>.more k9.size,Sl.apart N3.out.2.2 b3.out z ⟨0,2,rfl,nU⟩ (nR _) k9 |>.more k9.size⟩,
  ⟨Sl.apart M3.out.1 b3.out z ⟨1,2,rfl,nU⟩ (nR _) k9 |>.more k9.size,Sl.apart M3.out.2 b3.out z ⟨1,2,rfl,nU⟩ (nR _) k9 |>.more k9.size⟩,
  ⟨Sl.apart H3.out.1 b3.out z ⟨0,3,rfl,nU⟩ (nR _) k9 |>.more k9.size,Sl.apart H3.out.2.1 b3.out z ⟨1,10,rfl,nU⟩ (nR _) k9 |>.more k9.size,Sl.apart H3.out.2.2 b3.out z ⟨0,40,rfl,nU⟩ (nR _) k9 |>.more k9.size⟩⟩
end
section
open Hd
theorem XX:kQ gH ij=((kM,[GN]),(dJ (bY gH) ij).1.az,0):=by have UC:¬30<ij.length:=nU;unfold kQ;rw[if_neg (by rw[RH];decide),if_neg UC,Kh,UJ]
theorem fE{W:nJ}{g:Nat}{arr:Array nK}{ls:List bz}(hb:ax W g 9 arr)(he:arr.toList=ls.flatMap aX)(h2:ls.length<=1000):Sl aX W.heap.size W (some ⟨g,0,none⟩) ls.length ls:=by refine⟨nR _,nQ,fun _=>⟨g,0,rfl,hb.tN,fun j v hj=>?_⟩⟩;rw[Nat.zero_add];exact hb.cell (by rw[<-Array.getElem?_toList,he];exact hj)
theorem gm{P:Program}{f:FuncId}{args:Array nK}{W:nJ}{R:Ending->nJ->Prop}(h:∀X,W=X->Calls P f args X R):Calls P f args W R:=h W rfl
theorem dz(w:nJ)[h8:Le 8 w](hL:cT w):Calls nH 24 #[] w fun e w'=>e=.returned (.bool true)/\∃δ,w'=af w δ:=by
 have HL:=qh hL;have HEX:Hid (∀(r:aQ) (g B:Nat) (W:nJ),aJ B W r gH->Le B W->Le 8 W->cT W->Sl aX B W (some ⟨g,0,none⟩) 7 ij->Calls nH 14 #[aO r gH,.slice (some ⟨g,0,none⟩) 7 7] W (rK gH ij W)):=qh fun r g B W h1 h2 h3 h4 h5=>
  XP r gH ij (some ⟨g,0,none⟩) 7 nU B W h1 h4 h5
 unfold rK at HEX;rw[XX] at HEX;have m1:(dJ (bY gH) ij).1.az.ah.m=2:=XY;have m2:=UI;obtain⟨tt,htt⟩:∃x,(dJ (bY gH) ij).1.az=x:=⟨_,rfl⟩;rw[htt] at HEX m1 m2;have M1:=qh m1;have M2:=qh m2;clear hL htt m1 m2;go_enter Tryz.func24,Tryz.ntmps24;go_wp2_with (go_at_call 38;refine(DH _).mono ?_;rintro e w1 ⟨rE,δ1,rfl,rfl,hE⟩;have HE:=qh hE;clear hE);refine gm fun X hX=>?_;have x0:au w.heap.size w X:=by rw[<-hX];infer_instance
 have x1:Le w.heap.size X:=by rw[<-hX];infer_instance
 have x2:Hid (aJ X.heap.size X rE gH):=by rw[<-hX];exact qh HE.out.wide
 have x3:Hid (Sl aX X.heap.size X (some ⟨(af w δ1).heap.size,0,none⟩) 7 ij):=by rw[<-hX];exact qh (fE (ls:=ij) (ax.new rfl) rfl nU)
 have x5:au 8 w X:=by rw[<-hX];infer_instance
 clear hX;have x4:Le 8 X:=⟨nT h8.out x1.out⟩;have x6:Le X.heap.size X:=⟨nR _⟩;refine(HEX.out rE _ X.heap.size X x2.out x6 x4 HL.out.up x3.out).mono ?_;rintro e w1 ⟨aA,ac,rT,lA,lc,δ2,rfl,rfl,ha,hT,hl⟩;have ab1:=qh ha;have HLf:=qh hl;clear ha hT hl;go_upto_region 2 with(refine ak (cs':=aE rT tt) ai rfl _ _ rfl rfl rfl (ax.new (T:=39) rfl) rfl rfl (aM _ _) ?_;intro W3 T3 k3);have n1:au w.heap.size w W3:=cm k3 (inferInstance:Le w.heap.size (af X δ2)).out;have n2:Le w.heap.size W3:=dB k3;have q1:au (af X δ2).heap.size (af X δ2) W3:=cm k3 (nR _);have q2:Le (af X δ2).heap.size W3:=dB k3;have A3:Hid (Sl aX W3.heap.size W3 aA ac kM):=qh ab1.out.wide;have L3:Hid (Sl aX W3.heap.size W3 lA lc [GN]):=qh HLf.out.wide;have y7:=T3.cell (i:=7) (v:=.int .i64 tt.ah.m) rfl;have y0:=T3.cell (i:=0) (v:=.int .i64 tt.aF.aP.lo) rfl;have y1:=T3.cell (i:=1) (v:=.int .i64 tt.aF.aP.hi) rfl;rw[M1.out] at y7;rw[M2.out.1] at y0;rw[M2.out.2] at y1;have lg:=T3.lt;obtain⟨g,hg⟩:∃g,(af X δ2).heap.size=g:=⟨_,rfl⟩;rw[hg] at y7 y0 y1 lg ⊢;have lw:Le W3.heap.size W3:=⟨nR _⟩;clear q1 q2 ab1 HLf k3 T3;go_wp2_with fail;refine gm fun Y hY=>?_;have z1:Hid (Sl aX Y.heap.size Y lA lc [GN]):=by rw[<-hY];exact qh L3.out.wide
 have z2:Hid (Sl aX Y.heap.size Y (some ⟨W3.heap.size,0,none⟩) 1 [GN]):=by rw[<-hY];exact qh (fE (ls:=[GN]) (ax.new rfl) rfl nU)
 have z3:Hid (Sl aX Y.heap.size Y aA ac kM):=by rw[<-hY];exact qh A3.out.wide
 have z4:au w.heap.size w Y:=by rw[<-hY];infer_instance
 have z5:Le w.heap.size Y:=by rw[<-hY];infer_instance
 clear hY;have z6:Le Y.heap.size Y:=⟨nR _⟩;refine(jk lA _ lc _ [GN] Y.heap.size Y z1.out z2.out _ _ rfl rfl).mono ?_;rintro e w1 ⟨rfl,δ3,rfl⟩;go_wp2_with fail;refine gm fun Z hZ=>?_;have u1:Hid (Sl aX Z.heap.size Z aA ac kM):=by rw[<-hZ];exact qh z3.out.wide
 have u2:Hid (Sl aX Z.heap.size Z (some ⟨(af Y δ3).heap.size,0,none⟩) 7 kM):=by rw[<-hZ];exact qh (fE (ls:=kM) (ax.new rfl) rfl nU)
 have u4:au w.heap.size w Z:=by rw[<-hZ];infer_instance
 have u5:Le w.heap.size Z:=by rw[<-hZ];infer_instance
 clear hZ;have u6:Le Z.heap.size Z:=⟨nR _⟩;refine(jk aA _ ac _ kM Z.heap.size Z u1.out u2.out _ _ rfl rfl).mono ?_;rintro e w1 ⟨rfl,δ4,rfl⟩;go_wp2_with fail;go_ret;exact⟨rfl,ag⟩
end
end Go.Proofs.YtdmedlkonaclnaaGreatDoor
