/- A part of the proof that the statement HeadmanRunCardSaid holds, cut small by a program (names and blanks): Sl1, Hl1, Hl2, Hl3, Hl4, Hl5. -/
import Derived.Test.YtcjjlikhlmfedaaGreatDoorZ31
set_option maxRecDepth 100000
set_option maxHeartbeats 40000000
set_option linter.unusedVariables false
set_option linter.unusedSimpArgs false
namespace Go.Proofs.YtcjjlikhlmfedaaGreatDoor
open Go.RowKit
open Nat renaming le_trans → nT, lt_of_lt_of_le → nL, le_refl → nR, zero_le → nE, le_of_ble_eq_true → nG
open Go.Proofs.Tryz renaming prog → nH
open Go renaming World → nJ, Value → nK
theorem CN(A A':Option Addr)(c c':Nat)(l:List Int)(B:Nat)(w:nJ)[hB:Le B w](h:Sl aH B w A c l)(h':Sl aH B w A' c' l)(ln:Nat)(hn:l.length=ln):Calls nH 84 #[.slice A ln c,.slice A' ln c'] w fun e w'=>e=.returned (.bool true)/\∃δ,w'=af w δ:=by
 subst hn;have l1:=h.len;have H:=qh h;have H':=qh h';clear h h';go_enter Tryz.func84,Tryz.ntmps84;go_wp2_with fail;go_loopg [5] l.length (fun g i wr=>∃(k:Nat) (δ:nJ),k<=l.length/\g=l.length-k/\i=.int .i64 k/\wr=af w δ)
 case atStart=>exact⟨0,w,nE _,rfl,rfl,(aY w).symm⟩
 case round=>
  obtain⟨k,δ,hk,rfl,rfl,rfl⟩:=hrel;by_cases hlt:k<l.length
  ·obtain⟨b,o,rfl,hb,d0⟩:=H.out.int hlt;obtain⟨b',o',rfl,hb',d0'⟩:=H'.out.int hlt;have ib:Lt b w:=⟨nL hb hB.out⟩;have ib':Lt b' w:=⟨nL hb' hB.out⟩;have hki:(k:Int)<(l.length:Int):=nQ;have hk0:¬(k:Int)<0:=nQ;go_wp2_with fail;refine wpRl ?_;repeat (go_big_quiet_step ((first|(fail))))
   refine QBY ?_;rintro _ ⟨δq,rfl⟩;go_wp2_with fail;go_roundg (l.length-(k+1))
   case measure=>omega
   case rel=>exact⟨k+1,_,nQ,rfl,by go_num,aq⟩
  ·obtain rfl:k=l.length:=by omega
   go_wp2;go_ret;exact⟨rfl,ag⟩
def qi(h:Sa.aL):Bool:=decide (40<h.kinds.length)||decide (40<h.parts.length)||decide (40<h.bars.length)
theorem BA(r:eE)(h:Sa.aL)(w:nJ):Calls nH 87 #[eW r h] w fun e w'=>e=.returned (.bool (qi h))/\∃δ,w'=af w δ:=by
 obtain⟨kA,kc,pA,pc,bA,bc⟩:=r;by_cases h1:(40:Int)<(h.kinds.length:Int)
 ·have H1:Hid (qi h=true):=by unfold Hid qi;rw[decide_eq_true (show 40<h.kinds.length by omega)];rfl
  go_enter Tryz.func87,Tryz.ntmps87;go_wp2;go_ret;exact⟨aW H1.out.symm,ag⟩
 by_cases h2:(40:Int)<(h.parts.length:Int)
 ·have H1:Hid (qi h=true):=by unfold Hid qi;rw[decide_eq_true (show 40<h.parts.length by omega)];simp
  go_enter Tryz.func87,Tryz.ntmps87;go_wp2;go_ret;exact⟨aW H1.out.symm,ag⟩
 by_cases h3:(40:Int)<(h.bars.length:Int)
 ·have H1:Hid (qi h=true):=by unfold Hid qi;rw[decide_eq_true (show 40<h.bars.length by omega)];simp
  go_enter Tryz.func87,Tryz.ntmps87;go_wp2;go_ret;exact⟨aW H1.out.symm,ag⟩
 ·have H1:Hid (qi h=false):=by unfold Hid qi;simp;omega
  go_enter Tryz.func87,Tryz.ntmps87;go_wp2;go_ret;exact⟨aW H1.out.symm,ag⟩
def xj(b:Int):Nat->Int
 |0=>1
 |k+1=>xj b k*b
theorem Qj{b:Int}(h:1<=b/\b<=5):∀k,k<=6->1<=xj b k/\xj b k<=15625
 |0,_=>by simp only[xj];omega
 |1,_=>by simp only[xj];omega
 |2,_=>by obtain⟨h1,h2⟩:=h;have:b=1\/b=2\/b=3\/b=4\/b=5:=nQ;rcases this with rfl|rfl|rfl|rfl|rfl<;>decide
 |3,_=>by obtain⟨h1,h2⟩:=h;have:b=1\/b=2\/b=3\/b=4\/b=5:=nQ;rcases this with rfl|rfl|rfl|rfl|rfl<;>decide
 |4,_=>by obtain⟨h1,h2⟩:=h;have:b=1\/b=2\/b=3\/b=4\/b=5:=nQ;rcases this with rfl|rfl|rfl|rfl|rfl<;>decide
 |5,_=>by obtain⟨h1,h2⟩:=h;have:b=1\/b=2\/b=3\/b=4\/b=5:=nQ;rcases this with rfl|rfl|rfl|rfl|rfl<;>decide
 |6,_=>by obtain⟨h1,h2⟩:=h;have:b=1\/b=2\/b=3\/b=4\/b=5:=nQ;rcases this with rfl|rfl|rfl|rfl|rfl<;>decide
 |k+7,h=>by omega
def yh(h:Sa.aL):Bool:=qi h||(Sa.valid h&&decide (700<xj ((h.bars.length:Int)+1) h.parts.length))
theorem Ub(r:eE)(h:Sa.aL)(B:Nat)(w:nJ)[hB:Le B w](hH:bS B w r h):Calls nH 33 #[eW r h] w fun e w'=>e=.returned (.bool (yh h))/\∃δ,w'=af w δ:=by
 have HH:=qh hH;have lb:=hH.2.2.len;obtain⟨kA,kc,pA,pc,bA,bc⟩:=r;clear hH;rcases hu:qi h with _|_
 ·rcases hv:Sa.valid h with _|_
  ·have HU:=qh hu;have HV:Hid (cE (Sa.valid h) 80=80):=by unfold Hid;rw[hv];rfl
   have HF:Hid (yh h=false):=by unfold Hid yh;rw[hu,hv];rfl
   clear hu hv;go_enter Tryz.func33,Tryz.ntmps33;go_wp2_with (first|(go_at_call 87;refine(BA ⟨kA,kc,pA,pc,bA,bc⟩ h _).mono ?_;rw[HU.out];rintro e w1 ⟨rfl,δ1,rfl⟩)|(go_at_call 24;refine(uP ⟨kA,kc,pA,pc,bA,bc⟩ h B _ HH.out.up).mono ?_;rw[HV.out];rintro e w1 ⟨rfl,δ1,rfl⟩));go_ret;exact⟨aW HF.out.symm,ag⟩
  ·have HU:=qh hu;have HV:=qh hv;have HF:Hid (yh h=decide (700<xj ((h.bars.length:Int)+1) h.parts.length)):=by unfold Hid yh;rw[hu,hv];rfl
   refine QDV ?_;intro h6 h4;have Sz:=qh (Qj (b:=(h.bars.length:Int)+1) nQ);clear hu hv;go_enter Tryz.func33,Tryz.ntmps33;go_wp2_with (first|(go_at_call 87;refine(BA ⟨kA,kc,pA,pc,bA,bc⟩ h _).mono ?_;rw[HU.out];rintro e w1 ⟨rfl,δ1,rfl⟩)|(go_at_call 24;refine(kW ⟨kA,kc,pA,pc,bA,bc⟩ h HV.out B _ HH.out.up).mono ?_;rintro e w1 ⟨rfl,δ1,rfl⟩));refine QAD ?_;intro W1 aE cz de cN cY dc rX lH jU kM;clear aE;go_loopg [3,4] h.parts.length (fun gg n i wr=>∃(k:Nat) (δ:nJ),k<=h.parts.length/\gg=h.parts.length-k/\n=.int .i64 (xj ((h.bars.length:Int)+1) k)/\i=.int .i64 k/\wr=af W1 δ)
   case atStart=>exact⟨0,W1,nE _,rfl,rfl,rfl,(aY W1).symm⟩
   case round=>
    obtain⟨k,δ,hk,rfl,rfl,rfl,rfl⟩:=hrel;by_cases hlt:k<h.parts.length
    ·have hki:(k:Int)<(h.parts.length:Int):=nQ;have HN:Hid (xj ((h.bars.length:Int)+1) (k+1)=xj ((h.bars.length:Int)+1) k*((h.bars.length:Int)+1)):=rfl;have ku:=Sz.out (k+1) nQ;rw[HN.out] at ku;obtain⟨n,hn⟩:∃n,xj ((h.bars.length:Int)+1) k=n:=⟨_,rfl⟩;rw[hn] at HN ku;rw[hn];have hwr:IntKind.i64.wrap (n*((h.bars.length:Int)+1))=n*((h.bars.length:Int)+1):=by rw[IntWalk.i64_in];omega
     clear hn;go_wp2;go_roundg (h.parts.length-(k+1))
     case measure=>omega
     case rel=>exact⟨k+1,_,nQ,rfl,by rw[HN.out],by go_num,aq⟩
    ·obtain rfl:k=h.parts.length:=by omega
     go_wp2_with fail;go_ret;exact⟨aW HF.out.symm,ag⟩
 ·have HU:=qh hu;have HF:Hid (yh h=true):=by unfold Hid yh;rw[hu];rfl
  clear hu;go_enter Tryz.func33,Tryz.ntmps33;go_wp2_with (go_at_call 87;refine(BA ⟨kA,kc,pA,pc,bA,bc⟩ h _).mono ?_;rw[HU.out];rintro e w1 ⟨rfl,δ1,rfl⟩);go_ret;exact⟨aW HF.out.symm,ag⟩
theorem P5(r r':eE)(h:Sa.aL)(B:Nat)(w:nJ)[hB:Le B w](hH:bS B w r h)(hH':bS B w r' h):Calls nH 30 #[eW r h,eW r' h] w fun e w'=>e=.returned (.bool true)/\∃δ,w'=af w δ:=by
 have l1:=hH.1.len;have l2:=hH.2.1.len;have H:=qh hH;have H':=qh hH';obtain⟨kA,kc,pA,pc,bA,bc⟩:=r;obtain⟨QJ,QI,pA',pc',bA',bc'⟩:=r';clear hH hH';go_enter Tryz.func30,Tryz.ntmps30;go_wp2_with (go_at_call 84;refine(CN bA bA' bc bc' h.bars B _ H.out.2.2.up H'.out.2.2.up _ rfl).mono ?_;rintro e w1 ⟨rfl,δ,rfl⟩);refine QCK ?_;intro W1 aE cz de cN cY dc dX lH jU kM iY;have lC:W1.cell? ⟨w.heap.size+1,0,none⟩=some (.slice QJ h.kinds.length QI):=by rw[aE.out];go_simp
 have lu:W1.cell? ⟨w.heap.size+1,1,none⟩=some (.int .i64 h.floor):=by rw[aE.out];go_simp
 have uu:W1.cell? ⟨w.heap.size+1,2,none⟩=some (.slice pA' h.parts.length pc'):=by rw[aE.out];go_simp
 have vn:W1.cell? ⟨w.heap.size+1,3,none⟩=some (.slice bA' h.bars.length bc'):=by rw[aE.out];go_simp
 have s1:bS B W1 ⟨kA,kc,pA,pc,bA,bc⟩ h:=H.out.up;have s2:bS B W1 ⟨QJ,QI,pA',pc',bA',bc'⟩ h:=H'.out.up;have S1:=qh s1;have S2:=qh s2;clear aE s1 s2;go_loopg [5] h.kinds.length (fun g i wr=>∃(k:Nat) (δ:nJ),k<=h.kinds.length/\g=h.kinds.length-k/\i=.int .i64 k/\wr=af W1 δ)
 case atStart=>exact⟨0,W1,nE _,rfl,rfl,(aY W1).symm⟩
 case round=>
  obtain⟨k,δ,hk,rfl,rfl,rfl⟩:=hrel;by_cases hlt:k<h.kinds.length
  ·obtain⟨b,o,rfl,hb,d0,d1⟩:=S1.out.1.kind hlt;obtain⟨b',o',rfl,hb',d0',d1'⟩:=S2.out.1.kind hlt;refine QCW ?_;intro ib ib';have hki:(k:Int)<(h.kinds.length:Int):=nQ;have hk0:¬(k:Int)<0:=nQ;go_wp2_with fail;refine wpRl ?_;repeat (go_big_quiet_step ((first|(fail))))
   refine QBY ?_;rintro _ ⟨δq,rfl⟩;go_wp2_with fail;go_roundg (h.kinds.length-(k+1))
   case measure=>omega
   case rel=>exact⟨k+1,_,nQ,rfl,by go_num,aq⟩
  ·obtain rfl:k=h.kinds.length:=by omega
   go_wp2_with fail;go_loopg [6] h.parts.length (fun g i wr=>∃(k:Nat) (δ:nJ),k<=h.parts.length/\g=h.parts.length-k/\i=.int .i64 k/\wr=af W1 δ)
   case atStart=>exact⟨0,δ,nE _,rfl,rfl,rfl⟩
   case round=>
    clear hk hlt;obtain⟨k,δ,hk,rfl,rfl,rfl⟩:=hrel;by_cases hlt:k<h.parts.length
    ·obtain⟨b,o,rfl,hb,d0,d1⟩:=S1.out.2.1.part hlt;obtain⟨b',o',rfl,hb',d0',d1'⟩:=S2.out.2.1.part hlt;refine QCW ?_;intro ib ib';have hki:(k:Int)<(h.parts.length:Int):=nQ;have hk0:¬(k:Int)<0:=nQ;go_wp2_with fail;refine wpRl ?_;repeat (go_big_quiet_step ((first|(fail))))
     refine QBY ?_;rintro _ ⟨δq,rfl⟩;go_wp2_with fail;go_roundg (h.parts.length-(k+1))
     case measure=>omega
     case rel=>exact⟨k+1,_,nQ,rfl,by go_num,aq⟩
    ·obtain rfl:k=h.parts.length:=by omega
     go_wp2_with fail;go_ret;exact⟨rfl,ag⟩
def zl:Sa.aL:=⟨[⟨3,10⟩,⟨5,4⟩],2,[⟨0,10⟩,⟨0,15⟩,⟨1,8⟩],[40,20]⟩
def Mk:Sa.aL:=⟨[⟨3,10⟩,⟨5,4⟩],2,[⟨0,10⟩,⟨0,15⟩,⟨1,8⟩],[40,13]⟩
theorem Hf(w:nJ):Calls nH 38 #[] w fun e w'=>∃(r r2:eE) (δ:nJ),e=.returned (.tuple #[eW r zl,eW r2 Mk])/\w'=af w δ/\bS (af w δ).heap.size (af w δ) r zl:=by
 go_enter Tryz.func38,Tryz.ntmps38;go_wp2_with fail;refine aK fun W0 jh=>?_;have q0:av W0 w.heap.size 37 #[.slice (some ⟨w.heap.size+1+1,0,none⟩) 2 2,.int .i64 2,.slice (some ⟨w.heap.size+1+1+1,0,none⟩) 3 3,.slice (some ⟨w.heap.size+1+1+1+1,0,none⟩) 2 2]:=by rw[jh.out];repeat (first|exact av.new nV|refine av.alloc ?_ _)
 have q1:av W0 (w.heap.size+1) 37 #[.slice (some ⟨w.heap.size+1+1,0,none⟩) 2 2,.int .i64 2,.slice (some ⟨w.heap.size+1+1+1,0,none⟩) 3 3,.slice (some ⟨w.heap.size+1+1+1+1+1,0,none⟩) 2 2]:=by rw[jh.out];repeat (first|exact av.new nV|refine av.alloc ?_ _)
 have q2:av W0 (w.heap.size+1+1) 114 #[.int .i64 3,.int .i64 10,.int .i64 5,.int .i64 4]:=by rw[jh.out];repeat (first|exact av.new nV|refine av.alloc ?_ _)
 have q3:av W0 (w.heap.size+1+1+1) 116 #[.int .i64 0,.int .i64 10,.int .i64 0,.int .i64 15,.int .i64 1,.int .i64 8]:=by rw[jh.out];repeat (first|exact av.new nV|refine av.alloc ?_ _)
 have q4:av W0 (w.heap.size+1+1+1+1) 3 #[.int .i64 40,.int .i64 20]:=by rw[jh.out];repeat (first|exact av.new nV|refine av.alloc ?_ _)
 have g1:aC w.heap.size w W0:=iC jh;have g2:Le w.heap.size W0:=fR jh;have c0:=q0.cell (i:=0) rfl;have c1:=q0.cell (i:=1) rfl;have c2:=q0.cell (i:=2) rfl;have c3:=q0.cell (i:=3) rfl;have d0:=q1.cell (i:=0) rfl;have d1:=q1.cell (i:=1) rfl;have d2:=q1.cell (i:=2) rfl;have d3:=q1.cell (i:=3) rfl;have k0:=q0.free 0;have k1:=q0.free 1;have k2:=q0.free 2;have k3:=q0.free 3;have k4:=q1.free 0;have k5:=q1.free 1;have k6:=q1.free 2;have k7:=q1.free 3;have j0:=q0.lt;have j1:=q1.lt;have Q2:=qh q2;have Q3:=qh q3;have Q4:=qh q4;clear jh q2 q3 q4 q0 q1;go_region;all_goals
  go_wp2_with fail;refine bodyPost_ret (v:=.tuple #[eW ⟨some ⟨w.heap.size+1+1,0,none⟩,2,some ⟨w.heap.size+1+1+1,0,none⟩,3,some ⟨w.heap.size+1+1+1+1,0,none⟩,2⟩ zl,eW ⟨some ⟨w.heap.size+1+1,0,none⟩,2,some ⟨w.heap.size+1+1+1,0,none⟩,3,some ⟨w.heap.size+1+1+1+1+1,0,none⟩,2⟩ Mk]) ?_ rfl ?_
  ·simp only[results,Tryz.results38];go_simp;simp[zl,Mk]
  ·refine⟨⟨some ⟨w.heap.size+1+1,0,none⟩,2,some ⟨w.heap.size+1+1+1,0,none⟩,3,some ⟨w.heap.size+1+1+1+1,0,none⟩,2⟩,⟨some ⟨w.heap.size+1+1,0,none⟩,2,some ⟨w.heap.size+1+1+1,0,none⟩,3,some ⟨w.heap.size+1+1+1+1+1,0,none⟩,2⟩,_,rfl,aq,?_⟩;refine QDK ?_;refine⟨oK zl.kinds (T:=114) (cs:=#[.int .i64 3,.int .i64 10,.int .i64 5,.int .i64 4]) ?_ (nG rfl) (nG rfl) rfl,oK zl.parts (T:=116) (cs:=#[.int .i64 0,.int .i64 10,.int .i64 0,.int .i64 15,.int .i64 1,.int .i64 8]) ?_ (nG rfl) (nG rfl) rfl,oK zl.bars (T:=3) (cs:=#[.int .i64 40,.int .i64 20]) ?_ (nG rfl) (nG rfl) rfl⟩
   ·refine av.drew ?_;iterate 8 (refine av.eZ ?_ (by first|(show w.heap.size+1+1≠w.heap.size;omega)|(show w.heap.size+1+1≠w.heap.size+1;omega)) _)
    exact Q2.out
   ·refine av.drew ?_;iterate 8 (refine av.eZ ?_ (by first|(show w.heap.size+1+1+1≠w.heap.size;omega)|(show w.heap.size+1+1+1≠w.heap.size+1;omega)) _)
    exact Q3.out
   ·refine av.drew ?_;iterate 8 (refine av.eZ ?_ (by first|(show w.heap.size+1+1+1+1≠w.heap.size;omega)|(show w.heap.size+1+1+1+1≠w.heap.size+1;omega)) _)
    exact Q4.out
section
open Hd
theorem kU(A A':Option Addr)(c c':Nat)(l:List bL)(B:Nat)(w:nJ)[hB:Le B w](h:Sl cm B w A c l)(h':Sl cm B w A' c' l)(ln ln':Nat)(hn:l.length=ln)(hn':l.length=ln'):Calls nH 11 #[.slice A ln c,.slice A' ln' c'] w fun e w'=>e=.returned (.bool true)/\∃δ,w'=af w δ:=by
 subst hn hn';have l1:=h.len;have H:=qh h;have H':=qh h';clear h h';go_enter Tryz.func11,Tryz.ntmps11;go_wp2_with fail;go_loopg [5] l.length (fun g i wr=>∃(k:Nat) (δ:nJ),k<=l.length/\g=l.length-k/\i=.int .i64 k/\wr=af w δ)
 case atStart=>exact⟨0,w,nE _,rfl,rfl,(aY w).symm⟩
 case round=>
  obtain⟨k,δ,hk,rfl,rfl,rfl⟩:=hrel;by_cases hlt:k<l.length
  ·obtain⟨b,o,rfl,hb,d0⟩:=H.out.lQ hlt;obtain⟨b',o',rfl,hb',d0'⟩:=H'.out.lQ hlt;have ib:Lt b w:=⟨nL hb hB.out⟩;have ib':Lt b' w:=⟨nL hb' hB.out⟩;have hki:(k:Int)<(l.length:Int):=nQ;have hk0:¬(k:Int)<0:=nQ;go_wp2_with fail;refine wpRl ?_;repeat (go_big_quiet_step ((first|(fail))))
   refine QBY ?_;rintro _ ⟨δq,rfl⟩;go_wp2_with fail;go_roundg (l.length-(k+1))
   case measure=>omega
   case rel=>exact⟨k+1,_,nQ,rfl,by go_num,aq⟩
  ·obtain rfl:k=l.length:=by omega
   go_wp2;go_ret;exact⟨rfl,ag⟩
theorem IJ(r r':aR)(t:aV)(B:Nat)(w:nJ)[hB:Le B w](h:aI B w r t)(h':aI B w r' t):Calls nH 12 #[aX r t,aX r' t] w fun e w'=>e=.returned (.bool true)/\∃δ,w'=af w δ:=by
 have H:=qh h;have H':=qh h';clear h h';go_enter Tryz.func12,Tryz.ntmps12;go_upto_region 1 with fail;refine QAX ?_;intro W1 aE cz de cN cY dc dX b1;have b2:av W1 (w.heap.size+1) 39 (aF r' t):=by rw[aE.out];exact av.new nV
 obtain⟨x0,x1,x2,x3,x4,x5,x6,x7,x8,x9,wm,wk,sW,wj⟩:=b1.ax;obtain⟨y0,y1,y2,y3,y4,y5,y6,y7,y8,y9,y10,y11,y12,y13⟩:=b2.ax;clear aE b1 b2;go_wp2_with (first|(go_at_call 28;refine(SV r.aD r'.aD t.aD B _ H.out.1.up H'.out.1.up).mono ?_;rintro e w1 ⟨rfl,δ1,rfl⟩)|(go_at_call 29;refine(Qs r.ai r'.ai t.ai B _ H.out.2.1.up H'.out.2.1.up).mono ?_;rintro e w1 ⟨rfl,δ2,rfl⟩)|(go_at_call 30;refine(P5 r.aa r'.aa t.aa B _ H.out.2.2.up H'.out.2.2.up).mono ?_;rintro e w1 ⟨rfl,δ3,rfl⟩));go_ret;exact⟨rfl,ag⟩
def zu(t:aV):Bool:=An.BM t.aD||(G9 t.ai 4||yh t.aa)
theorem Om(r:aR)(t:aV)(B:Nat)(w:nJ)[hB:Le B w](h:aI B w r t):Calls nH 13 #[aX r t] w fun e w'=>e=.returned (.bool (zu t))/\∃δ,w'=af w δ:=by
 have H:=qh h;clear h;rcases ha:An.BM t.aD with _|_;all_goals rcases hb:G9 t.ai 4 with _|_
 all_goals rcases hc:yh t.aa with _|_
 all_goals have HF:Hid (zu t=(An.BM t.aD||(G9 t.ai 4||yh t.aa))):=rfl;rw[ha,hb,hc] at HF;have HA:=qh ha;have HB:=qh hb;have HC:=qh hc;clear ha hb hc;go_enter Tryz.func13,Tryz.ntmps13;go_upto_region 1 with fail;refine QAW ?_;intro W1 aE cz de cN cY dc b1;obtain⟨x0,x1,x2,x3,x4,x5,x6,x7,x8,x9,wm,wk,sW,wj⟩:=b1.ax;clear aE b1;go_wp2_with (first|(go_at_call 31;refine(Ua r.aD t.aD B _ H.out.1.up).mono ?_;rw[HA.out];rintro e w1 ⟨rfl,δ1,rfl⟩)|(go_at_call 32;refine(Tu r.ai t.ai 4 nQ _ HB.out B _ H.out.2.1.up).mono ?_;rintro e w1 ⟨rfl,δ2,rfl⟩)|(go_at_call 33;refine(Ub r.aa t.aa B _ H.out.2.2.up).mono ?_;rw[HC.out];rintro e w1 ⟨rfl,δ3,rfl⟩));go_ret;exact⟨aW HF.out.symm,ag⟩
end
section
open Hd
def Pu(t:aV)(ls:List bL):Prop:=zu t=false/\ls.length<=60/\∀x∈ls,x.length<=60
def Cj(t:aV)(ls:List bL)(w:nJ)(e:Ending)(w':nJ):Prop:=∃(b:Bool) (δ:nJ),e=.returned (.bool b)/\w'=af w δ/\(b=false->Pu t ls)
theorem uq{t:aV}{ls:List bL}{w W:nJ}(h:∃δ,W=af w δ):Cj t ls w (.returned (.bool true)) W:=by obtain⟨δ,rfl⟩:=h;exact⟨true,δ,rfl,rfl,fun h=>by cases h⟩
theorem G8{t:aV}{ls:List bL}{w W:nJ}(h:∃δ,W=af w δ)(ho:Pu t ls):Cj t ls w (.returned (.bool false)) W:=by obtain⟨δ,rfl⟩:=h;exact⟨false,δ,rfl,rfl,fun _=>ho⟩
theorem RE{ls:List bL}{k:Nat}(h:∀p,p<ls.length->(nth ls p).length<=k):∀x∈ls,x.length<=k:=by intro x hx;obtain⟨i,hi,rfl⟩:=List.getElem_of_mem hx;have:=h i hi;rwa [bV _ hi] at this
theorem Nv(r:aR)(t:aV)(ls:List bL)(A:Option Addr)(cap:Nat)(B:Nat)(w:nJ)(hT:aI B w r t)[hB:Le B w](hS:Sl cm B w A cap ls):Calls nH 4 #[aX r t,.slice A ls.length cap] w (Cj t ls w):=by
 have H:=qh hT;have HS:=qh hS;have Xg:Hid (∀W:nJ,aC B w W->Le B W->Calls nH 13 #[aX r t] W fun e w'=>e=.returned (.bool (zu t))/\∃δ,w'=af W δ):=qh fun W i1 i2=>Om r t B W H.out.up;clear hT hS;rcases hfr:zu t with _|_
 ·have HF0:=qh hfr;rw[hfr] at Xg;clear hfr;by_cases Wp:60<ls.length
  ·have Wo:(60:Int)<(ls.length:Int):=nQ;go_enter Tryz.func4,Tryz.ntmps4;go_upto_region 1 with fail;refine aK fun W1 aE=>?_;obtain⟨cz,de,cN,cY,dc⟩:=yj B w aE;have b1:Hid (av W1 w.heap.size 39 (aF r t)):=by rw[aE.out];exact qh (av.new rfl)
   clear aE;go_wp2_with (first|(refine aj ak rfl _ rfl rfl b1.out rfl ?_)|(go_at_call 13;refine(Xg.out _ inferInstance inferInstance).mono ?_;rintro e w1 ⟨rfl,δ1,rfl⟩));go_ret;exact uq ag
  ·have Wo:¬(60:Int)<(ls.length:Int):=nQ;have acN:decide ((60:Int)<(ls.length:Int))=false:=decide_eq_false Wo;have ZH:Hid (ls.length<=60):=qh nQ;go_enter Tryz.func4,Tryz.ntmps4;go_upto_region 1 with fail;refine aK fun W1 aE=>?_;obtain⟨dX,jP,GH,Jc,sJ⟩:=yj B w aE;have b1:Hid (av W1 w.heap.size 39 (aF r t)):=by rw[aE.out];exact qh (av.new rfl)
   clear aE;go_upto_region 4 with(first|(refine aj ak rfl _ rfl rfl b1.out rfl ?_)|(go_at_call 13;refine(Xg.out _ inferInstance inferInstance).mono ?_;rintro e w1 ⟨rfl,δ1,rfl⟩));go_loopg [5] ls.length (fun gn s5 wr=>∃(j:Nat) (δ:nJ),j<=ls.length/\gn=ls.length-j/\s5=.int .i64 j/\wr=af W1 δ/\Hid (∀p,p<j->(nth ls p).length<=60))
   case atStart=>exact⟨0,δ1,nE _,rfl,rfl,rfl,qh fun p hp=>absurd hp (Nat.not_lt_zero _)⟩
   case round=>
    obtain⟨j,δ2,hj,rfl,rfl,rfl,HP⟩:=hrel;by_cases hlt:j<ls.length
    ·have hji:(j:Int)<(ls.length:Int):=nQ;have hj0:¬(j:Int)<0:=nQ;obtain⟨sb,so,rfl,ER,e0⟩:=(HS.out.up (w':=W1)).lQ hlt;have isb:Lt sb W1:=⟨nL ER dX.out⟩;obtain⟨lj,ES⟩:∃x,nth ls j=x:=⟨_,rfl⟩;rw[ES] at e0;by_cases LU:60<lj.length
     ·have VZ:(60:Int)<(lj.length:Int):=nQ;clear ER ES;go_wp2_with fail;go_ret;exact uq ag
     ·have VZ:¬(60:Int)<(lj.length:Int):=nQ;have ac7:decide ((60:Int)<(lj.length:Int))=false:=decide_eq_false VZ;have WO:Hid (∀p,p<j+1->(nth ls p).length<=60):=qh fun p hp=>by
       rcases Nat.lt_succ_iff_lt_or_eq.1 hp with h|rfl
       ·exact HP.out p h
       ·rw[ES];omega
      clear ER ES LU;go_wp2_with fail;go_roundg (ls.length-(j+1))
      case measure=>omega
      case rel=>exact⟨j+1,_,nQ,rfl,by go_num,rfl,WO⟩
    ·obtain rfl:j=ls.length:=by omega
     have hjn:¬((ls.length:Int)<(ls.length:Int)):=nQ;have Pn:Hid (Pu t ls):=qh ⟨HF0.out,ZH.out,RE HP.out⟩;have mG:Hid (∀x∈ls,x.length<=1000):=qh fun x hx=>nT (Pn.out.2.2 x hx) nU;have b2:Hid (av (af W1 δ2) w.heap.size 39 (aF r t)):=qh (b1.out.af _);clear HP hlt Wp;rcases hv:aG t with _|_
     ·have HC:Hid (cE (aG t) 120=120):=by unfold Hid;rw[hv];rfl
      clear hv;go_wp2_with (first|(refine aj ak rfl _ rfl rfl b2.out rfl ?_)|(go_at_call 8;refine(cr r t B _ H.out.up).mono ?_;rw[HC.out];rintro e w1 ⟨rfl,δ3,rfl⟩));go_ret;exact G8 ag Pn.out
     ·have HC:Hid (cE (aG t) 120=0):=by unfold Hid;rw[hv];rfl
      have HV:=qh hv;clear hv;by_cases Y0:30<ls.length
      ·have Wr:(30:Int)<(ls.length:Int):=nQ;clear Y0;go_wp2_with (first|(refine aj ak rfl _ rfl rfl b2.out rfl ?_)|(go_at_call 8;refine(cr r t B _ H.out.up).mono ?_;rw[HC.out];rintro e w1 ⟨rfl,δ3,rfl⟩));go_ret;exact G8 ag Pn.out
      ·have Wr:¬(30:Int)<(ls.length:Int):=nQ;have acR:decide ((30:Int)<(ls.length:Int))=false:=decide_eq_false Wr;go_upto_region 10 with(first|(refine aj ak rfl _ rfl rfl b2.out rfl ?_)|(go_at_call 8;refine(cr r t B _ H.out.up).mono ?_;rw[HC.out];rintro e w1 ⟨rfl,δ3,rfl⟩));apply wp_region_lit;refine aj ak rfl _ rfl rfl (b2.out.af _) rfl ?_;refine fu (ps:=[(0,aX r t)]) (cells:=bX ⟨r,none,0⟩ (gQ t)) rfl _ _ rfl rfl (yu r t) ?_;go_upto_region 11 with(first|(refine ah (cs':=bX ⟨r,none,0⟩ (gQ t)) bQ rfl _ _ rfl rfl rfl (av.new (T:=53) rfl) rfl rfl (cO _ _) ?_;intro W2 E2 k2));have g1:W1.heap.size<=(af (af W1 δ2) δ3).heap.size:=(inferInstance:Le W1.heap.size (af (af W1 δ2) δ3)).out;have q3:aC w.heap.size w W2:=bP k2 (nT GH.out g1);have q4:Le w.heap.size W2:=cK k2;have gw:Hid (w.heap.size<(af (af W1 δ2) δ3).heap.size):=qh (nL sJ.out g1);obtain⟨g,hg⟩:∃g,(af (af W1 δ2) δ3).heap.size=g:=⟨_,rfl⟩;rw[hg] at E2 gw ⊢;have E2:=qh E2;clear k2 b1 b2 g1 hg;go_upto_region 12 with fail;go_loopg [7] ls.length (fun gn s7 wr=>∃(j:Nat) (kk:cH) (d:cU) (a:List bL),j<=ls.length/\gn=ls.length-j/\s7=.int .i64 j/\Hid (EF t ls j d a)/\Hid (av wr g 53 (bX kk d))/\Hid (cC r t w kk.ax d.ax wr)/\Hid (dG wr kk.oA kk.oc d.aB)/\aC w.heap.size w wr/\Le w.heap.size wr)
       case atStart=>exact⟨0,⟨r,none,0⟩,gQ t,[],nE _,rfl,rfl,qh (uL HV.out),E2,qh cC.refl,qh fm.none_,q3,q4⟩
       case round=>
        obtain⟨j,kk,d,a,hj,rfl,rfl,HJ,HE,LZ,HO,i1,a2⟩:=hrel;refine QFF ?_;intro a3;have a4:Le B wr:=⟨nT hB.out a2.out⟩;have lE:=HE.out.lt;by_cases hlt:j<ls.length
        ·have hji:(j:Int)<(ls.length:Int):=nQ;have hj0:¬(j:Int)<0:=nQ;obtain⟨sb,so,rfl,ER,e0⟩:=(HS.out.up (w':=wr)).lQ hlt;have isb:Lt sb wr:=⟨nL ER a4.out⟩;have EY:=qh (HJ.out.step hlt nQ (mG.out _ (aS ls hlt)));have gG:=mG.out _ (aS ls hlt);obtain⟨lj,ES⟩:∃x,nth ls j=x:=⟨_,rfl⟩;rw[ES] at e0 EY gG;refine QCR ?_;intro ri xd xt hx;rw[hx] at ri EY;simp only[] at EY;unfold eF at ri;clear ES gG hx;go_upto_region 14 with fail;refine wp_region_held (S:=fun W=>aC wr.heap.size wr W) nP ?_;change wpAnyH _ _ _ _ _ _ _ _ (World.drew _);refine gJ 0 (gr kk d) rfl nP (gx bQ nY _ rfl rfl (fun W h=>av.eA (hg:=h) HE.out) rfl) (inferInstance) ?_;refine QAI ?_;refine wpH_tq 1 (.slice (some ⟨sb,so,none⟩) ls.length cap) (inferInstance) ?_;refine QAI ?_;refine wpH_tq 2 (.int .i64 j) (inferInstance) ?_;refine QAI ?_;refine wpH_tq 3 (.pointer (some ⟨sb,so+j,none⟩)) (inferInstance) ?_;refine QAI ?_;refine QFO ?_;refine QAI ?_;refine wpAnyH_all (rs:=[5,9]) nP nV ?_;intro i hi;rcases List.mem_cons.1 hi with rfl|hi
         ·unfold wpOp;show if Region.wanted _ _=true then _ else _;rw[if_pos nY];left;unfold Oper.wp;go_simp;refine QEK ?_;rintro e w1 ⟨k',δ5,rfl,rfl,xZ,DY⟩;have Cg:=qh xZ;have AL:=qh DY;clear xZ DY;refine⟨inferInstance,?_⟩;refine QAI ?_;refine QEL ?_;refine QAI ?_;refine wpH_tq 7 (gr k' xd) (inferInstance) ?_;refine QAI ?_;refine wpH_tq 8 (.string (str xt)) (inferInstance) ?_;refine QAI ?_;refine wpAnyH_all (rs:=[9]) nP nV ?_;intro i hi;obtain rfl:=List.mem_singleton.1 hi;refine QAE ?_;refine⟨inferInstance,?_⟩;refine QAI ?_;refine wpAnyH_all (rs:=[10]) nP nV ?_;intro i hi;obtain rfl:=List.mem_singleton.1 hi;refine QBB ?_;refine kF bQ _ _ rfl rfl rfl (av.new (T:=53) rfl) rfl rfl (cO _ _) ?_;intro W9 C9 k9;have g9:aC wr.heap.size wr W9:=bP k9 ((inferInstance:Le wr.heap.size (af wr.drew δ5)).out);refine⟨g9,?_⟩;refine QAI ?_;refine wpH_tq 11 (.string (str xt)) (g9) ?_;refine QAI ?_;refine wpAnyH_done nP ?_ _;refine QDJ ?_;intro To9 O9;refine QBL ?_;intro E9 l9 f1 f3 f4 f5 f6 EK C9;clear k9 Cg AL;rcases hf:zu xd.ax with _|_
          ·rw[hf] at EK;clear hf;go_upto_region 17 with(first|(refine bY (cs':=aF k'.ax xd.ax) ak rfl _ rfl rfl C9.out (eo k' xd) rfl ?_)|(go_at_call 13;refine EK.out.mono ?_;rintro e w1 ⟨rfl,δ6,rfl⟩));go_upto_region 13 with(first|(refine aj bQ rfl _ rfl rfl (C9.out.af _) rfl ?_)|(refine ah bQ rfl _ _ rfl rfl rfl (E9.out.af _) rfl rfl (cO _ _) ?_;intro W10 E10 Cl));refine QDS ?_;intro E10 To10 O10 n1 n3;clear E9 To9 O9 Cl C9;go_wp2_with fail;go_roundg (ls.length-(j+1))
           case measure=>omega
           case rel=>exact⟨j+1,k',xd,a++[xt],nQ,rfl,by go_num,EY,E10,To10,O10,n1,n3⟩
          ·rw[hf] at EK;clear hf;go_wp2_with (first|(refine bY (cs':=aF k'.ax xd.ax) ak rfl _ rfl rfl C9.out (eo k' xd) rfl ?_)|(go_at_call 13;refine EK.out.mono ?_;rintro e w1 ⟨rfl,δ6,rfl⟩));go_ret;exact uq ag
         ·obtain rfl:=List.mem_singleton.1 hi;refine QAE ?_;refine⟨inferInstance,?_⟩;refine QAI ?_;refine wpAnyH_all (rs:=[5]) nP nV ?_;intro i hi;obtain rfl:=List.mem_singleton.1 hi;refine QAE ?_;refine QEK ?_;rintro e w1 ⟨k',δ5,rfl,rfl,xZ,DY⟩;have Cg:=qh xZ;have AL:=qh DY;clear xZ DY;refine⟨inferInstance,?_⟩;refine QAI ?_;refine QEL ?_;refine QAI ?_;refine wpH_tq 7 (gr k' xd) (inferInstance) ?_;refine QAI ?_;refine wpH_tq 8 (.string (str xt)) (inferInstance) ?_;refine QAI ?_;refine wpAnyH_all (rs:=[10]) nP nV ?_;intro i hi;obtain rfl:=List.mem_singleton.1 hi;refine QBB ?_;refine kF bQ _ _ rfl rfl rfl (((av.new (T:=53) rfl).drew).af _) rfl rfl (cO _ _) ?_;intro W9 C9 k9;have g9:aC wr.heap.size wr W9:=bP k9 (nR _);refine⟨g9,?_⟩;refine QAI ?_;refine wpH_tq 11 (.string (str xt)) (g9) ?_;refine QAI ?_;refine wpAnyH_done nP ?_ _;refine QCX ?_;intro To9 O9;refine QBL ?_;intro E9 l9 f1 f3 f4 f5 f6 EK C9;clear k9 Cg AL;rcases hf:zu xd.ax with _|_
          ·rw[hf] at EK;clear hf;go_upto_region 17 with(first|(refine bY (cs':=aF k'.ax xd.ax) ak rfl _ rfl rfl C9.out (eo k' xd) rfl ?_)|(go_at_call 13;refine EK.out.mono ?_;rintro e w1 ⟨rfl,δ6,rfl⟩));go_upto_region 13 with(first|(refine aj bQ rfl _ rfl rfl (C9.out.af _) rfl ?_)|(refine ah bQ rfl _ _ rfl rfl rfl (E9.out.af _) rfl rfl (cO _ _) ?_;intro W10 E10 Cl));refine QDS ?_;intro E10 To10 O10 n1 n3;clear E9 To9 O9 Cl C9;go_wp2_with fail;go_roundg (ls.length-(j+1))
           case measure=>omega
           case rel=>exact⟨j+1,k',xd,a++[xt],nQ,rfl,by go_num,EY,E10,To10,O10,n1,n3⟩
          ·rw[hf] at EK;clear hf;go_wp2_with (first|(refine bY (cs':=aF k'.ax xd.ax) ak rfl _ rfl rfl C9.out (eo k' xd) rfl ?_)|(go_at_call 13;refine EK.out.mono ?_;rintro e w1 ⟨rfl,δ6,rfl⟩));go_ret;exact uq ag
        ·obtain rfl:j=ls.length:=by omega
         have acg:¬((ls.length:Int)<(ls.length:Int)):=nQ;go_wp2_with fail;go_ret;exact G8 ag Pn.out
 ·rw[hfr] at Xg;clear hfr;go_enter Tryz.func4,Tryz.ntmps4;go_upto_region 1 with fail;refine aK fun W1 aE=>?_;obtain⟨uX,uW,tZ,tY,DH⟩:=yj B w aE;have b1:Hid (av W1 w.heap.size 39 (aF r t)):=by rw[aE.out];exact qh (av.new rfl)
  clear aE;go_wp2_with (first|(refine aj ak rfl _ rfl rfl b1.out rfl ?_)|(go_at_call 13;refine(Xg.out _ inferInstance inferInstance).mono ?_;rintro e w1 ⟨rfl,δ1,rfl⟩));go_ret;exact uq ag
end
section
open Hd
theorem Sl.apart{α:Type}{enc:α->List nK}{B b c:Nat}{W W':nJ}{A:Option Addr}{xs:List α}{T:TypeId}{cs:Array nK}(h:Sl enc B W A c xs)(hb:av W b T cs)(hz:∀(i:Nat) (v:Int),cs[i]?=some (Value.int .i64 v)->v=0)(hx:∃(j:Nat) (v:Int),(xs.flatMap enc)[j]?=some (Value.int .i64 v)/\v≠0)(hB:B<=W.heap.size)(k:bw (fun x=>x=b) W W'):Sl enc B W' A c xs:=by
 refine⟨h.1,h.2.1,fun hne=>?_⟩;obtain⟨b',o,e,hlt,hc⟩:=h.2.2 hne;refine⟨b',o,e,hlt,fun j v hj=>?_⟩;have gH:¬b'=b:=by rintro rfl;obtain⟨i,u,hi,hu⟩:=hx;have h1:=hc i _ hi;rw[cell_of_row W b' (o+i) cs T (0,0) hb] at h1;exact hu (hz _ _ h1)
 rw[World.cell?_of_block (a:=⟨b',o+j,none⟩) (k.block b' (nL hlt hB) gH)];exact hc j v hj
theorem E8(i:Nat)(v:Int)(h:(aF cV cL)[i]?=some (.int .i64 v)):v=0:=by
 rw[Jy] at h;match i,h with
 |0,h=>injection h with h;injection h with _ h;exact h.symm
 |1,h=>injection h with h;injection h with _ h;exact h.symm
 |2,h=>injection h with h;injection h with _ h;exact h.symm
 |3,h=>injection h with h;injection h with _ h;exact h.symm
 |4,h=>injection h with h;cases h
 |5,h=>injection h with h;cases h
 |6,h=>injection h with h;cases h
 |7,h=>injection h with h;injection h with _ h;exact h.symm
 |8,h=>injection h with h;cases h
 |9,h=>injection h with h;cases h
 |10,h=>injection h with h;cases h
 |11,h=>injection h with h;injection h with _ h;exact h.symm
 |12,h=>injection h with h;cases h
 |13,h=>injection h with h;cases h
 |n+14,h=>cases h
theorem S3:fO nH 28 7:=fO.mk' Tryz.underlying28 rfl nP
theorem P7:fO nH 32 3:=fO.mk' Tryz.underlying32 rfl nP
theorem Ms:fO nH 37 4:=fO.mk' Tryz.underlying37 rfl nP
abbrev To(r:eD)(n:An.Net):Array nK:=#[.int .i64 n.aN.lo,.int .i64 n.aN.hi,.int .i64 n.cur.lo,.int .i64 n.cur.hi,.slice r.gA n.au.length r.gc,.slice r.aA n.ay.length r.ac,.slice r.wA n.aQ.length r.wc]
abbrev RW(r:cw)(n:Me.Net):Array nK:=#[.int .i64 n.m,.slice r.hA n.hs.length r.hc,.slice r.pA n.ps.length r.pc]
abbrev VP(r:eE)(h:Sa.aL):Array nK:=#[.slice r.kA h.kinds.length r.kc,.int .i64 h.floor,.slice r.pA h.parts.length r.pc,.slice r.bA h.bars.length r.bc]
theorem Fg(r:aR)(t:aV):Tryz.prog.built 39 [(0,ew r.aD t.aD),(1,cD r.ai t.ai),(2,eW r.aa t.aa)]=some (aF r t):=by kernel_rfl
theorem Bt(w:nJ):Calls nH 15 #[] w fun e w'=>∃(r:aR) (δ:nJ),e=.returned (aX r fW)/\w'=af w δ/\aI (af w δ).heap.size (af w δ) r fW:=by
 go_enter Tryz.func15,Tryz.ntmps15;go_upto_region 1 with fail;refine aK fun W0 jh=>?_;have a1:aC w.heap.size w W0:=iC jh;have a2:Le w.heap.size W0:=fR jh;have b0:Hid (av W0 w.heap.size 39 (aF cV cL)):=by rw[jh.out];exact qh (av.new rfl)
 have l0:=b0.out.lt;clear jh;go_upto_region 2 with(go_at_call 36;refine(La _).mono ?_;rintro e w1 ⟨rN,ra,rb,δ1,rfl,rfl,hN,_,_⟩;have HN:=qh hN;clear hN);refine aK fun W1 aE=>?_;obtain⟨g1,hg1⟩:∃g,(af W0 δ1).heap.size=g:=⟨_,rfl⟩;have a3:aC w.heap.size w W1:=iC aE;have a4:Le w.heap.size W1:=fR aE;have b1:Hid (av W1 w.heap.size 39 (aF cV cL)):=by rw[aE.out];exact qh ((((b0.out.af _).alloc _).alloc _).alloc _)
 have n1:Hid (av W1 g1 28 (To rN Hh)):=by rw[aE.out,<-hg1];exact qh (((av.new rfl).alloc _).alloc _)
 have N1:Hid (cj W1.heap.size W1 rN Hh):=by rw[aE.out];exact qh (HN.out.wide)
 have ln1:=n1.out.lt;rw[hg1];clear aE HN b0 l0 hg1;go_upto_region 3 with(go_at_call 37;refine(Gx _).mono ?_;rintro e w1 ⟨rM,δ2,rfl,rfl,HM⟩);refine aK fun W2 eu=>?_;obtain⟨g2,kC⟩:∃g,(af W1 δ2).heap.size=g:=⟨_,rfl⟩;have a5:aC w.heap.size w W2:=iC eu;have a6:Le w.heap.size W2:=fR eu;have b2:Hid (av W2 w.heap.size 39 (aF cV cL)):=by rw[eu.out];exact qh (((b1.out.af _).alloc _).alloc _)
 have n2:Hid (av W2 g1 28 (To rN Hh)):=by rw[eu.out];exact qh (((n1.out.af _).alloc _).alloc _)
 have m2:Hid (av W2 g2 32 (RW rM vV)):=by rw[eu.out,<-kC];exact qh ((av.new rfl).alloc _)
 have N2:Hid (cj W2.heap.size W2 rN Hh):=by rw[eu.out];exact qh (N1.out.wide)
 have M2:Hid (bG W2.heap.size W2 rM vV):=by rw[eu.out];exact qh (HM.out.wide)
 rw[kC];clear eu HM b1 n1 N1 ln1 kC;go_upto_region 4 with(go_at_call 38;refine(Hf _).mono ?_;rintro e w1 ⟨rH,rH2,δ3,rfl,rfl,hH⟩;have HH:=qh hH;clear hH);refine aK fun W3 bN=>?_;obtain⟨g3,qj⟩:∃g,(af W2 δ3).heap.size=g:=⟨_,rfl⟩;have a7:aC w.heap.size w W3:=iC bN;have a8:Le w.heap.size W3:=fR bN;have b3:Hid (av W3 w.heap.size 39 (aF cV cL)):=by rw[bN.out];exact qh (((b2.out.af _).alloc _).alloc _)
 have n3:Hid (av W3 g1 28 (To rN Hh)):=by rw[bN.out];exact qh (((n2.out.af _).alloc _).alloc _)
 have m3:Hid (av W3 g2 32 (RW rM vV)):=by rw[bN.out];exact qh (((m2.out.af _).alloc _).alloc _)
 have s3:Hid (av W3 g3 37 (VP rH zl)):=by rw[bN.out,<-qj];exact qh ((av.new rfl).alloc _)
 have N3:Hid (cj W3.heap.size W3 rN Hh):=by rw[bN.out];exact qh (N2.out.wide)
 have M3:Hid (bG W3.heap.size W3 rM vV):=by rw[bN.out];exact qh (M2.out.wide)
 have H3:Hid (bS W3.heap.size W3 rH zl):=by rw[bN.out];exact qh (HH.out.wide)
 rw[qj];clear bN HH b2 n2 N2 m2 M2 qj;apply wp_region_lit;refine aj S3 rfl _ rfl rfl n3.out rfl ?_;refine aj P7 rfl _ rfl rfl m3.out rfl ?_;refine aj Ms rfl _ rfl rfl s3.out rfl ?_;refine fu (ps:=[(0,ew rN Hh),(1,cD rM vV),(2,eW rH zl)]) (cells:=aF ⟨rN,rM,rH⟩ fW) rfl _ _ rfl rfl (Fg ⟨rN,rM,rH⟩ fW) ?_;go_wp2_with (refine ah (cs':=aF ⟨rN,rM,rH⟩ fW) ak rfl _ _ rfl rfl rfl b3.out rfl rfl (aJ _ _) ?_;intro W9 C9 k9);refine QCO ?_;intro p1 p2;refine gB ak Tryz.results15 rfl C9 rfl ?_;refine⟨⟨rN,rM,rH⟩,W9,rfl,aq,?_⟩;refine QDK ?_;have z:=E8;exact⟨⟨Sl.apart N3.out.1 b3.out z ⟨0,2,rfl,nU⟩ (nR _) k9 |>.more k9.size,Sl.apart N3.out.2.1 b3.out z ⟨0,6,rfl,nU⟩ (nR _) k9 |>.more k9.size,Sl.apart N3.out.2.2 b3.out z ⟨0,2,rfl,nU⟩ (nR _) k9 |>.more k9.size⟩,
  ⟨Sl.apart M3.out.1 b3.out z ⟨1,2,rfl,nU⟩ (nR _) k9 |>.more k9.size,Sl.apart M3.out.2 b3.out z ⟨1,2,rfl,nU⟩ (nR _) k9 |>.more k9.size⟩,
  ⟨Sl.apart H3.out.1 b3.out z ⟨0,3,rfl,nU⟩ (nR _) k9 |>.more k9.size,Sl.apart H3.out.2.1 b3.out z ⟨1,10,rfl,nU⟩ (nR _) k9 |>.more k9.size,Sl.apart H3.out.2.2 b3.out z ⟨0,40,rfl,nU⟩ (nR _) k9 |>.more k9.size⟩⟩
end
section
open Hd
theorem Uc:nq fW gD=((jR,[Ea]),(pN (gQ fW) gD).1.ax,0):=by have Y0:¬30<gD.length:=nU;unfold nq;rw[if_neg (by rw[Oo];decide),if_neg Y0,Hg,Rj]
theorem uV{W:nJ}{g:Nat}{arr:Array nK}{ls:List bL}(hb:av W g 9 arr)(he:arr.toList=ls.flatMap cm)(h2:ls.length<=1000):Sl cm W.heap.size W (some ⟨g,0,none⟩) ls.length ls:=by refine⟨nR _,nQ,fun _=>⟨g,0,rfl,hb.rO,fun j v hj=>?_⟩⟩;rw[Nat.zero_add];exact hb.cell (by rw[<-Array.getElem?_toList,he];exact hj)
theorem qU{P:Program}{f:FuncId}{args:Array nK}{W:nJ}{R:Ending->nJ->Prop}(h:∀X,W=X->Calls P f args X R):Calls P f args W R:=h W rfl
theorem xN(w:nJ)[h8:Le 8 w](hL:cX w):Calls nH 5 #[] w fun e w'=>e=.returned (.bool true)/\∃δ,w'=af w δ:=by
 have HL:=qh hL;have XY:Hid (∀(r:aR) (g B:Nat) (W:nJ),aI B W r fW->Le B W->Le 8 W->cX W->Sl cm B W (some ⟨g,0,none⟩) 7 gD->Calls nH 9 #[aX r fW,.slice (some ⟨g,0,none⟩) 7 7] W (gE fW gD W)):=qh fun r g B W h1 h2 h3 h4 h5=>
  N6 r fW gD (some ⟨g,0,none⟩) 7 nU B W h1 h4 h5
 unfold gE at XY;rw[Uc] at XY;have m1:(pN (gQ fW) gD).1.ax.ai.m=2:=Ud;have m2:=Ri;obtain⟨tt,htt⟩:∃x,(pN (gQ fW) gD).1.ax=x:=⟨_,rfl⟩;rw[htt] at XY m1 m2;have M1:=qh m1;have M2:=qh m2;clear hL htt m1 m2;go_enter Tryz.func5,Tryz.ntmps5;go_wp2_with (go_at_call 15;refine(Bt _).mono ?_;rintro e w1 ⟨rE,δ1,rfl,rfl,hE⟩;have HE:=qh hE;clear hE);refine qU fun X hX=>?_;have x0:aC w.heap.size w X:=by rw[<-hX];infer_instance
 have x1:Le w.heap.size X:=by rw[<-hX];infer_instance
 have x2:Hid (aI X.heap.size X rE fW):=by rw[<-hX];exact qh HE.out.wide
 have x3:Hid (Sl cm X.heap.size X (some ⟨(af w δ1).heap.size,0,none⟩) 7 gD):=by rw[<-hX];exact qh (uV (ls:=gD) (av.new rfl) rfl nU)
 have x5:aC 8 w X:=by rw[<-hX];infer_instance
 clear hX;have x4:Le 8 X:=⟨nT h8.out x1.out⟩;have x6:Le X.heap.size X:=⟨nR _⟩;refine(XY.out rE _ X.heap.size X x2.out x6 x4 HL.out.up x3.out).mono ?_;rintro e w1 ⟨aA,ac,rT,lA,lc,δ2,rfl,rfl,ha,hT,hl⟩;have Xl:=qh ha;have SB:=qh hl;clear ha hT hl;go_upto_region 2 with(refine ah (cs':=aF rT tt) ak rfl _ _ rfl rfl rfl (av.new (T:=39) rfl) rfl rfl (aJ _ _) ?_;intro W3 T3 k3);have n1:aC w.heap.size w W3:=bP k3 (inferInstance:Le w.heap.size (af X δ2)).out;have n2:Le w.heap.size W3:=cK k3;have q1:aC (af X δ2).heap.size (af X δ2) W3:=bP k3 (nR _);have q2:Le (af X δ2).heap.size W3:=cK k3;have A3:Hid (Sl cm W3.heap.size W3 aA ac jR):=qh Xl.out.wide;have L3:Hid (Sl cm W3.heap.size W3 lA lc [Ea]):=qh SB.out.wide;have y7:=T3.cell (i:=7) (v:=.int .i64 tt.ai.m) rfl;have y0:=T3.cell (i:=0) (v:=.int .i64 tt.aD.aN.lo) rfl;have y1:=T3.cell (i:=1) (v:=.int .i64 tt.aD.aN.hi) rfl;rw[M1.out] at y7;rw[M2.out.1] at y0;rw[M2.out.2] at y1;have lg:=T3.lt;obtain⟨g,hg⟩:∃g,(af X δ2).heap.size=g:=⟨_,rfl⟩;rw[hg] at y7 y0 y1 lg ⊢;have lw:Le W3.heap.size W3:=⟨nR _⟩;clear q1 q2 Xl SB k3 T3;go_wp2_with fail;refine qU fun Y hY=>?_;have z1:Hid (Sl cm Y.heap.size Y lA lc [Ea]):=by rw[<-hY];exact qh L3.out.wide
 have z2:Hid (Sl cm Y.heap.size Y (some ⟨W3.heap.size,0,none⟩) 1 [Ea]):=by rw[<-hY];exact qh (uV (ls:=[Ea]) (av.new rfl) rfl nU)
 have z3:Hid (Sl cm Y.heap.size Y aA ac jR):=by rw[<-hY];exact qh A3.out.wide
 have z4:aC w.heap.size w Y:=by rw[<-hY];infer_instance
 have z5:Le w.heap.size Y:=by rw[<-hY];infer_instance
 clear hY;have z6:Le Y.heap.size Y:=⟨nR _⟩;refine(kU lA _ lc _ [Ea] Y.heap.size Y z1.out z2.out _ _ rfl rfl).mono ?_;rintro e w1 ⟨rfl,δ3,rfl⟩;go_wp2_with fail;refine qU fun Z hZ=>?_;have u1:Hid (Sl cm Z.heap.size Z aA ac jR):=by rw[<-hZ];exact qh z3.out.wide
 have u2:Hid (Sl cm Z.heap.size Z (some ⟨(af Y δ3).heap.size,0,none⟩) 7 jR):=by rw[<-hZ];exact qh (uV (ls:=jR) (av.new rfl) rfl nU)
 have u4:aC w.heap.size w Z:=by rw[<-hZ];infer_instance
 have u5:Le w.heap.size Z:=by rw[<-hZ];infer_instance
 clear hZ;have u6:Le Z.heap.size Z:=⟨nR _⟩;refine(kU aA _ ac _ jR Z.heap.size Z u1.out u2.out _ _ rfl rfl).mono ?_;rintro e w1 ⟨rfl,δ4,rfl⟩;go_wp2_with fail;go_ret;exact⟨rfl,ag⟩
end
section
open Hd
theorem K7{t:aV}(h:zu t=false):Small t:=by simp only[zu,An.BM,DP,G9,DQ,yh,qi,Bool.or_eq_false_iff,decide_eq_false_iff_not] at h;obtain⟨⟨⟨⟨⟨h1,h2⟩,h3⟩,_⟩,_⟩,⟨⟨h4,h5,_⟩,_⟩,⟨⟨h6,h7⟩,h8⟩,_⟩:=h;exact⟨⟨nQ,nQ,nQ⟩,⟨nQ,nQ⟩,⟨nQ,nQ,nQ⟩⟩
theorem GD(r:aR)(t:aV)(A:Option Addr)(c:Nat)(ls:List bL)(B:Nat)(w:nJ)(hT:aI B w r t)(hS:Sl cm B w A c ls)[hB:Le B w][h8:Le 8 w](hL:cX w):Calls nH 3 #[aX r t,.slice A ls.length c] w fun e w'=>e=.returned (.bool true)/\∃δ,w'=af w δ:=by
 have H:=qh hT;have HS:=qh hS;have HL:=qh hL;clear hT hS hL;go_enter Tryz.func3,Tryz.ntmps3;go_upto_region 1 with fail;obtain⟨g2,kC⟩:∃g,w.heap.size=g:=⟨_,rfl⟩;refine QEH ?_;intro W1 aE cz de;obtain⟨cN,cY,dc,dX⟩:=He 8 w aE;have X1:Hid (av W1 w.heap.size 39 (aF r t)):=by rw[aE.out];exact qh (av.new rfl)
 clear aE;rw[kC] at X1 ⊢;have HG2:=qh kC;clear kC;go_wp2_with (refine aj ak rfl _ rfl rfl X1.out rfl ?_);refine(Nv r t ls A c B _ H.out.up HS.out.up).mono ?_;rintro e w1 ⟨b,δ1,rfl,rfl,hf⟩;cases b with
 |true=>
  clear hf
  go_wp2_with (go_at_call 5;refine(xN _ HL.out.up).mono ?_;rintro e w1 ⟨rfl,δ2,rfl⟩)
  go_ret
  exact⟨rfl,ag⟩
 |false=>
  have hok:=hf rfl
  clear hf
  have lI:=qh (K7 hok.1)
  have ac8:=hok.2.1
  have Xa:Hid (∀x∈ls,x.length<=1000):=qh fun x hx=>nT (hok.2.2 x hx) nU
  have SC:Hid ((ls.flatMap cm).length=ls.length*1):=qh (cg cm 1 gK ls)
  clear hok
  obtain⟨X,hX⟩:∃X,af W1 δ1=X:=⟨_,rfl⟩
  have x1:aC w.heap.size w X:=by rw[<-hX];infer_instance
  have x2:Le w.heap.size X:=by rw[<-hX];infer_instance
  have x3:aC B w X:=by rw[<-hX];infer_instance
  have x4:Le B X:=by rw[<-hX];infer_instance
  have x5:aC 8 w X:=by rw[<-hX];infer_instance
  have x6:Le 8 X:=by rw[<-hX];infer_instance
  have X2:Hid (av X g2 39 (aF r t)):=by rw[<-hX];exact qh (X1.out.af _)
  rw[hX]
  clear hX X1
  go_wp2_with (refine aj ak rfl _ rfl rfl X2.out rfl ?_)
  refine(fT r t lI.out B _ H.out.up).mono ?_
  rintro e w1 ⟨rc,δ2,rfl,rfl,hc⟩
  obtain⟨Y,hY⟩:∃Y,af X δ2=Y:=⟨_,rfl⟩
  rw[hY] at hc ⊢
  have y1:aC w.heap.size w Y:=by rw[<-hY];infer_instance
  have y2:Le w.heap.size Y:=by rw[<-hY];infer_instance
  have y3:aC B w Y:=by rw[<-hY];infer_instance
  have y4:Le B Y:=by rw[<-hY];infer_instance
  have y5:aC 8 w Y:=by rw[<-hY];infer_instance
  have y6:Le 8 Y:=by rw[<-hY];infer_instance
  have YX:Hid (av Y g2 39 (aF r t)):=by rw[<-hY];exact qh X2.out.eA
  have TC:Hid (aI Y.heap.size Y rc t):=qh hc.is
  have yY:Le Y.heap.size Y:=⟨nR _⟩
  clear hY hc X2
  go_upto_region 4 with(first|(at_builtin;(refine bR Y RS (.tmp 21) (.tmp 22) rfl rfl (v:=.slice (some ⟨_,0,none⟩) 0 0) (cx nW nW) rfl (B:=B) (A:=A) (m:=ls.length) (c:=c) (news:=ls.flatMap cm) rfl (HS.out.up.2.2) SC.out (dS cm (fun x u hu=>by simp[cm] at hu;subst hu;rfl) _) nQ nQ ?_);intro A1 c1 δ3 ei hg1;have OW:=qh ei;clear ei hg1)|(refine ah ak rfl _ _ rfl rfl rfl (av.new (T:=39) rfl) rfl rfl (aJ _ _) ?_;intro W3 E3 k3))
  have z1:aC Y.heap.size Y W3:=bP k3 (inferInstance:Le Y.heap.size (dM Y.heap.size (Y.alloc (.cells #[] 9)) δ3)).out
  have z2:Le Y.heap.size W3:=cK k3
  have LC3:Hid (Sl cm W3.heap.size W3 A1 c1 ls):=qh (Sl.bW (ct (OW.out.alloc _) k3 (av.new rfl) nU))
  have X3:Hid (av W3 g2 39 (aF r t)):=qh YX.out.eA
  have TC3:Hid (aI W3.heap.size W3 rc t):=qh (TC.out.wide (W:=W3))
  have b1:aC w.heap.size w W3:=⟨⟨z1.out.1.trans y1.out.1,z1.out.2.1.trans y1.out.2.1,z1.out.2.2.1.trans y1.out.2.2.1,fun b hb=>(z1.out.2.2.2 b (nL hb y2.out)).trans (y1.out.2.2.2 b hb)⟩⟩
  have b2:Le w.heap.size W3:=⟨nT y2.out z2.out⟩
  have b3:aC B w W3:=⟨⟨b1.out.1,b1.out.2.1,b1.out.2.2.1,fun b hb=>b1.out.2.2.2 b (nL hb hB.out)⟩⟩
  have b4:Le B W3:=⟨nT hB.out b2.out⟩
  have b5:aC 8 w W3:=⟨⟨b1.out.1,b1.out.2.1,b1.out.2.2.1,fun b hb=>b1.out.2.2.2 b (nL hb h8.out)⟩⟩
  have b6:Le 8 W3:=⟨nT h8.out b2.out⟩
  have b7:Le W3.heap.size W3:=⟨nR _⟩
  obtain⟨g5,UP⟩:∃g,(dM Y.heap.size (Y.alloc (.cells #[] 9)) δ3).heap.size=g:=⟨_,rfl⟩
  rw[UP] at E3 ⊢
  have E3:=qh E3
  clear k3 OW YX TC UP z1 z2 y1 y2 y3 y4 y5 y6 yY x1 x2 x3 x4 x5 x6
  refine wp_region_held (S:=fun W=>aC W3.heap.size W3 W) nP ?_
  change wpAnyH _ _ _ _ _ _ _ _ (World.drew _)
  refine gJ 0 (aX rc t) rfl nP (gx ak nY _ rfl rfl (fun W h=>av.eA (hg:=h) E3.out) rfl) (inferInstance) ?_
  refine QAI ?_
  refine gJ 2 (aX r t) rfl nP (gx ak nY _ rfl rfl (fun W h=>av.eA (hg:=h) X3.out) rfl) (inferInstance) ?_
  refine QAI ?_
  refine wpAnyH_all (rs:=[1]) nP nV ?_
  intro i hi
  obtain rfl:=List.mem_singleton.1 hi
  refine QAE ?_
  refine(pn rc t W3.heap.size _ TC3.out.up).mono ?_
  rintro e w1 ⟨rfl,δ4,rfl⟩
  refine⟨inferInstance,?_⟩
  refine QAI ?_
  refine wpAnyH_all (rs:=[3]) nP nV ?_
  intro i hi
  obtain rfl:=List.mem_singleton.1 hi
  refine QAE ?_
  refine(cr r t B _ H.out.up).mono ?_
  rintro e w1 ⟨rfl,δ5,rfl⟩
  refine⟨inferInstance,?_⟩
  refine QAI ?_
  refine wpH_tq 4 (.bool false) (inferInstance) ?_
  refine QAI ?_
  refine wpAnyH_done nP ?_ _
  go_upto_region 6 with fail
  obtain⟨W4,gP⟩:∃X,af (af W3.drew δ4) δ5=X:=⟨_,rfl⟩
  rw[gP]
  have d1:aC w.heap.size w W4:=by rw[<-gP];infer_instance
  have d2:Le w.heap.size W4:=by rw[<-gP];infer_instance
  have d3:aC B w W4:=by rw[<-gP];infer_instance
  have d4:Le B W4:=by rw[<-gP];infer_instance
  have d5:aC 8 w W4:=by rw[<-gP];infer_instance
  have d6:Le 8 W4:=by rw[<-gP];infer_instance
  have d7:aC W3.heap.size W3 W4:=by rw[<-gP];infer_instance
  have d8:Le W3.heap.size W4:=by rw[<-gP];infer_instance
  clear gP
  have X4:Hid (av W4 g2 39 (aF r t)):=qh X3.out.eA
  have E4:Hid (av W4 g5 39 (aF rc t)):=qh E3.out.eA
  have TC4:Hid (aI W4.heap.size W4 rc t):=qh TC3.out.wide
  have LC4:Hid (Sl cm W4.heap.size W4 A1 c1 ls):=qh LC3.out.wide
  have b7:Le W4.heap.size W4:=⟨nR _⟩
  obtain⟨a,l,tt,ev,hrv⟩:∃a l tt ev,nq t ls=((a,l),tt,ev):=⟨_,_,_,_,rfl⟩
  have XO:Hid (Calls nH 9 #[aX rc t,.slice A1 ls.length c1] W4 (gE t ls W4)):=qh (N6 rc t ls A1 c1 Xa.out W4.heap.size W4 TC4.out HL.out.up LC4.out)
  have PE:Hid (∀W:nJ,aC B w W->Le B W->Calls nH 10 #[aX r t,.slice A ls.length c] W (gE t ls W)):=qh fun W i1 i2=>Mz r t ls A c Xa.out B W H.out.up HS.out.up
  unfold gE at XO PE
  rw[hrv] at XO PE
  clear hrv E3 X3 TC3 LC3
  go_upto_region 7 with(first|(refine aj ak rfl _ rfl rfl E4.out rfl ?_)|(go_at_call 9;refine XO.out.mono ?_;rintro e w1 ⟨aA,ac,rT,lA,lc,δ6,rfl,rfl,ha,hT,hl⟩;have HA:=qh ha;have RH:=qh hT;have SB:=qh hl;clear ha hT hl)|(refine ah ak rfl _ _ rfl rfl rfl (av.new (T:=39) rfl) rfl rfl (aJ _ _) ?_;intro W5 F5 k5))
  have q1:aC (af W4 δ6).heap.size (af W4 δ6) W5:=bP k5 (nR _)
  have q2:Le (af W4 δ6).heap.size W5:=cK k5
  have f0:W4.heap.size<=(af W4 δ6).heap.size:=(inferInstance:Le W4.heap.size (af W4 δ6)).out
  have f1:aC W4.heap.size W4 W5:=bP k5 f0
  have f2:Le W4.heap.size W5:=cK k5
  have SA5:Hid (Sl cm W5.heap.size W5 aA ac a):=qh HA.out.wide
  have ST5:Hid (aI W5.heap.size W5 rT tt):=qh RH.out.wide
  have SL5:Hid (Sl cm W5.heap.size W5 lA lc l):=qh SB.out.wide
  obtain⟨g8,hg8⟩:∃g,(af W4 δ6).heap.size=g:=⟨_,rfl⟩
  rw[hg8] at F5 ⊢
  have F5:=qh F5
  have h1:aC w.heap.size w W5:=⟨⟨f1.out.1.trans d1.out.1,f1.out.2.1.trans d1.out.2.1,f1.out.2.2.1.trans d1.out.2.2.1,fun b hb=>(f1.out.2.2.2 b (nL hb d2.out)).trans (d1.out.2.2.2 b hb)⟩⟩
  have h2:Le w.heap.size W5:=⟨nT d2.out f2.out⟩
  have h3:aC B w W5:=⟨⟨h1.out.1,h1.out.2.1,h1.out.2.2.1,fun b hb=>h1.out.2.2.2 b (nL hb hB.out)⟩⟩
  have h4:Le B W5:=⟨nT hB.out h2.out⟩
  have h5:aC 8 w W5:=⟨⟨h1.out.1,h1.out.2.1,h1.out.2.2.1,fun b hb=>h1.out.2.2.2 b (nL hb h8.out)⟩⟩
  have h6:Le 8 W5:=⟨nT h8.out h2.out⟩
  have X5:Hid (av W5 g2 39 (aF r t)):=qh X4.out.eA
  have E5:Hid (av W5 g5 39 (aF rc t)):=qh E4.out.eA
  have TC5:Hid (aI W5.heap.size W5 rc t):=qh TC4.out.wide
  have LC5:Hid (Sl cm W5.heap.size W5 A1 c1 ls):=qh LC4.out.wide
  have b9:Le W5.heap.size W5:=⟨nR _⟩
  clear k5 q1 q2 f0 f1 f2 d1 d2 d3 d4 d5 d6 d7 d8 X4 E4 TC4 LC4 HA RH SB hg8 b1 b2 b3 b4 b5 b6 b7 XO
  go_upto_region 8 with(first|(refine aj ak rfl _ rfl rfl X5.out rfl ?_)|(go_at_call 10;refine(PE.out _ inferInstance inferInstance).mono ?_;rintro e w1 ⟨bA,bc,rT2,mA,mc,δ7,rfl,rfl,ha,hT,hl⟩;have HA:=qh ha;have RH:=qh hT;have SB:=qh hl;clear ha hT hl)|(refine ah ak rfl _ _ rfl rfl rfl (av.new (T:=39) rfl) rfl rfl (aJ _ _) ?_;intro W6 G6 k6))
  have q1:aC (af W5 δ7).heap.size (af W5 δ7) W6:=bP k6 (nR _)
  have q2:Le (af W5 δ7).heap.size W6:=cK k6
  have f0:W5.heap.size<=(af W5 δ7).heap.size:=(inferInstance:Le W5.heap.size (af W5 δ7)).out
  have f1:aC W5.heap.size W5 W6:=bP k6 f0
  have f2:Le W5.heap.size W6:=cK k6
  have SB6:Hid (Sl cm W6.heap.size W6 bA bc a):=qh HA.out.wide
  have SU6:Hid (aI W6.heap.size W6 rT2 tt):=qh RH.out.wide
  have SM6:Hid (Sl cm W6.heap.size W6 mA mc l):=qh SB.out.wide
  have SA6:Hid (Sl cm W6.heap.size W6 aA ac a):=qh SA5.out.wide
  have ST6:Hid (aI W6.heap.size W6 rT tt):=qh ST5.out.wide
  have SL6:Hid (Sl cm W6.heap.size W6 lA lc l):=qh SL5.out.wide
  have X6:Hid (av W6 g2 39 (aF r t)):=qh X5.out.eA
  have E6:Hid (av W6 g5 39 (aF rc t)):=qh E5.out.eA
  have F6:Hid (av W6 g8 39 (aF rT tt)):=qh F5.out.eA
  have TC6:Hid (aI W6.heap.size W6 rc t):=qh TC5.out.wide
  have LC6:Hid (Sl cm W6.heap.size W6 A1 c1 ls):=qh LC5.out.wide
  have n1:aC w.heap.size w W6:=⟨⟨f1.out.1.trans h1.out.1,f1.out.2.1.trans h1.out.2.1,f1.out.2.2.1.trans h1.out.2.2.1,fun b hb=>(f1.out.2.2.2 b (nL hb h2.out)).trans (h1.out.2.2.2 b hb)⟩⟩
  have n2:Le w.heap.size W6:=⟨nT h2.out f2.out⟩
  have n3:aC B w W6:=⟨⟨n1.out.1,n1.out.2.1,n1.out.2.2.1,fun b hb=>n1.out.2.2.2 b (nL hb hB.out)⟩⟩
  have n4:Le B W6:=⟨nT hB.out n2.out⟩
  have n5:aC 8 w W6:=⟨⟨n1.out.1,n1.out.2.1,n1.out.2.2.1,fun b hb=>n1.out.2.2.2 b (nL hb h8.out)⟩⟩
  have n6:Le 8 W6:=⟨nT h8.out n2.out⟩
  have TR6:Hid (aI W6.heap.size W6 r t):=qh H.out.wide
  have LR6:Hid (Sl cm W6.heap.size W6 A c ls):=qh HS.out.wide
  have n7:Le W6.heap.size W6:=⟨nR _⟩
  obtain⟨g12,V8⟩:∃g,(af W5 δ7).heap.size=g:=⟨_,rfl⟩
  rw[V8] at G6 ⊢
  have G6:=qh G6
  clear k6 q1 q2 f0 f1 f2 h1 h2 h3 h4 h5 h6 X5 E5 F5 TC5 LC5 SA5 ST5 SL5 HA RH SB V8 PE b9
  go_wp2_with (first|(refine bI ak nY _ rfl rfl (av.eA F6.out) rfl ?_)|(refine bI ak nY _ rfl rfl (av.eA G6.out) rfl ?_)|(refine bI ak nY _ rfl rfl (av.eA E6.out) rfl ?_)|(refine bI ak nY _ rfl rfl (av.eA X6.out) rfl ?_)|(go_at_call 11;(first|(with_reducible refine Calls.mono (kU aA bA ac bc a W6.heap.size _ SA6.out.up SB6.out.up _ _ rfl rfl) ?_)|(with_reducible refine Calls.mono (kU lA mA lc mc l W6.heap.size _ SL6.out.up SM6.out.up _ _ rfl rfl) ?_)|(with_reducible refine Calls.mono (kU A1 A c1 c ls W6.heap.size _ LC6.out.up LR6.out.up _ _ rfl rfl) ?_));rintro e w1 ⟨rfl,δ9,rfl⟩)|(go_at_call 12;(first|(with_reducible refine Calls.mono (IJ rT rT2 tt W6.heap.size _ ST6.out.up SU6.out.up) ?_)|(with_reducible refine Calls.mono (IJ rc r t W6.heap.size _ TC6.out.up TR6.out.up) ?_));rintro e w1 ⟨rfl,δ9,rfl⟩)|(go_at_call 5;refine(xN _ HL.out.up).mono ?_;rintro e w1 ⟨rfl,δ9,rfl⟩))
  go_ret
  exact⟨rfl,ag⟩
end
end Go.Proofs.YtcjjlikhlmfedaaGreatDoor
