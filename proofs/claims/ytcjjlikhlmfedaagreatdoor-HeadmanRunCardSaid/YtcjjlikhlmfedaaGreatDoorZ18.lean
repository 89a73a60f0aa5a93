/- A part of the proof that the statement HeadmanRunCardSaid holds, cut small by a program (names and blanks): Sr9, Sr13. -/
import Derived.Test.YtcjjlikhlmfedaaGreatDoorZ5
import Derived.Test.YtcjjlikhlmfedaaGreatDoorZ17
set_option maxRecDepth 100000
set_option maxHeartbeats 40000000
set_option linter.unusedVariables false
set_option linter.unusedSimpArgs false
namespace Go.Proofs.YtcjjlikhlmfedaaGreatDoor
open Go.RowKit
open Nat renaming zero_le → nE
open Go.Proofs.Tryz renaming prog → nH
open Go renaming World → nJ, Value → nK
theorem Vh:nw nH 33 114 (.agg #[.int .i64 0,.int .i64 0]) 2 16:=nw.mk Tryz.underlying33 nP rfl nQ
theorem PW:nw nH 34 116 (.agg #[.int .i64 0,.int .i64 0]) 2 16:=nw.mk Tryz.underlying34 nP rfl nQ
theorem Dj:∀x:Sa.Kind,∀u∈p6 x,u.oneCell'=true:=by intro x u hu;simp[p6] at hu;rcases hu with rfl|rfl<;>rfl
theorem tK:∀x:Sa.Part,∀u∈iX x,u.oneCell'=true:=by intro x u hu;simp[iX] at hu;rcases hu with rfl|rfl<;>rfl
theorem tM:∀x:Int,∀u∈aH x,u.oneCell'=true:=by intro x u hu;simp[aH] at hu;subst hu;rfl
def fC(base:Nat)(w:nJ)(r:eE)(h:Sa.aL):Prop:=
 w.ownsRow base 114 2 (.slice r.kA h.kinds.length r.kc) h.kinds.length (h.kinds.flatMap p6) /\
 w.ownsRow base 116 2 (.slice r.pA h.parts.length r.pc) h.parts.length (h.parts.flatMap iX) /\
 w.ownsRow base 3 1 (.slice r.bA h.bars.length r.bc) h.bars.length (h.bars.flatMap aH)
section
variable{base:Nat}{w:nJ}{r:eE}{h:Sa.aL}
theorem fC.is(k:fC base w r h):bS w.heap.size w r h:=⟨Sl.bW k.1,Sl.bW k.2.1,Sl.bW k.2.2⟩
theorem fC.mono(k:fC base w r h){base':Nat}(hb:base'<=base):fC base' w r h:=⟨dO k.1 hb,dO k.2.1 hb,dO k.2.2 hb⟩
theorem fC.set(k:fC base w r h){b i:Nat}(hb:b<base)(u:nK):fC base (w.setCell ⟨b,i,none⟩ u) r h:=
 ⟨ownsRow_setCell_below k.1 (a:=⟨b,i,none⟩) hb u,ownsRow_setCell_below k.2.1 (a:=⟨b,i,none⟩) hb u,ownsRow_setCell_below k.2.2 (a:=⟨b,i,none⟩) hb u⟩
theorem fC.alloc(k:fC base w r h)(o:Obj):fC base (w.alloc o) r h:=⟨k.1.alloc o,k.2.1.alloc o,k.2.2.alloc o⟩
theorem fC.up(k:fC base w r h){W:nJ}[hg:aC w.heap.size w W]:fC base W r h:=⟨aT k.1,aT k.2.1,aT k.2.2⟩
end
theorem C0(r:eE)(h:Sa.aL)(B:Nat)(w:nJ)[hB:Le B w](hH:bS B w r h)(q1:h.kinds.length<=1000)(q2:h.parts.length<=1000)(q3:h.bars.length<=1000):Calls nH 18 #[eW r h] w fun e w'=>∃(r':eE) (δ:nJ),e=.returned (eW r' h)/\w'=af w δ/\fC w.heap.size (af w δ) r' h:=by
 have H:=qh hH;obtain⟨kA,kc,pA,pc,bA,bc⟩:=r;clear hH;go_enter Tryz.func18,Tryz.ntmps18;go_upto_region 2 with fail;refine aK fun W1 aE=>?_;obtain⟨cz,de,cN,cY,dc,dX⟩:=Cm B w aE;have jP:Lt (w.heap.size+1+1) W1:=mb aE;have jU:W1.cell? ⟨w.heap.size,0,none⟩=some (.slice kA h.kinds.length kc):=by rw[aE.out];go_simp
 have kM:W1.cell? ⟨w.heap.size,1,none⟩=some (.int .i64 h.floor):=by rw[aE.out];go_simp
 have iY:W1.cell? ⟨w.heap.size,2,none⟩=some (.slice pA h.parts.length pc):=by rw[aE.out];go_simp
 have lC:W1.cell? ⟨w.heap.size,3,none⟩=some (.slice bA h.bars.length bc):=by rw[aE.out];go_simp
 have lu:W1.cell? ⟨w.heap.size+1,0,none⟩=some (.slice none 0 0):=by rw[aE.out];go_simp
 have uu:W1.cell? ⟨w.heap.size+1,1,none⟩=some (.int .i64 0):=by rw[aE.out];go_simp
 have vn:W1.cell? ⟨w.heap.size+1,2,none⟩=some (.slice none 0 0):=by rw[aE.out];go_simp
 have vm:W1.cell? ⟨w.heap.size+1,3,none⟩=some (.slice none 0 0):=by rw[aE.out];go_simp
 have fw16:W1.frozen? ⟨w.heap.size+1,0,none⟩=false:=by rw[aE.out];go_simp
 have fw17:W1.frozen? ⟨w.heap.size+1,1,none⟩=false:=by rw[aE.out];go_simp
 have fw18:W1.frozen? ⟨w.heap.size+1,2,none⟩=false:=by rw[aE.out];go_simp
 have fw19:W1.frozen? ⟨w.heap.size+1,3,none⟩=false:=by rw[aE.out];go_simp
 have Ej:W1.cell? ⟨w.heap.size+1+1,0,none⟩=some (.slice kA h.kinds.length kc):=by rw[aE.out];go_simp
 have Ln:W1.cell? ⟨w.heap.size+1+1,1,none⟩=some (.int .i64 h.floor):=by rw[aE.out];go_simp
 have OG:W1.cell? ⟨w.heap.size+1+1,2,none⟩=some (.slice pA h.parts.length pc):=by rw[aE.out];go_simp
 have Lm:W1.cell? ⟨w.heap.size+1+1,3,none⟩=some (.slice bA h.bars.length bc):=by rw[aE.out];go_simp
 have fw24:W1.frozen? ⟨w.heap.size+1+1,0,none⟩=false:=by rw[aE.out];go_simp
 have fw25:W1.frozen? ⟨w.heap.size+1+1,1,none⟩=false:=by rw[aE.out];go_simp
 have fw26:W1.frozen? ⟨w.heap.size+1+1,2,none⟩=false:=by rw[aE.out];go_simp
 have fw27:W1.frozen? ⟨w.heap.size+1+1,3,none⟩=false:=by rw[aE.out];go_simp
 go_wp2_with (first|(at_builtin;(refine bR W1 Vh (.tmp 5) (.tmp 7) rfl rfl (v:=.slice (some ⟨_,0,none⟩) 0 0) (cx nW nW) rfl (B:=B) (A:=kA) (m:=h.kinds.length) (c:=kc) (news:=h.kinds.flatMap p6) rfl (H.out.up.1.2.2) (cg p6 2 (fun _=>rfl) _) (dS p6 Dj _) nQ nQ ?_);intro A1 c1 δ1 ei hg1)|(at_builtin;(refine bR W1 PW (.tmp 10) (.tmp 12) rfl rfl (v:=.slice (some ⟨_,0,none⟩) 0 0) (cx nW nW) rfl (B:=B) (A:=pA) (m:=h.parts.length) (c:=pc) (news:=h.parts.flatMap iX) rfl (H.out.up.2.1.2.2) (cg iX 2 (fun _=>rfl) _) (dS iX tK _) nQ nQ ?_);intro A2 c2 δ2 gM kC;have p1:=iS (ownsRow_setCell_below ei (a:=⟨_,_,_⟩) jP.out _) nW kC)|(at_builtin;(refine bR W1 uC (.tmp 15) (.tmp 17) rfl rfl (v:=.slice (some ⟨_,0,none⟩) 0 0) (cx nW nW) rfl (B:=B) (A:=bA) (m:=h.bars.length) (c:=bc) (news:=h.bars.flatMap aH) rfl (H.out.up.2.2.2.2) (cg aH 1 (fun _=>rfl) _) (dS aH tM _) nQ nQ ?_);intro A3 c3 δ3 jB qj;have p2:=iS (ownsRow_setCell_below gM (a:=⟨_,_,_⟩) jP.out _) nW qj;have p1':=iS (ownsRow_setCell_below p1 (a:=⟨_,_,_⟩) jP.out _) nW qj));refine bodyPost_ret (v:=eW ⟨A1,c1,A2,c2,A3,c3⟩ h) ?_ rfl ?_
 ·simp only[results,Tryz.results18];go_simp
 ·refine⟨⟨A1,c1,A2,c2,A3,c3⟩,_,rfl,aq,?_⟩;refine QDK ?_;refine fC.mono (base:=W1.heap.size) ?_ cN.out;iterate 4 (refine fC.set ?_ dX.out _)
  refine fC.set ?_ jP.out _;exact⟨p1',p2,jB⟩
theorem IM(r:eE)(h:Sa.aL)(s:Int)(B:Nat)(w:nJ)[hB:Le B w](hH:bS B w r h)(q1:h.kinds.length<=1000)(q2:h.parts.length<=1000)(q3:h.bars.length<=1000):Calls nH 204 #[eW r h,.int .i64 s] w fun e w'=>∃(r':eE) (δ:nJ),e=.returned (eW r' (Sa.ek h s))/\w'=af w δ/\bS (af w δ).heap.size (af w δ) r' (Sa.ek h s):=by
 have H:=qh hH;obtain⟨kA,kc,pA,pc,bA,bc⟩:=r;clear hH;go_enter Tryz.func204,Tryz.ntmps204;go_upto_region 2 with(go_at_call 18;refine(C0 ⟨kA,kc,pA,pc,bA,bc⟩ h B _ H.out.up q1 q2 q3).mono ?_;rintro e w1 ⟨⟨QJ,QI,pA',pc',bA',bc'⟩,δ,rfl,hw,hown⟩;rw[<-hw] at hown;have HO:=qh (hown.mono (base':=w.heap.size) (by simp;omega));have b4:av w1 (w.heap.size+1) 37 #[.slice none 0 0,.int .i64 0,.slice none 0 0,.slice none 0 0]:=(by rw[hw];exact(av.new nV).af _);have g3:aC w.heap.size w w1:=(by rw[hw];infer_instance);have g4:Le w.heap.size w1:=(by rw[hw];infer_instance);clear hw hown);refine aK fun W2 eu=>?_;have cz:Le w.heap.size W2:=fR eu;have de:aC w.heap.size w W2:=iC eu;have cN:Lt (w1.heap.size) W2:=mb eu;have B5:Hid (av W2 w1.heap.size 37 #[.slice QJ h.kinds.length QI,.int .i64 h.floor,.slice pA' h.parts.length pc',.slice bA' h.bars.length bc']):=by rw[eu.out];exact av.new rfl
 have B4:Hid (av W2 (w.heap.size+1) 37 #[.slice none 0 0,.int .i64 0,.slice none 0 0,.slice none 0 0]):=by rw[eu.out];exact b4.alloc _
 have wg:Hid (fC w.heap.size W2 ⟨QJ,QI,pA',pc',bA',bc'⟩ h):=by rw[eu.out];exact HO.out.alloc _
 have l4:=B4.out.lt;have l5:=B5.out.lt;have c53:=B5.out.cell (i:=3) rfl;have VR:w.heap.size+1≠w1.heap.size:=by have:=b4.rO;omega
 clear eu HO b4;go_upto_region 3 with(at_builtin;(refine bK w uC (.tmp 9) (.tmp 11) rfl rfl wg.out.2.2 rfl rfl nW rfl (by simp[Value.oneCell']) nQ nQ ?_);intro A' c' δ' hown' hg;have d5:=ep (B5.out.alloc _) (wg.out.2.2.alloc _) nU hg;have d4:=ep (B4.out.alloc _) (wg.out.2.2.alloc _) nU hg;have ok:=bC (wg.out.1.alloc _) (wg.out.2.2.alloc _) nU hg;have op:=bC (wg.out.2.1.alloc _) (wg.out.2.2.alloc _) nU hg;have D5:=qh d5;have D4:=qh d4;have OK:=qh ok;have OP:=qh op;have OB:=qh hown';have e0:=d5.cell (i:=0) rfl;have e1:=d5.cell (i:=1) rfl;have e2:=d5.cell (i:=2) rfl;have e3:=d5.cell (i:=3) rfl;have f3:=d5.free 3;have i5:=d5.lt;clear d5 d4 ok op hown' hg);refine aK fun W3 bN=>?_;have cY:Le w.heap.size W3:=fR bN;have dc:aC w.heap.size w W3:=iC bN;have dX:Lt (w1.heap.size) W3:=mb bN;have E5:Hid (av W3 w1.heap.size 37 #[.slice QJ h.kinds.length QI,.int .i64 h.floor,.slice pA' h.parts.length pc',.slice A' (h.bars.length+1) c']):=by rw[bN.out];exact D5.out.set 3 _
 have E4:Hid (av W3 (w.heap.size+1) 37 #[.slice none 0 0,.int .i64 0,.slice none 0 0,.slice none 0 0]):=by rw[bN.out];exact av.eZ D4.out VR _
 have OK3:Hid (W3.ownsRow w.heap.size 114 2 (.slice QJ h.kinds.length QI) h.kinds.length (h.kinds.flatMap p6)):=by rw[bN.out];exact cT OK.out (eL OK.out D5.out nU)
 have OP3:Hid (W3.ownsRow w.heap.size 116 2 (.slice pA' h.parts.length pc') h.parts.length (h.parts.flatMap iX)):=by rw[bN.out];exact cT OP.out (eL OP.out D5.out nU)
 have OB3:Hid (W3.ownsRow w.heap.size 3 1 (.slice A' (h.bars.length+1) c') (h.bars.length+1) (h.bars.flatMap aH++[.int .i64 s])):=by rw[bN.out];exact cT OB.out (eL OB.out D5.out nU)
 have g40:=E4.out.free 0;have g41:=E4.out.free 1;have g42:=E4.out.free 2;have g43:=E4.out.free 3;have l4':=E4.out.lt;have x40:=E4.out.cell (i:=0) rfl;have x41:=E4.out.cell (i:=1) rfl;have x42:=E4.out.cell (i:=2) rfl;have x43:=E4.out.cell (i:=3) rfl;have x50:=E5.out.cell (i:=0) rfl;have x51:=E5.out.cell (i:=1) rfl;have x52:=E5.out.cell (i:=2) rfl;have x53:=E5.out.cell (i:=3) rfl;clear bN D5 D4 OK OP OB;go_wp2_with fail;refine bodyPost_ret (v:=eW ⟨QJ,QI,pA',pc',A',c'⟩ (Sa.ek h s)) ?_ rfl ?_
 ·simp only[results,Tryz.results204];go_simp;simp[Sa.ek]
 ·refine⟨⟨QJ,QI,pA',pc',A',c'⟩,_,rfl,aq,?_⟩;refine QDK ?_;refine fC.is (base:=w.heap.size) ⟨?_,?_,?_⟩
  ·iterate 4 (refine cT ?_ (eL OK3.out E4.out nU))
   exact OK3.out
  ·iterate 4 (refine cT ?_ (eL OP3.out E4.out nU))
   exact OP3.out
  ·rw[show(Sa.ek h s).bars.length=h.bars.length+1 by simp[Sa.ek],show(Sa.ek h s).bars.flatMap aH=h.bars.flatMap aH++[.int .i64 s] by simp[Sa.ek,aH]];iterate 4 (refine cT ?_ (eL OB3.out E4.out nU))
   exact OB3.out
theorem P0{h:Sa.aL}(hv:Sa.valid h=true):0<=Sa.jL h:=(Sa.vv hv (Sa.mu (h.bars.length+1) h.parts.length) fun l hl=>Nat.le_of_eq (Sa.iL.1 hl).1).1
theorem Uj{h:Sa.aL}(hv:Sa.valid h=true){k:Nat}(hk:k<100)(h0:∀s:Nat,s<k->Sa.bH (Sa.ek h s)=[])(h1:Sa.bH (Sa.ek h k)≠[]):Sa.jL h=k:=by
 have a:=(Sa.size_le (h:=h) (s:=(k:Int)) nQ).2 h1;have hn:=P0 hv;rcases(show Sa.jL h<k\/(k:Int)<=Sa.jL h by omega) with hlt|hge
 ·exfalso;have b:=(Sa.size_le (h:=h) (s:=(k:Int)-1) nQ).1 nQ;have:=h0 (k-1) nQ;rw[show((k-1:Nat):Int)=(k:Int)-1 by omega] at this;exact b this
 ·omega
theorem OS{h:Sa.aL}(h0:∀s:Nat,s<100->Sa.bH (Sa.ek h s)=[]):99<Sa.jL h:=by
 rcases(show 99<Sa.jL h\/Sa.jL h<=99 by omega) with h1|h1
 ·exact h1
 ·exfalso;have b:=(Sa.size_le (h:=h) (s:=99) nQ).1 h1;exact b (h0 99 nQ)
theorem S8(r:eE)(h:Sa.aL)(hv:Sa.valid h=true)(B:Nat)(w:nJ)[hB:Le B w](hH:bS B w r h):Calls nH 146 #[eW r h] w fun e w'=>e=.returned (.tuple #[.int .i64 (Sa.qc h),.int .i64 (Sa.rP h)])/\∃δ,w'=af w δ:=by
 have HH:=qh hH;have HV:=qh hv;have hpl:=tH h hv;have pH:=(Sa.az.1 hv).1;have q1:h.kinds.length<=1000:=nQ;have q2:h.parts.length<=1000:=nQ;have q3:h.bars.length<=1000:=nQ;have h4:=pH.2.2.2;obtain⟨kA,kc,pA,pc,bA,bc⟩:=r;clear hH hv pH;by_cases hp:Sa.bH h=[]
 ·have hz:(0:Int)<((Sa.bH h).length:Int)↔False:=by rw[hp];simp
  have rV:(0<(Sa.bH h).length)↔False:=by rw[hp];simp
  have HP:=qh hp;clear hp;by_cases UU:h.bars.length=4
  ·have hq:((h.bars.length:Int)==4)=true:=by rw[UU];rfl
   have HR:Hid (Sa.qc h=0/\Sa.rP h=2):=by unfold Hid Sa.qc Sa.rP;rw[if_neg (by simp[HP.out]),if_pos UU,if_neg (by simp[HP.out]),if_pos UU];exact⟨rfl,rfl⟩
   clear UU;go_enter Tryz.func146,Tryz.ntmps146;go_wp2_with (first|(go_at_call 24;refine(kW ⟨kA,kc,pA,pc,bA,bc⟩ h HV.out B _ HH.out.up).mono ?_;rintro e w1 ⟨rfl,δ1,rfl⟩)|(go_at_call 203;refine(mI ⟨kA,kc,pA,pc,bA,bc⟩ h HV.out B _ HH.out.up).mono ?_;rintro e w1 ⟨A1,c1,δ2,rfl,rfl,hs⟩;clear hs));go_ret2;exact⟨by rw[HR.out.1,HR.out.2];rfl,ag⟩
  ·have hq:((h.bars.length:Int)==4)=false:=by simp;omega
   have HR:Hid (Sa.qc h=(if 99<Sa.jL h then 0 else Sa.jL h)/\Sa.rP h=if 99<Sa.jL h then 3 else 0):=by unfold Hid Sa.qc Sa.rP;have VO:¬Sa.bH h≠[]:=fun hc=>hc HP.out;constructor<;>rw[if_neg VO,if_neg UU]
   have H4:Hid (h.bars.length<4):=qh nQ;clear UU;go_enter Tryz.func146,Tryz.ntmps146;go_wp2_with (first|(go_at_call 24;refine(kW ⟨kA,kc,pA,pc,bA,bc⟩ h HV.out B _ HH.out.up).mono ?_;rintro e w1 ⟨rfl,δ1,rfl⟩)|(go_at_call 203;refine(mI ⟨kA,kc,pA,pc,bA,bc⟩ h HV.out B _ HH.out.up).mono ?_;rintro e w1 ⟨A1,c1,δ2,rfl,rfl,hs⟩;clear hs));refine QAD ?_;intro W1 aE cz de cN cY dc rX lH jU kM;refine QCD ?_;intro oM;clear aE;go_loopg [5] 100 (fun gg i wr=>∃(k:Nat) (δ:nJ),k<=100/\gg=100-k/\i=.int .i64 k/\Hid (∀s:Nat,s<k->Sa.bH (Sa.ek h s)=[])/\wr=af W1 δ)
   case atStart=>exact⟨0,W1,nE _,rfl,rfl,qh fun s hs=>absurd hs (Nat.not_lt_zero s),(aY W1).symm⟩
   case round=>
    obtain⟨k,δ,hk,rfl,rfl,HK,rfl⟩:=hrel;by_cases hlt:k<100
    ·have hki:(k:Int)<=99:=nQ;have XI:Hid (Sa.valid (Sa.ek h (k:Int))=true):=qh (Sa.xF HV.out H4.out ⟨nQ,nQ⟩);by_cases QV:Sa.bH (Sa.ek h (k:Int))=[]
     ·have hy:(0:Int)<((Sa.bH (Sa.ek h (k:Int))).length:Int)↔False:=by rw[QV];simp
      have hy2:(0<(Sa.bH (Sa.ek h (k:Int))).length)↔False:=by rw[QV];simp
      have WO:=qh QV;obtain⟨M,hM⟩:∃M,Sa.bH (Sa.ek h (k:Int))=M:=⟨_,rfl⟩;rw[hM] at hy hy2;have U6:=qh hM;clear QV hM;go_wp2_with (first|(go_at_call 204;refine(IM ⟨kA,kc,pA,pc,bA,bc⟩ h k B _ oM.out.up q1 q2 q3).mono ?_;rintro e w1 ⟨r2,δ3,rfl,rfl,h2⟩;have H2:=qh h2;clear h2)|(go_at_call 203;refine(mI r2 (Sa.ek h (k:Int)) XI.out _ _ H2.out).mono ?_;rw[U6.out];rintro e w1 ⟨A2,c2,δ4,rfl,rfl,hs⟩;clear hs));go_roundg (100-(k+1))
      case measure=>omega
      case rel=>
       refine⟨k+1,_,nQ,rfl,by go_num,qh fun s hs=>?_,aq⟩;rcases Nat.lt_succ_iff_lt_or_eq.1 hs with hs|rfl
       ·exact HK.out s hs
       ·exact WO.out
     ·have hpos:0<(Sa.bH (Sa.ek h (k:Int))).length:=List.length_pos_iff.2 QV;have HN:=qh (Uj HV.out hlt HK.out QV);obtain⟨M,hM⟩:∃M,Sa.bH (Sa.ek h (k:Int))=M:=⟨_,rfl⟩;rw[hM] at hpos;have hpi:(0:Int)<(M.length:Int):=nQ;have U6:=qh hM;clear QV hM HK;go_wp2_with (first|(go_at_call 204;refine(IM ⟨kA,kc,pA,pc,bA,bc⟩ h k B _ oM.out.up q1 q2 q3).mono ?_;rintro e w1 ⟨r2,δ3,rfl,rfl,h2⟩;have H2:=qh h2;clear h2)|(go_at_call 203;refine(mI r2 (Sa.ek h (k:Int)) XI.out _ _ H2.out).mono ?_;rw[U6.out];rintro e w1 ⟨A2,c2,δ4,rfl,rfl,hs⟩;clear hs));go_ret2;refine⟨?_,ag⟩;rw[HR.out.1,HR.out.2,HN.out,if_neg nQ,if_neg nQ];rfl
    ·obtain rfl:k=100:=by omega
     have HN:=qh (OS HK.out);clear HK;go_wp2;go_ret2;exact⟨by rw[HR.out.1,HR.out.2,if_pos HN.out,if_pos HN.out];rfl,ag⟩
 ·have hpos:0<(Sa.bH h).length:=List.length_pos_iff.2 hp;have hpi:(0:Int)<((Sa.bH h).length:Int):=nQ;have HR:Hid (Sa.qc h=0/\Sa.rP h=0):=by unfold Hid Sa.qc Sa.rP;rw[if_pos hp,if_pos hp];exact⟨rfl,rfl⟩
  clear hp;go_enter Tryz.func146,Tryz.ntmps146;go_wp2_with (first|(go_at_call 24;refine(kW ⟨kA,kc,pA,pc,bA,bc⟩ h HV.out B _ HH.out.up).mono ?_;rintro e w1 ⟨rfl,δ1,rfl⟩)|(go_at_call 203;refine(mI ⟨kA,kc,pA,pc,bA,bc⟩ h HV.out B _ HH.out.up).mono ?_;rintro e w1 ⟨A1,c1,δ2,rfl,rfl,hs⟩;clear hs));go_ret2;exact⟨by rw[HR.out.1,HR.out.2];rfl,ag⟩
end Go.Proofs.YtcjjlikhlmfedaaGreatDoor
