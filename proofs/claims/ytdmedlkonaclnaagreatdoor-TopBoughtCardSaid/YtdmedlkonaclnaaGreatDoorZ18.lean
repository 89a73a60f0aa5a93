/- A part of the proof that a law of layer 12 holds, cut small by a program (names and blanks): Sr9, Sr13. -/
import Derived.Test.YtdmedlkonaclnaaGreatDoorZ5
import Derived.Test.YtdmedlkonaclnaaGreatDoorZ17
set_option maxRecDepth 100000
set_option maxHeartbeats 40000000
set_option linter.unusedVariables false
set_option linter.unusedSimpArgs false
namespace Go.Proofs.YtdmedlkonaclnaaGreatDoor
open Go.RowKit
open Nat renaming zero_le → nE
open Go.Proofs.Tryz renaming prog → nH
open Go renaming World → nJ, Value → nK
theorem Y9:pF nH 33 152 (.agg #[.int .i64 0,.int .i64 0]) 2 16:=pF.mk Tryz.underlying33 nP rfl nQ
theorem Th:pF nH 34 74 (.agg #[.int .i64 0,.int .i64 0]) 2 16:=pF.mk Tryz.underlying34 nP rfl nQ
theorem FE:∀x:Sa.Kind,∀u∈rB x,u.oneCell'=true:=by intro x u hu;simp[rB] at hu;rcases hu with rfl|rfl<;>rfl
theorem vu:∀x:Sa.Part,∀u∈jD x,u.oneCell'=true:=by intro x u hu;simp[jD] at hu;rcases hu with rfl|rfl<;>rfl
theorem vz:∀x:Int,∀u∈aI x,u.oneCell'=true:=by intro x u hu;simp[aI] at hu;subst hu;rfl
def fS(base:Nat)(w:nJ)(r:eR)(h:Sa.aN):Prop:=
 w.ownsRow base 152 2 (.slice r.kA h.kinds.length r.kc) h.kinds.length (h.kinds.flatMap rB) /\
 w.ownsRow base 74 2 (.slice r.pA h.parts.length r.pc) h.parts.length (h.parts.flatMap jD) /\
 w.ownsRow base 3 1 (.slice r.bA h.bars.length r.bc) h.bars.length (h.bars.flatMap aI)
section
variable{base:Nat}{w:nJ}{r:eR}{h:Sa.aN}
theorem fS.is(k:fS base w r h):bT w.heap.size w r h:=⟨Sl.bU k.1,Sl.bU k.2.1,Sl.bU k.2.2⟩
theorem fS.mono(k:fS base w r h){base':Nat}(hb:base'<=base):fS base' w r h:=⟨de k.1 hb,de k.2.1 hb,de k.2.2 hb⟩
theorem fS.set(k:fS base w r h){b i:Nat}(hb:b<base)(u:nK):fS base (w.setCell ⟨b,i,none⟩ u) r h:=
 ⟨ownsRow_setCell_below k.1 (a:=⟨b,i,none⟩) hb u,ownsRow_setCell_below k.2.1 (a:=⟨b,i,none⟩) hb u,ownsRow_setCell_below k.2.2 (a:=⟨b,i,none⟩) hb u⟩
theorem fS.alloc(k:fS base w r h)(o:Obj):fS base (w.alloc o) r h:=⟨k.1.alloc o,k.2.1.alloc o,k.2.2.alloc o⟩
theorem fS.up(k:fS base w r h){W:nJ}[hg:au w.heap.size w W]:fS base W r h:=⟨bg k.1,bg k.2.1,bg k.2.2⟩
end
theorem Fs(r:eR)(h:Sa.aN)(B:Nat)(w:nJ)[hB:Le B w](hH:bT B w r h)(q1:h.kinds.length<=1000)(q2:h.parts.length<=1000)(q3:h.bars.length<=1000):Calls nH 41 #[fA r h] w fun e w'=>∃(r':eR) (δ:nJ),e=.returned (fA r' h)/\w'=af w δ/\fS w.heap.size (af w δ) r' h:=by
 have H:=qh hH;obtain⟨kA,kc,pA,pc,bA,bc⟩:=r;clear hH;go_enter Tryz.func41,Tryz.ntmps41;go_upto_region 2 with fail;refine QCD ?_;intro W1 aH cJ dF cU dA dD eI;have ju:Lt (w.heap.size+1+1) W1:=nt aH;have kR:W1.cell? ⟨w.heap.size,0,none⟩=some (.slice kA h.kinds.length kc):=by rw[aH.out];go_simp
 have mG:W1.cell? ⟨w.heap.size,1,none⟩=some (.int .i64 h.floor):=by rw[aH.out];go_simp
 have jE:W1.cell? ⟨w.heap.size,2,none⟩=some (.slice pA h.parts.length pc):=by rw[aH.out];go_simp
 have mR:W1.cell? ⟨w.heap.size,3,none⟩=some (.slice bA h.bars.length bc):=by rw[aH.out];go_simp
 have mQ:W1.cell? ⟨w.heap.size+1,0,none⟩=some (.slice none 0 0):=by rw[aH.out];go_simp
 have vX:W1.cell? ⟨w.heap.size+1,1,none⟩=some (.int .i64 0):=by rw[aH.out];go_simp
 have xB:W1.cell? ⟨w.heap.size+1,2,none⟩=some (.slice none 0 0):=by rw[aH.out];go_simp
 have xA:W1.cell? ⟨w.heap.size+1,3,none⟩=some (.slice none 0 0):=by rw[aH.out];go_simp
 have fw16:W1.frozen? ⟨w.heap.size+1,0,none⟩=false:=by rw[aH.out];go_simp
 have fw17:W1.frozen? ⟨w.heap.size+1,1,none⟩=false:=by rw[aH.out];go_simp
 have fw18:W1.frozen? ⟨w.heap.size+1,2,none⟩=false:=by rw[aH.out];go_simp
 have fw19:W1.frozen? ⟨w.heap.size+1,3,none⟩=false:=by rw[aH.out];go_simp
 have GX:W1.cell? ⟨w.heap.size+1+1,0,none⟩=some (.slice kA h.kinds.length kc):=by rw[aH.out];go_simp
 have Oj:W1.cell? ⟨w.heap.size+1+1,1,none⟩=some (.int .i64 h.floor):=by rw[aH.out];go_simp
 have R9:W1.cell? ⟨w.heap.size+1+1,2,none⟩=some (.slice pA h.parts.length pc):=by rw[aH.out];go_simp
 have Oi:W1.cell? ⟨w.heap.size+1+1,3,none⟩=some (.slice bA h.bars.length bc):=by rw[aH.out];go_simp
 have fw24:W1.frozen? ⟨w.heap.size+1+1,0,none⟩=false:=by rw[aH.out];go_simp
 have fw25:W1.frozen? ⟨w.heap.size+1+1,1,none⟩=false:=by rw[aH.out];go_simp
 have fw26:W1.frozen? ⟨w.heap.size+1+1,2,none⟩=false:=by rw[aH.out];go_simp
 have fw27:W1.frozen? ⟨w.heap.size+1+1,3,none⟩=false:=by rw[aH.out];go_simp
 go_wp2_with (first|(at_builtin;(refine bS W1 Y9 (.tmp 5) (.tmp 7) rfl rfl (v:=.slice (some ⟨_,0,none⟩) 0 0) (cB nW nW) rfl (B:=B) (A:=kA) (m:=h.kinds.length) (c:=kc) (news:=h.kinds.flatMap rB) rfl (H.out.up.1.2.2) (bX rB 2 (fun _=>rfl) _) (ei rB FE _) nQ nQ ?_);intro A1 c1 δ1 eF hg1)|(at_builtin;(refine bS W1 Th (.tmp 10) (.tmp 12) rfl rfl (v:=.slice (some ⟨_,0,none⟩) 0 0) (cB nW nW) rfl (B:=B) (A:=pA) (m:=h.parts.length) (c:=pc) (news:=h.parts.flatMap jD) rfl (H.out.up.2.1.2.2) (bX jD 2 (fun _=>rfl) _) (ei jD vu _) nQ nQ ?_);intro A2 c2 δ2 iE mU;have p1:=jw (ownsRow_setCell_below eF (a:=⟨_,_,_⟩) ju.out _) nW mU)|(at_builtin;(refine bS W1 wo (.tmp 15) (.tmp 17) rfl rfl (v:=.slice (some ⟨_,0,none⟩) 0 0) (cB nW nW) rfl (B:=B) (A:=bA) (m:=h.bars.length) (c:=bc) (news:=h.bars.flatMap aI) rfl (H.out.up.2.2.2.2) (bX aI 1 (fun _=>rfl) _) (ei aI vz _) nQ nQ ?_);intro A3 c3 δ3 mq rj;have p2:=jw (ownsRow_setCell_below iE (a:=⟨_,_,_⟩) ju.out _) nW rj;have p1':=jw (ownsRow_setCell_below p1 (a:=⟨_,_,_⟩) ju.out _) nW rj));refine bodyPost_ret (v:=fA ⟨A1,c1,A2,c2,A3,c3⟩ h) ?_ rfl ?_
 ·simp only[results,Tryz.results41];go_simp
 ·refine⟨⟨A1,c1,A2,c2,A3,c3⟩,_,rfl,aq,?_⟩;refine QDJ ?_;refine fS.mono (base:=W1.heap.size) ?_ cU.out;iterate 4 (refine fS.set ?_ eI.out _)
  refine fS.set ?_ ju.out _;exact⟨p1',p2,mq⟩
theorem Ld(r:eR)(h:Sa.aN)(s:Int)(B:Nat)(w:nJ)[hB:Le B w](hH:bT B w r h)(q1:h.kinds.length<=1000)(q2:h.parts.length<=1000)(q3:h.bars.length<=1000):Calls nH 32 #[fA r h,.int .i64 s] w fun e w'=>∃(r':eR) (δ:nJ),e=.returned (fA r' (Sa.eG h s))/\w'=af w δ/\bT (af w δ).heap.size (af w δ) r' (Sa.eG h s):=by
 have H:=qh hH;obtain⟨kA,kc,pA,pc,bA,bc⟩:=r;clear hH;go_enter Tryz.func32,Tryz.ntmps32;go_upto_region 2 with(go_at_call 41;refine(Fs ⟨kA,kc,pA,pc,bA,bc⟩ h B _ H.out.up q1 q2 q3).mono ?_;rintro e w1 ⟨⟨Ue,Ud,pA',pc',bA',bc'⟩,δ,rfl,hw,hown⟩;rw[<-hw] at hown;have HO:=qh (hown.mono (base':=w.heap.size) (by simp;omega));have b4:ax w1 (w.heap.size+1) 37 #[.slice none 0 0,.int .i64 0,.slice none 0 0,.slice none 0 0]:=(by rw[hw];exact(ax.new nV).af _);have g3:au w.heap.size w w1:=(by rw[hw];infer_instance);have g4:Le w.heap.size w1:=(by rw[hw];infer_instance);clear hw hown);refine aL fun W2 eJ=>?_;have cJ:Le w.heap.size W2:=fI eJ;have dF:au w.heap.size w W2:=gu eJ;have cU:Lt (w1.heap.size) W2:=nt eJ;have B5:Hid (ax W2 w1.heap.size 37 #[.slice Ue h.kinds.length Ud,.int .i64 h.floor,.slice pA' h.parts.length pc',.slice bA' h.bars.length bc']):=by rw[eJ.out];exact ax.new rfl
 have B4:Hid (ax W2 (w.heap.size+1) 37 #[.slice none 0 0,.int .i64 0,.slice none 0 0,.slice none 0 0]):=by rw[eJ.out];exact b4.alloc _
 have yw:Hid (fS w.heap.size W2 ⟨Ue,Ud,pA',pc',bA',bc'⟩ h):=by rw[eJ.out];exact HO.out.alloc _
 have l4:=B4.out.lt;have l5:=B5.out.lt;have c53:=B5.out.cell (i:=3) rfl;have ZI:w.heap.size+1≠w1.heap.size:=by have:=b4.tN;omega
 clear eJ HO b4;go_upto_region 3 with(at_builtin;(refine cq w wo (.tmp 9) (.tmp 11) rfl rfl yw.out.2.2 rfl rfl nW rfl (by simp[Value.oneCell']) nQ nQ ?_);intro A' c' δ' hown' hg;have d5:=fJ (B5.out.alloc _) (yw.out.2.2.alloc _) nU hg;have d4:=fJ (B4.out.alloc _) (yw.out.2.2.alloc _) nU hg;have ok:=bV (yw.out.1.alloc _) (yw.out.2.2.alloc _) nU hg;have op:=bV (yw.out.2.1.alloc _) (yw.out.2.2.alloc _) nU hg;have D5:=qh d5;have D4:=qh d4;have OK:=qh ok;have OP:=qh op;have OB:=qh hown';have e0:=d5.cell (i:=0) rfl;have e1:=d5.cell (i:=1) rfl;have e2:=d5.cell (i:=2) rfl;have e3:=d5.cell (i:=3) rfl;have f3:=d5.free 3;have i5:=d5.lt;clear d5 d4 ok op hown' hg);refine aL fun W3 bQ=>?_;have dA:Le w.heap.size W3:=fI bQ;have dD:au w.heap.size w W3:=gu bQ;have eI:Lt (w1.heap.size) W3:=nt bQ;have E5:Hid (ax W3 w1.heap.size 37 #[.slice Ue h.kinds.length Ud,.int .i64 h.floor,.slice pA' h.parts.length pc',.slice A' (h.bars.length+1) c']):=by rw[bQ.out];exact D5.out.set 3 _
 have E4:Hid (ax W3 (w.heap.size+1) 37 #[.slice none 0 0,.int .i64 0,.slice none 0 0,.slice none 0 0]):=by rw[bQ.out];exact ax.fD D4.out ZI _
 have OK3:Hid (W3.ownsRow w.heap.size 152 2 (.slice Ue h.kinds.length Ud) h.kinds.length (h.kinds.flatMap rB)):=by rw[bQ.out];exact dh OK.out (eZ OK.out D5.out nU)
 have OP3:Hid (W3.ownsRow w.heap.size 74 2 (.slice pA' h.parts.length pc') h.parts.length (h.parts.flatMap jD)):=by rw[bQ.out];exact dh OP.out (eZ OP.out D5.out nU)
 have OB3:Hid (W3.ownsRow w.heap.size 3 1 (.slice A' (h.bars.length+1) c') (h.bars.length+1) (h.bars.flatMap aI++[.int .i64 s])):=by rw[bQ.out];exact dh OB.out (eZ OB.out D5.out nU)
 have g40:=E4.out.free 0;have g41:=E4.out.free 1;have g42:=E4.out.free 2;have g43:=E4.out.free 3;have l4':=E4.out.lt;have x40:=E4.out.cell (i:=0) rfl;have x41:=E4.out.cell (i:=1) rfl;have x42:=E4.out.cell (i:=2) rfl;have x43:=E4.out.cell (i:=3) rfl;have x50:=E5.out.cell (i:=0) rfl;have x51:=E5.out.cell (i:=1) rfl;have x52:=E5.out.cell (i:=2) rfl;have x53:=E5.out.cell (i:=3) rfl;clear bQ D5 D4 OK OP OB;go_wp2_with fail;refine bodyPost_ret (v:=fA ⟨Ue,Ud,pA',pc',A',c'⟩ (Sa.eG h s)) ?_ rfl ?_
 ·simp only[results,Tryz.results32];go_simp;simp[Sa.eG]
 ·refine⟨⟨Ue,Ud,pA',pc',A',c'⟩,_,rfl,aq,?_⟩;refine QDJ ?_;refine fS.is (base:=w.heap.size) ⟨?_,?_,?_⟩
  ·iterate 4 (refine dh ?_ (eZ OK3.out E4.out nU))
   exact OK3.out
  ·iterate 4 (refine dh ?_ (eZ OP3.out E4.out nU))
   exact OP3.out
  ·rw[show(Sa.eG h s).bars.length=h.bars.length+1 by simp[Sa.eG],show(Sa.eG h s).bars.flatMap aI=h.bars.flatMap aI++[.int .i64 s] by simp[Sa.eG,aI]];iterate 4 (refine dh ?_ (eZ OB3.out E4.out nU))
   exact OB3.out
theorem Tl{h:Sa.aN}(hv:Sa.valid h=true):0<=Sa.kG h:=(Sa.xI hv (Sa.nD (h.bars.length+1) h.parts.length) fun l hl=>Nat.le_of_eq (Sa.jr.1 hl).1).1
theorem Yd{h:Sa.aN}(hv:Sa.valid h=true){k:Nat}(hk:k<100)(h0:∀s:Nat,s<k->Sa.bL (Sa.eG h s)=[])(h1:Sa.bL (Sa.eG h k)≠[]):Sa.kG h=k:=by
 have a:=(Sa.size_le (h:=h) (s:=(k:Int)) nQ).2 h1;have hn:=Tl hv;rcases(show Sa.kG h<k\/(k:Int)<=Sa.kG h by omega) with hlt|hge
 ·exfalso;have b:=(Sa.size_le (h:=h) (s:=(k:Int)-1) nQ).1 nQ;have:=h0 (k-1) nQ;rw[show((k-1:Nat):Int)=(k:Int)-1 by omega] at this;exact b this
 ·omega
theorem Sj{h:Sa.aN}(h0:∀s:Nat,s<100->Sa.bL (Sa.eG h s)=[]):99<Sa.kG h:=by
 rcases(show 99<Sa.kG h\/Sa.kG h<=99 by omega) with h1|h1
 ·exact h1
 ·exfalso;have b:=(Sa.size_le (h:=h) (s:=99) nQ).1 h1;exact b (h0 99 nQ)
theorem WA(r:eR)(h:Sa.aN)(hv:Sa.valid h=true)(B:Nat)(w:nJ)[hB:Le B w](hH:bT B w r h):Calls nH 127 #[fA r h] w fun e w'=>e=.returned (.tuple #[.int .i64 (Sa.rJ h),.int .i64 (Sa.tY h)])/\∃δ,w'=af w δ:=by
 have HH:=qh hH;have HV:=qh hv;have hpl:=vo h hv;have qL:=(Sa.aD.1 hv).1;have q1:h.kinds.length<=1000:=nQ;have q2:h.parts.length<=1000:=nQ;have q3:h.bars.length<=1000:=nQ;have h4:=qL.2.2.2;obtain⟨kA,kc,pA,pc,bA,bc⟩:=r;clear hH hv qL;by_cases hp:Sa.bL h=[]
 ·have hz:(0:Int)<((Sa.bL h).length:Int)↔False:=by rw[hp];simp
  have uk:(0<(Sa.bL h).length)↔False:=by rw[hp];simp
  have HP:=qh hp;clear hp;by_cases YT:h.bars.length=4
  ·have hq:((h.bars.length:Int)==4)=true:=by rw[YT];rfl
   have HR:Hid (Sa.rJ h=0/\Sa.tY h=2):=by unfold Hid Sa.rJ Sa.tY;rw[if_neg (by simp[HP.out]),if_pos YT,if_neg (by simp[HP.out]),if_pos YT];exact⟨rfl,rfl⟩
   clear YT;go_enter Tryz.func127,Tryz.ntmps127;go_wp2_with (first|(go_at_call 37;refine(mM ⟨kA,kc,pA,pc,bA,bc⟩ h HV.out B _ HH.out.up).mono ?_;rintro e w1 ⟨rfl,δ1,rfl⟩)|(go_at_call 130;refine(oD ⟨kA,kc,pA,pc,bA,bc⟩ h HV.out B _ HH.out.up).mono ?_;rintro e w1 ⟨A1,c1,δ2,rfl,rfl,hs⟩;clear hs));go_ret2;exact⟨by rw[HR.out.1,HR.out.2];rfl,ag⟩
  ·have hq:((h.bars.length:Int)==4)=false:=by simp;omega
   have HR:Hid (Sa.rJ h=(if 99<Sa.kG h then 0 else Sa.kG h)/\Sa.tY h=if 99<Sa.kG h then 3 else 0):=by unfold Hid Sa.rJ Sa.tY;have ZG:¬Sa.bL h≠[]:=fun hc=>hc HP.out;constructor<;>rw[if_neg ZG,if_neg YT]
   have H4:Hid (h.bars.length<4):=qh nQ;clear YT;go_enter Tryz.func127,Tryz.ntmps127;go_wp2_with (first|(go_at_call 37;refine(mM ⟨kA,kc,pA,pc,bA,bc⟩ h HV.out B _ HH.out.up).mono ?_;rintro e w1 ⟨rfl,δ1,rfl⟩)|(go_at_call 130;refine(oD ⟨kA,kc,pA,pc,bA,bc⟩ h HV.out B _ HH.out.up).mono ?_;rintro e w1 ⟨A1,c1,δ2,rfl,rfl,hs⟩;clear hs));refine QAE ?_;intro W1 aH cJ dF cU dA dD um mV kR mG;refine QCE ?_;intro qg;clear aH;go_loopg [5] 100 (fun gg i wr=>∃(k:Nat) (δ:nJ),k<=100/\gg=100-k/\i=.int .i64 k/\Hid (∀s:Nat,s<k->Sa.bL (Sa.eG h s)=[])/\wr=af W1 δ)
   case atStart=>exact⟨0,W1,nE _,rfl,rfl,qh fun s hs=>absurd hs (Nat.not_lt_zero s),(bw W1).symm⟩
   case round=>
    obtain⟨k,δ,hk,rfl,rfl,HK,rfl⟩:=hrel;by_cases hlt:k<100
    ·have hki:(k:Int)<=99:=nQ;have HVM:Hid (Sa.valid (Sa.eG h (k:Int))=true):=qh (Sa.zM HV.out H4.out ⟨nQ,nQ⟩);by_cases Ii:Sa.bL (Sa.eG h (k:Int))=[]
     ·have hy:(0:Int)<((Sa.bL (Sa.eG h (k:Int))).length:Int)↔False:=by rw[Ii];simp
      have hy2:(0<(Sa.bL (Sa.eG h (k:Int))).length)↔False:=by rw[Ii];simp
      have SG:=qh Ii;obtain⟨M,hM⟩:∃M,Sa.bL (Sa.eG h (k:Int))=M:=⟨_,rfl⟩;rw[hM] at hy hy2;have V0:=qh hM;clear Ii hM;go_wp2_with (first|(go_at_call 32;refine(Ld ⟨kA,kc,pA,pc,bA,bc⟩ h k B _ qg.out.up q1 q2 q3).mono ?_;rintro e w1 ⟨r2,δ3,rfl,rfl,h2⟩;have H2:=qh h2;clear h2)|(go_at_call 130;refine(oD r2 (Sa.eG h (k:Int)) HVM.out _ _ H2.out).mono ?_;rw[V0.out];rintro e w1 ⟨A2,c2,δ4,rfl,rfl,hs⟩;clear hs));go_roundg (100-(k+1))
      case measure=>omega
      case rel=>
       refine⟨k+1,_,nQ,rfl,by go_num,qh fun s hs=>?_,aq⟩;rcases Nat.lt_succ_iff_lt_or_eq.1 hs with hs|rfl
       ·exact HK.out s hs
       ·exact SG.out
     ·have hpos:0<(Sa.bL (Sa.eG h (k:Int))).length:=List.length_pos_iff.2 Ii;have HN:=qh (Yd HV.out hlt HK.out Ii);obtain⟨M,hM⟩:∃M,Sa.bL (Sa.eG h (k:Int))=M:=⟨_,rfl⟩;rw[hM] at hpos;have hpi:(0:Int)<(M.length:Int):=nQ;have V0:=qh hM;clear Ii hM HK;go_wp2_with (first|(go_at_call 32;refine(Ld ⟨kA,kc,pA,pc,bA,bc⟩ h k B _ qg.out.up q1 q2 q3).mono ?_;rintro e w1 ⟨r2,δ3,rfl,rfl,h2⟩;have H2:=qh h2;clear h2)|(go_at_call 130;refine(oD r2 (Sa.eG h (k:Int)) HVM.out _ _ H2.out).mono ?_;rw[V0.out];rintro e w1 ⟨A2,c2,δ4,rfl,rfl,hs⟩;clear hs));go_ret2;refine⟨?_,ag⟩;rw[HR.out.1,HR.out.2,HN.out,if_neg nQ,if_neg nQ];rfl
    ·obtain rfl:k=100:=by omega
     have HN:=qh (Sj HK.out);clear HK;go_wp2;go_ret2;exact⟨by rw[HR.out.1,HR.out.2,if_pos HN.out,if_pos HN.out];rfl,ag⟩
 ·have hpos:0<(Sa.bL h).length:=List.length_pos_iff.2 hp;have hpi:(0:Int)<((Sa.bL h).length:Int):=nQ;have HR:Hid (Sa.rJ h=0/\Sa.tY h=0):=by unfold Hid Sa.rJ Sa.tY;rw[if_pos hp,if_pos hp];exact⟨rfl,rfl⟩
  clear hp;go_enter Tryz.func127,Tryz.ntmps127;go_wp2_with (first|(go_at_call 37;refine(mM ⟨kA,kc,pA,pc,bA,bc⟩ h HV.out B _ HH.out.up).mono ?_;rintro e w1 ⟨rfl,δ1,rfl⟩)|(go_at_call 130;refine(oD ⟨kA,kc,pA,pc,bA,bc⟩ h HV.out B _ HH.out.up).mono ?_;rintro e w1 ⟨A1,c1,δ2,rfl,rfl,hs⟩;clear hs));go_ret2;exact⟨by rw[HR.out.1,HR.out.2];rfl,ag⟩
end Go.Proofs.YtdmedlkonaclnaaGreatDoor
