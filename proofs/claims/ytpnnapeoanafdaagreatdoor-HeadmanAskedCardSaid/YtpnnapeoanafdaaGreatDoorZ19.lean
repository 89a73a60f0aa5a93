/- A part of the proof that a law of layer 12 holds, cut small by a program (names and blanks): Sr9, Sr13. -/
import Derived.Test.YtpnnapeoanafdaaGreatDoorZ5
import Derived.Test.YtpnnapeoanafdaaGreatDoorZ18
set_option maxRecDepth 100000
set_option maxHeartbeats 40000000
set_option linter.unusedVariables false
set_option linter.unusedSimpArgs false
namespace Go.Proofs.YtpnnapeoanafdaaGreatDoor
open Go.RowKit
open Nat renaming zero_le → nE
open Go.Proofs.Tryz renaming prog → nH
open Go renaming World → nJ, Value → nK
theorem aaf:pE nH 33 155 (.agg #[.int .i64 0,.int .i64 0]) 2 16:=pE.mk Tryz.underlying33 nP rfl nQ
theorem Uu:pE nH 34 157 (.agg #[.int .i64 0,.int .i64 0]) 2 16:=pE.mk Tryz.underlying34 nP rfl nQ
theorem GD:∀x:Sa.Kind,∀u∈rG x,u.oneCell'=true:=by intro x u hu;simp[rG] at hu;rcases hu with rfl|rfl<;>rfl
theorem vI:∀x:Sa.Part,∀u∈jH x,u.oneCell'=true:=by intro x u hu;simp[jH] at hu;rcases hu with rfl|rfl<;>rfl
theorem vK:∀x:Int,∀u∈aI x,u.oneCell'=true:=by intro x u hu;simp[aI] at hu;subst hu;rfl
def fU(base:Nat)(w:nJ)(r:eT)(h:Sa.aJ):Prop:=
 w.ownsRow base 155 2 (.slice r.kA h.kinds.length r.kc) h.kinds.length (h.kinds.flatMap rG) /\
 w.ownsRow base 157 2 (.slice r.pA h.parts.length r.pc) h.parts.length (h.parts.flatMap jH) /\
 w.ownsRow base 3 1 (.slice r.bA h.bars.length r.bc) h.bars.length (h.bars.flatMap aI)
section
variable{base:Nat}{w:nJ}{r:eT}{h:Sa.aJ}
theorem fU.is(k:fU base w r h):bW w.heap.size w r h:=⟨Sl.bU k.1,Sl.bU k.2.1,Sl.bU k.2.2⟩
theorem fU.mono(k:fU base w r h){base':Nat}(hb:base'<=base):fU base' w r h:=⟨dA k.1 hb,dA k.2.1 hb,dA k.2.2 hb⟩
theorem fU.set(k:fU base w r h){b i:Nat}(hb:b<base)(u:nK):fU base (w.setCell ⟨b,i,none⟩ u) r h:=
 ⟨ownsRow_setCell_below k.1 (a:=⟨b,i,none⟩) hb u,ownsRow_setCell_below k.2.1 (a:=⟨b,i,none⟩) hb u,ownsRow_setCell_below k.2.2 (a:=⟨b,i,none⟩) hb u⟩
theorem fU.alloc(k:fU base w r h)(o:Obj):fU base (w.alloc o) r h:=⟨k.1.alloc o,k.2.1.alloc o,k.2.2.alloc o⟩
theorem fU.up(k:fU base w r h){W:nJ}[hg:aD w.heap.size w W]:fU base W r h:=⟨bu k.1,bu k.2.1,bu k.2.2⟩
end
theorem Gq(r:eT)(h:Sa.aJ)(B:Nat)(w:nJ)[hB:Le B w](hH:bW B w r h)(q1:h.kinds.length<=1000)(q2:h.parts.length<=1000)(q3:h.bars.length<=1000):Calls nH 84 #[fu r h] w fun e w'=>∃(r':eT) (δ:nJ),e=.returned (fu r' h)/\w'=ah w δ/\fU w.heap.size (ah w δ) r' h:=by
 have H:=qh hH;obtain⟨kA,kc,pA,pc,bA,bc⟩:=r;clear hH;go_enter Tryz.func84,Tryz.ntmps84;go_upto_region 2 with fail;refine QCC ?_;intro W1 aH cJ dF cW di dz eL;have jG:Lt (w.heap.size+1+1) W1:=nr aH;have lC:W1.cell? ⟨w.heap.size,0,none⟩=some (.slice kA h.kinds.length kc):=by rw[aH.out];go_simp
 have mQ:W1.cell? ⟨w.heap.size,1,none⟩=some (.int .i64 h.floor):=by rw[aH.out];go_simp
 have jI:W1.cell? ⟨w.heap.size,2,none⟩=some (.slice pA h.parts.length pc):=by rw[aH.out];go_simp
 have nk:W1.cell? ⟨w.heap.size,3,none⟩=some (.slice bA h.bars.length bc):=by rw[aH.out];go_simp
 have nj:W1.cell? ⟨w.heap.size+1,0,none⟩=some (.slice none 0 0):=by rw[aH.out];go_simp
 have wC:W1.cell? ⟨w.heap.size+1,1,none⟩=some (.int .i64 0):=by rw[aH.out];go_simp
 have xL:W1.cell? ⟨w.heap.size+1,2,none⟩=some (.slice none 0 0):=by rw[aH.out];go_simp
 have xK:W1.cell? ⟨w.heap.size+1,3,none⟩=some (.slice none 0 0):=by rw[aH.out];go_simp
 have fw16:W1.frozen? ⟨w.heap.size+1,0,none⟩=false:=by rw[aH.out];go_simp
 have fw17:W1.frozen? ⟨w.heap.size+1,1,none⟩=false:=by rw[aH.out];go_simp
 have fw18:W1.frozen? ⟨w.heap.size+1,2,none⟩=false:=by rw[aH.out];go_simp
 have fw19:W1.frozen? ⟨w.heap.size+1,3,none⟩=false:=by rw[aH.out];go_simp
 have IA:W1.cell? ⟨w.heap.size+1+1,0,none⟩=some (.slice kA h.kinds.length kc):=by rw[aH.out];go_simp
 have PS:W1.cell? ⟨w.heap.size+1+1,1,none⟩=some (.int .i64 h.floor):=by rw[aH.out];go_simp
 have Ti:W1.cell? ⟨w.heap.size+1+1,2,none⟩=some (.slice pA h.parts.length pc):=by rw[aH.out];go_simp
 have PR:W1.cell? ⟨w.heap.size+1+1,3,none⟩=some (.slice bA h.bars.length bc):=by rw[aH.out];go_simp
 have fw24:W1.frozen? ⟨w.heap.size+1+1,0,none⟩=false:=by rw[aH.out];go_simp
 have fw25:W1.frozen? ⟨w.heap.size+1+1,1,none⟩=false:=by rw[aH.out];go_simp
 have fw26:W1.frozen? ⟨w.heap.size+1+1,2,none⟩=false:=by rw[aH.out];go_simp
 have fw27:W1.frozen? ⟨w.heap.size+1+1,3,none⟩=false:=by rw[aH.out];go_simp
 go_wp2_with (first|(at_builtin;(refine bT W1 aaf (.tmp 5) (.tmp 7) rfl rfl (v:=.slice (some ⟨_,0,none⟩) 0 0) (cB nW nW) rfl (B:=B) (A:=kA) (m:=h.kinds.length) (c:=kc) (news:=h.kinds.flatMap rG) rfl (H.out.up.1.2.2) (cm rG 2 (fun _=>rfl) _) (dX rG GD _) nQ nQ ?_);intro A1 c1 δ1 eG hg1)|(at_builtin;(refine bT W1 Uu (.tmp 10) (.tmp 12) rfl rfl (v:=.slice (some ⟨_,0,none⟩) 0 0) (cB nW nW) rfl (B:=B) (A:=pA) (m:=h.parts.length) (c:=pc) (news:=h.parts.flatMap jH) rfl (H.out.up.2.1.2.2) (cm jH 2 (fun _=>rfl) _) (dX jH vI _) nQ nQ ?_);intro A2 c2 δ2 gK mu;have p1:=jC (ownsRow_setCell_below eG (a:=⟨_,_,_⟩) jG.out _) nW mu)|(at_builtin;(refine bT W1 wO (.tmp 15) (.tmp 17) rfl rfl (v:=.slice (some ⟨_,0,none⟩) 0 0) (cB nW nW) rfl (B:=B) (A:=bA) (m:=h.bars.length) (c:=bc) (news:=h.bars.flatMap aI) rfl (H.out.up.2.2.2.2) (cm aI 1 (fun _=>rfl) _) (dX aI vK _) nQ nQ ?_);intro A3 c3 δ3 lK uO;have p2:=jC (ownsRow_setCell_below gK (a:=⟨_,_,_⟩) jG.out _) nW uO;have p1':=jC (ownsRow_setCell_below p1 (a:=⟨_,_,_⟩) jG.out _) nW uO));refine bodyPost_ret (v:=fu ⟨A1,c1,A2,c2,A3,c3⟩ h) ?_ rfl ?_
 ·simp only[results,Tryz.results84];go_simp
 ·refine⟨⟨A1,c1,A2,c2,A3,c3⟩,_,rfl,ai,?_⟩;refine QDF ?_;refine fU.mono (base:=W1.heap.size) ?_ cW.out;iterate 4 (refine fU.set ?_ eL.out _)
  refine fU.set ?_ jG.out _;exact⟨p1',p2,lK⟩
theorem Mt(r:eT)(h:Sa.aJ)(s:Int)(B:Nat)(w:nJ)[hB:Le B w](hH:bW B w r h)(q1:h.kinds.length<=1000)(q2:h.parts.length<=1000)(q3:h.bars.length<=1000):Calls nH 158 #[fu r h,.int .i64 s] w fun e w'=>∃(r':eT) (δ:nJ),e=.returned (fu r' (Sa.eH h s))/\w'=ah w δ/\bW (ah w δ).heap.size (ah w δ) r' (Sa.eH h s):=by
 have H:=qh hH;obtain⟨kA,kc,pA,pc,bA,bc⟩:=r;clear hH;go_enter Tryz.func158,Tryz.ntmps158;go_upto_region 2 with(go_at_call 84;refine(Gq ⟨kA,kc,pA,pc,bA,bc⟩ h B _ H.out.up q1 q2 q3).mono ?_;rintro e w1 ⟨⟨Vs,Vr,pA',pc',bA',bc'⟩,δ,rfl,hw,hown⟩;rw[<-hw] at hown;have HO:=qh (hown.mono (base':=w.heap.size) (by simp;omega));have b4:ay w1 (w.heap.size+1) 37 #[.slice none 0 0,.int .i64 0,.slice none 0 0,.slice none 0 0]:=(by rw[hw];exact(ay.new nV).ah _);have g3:aD w.heap.size w w1:=(by rw[hw];infer_instance);have g4:Le w.heap.size w1:=(by rw[hw];infer_instance);clear hw hown);refine aM fun W2 eJ=>?_;have cJ:Le w.heap.size W2:=fI eJ;have dF:aD w.heap.size w W2:=gy eJ;have cW:Lt (w1.heap.size) W2:=nr eJ;have B5:Hid (ay W2 w1.heap.size 37 #[.slice Vs h.kinds.length Vr,.int .i64 h.floor,.slice pA' h.parts.length pc',.slice bA' h.bars.length bc']):=by rw[eJ.out];exact ay.new rfl
 have B4:Hid (ay W2 (w.heap.size+1) 37 #[.slice none 0 0,.int .i64 0,.slice none 0 0,.slice none 0 0]):=by rw[eJ.out];exact b4.alloc _
 have xO:Hid (fU w.heap.size W2 ⟨Vs,Vr,pA',pc',bA',bc'⟩ h):=by rw[eJ.out];exact HO.out.alloc _
 have l4:=B4.out.lt;have l5:=B5.out.lt;have c53:=B5.out.cell (i:=3) rfl;have aaP:w.heap.size+1≠w1.heap.size:=by have:=b4.tN;omega
 clear eJ HO b4;go_upto_region 3 with(at_builtin;(refine bP w wO (.tmp 9) (.tmp 11) rfl rfl xO.out.2.2 rfl rfl nW rfl (by simp[Value.oneCell']) nQ nQ ?_);intro A' c' δ' hown' hg;have d5:=fK (B5.out.alloc _) (xO.out.2.2.alloc _) nU hg;have d4:=fK (B4.out.alloc _) (xO.out.2.2.alloc _) nU hg;have ok:=bX (xO.out.1.alloc _) (xO.out.2.2.alloc _) nU hg;have op:=bX (xO.out.2.1.alloc _) (xO.out.2.2.alloc _) nU hg;have D5:=qh d5;have D4:=qh d4;have OK:=qh ok;have OP:=qh op;have OB:=qh hown';have e0:=d5.cell (i:=0) rfl;have e1:=d5.cell (i:=1) rfl;have e2:=d5.cell (i:=2) rfl;have e3:=d5.cell (i:=3) rfl;have f3:=d5.free 3;have i5:=d5.lt;clear d5 d4 ok op hown' hg);refine aM fun W3 bR=>?_;have di:Le w.heap.size W3:=fI bR;have dz:aD w.heap.size w W3:=gy bR;have eL:Lt (w1.heap.size) W3:=nr bR;have E5:Hid (ay W3 w1.heap.size 37 #[.slice Vs h.kinds.length Vr,.int .i64 h.floor,.slice pA' h.parts.length pc',.slice A' (h.bars.length+1) c']):=by rw[bR.out];exact D5.out.set 3 _
 have E4:Hid (ay W3 (w.heap.size+1) 37 #[.slice none 0 0,.int .i64 0,.slice none 0 0,.slice none 0 0]):=by rw[bR.out];exact ay.fB D4.out aaP _
 have OK3:Hid (W3.ownsRow w.heap.size 155 2 (.slice Vs h.kinds.length Vr) h.kinds.length (h.kinds.flatMap rG)):=by rw[bR.out];exact cZ OK.out (fc OK.out D5.out nU)
 have OP3:Hid (W3.ownsRow w.heap.size 157 2 (.slice pA' h.parts.length pc') h.parts.length (h.parts.flatMap jH)):=by rw[bR.out];exact cZ OP.out (fc OP.out D5.out nU)
 have OB3:Hid (W3.ownsRow w.heap.size 3 1 (.slice A' (h.bars.length+1) c') (h.bars.length+1) (h.bars.flatMap aI++[.int .i64 s])):=by rw[bR.out];exact cZ OB.out (fc OB.out D5.out nU)
 have g40:=E4.out.free 0;have g41:=E4.out.free 1;have g42:=E4.out.free 2;have g43:=E4.out.free 3;have l4':=E4.out.lt;have x40:=E4.out.cell (i:=0) rfl;have x41:=E4.out.cell (i:=1) rfl;have x42:=E4.out.cell (i:=2) rfl;have x43:=E4.out.cell (i:=3) rfl;have x50:=E5.out.cell (i:=0) rfl;have x51:=E5.out.cell (i:=1) rfl;have x52:=E5.out.cell (i:=2) rfl;have x53:=E5.out.cell (i:=3) rfl;clear bR D5 D4 OK OP OB;go_wp2_with fail;refine bodyPost_ret (v:=fu ⟨Vs,Vr,pA',pc',A',c'⟩ (Sa.eH h s)) ?_ rfl ?_
 ·simp only[results,Tryz.results158];go_simp;simp[Sa.eH]
 ·refine⟨⟨Vs,Vr,pA',pc',A',c'⟩,_,rfl,ai,?_⟩;refine QDF ?_;refine fU.is (base:=w.heap.size) ⟨?_,?_,?_⟩
  ·iterate 4 (refine cZ ?_ (fc OK3.out E4.out nU))
   exact OK3.out
  ·iterate 4 (refine cZ ?_ (fc OP3.out E4.out nU))
   exact OP3.out
  ·rw[show(Sa.eH h s).bars.length=h.bars.length+1 by simp[Sa.eH],show(Sa.eH h s).bars.flatMap aI=h.bars.flatMap aI++[.int .i64 s] by simp[Sa.eH,aI]];iterate 4 (refine cZ ?_ (fc OB3.out E4.out nU))
   exact OB3.out
theorem Uy{h:Sa.aJ}(hv:Sa.valid h=true):0<=Sa.kM h:=(Sa.xT hv (Sa.ow (h.bars.length+1) h.parts.length) fun l hl=>Nat.le_of_eq (Sa.jw.1 hl).1).1
theorem Zi{h:Sa.aJ}(hv:Sa.valid h=true){k:Nat}(hk:k<100)(h0:∀s:Nat,s<k->Sa.bM (Sa.eH h s)=[])(h1:Sa.bM (Sa.eH h k)≠[]):Sa.kM h=k:=by
 have a:=(Sa.size_le (h:=h) (s:=(k:Int)) nQ).2 h1;have hn:=Uy hv;rcases(show Sa.kM h<k\/(k:Int)<=Sa.kM h by omega) with hlt|hge
 ·exfalso;have b:=(Sa.size_le (h:=h) (s:=(k:Int)-1) nQ).1 nQ;have:=h0 (k-1) nQ;rw[show((k-1:Nat):Int)=(k:Int)-1 by omega] at this;exact b this
 ·omega
theorem Tw{h:Sa.aJ}(h0:∀s:Nat,s<100->Sa.bM (Sa.eH h s)=[]):99<Sa.kM h:=by
 rcases(show 99<Sa.kM h\/Sa.kM h<=99 by omega) with h1|h1
 ·exact h1
 ·exfalso;have b:=(Sa.size_le (h:=h) (s:=99) nQ).1 h1;exact b (h0 99 nQ)
theorem XN(r:eT)(h:Sa.aJ)(hv:Sa.valid h=true)(B:Nat)(w:nJ)[hB:Le B w](hH:bW B w r h):Calls nH 92 #[fu r h] w fun e w'=>e=.returned (.tuple #[.int .i64 (Sa.rQ h),.int .i64 (Sa.ud h)])/\∃δ,w'=ah w δ:=by
 have HH:=qh hH;have HV:=qh hv;have hpl:=vC h hv;have qO:=(Sa.aC.1 hv).1;have q1:h.kinds.length<=1000:=nQ;have q2:h.parts.length<=1000:=nQ;have q3:h.bars.length<=1000:=nQ;have h4:=qO.2.2.2;obtain⟨kA,kc,pA,pc,bA,bc⟩:=r;clear hH hv qO;by_cases hp:Sa.bM h=[]
 ·have hz:(0:Int)<((Sa.bM h).length:Int)↔False:=by rw[hp];simp
  have uq:(0<(Sa.bM h).length)↔False:=by rw[hp];simp
  have HP:=qh hp;clear hp;by_cases Z0:h.bars.length=4
  ·have hq:((h.bars.length:Int)==4)=true:=by rw[Z0];rfl
   have HR:Hid (Sa.rQ h=0/\Sa.ud h=2):=by unfold Hid Sa.rQ Sa.ud;rw[if_neg (by simp[HP.out]),if_pos Z0,if_neg (by simp[HP.out]),if_pos Z0];exact⟨rfl,rfl⟩
   clear Z0;go_enter Tryz.func92,Tryz.ntmps92;go_wp2_with (first|(go_at_call 74;refine(mW ⟨kA,kc,pA,pc,bA,bc⟩ h HV.out B _ HH.out.up).mono ?_;rintro e w1 ⟨rfl,δ1,rfl⟩)|(go_at_call 157;refine(oH ⟨kA,kc,pA,pc,bA,bc⟩ h HV.out B _ HH.out.up).mono ?_;rintro e w1 ⟨A1,c1,δ2,rfl,rfl,hs⟩;clear hs));go_ret2;exact⟨by rw[HR.out.1,HR.out.2];rfl,ag⟩
  ·have hq:((h.bars.length:Int)==4)=false:=by simp;omega
   have HR:Hid (Sa.rQ h=(if 99<Sa.kM h then 0 else Sa.kM h)/\Sa.ud h=if 99<Sa.kM h then 3 else 0):=by unfold Hid Sa.rQ Sa.ud;have hp0:¬Sa.bM h≠[]:=fun hc=>hc HP.out;constructor<;>rw[if_neg hp0,if_neg Z0]
   have H4:Hid (h.bars.length<4):=qh nQ;clear Z0;go_enter Tryz.func92,Tryz.ntmps92;go_wp2_with (first|(go_at_call 74;refine(mW ⟨kA,kc,pA,pc,bA,bc⟩ h HV.out B _ HH.out.up).mono ?_;rintro e w1 ⟨rfl,δ1,rfl⟩)|(go_at_call 157;refine(oH ⟨kA,kc,pA,pc,bA,bc⟩ h HV.out B _ HH.out.up).mono ?_;rintro e w1 ⟨A1,c1,δ2,rfl,rfl,hs⟩;clear hs));refine QAE ?_;intro W1 aH cJ dF cW di dz uu nt lC mQ;refine QCD ?_;intro qo;clear aH;go_loopg [5] 100 (fun gg i wr=>∃(k:Nat) (δ:nJ),k<=100/\gg=100-k/\i=.int .i64 k/\Hid (∀s:Nat,s<k->Sa.bM (Sa.eH h s)=[])/\wr=ah W1 δ)
   case atStart=>exact⟨0,W1,nE _,rfl,rfl,qh fun s hs=>absurd hs (Nat.not_lt_zero s),(bw W1).symm⟩
   case round=>
    obtain⟨k,δ,hk,rfl,rfl,HK,rfl⟩:=hrel;by_cases hlt:k<100
    ·have hki:(k:Int)<=99:=nQ;have HVM:Hid (Sa.valid (Sa.eH h (k:Int))=true):=qh (Sa.Ab HV.out H4.out ⟨nQ,nQ⟩);by_cases VC:Sa.bM (Sa.eH h (k:Int))=[]
     ·have hy:(0:Int)<((Sa.bM (Sa.eH h (k:Int))).length:Int)↔False:=by rw[VC];simp
      have hy2:(0<(Sa.bM (Sa.eH h (k:Int))).length)↔False:=by rw[VC];simp
      have HP2:=qh VC;obtain⟨M,hM⟩:∃M,Sa.bM (Sa.eH h (k:Int))=M:=⟨_,rfl⟩;rw[hM] at hy hy2;have Xg:=qh hM;clear VC hM;go_wp2_with (first|(go_at_call 158;refine(Mt ⟨kA,kc,pA,pc,bA,bc⟩ h k B _ qo.out.up q1 q2 q3).mono ?_;rintro e w1 ⟨r2,δ3,rfl,rfl,h2⟩;have H2:=qh h2;clear h2)|(go_at_call 157;refine(oH r2 (Sa.eH h (k:Int)) HVM.out _ _ H2.out).mono ?_;rw[Xg.out];rintro e w1 ⟨A2,c2,δ4,rfl,rfl,hs⟩;clear hs));go_roundg (100-(k+1))
      case measure=>omega
      case rel=>
       refine⟨k+1,_,nQ,rfl,by go_num,qh fun s hs=>?_,ai⟩;rcases Nat.lt_succ_iff_lt_or_eq.1 hs with hs|rfl
       ·exact HK.out s hs
       ·exact HP2.out
     ·have hpos:0<(Sa.bM (Sa.eH h (k:Int))).length:=List.length_pos_iff.2 VC;have HN:=qh (Zi HV.out hlt HK.out VC);obtain⟨M,hM⟩:∃M,Sa.bM (Sa.eH h (k:Int))=M:=⟨_,rfl⟩;rw[hM] at hpos;have hpi:(0:Int)<(M.length:Int):=nQ;have Xg:=qh hM;clear VC hM HK;go_wp2_with (first|(go_at_call 158;refine(Mt ⟨kA,kc,pA,pc,bA,bc⟩ h k B _ qo.out.up q1 q2 q3).mono ?_;rintro e w1 ⟨r2,δ3,rfl,rfl,h2⟩;have H2:=qh h2;clear h2)|(go_at_call 157;refine(oH r2 (Sa.eH h (k:Int)) HVM.out _ _ H2.out).mono ?_;rw[Xg.out];rintro e w1 ⟨A2,c2,δ4,rfl,rfl,hs⟩;clear hs));go_ret2;refine⟨?_,ag⟩;rw[HR.out.1,HR.out.2,HN.out,if_neg nQ,if_neg nQ];rfl
    ·obtain rfl:k=100:=by omega
     have HN:=qh (Tw HK.out);clear HK;go_wp2;go_ret2;exact⟨by rw[HR.out.1,HR.out.2,if_pos HN.out,if_pos HN.out];rfl,ag⟩
 ·have hpos:0<(Sa.bM h).length:=List.length_pos_iff.2 hp;have hpi:(0:Int)<((Sa.bM h).length:Int):=nQ;have HR:Hid (Sa.rQ h=0/\Sa.ud h=0):=by unfold Hid Sa.rQ Sa.ud;rw[if_pos hp,if_pos hp];exact⟨rfl,rfl⟩
  clear hp;go_enter Tryz.func92,Tryz.ntmps92;go_wp2_with (first|(go_at_call 74;refine(mW ⟨kA,kc,pA,pc,bA,bc⟩ h HV.out B _ HH.out.up).mono ?_;rintro e w1 ⟨rfl,δ1,rfl⟩)|(go_at_call 157;refine(oH ⟨kA,kc,pA,pc,bA,bc⟩ h HV.out B _ HH.out.up).mono ?_;rintro e w1 ⟨A1,c1,δ2,rfl,rfl,hs⟩;clear hs));go_ret2;exact⟨by rw[HR.out.1,HR.out.2];rfl,ag⟩
end Go.Proofs.YtpnnapeoanafdaaGreatDoor
