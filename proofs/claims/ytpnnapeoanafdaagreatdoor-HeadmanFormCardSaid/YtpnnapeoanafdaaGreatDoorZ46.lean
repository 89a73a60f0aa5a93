/- A part of the proof that a law of layer 12 holds, cut small by a program (names and blanks): Hk9. -/
import Derived.Test.YtpnnapeoanafdaaGreatDoorZ44
import Derived.Test.YtpnnapeoanafdaaGreatDoorZ45
set_option maxRecDepth 100000
set_option maxHeartbeats 40000000
set_option linter.unusedVariables false
set_option linter.unusedSimpArgs false
namespace Go.Proofs.YtpnnapeoanafdaaGreatDoor
open Go.RowKit
open Nat renaming le_trans → nT, lt_of_lt_of_le → nL, le_refl → nR, zero_le → nE
open Go.Proofs.Tryz renaming prog → nH
open Go renaming World → nJ
section
open Hd
theorem Pe{x:ql}(h:lY x≠0):x≠.none:=fun e=>h (by rw[e];rfl)
theorem Pc(r:aW)(t:aO)(l:aQ)(B:Nat)(w:nJ)(hT:aN B w r t)[hB:Le B w][h8:Le 8 w](hL:cT w):Calls nH 9 #[aY r t,.string (str l)] w fun e w'=>e=.returned (.bool true)/\∃δ,w'=ah w δ:=by
 have H:=qh hT;have HL:=qh hL;clear hT hL;go_enter Tryz.func9,Tryz.ntmps9;go_upto_region 1 with fail;refine QBT ?_;intro W1 aH cJ dF cW di dz eL jG;refine QDK ?_;intro X1;obtain⟨g2,mu⟩:∃g,w.heap.size=g:=⟨_,rfl⟩;rw[mu] at X1 ⊢;have ig2:Lt g2 W1:=X1.out.lt;clear aH mu;go_wp2_with (refine au aq rfl _ rfl rfl X1.out rfl ?_);refine(qv r t [] none 0 B _ H.out.up Sl.none_).mono ?_;unfold kZ;rintro e w1 ⟨b,δ1,rfl,rfl,hr⟩;cases b with
 |false=>
  clear hr
  go_wp2_with (go_at_call 11;refine(dK _ HL.out.up).mono ?_;rintro e w1 ⟨rfl,δ2,rfl⟩)
  go_ret
  exact⟨rfl,ag⟩
 |true=>
  obtain⟨Hv,hv,Qr⟩:=hr rfl
  have HV:=qh hv
  clear hr Hv hv Qr
  by_cases ahu:(30:Int)<(l.length:Int)
  ·go_wp2_with (go_at_call 11;refine(dK _ HL.out.up).mono ?_;rintro e w1 ⟨rfl,δ2,rfl⟩);go_ret;exact⟨rfl,ag⟩
  have hl1:l.length<=1000:=nQ
  have hlt:l.length<=30:=nQ
  by_cases hk0:lY (bH l)=0
  ·have HK:=qh fun(W:nJ)=>ng l hl1 0 hk0 W;clear hk0;go_wp2_with (first|(go_at_call 12;refine(HK.out _).mono ?_;rintro e w1 ⟨rfl,δ3,rfl⟩)|(go_at_call 11;refine(dK _ HL.out.up).mono ?_;rintro e w1 ⟨rfl,δ2,rfl⟩));go_ret;exact⟨rfl,ag⟩
  obtain⟨kn,hkn⟩:∃n,lY (bH l)=n:=⟨_,rfl⟩
  have HK:=qh fun(W:nJ)=>ng l hl1 kn hkn W
  have Jl:=qh (Pe hk0)
  rw[hkn] at hk0
  have k0:(kn==0)=false:=by simpa using hk0
  have k0d:decide (kn=0)=false:=decide_eq_false hk0
  have HSp:=qh fun(W:nJ)=>vz l hl1 W
  obtain⟨w0,ws,hp⟩:∃w0 ws,aS l=w0::ws:=by
   cases h:aS l with
   |nil=>exact absurd h (gQ l)
   |cons a b=>exact⟨a,b,rfl⟩
  have HP:=qh hp
  have I2:Hid (∀v∈aS l,v.length<=30):=qh fun v hv=>nT ((gR l).2 v hv) hlt
  have Qj:=(gR l).1
  obtain⟨p,hpp⟩:∃p,aS l=p:=⟨_,rfl⟩
  have Z8:=qh hpp
  rw[hpp] at HSp HP I2 Qj
  obtain⟨m,hm⟩:∃m,p.length=m:=⟨_,rfl⟩
  have HM:=qh hm
  have HMW:Hid (m=ws.length+1):=qh (by rw[<-hm,HP.out];rfl)
  have hm0:(0:Int)<(m:Int):=by have:=HMW.out;omega
  rw[hm] at HSp Qj
  clear hkn hp hpp hm
  go_wp2_with (first|(go_at_call 12;refine(HK.out _).mono ?_;rintro e w1 ⟨rfl,δ3,rfl⟩))
  refine(HSp.out _).mono ?_
  rintro e w1 ⟨pA,pc,rfl,hS,δ4,rfl⟩
  have HS0:=qh hS
  clear hS
  go_upto_region 4 with fail
  refine aM fun V hV=>?_
  have Fo:Le B V:=fI hV
  have G9:aD B w V:=gy hV
  obtain⟨su,tZ,tY,sR⟩:=EO 8 w hV
  have tX:Lt (g2) V:=nr hV
  have X2:Hid (ay V g2 39 (aG r t)):=by rw[hV.out];exact qh (ay.eO X1.out)
  have HS:Hid (Sl bS V.heap.size V pA pc p):=by rw[hV.out];exact HS0
  have lV:Le V.heap.size V:=⟨nR _⟩
  clear hV X1 HS0 HSp HK hk0 k0 k0d
  obtain⟨pb,po,rfl,YC,e0⟩:=HS.out.kK (k:=0) (by rw[HM.out];have:=HMW.out;omega)
  have ipb:Lt pb V:=⟨YC⟩
  rw[show nth p 0=w0 by rw[HP.out];rfl] at e0
  replace e0:V.cell? ⟨pb,po,none⟩=some (.string (str w0)):=e0
  clear YC
  go_wp2_with fail
  refine wpRl ?_
  repeat (go_big_quiet_step ((first|(fail))))
  refine QBU ?_
  rintro _ ⟨δq,rfl⟩
  go_wp2_with fail
  go_loopg [6,7,8,9,10] ws.length (fun gn s6 s7 s8 s9 s10 wr=>∃(k i:Nat) (y6 y7 y8:aQ) (bo:Bool) (δ:nJ),k<=ws.length/\Hid (i=k+1)/\gn=ws.length-k/\s6=.string (str y6)/\s7=.string (str y7)/\s8=.string (str y8)/\s9=.bool bo/\s10=.int .i64 i/\wr=ah V δ /\
   Hid (y6=lu DL w0 (ws.take k))/\Hid (y7=lu (qt 48) w0 (ws.take k))/\Hid (y8=lu (qt 43) w0 (ws.take k))/\Hid (bo=Bj (ws.take k)))
  case atStart=>exact⟨0,1,w0,w0,w0,false,_,nE _,qh rfl,rfl,rfl,rfl,rfl,rfl,rfl,ai,qh (by simp[lu]),qh (by simp[lu]),qh (by simp[lu]),qh (by simp[Bj])⟩
  case round=>
   obtain⟨k,i,y6,y7,y8,bo,δ,hk,HI,rfl,rfl,rfl,rfl,rfl,rfl,rfl,H6,H7,H8,HB⟩:=hrel;by_cases Je:k<ws.length
   ·have Jg:(i:Int)<(m:Int):=by have:=HI.out;have:=HMW.out;omega
    have hi0:¬(i:Int)<0:=nQ;obtain⟨pb',po',B9,YC,ei⟩:=HS.out.kK (k:=i) (by rw[HM.out];omega);injection B9 with B9;injection B9 with rz AH;subst rz AH;have hvm:=I2.out _ (aR p (k:=i) (by rw[HM.out];omega));have hve:nth p i=nth ws k:=by rw[HP.out,HI.out];rfl
    obtain⟨v,hv⟩:∃v,nth ws k=v:=⟨_,rfl⟩;rw[hve,hv] at ei hvm;have Pk:y6.length<=90:=by rw[H6.out];exact tT Mi (Z8.out.trans HP.out) hlt k
    have hl7:y7.length<=90:=by rw[H7.out];exact tT (vn 48) (Z8.out.trans HP.out) hlt k
    have hl8:y8.length<=90:=by rw[H8.out];exact tT (vn 43) (Z8.out.trans HP.out) hlt k
    have a1:∀W:nJ,(Op.stringOp .add (⟨#[32,32]⟩:ByteArray) (str v)).run nH W=.ok (.string (str (32::32::v))) W:=fun W=>eA (P:=nH) W [32,32] v (by simp;omega);have a2:=fun(W:nJ)=>eA (P:=nH) W y6 (32::32::v) (by simp;omega);obtain⟨z6,hz6⟩:∃z,y6++32::32::v=z:=⟨_,rfl⟩;rw[hz6] at a2;have N6:Hid (z6=lu DL w0 (ws.take (k+1))):=qh (by rw[Bl _ _ _ Je,<-H6.out,hv,<-hz6];rfl);have Bw:=qh (TK ws Je);rw[hv,<-HB.out] at Bw;clear YC hve hz6;cases hn:numOf v with
    |none=>
     have HN:=qh fun(W:nJ)=>X8 hn (nT hvm nU) W
     have b1:∀W:nJ,(Op.stringOp .add (str y7) (⟨#[32]⟩:ByteArray)).run nH W=.ok (.string (str (y7++[32]))) W:=fun W=>eA (P:=nH) W y7 [32] (by simp;omega)
     have b2:=fun(W:nJ)=>eA (P:=nH) W (y7++[32]) v (by simp;omega)
     have c1:∀W:nJ,(Op.stringOp .add (str y8) (⟨#[32]⟩:ByteArray)).run nH W=.ok (.string (str (y8++[32]))) W:=fun W=>eA (P:=nH) W y8 [32] (by simp;omega)
     have c2:=fun(W:nJ)=>eA (P:=nH) W (y8++[32]) v (by simp;omega)
     obtain⟨z7,ZN⟩:∃z,(y7++[32])++v=z:=⟨_,rfl⟩
     obtain⟨z8,ZM⟩:∃z,(y8++[32])++v=z:=⟨_,rfl⟩
     rw[ZN] at b2
     rw[ZM] at c2
     refine QDN ?_
     intro N7 N8
     have NB:Hid (bo=Bj (ws.take (k+1))):=qh (by rw[Bw.out,hn];simp)
     clear ZN ZM hn hv Bw
     go_wp2_with (go_at_call 36;refine(HN.out _).mono ?_;rintro e w1 ⟨rfl,δ5,rfl⟩)
     refine wpRl ?_
     repeat (go_big_quiet_step ((first|(fail))))
     refine QBU ?_
     rintro _ ⟨δr,rfl⟩
     go_wp2_with fail
     go_roundg (ws.length-(k+1))
     case measure=>omega
     case rel=>exact⟨k+1,i+1,z6,z7,z8,bo,_,Je,qh (by rw[HI.out]),rfl,rfl,rfl,rfl,rfl,by go_num,ai,N6,N7,N8,NB⟩
    |some n=>
     have HN:=qh fun(W:nJ)=>Kz hn (nT hvm nU) W
     have b1:∀W:nJ,(Op.stringOp .add (str y7) (⟨#[32,48]⟩:ByteArray)).run nH W=.ok (.string (str (y7++[32,48]))) W:=fun W=>eA (P:=nH) W y7 [32,48] (by simp;omega)
     have b2:=fun(W:nJ)=>eA (P:=nH) W (y7++[32,48]) v (by simp;omega)
     have c1:∀W:nJ,(Op.stringOp .add (str y8) (⟨#[32,43]⟩:ByteArray)).run nH W=.ok (.string (str (y8++[32,43]))) W:=fun W=>eA (P:=nH) W y8 [32,43] (by simp;omega)
     have c2:=fun(W:nJ)=>eA (P:=nH) W (y8++[32,43]) v (by simp;omega)
     obtain⟨z7,ZN⟩:∃z,(y7++[32,48])++v=z:=⟨_,rfl⟩
     obtain⟨z8,ZM⟩:∃z,(y8++[32,43])++v=z:=⟨_,rfl⟩
     rw[ZN] at b2
     rw[ZM] at c2
     refine QDN ?_
     intro N7 N8
     have NB:Hid (true=Bj (ws.take (k+1))):=qh (by rw[Bw.out,hn];simp)
     clear ZN ZM hn hv Bw
     go_wp2_with (go_at_call 36;refine(HN.out _).mono ?_;rintro e w1 ⟨rfl,δ5,rfl⟩)
     refine wpRl ?_
     repeat (go_big_quiet_step ((first|(fail))))
     refine QBU ?_
     rintro _ ⟨δr,rfl⟩
     go_wp2_with fail
     go_roundg (ws.length-(k+1))
     case measure=>omega
     case rel=>exact⟨k+1,i+1,z6,z7,z8,true,_,Je,qh (by rw[HI.out]),rfl,rfl,rfl,rfl,rfl,by go_num,ai,N6,N7,N8,NB⟩
   ·obtain rfl:k=ws.length:=by omega
    have Jg:¬(i:Int)<(m:Int):=by have:=HI.out;have:=HMW.out;omega
    rw[List.take_length] at H6 H7 H8 HB;have HF:=qh (SQ (Z8.out.trans HP.out) Jl.out hlt);have HAP:=qh (show ws.length=0->Bj ws=false from fun h=>by rw[List.length_eq_zero_iff.1 h];rfl);have c1:∀W:nJ,(Op.stringOp .add (⟨#[32]⟩:ByteArray) (str l)).run nH W=.ok (.string (str (32::l))) W:=fun W=>eA (P:=nH) W [32] l (by simp;omega);have c2:∀W:nJ,(Op.stringOp .add (str l) (⟨#[32]⟩:ByteArray)).run nH W=.ok (.string (str (l++[32]))) W:=fun W=>eA (P:=nH) W l [32] (by simp;omega);have c3:∀W:nJ,(Op.stringOp .add (⟨#[119,104,101,110,32]⟩:ByteArray) (str l)).run nH W=.ok (.string (str (fJ++32::l))) W:=fun W=>eA (P:=nH) W [119,104,101,110,32] l (by simp;omega);obtain⟨u1,hu1⟩:∃u,32::l=u:=⟨_,rfl⟩;obtain⟨u2,Qk⟩:∃u,l++[32]=u:=⟨_,rfl⟩;obtain⟨u3,hu3⟩:∃u,fJ++32::l=u:=⟨_,rfl⟩;have HU:Hid (Bi l=u1::u2::u3::RW):=qh (by unfold Bi;rw[hu3,Qk,hu1]);rw[hu1] at c1;rw[Qk] at c2;rw[hu3] at c3;obtain⟨L1,Y2⟩:∃L,u1::u2::u3::RW=L:=⟨_,rfl⟩;have pY:=qh Y2;have Jc:L1.length=9:=by rw[<-Y2];rfl
    have Qt:=qh Jc;have lVd:Le V.heap.size (ah V δ):=inferInstance;clear hu1 Qk hu3 Y2 Jc;go_upto_region 15 with fail;refine aM fun Y hY=>?_;have y1:aD V.heap.size V Y:=gy hY;have y2:Le V.heap.size Y:=fI hY;have YO:Hid (Y.ownsRow V.heap.size 9 1 (.slice (some ⟨(ah V δ).heap.size,0,none⟩) 9 9) 9 (L1.flatMap bS)):=by rw[hY.out,<-pY.out];exact qh (vF (n:=9) lVd.out rfl nQ rfl)
    clear hY c1 c2 c3;go_upto_if 103 with fail;go_cut [13] from 101 to 107 (fun s13 wx=>∃(A':Option Addr) (c' n':Nat) (L:List aQ),s13=.slice A' n' c'/\Hid (L=L1++uj w0 ws/\L.length=n')/\n'<=10/\Hid (wx.ownsRow V.heap.size 9 1 (.slice A' n' c') n' (L.flatMap bS))/\aD V.heap.size V wx/\Le V.heap.size wx);case first=>
     by_cases h0:ws.length=0
     ·have HE:Hid (L1=L1++uj w0 ws/\L1.length=9):=qh ⟨by unfold uj;rw[if_pos h0,List.append_nil],Qt.out⟩;have sw:¬(1:Int)<(m:Int):=by have:=HMW.out;omega
      clear h0;go_wp2_with fail;go_meet;exact⟨_,9,9,L1,rfl,HE,nQ,YO,y1,y2⟩
     ·have sw:(1:Int)<(m:Int):=by have:=HMW.out;omega
      have HE:Hid (L1++[y6]=L1++uj w0 ws/\(L1++[y6]).length=10):=qh ⟨by unfold uj;rw[if_neg h0,H6.out],by rw[List.length_append,Qt.out];rfl⟩;clear h0;go_wp2_with (at_builtin;(refine bP V Ut (.tmp 104) (.tmp 106) rfl rfl YO.out rfl rfl nW rfl (by simp[Value.oneCell']) nQ nQ ?_);intro A2 c2 δ6 gK adD);go_meet;refine⟨A2,c2,10,L1++[y6],rfl,HE,nQ,?_,inferInstance,inferInstance⟩;unfold Hid;rw[List.flatMap_append];exact gK
    case rest=>
     obtain⟨A2,c2,n2,L2,rfl,ZG,hn2,YO2,z1,z2⟩:=hcut;clear YO y1 y2;go_upto_if 108 with fail;go_cut [13] from 108 to 113 (fun s13 wx=>∃(A':Option Addr) (c' n':Nat) (L:List aQ),s13=.slice A' n' c'/\Hid (L=Bi l++uj w0 ws++zx w0 ws/\L.length=n')/\n'<=12/\Hid (wx.ownsRow V.heap.size 9 1 (.slice A' n' c') n' (L.flatMap bS))/\aD V.heap.size V wx/\Le V.heap.size wx);case first=>
      cases bo with
      |false=>
       have HE:Hid (L2=Bi l++uj w0 ws++zx w0 ws/\L2.length=n2):=qh ⟨by unfold zx;rw[<-HB.out,if_neg nU,List.append_nil,HU.out,pY.out];exact ZG.out.1,ZG.out.2⟩
       go_wp2_with fail
       go_meet
       exact⟨A2,c2,n2,L2,rfl,HE,nQ,YO2,z1,z2⟩
      |true=>
       have HE:Hid (L2++[y7,y8]=Bi l++uj w0 ws++zx w0 ws/\(L2++[y7,y8]).length=n2+2):=qh ⟨by unfold zx;rw[<-HB.out,if_pos rfl,HU.out,pY.out,<-ZG.out.1,H7.out,H8.out],by rw[List.length_append,ZG.out.2];rfl⟩
       go_wp2_with (at_builtin;(refine bP V Ut (.tmp 109) (.tmp 112) rfl rfl YO2.out rfl rfl nW rfl (by simp[Value.oneCell']) nQ nQ ?_);intro A3 c3 δ6 lK ahJ)
       go_meet
       refine⟨A3,c3,n2+2,L2++[y7,y8],rfl,HE,nQ,?_,inferInstance,inferInstance⟩
       unfold Hid
       rw[List.flatMap_append]
       exact lK
     case rest=>
      obtain⟨A3,c3,n3,L3,rfl,HE3,VH,YO3,v1,v2⟩:=hcut;clear YO2 z1 z2 ZG Qt pY HU H6 H7 H8 HB;have ZC:=qh HE3.out.2;have HF3:Hid (∀x∈L3,bH x=.none/\x.length<=1000):=qh (by rw[HE3.out.1];exact HF.out);have hrun:=CH t (ls:=L3) fun x hx=>(HF3.out x hx).1;have HD:Hid ((dJ (bZ t) L3).1=⟨t,[],0⟩):=qh (by rw[hrun];rfl);have HA:Hid ((dJ (bZ t) L3).2=L3.map fun _=>mC):=qh (by rw[hrun]);have q1:aD w.heap.size w wc:=pU (inferInstance:aD w.heap.size w V) v1;have q2:Le w.heap.size wc:=⟨nT (inferInstance:Le w.heap.size V).out v2.out⟩;have q3:aD B w wc:=⟨⟨q1.out.1,q1.out.2.1,q1.out.2.2.1,fun b hb=>q1.out.2.2.2 b (nL hb hB.out)⟩⟩;have q4:Le B wc:=⟨nT hB.out q2.out⟩;have q5:aD 8 w wc:=⟨⟨q1.out.1,q1.out.2.1,q1.out.2.2.1,fun b hb=>q1.out.2.2.2 b (nL hb h8.out)⟩⟩;have q6:Le 8 wc:=⟨nT h8.out q2.out⟩;have q7:Le wc.heap.size wc:=⟨nR _⟩;obtain⟨La,hLa⟩:∃x,L3.map (fun _=>mC)=x:=⟨_,rfl⟩;rw[hLa] at HA;have HR:Hid (Calls nH 13 #[aY r t,.slice A3 n3 c3] wc (Bp n3 ⟨t,[],0⟩ La wc)):=
       qh (vt r t L3 A3 c3 HV.out (by rw[ZC.out];omega) (fun x hx=>(HF3.out x hx).2) _ _ HD.out HA.out n3 ZC.out wc.heap.size wc H.out.wide HL.out.up (uH YO3.out ZC.out))
      have HLa:Hid (La.length=n3/\∀k,k<n3->nth La k=mC):=qh (by
       refine⟨by rw[<-hLa,List.length_map];exact ZC.out,fun k hk=>?_⟩
       rw[<-hLa,iK _ _ (by rw[ZC.out];exact hk)])
      have X3:Hid (ay wc g2 39 (aG r t)):=qh (ay.eO X2.out);clear hrun HD HA YO3 HE3 hLa;go_upto_region 20 with(first|(refine au aq rfl _ rfl rfl X3.out rfl ?_)|(go_at_call 13;refine HR.out.mono ?_;unfold Bp;rintro e w1 ⟨aA,ac,rN,lA,lc,δ5,rfl,rfl,oA,oT,oL⟩;have OA:=qh oA;have OT:=qh oT;clear oA oT oL)|(refine iS (cs':=aG rN t) aq rfl _ _ rfl rfl rfl rfl rfl (aL _ _) ?_));obtain⟨g,hg⟩:∃g,(ah wc δ5).heap.size=g:=⟨_,rfl⟩;refine aM fun W5 jT=>?_;have f1:aD w.heap.size w W5:=gy jT;have f2:Le w.heap.size W5:=fI jT;have f3:aD V.heap.size V W5:=gy jT;have f4:Le V.heap.size W5:=fI jT;have f5:aD 8 w W5:=gy jT;have f6:Le 8 W5:=fI jT;have f8:aD B w W5:=gy jT;have f9:Le B W5:=fI jT;have E5:Hid (ay W5 g 39 (aG rN t)):=by rw[jT.out];exact qh (ay.new hg.symm)
      have SA5:Hid (Sl bS W5.heap.size W5 aA ac La):=by rw[jT.out];exact qh (uH (OA.out.alloc _) HLa.out.1)
      have ST5:Hid (aN W5.heap.size W5 rN t):=by rw[jT.out];exact qh (OT.out.alloc _).is
      clear jT OA OT HR;have lw:Le W5.heap.size W5:=⟨nR _⟩;rw[hg];clear hg;have X5:Hid (ay W5 g2 39 (aG r t)):=qh (ay.eO X2.out);have SR5:Hid (aN W5.heap.size W5 r t):=qh H.out.wide;go_wp2_with (first|(refine bC aq nY _ rfl rfl (ay.eO E5.out) rfl ?_)|(refine bC aq nY _ rfl rfl (ay.eO X5.out) rfl ?_)|(go_at_call 16;refine(Mp rN r t W5.heap.size _ ST5.out.up SR5.out.up).mono ?_;rintro e w1 ⟨rfl,δ9,rfl⟩));go_loopg [18] n3 (fun gn s18 wr=>∃(i:Nat) (δ:nJ),i<=n3/\gn=n3-i/\s18=.int .i64 i/\wr=ah W5 δ)
      case atStart=>exact⟨0,_,nE _,rfl,rfl,ai⟩
      case round=>
       obtain⟨i,δ7,hi,rfl,rfl,rfl⟩:=hrel;by_cases hilt:i<n3
       ·have Jg:(i:Int)<(n3:Int):=nQ;have hi0:¬(i:Int)<0:=nQ;obtain⟨ab,ao,rfl,hab,d0⟩:=SA5.out.kK (k:=i) (by rw[HLa.out.1];exact hilt);have iab:Lt ab W5:=⟨hab⟩;rw[HLa.out.2 i hilt] at d0;have s1:((str mC).toList==[119,104,97,116])=true:=cj mC _;have s2:((str mC).toList != [119,104,97,116])=false:=by rw[bne,s1];rfl
        obtain⟨u,hu⟩:∃u,mC=u:=⟨_,rfl⟩;rw[hu] at d0 s1 s2;clear hu;go_wp2_with fail;go_roundg (n3-(i+1))
        case measure=>omega
        case rel=>exact⟨i+1,_,nQ,rfl,by go_num,ai⟩
       ·obtain rfl:i=n3:=by omega
        go_wp2_with (go_at_call 11;refine(dK _ HL.out.up).mono ?_;rintro e w1 ⟨rfl,δ2,rfl⟩);go_ret;exact⟨rfl,ag⟩
end
end Go.Proofs.YtpnnapeoanafdaaGreatDoor
