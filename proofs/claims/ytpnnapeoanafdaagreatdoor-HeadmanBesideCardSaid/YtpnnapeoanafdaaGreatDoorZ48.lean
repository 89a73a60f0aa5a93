/- A part of the proof that a law of layer 12 holds, cut small by a program (names and blanks): Hk8. -/
import Derived.Test.YtpnnapeoanafdaaGreatDoorZ44
set_option maxRecDepth 100000
set_option maxHeartbeats 40000000
set_option linter.unusedVariables false
set_option linter.unusedSimpArgs false
namespace Go.Proofs.YtpnnapeoanafdaaGreatDoor
open Go.RowKit
open Nat renaming le_refl → nR
open Go.Proofs.Tryz renaming prog → nH
open Go renaming World → nJ, Value → nK
section
open Hd
def Md(x:ql):aQ:=match x with|.none=>[]|.cmd c=>cF c.w|.ord q _ _ _=>cF q.w
def Re(x:ql):Nat:=match x with|.none=>0|.cmd c=>xj c.w|.ord q _ _ _=>xj q.w
theorem My(x:ql):UR (jO (Md x))=Re x:=by
 have h:∀d:Wd,UR (jO (cF d))=xj d:=fun d=>by rw[dn.2 rfl];rfl
 cases x with
 |none=>show UR (jO [])=0;rw[DK];rfl
 |cmd c=>exact h _
 |ord q s n c=>exact h _
theorem C8{B:Nat}{w:nJ}{v:nK}{x:ql}(h:Bs B w v x):∃a b c d e f g i,v=.agg #[a,b,.string (str (Md x)),c,d,e,f,g,i]:=by
 cases x with
 |none=>exact⟨_,_,_,_,_,_,_,_,h⟩
 |cmd c=>obtain⟨A,cap,h1,_⟩:=h;exact⟨_,_,_,_,_,_,_,_,h1⟩
 |ord q s n c=>obtain⟨A,cap,A',cap',h1,_⟩:=h;exact⟨_,_,_,_,_,_,_,_,h1⟩
theorem NJ(a b c d e f g i x:nK)(W:nJ):(Instr.field 55 (.agg #[a,b,x,c,d,e,f,g,i]) 1).run nH W=.ok (.agg #[b,x,c]) W:=by kernel_rfl
theorem QT(b x c:nK)(W:nJ):(Instr.field 53 (.agg #[b,x,c]) 1).run nH W=.ok x W:=by kernel_rfl
theorem yp{x:ql}(h0:Re x≠0)(h4:lY x≠4):∃c,x=.cmd c/\xj c.w=Re x:=by
 cases x with
 |none=>exact absurd rfl h0
 |cmd c=>exact⟨c,rfl,rfl⟩
 |ord q s n c=>exact absurd rfl h4
theorem G6(r:aW)(t:aO)(x y:aQ)(B:Nat)(w:nJ)(hT:aN B w r t)[hB:Le B w][h8:Le 8 w](hL:cT w):Calls nH 7 #[aY r t,.string (str x),.string (str y)] w fun e w'=>e=.returned (.bool true)/\∃δ,w'=ah w δ:=by
 have H:=qh hT;have HL:=qh hL;have YQ:=NJ;have hword:=QT;clear hT hL;go_enter Tryz.func7,Tryz.ntmps7;go_upto_region 1 with fail;refine QBT ?_;intro W1 aH cJ dF cW di dz eL jG;refine QDK ?_;intro X1;obtain⟨g3,uO⟩:∃g,w.heap.size=g:=⟨_,rfl⟩;rw[uO] at X1 ⊢;have ig3:Lt g3 W1:=X1.out.lt;clear aH uO;by_cases ah6:(40:Int)<(x.length:Int)
 ·go_wp2_with (go_at_call 11;refine(dK _ HL.out.up).mono ?_;rintro e w1 ⟨rfl,δ2,rfl⟩);go_ret;exact⟨rfl,ag⟩
 by_cases ah2:(40:Int)<(y.length:Int)
 ·go_wp2_with (go_at_call 11;refine(dK _ HL.out.up).mono ?_;rintro e w1 ⟨rfl,δ2,rfl⟩);go_ret;exact⟨rfl,ag⟩
 have hx1:x.length<=1000:=nQ;have hy1:y.length<=1000:=nQ;have HRx:=qh fun(W:nJ)=>kz x hx1 W;have HRy:=qh fun(W:nJ)=>kz y hy1 W;obtain⟨lx,YJ⟩:∃l,bH x=l:=⟨_,rfl⟩;obtain⟨ly,YI⟩:∃l,bH y=l:=⟨_,rfl⟩;obtain⟨kx,hkx⟩:∃k,lY lx=k:=⟨_,rfl⟩;obtain⟨ky,hky⟩:∃k,lY ly=k:=⟨_,rfl⟩;have HKx:=qh fun(W:nJ)=>ng x hx1 kx (by rw[YJ];exact hkx) W;have HKy:=qh fun(W:nJ)=>ng y hy1 ky (by rw[YI];exact hky) W;rw[YJ] at HRx;rw[YI] at HRy;unfold kq at HRx HRy;obtain⟨tx,fW⟩:∃k,Md lx=k:=⟨_,rfl⟩;obtain⟨ty,hty⟩:∃k,Md ly=k:=⟨_,rfl⟩;obtain⟨px,hpx⟩:∃k:Int,((Re lx:Nat):Int)=k:=⟨_,rfl⟩;obtain⟨py,hpy⟩:∃k:Int,((Re ly:Nat):Int)=k:=⟨_,rfl⟩;have HPx:Hid (∀W:nJ,Calls nH 35 #[.string (str tx)] W fun e w'=>e=.returned (.int .i64 px)/\∃δ,w'=ah W δ):=qh fun W=>by have:=Gu tx (jO tx) rfl W;rw[<-fW,My,hpx,fW] at this;exact this
 have HPy:Hid (∀W:nJ,Calls nH 35 #[.string (str ty)] W fun e w'=>e=.returned (.int .i64 py)/\∃δ,w'=ah W δ):=qh fun W=>by have:=Gu ty (jO ty) rfl W;rw[<-hty,My,hpy,hty] at this;exact this
 have HTx:=qh fW;have HTy:=qh hty;have HC:Hid (px≠0->kx≠4->py≠0->ky≠4->px≠py->∃c d,bH x=.cmd c/\bH y=.cmd d/\xj c.w≠0/\xj d.w≠0/\xj c.w≠xj d.w):=qh fun h1 h2 h3 h4 h5=>by obtain⟨c,hc,hpc⟩:=yp (x:=lx) (fun e=>h1 (by rw[<-hpx,e];rfl)) (by rw[hkx];exact h2);obtain⟨d,hd,hpd⟩:=yp (x:=ly) (fun e=>h3 (by rw[<-hpy,e];rfl)) (by rw[hky];exact h4);exact⟨c,d,YJ.trans hc,YI.trans hd,fun e=>h1 (by rw[<-hpx,<-hpc,e];rfl),fun e=>h3 (by rw[<-hpy,<-hpd,e];rfl),fun e=>h5 (by rw[<-hpx,<-hpy,<-hpc,<-hpd,e])⟩
 clear YJ YI hkx hky fW hty hpx hpy hx1 hy1;go_wp2_with fail;refine(HRx.out _).mono ?_;rintro e w1 ⟨v,δ1,rfl,rfl,hv⟩;obtain⟨a1,a2,a3,a4,a5,a6,a7,a8,rfl⟩:=C8 hv;rw[HTx.out];clear hv;go_wp2_with fail;refine(HPx.out _).mono ?_;rintro e w1 ⟨rfl,δ2,rfl⟩;go_wp2_with fail;refine(HRy.out _).mono ?_;rintro e w1 ⟨v,δ3,rfl,rfl,hv⟩;obtain⟨b1,b2,b3,b4,b5,b6,b7,b8,rfl⟩:=C8 hv;rw[HTy.out];clear hv;go_wp2_with fail;refine(HPy.out _).mono ?_;rintro e w1 ⟨rfl,δ4,rfl⟩;go_upto_region 4 with fail;refine aM fun X hX=>?_;have Fo:Le B X:=fI hX;have G9:aD B w X:=gy hX;obtain⟨su,tZ,tY,sR⟩:=EO 8 w hX;have tX:Lt (g3) X:=nr hX;have X2:Hid (ay X g3 39 (aG r t)):=by rw[hX.out];exact qh (ay.eO X1.out)
 clear hX X1 HPx HPy HRx HRy HTx HTy YQ hword;by_cases p0:px=0
 ·subst p0;go_wp2_with (go_at_call 11;refine(dK _ HL.out.up).mono ?_;rintro e w1 ⟨rfl,δ2,rfl⟩);go_ret;exact⟨rfl,ag⟩
 by_cases q0:py=0
 ·subst q0;have p0b:(px==0)=false:=by simpa using p0
  have p0d:decide (px=0)=false:=decide_eq_false p0;go_wp2_with (go_at_call 11;refine(dK _ HL.out.up).mono ?_;rintro e w1 ⟨rfl,δ2,rfl⟩);go_ret;exact⟨rfl,ag⟩
 have p0b:(px==0)=false:=by simpa using p0
 have p0d:decide (px=0)=false:=decide_eq_false p0;have q0b:(py==0)=false:=by simpa using q0
 have q0d:decide (py=0)=false:=decide_eq_false q0;by_cases pq:px=py
 ·subst pq;go_wp2_with (go_at_call 11;refine(dK _ HL.out.up).mono ?_;rintro e w1 ⟨rfl,δ2,rfl⟩);go_ret;exact⟨rfl,ag⟩
 have pqb:(px==py)=false:=by simpa using pq
 have pqd:decide (px=py)=false:=decide_eq_false pq;by_cases k4:kx=4
 ·subst k4;go_wp2_with (first|(go_at_call 12;(first|((with_reducible refine Calls.mono (HKx.out _) ?_);rintro e w1 ⟨rfl,δa,rfl⟩)|((with_reducible refine Calls.mono (HKy.out _) ?_);rintro e w1 ⟨rfl,δb,rfl⟩)))|(go_at_call 11;refine(dK _ HL.out.up).mono ?_;rintro e w1 ⟨rfl,δ2,rfl⟩));go_ret;exact⟨rfl,ag⟩
 have k4b:(kx==4)=false:=by simpa using k4
 have k4d:decide (kx=4)=false:=decide_eq_false k4;by_cases l4:ky=4
 ·subst l4;go_wp2_with (first|(go_at_call 12;(first|((with_reducible refine Calls.mono (HKx.out _) ?_);rintro e w1 ⟨rfl,δa,rfl⟩)|((with_reducible refine Calls.mono (HKy.out _) ?_);rintro e w1 ⟨rfl,δb,rfl⟩)))|(go_at_call 11;refine(dK _ HL.out.up).mono ?_;rintro e w1 ⟨rfl,δ2,rfl⟩));go_ret;exact⟨rfl,ag⟩
 have l4b:(ky==4)=false:=by simpa using l4
 have l4d:decide (ky=4)=false:=decide_eq_false l4;obtain⟨c,d,hcx,hcy,hc0,hd0,hcd⟩:=HC.out p0 k4 q0 l4 pq;have HP:=qh (show ∀hv:aE t=true,_ from fun hv=>beside hv hcx hcy hc0 hd0 hcd);clear hcx hcy hc0 hd0 hcd HC;go_wp2_with (first|(refine bC aq nY _ rfl rfl (ay.eO X2.out) rfl ?_)|(go_at_call 12;(first|((with_reducible refine Calls.mono (HKx.out _) ?_);rintro e w1 ⟨rfl,δa,rfl⟩)|((with_reducible refine Calls.mono (HKy.out _) ?_);rintro e w1 ⟨rfl,δb,rfl⟩))));refine iA fun Y hY=>?_;have i1Y:aD w.heap.size w Y:=by rw[<-hY];infer_instance
 have i2Y:Le w.heap.size Y:=by rw[<-hY];infer_instance
 have i3Y:aD B w Y:=by rw[<-hY];infer_instance
 have i4Y:Le B Y:=by rw[<-hY];infer_instance
 have i5Y:aD 8 w Y:=by rw[<-hY];infer_instance
 have i6Y:Le 8 Y:=by rw[<-hY];infer_instance
 have i7Y:aD X.heap.size X Y:=by rw[<-hY];infer_instance
 have i8Y:Le X.heap.size Y:=by rw[<-hY];infer_instance
 have slY:Hid (Sl bS Y.heap.size Y (some ⟨(ah (ah X δa) δb).heap.size,0,none⟩) 2 [x,y]):=by rw[<-hY];exact qh (mK (ls:=[x,y]) (ay.new rfl) rfl nV)
 have i9Y:Le Y.heap.size Y:=⟨nR _⟩;clear hY;refine(qv r t [x,y] _ 2 Y.heap.size Y H.out.wide slY.out).mono ?_;unfold kZ;rintro e w1 ⟨b,δrY,rfl,rfl,hr⟩;cases b with
 |false=>
  clear hr
  go_wp2_with (go_at_call 11;refine(dK _ HL.out.up).mono ?_;rintro e w1 ⟨rfl,δ2,rfl⟩)
  go_ret
  exact⟨rfl,ag⟩
 |true=>
  obtain⟨Hv,hv,Qr⟩:=hr rfl
  have HV:=qh hv
  clear hr Hv hv Qr
  go_wp2_with (first|(refine bC aq nY _ rfl rfl (ay.eO X2.out) rfl ?_)|(go_at_call 12;(first|((with_reducible refine Calls.mono (HKx.out _) ?_);rintro e w1 ⟨rfl,δa,rfl⟩)|((with_reducible refine Calls.mono (HKy.out _) ?_);rintro e w1 ⟨rfl,δb,rfl⟩))))
  refine iA fun Z hZ=>?_
  have i1Z:aD w.heap.size w Z:=by rw[<-hZ];infer_instance
  have i2Z:Le w.heap.size Z:=by rw[<-hZ];infer_instance
  have i3Z:aD B w Z:=by rw[<-hZ];infer_instance
  have i4Z:Le B Z:=by rw[<-hZ];infer_instance
  have i5Z:aD 8 w Z:=by rw[<-hZ];infer_instance
  have i6Z:Le 8 Z:=by rw[<-hZ];infer_instance
  have i7Z:aD X.heap.size X Z:=by rw[<-hZ];infer_instance
  have i8Z:Le X.heap.size Z:=by rw[<-hZ];infer_instance
  have slZ:Hid (Sl bS Z.heap.size Z (some ⟨(ah Y δrY).heap.size,0,none⟩) 2 [y,x]):=by rw[<-hZ];exact qh (mK (ls:=[y,x]) (ay.new rfl) rfl nV)
  have i9Z:Le Z.heap.size Z:=⟨nR _⟩
  clear hZ
  refine(qv r t [y,x] _ 2 Z.heap.size Z H.out.wide slZ.out).mono ?_
  unfold kZ
  rintro e w1 ⟨b,δrZ,rfl,rfl,hr⟩
  cases b with
  |false=>
   clear hr
   go_wp2_with (go_at_call 11;refine(dK _ HL.out.up).mono ?_;rintro e w1 ⟨rfl,δ2,rfl⟩)
   go_ret
   exact⟨rfl,ag⟩
  |true=>
   clear hr
   obtain⟨Vx,a,b,ha,hb⟩:=HP.out HV.out
   obtain⟨d1,hd1⟩:∃d,(dJ (bZ t) [x,y]).1=d:=⟨_,rfl⟩
   obtain⟨d2,MX⟩:∃d,(dJ (bZ t) [y,x]).1=d:=⟨_,rfl⟩
   rw[hd1,MX] at Vx
   obtain⟨tt,o1,n1⟩:=d1
   obtain⟨tt2,o2,n2⟩:=d2
   simp only[] at Vx
   subst Vx
   have Fp:∀z∈[x,y],z.length<=1000:=by intro z hz;simp only[List.mem_cons,List.not_mem_nil,or_false] at hz;rcases hz with rfl|rfl<;>omega
   have WS:∀z∈[y,x],z.length<=1000:=by intro z hz;simp only[List.mem_cons,List.not_mem_nil,or_false] at hz;rcases hz with rfl|rfl<;>omega
   have HR1:Hid (∀(W:nJ) (A:Option Addr),aD w.heap.size w W->Le w.heap.size W->aD B w W->Le B W->aD 8 w W->Le 8 W->Sl bS W.heap.size W A 2 [x,y]->Calls nH 13 #[aY r t,.slice A 2 2] W (Bp 2 ⟨tt,o1,n1⟩ [a,b] W)):=
    qh fun W A _ _ _ _ _ _ hs=>vt r t [x,y] A 2 HV.out nV Fp _ _ hd1 ha 2 rfl W.heap.size W H.out.wide HL.out.up hs (hB:=⟨nR _⟩)
   have Zy:Hid (∀(W:nJ) (A:Option Addr),aD w.heap.size w W->Le w.heap.size W->aD B w W->Le B W->aD 8 w W->Le 8 W->Sl bS W.heap.size W A 2 [y,x]->Calls nH 13 #[aY r t,.slice A 2 2] W (Bp 2 ⟨tt,o2,n2⟩ [b,a] W)):=
    qh fun W A _ _ _ _ _ _ hs=>vt r t [y,x] A 2 HV.out nV WS _ _ MX hb 2 rfl W.heap.size W H.out.wide HL.out.up hs (hB:=⟨nR _⟩)
   clear Fp WS hd1 MX ha hb HP HKx HKy
   go_wp2_with (first|(refine bC aq nY _ rfl rfl (ay.eO X2.out) rfl ?_)|(go_at_call 12;(first|((with_reducible refine Calls.mono (HKx.out _) ?_);rintro e w1 ⟨rfl,δa,rfl⟩)|((with_reducible refine Calls.mono (HKy.out _) ?_);rintro e w1 ⟨rfl,δb,rfl⟩))))
   refine iA fun U hU=>?_
   have i1U:aD w.heap.size w U:=by rw[<-hU];infer_instance
   have i2U:Le w.heap.size U:=by rw[<-hU];infer_instance
   have i3U:aD B w U:=by rw[<-hU];infer_instance
   have i4U:Le B U:=by rw[<-hU];infer_instance
   have i5U:aD 8 w U:=by rw[<-hU];infer_instance
   have i6U:Le 8 U:=by rw[<-hU];infer_instance
   have i7U:aD X.heap.size X U:=by rw[<-hU];infer_instance
   have i8U:Le X.heap.size U:=by rw[<-hU];infer_instance
   have slU:Hid (Sl bS U.heap.size U (some ⟨(ah Z δrZ).heap.size,0,none⟩) 2 [x,y]):=by rw[<-hU];exact qh (mK (ls:=[x,y]) (ay.new rfl) rfl nV)
   clear hU
   refine(HR1.out U _ inferInstance inferInstance inferInstance inferInstance inferInstance inferInstance slU.out).mono ?_
   unfold Bp
   rintro e w1 ⟨aA,ac,rN,lA,lc,δ5,rfl,rfl,oA,oT,oL⟩
   have OA:=qh oA
   have OT:=qh oT
   clear oA oT oL
   go_upto_region 7 with(refine iS (cs':=aG rN tt) aq rfl _ _ rfl rfl rfl rfl rfl (aL _ _) ?_)
   obtain⟨ga,Hu⟩:∃g,(ah U δ5).heap.size=g:=⟨_,rfl⟩
   refine aM fun W5 jT=>?_
   have Ex:Le B W5:=fI jT
   have He:aD B w W5:=gy jT
   obtain⟨KU,KT,KS,KR⟩:=EO 8 w jT
   have j1:aD X.heap.size X W5:=gy jT
   have j2:Le X.heap.size W5:=fI jT
   have E5:Hid (ay W5 ga 39 (aG rN tt)):=by rw[jT.out];exact qh (ay.new Hu.symm)
   have SA5:Hid (Sl bS W5.heap.size W5 aA ac [a,b]):=by rw[jT.out];exact qh (uH (OA.out.alloc _) rfl)
   have ST5:Hid (aN W5.heap.size W5 rN tt):=by rw[jT.out];exact qh (OT.out.alloc _).is
   clear jT OA OT
   have j3:Le W5.heap.size W5:=⟨nR _⟩
   rw[Hu]
   clear Hu
   go_wp2_with (first|(refine bC aq nY _ rfl rfl (ay.eO X2.out) rfl ?_))
   refine iA fun V hV=>?_
   have i1V:aD w.heap.size w V:=by rw[<-hV];infer_instance
   have i2V:Le w.heap.size V:=by rw[<-hV];infer_instance
   have i3V:aD B w V:=by rw[<-hV];infer_instance
   have i4V:Le B V:=by rw[<-hV];infer_instance
   have i5V:aD 8 w V:=by rw[<-hV];infer_instance
   have i6V:Le 8 V:=by rw[<-hV];infer_instance
   have i7V:aD X.heap.size X V:=by rw[<-hV];infer_instance
   have i8V:Le X.heap.size V:=by rw[<-hV];infer_instance
   have slV:Hid (Sl bS V.heap.size V (some ⟨W5.heap.size,0,none⟩) 2 [y,x]):=by rw[<-hV];exact qh (mK (ls:=[y,x]) (ay.new rfl) rfl nV)
   have jV1:aD W5.heap.size W5 V:=by rw[<-hV];infer_instance
   have jV2:Le W5.heap.size V:=by rw[<-hV];infer_instance
   clear hV
   refine(Zy.out V _ inferInstance inferInstance inferInstance inferInstance inferInstance inferInstance slV.out).mono ?_
   unfold Bp
   rintro e w1 ⟨bA,bc,rM,mA,mc,δ6,rfl,rfl,oA,oT,oL⟩
   have OA:=qh oA
   have OT:=qh oT
   clear oA oT oL
   go_upto_region 8 with(refine iS (cs':=aG rM tt) aq rfl _ _ rfl rfl rfl rfl rfl (aL _ _) ?_)
   obtain⟨gb,hgb⟩:∃g,(ah V δ6).heap.size=g:=⟨_,rfl⟩
   refine aM fun W6 Dk=>?_
   have KQ:Le B W6:=fI Dk
   have Vt:aD B w W6:=gy Dk
   obtain⟨Yq,Yp,Yo,Yn⟩:=EO 8 w Dk
   have j4:aD W5.heap.size W5 W6:=gy Dk
   have j5:Le W5.heap.size W6:=fI Dk
   have F6:Hid (ay W6 gb 39 (aG rM tt)):=by rw[Dk.out];exact qh (ay.new hgb.symm)
   have SB6:Hid (Sl bS W6.heap.size W6 bA bc [b,a]):=by rw[Dk.out];exact qh (uH (OA.out.alloc _) rfl)
   have SU6:Hid (aN W6.heap.size W6 rM tt):=by rw[Dk.out];exact qh (OT.out.alloc _).is
   clear Dk OA OT
   have j6:Le W6.heap.size W6:=⟨nR _⟩
   rw[hgb]
   clear hgb
   have E6:Hid (ay W6 ga 39 (aG rN tt)):=qh (ay.eO E5.out)
   have SA6:Hid (Sl bS W6.heap.size W6 aA ac [a,b]):=qh SA5.out.wide
   have ST6:Hid (aN W6.heap.size W6 rN tt):=qh ST5.out.wide
   obtain⟨sb,so,rfl,EE,e0⟩:=SA6.out.kK (k:=0) nV
   obtain⟨sb',so',B9,_,e1⟩:=SA6.out.kK (k:=1) nV
   injection B9 with B9;injection B9 with rz AH;subst rz AH
   obtain⟨ub,uo,rfl,hub,f0⟩:=SB6.out.kK (k:=0) nV
   obtain⟨ub',uo',B9,_,f1⟩:=SB6.out.kK (k:=1) nV
   injection B9 with B9;injection B9 with rz AH;subst rz AH
   have isb:Lt sb W6:=⟨EE⟩
   have iub:Lt ub W6:=⟨hub⟩
   replace e0:W6.cell? ⟨sb,so,none⟩=some (.string (str a)):=e0
   replace e1:W6.cell? ⟨sb,so+1,none⟩=some (.string (str b)):=e1
   replace f0:W6.cell? ⟨ub,uo,none⟩=some (.string (str b)):=f0
   replace f1:W6.cell? ⟨ub,uo+1,none⟩=some (.string (str a)):=f1
   have HXE:Hid (∀w',(∃δ',w'=ah W6 δ')->ay w' ga 39 (aG rN tt)):=qh fun w' hw'=>by obtain⟨δ',rfl⟩:=hw';exact E6.out.ah _
   have HXF:Hid (∀w',(∃δ',w'=ah W6 δ')->ay w' gb 39 (aG rM tt)):=qh fun w' hw'=>by obtain⟨δ',rfl⟩:=hw';exact F6.out.ah _
   refine wpRl ?_
   repeat (first|go_big_quiet_skip|(refine ue aq nY _ rfl rfl HXE.out rfl ?_;simp only[Act.put,List.setIfInBounds_toArray,List.set_cons_zero,List.set_cons_succ])|(refine ue aq nY _ rfl rfl HXF.out rfl ?_;simp only[Act.put,List.setIfInBounds_toArray,List.set_cons_zero,List.set_cons_succ])|(go_big_quiet_step ((first|(go_at_call 16;exact Calls.bV (Mp rN rM tt W6.heap.size _ ST6.out.up SU6.out.up))|(go_at_call 11;exact Calls.bV (dK _ HL.out.up))))))
   refine QBU ?_
   rintro _ ⟨δq,rfl⟩
   go_wp2_with fail
   go_ret
   exact⟨rfl,ag⟩
end
end Go.Proofs.YtpnnapeoanafdaaGreatDoor
