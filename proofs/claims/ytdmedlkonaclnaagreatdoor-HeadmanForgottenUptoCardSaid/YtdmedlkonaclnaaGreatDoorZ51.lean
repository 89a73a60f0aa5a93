/- A part of the proof that a law of layer 12 holds, cut small by a program (names and blanks): Hk19. -/
import Derived.Test.YtdmedlkonaclnaaGreatDoorZ37
import Derived.Test.YtdmedlkonaclnaaGreatDoorZ41
import Derived.Test.YtdmedlkonaclnaaGreatDoorZ42
import Derived.Test.YtdmedlkonaclnaaGreatDoorZ44
import Derived.Test.YtdmedlkonaclnaaGreatDoorZ50
set_option maxRecDepth 100000
set_option maxHeartbeats 40000000
set_option linter.unusedVariables false
set_option linter.unusedSimpArgs false
namespace Go.Proofs.YtdmedlkonaclnaaGreatDoor
open Go.RowKit
open Nat renaming le_trans → nT, lt_of_lt_of_le → nL, le_refl → nR, zero_le → nE
open Go.Proofs.Tryz renaming prog → nH
open Go renaming World → nJ, Value → nK
section
open Hd
def eY:bz:=[102,111,114,103,101,116,32,48]
theorem Dm:bK eY=.cmd ⟨.forget,[0]⟩:=by
 have e:uh ⟨.forget,[((0:Nat):Int)]⟩=eY:=by decide +kernel
 rw[<-e];exact Fi 0 nU
def abV(r:aQ)(t:aW)(x:bz)(A:Option Addr)(c:Nat)(ls:List bz)(n:Nat):Nat->nK->nJ->Prop
 |0,v,_=>v=aO r t
 |1,v,_=>v=.string (str x)
 |2,v,W=>∃A,v=.slice A 2 2/\Sl aX W.heap.size W A 2 [x,eY]
 |3,v,_=>v=.slice A ls.length c
 |4,v,W=>∃A,v=.slice A 2 2/\Hu aX W.heap.size W A 2 [[x,eY],ls]
 |_,v,W=>∃A c,v=.slice A n c/\Sl aX W.heap.size W A c (x::eY::ls)
theorem zT(r:aQ)(t:aW)(x:bz)(hx:x.length<=1048576)(A:Option Addr)(c:Nat)(ls:List bz)(B:Nat)(w:nJ)(hT:aJ B w r t)(hS:Sl aX B w A c ls)[hB:Le B w][h8:Le 8 w](hL:cT w):Calls nH 5 #[aO r t,.string (str x),.slice A ls.length c] w fun e w'=>e=.returned (.bool true)/\∃δ,w'=af w δ:=by
 have H:=qh hT;have HL:=qh hL;have HS:=qh hS;clear hT hL hS;go_enter Tryz.func5,Tryz.ntmps5;go_upto_region 1 with fail;refine QCN ?_;intro X hX cJ dF cU dA dD eI ju X2 g3 rj;rw[rj] at X2 ⊢;have ig3:Lt g3 X:=X2.out.lt;clear hX rj;by_cases hk:lG (bK x)=4;case neg=>
  refine QCL ?_;intro kn hkn HK k4 Zh k4c;repeat (go_big_quiet_step ((first|(go_at_call 21;exact Calls.bN (HK.out _)))))
  refine QBT ?_;rintro _ ⟨δ1,rfl⟩;go_wp2_with (go_at_call 24;refine(dz _ HL.out.up).mono ?_;rintro e w1 ⟨rfl,δ2,rfl⟩);go_ret;exact⟨rfl,ag⟩
 have HK:=qh fun(W:nJ)=>qD x hx 4 hk W;by_cases h28:(28:Int)<(ls.length:Int)
 ·skip;refine wpRl ?_;repeat (go_big_quiet_step ((first|(go_at_call 21;exact Calls.bN (HK.out _)))))
  refine QBT ?_;rintro _ ⟨δ1,rfl⟩;go_wp2_with (go_at_call 24;refine(dz _ HL.out.up).mono ?_;rintro e w1 ⟨rfl,δ2,rfl⟩);go_ret;exact⟨rfl,ag⟩
 have hls:ls.length<=28:=nQ;obtain⟨q,s,n,c',hr⟩:=Ls hk;have HO:=qh hr;obtain⟨m,hm⟩:∃m,(x::eY::ls).length=m:=⟨_,rfl⟩;obtain⟨hh,YL⟩:∃b,cY t q s n=b:=⟨_,rfl⟩;have HH:Hid (cY t q s n=hh):=qh YL;refine QEJ ?_;intro hp HQ xE OJ;have Vg:Hid (∀(W:nJ) (A:Option Addr) (c:Nat),au X.heap.size X W->Le X.heap.size W->Sl aX W.heap.size W A c (x::eY::ls)->Calls nH 22 #[aO r t,.slice A m c] W (kP t (x::eY::ls) W)):=qh fun W A c i1 i2 hs=>by have:=qn r t (x::eY::ls) A c W.heap.size W (xE.out.wide (W:=W)) hs (hB:=⟨nR _⟩);rw[hm] at this;exact this
 have HJ:Hid (∀(W:nJ) (A:Option Addr),Hu aX W.heap.size W A 2 [[x,eY],ls]->Calls nH 28 #[.slice A 2 2] W fun e w'=>∃(jA:Option Addr) (jc:Nat),e=.returned (.slice jA m jc)/\Sl aX w'.heap.size w' jA jc (x::eY::ls)/\∃δ,w'=af W δ):=qh fun W A hs=>by have e:[[x,eY],ls].flatten=x::eY::ls:=nV;have:=yL [[x,eY],ls] A 2 W.heap.size W hs (hB:=⟨nR _⟩) nV (fun y hy=>by simp only[List.mem_cons,List.not_mem_nil,or_false] at hy;rcases hy with rfl|rfl;(simp);omega);rw[e,hm] at this;exact this
 have ZJ:m=ls.length+2:=by rw[<-hm];simp
 have Pb:=qh ZJ;clear hk hr hp YL hm ZJ;refine wp_region_held (S:=fun W=>au X.heap.size X W) nP ?_;change wpAnyH _ _ _ _ _ _ _ _ (World.drew _);refine wpH_tq 0 (.string (str x)) (inferInstance) ?_;refine QAC ?_;have gS:au X.heap.size X X.drew:=inferInstance;have lS:Le X.heap.size X.drew:=inferInstance;generalize X.drew=Z0 at gS lS ⊢;refine fL 1 (by first|kernel_rfl|decide +kernel) ?_;refine Qg 1 rfl nY ?hx gS lS (HK.out _) ?_;case hx=>go_simp
 clear gS lS;intro δ gS lS;refine QAC ?_;generalize af Z0 δ=Z1 at gS lS ⊢;refine wpH_tq 2 (.bool false) (gS) ?_;refine QAC ?_;refine wpH_tq 3 (.bool false) (gS) ?_;refine QAC ?_;refine wpH_tq 4 (.slice A ls.length c) (gS) ?_;refine QAC ?_;refine wpH_tq 5 (.int .i64 ls.length) (gS) ?_;refine QAC ?_;refine wpH_tq 6 (.bool false) (gS) ?_;refine QAC ?_;refine wpH_tq 7 (.bool false) (gS) ?_;refine QAC ?_;refine wpH_tq 8 (.bool false) (gS) ?_;refine QAC ?_;refine dV 9 (aO r t) rfl nP (cV ai nY _ rfl rfl (fun W h=>ax.dM (hg:=h) X2.out) rfl) (gS) ?_;refine QAC ?_;refine wpH_tq 10 (.string (str x)) (gS) ?_;refine QAC ?_;refine wpH_tq 12 (.slice A ls.length c) (gS) ?_;refine QAC ?_;refine fL 11 (by first|kernel_rfl|decide +kernel) ?_;refine M8 (v:=.slice (some ⟨Z1.heap.size,0,none⟩) 2 2) (o:=.cells #[.string (str x),.string ⟨#[102,111,114,103,101,116,32,48]⟩] 9) 11 rfl nY ?hx gS lS ?_;case hx=>(go_simp<;>rfl)
 clear gS lS;intro gS lS;refine QAC ?_;have LT:Sl aX (World.alloc Z1 (.cells #[.string (str x),.string ⟨#[102,111,114,103,101,116,32,48]⟩] 9)).heap.size (World.alloc Z1 (.cells #[.string (str x),.string ⟨#[102,111,114,103,101,116,32,48]⟩] 9)) (some ⟨Z1.heap.size,0,none⟩) 2 [x,eY]:=fE (ls:=[x,eY]) (ax.new rfl) rfl nV;generalize World.alloc Z1 (.cells #[.string (str x),.string ⟨#[102,111,114,103,101,116,32,48]⟩] 9)=Z2 at gS lS LT ⊢;generalize Z1.heap.size=PV at LT ⊢;have LS:Sl aX Z2.heap.size Z2 A c ls:=OJ.out.wide;refine fL 13 (by first|kernel_rfl|decide +kernel) ?_;refine M8 (v:=.slice (some ⟨Z2.heap.size,0,none⟩) 2 2) (o:=.cells #[.slice (some ⟨PV,0,none⟩) 2 2,.slice A ls.length c] 48) 13 rfl nY ?hx gS lS ?_;case hx=>(go_simp<;>rfl)
 clear gS lS;intro gS lS;refine QAC ?_;have LL:Hu aX (World.alloc Z2 (.cells #[.slice (some ⟨PV,0,none⟩) 2 2,.slice A ls.length c] 48)).heap.size (World.alloc Z2 (.cells #[.slice (some ⟨PV,0,none⟩) 2 2,.slice A ls.length c] 48)) (some ⟨Z2.heap.size,0,none⟩) 2 [[x,eY],ls]:=ov LT LS rfl rfl rfl;clear LT LS;generalize World.alloc Z2 (.cells #[.slice (some ⟨PV,0,none⟩) 2 2,.slice A ls.length c] 48)=Z3 at gS lS LL ⊢;generalize Z2.heap.size=qZ2 at LL ⊢;refine fL 14 (by first|kernel_rfl|decide +kernel) ?_;refine vt 14 rfl nY ?hx gS lS (HJ.out _ _ LL) (fun e w' ⟨_,_,h1,_,δ,h2⟩=>⟨_,δ,h1,h2⟩) ?_;case hx=>go_simp
 clear gS lS LL;rintro v Z4 ⟨jA,jc,hv,UB,_,e⟩ gS lS;injection hv with hv;subst hv;refine QAC ?_;clear e;refine fL 15 (by first|kernel_rfl|decide +kernel) ?_;refine vt 15 rfl nY ?hx gS lS (Vg.out _ _ _ gS lS UB) (fun e w' ⟨_,δ,h1,h2,_⟩=>⟨_,δ,h1,h2⟩) ?_;case hx=>go_simp
 clear gS lS UB;rintro v Z5 ⟨b,_,hv,e,hr⟩ gS lS;injection hv with hv;subst hv;refine QAC ?_;clear e;cases b with
 |false=>
  clear hr
  refine wpH_tq 16 (.bool true) (gS) ?_
  refine QAC ?_
  refine wpH_tq 17 (.bool true) (gS) ?_
  refine QAC ?_
  refine wpH_tq 18 (.bool true) (gS) ?_
  refine QAC ?_
  refine dV 19 (undef) rfl nP (Or.inr ⟨nY,rfl⟩) (gS) ?_
  refine QAC ?_
  refine dV 20 (undef) rfl nP (Or.inr ⟨nY,rfl⟩) (gS) ?_
  refine QAC ?_
  refine dV 21 (undef) rfl nP (Or.inr ⟨nY,rfl⟩) (gS) ?_
  refine QAC ?_
  refine dV 22 (undef) rfl nP (Or.inr ⟨nY,rfl⟩) (gS) ?_
  refine QAC ?_
  refine wpH_tq 23 (.bool true) (gS) ?_
  refine QAC ?_
  refine wpAnyH_done nP ?_ _
  refine QCF ?_
  intro n1 n2 n3 n4 n5 n6 n7
  go_wp2_with (go_at_call 24;refine(dz _ HL.out.up).mono ?_;rintro e w1 ⟨rfl,δ2,rfl⟩)
  go_ret
  exact⟨rfl,ag⟩
 |true=>
  obtain⟨Gy,hv,UC⟩:=hr rfl
  have Pc:=qh Gy
  have HV:=qh hv
  clear hr Gy hv UC
  have Uj:x.length<=1000:=nT (Pc.out.2.2 x nV) nU
  have SU:Hid (∀W:nJ,Calls nH 27 #[.string (str x)] W (fR (.ord q s n c') W)):=qh fun W=>HO.out▸ke x Uj W
  refine wpH_tq 16 (.bool false) (gS) ?_
  refine QAC ?_
  refine wpH_tq 17 (.bool false) (gS) ?_
  refine QAC ?_
  refine wpH_tq 18 (.bool false) (gS) ?_
  refine QAC ?_
  refine dV 19 (aO r t) rfl nP (cV ai nY _ rfl rfl (fun W h=>ax.dM (hg:=h) X2.out) rfl) (gS) ?_
  refine QAC ?_
  refine wpH_tq 20 (.string (str x)) (gS) ?_
  refine QAC ?_
  refine fL 21 (by first|kernel_rfl|decide +kernel) ?_
  refine vt 21 rfl nY ?hx gS lS (SU.out _) (fun e w' ⟨_,δ,h1,h2,_⟩=>⟨_,δ,h1,h2⟩) ?_
  case hx=>go_simp
  clear gS lS
  rintro vv Z6 ⟨v,δ,hv,e,hL⟩ gS lS
  injection hv with hv
  subst hv
  refine QAC ?_
  rw[<-e] at hL
  clear e
  refine fL 22 (by first|kernel_rfl|decide +kernel) ?_
  refine Qg 22 rfl nY ?hx gS lS (by have:=vl r t HV.out q c' s n HQ.out.1 HQ.out.2.1 HQ.out.2.2 vv _ _ (xE.out.wide (W:=Z6)) hL (hB:=⟨nR _⟩);rw[HH.out] at this;exact this) ?_
  case hx=>go_simp
  clear gS lS
  intro δ gS lS
  refine QAC ?_
  generalize af Z6 δ=Z7 at gS lS ⊢
  refine wpH_tq 23 (.bool hh) (gS) ?_
  refine QAC ?_
  refine wpAnyH_done nP ?_ _
  clear hL SU
  cases hh with
  |true=>
   have n1:au w.heap.size w Z7:=dQ (inferInstance:au w.heap.size w X) gS
   have n2:Le w.heap.size Z7:=⟨nT (inferInstance:Le w.heap.size X).out lS.out⟩
   have n3:au B w Z7:=⟨⟨n1.out.1,n1.out.2.1,n1.out.2.2.1,fun b hb=>n1.out.2.2.2 b (nL hb hB.out)⟩⟩
   have n4:Le B Z7:=⟨nT hB.out n2.out⟩
   have n5:au 8 w Z7:=⟨⟨n1.out.1,n1.out.2.1,n1.out.2.2.1,fun b hb=>n1.out.2.2.2 b (nL hb h8.out)⟩⟩
   have n6:Le 8 Z7:=⟨nT h8.out n2.out⟩
   have n7:Le Z7.heap.size Z7:=⟨nR _⟩
   go_wp2_with (go_at_call 24;refine(dz _ HL.out.up).mono ?_;rintro e w1 ⟨rfl,δ2,rfl⟩)
   go_ret
   exact⟨rfl,ag⟩
  |false=>
   have y1:au w.heap.size w Z7:=dQ (inferInstance:au w.heap.size w X) gS
   have y2:Le w.heap.size Z7:=⟨nT (inferInstance:Le w.heap.size X).out lS.out⟩
   have y3:au B w Z7:=⟨⟨y1.out.1,y1.out.2.1,y1.out.2.2.1,fun b hb=>y1.out.2.2.2 b (nL hb hB.out)⟩⟩
   have y4:Le B Z7:=⟨nT hB.out y2.out⟩
   have y5:au 8 w Z7:=⟨⟨y1.out.1,y1.out.2.1,y1.out.2.2.1,fun b hb=>y1.out.2.2.2 b (nL hb h8.out)⟩⟩
   have y6:Le 8 Z7:=⟨nT h8.out y2.out⟩
   have y7:Le Z7.heap.size Z7:=⟨nR _⟩
   obtain⟨Y,hY⟩:∃Y,Z7=Y:=⟨_,rfl⟩
   subst hY
   have X3:Hid (ax Z7 g3 39 (aE r t)):=qh (ax.dM (hg:=gS) X2.out)
   clear xE OJ Vg X2 HK h28
   have HX:Hid (∀y∈ls,y.length<=60):=qh fun y hy=>Pc.out.2.2 y (by simp[hy])
   have Vj:Hid (∀y∈ls,y.length<=1000):=qh fun y hy=>nT (HX.out y hy) nU
   have HLm:Hid (∀y∈x::eY::ls,y.length<=1000):=qh fun y hy=>nT (Pc.out.2.2 y hy) nU
   go_wp2_with fail
   go_loopg [7] ls.length (fun gn s7 wr=>∃(j:Nat) (δ:nJ),j<=ls.length/\gn=ls.length-j/\s7=.int .i64 j/\wr=af Z7 δ/\Hid (∀p,p<j->ku (nth ls p)=false))
   case atStart=>exact⟨0,Z7,nE _,rfl,rfl,aq,qh fun p hp=>absurd hp (Nat.not_lt_zero _)⟩
   case round=>
    obtain⟨j,δ2,hj,rfl,rfl,rfl,HP⟩:=hrel;by_cases hlt:j<ls.length
    ·have hjl:(j:Int)<(ls.length:Int):=nQ;have hj0:¬(j:Int)<0:=nQ;obtain⟨sb,so,rfl,xj,e0⟩:=(HS.out.up (w':=Z7)).mh hlt;have isb:Lt sb Z7:=⟨nL xj y4.out⟩;have hl:=Vj.out _ (aV ls hlt);obtain⟨lj,yM⟩:∃x,nth ls j=x:=⟨_,rfl⟩;rw[yM] at e0 hl;clear xj;by_cases LU:lG (bK lj)=4
     ·have HK:=qh fun(W:nJ)=>zW lj hl 4 LU W;clear yM LU;go_wp2_with (first|(go_at_call 21;refine(HK.out _).mono ?_;rintro e w1 ⟨rfl,δ3,rfl⟩)|(go_at_call 24;refine(dz _ HL.out.up).mono ?_;rintro e w1 ⟨rfl,δ4,rfl⟩));go_ret;exact⟨rfl,ag⟩
     ·obtain⟨kn,hkn⟩:∃n,lG (bK lj)=n:=⟨_,rfl⟩;have HK:=qh fun(W:nJ)=>zW lj hl kn hkn W;have acr:¬kn=4:=by rw[<-hkn];exact LU
      have agf:decide (kn=4)=false:=decide_eq_false acr;have SG:Hid (∀p,p<j+1->ku (nth ls p)=false):=qh fun p hp=>by
       rcases Nat.lt_succ_iff_lt_or_eq.1 hp with h|rfl
       ·exact HP.out p h
       ·rw[yM];rcases hw:ku lj with _|_
        ·rfl
        ·exact absurd (Ny.2 hw) LU
      clear yM LU hkn;go_wp2_with (go_at_call 21;refine(HK.out _).mono ?_;rintro e w1 ⟨rfl,δ3,rfl⟩);go_roundg (ls.length-(j+1))
      case measure=>omega
      case rel=>exact⟨j+1,_,nQ,rfl,by go_num,aq,SG⟩
    ·obtain rfl:j=ls.length:=by omega
     have hw:∀l∈ls,ku l=false:=fun l hl=>by obtain⟨p,hp,rfl⟩:=List.mem_iff_getElem.1 hl;have:=HP.out p hp;rwa [bR _ hp] at this
     have xm:¬(ls.length:Int)<(ls.length:Int):=nQ;obtain⟨f1,f2,f3,f4⟩:=NU HO.out Dm HH.out hw;have hal:=sD ls (bY t);obtain⟨d1,hd1⟩:∃d,(dJ (bY t) (x::eY::ls)).1=d:=⟨_,rfl⟩;obtain⟨d2,XI⟩:∃d,(dJ (bY t) ls).1=d:=⟨_,rfl⟩;obtain⟨a2,XN⟩:∃d,(dJ (bY t) ls).2=d:=⟨_,rfl⟩;rw[XN] at f1 hal;rw[hd1,XI] at f2;rw[hd1] at f3;rw[XI] at f4;obtain⟨td,o1,n1⟩:=d1;obtain⟨td2,o2,n2⟩:=d2;simp only[] at f2 f3 f4;subst f2 f3 f4;have VV:Hid (∀(W:nJ) (A:Option Addr) (c:Nat),au B w W->Le B W->au 8 w W->Le 8 W->au w.heap.size w W->Le w.heap.size W->Sl aX W.heap.size W A c (x::eY::ls)->Calls nH 25 #[aO r t,.slice A m c] W (wh m ⟨td,[],n1⟩ (iq::iq::a2) W)):=
      qh fun W A c _ _ _ _ _ _ hs=>qS r t (x::eY::ls) A c HV.out (by have:=Pb.out;simp;omega) HLm.out _ _ hd1 f1 m (by have:=Pb.out;simp;omega) W.heap.size W H.out.wide HL.out.up hs (hB:=⟨nR _⟩)
     have Mf:Hid (∀(W:nJ),au B w W->Le B W->au 8 w W->Le 8 W->Calls nH 25 #[aO r t,.slice A ls.length c] W (wh ls.length ⟨td,[],n2⟩ a2 W)):=
      qh fun W _ _ _ _=>qS r t ls A c HV.out nQ Vj.out _ _ XI XN ls.length rfl B W H.out.up HL.out.up HS.out.up
     have KU:Hid (∀(W:nJ) (A:Option Addr),Hu aX W.heap.size W A 2 [[iq,iq],a2]->Calls nH 28 #[.slice A 2 2] W fun e w'=>∃(jA:Option Addr) (jc:Nat),e=.returned (.slice jA m jc)/\Sl aX w'.heap.size w' jA jc (iq::iq::a2)/\∃δ,w'=af W δ):=qh fun W A hs=>by have e:[[iq,iq],a2].flatten=iq::iq::a2:=nV;have:=yL [[iq,iq],a2] A 2 W.heap.size W hs (hB:=⟨nR _⟩) nV (fun y hy=>by simp only[List.mem_cons,List.not_mem_nil,or_false] at hy;rcases hy with rfl|rfl;(simp);omega);rw[e,show(iq::iq::a2).length=m by have:=Pb.out;simp;omega] at this;exact this
     have Wb:=qh hal;have Vm:Hid ((iq::iq::a2).length=m):=qh (by have:=Pb.out;simp;omega);clear f1 hal hd1 XI XN hw HP hlt hj;have X4:Hid (ax (af Z7 δ2) g3 39 (aE r t)):=qh (X3.out.af _);go_wp2_with (refine aT ai nY _ rfl rfl X4.out rfl ?_);refine(qn r t ls A c B _ H.out.up HS.out.up).mono ?_;unfold kP;rintro e w1 ⟨b,δ1,rfl,rfl,hr⟩;clear hr;cases b with
     |false=>
      go_wp2_with (go_at_call 24;refine(dz _ HL.out.up).mono ?_;rintro e w1 ⟨rfl,δ2,rfl⟩)
      go_ret
      exact⟨rfl,ag⟩
     |true=>
      go_upto_region 10 with fail
      refine aL fun W9 O0=>?_
      have Es:Le B W9:=fI O0
      have Gh:au B w W9:=gu O0
      obtain⟨sg,tX,tW,sM⟩:=CG 8 w O0
      have X9:Hid (ax W9 g3 39 (aE r t)):=by rw[O0.out];exact qh (X4.out.af _)
      clear O0 X3 X4
      have S9:Hid (Sl aX W9.heap.size W9 A c ls):=qh HS.out.wide
      refine C0 6 W9 (abV r t x A c ls m) (F:=_) (n:=m) (a:=iq::iq::a2) (d:=⟨td,[],n1⟩) (z:=.bool true) (fun vs=>by simp only[OH.jH,Act.put,List.getElem_toArray,List.getElem_cons_succ,List.getElem_cons_zero,List.setIfInBounds_toArray,List.set_cons_zero,List.set_cons_succ,Nat.reduceAdd];rfl) ⟨inferInstance,inferInstance⟩ ?hU ?hpre ?hcall ?hend (.tmp 9) (.tmp 68) ai ⟨rfl,rfl⟩ ⟨rfl,rfl⟩ ⟨rfl,rfl⟩ ⟨rfl,rfl⟩ ⟨rfl,rfl⟩ ⟨rfl,rfl⟩ ⟨rfl,rfl⟩ ⟨rfl,rfl⟩ ⟨rfl,rfl⟩ ⟨rfl,rfl⟩ ?r1 ?r2 ?r6 ?r7 ?r8 nP
      case hU=>
       intro i v W W' hi h g l;match i,hi with
       |0,_=>exact h
       |1,_=>exact h
       |2,_=>obtain⟨A,e,k⟩:=h;exact⟨A,e,k.wide⟩
       |3,_=>exact h
       |4,_=>obtain⟨A,e,k⟩:=h;exact⟨A,e,k.wide⟩
       |5,_=>obtain⟨A,c,e,k⟩:=h;exact⟨A,c,e,k.wide⟩
      case hpre=>
       intro put i hi vs W hd g l;match i,hi with
       |0,_=>exact Ll put rfl (cV (S:=fun W=>au W9.heap.size W9 W) ai nY _ rfl rfl (fun W h=>ax.dM (hg:=h) X9.out) rfl) g rfl
       |1,_=>exact qq (w':=W) put rfl rfl nW ⟨inferInstance,inferInstance⟩ rfl
       |2,_=>
        have h1:vs 1=.string (str x):=hd 1 nP nU
        exact qq (v:=.slice (some ⟨W.heap.size,0,none⟩) 2 2) (w':=W.alloc (.cells #[.string (str x),.string ⟨#[102,111,114,103,101,116,32,48]⟩] 9)) put rfl rfl (by go_simp<;>rfl) ⟨inferInstance,inferInstance⟩ ⟨_,rfl,fE (ls:=[x,eY]) (ax.new rfl) rfl nV⟩
       |3,_=>exact qq (w':=W) (v:=.slice A ls.length c) put rfl rfl nW ⟨inferInstance,inferInstance⟩ rfl
       |4,_=>
        obtain⟨A1,h2,hs⟩:=hd 2 nP nU
        have h3:vs 3=.slice A ls.length c:=hd 3 nP nU
        exact qq (v:=.slice (some ⟨W.heap.size,0,none⟩) 2 2) (w':=W.alloc (.cells #[.slice A1 2 2,.slice A ls.length c] 48)) put rfl rfl (by go_simp<;>rfl) ⟨inferInstance,inferInstance⟩ ⟨_,rfl,ov hs (S9.out.wide) rfl rfl rfl⟩
       |5,_=>
        obtain⟨A1,h4,hs⟩:=hd 4 nP nU
        refine zv put rfl rfl nW (HJ.out W A1 hs) ?_
        rintro e w' ⟨jA,jc,rfl,UB,δ,rfl⟩
        exact⟨_,rfl,⟨inferInstance,inferInstance⟩,_,_,rfl,UB⟩
      case hcall=>intro put vs W hd g l;have h0:vs 0=aO r t:=hd 0 nP nU;obtain⟨A1,c1,h5,hs⟩:=hd 5 nP nU;have gS:=g;have lS:=l;have k1:au w.heap.size w W:=dQ (inferInstance:au w.heap.size w W9) gS;have k2:Le w.heap.size W:=⟨nT (inferInstance:Le w.heap.size W9).out lS.out⟩;refine QBI ?_;intro k3 k4 k5 k6;have k7:Le W.heap.size W:=⟨nR _⟩;exact zv put rfl rfl nW (VV.out W A1 c1 k3 k4 k5 k6 k1 k2 hs) fun e w' h=>h.to
      case r1=>intro vs W;go_simp
      case r2=>intro vs W v1 v2 v3 h;exact⟨nW,nW,nW,nW⟩
      case r6=>intro vs W;go_simp;rfl
      case r7=>intro vs W;exact⟨nW,nW,nW⟩
      case r8=>exact⟨rfl,fun vs=>⟨rfl,rfl⟩⟩
      case hend=>
       intro vs W6 aA ac rN lA lc ga e6 e7 e9 eA gS lS hA hT hL C9 hgb;replace e6:vs 12=.pointer (some ⟨ga,0,none⟩):=e6;replace e7:vs 13=.slice aA m ac:=e7;replace e9:vs 15=.slice lA 0 lc:=e9;replace eA:vs 16=.bool true:=eA;have E6:=qh C9;have SA6:Hid (Sl aX W6.heap.size W6 aA ac (iq::iq::a2)):=qh (sy hA Vm.out);have ST6:Hid (aJ W6.heap.size W6 rN td):=qh hT.is;have X6:Hid (ax W6 g3 39 (aE r t)):=qh (ax.dM (hg:=gS) X9.out);clear hA hT hL C9 hgb X9 S9 VV HJ;have k1:au w.heap.size w W6:=dQ (inferInstance:au w.heap.size w W9) gS;have k2:Le w.heap.size W6:=⟨nT (inferInstance:Le w.heap.size W9).out lS.out⟩;refine QBE ?_;intro k3 k4 k5 k6 k7;go_wp2_with (refine aT ai nY _ rfl rfl X6.out rfl ?_);refine(Mf.out W6 inferInstance inferInstance inferInstance inferInstance).mono ?_;unfold wh;rintro e w1 ⟨bA,bc,rM,mA,mc,δ6,rfl,rfl,oA,oT,oL⟩;have OA:=qh oA;have OT:=qh oT;clear oA oT oL Mf;go_upto_region 12 with(refine jR (cs':=aE rM td) ai rfl _ _ rfl rfl rfl rfl rfl (aM _ _) ?_);obtain⟨gb,hgb⟩:∃g,(af W6 δ6).heap.size=g:=⟨_,rfl⟩;refine aL fun W7 DV=>?_;have tV:Le B W7:=fI DV;have Bs:au B w W7:=gu DV;obtain⟨DJ,Gk,Gj,Gi⟩:=CG 8 w DV;have j4:au W6.heap.size W6 W7:=gu DV;have j5:Le W6.heap.size W7:=fI DV;have F7:Hid (ax W7 gb 39 (aE rM td)):=by rw[DV.out];exact qh (ax.new hgb.symm)
       have SB7:Hid (Sl aX W7.heap.size W7 bA bc a2):=by rw[DV.out];exact qh (sy (OA.out.alloc _) Wb.out)
       have SU7:Hid (aJ W7.heap.size W7 rM td):=by rw[DV.out];exact qh (OT.out.alloc _).is
       clear DV OA OT;have j6:Le W7.heap.size W7:=⟨nR _⟩;rw[hgb];clear hgb;have E7:Hid (ax W7 ga 39 (aE rN td)):=qh (ax.dM E6.out);have SA7:Hid (Sl aX W7.heap.size W7 aA ac (iq::iq::a2)):=qh SA6.out.wide;have ST7:Hid (aJ W7.heap.size W7 rN td):=qh ST6.out.wide;clear E6 SA6 ST6 X6;go_wp2_with fail;refine gm fun U hU=>?_;obtain⟨Wl,GF⟩:∃Wl,W7.alloc (.cells #[.string ⟨#[111,107]⟩,.string ⟨#[111,107]⟩] 9)=Wl:=⟨_,rfl⟩;have LTl:Sl aX Wl.heap.size Wl (some ⟨W7.heap.size,0,none⟩) 2 [iq,iq]:=by rw[<-GF];exact fE (ls:=[iq,iq]) (ax.new rfl) rfl nV
       have SBl:Sl aX Wl.heap.size Wl bA bc a2:=by rw[<-GF];exact SB7.out.wide
       have w1l:au W7.heap.size W7 Wl:=by rw[<-GF];infer_instance
       have w2l:Le W7.heap.size Wl:=by rw[<-GF];infer_instance
       have w3l:au w.heap.size w Wl:=by rw[<-GF];infer_instance
       have w4l:Le w.heap.size Wl:=by rw[<-GF];infer_instance
       have w5l:au 8 w Wl:=by rw[<-GF];infer_instance
       have w6l:Le 8 Wl:=by rw[<-GF];infer_instance
       have hsz:Wl.heap.size=W7.heap.size+1:=by rw[<-GF];simp
       rw[GF] at hU;clear GF;have slU:Hid (Hu aX U.heap.size U (some ⟨W7.heap.size+1,0,none⟩) 2 [[iq,iq],a2]):=by rw[<-hsz];exact qh (ov LTl SBl rfl Wb.out hU)
       clear hsz;refine QEU ?_;intro u1 u2 u3 u4;have u5:au 8 w U:=by rw[<-hU];infer_instance
       have u6:Le 8 U:=by rw[<-hU];infer_instance
       clear hU;refine(KU.out U _ slU.out).mono ?_;rintro e w1 ⟨jA,jc,rfl,hj,δ8,rfl⟩;have HJS:=qh hj;clear hj;have l8:Le (af U δ8).heap.size (af U δ8):=⟨nR _⟩;have SA8:Hid (Sl aX (af U δ8).heap.size (af U δ8) aA ac (iq::iq::a2)):=qh SA7.out.wide;go_wp2_with (first|(refine aT ai nY _ rfl rfl (ax.dM E7.out) rfl ?_)|(refine aT ai nY _ rfl rfl (ax.dM F7.out) rfl ?_)|(go_at_call 20;refine(jk aA jA ac jc (iq::iq::a2) (af U δ8).heap.size _ SA8.out.up HJS.out.up _ _ Vm.out Vm.out).mono ?_;rintro e w1 ⟨rfl,δ9,rfl⟩)|(go_at_call 19;refine(yC rN rM td W7.heap.size _ ST7.out.up SU7.out.up).mono ?_;rintro e w1 ⟨rfl,δ9,rfl⟩)|(go_at_call 24;refine(dz _ HL.out.up).mono ?_;rintro e w1 ⟨rfl,δ9,rfl⟩));go_ret;exact⟨rfl,ag⟩
end
end Go.Proofs.YtdmedlkonaclnaaGreatDoor
