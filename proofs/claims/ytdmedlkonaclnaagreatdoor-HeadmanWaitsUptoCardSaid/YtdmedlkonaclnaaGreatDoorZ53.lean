/- A part of the proof that a law of layer 12 holds, cut small by a program (names and blanks): Hk20. -/
import Derived.Test.YtdmedlkonaclnaaGreatDoorZ37
import Derived.Test.YtdmedlkonaclnaaGreatDoorZ41
import Derived.Test.YtdmedlkonaclnaaGreatDoorZ42
import Derived.Test.YtdmedlkonaclnaaGreatDoorZ44
import Derived.Test.YtdmedlkonaclnaaGreatDoorZ50
set_option maxRecDepth 100000
set_option maxHeartbeats 40000000
set_option linter.unusedVariables false
set_option linter.unusedSimpArgs false
namespace Go.Proofs.YtdmedlkonaclnaaGreatDoor
open Go.RowKit
open Nat renaming le_trans → nT, lt_of_lt_of_le → nL, le_refl → nR, zero_le → nE
open Go.Proofs.Tryz renaming prog → nH
open Go renaming World → nJ, Value → nK
section
open Hd
def abS(r:aQ)(t:aW)(x:bz)(A:Option Addr)(c:Nat)(ls:List bz)(n:Nat):Nat->nK->nJ->Prop
 |0,v,_=>v=aO r t
 |1,v,_=>v=.string (str x)
 |2,v,W=>∃A,v=.slice A 1 1/\Sl aX W.heap.size W A 1 [x]
 |3,v,_=>v=.slice A ls.length c
 |4,v,W=>∃A,v=.slice A 2 2/\Hu aX W.heap.size W A 2 [[x],ls]
 |_,v,W=>∃A c,v=.slice A n c/\Sl aX W.heap.size W A c (x::ls)
def abU(r:aQ)(t:aW)(A:Option Addr)(c n j:Nat):Nat->nK->nJ->Prop
 |0,v,_=>v=aO r t
 |1,v,_=>v=.slice A n c
 |2,v,_=>v=.int .i64 j
 |_,v,_=>v=.slice A j c
theorem Tq(b:Bool):lZ 0 b=[32,48,58]++me b:=by cases b<;>decide +kernel
theorem JM(r:aQ)(t:aW)(x:bz)(hx:x.length<=1048576)(A:Option Addr)(c:Nat)(ls:List bz)(B:Nat)(w:nJ)(hT:aJ B w r t)(hS:Sl aX B w A c ls)[hB:Le B w][h8:Le 8 w](hL:cT w):Calls nH 6 #[aO r t,.string (str x),.slice A ls.length c] w fun e w'=>e=.returned (.bool true)/\∃δ,w'=af w δ:=by
 have H:=qh hT;have HL:=qh hL;have HS:=qh hS;clear hT hL hS;go_enter Tryz.func6,Tryz.ntmps6;go_upto_region 1 with fail;refine QCN ?_;intro X hX cJ dF cU dA dD eI ju X2 g3 rj;rw[rj] at X2 ⊢;have ig3:Lt g3 X:=X2.out.lt;clear hX rj;by_cases hk:lG (bK x)=4;case neg=>
  refine QCL ?_;intro kn hkn HK k4 Zh k4c;repeat (go_big_quiet_step ((first|(go_at_call 21;exact Calls.bN (HK.out _)))))
  refine QBT ?_;rintro _ ⟨δ1,rfl⟩;go_wp2_with (go_at_call 24;refine(dz _ HL.out.up).mono ?_;rintro e w1 ⟨rfl,δ2,rfl⟩);go_ret;exact⟨rfl,ag⟩
 have HK:=qh fun(W:nJ)=>qD x hx 4 hk W;by_cases h28:(12:Int)<(ls.length:Int)
 ·skip;refine wpRl ?_;repeat (go_big_quiet_step ((first|(go_at_call 21;exact Calls.bN (HK.out _)))))
  refine QBT ?_;rintro _ ⟨δ1,rfl⟩;go_wp2_with (go_at_call 24;refine(dz _ HL.out.up).mono ?_;rintro e w1 ⟨rfl,δ2,rfl⟩);go_ret;exact⟨rfl,ag⟩
 have hls:ls.length<=12:=nQ;obtain⟨q,s,n,c',hr⟩:=Ls hk;have HO:=qh hr;obtain⟨m,hm⟩:∃m,(x::ls).length=m:=⟨_,rfl⟩;refine QEJ ?_;intro hp HQ xE OJ;have Vg:Hid (∀(W:nJ) (A:Option Addr) (c:Nat),au X.heap.size X W->Le X.heap.size W->Sl aX W.heap.size W A c (x::ls)->Calls nH 22 #[aO r t,.slice A m c] W (kP t (x::ls) W)):=qh fun W A c i1 i2 hs=>by have:=qn r t (x::ls) A c W.heap.size W (xE.out.wide (W:=W)) hs (hB:=⟨nR _⟩);rw[hm] at this;exact this
 have aaA:Hid (∀(W:nJ),au X.heap.size X W->Le X.heap.size W->Calls nH 22 #[aO r t,.slice A ls.length c] W (kP t ls W)):=qh fun W i1 i2=>qn r t ls A c W.heap.size W (xE.out.wide (W:=W)) (OJ.out.wide (W:=W)) (hB:=⟨nR _⟩);have HJ:Hid (∀(W:nJ) (A:Option Addr),Hu aX W.heap.size W A 2 [[x],ls]->Calls nH 28 #[.slice A 2 2] W fun e w'=>∃(jA:Option Addr) (jc:Nat),e=.returned (.slice jA m jc)/\Sl aX w'.heap.size w' jA jc (x::ls)/\∃δ,w'=af W δ):=qh fun W A hs=>by have e:[[x],ls].flatten=x::ls:=nV;have:=yL [[x],ls] A 2 W.heap.size W hs (hB:=⟨nR _⟩) nV (fun y hy=>by simp only[List.mem_cons,List.not_mem_nil,or_false] at hy;rcases hy with rfl|rfl;(simp);omega);rw[e,hm] at this;exact this
 have ZJ:m=ls.length+1:=by rw[<-hm];simp
 have Pb:=qh ZJ;clear hk hr hp hm ZJ;refine wp_region_held (S:=fun W=>au X.heap.size X W) nP ?_;change wpAnyH _ _ _ _ _ _ _ _ (World.drew _);refine wpH_tq 0 (.string (str x)) (inferInstance) ?_;refine QAC ?_;have gS:au X.heap.size X X.drew:=inferInstance;have lS:Le X.heap.size X.drew:=inferInstance;generalize X.drew=Z0 at gS lS ⊢;refine fL 1 (by first|kernel_rfl|decide +kernel) ?_;refine Qg 1 rfl nY ?hx gS lS (HK.out _) ?_;case hx=>go_simp
 clear gS lS;intro δ gS lS;refine QAC ?_;generalize af Z0 δ=Z1 at gS lS ⊢;refine wpH_tq 2 (.bool false) (gS) ?_;refine QAC ?_;refine wpH_tq 3 (.bool false) (gS) ?_;refine QAC ?_;refine wpH_tq 4 (.slice A ls.length c) (gS) ?_;refine QAC ?_;refine wpH_tq 5 (.int .i64 ls.length) (gS) ?_;refine QAC ?_;refine wpH_tq 6 (.bool false) (gS) ?_;refine QAC ?_;refine wpH_tq 7 (.bool false) (gS) ?_;refine QAC ?_;refine wpH_tq 8 (.bool false) (gS) ?_;refine QAC ?_;refine dV 9 (aO r t) rfl nP (cV ai nY _ rfl rfl (fun W h=>ax.dM (hg:=h) X2.out) rfl) (gS) ?_;refine QAC ?_;refine wpH_tq 10 (.string (str x)) (gS) ?_;refine QAC ?_;refine wpH_tq 12 (.slice A ls.length c) (gS) ?_;refine QAC ?_;refine fL 11 (by first|kernel_rfl|decide +kernel) ?_;refine M8 (v:=.slice (some ⟨Z1.heap.size,0,none⟩) 1 1) (o:=.cells #[.string (str x)] 9) 11 rfl nY ?hx gS lS ?_;case hx=>(go_simp<;>rfl)
 clear gS lS;intro gS lS;refine QAC ?_;refine QEW ?_;intro LT;generalize World.alloc Z1 (.cells #[.string (str x)] 9)=Z2 at gS lS LT ⊢;generalize Z1.heap.size=PV at LT ⊢;have LS:Sl aX Z2.heap.size Z2 A c ls:=OJ.out.wide;refine fL 13 (by first|kernel_rfl|decide +kernel) ?_;refine M8 (v:=.slice (some ⟨Z2.heap.size,0,none⟩) 2 2) (o:=.cells #[.slice (some ⟨PV,0,none⟩) 1 1,.slice A ls.length c] 48) 13 rfl nY ?hx gS lS ?_;case hx=>(go_simp<;>rfl)
 clear gS lS;intro gS lS;refine QAC ?_;have LL:Hu aX (World.alloc Z2 (.cells #[.slice (some ⟨PV,0,none⟩) 1 1,.slice A ls.length c] 48)).heap.size (World.alloc Z2 (.cells #[.slice (some ⟨PV,0,none⟩) 1 1,.slice A ls.length c] 48)) (some ⟨Z2.heap.size,0,none⟩) 2 [[x],ls]:=ov LT LS rfl rfl rfl;clear LT LS;generalize World.alloc Z2 (.cells #[.slice (some ⟨PV,0,none⟩) 1 1,.slice A ls.length c] 48)=Z3 at gS lS LL ⊢;generalize Z2.heap.size=qZ2 at LL ⊢;refine fL 14 (by first|kernel_rfl|decide +kernel) ?_;refine vt 14 rfl nY ?hx gS lS (HJ.out _ _ LL) (fun e w' ⟨_,_,h1,_,δ,h2⟩=>⟨_,δ,h1,h2⟩) ?_;case hx=>go_simp
 clear gS lS LL;rintro v Z4 ⟨jA,jc,hv,UB,_,e⟩ gS lS;injection hv with hv;subst hv;refine QAC ?_;clear e;refine fL 15 (by first|kernel_rfl|decide +kernel) ?_;refine vt 15 rfl nY ?hx gS lS (Vg.out _ _ _ gS lS UB) (fun e w' ⟨_,δ,h1,h2,_⟩=>⟨_,δ,h1,h2⟩) ?_;case hx=>go_simp
 clear gS lS UB;rintro v Z5 ⟨b,_,hv,e,hr⟩ gS lS;injection hv with hv;subst hv;refine QAC ?_;clear e;cases b with
 |false=>
  clear hr
  refine wpH_tq 16 (.bool true) (gS) ?_
  refine QAC ?_
  refine wpH_tq 17 (.bool true) (gS) ?_
  refine QAC ?_
  refine wpH_tq 18 (.bool true) (gS) ?_
  refine QAC ?_
  refine dV 19 (undef) rfl nP (Or.inr ⟨nY,rfl⟩) (gS) ?_
  refine QAC ?_
  refine dV 20 (undef) rfl nP (Or.inr ⟨nY,rfl⟩) (gS) ?_
  refine QAC ?_
  refine dV 21 (undef) rfl nP (Or.inr ⟨nY,rfl⟩) (gS) ?_
  refine QAC ?_
  refine dV 22 (undef) rfl nP (Or.inr ⟨nY,rfl⟩) (gS) ?_
  refine QAC ?_
  refine wpH_tq 23 (.bool true) (gS) ?_
  refine QAC ?_
  refine wpAnyH_done nP ?_ _
  refine QCF ?_
  intro n1 n2 n3 n4 n5 n6 n7
  go_wp2_with (go_at_call 24;refine(dz _ HL.out.up).mono ?_;rintro e w1 ⟨rfl,δ2,rfl⟩)
  go_ret
  exact⟨rfl,ag⟩
 |true=>
  obtain⟨Gy,hv,UC⟩:=hr rfl
  have Pc:=qh Gy
  have HV:=qh hv
  clear hr Gy hv UC
  have Uj:x.length<=1000:=nT (Pc.out.2.2 x nV) nU
  refine wpH_tq 16 (.bool false) (gS) ?_
  refine QAC ?_
  refine wpH_tq 17 (.bool false) (gS) ?_
  refine QAC ?_
  refine wpH_tq 18 (.bool false) (gS) ?_
  refine QAC ?_
  refine dV 19 (aO r t) rfl nP (cV ai nY _ rfl rfl (fun W h=>ax.dM (hg:=h) X2.out) rfl) (gS) ?_
  refine QAC ?_
  refine wpH_tq 20 (.slice A ls.length c) (gS) ?_
  refine QAC ?_
  refine fL 21 (by first|kernel_rfl|decide +kernel) ?_
  refine vt 21 rfl nY ?hx gS lS (aaA.out _ gS lS) (fun e w' ⟨_,δ,h1,h2,_⟩=>⟨_,δ,h1,h2⟩) ?_
  case hx=>go_simp
  clear gS lS
  rintro v Z6 ⟨b',_,hv,e,hr⟩ gS lS
  injection hv with hv
  subst hv
  refine QAC ?_
  clear e hr
  cases b' with
  |false=>
   refine wpH_tq 22 (.bool true) (gS) ?_
   refine QAC ?_
   refine wpH_tq 23 (.bool true) (gS) ?_
   refine QAC ?_
   refine wpAnyH_done nP ?_ _
   have n1:au w.heap.size w Z6:=dQ (inferInstance:au w.heap.size w X) gS
   have n2:Le w.heap.size Z6:=⟨nT (inferInstance:Le w.heap.size X).out lS.out⟩
   have n3:au B w Z6:=⟨⟨n1.out.1,n1.out.2.1,n1.out.2.2.1,fun b hb=>n1.out.2.2.2 b (nL hb hB.out)⟩⟩
   have n4:Le B Z6:=⟨nT hB.out n2.out⟩
   have n5:au 8 w Z6:=⟨⟨n1.out.1,n1.out.2.1,n1.out.2.2.1,fun b hb=>n1.out.2.2.2 b (nL hb h8.out)⟩⟩
   have n6:Le 8 Z6:=⟨nT h8.out n2.out⟩
   have n7:Le Z6.heap.size Z6:=⟨nR _⟩
   go_wp2_with (go_at_call 24;refine(dz _ HL.out.up).mono ?_;rintro e w1 ⟨rfl,δ2,rfl⟩)
   go_ret
   exact⟨rfl,ag⟩
  |true=>
   refine wpH_tq 22 (.bool false) (gS) ?_
   refine QAC ?_
   refine wpH_tq 23 (.bool false) (gS) ?_
   refine QAC ?_
   refine wpAnyH_done nP ?_ _
   have y1:au w.heap.size w Z6:=dQ (inferInstance:au w.heap.size w X) gS
   have y2:Le w.heap.size Z6:=⟨nT (inferInstance:Le w.heap.size X).out lS.out⟩
   have y3:au B w Z6:=⟨⟨y1.out.1,y1.out.2.1,y1.out.2.2.1,fun b hb=>y1.out.2.2.2 b (nL hb hB.out)⟩⟩
   have y4:Le B Z6:=⟨nT hB.out y2.out⟩
   have y5:au 8 w Z6:=⟨⟨y1.out.1,y1.out.2.1,y1.out.2.2.1,fun b hb=>y1.out.2.2.2 b (nL hb h8.out)⟩⟩
   have y6:Le 8 Z6:=⟨nT h8.out y2.out⟩
   have y7:Le Z6.heap.size Z6:=⟨nR _⟩
   have HX:Hid (∀y∈ls,y.length<=60):=qh fun y hy=>Pc.out.2.2 y (by simp[hy])
   have Vj:Hid (∀y∈ls,y.length<=1000):=qh fun y hy=>nT (HX.out y hy) nU
   have HLm:Hid (∀y∈x::ls,y.length<=1000):=qh fun y hy=>nT (Pc.out.2.2 y hy) nU
   have SU:Hid (∀W:nJ,Calls nH 27 #[.string (str x)] W (fR (.ord q s n c') W)):=qh fun W=>HO.out▸ke x Uj W
   have X3:Hid (ax Z6 g3 39 (aE r t)):=qh (ax.dM (hg:=gS) X2.out)
   clear xE OJ Vg aaA X2 HK h28
   go_wp2_with fail
   refine(SU.out _).mono ?_
   unfold fR
   rintro e w1 ⟨v,δ1,rfl,rfl,hv⟩
   obtain⟨a1,p1,a2,p2,rfl,hq,hc⟩:=hv
   obtain⟨lcs,Q7⟩:∃a:Array nK,#[.int .i64 4,.int .i64 (cN q.w:Nat),.string (str (cj q.w)),.slice a1 q.a.length p1,.int .i64 (cN c'.w:Nat),.string (str (cj c'.w)),.slice a2 c'.a.length p2,.string (str [s]),.int .i64 n]=a:=⟨_,rfl⟩
   rw[Q7]
   have hl9:lcs.size=9:=by rw[<-Q7];rfl
   have hl1:lcs.all (·.oneCell')=true:=by rw[<-Q7];simp[Value.oneCell']
   have HLI:Hid (mF (af Z6 δ1).heap.size (af Z6 δ1) (.agg lcs) (.ord q s n c')):=qh ⟨a1,p1,a2,p2,by rw[<-Q7],hq,hc⟩
   clear hq hc Q7 SU
   go_upto_region 4 with(refine jR (cs':=lcs) cK rfl _ _ rfl rfl rfl rfl hl9 hl1 ?_)
   obtain⟨gl,NI⟩:∃g,(af Z6 δ1).heap.size=g:=⟨_,rfl⟩
   refine aL fun W1 aH=>?_
   have Es:Le B W1:=fI aH
   have Gh:au B w W1:=gu aH
   obtain⟨sg,tX,tW,sM⟩:=CG 8 w aH
   have BL1:Hid (ax W1 gl 68 lcs):=by rw[aH.out];exact qh (ax.new NI.symm)
   have LI1:Hid (mF W1.heap.size W1 (.agg lcs) (.ord q s n c')):=by rw[aH.out];exact qh (ow HLI.out)
   have X4:Hid (ax W1 g3 39 (aE r t)):=by rw[aH.out];exact qh (ax.alloc (X3.out.af _) _)
   clear aH HLI X3
   rw[NI]
   clear NI
   go_wp2_with fail
   go_loopg [8] ls.length (fun gn s8 wr=>∃(j:Nat) (δ:nJ),j<=ls.length/\gn=ls.length-j/\s8=.int .i64 j/\wr=af W1 δ/\Hid (∀p,p<j->ki (nth ls p)=true))
   case atStart=>exact⟨0,W1,nE _,rfl,rfl,aq,qh fun p hp=>absurd hp (Nat.not_lt_zero _)⟩
   case round=>
    obtain⟨j,δ2,hj,rfl,rfl,rfl,HP⟩:=hrel;by_cases hlt:j<ls.length
    ·have hjl:(j:Int)<(ls.length:Int):=nQ;have hj0:¬(j:Int)<0:=nQ;obtain⟨sb,so,rfl,xj,e0⟩:=(HS.out.up (w':=W1)).mh hlt;have isb:Lt sb W1:=⟨nL xj (inferInstance:Le B W1).out⟩;have hl:=Vj.out _ (aV ls hlt);obtain⟨lj,yM⟩:∃x,nth ls j=x:=⟨_,rfl⟩;rw[yM] at e0 hl;clear xj;obtain⟨kn,hkn⟩:∃n,lG (bK lj)=n:=⟨_,rfl⟩;have HK:=qh fun(W:nJ)=>zW lj hl kn hkn W;by_cases k4:kn=4
     ·subst k4;clear yM hkn;go_wp2_with (first|(go_at_call 21;refine(HK.out _).mono ?_;rintro e w1 ⟨rfl,δ3,rfl⟩)|(go_at_call 24;refine(dz _ HL.out.up).mono ?_;rintro e w1 ⟨rfl,δ4,rfl⟩));go_ret;exact⟨rfl,ag⟩
     by_cases k5:kn=5
     ·subst k5;clear yM hkn;go_wp2_with (first|(go_at_call 21;refine(HK.out _).mono ?_;rintro e w1 ⟨rfl,δ3,rfl⟩)|(go_at_call 24;refine(dz _ HL.out.up).mono ?_;rintro e w1 ⟨rfl,δ4,rfl⟩));go_ret;exact⟨rfl,ag⟩
     have Zh:(kn==4)=false:=by simpa using k4
     have k5b:(kn==5)=false:=by simpa using k5
     have k4d:decide (kn=4)=false:=decide_eq_false k4;have k5d:decide (kn=5)=false:=decide_eq_false k5;have SG:Hid (∀p,p<j+1->ki (nth ls p)=true):=qh fun p hp=>by
      rcases Nat.lt_succ_iff_lt_or_eq.1 hp with h|rfl
      ·exact HP.out p h
      ·rw[yM];rcases hw:ki lj with _|_
       ·exfalso;rcases Nz.2 hw with h|h
        ·exact k4 (hkn.symm.trans h)
        ·exact k5 (hkn.symm.trans h)
       ·rfl
     clear yM hkn;go_wp2_with (go_at_call 21;refine(HK.out _).mono ?_;rintro e w1 ⟨rfl,δ3,rfl⟩);go_roundg (ls.length-(j+1))
     case measure=>omega
     case rel=>exact⟨j+1,_,nQ,rfl,by go_num,aq,SG⟩
    ·obtain rfl:j=ls.length:=by omega
     have xm:¬(ls.length:Int)<(ls.length:Int):=nQ;have HWO:Hid (∀l∈ls,ki l=true):=qh fun l hl=>by obtain⟨p,hp,rfl⟩:=List.mem_iff_getElem.1 hl;have:=HP.out p hp;rwa [bR _ hp] at this
     have Ii:=sr (t:=t) HWO.out;have hal:=sD ls (bY t);have Rj:=sD (x::ls) (bY t);obtain⟨D1,Rq⟩:∃d,dJ (bY t) (x::ls)=d:=⟨_,rfl⟩;obtain⟨⟨td1,od1,nd1⟩,an1⟩:=D1;obtain⟨t2,ND⟩:∃d,(cX t ls).1=d:=⟨_,rfl⟩;obtain⟨an2,XN⟩:∃d,(cX t ls).2=d:=⟨_,rfl⟩;rw[ND,XN] at Ii;rw[Ii] at hal;rw[Rq] at Rj;replace hal:an2.length=ls.length:=hal;replace Rj:an1.length=m:=by rw[Pb.out];simpa using Rj
     have Bh:=qh Rq;have Io:=qh ND;have ab3:=qh XN;have VV:Hid (∀(W:nJ) (A:Option Addr) (c:Nat),au B w W->Le B W->au 8 w W->Le 8 W->au w.heap.size w W->Le w.heap.size W->Sl aX W.heap.size W A c (x::ls)->Calls nH 25 #[aO r t,.slice A m c] W (wh m ⟨td1,od1,nd1⟩ an1 W)):=
      qh fun W A c _ _ _ _ _ _ hs=>qS r t (x::ls) A c HV.out (by have:=Pb.out;simp;omega) HLm.out _ _ (by rw[Rq]) (by rw[Rq]) m (by have:=Pb.out;simp;omega) W.heap.size W H.out.wide HL.out.up hs (hB:=⟨nR _⟩)
     have Mf:Hid (∀(W:nJ),au B w W->Le B W->au 8 w W->Le 8 W->Calls nH 25 #[aO r t,.slice A ls.length c] W (wh ls.length ⟨t2,[],0⟩ an2 W)):=
      qh fun W _ _ _ _=>qS r t ls A c HV.out nQ Vj.out _ _ (by rw[Ii]) (by rw[Ii]) ls.length rfl B W H.out.up HL.out.up HS.out.up
     have HRJ:Hid (∀(W:nJ) (j:Nat),j<=ls.length->au B w W->Le B W->au 8 w W->Le 8 W->Calls nH 25 #[aO r t,.slice A j c] W (wh j ⟨(cX t (ls.take j)).1,[],0⟩ (cX t (ls.take j)).2 W)):=
      qh fun W j hj _ _ _ _=>by have hq:=sr (t:=t) (ls:=ls.take j) fun l hl=>HWO.out l (List.mem_of_mem_take hl);exact qS r t (ls.take j) A c HV.out (by rw[List.length_take];omega) (fun y hy=>Vj.out y (List.mem_of_mem_take hy)) _ _ (by rw[hq]) (by rw[hq]) j (by rw[List.length_take];omega) B W H.out.up HL.out.up (HS.out.up.take j)
     have KU:Hid (∀(W:nJ) (A:Option Addr),Hu aX W.heap.size W A 2 [[iq],an2]->Calls nH 28 #[.slice A 2 2] W fun e w'=>∃(jA:Option Addr) (jc:Nat),e=.returned (.slice jA m jc)/\Sl aX w'.heap.size w' jA jc (iq::an2)/\∃δ,w'=af W δ):=qh fun W A hs=>by have e:[[iq],an2].flatten=iq::an2:=nV;have:=yL [[iq],an2] A 2 W.heap.size W hs (hB:=⟨nR _⟩) nV (fun y hy=>by simp only[List.mem_cons,List.not_mem_nil,or_false] at hy;rcases hy with rfl|rfl;(simp);omega);rw[e,show(iq::an2).length=m by have:=Pb.out;simp;omega] at this;exact this
     have Wb:=qh hal;have HA1:=qh Rj;have Vm:Hid ((iq::an2).length=m):=qh (by have:=Pb.out;simp;omega);have HSH:Hid (∀y∈iq::an2,y.length<=1000):=qh fun y hy=>by
      rcases List.mem_cons.1 hy with rfl|hy
      ·decide
      ·have hs:=B9 CV ls (d:=bY t) (m:=0) HV.out zz ⟨nR _,fun o ho=>by cases ho⟩ nQ;rw[Ii] at hs;exact nT (hs y hy) nU
     clear hal Rj Rq ND XN Ii HP hlt hj;go_upto_region 10 with fail;refine aL fun W9 O0=>?_;have tV:Le B W9:=fI O0;have Bs:au B w W9:=gu O0;obtain⟨DJ,Gk,Gj,Gi⟩:=CG 8 w O0;have o1:au W1.heap.size W1 W9:=gu O0;have o2:Le W1.heap.size W9:=fI O0;have X9:Hid (ax W9 g3 39 (aE r t)):=qh (ax.dM X4.out);have BL9:Hid (ax W9 gl 68 lcs):=qh (ax.dM BL1.out);have LI9:Hid (mF W9.heap.size W9 (.agg lcs) (.ord q s n c')):=qh (ow LI1.out);clear O0 X4 BL1 LI1;have S9:Hid (Sl aX W9.heap.size W9 A c ls):=qh HS.out.wide;refine C0 6 W9 (abS r t x A c ls m) (F:=_) (n:=m) (a:=an1) (d:=⟨td1,od1,nd1⟩) (z:=.bool true) (fun vs=>by simp only[OH.jH,Act.put,List.getElem_toArray,List.getElem_cons_succ,List.getElem_cons_zero,List.setIfInBounds_toArray,List.set_cons_zero,List.set_cons_succ,Nat.reduceAdd];rfl) ⟨inferInstance,inferInstance⟩ ?hU ?hpre ?hcall ?hend (.tmp 11) (.tmp 78) ai ⟨rfl,rfl⟩ ⟨rfl,rfl⟩ ⟨rfl,rfl⟩ ⟨rfl,rfl⟩ ⟨rfl,rfl⟩ ⟨rfl,rfl⟩ ⟨rfl,rfl⟩ ⟨rfl,rfl⟩ ⟨rfl,rfl⟩ ⟨rfl,rfl⟩ ?r1 ?r2 ?r6 ?r7 ?r8 nP;case hU=>
      intro i v W W' hi h g l;match i,hi with
      |0,_=>exact h
      |1,_=>exact h
      |2,_=>obtain⟨A,e,k⟩:=h;exact⟨A,e,k.wide⟩
      |3,_=>exact h
      |4,_=>obtain⟨A,e,k⟩:=h;exact⟨A,e,k.wide⟩
      |5,_=>obtain⟨A,c,e,k⟩:=h;exact⟨A,c,e,k.wide⟩
     case hpre=>
      intro put i hi vs W hd g l;match i,hi with
      |0,_=>exact Ll put rfl (cV (S:=fun W=>au W9.heap.size W9 W) ai nY _ rfl rfl (fun W h=>ax.dM (hg:=h) X9.out) rfl) g rfl
      |1,_=>exact qq (w':=W) put rfl rfl nW ⟨inferInstance,inferInstance⟩ rfl
      |2,_=>
       have h1:vs 1=.string (str x):=hd 1 nP nU
       exact qq (v:=.slice (some ⟨W.heap.size,0,none⟩) 1 1) (w':=W.alloc (.cells #[.string (str x)] 9)) put rfl rfl (by go_simp<;>rfl) ⟨inferInstance,inferInstance⟩ ⟨_,rfl,fE (ls:=[x]) (ax.new rfl) rfl nV⟩
      |3,_=>exact qq (w':=W) (v:=.slice A ls.length c) put rfl rfl nW ⟨inferInstance,inferInstance⟩ rfl
      |4,_=>
       obtain⟨A1,h2,hs⟩:=hd 2 nP nU
       have h3:vs 3=.slice A ls.length c:=hd 3 nP nU
       exact qq (v:=.slice (some ⟨W.heap.size,0,none⟩) 2 2) (w':=W.alloc (.cells #[.slice A1 1 1,.slice A ls.length c] 48)) put rfl rfl (by go_simp<;>rfl) ⟨inferInstance,inferInstance⟩ ⟨_,rfl,ov hs (S9.out.wide) rfl rfl rfl⟩
      |5,_=>
       obtain⟨A1,h4,hs⟩:=hd 4 nP nU
       refine zv put rfl rfl nW (HJ.out W A1 hs) ?_
       rintro e w' ⟨jA,jc,rfl,UB,δ,rfl⟩
       exact⟨_,rfl,⟨inferInstance,inferInstance⟩,_,_,rfl,UB⟩
     case hcall=>intro put vs W hd gS lS;have h0:vs 0=aO r t:=hd 0 nP nU;obtain⟨A1,c1,h5,hs⟩:=hd 5 nP nU;have k1:au w.heap.size w W:=dQ (inferInstance:au w.heap.size w W9) gS;have k2:Le w.heap.size W:=⟨nT (inferInstance:Le w.heap.size W9).out lS.out⟩;refine QBI ?_;intro k3 k4 k5 k6;have k7:Le W.heap.size W:=⟨nR _⟩;exact zv put rfl rfl nW (VV.out W A1 c1 k3 k4 k5 k6 k1 k2 hs) fun e w' h=>h.to
     case r1=>intro vs W;go_simp
     case r2=>intro vs W v1 v2 v3 h;exact⟨nW,nW,nW,nW⟩
     case r6=>intro vs W;go_simp;rfl
     case r7=>intro vs W;exact⟨nW,nW,nW⟩
     case r8=>exact⟨rfl,fun vs=>⟨rfl,rfl⟩⟩
     case hend=>
      intro vs W6 aA ac rN lA lc ga e6 e7 e9 eA gS lS hA hT hL C9 hgb;replace e6:vs 12=.pointer (some ⟨ga,0,none⟩):=e6;replace e7:vs 13=.slice aA m ac:=e7;replace e9:vs 15=.slice lA od1.length lc:=e9;replace eA:vs 16=.bool true:=eA;have E6:=qh C9;have SA6:Hid (Sl aX W6.heap.size W6 aA ac an1):=qh (sy hA HA1.out);have ST6:Hid (aJ W6.heap.size W6 rN td1):=qh hT.is;have SL6:Hid (Sl aX W6.heap.size W6 lA lc (od1.map (·.line))):=qh (sy hL nV);have X6:Hid (ax W6 g3 39 (aE r t)):=qh (ax.dM (hg:=gS) X9.out);have BL6:Hid (ax W6 gl 68 lcs):=qh (ax.dM (hg:=gS) BL9.out);have LI6:Hid (mF W6.heap.size W6 (.agg lcs) (.ord q s n c')):=qh (ow (hg:=gS) (hl:=lS) LI9.out);clear hA hT hL C9 hgb X9 S9 VV HJ BL9 LI9;have k1:au w.heap.size w W6:=dQ (inferInstance:au w.heap.size w W9) gS;have k2:Le w.heap.size W6:=⟨nT (inferInstance:Le w.heap.size W9).out lS.out⟩;refine QBE ?_;intro k3 k4 k5 k6 k7;go_wp2_with (refine aT ai nY _ rfl rfl X6.out rfl ?_);refine(Mf.out W6 inferInstance inferInstance inferInstance inferInstance).mono ?_;unfold wh;rintro e w1 ⟨bA,bc,rM,mA,mc,δ6,rfl,rfl,oA,oT,oL⟩;have OA:=qh oA;have OT:=qh oT;clear oA oT oL Mf;go_upto_region 12 with(refine jR (cs':=aE rM t2) ai rfl _ _ rfl rfl rfl rfl rfl (aM _ _) ?_);obtain⟨gb,hgb⟩:∃g,(af W6 δ6).heap.size=g:=⟨_,rfl⟩;refine aL fun W7 DV=>?_;have JS:Le B W7:=fI DV;have JR:au B w W7:=gu DV;obtain⟨Uf,Xj,Xi,Xh⟩:=CG 8 w DV;have j4:au W6.heap.size W6 W7:=gu DV;have j5:Le W6.heap.size W7:=fI DV;have F7:Hid (ax W7 gb 39 (aE rM t2)):=by rw[DV.out];exact qh (ax.new hgb.symm)
      have SB7:Hid (Sl aX W7.heap.size W7 bA bc an2):=by rw[DV.out];exact qh (sy (OA.out.alloc _) Wb.out)
      have SU7:Hid (aJ W7.heap.size W7 rM t2):=by rw[DV.out];exact qh (OT.out.alloc _).is
      clear DV OA OT;rw[hgb];clear hgb;go_wp2_with fail;refine gm fun U hU=>?_;obtain⟨Wl,GF⟩:∃Wl,W7.alloc (.cells #[.string ⟨#[111,107]⟩] 9)=Wl:=⟨_,rfl⟩;have LTl:Sl aX Wl.heap.size Wl (some ⟨W7.heap.size,0,none⟩) 1 [iq]:=by rw[<-GF];exact fE (ls:=[iq]) (ax.new rfl) rfl nV
      have SBl:Sl aX Wl.heap.size Wl bA bc an2:=by rw[<-GF];exact SB7.out.wide
      have hsz:Wl.heap.size=W7.heap.size+1:=by rw[<-GF];simp
      refine QEU ?_;intro u1 u2 u3 u4;rw[GF] at hU;clear GF;have slU:Hid (Hu aX U.heap.size U (some ⟨W7.heap.size+1,0,none⟩) 2 [[iq],an2]):=by rw[<-hsz];exact qh (ov LTl SBl rfl Wb.out hU)
      clear hsz hU LTl SBl;refine(KU.out U _ slU.out).mono ?_;rintro e w1 ⟨jA,jc,rfl,hj,δ8,rfl⟩;have HJS:=qh hj;clear hj slU KU;go_upto_region 15 with fail;refine aL fun W8 YS=>?_;have w81:au w.heap.size w W8:=gu YS;have w82:Le w.heap.size W8:=fI YS;have w83:Le W8.heap.size W8:=⟨nR _⟩;have h87:au W7.heap.size W7 W8:=gu YS;have h78:Le W7.heap.size W8:=fI YS;have SW8:Hid (Sl aX W8.heap.size W8 jA jc (iq::an2)):=by rw[YS.out];exact HJS
      clear YS HJS u1 u2 u3 u4;have g68:au W6.heap.size W6 W8:=dQ j4 h87;have l68:Le W6.heap.size W8:=⟨nT j5.out h78.out⟩;have E8:Hid (ax W8 ga 39 (aE rN td1)):=qh (ax.dM E6.out);have F8:Hid (ax W8 gb 39 (aE rM t2)):=qh (ax.dM F7.out);have SA8:Hid (Sl aX W8.heap.size W8 aA ac an1):=qh SA6.out.wide;have ST8:Hid (aJ W8.heap.size W8 rN td1):=qh ST6.out.wide;have SU8:Hid (aJ W8.heap.size W8 rM t2):=qh SU7.out.wide;have SL8:Hid (Sl aX W8.heap.size W8 lA lc (od1.map (·.line))):=qh SL6.out.wide;have X8:Hid (ax W8 g3 39 (aE r t)):=qh (ax.dM X6.out);have BL8:Hid (ax W8 gl 68 lcs):=qh (ax.dM BL6.out);have LI8:Hid (mF W8.heap.size W8 (.agg lcs) (.ord q s n c')):=qh (ow LI6.out);clear E6 F7 SA6 ST6 SU7 SL6 X6 BL6 LI6 SB7 g68 l68;go_wp2_with fail;go_loopg [19] (ls.length+1) (fun gn s19 wr=>∃(j:Nat),j<=ls.length+1/\gn=ls.length+1-j/\s19=.int .i64 j/\Hid (∀p,p<j->p<=ls.length->cY (cX t (ls.take p)).1 q s n=false)/\au W8.heap.size W8 wr/\Le W8.heap.size wr)
      case atStart=>exact⟨0,nE _,rfl,rfl,qh fun p hp=>absurd hp (Nat.not_lt_zero _),inferInstance,inferInstance⟩
      case round=>
       obtain⟨j,hj,rfl,rfl,HP,gS,lS⟩:=hrel;have r1:au w.heap.size w wr:=dQ (inferInstance:au w.heap.size w W8) gS;have r2:Le w.heap.size wr:=⟨nT (inferInstance:Le w.heap.size W8).out lS.out⟩;have r3:au B w wr:=⟨⟨r1.out.1,r1.out.2.1,r1.out.2.2.1,fun b hb=>r1.out.2.2.2 b (nL hb hB.out)⟩⟩;have r4:Le B wr:=⟨nT hB.out r2.out⟩;have r5:au 8 w wr:=⟨⟨r1.out.1,r1.out.2.1,r1.out.2.2.1,fun b hb=>r1.out.2.2.2 b (nL hb h8.out)⟩⟩;have r6:Le 8 wr:=⟨nT h8.out r2.out⟩;have r7:Le wr.heap.size wr:=⟨nR _⟩;by_cases hle:j<=ls.length
       ·have hji:(j:Int)<=(ls.length:Int):=nQ;have hj0:¬(j:Int)<0:=nQ;have YJ:(j:Int)<=(c:Int):=by have:=HS.out.1;omega
        have Xr:Hid (ax wr g3 39 (aE r t)):=qh (ax.dM (hg:=gS) X8.out);have Xp:=B6 (ls.take j) (d:=bY t) HV.out;rw[sr (t:=t) (ls:=ls.take j) fun l hl=>HWO.out l (List.mem_of_mem_take hl)] at Xp;obtain⟨tj,htj⟩:∃y,(cX t (ls.take j)).1=y:=⟨_,rfl⟩;obtain⟨aj,haj⟩:∃y,(cX t (ls.take j)).2=y:=⟨_,rfl⟩;replace Xp:aG tj=true:=by rw[<-htj];exact Xp
        have HRj:Hid (∀(W:nJ),au B w W->Le B W->au 8 w W->Le 8 W->Calls nH 25 #[aO r t,.slice A j c] W (wh j ⟨tj,[],0⟩ aj W)):=qh fun W i1 i2 i3 i4=>by have:=HRJ.out W j hle i1 i2 i3 i4;rw[htj,haj] at this;exact this
        have HVj:=qh Xp;have HTj:=qh htj;obtain⟨hb,XC⟩:∃b,cY tj q s n=b:=⟨_,rfl⟩;have HHb:=qh XC;clear Xp htj haj XC;go_upto_region 18 with fail;refine C0 4 wr (abU r t A c ls.length j) (F:=_) (n:=j) (a:=aj) (d:=⟨tj,[],0⟩) (z:=.bool true) (fun vs=>by simp only[OH.jH,Act.put,List.getElem_toArray,List.getElem_cons_succ,List.getElem_cons_zero,List.setIfInBounds_toArray,List.set_cons_zero,List.set_cons_succ,Nat.reduceAdd];rfl) ⟨inferInstance,inferInstance⟩ ?hU ?hpre ?hcall ?hend (.tmp 21) (.tmp 112) ai ⟨rfl,rfl⟩ ⟨rfl,rfl⟩ ⟨rfl,rfl⟩ ⟨rfl,rfl⟩ ⟨rfl,rfl⟩ ⟨rfl,rfl⟩ ⟨rfl,rfl⟩ ⟨rfl,rfl⟩ ⟨rfl,rfl⟩ ⟨rfl,rfl⟩ ?r1 ?r2 ?r6 ?r7 ?r8 nP;case hU=>
         intro i v W W' hi h g l;match i,hi with
         |0,_=>exact h
         |1,_=>exact h
         |2,_=>exact h
         |3,_=>exact h
        case hpre=>
         intro put i hi vs W hd g l;match i,hi with
         |0,_=>exact Ll put rfl (cV (S:=fun W=>au wr.heap.size wr W) ai nY _ rfl rfl (fun W h=>ax.dM (hg:=h) Xr.out) rfl) g rfl
         |1,_=>exact qq (w':=W) (v:=.slice A ls.length c) put rfl rfl nW ⟨inferInstance,inferInstance⟩ rfl
         |2,_=>exact qq (w':=W) (v:=.int .i64 j) put rfl rfl nW ⟨inferInstance,inferInstance⟩ rfl
         |3,_=>
          have h1:vs 1=.slice A ls.length c:=hd 1 nP nU
          have h2:vs 2=.int .i64 j:=hd 2 nP nU
          exact qq (w':=W) (v:=.slice A j c) put rfl rfl nW ⟨inferInstance,inferInstance⟩ rfl
        case hcall=>intro put vs W hd gS lS;have h0:vs 0=aO r t:=hd 0 nP nU;have h3:vs 3=.slice A j c:=hd 3 nP nU;have k1:au w.heap.size w W:=dQ (inferInstance:au w.heap.size w wr) gS;have k2:Le w.heap.size W:=⟨nT (inferInstance:Le w.heap.size wr).out lS.out⟩;refine QBI ?_;intro k3 k4 k5 k6;have k7:Le W.heap.size W:=⟨nR _⟩;exact zv put rfl rfl nW (HRj.out W k3 k4 k5 k6) fun e w' h=>h.to
        case r1=>intro vs W;go_simp
        case r2=>intro vs W v1 v2 v3 h;exact⟨nW,nW,nW,nW⟩
        case r6=>intro vs W;go_simp;rfl
        case r7=>intro vs W;exact⟨nW,nW,nW⟩
        case r8=>exact⟨rfl,fun vs=>⟨rfl,rfl⟩⟩
        case hend=>
         intro vs W6 cA cc rC qA qc gc e6 e7' e9' eA gT lT hA hT hL C9 hgb;replace e6:vs 10=.pointer (some ⟨gc,0,none⟩):=e6;replace eA:vs 14=.bool true:=eA;simp only[e6,eA];have g86:au W8.heap.size W8 W6:=dQ gS gT;have l86:Le W8.heap.size W6:=⟨nT lS.out lT.out⟩;have CB:=qh C9;have CT:Hid (aJ W6.heap.size W6 rC tj):=qh hT.is;have BLw:Hid (ax W6 gl 68 lcs):=qh (ax.dM BL8.out);have LIw:Hid (mF W6.heap.size W6 (.agg lcs) (.ord q s n c')):=qh (ow LI8.out);clear hA hT hL C9 hgb e7' e9' HRj Xr gS lS;have k1:au w.heap.size w W6:=dQ (inferInstance:au w.heap.size w W8) g86;have k2:Le w.heap.size W6:=⟨nT (inferInstance:Le w.heap.size W8).out l86.out⟩;refine QBE ?_;intro k3 k4 k5 k6 k7;have HHo:Hid (∀W,au W6.heap.size W6 W->Le W6.heap.size W->Calls nH 26 #[aO rC tj,.agg lcs] W fun e w'=>e=.returned (.bool hb)/\∃δ,w'=af W δ):=qh fun W i1 i2=>by have:=vl rC tj HVj.out q c' s n HQ.out.1 HQ.out.2.1 HQ.out.2.2 (.agg lcs) W.heap.size W (CT.out.wide) (ow LIw.out) (hB:=⟨nR _⟩);rw[HHb.out] at this;exact this
         cases hb with
         |false=>
          have SG:Hid (∀p,p<j+1->p<=ls.length->cY (cX t (ls.take p)).1 q s n=false):=qh fun p hp hpl=>by
           rcases Nat.lt_succ_iff_lt_or_eq.1 hp with h|rfl
           ·exact HP.out p h hpl
           ·rw[HTj.out];exact HHb.out
          go_wp2_with (first|(refine aT ai nY _ rfl rfl CB.out rfl ?_)|(refine aT cK nY _ rfl rfl BLw.out hl9 ?_)|(go_at_call 26;refine(HHo.out _ inferInstance inferInstance).mono ?_;rintro e w1 ⟨rfl,δ9,rfl⟩))
          go_roundg (ls.length+1-(j+1))
          case measure=>omega
          case rel=>exact⟨j+1,nQ,rfl,by go_num,SG,inferInstance,inferInstance⟩
         |true=>
          obtain⟨w1,w2,bb,w3⟩:=EC (t:=t) HO.out HWO.out hle (fun p hp=>HP.out p hp nQ) (by rw[HTj.out];exact HHb.out)
          rw[Bh.out] at w1 w2 w3
          rw[ab3.out] at w2 w3
          replace w1:od1=[]:=w1
          replace w2:an1.take j=(iq::an2).take j:=w2
          replace w3:nth an1 j=nth (iq::an2) j++lZ 0 bb:=w3
          have adQ:=Bh
          clear Bh adQ
          subst w1
          have hjm:(j:Int)<(m:Int):=by have:=Pb.out;omega
          have SAw:Hid (Sl aX W6.heap.size W6 aA ac an1):=qh SA8.out.wide
          have SWw:Hid (Sl aX W6.heap.size W6 jA jc (iq::an2)):=qh SW8.out.wide
          have hja:(j:Int)<=(ac:Int):=by have:=SAw.out.1;have:=HA1.out;omega
          have hjw:(j:Int)<=(jc:Int):=by have h1:=SWw.out.1;rw[Vm.out] at h1;omega
          have STa:Hid (Sl aX W6.heap.size W6 aA ac (an1.take j)):=qh (SAw.out.Vq j)
          have STw:Hid (Sl aX W6.heap.size W6 jA jc (an1.take j)):=by rw[w2];exact qh (SWw.out.Vq j)
          have jg:(an1.take j).length=j:=by rw[List.length_take,HA1.out];have:=Pb.out;omega
          have HLJ:=qh jg
          obtain⟨sb,so,rfl,xj,e0⟩:=SAw.out.mh (k:=j) (by rw[HA1.out];omega)
          obtain⟨ub,uo,rfl,Zv,f0⟩:=SWw.out.mh (k:=j) (by rw[Vm.out];omega)
          obtain⟨w0,hw0⟩:∃y,nth (iq::an2) j=y:=⟨_,rfl⟩
          have hw9:w0.length<=1000:=by rw[<-hw0];exact HSH.out _ (aV _ (by rw[Vm.out];omega))
          rw[w3,hw0,Tq] at e0
          rw[hw0] at f0
          have isb:Lt sb W6:=⟨xj⟩
          have iub:Lt ub W6:=⟨Zv⟩
          obtain⟨l1,Uv⟩:∃y,w0++[32,48,58,111,107]=y:=⟨_,rfl⟩
          obtain⟨l2,Uu⟩:∃y,w0++[32,48,58,110,111]=y:=⟨_,rfl⟩
          have b1:∀W:nJ,(Op.stringOp .add (str w0) (⟨#[32,48,58,111,107]⟩:ByteArray)).run nH W=.ok (.string (str l1)) W:=fun W=>by rw[<-Uv];exact gp (P:=nH) W w0 [32,48,58,111,107] (by simp;omega)
          have b2:∀W:nJ,(Op.stringOp .add (str w0) (⟨#[32,48,58,110,111]⟩:ByteArray)).run nH W=.ok (.string (str l2)) W:=fun W=>by rw[<-Uu];exact gp (P:=nH) W w0 [32,48,58,110,111] (by simp;omega)
          have b3:((str l2).toList==(str l1).toList)=false:=by rw[Te,decide_eq_false];intro h;rw[<-Uv,<-Uu] at h;exact absurd (List.append_cancel_left h) nU
          have e0':W6.cell? ⟨sb,so+j,none⟩=some (.string (str (if bb=true then l1 else l2))):=by
           cases bb
           ·rw[if_neg nU,<-Uu];exact e0
           ·rw[if_pos rfl,<-Uv];exact e0
          clear e0 Uv Uu xj Zv w2 w3 hw0 jg
          have tZ:Hid (∀W,au W6.heap.size W6 W->Le W6.heap.size W->Calls nH 20 #[.slice (some ⟨sb,so,none⟩) j ac,.slice (some ⟨ub,uo,none⟩) j jc] W fun e w'=>e=.returned (.bool true)/\∃δ,w'=af W δ):=qh fun W i1 i2=>jk _ _ ac jc (an1.take j) W6.heap.size W STa.out.up STw.out.up j j HLJ.out HLJ.out
          go_upto_region 22 with(first|(refine aT ai nY _ rfl rfl CB.out rfl ?_)|(refine aT cK nY _ rfl rfl BLw.out hl9 ?_)|(go_at_call 26;refine(HHo.out _ inferInstance inferInstance).mono ?_;rintro e w1 ⟨rfl,δ9,rfl⟩))
          obtain⟨Z8,GD⟩:∃Z,af W6 δ9=Z:=⟨_,rfl⟩
          have z1:au W6.heap.size W6 Z8:=by rw[<-GD];infer_instance
          have z2:Le W6.heap.size Z8:=by rw[<-GD];infer_instance
          have z3:au w.heap.size w Z8:=by rw[<-GD];infer_instance
          have z4:Le w.heap.size Z8:=by rw[<-GD];infer_instance
          have z5:au 8 w Z8:=by rw[<-GD];infer_instance
          have z6:Le 8 Z8:=by rw[<-GD];infer_instance
          rw[GD]
          clear GD HHo CB CT BLw LIw
          have e8:=(aZ z1.out _ _ isb.out).trans e0'
          have f8:=(aZ z1.out _ _ iub.out).trans f0
          have isz:Lt sb Z8:=⟨nL isb.out z2.out⟩
          have iuz:Lt ub Z8:=⟨nL iub.out z2.out⟩
          clear e0' f0 isb iub
          cases bb
          all_goals
           first|rw[if_pos rfl] at e8|rw[if_neg nU] at e8
           refine wpRl ?_;repeat (first|go_big_quiet_skip|(go_big_quiet_step ((first|(go_at_call 20;exact Calls.bN (tZ.out _ inferInstance inferInstance))|(go_at_call 24;exact Calls.bN (dz _ HL.out.up))))))
           refine QBT ?_;rintro _ ⟨δq,rfl⟩;go_wp2_with fail;go_ret;exact⟨rfl,ag⟩
       ·obtain rfl:j=ls.length+1:=by omega
        have xm:¬(((ls.length+1:Nat):Int)<=(ls.length:Int)):=nQ;have acg:¬((ls.length:Int)+1<=(ls.length:Int)):=nQ;have hnd:decide ((ls.length:Int)+1<=(ls.length:Int))=false:=decide_eq_false acg;have hne:=EB (t:=t) HO.out HWO.out fun p hp=>HP.out p nQ hp;rw[Bh.out,Io.out,ab3.out] at hne;injection hne with h1 h2;injection h1 with h3 h4 h5;subst h3 h4 h2;clear h5 HP hle Bh;have E9:Hid (ax wr ga 39 (aE rN td1)):=qh (ax.dM (hg:=gS) E8.out);have F9:Hid (ax wr gb 39 (aE rM td1)):=qh (ax.dM (hg:=gS) F8.out);have SA9:Hid (Sl aX wr.heap.size wr aA ac (iq::an2)):=qh SA8.out.wide;have SW9:Hid (Sl aX wr.heap.size wr jA jc (iq::an2)):=qh SW8.out.wide;have ST9:Hid (aJ wr.heap.size wr rN td1):=qh ST8.out.wide;have SU9:Hid (aJ wr.heap.size wr rM td1):=qh SU8.out.wide;have SL9:Hid (Sl aX wr.heap.size wr lA lc [x]):=qh (SL8.out.wide);go_wp2_with (first|(refine aT ai nY _ rfl rfl (ax.dM E9.out) rfl ?_)|(refine aT ai nY _ rfl rfl (ax.dM F9.out) rfl ?_)|(go_at_call 20;with_reducible refine Calls.mono (jk aA jA ac jc (iq::an2) wr.heap.size _ SA9.out.up SW9.out.up m m Vm.out Vm.out) ?_;rintro e w1 ⟨rfl,δ9,rfl⟩)|(go_at_call 19;refine(yC rN rM td1 wr.heap.size _ ST9.out.up SU9.out.up).mono ?_;rintro e w1 ⟨rfl,tF,rfl⟩));refine gm fun V hV=>?_;have slV:Hid (Sl aX V.heap.size V (some ⟨(af (af wr δ9) tF).heap.size,0,none⟩) 1 [x]):=by rw[<-hV];exact qh (fE (ls:=[x]) (ax.new rfl) rfl nV)
        have v1:au wr.heap.size wr V:=by rw[<-hV];infer_instance
        have v2:Le wr.heap.size V:=by rw[<-hV];infer_instance
        refine QEP ?_;intro v3 v4 v5 v6 v7;have SLV:Hid (Sl aX V.heap.size V lA lc [x]):=qh SL9.out.wide;clear hV;refine(jk lA _ lc 1 [x] V.heap.size V SLV.out slV.out _ _ rfl rfl).mono ?_;rintro e w1 ⟨rfl,δ11,rfl⟩;go_wp2_with (go_at_call 24;refine(dz _ HL.out.up).mono ?_;rintro e w1 ⟨rfl,uw,rfl⟩);go_ret;exact⟨rfl,ag⟩
end
end Go.Proofs.YtdmedlkonaclnaaGreatDoor
