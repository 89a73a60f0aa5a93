/- A part of the proof that a law of layer 12 holds, cut small by a program (names and blanks): Hk16. -/
import Derived.Test.YtdmedlkonaclnaaGreatDoorZ37
import Derived.Test.YtdmedlkonaclnaaGreatDoorZ39
import Derived.Test.YtdmedlkonaclnaaGreatDoorZ41
import Derived.Test.YtdmedlkonaclnaaGreatDoorZ42
import Derived.Test.YtdmedlkonaclnaaGreatDoorZ44
set_option maxRecDepth 100000
set_option maxHeartbeats 40000000
set_option linter.unusedVariables false
set_option linter.unusedSimpArgs false
namespace Go.Proofs.YtdmedlkonaclnaaGreatDoor
open Go.RowKit
open Nat renaming le_trans → nT, lt_of_lt_of_le → nL, le_refl → nR
open Go.Proofs.Tryz renaming prog → nH
open Go renaming World → nJ, Value → nK
section
open Hd
theorem WL{x:tC}(h:lG x=4):∃q s n c,x=.ord q s n c:=by
 cases x with
 |none=>exact absurd h nU
 |cmd c=>exfalso;rcases qF c.w with e|e|e|e<;>simp[lG,e] at h
 |ord q s n c=>exact⟨q,s,n,c,rfl⟩
def abT(r:aQ)(t:aW)(x z:bz):Nat->nK->nJ->Prop
 |0,v,_=>v=aO r t
 |1,v,_=>v=.string (str x)
 |2,v,_=>v=.string (str z)
 |_,v,W=>∃A,v=.slice A 1 1/\Sl aX W.heap.size W A 1 [z]
theorem Gc(r:aQ)(t:aW)(x:bz)(hx:x.length<=1048576)(B:Nat)(w:nJ)(hT:aJ B w r t)[hB:Le B w][h8:Le 8 w](hL:cT w):Calls nH 4 #[aO r t,.string (str x)] w fun e w'=>e=.returned (.bool true)/\∃δ,w'=af w δ:=by
 have H:=qh hT;have HL:=qh hL;clear hT hL;go_enter Tryz.func4,Tryz.ntmps4;go_upto_region 1 with fail;refine QCN ?_;intro X hX cJ dF cU dA dD eI ju X2 g3 rj;rw[rj] at X2 ⊢;have ig3:Lt g3 X:=X2.out.lt;clear hX rj;by_cases hk:lG (bK x)=4;case neg=>
  refine QCL ?_;intro kn hkn HK k4 Zh k4c;repeat (go_big_quiet_step ((first|(go_at_call 21;exact Calls.bN (HK.out _)))))
  refine QBT ?_;rintro _ ⟨δ1,rfl⟩;go_wp2_with (go_at_call 24;refine(dz _ HL.out.up).mono ?_;rintro e w1 ⟨rfl,δ2,rfl⟩);go_ret;exact⟨rfl,ag⟩
 have HK:=qh fun(W:nJ)=>qD x hx 4 hk W;obtain⟨q,s,n,c,hr⟩:=WL hk;have HO:=qh hr;clear hk hr;obtain⟨z,hz⟩:∃z,uh c=z:=⟨_,rfl⟩;have HZ:=qh hz;clear hz;have xE:Hid (aJ X.heap.size X r t):=qh H.out.wide;have Vg:Hid (∀(W:nJ) (y:bz) (A:Option Addr),au X.heap.size X W->Le X.heap.size W->Sl aX W.heap.size W A 1 [y]->Calls nH 22 #[aO r t,.slice A 1 1] W (kP t [y] W)):=qh fun W y A i1 i2 hs=>qn r t [y] A 1 W.heap.size W (xE.out.wide (W:=W)) hs (hB:=⟨nR _⟩);apply share
 ·intro K;refine wp_region_held (S:=fun W=>au X.heap.size X W) nP ?_;change wpAnyH _ _ _ _ _ _ _ _ (World.drew _);refine wpH_tq 0 (.string (str x)) (inferInstance) ?_;refine QAC ?_;have gS:au X.heap.size X X.drew:=inferInstance;have lS:Le X.heap.size X.drew:=inferInstance;generalize X.drew=Z0 at gS lS ⊢;refine fL 1 (by first|kernel_rfl|decide +kernel) ?_;refine Qg 1 rfl nY ?hx gS lS (HK.out _) ?_;case hx=>go_simp
  clear gS lS;intro δ gS lS;refine QAC ?_;generalize af Z0 δ=Z1 at gS lS ⊢;refine wpH_tq 2 (.bool false) (gS) ?_;refine QAC ?_;refine wpH_tq 3 (.bool false) (gS) ?_;refine QAC ?_;refine dV 4 (aO r t) rfl nP (cV ai nY _ rfl rfl (fun W h=>ax.dM (hg:=h) X2.out) rfl) (gS) ?_;refine QAC ?_;refine wpH_tq 5 (.string (str x)) (gS) ?_;refine QAC ?_;refine fL 6 (by first|kernel_rfl|decide +kernel) ?_;refine M8 (v:=.slice (some ⟨Z1.heap.size,0,none⟩) 1 1) (o:=.cells #[.string (str x)] 9) 6 rfl nY ?hx gS lS ?_;case hx=>(go_simp<;>rfl)
  clear gS lS;intro gS lS;refine QAC ?_;refine QEW ?_;intro LT;generalize World.alloc Z1 (.cells #[.string (str x)] 9)=Z2 at gS lS LT ⊢;generalize Z1.heap.size=PV at LT ⊢;refine fL 7 (by first|kernel_rfl|decide +kernel) ?_;refine vt 7 rfl nY ?hx gS lS (Vg.out _ _ _ gS lS LT) (fun e w' ⟨_,δ,h1,h2,_⟩=>⟨_,δ,h1,h2⟩) ?_;case hx=>go_simp
  clear gS lS LT;rintro v Z3 ⟨b,δ,hv,e,hr⟩ gS lS;injection hv with hv;subst hv;clear e;refine QAC ?_;cases b with
  |false=>
   clear hr
   refine wpH_tq 8 (.bool true) (gS) ?_
   refine QAC ?_
   refine wpH_tq 9 (.bool true) (gS) ?_
   refine QAC ?_
   refine wpH_tq 10 (.bool true) (gS) ?_
   refine QAC ?_
   refine dV 11 (undef) rfl nP (Or.inr ⟨nY,rfl⟩) (gS) ?_
   refine QAC ?_
   refine dV 12 (undef) rfl nP (Or.inr ⟨nY,rfl⟩) (gS) ?_
   refine QAC ?_
   refine dV 13 (undef) rfl nP (Or.inr ⟨nY,rfl⟩) (gS) ?_
   refine QAC ?_
   refine dV 14 (undef) rfl nP (Or.inr ⟨nY,rfl⟩) (gS) ?_
   refine QAC ?_
   refine dV 15 (undef) rfl nP (Or.inr ⟨nY,rfl⟩) (gS) ?_
   refine QAC ?_
   refine dV 16 (undef) rfl nP (Or.inr ⟨nY,rfl⟩) (gS) ?_
   refine QAC ?_
   refine wpH_tq 17 (.bool true) (gS) ?_
   refine QAC ?_
   refine wpAnyH_done nP ?_ _
   have n1:au w.heap.size w Z3:=dQ (inferInstance:au w.heap.size w X) gS
   have n2:Le w.heap.size Z3:=⟨nT (inferInstance:Le w.heap.size X).out lS.out⟩
   have n3:au 8 w Z3:=⟨⟨n1.out.1,n1.out.2.1,n1.out.2.2.1,fun b hb=>n1.out.2.2.2 b (nL hb h8.out)⟩⟩
   have n4:Le 8 Z3:=⟨nT h8.out n2.out⟩
   go_wp2_with (go_at_call 24;refine(dz _ HL.out.up).mono ?_;rintro e w1 ⟨rfl,δ2,rfl⟩)
   go_ret
   exact⟨rfl,ag⟩
  |true=>
   obtain⟨Gy,hv,UC⟩:=hr rfl
   have Pc:=qh Gy
   have HV:=qh hv
   clear hr Gy hv UC
   have Uj:x.length<=1000:=nT (Pc.out.2.2 x nV) nU
   have HI:=qh fun(W:nJ)=>Cy x Uj q c s n HO.out z HZ.out W
   refine wpH_tq 8 (.bool false) (gS) ?_
   refine QAC ?_
   refine wpH_tq 9 (.bool false) (gS) ?_
   refine QAC ?_
   refine wpH_tq 10 (.bool false) (gS) ?_
   refine QAC ?_
   refine dV 11 (aO r t) rfl nP (cV ai nY _ rfl rfl (fun W h=>ax.dM (hg:=h) X2.out) rfl) (gS) ?_
   refine QAC ?_
   refine wpH_tq 12 (.string (str x)) (gS) ?_
   refine QAC ?_
   refine fL 13 (by first|kernel_rfl|decide +kernel) ?_
   refine Qg 13 rfl nY ?hx gS lS (HI.out _) ?_
   case hx=>go_simp
   clear gS lS
   intro δ gS lS
   refine QAC ?_
   generalize af Z3 δ=Z4 at gS lS ⊢
   refine fL 14 (by first|kernel_rfl|decide +kernel) ?_
   refine M8 (v:=.slice (some ⟨Z4.heap.size,0,none⟩) 1 1) (o:=.cells #[.string (str z)] 9) 14 rfl nY ?hx gS lS ?_
   case hx=>(go_simp<;>rfl)
   clear gS lS
   intro gS lS
   refine QAC ?_
   have LT:Sl aX (World.alloc Z4 (.cells #[.string (str z)] 9)).heap.size (World.alloc Z4 (.cells #[.string (str z)] 9)) (some ⟨Z4.heap.size,0,none⟩) 1 [z]:=fE (ls:=[z]) (ax.new rfl) rfl nV
   generalize World.alloc Z4 (.cells #[.string (str z)] 9)=Z5 at gS lS LT ⊢
   generalize Z4.heap.size=qZ4 at LT ⊢
   refine fL 15 (by first|kernel_rfl|decide +kernel) ?_
   refine vt 15 rfl nY ?hx gS lS (Vg.out _ _ _ gS lS LT) (fun e w' ⟨_,δ,h1,h2,_⟩=>⟨_,δ,h1,h2⟩) ?_
   case hx=>go_simp
   clear gS lS LT
   rintro v Z6 ⟨b',δ,hv,e,hr⟩ gS lS
   injection hv with hv
   subst hv
   clear e
   refine QAC ?_
   cases b' with
   |false=>
    clear hr
    refine wpH_tq 16 (.bool true) (gS) ?_
    refine QAC ?_
    refine wpH_tq 17 (.bool true) (gS) ?_
    refine QAC ?_
    refine wpAnyH_done nP ?_ _
    have n1:au w.heap.size w Z6:=dQ (inferInstance:au w.heap.size w X) gS
    have n2:Le w.heap.size Z6:=⟨nT (inferInstance:Le w.heap.size X).out lS.out⟩
    have n3:au 8 w Z6:=⟨⟨n1.out.1,n1.out.2.1,n1.out.2.2.1,fun b hb=>n1.out.2.2.2 b (nL hb h8.out)⟩⟩
    have n4:Le 8 Z6:=⟨nT h8.out n2.out⟩
    go_wp2_with (go_at_call 24;refine(dz _ HL.out.up).mono ?_;rintro e w1 ⟨rfl,δ2,rfl⟩)
    go_ret
    exact⟨rfl,ag⟩
   |true=>
    refine wpH_tq 16 (.bool false) (gS) ?_
    refine QAC ?_
    refine wpH_tq 17 (.bool false) (gS) ?_
    refine QAC ?_
    refine wpAnyH_done nP ?_ _
    clear hr
    revert lS;revert gS;revert Z6;revert qZ4;revert PV;revert HV;revert Pc
    exact K.out
 intro Pc HV qa qb Y gS lS;have Uj:x.length<=1000:=nT (Pc.out.2.2 x nV) nU;have HI:=qh fun(W:nJ)=>Cy x Uj q c s n HO.out z HZ.out W;have hz6:z.length<=1000:=by
  obtain⟨_,_,_,_,_,_,_,h7,_⟩:=tJ HO.out;have h1:=LG (c:=c) (mS h7).2 c.a.length;have h2:c.a.length<=4:=by rw[(mS h7).1];exact Hr c.w
  rw[LH,HZ.out] at h1;omega
 clear Vg HK xE;have y1:au w.heap.size w Y:=dQ (inferInstance:au w.heap.size w X) gS;have y2:Le w.heap.size Y:=⟨nT (inferInstance:Le w.heap.size X).out lS.out⟩;have y3:au B w Y:=⟨⟨y1.out.1,y1.out.2.1,y1.out.2.2.1,fun b hb=>y1.out.2.2.2 b (nL hb hB.out)⟩⟩;have y4:Le B Y:=⟨nT hB.out y2.out⟩;have y5:au 8 w Y:=⟨⟨y1.out.1,y1.out.2.1,y1.out.2.2.1,fun b hb=>y1.out.2.2.2 b (nL hb h8.out)⟩⟩;have y6:Le 8 Y:=⟨nT h8.out y2.out⟩;have y7:Le Y.heap.size Y:=⟨nR _⟩;have X3:Hid (ax Y g3 39 (aE r t)):=qh (ax.dM X2.out);clear X2;obtain⟨hl,ha,ho⟩:=U0 (t:=t) HO.out;rw[HZ.out] at ha;have hp:=uH HO.out;have HQ:=qh (show cN q.w=2/\q.a.length=tq q.w/\(s=60\/s=61\/s=62) from⟨hp.1,hp.2.1,hp.2.2.2.2⟩);have SU:Hid (∀W:nJ,Calls nH 27 #[.string (str x)] W (fR (.ord q s n c) W)):=qh fun W=>HO.out▸ke x Uj W;obtain⟨b1,kL⟩:∃b,(fW t c).isSome=b:=⟨_,rfl⟩;obtain⟨t2,ND⟩:∃b,iH t c=b:=⟨_,rfl⟩;obtain⟨hh,YL⟩:∃b,cY t q s n=b:=⟨_,rfl⟩;obtain⟨d,hd⟩:∃d,dJ (bY t) [x]=d:=⟨_,rfl⟩;obtain⟨⟨td,od,nd⟩,a⟩:=d;rw[kL,ND,YL,hd] at ho;rw[kL,ND] at ha;have hal:a.length=1:=by have:=sD [x] (bY t);rw[hd] at this;exact this
 obtain⟨a0,rfl⟩:∃y,a=[y]:=by
  match a,hal with
  |[y],_=>exact⟨y,rfl⟩
 have VV:Hid (∀(W:nJ) (A:Option Addr),au w.heap.size w W->Le w.heap.size W->au B w W->Le B W->au 8 w W->Le 8 W->Sl aX W.heap.size W A 1 [x]->Calls nH 25 #[aO r t,.slice A 1 1] W (wh 1 ⟨td,od,nd⟩ [a0] W)):=
  qh fun W A _ _ _ _ _ _ hs=>qS r t [x] A 1 HV.out nV (by intro y hy;rw[List.mem_singleton.1 hy];exact Uj) _ _ (by rw[hd]) (by rw[hd]) 1 rfl W.heap.size W H.out.wide HL.out.up hs (hB:=⟨nR _⟩)
 have Mf:Hid (∀(W:nJ) (A:Option Addr),au w.heap.size w W->Le w.heap.size W->au B w W->Le B W->au 8 w W->Le 8 W->Sl aX W.heap.size W A 1 [z]->Calls nH 25 #[aO r t,.slice A 1 1] W (wh 1 ⟨t2,[],0⟩ [me b1] W)):=
  qh fun W A _ _ _ _ _ _ hs=>qS r t [z] A 1 HV.out nV (by intro y hy;rw[List.mem_singleton.1 hy];exact hz6) _ _ (by rw[ha]) (by rw[ha]) 1 rfl W.heap.size W H.out.wide HL.out.up hs (hB:=⟨nR _⟩)
 have yb:=qh ho;have HH:Hid (cY t q s n=hh):=qh YL;clear hl ha ho hp kL ND YL hd hal;go_wp2_with (refine aT ai nY _ rfl rfl X3.out rfl ?_);refine gm fun U hU=>?_;have i1U:au w.heap.size w U:=by rw[<-hU];infer_instance
 have i2U:Le w.heap.size U:=by rw[<-hU];infer_instance
 have i3U:au B w U:=by rw[<-hU];infer_instance
 have i4U:Le B U:=by rw[<-hU];infer_instance
 have i5U:au 8 w U:=by rw[<-hU];infer_instance
 have i6U:Le 8 U:=by rw[<-hU];infer_instance
 have i7U:au Y.heap.size Y U:=by rw[<-hU];infer_instance
 have i8U:Le Y.heap.size U:=by rw[<-hU];infer_instance
 have slU:Hid (Sl aX U.heap.size U (some ⟨Y.heap.size,0,none⟩) 1 [x]):=by rw[<-hU];exact qh (fE (ls:=[x]) (ax.new rfl) rfl nV)
 clear hU;refine(VV.out U _ inferInstance inferInstance inferInstance inferInstance inferInstance inferInstance slU.out).mono ?_;unfold wh;rintro e w1 ⟨aA,ac,rN,lA,lc,δ5,rfl,rfl,oA,oT,oL⟩;have OA:=qh oA;have OT:=qh oT;have OL:=qh oL;clear oA oT oL VV;go_upto_region 4 with(refine jR (cs':=aE rN td) ai rfl _ _ rfl rfl rfl rfl rfl (aM _ _) ?_);obtain⟨ga,Gx⟩:∃g,(af U δ5).heap.size=g:=⟨_,rfl⟩;refine aL fun W5 sS=>?_;have Es:Le B W5:=fI sS;have Gh:au B w W5:=gu sS;obtain⟨sg,tX,tW,sM⟩:=CG 8 w sS;have j1:au Y.heap.size Y W5:=gu sS;have j2:Le Y.heap.size W5:=fI sS;have E5:Hid (ax W5 ga 39 (aE rN td)):=by rw[sS.out];exact qh (ax.new Gx.symm)
 have SA5:Hid (Sl aX W5.heap.size W5 aA ac [a0]):=by rw[sS.out];exact qh (sy (OA.out.alloc _) rfl)
 have ST5:Hid (aJ W5.heap.size W5 rN td):=by rw[sS.out];exact qh (OT.out.alloc _).is
 have SL5:Hid (Sl aX W5.heap.size W5 lA lc (od.map (·.line))):=by rw[sS.out];exact qh (sy (OL.out.alloc _) nV)
 clear sS OA OT OL;have j3:Le W5.heap.size W5:=⟨nR _⟩;rw[Gx];clear Gx;have X5:Hid (ax W5 g3 39 (aE r t)):=qh (ax.dM X3.out);refine C0 4 W5 (abT r t x z) (F:=_) (n:=1) (a:=[me b1]) (d:=⟨t2,[],0⟩) (z:=.bool true) (fun vs=>by simp only[OH.jH,Act.put,List.getElem_toArray,List.getElem_cons_succ,List.getElem_cons_zero,List.setIfInBounds_toArray,List.set_cons_zero,List.set_cons_succ,Nat.reduceAdd];rfl) ⟨inferInstance,inferInstance⟩ ?hU ?hpre ?hcall ?hend (.tmp 10) (.tmp 48) ai ⟨rfl,rfl⟩ ⟨rfl,rfl⟩ ⟨rfl,rfl⟩ ⟨rfl,rfl⟩ ⟨rfl,rfl⟩ ⟨rfl,rfl⟩ ⟨rfl,rfl⟩ ⟨rfl,rfl⟩ ⟨rfl,rfl⟩ ⟨rfl,rfl⟩ ?r1 ?r2 ?r6 ?r7 ?r8 nP;case hU=>
  intro i v W W' hi h g l;match i,hi with
  |0,_=>exact h
  |1,_=>exact h
  |2,_=>exact h
  |3,_=>obtain⟨A,e,k⟩:=h;exact⟨A,e,k.wide⟩
 case hpre=>
  intro put i hi vs W hd g l;match i,hi with
  |0,_=>exact Ll put rfl (cV (S:=fun W=>au W5.heap.size W5 W) ai nY _ rfl rfl (fun W h=>ax.dM (hg:=h) X5.out) rfl) g rfl
  |1,_=>exact qq (w':=W) put rfl rfl nW ⟨inferInstance,inferInstance⟩ rfl
  |2,_=>
   have h1:vs 1=.string (str x):=hd 1 nP nU
   refine zv put rfl rfl nW (HI.out _) ?_
   rintro e w' ⟨rfl,δ,rfl⟩
   exact⟨_,rfl,⟨inferInstance,inferInstance⟩,rfl⟩
  |3,_=>
   have h2:vs 2=.string (str z):=hd 2 nP nU
   refine qq (v:=.slice (some ⟨W.heap.size,0,none⟩) 1 1) (w':=W.alloc (.cells #[.string (str z)] 9)) put rfl rfl (by go_simp<;>rfl) ⟨inferInstance,inferInstance⟩ ⟨_,rfl,fE (ls:=[z]) (ax.new rfl) rfl nV⟩
 case hcall=>intro put vs W hd g l;have h0:vs 0=aO r t:=hd 0 nP nU;obtain⟨A,h3,hs⟩:=hd 3 nP nU;have k1:au w.heap.size w W:=dQ (inferInstance:au w.heap.size w W5) g;have k2:Le w.heap.size W:=⟨nT (inferInstance:Le w.heap.size W5).out l.out⟩;refine QBI ?_;intro k3 k4 k5 k6;exact zv put rfl rfl nW (Mf.out W A k1 k2 k3 k4 k5 k6 hs) fun e w' h=>h.to
 case r1=>intro vs W;go_simp
 case r2=>intro vs W v1 v2 v3 h;exact⟨nW,nW,nW,nW⟩
 case r6=>intro vs W;go_simp;rfl
 case r7=>intro vs W;exact⟨nW,nW,nW⟩
 case r8=>exact⟨rfl,fun vs=>⟨rfl,rfl⟩⟩
 case hend=>
  intro vs W6 bA bc rM mA mc gb e6 e7 e9 eA g9 l9 hA hT hL C9 hgb;replace e6:vs 10=.pointer (some ⟨gb,0,none⟩):=e6;replace e7:vs 11=.slice bA 1 bc:=e7;replace eA:vs 14=.bool true:=eA;have F6:=qh C9;have SB6:Hid (Sl aX W6.heap.size W6 bA bc [me b1]):=qh (sy hA rfl);have TM6:Hid (aJ W6.heap.size W6 rM t2):=qh hT.is;have E6:Hid (ax W6 ga 39 (aE rN td)):=qh (ax.dM E5.out);have X6:Hid (ax W6 g3 39 (aE r t)):=qh (ax.dM X5.out);have SA6:Hid (Sl aX W6.heap.size W6 aA ac [a0]):=qh SA5.out.wide;have ST6:Hid (aJ W6.heap.size W6 rN td):=qh ST5.out.wide;have SL6:Hid (Sl aX W6.heap.size W6 lA lc (od.map (·.line))):=qh SL5.out.wide;clear hA hT hL C9 e9 hgb E5 X5 SA5 ST5 SL5 Mf HI;have k1:au w.heap.size w W6:=dQ (inferInstance:au w.heap.size w W5) g9;have k2:Le w.heap.size W6:=⟨nT (inferInstance:Le w.heap.size W5).out l9.out⟩;refine QBE ?_;intro k3 k4 k5 k6 k7;have HTW:Hid (aJ W6.heap.size W6 r t):=qh H.out.wide;go_upto_region 7 with fail;refine wp_region_held (S:=fun W=>au W6.heap.size W6 W) nP ?_;change wpAnyH _ _ _ _ _ _ _ _ (World.drew _);refine dV 0 (aO r t) rfl nP (cV ai nY _ rfl rfl (fun W h=>ax.dM (hg:=h) X6.out) rfl) (inferInstance) ?_;refine QAC ?_;refine wpH_tq 1 (.string (str x)) (inferInstance) ?_;refine QAC ?_;refine wpAnyH_all (rs:=[2]) (by first|kernel_rfl|decide +kernel) nV ?_;intro i hi;obtain rfl:=List.mem_singleton.1 hi;refine QAF ?_;refine(SU.out _).mono ?_;unfold fR;rintro e w1 ⟨v,δ4,rfl,rfl,hv⟩;have HVL:=qh hv;clear hv;refine⟨inferInstance,?_⟩;refine QAC ?_;refine wpAnyH_all (rs:=[3]) (by first|kernel_rfl|decide +kernel) nV ?_;intro i hi;obtain rfl:=List.mem_singleton.1 hi;refine QAF ?_;refine(vl r t HV.out q c s n HQ.out.1 HQ.out.2.1 HQ.out.2.2 v _ _ (HTW.out.wide) HVL.out (hB:=⟨nR _⟩)).mono ?_;rw[HH.out];rintro e w1 ⟨rfl,δ6,rfl⟩;refine⟨inferInstance,?_⟩;refine QAC ?_;refine wpAnyH_done nP ?_ _;obtain⟨Z8,GD⟩:∃Z,af (af W6.drew δ4) δ6=Z:=⟨_,rfl⟩;have u1:au W6.heap.size W6 Z8:=by rw[<-GD];infer_instance
  have u2:Le W6.heap.size Z8:=by rw[<-GD];infer_instance
  have m1:au w.heap.size w Z8:=by rw[<-GD];infer_instance
  have m2:Le w.heap.size Z8:=by rw[<-GD];infer_instance
  have m5:au 8 w Z8:=by rw[<-GD];infer_instance
  have m6:Le 8 Z8:=by rw[<-GD];infer_instance
  rw[GD];clear GD HVL SU HQ;have hro:=yb.out;clear yb HH;obtain⟨sb,so,rfl,xj,e0⟩:=SA6.out.mh (k:=0) nV;have isb:Lt sb W6:=⟨xj⟩;replace e0:W6.cell? ⟨sb,so,none⟩=some (.string (str a0)):=e0;cases hh with
  |true=>
   obtain⟨ub,uo,rfl,Zv,f0⟩:=SB6.out.mh (k:=0) nV
   have iub:Lt ub W6:=⟨Zv⟩
   replace f0:W6.cell? ⟨ub,uo,none⟩=some (.string (str (me b1))):=f0
   rw[if_pos rfl] at hro
   injection hro with h1 h2
   injection h1 with h3 h4 h5
   injection h2 with h6
   subst h3 h4
   have a1:∀W:nJ,(Op.stringOp .add (⟨#[111,107,32,48,58]⟩:ByteArray) (str (me b1))).run nH W=.ok (.string (str a0)) W:=by intro W;rw[h6,Tp];exact gp (P:=nH) W [111,107,32,48,58] (me b1) (by cases b1<;>decide)
   clear h5 h6 xj Zv
   go_upto_region 8 with fail
   have HXE:Hid (∀w',(∃δ',w'=af Z8 δ')->ax w' ga 39 (aE rN td)):=qh fun w' hw'=>by obtain⟨δ',rfl⟩:=hw';exact(ax.dM (W:=Z8) E6.out).af _
   have HXF:Hid (∀w',(∃δ',w'=af Z8 δ')->ax w' gb 39 (aE rM td)):=qh fun w' hw'=>by obtain⟨δ',rfl⟩:=hw';exact(ax.dM (W:=Z8) F6.out).af _
   have e8:Z8.cell? ⟨sb,so,none⟩=some (.string (str a0)):=(aZ u1.out _ _ isb.out).trans e0
   have f8:Z8.cell? ⟨ub,uo,none⟩=some (.string (str (me b1))):=(aZ u1.out _ _ iub.out).trans f0
   have isz:Lt sb Z8:=⟨nL isb.out u2.out⟩
   have iuz:Lt ub Z8:=⟨nL iub.out u2.out⟩
   try rw[e6]
   try rw[e7]
   refine wpRl ?_
   repeat (first|go_big_quiet_skip|(refine uc ai nY _ rfl rfl HXE.out rfl ?_;simp only[Act.put,List.setIfInBounds_toArray,List.set_cons_zero,List.set_cons_succ])|(refine uc ai nY _ rfl rfl HXF.out rfl ?_;simp only[Act.put,List.setIfInBounds_toArray,List.set_cons_zero,List.set_cons_succ])|(go_big_quiet_step ((first|(go_at_call 19;exact Calls.bN (yC rN rM td W6.heap.size _ ST6.out.up TM6.out.up))|(go_at_call 24;exact Calls.bN (dz _ HL.out.up))))))
   refine QBT ?_
   rintro _ ⟨δq,rfl⟩
   go_wp2_with fail
   go_ret
   exact⟨rfl,ag⟩
  |false=>
   rw[if_neg nU] at hro
   injection hro with h1 h2
   injection h1 with h3 h4 h5
   injection h2 with h6
   subst h3 h4 h6
   replace e0:W6.cell? ⟨sb,so,none⟩=some (.string ⟨#[111,107]⟩):=e0
   have e8:Z8.cell? ⟨sb,so,none⟩=some (.string ⟨#[111,107]⟩):=(aZ u1.out _ _ isb.out).trans e0
   have isz:Lt sb Z8:=⟨nL isb.out u2.out⟩
   clear h5 xj
   go_wp2_with (first|(refine aT ai nY _ rfl rfl (ax.dM E6.out) rfl ?_)|(refine aT ai nY _ rfl rfl (ax.dM X6.out) rfl ?_)|(go_at_call 19;refine(yC rN r td W6.heap.size _ ST6.out.up HTW.out.up).mono ?_;rintro e w1 ⟨rfl,δ9,rfl⟩))
   refine gm fun V hV=>?_
   have slV:Hid (Sl aX V.heap.size V (some ⟨(af Z8 δ9).heap.size,0,none⟩) 1 [x]):=by rw[<-hV];exact qh (fE (ls:=[x]) (ax.new rfl) rfl nV)
   have v1:au W6.heap.size W6 V:=by rw[<-hV];infer_instance
   have v2:Le W6.heap.size V:=by rw[<-hV];infer_instance
   refine QEP ?_
   intro v3 v4 v5 v6 v7
   have SLV:Hid (Sl aX V.heap.size V lA lc [x]):=qh SL6.out.wide
   clear hV
   refine(jk lA _ lc 1 [x] V.heap.size V SLV.out slV.out _ _ rfl rfl).mono ?_
   rintro e w1 ⟨rfl,tF,rfl⟩
   go_wp2_with (go_at_call 24;refine(dz _ HL.out.up).mono ?_;rintro e w1 ⟨rfl,δ11,rfl⟩)
   go_ret
   exact⟨rfl,ag⟩
end
end Go.Proofs.YtdmedlkonaclnaaGreatDoor
