/- A part of the proof that a law of layer 12 holds, cut small by a program (names and blanks): Sr1, Sr2, Sr3, Sr4, Sr7, Sr5, Sr6, Sr8, Sr10, Sr11, Sr12. -/
import Derived.Test.YtdmedlkonaclnaaGreatDoorZ9
import Derived.Test.YtdmedlkonaclnaaGreatDoorZ16
set_option maxRecDepth 100000
set_option maxHeartbeats 40000000
set_option linter.unusedVariables false
set_option linter.unusedSimpArgs false
namespace Go.Proofs.YtdmedlkonaclnaaGreatDoor
open Go.RowKit
open Nat renaming le_trans → nT, lt_of_lt_of_le → nL, le_refl → nR, zero_le → nE, le_of_lt → nS, lt_succ_self → nA
open Go.Proofs.Tryz renaming prog → nH
open Go renaming World → nJ, Value → nK
def DO(l:List Int)(b:Int):List Int:=(Sa.nq l b).map fun i:Nat=>(i:Int)
theorem QV{l:List Int}{k:Nat}(hk:k<l.length)(b:Int):DO (l.take (k+1)) b=DO (l.take k) b++if nth l k=b then[(k:Int)] else[]:=by unfold DO;rw[bE l hk,Sa.Gt,List.map_append,List.length_take,Nat.min_eq_left (nS hk)];split<;>rfl
theorem Uh{l:List Int}(b:Int):(DO l b).length<=l.length:=by unfold DO;rw[List.length_map];exact Sa.DN l b
theorem Lf(l:List Int)(h6:l.length<=6)(A:Option Addr)(c:Nat)(b:Int)(B:Nat)(w:nJ)(hS:Sl aI B w A c l)[hB:Le B w]:Calls nH 132 #[.slice A l.length c,.int .i64 b] w fun e w'=>∃A' c',e=.returned (.slice A' (DO l b).length c')/\Sl aI w'.heap.size w' A' c' (DO l b)/\∃δ,w'=af w δ:=by
 have HS:=qh hS;have hlen:=hS.len;clear hS;go_enter Tryz.func132,Tryz.ntmps132;go_wp2_with fail;go_loopg [5,6] l.length (fun gg o i wr=>∃(k:Nat) (A1:Option Addr) (c1:Nat) (δ:nJ),k<=l.length/\gg=l.length-k/\i=.int .i64 k/\o=.slice A1 (DO (l.take k) b).length c1/\wr=af w δ/\Hid (wr.ownsRow w.heap.size 3 1 (.slice A1 (DO (l.take k) b).length c1) (DO (l.take k) b).length ((DO (l.take k) b).flatMap aI)))
 case atStart=>exact⟨0,none,0,w,nE _,rfl,rfl,by simp[DO,Sa.nq],(bw w).symm,qh (by simpa [DO,Sa.nq] using World.ownsRow_nil _ _ _ _)⟩
 case round=>
  obtain⟨k,A1,c1,δ,hk,rfl,rfl,rfl,rfl,HO⟩:=hrel;by_cases hlt:k<l.length
  ·have hki:(k:Int)<(l.length:Int):=nQ;have HN:=qh (QV hlt b);have jg:(DO (l.take k) b).length<=6:=by have:=Uh (l:=l.take k) b;rw[List.length_take] at this;omega
   obtain⟨x,o,rfl,hb,d0⟩:∃x o,A=some ⟨x,o,none⟩/\x<B/\w.cell? ⟨x,o+k,none⟩=some (.int .i64 (nth l k)):=by obtain⟨x,o,h1,h2,h3⟩:=HS.out.at_ (size:=1) (fun _=>rfl) hlt nQ;exact⟨x,o,h1,h2,by rw[bR _ hlt];simpa using h3 0 _ rfl⟩
   have ib:Lt x w:=⟨nL hb hB.out⟩;obtain⟨f,hf⟩:∃f,DO (l.take k) b=f:=⟨_,rfl⟩;rw[hf] at HN HO jg ⊢;clear hf hb;by_cases he:nth l k=b
   ·have Eo:Hid (DO (l.take (k+1)) b=f++[(k:Int)]):=by have:=HN.out;rwa [if_pos he] at this
    go_wp2_with (at_builtin;(refine dL w wo (.tmp 19) (.tmp 21) rfl rfl HO.out rfl rfl nW rfl (by simp[Value.oneCell']) nQ nQ ?_);intro A' c' δ' hown');go_roundg (l.length-(k+1))
    case measure=>omega
    case rel=>refine⟨k+1,A',c',_,hlt,rfl,by go_num,by rw[Eo.out,List.length_append];rfl,aq,?_⟩;rw[Eo.out];refine qh ?_;rw[List.length_append,List.flatMap_append];exact hown'
   ·have Eo:Hid (DO (l.take (k+1)) b=f):=by have:=HN.out;rwa [if_neg he,List.append_nil] at this
    go_wp2;go_roundg (l.length-(k+1))
    case measure=>omega
    case rel=>exact⟨k+1,A1,c1,δ,hlt,rfl,by go_num,by rw[Eo.out],rfl,by rw[Eo.out];exact HO⟩
  ·obtain rfl:k=l.length:=by omega
   go_wp2;go_ret;have HO:=HO.out;rw[List.take_length] at HO ⊢;exact⟨A1,c1,rfl,Sl.bU HO,δ,rfl⟩
def yh(is:List Nat):List Int:=is.map fun i:Nat=>(i:Int)
theorem zK{is:List Nat}{k:Nat}(hk:k<is.length):nth (yh is) k=((nth is k:Nat):Int):=by unfold yh;rw[jC _ _ hk]
theorem wQ(r:eR)(h:Sa.aN)(hv:Sa.valid h=true)(is:List Nat)(hi:∀i∈is,i<h.parts.length)(h6:is.length<=6)(A:Option Addr)(c:Nat)(B:Nat)(w:nJ)(hH:bT B w r h)(hS:Sl aI B w A c (yh is))[hB:Le B w]:Calls nH 195 #[fA r h,.slice A is.length c] w fun e w'=>e=.returned (.int .i64 (Sa.fB h is).bC)/\∃δ,w'=af w δ:=by
 have HI:=qh hi;have HV:=qh hv;have lp:=hH.2.1.len;have HH:=qh hH;have HS:=qh hS;obtain⟨kA,kc,pA,pc,bA,bc⟩:=r;clear hH hS hv hi;go_enter Tryz.func195,Tryz.ntmps195;go_wp2_with fail;refine QAE ?_;intro W1 aH cJ dF cU dA dD um mV kR mG;refine QCE ?_;intro qg;refine QEH ?_;intro mY GH;clear aH;go_loopg [5,6] is.length (fun gg n i wr=>∃(k:Nat) (δ:nJ),k<=is.length/\gg=is.length-k/\n=.int .i64 (Sa.fB h (is.take k)).bC/\i=.int .i64 k/\wr=af W1 δ)
 case atStart=>exact⟨0,W1,nE _,rfl,rfl,rfl,(bw W1).symm⟩
 case round=>
  obtain⟨k,δ,hk,rfl,rfl,rfl,rfl⟩:=hrel;by_cases hlt:k<is.length
  ·have hki:(k:Int)<(is.length:Int):=nQ;refine QCW ?_;intro hj HN;have hfr:=(Sa.qH HV.out (is.take k) fun i hi=>HI.out i (List.mem_of_mem_take hi)).2.1;have hp:=((Sa.aD.1 HV.out).2.2.1 _ (aV h.parts hj)).2;rw[List.length_take] at hfr;obtain⟨f,hf⟩:∃f,Sa.fB h (is.take k)=f:=⟨_,rfl⟩;rw[hf] at HN hfr ⊢;obtain⟨x,o,rfl,hb,d0⟩:∃x o,A=some ⟨x,o,none⟩/\x<B/\W1.cell? ⟨x,o+k,none⟩=some (.int .i64 ((nth is k:Nat):Int)):=by obtain⟨x,o,h1,h2,h3⟩:=mY.out.at_ (size:=1) (fun _=>rfl) (k:=k) (by simpa [yh] using hlt) nQ;exact⟨x,o,h1,h2,by rw[<-zK hlt,bR _ (by simpa [yh] using hlt)];simpa using h3 0 _ rfl⟩
   obtain⟨j,SL⟩:∃j,nth is k=j:=⟨_,rfl⟩;rw[SL] at HN hj hp d0;obtain⟨y,q,rfl,hy,p0,p1⟩:=qg.out.2.1.part hj;refine QEN ?_;intro ib iy hji hj0;obtain⟨v,qL⟩:∃v,(nth h.parts j).bC=v:=⟨_,rfl⟩;have Eo:Hid ((Sa.fB h (is.take (k+1))).bC=f.bC+v):=by unfold Hid;rw[HN.out,<-qL];rfl
   rw[qL] at p1 hp;have hwr:IntKind.i64.wrap (f.bC+v)=f.bC+v:=by rw[IntWalk.i64_in];omega
   clear hf SL qL hb hy;go_wp2;go_region;go_wp2;go_roundg (is.length-(k+1))
   case measure=>omega
   case rel=>exact⟨k+1,_,hlt,rfl,by rw[Eo.out],by go_num,aq⟩
  ·obtain rfl:k=is.length:=by omega
   go_wp2;go_ret;rw[List.take_length];exact⟨rfl,ag⟩
theorem Lg(r:eR)(h:Sa.aN)(hv:Sa.valid h=true)(is:List Nat)(hi:∀i∈is,i<h.parts.length)(h6:is.length<=6)(A:Option Addr)(c:Nat)(B:Nat)(w:nJ)(hH:bT B w r h)(hS:Sl aI B w A c (yh is))[hB:Le B w]:Calls nH 243 #[fA r h,.slice A is.length c] w fun e w'=>e=.returned (.int .i64 (Sa.fB h is).days)/\∃δ,w'=af w δ:=by
 have HI:=qh hi;have HV:=qh hv;have lp:=hH.2.1.len;have HH:=qh hH;have HS:=qh hS;obtain⟨kA,kc,pA,pc,bA,bc⟩:=r;clear hH hS hv hi;go_enter Tryz.func243,Tryz.ntmps243;go_wp2_with fail;refine QAE ?_;intro W1 aH cJ dF cU dA dD um mV kR mG;refine QCE ?_;intro qg;refine QEH ?_;intro mY GH;clear aH;go_loopg [5,6] is.length (fun gg n i wr=>∃(k:Nat) (δ:nJ),k<=is.length/\gg=is.length-k/\n=.int .i64 (Sa.fB h (is.take k)).days/\i=.int .i64 k/\wr=af W1 δ)
 case atStart=>exact⟨0,W1,nE _,rfl,rfl,rfl,(bw W1).symm⟩
 case round=>
  obtain⟨k,δ,hk,rfl,rfl,rfl,rfl⟩:=hrel;by_cases hlt:k<is.length
  ·have hki:(k:Int)<(is.length:Int):=nQ;refine QCW ?_;intro hj HN;have hfr:=(Sa.qH HV.out (is.take k) fun i hi=>HI.out i (List.mem_of_mem_take hi)).2.2.2;have hp:=Sa.qC HV.out (aV h.parts hj);have hq:=((Sa.aD.1 HV.out).2.2.1 _ (aV h.parts hj)).1;obtain⟨f,hf⟩:∃f,Sa.fB h (is.take k)=f:=⟨_,rfl⟩;rw[hf] at HN hfr ⊢;obtain⟨x,o,rfl,hb,d0⟩:∃x o,A=some ⟨x,o,none⟩/\x<B/\W1.cell? ⟨x,o+k,none⟩=some (.int .i64 ((nth is k:Nat):Int)):=by obtain⟨x,o,h1,h2,h3⟩:=mY.out.at_ (size:=1) (fun _=>rfl) (k:=k) (by simpa [yh] using hlt) nQ;exact⟨x,o,h1,h2,by rw[<-zK hlt,bR _ (by simpa [yh] using hlt)];simpa using h3 0 _ rfl⟩
   obtain⟨j,SL⟩:∃j,nth is k=j:=⟨_,rfl⟩;rw[SL] at HN hj hp hq d0;obtain⟨y,q,rfl,hy,p0,p1⟩:=qg.out.2.1.part hj;refine QEN ?_;intro ib iy hji hj0;obtain⟨t,ht⟩:∃t,(nth h.parts j).kind.toNat=t:=⟨_,rfl⟩;have JZ:(nth h.parts j).kind=(t:Int):=nQ;rw[JZ] at p0;have Ih:t<h.kinds.length:=by rw[<-ht];exact hp.1
   obtain⟨z,u,rfl,hz,z0,z1⟩:=qg.out.1.kind Ih;have iz:Lt z W1:=⟨nL hz GH⟩;have hti:(t:Int)<(h.kinds.length:Int):=nQ;have ht0:¬(t:Int)<0:=nQ;obtain⟨v,qL⟩:∃v,(nth h.kinds t).days=v:=⟨_,rfl⟩;have Eo:Hid ((Sa.fB h (is.take (k+1))).days=max f.days v):=by unfold Hid;rw[HN.out,<-qL];show max _ (nth h.kinds _).days=_;rw[ht]
   rw[qL] at z1;have lk:=qg.out.1.len;clear hf SL qL hb hy hz ht JZ hp hq hfr;go_wp2;go_region;all_goals go_wp2
   all_goals
    go_roundg (is.length-(k+1))
    case measure=>omega
    case rel=>exact⟨k+1,_,hlt,rfl,by rw[Eo.out];first|rw[show max f.days v=v by omega]|rw[show max f.days v=f.days by omega],by go_num,aq⟩
  ·obtain rfl:k=is.length:=by omega
   go_wp2;go_ret;rw[List.take_length];exact⟨rfl,ag⟩
theorem Kb(h:Sa.aN)(is:List Nat):(Sa.fB h is).parts=(is.length:Int):=by
 obtain⟨r,rfl⟩:∃r:List Nat,is=r.reverse:=⟨is.reverse,nV⟩;induction r with
 |nil=>rfl
 |cons i r ih=>
  rw[List.reverse_cons,Sa.rz,List.length_append]
  show(Sa.fB h r.reverse).parts+1=_
  rw[ih];simp
theorem Cd(r:eR)(h:Sa.aN)(hv:Sa.valid h=true)(is:List Nat)(hi:∀i∈is,i<h.parts.length)(h6:is.length<=6)(A:Option Addr)(c:Nat)(B:Nat)(w:nJ)(hH:bT B w r h)(hS:Sl aI B w A c (yh is))[hB:Le B w]:Calls nH 131 #[fA r h,.slice A is.length c] w fun e w'=>e=.returned (.int .i64 (Sa.gQ h.floor (Sa.fB h is)))/\∃δ,w'=af w δ:=by
 have HI:=qh hi;have HV:=qh hv;have lp:=hH.2.1.len;have HH:=qh hH;have HS:=qh hS;obtain⟨kA,kc,pA,pc,bA,bc⟩:=r;clear hH hS hv hi;by_cases h0:is=[]
 ·subst h0;go_enter Tryz.func131,Tryz.ntmps131;go_wp2;go_ret;exact⟨rfl,ag⟩
 have hne:¬is.length=0:=fun e=>h0 (List.length_eq_zero_iff.1 e);have ach:((is.length:Int)==0)=false:=by simp;omega
 have AX:=qh hne;clear h0 hne;go_enter Tryz.func131,Tryz.ntmps131;go_wp2_with fail;refine QAE ?_;intro W1 aH cJ dF cU dA dD um mV kR mG;refine QCE ?_;intro qg;refine QEH ?_;intro mY GH;clear aH;go_loopg [5,6] is.length (fun gg n i wr=>∃(k:Nat) (δ:nJ),k<=is.length/\gg=is.length-k/\n=.int .i64 (Sa.fB h (is.take k)).dR/\i=.int .i64 k/\wr=af W1 δ)
 case atStart=>exact⟨0,W1,nE _,rfl,rfl,rfl,(bw W1).symm⟩
 case round=>
  obtain⟨k,δ,hk,rfl,rfl,rfl,rfl⟩:=hrel;by_cases hlt:k<is.length
  ·have hki:(k:Int)<(is.length:Int):=nQ;refine QCW ?_;intro hj HN;have hfr:=(Sa.qH HV.out (is.take k) fun i hi=>HI.out i (List.mem_of_mem_take hi)).2.2.1;have hp:=Sa.qC HV.out (aV h.parts hj);have hq:=((Sa.aD.1 HV.out).2.2.1 _ (aV h.parts hj)).1;obtain⟨f,hf⟩:∃f,Sa.fB h (is.take k)=f:=⟨_,rfl⟩;rw[hf] at HN hfr ⊢;obtain⟨x,o,rfl,hb,d0⟩:∃x o,A=some ⟨x,o,none⟩/\x<B/\W1.cell? ⟨x,o+k,none⟩=some (.int .i64 ((nth is k:Nat):Int)):=by obtain⟨x,o,h1,h2,h3⟩:=mY.out.at_ (size:=1) (fun _=>rfl) (k:=k) (by simpa [yh] using hlt) nQ;exact⟨x,o,h1,h2,by rw[<-zK hlt,bR _ (by simpa [yh] using hlt)];simpa using h3 0 _ rfl⟩
   obtain⟨j,SL⟩:∃j,nth is k=j:=⟨_,rfl⟩;rw[SL] at HN hj hp hq d0;obtain⟨y,q,rfl,hy,p0,p1⟩:=qg.out.2.1.part hj;refine QEN ?_;intro ib iy hji hj0;obtain⟨t,ht⟩:∃t,(nth h.parts j).kind.toNat=t:=⟨_,rfl⟩;have JZ:(nth h.parts j).kind=(t:Int):=nQ;rw[JZ] at p0;have Ih:t<h.kinds.length:=by rw[<-ht];exact hp.1
   obtain⟨z,u,rfl,hz,z0,z1⟩:=qg.out.1.kind Ih;have iz:Lt z W1:=⟨nL hz GH⟩;have hti:(t:Int)<(h.kinds.length:Int):=nQ;have ht0:¬(t:Int)<0:=nQ;obtain⟨v,qL⟩:∃v,(nth h.kinds t).fU=v:=⟨_,rfl⟩;have Eo:Hid ((Sa.fB h (is.take (k+1))).dR=max f.dR v):=by unfold Hid;rw[HN.out,<-qL];show max _ (nth h.kinds _).fU=_;rw[ht]
   rw[qL] at z0;have lk:=qg.out.1.len;clear hf SL qL hb hy hz ht JZ hp hq hfr;go_wp2;go_region;all_goals go_wp2
   all_goals
    go_roundg (is.length-(k+1))
    case measure=>omega
    case rel=>exact⟨k+1,_,hlt,rfl,by rw[Eo.out];first|rw[show max f.dR v=v by omega]|rw[show max f.dR v=f.dR by omega],by go_num,aq⟩
  ·obtain rfl:k=is.length:=by omega
   rw[List.take_length];have Hz:=qh (Sa.qH HV.out is HI.out);have YN:=Hz.out;have hfl:=(Sa.aD.1 HV.out).1.2.1;have HPA:Hid ((Sa.fB h is).parts=(is.length:Int)):=qh (Kb h is);have HSC:Hid (Sa.gQ h.floor (Sa.fB h is)=h.floor+((Sa.fB h is).bC*(Sa.fB h is).dR+9) / 10):=by unfold Hid Sa.gQ;rw[if_neg (by rw[HPA.out];have:=AX.out;omega)]
   obtain⟨f,hf⟩:∃f,Sa.fB h is=f:=⟨_,rfl⟩;have HF:=qh hf;rw[hf] at YN ⊢;have hm:=Sa.zL (a:=f.bC) (b:=f.dR) (A:=240) (B:=9) ⟨YN.2.1.1,by have:=YN.2.1.2;omega⟩ YN.2.2.1;have hst:=YN.2.2.1;obtain⟨p,hp⟩:∃p,f.bC*f.dR=p:=⟨_,rfl⟩;rw[hp] at hm;have HPP:=qh hp;have hw1:IntKind.i64.wrap (f.bC*f.dR)=p:=by rw[hp,IntWalk.i64_in];omega
   have Xn:IntKind.i64.wrap (p+9)=p+9:=by rw[IntWalk.i64_in];omega
   have hd:(p+9).tdiv 10=(p+9) / 10:=Int.tdiv_eq_ediv_of_nonneg nQ;have hw3:IntKind.i64.wrap ((p+9) / 10)=(p+9) / 10:=by rw[IntWalk.i64_in];omega
   have hw4:IntKind.i64.wrap (h.floor+(p+9) / 10)=h.floor+(p+9) / 10:=by rw[IntWalk.i64_in];omega
   clear hf hp YN;go_wp2;go_region_held3 (fun w'=>w'.cell? ⟨w.heap.size,0,none⟩=some (.slice kA h.kinds.length kc)/\w'.cell? ⟨w.heap.size,1,none⟩=some (.int .i64 h.floor)/\w'.cell? ⟨w.heap.size,2,none⟩=some (.slice pA h.parts.length pc)/\w'.cell? ⟨w.heap.size,3,none⟩=some (.slice bA h.bars.length bc)) (refine⟨?_,?_,?_,?_⟩<;>go_simp)
    (first|(go_at_call 195;refine(wQ ⟨kA,kc,pA,pc,bA,bc⟩ h HV.out is HI.out h6 A c B _ (jt.2 ((qK δ).2 qg.out)) (Ma.2 ((AT δ).2 mY.out))).mono ?_;rw[HF.out];rintro e w1 ⟨rfl,δ2,rfl⟩))
   all_goals go_wp2
   all_goals go_ret
   all_goals exact⟨by rw[HSC.out,HF.out,HPP.out];rfl,ag⟩
theorem Bz(n low high:Int)(w:nJ):Calls nH 81 #[.int .i64 n,.int .i64 low,.int .i64 high] w fun e w'=>e=.returned (.bool (fH low high n))/\w=w':=by go_enter Tryz.func81,Tryz.ntmps81;go_wp2_with (go_at_call 148;refine(yQ _ _ _ _).mono ?_;rintro e w1 ⟨rfl,rfl⟩);go_ret;exact⟨rfl,rfl⟩
theorem dX{n low high:Int}{b:Bool}(h:fH low high n=b)(w:nJ):Calls nH 81 #[.int .i64 n,.int .i64 low,.int .i64 high] w fun e w'=>e=.returned (.bool b)/\w=w':=by subst h;exact Bz n low high w
theorem Fq(n:Int)(w:nJ):Calls nH 192 #[.int .i64 n] w fun e w'=>e=.returned (.bool (fH 0 20 n))/\w=w':=by go_enter Tryz.func192,Tryz.ntmps192;go_wp2_with (go_at_call 81;refine(Bz _ _ _ _).mono ?_;rintro e w1 ⟨rfl,rfl⟩);go_ret;exact⟨rfl,rfl⟩
theorem Je(r:eR)(h:Sa.aN)(hv:Sa.valid h=true)(l:List Int)(hl:l.length=h.parts.length)(hx:∀x∈l,x<(h.bars.length:Int))(d:Int)(A:Option Addr)(c:Nat)(B:Nat)(w:nJ)(hH:bT B w r h)(hS:Sl aI B w A c l)[hB:Le B w]:Calls nH 193 #[fA r h,.slice A l.length c,.int .i64 d] w fun e w'=>e=.returned (.int .i64 (Sa.jo h d l))/\∃δ,w'=af w δ:=by
 have HV:=qh hv;have lb:=hH.2.2.len;refine QDU ?_;intro h6 h4;have HEL:=qh (Sa.GR h4 d hx);have OX:l.length<=6:=nQ;have HH:=qh hH;have HS:=qh hS;have HL:=qh hl;obtain⟨kA,kc,pA,pc,bA,bc⟩:=r;clear hH hS hv hx hl;go_enter Tryz.func193,Tryz.ntmps193;go_wp2_with fail;refine QAE ?_;intro W1 aH cJ dF cU dA dD um mV kR mG;refine QCE ?_;intro qg;have mY:Hid (Sl aI B W1 A c l):=qh HS.out.up;clear aH;go_loopg [7,8,9] h.bars.length (fun gg n i z wr=>∃(k:Nat) (δ:nJ),k<=h.bars.length/\gg=h.bars.length-k/\n=.int .i64 (Sa.gP (Sa.mE h d l) k)/\i=.int .i64 k/\wr=af W1 δ)
 case atStart=>exact⟨0,W1,nE _,rfl,rfl,rfl,(bw W1).symm⟩
 case round=>
  obtain⟨k,δ,hk,rfl,rfl,rfl,rfl⟩:=hrel;by_cases hlt:k<h.bars.length
  ·have hki:(k:Int)<(h.bars.length:Int):=nQ;refine QBY ?_;intro SX SY qd;have Rh:=Sa.jj (A:=300) (f:=Sa.mE h d l) (fun b=>by have:=(Sa.fF HV.out (l:=l) (by have:=HL.out;omega) (b:Int)).2.1;unfold Sa.mE;split<;>omega) k;have hfr:=(Sa.fF HV.out (l:=l) (by have:=HL.out;omega) (k:Int)).2.1;have HN:Hid (Sa.gP (Sa.mE h d l) (k+1)=Sa.gP (Sa.mE h d l) k+(if (Sa.fB h (Sa.nq l (k:Int))).days<=d then (Sa.fB h (Sa.nq l (k:Int))).bC else 0)):=rfl;obtain⟨s,hs⟩:∃s,Sa.gP (Sa.mE h d l) k=s:=⟨_,rfl⟩;have CD:0<=s/\s<=300*k:=by rw[<-hs];exact Rh
   obtain⟨f,hf⟩:∃f,Sa.fB h (Sa.nq l (k:Int))=f:=⟨_,rfl⟩;have hfp:0<=f.bC/\f.bC<=240:=by rw[<-hf];have:=hfr;unfold Sa.iT at this;omega
   rw[hs,hf] at HN;rw[hs];have HF:=qh hf;clear hs Rh hfr hf;have hwr:IntKind.i64.wrap (s+f.bC)=s+f.bC:=by rw[IntWalk.i64_in];omega
   by_cases hd:f.days<=d
   ·rw[if_pos hd] at HN;go_wp2_with (first|(go_at_call 132;refine(Lf l OX A c k B _ mY.out.up).mono ?_;rintro e w1 ⟨A1,c1,rfl,hs1,δ1,rfl⟩;rw[qd.out];have HT:=qh hs1;clear hs1)|(go_at_call 243;refine(Lg ⟨kA,kc,pA,pc,bA,bc⟩ h HV.out (Sa.nq l (k:Int)) SX.out SY.out A1 c1 _ _ qg.out.wide HT.out).mono ?_;rw[HF.out];rintro e w1 ⟨rfl,δ2,rfl⟩)|(go_at_call 195;refine(wQ ⟨kA,kc,pA,pc,bA,bc⟩ h HV.out (Sa.nq l (k:Int)) SX.out SY.out A1 c1 _ _ qg.out.wide HT.out.wide).mono ?_;rw[HF.out];rintro e w1 ⟨rfl,δ3,rfl⟩));go_roundg (h.bars.length-(k+1))
    case measure=>omega
    case rel=>exact⟨k+1,_,hlt,rfl,by rw[HN.out],by go_num,aq⟩
   ·rw[if_neg hd] at HN;go_wp2_with (first|(go_at_call 132;refine(Lf l OX A c k B _ mY.out.up).mono ?_;rintro e w1 ⟨A1,c1,rfl,hs1,δ1,rfl⟩;rw[qd.out];have HT:=qh hs1;clear hs1)|(go_at_call 243;refine(Lg ⟨kA,kc,pA,pc,bA,bc⟩ h HV.out (Sa.nq l (k:Int)) SX.out SY.out A1 c1 _ _ qg.out.wide HT.out).mono ?_;rw[HF.out];rintro e w1 ⟨rfl,δ2,rfl⟩));go_roundg (h.bars.length-(k+1))
    case measure=>omega
    case rel=>exact⟨k+1,_,hlt,rfl,by rw[HN.out,Int.add_zero],by go_num,aq⟩
  ·obtain rfl:k=h.bars.length:=by omega
   go_wp2;go_ret;exact⟨by rw[HEL.out];rfl,ag⟩
theorem wT(r:eR)(h:Sa.aN)(B:Nat)(w:nJ)(hH:bT B w r h)[hB:Le B w]:Calls nH 37 #[fA r h] w fun e w'=>e=.returned (.int .i64 (cC (Sa.valid h) 80))/\∃δ,w'=af w δ:=by
 have HH:=qh hH;have l1:=hH.1.len;have l2:=hH.2.1.len;have l3:=hH.2.2.len;obtain⟨kA,kc,pA,pc,bA,bc⟩:=r;clear hH;by_cases t1:(3:Int)<(h.kinds.length:Int)
 ·have HB:=qh (rY (eo (h:=h) (.inl (by unfold Sa.oG;rw[decide_eq_false nQ];simp))));go_enter Tryz.func37,Tryz.ntmps37;go_wp2;go_ret;exact⟨HB.out,ag⟩
 rcases t2:fH 0 9 h.floor with _|_
 ·have HB:=qh (rY (eo (h:=h) (.inl (by unfold Sa.oG;rw[t2];simp))));have T2:=qh t2;clear t2;go_enter Tryz.func37,Tryz.ntmps37;go_wp2_with (go_at_call 81;refine(dX T2.out _).mono ?_;rintro e w1 ⟨rfl,rfl⟩);go_ret;exact⟨HB.out,ag⟩
 have T2:=qh t2;by_cases t3:(6:Int)<(h.parts.length:Int)
 ·have HB:=qh (rY (eo (h:=h) (.inl (by unfold Sa.oG;rw[decide_eq_false (p:=h.parts.length<=6) nQ];simp))));clear t2;go_enter Tryz.func37,Tryz.ntmps37;go_wp2_with (go_at_call 81;refine(dX T2.out _).mono ?_;rintro e w1 ⟨rfl,rfl⟩);go_ret;exact⟨HB.out,ag⟩
 by_cases t4:(4:Int)<(h.bars.length:Int)
 ·have HB:=qh (rY (eo (h:=h) (.inl (by unfold Sa.oG;rw[decide_eq_false (p:=h.bars.length<=4) nQ];simp))));clear t2;go_enter Tryz.func37,Tryz.ntmps37;go_wp2_with (go_at_call 81;refine(dX T2.out _).mono ?_;rintro e w1 ⟨rfl,rfl⟩);go_ret;exact⟨HB.out,ag⟩
 have HT:Hid (Sa.oG h=true):=by unfold Hid Sa.oG;rw[t2];simp;omega
 clear t2;go_enter Tryz.func37,Tryz.ntmps37;go_wp2_with (go_at_call 81;refine(dX T2.out _).mono ?_;rintro e w1 ⟨rfl,rfl⟩);refine QAE ?_;intro W1 aH cJ dF cU dA dD um mV kR mG;refine QCE ?_;intro qg;clear aH;go_loopg [3] h.kinds.length (fun g i wr=>∃(k:Nat) (δ:nJ),k<=h.kinds.length/\g=h.kinds.length-k/\i=.int .i64 k/\Hid ((h.kinds.take k).all Sa.oJ=true)/\wr=af W1 δ)
 case atStart=>exact⟨0,W1,nE _,rfl,rfl,rfl,(bw _).symm⟩
 case round=>
  obtain⟨k,δ,hk,rfl,rfl,HK,rfl⟩:=hrel;by_cases hlt:k<h.kinds.length
  ·obtain⟨b,o,rfl,hb,d0,d1⟩:=qg.out.1.kind hlt;have ib:Lt b W1:=⟨nL hb cJ.out⟩;have hki:(k:Int)<(h.kinds.length:Int):=nQ;have hk0:¬(k:Int)<0:=nQ;rcases vB (nth h.kinds k) with⟨c0,c1,c2⟩|⟨c0,c1⟩|⟨c0,c1,c2⟩
   ·have uv:=qh (qJ hlt HK.out c0);have C1:=qh c1;have C2:=qh c2;clear c0 c1 c2;go_wp2_with (go_at_call 81;first|(with_reducible refine(dX C1.out _).mono ?_;rintro e w1 ⟨rfl,rfl⟩)|(with_reducible refine(dX C2.out _).mono ?_;rintro e w1 ⟨rfl,rfl⟩));go_roundg (h.kinds.length-(k+1))
    case measure=>omega
    case rel=>exact⟨k+1,_,hlt,rfl,by go_num,uv,aq⟩
   ·have HB:=qh (rY (eo (h:=h) (.inr (.inl (mH hlt c0)))));have C1:=qh c1;clear c0 c1;go_wp2_with (go_at_call 81;refine(dX C1.out _).mono ?_;rintro e w1 ⟨rfl,rfl⟩);go_ret;exact⟨HB.out,ag⟩
   ·have HB:=qh (rY (eo (h:=h) (.inr (.inl (mH hlt c0)))));have C1:=qh c1;have C2:=qh c2;clear c0 c1 c2;go_wp2_with (go_at_call 81;first|(with_reducible refine(dX C1.out _).mono ?_;rintro e w1 ⟨rfl,rfl⟩)|(with_reducible refine(dX C2.out _).mono ?_;rintro e w1 ⟨rfl,rfl⟩));go_ret;exact⟨HB.out,ag⟩
  ·obtain rfl:k=h.kinds.length:=by omega
   have HKA:Hid (h.kinds.all Sa.oJ=true):=by have:=HK.out;rw[List.take_length] at this;exact this
   clear HK;go_wp2_with fail;go_loopg [4] h.parts.length (fun g i wr=>∃(k:Nat) (δ:nJ),k<=h.parts.length/\g=h.parts.length-k/\i=.int .i64 k/\Hid ((h.parts.take k).all (Sa.mw h.kinds.length)=true)/\wr=af W1 δ)
   case atStart=>exact⟨0,_,nE _,rfl,rfl,rfl,aq⟩
   case round=>
    obtain⟨k,δ,hk,rfl,rfl,HK,rfl⟩:=hrel;by_cases hlt:k<h.parts.length
    ·obtain⟨b,o,rfl,hb,d0,d1⟩:=qg.out.2.1.part hlt;have ib:Lt b W1:=⟨nL hb cJ.out⟩;have hki:(k:Int)<(h.parts.length:Int):=nQ;have hk0:¬(k:Int)<0:=nQ;have hwn:IntKind.i64.wrap ((h.kinds.length:Int)-1)=(h.kinds.length:Int)-1:=by rw[IntWalk.i64_in];omega
     rcases vA (h.kinds.length:Int) (nth h.parts k) with⟨c0,c1,c2⟩|⟨c0,c1⟩|⟨c0,c1,c2⟩
     ·have uv:=qh (qJ (p:=Sa.mw h.kinds.length) hlt HK.out c0);have C1:=qh c1;have C2:=qh c2;clear c0 c1 c2;go_wp2_with fail;refine wpRl ?_;repeat (go_big_quiet_step ((first|(go_at_call 81;(first|with_reducible exact Calls.lC (dX C1.out _)|with_reducible exact Calls.lC (dX C2.out _))))))
      refine QBT ?_;rintro _ ⟨δq,rfl⟩;go_wp2_with fail;go_roundg (h.parts.length-(k+1))
      case measure=>omega
      case rel=>exact⟨k+1,_,hlt,rfl,by go_num,uv,aq⟩
     ·have HB:=qh (rY (eo (h:=h) (.inr (.inr (.inl (mH hlt c0))))));have C1:=qh c1;clear c0 c1;go_wp2_with fail;refine wpRl ?_;repeat (go_big_quiet_step ((first|(go_at_call 81;exact Calls.lC (dX C1.out _)))))
      refine QBT ?_;rintro _ ⟨δq,rfl⟩;go_wp2_with fail;go_ret;exact⟨HB.out,ag⟩
     ·have HB:=qh (rY (eo (h:=h) (.inr (.inr (.inl (mH hlt c0))))));have C1:=qh c1;have C2:=qh c2;clear c0 c1 c2;go_wp2_with fail;refine wpRl ?_;repeat (go_big_quiet_step ((first|(go_at_call 81;(first|with_reducible exact Calls.lC (dX C1.out _)|with_reducible exact Calls.lC (dX C2.out _))))))
      refine QBT ?_;rintro _ ⟨δq,rfl⟩;go_wp2_with fail;go_ret;exact⟨HB.out,ag⟩
    ·obtain rfl:k=h.parts.length:=by omega
     have HPA:Hid (h.parts.all (Sa.mw h.kinds.length)=true):=by have:=HK.out;rw[List.take_length] at this;exact this
     clear HK;go_wp2_with fail;go_loopg [5] h.bars.length (fun g i wr=>∃(k:Nat) (δ:nJ),k<=h.bars.length/\g=h.bars.length-k/\i=.int .i64 k/\Hid ((h.bars.take k).all (fH 0 99)=true)/\wr=af W1 δ)
     case atStart=>exact⟨0,_,nE _,rfl,rfl,rfl,aq⟩
     case round=>
      obtain⟨k,δ,hk,rfl,rfl,HK,rfl⟩:=hrel;by_cases hlt:k<h.bars.length
      ·obtain⟨b,o,rfl,hb,d0⟩:=qg.out.2.2.int hlt;have ib:Lt b W1:=⟨nL hb cJ.out⟩;have hki:(k:Int)<(h.bars.length:Int):=nQ;have hk0:¬(k:Int)<0:=nQ;rcases hq:fH 0 99 (nth h.bars k) with _|_
       ·have HB:=qh (rY (eo (h:=h) (.inr (.inr (.inr (mH hlt hq))))));have HQ:=qh hq;clear hq;go_wp2_with (go_at_call 81;refine(dX HQ.out _).mono ?_;rintro e w1 ⟨rfl,rfl⟩);go_ret;exact⟨HB.out,ag⟩
       ·have HQ:=qh hq;have uv:=qh (qJ hlt HK.out hq);clear hq;go_wp2_with (go_at_call 81;refine(dX HQ.out _).mono ?_;rintro e w1 ⟨rfl,rfl⟩);go_roundg (h.bars.length-(k+1))
        case measure=>omega
        case rel=>exact⟨k+1,_,hlt,rfl,by go_num,uv,aq⟩
      ·obtain rfl:k=h.bars.length:=by omega
       have HB:Hid (Ending.returned (.int .i64 0)=Ending.returned (Value.int .i64 (cC (Sa.valid h) 80))):=by
        have hb:h.bars.all (fH 0 99)=true:=by have:=HK.out;rwa [List.take_length] at this
        unfold Hid Sa.valid;rw[HT.out,HKA.out,HPA.out,hb];rfl
       go_wp2;go_ret;exact⟨HB.out,ag⟩
theorem mM(r:eR)(h:Sa.aN)(hv:Sa.valid h=true)(B:Nat)(w:nJ)(hH:bT B w r h)[hB:Le B w]:Calls nH 37 #[fA r h] w fun e w'=>e=.returned (.int .i64 0)/\∃δ,w'=af w δ:=by have:=wT r h B w hH;rwa [show cC (Sa.valid h) 80=0 by rw[hv];rfl] at this
def U7(q:Bool):Int:=if q=true then 0 else 1
theorem Ds(r:eR)(h:Sa.aN)(hv:Sa.valid h=true)(q:Bool)(B:Nat)(w:nJ)(hH:bT B w r h)[hB:Le B w]:Calls nH 129 #[fA r h,.bool q] w fun e w'=>e=.returned (.int .i64 (U7 q))/\∃δ,w'=af w δ:=by have HH:=qh hH;have HV:=qh hv;obtain⟨kA,kc,pA,pc,bA,bc⟩:=r;clear hH hv;cases q;all_goals go_enter Tryz.func129,Tryz.ntmps129;go_wp2_with (go_at_call 37;refine(mM ⟨kA,kc,pA,pc,bA,bc⟩ h HV.out B _ HH.out.up).mono ?_;rintro e w1 ⟨rfl,δ1,rfl⟩);go_ret;exact⟨rfl,ag⟩
theorem Dq(r:eR)(h:Sa.aN)(hv:Sa.valid h=true)(l:List Int)(hl:l.length<=h.parts.length)(q:Bool)(hq:Sa.fits h l=q)(A:Option Addr)(c:Nat)(B:Nat)(w:nJ)(hH:bT B w r h)(hS:Sl aI B w A c l)[hB:Le B w]:Calls nH 194 #[fA r h,.slice A l.length c] w fun e w'=>e=.returned (.bool q)/\∃δ,w'=af w δ:=by
 have HV:=qh hv;have HQ:Hid (Am h (dW h l)=q):=qh ((Ry h l).trans hq);have lb:=hH.2.2.len;have h6:=(Sa.aD.1 hv).1.2.2.1;have OX:l.length<=6:=nQ;have HH:=qh hH;have HS:=qh hS;have HL:=qh hl;obtain⟨kA,kc,pA,pc,bA,bc⟩:=r;clear hH hS hv hl hq;go_enter Tryz.func194,Tryz.ntmps194;go_wp2_with fail;refine QAE ?_;intro W1 aH cJ dF cU dA dD um mV kR mG;refine QCE ?_;intro qg;have mY:Hid (Sl aI B W1 A c l):=qh HS.out.up;have GH:B<=W1.heap.size:=(inferInstance:Le B W1).out;clear aH;go_loopg [5,6] h.bars.length (fun gg i z wr=>∃(k:Nat) (δ:nJ),k<=h.bars.length/\gg=h.bars.length-k/\i=.int .i64 k/\wr=af W1 δ/\Hid (∀b,b<k->Sa.qy h.floor (dW h l b)<=nth h.bars b))
 case atStart=>exact⟨0,W1,nE _,rfl,rfl,(bw W1).symm,qh fun b hb=>absurd hb (Nat.not_lt_zero b)⟩
 case round=>
  obtain⟨k,δ,hk,rfl,rfl,rfl,HA⟩:=hrel;by_cases hlt:k<h.bars.length
  ·have hki:(k:Int)<(h.bars.length:Int):=nQ;have hk0:¬(k:Int)<0:=nQ;refine QBY ?_;intro SX SY qd;have hfr:=Sa.fF HV.out (l:=l) (by have:=HL.out;omega) (k:Int);have ZA:=Sa.nM (Sa.aD.1 HV.out).1.2.1 hfr;have hfp:=hfr.2.1;have HND:Hid (Sa.qy h.floor (dW h l k)=(Sa.fB h (Sa.nq l (k:Int))).bC+Sa.gQ h.floor (Sa.fB h (Sa.nq l (k:Int)))):=rfl;unfold Sa.iT at ZA hfp;obtain⟨p,hp⟩:∃p,(Sa.fB h (Sa.nq l (k:Int))).bC=p:=⟨_,rfl⟩;obtain⟨v,qL⟩:∃v,Sa.gQ h.floor (Sa.fB h (Sa.nq l (k:Int)))=v:=⟨_,rfl⟩;rw[hp,qL] at HND;rw[hp] at hfp;rw[qL] at ZA;have HP:=qh hp;have Mc:=qh qL;have hwr:IntKind.i64.wrap (p+v)=p+v:=by rw[IntWalk.i64_in];omega
   obtain⟨y,o,rfl,hb,d0⟩:∃x o,bA=some ⟨x,o,none⟩/\x<B/\W1.cell? ⟨x,o+k,none⟩=some (.int .i64 (nth h.bars k)):=by obtain⟨x,o,h1,h2,h3⟩:=qg.out.2.2.at_ (size:=1) (fun _=>rfl) hlt nQ;exact⟨x,o,h1,h2,by rw[bR _ hlt];simpa using h3 0 _ rfl⟩
   have iy:Lt y W1:=⟨nL hb GH⟩;obtain⟨x,hx⟩:∃x,nth h.bars k=x:=⟨_,rfl⟩;rw[hx] at d0;have HX:=qh hx;clear hp qL hfr hx hb;go_wp2_with (go_at_call 132;refine(Lf l OX A c k B _ mY.out.up).mono ?_;rintro e w1 ⟨A1,c1,rfl,hs1,δ1,rfl⟩;rw[qd.out];have HT:=qh hs1;clear hs1);have Mh:Hid (bT (af (af W1 δ) δ1).heap.size (af (af W1 δ) δ1) ⟨kA,kc,pA,pc,some ⟨y,o,none⟩,bc⟩ h):=qh qg.out.wide;go_region_held3 (fun w'=>w'.cell? ⟨w.heap.size,0,none⟩=some (.slice kA h.kinds.length kc)/\w'.cell? ⟨w.heap.size,1,none⟩=some (.int .i64 h.floor)/\w'.cell? ⟨w.heap.size,2,none⟩=some (.slice pA h.parts.length pc)/\w'.cell? ⟨w.heap.size,3,none⟩=some (.slice (some ⟨y,o,none⟩) h.bars.length bc)/\w'.cell? ⟨y,o+k,none⟩=some (.int .i64 x)) (refine⟨?_,?_,?_,?_,?_⟩<;>go_simp)
    (first|(go_at_call 195;refine(wQ ⟨kA,kc,pA,pc,some ⟨y,o,none⟩,bc⟩ h HV.out (Sa.nq l (k:Int)) SX.out SY.out A1 c1 (af (af W1 δ) δ1).heap.size _ (by first|exact Mh.out|exact(qK _).2 Mh.out) (by first|exact HT.out|exact(AT _).2 HT.out)).mono ?_;rw[HP.out];rintro e w1 ⟨rfl,δ2,rfl⟩)|(go_at_call 131;refine(Cd ⟨kA,kc,pA,pc,some ⟨y,o,none⟩,bc⟩ h HV.out (Sa.nq l (k:Int)) SX.out SY.out A1 c1 (af (af W1 δ) δ1).heap.size _ (by first|exact Mh.out|exact(qK _).2 Mh.out) (by first|exact HT.out|exact(AT _).2 HT.out)).mono ?_;rw[Mc.out];rintro e w1 ⟨rfl,δ3,rfl⟩))
   all_goals
    by_cases hc:x<p+v
    ·have HE:Hid (q=false):=qh (HQ.out.symm.trans (CF hlt HA.out (by rw[HND.out,HX.out];omega)));clear HA;go_wp2;go_ret;rw[HE.out];exact⟨rfl,ag⟩
    ·go_wp2;go_roundg (h.bars.length-(k+1))
     case measure=>omega
     case rel=>
      refine⟨k+1,_,hlt,rfl,by go_num,aq,qh fun b hb=>?_⟩;rcases Nat.lt_succ_iff_lt_or_eq.1 hb with hb|rfl
      ·exact HA.out b hb
      ·rw[HND.out,HX.out];omega
  ·obtain rfl:k=h.bars.length:=by omega
   have HE:Hid (q=true):=qh (HQ.out.symm.trans (GJ HA.out));clear HA;go_wp2;go_ret;rw[HE.out];exact⟨rfl,ag⟩
theorem Jf(r:eR)(h:Sa.aN)(hv:Sa.valid h=true)(l:List Int)(hl:l.length=h.parts.length)(hx:∀x∈l,x<(h.bars.length:Int))(A:Option Addr)(c:Nat)(B:Nat)(w:nJ)(hH:bT B w r h)(hS:Sl aI B w A c l)[hB:Le B w]:Calls nH 65 #[fA r h,.slice A l.length c] w fun e w'=>e=.returned (.int .i64 (Sa.cL h l))/\∃δ,w'=af w δ:=by
 have HV:=qh hv;have lb:=hH.2.2.len;refine QDU ?_;intro h6 h4;have HEL:=qh (Sa.Ei h4 hx);have OX:l.length<=6:=nQ;have HH:=qh hH;have HS:=qh hS;have HL:=qh hl;obtain⟨kA,kc,pA,pc,bA,bc⟩:=r;clear hH hS hv hx hl;go_enter Tryz.func65,Tryz.ntmps65;go_wp2_with fail;refine QAE ?_;intro W1 aH cJ dF cU dA dD um mV kR mG;refine QCE ?_;intro qg;have mY:Hid (Sl aI B W1 A c l):=qh HS.out.up;clear aH;go_loopg [5,6] h.bars.length (fun gg n i wr=>∃(k:Nat) (δ:nJ),k<=h.bars.length/\gg=h.bars.length-k/\n=.int .i64 (Sa.gP (Sa.vf h l) k)/\i=.int .i64 k/\wr=af W1 δ)
 case atStart=>exact⟨0,W1,nE _,rfl,rfl,rfl,(bw W1).symm⟩
 case round=>
  obtain⟨k,δ,hk,rfl,rfl,rfl,rfl⟩:=hrel;by_cases hlt:k<h.bars.length
  ·have hki:(k:Int)<(h.bars.length:Int):=nQ;refine QBY ?_;intro SX SY qd;have Rh:=Sa.jj (A:=300) (f:=Sa.vf h l) (fun b=>Sa.nM (Sa.aD.1 HV.out).1.2.1 (Sa.fF HV.out (l:=l) (by have:=HL.out;omega) (b:Int))) k;have ZA:=Sa.nM (Sa.aD.1 HV.out).1.2.1 (Sa.fF HV.out (l:=l) (by have:=HL.out;omega) (k:Int));have HN:Hid (Sa.gP (Sa.vf h l) (k+1)=Sa.gP (Sa.vf h l) k+Sa.gQ h.floor (Sa.fB h (Sa.nq l (k:Int)))):=rfl;obtain⟨s,hs⟩:∃s,Sa.gP (Sa.vf h l) k=s:=⟨_,rfl⟩;have CD:0<=s/\s<=300*k:=by rw[<-hs];exact Rh
   unfold Sa.iT at ZA;obtain⟨v,qL⟩:∃v,Sa.gQ h.floor (Sa.fB h (Sa.nq l (k:Int)))=v:=⟨_,rfl⟩;rw[qL] at ZA;rw[hs,qL] at HN;rw[hs];have Mc:=qh qL;clear hs Rh qL;have hwr:IntKind.i64.wrap (s+v)=s+v:=by rw[IntWalk.i64_in];omega
   go_wp2;go_region_held3 (fun w'=>w'.cell? ⟨w.heap.size,0,none⟩=some (.slice kA h.kinds.length kc)/\w'.cell? ⟨w.heap.size,1,none⟩=some (.int .i64 h.floor)/\w'.cell? ⟨w.heap.size,2,none⟩=some (.slice pA h.parts.length pc)/\w'.cell? ⟨w.heap.size,3,none⟩=some (.slice bA h.bars.length bc)) (refine⟨?_,?_,?_,?_⟩<;>go_simp)
    (first|(go_at_call 132;refine(Lf l OX A c k B _ (Ma.2 ((AT δ).2 mY.out))).mono ?_;rintro e w1 ⟨A1,c1,rfl,hs1,δ1,rfl⟩;rw[qd.out];have HT:=qh hs1;clear hs1)|(go_at_call 131;refine(Cd ⟨kA,kc,pA,pc,bA,bc⟩ h HV.out (Sa.nq l (k:Int)) SX.out SY.out A1 c1 _ _ (((qK δ1).2 (jt.2 ((qK δ).2 qg.out))).more (inferInstance:Le B (af (af W1 δ).drew δ1)).out) HT.out).mono ?_;rw[Mc.out];rintro e w1 ⟨rfl,δ2,rfl⟩))
   all_goals go_wp2
   all_goals
    go_roundg (h.bars.length-(k+1))
    case measure=>omega
    case rel=>exact⟨k+1,_,hlt,rfl,by rw[HN.out],by go_num,aq⟩
  ·obtain rfl:k=h.bars.length:=by omega
   go_wp2;go_ret;exact⟨by rw[HEL.out];rfl,ag⟩
def xQ(h:Sa.aN)(m:Nat)(f:List Int)(j:Nat):List (List Int):=(List.range j).flatMap fun(b:Nat)=>Sa.fV h m (f++[(b:Int)])
theorem zP{h:Sa.aN}{m:Nat}{f:List Int}{j:Nat}:xQ h m f (j+1)=xQ h m f j++Sa.fV h m (f++[(j:Int)]):=by simp[xQ,List.range_succ]
theorem Cr{h:Sa.aN}(h4:h.bars.length<=5)(k:Nat)(l:List Int):(Sa.fV h k l).length<=5 ^ k:=by
 induction k generalizing l with
 |zero=>rw[Sa.fV];split<;>simp
 |succ k ih=>
  have key:∀j,(xQ h k l j).length<=j*5 ^ k:=by
   intro j;induction j with
   |zero=>simp[xQ]
   |succ j ihj=>
    rw[zP,List.length_append,Nat.succ_mul]
    have:=ih (l++[(j:Int)])
    omega
  have h1:=key h.bars.length
  have:h.bars.length*5 ^ k<=5*5 ^ k:=Nat.mul_le_mul_right _ h4
  rw[Sa.fV,Nat.pow_succ,Nat.mul_comm]
  split
  ·exact nT h1 this
  ·simp
theorem Pv(T:TypeId)(w:nJ):wv T aI w none 0 []:=⟨nR _,nU,[],fun h=>absurd rfl h,iV.nil⟩
theorem FV(r:eR)(h:Sa.aN)(hv:Sa.valid h=true)(f:List Int)(hl:f.length<=h.parts.length)(hf:Sa.fits h f=false)(A:Option Addr)(c:Nat)(B:Nat)(w:nJ)[hB:Le B w](hH:bT B w r h)(hS:fN 3 aI w.heap.size w A c f):Calls nH 130 #[fA r h,.slice A f.length c,.int .i64 0] w (pQ w []):=by have HH:=qh hH;have HV:=qh hv;have HS:=qh hS;have HF:=qh hf;have HL:=qh hl;obtain⟨kA,kc,pA,pc,bA,bc⟩:=r;clear hH hv hS hf hl;go_enter Tryz.func130,Tryz.ntmps130;go_wp2_with (go_at_call 194;refine(Dq ⟨kA,kc,pA,pc,bA,bc⟩ h HV.out f HL.out false HF.out A c w.heap.size _ (HH.out.more hB.out).up HS.out.plain.up).mono ?_;rintro e w1 ⟨rfl,δ1,rfl⟩);go_ret;exact⟨none,0,_,rfl,aq,Pv _ _⟩
theorem Nr(r:eR)(h:Sa.aN)(hv:Sa.valid h=true)(f:List Int)(hl:f.length=h.parts.length)(hf:Sa.fits h f=true)(A:Option Addr)(c:Nat)(B:Nat)(w:nJ)[hB:Le B w](hH:bT B w r h)(hS:fN 3 aI w.heap.size w A c f):Calls nH 130 #[fA r h,.slice A f.length c,.int .i64 0] w (pQ w [f]):=by
 have hE:((f.length:Int)==(h.parts.length:Int))=true:=by simp;omega
 have l1:=hS.plain.len;have HH:=qh hH;have HV:=qh hv;have HS:=qh hS;have HF:=qh hf;have HL:=qh hl;obtain⟨kA,kc,pA,pc,bA,bc⟩:=r;clear hH hv hS hf hl;go_enter Tryz.func130,Tryz.ntmps130;go_wp2_with (go_at_call 194;refine(Dq ⟨kA,kc,pA,pc,bA,bc⟩ h HV.out f (Nat.le_of_eq HL.out) true HF.out A c w.heap.size _ (HH.out.more hB.out).up HS.out.plain.up).mono ?_;rintro e w1 ⟨rfl,δ1,rfl⟩);go_ret;refine⟨some ⟨_,0,none⟩,1,_,rfl,aq,?_⟩;refine QDJ ?_;exact⟨nR _,nQ,[.slice A f.length c],ox nW nW,iV.one HS.out.wide⟩
def Yp(h:Sa.aN)(m:Nat):Prop:=∀(r:eR) (f:List Int) (A:Option Addr) (c:Nat) (B:Nat) (w:nJ),Le B w->bT B w r h->fN 3 aI w.heap.size w A c f->f.length+m=h.parts.length->∀ln:Nat,f.length=ln ->
 Calls nH 130 #[fA r h,.slice A ln c,.int .i64 0] w (pQ w (Sa.fV h m f))
theorem QE(h:Sa.aN)(hv:Sa.valid h=true)(m:Nat)(IH:Yp h m):Yp h (m+1):=by
 intro r f A c B w hB hH hf hfl ln jg;subst jg;rcases hq:Sa.fits h f with _|_
 ·have e:Sa.fV h (m+1) f=[]:=by rw[Sa.fV,hq];rfl
  rw[e];exact FV r h hv f nQ hq A c B w hH hf
 have l1:=hf.plain.len;have lb:=hH.2.2.len;have h4:=(Sa.aD.1 hv).1.2.2.2;have h6:=(Sa.aD.1 hv).1.2.2.1;have hne:((f.length:Int)==(h.parts.length:Int))=false:=by simp;omega
 have hF:Hid (Sa.fV h (m+1) f=xQ h m f h.bars.length):=by unfold Hid;rw[Sa.fV,if_pos hq];rfl
 have Xt:5 ^ m<=3125:=by have:5 ^ m<=5 ^ 5:=Nat.pow_le_pow_right nQ nQ;omega
 have acw:f.length<=6:=nQ;have CY:=qh hfl;have Vk:=qh IH;have HH:=qh hH;have HV:=qh hv;have HQ:=qh hq;have HLP:Hid (f.length<=h.parts.length):=qh nQ;obtain⟨kA,kc,pA,pc,bA,bc⟩:=r;clear hfl IH hH hv hq;go_enter Tryz.func130,Tryz.ntmps130;go_wp2_with (go_at_call 194;refine(Dq ⟨kA,kc,pA,pc,bA,bc⟩ h HV.out f HLP.out true HQ.out A c w.heap.size _ (HH.out.more hB.out).up hf.plain.up).mono ?_;rintro e w1 ⟨rfl,δ1,rfl⟩);refine QAE ?_;intro W1 aH cJ dF cU dA dD um mV kR mG;have g1:bT B W1 ⟨kA,kc,pA,pc,bA,bc⟩ h:=HH.out.up;have g2:fN 3 aI W1.heap.size W1 A c f:=hf.wide;have G1:=qh g1;have G2:=qh g2;clear g1 g2 hf;go_loopw [7,8] (fun o g wr=>∃(k c':Nat) (A':Option Addr) (cs:List nK) (L:List (List Int)),k<=h.bars.length/\g=.int .i64 k/\Hid (L=xQ h m f k)/\L.length<=k*5 ^ m/\o=.slice A' L.length c'/\wr.ownsRow W1.heap.size 35 1 (.slice A' L.length c') L.length cs/\iV 3 aI wr cs L/\au W1.heap.size W1 wr/\Le W1.heap.size wr) (fun _ g _=>(h.bars.length-(intOf g).toNat))
 case atStart=>exact⟨0,0,none,[],[],nE _,rfl,by simp[xQ,Hid],nV,rfl,World.ownsRow_nil _ _ _ _,iV.nil,inferInstance,inferInstance⟩
 case round=>
  obtain⟨k,c',A',cs,L,hk,rfl,hL,hLl,rfl,hown,hsub,i1,i2⟩:=hrel;refine QBO ?_;intro hcell i3;refine QBK ?_;intro i5 i6 i7 HO HS;clear hown hsub;by_cases hlt':k<h.bars.length
  ·have hki:(k:Int)<(h.bars.length:Int):=nQ;have hbd:k*5 ^ m<=50000:=by have:=Nat.mul_le_mul (show k<=6 by omega) Xt;omega
   have NI:=Cr (h:=h) nQ m (f++[(k:Int)]);have hsc:=qh (zP (h:=h) (m:=m) (f:=f) (j:=k));go_wp2_with fail;go_region_held3 (fun W=>W.cell? ⟨w.heap.size,0,none⟩=some (.slice kA h.kinds.length kc)/\W.cell? ⟨w.heap.size,1,none⟩=some (.int .i64 h.floor)/\W.cell? ⟨w.heap.size,2,none⟩=some (.slice pA h.parts.length pc)/\W.cell? ⟨w.heap.size,3,none⟩=some (.slice bA h.bars.length bc))
    (refine⟨?_,?_,?_,?_⟩<;>go_simp)
    (first|(refine fG wr wo (.tmp 31) (.tmp 32) rfl rfl (v:=.slice (some ⟨_,0,none⟩) 0 0) (by first|exact cB nW nW|exact(cB nW nW).alloc _) rfl (B:=W1.heap.size) (A:=A) (m:=f.length) (c:=c) (news:=f.flatMap aI) rfl (G2.out.up.plain.2.2) (bX aI 1 (fun _=>rfl) f) (ei aI Lv f) nQ nQ ?_;intro A1 c1 δ1 eF hg1)|((refine cW wr wo (.tmp 33) (.tmp 35) rfl rfl (v:=.slice A1 f.length c1) (n:=f.length) (xs:=f.flatMap aI) (by first|exact eF|exact eF.alloc _ ) rfl (m:=1) (c:=1) (news:=[.int .i64 (k:Int)]) rfl (ox (by first|(go_simp;done)|(refine hg1.cell nW (by simp[Value.ownBlock]))) (nA _)) rfl (by simp[Value.oneCell']) nQ nQ ?_);intro A2 c2 δ2 iE mU)|(go_at_call 130;refine(Vk.out ⟨kA,kc,pA,pc,bA,bc⟩ (f++[(k:Int)]) A2 c2 B _ inferInstance G1.out.up (fN.bU (by rw[List.flatMap_append];exact iE) nV) (by have:=CY.out;simp;omega) (f.length+1) nV).mono ?_;rintro e w1 ⟨A3,c3,δ3,rfl,rfl,hq1,NF,VP,Rf,hs3⟩)|(refine cW W1 Ti (.tmp 29) (.tmp 38) rfl rfl (v:=.slice A' L.length c') (n:=L.length) (xs:=cs) (bg HO.out) rfl (A:=A3) (m:=(Sa.fV h m (f++[(k:Int)])).length) (c:=c3) (news:=VP) rfl Rf (by have:=hs3.1;omega) hs3.Dx nQ nQ ?_;intro A4 c4 δ4 Jo J2))
   all_goals
    go_wp2_with fail;go_roundw
    case rel=>
     refine⟨k+1,c4,A4,cs++VP,L++Sa.fV h m (f++[(k:Int)]),nQ,by go_num,?_,?_,by rw[List.length_append],by rw[List.length_append];exact Jo,(HS.out.up.append hs3).grown (bg HO.out) J2 nU,inferInstance,inferInstance⟩
     ·unfold Hid;rw[hsc.out,<-hL.out]
     ·rw[List.length_append,Nat.succ_mul];omega
    case measure=>simp[intOf];omega
  ·obtain rfl:k=h.bars.length:=by omega
   have HF:=qh (show Sa.fV h (m+1) f=L by rw[hF.out,hL.out]);go_wp2_with fail;go_ret;rw[HF.out];refine QBJ ?_;intro i8 i9;refine⟨A',c',wr,rfl,aq,?_⟩;rw[<-aq (w:=w) (W:=wr)];exact wv.bU HO.out HS.out rfl
theorem T5(h:Sa.aN)(hv:Sa.valid h=true)(m:Nat):Yp h m:=by
 induction m with
 |zero=>
  intro r f A c B w hB hH hf hl ln jg
  subst jg
  rcases hq:Sa.fits h f with _|_
  ·have e:Sa.fV h 0 f=[]:=by rw[Sa.fV,hq];rfl
   rw[e];exact FV r h hv f nQ hq A c B w hH hf
  ·have e:Sa.fV h 0 f=[f]:=by rw[Sa.fV,hq];rfl
   rw[e];exact Nr r h hv f nQ hq A c B w hH hf
 |succ m ih=>exact QE h hv m ih
theorem oD(r:eR)(h:Sa.aN)(hv:Sa.valid h=true)(B:Nat)(w:nJ)[hB:Le B w](hH:bT B w r h):Calls nH 130 #[fA r h,.slice none 0 0,.int .i64 0] w (pQ w (Sa.bL h)):=by rw[<-Sa.xS hv];exact T5 h hv h.parts.length r [] none 0 B w hB hH fN.none_ nV 0 rfl
theorem oE(r:eR)(h:Sa.aN)(hv:Sa.valid h=true)(l:List Int)(hl:l.length=h.parts.length)(hx:∀x∈l,x<(h.bars.length:Int))(v:Int)(qL:Sa.cL h l=v)(A:Option Addr)(ln c:Nat)(hn:h.parts.length=ln)(B:Nat)(w:nJ)(hH:bT B w r h)(hS:Sl aI B w A c l)[hB:Le B w]:Calls nH 65 #[fA r h,.slice A ln c] w fun e w'=>e=.returned (.int .i64 v)/\∃δ,w'=af w δ:=by subst qL;rw[<-hn,<-hl];exact Jf r h hv l hl hx A c B w hH hS
theorem Jd(r:eR)(h:Sa.aN)(hv:Sa.valid h=true)(l:List Int)(hl:l.length=h.parts.length)(hx:∀x∈l,x<(h.bars.length:Int))(d v:Int)(qL:Sa.jo h d l=v)(A:Option Addr)(ln c:Nat)(hn:h.parts.length=ln)(B:Nat)(w:nJ)(hH:bT B w r h)(hS:Sl aI B w A c l)[hB:Le B w]:Calls nH 193 #[fA r h,.slice A ln c,.int .i64 d] w fun e w'=>e=.returned (.int .i64 v)/\∃δ,w'=af w δ:=by subst qL;rw[<-hn,<-hl];exact Je r h hv l hl hx d A c B w hH hS
theorem vp{h:Sa.aN}{l:List Int}(hl:l∈Sa.bL h):l.length=h.parts.length/\∀x∈l,x<(h.bars.length:Int):=by obtain⟨h1,h2⟩:=Sa.jr.1 (List.mem_filter.1 hl).1;exact⟨h1,fun x hx=>(h2 x hx).2⟩
theorem vo(h:Sa.aN)(hv:Sa.valid h=true):(Sa.bL h).length<=15625:=by have h4:=(Sa.aD.1 hv).1.2.2.2;have h6:=(Sa.aD.1 hv).1.2.2.1;rw[<-Sa.xS hv];refine nT (Cr nQ _ _) (nT (Nat.pow_le_pow_right nQ h6) nU)
def Ie(h:Sa.aN)(q:Bool):Int:=if q=false then 1 else if Sa.bL h=[] then 3 else 0
def Ym(h:Sa.aN)(q:Bool)(w:nJ)(e:Ending)(w':nJ):Prop:=∃(A:Option Addr) (n c:Nat) (δ:nJ),e=.returned (.tuple #[.slice A n c,.int .i64 (Ie h q)])/\w'=af w δ/\(Ie h q=0->n=(Sa.bL h).length/\wv 3 aI (af w δ) A c (Sa.bL h))
theorem pJ(r:eR)(h:Sa.aN)(hv:Sa.valid h=true)(q:Bool)(B:Nat)(w:nJ)[hB:Le B w](hH:bT B w r h):Calls nH 64 #[fA r h,.bool q] w (Ym h q w):=by
 have HH:=qh hH;have HV:=qh hv;have hpl:=vo h hv;obtain⟨kA,kc,pA,pc,bA,bc⟩:=r;clear hH hv;cases q
 ·go_enter Tryz.func64,Tryz.ntmps64;go_wp2_with (go_at_call 129;refine(Ds ⟨kA,kc,pA,pc,bA,bc⟩ h HV.out false B _ HH.out.up).mono ?_;rintro e w1 ⟨rfl,δ1,rfl⟩;rw[show U7 false=1 from rfl]);go_ret2;exact⟨none,0,0,_,rfl,aq,fun h=>absurd h (by unfold Ie;simp)⟩
 ·by_cases hp:Sa.bL h=[]
  ·have hz:(((Sa.bL h).length:Int)==0)=true:=by rw[hp];rfl
   have HE:Hid (Ie h true=3):=by unfold Hid Ie;rw[if_neg nV,if_pos hp]
   clear hp;go_enter Tryz.func64,Tryz.ntmps64;go_wp2_with (first|(go_at_call 129;refine(Ds ⟨kA,kc,pA,pc,bA,bc⟩ h HV.out true B _ HH.out.up).mono ?_;rintro e w1 ⟨rfl,δ1,rfl⟩;rw[show U7 true=0 from rfl])|(go_at_call 130;refine(oD ⟨kA,kc,pA,pc,bA,bc⟩ h HV.out B _ HH.out.up).mono ?_;rintro e w1 ⟨A1,c1,δ2,rfl,rfl,hs⟩));go_ret2;exact⟨none,0,0,_,by rw[HE.out];rfl,aq,fun h=>by rw[HE.out] at h;cases h⟩
  ·have hz:(((Sa.bL h).length:Int)==0)=false:=by have:(Sa.bL h).length≠0:=fun h'=>hp (List.length_eq_zero_iff.1 h');simpa using this
   have HE:Hid (Ie h true=0):=by unfold Hid Ie;rw[if_neg nV,if_neg hp]
   clear hp;go_enter Tryz.func64,Tryz.ntmps64;go_wp2_with (first|(go_at_call 129;refine(Ds ⟨kA,kc,pA,pc,bA,bc⟩ h HV.out true B _ HH.out.up).mono ?_;rintro e w1 ⟨rfl,δ1,rfl⟩;rw[show U7 true=0 from rfl])|(go_at_call 130;refine(oD ⟨kA,kc,pA,pc,bA,bc⟩ h HV.out B _ HH.out.up).mono ?_;rintro e w1 ⟨A1,c1,δ2,rfl,rfl,hs⟩;have HS:=qh hs;clear hs));go_ret2;refine⟨A1,_,c1,_,by rw[HE.out];rfl,aq,fun _=>⟨rfl,?_⟩⟩;refine QDJ ?_;exact HS.out
def rW(f:List Int->Int)(L:List (List Int))(k:Nat):List Int:=Me.least f (L.take (max k 1))
theorem AQ{f:List Int->Int}{L:List (List Int)}(h:0<L.length):rW f L 0=nth L 0:=by
 unfold rW;cases L with
 |nil=>simp at h
 |cons x xs=>rfl
theorem OD{f:List Int->Int}{L:List (List Int)}(h:0<L.length):rW f L L.length=Me.least f L:=by unfold rW;rw[show max L.length 1=L.length by omega,List.take_length]
theorem KL{f:List Int->Int}{L:List (List Int)}{k:Nat}(h:k<L.length):rW f L (k+1)=if f (nth L k)<f (rW f L k) then nth L k else rW f L k:=by
 rcases Nat.eq_zero_or_pos k with rfl|hk
 ·rw[AQ h,if_neg (Int.lt_irrefl _)];unfold rW;cases L with
  |nil=>simp at h
  |cons x xs=>rfl
 ·unfold rW;rw[show max (k+1) 1=k+1 by omega,show max k 1=k by omega,bE L h];have hne:L.take k≠[]:=by intro e;have:=congrArg List.length e;rw[List.length_take,List.length_nil] at this;omega
  exact Me.oO f hne (nth L k)
theorem CR{f:List Int->Int}{L:List (List Int)}{k:Nat}(h:0<L.length):rW f L k∈L:=by unfold rW;refine List.mem_of_mem_take (Me.gd f (xs:=L.take (max k 1)) ?_);intro e;have:=congrArg List.length e;rw[List.length_take,List.length_nil] at this;omega
def Sz(h:Sa.aN)(w:nJ)(e:Ending)(w':nJ):Prop:=∃(A:Option Addr) (m c:Nat) (δ:nJ),e=.returned (.tuple #[.slice A m c,.int .i64 (kH h).2])/\m=(kH h).1.length/\Sl aI (af w δ).heap.size (af w δ) A c (kH h).1/\w'=af w δ
theorem Dn(r:eR)(h:Sa.aN)(hv:Sa.valid h=true)(B:Nat)(w:nJ)[hB:Le B w](hH:bT B w r h):Calls nH 29 #[fA r h] w (Sz h w):=by
 have HH:=qh hH;have HV:=qh hv;have hpl:=vo h hv;have h6:=(Sa.aD.1 hv).1.2.2.1;obtain⟨kA,kc,pA,pc,bA,bc⟩:=r;clear hH hv;by_cases hp:Sa.bL h=[]
 ·have HE:Hid (Ie h true=3):=by unfold Hid Ie;rw[if_neg nV,if_pos hp]
  have HR:Hid (kH h=([],3)):=by unfold Hid kH;rw[if_pos hp]
  clear hp;go_enter Tryz.func29,Tryz.ntmps29;go_wp2_with (go_at_call 64;refine(pJ ⟨kA,kc,pA,pc,bA,bc⟩ h HV.out true B _ HH.out.up).mono ?_;rintro e w1 ⟨A1,n1,c1,δ2,rfl,rfl,hs⟩;clear hs;rw[HE.out]);go_ret2;refine⟨none,0,0,_,by rw[HR.out];rfl,by rw[HR.out];rfl,?_,aq⟩;rw[HR.out];exact⟨nR _,nV,fun h=>absurd rfl h⟩
 ·have HE:Hid (Ie h true=0):=by unfold Hid Ie;rw[if_neg nV,if_neg hp]
  have HR:Hid (kH h=(Me.least (Sa.cL h) (Sa.bL h),0)):=by unfold Hid kH;rw[if_neg hp]
  have hpos:0<(Sa.bL h).length:=List.length_pos_iff.2 hp;obtain⟨L,hL⟩:∃L,Sa.bL h=L:=⟨_,rfl⟩;have V4:=qh hL;have HM:Hid (∀l∈L,l.length=h.parts.length/\∀x∈l,x<(h.bars.length:Int)):=qh fun l hl=>vp (by rw[hL];exact hl);rw[hL] at hpos hpl;clear hp hL;have hpi:(0:Int)<(L.length:Int):=nQ;go_enter Tryz.func29,Tryz.ntmps29;go_wp2_with (go_at_call 64;refine(pJ ⟨kA,kc,pA,pc,bA,bc⟩ h HV.out true B _ HH.out.up).mono ?_;rintro e w1 ⟨A1,n1,c1,δ2,rfl,rfl,hs⟩;rw[HE.out];obtain⟨h1,h2⟩:=hs HE.out;rw[V4.out] at h1 h2;subst h1;clear hs;obtain⟨b0,o0,A0,c0,rfl,hb0,d0,s0⟩:=h2.nth hpos (HM.out _ (aV _ hpos)).1;have HS:=qh h2;have HS0:=qh s0.plain;clear h2 s0;simp only[Nat.add_zero] at d0);refine QAE ?_;intro W1 aH cJ dF cU dA dD um mV kR mG;refine QCE ?_;intro qg;have mY:Hid (wv 3 aI W1 (some ⟨b0,o0,none⟩) c1 L):=by rw[aH.out];exact HS
  have Bv:Hid (Sl aI W1.heap.size W1 A0 c0 (nth L 0)):=by rw[aH.out];exact HS0
  have GH:B<=W1.heap.size:=(inferInstance:Le B W1).out;clear aH HS HS0 d0 hb0;go_loopg [6,7] L.length (fun gg yN i wr=>∃(k:Nat) (A2:Option Addr) (c2:Nat) (x:List Int) (δ:nJ),k<=L.length/\gg=L.length-k/\yN=.slice A2 h.parts.length c2/\i=.int .i64 k/\Hid (x=rW (Sa.cL h) L k)/\Hid (Sl aI W1.heap.size W1 A2 c2 x)/\wr=af W1 δ)
  case atStart=>exact⟨0,A0,c0,nth L 0,W1,nE _,rfl,rfl,rfl,qh (AQ hpos).symm,Bv,(bw W1).symm⟩
  case round=>
   obtain⟨k,A2,c2,x,δ,hk,rfl,rfl,rfl,HX,OJ,rfl⟩:=hrel;by_cases hlt:k<L.length
   ·have hki:(k:Int)<(L.length:Int):=nQ;have hk0:¬(k:Int)<0:=nQ;obtain⟨b3,o3,A3,c3,h3,Ri,d3,s3⟩:=mY.out.nth hlt (HM.out _ (aV _ hlt)).1;injection h3 with h3;injection h3 with h3a h3b;subst h3a h3b;have ib3:Lt b0 W1:=⟨Ri⟩;have uu:Hid (Sl aI W1.heap.size W1 A3 c3 (nth L k)):=qh s3.plain;have tZ:=qh (KL (f:=Sa.cL h) hlt);have HMX:Hid (x.length=h.parts.length/\∀y∈x,y<(h.bars.length:Int)):=qh (by rw[HX.out];exact HM.out _ (CR hpos));have Vi:=qh (HM.out _ (aV _ hlt));obtain⟨y,hy⟩:∃y,nth L k=y:=⟨_,rfl⟩;rw[<-HX.out] at tZ;rw[hy] at uu tZ Vi;obtain⟨u,hu⟩:∃u,Sa.cL h y=u:=⟨_,rfl⟩;obtain⟨v,hv⟩:∃v,Sa.cL h x=v:=⟨_,rfl⟩;rw[hu,hv] at tZ;have HU:=qh hu;have Mc:=qh hv;clear hu hv hy s3 Ri;by_cases hc:u<v
    ·rw[if_pos hc] at tZ;go_wp2_with fail;refine wpRl ?_;repeat (go_big_quiet_step ((first|(go_at_call 65;(first|with_reducible exact Calls.bN (oE ⟨kA,kc,pA,pc,bA,bc⟩ h HV.out y Vi.out.1 Vi.out.2 u HU.out A3 _ c3 rfl W1.heap.size _ (qg.out.more GH).up uu.out.up)|with_reducible exact Calls.bN (oE ⟨kA,kc,pA,pc,bA,bc⟩ h HV.out x HMX.out.1 HMX.out.2 v Mc.out A2 _ c2 rfl W1.heap.size _ (qg.out.more GH).up OJ.out.up))))))
     refine QBT ?_;rintro _ ⟨δq,rfl⟩;go_wp2_with fail;go_roundg (L.length-(k+1))
     case measure=>omega
     case rel=>exact⟨k+1,A3,c3,y,_,nQ,rfl,rfl,by go_num,qh tZ.out.symm,uu,aq⟩
    ·rw[if_neg hc] at tZ;go_wp2_with fail;refine wpRl ?_;repeat (go_big_quiet_step ((first|(go_at_call 65;(first|with_reducible exact Calls.bN (oE ⟨kA,kc,pA,pc,bA,bc⟩ h HV.out y Vi.out.1 Vi.out.2 u HU.out A3 _ c3 rfl W1.heap.size _ (qg.out.more GH).up uu.out.up)|with_reducible exact Calls.bN (oE ⟨kA,kc,pA,pc,bA,bc⟩ h HV.out x HMX.out.1 HMX.out.2 v Mc.out A2 _ c2 rfl W1.heap.size _ (qg.out.more GH).up OJ.out.up))))))
     refine QBT ?_;rintro _ ⟨δq,rfl⟩;go_wp2_with fail;go_roundg (L.length-(k+1))
     case measure=>omega
     case rel=>exact⟨k+1,A2,c2,x,_,nQ,rfl,rfl,by go_num,qh tZ.out.symm,OJ,aq⟩
   ·obtain rfl:k=L.length:=by omega
    have SD:Hid (x=(kH h).1/\(kH h).2=0/\x.length=h.parts.length):=by
     refine⟨?_,by rw[HR.out],?_⟩
     ·rw[HR.out,HX.out,OD hpos,V4.out]
     ·rw[HX.out];exact(HM.out _ (CR hpos)).1
    go_wp2_with fail;go_ret2;refine⟨A2,_,c2,_,by rw[SD.out.2.1];rfl,by rw[<-SD.out.1,SD.out.2.2],?_,aq⟩;rw[<-SD.out.1,<-aq (w:=w)];exact OJ.out.wide
theorem MG(r:eR)(h:Sa.aN)(hv:Sa.valid h=true)(B:Nat)(w:nJ)[hB:Le B w](hH:bT B w r h):Calls nH 125 #[fA r h] w fun e w'=>e=.returned (.tuple #[.int .i64 (pI h).1,.int .i64 (pI h).2])/\∃δ,w'=af w δ:=by
 have HH:=qh hH;have HV:=qh hv;obtain⟨kA,kc,pA,pc,bA,bc⟩:=r;clear hH hv;by_cases hp:Sa.bL h=[]
 ·have HR:Hid (kH h=([],3)/\pI h=(0,3)):=by unfold Hid kH pI;rw[if_pos hp,if_pos hp];exact⟨rfl,rfl⟩
  clear hp;go_enter Tryz.func125,Tryz.ntmps125;go_wp2_with (go_at_call 29;refine(Dn ⟨kA,kc,pA,pc,bA,bc⟩ h HV.out B _ HH.out.up).mono ?_;rintro e w1 ⟨A1,m1,c1,δ1,rfl,_,hs,rfl⟩;clear hs;rw[HR.out.1]);go_ret2;exact⟨by rw[HR.out.2];rfl,ag⟩
 ·have HR:Hid (kH h=(Me.least (Sa.cL h) (Sa.bL h),0)/\pI h=(Sa.cL h (Me.least (Sa.cL h) (Sa.bL h)),0)):=by unfold Hid kH pI;rw[if_neg hp,if_neg hp];exact⟨rfl,rfl⟩
  have HM:=qh (vp (Me.gd (Sa.cL h) hp));obtain⟨x,hx⟩:∃x,Me.least (Sa.cL h) (Sa.bL h)=x:=⟨_,rfl⟩;rw[hx] at HR HM;clear hp hx;obtain⟨v,qL⟩:∃v,Sa.cL h x=v:=⟨_,rfl⟩;rw[qL] at HR;have HW:=qh qL;clear qL;go_enter Tryz.func125,Tryz.ntmps125;go_wp2_with (first|(go_at_call 29;refine(Dn ⟨kA,kc,pA,pc,bA,bc⟩ h HV.out B _ HH.out.up).mono ?_;rintro e w1 ⟨A1,m1,c1,δ1,rfl,hm,hs,rfl⟩;rw[HR.out.1] at hm hs ⊢;have HS:=qh hs;clear hs;have hm2:=hm.trans HM.out.1;subst hm2;clear hm)|(go_at_call 65;refine(oE ⟨kA,kc,pA,pc,bA,bc⟩ h HV.out x HM.out.1 HM.out.2 v HW.out A1 _ c1 rfl _ _ HH.out.wide HS.out).mono ?_;rintro e w1 ⟨rfl,δ2,rfl⟩));go_ret2;exact⟨by rw[HR.out.2];rfl,ag⟩
def pN(h:Sa.aN)(d:Int)(L:List (List Int)):Int:=L.foldl (fun n l=>max n (Sa.jo h d l)) 0
theorem JD(h:Sa.aN)(d:Int)(L:List (List Int))(l:List Int):pN h d (L++[l])=max (pN h d L) (Sa.jo h d l):=by simp[pN]
theorem GI(f:List Int->Int):∀(L:List (List Int)) (a m:Int),L.foldl (fun n l=>max n (f l)) a<=m↔a<=m/\∀l∈L,f l<=m
 |[],a,m=>by simp
 |x::L,a,m=>by
  rw[List.foldl_cons,GI f L];simp only[List.mem_cons,forall_eq_or_imp];constructor
  ·rintro⟨h1,h2⟩;exact⟨nQ,nQ,h2⟩
  ·rintro⟨h1,h2,h3⟩;exact⟨nQ,h3⟩
theorem vF{h:Sa.aN}{d m:Int}{L:List (List Int)}:pN h d L<=m↔0<=m/\∀l∈L,Sa.jo h d l<=m:=GI _ L 0 m
theorem CH{h:Sa.aN}(hv:Sa.valid h=true)(d:Int){l:List Int}(hl:l.length=h.parts.length):0<=Sa.jo h d l/\Sa.jo h d l<=1500:=by have:=GQ hv d l (Nat.le_of_eq hl);unfold gJ at this;omega
theorem Ng{h:Sa.aN}(hv:Sa.valid h=true)(d:Int)(hp:Sa.bL h≠[]):pN h d (Sa.bL h)=Sa.jo h d (Me.least (gJ h d) (Sa.bL h)):=by
 have hm:=Me.gd (gJ h d) hp;have hb:=CH hv d (vp hm).1;apply Int.le_antisymm
 ·refine vF.2 ⟨hb.1,fun l hl=>?_⟩;have:=Me.least_le (gJ h d) hl;unfold gJ at this ⊢;omega
 ·exact(vF.1 (Int.le_refl (pN h d (Sa.bL h)))).2 _ hm
theorem Qr{h:Sa.aN}(hv:Sa.valid h=true)(d:Int)(k:Nat):0<=pN h d ((Sa.bL h).take k)/\pN h d ((Sa.bL h).take k)<=1500:=by refine⟨(vF.1 (Int.le_refl (pN h d ((Sa.bL h).take k)))).1,vF.2 ⟨nQ,fun l hl=>?_⟩⟩;exact(CH hv d (vp (List.mem_of_mem_take hl)).1).2
theorem PU(r:eR)(h:Sa.aN)(hv:Sa.valid h=true)(d:Int)(B:Nat)(w:nJ)[hB:Le B w](hH:bT B w r h):Calls nH 126 #[fA r h,.int .i64 d] w fun e w'=>e=.returned (.tuple #[.int .i64 (jP h d).1,.int .i64 (jP h d).2])/\∃δ,w'=af w δ:=by
 have HH:=qh hH;have HV:=qh hv;have hpl:=vo h hv;obtain⟨kA,kc,pA,pc,bA,bc⟩:=r;clear hH hv;by_cases hp:fH 0 20 d=false\/Sa.bL h=[]
 ·obtain⟨q,hq⟩:∃q,fH 0 20 d=q:=⟨_,rfl⟩;obtain⟨x,hx,hx0⟩:∃x,Ie h q=x/\x≠0:=by
   refine⟨_,rfl,?_⟩;unfold Ie;rw[hq] at hp;rcases hp with hp|hp
   ·rw[if_pos hp];decide
   ·split
    ·decide
    ·decide
  have HE:=qh hx;have HX0:=qh hx0;have HQ:=qh hq;have HR:Hid (jP h d=(0,x)):=by
   unfold Hid jP;rw[<-hx];unfold Ie;rw[hq];rw[hq] at hp;rcases hp with hp|hp
   ·rw[if_pos hp,if_pos hp]
   ·split
    ·rfl
    ·rfl
  have hxn:(x != 0)=true:=by simpa using hx0
  clear hx hq hp hx0;go_enter Tryz.func126,Tryz.ntmps126;go_wp2_with fail;go_region_held3 (fun w'=>w'.cell? ⟨w.heap.size,0,none⟩=some (.slice kA h.kinds.length kc)/\w'.cell? ⟨w.heap.size,1,none⟩=some (.int .i64 h.floor)/\w'.cell? ⟨w.heap.size,2,none⟩=some (.slice pA h.parts.length pc)/\w'.cell? ⟨w.heap.size,3,none⟩=some (.slice bA h.bars.length bc)) (refine⟨?_,?_,?_,?_⟩<;>go_simp) (first|(go_at_call 192;refine(Fq d _).mono ?_;rw[HQ.out];rintro e w1 ⟨rfl,rfl⟩)|(go_at_call 64;refine(pJ ⟨kA,kc,pA,pc,bA,bc⟩ h HV.out q B _ (jt.2 HH.out.up)).mono ?_;rintro e w1 ⟨A1,n1,c1,δ1,rfl,rfl,hs⟩;clear hs;rw[HE.out]));all_goals go_wp2
  all_goals go_ret2
  all_goals exact⟨by rw[HR.out];rfl,ag⟩
 ·obtain⟨hq,hp⟩:=not_or.1 hp;rw[Bool.not_eq_false] at hq;have HE:Hid (Ie h true=0):=by unfold Hid Ie;rw[if_neg nV,if_neg hp]
  have HR:Hid (jP h d=(pN h d (Sa.bL h),0)):=by unfold Hid jP;rw[if_neg (by rw[hq];simp),if_neg hp,Ng HV.out d hp]
  have HQ:=qh hq;have HBD:=qh (Qr HV.out d);obtain⟨L,hL⟩:∃L,Sa.bL h=L:=⟨_,rfl⟩;have V4:=qh hL;have HM:Hid (∀l∈L,l.length=h.parts.length/\∀x∈l,x<(h.bars.length:Int)):=qh fun l hl=>vp (by rw[hL];exact hl);rw[hL] at hpl HR HBD;clear hp hL hq;go_enter Tryz.func126,Tryz.ntmps126;go_wp2_with fail;go_region_held3 (fun w'=>w'.cell? ⟨w.heap.size,0,none⟩=some (.slice kA h.kinds.length kc)/\w'.cell? ⟨w.heap.size,1,none⟩=some (.int .i64 h.floor)/\w'.cell? ⟨w.heap.size,2,none⟩=some (.slice pA h.parts.length pc)/\w'.cell? ⟨w.heap.size,3,none⟩=some (.slice bA h.bars.length bc)) (refine⟨?_,?_,?_,?_⟩<;>go_simp) (first|(go_at_call 192;refine(Fq d _).mono ?_;rw[HQ.out];rintro e w1 ⟨rfl,rfl⟩)|(go_at_call 64;refine(pJ ⟨kA,kc,pA,pc,bA,bc⟩ h HV.out true B _ (jt.2 HH.out.up)).mono ?_;rintro e w1 ⟨A1,n1,c1,δ1,rfl,rfl,hs⟩;rw[HE.out];obtain⟨h1,h2⟩:=hs HE.out;rw[V4.out] at h1 h2;subst h1;clear hs;have HS:=qh h2;clear h2));all_goals go_wp2_with fail
  refine QAE ?_;intro W1 aH cJ dF cU dA dD um mV kR mG;refine QCE ?_;intro qg;have mY:Hid (wv 3 aI W1 A1 c1 L):=by rw[aH.out];exact HS
  have GH:B<=W1.heap.size:=(inferInstance:Le B W1).out;clear aH HS;go_loopg [8,9] L.length (fun gg n i wr=>∃(k:Nat) (δ:nJ),k<=L.length/\gg=L.length-k/\n=.int .i64 (pN h d (L.take k))/\i=.int .i64 k/\wr=af W1 δ)
  case atStart=>exact⟨0,W1,nE _,rfl,rfl,rfl,(bw W1).symm⟩
  case round=>
   obtain⟨k,δ,hk,rfl,rfl,rfl,rfl⟩:=hrel;by_cases hlt:k<L.length
   ·have hki:(k:Int)<(L.length:Int):=nQ;have hk0:¬(k:Int)<0:=nQ;obtain⟨b3,o3,A3,c3,rfl,Ri,d3,s3⟩:=mY.out.nth hlt (HM.out _ (aV _ hlt)).1;have ib3:Lt b3 W1:=⟨Ri⟩;have uu:Hid (Sl aI W1.heap.size W1 A3 c3 (nth L k)):=qh s3.plain;have tZ:Hid (pN h d (L.take (k+1))=max (pN h d (L.take k)) (Sa.jo h d (nth L k))):=by unfold Hid;rw[bE L hlt,JD]
    have Vi:=qh (HM.out _ (aV _ hlt));obtain⟨y,hy⟩:∃y,nth L k=y:=⟨_,rfl⟩;rw[hy] at uu tZ Vi;obtain⟨u,hu⟩:∃u,Sa.jo h d y=u:=⟨_,rfl⟩;obtain⟨n,hn⟩:∃n,pN h d (L.take k)=n:=⟨_,rfl⟩;rw[hu,hn] at tZ;rw[hn];have HU:=qh hu;obtain⟨m,hm⟩:∃m,max n u=m:=⟨_,rfl⟩;rw[hm] at tZ;have m1:(if n<u then u else n)=m:=by rw[<-hm,Int.max_def];split<;>split<;>omega
    have V0:=qh hm;clear hu hn hy s3 Ri hm;go_wp2_with fail;refine wpRl ?_;repeat (go_big_quiet_step ((first|(go_at_call 193;exact Calls.bN (Jd ⟨kA,kc,pA,pc,bA,bc⟩ h HV.out y Vi.out.1 Vi.out.2 d u HU.out A3 _ c3 rfl W1.heap.size _ (qg.out.more GH).up uu.out.up)))))
    refine QBT ?_;rintro _ ⟨δq,rfl⟩;go_wp2_with fail;go_roundg (L.length-(k+1))
    case measure=>omega
    case rel=>exact⟨k+1,_,nQ,rfl,by rw[tZ.out],by go_num,aq⟩
   ·obtain rfl:k=L.length:=by omega
    go_wp2_with fail;go_ret2;exact⟨by rw[HR.out,List.take_length];rfl,ag⟩
end Go.Proofs.YtdmedlkonaclnaaGreatDoor
