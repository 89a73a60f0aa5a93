/- A part of the proof that a law of layer 12 holds, cut small by a program (names and blanks): Sr1, Sr2, Sr3, Sr4, Sr7, Sr5, Sr6, Sr8, Sr10, Sr11, Sr12. -/
import Derived.Test.YtpnnapeoanafdaaGreatDoorZ9
import Derived.Test.YtpnnapeoanafdaaGreatDoorZ17
set_option maxRecDepth 100000
set_option maxHeartbeats 40000000
set_option linter.unusedVariables false
set_option linter.unusedSimpArgs false
namespace Go.Proofs.YtpnnapeoanafdaaGreatDoor
open Go.RowKit
open Nat renaming le_trans → nT, lt_of_lt_of_le → nL, le_refl → nR, zero_le → nE, le_of_lt → nS, lt_succ_self → nA
open Go.Proofs.Tryz renaming prog → nH
open Go renaming World → nJ, Value → nK
def EC(l:List Int)(b:Int):List Int:=(Sa.nN l b).map fun i:Nat=>(i:Int)
theorem Sh{l:List Int}{k:Nat}(hk:k<l.length)(b:Int):EC (l.take (k+1)) b=EC (l.take k) b++if nth l k=b then[(k:Int)] else[]:=by unfold EC;rw[bz l hk,Sa.Ho,List.map_append,List.length_take,Nat.min_eq_left (nS hk)];split<;>rfl
theorem Vw{l:List Int}(b:Int):(EC l b).length<=l.length:=by unfold EC;rw[List.length_map];exact Sa.EB l b
theorem Mu(l:List Int)(h6:l.length<=6)(A:Option Addr)(c:Nat)(b:Int)(B:Nat)(w:nJ)(hS:Sl aI B w A c l)[hB:Le B w]:Calls nH 212 #[.slice A l.length c,.int .i64 b] w fun e w'=>∃A' c',e=.returned (.slice A' (EC l b).length c')/\Sl aI w'.heap.size w' A' c' (EC l b)/\∃δ,w'=ah w δ:=by
 have HS:=qh hS;have hlen:=hS.len;clear hS;go_enter Tryz.func212,Tryz.ntmps212;go_wp2_with fail;go_loopg [5,6] l.length (fun gg o i wr=>∃(k:Nat) (A1:Option Addr) (c1:Nat) (δ:nJ),k<=l.length/\gg=l.length-k/\i=.int .i64 k/\o=.slice A1 (EC (l.take k) b).length c1/\wr=ah w δ/\Hid (wr.ownsRow w.heap.size 3 1 (.slice A1 (EC (l.take k) b).length c1) (EC (l.take k) b).length ((EC (l.take k) b).flatMap aI)))
 case atStart=>exact⟨0,none,0,w,nE _,rfl,rfl,by simp[EC,Sa.nN],(bw w).symm,qh (by simpa [EC,Sa.nN] using World.ownsRow_nil _ _ _ _)⟩
 case round=>
  obtain⟨k,A1,c1,δ,hk,rfl,rfl,rfl,rfl,HO⟩:=hrel;by_cases hlt:k<l.length
  ·have hki:(k:Int)<(l.length:Int):=nQ;have HN:=qh (Sh hlt b);have jA:(EC (l.take k) b).length<=6:=by have:=Vw (l:=l.take k) b;rw[List.length_take] at this;omega
   obtain⟨x,o,rfl,hb,d0⟩:∃x o,A=some ⟨x,o,none⟩/\x<B/\w.cell? ⟨x,o+k,none⟩=some (.int .i64 (nth l k)):=by obtain⟨x,o,h1,h2,h3⟩:=HS.out.at_ (size:=1) (fun _=>rfl) hlt nQ;exact⟨x,o,h1,h2,by rw[bN _ hlt];simpa using h3 0 _ rfl⟩
   have ib:Lt x w:=⟨nL hb hB.out⟩;obtain⟨f,hf⟩:∃f,EC (l.take k) b=f:=⟨_,rfl⟩;rw[hf] at HN HO jA ⊢;clear hf hb;by_cases he:nth l k=b
   ·have Fk:Hid (EC (l.take (k+1)) b=f++[(k:Int)]):=by have:=HN.out;rwa [if_pos he] at this
    go_wp2_with (at_builtin;(refine dL w wO (.tmp 19) (.tmp 21) rfl rfl HO.out rfl rfl nW rfl (by simp[Value.oneCell']) nQ nQ ?_);intro A' c' δ' hown');go_roundg (l.length-(k+1))
    case measure=>omega
    case rel=>refine⟨k+1,A',c',_,hlt,rfl,by go_num,by rw[Fk.out,List.length_append];rfl,ai,?_⟩;rw[Fk.out];refine qh ?_;rw[List.length_append,List.flatMap_append];exact hown'
   ·have Fk:Hid (EC (l.take (k+1)) b=f):=by have:=HN.out;rwa [if_neg he,List.append_nil] at this
    go_wp2;go_roundg (l.length-(k+1))
    case measure=>omega
    case rel=>exact⟨k+1,A1,c1,δ,hlt,rfl,by go_num,by rw[Fk.out],rfl,by rw[Fk.out];exact HO⟩
  ·obtain rfl:k=l.length:=by omega
   go_wp2;go_ret;have HO:=HO.out;rw[List.take_length] at HO ⊢;exact⟨A1,c1,rfl,Sl.bU HO,δ,rfl⟩
def yG(is:List Nat):List Int:=is.map fun i:Nat=>(i:Int)
theorem zY{is:List Nat}{k:Nat}(hk:k<is.length):nth (yG is) k=((nth is k:Nat):Int):=by unfold yG;rw[iK _ _ hk]
theorem xb(r:eT)(h:Sa.aJ)(hv:Sa.valid h=true)(is:List Nat)(hi:∀i∈is,i<h.parts.length)(h6:is.length<=6)(A:Option Addr)(c:Nat)(B:Nat)(w:nJ)(hH:bW B w r h)(hS:Sl aI B w A c (yG is))[hB:Le B w]:Calls nH 215 #[fu r h,.slice A is.length c] w fun e w'=>e=.returned (.int .i64 (Sa.fy h is).bG)/\∃δ,w'=ah w δ:=by
 have HI:=qh hi;have HV:=qh hv;have lp:=hH.2.1.len;have HH:=qh hH;have HS:=qh hS;obtain⟨kA,kc,pA,pc,bA,bc⟩:=r;clear hH hS hv hi;go_enter Tryz.func215,Tryz.ntmps215;go_wp2_with fail;refine QAE ?_;intro W1 aH cJ dF cW di dz uu nt lC mQ;refine QCD ?_;intro qo;refine QEF ?_;intro oa Ia;clear aH;go_loopg [5,6] is.length (fun gg n i wr=>∃(k:Nat) (δ:nJ),k<=is.length/\gg=is.length-k/\n=.int .i64 (Sa.fy h (is.take k)).bG/\i=.int .i64 k/\wr=ah W1 δ)
 case atStart=>exact⟨0,W1,nE _,rfl,rfl,rfl,(bw W1).symm⟩
 case round=>
  obtain⟨k,δ,hk,rfl,rfl,rfl,rfl⟩:=hrel;by_cases hlt:k<is.length
  ·have hki:(k:Int)<(is.length:Int):=nQ;refine QCS ?_;intro hj HN;have hfr:=(Sa.qJ HV.out (is.take k) fun i hi=>HI.out i (List.mem_of_mem_take hi)).2.1;have hp:=((Sa.aC.1 HV.out).2.2.1 _ (aR h.parts hj)).2;rw[List.length_take] at hfr;obtain⟨f,hf⟩:∃f,Sa.fy h (is.take k)=f:=⟨_,rfl⟩;rw[hf] at HN hfr ⊢;obtain⟨x,o,rfl,hb,d0⟩:∃x o,A=some ⟨x,o,none⟩/\x<B/\W1.cell? ⟨x,o+k,none⟩=some (.int .i64 ((nth is k:Nat):Int)):=by obtain⟨x,o,h1,h2,h3⟩:=oa.out.at_ (size:=1) (fun _=>rfl) (k:=k) (by simpa [yG] using hlt) nQ;exact⟨x,o,h1,h2,by rw[<-zY hlt,bN _ (by simpa [yG] using hlt)];simpa using h3 0 _ rfl⟩
   obtain⟨j,T5⟩:∃j,nth is k=j:=⟨_,rfl⟩;rw[T5] at HN hj hp d0;obtain⟨y,q,rfl,hy,p0,p1⟩:=qo.out.2.1.part hj;refine QEJ ?_;intro ib iy hji hj0;obtain⟨v,qO⟩:∃v,(nth h.parts j).bG=v:=⟨_,rfl⟩;have Fk:Hid ((Sa.fy h (is.take (k+1))).bG=f.bG+v):=by unfold Hid;rw[HN.out,<-qO];rfl
   rw[qO] at p1 hp;have hwr:IntKind.i64.wrap (f.bG+v)=f.bG+v:=by rw[IntWalk.i64_in];omega
   clear hf T5 qO hb hy;go_wp2;go_region;go_wp2;go_roundg (is.length-(k+1))
   case measure=>omega
   case rel=>exact⟨k+1,_,hlt,rfl,by rw[Fk.out],by go_num,ai⟩
  ·obtain rfl:k=is.length:=by omega
   go_wp2;go_ret;rw[List.take_length];exact⟨rfl,ag⟩
theorem Mv(r:eT)(h:Sa.aJ)(hv:Sa.valid h=true)(is:List Nat)(hi:∀i∈is,i<h.parts.length)(h6:is.length<=6)(A:Option Addr)(c:Nat)(B:Nat)(w:nJ)(hH:bW B w r h)(hS:Sl aI B w A c (yG is))[hB:Le B w]:Calls nH 214 #[fu r h,.slice A is.length c] w fun e w'=>e=.returned (.int .i64 (Sa.fy h is).days)/\∃δ,w'=ah w δ:=by
 have HI:=qh hi;have HV:=qh hv;have lp:=hH.2.1.len;have HH:=qh hH;have HS:=qh hS;obtain⟨kA,kc,pA,pc,bA,bc⟩:=r;clear hH hS hv hi;go_enter Tryz.func214,Tryz.ntmps214;go_wp2_with fail;refine QAE ?_;intro W1 aH cJ dF cW di dz uu nt lC mQ;refine QCD ?_;intro qo;refine QEF ?_;intro oa Ia;clear aH;go_loopg [5,6] is.length (fun gg n i wr=>∃(k:Nat) (δ:nJ),k<=is.length/\gg=is.length-k/\n=.int .i64 (Sa.fy h (is.take k)).days/\i=.int .i64 k/\wr=ah W1 δ)
 case atStart=>exact⟨0,W1,nE _,rfl,rfl,rfl,(bw W1).symm⟩
 case round=>
  obtain⟨k,δ,hk,rfl,rfl,rfl,rfl⟩:=hrel;by_cases hlt:k<is.length
  ·have hki:(k:Int)<(is.length:Int):=nQ;refine QCS ?_;intro hj HN;have hfr:=(Sa.qJ HV.out (is.take k) fun i hi=>HI.out i (List.mem_of_mem_take hi)).2.2.2;have hp:=Sa.qF HV.out (aR h.parts hj);have hq:=((Sa.aC.1 HV.out).2.2.1 _ (aR h.parts hj)).1;obtain⟨f,hf⟩:∃f,Sa.fy h (is.take k)=f:=⟨_,rfl⟩;rw[hf] at HN hfr ⊢;obtain⟨x,o,rfl,hb,d0⟩:∃x o,A=some ⟨x,o,none⟩/\x<B/\W1.cell? ⟨x,o+k,none⟩=some (.int .i64 ((nth is k:Nat):Int)):=by obtain⟨x,o,h1,h2,h3⟩:=oa.out.at_ (size:=1) (fun _=>rfl) (k:=k) (by simpa [yG] using hlt) nQ;exact⟨x,o,h1,h2,by rw[<-zY hlt,bN _ (by simpa [yG] using hlt)];simpa using h3 0 _ rfl⟩
   obtain⟨j,T5⟩:∃j,nth is k=j:=⟨_,rfl⟩;rw[T5] at HN hj hp hq d0;obtain⟨y,q,rfl,hy,p0,p1⟩:=qo.out.2.1.part hj;refine QEJ ?_;intro ib iy hji hj0;obtain⟨t,ht⟩:∃t,(nth h.parts j).kind.toNat=t:=⟨_,rfl⟩;have Ht:(nth h.parts j).kind=(t:Int):=nQ;rw[Ht] at p0;have Jb:t<h.kinds.length:=by rw[<-ht];exact hp.1
   obtain⟨z,u,rfl,hz,z0,z1⟩:=qo.out.1.kind Jb;have iz:Lt z W1:=⟨nL hz Ia⟩;have hti:(t:Int)<(h.kinds.length:Int):=nQ;have ht0:¬(t:Int)<0:=nQ;obtain⟨v,qO⟩:∃v,(nth h.kinds t).days=v:=⟨_,rfl⟩;have Fk:Hid ((Sa.fy h (is.take (k+1))).days=max f.days v):=by unfold Hid;rw[HN.out,<-qO];show max _ (nth h.kinds _).days=_;rw[ht]
   rw[qO] at z1;have lk:=qo.out.1.len;clear hf T5 qO hb hy hz ht Ht hp hq hfr;go_wp2;go_region;all_goals go_wp2
   all_goals
    go_roundg (is.length-(k+1))
    case measure=>omega
    case rel=>exact⟨k+1,_,hlt,rfl,by rw[Fk.out];first|rw[show max f.days v=v by omega]|rw[show max f.days v=f.days by omega],by go_num,ai⟩
  ·obtain rfl:k=is.length:=by omega
   go_wp2;go_ret;rw[List.take_length];exact⟨rfl,ag⟩
theorem Li(h:Sa.aJ)(is:List Nat):(Sa.fy h is).parts=(is.length:Int):=by
 obtain⟨r,rfl⟩:∃r:List Nat,is=r.reverse:=⟨is.reverse,nV⟩;induction r with
 |nil=>rfl
 |cons i r ih=>
  rw[List.reverse_cons,Sa.rF,List.length_append]
  show(Sa.fy h r.reverse).parts+1=_
  rw[ih];simp
theorem CK(r:eT)(h:Sa.aJ)(hv:Sa.valid h=true)(is:List Nat)(hi:∀i∈is,i<h.parts.length)(h6:is.length<=6)(A:Option Addr)(c:Nat)(B:Nat)(w:nJ)(hH:bW B w r h)(hS:Sl aI B w A c (yG is))[hB:Le B w]:Calls nH 211 #[fu r h,.slice A is.length c] w fun e w'=>e=.returned (.int .i64 (Sa.ir h.floor (Sa.fy h is)))/\∃δ,w'=ah w δ:=by
 have HI:=qh hi;have HV:=qh hv;have lp:=hH.2.1.len;have HH:=qh hH;have HS:=qh hS;obtain⟨kA,kc,pA,pc,bA,bc⟩:=r;clear hH hS hv hi;by_cases h0:is=[]
 ·subst h0;go_enter Tryz.func211,Tryz.ntmps211;go_wp2;go_ret;exact⟨rfl,ag⟩
 have hne:¬is.length=0:=fun e=>h0 (List.length_eq_zero_iff.1 e);have ads:((is.length:Int)==0)=false:=by simp;omega
 have Bu:=qh hne;clear h0 hne;go_enter Tryz.func211,Tryz.ntmps211;go_wp2_with fail;refine QAE ?_;intro W1 aH cJ dF cW di dz uu nt lC mQ;refine QCD ?_;intro qo;refine QEF ?_;intro oa Ia;clear aH;go_loopg [5,6] is.length (fun gg n i wr=>∃(k:Nat) (δ:nJ),k<=is.length/\gg=is.length-k/\n=.int .i64 (Sa.fy h (is.take k)).dP/\i=.int .i64 k/\wr=ah W1 δ)
 case atStart=>exact⟨0,W1,nE _,rfl,rfl,rfl,(bw W1).symm⟩
 case round=>
  obtain⟨k,δ,hk,rfl,rfl,rfl,rfl⟩:=hrel;by_cases hlt:k<is.length
  ·have hki:(k:Int)<(is.length:Int):=nQ;refine QCS ?_;intro hj HN;have hfr:=(Sa.qJ HV.out (is.take k) fun i hi=>HI.out i (List.mem_of_mem_take hi)).2.2.1;have hp:=Sa.qF HV.out (aR h.parts hj);have hq:=((Sa.aC.1 HV.out).2.2.1 _ (aR h.parts hj)).1;obtain⟨f,hf⟩:∃f,Sa.fy h (is.take k)=f:=⟨_,rfl⟩;rw[hf] at HN hfr ⊢;obtain⟨x,o,rfl,hb,d0⟩:∃x o,A=some ⟨x,o,none⟩/\x<B/\W1.cell? ⟨x,o+k,none⟩=some (.int .i64 ((nth is k:Nat):Int)):=by obtain⟨x,o,h1,h2,h3⟩:=oa.out.at_ (size:=1) (fun _=>rfl) (k:=k) (by simpa [yG] using hlt) nQ;exact⟨x,o,h1,h2,by rw[<-zY hlt,bN _ (by simpa [yG] using hlt)];simpa using h3 0 _ rfl⟩
   obtain⟨j,T5⟩:∃j,nth is k=j:=⟨_,rfl⟩;rw[T5] at HN hj hp hq d0;obtain⟨y,q,rfl,hy,p0,p1⟩:=qo.out.2.1.part hj;refine QEJ ?_;intro ib iy hji hj0;obtain⟨t,ht⟩:∃t,(nth h.parts j).kind.toNat=t:=⟨_,rfl⟩;have Ht:(nth h.parts j).kind=(t:Int):=nQ;rw[Ht] at p0;have Jb:t<h.kinds.length:=by rw[<-ht];exact hp.1
   obtain⟨z,u,rfl,hz,z0,z1⟩:=qo.out.1.kind Jb;have iz:Lt z W1:=⟨nL hz Ia⟩;have hti:(t:Int)<(h.kinds.length:Int):=nQ;have ht0:¬(t:Int)<0:=nQ;obtain⟨v,qO⟩:∃v,(nth h.kinds t).fV=v:=⟨_,rfl⟩;have Fk:Hid ((Sa.fy h (is.take (k+1))).dP=max f.dP v):=by unfold Hid;rw[HN.out,<-qO];show max _ (nth h.kinds _).fV=_;rw[ht]
   rw[qO] at z0;have lk:=qo.out.1.len;clear hf T5 qO hb hy hz ht Ht hp hq hfr;go_wp2;go_region;all_goals go_wp2
   all_goals
    go_roundg (is.length-(k+1))
    case measure=>omega
    case rel=>exact⟨k+1,_,hlt,rfl,by rw[Fk.out];first|rw[show max f.dP v=v by omega]|rw[show max f.dP v=f.dP by omega],by go_num,ai⟩
  ·obtain rfl:k=is.length:=by omega
   rw[List.take_length];have I6:=qh (Sa.qJ HV.out is HI.out);have ZT:=I6.out;have hfl:=(Sa.aC.1 HV.out).1.2.1;have HPA:Hid ((Sa.fy h is).parts=(is.length:Int)):=qh (Li h is);have HSC:Hid (Sa.ir h.floor (Sa.fy h is)=h.floor+((Sa.fy h is).bG*(Sa.fy h is).dP+9) / 10):=by unfold Hid Sa.ir;rw[if_neg (by rw[HPA.out];have:=Bu.out;omega)]
   obtain⟨f,hf⟩:∃f,Sa.fy h is=f:=⟨_,rfl⟩;have HF:=qh hf;rw[hf] at ZT ⊢;have hm:=Sa.zZ (a:=f.bG) (b:=f.dP) (A:=240) (B:=9) ⟨ZT.2.1.1,by have:=ZT.2.1.2;omega⟩ ZT.2.2.1;have hst:=ZT.2.2.1;obtain⟨p,hp⟩:∃p,f.bG*f.dP=p:=⟨_,rfl⟩;rw[hp] at hm;have Z8:=qh hp;have hw1:IntKind.i64.wrap (f.bG*f.dP)=p:=by rw[hp,IntWalk.i64_in];omega
   have Sj:IntKind.i64.wrap (p+9)=p+9:=by rw[IntWalk.i64_in];omega
   have hd:(p+9).tdiv 10=(p+9) / 10:=Int.tdiv_eq_ediv_of_nonneg nQ;have hw3:IntKind.i64.wrap ((p+9) / 10)=(p+9) / 10:=by rw[IntWalk.i64_in];omega
   have hw4:IntKind.i64.wrap (h.floor+(p+9) / 10)=h.floor+(p+9) / 10:=by rw[IntWalk.i64_in];omega
   clear hf hp ZT;go_wp2;go_region_held3 (fun w'=>w'.cell? ⟨w.heap.size,0,none⟩=some (.slice kA h.kinds.length kc)/\w'.cell? ⟨w.heap.size,1,none⟩=some (.int .i64 h.floor)/\w'.cell? ⟨w.heap.size,2,none⟩=some (.slice pA h.parts.length pc)/\w'.cell? ⟨w.heap.size,3,none⟩=some (.slice bA h.bars.length bc)) (refine⟨?_,?_,?_,?_⟩<;>go_simp)
    (first|(go_at_call 215;refine(xb ⟨kA,kc,pA,pc,bA,bc⟩ h HV.out is HI.out h6 A c B _ (jy.2 ((qN δ).2 qo.out)) (Ni.2 ((Bn δ).2 oa.out))).mono ?_;rw[HF.out];rintro e w1 ⟨rfl,δ2,rfl⟩))
   all_goals go_wp2
   all_goals go_ret
   all_goals exact⟨by rw[HSC.out,HF.out,Z8.out];rfl,ag⟩
theorem Ch(n low high:Int)(w:nJ):Calls nH 125 #[.int .i64 n,.int .i64 low,.int .i64 high] w fun e w'=>e=.returned (.bool (fH low high n))/\w=w':=by go_enter Tryz.func125,Tryz.ntmps125;go_wp2_with (go_at_call 185;refine(zm _ _ _ _).mono ?_;rintro e w1 ⟨rfl,rfl⟩);go_ret;exact⟨rfl,rfl⟩
theorem dU{n low high:Int}{b:Bool}(h:fH low high n=b)(w:nJ):Calls nH 125 #[.int .i64 n,.int .i64 low,.int .i64 high] w fun e w'=>e=.returned (.bool b)/\w=w':=by subst h;exact Ch n low high w
theorem Gn(n:Int)(w:nJ):Calls nH 155 #[.int .i64 n] w fun e w'=>e=.returned (.bool (fH 0 20 n))/\w=w':=by go_enter Tryz.func155,Tryz.ntmps155;go_wp2_with (go_at_call 125;refine(Ch _ _ _ _).mono ?_;rintro e w1 ⟨rfl,rfl⟩);go_ret;exact⟨rfl,rfl⟩
theorem Ka(r:eT)(h:Sa.aJ)(hv:Sa.valid h=true)(l:List Int)(hl:l.length=h.parts.length)(hx:∀x∈l,x<(h.bars.length:Int))(d:Int)(A:Option Addr)(c:Nat)(B:Nat)(w:nJ)(hH:bW B w r h)(hS:Sl aI B w A c l)[hB:Le B w]:Calls nH 156 #[fu r h,.slice A l.length c,.int .i64 d] w fun e w'=>e=.returned (.int .i64 (Sa.ju h d l))/\∃δ,w'=ah w δ:=by
 have HV:=qh hv;have lb:=hH.2.2.len;refine QDS ?_;intro h6 h4;have HEL:=qh (Sa.Iq h4 d hx);have Pk:l.length<=6:=nQ;have HH:=qh hH;have HS:=qh hS;have HL:=qh hl;obtain⟨kA,kc,pA,pc,bA,bc⟩:=r;clear hH hS hv hx hl;go_enter Tryz.func156,Tryz.ntmps156;go_wp2_with fail;refine QAE ?_;intro W1 aH cJ dF cW di dz uu nt lC mQ;refine QCD ?_;intro qo;have oa:Hid (Sl aI B W1 A c l):=qh HS.out.up;clear aH;go_loopg [7,8,9] h.bars.length (fun gg n i z wr=>∃(k:Nat) (δ:nJ),k<=h.bars.length/\gg=h.bars.length-k/\n=.int .i64 (Sa.iq (Sa.mN h d l) k)/\i=.int .i64 k/\wr=ah W1 δ)
 case atStart=>exact⟨0,W1,nE _,rfl,rfl,rfl,(bw W1).symm⟩
 case round=>
  obtain⟨k,δ,hk,rfl,rfl,rfl,rfl⟩:=hrel;by_cases hlt:k<h.bars.length
  ·have hki:(k:Int)<(h.bars.length:Int):=nQ;refine QBX ?_;intro Uf Ug qm;have Sz:=Sa.jo (A:=300) (f:=Sa.mN h d l) (fun b=>by have:=(Sa.fD HV.out (l:=l) (by have:=HL.out;omega) (b:Int)).2.1;unfold Sa.mN;split<;>omega) k;have hfr:=(Sa.fD HV.out (l:=l) (by have:=HL.out;omega) (k:Int)).2.1;have HN:Hid (Sa.iq (Sa.mN h d l) (k+1)=Sa.iq (Sa.mN h d l) k+(if (Sa.fy h (Sa.nN l (k:Int))).days<=d then (Sa.fy h (Sa.nN l (k:Int))).bG else 0)):=rfl;obtain⟨s,hs⟩:∃s,Sa.iq (Sa.mN h d l) k=s:=⟨_,rfl⟩;have Dj:0<=s/\s<=300*k:=by rw[<-hs];exact Sz
   obtain⟨f,hf⟩:∃f,Sa.fy h (Sa.nN l (k:Int))=f:=⟨_,rfl⟩;have hfp:0<=f.bG/\f.bG<=240:=by rw[<-hf];have:=hfr;unfold Sa.jf at this;omega
   rw[hs,hf] at HN;rw[hs];have HF:=qh hf;clear hs Sz hfr hf;have hwr:IntKind.i64.wrap (s+f.bG)=s+f.bG:=by rw[IntWalk.i64_in];omega
   by_cases hd:f.days<=d
   ·rw[if_pos hd] at HN;go_wp2_with (first|(go_at_call 212;refine(Mu l Pk A c k B _ oa.out.up).mono ?_;rintro e w1 ⟨A1,c1,rfl,hs1,δ1,rfl⟩;rw[qm.out];have HT:=qh hs1;clear hs1)|(go_at_call 214;refine(Mv ⟨kA,kc,pA,pc,bA,bc⟩ h HV.out (Sa.nN l (k:Int)) Uf.out Ug.out A1 c1 _ _ qo.out.wide HT.out).mono ?_;rw[HF.out];rintro e w1 ⟨rfl,δ2,rfl⟩)|(go_at_call 215;refine(xb ⟨kA,kc,pA,pc,bA,bc⟩ h HV.out (Sa.nN l (k:Int)) Uf.out Ug.out A1 c1 _ _ qo.out.wide HT.out.wide).mono ?_;rw[HF.out];rintro e w1 ⟨rfl,δ3,rfl⟩));go_roundg (h.bars.length-(k+1))
    case measure=>omega
    case rel=>exact⟨k+1,_,hlt,rfl,by rw[HN.out],by go_num,ai⟩
   ·rw[if_neg hd] at HN;go_wp2_with (first|(go_at_call 212;refine(Mu l Pk A c k B _ oa.out.up).mono ?_;rintro e w1 ⟨A1,c1,rfl,hs1,δ1,rfl⟩;rw[qm.out];have HT:=qh hs1;clear hs1)|(go_at_call 214;refine(Mv ⟨kA,kc,pA,pc,bA,bc⟩ h HV.out (Sa.nN l (k:Int)) Uf.out Ug.out A1 c1 _ _ qo.out.wide HT.out).mono ?_;rw[HF.out];rintro e w1 ⟨rfl,δ2,rfl⟩));go_roundg (h.bars.length-(k+1))
    case measure=>omega
    case rel=>exact⟨k+1,_,hlt,rfl,by rw[HN.out,Int.add_zero],by go_num,ai⟩
  ·obtain rfl:k=h.bars.length:=by omega
   go_wp2;go_ret;exact⟨by rw[HEL.out];rfl,ag⟩
theorem xh(r:eT)(h:Sa.aJ)(B:Nat)(w:nJ)(hH:bW B w r h)[hB:Le B w]:Calls nH 74 #[fu r h] w fun e w'=>e=.returned (.int .i64 (cD (Sa.valid h) 80))/\∃δ,w'=ah w δ:=by
 have HH:=qh hH;have l1:=hH.1.len;have l2:=hH.2.1.len;have l3:=hH.2.2.len;obtain⟨kA,kc,pA,pc,bA,bc⟩:=r;clear hH;by_cases t1:(3:Int)<(h.kinds.length:Int)
 ·have HB:=qh (sn (ek (h:=h) (.inl (by unfold Sa.oM;rw[decide_eq_false nQ];simp))));go_enter Tryz.func74,Tryz.ntmps74;go_wp2;go_ret;exact⟨HB.out,ag⟩
 rcases t2:fH 0 9 h.floor with _|_
 ·have HB:=qh (sn (ek (h:=h) (.inl (by unfold Sa.oM;rw[t2];simp))));have T2:=qh t2;clear t2;go_enter Tryz.func74,Tryz.ntmps74;go_wp2_with (go_at_call 125;refine(dU T2.out _).mono ?_;rintro e w1 ⟨rfl,rfl⟩);go_ret;exact⟨HB.out,ag⟩
 have T2:=qh t2;by_cases t3:(6:Int)<(h.parts.length:Int)
 ·have HB:=qh (sn (ek (h:=h) (.inl (by unfold Sa.oM;rw[decide_eq_false (p:=h.parts.length<=6) nQ];simp))));clear t2;go_enter Tryz.func74,Tryz.ntmps74;go_wp2_with (go_at_call 125;refine(dU T2.out _).mono ?_;rintro e w1 ⟨rfl,rfl⟩);go_ret;exact⟨HB.out,ag⟩
 by_cases t4:(4:Int)<(h.bars.length:Int)
 ·have HB:=qh (sn (ek (h:=h) (.inl (by unfold Sa.oM;rw[decide_eq_false (p:=h.bars.length<=4) nQ];simp))));clear t2;go_enter Tryz.func74,Tryz.ntmps74;go_wp2_with (go_at_call 125;refine(dU T2.out _).mono ?_;rintro e w1 ⟨rfl,rfl⟩);go_ret;exact⟨HB.out,ag⟩
 have HT:Hid (Sa.oM h=true):=by unfold Hid Sa.oM;rw[t2];simp;omega
 clear t2;go_enter Tryz.func74,Tryz.ntmps74;go_wp2_with (go_at_call 125;refine(dU T2.out _).mono ?_;rintro e w1 ⟨rfl,rfl⟩);refine QAE ?_;intro W1 aH cJ dF cW di dz uu nt lC mQ;refine QCD ?_;intro qo;clear aH;go_loopg [3] h.kinds.length (fun g i wr=>∃(k:Nat) (δ:nJ),k<=h.kinds.length/\g=h.kinds.length-k/\i=.int .i64 k/\Hid ((h.kinds.take k).all Sa.oN=true)/\wr=ah W1 δ)
 case atStart=>exact⟨0,W1,nE _,rfl,rfl,rfl,(bw _).symm⟩
 case round=>
  obtain⟨k,δ,hk,rfl,rfl,HK,rfl⟩:=hrel;by_cases hlt:k<h.kinds.length
  ·obtain⟨b,o,rfl,hb,d0,d1⟩:=qo.out.1.kind hlt;have ib:Lt b W1:=⟨nL hb cJ.out⟩;have hki:(k:Int)<(h.kinds.length:Int):=nQ;have hk0:¬(k:Int)<0:=nQ;rcases vM (nth h.kinds k) with⟨c0,c1,c2⟩|⟨c0,c1⟩|⟨c0,c1,c2⟩
   ·have uy:=qh (qM hlt HK.out c0);have C1:=qh c1;have C2:=qh c2;clear c0 c1 c2;go_wp2_with (go_at_call 125;first|(with_reducible refine(dU C1.out _).mono ?_;rintro e w1 ⟨rfl,rfl⟩)|(with_reducible refine(dU C2.out _).mono ?_;rintro e w1 ⟨rfl,rfl⟩));go_roundg (h.kinds.length-(k+1))
    case measure=>omega
    case rel=>exact⟨k+1,_,hlt,rfl,by go_num,uy,ai⟩
   ·have HB:=qh (sn (ek (h:=h) (.inr (.inl (mR hlt c0)))));have C1:=qh c1;clear c0 c1;go_wp2_with (go_at_call 125;refine(dU C1.out _).mono ?_;rintro e w1 ⟨rfl,rfl⟩);go_ret;exact⟨HB.out,ag⟩
   ·have HB:=qh (sn (ek (h:=h) (.inr (.inl (mR hlt c0)))));have C1:=qh c1;have C2:=qh c2;clear c0 c1 c2;go_wp2_with (go_at_call 125;first|(with_reducible refine(dU C1.out _).mono ?_;rintro e w1 ⟨rfl,rfl⟩)|(with_reducible refine(dU C2.out _).mono ?_;rintro e w1 ⟨rfl,rfl⟩));go_ret;exact⟨HB.out,ag⟩
  ·obtain rfl:k=h.kinds.length:=by omega
   have HKA:Hid (h.kinds.all Sa.oN=true):=by have:=HK.out;rw[List.take_length] at this;exact this
   clear HK;go_wp2_with fail;go_loopg [4] h.parts.length (fun g i wr=>∃(k:Nat) (δ:nJ),k<=h.parts.length/\g=h.parts.length-k/\i=.int .i64 k/\Hid ((h.parts.take k).all (Sa.mH h.kinds.length)=true)/\wr=ah W1 δ)
   case atStart=>exact⟨0,_,nE _,rfl,rfl,rfl,ai⟩
   case round=>
    obtain⟨k,δ,hk,rfl,rfl,HK,rfl⟩:=hrel;by_cases hlt:k<h.parts.length
    ·obtain⟨b,o,rfl,hb,d0,d1⟩:=qo.out.2.1.part hlt;have ib:Lt b W1:=⟨nL hb cJ.out⟩;have hki:(k:Int)<(h.parts.length:Int):=nQ;have hk0:¬(k:Int)<0:=nQ;have hwn:IntKind.i64.wrap ((h.kinds.length:Int)-1)=(h.kinds.length:Int)-1:=by rw[IntWalk.i64_in];omega
     rcases vL (h.kinds.length:Int) (nth h.parts k) with⟨c0,c1,c2⟩|⟨c0,c1⟩|⟨c0,c1,c2⟩
     ·have uy:=qh (qM (p:=Sa.mH h.kinds.length) hlt HK.out c0);have C1:=qh c1;have C2:=qh c2;clear c0 c1 c2;go_wp2_with fail;refine wpRl ?_;repeat (go_big_quiet_step ((first|(go_at_call 125;(first|with_reducible exact Calls.lT (dU C1.out _)|with_reducible exact Calls.lT (dU C2.out _))))))
      refine QBU ?_;rintro _ ⟨δq,rfl⟩;go_wp2_with fail;go_roundg (h.parts.length-(k+1))
      case measure=>omega
      case rel=>exact⟨k+1,_,hlt,rfl,by go_num,uy,ai⟩
     ·have HB:=qh (sn (ek (h:=h) (.inr (.inr (.inl (mR hlt c0))))));have C1:=qh c1;clear c0 c1;go_wp2_with fail;refine wpRl ?_;repeat (go_big_quiet_step ((first|(go_at_call 125;exact Calls.lT (dU C1.out _)))))
      refine QBU ?_;rintro _ ⟨δq,rfl⟩;go_wp2_with fail;go_ret;exact⟨HB.out,ag⟩
     ·have HB:=qh (sn (ek (h:=h) (.inr (.inr (.inl (mR hlt c0))))));have C1:=qh c1;have C2:=qh c2;clear c0 c1 c2;go_wp2_with fail;refine wpRl ?_;repeat (go_big_quiet_step ((first|(go_at_call 125;(first|with_reducible exact Calls.lT (dU C1.out _)|with_reducible exact Calls.lT (dU C2.out _))))))
      refine QBU ?_;rintro _ ⟨δq,rfl⟩;go_wp2_with fail;go_ret;exact⟨HB.out,ag⟩
    ·obtain rfl:k=h.parts.length:=by omega
     have HPA:Hid (h.parts.all (Sa.mH h.kinds.length)=true):=by have:=HK.out;rw[List.take_length] at this;exact this
     clear HK;go_wp2_with fail;go_loopg [5] h.bars.length (fun g i wr=>∃(k:Nat) (δ:nJ),k<=h.bars.length/\g=h.bars.length-k/\i=.int .i64 k/\Hid ((h.bars.take k).all (fH 0 99)=true)/\wr=ah W1 δ)
     case atStart=>exact⟨0,_,nE _,rfl,rfl,rfl,ai⟩
     case round=>
      obtain⟨k,δ,hk,rfl,rfl,HK,rfl⟩:=hrel;by_cases hlt:k<h.bars.length
      ·obtain⟨b,o,rfl,hb,d0⟩:=qo.out.2.2.int hlt;have ib:Lt b W1:=⟨nL hb cJ.out⟩;have hki:(k:Int)<(h.bars.length:Int):=nQ;have hk0:¬(k:Int)<0:=nQ;rcases hq:fH 0 99 (nth h.bars k) with _|_
       ·have HB:=qh (sn (ek (h:=h) (.inr (.inr (.inr (mR hlt hq))))));have HQ:=qh hq;clear hq;go_wp2_with (go_at_call 125;refine(dU HQ.out _).mono ?_;rintro e w1 ⟨rfl,rfl⟩);go_ret;exact⟨HB.out,ag⟩
       ·have HQ:=qh hq;have uy:=qh (qM hlt HK.out hq);clear hq;go_wp2_with (go_at_call 125;refine(dU HQ.out _).mono ?_;rintro e w1 ⟨rfl,rfl⟩);go_roundg (h.bars.length-(k+1))
        case measure=>omega
        case rel=>exact⟨k+1,_,hlt,rfl,by go_num,uy,ai⟩
      ·obtain rfl:k=h.bars.length:=by omega
       have HB:Hid (Ending.returned (.int .i64 0)=Ending.returned (Value.int .i64 (cD (Sa.valid h) 80))):=by
        have hb:h.bars.all (fH 0 99)=true:=by have:=HK.out;rwa [List.take_length] at this
        unfold Hid Sa.valid;rw[HT.out,HKA.out,HPA.out,hb];rfl
       go_wp2;go_ret;exact⟨HB.out,ag⟩
theorem mW(r:eT)(h:Sa.aJ)(hv:Sa.valid h=true)(B:Nat)(w:nJ)(hH:bW B w r h)[hB:Le B w]:Calls nH 74 #[fu r h] w fun e w'=>e=.returned (.int .i64 0)/\∃δ,w'=ah w δ:=by have:=xh r h B w hH;rwa [show cD (Sa.valid h) 80=0 by rw[hv];rfl] at this
def Wl(q:Bool):Int:=if q=true then 0 else 1
theorem D7(r:eT)(h:Sa.aJ)(hv:Sa.valid h=true)(q:Bool)(B:Nat)(w:nJ)(hH:bW B w r h)[hB:Le B w]:Calls nH 213 #[fu r h,.bool q] w fun e w'=>e=.returned (.int .i64 (Wl q))/\∃δ,w'=ah w δ:=by have HH:=qh hH;have HV:=qh hv;obtain⟨kA,kc,pA,pc,bA,bc⟩:=r;clear hH hv;cases q;all_goals go_enter Tryz.func213,Tryz.ntmps213;go_wp2_with (go_at_call 74;refine(mW ⟨kA,kc,pA,pc,bA,bc⟩ h HV.out B _ HH.out.up).mono ?_;rintro e w1 ⟨rfl,δ1,rfl⟩);go_ret;exact⟨rfl,ag⟩
theorem DZ(r:eT)(h:Sa.aJ)(hv:Sa.valid h=true)(l:List Int)(hl:l.length<=h.parts.length)(q:Bool)(hq:Sa.fits h l=q)(A:Option Addr)(c:Nat)(B:Nat)(w:nJ)(hH:bW B w r h)(hS:Sl aI B w A c l)[hB:Le B w]:Calls nH 216 #[fu r h,.slice A l.length c] w fun e w'=>e=.returned (.bool q)/\∃δ,w'=ah w δ:=by
 have HV:=qh hv;have HQ:Hid (AJ h (dS h l)=q):=qh ((SS h l).trans hq);have lb:=hH.2.2.len;have h6:=(Sa.aC.1 hv).1.2.2.1;have Pk:l.length<=6:=nQ;have HH:=qh hH;have HS:=qh hS;have HL:=qh hl;obtain⟨kA,kc,pA,pc,bA,bc⟩:=r;clear hH hS hv hl hq;go_enter Tryz.func216,Tryz.ntmps216;go_wp2_with fail;refine QAE ?_;intro W1 aH cJ dF cW di dz uu nt lC mQ;refine QCD ?_;intro qo;have oa:Hid (Sl aI B W1 A c l):=qh HS.out.up;have Ia:B<=W1.heap.size:=(inferInstance:Le B W1).out;clear aH;go_loopg [5,6] h.bars.length (fun gg i z wr=>∃(k:Nat) (δ:nJ),k<=h.bars.length/\gg=h.bars.length-k/\i=.int .i64 k/\wr=ah W1 δ/\Hid (∀b,b<k->Sa.qC h.floor (dS h l b)<=nth h.bars b))
 case atStart=>exact⟨0,W1,nE _,rfl,rfl,(bw W1).symm,qh fun b hb=>absurd hb (Nat.not_lt_zero b)⟩
 case round=>
  obtain⟨k,δ,hk,rfl,rfl,rfl,HA⟩:=hrel;by_cases hlt:k<h.bars.length
  ·have hki:(k:Int)<(h.bars.length:Int):=nQ;have hk0:¬(k:Int)<0:=nQ;refine QBX ?_;intro Uf Ug qm;have hfr:=Sa.fD HV.out (l:=l) (by have:=HL.out;omega) (k:Int);have hsf:=Sa.oy (Sa.aC.1 HV.out).1.2.1 hfr;have hfp:=hfr.2.1;have HND:Hid (Sa.qC h.floor (dS h l k)=(Sa.fy h (Sa.nN l (k:Int))).bG+Sa.ir h.floor (Sa.fy h (Sa.nN l (k:Int)))):=rfl;unfold Sa.jf at hsf hfp;obtain⟨p,hp⟩:∃p,(Sa.fy h (Sa.nN l (k:Int))).bG=p:=⟨_,rfl⟩;obtain⟨v,qO⟩:∃v,Sa.ir h.floor (Sa.fy h (Sa.nN l (k:Int)))=v:=⟨_,rfl⟩;rw[hp,qO] at HND;rw[hp] at hfp;rw[qO] at hsf;have HP:=qh hp;have Nj:=qh qO;have hwr:IntKind.i64.wrap (p+v)=p+v:=by rw[IntWalk.i64_in];omega
   obtain⟨y,o,rfl,hb,d0⟩:∃x o,bA=some ⟨x,o,none⟩/\x<B/\W1.cell? ⟨x,o+k,none⟩=some (.int .i64 (nth h.bars k)):=by obtain⟨x,o,h1,h2,h3⟩:=qo.out.2.2.at_ (size:=1) (fun _=>rfl) hlt nQ;exact⟨x,o,h1,h2,by rw[bN _ hlt];simpa using h3 0 _ rfl⟩
   have iy:Lt y W1:=⟨nL hb Ia⟩;obtain⟨x,hx⟩:∃x,nth h.bars k=x:=⟨_,rfl⟩;rw[hx] at d0;have HX:=qh hx;clear hp qO hfr hx hb;go_wp2_with (go_at_call 212;refine(Mu l Pk A c k B _ oa.out.up).mono ?_;rintro e w1 ⟨A1,c1,rfl,hs1,δ1,rfl⟩;rw[qm.out];have HT:=qh hs1;clear hs1);have Nn:Hid (bW (ah (ah W1 δ) δ1).heap.size (ah (ah W1 δ) δ1) ⟨kA,kc,pA,pc,some ⟨y,o,none⟩,bc⟩ h):=qh qo.out.wide;go_region_held3 (fun w'=>w'.cell? ⟨w.heap.size,0,none⟩=some (.slice kA h.kinds.length kc)/\w'.cell? ⟨w.heap.size,1,none⟩=some (.int .i64 h.floor)/\w'.cell? ⟨w.heap.size,2,none⟩=some (.slice pA h.parts.length pc)/\w'.cell? ⟨w.heap.size,3,none⟩=some (.slice (some ⟨y,o,none⟩) h.bars.length bc)/\w'.cell? ⟨y,o+k,none⟩=some (.int .i64 x)) (refine⟨?_,?_,?_,?_,?_⟩<;>go_simp)
    (first|(go_at_call 215;refine(xb ⟨kA,kc,pA,pc,some ⟨y,o,none⟩,bc⟩ h HV.out (Sa.nN l (k:Int)) Uf.out Ug.out A1 c1 (ah (ah W1 δ) δ1).heap.size _ (by first|exact Nn.out|exact(qN _).2 Nn.out) (by first|exact HT.out|exact(Bn _).2 HT.out)).mono ?_;rw[HP.out];rintro e w1 ⟨rfl,δ2,rfl⟩)|(go_at_call 211;refine(CK ⟨kA,kc,pA,pc,some ⟨y,o,none⟩,bc⟩ h HV.out (Sa.nN l (k:Int)) Uf.out Ug.out A1 c1 (ah (ah W1 δ) δ1).heap.size _ (by first|exact Nn.out|exact(qN _).2 Nn.out) (by first|exact HT.out|exact(Bn _).2 HT.out)).mono ?_;rw[Nj.out];rintro e w1 ⟨rfl,δ3,rfl⟩))
   all_goals
    by_cases hc:x<p+v
    ·have HE:Hid (q=false):=qh (HQ.out.symm.trans (Dn hlt HA.out (by rw[HND.out,HX.out];omega)));clear HA;go_wp2;go_ret;rw[HE.out];exact⟨rfl,ag⟩
    ·go_wp2;go_roundg (h.bars.length-(k+1))
     case measure=>omega
     case rel=>
      refine⟨k+1,_,hlt,rfl,by go_num,ai,qh fun b hb=>?_⟩;rcases Nat.lt_succ_iff_lt_or_eq.1 hb with hb|rfl
      ·exact HA.out b hb
      ·rw[HND.out,HX.out];omega
  ·obtain rfl:k=h.bars.length:=by omega
   have HE:Hid (q=true):=qh (HQ.out.symm.trans (Ih HA.out));clear HA;go_wp2;go_ret;rw[HE.out];exact⟨rfl,ag⟩
theorem Kb(r:eT)(h:Sa.aJ)(hv:Sa.valid h=true)(l:List Int)(hl:l.length=h.parts.length)(hx:∀x∈l,x<(h.bars.length:Int))(A:Option Addr)(c:Nat)(B:Nat)(w:nJ)(hH:bW B w r h)(hS:Sl aI B w A c l)[hB:Le B w]:Calls nH 153 #[fu r h,.slice A l.length c] w fun e w'=>e=.returned (.int .i64 (Sa.cK h l))/\∃δ,w'=ah w δ:=by
 have HV:=qh hv;have lb:=hH.2.2.len;refine QDS ?_;intro h6 h4;have HEL:=qh (Sa.Fe h4 hx);have Pk:l.length<=6:=nQ;have HH:=qh hH;have HS:=qh hS;have HL:=qh hl;obtain⟨kA,kc,pA,pc,bA,bc⟩:=r;clear hH hS hv hx hl;go_enter Tryz.func153,Tryz.ntmps153;go_wp2_with fail;refine QAE ?_;intro W1 aH cJ dF cW di dz uu nt lC mQ;refine QCD ?_;intro qo;have oa:Hid (Sl aI B W1 A c l):=qh HS.out.up;clear aH;go_loopg [5,6] h.bars.length (fun gg n i wr=>∃(k:Nat) (δ:nJ),k<=h.bars.length/\gg=h.bars.length-k/\n=.int .i64 (Sa.iq (Sa.vp h l) k)/\i=.int .i64 k/\wr=ah W1 δ)
 case atStart=>exact⟨0,W1,nE _,rfl,rfl,rfl,(bw W1).symm⟩
 case round=>
  obtain⟨k,δ,hk,rfl,rfl,rfl,rfl⟩:=hrel;by_cases hlt:k<h.bars.length
  ·have hki:(k:Int)<(h.bars.length:Int):=nQ;refine QBX ?_;intro Uf Ug qm;have Sz:=Sa.jo (A:=300) (f:=Sa.vp h l) (fun b=>Sa.oy (Sa.aC.1 HV.out).1.2.1 (Sa.fD HV.out (l:=l) (by have:=HL.out;omega) (b:Int))) k;have hsf:=Sa.oy (Sa.aC.1 HV.out).1.2.1 (Sa.fD HV.out (l:=l) (by have:=HL.out;omega) (k:Int));have HN:Hid (Sa.iq (Sa.vp h l) (k+1)=Sa.iq (Sa.vp h l) k+Sa.ir h.floor (Sa.fy h (Sa.nN l (k:Int)))):=rfl;obtain⟨s,hs⟩:∃s,Sa.iq (Sa.vp h l) k=s:=⟨_,rfl⟩;have Dj:0<=s/\s<=300*k:=by rw[<-hs];exact Sz
   unfold Sa.jf at hsf;obtain⟨v,qO⟩:∃v,Sa.ir h.floor (Sa.fy h (Sa.nN l (k:Int)))=v:=⟨_,rfl⟩;rw[qO] at hsf;rw[hs,qO] at HN;rw[hs];have Nj:=qh qO;clear hs Sz qO;have hwr:IntKind.i64.wrap (s+v)=s+v:=by rw[IntWalk.i64_in];omega
   go_wp2;go_region_held3 (fun w'=>w'.cell? ⟨w.heap.size,0,none⟩=some (.slice kA h.kinds.length kc)/\w'.cell? ⟨w.heap.size,1,none⟩=some (.int .i64 h.floor)/\w'.cell? ⟨w.heap.size,2,none⟩=some (.slice pA h.parts.length pc)/\w'.cell? ⟨w.heap.size,3,none⟩=some (.slice bA h.bars.length bc)) (refine⟨?_,?_,?_,?_⟩<;>go_simp)
    (first|(go_at_call 212;refine(Mu l Pk A c k B _ (Ni.2 ((Bn δ).2 oa.out))).mono ?_;rintro e w1 ⟨A1,c1,rfl,hs1,δ1,rfl⟩;rw[qm.out];have HT:=qh hs1;clear hs1)|(go_at_call 211;refine(CK ⟨kA,kc,pA,pc,bA,bc⟩ h HV.out (Sa.nN l (k:Int)) Uf.out Ug.out A1 c1 _ _ (((qN δ1).2 (jy.2 ((qN δ).2 qo.out))).more (inferInstance:Le B (ah (ah W1 δ).drew δ1)).out) HT.out).mono ?_;rw[Nj.out];rintro e w1 ⟨rfl,δ2,rfl⟩))
   all_goals go_wp2
   all_goals
    go_roundg (h.bars.length-(k+1))
    case measure=>omega
    case rel=>exact⟨k+1,_,hlt,rfl,by rw[HN.out],by go_num,ai⟩
  ·obtain rfl:k=h.bars.length:=by omega
   go_wp2;go_ret;exact⟨by rw[HEL.out];rfl,ag⟩
def yl(h:Sa.aJ)(m:Nat)(f:List Int)(j:Nat):List (List Int):=(List.range j).flatMap fun(b:Nat)=>Sa.gd h m (f++[(b:Int)])
theorem Ag{h:Sa.aJ}{m:Nat}{f:List Int}{j:Nat}:yl h m f (j+1)=yl h m f j++Sa.gd h m (f++[(j:Int)]):=by simp[yl,List.range_succ]
theorem C0{h:Sa.aJ}(h4:h.bars.length<=5)(k:Nat)(l:List Int):(Sa.gd h k l).length<=5 ^ k:=by
 induction k generalizing l with
 |zero=>rw[Sa.gd];split<;>simp
 |succ k ih=>
  have key:∀j,(yl h k l j).length<=j*5 ^ k:=by
   intro j;induction j with
   |zero=>simp[yl]
   |succ j ihj=>
    rw[Ag,List.length_append,Nat.succ_mul]
    have:=ih (l++[(j:Int)])
    omega
  have h1:=key h.bars.length
  have:h.bars.length*5 ^ k<=5*5 ^ k:=Nat.mul_le_mul_right _ h4
  rw[Sa.gd,Nat.pow_succ,Nat.mul_comm]
  split
  ·exact nT h1 this
  ·simp
theorem QI(T:TypeId)(w:nJ):wP T aI w none 0 []:=⟨nR _,nU,[],fun h=>absurd rfl h,jg.nil⟩
theorem GV(r:eT)(h:Sa.aJ)(hv:Sa.valid h=true)(f:List Int)(hl:f.length<=h.parts.length)(hf:Sa.fits h f=false)(A:Option Addr)(c:Nat)(B:Nat)(w:nJ)[hB:Le B w](hH:bW B w r h)(hS:fN 3 aI w.heap.size w A c f):Calls nH 157 #[fu r h,.slice A f.length c,.int .i64 0] w (pX w []):=by have HH:=qh hH;have HV:=qh hv;have HS:=qh hS;have HF:=qh hf;have HL:=qh hl;obtain⟨kA,kc,pA,pc,bA,bc⟩:=r;clear hH hv hS hf hl;go_enter Tryz.func157,Tryz.ntmps157;go_wp2_with (go_at_call 216;refine(DZ ⟨kA,kc,pA,pc,bA,bc⟩ h HV.out f HL.out false HF.out A c w.heap.size _ (HH.out.more hB.out).up HS.out.plain.up).mono ?_;rintro e w1 ⟨rfl,δ1,rfl⟩);go_ret;exact⟨none,0,_,rfl,ai,QI _ _⟩
theorem OV(r:eT)(h:Sa.aJ)(hv:Sa.valid h=true)(f:List Int)(hl:f.length=h.parts.length)(hf:Sa.fits h f=true)(A:Option Addr)(c:Nat)(B:Nat)(w:nJ)[hB:Le B w](hH:bW B w r h)(hS:fN 3 aI w.heap.size w A c f):Calls nH 157 #[fu r h,.slice A f.length c,.int .i64 0] w (pX w [f]):=by
 have hE:((f.length:Int)==(h.parts.length:Int))=true:=by simp;omega
 have l1:=hS.plain.len;have HH:=qh hH;have HV:=qh hv;have HS:=qh hS;have HF:=qh hf;have HL:=qh hl;obtain⟨kA,kc,pA,pc,bA,bc⟩:=r;clear hH hv hS hf hl;go_enter Tryz.func157,Tryz.ntmps157;go_wp2_with (go_at_call 216;refine(DZ ⟨kA,kc,pA,pc,bA,bc⟩ h HV.out f (Nat.le_of_eq HL.out) true HF.out A c w.heap.size _ (HH.out.more hB.out).up HS.out.plain.up).mono ?_;rintro e w1 ⟨rfl,δ1,rfl⟩);go_ret;refine⟨some ⟨_,0,none⟩,1,_,rfl,ai,?_⟩;refine QDF ?_;exact⟨nR _,nQ,[.slice A f.length c],oD nW nW,jg.one HS.out.wide⟩
def Zu(h:Sa.aJ)(m:Nat):Prop:=∀(r:eT) (f:List Int) (A:Option Addr) (c:Nat) (B:Nat) (w:nJ),Le B w->bW B w r h->fN 3 aI w.heap.size w A c f->f.length+m=h.parts.length->∀ln:Nat,f.length=ln ->
 Calls nH 157 #[fu r h,.slice A ln c,.int .i64 0] w (pX w (Sa.gd h m f))
theorem RX(h:Sa.aJ)(hv:Sa.valid h=true)(m:Nat)(IH:Zu h m):Zu h (m+1):=by
 intro r f A c B w hB hH hf hfl ln jA;subst jA;rcases hq:Sa.fits h f with _|_
 ·have e:Sa.gd h (m+1) f=[]:=by rw[Sa.gd,hq];rfl
  rw[e];exact GV r h hv f nQ hq A c B w hH hf
 have l1:=hf.plain.len;have lb:=hH.2.2.len;have h4:=(Sa.aC.1 hv).1.2.2.2;have h6:=(Sa.aC.1 hv).1.2.2.1;have hne:((f.length:Int)==(h.parts.length:Int))=false:=by simp;omega
 have hF:Hid (Sa.gd h (m+1) f=yl h m f h.bars.length):=by unfold Hid;rw[Sa.gd,if_pos hq];rfl
 have YB:5 ^ m<=3125:=by have:5 ^ m<=5 ^ 5:=Nat.pow_le_pow_right nQ nQ;omega
 have adG:f.length<=6:=nQ;have DG:=qh hfl;have Ww:=qh IH;have HH:=qh hH;have HV:=qh hv;have HQ:=qh hq;have HLP:Hid (f.length<=h.parts.length):=qh nQ;obtain⟨kA,kc,pA,pc,bA,bc⟩:=r;clear hfl IH hH hv hq;go_enter Tryz.func157,Tryz.ntmps157;go_wp2_with (go_at_call 216;refine(DZ ⟨kA,kc,pA,pc,bA,bc⟩ h HV.out f HLP.out true HQ.out A c w.heap.size _ (HH.out.more hB.out).up hf.plain.up).mono ?_;rintro e w1 ⟨rfl,δ1,rfl⟩);refine QAE ?_;intro W1 aH cJ dF cW di dz uu nt lC mQ;have g1:bW B W1 ⟨kA,kc,pA,pc,bA,bc⟩ h:=HH.out.up;have g2:fN 3 aI W1.heap.size W1 A c f:=hf.wide;have G1:=qh g1;have G2:=qh g2;clear g1 g2 hf;go_loopw [7,8] (fun o g wr=>∃(k c':Nat) (A':Option Addr) (cs:List nK) (L:List (List Int)),k<=h.bars.length/\g=.int .i64 k/\Hid (L=yl h m f k)/\L.length<=k*5 ^ m/\o=.slice A' L.length c'/\wr.ownsRow W1.heap.size 35 1 (.slice A' L.length c') L.length cs/\jg 3 aI wr cs L/\aD W1.heap.size W1 wr/\Le W1.heap.size wr) (fun _ g _=>(h.bars.length-(intOf g).toNat))
 case atStart=>exact⟨0,0,none,[],[],nE _,rfl,by simp[yl,Hid],nV,rfl,World.ownsRow_nil _ _ _ _,jg.nil,inferInstance,inferInstance⟩
 case round=>
  obtain⟨k,c',A',cs,L,hk,rfl,hL,hLl,rfl,hown,hsub,i1,i2⟩:=hrel;refine QBM ?_;intro hcell i3;refine QBI ?_;intro i5 i6 i7 HO HS;clear hown hsub;by_cases hlt':k<h.bars.length
  ·have hki:(k:Int)<(h.bars.length:Int):=nQ;have hbd:k*5 ^ m<=50000:=by have:=Nat.mul_le_mul (show k<=6 by omega) YB;omega
   have VL:=C0 (h:=h) nQ m (f++[(k:Int)]);have hsc:=qh (Ag (h:=h) (m:=m) (f:=f) (j:=k));go_wp2_with fail;go_region_held3 (fun W=>W.cell? ⟨w.heap.size,0,none⟩=some (.slice kA h.kinds.length kc)/\W.cell? ⟨w.heap.size,1,none⟩=some (.int .i64 h.floor)/\W.cell? ⟨w.heap.size,2,none⟩=some (.slice pA h.parts.length pc)/\W.cell? ⟨w.heap.size,3,none⟩=some (.slice bA h.bars.length bc))
    (refine⟨?_,?_,?_,?_⟩<;>go_simp)
    (first|(refine fE wr wO (.tmp 31) (.tmp 32) rfl rfl (v:=.slice (some ⟨_,0,none⟩) 0 0) (by first|exact cB nW nW|exact(cB nW nW).alloc _) rfl (B:=W1.heap.size) (A:=A) (m:=f.length) (c:=c) (news:=f.flatMap aI) rfl (G2.out.up.plain.2.2) (cm aI 1 (fun _=>rfl) f) (dX aI MG f) nQ nQ ?_;intro A1 c1 δ1 eG hg1)|((refine cU wr wO (.tmp 33) (.tmp 35) rfl rfl (v:=.slice A1 f.length c1) (n:=f.length) (xs:=f.flatMap aI) (by first|exact eG|exact eG.alloc _ ) rfl (m:=1) (c:=1) (news:=[.int .i64 (k:Int)]) rfl (oD (by first|(go_simp;done)|(refine hg1.cell nW (by simp[Value.ownBlock]))) (nA _)) rfl (by simp[Value.oneCell']) nQ nQ ?_);intro A2 c2 δ2 gK mu)|(go_at_call 157;refine(Ww.out ⟨kA,kc,pA,pc,bA,bc⟩ (f++[(k:Int)]) A2 c2 B _ inferInstance G1.out.up (fN.bU (by rw[List.flatMap_append];exact gK) nV) (by have:=DG.out;simp;omega) (f.length+1) nV).mono ?_;rintro e w1 ⟨A3,c3,δ3,rfl,rfl,hq1,BE,W8,Qn,hs3⟩)|(refine cU W1 Uv (.tmp 29) (.tmp 38) rfl rfl (v:=.slice A' L.length c') (n:=L.length) (xs:=cs) (bu HO.out) rfl (A:=A3) (m:=(Sa.gd h m (f++[(k:Int)])).length) (c:=c3) (news:=W8) rfl Qn (by have:=hs3.1;omega) hs3.Ee nQ nQ ?_;intro A4 c4 δ4 Kl KZ))
   all_goals
    go_wp2_with fail;go_roundw
    case rel=>
     refine⟨k+1,c4,A4,cs++W8,L++Sa.gd h m (f++[(k:Int)]),nQ,by go_num,?_,?_,by rw[List.length_append],by rw[List.length_append];exact Kl,(HS.out.up.append hs3).grown (bu HO.out) KZ nU,inferInstance,inferInstance⟩
     ·unfold Hid;rw[hsc.out,<-hL.out]
     ·rw[List.length_append,Nat.succ_mul];omega
    case measure=>simp[intOf];omega
  ·obtain rfl:k=h.bars.length:=by omega
   have HF:=qh (show Sa.gd h (m+1) f=L by rw[hF.out,hL.out]);go_wp2_with fail;go_ret;rw[HF.out];refine QBH ?_;intro i8 i9;refine⟨A',c',wr,rfl,ai,?_⟩;rw[<-ai (w:=w) (W:=wr)];exact wP.bU HO.out HS.out rfl
theorem Vj(h:Sa.aJ)(hv:Sa.valid h=true)(m:Nat):Zu h m:=by
 induction m with
 |zero=>
  intro r f A c B w hB hH hf hl ln jA
  subst jA
  rcases hq:Sa.fits h f with _|_
  ·have e:Sa.gd h 0 f=[]:=by rw[Sa.gd,hq];rfl
   rw[e];exact GV r h hv f nQ hq A c B w hH hf
  ·have e:Sa.gd h 0 f=[f]:=by rw[Sa.gd,hq];rfl
   rw[e];exact OV r h hv f nQ hq A c B w hH hf
 |succ m ih=>exact RX h hv m ih
theorem oH(r:eT)(h:Sa.aJ)(hv:Sa.valid h=true)(B:Nat)(w:nJ)[hB:Le B w](hH:bW B w r h):Calls nH 157 #[fu r h,.slice none 0 0,.int .i64 0] w (pX w (Sa.bM h)):=by rw[<-Sa.yo hv];exact Vj h hv h.parts.length r [] none 0 B w hB hH fN.none_ nV 0 rfl
theorem oI(r:eT)(h:Sa.aJ)(hv:Sa.valid h=true)(l:List Int)(hl:l.length=h.parts.length)(hx:∀x∈l,x<(h.bars.length:Int))(v:Int)(qO:Sa.cK h l=v)(A:Option Addr)(ln c:Nat)(hn:h.parts.length=ln)(B:Nat)(w:nJ)(hH:bW B w r h)(hS:Sl aI B w A c l)[hB:Le B w]:Calls nH 153 #[fu r h,.slice A ln c] w fun e w'=>e=.returned (.int .i64 v)/\∃δ,w'=ah w δ:=by subst qO;rw[<-hn,<-hl];exact Kb r h hv l hl hx A c B w hH hS
theorem J9(r:eT)(h:Sa.aJ)(hv:Sa.valid h=true)(l:List Int)(hl:l.length=h.parts.length)(hx:∀x∈l,x<(h.bars.length:Int))(d v:Int)(qO:Sa.ju h d l=v)(A:Option Addr)(ln c:Nat)(hn:h.parts.length=ln)(B:Nat)(w:nJ)(hH:bW B w r h)(hS:Sl aI B w A c l)[hB:Le B w]:Calls nH 156 #[fu r h,.slice A ln c,.int .i64 d] w fun e w'=>e=.returned (.int .i64 v)/\∃δ,w'=ah w δ:=by subst qO;rw[<-hn,<-hl];exact Ka r h hv l hl hx d A c B w hH hS
theorem vD{h:Sa.aJ}{l:List Int}(hl:l∈Sa.bM h):l.length=h.parts.length/\∀x∈l,x<(h.bars.length:Int):=by obtain⟨h1,h2⟩:=Sa.jw.1 (List.mem_filter.1 hl).1;exact⟨h1,fun x hx=>(h2 x hx).2⟩
theorem vC(h:Sa.aJ)(hv:Sa.valid h=true):(Sa.bM h).length<=15625:=by have h4:=(Sa.aC.1 hv).1.2.2.2;have h6:=(Sa.aC.1 hv).1.2.2.1;rw[<-Sa.yo hv];refine nT (C0 nQ _ _) (nT (Nat.pow_le_pow_right nQ h6) nU)
def I9(h:Sa.aJ)(q:Bool):Int:=if q=false then 1 else if Sa.bM h=[] then 3 else 0
def Zr(h:Sa.aJ)(q:Bool)(w:nJ)(e:Ending)(w':nJ):Prop:=∃(A:Option Addr) (n c:Nat) (δ:nJ),e=.returned (.tuple #[.slice A n c,.int .i64 (I9 h q)])/\w'=ah w δ/\(I9 h q=0->n=(Sa.bM h).length/\wP 3 aI (ah w δ) A c (Sa.bM h))
theorem pI(r:eT)(h:Sa.aJ)(hv:Sa.valid h=true)(q:Bool)(B:Nat)(w:nJ)[hB:Le B w](hH:bW B w r h):Calls nH 154 #[fu r h,.bool q] w (Zr h q w):=by
 have HH:=qh hH;have HV:=qh hv;have hpl:=vC h hv;obtain⟨kA,kc,pA,pc,bA,bc⟩:=r;clear hH hv;cases q
 ·go_enter Tryz.func154,Tryz.ntmps154;go_wp2_with (go_at_call 213;refine(D7 ⟨kA,kc,pA,pc,bA,bc⟩ h HV.out false B _ HH.out.up).mono ?_;rintro e w1 ⟨rfl,δ1,rfl⟩;rw[show Wl false=1 from rfl]);go_ret2;exact⟨none,0,0,_,rfl,ai,fun h=>absurd h (by unfold I9;simp)⟩
 ·by_cases hp:Sa.bM h=[]
  ·have hz:(((Sa.bM h).length:Int)==0)=true:=by rw[hp];rfl
   have HE:Hid (I9 h true=3):=by unfold Hid I9;rw[if_neg nV,if_pos hp]
   clear hp;go_enter Tryz.func154,Tryz.ntmps154;go_wp2_with (first|(go_at_call 213;refine(D7 ⟨kA,kc,pA,pc,bA,bc⟩ h HV.out true B _ HH.out.up).mono ?_;rintro e w1 ⟨rfl,δ1,rfl⟩;rw[show Wl true=0 from rfl])|(go_at_call 157;refine(oH ⟨kA,kc,pA,pc,bA,bc⟩ h HV.out B _ HH.out.up).mono ?_;rintro e w1 ⟨A1,c1,δ2,rfl,rfl,hs⟩));go_ret2;exact⟨none,0,0,_,by rw[HE.out];rfl,ai,fun h=>by rw[HE.out] at h;cases h⟩
  ·have hz:(((Sa.bM h).length:Int)==0)=false:=by have:(Sa.bM h).length≠0:=fun h'=>hp (List.length_eq_zero_iff.1 h');simpa using this
   have HE:Hid (I9 h true=0):=by unfold Hid I9;rw[if_neg nV,if_neg hp]
   clear hp;go_enter Tryz.func154,Tryz.ntmps154;go_wp2_with (first|(go_at_call 213;refine(D7 ⟨kA,kc,pA,pc,bA,bc⟩ h HV.out true B _ HH.out.up).mono ?_;rintro e w1 ⟨rfl,δ1,rfl⟩;rw[show Wl true=0 from rfl])|(go_at_call 157;refine(oH ⟨kA,kc,pA,pc,bA,bc⟩ h HV.out B _ HH.out.up).mono ?_;rintro e w1 ⟨A1,c1,δ2,rfl,rfl,hs⟩;have HS:=qh hs;clear hs));go_ret2;refine⟨A1,_,c1,_,by rw[HE.out];rfl,ai,fun _=>⟨rfl,?_⟩⟩;refine QDF ?_;exact HS.out
def si(f:List Int->Int)(L:List (List Int))(k:Nat):List Int:=Me.least f (L.take (max k 1))
theorem Bh{f:List Int->Int}{L:List (List Int)}(h:0<L.length):si f L 0=nth L 0:=by
 unfold si;cases L with
 |nil=>simp at h
 |cons x xs=>rfl
theorem P8{f:List Int->Int}{L:List (List Int)}(h:0<L.length):si f L L.length=Me.least f L:=by unfold si;rw[show max L.length 1=L.length by omega,List.take_length]
theorem LY{f:List Int->Int}{L:List (List Int)}{k:Nat}(h:k<L.length):si f L (k+1)=if f (nth L k)<f (si f L k) then nth L k else si f L k:=by
 rcases Nat.eq_zero_or_pos k with rfl|hk
 ·rw[Bh h,if_neg (Int.lt_irrefl _)];unfold si;cases L with
  |nil=>simp at h
  |cons x xs=>rfl
 ·unfold si;rw[show max (k+1) 1=k+1 by omega,show max k 1=k by omega,bz L h];have hne:L.take k≠[]:=by intro e;have:=congrArg List.length e;rw[List.length_take,List.length_nil] at this;omega
  exact Me.oQ f hne (nth L k)
theorem DA{f:List Int->Int}{L:List (List Int)}{k:Nat}(h:0<L.length):si f L k∈L:=by unfold si;refine List.mem_of_mem_take (Me.fC f (xs:=L.take (max k 1)) ?_);intro e;have:=congrArg List.length e;rw[List.length_take,List.length_nil] at this;omega
def TM(h:Sa.aJ)(w:nJ)(e:Ending)(w':nJ):Prop:=∃(A:Option Addr) (m c:Nat) (δ:nJ),e=.returned (.tuple #[.slice A m c,.int .i64 (kN h).2])/\m=(kN h).1.length/\Sl aI (ah w δ).heap.size (ah w δ) A c (kN h).1/\w'=ah w δ
theorem DX(r:eT)(h:Sa.aJ)(hv:Sa.valid h=true)(B:Nat)(w:nJ)[hB:Le B w](hH:bW B w r h):Calls nH 152 #[fu r h] w (TM h w):=by
 have HH:=qh hH;have HV:=qh hv;have hpl:=vC h hv;have h6:=(Sa.aC.1 hv).1.2.2.1;obtain⟨kA,kc,pA,pc,bA,bc⟩:=r;clear hH hv;by_cases hp:Sa.bM h=[]
 ·have HE:Hid (I9 h true=3):=by unfold Hid I9;rw[if_neg nV,if_pos hp]
  have HR:Hid (kN h=([],3)):=by unfold Hid kN;rw[if_pos hp]
  clear hp;go_enter Tryz.func152,Tryz.ntmps152;go_wp2_with (go_at_call 154;refine(pI ⟨kA,kc,pA,pc,bA,bc⟩ h HV.out true B _ HH.out.up).mono ?_;rintro e w1 ⟨A1,n1,c1,δ2,rfl,rfl,hs⟩;clear hs;rw[HE.out]);go_ret2;refine⟨none,0,0,_,by rw[HR.out];rfl,by rw[HR.out];rfl,?_,ai⟩;rw[HR.out];exact⟨nR _,nV,fun h=>absurd rfl h⟩
 ·have HE:Hid (I9 h true=0):=by unfold Hid I9;rw[if_neg nV,if_neg hp]
  have HR:Hid (kN h=(Me.least (Sa.cK h) (Sa.bM h),0)):=by unfold Hid kN;rw[if_neg hp]
  have hpos:0<(Sa.bM h).length:=List.length_pos_iff.2 hp;obtain⟨L,hL⟩:∃L,Sa.bM h=L:=⟨_,rfl⟩;have Xh:=qh hL;have HM:Hid (∀l∈L,l.length=h.parts.length/\∀x∈l,x<(h.bars.length:Int)):=qh fun l hl=>vD (by rw[hL];exact hl);rw[hL] at hpos hpl;clear hp hL;have hpi:(0:Int)<(L.length:Int):=nQ;go_enter Tryz.func152,Tryz.ntmps152;go_wp2_with (go_at_call 154;refine(pI ⟨kA,kc,pA,pc,bA,bc⟩ h HV.out true B _ HH.out.up).mono ?_;rintro e w1 ⟨A1,n1,c1,δ2,rfl,rfl,hs⟩;rw[HE.out];obtain⟨h1,h2⟩:=hs HE.out;rw[Xh.out] at h1 h2;subst h1;clear hs;obtain⟨b0,o0,A0,c0,rfl,hb0,d0,s0⟩:=h2.nth hpos (HM.out _ (aR _ hpos)).1;have HS:=qh h2;have HS0:=qh s0.plain;clear h2 s0;simp only[Nat.add_zero] at d0);refine QAE ?_;intro W1 aH cJ dF cW di dz uu nt lC mQ;refine QCD ?_;intro qo;have oa:Hid (wP 3 aI W1 (some ⟨b0,o0,none⟩) c1 L):=by rw[aH.out];exact HS
  have Cc:Hid (Sl aI W1.heap.size W1 A0 c0 (nth L 0)):=by rw[aH.out];exact HS0
  have Ia:B<=W1.heap.size:=(inferInstance:Le B W1).out;clear aH HS HS0 d0 hb0;go_loopg [6,7] L.length (fun gg ze i wr=>∃(k:Nat) (A2:Option Addr) (c2:Nat) (x:List Int) (δ:nJ),k<=L.length/\gg=L.length-k/\ze=.slice A2 h.parts.length c2/\i=.int .i64 k/\Hid (x=si (Sa.cK h) L k)/\Hid (Sl aI W1.heap.size W1 A2 c2 x)/\wr=ah W1 δ)
  case atStart=>exact⟨0,A0,c0,nth L 0,W1,nE _,rfl,rfl,rfl,qh (Bh hpos).symm,Cc,(bw W1).symm⟩
  case round=>
   obtain⟨k,A2,c2,x,δ,hk,rfl,rfl,rfl,HX,HSX,rfl⟩:=hrel;by_cases hlt:k<L.length
   ·have hki:(k:Int)<(L.length:Int):=nQ;have hk0:¬(k:Int)<0:=nQ;obtain⟨b3,o3,A3,c3,h3,SA,d3,s3⟩:=oa.out.nth hlt (HM.out _ (aR _ hlt)).1;injection h3 with h3;injection h3 with h3a h3b;subst h3a h3b;have ib3:Lt b0 W1:=⟨SA⟩;have ux:Hid (Sl aI W1.heap.size W1 A3 c3 (nth L k)):=qh s3.plain;have uX:=qh (LY (f:=Sa.cK h) hlt);have HMX:Hid (x.length=h.parts.length/\∀y∈x,y<(h.bars.length:Int)):=qh (by rw[HX.out];exact HM.out _ (DA hpos));have Wv:=qh (HM.out _ (aR _ hlt));obtain⟨y,hy⟩:∃y,nth L k=y:=⟨_,rfl⟩;rw[<-HX.out] at uX;rw[hy] at ux uX Wv;obtain⟨u,hu⟩:∃u,Sa.cK h y=u:=⟨_,rfl⟩;obtain⟨v,hv⟩:∃v,Sa.cK h x=v:=⟨_,rfl⟩;rw[hu,hv] at uX;have HU:=qh hu;have Nj:=qh hv;clear hu hv hy s3 SA;by_cases hc:u<v
    ·rw[if_pos hc] at uX;go_wp2_with fail;refine wpRl ?_;repeat (go_big_quiet_step ((first|(go_at_call 153;(first|with_reducible exact Calls.bV (oI ⟨kA,kc,pA,pc,bA,bc⟩ h HV.out y Wv.out.1 Wv.out.2 u HU.out A3 _ c3 rfl W1.heap.size _ (qo.out.more Ia).up ux.out.up)|with_reducible exact Calls.bV (oI ⟨kA,kc,pA,pc,bA,bc⟩ h HV.out x HMX.out.1 HMX.out.2 v Nj.out A2 _ c2 rfl W1.heap.size _ (qo.out.more Ia).up HSX.out.up))))))
     refine QBU ?_;rintro _ ⟨δq,rfl⟩;go_wp2_with fail;go_roundg (L.length-(k+1))
     case measure=>omega
     case rel=>exact⟨k+1,A3,c3,y,_,nQ,rfl,rfl,by go_num,qh uX.out.symm,ux,ai⟩
    ·rw[if_neg hc] at uX;go_wp2_with fail;refine wpRl ?_;repeat (go_big_quiet_step ((first|(go_at_call 153;(first|with_reducible exact Calls.bV (oI ⟨kA,kc,pA,pc,bA,bc⟩ h HV.out y Wv.out.1 Wv.out.2 u HU.out A3 _ c3 rfl W1.heap.size _ (qo.out.more Ia).up ux.out.up)|with_reducible exact Calls.bV (oI ⟨kA,kc,pA,pc,bA,bc⟩ h HV.out x HMX.out.1 HMX.out.2 v Nj.out A2 _ c2 rfl W1.heap.size _ (qo.out.more Ia).up HSX.out.up))))))
     refine QBU ?_;rintro _ ⟨δq,rfl⟩;go_wp2_with fail;go_roundg (L.length-(k+1))
     case measure=>omega
     case rel=>exact⟨k+1,A2,c2,x,_,nQ,rfl,rfl,by go_num,qh uX.out.symm,HSX,ai⟩
   ·obtain rfl:k=L.length:=by omega
    have TQ:Hid (x=(kN h).1/\(kN h).2=0/\x.length=h.parts.length):=by
     refine⟨?_,by rw[HR.out],?_⟩
     ·rw[HR.out,HX.out,P8 hpos,Xh.out]
     ·rw[HX.out];exact(HM.out _ (DA hpos)).1
    go_wp2_with fail;go_ret2;refine⟨A2,_,c2,_,by rw[TQ.out.2.1];rfl,by rw[<-TQ.out.1,TQ.out.2.2],?_,ai⟩;rw[<-TQ.out.1,<-ai (w:=w)];exact HSX.out.wide
theorem NS(r:eT)(h:Sa.aJ)(hv:Sa.valid h=true)(B:Nat)(w:nJ)[hB:Le B w](hH:bW B w r h):Calls nH 90 #[fu r h] w fun e w'=>e=.returned (.tuple #[.int .i64 (pH h).1,.int .i64 (pH h).2])/\∃δ,w'=ah w δ:=by
 have HH:=qh hH;have HV:=qh hv;obtain⟨kA,kc,pA,pc,bA,bc⟩:=r;clear hH hv;by_cases hp:Sa.bM h=[]
 ·have HR:Hid (kN h=([],3)/\pH h=(0,3)):=by unfold Hid kN pH;rw[if_pos hp,if_pos hp];exact⟨rfl,rfl⟩
  clear hp;go_enter Tryz.func90,Tryz.ntmps90;go_wp2_with (go_at_call 152;refine(DX ⟨kA,kc,pA,pc,bA,bc⟩ h HV.out B _ HH.out.up).mono ?_;rintro e w1 ⟨A1,m1,c1,δ1,rfl,_,hs,rfl⟩;clear hs;rw[HR.out.1]);go_ret2;exact⟨by rw[HR.out.2];rfl,ag⟩
 ·have HR:Hid (kN h=(Me.least (Sa.cK h) (Sa.bM h),0)/\pH h=(Sa.cK h (Me.least (Sa.cK h) (Sa.bM h)),0)):=by unfold Hid kN pH;rw[if_neg hp,if_neg hp];exact⟨rfl,rfl⟩
  have HM:=qh (vD (Me.fC (Sa.cK h) hp));obtain⟨x,hx⟩:∃x,Me.least (Sa.cK h) (Sa.bM h)=x:=⟨_,rfl⟩;rw[hx] at HR HM;clear hp hx;obtain⟨v,qO⟩:∃v,Sa.cK h x=v:=⟨_,rfl⟩;rw[qO] at HR;have HW:=qh qO;clear qO;go_enter Tryz.func90,Tryz.ntmps90;go_wp2_with (first|(go_at_call 152;refine(DX ⟨kA,kc,pA,pc,bA,bc⟩ h HV.out B _ HH.out.up).mono ?_;rintro e w1 ⟨A1,m1,c1,δ1,rfl,hm,hs,rfl⟩;rw[HR.out.1] at hm hs ⊢;have HS:=qh hs;clear hs;have hm2:=hm.trans HM.out.1;subst hm2;clear hm)|(go_at_call 153;refine(oI ⟨kA,kc,pA,pc,bA,bc⟩ h HV.out x HM.out.1 HM.out.2 v HW.out A1 _ c1 rfl _ _ HH.out.wide HS.out).mono ?_;rintro e w1 ⟨rfl,δ2,rfl⟩));go_ret2;exact⟨by rw[HR.out.2];rfl,ag⟩
def pM(h:Sa.aJ)(d:Int)(L:List (List Int)):Int:=L.foldl (fun n l=>max n (Sa.ju h d l)) 0
theorem KB(h:Sa.aJ)(d:Int)(L:List (List Int))(l:List Int):pM h d (L++[l])=max (pM h d L) (Sa.ju h d l):=by simp[pM]
theorem Ie(f:List Int->Int):∀(L:List (List Int)) (a m:Int),L.foldl (fun n l=>max n (f l)) a<=m↔a<=m/\∀l∈L,f l<=m
 |[],a,m=>by simp
 |x::L,a,m=>by
  rw[List.foldl_cons,Ie f L];simp only[List.mem_cons,forall_eq_or_imp];constructor
  ·rintro⟨h1,h2⟩;exact⟨nQ,nQ,h2⟩
  ·rintro⟨h1,h2,h3⟩;exact⟨nQ,h3⟩
theorem vR{h:Sa.aJ}{d m:Int}{L:List (List Int)}:pM h d L<=m↔0<=m/\∀l∈L,Sa.ju h d l<=m:=Ie _ L 0 m
theorem Dp{h:Sa.aJ}(hv:Sa.valid h=true)(d:Int){l:List Int}(hl:l.length=h.parts.length):0<=Sa.ju h d l/\Sa.ju h d l<=1500:=by have:=Ip hv d l (Nat.le_of_eq hl);unfold gZ at this;omega
theorem OE{h:Sa.aJ}(hv:Sa.valid h=true)(d:Int)(hp:Sa.bM h≠[]):pM h d (Sa.bM h)=Sa.ju h d (Me.least (gZ h d) (Sa.bM h)):=by
 have hm:=Me.fC (gZ h d) hp;have hb:=Dp hv d (vD hm).1;apply Int.le_antisymm
 ·refine vR.2 ⟨hb.1,fun l hl=>?_⟩;have:=Me.least_le (gZ h d) hl;unfold gZ at this ⊢;omega
 ·exact(vR.1 (Int.le_refl (pM h d (Sa.bM h)))).2 _ hm
theorem RF{h:Sa.aJ}(hv:Sa.valid h=true)(d:Int)(k:Nat):0<=pM h d ((Sa.bM h).take k)/\pM h d ((Sa.bM h).take k)<=1500:=by refine⟨(vR.1 (Int.le_refl (pM h d ((Sa.bM h).take k)))).1,vR.2 ⟨nQ,fun l hl=>?_⟩⟩;exact(Dp hv d (vD (List.mem_of_mem_take hl)).1).2
theorem Rc(r:eT)(h:Sa.aJ)(hv:Sa.valid h=true)(d:Int)(B:Nat)(w:nJ)[hB:Le B w](hH:bW B w r h):Calls nH 91 #[fu r h,.int .i64 d] w fun e w'=>e=.returned (.tuple #[.int .i64 (jS h d).1,.int .i64 (jS h d).2])/\∃δ,w'=ah w δ:=by
 have HH:=qh hH;have HV:=qh hv;have hpl:=vC h hv;obtain⟨kA,kc,pA,pc,bA,bc⟩:=r;clear hH hv;by_cases hp:fH 0 20 d=false\/Sa.bM h=[]
 ·obtain⟨q,hq⟩:∃q,fH 0 20 d=q:=⟨_,rfl⟩;obtain⟨x,hx,hx0⟩:∃x,I9 h q=x/\x≠0:=by
   refine⟨_,rfl,?_⟩;unfold I9;rw[hq] at hp;rcases hp with hp|hp
   ·rw[if_pos hp];decide
   ·split
    ·decide
    ·decide
  have HE:=qh hx;have HX0:=qh hx0;have HQ:=qh hq;have HR:Hid (jS h d=(0,x)):=by
   unfold Hid jS;rw[<-hx];unfold I9;rw[hq];rw[hq] at hp;rcases hp with hp|hp
   ·rw[if_pos hp,if_pos hp]
   ·split
    ·rfl
    ·rfl
  have hxn:(x != 0)=true:=by simpa using hx0
  clear hx hq hp hx0;go_enter Tryz.func91,Tryz.ntmps91;go_wp2_with fail;go_region_held3 (fun w'=>w'.cell? ⟨w.heap.size,0,none⟩=some (.slice kA h.kinds.length kc)/\w'.cell? ⟨w.heap.size,1,none⟩=some (.int .i64 h.floor)/\w'.cell? ⟨w.heap.size,2,none⟩=some (.slice pA h.parts.length pc)/\w'.cell? ⟨w.heap.size,3,none⟩=some (.slice bA h.bars.length bc)) (refine⟨?_,?_,?_,?_⟩<;>go_simp) (first|(go_at_call 155;refine(Gn d _).mono ?_;rw[HQ.out];rintro e w1 ⟨rfl,rfl⟩)|(go_at_call 154;refine(pI ⟨kA,kc,pA,pc,bA,bc⟩ h HV.out q B _ (jy.2 HH.out.up)).mono ?_;rintro e w1 ⟨A1,n1,c1,δ1,rfl,rfl,hs⟩;clear hs;rw[HE.out]));all_goals go_wp2
  all_goals go_ret2
  all_goals exact⟨by rw[HR.out];rfl,ag⟩
 ·obtain⟨hq,hp⟩:=not_or.1 hp;rw[Bool.not_eq_false] at hq;have HE:Hid (I9 h true=0):=by unfold Hid I9;rw[if_neg nV,if_neg hp]
  have HR:Hid (jS h d=(pM h d (Sa.bM h),0)):=by unfold Hid jS;rw[if_neg (by rw[hq];simp),if_neg hp,OE HV.out d hp]
  have HQ:=qh hq;have HBD:=qh (RF HV.out d);obtain⟨L,hL⟩:∃L,Sa.bM h=L:=⟨_,rfl⟩;have Xh:=qh hL;have HM:Hid (∀l∈L,l.length=h.parts.length/\∀x∈l,x<(h.bars.length:Int)):=qh fun l hl=>vD (by rw[hL];exact hl);rw[hL] at hpl HR HBD;clear hp hL hq;go_enter Tryz.func91,Tryz.ntmps91;go_wp2_with fail;go_region_held3 (fun w'=>w'.cell? ⟨w.heap.size,0,none⟩=some (.slice kA h.kinds.length kc)/\w'.cell? ⟨w.heap.size,1,none⟩=some (.int .i64 h.floor)/\w'.cell? ⟨w.heap.size,2,none⟩=some (.slice pA h.parts.length pc)/\w'.cell? ⟨w.heap.size,3,none⟩=some (.slice bA h.bars.length bc)) (refine⟨?_,?_,?_,?_⟩<;>go_simp) (first|(go_at_call 155;refine(Gn d _).mono ?_;rw[HQ.out];rintro e w1 ⟨rfl,rfl⟩)|(go_at_call 154;refine(pI ⟨kA,kc,pA,pc,bA,bc⟩ h HV.out true B _ (jy.2 HH.out.up)).mono ?_;rintro e w1 ⟨A1,n1,c1,δ1,rfl,rfl,hs⟩;rw[HE.out];obtain⟨h1,h2⟩:=hs HE.out;rw[Xh.out] at h1 h2;subst h1;clear hs;have HS:=qh h2;clear h2));all_goals go_wp2_with fail
  refine QAE ?_;intro W1 aH cJ dF cW di dz uu nt lC mQ;refine QCD ?_;intro qo;have oa:Hid (wP 3 aI W1 A1 c1 L):=by rw[aH.out];exact HS
  have Ia:B<=W1.heap.size:=(inferInstance:Le B W1).out;clear aH HS;go_loopg [8,9] L.length (fun gg n i wr=>∃(k:Nat) (δ:nJ),k<=L.length/\gg=L.length-k/\n=.int .i64 (pM h d (L.take k))/\i=.int .i64 k/\wr=ah W1 δ)
  case atStart=>exact⟨0,W1,nE _,rfl,rfl,rfl,(bw W1).symm⟩
  case round=>
   obtain⟨k,δ,hk,rfl,rfl,rfl,rfl⟩:=hrel;by_cases hlt:k<L.length
   ·have hki:(k:Int)<(L.length:Int):=nQ;have hk0:¬(k:Int)<0:=nQ;obtain⟨b3,o3,A3,c3,rfl,SA,d3,s3⟩:=oa.out.nth hlt (HM.out _ (aR _ hlt)).1;have ib3:Lt b3 W1:=⟨SA⟩;have ux:Hid (Sl aI W1.heap.size W1 A3 c3 (nth L k)):=qh s3.plain;have uX:Hid (pM h d (L.take (k+1))=max (pM h d (L.take k)) (Sa.ju h d (nth L k))):=by unfold Hid;rw[bz L hlt,KB]
    have Wv:=qh (HM.out _ (aR _ hlt));obtain⟨y,hy⟩:∃y,nth L k=y:=⟨_,rfl⟩;rw[hy] at ux uX Wv;obtain⟨u,hu⟩:∃u,Sa.ju h d y=u:=⟨_,rfl⟩;obtain⟨n,hn⟩:∃n,pM h d (L.take k)=n:=⟨_,rfl⟩;rw[hu,hn] at uX;rw[hn];have HU:=qh hu;obtain⟨m,hm⟩:∃m,max n u=m:=⟨_,rfl⟩;rw[hm] at uX;have m1:(if n<u then u else n)=m:=by rw[<-hm,Int.max_def];split<;>split<;>omega
    have Xg:=qh hm;clear hu hn hy s3 SA hm;go_wp2_with fail;refine wpRl ?_;repeat (go_big_quiet_step ((first|(go_at_call 156;exact Calls.bV (J9 ⟨kA,kc,pA,pc,bA,bc⟩ h HV.out y Wv.out.1 Wv.out.2 d u HU.out A3 _ c3 rfl W1.heap.size _ (qo.out.more Ia).up ux.out.up)))))
    refine QBU ?_;rintro _ ⟨δq,rfl⟩;go_wp2_with fail;go_roundg (L.length-(k+1))
    case measure=>omega
    case rel=>exact⟨k+1,_,nQ,rfl,by rw[uX.out],by go_num,ai⟩
   ·obtain rfl:k=L.length:=by omega
    go_wp2_with fail;go_ret2;exact⟨by rw[HR.out,List.take_length];rfl,ag⟩
end Go.Proofs.YtpnnapeoanafdaaGreatDoor
