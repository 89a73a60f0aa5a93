/- A part of the proof that the statement HeadmanRunCardSaid holds, cut small by a program (names and blanks): Sr1, Sr2, Sr3, Sr4, Sr7, Sr5, Sr6, Sr8, Sr10, Sr11, Sr12. -/
import Derived.Test.YtcjjlikhlmfedaaGreatDoorZ9
import Derived.Test.YtcjjlikhlmfedaaGreatDoorZ16
set_option maxRecDepth 100000
set_option maxHeartbeats 40000000
set_option linter.unusedVariables false
set_option linter.unusedSimpArgs false
namespace Go.Proofs.YtcjjlikhlmfedaaGreatDoor
open Go.RowKit
open Nat renaming le_trans → nT, lt_of_lt_of_le → nL, le_refl → nR, zero_le → nE, le_of_lt → nS, lt_succ_self → nA
open Go.Proofs.Tryz renaming prog → nH
open Go renaming World → nJ, Value → nK
def Bz(l:List Int)(b:Int):List Int:=(Sa.lY l b).map fun i:Nat=>(i:Int)
theorem NA{l:List Int}{k:Nat}(hk:k<l.length)(b:Int):Bz (l.take (k+1)) b=Bz (l.take k) b++if nth l k=b then[(k:Int)] else[]:=by unfold Bz;rw[bu l hk,Sa.DN,List.map_append,List.length_take,Nat.min_eq_left (nS hk)];split<;>rfl
theorem QL{l:List Int}(b:Int):(Bz l b).length<=l.length:=by unfold Bz;rw[List.length_map];exact Sa.By l b
theorem IN(l:List Int)(h6:l.length<=6)(A:Option Addr)(c:Nat)(b:Int)(B:Nat)(w:nJ)(hS:Sl aH B w A c l)[hB:Le B w]:Calls nH 237 #[.slice A l.length c,.int .i64 b] w fun e w'=>∃A' c',e=.returned (.slice A' (Bz l b).length c')/\Sl aH w'.heap.size w' A' c' (Bz l b)/\∃δ,w'=af w δ:=by
 have HS:=qh hS;have hlen:=hS.len;clear hS;go_enter Tryz.func237,Tryz.ntmps237;go_wp2_with fail;go_loopg [5,6] l.length (fun gg o i wr=>∃(k:Nat) (A1:Option Addr) (c1:Nat) (δ:nJ),k<=l.length/\gg=l.length-k/\i=.int .i64 k/\o=.slice A1 (Bz (l.take k) b).length c1/\wr=af w δ/\Hid (wr.ownsRow w.heap.size 3 1 (.slice A1 (Bz (l.take k) b).length c1) (Bz (l.take k) b).length ((Bz (l.take k) b).flatMap aH)))
 case atStart=>exact⟨0,none,0,w,nE _,rfl,rfl,by simp[Bz,Sa.lY],(aY w).symm,qh (by simpa [Bz,Sa.lY] using World.ownsRow_nil _ _ _ _)⟩
 case round=>
  obtain⟨k,A1,c1,δ,hk,rfl,rfl,rfl,rfl,HO⟩:=hrel;by_cases hlt:k<l.length
  ·have hki:(k:Int)<(l.length:Int):=nQ;have HN:=qh (NA hlt b);have gG:(Bz (l.take k) b).length<=6:=by have:=QL (l:=l.take k) b;rw[List.length_take] at this;omega
   obtain⟨x,o,rfl,hb,d0⟩:∃x o,A=some ⟨x,o,none⟩/\x<B/\w.cell? ⟨x,o+k,none⟩=some (.int .i64 (nth l k)):=by obtain⟨x,o,h1,h2,h3⟩:=HS.out.at_ (size:=1) (fun _=>rfl) hlt nQ;exact⟨x,o,h1,h2,by rw[bV _ hlt];simpa using h3 0 _ rfl⟩
   have ib:Lt x w:=⟨nL hb hB.out⟩;obtain⟨f,hf⟩:∃f,Bz (l.take k) b=f:=⟨_,rfl⟩;rw[hf] at HN HO gG ⊢;clear hf hb;by_cases he:nth l k=b
   ·have Ci:Hid (Bz (l.take (k+1)) b=f++[(k:Int)]):=by have:=HN.out;rwa [if_pos he] at this
    go_wp2_with (at_builtin;(refine dA w uC (.tmp 19) (.tmp 21) rfl rfl HO.out rfl rfl nW rfl (by simp[Value.oneCell']) nQ nQ ?_);intro A' c' δ' hown');go_roundg (l.length-(k+1))
    case measure=>omega
    case rel=>refine⟨k+1,A',c',_,hlt,rfl,by go_num,by rw[Ci.out,List.length_append];rfl,aq,?_⟩;rw[Ci.out];refine qh ?_;rw[List.length_append,List.flatMap_append];exact hown'
   ·have Ci:Hid (Bz (l.take (k+1)) b=f):=by have:=HN.out;rwa [if_neg he,List.append_nil] at this
    go_wp2;go_roundg (l.length-(k+1))
    case measure=>omega
    case rel=>exact⟨k+1,A1,c1,δ,hlt,rfl,by go_num,by rw[Ci.out],rfl,by rw[Ci.out];exact HO⟩
  ·obtain rfl:k=l.length:=by omega
   go_wp2;go_ret;have HO:=HO.out;rw[List.take_length] at HO ⊢;exact⟨A1,c1,rfl,Sl.bW HO,δ,rfl⟩
def vU(is:List Nat):List Int:=is.map fun i:Nat=>(i:Int)
theorem xD{is:List Nat}{k:Nat}(hk:k<is.length):nth (vU is) k=((nth is k:Nat):Int):=by unfold vU;rw[iq _ _ hk]
theorem uM(r:eE)(h:Sa.aL)(hv:Sa.valid h=true)(is:List Nat)(hi:∀i∈is,i<h.parts.length)(h6:is.length<=6)(A:Option Addr)(c:Nat)(B:Nat)(w:nJ)(hH:bS B w r h)(hS:Sl aH B w A c (vU is))[hB:Le B w]:Calls nH 240 #[eW r h,.slice A is.length c] w fun e w'=>e=.returned (.int .i64 (Sa.eX h is).bg)/\∃δ,w'=af w δ:=by
 have HI:=qh hi;have HV:=qh hv;have lp:=hH.2.1.len;have HH:=qh hH;have HS:=qh hS;obtain⟨kA,kc,pA,pc,bA,bc⟩:=r;clear hH hS hv hi;go_enter Tryz.func240,Tryz.ntmps240;go_wp2_with fail;refine QAD ?_;intro W1 aE cz de cN cY dc rX lH jU kM;refine QCD ?_;intro oM;refine QEI ?_;intro me DZ;clear aE;go_loopg [5,6] is.length (fun gg n i wr=>∃(k:Nat) (δ:nJ),k<=is.length/\gg=is.length-k/\n=.int .i64 (Sa.eX h (is.take k)).bg/\i=.int .i64 k/\wr=af W1 δ)
 case atStart=>exact⟨0,W1,nE _,rfl,rfl,rfl,(aY W1).symm⟩
 case round=>
  obtain⟨k,δ,hk,rfl,rfl,rfl,rfl⟩:=hrel;by_cases hlt:k<is.length
  ·have hki:(k:Int)<(is.length:Int):=nQ;refine QCT ?_;intro hj HN;have hfr:=(Sa.pq HV.out (is.take k) fun i hi=>HI.out i (List.mem_of_mem_take hi)).2.1;have hp:=((Sa.az.1 HV.out).2.2.1 _ (aS h.parts hj)).2;rw[List.length_take] at hfr;obtain⟨f,hf⟩:∃f,Sa.eX h (is.take k)=f:=⟨_,rfl⟩;rw[hf] at HN hfr ⊢;obtain⟨x,o,rfl,hb,d0⟩:∃x o,A=some ⟨x,o,none⟩/\x<B/\W1.cell? ⟨x,o+k,none⟩=some (.int .i64 ((nth is k:Nat):Int)):=by obtain⟨x,o,h1,h2,h3⟩:=me.out.at_ (size:=1) (fun _=>rfl) (k:=k) (by simpa [vU] using hlt) nQ;exact⟨x,o,h1,h2,by rw[<-xD hlt,bV _ (by simpa [vU] using hlt)];simpa using h3 0 _ rfl⟩
   obtain⟨j,Pw⟩:∃j,nth is k=j:=⟨_,rfl⟩;rw[Pw] at HN hj hp d0;obtain⟨y,q,rfl,hy,p0,p1⟩:=oM.out.2.1.part hj;refine QEQ ?_;intro ib iy hji hj0;obtain⟨v,pH⟩:∃v,(nth h.parts j).bg=v:=⟨_,rfl⟩;have Ci:Hid ((Sa.eX h (is.take (k+1))).bg=f.bg+v):=by unfold Hid;rw[HN.out,<-pH];rfl
   rw[pH] at p1 hp;have hwr:IntKind.i64.wrap (f.bg+v)=f.bg+v:=by rw[IntWalk.i64_in];omega
   clear hf Pw pH hb hy;go_wp2;go_region;go_wp2;go_roundg (is.length-(k+1))
   case measure=>omega
   case rel=>exact⟨k+1,_,hlt,rfl,by rw[Ci.out],by go_num,aq⟩
  ·obtain rfl:k=is.length:=by omega
   go_wp2;go_ret;rw[List.take_length];exact⟨rfl,ag⟩
theorem IP(r:eE)(h:Sa.aL)(hv:Sa.valid h=true)(is:List Nat)(hi:∀i∈is,i<h.parts.length)(h6:is.length<=6)(A:Option Addr)(c:Nat)(B:Nat)(w:nJ)(hH:bS B w r h)(hS:Sl aH B w A c (vU is))[hB:Le B w]:Calls nH 239 #[eW r h,.slice A is.length c] w fun e w'=>e=.returned (.int .i64 (Sa.eX h is).days)/\∃δ,w'=af w δ:=by
 have HI:=qh hi;have HV:=qh hv;have lp:=hH.2.1.len;have HH:=qh hH;have HS:=qh hS;obtain⟨kA,kc,pA,pc,bA,bc⟩:=r;clear hH hS hv hi;go_enter Tryz.func239,Tryz.ntmps239;go_wp2_with fail;refine QAD ?_;intro W1 aE cz de cN cY dc rX lH jU kM;refine QCD ?_;intro oM;refine QEI ?_;intro me DZ;clear aE;go_loopg [5,6] is.length (fun gg n i wr=>∃(k:Nat) (δ:nJ),k<=is.length/\gg=is.length-k/\n=.int .i64 (Sa.eX h (is.take k)).days/\i=.int .i64 k/\wr=af W1 δ)
 case atStart=>exact⟨0,W1,nE _,rfl,rfl,rfl,(aY W1).symm⟩
 case round=>
  obtain⟨k,δ,hk,rfl,rfl,rfl,rfl⟩:=hrel;by_cases hlt:k<is.length
  ·have hki:(k:Int)<(is.length:Int):=nQ;refine QCT ?_;intro hj HN;have hfr:=(Sa.pq HV.out (is.take k) fun i hi=>HI.out i (List.mem_of_mem_take hi)).2.2.2;have hp:=Sa.o8 HV.out (aS h.parts hj);have hq:=((Sa.az.1 HV.out).2.2.1 _ (aS h.parts hj)).1;obtain⟨f,hf⟩:∃f,Sa.eX h (is.take k)=f:=⟨_,rfl⟩;rw[hf] at HN hfr ⊢;obtain⟨x,o,rfl,hb,d0⟩:∃x o,A=some ⟨x,o,none⟩/\x<B/\W1.cell? ⟨x,o+k,none⟩=some (.int .i64 ((nth is k:Nat):Int)):=by obtain⟨x,o,h1,h2,h3⟩:=me.out.at_ (size:=1) (fun _=>rfl) (k:=k) (by simpa [vU] using hlt) nQ;exact⟨x,o,h1,h2,by rw[<-xD hlt,bV _ (by simpa [vU] using hlt)];simpa using h3 0 _ rfl⟩
   obtain⟨j,Pw⟩:∃j,nth is k=j:=⟨_,rfl⟩;rw[Pw] at HN hj hp hq d0;obtain⟨y,q,rfl,hy,p0,p1⟩:=oM.out.2.1.part hj;refine QEQ ?_;intro ib iy hji hj0;obtain⟨t,ht⟩:∃t,(nth h.parts j).kind.toNat=t:=⟨_,rfl⟩;have GO:(nth h.parts j).kind=(t:Int):=nQ;rw[GO] at p0;have EP:t<h.kinds.length:=by rw[<-ht];exact hp.1
   obtain⟨z,u,rfl,hz,z0,z1⟩:=oM.out.1.kind EP;have iz:Lt z W1:=⟨nL hz DZ⟩;have hti:(t:Int)<(h.kinds.length:Int):=nQ;have ht0:¬(t:Int)<0:=nQ;obtain⟨v,pH⟩:∃v,(nth h.kinds t).days=v:=⟨_,rfl⟩;have Ci:Hid ((Sa.eX h (is.take (k+1))).days=max f.days v):=by unfold Hid;rw[HN.out,<-pH];show max _ (nth h.kinds _).days=_;rw[ht]
   rw[pH] at z1;have lk:=oM.out.1.len;clear hf Pw pH hb hy hz ht GO hp hq hfr;go_wp2;go_region;all_goals go_wp2
   all_goals
    go_roundg (is.length-(k+1))
    case measure=>omega
    case rel=>exact⟨k+1,_,hlt,rfl,by rw[Ci.out];first|rw[show max f.days v=v by omega]|rw[show max f.days v=f.days by omega],by go_num,aq⟩
  ·obtain rfl:k=is.length:=by omega
   go_wp2;go_ret;rw[List.take_length];exact⟨rfl,ag⟩
theorem G5(h:Sa.aL)(is:List Nat):(Sa.eX h is).parts=(is.length:Int):=by
 obtain⟨r,rfl⟩:∃r:List Nat,is=r.reverse:=⟨is.reverse,nV⟩;induction r with
 |nil=>rfl
 |cons i r ih=>
  rw[List.reverse_cons,Sa.p5,List.length_append]
  show(Sa.eX h r.reverse).parts+1=_
  rw[ih];simp
theorem zT(r:eE)(h:Sa.aL)(hv:Sa.valid h=true)(is:List Nat)(hi:∀i∈is,i<h.parts.length)(h6:is.length<=6)(A:Option Addr)(c:Nat)(B:Nat)(w:nJ)(hH:bS B w r h)(hS:Sl aH B w A c (vU is))[hB:Le B w]:Calls nH 236 #[eW r h,.slice A is.length c] w fun e w'=>e=.returned (.int .i64 (Sa.gm h.floor (Sa.eX h is)))/\∃δ,w'=af w δ:=by
 have HI:=qh hi;have HV:=qh hv;have lp:=hH.2.1.len;have HH:=qh hH;have HS:=qh hS;obtain⟨kA,kc,pA,pc,bA,bc⟩:=r;clear hH hS hv hi;by_cases h0:is=[]
 ·subst h0;go_enter Tryz.func236,Tryz.ntmps236;go_wp2;go_ret;exact⟨rfl,ag⟩
 have hne:¬is.length=0:=fun e=>h0 (List.length_eq_zero_iff.1 e);have Yv:((is.length:Int)==0)=false:=by simp;omega
 have Ch:=qh hne;clear h0 hne;go_enter Tryz.func236,Tryz.ntmps236;go_wp2_with fail;refine QAD ?_;intro W1 aE cz de cN cY dc rX lH jU kM;refine QCD ?_;intro oM;refine QEI ?_;intro me DZ;clear aE;go_loopg [5,6] is.length (fun gg n i wr=>∃(k:Nat) (δ:nJ),k<=is.length/\gg=is.length-k/\n=.int .i64 (Sa.eX h (is.take k)).dD/\i=.int .i64 k/\wr=af W1 δ)
 case atStart=>exact⟨0,W1,nE _,rfl,rfl,rfl,(aY W1).symm⟩
 case round=>
  obtain⟨k,δ,hk,rfl,rfl,rfl,rfl⟩:=hrel;by_cases hlt:k<is.length
  ·have hki:(k:Int)<(is.length:Int):=nQ;refine QCT ?_;intro hj HN;have hfr:=(Sa.pq HV.out (is.take k) fun i hi=>HI.out i (List.mem_of_mem_take hi)).2.2.1;have hp:=Sa.o8 HV.out (aS h.parts hj);have hq:=((Sa.az.1 HV.out).2.2.1 _ (aS h.parts hj)).1;obtain⟨f,hf⟩:∃f,Sa.eX h (is.take k)=f:=⟨_,rfl⟩;rw[hf] at HN hfr ⊢;obtain⟨x,o,rfl,hb,d0⟩:∃x o,A=some ⟨x,o,none⟩/\x<B/\W1.cell? ⟨x,o+k,none⟩=some (.int .i64 ((nth is k:Nat):Int)):=by obtain⟨x,o,h1,h2,h3⟩:=me.out.at_ (size:=1) (fun _=>rfl) (k:=k) (by simpa [vU] using hlt) nQ;exact⟨x,o,h1,h2,by rw[<-xD hlt,bV _ (by simpa [vU] using hlt)];simpa using h3 0 _ rfl⟩
   obtain⟨j,Pw⟩:∃j,nth is k=j:=⟨_,rfl⟩;rw[Pw] at HN hj hp hq d0;obtain⟨y,q,rfl,hy,p0,p1⟩:=oM.out.2.1.part hj;refine QEQ ?_;intro ib iy hji hj0;obtain⟨t,ht⟩:∃t,(nth h.parts j).kind.toNat=t:=⟨_,rfl⟩;have GO:(nth h.parts j).kind=(t:Int):=nQ;rw[GO] at p0;have EP:t<h.kinds.length:=by rw[<-ht];exact hp.1
   obtain⟨z,u,rfl,hz,z0,z1⟩:=oM.out.1.kind EP;have iz:Lt z W1:=⟨nL hz DZ⟩;have hti:(t:Int)<(h.kinds.length:Int):=nQ;have ht0:¬(t:Int)<0:=nQ;obtain⟨v,pH⟩:∃v,(nth h.kinds t).fD=v:=⟨_,rfl⟩;have Ci:Hid ((Sa.eX h (is.take (k+1))).dD=max f.dD v):=by unfold Hid;rw[HN.out,<-pH];show max _ (nth h.kinds _).fD=_;rw[ht]
   rw[pH] at z0;have lk:=oM.out.1.len;clear hf Pw pH hb hy hz ht GO hp hq hfr;go_wp2;go_region;all_goals go_wp2
   all_goals
    go_roundg (is.length-(k+1))
    case measure=>omega
    case rel=>exact⟨k+1,_,hlt,rfl,by rw[Ci.out];first|rw[show max f.dD v=v by omega]|rw[show max f.dD v=f.dD by omega],by go_num,aq⟩
  ·obtain rfl:k=is.length:=by omega
   rw[List.take_length];have EK:=qh (Sa.pq HV.out is HI.out);have UQ:=EK.out;have hfl:=(Sa.az.1 HV.out).1.2.1;have WN:Hid ((Sa.eX h is).parts=(is.length:Int)):=qh (G5 h is);have HSC:Hid (Sa.gm h.floor (Sa.eX h is)=h.floor+((Sa.eX h is).bg*(Sa.eX h is).dD+9) / 10):=by unfold Hid Sa.gm;rw[if_neg (by rw[WN.out];have:=Ch.out;omega)]
   obtain⟨f,hf⟩:∃f,Sa.eX h is=f:=⟨_,rfl⟩;have HF:=qh hf;rw[hf] at UQ ⊢;have hm:=Sa.xE (a:=f.bg) (b:=f.dD) (A:=240) (B:=9) ⟨UQ.2.1.1,by have:=UQ.2.1.2;omega⟩ UQ.2.2.1;have hst:=UQ.2.2.1;obtain⟨p,hp⟩:∃p,f.bg*f.dD=p:=⟨_,rfl⟩;rw[hp] at hm;have HPP:=qh hp;have hw1:IntKind.i64.wrap (f.bg*f.dD)=p:=by rw[hp,IntWalk.i64_in];omega
   have Z9:IntKind.i64.wrap (p+9)=p+9:=by rw[IntWalk.i64_in];omega
   have hd:(p+9).tdiv 10=(p+9) / 10:=Int.tdiv_eq_ediv_of_nonneg nQ;have Z8:IntKind.i64.wrap ((p+9) / 10)=(p+9) / 10:=by rw[IntWalk.i64_in];omega
   have hw4:IntKind.i64.wrap (h.floor+(p+9) / 10)=h.floor+(p+9) / 10:=by rw[IntWalk.i64_in];omega
   clear hf hp UQ;go_wp2;go_region_held3 (fun w'=>w'.cell? ⟨w.heap.size,0,none⟩=some (.slice kA h.kinds.length kc)/\w'.cell? ⟨w.heap.size,1,none⟩=some (.int .i64 h.floor)/\w'.cell? ⟨w.heap.size,2,none⟩=some (.slice pA h.parts.length pc)/\w'.cell? ⟨w.heap.size,3,none⟩=some (.slice bA h.bars.length bc)) (refine⟨?_,?_,?_,?_⟩<;>go_simp)
    (first|(go_at_call 240;refine(uM ⟨kA,kc,pA,pc,bA,bc⟩ h HV.out is HI.out h6 A c B _ (iP.2 ((pG δ).2 oM.out)) (Jq.2 ((yO δ).2 me.out))).mono ?_;rw[HF.out];rintro e w1 ⟨rfl,δ2,rfl⟩))
   all_goals go_wp2
   all_goals go_ret
   all_goals exact⟨by rw[HSC.out,HF.out,HPP.out];rfl,ag⟩
theorem zA(n low high:Int)(w:nJ):Calls nH 62 #[.int .i64 n,.int .i64 low,.int .i64 high] w fun e w'=>e=.returned (.bool (fj low high n))/\w=w':=by go_enter Tryz.func62,Tryz.ntmps62;go_wp2_with (go_at_call 104;refine(wO _ _ _ _).mono ?_;rintro e w1 ⟨rfl,rfl⟩);go_ret;exact⟨rfl,rfl⟩
theorem dJ{n low high:Int}{b:Bool}(h:fj low high n=b)(w:nJ):Calls nH 62 #[.int .i64 n,.int .i64 low,.int .i64 high] w fun e w'=>e=.returned (.bool b)/\w=w':=by subst h;exact zA n low high w
theorem CZ(n:Int)(w:nJ):Calls nH 201 #[.int .i64 n] w fun e w'=>e=.returned (.bool (fj 0 20 n))/\w=w':=by go_enter Tryz.func201,Tryz.ntmps201;go_wp2_with (go_at_call 62;refine(zA _ _ _ _).mono ?_;rintro e w1 ⟨rfl,rfl⟩);go_ret;exact⟨rfl,rfl⟩
theorem FU(r:eE)(h:Sa.aL)(hv:Sa.valid h=true)(l:List Int)(hl:l.length=h.parts.length)(hx:∀x∈l,x<(h.bars.length:Int))(d:Int)(A:Option Addr)(c:Nat)(B:Nat)(w:nJ)(hH:bS B w r h)(hS:Sl aH B w A c l)[hB:Le B w]:Calls nH 202 #[eW r h,.slice A l.length c,.int .i64 d] w fun e w'=>e=.returned (.int .i64 (Sa.iJ h d l))/\∃δ,w'=af w δ:=by
 have HV:=qh hv;have lb:=hH.2.2.len;refine QDV ?_;intro h6 h4;have Xh:=qh (Sa.Ee h4 d hx);have LU:l.length<=6:=nQ;have HH:=qh hH;have HS:=qh hS;have HL:=qh hl;obtain⟨kA,kc,pA,pc,bA,bc⟩:=r;clear hH hS hv hx hl;go_enter Tryz.func202,Tryz.ntmps202;go_wp2_with fail;refine QAD ?_;intro W1 aE cz de cN cY dc rX lH jU kM;refine QCD ?_;intro oM;have me:Hid (Sl aH B W1 A c l):=qh HS.out.up;clear aE;go_loopg [7,8,9] h.bars.length (fun gg n i z wr=>∃(k:Nat) (δ:nJ),k<=h.bars.length/\gg=h.bars.length-k/\n=.int .i64 (Sa.gk (Sa.kL h d l) k)/\i=.int .i64 k/\wr=af W1 δ)
 case atStart=>exact⟨0,W1,nE _,rfl,rfl,rfl,(aY W1).symm⟩
 case round=>
  obtain⟨k,δ,hk,rfl,rfl,rfl,rfl⟩:=hrel;by_cases hlt:k<h.bars.length
  ·have hki:(k:Int)<(h.bars.length:Int):=nQ;refine QBW ?_;intro PG PI mG;have NV:=Sa.iE (A:=300) (f:=Sa.kL h d l) (fun b=>by have:=(Sa.fe HV.out (l:=l) (by have:=HL.out;omega) (b:Int)).2.1;unfold Sa.kL;split<;>omega) k;have hfr:=(Sa.fe HV.out (l:=l) (by have:=HL.out;omega) (k:Int)).2.1;have HN:Hid (Sa.gk (Sa.kL h d l) (k+1)=Sa.gk (Sa.kL h d l) k+(if (Sa.eX h (Sa.lY l (k:Int))).days<=d then (Sa.eX h (Sa.lY l (k:Int))).bg else 0)):=rfl;obtain⟨s,hs⟩:∃s,Sa.gk (Sa.kL h d l) k=s:=⟨_,rfl⟩;have Ar:0<=s/\s<=300*k:=by rw[<-hs];exact NV
   obtain⟨f,hf⟩:∃f,Sa.eX h (Sa.lY l (k:Int))=f:=⟨_,rfl⟩;have YF:0<=f.bg/\f.bg<=240:=by rw[<-hf];have:=hfr;unfold Sa.ia at this;omega
   rw[hs,hf] at HN;rw[hs];have HF:=qh hf;clear hs NV hfr hf;have hwr:IntKind.i64.wrap (s+f.bg)=s+f.bg:=by rw[IntWalk.i64_in];omega
   by_cases hd:f.days<=d
   ·rw[if_pos hd] at HN;go_wp2_with (first|(go_at_call 237;refine(IN l LU A c k B _ me.out.up).mono ?_;rintro e w1 ⟨A1,c1,rfl,hs1,δ1,rfl⟩;rw[mG.out];have HT:=qh hs1;clear hs1)|(go_at_call 239;refine(IP ⟨kA,kc,pA,pc,bA,bc⟩ h HV.out (Sa.lY l (k:Int)) PG.out PI.out A1 c1 _ _ oM.out.wide HT.out).mono ?_;rw[HF.out];rintro e w1 ⟨rfl,δ2,rfl⟩)|(go_at_call 240;refine(uM ⟨kA,kc,pA,pc,bA,bc⟩ h HV.out (Sa.lY l (k:Int)) PG.out PI.out A1 c1 _ _ oM.out.wide HT.out.wide).mono ?_;rw[HF.out];rintro e w1 ⟨rfl,δ3,rfl⟩));go_roundg (h.bars.length-(k+1))
    case measure=>omega
    case rel=>exact⟨k+1,_,hlt,rfl,by rw[HN.out],by go_num,aq⟩
   ·rw[if_neg hd] at HN;go_wp2_with (first|(go_at_call 237;refine(IN l LU A c k B _ me.out.up).mono ?_;rintro e w1 ⟨A1,c1,rfl,hs1,δ1,rfl⟩;rw[mG.out];have HT:=qh hs1;clear hs1)|(go_at_call 239;refine(IP ⟨kA,kc,pA,pc,bA,bc⟩ h HV.out (Sa.lY l (k:Int)) PG.out PI.out A1 c1 _ _ oM.out.wide HT.out).mono ?_;rw[HF.out];rintro e w1 ⟨rfl,δ2,rfl⟩));go_roundg (h.bars.length-(k+1))
    case measure=>omega
    case rel=>exact⟨k+1,_,hlt,rfl,by rw[HN.out,Int.add_zero],by go_num,aq⟩
  ·obtain rfl:k=h.bars.length:=by omega
   go_wp2;go_ret;exact⟨by rw[Xh.out];rfl,ag⟩
theorem uP(r:eE)(h:Sa.aL)(B:Nat)(w:nJ)(hH:bS B w r h)[hB:Le B w]:Calls nH 24 #[eW r h] w fun e w'=>e=.returned (.int .i64 (cE (Sa.valid h) 80))/\∃δ,w'=af w δ:=by
 have HH:=qh hH;have l1:=hH.1.len;have l2:=hH.2.1.len;have l3:=hH.2.2.len;obtain⟨kA,kc,pA,pc,bA,bc⟩:=r;clear hH;by_cases t1:(3:Int)<(h.kinds.length:Int)
 ·have HB:=qh (qq (dN (h:=h) (.inl (by unfold Sa.mL;rw[decide_eq_false nQ];simp))));go_enter Tryz.func24,Tryz.ntmps24;go_wp2;go_ret;exact⟨HB.out,ag⟩
 rcases t2:fj 0 9 h.floor with _|_
 ·have HB:=qh (qq (dN (h:=h) (.inl (by unfold Sa.mL;rw[t2];simp))));have T2:=qh t2;clear t2;go_enter Tryz.func24,Tryz.ntmps24;go_wp2_with (go_at_call 62;refine(dJ T2.out _).mono ?_;rintro e w1 ⟨rfl,rfl⟩);go_ret;exact⟨HB.out,ag⟩
 have T2:=qh t2;by_cases t3:(6:Int)<(h.parts.length:Int)
 ·have HB:=qh (qq (dN (h:=h) (.inl (by unfold Sa.mL;rw[decide_eq_false (p:=h.parts.length<=6) nQ];simp))));clear t2;go_enter Tryz.func24,Tryz.ntmps24;go_wp2_with (go_at_call 62;refine(dJ T2.out _).mono ?_;rintro e w1 ⟨rfl,rfl⟩);go_ret;exact⟨HB.out,ag⟩
 by_cases t4:(4:Int)<(h.bars.length:Int)
 ·have HB:=qh (qq (dN (h:=h) (.inl (by unfold Sa.mL;rw[decide_eq_false (p:=h.bars.length<=4) nQ];simp))));clear t2;go_enter Tryz.func24,Tryz.ntmps24;go_wp2_with (go_at_call 62;refine(dJ T2.out _).mono ?_;rintro e w1 ⟨rfl,rfl⟩);go_ret;exact⟨HB.out,ag⟩
 have HT:Hid (Sa.mL h=true):=by unfold Hid Sa.mL;rw[t2];simp;omega
 clear t2;go_enter Tryz.func24,Tryz.ntmps24;go_wp2_with (go_at_call 62;refine(dJ T2.out _).mono ?_;rintro e w1 ⟨rfl,rfl⟩);refine QAD ?_;intro W1 aE cz de cN cY dc rX lH jU kM;refine QCD ?_;intro oM;clear aE;go_loopg [3] h.kinds.length (fun g i wr=>∃(k:Nat) (δ:nJ),k<=h.kinds.length/\g=h.kinds.length-k/\i=.int .i64 k/\Hid ((h.kinds.take k).all Sa.mO=true)/\wr=af W1 δ)
 case atStart=>exact⟨0,W1,nE _,rfl,rfl,rfl,(aY _).symm⟩
 case round=>
  obtain⟨k,δ,hk,rfl,rfl,HK,rfl⟩:=hrel;by_cases hlt:k<h.kinds.length
  ·obtain⟨b,o,rfl,hb,d0,d1⟩:=oM.out.1.kind hlt;have ib:Lt b W1:=⟨nL hb cz.out⟩;have hki:(k:Int)<(h.kinds.length:Int):=nQ;have hk0:¬(k:Int)<0:=nQ;rcases tO (nth h.kinds k) with⟨c0,c1,c2⟩|⟨c0,c1⟩|⟨c0,c1,c2⟩
   ·have sj:=qh (pE hlt HK.out c0);have C1:=qh c1;have C2:=qh c2;clear c0 c1 c2;go_wp2_with (go_at_call 62;first|(with_reducible refine(dJ C1.out _).mono ?_;rintro e w1 ⟨rfl,rfl⟩)|(with_reducible refine(dJ C2.out _).mono ?_;rintro e w1 ⟨rfl,rfl⟩));go_roundg (h.kinds.length-(k+1))
    case measure=>omega
    case rel=>exact⟨k+1,_,hlt,rfl,by go_num,sj,aq⟩
   ·have HB:=qh (qq (dN (h:=h) (.inr (.inl (kN hlt c0)))));have C1:=qh c1;clear c0 c1;go_wp2_with (go_at_call 62;refine(dJ C1.out _).mono ?_;rintro e w1 ⟨rfl,rfl⟩);go_ret;exact⟨HB.out,ag⟩
   ·have HB:=qh (qq (dN (h:=h) (.inr (.inl (kN hlt c0)))));have C1:=qh c1;have C2:=qh c2;clear c0 c1 c2;go_wp2_with (go_at_call 62;first|(with_reducible refine(dJ C1.out _).mono ?_;rintro e w1 ⟨rfl,rfl⟩)|(with_reducible refine(dJ C2.out _).mono ?_;rintro e w1 ⟨rfl,rfl⟩));go_ret;exact⟨HB.out,ag⟩
  ·obtain rfl:k=h.kinds.length:=by omega
   have ZN:Hid (h.kinds.all Sa.mO=true):=by have:=HK.out;rw[List.take_length] at this;exact this
   clear HK;go_wp2_with fail;go_loopg [4] h.parts.length (fun g i wr=>∃(k:Nat) (δ:nJ),k<=h.parts.length/\g=h.parts.length-k/\i=.int .i64 k/\Hid ((h.parts.take k).all (Sa.kG h.kinds.length)=true)/\wr=af W1 δ)
   case atStart=>exact⟨0,_,nE _,rfl,rfl,rfl,aq⟩
   case round=>
    obtain⟨k,δ,hk,rfl,rfl,HK,rfl⟩:=hrel;by_cases hlt:k<h.parts.length
    ·obtain⟨b,o,rfl,hb,d0,d1⟩:=oM.out.2.1.part hlt;have ib:Lt b W1:=⟨nL hb cz.out⟩;have hki:(k:Int)<(h.parts.length:Int):=nQ;have hk0:¬(k:Int)<0:=nQ;have hwn:IntKind.i64.wrap ((h.kinds.length:Int)-1)=(h.kinds.length:Int)-1:=by rw[IntWalk.i64_in];omega
     rcases tN (h.kinds.length:Int) (nth h.parts k) with⟨c0,c1,c2⟩|⟨c0,c1⟩|⟨c0,c1,c2⟩
     ·have sj:=qh (pE (p:=Sa.kG h.kinds.length) hlt HK.out c0);have C1:=qh c1;have C2:=qh c2;clear c0 c1 c2;go_wp2_with fail;refine wpRl ?_;repeat (go_big_quiet_step ((first|(go_at_call 62;(first|with_reducible exact Calls.j8 (dJ C1.out _)|with_reducible exact Calls.j8 (dJ C2.out _))))))
      refine QBY ?_;rintro _ ⟨δq,rfl⟩;go_wp2_with fail;go_roundg (h.parts.length-(k+1))
      case measure=>omega
      case rel=>exact⟨k+1,_,hlt,rfl,by go_num,sj,aq⟩
     ·have HB:=qh (qq (dN (h:=h) (.inr (.inr (.inl (kN hlt c0))))));have C1:=qh c1;clear c0 c1;go_wp2_with fail;refine wpRl ?_;repeat (go_big_quiet_step ((first|(go_at_call 62;exact Calls.j8 (dJ C1.out _)))))
      refine QBY ?_;rintro _ ⟨δq,rfl⟩;go_wp2_with fail;go_ret;exact⟨HB.out,ag⟩
     ·have HB:=qh (qq (dN (h:=h) (.inr (.inr (.inl (kN hlt c0))))));have C1:=qh c1;have C2:=qh c2;clear c0 c1 c2;go_wp2_with fail;refine wpRl ?_;repeat (go_big_quiet_step ((first|(go_at_call 62;(first|with_reducible exact Calls.j8 (dJ C1.out _)|with_reducible exact Calls.j8 (dJ C2.out _))))))
      refine QBY ?_;rintro _ ⟨δq,rfl⟩;go_wp2_with fail;go_ret;exact⟨HB.out,ag⟩
    ·obtain rfl:k=h.parts.length:=by omega
     have WN:Hid (h.parts.all (Sa.kG h.kinds.length)=true):=by have:=HK.out;rw[List.take_length] at this;exact this
     clear HK;go_wp2_with fail;go_loopg [5] h.bars.length (fun g i wr=>∃(k:Nat) (δ:nJ),k<=h.bars.length/\g=h.bars.length-k/\i=.int .i64 k/\Hid ((h.bars.take k).all (fj 0 99)=true)/\wr=af W1 δ)
     case atStart=>exact⟨0,_,nE _,rfl,rfl,rfl,aq⟩
     case round=>
      obtain⟨k,δ,hk,rfl,rfl,HK,rfl⟩:=hrel;by_cases hlt:k<h.bars.length
      ·obtain⟨b,o,rfl,hb,d0⟩:=oM.out.2.2.int hlt;have ib:Lt b W1:=⟨nL hb cz.out⟩;have hki:(k:Int)<(h.bars.length:Int):=nQ;have hk0:¬(k:Int)<0:=nQ;rcases hq:fj 0 99 (nth h.bars k) with _|_
       ·have HB:=qh (qq (dN (h:=h) (.inr (.inr (.inr (kN hlt hq))))));have HQ:=qh hq;clear hq;go_wp2_with (go_at_call 62;refine(dJ HQ.out _).mono ?_;rintro e w1 ⟨rfl,rfl⟩);go_ret;exact⟨HB.out,ag⟩
       ·have HQ:=qh hq;have sj:=qh (pE hlt HK.out hq);clear hq;go_wp2_with (go_at_call 62;refine(dJ HQ.out _).mono ?_;rintro e w1 ⟨rfl,rfl⟩);go_roundg (h.bars.length-(k+1))
        case measure=>omega
        case rel=>exact⟨k+1,_,hlt,rfl,by go_num,sj,aq⟩
      ·obtain rfl:k=h.bars.length:=by omega
       have HB:Hid (Ending.returned (.int .i64 0)=Ending.returned (Value.int .i64 (cE (Sa.valid h) 80))):=by
        have hb:h.bars.all (fj 0 99)=true:=by have:=HK.out;rwa [List.take_length] at this
        unfold Hid Sa.valid;rw[HT.out,ZN.out,WN.out,hb];rfl
       go_wp2;go_ret;exact⟨HB.out,ag⟩
theorem kW(r:eE)(h:Sa.aL)(hv:Sa.valid h=true)(B:Nat)(w:nJ)(hH:bS B w r h)[hB:Le B w]:Calls nH 24 #[eW r h] w fun e w'=>e=.returned (.int .i64 0)/\∃δ,w'=af w δ:=by have:=uP r h B w hH;rwa [show cE (Sa.valid h) 80=0 by rw[hv];rfl] at this
def RA(q:Bool):Int:=if q=true then 0 else 1
theorem Be(r:eE)(h:Sa.aL)(hv:Sa.valid h=true)(q:Bool)(B:Nat)(w:nJ)(hH:bS B w r h)[hB:Le B w]:Calls nH 238 #[eW r h,.bool q] w fun e w'=>e=.returned (.int .i64 (RA q))/\∃δ,w'=af w δ:=by have HH:=qh hH;have HV:=qh hv;obtain⟨kA,kc,pA,pc,bA,bc⟩:=r;clear hH hv;cases q;all_goals go_enter Tryz.func238,Tryz.ntmps238;go_wp2_with (go_at_call 24;refine(kW ⟨kA,kc,pA,pc,bA,bc⟩ h HV.out B _ HH.out.up).mono ?_;rintro e w1 ⟨rfl,δ1,rfl⟩);go_ret;exact⟨rfl,ag⟩
theorem Bc(r:eE)(h:Sa.aL)(hv:Sa.valid h=true)(l:List Int)(hl:l.length<=h.parts.length)(q:Bool)(hq:Sa.fits h l=q)(A:Option Addr)(c:Nat)(B:Nat)(w:nJ)(hH:bS B w r h)(hS:Sl aH B w A c l)[hB:Le B w]:Calls nH 241 #[eW r h,.slice A l.length c] w fun e w'=>e=.returned (.bool q)/\∃δ,w'=af w δ:=by
 have HV:=qh hv;have HQ:Hid (yc h (dI h l)=q):=qh ((Oh h l).trans hq);have lb:=hH.2.2.len;have h6:=(Sa.az.1 hv).1.2.2.1;have LU:l.length<=6:=nQ;have HH:=qh hH;have HS:=qh hS;have HL:=qh hl;obtain⟨kA,kc,pA,pc,bA,bc⟩:=r;clear hH hS hv hl hq;go_enter Tryz.func241,Tryz.ntmps241;go_wp2_with fail;refine QAD ?_;intro W1 aE cz de cN cY dc rX lH jU kM;refine QCD ?_;intro oM;have me:Hid (Sl aH B W1 A c l):=qh HS.out.up;have DZ:B<=W1.heap.size:=(inferInstance:Le B W1).out;clear aE;go_loopg [5,6] h.bars.length (fun gg i z wr=>∃(k:Nat) (δ:nJ),k<=h.bars.length/\gg=h.bars.length-k/\i=.int .i64 k/\wr=af W1 δ/\Hid (∀b,b<k->Sa.o5 h.floor (dI h l b)<=nth h.bars b))
 case atStart=>exact⟨0,W1,nE _,rfl,rfl,(aY W1).symm,qh fun b hb=>absurd hb (Nat.not_lt_zero b)⟩
 case round=>
  obtain⟨k,δ,hk,rfl,rfl,rfl,HA⟩:=hrel;by_cases hlt:k<h.bars.length
  ·have hki:(k:Int)<(h.bars.length:Int):=nQ;have hk0:¬(k:Int)<0:=nQ;refine QBW ?_;intro PG PI mG;have hfr:=Sa.fe HV.out (l:=l) (by have:=HL.out;omega) (k:Int);have VJ:=Sa.mB (Sa.az.1 HV.out).1.2.1 hfr;have YF:=hfr.2.1;have ZG:Hid (Sa.o5 h.floor (dI h l k)=(Sa.eX h (Sa.lY l (k:Int))).bg+Sa.gm h.floor (Sa.eX h (Sa.lY l (k:Int)))):=rfl;unfold Sa.ia at VJ YF;obtain⟨p,hp⟩:∃p,(Sa.eX h (Sa.lY l (k:Int))).bg=p:=⟨_,rfl⟩;obtain⟨v,pH⟩:∃v,Sa.gm h.floor (Sa.eX h (Sa.lY l (k:Int)))=v:=⟨_,rfl⟩;rw[hp,pH] at ZG;rw[hp] at YF;rw[pH] at VJ;have HP:=qh hp;have LX:=qh pH;have hwr:IntKind.i64.wrap (p+v)=p+v:=by rw[IntWalk.i64_in];omega
   obtain⟨y,o,rfl,hb,d0⟩:∃x o,bA=some ⟨x,o,none⟩/\x<B/\W1.cell? ⟨x,o+k,none⟩=some (.int .i64 (nth h.bars k)):=by obtain⟨x,o,h1,h2,h3⟩:=oM.out.2.2.at_ (size:=1) (fun _=>rfl) hlt nQ;exact⟨x,o,h1,h2,by rw[bV _ hlt];simpa using h3 0 _ rfl⟩
   have iy:Lt y W1:=⟨nL hb DZ⟩;obtain⟨x,hx⟩:∃x,nth h.bars k=x:=⟨_,rfl⟩;rw[hx] at d0;have HX:=qh hx;clear hp pH hfr hx hb;go_wp2_with (go_at_call 237;refine(IN l LU A c k B _ me.out.up).mono ?_;rintro e w1 ⟨A1,c1,rfl,hs1,δ1,rfl⟩;rw[mG.out];have HT:=qh hs1;clear hs1);have Jv:Hid (bS (af (af W1 δ) δ1).heap.size (af (af W1 δ) δ1) ⟨kA,kc,pA,pc,some ⟨y,o,none⟩,bc⟩ h):=qh oM.out.wide;go_region_held3 (fun w'=>w'.cell? ⟨w.heap.size,0,none⟩=some (.slice kA h.kinds.length kc)/\w'.cell? ⟨w.heap.size,1,none⟩=some (.int .i64 h.floor)/\w'.cell? ⟨w.heap.size,2,none⟩=some (.slice pA h.parts.length pc)/\w'.cell? ⟨w.heap.size,3,none⟩=some (.slice (some ⟨y,o,none⟩) h.bars.length bc)/\w'.cell? ⟨y,o+k,none⟩=some (.int .i64 x)) (refine⟨?_,?_,?_,?_,?_⟩<;>go_simp)
    (first|(go_at_call 240;refine(uM ⟨kA,kc,pA,pc,some ⟨y,o,none⟩,bc⟩ h HV.out (Sa.lY l (k:Int)) PG.out PI.out A1 c1 (af (af W1 δ) δ1).heap.size _ (by first|exact Jv.out|exact(pG _).2 Jv.out) (by first|exact HT.out|exact(yO _).2 HT.out)).mono ?_;rw[HP.out];rintro e w1 ⟨rfl,δ2,rfl⟩)|(go_at_call 236;refine(zT ⟨kA,kc,pA,pc,some ⟨y,o,none⟩,bc⟩ h HV.out (Sa.lY l (k:Int)) PG.out PI.out A1 c1 (af (af W1 δ) δ1).heap.size _ (by first|exact Jv.out|exact(pG _).2 Jv.out) (by first|exact HT.out|exact(yO _).2 HT.out)).mono ?_;rw[LX.out];rintro e w1 ⟨rfl,δ3,rfl⟩))
   all_goals
    by_cases hc:x<p+v
    ·have HE:Hid (q=false):=qh (HQ.out.symm.trans (At hlt HA.out (by rw[ZG.out,HX.out];omega)));clear HA;go_wp2;go_ret;rw[HE.out];exact⟨rfl,ag⟩
    ·go_wp2;go_roundg (h.bars.length-(k+1))
     case measure=>omega
     case rel=>
      refine⟨k+1,_,hlt,rfl,by go_num,aq,qh fun b hb=>?_⟩;rcases Nat.lt_succ_iff_lt_or_eq.1 hb with hb|rfl
      ·exact HA.out b hb
      ·rw[ZG.out,HX.out];omega
  ·obtain rfl:k=h.bars.length:=by omega
   have HE:Hid (q=true):=qh (HQ.out.symm.trans (D7 HA.out));clear HA;go_wp2;go_ret;rw[HE.out];exact⟨rfl,ag⟩
theorem FV(r:eE)(h:Sa.aL)(hv:Sa.valid h=true)(l:List Int)(hl:l.length=h.parts.length)(hx:∀x∈l,x<(h.bars.length:Int))(A:Option Addr)(c:Nat)(B:Nat)(w:nJ)(hH:bS B w r h)(hS:Sl aH B w A c l)[hB:Le B w]:Calls nH 199 #[eW r h,.slice A l.length c] w fun e w'=>e=.returned (.int .i64 (Sa.cF h l))/\∃δ,w'=af w δ:=by
 have HV:=qh hv;have lb:=hH.2.2.len;refine QDV ?_;intro h6 h4;have Xh:=qh (Sa.Ca h4 hx);have LU:l.length<=6:=nQ;have HH:=qh hH;have HS:=qh hS;have HL:=qh hl;obtain⟨kA,kc,pA,pc,bA,bc⟩:=r;clear hH hS hv hx hl;go_enter Tryz.func199,Tryz.ntmps199;go_wp2_with fail;refine QAD ?_;intro W1 aE cz de cN cY dc rX lH jU kM;refine QCD ?_;intro oM;have me:Hid (Sl aH B W1 A c l):=qh HS.out.up;clear aE;go_loopg [5,6] h.bars.length (fun gg n i wr=>∃(k:Nat) (δ:nJ),k<=h.bars.length/\gg=h.bars.length-k/\n=.int .i64 (Sa.gk (Sa.tq h l) k)/\i=.int .i64 k/\wr=af W1 δ)
 case atStart=>exact⟨0,W1,nE _,rfl,rfl,rfl,(aY W1).symm⟩
 case round=>
  obtain⟨k,δ,hk,rfl,rfl,rfl,rfl⟩:=hrel;by_cases hlt:k<h.bars.length
  ·have hki:(k:Int)<(h.bars.length:Int):=nQ;refine QBW ?_;intro PG PI mG;have NV:=Sa.iE (A:=300) (f:=Sa.tq h l) (fun b=>Sa.mB (Sa.az.1 HV.out).1.2.1 (Sa.fe HV.out (l:=l) (by have:=HL.out;omega) (b:Int))) k;have VJ:=Sa.mB (Sa.az.1 HV.out).1.2.1 (Sa.fe HV.out (l:=l) (by have:=HL.out;omega) (k:Int));have HN:Hid (Sa.gk (Sa.tq h l) (k+1)=Sa.gk (Sa.tq h l) k+Sa.gm h.floor (Sa.eX h (Sa.lY l (k:Int)))):=rfl;obtain⟨s,hs⟩:∃s,Sa.gk (Sa.tq h l) k=s:=⟨_,rfl⟩;have Ar:0<=s/\s<=300*k:=by rw[<-hs];exact NV
   unfold Sa.ia at VJ;obtain⟨v,pH⟩:∃v,Sa.gm h.floor (Sa.eX h (Sa.lY l (k:Int)))=v:=⟨_,rfl⟩;rw[pH] at VJ;rw[hs,pH] at HN;rw[hs];have LX:=qh pH;clear hs NV pH;have hwr:IntKind.i64.wrap (s+v)=s+v:=by rw[IntWalk.i64_in];omega
   go_wp2;go_region_held3 (fun w'=>w'.cell? ⟨w.heap.size,0,none⟩=some (.slice kA h.kinds.length kc)/\w'.cell? ⟨w.heap.size,1,none⟩=some (.int .i64 h.floor)/\w'.cell? ⟨w.heap.size,2,none⟩=some (.slice pA h.parts.length pc)/\w'.cell? ⟨w.heap.size,3,none⟩=some (.slice bA h.bars.length bc)) (refine⟨?_,?_,?_,?_⟩<;>go_simp)
    (first|(go_at_call 237;refine(IN l LU A c k B _ (Jq.2 ((yO δ).2 me.out))).mono ?_;rintro e w1 ⟨A1,c1,rfl,hs1,δ1,rfl⟩;rw[mG.out];have HT:=qh hs1;clear hs1)|(go_at_call 236;refine(zT ⟨kA,kc,pA,pc,bA,bc⟩ h HV.out (Sa.lY l (k:Int)) PG.out PI.out A1 c1 _ _ (((pG δ1).2 (iP.2 ((pG δ).2 oM.out))).more (inferInstance:Le B (af (af W1 δ).drew δ1)).out) HT.out).mono ?_;rw[LX.out];rintro e w1 ⟨rfl,δ2,rfl⟩))
   all_goals go_wp2
   all_goals
    go_roundg (h.bars.length-(k+1))
    case measure=>omega
    case rel=>exact⟨k+1,_,hlt,rfl,by rw[HN.out],by go_num,aq⟩
  ·obtain rfl:k=h.bars.length:=by omega
   go_wp2;go_ret;exact⟨by rw[Xh.out];rfl,ag⟩
def vG(h:Sa.aL)(m:Nat)(f:List Int)(j:Nat):List (List Int):=(List.range j).flatMap fun(b:Nat)=>Sa.fE h m (f++[(b:Int)])
theorem xI{h:Sa.aL}{m:Nat}{f:List Int}{j:Nat}:vG h m f (j+1)=vG h m f j++Sa.fE h m (f++[(j:Int)]):=by simp[vG,List.range_succ]
theorem Ae{h:Sa.aL}(h4:h.bars.length<=5)(k:Nat)(l:List Int):(Sa.fE h k l).length<=5 ^ k:=by
 induction k generalizing l with
 |zero=>rw[Sa.fE];split<;>simp
 |succ k ih=>
  have key:∀j,(vG h k l j).length<=j*5 ^ k:=by
   intro j;induction j with
   |zero=>simp[vG]
   |succ j ihj=>
    rw[xI,List.length_append,Nat.succ_mul]
    have:=ih (l++[(j:Int)])
    omega
  have h1:=key h.bars.length
  have:h.bars.length*5 ^ k<=5*5 ^ k:=Nat.mul_le_mul_right _ h4
  rw[Sa.fE,Nat.pow_succ,Nat.mul_comm]
  split
  ·exact nT h1 this
  ·simp
theorem Mi(T:TypeId)(w:nJ):uD T aH w none 0 []:=⟨nR _,nU,[],fun h=>absurd rfl h,ic.nil⟩
theorem Dx(r:eE)(h:Sa.aL)(hv:Sa.valid h=true)(f:List Int)(hl:f.length<=h.parts.length)(hf:Sa.fits h f=false)(A:Option Addr)(c:Nat)(B:Nat)(w:nJ)[hB:Le B w](hH:bS B w r h)(hS:fm 3 aH w.heap.size w A c f):Calls nH 203 #[eW r h,.slice A f.length c,.int .i64 0] w (ov w []):=by have HH:=qh hH;have HV:=qh hv;have HS:=qh hS;have HF:=qh hf;have HL:=qh hl;obtain⟨kA,kc,pA,pc,bA,bc⟩:=r;clear hH hv hS hf hl;go_enter Tryz.func203,Tryz.ntmps203;go_wp2_with (go_at_call 241;refine(Bc ⟨kA,kc,pA,pc,bA,bc⟩ h HV.out f HL.out false HF.out A c w.heap.size _ (HH.out.more hB.out).up HS.out.plain.up).mono ?_;rintro e w1 ⟨rfl,δ1,rfl⟩);go_ret;exact⟨none,0,_,rfl,aq,Mi _ _⟩
theorem KA(r:eE)(h:Sa.aL)(hv:Sa.valid h=true)(f:List Int)(hl:f.length=h.parts.length)(hf:Sa.fits h f=true)(A:Option Addr)(c:Nat)(B:Nat)(w:nJ)[hB:Le B w](hH:bS B w r h)(hS:fm 3 aH w.heap.size w A c f):Calls nH 203 #[eW r h,.slice A f.length c,.int .i64 0] w (ov w [f]):=by
 have hE:((f.length:Int)==(h.parts.length:Int))=true:=by simp;omega
 have l1:=hS.plain.len;have HH:=qh hH;have HV:=qh hv;have HS:=qh hS;have HF:=qh hf;have HL:=qh hl;obtain⟨kA,kc,pA,pc,bA,bc⟩:=r;clear hH hv hS hf hl;go_enter Tryz.func203,Tryz.ntmps203;go_wp2_with (go_at_call 241;refine(Bc ⟨kA,kc,pA,pc,bA,bc⟩ h HV.out f (Nat.le_of_eq HL.out) true HF.out A c w.heap.size _ (HH.out.more hB.out).up HS.out.plain.up).mono ?_;rintro e w1 ⟨rfl,δ1,rfl⟩);go_ret;refine⟨some ⟨_,0,none⟩,1,_,rfl,aq,?_⟩;refine QDK ?_;exact⟨nR _,nQ,[.slice A f.length c],mF nW nW,ic.one HS.out.wide⟩
def Uv(h:Sa.aL)(m:Nat):Prop:=∀(r:eE) (f:List Int) (A:Option Addr) (c:Nat) (B:Nat) (w:nJ),Le B w->bS B w r h->fm 3 aH w.heap.size w A c f->f.length+m=h.parts.length->∀ln:Nat,f.length=ln ->
 Calls nH 203 #[eW r h,.slice A ln c,.int .i64 0] w (ov w (Sa.fE h m f))
theorem Np(h:Sa.aL)(hv:Sa.valid h=true)(m:Nat)(IH:Uv h m):Uv h (m+1):=by
 intro r f A c B w hB hH hf hfl ln gG;subst gG;rcases hq:Sa.fits h f with _|_
 ·have e:Sa.fE h (m+1) f=[]:=by rw[Sa.fE,hq];rfl
  rw[e];exact Dx r h hv f nQ hq A c B w hH hf
 have l1:=hf.plain.len;have lb:=hH.2.2.len;have h4:=(Sa.az.1 hv).1.2.2.2;have h6:=(Sa.az.1 hv).1.2.2.1;have hne:((f.length:Int)==(h.parts.length:Int))=false:=by simp;omega
 have hF:Hid (Sa.fE h (m+1) f=vG h m f h.bars.length):=by unfold Hid;rw[Sa.fE,if_pos hq];rfl
 have TJ:5 ^ m<=3125:=by have:5 ^ m<=5 ^ 5:=Nat.pow_le_pow_right nQ nQ;omega
 have YH:f.length<=6:=nQ;have AM:=qh hfl;have RN:=qh IH;have HH:=qh hH;have HV:=qh hv;have HQ:=qh hq;have HLP:Hid (f.length<=h.parts.length):=qh nQ;obtain⟨kA,kc,pA,pc,bA,bc⟩:=r;clear hfl IH hH hv hq;go_enter Tryz.func203,Tryz.ntmps203;go_wp2_with (go_at_call 241;refine(Bc ⟨kA,kc,pA,pc,bA,bc⟩ h HV.out f HLP.out true HQ.out A c w.heap.size _ (HH.out.more hB.out).up hf.plain.up).mono ?_;rintro e w1 ⟨rfl,δ1,rfl⟩);refine QAD ?_;intro W1 aE cz de cN cY dc rX lH jU kM;have g1:bS B W1 ⟨kA,kc,pA,pc,bA,bc⟩ h:=HH.out.up;have g2:fm 3 aH W1.heap.size W1 A c f:=hf.wide;have G1:=qh g1;have G2:=qh g2;clear g1 g2 hf;go_loopw [7,8] (fun o g wr=>∃(k c':Nat) (A':Option Addr) (cs:List nK) (L:List (List Int)),k<=h.bars.length/\g=.int .i64 k/\Hid (L=vG h m f k)/\L.length<=k*5 ^ m/\o=.slice A' L.length c'/\wr.ownsRow W1.heap.size 35 1 (.slice A' L.length c') L.length cs/\ic 3 aH wr cs L/\aC W1.heap.size W1 wr/\Le W1.heap.size wr) (fun _ g _=>(h.bars.length-(intOf g).toNat))
 case atStart=>exact⟨0,0,none,[],[],nE _,rfl,by simp[vG,Hid],nV,rfl,World.ownsRow_nil _ _ _ _,ic.nil,inferInstance,inferInstance⟩
 case round=>
  obtain⟨k,c',A',cs,L,hk,rfl,hL,Wk,rfl,hown,hsub,i1,i2⟩:=hrel;refine QBN ?_;intro hcell i3;refine QBJ ?_;intro i5 i6 i7 HO HS;clear hown hsub;by_cases hlt':k<h.bars.length
  ·have hki:(k:Int)<(h.bars.length:Int):=nQ;have hbd:k*5 ^ m<=50000:=by have:=Nat.mul_le_mul (show k<=6 by omega) TJ;omega
   have Q9:=Ae (h:=h) nQ m (f++[(k:Int)]);have hsc:=qh (xI (h:=h) (m:=m) (f:=f) (j:=k));go_wp2_with fail;go_region_held3 (fun W=>W.cell? ⟨w.heap.size,0,none⟩=some (.slice kA h.kinds.length kc)/\W.cell? ⟨w.heap.size,1,none⟩=some (.int .i64 h.floor)/\W.cell? ⟨w.heap.size,2,none⟩=some (.slice pA h.parts.length pc)/\W.cell? ⟨w.heap.size,3,none⟩=some (.slice bA h.bars.length bc))
    (refine⟨?_,?_,?_,?_⟩<;>go_simp)
    (first|(refine fh wr uC (.tmp 31) (.tmp 32) rfl rfl (v:=.slice (some ⟨_,0,none⟩) 0 0) (by first|exact cx nW nW|exact(cx nW nW).alloc _) rfl (B:=W1.heap.size) (A:=A) (m:=f.length) (c:=c) (news:=f.flatMap aH) rfl (G2.out.up.plain.2.2) (cg aH 1 (fun _=>rfl) f) (dS aH I1 f) nQ nQ ?_;intro A1 c1 δ1 ei hg1)|((refine cQ wr uC (.tmp 33) (.tmp 35) rfl rfl (v:=.slice A1 f.length c1) (n:=f.length) (xs:=f.flatMap aH) (by first|exact ei|exact ei.alloc _ ) rfl (m:=1) (c:=1) (news:=[.int .i64 (k:Int)]) rfl (mF (by first|(go_simp;done)|(refine hg1.cell nW (by simp[Value.ownBlock]))) (nA _)) rfl (by simp[Value.oneCell']) nQ nQ ?_);intro A2 c2 δ2 gM kC)|(go_at_call 203;refine(RN.out ⟨kA,kc,pA,pc,bA,bc⟩ (f++[(k:Int)]) A2 c2 B _ inferInstance G1.out.up (fm.bW (by rw[List.flatMap_append];exact gM) nV) (by have:=AM.out;simp;omega) (f.length+1) nV).mono ?_;rintro e w1 ⟨A3,c3,δ3,rfl,rfl,hq1,KN,Sr,NS,hs3⟩)|(refine cQ W1 PX (.tmp 29) (.tmp 38) rfl rfl (v:=.slice A' L.length c') (n:=L.length) (xs:=cs) (aT HO.out) rfl (A:=A3) (m:=(Sa.fE h m (f++[(k:Int)])).length) (c:=c3) (news:=Sr) rfl NS (by have:=hs3.1;omega) hs3.Bj nQ nQ ?_;intro A4 c4 δ4 Gg GQ))
   all_goals
    go_wp2_with fail;go_roundw
    case rel=>
     refine⟨k+1,c4,A4,cs++Sr,L++Sa.fE h m (f++[(k:Int)]),nQ,by go_num,?_,?_,by rw[List.length_append],by rw[List.length_append];exact Gg,(HS.out.up.append hs3).grown (aT HO.out) GQ nU,inferInstance,inferInstance⟩
     ·unfold Hid;rw[hsc.out,<-hL.out]
     ·rw[List.length_append,Nat.succ_mul];omega
    case measure=>simp[intOf];omega
  ·obtain rfl:k=h.bars.length:=by omega
   have HF:=qh (show Sa.fE h (m+1) f=L by rw[hF.out,hL.out]);go_wp2_with fail;go_ret;rw[HF.out];refine QBI ?_;intro i8 i9;refine⟨A',c',wr,rfl,aq,?_⟩;rw[<-aq (w:=w) (W:=wr)];exact uD.bW HO.out HS.out rfl
theorem QA(h:Sa.aL)(hv:Sa.valid h=true)(m:Nat):Uv h m:=by
 induction m with
 |zero=>
  intro r f A c B w hB hH hf hl ln gG
  subst gG
  rcases hq:Sa.fits h f with _|_
  ·have e:Sa.fE h 0 f=[]:=by rw[Sa.fE,hq];rfl
   rw[e];exact Dx r h hv f nQ hq A c B w hH hf
  ·have e:Sa.fE h 0 f=[f]:=by rw[Sa.fE,hq];rfl
   rw[e];exact KA r h hv f nQ hq A c B w hH hf
 |succ m ih=>exact Np h hv m ih
theorem mI(r:eE)(h:Sa.aL)(hv:Sa.valid h=true)(B:Nat)(w:nJ)[hB:Le B w](hH:bS B w r h):Calls nH 203 #[eW r h,.slice none 0 0,.int .i64 0] w (ov w (Sa.bH h)):=by rw[<-Sa.vI hv];exact QA h hv h.parts.length r [] none 0 B w hB hH fm.none_ nV 0 rfl
theorem mJ(r:eE)(h:Sa.aL)(hv:Sa.valid h=true)(l:List Int)(hl:l.length=h.parts.length)(hx:∀x∈l,x<(h.bars.length:Int))(v:Int)(pH:Sa.cF h l=v)(A:Option Addr)(ln c:Nat)(hn:h.parts.length=ln)(B:Nat)(w:nJ)(hH:bS B w r h)(hS:Sl aH B w A c l)[hB:Le B w]:Calls nH 199 #[eW r h,.slice A ln c] w fun e w'=>e=.returned (.int .i64 v)/\∃δ,w'=af w δ:=by subst pH;rw[<-hn,<-hl];exact FV r h hv l hl hx A c B w hH hS
theorem FT(r:eE)(h:Sa.aL)(hv:Sa.valid h=true)(l:List Int)(hl:l.length=h.parts.length)(hx:∀x∈l,x<(h.bars.length:Int))(d v:Int)(pH:Sa.iJ h d l=v)(A:Option Addr)(ln c:Nat)(hn:h.parts.length=ln)(B:Nat)(w:nJ)(hH:bS B w r h)(hS:Sl aH B w A c l)[hB:Le B w]:Calls nH 202 #[eW r h,.slice A ln c,.int .i64 d] w fun e w'=>e=.returned (.int .i64 v)/\∃δ,w'=af w δ:=by subst pH;rw[<-hn,<-hl];exact FU r h hv l hl hx d A c B w hH hS
theorem tI{h:Sa.aL}{l:List Int}(hl:l∈Sa.bH h):l.length=h.parts.length/\∀x∈l,x<(h.bars.length:Int):=by obtain⟨h1,h2⟩:=Sa.iL.1 (List.mem_filter.1 hl).1;exact⟨h1,fun x hx=>(h2 x hx).2⟩
theorem tH(h:Sa.aL)(hv:Sa.valid h=true):(Sa.bH h).length<=15625:=by have h4:=(Sa.az.1 hv).1.2.2.2;have h6:=(Sa.az.1 hv).1.2.2.1;rw[<-Sa.vI hv];refine nT (Ae nQ _ _) (nT (Nat.pow_le_pow_right nQ h6) nU)
def EN(h:Sa.aL)(q:Bool):Int:=if q=false then 1 else if Sa.bH h=[] then 3 else 0
def Us(h:Sa.aL)(q:Bool)(w:nJ)(e:Ending)(w':nJ):Prop:=∃(A:Option Addr) (n c:Nat) (δ:nJ),e=.returned (.tuple #[.slice A n c,.int .i64 (EN h q)])/\w'=af w δ/\(EN h q=0->n=(Sa.bH h).length/\uD 3 aH (af w δ) A c (Sa.bH h))
theorem nI(r:eE)(h:Sa.aL)(hv:Sa.valid h=true)(q:Bool)(B:Nat)(w:nJ)[hB:Le B w](hH:bS B w r h):Calls nH 200 #[eW r h,.bool q] w (Us h q w):=by
 have HH:=qh hH;have HV:=qh hv;have hpl:=tH h hv;obtain⟨kA,kc,pA,pc,bA,bc⟩:=r;clear hH hv;cases q
 ·go_enter Tryz.func200,Tryz.ntmps200;go_wp2_with (go_at_call 238;refine(Be ⟨kA,kc,pA,pc,bA,bc⟩ h HV.out false B _ HH.out.up).mono ?_;rintro e w1 ⟨rfl,δ1,rfl⟩;rw[show RA false=1 from rfl]);go_ret2;exact⟨none,0,0,_,rfl,aq,fun h=>absurd h (by unfold EN;simp)⟩
 ·by_cases hp:Sa.bH h=[]
  ·have hz:(((Sa.bH h).length:Int)==0)=true:=by rw[hp];rfl
   have HE:Hid (EN h true=3):=by unfold Hid EN;rw[if_neg nV,if_pos hp]
   clear hp;go_enter Tryz.func200,Tryz.ntmps200;go_wp2_with (first|(go_at_call 238;refine(Be ⟨kA,kc,pA,pc,bA,bc⟩ h HV.out true B _ HH.out.up).mono ?_;rintro e w1 ⟨rfl,δ1,rfl⟩;rw[show RA true=0 from rfl])|(go_at_call 203;refine(mI ⟨kA,kc,pA,pc,bA,bc⟩ h HV.out B _ HH.out.up).mono ?_;rintro e w1 ⟨A1,c1,δ2,rfl,rfl,hs⟩));go_ret2;exact⟨none,0,0,_,by rw[HE.out];rfl,aq,fun h=>by rw[HE.out] at h;cases h⟩
  ·have hz:(((Sa.bH h).length:Int)==0)=false:=by have:(Sa.bH h).length≠0:=fun h'=>hp (List.length_eq_zero_iff.1 h');simpa using this
   have HE:Hid (EN h true=0):=by unfold Hid EN;rw[if_neg nV,if_neg hp]
   clear hp;go_enter Tryz.func200,Tryz.ntmps200;go_wp2_with (first|(go_at_call 238;refine(Be ⟨kA,kc,pA,pc,bA,bc⟩ h HV.out true B _ HH.out.up).mono ?_;rintro e w1 ⟨rfl,δ1,rfl⟩;rw[show RA true=0 from rfl])|(go_at_call 203;refine(mI ⟨kA,kc,pA,pc,bA,bc⟩ h HV.out B _ HH.out.up).mono ?_;rintro e w1 ⟨A1,c1,δ2,rfl,rfl,hs⟩;have HS:=qh hs;clear hs));go_ret2;refine⟨A1,_,c1,_,by rw[HE.out];rfl,aq,fun _=>⟨rfl,?_⟩⟩;refine QDK ?_;exact HS.out
def qo(f:List Int->Int)(L:List (List Int))(k:Nat):List Int:=Me.least f (L.take (max k 1))
theorem yL{f:List Int->Int}{L:List (List Int)}(h:0<L.length):qo f L 0=nth L 0:=by
 unfold qo;cases L with
 |nil=>simp at h
 |cons x xs=>rfl
theorem LB{f:List Int->Int}{L:List (List Int)}(h:0<L.length):qo f L L.length=Me.least f L:=by unfold qo;rw[show max L.length 1=L.length by omega,List.take_length]
theorem Im{f:List Int->Int}{L:List (List Int)}{k:Nat}(h:k<L.length):qo f L (k+1)=if f (nth L k)<f (qo f L k) then nth L k else qo f L k:=by
 rcases Nat.eq_zero_or_pos k with rfl|hk
 ·rw[yL h,if_neg (Int.lt_irrefl _)];unfold qo;cases L with
  |nil=>simp at h
  |cons x xs=>rfl
 ·unfold qo;rw[show max (k+1) 1=k+1 by omega,show max k 1=k by omega,bu L h];have hne:L.take k≠[]:=by intro e;have:=congrArg List.length e;rw[List.length_take,List.length_nil] at this;omega
  exact Me.mS f hne (nth L k)
theorem AG{f:List Int->Int}{L:List (List Int)}{k:Nat}(h:0<L.length):qo f L k∈L:=by unfold qo;refine List.mem_of_mem_take (Me.fJ f (xs:=L.take (max k 1)) ?_);intro e;have:=congrArg List.length e;rw[List.length_take,List.length_nil] at this;omega
def Pf(h:Sa.aL)(w:nJ)(e:Ending)(w':nJ):Prop:=∃(A:Option Addr) (m c:Nat) (δ:nJ),e=.returned (.tuple #[.slice A m c,.int .i64 (jM h).2])/\m=(jM h).1.length/\Sl aH (af w δ).heap.size (af w δ) A c (jM h).1/\w'=af w δ
theorem Ba(r:eE)(h:Sa.aL)(hv:Sa.valid h=true)(B:Nat)(w:nJ)[hB:Le B w](hH:bS B w r h):Calls nH 148 #[eW r h] w (Pf h w):=by
 have HH:=qh hH;have HV:=qh hv;have hpl:=tH h hv;have h6:=(Sa.az.1 hv).1.2.2.1;obtain⟨kA,kc,pA,pc,bA,bc⟩:=r;clear hH hv;by_cases hp:Sa.bH h=[]
 ·have HE:Hid (EN h true=3):=by unfold Hid EN;rw[if_neg nV,if_pos hp]
  have HR:Hid (jM h=([],3)):=by unfold Hid jM;rw[if_pos hp]
  clear hp;go_enter Tryz.func148,Tryz.ntmps148;go_wp2_with (go_at_call 200;refine(nI ⟨kA,kc,pA,pc,bA,bc⟩ h HV.out true B _ HH.out.up).mono ?_;rintro e w1 ⟨A1,n1,c1,δ2,rfl,rfl,hs⟩;clear hs;rw[HE.out]);go_ret2;refine⟨none,0,0,_,by rw[HR.out];rfl,by rw[HR.out];rfl,?_,aq⟩;rw[HR.out];exact⟨nR _,nV,fun h=>absurd rfl h⟩
 ·have HE:Hid (EN h true=0):=by unfold Hid EN;rw[if_neg nV,if_neg hp]
  have HR:Hid (jM h=(Me.least (Sa.cF h) (Sa.bH h),0)):=by unfold Hid jM;rw[if_neg hp]
  have hpos:0<(Sa.bH h).length:=List.length_pos_iff.2 hp;obtain⟨L,hL⟩:∃L,Sa.bH h=L:=⟨_,rfl⟩;have SC:=qh hL;have HM:Hid (∀l∈L,l.length=h.parts.length/\∀x∈l,x<(h.bars.length:Int)):=qh fun l hl=>tI (by rw[hL];exact hl);rw[hL] at hpos hpl;clear hp hL;have hpi:(0:Int)<(L.length:Int):=nQ;go_enter Tryz.func148,Tryz.ntmps148;go_wp2_with (go_at_call 200;refine(nI ⟨kA,kc,pA,pc,bA,bc⟩ h HV.out true B _ HH.out.up).mono ?_;rintro e w1 ⟨A1,n1,c1,δ2,rfl,rfl,hs⟩;rw[HE.out];obtain⟨h1,h2⟩:=hs HE.out;rw[SC.out] at h1 h2;subst h1;clear hs;obtain⟨b0,o0,A0,c0,rfl,hb0,d0,s0⟩:=h2.nth hpos (HM.out _ (aS _ hpos)).1;have HS:=qh h2;have HS0:=qh s0.plain;clear h2 s0;simp only[Nat.add_zero] at d0);refine QAD ?_;intro W1 aE cz de cN cY dc rX lH jU kM;refine QCD ?_;intro oM;have me:Hid (uD 3 aH W1 (some ⟨b0,o0,none⟩) c1 L):=by rw[aE.out];exact HS
  have zw:Hid (Sl aH W1.heap.size W1 A0 c0 (nth L 0)):=by rw[aE.out];exact HS0
  have DZ:B<=W1.heap.size:=(inferInstance:Le B W1).out;clear aE HS HS0 d0 hb0;go_loopg [6,7] L.length (fun gg wK i wr=>∃(k:Nat) (A2:Option Addr) (c2:Nat) (x:List Int) (δ:nJ),k<=L.length/\gg=L.length-k/\wK=.slice A2 h.parts.length c2/\i=.int .i64 k/\Hid (x=qo (Sa.cF h) L k)/\Hid (Sl aH W1.heap.size W1 A2 c2 x)/\wr=af W1 δ)
  case atStart=>exact⟨0,A0,c0,nth L 0,W1,nE _,rfl,rfl,rfl,qh (yL hpos).symm,zw,(aY W1).symm⟩
  case round=>
   obtain⟨k,A2,c2,x,δ,hk,rfl,rfl,rfl,HX,XL,rfl⟩:=hrel;by_cases hlt:k<L.length
   ·have hki:(k:Int)<(L.length:Int):=nQ;have hk0:¬(k:Int)<0:=nQ;obtain⟨b3,o3,A3,c3,h3,NW,d3,s3⟩:=me.out.nth hlt (HM.out _ (aS _ hlt)).1;injection h3 with h3;injection h3 with h3a h3b;subst h3a h3b;have ib3:Lt b0 W1:=⟨NW⟩;have si:Hid (Sl aH W1.heap.size W1 A3 c3 (nth L k)):=qh s3.plain;have ri:=qh (Im (f:=Sa.cF h) hlt);have XT:Hid (x.length=h.parts.length/\∀y∈x,y<(h.bars.length:Int)):=qh (by rw[HX.out];exact HM.out _ (AG hpos));have RM:=qh (HM.out _ (aS _ hlt));obtain⟨y,hy⟩:∃y,nth L k=y:=⟨_,rfl⟩;rw[<-HX.out] at ri;rw[hy] at si ri RM;obtain⟨u,hu⟩:∃u,Sa.cF h y=u:=⟨_,rfl⟩;obtain⟨v,hv⟩:∃v,Sa.cF h x=v:=⟨_,rfl⟩;rw[hu,hv] at ri;have HU:=qh hu;have LX:=qh hv;clear hu hv hy s3 NW;by_cases hc:u<v
    ·rw[if_pos hc] at ri;go_wp2_with fail;refine wpRl ?_;repeat (go_big_quiet_step ((first|(go_at_call 199;(first|with_reducible exact Calls.bU (mJ ⟨kA,kc,pA,pc,bA,bc⟩ h HV.out y RM.out.1 RM.out.2 u HU.out A3 _ c3 rfl W1.heap.size _ (oM.out.more DZ).up si.out.up)|with_reducible exact Calls.bU (mJ ⟨kA,kc,pA,pc,bA,bc⟩ h HV.out x XT.out.1 XT.out.2 v LX.out A2 _ c2 rfl W1.heap.size _ (oM.out.more DZ).up XL.out.up))))))
     refine QBY ?_;rintro _ ⟨δq,rfl⟩;go_wp2_with fail;go_roundg (L.length-(k+1))
     case measure=>omega
     case rel=>exact⟨k+1,A3,c3,y,_,nQ,rfl,rfl,by go_num,qh ri.out.symm,si,aq⟩
    ·rw[if_neg hc] at ri;go_wp2_with fail;refine wpRl ?_;repeat (go_big_quiet_step ((first|(go_at_call 199;(first|with_reducible exact Calls.bU (mJ ⟨kA,kc,pA,pc,bA,bc⟩ h HV.out y RM.out.1 RM.out.2 u HU.out A3 _ c3 rfl W1.heap.size _ (oM.out.more DZ).up si.out.up)|with_reducible exact Calls.bU (mJ ⟨kA,kc,pA,pc,bA,bc⟩ h HV.out x XT.out.1 XT.out.2 v LX.out A2 _ c2 rfl W1.heap.size _ (oM.out.more DZ).up XL.out.up))))))
     refine QBY ?_;rintro _ ⟨δq,rfl⟩;go_wp2_with fail;go_roundg (L.length-(k+1))
     case measure=>omega
     case rel=>exact⟨k+1,A2,c2,x,_,nQ,rfl,rfl,by go_num,qh ri.out.symm,XL,aq⟩
   ·obtain rfl:k=L.length:=by omega
    have Pk:Hid (x=(jM h).1/\(jM h).2=0/\x.length=h.parts.length):=by
     refine⟨?_,by rw[HR.out],?_⟩
     ·rw[HR.out,HX.out,LB hpos,SC.out]
     ·rw[HX.out];exact(HM.out _ (AG hpos)).1
    go_wp2_with fail;go_ret2;refine⟨A2,_,c2,_,by rw[Pk.out.2.1];rfl,by rw[<-Pk.out.1,Pk.out.2.2],?_,aq⟩;rw[<-Pk.out.1,<-aq (w:=w)];exact XL.out.wide
theorem JT(r:eE)(h:Sa.aL)(hv:Sa.valid h=true)(B:Nat)(w:nJ)[hB:Le B w](hH:bS B w r h):Calls nH 144 #[eW r h] w fun e w'=>e=.returned (.tuple #[.int .i64 (nC h).1,.int .i64 (nC h).2])/\∃δ,w'=af w δ:=by
 have HH:=qh hH;have HV:=qh hv;obtain⟨kA,kc,pA,pc,bA,bc⟩:=r;clear hH hv;by_cases hp:Sa.bH h=[]
 ·have HR:Hid (jM h=([],3)/\nC h=(0,3)):=by unfold Hid jM nC;rw[if_pos hp,if_pos hp];exact⟨rfl,rfl⟩
  clear hp;go_enter Tryz.func144,Tryz.ntmps144;go_wp2_with (go_at_call 148;refine(Ba ⟨kA,kc,pA,pc,bA,bc⟩ h HV.out B _ HH.out.up).mono ?_;rintro e w1 ⟨A1,m1,c1,δ1,rfl,_,hs,rfl⟩;clear hs;rw[HR.out.1]);go_ret2;exact⟨by rw[HR.out.2];rfl,ag⟩
 ·have HR:Hid (jM h=(Me.least (Sa.cF h) (Sa.bH h),0)/\nC h=(Sa.cF h (Me.least (Sa.cF h) (Sa.bH h)),0)):=by unfold Hid jM nC;rw[if_neg hp,if_neg hp];exact⟨rfl,rfl⟩
  have HM:=qh (tI (Me.fJ (Sa.cF h) hp));obtain⟨x,hx⟩:∃x,Me.least (Sa.cF h) (Sa.bH h)=x:=⟨_,rfl⟩;rw[hx] at HR HM;clear hp hx;obtain⟨v,pH⟩:∃v,Sa.cF h x=v:=⟨_,rfl⟩;rw[pH] at HR;have HW:=qh pH;clear pH;go_enter Tryz.func144,Tryz.ntmps144;go_wp2_with (first|(go_at_call 148;refine(Ba ⟨kA,kc,pA,pc,bA,bc⟩ h HV.out B _ HH.out.up).mono ?_;rintro e w1 ⟨A1,m1,c1,δ1,rfl,hm,hs,rfl⟩;rw[HR.out.1] at hm hs ⊢;have HS:=qh hs;clear hs;have hm2:=hm.trans HM.out.1;subst hm2;clear hm)|(go_at_call 199;refine(mJ ⟨kA,kc,pA,pc,bA,bc⟩ h HV.out x HM.out.1 HM.out.2 v HW.out A1 _ c1 rfl _ _ HH.out.wide HS.out).mono ?_;rintro e w1 ⟨rfl,δ2,rfl⟩));go_ret2;exact⟨by rw[HR.out.2];rfl,ag⟩
def oa(h:Sa.aL)(d:Int)(L:List (List Int)):Int:=L.foldl (fun n l=>max n (Sa.iJ h d l)) 0
theorem Gw(h:Sa.aL)(d:Int)(L:List (List Int))(l:List Int):oa h d (L++[l])=max (oa h d L) (Sa.iJ h d l):=by simp[oa]
theorem D0(f:List Int->Int):∀(L:List (List Int)) (a m:Int),L.foldl (fun n l=>max n (f l)) a<=m↔a<=m/\∀l∈L,f l<=m
 |[],a,m=>by simp
 |x::L,a,m=>by
  rw[List.foldl_cons,D0 f L];simp only[List.mem_cons,forall_eq_or_imp];constructor
  ·rintro⟨h1,h2⟩;exact⟨nQ,nQ,h2⟩
  ·rintro⟨h1,h2,h3⟩;exact⟨nQ,h3⟩
theorem tS{h:Sa.aL}{d m:Int}{L:List (List Int)}:oa h d L<=m↔0<=m/\∀l∈L,Sa.iJ h d l<=m:=D0 _ L 0 m
theorem Au{h:Sa.aL}(hv:Sa.valid h=true)(d:Int){l:List Int}(hl:l.length=h.parts.length):0<=Sa.iJ h d l/\Sa.iJ h d l<=1500:=by have:=Ed hv d l (Nat.le_of_eq hl);unfold fY at this;omega
theorem Kq{h:Sa.aL}(hv:Sa.valid h=true)(d:Int)(hp:Sa.bH h≠[]):oa h d (Sa.bH h)=Sa.iJ h d (Me.least (fY h d) (Sa.bH h)):=by
 have hm:=Me.fJ (fY h d) hp;have hb:=Au hv d (tI hm).1;apply Int.le_antisymm
 ·refine tS.2 ⟨hb.1,fun l hl=>?_⟩;have:=Me.least_le (fY h d) hl;unfold fY at this ⊢;omega
 ·exact(tS.1 (Int.le_refl (oa h d (Sa.bH h)))).2 _ hm
theorem Na{h:Sa.aL}(hv:Sa.valid h=true)(d:Int)(k:Nat):0<=oa h d ((Sa.bH h).take k)/\oa h d ((Sa.bH h).take k)<=1500:=by refine⟨(tS.1 (Int.le_refl (oa h d ((Sa.bH h).take k)))).1,tS.2 ⟨nQ,fun l hl=>?_⟩⟩;exact(Au hv d (tI (List.mem_of_mem_take hl)).1).2
theorem MD(r:eE)(h:Sa.aL)(hv:Sa.valid h=true)(d:Int)(B:Nat)(w:nJ)[hB:Le B w](hH:bS B w r h):Calls nH 145 #[eW r h,.int .i64 d] w fun e w'=>e=.returned (.tuple #[.int .i64 (jj h d).1,.int .i64 (jj h d).2])/\∃δ,w'=af w δ:=by
 have HH:=qh hH;have HV:=qh hv;have hpl:=tH h hv;obtain⟨kA,kc,pA,pc,bA,bc⟩:=r;clear hH hv;by_cases hp:fj 0 20 d=false\/Sa.bH h=[]
 ·obtain⟨q,hq⟩:∃q,fj 0 20 d=q:=⟨_,rfl⟩;obtain⟨x,hx,hx0⟩:∃x,EN h q=x/\x≠0:=by
   refine⟨_,rfl,?_⟩;unfold EN;rw[hq] at hp;rcases hp with hp|hp
   ·rw[if_pos hp];decide
   ·split
    ·decide
    ·decide
  have HE:=qh hx;have Zu:=qh hx0;have HQ:=qh hq;have HR:Hid (jj h d=(0,x)):=by
   unfold Hid jj;rw[<-hx];unfold EN;rw[hq];rw[hq] at hp;rcases hp with hp|hp
   ·rw[if_pos hp,if_pos hp]
   ·split
    ·rfl
    ·rfl
  have hxn:(x != 0)=true:=by simpa using hx0
  clear hx hq hp hx0;go_enter Tryz.func145,Tryz.ntmps145;go_wp2_with fail;go_region_held3 (fun w'=>w'.cell? ⟨w.heap.size,0,none⟩=some (.slice kA h.kinds.length kc)/\w'.cell? ⟨w.heap.size,1,none⟩=some (.int .i64 h.floor)/\w'.cell? ⟨w.heap.size,2,none⟩=some (.slice pA h.parts.length pc)/\w'.cell? ⟨w.heap.size,3,none⟩=some (.slice bA h.bars.length bc)) (refine⟨?_,?_,?_,?_⟩<;>go_simp) (first|(go_at_call 201;refine(CZ d _).mono ?_;rw[HQ.out];rintro e w1 ⟨rfl,rfl⟩)|(go_at_call 200;refine(nI ⟨kA,kc,pA,pc,bA,bc⟩ h HV.out q B _ (iP.2 HH.out.up)).mono ?_;rintro e w1 ⟨A1,n1,c1,δ1,rfl,rfl,hs⟩;clear hs;rw[HE.out]));all_goals go_wp2
  all_goals go_ret2
  all_goals exact⟨by rw[HR.out];rfl,ag⟩
 ·obtain⟨hq,hp⟩:=not_or.1 hp;rw[Bool.not_eq_false] at hq;have HE:Hid (EN h true=0):=by unfold Hid EN;rw[if_neg nV,if_neg hp]
  have HR:Hid (jj h d=(oa h d (Sa.bH h),0)):=by unfold Hid jj;rw[if_neg (by rw[hq];simp),if_neg hp,Kq HV.out d hp]
  have HQ:=qh hq;have HBD:=qh (Na HV.out d);obtain⟨L,hL⟩:∃L,Sa.bH h=L:=⟨_,rfl⟩;have SC:=qh hL;have HM:Hid (∀l∈L,l.length=h.parts.length/\∀x∈l,x<(h.bars.length:Int)):=qh fun l hl=>tI (by rw[hL];exact hl);rw[hL] at hpl HR HBD;clear hp hL hq;go_enter Tryz.func145,Tryz.ntmps145;go_wp2_with fail;go_region_held3 (fun w'=>w'.cell? ⟨w.heap.size,0,none⟩=some (.slice kA h.kinds.length kc)/\w'.cell? ⟨w.heap.size,1,none⟩=some (.int .i64 h.floor)/\w'.cell? ⟨w.heap.size,2,none⟩=some (.slice pA h.parts.length pc)/\w'.cell? ⟨w.heap.size,3,none⟩=some (.slice bA h.bars.length bc)) (refine⟨?_,?_,?_,?_⟩<;>go_simp) (first|(go_at_call 201;refine(CZ d _).mono ?_;rw[HQ.out];rintro e w1 ⟨rfl,rfl⟩)|(go_at_call 200;refine(nI ⟨kA,kc,pA,pc,bA,bc⟩ h HV.out true B _ (iP.2 HH.out.up)).mono ?_;rintro e w1 ⟨A1,n1,c1,δ1,rfl,rfl,hs⟩;rw[HE.out];obtain⟨h1,h2⟩:=hs HE.out;rw[SC.out] at h1 h2;subst h1;clear hs;have HS:=qh h2;clear h2));all_goals go_wp2_with fail
  refine QAD ?_;intro W1 aE cz de cN cY dc rX lH jU kM;refine QCD ?_;intro oM;have me:Hid (uD 3 aH W1 A1 c1 L):=by rw[aE.out];exact HS
  have DZ:B<=W1.heap.size:=(inferInstance:Le B W1).out;clear aE HS;go_loopg [8,9] L.length (fun gg n i wr=>∃(k:Nat) (δ:nJ),k<=L.length/\gg=L.length-k/\n=.int .i64 (oa h d (L.take k))/\i=.int .i64 k/\wr=af W1 δ)
  case atStart=>exact⟨0,W1,nE _,rfl,rfl,rfl,(aY W1).symm⟩
  case round=>
   obtain⟨k,δ,hk,rfl,rfl,rfl,rfl⟩:=hrel;by_cases hlt:k<L.length
   ·have hki:(k:Int)<(L.length:Int):=nQ;have hk0:¬(k:Int)<0:=nQ;obtain⟨b3,o3,A3,c3,rfl,NW,d3,s3⟩:=me.out.nth hlt (HM.out _ (aS _ hlt)).1;have ib3:Lt b3 W1:=⟨NW⟩;have si:Hid (Sl aH W1.heap.size W1 A3 c3 (nth L k)):=qh s3.plain;have ri:Hid (oa h d (L.take (k+1))=max (oa h d (L.take k)) (Sa.iJ h d (nth L k))):=by unfold Hid;rw[bu L hlt,Gw]
    have RM:=qh (HM.out _ (aS _ hlt));obtain⟨y,hy⟩:∃y,nth L k=y:=⟨_,rfl⟩;rw[hy] at si ri RM;obtain⟨u,hu⟩:∃u,Sa.iJ h d y=u:=⟨_,rfl⟩;obtain⟨n,hn⟩:∃n,oa h d (L.take k)=n:=⟨_,rfl⟩;rw[hu,hn] at ri;rw[hn];have HU:=qh hu;obtain⟨m,hm⟩:∃m,max n u=m:=⟨_,rfl⟩;rw[hm] at ri;have m1:(if n<u then u else n)=m:=by rw[<-hm,Int.max_def];split<;>split<;>omega
    have U6:=qh hm;clear hu hn hy s3 NW hm;go_wp2_with fail;refine wpRl ?_;repeat (go_big_quiet_step ((first|(go_at_call 202;exact Calls.bU (FT ⟨kA,kc,pA,pc,bA,bc⟩ h HV.out y RM.out.1 RM.out.2 d u HU.out A3 _ c3 rfl W1.heap.size _ (oM.out.more DZ).up si.out.up)))))
    refine QBY ?_;rintro _ ⟨δq,rfl⟩;go_wp2_with fail;go_roundg (L.length-(k+1))
    case measure=>omega
    case rel=>exact⟨k+1,_,nQ,rfl,by rw[ri.out],by go_num,aq⟩
   ·obtain rfl:k=L.length:=by omega
    go_wp2_with fail;go_ret2;exact⟨by rw[HR.out,List.take_length];rfl,ag⟩
end Go.Proofs.YtcjjlikhlmfedaaGreatDoor
