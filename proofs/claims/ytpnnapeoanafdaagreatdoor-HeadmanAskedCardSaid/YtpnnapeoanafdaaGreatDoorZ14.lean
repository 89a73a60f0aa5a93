/- A part of the proof that a law of layer 12 holds, cut small by a program (names and blanks): Sa1, Sa4, Sa2, Sa3, Sa5, Sa6, Sa7. -/
import Derived.Deep.RegionWith
import Derived.Deep.RegionLaw
import Derived.Sort.LoopGhostIn
import Derived.Test.YtpnnapeoanafdaaGreatDoorZ2
import Derived.Test.YtpnnapeoanafdaaGreatDoorZ11
set_option maxRecDepth 100000
set_option maxHeartbeats 40000000
set_option linter.unusedVariables false
set_option linter.unusedSimpArgs false
namespace Go.Proofs.YtpnnapeoanafdaaGreatDoor
open Go.RowKit
open Nat renaming le_trans → nT, lt_of_lt_of_le → nL, le_refl → nR, zero_le → nE, le_of_lt → nS, lt_succ_self → nA
open Go.Proofs.Tryz renaming prog → nH
open Go renaming World → nJ, Value → nK
def rG(x:Sa.Kind):List nK:=[.int .i64 x.fV,.int .i64 x.days]
def jH(x:Sa.Part):List nK:=[.int .i64 x.kind,.int .i64 x.bG]
structure eT where
 kA:Option Addr
 kc:Nat
 pA:Option Addr
 pc:Nat
 bA:Option Addr
 bc:Nat
abbrev fu(r:eT)(h:Sa.aJ):nK:=.agg #[.slice r.kA h.kinds.length r.kc,.int .i64 h.floor,.slice r.pA h.parts.length r.pc,.slice r.bA h.bars.length r.bc]
def bW(B:Nat)(w:nJ)(r:eT)(h:Sa.aJ):Prop:=Sl rG B w r.kA r.kc h.kinds/\Sl jH B w r.pA r.pc h.parts/\Sl aI B w r.bA r.bc h.bars
section
variable{B:Nat}{w:nJ}{r:eT}{h:Sa.aJ}
@[go_sem] theorem qN(δ:nJ)[hB:Le B w]:bW B (ah w δ) r h↔bW B w r h:=by simp only[bW,Bn]
@[go_sem] theorem jy:bW B w.drew r h↔bW B w r h:=Iff.rfl
theorem bW.up{w':nJ}(k:bW B w r h)[hg:aD B w w']:bW B w' r h:=⟨k.1.up,k.2.1.up,k.2.2.up⟩
theorem bW.more(k:bW B w r h){B':Nat}(hB:B<=B'):bW B' w r h:=⟨k.1.more hB,k.2.1.more hB,k.2.2.more hB⟩
theorem bW.wide{W:nJ}(k:bW B w r h)[aD B w W][hB:Le B W]:bW W.heap.size W r h:=⟨k.1.wide,k.2.1.wide,k.2.2.wide⟩
theorem bW.eN{S:Nat->Prop}{w':nJ}(k:bW B w r h)(hk:bI S w w')(hB:B<=w.heap.size)(hs:∀b,S b->B<=b):bW B w' r h:=⟨hk.Uw k.1 hB hs,hk.Uw k.2.1 hB hs,hk.Uw k.2.2 hB hs⟩
theorem Sl.kind{A:Option Addr}{c:Nat}{xs:List Sa.Kind}(h:Sl rG B w A c xs){k:Nat}(hk:k<xs.length):∃b o,A=some ⟨b,o,none⟩/\b<B/\w.cell? ⟨b,o+k*2,none⟩=some (.int .i64 (nth xs k).fV)/\w.cell? ⟨b,o+k*2+1,none⟩=some (.int .i64 (nth xs k).days):=by obtain⟨b,o,hA,hb,hc⟩:=h.at_ (size:=2) (fun _=>rfl) hk nQ;rw[bN _ hk];exact⟨b,o,hA,hb,hc 0 _ rfl,hc 1 _ rfl⟩
theorem Sl.part{A:Option Addr}{c:Nat}{xs:List Sa.Part}(h:Sl jH B w A c xs){k:Nat}(hk:k<xs.length):∃b o,A=some ⟨b,o,none⟩/\b<B/\w.cell? ⟨b,o+k*2,none⟩=some (.int .i64 (nth xs k).kind)/\w.cell? ⟨b,o+k*2+1,none⟩=some (.int .i64 (nth xs k).bG):=by obtain⟨b,o,hA,hb,hc⟩:=h.at_ (size:=2) (fun _=>rfl) hk nQ;rw[bN _ hk];exact⟨b,o,hA,hb,hc 0 _ rfl,hc 1 _ rfl⟩
end
theorem JT(n low high:Int)(w:nJ):Calls nH 63 #[.int .i64 n,.int .i64 low,.int .i64 high] w fun e w'=>e=.returned (.bool (fH low high n))/\w=w':=by
 go_enter Tryz.func63,Tryz.ntmps63;by_cases h1:low<=n
 ·go_wp2;go_ret;exact⟨bg (by simp[fH,h1]),rfl⟩
 ·go_wp2;go_ret;exact⟨bg (by simp[fH];omega),rfl⟩
def Xb(c:Sa.jJ):nK:=.agg #[.int .i64 c.parts,.int .i64 c.bG,.int .i64 c.dP,.int .i64 c.days]
def kf(f:Nat->Sa.jJ):Array nK:=#[.int .i64 (f 0).parts,.int .i64 (f 0).bG,.int .i64 (f 0).dP,.int .i64 (f 0).days,.int .i64 (f 1).parts,.int .i64 (f 1).bG,.int .i64 (f 1).dP,.int .i64 (f 1).days,
 .int .i64 (f 2).parts,.int .i64 (f 2).bG,.int .i64 (f 2).dP,.int .i64 (f 2).days,.int .i64 (f 3).parts,.int .i64 (f 3).bG,.int .i64 (f 3).dP,.int .i64 (f 3).days,.int .i64 (f 4).parts,.int .i64 (f 4).bG,.int .i64 (f 4).dP,.int .i64 (f 4).days]
def Nq(f:Nat->Sa.jJ)(i:Nat)(c:Sa.jJ)(j:Nat):Sa.jJ:=if j=i then c else f j
theorem P6(f:Nat->Sa.jJ){i:Nat}(hi:i<5)(c:Sa.jJ):((((kf f).setIfInBounds (i*4) (.int .i64 c.parts)).setIfInBounds (i*4+1) (.int .i64 c.bG)).setIfInBounds (i*4+2) (.int .i64 c.dP)).setIfInBounds (i*4+3) (.int .i64 c.days)=kf (Nq f i c):=by
 obtain rfl|rfl|rfl|rfl|rfl:i=0\/i=1\/i=2\/i=3\/i=4:=by omega
 all_goals simp[kf,Nq]
theorem Bd(f:Nat->Sa.jJ){i:Nat}(hi:i<5):(kf f)[i*4]?=some (.int .i64 (f i).parts)/\(kf f)[i*4+1]?=some (.int .i64 (f i).bG)/\(kf f)[i*4+2]?=some (.int .i64 (f i).dP)/\(kf f)[i*4+3]?=some (.int .i64 (f i).days):=by
 obtain rfl|rfl|rfl|rfl|rfl:i=0\/i=1\/i=2\/i=3\/i=4:=by omega
 all_goals exact⟨rfl,rfl,rfl,rfl⟩
theorem XF(r:eT)(h:Sa.aJ)(hv:Sa.valid h=true)(f:Nat->Sa.jJ)(i k:Nat)(o:Nat)(ho:o=i*4)(hi:i<5)(hk:k<h.parts.length)(n:Int)(hn:n<=6)(hf:Sa.Fair n (f i))(B b:Nat)(T:TypeId)(w:nJ)(hH:bW B w r h)[hB:Le B w](hb:ay w b T (kf f)):Calls nH 175 #[.pointer (some ⟨b,o,none⟩),fu r h,.int .i64 k] w fun e w'=>(∃v,e=.returned v)/\ay w' b T (kf (Nq f i (Sa.oR h (f i) (nth h.parts k))))/\bI (fun x=>x=b) w w':=by
 subst ho;obtain⟨kA,kc,pA,pc,bA,bc⟩:=r;have hc:=P6 f hi (Sa.oR h (f i) (nth h.parts k));obtain⟨z0,z1,z2,z3⟩:=Bd f hi;have d0:=hb.cell z0;have d1:=hb.cell z1;have d2:=hb.cell z2;have d3:=hb.cell z3;have f0:=hb.free (i*4);have f1:=hb.free (i*4+1);have f2:=hb.free (i*4+2);have f3:=hb.free (i*4+3);have ib:=hb.lt;obtain⟨Je,k1,k2⟩:=Sa.qF hv (aR _ hk);have hp:=(Sa.aC.1 hv).2.2.1 _ (aR _ hk);have hlp:=hH.2.1.len;have hlk:=hH.1.len;obtain⟨j,hj⟩:∃j:Nat,(nth h.parts k).kind=j:=⟨(nth h.parts k).kind.toNat,nQ⟩;have hjt:(nth h.parts k).kind.toNat=j:=nQ;unfold Sa.kindOf at k1 k2;rw[hjt] at Je k1 k2;obtain⟨bp,op,rfl,BG,p0,p1⟩:=hH.2.1.part hk;obtain⟨bk,ok,rfl,hbk,q0,q1⟩:=hH.1.kind Je;have ip:Lt bp w:=⟨nL BG hB.out⟩;have ik:Lt bk w:=⟨nL hbk hB.out⟩;have HX:=qh hb;have F:=hf;unfold Sa.Fair at F;rw[hj] at p0;obtain⟨q,hq⟩:∃q,nth h.kinds j=q:=⟨_,rfl⟩;obtain⟨p,hp'⟩:∃p,(nth h.parts k).bG=p:=⟨_,rfl⟩;have Xn:Hid (Sa.oR h (f i) (nth h.parts k)=⟨(f i).parts+1,(f i).bG+p,max (f i).dP q.fV,max (f i).days q.days⟩):=by unfold Hid Sa.oR Sa.kindOf;rw[hjt,hq,hp']
 rw[hq] at q0 q1 k1 k2;rw[hp'] at p1 hp;obtain⟨x,hx⟩:∃x,max (f i).dP q.fV=x:=⟨_,rfl⟩;obtain⟨y,hy⟩:∃y,max (f i).days q.days=y:=⟨_,rfl⟩;rw[hx,hy] at Xn;rw[Xn.out] at hc ⊢;have HC:=qh hc;have m1:(if (f i).dP<q.fV then q.fV else (f i).dP)=x:=by rw[<-hx,Int.max_def];split<;>split<;>omega
 have m2:(if (f i).days<q.days then q.days else (f i).days)=y:=by rw[<-hy,Int.max_def];split<;>split<;>omega
 have hki:(k:Int)<(h.parts.length:Int):=nQ;have hk0:¬(k:Int)<0:=nQ;have hji:(j:Int)<(h.kinds.length:Int):=nQ;have hj0:¬(j:Int)<0:=nQ;have HY:=qh (And.intro hx hy);clear hb hc hH hf hv hx hy hq hp' Xn hj hjt;go_enter Tryz.func175,Tryz.ntmps175;go_wp2_with fail;go_region;go_wp2_with fail;go_region;go_wp2_with fail;go_end0;refine⟨⟨_,rfl⟩,?_,?_⟩
 ·rw[<-HC.out];exact(((((((HX.out.set _ _).set _ _).set _ _).set _ _).alloc _).alloc _).alloc _).drew.drew
 ·exact(((((((((bI.refl (fun x=>x=b) w).set rfl _ _).set rfl _ _).set rfl _ _).set rfl _ _).alloc _).alloc _).alloc _).drew).drew
theorem sG(c:Sa.jJ)(fl:Int)(hf:0<=fl/\fl<=9)(hc:Sa.Fair 6 c)(w:nJ):Calls nH 69 #[Xb c,.int .i64 fl] w fun e w'=>e=.returned (.int .i64 (Sa.ir fl c))/\∃δ,w'=ah w δ:=by
 obtain⟨a,b,s,d⟩:=c;unfold Xb;unfold Sa.Fair at hc;simp only[] at hc ⊢;have hm:=Sa.zZ hc.2.1 hc.2.2.1;have hs:Sa.ir fl ⟨a,b,s,d⟩=if a=0 then 0 else fl+(b*s+9) / 10:=rfl;by_cases h0:a=0
 ·rw[hs,if_pos h0];subst h0;go_enter Tryz.func69,Tryz.ntmps69;go_wp2;go_ret;exact⟨rfl,ag⟩
 ·rw[hs,if_neg h0];have hd:(a==0)=false:=by simp[h0]
  have hq:(b*s+9).tdiv 10=(b*s+9) / 10:=Int.tdiv_eq_ediv_of_nonneg nQ;go_enter Tryz.func69,Tryz.ntmps69;go_wp2;go_ret;exact⟨rfl,ag⟩
theorem dh{n low high:Int}{b:Bool}(h:fH low high n=b)(w:nJ):Calls nH 63 #[.int .i64 n,.int .i64 low,.int .i64 high] w fun e w'=>e=.returned (.bool b)/\w=w':=by subst h;exact JT n low high w
theorem CC(n:Int)(b:Bool)(h:fH 0 99 n=b)(w:nJ):Calls nH 111 #[.int .i64 n] w fun e w'=>e=.returned (.bool (!b))/\∃δ,w'=ah w δ:=by have H:=qh h;clear h;go_enter Tryz.func111,Tryz.ntmps111;go_wp2_with (go_at_call 63;refine(dh H.out _).mono ?_;rintro e w1 ⟨rfl,rfl⟩);go_ret;exact⟨rfl,ag⟩
theorem mR{α:Type}[Inhabited α]{p:α->Bool}{xs:List α}{k:Nat}(hk:k<xs.length)(h:p (nth xs k)=false):xs.all p=false:=by rw[List.all_eq_false];exact⟨_,aR _ hk,by simp[h]⟩
theorem qM{α:Type}[Inhabited α]{p:α->Bool}{xs:List α}{k:Nat}(hk:k<xs.length)(h:(xs.take k).all p=true)(h2:p (nth xs k)=true):(xs.take (k+1)).all p=true:=by rw[bz xs hk,List.all_append,h];simp[h2]
theorem Gc(A:Option Addr)(c:Nat)(xs:List Int)(B:Nat)(w:nJ)(hS:Sl aI B w A c xs)[hB:Le B w]:Calls nH 173 #[.slice A xs.length c,.func (.func 111) #[] #[]] w fun e w'=>∃i:Int,e=.returned (.int .i64 i)/\(0<=i↔xs.all (fH 0 99)=false)/\∃δ,w'=ah w δ:=by
 have HS:=qh hS;have hcl:=hS.len;clear hS;go_enter Tryz.func173,Tryz.ntmps173;go_wp2;go_loopg [8] xs.length (fun g i wr=>∃(k:Nat) (δ:nJ),k<=xs.length/\g=xs.length-k/\i=.int .i64 k/\Hid ((xs.take k).all (fH 0 99)=true)/\wr=ah w δ)
 case atStart=>exact⟨0,w,nE _,rfl,rfl,rfl,(bw w).symm⟩
 case round=>
  obtain⟨k,δ,hk,rfl,rfl,HK,rfl⟩:=hrel;by_cases hlt:k<xs.length
  ·obtain⟨b,o,rfl,hb,d0⟩:=HS.out.int hlt;have ib:Lt b w:=⟨nL hb hB.out⟩;have hki:(k:Int)<(xs.length:Int):=nQ;have hk0:¬(k:Int)<0:=nQ;rcases hq:fH 0 99 (nth xs k) with _|_
   ·have HF:=qh (mR hlt hq);have HQ:=qh hq;clear hq;go_wp2_with (go_at_call 111;refine(CC _ _ HQ.out _).mono ?_;rintro e w1 ⟨rfl,δ1,rfl⟩);go_ret;exact⟨k,rfl,⟨fun _=>HF.out,fun _=>by omega⟩,ag⟩
   ·have HQ:=qh hq;have uy:=qh (qM hlt HK.out hq);clear hq;go_wp2_with (go_at_call 111;refine(CC _ _ HQ.out _).mono ?_;rintro e w1 ⟨rfl,δ1,rfl⟩);go_roundg (xs.length-(k+1))
    case measure=>omega
    case rel=>exact⟨k+1,_,hlt,rfl,by go_num,uy,ai⟩
  ·obtain rfl:k=xs.length:=by omega
   have HF:Hid (xs.all (fH 0 99)=true):=by have:=HK.out;rw[List.take_length] at this;exact this
   go_wp2;go_ret;exact⟨-1,rfl,⟨fun h=>by omega,fun h=>by rw[HF.out] at h;cases h⟩,ag⟩
theorem CD(A:Option Addr)(c:Nat)(xs:List Int)(b:Bool)(hb:xs.all (fH 0 99)=b)(B:Nat)(w:nJ)(hS:Sl aI B w A c xs)[hB:Le B w]:Calls nH 110 #[.slice A xs.length c,.func (.func 111) #[] #[]] w fun e w'=>e=.returned (.bool (!b))/\∃δ,w'=ah w δ:=by
 have HS:=qh hS;have HB:=qh hb;clear hS hb;go_enter Tryz.func110,Tryz.ntmps110;go_wp2_with (go_at_call 173;refine(Gc A c xs B _ HS.out.up).mono ?_;rintro e w1 ⟨i,rfl,hi,δ,rfl⟩;have HI:=qh hi;clear hi);go_ret;refine⟨bg ?_,ag⟩;have hi:=HI.out;rw[HB.out] at hi;cases b
 ·exact decide_eq_true (hi.2 rfl)
 ·exact decide_eq_false (fun h=>by cases hi.1 h)
theorem sn{h:Sa.aJ}(hv:Sa.valid h=false):Ending.returned (.int .i64 80)=Ending.returned (Value.int .i64 (cD (Sa.valid h) 80)):=by rw[hv];rfl
theorem vM(k:Sa.Kind):(Sa.oN k=true/\fH 0 9 k.fV=true/\fH 0 20 k.days=true)\/(Sa.oN k=false/\fH 0 9 k.fV=false)\/(Sa.oN k=false/\fH 0 9 k.fV=true/\fH 0 20 k.days=false):=by unfold Sa.oN;cases fH 0 9 k.fV<;>cases fH 0 20 k.days<;>simp
theorem vL(n:Int)(p:Sa.Part):(Sa.mH n p=true/\fH 0 (n-1) p.kind=true/\fH 0 40 p.bG=true)\/(Sa.mH n p=false/\fH 0 (n-1) p.kind=false)\/(Sa.mH n p=false/\fH 0 (n-1) p.kind=true/\fH 0 40 p.bG=false):=by unfold Sa.mH;cases fH 0 (n-1) p.kind<;>cases fH 0 40 p.bG<;>simp
theorem ek{h:Sa.aJ}(hb:Sa.oM h=false\/h.kinds.all Sa.oN=false\/h.parts.all (Sa.mH h.kinds.length)=false\/h.bars.all (fH 0 99)=false):Sa.valid h=false:=by unfold Sa.valid;rcases hb with h|h|h|h<;>rw[h]<;>simp
theorem Gd(r:eT)(h:Sa.aJ)(B:Nat)(w:nJ)(hH:bW B w r h)[hB:Le B w]:Calls nH 65 #[fu r h] w fun e w'=>e=.returned (.int .i64 (cD (Sa.valid h) 80))/\∃δ,w'=ah w δ:=by
 have HH:=qh hH;have l1:=hH.1.len;have l2:=hH.2.1.len;have l3:=hH.2.2.len;obtain⟨kA,kc,pA,pc,bA,bc⟩:=r;clear hH;by_cases t1:(3:Int)<(h.kinds.length:Int)
 ·have HB:=qh (sn (ek (h:=h) (.inl (by unfold Sa.oM;rw[decide_eq_false nQ];simp))));go_enter Tryz.func65,Tryz.ntmps65;go_wp2;go_ret;exact⟨HB.out,ag⟩
 rcases t2:fH 0 9 h.floor with _|_
 ·have HB:=qh (sn (ek (h:=h) (.inl (by unfold Sa.oM;rw[t2];simp))));have T2:=qh t2;clear t2;go_enter Tryz.func65,Tryz.ntmps65;go_wp2_with (go_at_call 63;refine(dh T2.out _).mono ?_;rintro e w1 ⟨rfl,rfl⟩);go_ret;exact⟨HB.out,ag⟩
 have T2:=qh t2;by_cases t3:(6:Int)<(h.parts.length:Int)
 ·have HB:=qh (sn (ek (h:=h) (.inl (by unfold Sa.oM;rw[decide_eq_false (p:=h.parts.length<=6) nQ];simp))));clear t2;go_enter Tryz.func65,Tryz.ntmps65;go_wp2_with (go_at_call 63;refine(dh T2.out _).mono ?_;rintro e w1 ⟨rfl,rfl⟩);go_ret;exact⟨HB.out,ag⟩
 by_cases t4:(4:Int)<(h.bars.length:Int)
 ·have HB:=qh (sn (ek (h:=h) (.inl (by unfold Sa.oM;rw[decide_eq_false (p:=h.bars.length<=4) nQ];simp))));clear t2;go_enter Tryz.func65,Tryz.ntmps65;go_wp2_with (go_at_call 63;refine(dh T2.out _).mono ?_;rintro e w1 ⟨rfl,rfl⟩);go_ret;exact⟨HB.out,ag⟩
 have HT:Hid (Sa.oM h=true):=by unfold Hid Sa.oM;rw[t2];simp;omega
 clear t2;go_enter Tryz.func65,Tryz.ntmps65;go_wp2_with (go_at_call 63;refine(dh T2.out _).mono ?_;rintro e w1 ⟨rfl,rfl⟩);refine QAE ?_;intro W1 aH cJ dF cW di dz uu nt lC mQ;refine QCD ?_;intro qo;clear aH;go_loopg [4,32] h.kinds.length (fun g z i wr=>∃(k:Nat) (δ:nJ),k<=h.kinds.length/\g=h.kinds.length-k/\i=.int .i64 k/\Hid ((h.kinds.take k).all Sa.oN=true)/\wr=ah W1 δ)
 case atStart=>exact⟨0,W1,nE _,rfl,rfl,rfl,(bw _).symm⟩
 case round=>
  obtain⟨k,δ,hk,rfl,rfl,HK,rfl⟩:=hrel;by_cases hlt:k<h.kinds.length
  ·obtain⟨b,o,rfl,hb,d0,d1⟩:=qo.out.1.kind hlt;have ib:Lt b W1:=⟨nL hb cJ.out⟩;have hki:(k:Int)<(h.kinds.length:Int):=nQ;have hk0:¬(k:Int)<0:=nQ;rcases vM (nth h.kinds k) with⟨c0,c1,c2⟩|⟨c0,c1⟩|⟨c0,c1,c2⟩
   ·have uy:=qh (qM hlt HK.out c0);have C1:=qh c1;have C2:=qh c2;clear c0 c1 c2;go_wp2_with (go_at_call 63;first|(with_reducible refine(dh C1.out _).mono ?_;rintro e w1 ⟨rfl,rfl⟩)|(with_reducible refine(dh C2.out _).mono ?_;rintro e w1 ⟨rfl,rfl⟩));go_roundg (h.kinds.length-(k+1))
    case measure=>omega
    case rel=>exact⟨k+1,_,hlt,rfl,by go_num,uy,ai⟩
   ·have HB:=qh (sn (ek (h:=h) (.inr (.inl (mR hlt c0)))));have C1:=qh c1;clear c0 c1;go_wp2_with (go_at_call 63;refine(dh C1.out _).mono ?_;rintro e w1 ⟨rfl,rfl⟩);go_ret;exact⟨HB.out,ag⟩
   ·have HB:=qh (sn (ek (h:=h) (.inr (.inl (mR hlt c0)))));have C1:=qh c1;have C2:=qh c2;clear c0 c1 c2;go_wp2_with (go_at_call 63;first|(with_reducible refine(dh C1.out _).mono ?_;rintro e w1 ⟨rfl,rfl⟩)|(with_reducible refine(dh C2.out _).mono ?_;rintro e w1 ⟨rfl,rfl⟩));go_ret;exact⟨HB.out,ag⟩
  ·obtain rfl:k=h.kinds.length:=by omega
   have HKA:Hid (h.kinds.all Sa.oN=true):=by have:=HK.out;rw[List.take_length] at this;exact this
   clear HK;go_wp2_with fail;go_loopg [6,50] h.parts.length (fun g z i wr=>∃(k:Nat) (δ:nJ),k<=h.parts.length/\g=h.parts.length-k/\i=.int .i64 k/\Hid ((h.parts.take k).all (Sa.mH h.kinds.length)=true)/\wr=ah W1 δ)
   case atStart=>exact⟨0,_,nE _,rfl,rfl,rfl,ai⟩
   case round=>
    obtain⟨k,δ,hk,rfl,rfl,HK,rfl⟩:=hrel;by_cases hlt:k<h.parts.length
    ·obtain⟨b,o,rfl,hb,d0,d1⟩:=qo.out.2.1.part hlt;have ib:Lt b W1:=⟨nL hb cJ.out⟩;have hki:(k:Int)<(h.parts.length:Int):=nQ;have hk0:¬(k:Int)<0:=nQ;rcases vL (h.kinds.length:Int) (nth h.parts k) with⟨c0,c1,c2⟩|⟨c0,c1⟩|⟨c0,c1,c2⟩
     ·have uy:=qh (qM (p:=Sa.mH h.kinds.length) hlt HK.out c0);have C1:=qh c1;have C2:=qh c2;clear c0 c1 c2;go_wp2_with (go_at_call 63;first|(with_reducible refine(dh C1.out _).mono ?_;rintro e w1 ⟨rfl,rfl⟩)|(with_reducible refine(dh C2.out _).mono ?_;rintro e w1 ⟨rfl,rfl⟩));go_roundg (h.parts.length-(k+1))
      case measure=>omega
      case rel=>exact⟨k+1,_,hlt,rfl,by go_num,uy,ai⟩
     ·have HB:=qh (sn (ek (h:=h) (.inr (.inr (.inl (mR hlt c0))))));have C1:=qh c1;clear c0 c1;go_wp2_with (go_at_call 63;refine(dh C1.out _).mono ?_;rintro e w1 ⟨rfl,rfl⟩);go_ret;exact⟨HB.out,ag⟩
     ·have HB:=qh (sn (ek (h:=h) (.inr (.inr (.inl (mR hlt c0))))));have C1:=qh c1;have C2:=qh c2;clear c0 c1 c2;go_wp2_with (go_at_call 63;first|(with_reducible refine(dh C1.out _).mono ?_;rintro e w1 ⟨rfl,rfl⟩)|(with_reducible refine(dh C2.out _).mono ?_;rintro e w1 ⟨rfl,rfl⟩));go_ret;exact⟨HB.out,ag⟩
    ·obtain rfl:k=h.parts.length:=by omega
     have HPA:Hid (h.parts.all (Sa.mH h.kinds.length)=true):=by have:=HK.out;rw[List.take_length] at this;exact this
     clear HK;rcases hb:h.bars.all (fH 0 99) with _|_
     ·have HB:=qh (sn (ek (h:=h) (.inr (.inr (.inr hb)))));have Fl:=qh hb;clear hb;go_wp2_with (go_at_call 110;refine(CD bA bc h.bars _ Fl.out B _ qo.out.2.2.up).mono ?_;rintro e w1 ⟨rfl,δ1,rfl⟩);go_ret;exact⟨HB.out,ag⟩
     ·have HB:Hid (Ending.returned (.int .i64 0)=Ending.returned (Value.int .i64 (cD (Sa.valid h) 80))):=by unfold Hid Sa.valid;rw[HT.out,HKA.out,HPA.out,hb];rfl
      have Fl:=qh hb;clear hb;go_wp2_with (go_at_call 110;refine(CD bA bc h.bars _ Fl.out B _ qo.out.2.2.up).mono ?_;rintro e w1 ⟨rfl,δ1,rfl⟩);go_ret;exact⟨HB.out,ag⟩
def je(f:Nat->Sa.jJ):nK:=.agg (kf f)
theorem fe:gi nH 111 20:=gi.mk' Tryz.underlying111 rfl nP
theorem DV:gi nH 109 4:=gi.mk' Tryz.underlying109 rfl nP
theorem tR(f:Nat->Sa.jJ):(kf f).all (·.oneCell')=true:=by unfold kf;simp[Value.oneCell']
def dS(h:Sa.aJ)(l:List Int)(j:Nat):Sa.jJ:=Sa.jf h l (j:Int)
theorem LR(h:Sa.aJ)(l:List Int)(x:Nat):dS h (l++[(x:Int)])=Nq (dS h l) x (Sa.oR h (dS h l x) (nth h.parts l.length)):=by
 funext j;unfold dS Nq;rw[Sa.Dv];by_cases hj:j=x
 ·subst hj;rw[if_pos rfl,if_pos rfl]
 ·rw[if_neg nQ,if_neg hj]
theorem NH(r:eT)(h:Sa.aJ)(hv:Sa.valid h=true)(l:List Int)(hl:l.length<=h.parts.length)(hx:∀x∈l,0<=x/\x<5)(A:Option Addr)(c:Nat)(B:Nat)(w:nJ)(hH:bW B w r h)[hB:Le B w](hS:Sl aI B w A c l):Calls nH 114 #[fu r h,.slice A l.length c] w fun e w'=>e=.returned (je (dS h l))/\∃δ,w'=ah w δ:=by
 have HH:=qh hH;have HV:=qh hv;have HX:=qh hx;have HL:=qh hl;have VI:=hS.len;have h6:=(Sa.aC.1 hv).1.2.2.1;obtain⟨kA,kc,pA,pc,bA,bc⟩:=r;clear hH hv hx hl;go_enter Tryz.func114,Tryz.ntmps114;go_wp2_with fail;refine QCC ?_;intro W1 aH cJ dF cW di dz eL;refine QCN ?_;intro nt lC mQ jI;have xP:Hid (ay W1 (w.heap.size+1) 111 (kf (dS h (l.take 0)))):=by rw[aH.out];exact ay.new nV
 have HZ:Hid (W1.heap.size=w.heap.size+2):=by rw[aH.out];unfold Hid;simp
 have s1:Hid (Sl aI B W1 A c l):=qh hS.up;refine QCD ?_;intro qo;clear aH hS;go_loopg [5,6,9] l.length (fun gg z z2 i wr=>∃(k:Nat),k<=l.length/\gg=l.length-k/\i=.int .i64 k/\Hid (ay wr (w.heap.size+1) 111 (kf (dS h (l.take k))))/\Hid (bI (fun x=>x=w.heap.size+1) W1 wr))
 case atStart=>exact⟨0,nE _,rfl,rfl,xP,bI.refl _ _⟩
 case round=>
  obtain⟨k,hk,rfl,rfl,hBk,hK⟩:=hrel;have hcell:Hid (∀b o,b<w.heap.size+1->wr.cell? ⟨b,o,none⟩=W1.cell? ⟨b,o,none⟩):=qh (fun b o hb=>hK.out.cell (by have:=HZ.out;omega) nQ);have iw:Le B wr:=⟨nT cJ.out hK.out.size⟩;have ib:Lt (w.heap.size+1) wr:=hBk.out.lt;have dF:Lt w.heap.size wr:=⟨nL (by have:=HZ.out;omega) hK.out.size⟩;have HHr:Hid (bW B wr ⟨kA,kc,pA,pc,bA,bc⟩ h):=qh (qo.out.eN hK.out (by have:=HZ.out;have:=hB.out;omega) (by have:=hB.out;rintro b rfl;omega));by_cases hlt:k<l.length
  ·obtain⟨b,o,rfl,hb,d0⟩:=s1.out.int hlt;have Pm:b<w.heap.size+1:=by have:=hB.out;omega
   rw[<-hcell.out b _ Pm] at d0;have ibb:Lt b wr:=⟨by have:=ib.out;omega⟩;have hki:(k:Int)<(l.length:Int):=nQ;have hk0:¬(k:Int)<0:=nQ;obtain⟨x,hx⟩:∃x:Nat,nth l k=x:=⟨(nth l k).toNat,by have:=HX.out _ (aR _ hlt);omega⟩;have hx5:x<5:=by have:=HX.out _ (aR _ hlt);omega
   rw[hx] at d0;have hxi:(x:Int)<5:=nQ;have hx0:¬(x:Int)<0:=nQ;have hxm:((x:Int) != -1)=true:=nV;have e0:wr.cell? ⟨w.heap.size,0,none⟩=some (.slice kA h.kinds.length kc):=(hcell.out _ 0 (nA _)).trans nZ;have e1:wr.cell? ⟨w.heap.size,1,none⟩=some (.int .i64 h.floor):=(hcell.out _ 1 (nA _)).trans nZ;have e2:wr.cell? ⟨w.heap.size,2,none⟩=some (.slice pA h.parts.length pc):=(hcell.out _ 2 (nA _)).trans nZ;have e3:wr.cell? ⟨w.heap.size,3,none⟩=some (.slice bA h.bars.length bc):=(hcell.out _ 3 (nA _)).trans nZ;have HF:Hid (Sa.Fair 6 (dS h (l.take k) x)):=qh (Sa.fD HV.out (by rw[List.length_take];have:=HL.out;omega) _);have HKP:Hid (k<h.parts.length):=qh (by have:=HL.out;omega);have HX5:=qh hx5;have HN:Hid (dS h (l.take (k+1))=Nq (dS h (l.take k)) x (Sa.oR h (dS h (l.take k) x) (nth h.parts k))):=by unfold Hid;rw[bz l hlt,hx,LR,List.length_take,Nat.min_eq_left (nS hlt)]
   go_wp2_with fail;go_region_with (go_at_call 175;refine(XF ⟨kA,kc,pA,pc,bA,bc⟩ h HV.out (dS h (l.take k)) x k (x*4) rfl HX5.out HKP.out 6 (Int.le_refl _) HF.out B (w.heap.size+1) _ _ (jy.2 HHr.out) hBk.out.drew).mono ?_;rintro e w2 ⟨⟨v,rfl⟩,fX,hk2⟩);go_wp2;go_roundg (l.length-(k+1))
   case measure=>omega
   case rel=>exact⟨k+1,hlt,rfl,by go_num,by rw[HN.out];exact fX,hK.out.trans (((bI.refl _ _).drew).trans hk2)⟩
  ·obtain rfl:k=l.length:=by omega
   have HBF:Hid (ay wr (w.heap.size+1) 111 (kf (dS h l))):=by have:=hBk.out;rw[List.take_length] at this;exact this
   clear hBk;go_wp2_with (first|(refine au fe rfl _ rfl rfl HBF.out rfl ?_)|(refine ak fe rfl _ _ rfl rfl rfl HBF.out rfl rfl (tR _) ?_;intro W2 fX hk2));refine iI fe Tryz.results114 rfl fX rfl ⟨rfl,fo (w:=w) (hK.out.trans hk2) (by rintro b rfl;omega)⟩
def AJ(h:Sa.aJ)(f:Nat->Sa.jJ):Bool:=(List.range h.bars.length).all fun b=>decide (Sa.qC h.floor (f b)<=nth h.bars b)
theorem SS(h:Sa.aJ)(l:List Int):AJ h (dS h l)=Sa.fits h l:=rfl
theorem Dn{h:Sa.aJ}{f:Nat->Sa.jJ}{k:Nat}(hk:k<h.bars.length)(h0:∀b,b<k->Sa.qC h.floor (f b)<=nth h.bars b)(h1:¬Sa.qC h.floor (f k)<=nth h.bars k):AJ h f=false:=by unfold AJ;rw[List.all_eq_false];exact⟨k,List.mem_range.2 hk,by simpa using h1⟩
theorem Ih{h:Sa.aJ}{f:Nat->Sa.jJ}(h0:∀b,b<h.bars.length->Sa.qC h.floor (f b)<=nth h.bars b):AJ h f=true:=by unfold AJ;rw[List.all_eq_true];exact fun b hb=>decide_eq_true (h0 b (List.mem_range.1 hb))
theorem yW{fl:Int}(hf:0<=fl/\fl<=9){c:Sa.jJ}(hc:Sa.Fair 6 c):0<=Sa.ir fl c/\Sa.ir fl c<=300/\0<=c.bG/\c.bG<=240:=by have h1:=Sa.oy hf hc;have h2:=hc.2.1;omega
theorem yS(r:eT)(h:Sa.aJ)(hv:Sa.valid h=true)(f:Nat->Sa.jJ)(hf:∀b,Sa.Fair 6 (f b))(q:Bool)(hq:AJ h f=q)(B:Nat)(w:nJ)(hH:bW B w r h)[hB:Le B w]:Calls nH 68 #[je f,fu r h] w fun e w'=>e=.returned (.bool q)/\∃δ,w'=ah w δ:=by
 have HH:=qh hH;have HV:=qh hv;have HF:=qh hf;have HQ:=qh hq;have Qp:=hH.2.2.len;have h4:=(Sa.aC.1 hv).1.2.2.2;have DG:=qh (Sa.aC.1 hv).1.2.1;have HBA:=qh (Sa.aC.1 hv).2.2.2;obtain⟨kA,kc,pA,pc,bA,bc⟩:=r;clear hH hv hf hq;unfold je;go_enter Tryz.func68,Tryz.ntmps68;go_wp2_with fail;refine QCC ?_;intro W1 aH cJ dF cW di dz eL;refine QCK ?_;intro nt lC mQ jI;have xP:Hid (ay W1 w.heap.size 111 (kf f)):=by rw[aH.out];exact(ay.new rfl).alloc _
 have s1:Hid (Sl aI B W1 bA bc h.bars):=qh HH.out.2.2.up;clear aH;go_loopg [5,6,10] h.bars.length (fun gg z z2 i wr=>∃(k:Nat) (δ:nJ),k<=h.bars.length/\gg=h.bars.length-k/\i=.int .i64 k/\Hid (∀b,b<k->Sa.qC h.floor (f b)<=nth h.bars b)/\wr=ah W1 δ)
 case atStart=>exact⟨0,W1,nE _,rfl,rfl,fun b hb=>absurd hb nQ,(bw W1).symm⟩
 case round=>
  obtain⟨k,δ,hk,rfl,rfl,HK,rfl⟩:=hrel;by_cases hlt:k<h.bars.length
  ·obtain⟨b,o,rfl,hb,d0⟩:=s1.out.int hlt;have ib:Lt b W1:=⟨nL hb cJ.out⟩;have hki:(k:Int)<(h.bars.length:Int):=nQ;have hk0:¬(k:Int)<0:=nQ;have WT:(k:Int)<5:=nQ;obtain⟨z0,z1,z2,z3⟩:=Bd f (show k<5 by omega);have c0:=xP.out.cell z0;have c1:=xP.out.cell z1;have c2:=xP.out.cell z2;have c3:=xP.out.cell z3;obtain⟨n1,n2,n3,n4⟩:=yW DG.out (HF.out k);have HFK:=qh (HF.out k);obtain⟨y,hy⟩:∃y,nth h.bars k=y:=⟨_,rfl⟩;have hyb:=HBA.out _ (aR _ hlt);rw[hy] at hyb d0;obtain⟨v,hv⟩:∃v,Sa.ir h.floor (f k)=v:=⟨_,rfl⟩;rw[hv] at n1 n2;have Nj:=qh hv;have Bu:Hid (Sa.qC h.floor (f k)=(f k).bG+v):=by unfold Hid Sa.qC;rw[hv]
   have HY:=qh hy;clear hy hv z0 z1 z2 z3;by_cases hfit:(f k).bG+v<=y
   ·have hfb:¬y<(f k).bG+v:=nQ;go_wp2_with fail;refine wpRl ?_;repeat (go_big_quiet_step ((first|(go_at_call 69;refine Calls.bV (v:=.int .i64 v) (by rw[<-Nj.out];exact sG (f k) _ DG.out HFK.out _)))))
    refine QBU ?_;rintro _ ⟨δq,rfl⟩;go_wp2;go_roundg (h.bars.length-(k+1))
    case measure=>omega
    case rel=>
     refine⟨k+1,_,hlt,rfl,by go_num,fun b hb=>?_,ai⟩;rcases Nat.lt_succ_iff_lt_or_eq.1 hb with h'|rfl
     ·exact HK.out b h'
     ·rw[Bu.out,HY.out];exact hfit
   ·have hfb:y<(f k).bG+v:=nQ;have TW:Hid (q=false):=by rw[<-HQ.out];exact Dn hlt HK.out (by rw[Bu.out,HY.out];exact hfit)
    go_wp2_with fail;refine wpRl ?_;repeat (go_big_quiet_step ((first|(go_at_call 69;refine Calls.bV (v:=.int .i64 v) (by rw[<-Nj.out];exact sG (f k) _ DG.out HFK.out _)))))
    refine QBU ?_;rintro _ ⟨δq,rfl⟩;go_wp2;go_ret;exact⟨by rw[TW.out];rfl,ag⟩
  ·obtain rfl:k=h.bars.length:=by omega
   have TW:Hid (q=true):=by rw[<-HQ.out];exact Ih HK.out
   go_wp2;go_ret;exact⟨by rw[TW.out];rfl,ag⟩
theorem Dy(f:Nat->Sa.jJ){i:Nat}(hi:i<5):(kf f).extract (i*4) (i*4+4)=#[.int .i64 (f i).parts,.int .i64 (f i).bG,.int .i64 (f i).dP,.int .i64 (f i).days]:=by
 obtain rfl|rfl|rfl|rfl|rfl:i=0\/i=1\/i=2\/i=3\/i=4:=by omega
 all_goals simp[kf]
def Cy(fl:Int)(f:Nat->Sa.jJ)(k:Nat):Int:=Sa.iq (fun b=>Sa.ir fl (f b)) k
theorem F5(h:Sa.aJ)(l:List Int):Cy h.floor (dS h l) 5=Sa.cK h l:=rfl
theorem zB(r:eT)(h:Sa.aJ)(hv:Sa.valid h=true)(f:Nat->Sa.jJ)(hf:∀b,Sa.Fair 6 (f b))(n:Int)(hn:Cy h.floor f 5=n)(B:Nat)(w:nJ)(hH:bW B w r h)[hB:Le B w]:Calls nH 61 #[je f,fu r h] w fun e w'=>e=.returned (.int .i64 n)/\∃δ,w'=ah w δ:=by
 have HF:=qh hf;have HN:=qh hn;have DG:=qh (Sa.aC.1 hv).1.2.1;obtain⟨kA,kc,pA,pc,bA,bc⟩:=r;clear hH hv hf hn;unfold je;go_enter Tryz.func61,Tryz.ntmps61;go_wp2_with (refine au fe rfl _ rfl rfl ((ay.new rfl).alloc _) rfl ?_);refine QCC ?_;intro W1 aH cJ dF cW di dz eL;refine QCK ?_;intro nt lC mQ jI;clear aH;go_loopg [5,7,9] 5 (fun gg n z i wr=>∃(k:Nat) (δ:nJ),k<=5/\gg=5-k/\n=.int .i64 (Cy h.floor f k)/\i=.int .i64 k/\wr=ah W1 δ)
 case atStart=>exact⟨0,W1,nQ,rfl,rfl,rfl,(bw W1).symm⟩
 case round=>
  obtain⟨k,δ,hk,rfl,rfl,rfl,rfl⟩:=hrel;have Sz:=Sa.jo (A:=300) (f:=fun b=>Sa.ir h.floor (f b)) (fun b=>by have:=yW DG.out (HF.out b);omega) k;have HS:Hid (Cy h.floor f (k+1)=Cy h.floor f k+Sa.ir h.floor (f k)):=rfl;obtain⟨s,hs⟩:∃s,Cy h.floor f k=s:=⟨_,rfl⟩;have Dj:0<=s/\s<=300*k:=by rw[<-hs];exact Sz
  rw[hs] at HS ⊢;obtain⟨n1,n2,n3,n4⟩:=yW DG.out (HF.out k);obtain⟨v,hv⟩:∃v,Sa.ir h.floor (f k)=v:=⟨_,rfl⟩;rw[hv] at n1 n2 HS;have HV:=qh hv;have HSS:=qh hs;clear hv hs Sz;by_cases hlt:k<5
  ·have hx5:(k:Int)<5:=nQ;have HE:=qh (Dy f hlt);go_wp2_with (first|(refine p4 Tryz.underlying111 DV rfl _ _ rfl rfl rfl hlt HE.out ?_)|(go_at_call 69;refine(sG (f k) _ DG.out (HF.out _) _).mono ?_;rw[HV.out];rintro e w1 ⟨rfl,δ1,rfl⟩));go_roundg (5-(k+1))
   case measure=>omega
   case rel=>exact⟨k+1,_,nQ,rfl,by rw[HS.out],by go_num,ai⟩
  ·obtain rfl:k=5:=by omega
   go_wp2;go_ret;exact⟨by rw[<-HN.out,HSS.out];rfl,ag⟩
theorem QN(n:Nat)(h:n<=6)(w:nJ):Calls nH 224 #[.int .u64 1,.int .u64 n] w fun e w'=>e=.returned (.tuple #[.int .u64 0,.int .u64 n])/\w=w':=by
 obtain rfl|rfl|rfl|rfl|rfl|rfl|rfl:n=0\/n=1\/n=2\/n=3\/n=4\/n=5\/n=6:=by omega
 all_goals go_enter Tryz.func224,Tryz.ntmps224;go_wp2;go_ret2;exact⟨rfl,rfl⟩
theorem XE(n:Nat)(h:n<=6)(w:nJ):Calls nH 174 #[.int .u64 1,.int .u64 n] w fun e w'=>e=.returned (.tuple #[.int .u64 0,.int .u64 n])/\w=w':=by go_enter Tryz.func174,Tryz.ntmps174;go_wp2_with (go_at_call 224;refine(QN n h _).mono ?_;rintro e w1 ⟨rfl,rfl⟩);go_ret2;exact⟨rfl,rfl⟩
def cP(n:Nat):List nK:=List.replicate n (.int .i64 0)
theorem qT{n off m:Nat}(h:off+m<=n):splice (cP n) off (cP m)=cP n:=by unfold splice cP;rw[List.take_replicate,List.drop_replicate,List.length_replicate,List.replicate_append_replicate,List.replicate_append_replicate];congr 1;omega
theorem sN(n:Nat):j9 (.int .i64 0) 1 n=(cP n).toArray:=by apply Array.ext';simp only[j9,madeCells,cP,Value.cells];apply List.ext_getElem?;intro i;by_cases h:i<n<;>simp[List.getElem?_replicate,Nat.mod_one,h]
theorem Ce{n j:Nat}{v:nK}(h:(cP n)[j]?=some v):v=.int .i64 0/\j<n:=by obtain⟨h1,h2⟩:=List.getElem?_eq_some_iff.1 h;unfold cP at h1 h2;rw[List.length_replicate] at h1;rw[List.getElem_replicate] at h2;exact⟨h2.symm,h1⟩
theorem setRow_self{W:nJ}{b:Nat}{T:TypeId}{cs:Array nK}(h:ay W b T cs):W.setRow b cs=W:=by
 obtain⟨heap,tape,drawn,os,output⟩:=W;unfold ay at h;simp only[World.setRow] at *;congr 1;apply Array.ext_getElem?;intro k;rw[Array.getElem?_modify];by_cases hk:b=k
 ·subst hk;rw[if_pos rfl,h];rfl
 ·rw[if_neg hk]
theorem LB{w:nJ}{ops:Array Oper}{rest:List Oper}{o:Oper}{a:Act}{Q:Exit->Act->nJ->Prop}(hgd:o.guard=none)(d s:Operand)(ho:o.op=.call { callee:=.builtin .copy,args:=#[d,s],argTypes:=#[35,35] }){dp sp:Option Addr}{dLen dCap sLen sCap:Nat}(hd:a.eval d=.slice dp dLen dCap)(hs:a.eval s=.slice sp sLen sCap){g off n:Nat}{T:TypeId}(hg:ay w g T (cP n).toArray)(m:Nat)(hm:m=Nat.min sLen dLen)(hpos:0<m->dp=some ⟨g,off,none⟩/\∃ad,sp=some ad/\∀j,j<m->w.cell? (ad.add j)=some (.int .i64 0))(hfit:off+m<=n)(h:wpList nH ops Q rest (a.put o.dst (.int .i64 (m:Nat))) w):wpList nH ops Q (o::rest) a w:=by
 by_cases h0:m=0
 ·subst h0;exact wpList_copy_nothing hgd d s _ _ ho 3 Tryz.underlying35 nP dp sp dLen dCap sLen sCap hd hs hm.symm h
 ·obtain⟨rfl,ad,rfl,hsrc⟩:=hpos nQ;refine wpList_copy_own hgd d s _ _ ho 3 Tryz.underlying35 nP g off dLen dCap ad sLen sCap hd hs (cP n).toArray T hg (cP m) (by rw[<-hm];simp[cP]) (fun j v hv=>?_) (by simpa [cP] using hfit) (fun v hv=>?_) ?_
  ·obtain⟨rfl,hj⟩:=Ce hv;exact hsrc j hj
  ·rw[List.eq_of_mem_replicate hv];rfl
  ·have e:(cP n).toArray.toList.take off++(cP m++(cP n).toArray.toList.drop (off+(cP m).length))=cP n:=qT hfit;rw[e,setRow_self hg,show(cP m).length=m by simp[cP]];exact h
theorem yC{w:nJ}{ops:Array Oper}{o:Oper}{a:Act}{K:Act->nJ->Prop}{Q:Exit->Act->nJ->Prop}{E:Prop}(hgd:o.guard=none)(d s:Operand)(ho:o.op=.call { callee:=.builtin .copy,args:=#[d,s],argTypes:=#[35,35] }){dp sp:Option Addr}{dLen dCap sLen sCap:Nat}(hd:a.eval d=.slice dp dLen dCap)(hs:a.eval s=.slice sp sLen sCap){g off n:Nat}{T:TypeId}(hg:ay w g T (cP n).toArray)(m:Nat)(hm:m=Nat.min sLen dLen)(hpos:0<m->dp=some ⟨g,off,none⟩/\∃ad,sp=some ad/\∀j,j<m->w.cell? (ad.add j)=some (.int .i64 0))(hfit:off+m<=n)(h:K (a.put o.dst (.int .i64 (m:Nat))) w):if Region.wanted o (yielded ops a.tmps)=true then Oper.wp nH o a w K Q else E:=by
 have hw:Region.wanted o (yielded ops a.tmps)=true:=by simp[Region.wanted,hgd]
 rw[if_pos hw];by_cases h0:m=0
 ·subst h0;have hrun:=run_copy_none (P:=nH) w 35 35 o.type 3 dp sp dLen dCap sLen sCap Tryz.underlying35 nP hm.symm;unfold Oper.wp;simp[execOp,ho,resolve,invoke,builtin,hd,hs,hrun,Result.andThen];exact h
 ·obtain⟨rfl,ad,rfl,hsrc⟩:=hpos nQ;have hrun:=run_copy_row (P:=nH) w 35 35 o.type 3 g off dLen dCap ad sLen sCap (cP n).toArray T (cP m) Tryz.underlying35 nP hg (by rw[<-hm];simp[cP]) (fun j v hv=>by obtain⟨rfl,hj⟩:=Ce hv;exact hsrc j hj) (by simpa [cP] using hfit) (fun v hv=>by rw[List.eq_of_mem_replicate hv];rfl);have e:(cP n).toArray.toList.take off++cP m++(cP n).toArray.toList.drop (off+(cP m).length)=cP n:=by rw[List.append_assoc];exact qT hfit
  have e2:(cP n).toArray.toList.take off++(cP m++(cP n).toArray.toList.drop (off+(cP m).length))=cP n:=qT hfit;first|rw[e] at hrun|rw[e2] at hrun
  rw[setRow_self hg,show(cP m).length=m by simp[cP]] at hrun;unfold Oper.wp;simp only[execOp,ho,resolve,invoke,builtin,Sem.run_bind,Sem.run_pure,Result.andThen_ok,List.map_toArray,List.map_cons,List.map_nil,hd,hs,hrun];exact h
theorem Cz(n:Nat)(hn:n<=6)(g c:Nat)(w:nJ)(hc:w.cell? ⟨g,0,none⟩=some (.int .i64 0)):Calls nH 113 #[.slice (some ⟨g,0,none⟩) 1 c,.int .i64 n] w fun e w'=>e=.returned (.slice (some ⟨w.heap.size,0,none⟩) n n)/\ay w' w.heap.size 3 (cP n).toArray/\∃δ,w'=ah w δ:=by
 have ig:Lt g w:=⟨World.block_lt_of_cell? _ _ hc⟩;have h6:(n:Int)<=6:=nQ;have hmk:=run_mk wO n nQ nQ;rw[sN] at hmk;go_enter Tryz.func113,Tryz.ntmps113;go_wp2_with (first|(go_at_call 174;refine(XE n hn _).mono ?_;rintro e w1 ⟨rfl,rfl⟩)|(refine LB rfl _ _ rfl rfl rfl (g:=w.heap.size) (off:=0) (n:=n) (ay.new rfl) (Nat.min 1 n) rfl ?hp ?hf ?_));case hp=>
  intro hm j hj;have h1:Nat.min 1 n<=1:=Nat.min_le_left _ _;obtain rfl:j=0:=by omega
  go_simp
 case hf=>rw[Nat.zero_add];exact Nat.min_le_right _ _
 refine aM fun W1 aH=>?_;have HB:Hid (ay W1 w.heap.size 3 (cP n).toArray):=by rw[aH.out];exact ay.new rfl
 have v1:Le w.heap.size W1:=fI aH;have v2:aD w.heap.size w W1:=gy aH;clear aH hc;go_loopg [8] (n-Nat.min 1 n) (fun gg i wr=>∃(k:Nat) (δ:nJ),k<=n/\(0<n->0<k)/\gg=n-k/\i=.int .i64 k/\wr=ah W1 δ)
 case atStart=>
  refine⟨Nat.min 1 n,W1,Nat.min_le_right _ _,fun h=>?_,?_,rfl,(bw W1).symm⟩
  ·exact Nat.lt_min.2 ⟨nQ,h⟩
  ·rfl
 case round=>
  obtain⟨k,δ,hk,AA,rfl,rfl,rfl⟩:=hrel;by_cases hlt:k<n
  ·have hki:(k:Int)<(n:Int):=nQ;have hk0:¬(k:Int)<0:=nQ;have hkc:¬n=k:=nQ;have hle:(k:Int)<=(n:Int):=nQ;have HP:Hid (∀j,j<Nat.min k (n-k)->(ah W1 δ).drew.cell? ((⟨w.heap.size,0,none⟩:Addr).add j)=some (.int .i64 0)):=by
    refine qh fun j hj=>?_;have hj2:j<n:=by have h1:Nat.min k (n-k)<=k:=Nat.min_le_left k (n-k);omega
    rw[Addr.add_mid,Nat.zero_add];exact(HB.out.ah δ).cell (by simp[cP,hj2])
   have HFI:Hid (k+Nat.min k (n-k)<=n):=qh (by have h1:Nat.min k (n-k)<=n-k:=Nat.min_le_right k (n-k);omega);have HM:Hid ((k:Int)+(Nat.min k (n-k):Nat)=((k+Nat.min k (n-k):Nat):Int)/\0<Nat.min k (n-k)):=by have h0:=AA nQ;have h1:0<Nat.min k (n-k):=Nat.lt_min.2 ⟨h0,nQ⟩;exact⟨nQ,h1⟩
   have hmb:((Nat.min k (n-k):Nat):Int)<=6:=by have:=HFI.out;omega
   obtain⟨m,hm⟩:∃m,Nat.min k (n-k)=m:=⟨_,rfl⟩;have Xg:=qh hm;rw[hm] at HP HFI HM hmb;clear hm;have hwr:IntKind.i64.wrap ((k:Int)+(m:Int))=(k:Int)+(m:Int):=by rw[IntWalk.i64_in];omega
   go_wp2_with fail;go_region_law (refine yC rfl (.tmp 41) (.tmp 44) rfl (dp:=some ⟨w.heap.size,k,none⟩) (dLen:=n-k) (dCap:=n-k) (sp:=some ⟨w.heap.size,0,none⟩) (sLen:=k) (sCap:=n) (by simp[Act.eval,Act.put]) (by simp[Act.eval,Act.put]) (g:=w.heap.size) (off:=k) (n:=n) ((HB.out.ah δ).drew) m Xg.out.symm (fun _=>⟨rfl,_,rfl,HP.out⟩) HFI.out ?_);all_goals go_wp2
   all_goals go_roundg (n-(k+m))
   case measure=>have:=HM.out.2;omega
   case rel=>exact⟨k+m,_,HFI.out,fun h=>by have:=AA h;omega,rfl,by rw[<-HM.out.1],ai⟩
  ·obtain rfl:k=n:=by omega
   go_wp2;go_ret;exact⟨rfl,HB.out.ah δ,ag⟩
def oY(x:List Int):Array nK:=(x.map fun v=>Value.int .i64 v).toArray
theorem PG(n:Nat):oY (List.replicate n 0)=(cP n).toArray:=by simp[oY,cP]
theorem S7{x:List Int}{i:Nat}(hi:i<x.length):(oY x)[i]?=some (.int .i64 (nth x i)):=by simp[oY,hi,bN]
theorem Io(x:List Int)(i:Nat)(v:Int):(oY x).setIfInBounds i (.int .i64 v)=oY (x.set i v):=by simp[oY,List.map_set]
def sr(x:List Int)(j:Nat):List Int:=x.take (x.length-j)++List.replicate j 0
theorem RJ(x:List Int):sr x 0=x:=by simp[sr]
theorem El{x:List Int}{j:Nat}(hj:j<=x.length):(sr x j).length=x.length:=by simp[sr];omega
theorem Vf{x:List Int}{j i:Nat}(h:i+j+1=x.length):nth (sr x j) i=nth x i:=by rw[bN _ (by rw[El nQ];omega),bN _ nQ];simp only[sr];rw[List.getElem_append_left (by simp;omega),List.getElem_take]
theorem Ek{x:List Int}{j i:Nat}(h:i+j+1=x.length)(v:Int):(sr x j).set i v=x.take i++v::List.replicate j 0:=by unfold sr;rw[show x.length-j=i+1 by omega,List.set_append_left _ _ (by simp;omega),bz x nQ,List.set_append_right _ _ (by simp;omega)];simp[show i-min i x.length=0 by omega]
theorem RL{x:List Int}{j i:Nat}(h:i+j+1=x.length):(sr x j).set i 0=sr x (j+1):=by rw[Ek h];unfold sr;rw[show x.length-(j+1)=i by omega,List.replicate_succ]
def sD(m:Nat)(x:List Int)(j:Nat):Prop:=x.drop (x.length-j)=List.replicate j ((m:Int)-1)
theorem Nv(m:Nat)(x:List Int):sD m x 0:=by simp[sD]
theorem drop_cons{x:List Int}{i:Nat}(h:i<x.length):x.drop i=nth x i::x.drop (i+1):=by rw[bN _ h];exact List.drop_eq_getElem_cons h
theorem Nw{m:Nat}{x:List Int}{j i:Nat}(h:i+j+1=x.length)(ht:sD m x j)(hx:nth x i=(m:Int)-1):sD m x (j+1):=by unfold sD at *;rw[show x.length-(j+1)=i by omega,drop_cons nQ,show i+1=x.length-j by omega,ht,hx,List.replicate_succ]
theorem Jy{m:Nat}{x:List Int}{j i:Nat}(h:i+j+1=x.length)(ht:sD m x j):x=x.take i++nth x i::List.replicate j ((m:Int)-1):=by unfold sD at ht;rw[<-ht,show x.length-j=i+1 by omega,<-drop_cons nQ,List.take_append_drop]
theorem Oy{m:Nat}{x:List Int}{j i:Nat}(h:i+j+1=x.length)(ht:sD m x j)(hx:nth x i+1<(m:Int)):Sa.mD m x=some ((sr x j).set i (nth x i+1)):=by
 rw[Ek h];conv=>lhs;rw[Jy h ht]
 exact Sa.Va _ _ hx
theorem Oz{m:Nat}{x:List Int}(ht:sD m x x.length):Sa.mD m x=none:=by unfold sD at ht;rw[Nat.sub_self,List.drop_zero] at ht;rw[ht];exact Sa.RA _
theorem S3(x:List Int):x.flatMap aI=x.map fun v=>Value.int .i64 v:=by
 induction x with
 |nil=>rfl
 |cons a x ih=>rw[List.flatMap_cons,ih];rfl
theorem Cu{W:nJ}{b:Nat}{T:TypeId}{x:List Int}(h:ay W b T (oY x))(hl:x.length<=1000):Sl aI W.heap.size W (some ⟨b,0,none⟩) x.length x:=by refine⟨nR _,nQ,fun _=>⟨b,0,rfl,h.tN,fun j v hj=>?_⟩⟩;rw[S3] at hj;rw[Nat.zero_add];exact h.cell (by simpa [oY] using hj)
theorem oS{S T:Nat->Prop}{A B C:nJ}(h:bI S A B)(k:bI T B C)(hT:∀b,T b->A.heap.size<=b):bI S A C:=
 ⟨nT h.size k.size,k.os.trans h.os,k.tape.trans h.tape,k.output.trans h.output,fun b hb hn=>(k.block b (nL hb h.size) fun ht=>by have:=hT b ht;omega).trans (h.block b hb hn)⟩
theorem Pu{m:Nat}{x q:List Int}(hx:∀y∈x,0<=y/\y<(m:Int))(h:Sa.mD m x=some q):Sa.n9 m x=x::Sa.n9 m q:=by rw[Sa.tQ hx,h]
theorem Pv{m:Nat}{x:List Int}(hx:∀y∈x,0<=y/\y<(m:Int))(h:Sa.mD m x=none):Sa.n9 m x=[x]:=by rw[Sa.tQ hx,h]
theorem OI{m:Nat}{x:List Int}{j i:Nat}(h:i+j+1=x.length)(hx:∀y∈x,0<=y/\y<(m:Int))(hv:nth x i+1<(m:Int)):((sr x j).set i (nth x i+1)).length=x.length/\∀y∈(sr x j).set i (nth x i+1),0<=y/\y<(m:Int):=by
 have h0:=hx _ (aR x (k:=i) nQ);refine⟨by rw[List.length_set,El nQ],fun y hy=>?_⟩;rw[Ek h] at hy;rcases List.mem_append.1 hy with h1|h1
 ·exact hx y (List.mem_of_mem_take h1)
 ·rcases List.mem_cons.1 h1 with rfl|h1
  ·omega
  ·have:=List.eq_of_mem_replicate h1;omega
def o7(h:Sa.aJ)(pk:Nat)(x:List Int)(vs:Array nK)(W:nJ):Prop:=
 vs=#[.slice (some ⟨pk,0,none⟩) h.parts.length h.parts.length,je (dS h x)]/\x.length=h.parts.length/\ay W pk 3 (oY x)
abbrev qS(r:eT)(h:Sa.aJ):nK:=.agg #[.slice r.kA h.kinds.length r.kc,.int .i64 h.floor,.slice r.pA h.parts.length r.pc,.slice r.bA h.bars.length r.bc,.int .i64 0]
def DQ(r:eT)(h:Sa.aJ):Array nK:=#[.slice r.kA h.kinds.length r.kc,.int .i64 h.floor,.slice r.pA h.parts.length r.pc,.slice r.bA h.bars.length r.bc,.int .i64 0]
theorem Gt{m:Nat}{L pre:List (List Int)}{x:List Int}(he:pre++Sa.n9 m x=L)(hx:∀y∈x,0<=y/\y<(m:Int)):pre++[x] <+: L:=by rw[Sa.tQ hx,List.append_cons] at he;exact⟨_,he⟩
section
attribute[local go_sem] Oper.semAt_some
theorem zA(Ok:Nat->Prop)(r:eT)(h:Sa.aJ)(hv:Sa.valid h=true)(B:Nat)(W1:nJ)(hH:bW B W1 r h)[hB:Le B W1](hkeep:∀(S:Nat->Prop) (W':nJ),(∀b,S b->Ok b)->bI S W1 W'->bW B W' r h):tD nH 67 #[qS r h] #[] (o7 h (W1.heap.size+2)) (Sa.ow h.bars.length h.parts.length) (fun b=>b=W1.heap.size+2) Ok W1:=by
 have abX:=qh hkeep;clear hkeep;intro S l J Jx hS Lb xD hY hJ;refine(callsIn_wide (n:=3)).1 ?_;have HH:=qh hH;have HV:=qh hv;have HS:=qh hS;have L9:=qh Lb;have TX:=qh xD;have HY:=qh hY;have HJ:=qh hJ;have l1:=hH.2.1.len;have l2:=hH.2.2.len;refine QDS ?_;intro h6 h4;obtain⟨kA,kc,pA,pc,bA,bc⟩:=r;clear hH hv hS Lb xD hY hJ;refine callsIn_of_wp Tryz.func67 rfl trivial ?_ rfl;simp only[Tryz.ntmps67,List.size_toArray,List.length_cons,List.length_nil,Nat.reduceAdd,Nat.reduceSub,Array.replicate_succ,Array.replicate_zero,List.push_toArray,List.append_toArray,List.nil_append,List.cons_append];refine wpIn_wide.2 ?_;by_cases hmn:0<h.parts.length/\h.bars.length=0
 ·have hn0:(0:Int)<(h.parts.length:Int):=nQ;have hm0:(h.bars.length:Int)<=0:=nQ;have HL:Hid (Sa.ow h.bars.length h.parts.length=[]):=by obtain⟨k,hk⟩:∃k,h.parts.length=k+1:=⟨h.parts.length-1,nQ⟩;unfold Hid;rw[hmn.2,hk];rfl
  obtain⟨kinds,fl,parts,bars⟩:=h;obtain rfl:bars=[]:=List.length_eq_zero_iff.1 hmn.2;clear hmn;go_wp2_with (go_at_call 113;refine(Cz parts.length h6 (W1.heap.size+1) 1 _ nW).mono ?_;rintro e w1 ⟨rfl,kS,δ1,rfl⟩);refine bodyPost_ret (results_none Tryz.results67 _ _ _) rfl ?_;refine⟨_,true,rfl,bI.dI fj,fun _=>?_,fun h=>by cases h⟩;rw[HL.out];exact L9.out _ _ _ HJ.out (bI.dI fj)
 have HN:Hid (0<h.parts.length->0<h.bars.length):=qh nQ;have ab1:(decide (0<h.parts.length)=false/\decide ((0:Int)<(h.parts.length:Int))=false)\/((0:Int)<(h.parts.length:Int)/\¬h.bars=[]):=by
  by_cases h0:0<h.parts.length
  ·exact .inr ⟨nQ,fun e=>by have:=HN.out h0;rw[e] at this;simp at this⟩
  ·exact .inl ⟨decide_eq_false h0,decide_eq_false nQ⟩
 clear hmn;rcases ab1 with⟨hp0,hp1⟩|⟨hp1,kS⟩;all_goals go_wp2_with (go_at_call 113;refine(Cz h.parts.length nQ (W1.heap.size+1) 1 _ nW).mono ?_;rintro e w1 ⟨rfl,kS,δ1,rfl⟩;have Bv:=qh kS;clear kS)
 all_goals
  refine aM fun W2 eJ=>?_;have HZ:Hid (W1.heap.size+3<=W2.heap.size):=by have:=Bv.out.tN;rw[<-eJ.out] at this;unfold Hid;simp at this;omega
  have HBK:Hid (ay W2 (W1.heap.size+2) 3 (oY (List.replicate h.parts.length 0))):=by have:=Bv.out;rw[<-eJ.out] at this;rw[PG];simpa [Hid] using this
  have uX:Hid (ay W2 W1.heap.size 119 (DQ ⟨kA,kc,pA,pc,bA,bc⟩ h)):=by rw[eJ.out];exact((ay.new rfl).alloc _).ah _
  have uy:Hid (bI (fun _=>False) W1 W2):=by rw[eJ.out];exact bI.dI fj
  clear eJ Bv;refine(wpIn_wide (n:=3)).1 ?_
 all_goals
  gi_loopg [5] (Sa.ow h.bars.length h.parts.length).length (fun gg i wr=>∃(pre:List (List Int)) (x:List Int),Hid (pre++Sa.n9 h.bars.length x=Sa.ow h.bars.length h.parts.length)/\gg=(Sa.n9 h.bars.length x).length/\Hid (x.length=h.parts.length/\∀y∈x,0<=y/\y<(h.bars.length:Int))/\Hid (ay wr (W1.heap.size+2) 3 (oY x)) /\
   Hid (ay wr W1.heap.size 119 (DQ ⟨kA,kc,pA,pc,bA,bc⟩ h))/\Hid (bI S W1 wr)/\Hid (J pre wr)/\Hid (W1.heap.size+3<=wr.heap.size))
  case atStart=>
   by_cases hm:0<h.bars.length
   ·exact⟨[],List.replicate h.parts.length 0,by unfold Hid;rw[Sa.tP hm,List.nil_append],by rw[Sa.tP hm],⟨nV,fun y hy=>by have:=List.eq_of_mem_replicate hy;omega⟩,HBK,uX,uy.out.mono (fun b h=>h.elim),L9.out _ _ _ HJ.out (uy.out.mono (fun b h=>h.elim)),HZ⟩
   ·have hp:h.parts.length=0:=by have:=HN.out;omega
    exact⟨[],List.replicate h.parts.length 0,by unfold Hid;rw[hp];rfl,by rw[hp];rfl,⟨nV,fun y hy=>by rw[hp] at hy;cases hy⟩,HBK,uX,uy.out.mono (fun b h=>h.elim),L9.out _ _ _ HJ.out (uy.out.mono (fun b h=>h.elim)),HZ⟩
  case round=>
   obtain⟨pre,x,HP,rfl,HX,HBr,Xd,HKr,HJr,HZr⟩:=hrel;have st0:wr.cell? ⟨W1.heap.size,0,none⟩=some (.slice kA h.kinds.length kc):=Xd.out.cell rfl;have st1:wr.cell? ⟨W1.heap.size,1,none⟩=some (.int .i64 h.floor):=Xd.out.cell rfl;have st2:wr.cell? ⟨W1.heap.size,2,none⟩=some (.slice pA h.parts.length pc):=Xd.out.cell rfl;have st3:wr.cell? ⟨W1.heap.size,3,none⟩=some (.slice bA h.bars.length bc):=Xd.out.cell rfl;have st4:wr.cell? ⟨W1.heap.size,4,none⟩=some (.int .i64 0):=Xd.out.cell rfl;have i1:=Xd.out.lt;have i2:=HBr.out.lt;have HHr:Hid (bW wr.heap.size wr ⟨kA,kc,pA,pc,bA,bc⟩ h):=qh ((abX.out S wr (fun b hb=>(HS.out b hb).2) HKr.out).more (nT hB.out HKr.out.size));have hxl:=HX.out.1;have Jk:Hid (Sl aI wr.heap.size wr (some ⟨W1.heap.size+2,0,none⟩) h.parts.length x):=by rw[<-hxl];exact Cu HBr.out nQ
   have Xm:Hid (Calls nH 114 #[fu ⟨kA,kc,pA,pc,bA,bc⟩ h,.slice (some ⟨W1.heap.size+2,0,none⟩) h.parts.length h.parts.length] wr fun e w'=>e=.returned (je (dS h x))/\∃δ,w'=ah wr δ):=by have:=NH ⟨kA,kc,pA,pc,bA,bc⟩ h HV.out x nQ (fun y hy=>by have:=HX.out.2 y hy;omega) (some ⟨W1.heap.size+2,0,none⟩) h.parts.length wr.heap.size wr HHr.out Jk.out;rw[hxl] at this;exact this
   clear hxl;gi_wp2_with (fail);refine⟨trivial,?_⟩;refine(callsIn_wide.2 Xm.out).mono ?_;rintro e w1 ⟨rfl,δ1,rfl⟩;have hpre:=Gt HP.out HX.out.2;obtain⟨fn,tmps,assign,body,hy,hR⟩:=HY.out 2 pre x #[.slice (some ⟨W1.heap.size+2,0,none⟩) h.parts.length h.parts.length,je (dS h x)] (ah wr δ1) hpre (L9.out _ _ _ HJr.out (bI.ah _ _ _)) ⟨rfl,HX.out.1,HBr.out.ah δ1⟩;clear hpre;gi_wp2_with (fail);refine hR.mono ?_;clear hR hy;rintro e W3 ⟨b,rfl,hP⟩;have Uc:=qh hP;clear hP;cases b
   ·gi_wp2_with (fail);refine bodyPost_ret (results_none Tryz.results67 _ _ _) rfl ?_;obtain⟨q,hq,T0,hx⟩:=Uc.out.2.2 rfl;have hpre:=Gt HP.out HX.out.2;exact⟨_,false,rfl,HKr.out.trans ((bI.ah _ _ _).trans Uc.out.1),fun h=>(by cases h),fun _=>⟨pre++q,((List.prefix_append_right_inj _).2 hq).trans hpre,by simp[T0],hx⟩⟩
   have K3:bI S wr W3:=(bI.ah _ _ _).trans Uc.out.1;have ZI:Hid (ay W3 (W1.heap.size+2) 3 (oY (sr x 0))):=by rw[RJ];exact HBr.out.eN K3 (fun hb=>by have:=(HS.out _ hb).1;omega)
   have ux:Hid (ay W3 W1.heap.size 119 (DQ ⟨kA,kc,pA,pc,bA,bc⟩ h)):=Xd.out.eN K3 (fun hb=>by have:=(HS.out _ hb).1;omega);have HK3:Hid (bI S W1 W3):=HKr.out.trans K3;have HZ3:Hid (W1.heap.size+3<=W3.heap.size):=qh (nT HZr.out K3.size);have HJ3:Hid (J (pre++[x]) W3):=Uc.out.2.1 rfl;have TQ:=qh HX.out.1;clear K3 Uc st0 st1 st2 st3 st4 HBr Xd HKr HZr HJr Xm Jk HHr i1 i2;have hxl:=HX.out.1;gi_wp2_with (fail);refine wpIn_wide.2 ?_;go_loopg [5] h.parts.length (fun gg i wr=>∃(j:Nat),j<=h.parts.length/\gg=h.parts.length-j/\i=.int .i64 ((h.parts.length:Int)-1-(j:Int))/\Hid (sD h.bars.length x j)/\Hid (ay wr (W1.heap.size+2) 3 (oY (sr x j)))/\Hid (bI (fun b=>b=W1.heap.size+2) W3 wr))
   case atStart=>exact⟨0,nE _,rfl,by go_num,Nv _ _,ZI,bI.refl _ _⟩
   case round=>
    obtain⟨j,hj,rfl,rfl,HT,HBj,HKj⟩:=hrel;have hzj:=HKj.out.size;have i1:Lt W1.heap.size wr:=⟨by have:=HZ3.out;omega⟩;have i2:=HBj.out.lt;have HSj:Hid (ay wr W1.heap.size 119 (DQ ⟨kA,kc,pA,pc,bA,bc⟩ h)):=ux.out.eN HKj.out nQ;have st3:wr.cell? ⟨W1.heap.size,3,none⟩=some (.slice bA h.bars.length bc):=HSj.out.cell rfl;have st4:wr.cell? ⟨W1.heap.size,4,none⟩=some (.int .i64 0):=HSj.out.cell rfl;clear hzj;by_cases hlt:j<h.parts.length
    ·obtain⟨i,hi⟩:∃i:Nat,i+j+1=h.parts.length:=⟨h.parts.length-1-j,nQ⟩;have ZR:i+j+1=x.length:=by rw[hxl];exact hi
     have Jg:(h.parts.length:Int)-1-(j:Int)=(i:Int):=nQ;rw[Jg];have hil:(i:Int)<(h.parts.length:Int):=nQ;have hi0:¬(i:Int)<0:=nQ;have hig:(0:Int)<=(i:Int):=nQ;have Yu:=HX.out.2 (nth x i) (aR x nQ);have d0:wr.cell? ⟨W1.heap.size+2,i,none⟩=some (.int .i64 (nth x i)):=by rw[<-Vf ZR];exact HBj.out.cell (S7 (by rw[El nQ];omega))
     have f0:=HBj.out.free i;have HI:=qh ZR;have HII:=qh Jg;clear ZR Jg hi;by_cases hv:nth x i=(h.bars.length:Int)-1
     ·have Qd:=qh hv;rw[hv] at d0;clear hv Yu;go_wp2_with fail;refine wpRl ?_;repeat (go_big_quiet_step ((first|(fail))))
      refine QBU ?_;rintro _ ⟨δq,rfl⟩;go_wp2;go_roundg (h.parts.length-(j+1))
      case measure=>omega
      case rel=>
       refine⟨j+1,hlt,rfl,by have:=HII.out;go_num,Nw HI.out HT.out Qd.out,?_,?_⟩
       ·unfold Hid;rw[<-RL HI.out,<-Io];exact(HBj.out.ah δq).set i _
       ·exact HKj.out.trans (bI.set (S:=fun b=>b=W1.heap.size+2) (bI.ah _ _ _) rfl _ _)
     ·have hv1:nth x i+1<(h.bars.length:Int):=nQ;have HMR:=qh (OI HI.out HX.out.2 hv1);have HNX:=qh (Pu HX.out.2 (Oy HI.out HT.out hv1));obtain⟨v,hve⟩:∃v,nth x i=v:=⟨_,rfl⟩;rw[hve] at d0 hv hv1 Yu HMR HNX;have hne:(v==(h.bars.length:Int)-1)=false:=by simpa using hv
      clear hv hve;go_wp2_with fail;refine wpRl ?_;repeat (go_big_quiet_step ((first|(fail))))
      refine QBU ?_;rintro _ ⟨δq,rfl⟩;go_wp2_with fail;gi_wp2;gi_roundg (Sa.n9 h.bars.length ((sr x j).set i (v+1))).length;case measure=>rw[HNX.out];simp
      case rel=>
       have hKL:bI (fun b=>b=W1.heap.size+2) W3 ((ah wr δq).setCell ⟨W1.heap.size+2,i,none⟩ (.int .i64 (v+1))):=HKj.out.trans (bI.set (S:=fun b=>b=W1.heap.size+2) (bI.ah _ _ _) rfl _ _);refine⟨pre++[x],(sr x j).set i (v+1),?_,rfl,⟨by rw[HMR.out.1];exact TQ.out,HMR.out.2⟩,?_,ux.out.eN hKL nQ,oS HK3.out hKL (by rintro b rfl;omega),L9.out _ _ _ HJ3.out hKL,nT HZ3.out hKL.size⟩
       ·have:=HP.out;rw[HNX.out] at this;unfold Hid;rw[<-this];simp
       ·unfold Hid;rw[<-Io];exact(HBj.out.ah δq).set i _
    ·obtain rfl:j=h.parts.length:=by omega
     have Jg:(h.parts.length:Int)-1-(h.parts.length:Int) = -1:=nQ;rw[Jg];have HNX:Hid (Sa.n9 h.bars.length x=[x]):=Pv HX.out.2 (Oz (by rw[hxl];exact HT.out));go_wp2_with fail;refine wpRl ?_;repeat (go_big_quiet_step ((first|(fail))))
     refine QBU ?_;rintro _ ⟨δq,rfl⟩;go_wp2_with fail;gi_wp2;refine bodyPost_ret (results_none Tryz.results67 _ _ _) rfl ?_;refine⟨_,true,rfl,oS HK3.out (HKj.out.trans (bI.ah _ _ _)) (by rintro b rfl;omega),fun _=>?_,fun h=>by cases h⟩;have:=HP.out;rw[HNX.out] at this;rw[List.nil_append,<-this];exact L9.out _ _ _ HJ3.out (HKj.out.trans (bI.ah _ _ _))
theorem NI(r:eT)(h:Sa.aJ)(hv:Sa.valid h=true)(B:Nat)(W1:nJ)(hH:bW B W1 r h)[hB:Le B W1]:tD nH 67 #[qS r h] #[] (o7 h (W1.heap.size+2)) (Sa.ow h.bars.length h.parts.length) (fun b=>b=W1.heap.size+2) (fun b=>B<=b) W1:=
 zA _ r h hv B W1 hH fun _ _ hS hk=>hH.eN hk hB.out hS
end
theorem xW(r:eT)(h:Sa.aJ)(w:nJ):Calls nH 66 #[fu r h] w fun e w'=>e=.returned (.func (.func 112) #[] #[.pointer (some ⟨w.heap.size,0,none⟩)])/\w'=w.alloc (.cells #[.slice r.kA h.kinds.length r.kc,.int .i64 h.floor,.slice r.pA h.parts.length r.pc,.slice r.bA h.bars.length r.bc] 37):=by go_enter Tryz.func66,Tryz.ntmps66;go_wp2_with fail;go_ret;exact⟨rfl,rfl⟩
theorem Ke{h:Sa.aJ}{L pre:List (List Int)}{x:List Int}(hp:pre++[x] <+: L)(hx:Sa.fits h x=true):pre.filter (Sa.fits h)++[x] <+: L.filter (Sa.fits h):=by obtain⟨t,rfl⟩:=hp;rw[List.filter_append,List.filter_append];exact⟨t.filter (Sa.fits h),by simp[hx]⟩
def wj(r:eT)(h:Sa.aJ):Array nK:=#[.slice r.kA h.kinds.length r.kc,.int .i64 h.floor,.slice r.pA h.parts.length r.pc,.slice r.bA h.bars.length r.bc]
theorem Rl{fn:Func}{R:Ending->nJ->Prop}{t:Array nK}{D:Nat}{W:nJ}{v:nK}(hD:W.heap[D]?=some (.deferred (some [])))(hr:(results fn t).run nH (W.putObj D (.deferred none))=.ok v (W.putObj D (.deferred none)))(h:R (.returned v) (W.putObj D (.deferred none))):bodyPostM Fence.wide 3 nH fn R .normal { tmps:=t,defers:=[{ target:=.collected D,args:=#[] }] } W:=
 ⟨nV,.inl ⟨_,_,rfl,run_takeDeferred hD,_,hr,h⟩⟩
section
attribute[local go_sem] Oper.semAt_some
theorem zz(r:eT)(h:Sa.aJ)(hv:Sa.valid h=true)(B bp:Nat)(W1:nJ)(hH:bW B W1 r h)[hB:Le B W1](BG:ay W1 bp 37 (wj r h)):tD nH 112 #[] #[.pointer (some ⟨bp,0,none⟩)] (o7 h (W1.heap.size+5)) (Sa.bM h) (fun b=>b=W1.heap.size+5\/b=W1.heap.size+1\/b=W1.heap.size+2) (fun b=>B<=b/\b≠bp) W1:=by
 intro S l J Jx hS Lb xD hY hJ;have HH:=qh hH;have HV:=qh hv;have HS:=qh hS;have L9:=qh Lb;have TX:=qh xD;have HY:=qh hY;have HJ:=qh hJ;have HBP:=qh BG;have l1:=hH.2.1.len;have l2:=hH.2.2.len;refine QDS ?_;intro h6 h4;have Qp:=BG.tN;obtain⟨kA,kc,pA,pc,bA,bc⟩:=r;have ib:=BG.lt;have b0:W1.cell? ⟨bp,0,none⟩=some (.slice kA h.kinds.length kc):=BG.cell rfl;have b1:W1.cell? ⟨bp,1,none⟩=some (.int .i64 h.floor):=BG.cell rfl;have b2:W1.cell? ⟨bp,2,none⟩=some (.slice pA h.parts.length pc):=BG.cell rfl;have b3:W1.cell? ⟨bp,3,none⟩=some (.slice bA h.bars.length bc):=BG.cell rfl;clear hH hv hS Lb xD hY hJ BG;refine o5 Tryz.func112 rfl ?_;simp only[Tryz.ntmps112,List.size_toArray,List.length_cons,List.length_nil,Nat.reduceAdd,Nat.reduceSub,Array.replicate_succ,Array.replicate_zero,List.push_toArray,List.append_toArray,List.nil_append,List.cons_append];go_wp2_with fail;refine aM fun W0 jR=>?_;have HZ:Hid (W0.heap.size=W1.heap.size+1):=by rw[jR.out];unfold Hid;simp
 have Xi:Hid (bI (fun _=>False) W1 W0):=by rw[jR.out];exact bI.dI fj
 have HYB:Hid (ay W0 W1.heap.size 176 #[.func (.yield l) #[] #[]]):=by rw[jR.out];exact ay.new rfl
 clear jR;have hst:∀W,bI S W1 W->W1.heap.size+1<=W.heap.size->True:=fun _ _ _=>trivial;clear hst;refine QFE ?_;intro Uh;have hit:∀W2,Below W0.heap.size W0 W2->W2.heap.size=W0.heap.size+2->tD nH 67 #[qS ⟨kA,kc,pA,pc,bA,bc⟩ h] #[] (o7 h (W1.heap.size+5)) (Sa.ow h.bars.length h.parts.length) (fun b=>b=W1.heap.size+5) (fun b=>B<=b) W2:=by
  intro W2 fX hs2;have e:W2.heap.size+2=W1.heap.size+5:=by rw[hs2,HZ.out]
  rw[<-e];have hLe:Le B W2:=⟨by have:=hB.out;have:=HZ.out;omega⟩;exact NI ⟨kA,kc,pA,pc,bA,bc⟩ h HV.out B W2 (Uh.out.eN (S:=fun _=>False) (bI.dI fX) (by have:=hB.out;have:=HZ.out;omega) (fun _ h=>h.elim))
 have Xj:=qh hit;clear hit;refine yR (enters_of Tryz.func67 nP rfl) (o7 h (W1.heap.size+5)) (Sa.ow h.bars.length h.parts.length) (fun b=>b=W1.heap.size+5) (fun b=>B<=b)
  (first:=#[qS ⟨kA,kc,pA,pc,bA,bc⟩ h]) (caps:=#[]) rfl (by have:=HZ.out;rintro b rfl;omega) Xj.out ?size ?item S ?hS ?ok
  (fun pre W=>J (pre.filter (Sa.fits h)) W) (fun c pre W=>c=.ret/\∃q,q <+: Sa.bM h/\q≠[]/\Jx q W) ?hI ?hIx ?h0
  (fun x vs a' W=>∃bl,a' = { tmps:=#[.func (.yield l) #[] #[],.pointer (some ⟨bp,0,none⟩),.pointer (some ⟨W1.heap.size,0,none⟩),.slice (some ⟨W1.heap.size+5,0,none⟩) h.parts.length h.parts.length,.pointer (some ⟨bl,0,none⟩),
   .agg #[.slice kA h.kinds.length kc,.int .i64 h.floor,.slice pA h.parts.length pc,.slice bA h.bars.length bc],qS ⟨kA,kc,pA,pc,bA,bc⟩ h,.func (.func 67) #[qS ⟨kA,kc,pA,pc,bA,bc⟩ h] #[],
   .slice (some ⟨W1.heap.size+5,0,none⟩) h.parts.length h.parts.length,je (dS h x),undef,undef,undef,undef,undef,undef,undef,undef,undef,undef],defers:=[] }/\ay W bl 111 (kf (dS h x))/\W0.heap.size+2<=bl) ?hAx ?assign ?body ?done ?stop
 case size=>rintro x vs W ⟨rfl,_⟩;rfl
 case item=>rintro x vs W W' ⟨h1,h2,h3⟩ hk;exact⟨h1,h2,h3.eN hk (by have:=HZ.out;rintro(h|h|h);exact h.elim;omega;omega)⟩
 case hS=>intro b hb;have:=HS.out b hb;exact⟨by have:=HZ.out;omega,this.2.1⟩
 case ok=>have:=hB.out;have:=HZ.out;exact⟨nQ,nQ⟩
 case hI=>intro pre W W' hj hk;exact L9.out _ _ _ hj (hk.mono fun b hb=>by have:=HZ.out;rcases hb with h|h|h;exact .inl h;exact .inr (.inl nQ);exact .inr (.inr nQ))
 case hIx=>rintro c pre W W' ⟨rfl,q,h1,h2,h3⟩ hk;exact⟨rfl,q,h1,h2,TX.out _ _ _ h3 (hk.mono fun b hb=>by have:=HZ.out;rcases hb with h|h|h;exact .inl h;exact .inr (.inl nQ);exact .inr (.inr nQ))⟩
 case h0=>exact L9.out _ _ _ HJ.out (Xi.out.mono fun b h=>h.elim)
 case hAx=>rintro x vs a' W W' ⟨bl,h1,h2,h3⟩ hk;exact⟨bl,h1,h2.eN hk (by rintro(h|h|h);exact h.elim;omega;omega),h3⟩
 case assign=>rintro l' m x vs W K ⟨rfl,hx,jm⟩ hK;have hlt:=jm.tN;have hz:=HZ.out;gi_wp2_with (refine nx fe (by first|rfl|(simp[Region.wanted,yielded];done)) _ _ rfl rfl rfl (ay.new rfl) rfl rfl (tR _) ?_;intro W2 fX hk2);refine hK _ _ ?_ ⟨_,rfl,fX,nQ⟩;refine⟨nT nV hk2.size,hk2.os,hk2.tape,hk2.output,fun b hb _=>?_⟩;exact(hk2.block b (by simp;omega) nQ).trans (Below.heap_alloc _ _ b hb)
 case body=>
  rintro l' m pre x vs a' W hpre hJp ⟨rfl,hx,jm⟩ ⟨bl,rfl,xC,hlo⟩ hk hs;have hz:=HZ.out;have HBW:Hid (ay W bp 37 (wj ⟨kA,kc,pA,pc,bA,bc⟩ h)):=(HBP.out.eN Xi.out (fun h=>h)).eN hk (fun hb=>(HS.out _ hb).2.2 rfl);have HYW:Hid (ay W W1.heap.size 176 #[.func (.yield l) #[] #[]]):=HYB.out.eN hk (fun hb=>by have:=(HS.out _ hb).1;omega);have Nn:Hid (bW B W ⟨kA,kc,pA,pc,bA,bc⟩ h):=qh (Uh.out.eN hk (by have:=hB.out;omega) (fun b hb=>(HS.out b hb).2.1));have iB:Le B W:=⟨by have:=hB.out;omega⟩;have c0:W.cell? ⟨bp,0,none⟩=some (.slice kA h.kinds.length kc):=HBW.out.cell rfl;have c1:W.cell? ⟨bp,1,none⟩=some (.int .i64 h.floor):=HBW.out.cell rfl;have c2:W.cell? ⟨bp,2,none⟩=some (.slice pA h.parts.length pc):=HBW.out.cell rfl;have c3:W.cell? ⟨bp,3,none⟩=some (.slice bA h.bars.length bc):=HBW.out.cell rfl;have y0:W.cell? ⟨W1.heap.size,0,none⟩=some (.func (.yield l) #[] #[]):=HYW.out.cell rfl;have j1:=HBW.out.lt;have j2:=HYW.out.lt;have j3:=xC.lt;have Qv:=qh xC;have Bv:=qh jm;have aew:=qh hpre;have HJP:=qh hJp;have HKW:=qh hk;have TQ:=qh hx;have HF:Hid (∀b,Sa.Fair 6 (dS h x b)):=qh fun b=>Sa.fD HV.out nQ _;clear xC jm hpre hJp hk hx hz;rcases hq:Sa.fits h x with _|_
  ·have HQ:=qh hq;clear hq;gi_wp2_with (refine fm fe (by first|rfl|(simp[Region.wanted,yielded];done)) _ rfl rfl Qv.out rfl ?_);refine iH (yS ⟨kA,kc,pA,pc,bA,bc⟩ h HV.out (dS h x) HF.out false HQ.out B W Nn.out) ?_;rintro e w1 ⟨rfl,δ,rfl⟩;gi_wp2;refine⟨(fun _ h=>by cases h),?_⟩;gi_wp2;refine⟨bI.ah _ _ _,?_⟩;show J ((pre++[x]).filter (Sa.fits h)) _;rw[List.filter_append,List.filter_cons,if_neg (by rw[HQ.out];simp),List.filter_nil,List.append_nil];exact L9.out _ _ _ HJP.out (bI.ah _ _ _)
  ·have HQ:=qh hq;have HPF:=qh (Ke aew.out hq);have HFE:Hid ((pre++[x]).filter (Sa.fits h)=pre.filter (Sa.fits h)++[x]):=by unfold Hid;rw[List.filter_append];simp[hq]
   clear hq;gi_wp2_with (refine fm fe (by first|rfl|(simp[Region.wanted,yielded];done)) _ rfl rfl Qv.out rfl ?_);refine iH (yS ⟨kA,kc,pA,pc,bA,bc⟩ h HV.out (dS h x) HF.out true HQ.out B W Nn.out) ?_;rintro e w1 ⟨rfl,δ,rfl⟩;obtain⟨fn,tmps,assign,body,hy,hR⟩:=HY.out (m-1) (pre.filter (Sa.fits h)) x #[.slice (some ⟨W1.heap.size+5,0,none⟩) h.parts.length h.parts.length,je (dS h x)] (ah W δ) HPF.out (L9.out _ _ _ HJP.out (bI.ah _ _ _)) ⟨rfl,TQ.out,Bv.out.ah δ⟩;unfold je at hy;gi_wp2_with (refine fm fe (by first|rfl|(simp[Region.wanted,yielded];done)) _ rfl rfl (Qv.out.ah δ) rfl ?_);refine⟨(fun h=>by simp[Fence.wide] at h),?_⟩;refine RoundIn.mono (F:=Fence.wide.inRound l') hR ?_;clear hR hy;rintro e W3 ⟨b,rfl,hP⟩;have Uc:=qh hP;clear hP;cases b
   ·gi_wp2;obtain⟨q,hq,T0,hx⟩:=Uc.out.2.2 rfl;exact⟨(bI.ah _ _ _).trans Uc.out.1,rfl,_,((List.prefix_append_right_inj _).2 hq).trans HPF.out,by simp[T0],hx⟩
   ·gi_wp2;refine⟨(bI.ah _ _ _).trans Uc.out.1,?_⟩;show J ((pre++[x]).filter (Sa.fits h)) _;rw[HFE.out];exact Uc.out.2.1 rfl
 case done=>
  intro W hj hk hD;refine Rl (v:=.tuple #[]) hD (results_none Tryz.results112 _ _ _) ?_;refine⟨_,true,rfl,?_,fun _=>?_,fun h=>by cases h⟩
  ·exact oS ((Xi.out.mono fun b h=>h.elim).trans hk) ((bI.refl (fun b=>b=W0.heap.size) W).putObj rfl _) (by have:=HZ.out;rintro b rfl;omega)
  ·exact L9.out _ _ _ hj ((bI.refl _ W).putObj (.inr (.inl HZ.out)) _)
 case stop=>
  rintro c pre W hpre hne ⟨rfl,q,h1,h2,h3⟩ hk hD;go_wp2_with fail;refine oJ (v:=.tuple #[]) hD (results_none Tryz.results112 _ _ _) ?_;refine⟨_,false,rfl,?_,(fun h=>by cases h),fun _=>⟨q,h1,h2,?_⟩⟩
  ·exact oS ((Xi.out.mono fun b h=>h.elim).trans hk) ((bI.refl (fun b=>b=W0.heap.size) W).putObj rfl _) (by have:=HZ.out;rintro b rfl;omega)
  ·exact TX.out _ _ _ h3 ((bI.refl _ W).putObj (.inr (.inl HZ.out)) _)
end
end Go.Proofs.YtpnnapeoanafdaaGreatDoor
