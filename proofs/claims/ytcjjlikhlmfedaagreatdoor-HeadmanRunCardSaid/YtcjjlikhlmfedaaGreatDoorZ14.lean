/- A part of the proof that the statement HeadmanRunCardSaid holds, cut small by a program (names and blanks): Sa1, Sa4, Sa2, Sa3, Sa5, Sa6, Sa7. -/
import Derived.Deep.RegionWith
import Derived.Deep.RegionLaw
import Derived.Sort.LoopGhostIn
import Derived.Test.YtcjjlikhlmfedaaGreatDoorZ2
import Derived.Test.YtcjjlikhlmfedaaGreatDoorZ11
set_option maxRecDepth 100000
set_option maxHeartbeats 40000000
set_option linter.unusedVariables false
set_option linter.unusedSimpArgs false
namespace Go.Proofs.YtcjjlikhlmfedaaGreatDoor
open Go.RowKit
open Nat renaming le_trans → nT, lt_of_lt_of_le → nL, le_refl → nR, zero_le → nE, le_of_lt → nS, lt_succ_self → nA
open Go.Proofs.Tryz renaming prog → nH
open Go renaming World → nJ, Value → nK
def p6(x:Sa.Kind):List nK:=[.int .i64 x.fD,.int .i64 x.days]
def iX(x:Sa.Part):List nK:=[.int .i64 x.kind,.int .i64 x.bg]
structure eE where
 kA:Option Addr
 kc:Nat
 pA:Option Addr
 pc:Nat
 bA:Option Addr
 bc:Nat
abbrev eW(r:eE)(h:Sa.aL):nK:=.agg #[.slice r.kA h.kinds.length r.kc,.int .i64 h.floor,.slice r.pA h.parts.length r.pc,.slice r.bA h.bars.length r.bc]
def bS(B:Nat)(w:nJ)(r:eE)(h:Sa.aL):Prop:=Sl p6 B w r.kA r.kc h.kinds/\Sl iX B w r.pA r.pc h.parts/\Sl aH B w r.bA r.bc h.bars
section
variable{B:Nat}{w:nJ}{r:eE}{h:Sa.aL}
@[go_sem] theorem pG(δ:nJ)[hB:Le B w]:bS B (af w δ) r h↔bS B w r h:=by simp only[bS,yO]
@[go_sem] theorem iP:bS B w.drew r h↔bS B w r h:=Iff.rfl
theorem bS.up{w':nJ}(k:bS B w r h)[hg:aC B w w']:bS B w' r h:=⟨k.1.up,k.2.1.up,k.2.2.up⟩
theorem bS.more(k:bS B w r h){B':Nat}(hB:B<=B'):bS B' w r h:=⟨k.1.more hB,k.2.1.more hB,k.2.2.more hB⟩
theorem bS.wide{W:nJ}(k:bS B w r h)[aC B w W][hB:Le B W]:bS W.heap.size W r h:=⟨k.1.wide,k.2.1.wide,k.2.2.wide⟩
theorem bS.eG{S:Nat->Prop}{w':nJ}(k:bS B w r h)(hk:bw S w w')(hB:B<=w.heap.size)(hs:∀b,S b->B<=b):bS B w' r h:=⟨hk.PY k.1 hB hs,hk.PY k.2.1 hB hs,hk.PY k.2.2 hB hs⟩
theorem Sl.kind{A:Option Addr}{c:Nat}{xs:List Sa.Kind}(h:Sl p6 B w A c xs){k:Nat}(hk:k<xs.length):∃b o,A=some ⟨b,o,none⟩/\b<B/\w.cell? ⟨b,o+k*2,none⟩=some (.int .i64 (nth xs k).fD)/\w.cell? ⟨b,o+k*2+1,none⟩=some (.int .i64 (nth xs k).days):=by obtain⟨b,o,hA,hb,hc⟩:=h.at_ (size:=2) (fun _=>rfl) hk nQ;rw[bV _ hk];exact⟨b,o,hA,hb,hc 0 _ rfl,hc 1 _ rfl⟩
theorem Sl.part{A:Option Addr}{c:Nat}{xs:List Sa.Part}(h:Sl iX B w A c xs){k:Nat}(hk:k<xs.length):∃b o,A=some ⟨b,o,none⟩/\b<B/\w.cell? ⟨b,o+k*2,none⟩=some (.int .i64 (nth xs k).kind)/\w.cell? ⟨b,o+k*2+1,none⟩=some (.int .i64 (nth xs k).bg):=by obtain⟨b,o,hA,hb,hc⟩:=h.at_ (size:=2) (fun _=>rfl) hk nQ;rw[bV _ hk];exact⟨b,o,hA,hb,hc 0 _ rfl,hc 1 _ rfl⟩
end
theorem FC(n low high:Int)(w:nJ):Calls nH 54 #[.int .i64 n,.int .i64 low,.int .i64 high] w fun e w'=>e=.returned (.bool (fj low high n))/\w=w':=by
 go_enter Tryz.func54,Tryz.ntmps54;by_cases h1:low<=n
 ·go_wp2;go_ret;exact⟨aW (by simp[fj,h1]),rfl⟩
 ·go_wp2;go_ret;exact⟨aW (by simp[fj];omega),rfl⟩
def St(c:Sa.iZ):nK:=.agg #[.int .i64 c.parts,.int .i64 c.bg,.int .i64 c.dD,.int .i64 c.days]
def js(f:Nat->Sa.iZ):Array nK:=#[.int .i64 (f 0).parts,.int .i64 (f 0).bg,.int .i64 (f 0).dD,.int .i64 (f 0).days,.int .i64 (f 1).parts,.int .i64 (f 1).bg,.int .i64 (f 1).dD,.int .i64 (f 1).days,
 .int .i64 (f 2).parts,.int .i64 (f 2).bg,.int .i64 (f 2).dD,.int .i64 (f 2).days,.int .i64 (f 3).parts,.int .i64 (f 3).bg,.int .i64 (f 3).dD,.int .i64 (f 3).days,.int .i64 (f 4).parts,.int .i64 (f 4).bg,.int .i64 (f 4).dD,.int .i64 (f 4).days]
def Jz(f:Nat->Sa.iZ)(i:Nat)(c:Sa.iZ)(j:Nat):Sa.iZ:=if j=i then c else f j
theorem Lz(f:Nat->Sa.iZ){i:Nat}(hi:i<5)(c:Sa.iZ):((((js f).setIfInBounds (i*4) (.int .i64 c.parts)).setIfInBounds (i*4+1) (.int .i64 c.bg)).setIfInBounds (i*4+2) (.int .i64 c.dD)).setIfInBounds (i*4+3) (.int .i64 c.days)=js (Jz f i c):=by
 obtain rfl|rfl|rfl|rfl|rfl:i=0\/i=1\/i=2\/i=3\/i=4:=by omega
 all_goals simp[js,Jz]
theorem yH(f:Nat->Sa.iZ){i:Nat}(hi:i<5):(js f)[i*4]?=some (.int .i64 (f i).parts)/\(js f)[i*4+1]?=some (.int .i64 (f i).bg)/\(js f)[i*4+2]?=some (.int .i64 (f i).dD)/\(js f)[i*4+3]?=some (.int .i64 (f i).days):=by
 obtain rfl|rfl|rfl|rfl|rfl:i=0\/i=1\/i=2\/i=3\/i=4:=by omega
 all_goals exact⟨rfl,rfl,rfl,rfl⟩
theorem SY(r:eE)(h:Sa.aL)(hv:Sa.valid h=true)(f:Nat->Sa.iZ)(i k:Nat)(o:Nat)(ho:o=i*4)(hi:i<5)(hk:k<h.parts.length)(n:Int)(hn:n<=6)(hf:Sa.Fair n (f i))(B b:Nat)(T:TypeId)(w:nJ)(hH:bS B w r h)[hB:Le B w](hb:av w b T (js f)):Calls nH 252 #[.pointer (some ⟨b,o,none⟩),eW r h,.int .i64 k] w fun e w'=>(∃v,e=.returned v)/\av w' b T (js (Jz f i (Sa.mT h (f i) (nth h.parts k))))/\bw (fun x=>x=b) w w':=by
 subst ho;obtain⟨kA,kc,pA,pc,bA,bc⟩:=r;have hc:=Lz f hi (Sa.mT h (f i) (nth h.parts k));obtain⟨z0,z1,z2,z3⟩:=yH f hi;have d0:=hb.cell z0;have d1:=hb.cell z1;have d2:=hb.cell z2;have d3:=hb.cell z3;have f0:=hb.free (i*4);have f1:=hb.free (i*4+1);have f2:=hb.free (i*4+2);have f3:=hb.free (i*4+3);have ib:=hb.lt;obtain⟨Q0,k1,k2⟩:=Sa.o8 hv (aS _ hk);have hp:=(Sa.az.1 hv).2.2.1 _ (aS _ hk);have hlp:=hH.2.1.len;have hlk:=hH.1.len;obtain⟨j,hj⟩:∃j:Nat,(nth h.parts k).kind=j:=⟨(nth h.parts k).kind.toNat,nQ⟩;have YD:(nth h.parts k).kind.toNat=j:=nQ;unfold Sa.kindOf at k1 k2;rw[YD] at Q0 k1 k2;obtain⟨bp,op,rfl,yZ,p0,p1⟩:=hH.2.1.part hk;obtain⟨bk,ok,rfl,hbk,q0,q1⟩:=hH.1.kind Q0;have ip:Lt bp w:=⟨nL yZ hB.out⟩;have ik:Lt bk w:=⟨nL hbk hB.out⟩;have HX:=qh hb;have F:=hf;unfold Sa.Fair at F;rw[hj] at p0;obtain⟨q,hq⟩:∃q,nth h.kinds j=q:=⟨_,rfl⟩;obtain⟨p,hp'⟩:∃p,(nth h.parts k).bg=p:=⟨_,rfl⟩;have SI:Hid (Sa.mT h (f i) (nth h.parts k)=⟨(f i).parts+1,(f i).bg+p,max (f i).dD q.fD,max (f i).days q.days⟩):=by unfold Hid Sa.mT Sa.kindOf;rw[YD,hq,hp']
 rw[hq] at q0 q1 k1 k2;rw[hp'] at p1 hp;obtain⟨x,hx⟩:∃x,max (f i).dD q.fD=x:=⟨_,rfl⟩;obtain⟨y,hy⟩:∃y,max (f i).days q.days=y:=⟨_,rfl⟩;rw[hx,hy] at SI;rw[SI.out] at hc ⊢;have HC:=qh hc;have m1:(if (f i).dD<q.fD then q.fD else (f i).dD)=x:=by rw[<-hx,Int.max_def];split<;>split<;>omega
 have m2:(if (f i).days<q.days then q.days else (f i).days)=y:=by rw[<-hy,Int.max_def];split<;>split<;>omega
 have hki:(k:Int)<(h.parts.length:Int):=nQ;have hk0:¬(k:Int)<0:=nQ;have hji:(j:Int)<(h.kinds.length:Int):=nQ;have hj0:¬(j:Int)<0:=nQ;have HY:=qh (And.intro hx hy);clear hb hc hH hf hv hx hy hq hp' SI hj YD;go_enter Tryz.func252,Tryz.ntmps252;go_wp2_with fail;go_region;go_wp2_with fail;go_region;go_wp2_with fail;go_end0;refine⟨⟨_,rfl⟩,?_,?_⟩
 ·rw[<-HC.out];exact(((((((HX.out.set _ _).set _ _).set _ _).set _ _).alloc _).alloc _).alloc _).drew.drew
 ·exact(((((((((bw.refl (fun x=>x=b) w).set rfl _ _).set rfl _ _).set rfl _ _).set rfl _ _).alloc _).alloc _).alloc _).drew).drew
theorem qD(c:Sa.iZ)(fl:Int)(hf:0<=fl/\fl<=9)(hc:Sa.Fair 6 c)(w:nJ):Calls nH 185 #[St c,.int .i64 fl] w fun e w'=>e=.returned (.int .i64 (Sa.gm fl c))/\∃δ,w'=af w δ:=by
 obtain⟨a,b,s,d⟩:=c;unfold St;unfold Sa.Fair at hc;simp only[] at hc ⊢;have hm:=Sa.xE hc.2.1 hc.2.2.1;have hs:Sa.gm fl ⟨a,b,s,d⟩=if a=0 then 0 else fl+(b*s+9) / 10:=rfl;by_cases h0:a=0
 ·rw[hs,if_pos h0];subst h0;go_enter Tryz.func185,Tryz.ntmps185;go_wp2;go_ret;exact⟨rfl,ag⟩
 ·rw[hs,if_neg h0];have hd:(a==0)=false:=by simp[h0]
  have hq:(b*s+9).tdiv 10=(b*s+9) / 10:=Int.tdiv_eq_ediv_of_nonneg nQ;go_enter Tryz.func185,Tryz.ntmps185;go_wp2;go_ret;exact⟨rfl,ag⟩
theorem cW{n low high:Int}{b:Bool}(h:fj low high n=b)(w:nJ):Calls nH 54 #[.int .i64 n,.int .i64 low,.int .i64 high] w fun e w'=>e=.returned (.bool b)/\w=w':=by subst h;exact FC n low high w
theorem zQ(n:Int)(b:Bool)(h:fj 0 99 n=b)(w:nJ):Calls nH 56 #[.int .i64 n] w fun e w'=>e=.returned (.bool (!b))/\∃δ,w'=af w δ:=by have H:=qh h;clear h;go_enter Tryz.func56,Tryz.ntmps56;go_wp2_with (go_at_call 54;refine(cW H.out _).mono ?_;rintro e w1 ⟨rfl,rfl⟩);go_ret;exact⟨rfl,ag⟩
theorem kN{α:Type}[Inhabited α]{p:α->Bool}{xs:List α}{k:Nat}(hk:k<xs.length)(h:p (nth xs k)=false):xs.all p=false:=by rw[List.all_eq_false];exact⟨_,aS _ hk,by simp[h]⟩
theorem pE{α:Type}[Inhabited α]{p:α->Bool}{xs:List α}{k:Nat}(hk:k<xs.length)(h:(xs.take k).all p=true)(h2:p (nth xs k)=true):(xs.take (k+1)).all p=true:=by rw[bu xs hk,List.all_append,h];simp[h2]
theorem CR(A:Option Addr)(c:Nat)(xs:List Int)(B:Nat)(w:nJ)(hS:Sl aH B w A c xs)[hB:Le B w]:Calls nH 103 #[.slice A xs.length c,.func (.func 56) #[] #[]] w fun e w'=>∃i:Int,e=.returned (.int .i64 i)/\(0<=i↔xs.all (fj 0 99)=false)/\∃δ,w'=af w δ:=by
 have HS:=qh hS;have hcl:=hS.len;clear hS;go_enter Tryz.func103,Tryz.ntmps103;go_wp2;go_loopg [8] xs.length (fun g i wr=>∃(k:Nat) (δ:nJ),k<=xs.length/\g=xs.length-k/\i=.int .i64 k/\Hid ((xs.take k).all (fj 0 99)=true)/\wr=af w δ)
 case atStart=>exact⟨0,w,nE _,rfl,rfl,rfl,(aY w).symm⟩
 case round=>
  obtain⟨k,δ,hk,rfl,rfl,HK,rfl⟩:=hrel;by_cases hlt:k<xs.length
  ·obtain⟨b,o,rfl,hb,d0⟩:=HS.out.int hlt;have ib:Lt b w:=⟨nL hb hB.out⟩;have hki:(k:Int)<(xs.length:Int):=nQ;have hk0:¬(k:Int)<0:=nQ;rcases hq:fj 0 99 (nth xs k) with _|_
   ·have HF:=qh (kN hlt hq);have HQ:=qh hq;clear hq;go_wp2_with (go_at_call 56;refine(zQ _ _ HQ.out _).mono ?_;rintro e w1 ⟨rfl,δ1,rfl⟩);go_ret;exact⟨k,rfl,⟨fun _=>HF.out,fun _=>by omega⟩,ag⟩
   ·have HQ:=qh hq;have sj:=qh (pE hlt HK.out hq);clear hq;go_wp2_with (go_at_call 56;refine(zQ _ _ HQ.out _).mono ?_;rintro e w1 ⟨rfl,δ1,rfl⟩);go_roundg (xs.length-(k+1))
    case measure=>omega
    case rel=>exact⟨k+1,_,hlt,rfl,by go_num,sj,aq⟩
  ·obtain rfl:k=xs.length:=by omega
   have HF:Hid (xs.all (fj 0 99)=true):=by have:=HK.out;rw[List.take_length] at this;exact this
   go_wp2;go_ret;exact⟨-1,rfl,⟨fun h=>by omega,fun h=>by rw[HF.out] at h;cases h⟩,ag⟩
theorem zR(A:Option Addr)(c:Nat)(xs:List Int)(b:Bool)(hb:xs.all (fj 0 99)=b)(B:Nat)(w:nJ)(hS:Sl aH B w A c xs)[hB:Le B w]:Calls nH 55 #[.slice A xs.length c,.func (.func 56) #[] #[]] w fun e w'=>e=.returned (.bool (!b))/\∃δ,w'=af w δ:=by
 have HS:=qh hS;have HB:=qh hb;clear hS hb;go_enter Tryz.func55,Tryz.ntmps55;go_wp2_with (go_at_call 103;refine(CR A c xs B _ HS.out.up).mono ?_;rintro e w1 ⟨i,rfl,hi,δ,rfl⟩;have HI:=qh hi;clear hi);go_ret;refine⟨aW ?_,ag⟩;have hi:=HI.out;rw[HB.out] at hi;cases b
 ·exact decide_eq_true (hi.2 rfl)
 ·exact decide_eq_false (fun h=>by cases hi.1 h)
theorem qq{h:Sa.aL}(hv:Sa.valid h=false):Ending.returned (.int .i64 80)=Ending.returned (Value.int .i64 (cE (Sa.valid h) 80)):=by rw[hv];rfl
theorem tO(k:Sa.Kind):(Sa.mO k=true/\fj 0 9 k.fD=true/\fj 0 20 k.days=true)\/(Sa.mO k=false/\fj 0 9 k.fD=false)\/(Sa.mO k=false/\fj 0 9 k.fD=true/\fj 0 20 k.days=false):=by unfold Sa.mO;cases fj 0 9 k.fD<;>cases fj 0 20 k.days<;>simp
theorem tN(n:Int)(p:Sa.Part):(Sa.kG n p=true/\fj 0 (n-1) p.kind=true/\fj 0 40 p.bg=true)\/(Sa.kG n p=false/\fj 0 (n-1) p.kind=false)\/(Sa.kG n p=false/\fj 0 (n-1) p.kind=true/\fj 0 40 p.bg=false):=by unfold Sa.kG;cases fj 0 (n-1) p.kind<;>cases fj 0 40 p.bg<;>simp
theorem dN{h:Sa.aL}(hb:Sa.mL h=false\/h.kinds.all Sa.mO=false\/h.parts.all (Sa.kG h.kinds.length)=false\/h.bars.all (fj 0 99)=false):Sa.valid h=false:=by unfold Sa.valid;rcases hb with h|h|h|h<;>rw[h]<;>simp
theorem CS(r:eE)(h:Sa.aL)(B:Nat)(w:nJ)(hH:bS B w r h)[hB:Le B w]:Calls nH 21 #[eW r h] w fun e w'=>e=.returned (.int .i64 (cE (Sa.valid h) 80))/\∃δ,w'=af w δ:=by
 have HH:=qh hH;have l1:=hH.1.len;have l2:=hH.2.1.len;have l3:=hH.2.2.len;obtain⟨kA,kc,pA,pc,bA,bc⟩:=r;clear hH;by_cases t1:(3:Int)<(h.kinds.length:Int)
 ·have HB:=qh (qq (dN (h:=h) (.inl (by unfold Sa.mL;rw[decide_eq_false nQ];simp))));go_enter Tryz.func21,Tryz.ntmps21;go_wp2;go_ret;exact⟨HB.out,ag⟩
 rcases t2:fj 0 9 h.floor with _|_
 ·have HB:=qh (qq (dN (h:=h) (.inl (by unfold Sa.mL;rw[t2];simp))));have T2:=qh t2;clear t2;go_enter Tryz.func21,Tryz.ntmps21;go_wp2_with (go_at_call 54;refine(cW T2.out _).mono ?_;rintro e w1 ⟨rfl,rfl⟩);go_ret;exact⟨HB.out,ag⟩
 have T2:=qh t2;by_cases t3:(6:Int)<(h.parts.length:Int)
 ·have HB:=qh (qq (dN (h:=h) (.inl (by unfold Sa.mL;rw[decide_eq_false (p:=h.parts.length<=6) nQ];simp))));clear t2;go_enter Tryz.func21,Tryz.ntmps21;go_wp2_with (go_at_call 54;refine(cW T2.out _).mono ?_;rintro e w1 ⟨rfl,rfl⟩);go_ret;exact⟨HB.out,ag⟩
 by_cases t4:(4:Int)<(h.bars.length:Int)
 ·have HB:=qh (qq (dN (h:=h) (.inl (by unfold Sa.mL;rw[decide_eq_false (p:=h.bars.length<=4) nQ];simp))));clear t2;go_enter Tryz.func21,Tryz.ntmps21;go_wp2_with (go_at_call 54;refine(cW T2.out _).mono ?_;rintro e w1 ⟨rfl,rfl⟩);go_ret;exact⟨HB.out,ag⟩
 have HT:Hid (Sa.mL h=true):=by unfold Hid Sa.mL;rw[t2];simp;omega
 clear t2;go_enter Tryz.func21,Tryz.ntmps21;go_wp2_with (go_at_call 54;refine(cW T2.out _).mono ?_;rintro e w1 ⟨rfl,rfl⟩);refine QAD ?_;intro W1 aE cz de cN cY dc rX lH jU kM;refine QCD ?_;intro oM;clear aE;go_loopg [4,32] h.kinds.length (fun g z i wr=>∃(k:Nat) (δ:nJ),k<=h.kinds.length/\g=h.kinds.length-k/\i=.int .i64 k/\Hid ((h.kinds.take k).all Sa.mO=true)/\wr=af W1 δ)
 case atStart=>exact⟨0,W1,nE _,rfl,rfl,rfl,(aY _).symm⟩
 case round=>
  obtain⟨k,δ,hk,rfl,rfl,HK,rfl⟩:=hrel;by_cases hlt:k<h.kinds.length
  ·obtain⟨b,o,rfl,hb,d0,d1⟩:=oM.out.1.kind hlt;have ib:Lt b W1:=⟨nL hb cz.out⟩;have hki:(k:Int)<(h.kinds.length:Int):=nQ;have hk0:¬(k:Int)<0:=nQ;rcases tO (nth h.kinds k) with⟨c0,c1,c2⟩|⟨c0,c1⟩|⟨c0,c1,c2⟩
   ·have sj:=qh (pE hlt HK.out c0);have C1:=qh c1;have C2:=qh c2;clear c0 c1 c2;go_wp2_with (go_at_call 54;first|(with_reducible refine(cW C1.out _).mono ?_;rintro e w1 ⟨rfl,rfl⟩)|(with_reducible refine(cW C2.out _).mono ?_;rintro e w1 ⟨rfl,rfl⟩));go_roundg (h.kinds.length-(k+1))
    case measure=>omega
    case rel=>exact⟨k+1,_,hlt,rfl,by go_num,sj,aq⟩
   ·have HB:=qh (qq (dN (h:=h) (.inr (.inl (kN hlt c0)))));have C1:=qh c1;clear c0 c1;go_wp2_with (go_at_call 54;refine(cW C1.out _).mono ?_;rintro e w1 ⟨rfl,rfl⟩);go_ret;exact⟨HB.out,ag⟩
   ·have HB:=qh (qq (dN (h:=h) (.inr (.inl (kN hlt c0)))));have C1:=qh c1;have C2:=qh c2;clear c0 c1 c2;go_wp2_with (go_at_call 54;first|(with_reducible refine(cW C1.out _).mono ?_;rintro e w1 ⟨rfl,rfl⟩)|(with_reducible refine(cW C2.out _).mono ?_;rintro e w1 ⟨rfl,rfl⟩));go_ret;exact⟨HB.out,ag⟩
  ·obtain rfl:k=h.kinds.length:=by omega
   have ZN:Hid (h.kinds.all Sa.mO=true):=by have:=HK.out;rw[List.take_length] at this;exact this
   clear HK;go_wp2_with fail;go_loopg [6,50] h.parts.length (fun g z i wr=>∃(k:Nat) (δ:nJ),k<=h.parts.length/\g=h.parts.length-k/\i=.int .i64 k/\Hid ((h.parts.take k).all (Sa.kG h.kinds.length)=true)/\wr=af W1 δ)
   case atStart=>exact⟨0,_,nE _,rfl,rfl,rfl,aq⟩
   case round=>
    obtain⟨k,δ,hk,rfl,rfl,HK,rfl⟩:=hrel;by_cases hlt:k<h.parts.length
    ·obtain⟨b,o,rfl,hb,d0,d1⟩:=oM.out.2.1.part hlt;have ib:Lt b W1:=⟨nL hb cz.out⟩;have hki:(k:Int)<(h.parts.length:Int):=nQ;have hk0:¬(k:Int)<0:=nQ;rcases tN (h.kinds.length:Int) (nth h.parts k) with⟨c0,c1,c2⟩|⟨c0,c1⟩|⟨c0,c1,c2⟩
     ·have sj:=qh (pE (p:=Sa.kG h.kinds.length) hlt HK.out c0);have C1:=qh c1;have C2:=qh c2;clear c0 c1 c2;go_wp2_with (go_at_call 54;first|(with_reducible refine(cW C1.out _).mono ?_;rintro e w1 ⟨rfl,rfl⟩)|(with_reducible refine(cW C2.out _).mono ?_;rintro e w1 ⟨rfl,rfl⟩));go_roundg (h.parts.length-(k+1))
      case measure=>omega
      case rel=>exact⟨k+1,_,hlt,rfl,by go_num,sj,aq⟩
     ·have HB:=qh (qq (dN (h:=h) (.inr (.inr (.inl (kN hlt c0))))));have C1:=qh c1;clear c0 c1;go_wp2_with (go_at_call 54;refine(cW C1.out _).mono ?_;rintro e w1 ⟨rfl,rfl⟩);go_ret;exact⟨HB.out,ag⟩
     ·have HB:=qh (qq (dN (h:=h) (.inr (.inr (.inl (kN hlt c0))))));have C1:=qh c1;have C2:=qh c2;clear c0 c1 c2;go_wp2_with (go_at_call 54;first|(with_reducible refine(cW C1.out _).mono ?_;rintro e w1 ⟨rfl,rfl⟩)|(with_reducible refine(cW C2.out _).mono ?_;rintro e w1 ⟨rfl,rfl⟩));go_ret;exact⟨HB.out,ag⟩
    ·obtain rfl:k=h.parts.length:=by omega
     have WN:Hid (h.parts.all (Sa.kG h.kinds.length)=true):=by have:=HK.out;rw[List.take_length] at this;exact this
     clear HK;rcases hb:h.bars.all (fj 0 99) with _|_
     ·have HB:=qh (qq (dN (h:=h) (.inr (.inr (.inr hb)))));have Pt:=qh hb;clear hb;go_wp2_with (go_at_call 55;refine(zR bA bc h.bars _ Pt.out B _ oM.out.2.2.up).mono ?_;rintro e w1 ⟨rfl,δ1,rfl⟩);go_ret;exact⟨HB.out,ag⟩
     ·have HB:Hid (Ending.returned (.int .i64 0)=Ending.returned (Value.int .i64 (cE (Sa.valid h) 80))):=by unfold Hid Sa.valid;rw[HT.out,ZN.out,WN.out,hb];rfl
      have Pt:=qh hb;clear hb;go_wp2_with (go_at_call 55;refine(zR bA bc h.bars _ Pt.out B _ oM.out.2.2.up).mono ?_;rintro e w1 ⟨rfl,δ1,rfl⟩);go_ret;exact⟨HB.out,ag⟩
def hU(f:Nat->Sa.iZ):nK:=.agg (js f)
theorem eN:fO nH 220 20:=fO.mk' Tryz.underlying220 rfl nP
theorem AZ:fO nH 218 4:=fO.mk' Tryz.underlying218 rfl nP
theorem rI(f:Nat->Sa.iZ):(js f).all (·.oneCell')=true:=by unfold js;simp[Value.oneCell']
def dI(h:Sa.aL)(l:List Int)(j:Nat):Sa.iZ:=Sa.ia h l (j:Int)
theorem Ij(h:Sa.aL)(l:List Int)(x:Nat):dI h (l++[(x:Int)])=Jz (dI h l) x (Sa.mT h (dI h l x) (nth h.parts l.length)):=by
 funext j;unfold dI Jz;rw[Sa.AA];by_cases hj:j=x
 ·subst hj;rw[if_pos rfl,if_pos rfl]
 ·rw[if_neg nQ,if_neg hj]
theorem JK(r:eE)(h:Sa.aL)(hv:Sa.valid h=true)(l:List Int)(hl:l.length<=h.parts.length)(hx:∀x∈l,0<=x/\x<5)(A:Option Addr)(c:Nat)(B:Nat)(w:nJ)(hH:bS B w r h)[hB:Le B w](hS:Sl aH B w A c l):Calls nH 222 #[eW r h,.slice A l.length c] w fun e w'=>e=.returned (hU (dI h l))/\∃δ,w'=af w δ:=by
 have HH:=qh hH;have HV:=qh hv;have HX:=qh hx;have HL:=qh hl;have QZ:=hS.len;have h6:=(Sa.az.1 hv).1.2.2.1;obtain⟨kA,kc,pA,pc,bA,bc⟩:=r;clear hH hv hx hl;go_enter Tryz.func222,Tryz.ntmps222;go_wp2_with fail;refine QCK ?_;intro W1 aE cz de cN cY dc dX lH jU kM iY;have vr:Hid (av W1 (w.heap.size+1) 220 (js (dI h (l.take 0)))):=by rw[aE.out];exact av.new nV
 have HZ:Hid (W1.heap.size=w.heap.size+2):=by rw[aE.out];unfold Hid;simp
 have s1:Hid (Sl aH B W1 A c l):=qh hS.up;refine QCD ?_;intro oM;clear aE hS;go_loopg [5,6,9] l.length (fun gg z z2 i wr=>∃(k:Nat),k<=l.length/\gg=l.length-k/\i=.int .i64 k/\Hid (av wr (w.heap.size+1) 220 (js (dI h (l.take k))))/\Hid (bw (fun x=>x=w.heap.size+1) W1 wr))
 case atStart=>exact⟨0,nE _,rfl,rfl,vr,bw.refl _ _⟩
 case round=>
  obtain⟨k,hk,rfl,rfl,XF,hK⟩:=hrel;have hcell:Hid (∀b o,b<w.heap.size+1->wr.cell? ⟨b,o,none⟩=W1.cell? ⟨b,o,none⟩):=qh (fun b o hb=>hK.out.cell (by have:=HZ.out;omega) nQ);have iw:Le B wr:=⟨nT cz.out hK.out.size⟩;have ib:Lt (w.heap.size+1) wr:=XF.out.lt;have de:Lt w.heap.size wr:=⟨nL (by have:=HZ.out;omega) hK.out.size⟩;have XV:Hid (bS B wr ⟨kA,kc,pA,pc,bA,bc⟩ h):=qh (oM.out.eG hK.out (by have:=HZ.out;have:=hB.out;omega) (by have:=hB.out;rintro b rfl;omega));by_cases hlt:k<l.length
  ·obtain⟨b,o,rfl,hb,d0⟩:=s1.out.int hlt;have KR:b<w.heap.size+1:=by have:=hB.out;omega
   rw[<-hcell.out b _ KR] at d0;have ibb:Lt b wr:=⟨by have:=ib.out;omega⟩;have hki:(k:Int)<(l.length:Int):=nQ;have hk0:¬(k:Int)<0:=nQ;obtain⟨x,hx⟩:∃x:Nat,nth l k=x:=⟨(nth l k).toNat,by have:=HX.out _ (aS _ hlt);omega⟩;have VD:x<5:=by have:=HX.out _ (aS _ hlt);omega
   rw[hx] at d0;have Z7:(x:Int)<5:=nQ;have hx0:¬(x:Int)<0:=nQ;have hxm:((x:Int) != -1)=true:=nV;have e0:wr.cell? ⟨w.heap.size,0,none⟩=some (.slice kA h.kinds.length kc):=(hcell.out _ 0 (nA _)).trans nZ;have e1:wr.cell? ⟨w.heap.size,1,none⟩=some (.int .i64 h.floor):=(hcell.out _ 1 (nA _)).trans nZ;have e2:wr.cell? ⟨w.heap.size,2,none⟩=some (.slice pA h.parts.length pc):=(hcell.out _ 2 (nA _)).trans nZ;have e3:wr.cell? ⟨w.heap.size,3,none⟩=some (.slice bA h.bars.length bc):=(hcell.out _ 3 (nA _)).trans nZ;have HF:Hid (Sa.Fair 6 (dI h (l.take k) x)):=qh (Sa.fe HV.out (by rw[List.length_take];have:=HL.out;omega) _);have HKP:Hid (k<h.parts.length):=qh (by have:=HL.out;omega);have HX5:=qh VD;have HN:Hid (dI h (l.take (k+1))=Jz (dI h (l.take k)) x (Sa.mT h (dI h (l.take k) x) (nth h.parts k))):=by unfold Hid;rw[bu l hlt,hx,Ij,List.length_take,Nat.min_eq_left (nS hlt)]
   go_wp2_with fail;go_region_with (go_at_call 252;refine(SY ⟨kA,kc,pA,pc,bA,bc⟩ h HV.out (dI h (l.take k)) x k (x*4) rfl HX5.out HKP.out 6 (Int.le_refl _) HF.out B (w.heap.size+1) _ _ (iP.2 XV.out) XF.out.drew).mono ?_;rintro e w2 ⟨⟨v,rfl⟩,gi,hk2⟩);go_wp2;go_roundg (l.length-(k+1))
   case measure=>omega
   case rel=>exact⟨k+1,hlt,rfl,by go_num,by rw[HN.out];exact gi,hK.out.trans (((bw.refl _ _).drew).trans hk2)⟩
  ·obtain rfl:k=l.length:=by omega
   have X9:Hid (av wr (w.heap.size+1) 220 (js (dI h l))):=by have:=XF.out;rw[List.take_length] at this;exact this
   clear XF;go_wp2_with (first|(refine aj eN rfl _ rfl rfl X9.out rfl ?_)|(refine ah eN rfl _ _ rfl rfl rfl X9.out rfl rfl (rI _) ?_;intro W2 gi hk2));refine gB eN Tryz.results222 rfl gi rfl ⟨rfl,eU (w:=w) (hK.out.trans hk2) (by rintro b rfl;omega)⟩
def yc(h:Sa.aL)(f:Nat->Sa.iZ):Bool:=(List.range h.bars.length).all fun b=>decide (Sa.o5 h.floor (f b)<=nth h.bars b)
theorem Oh(h:Sa.aL)(l:List Int):yc h (dI h l)=Sa.fits h l:=rfl
theorem At{h:Sa.aL}{f:Nat->Sa.iZ}{k:Nat}(hk:k<h.bars.length)(h0:∀b,b<k->Sa.o5 h.floor (f b)<=nth h.bars b)(h1:¬Sa.o5 h.floor (f k)<=nth h.bars k):yc h f=false:=by unfold yc;rw[List.all_eq_false];exact⟨k,List.mem_range.2 hk,by simpa using h1⟩
theorem D7{h:Sa.aL}{f:Nat->Sa.iZ}(h0:∀b,b<h.bars.length->Sa.o5 h.floor (f b)<=nth h.bars b):yc h f=true:=by unfold yc;rw[List.all_eq_true];exact fun b hb=>decide_eq_true (h0 b (List.mem_range.1 hb))
theorem wE{fl:Int}(hf:0<=fl/\fl<=9){c:Sa.iZ}(hc:Sa.Fair 6 c):0<=Sa.gm fl c/\Sa.gm fl c<=300/\0<=c.bg/\c.bg<=240:=by have h1:=Sa.mB hf hc;have h2:=hc.2.1;omega
theorem wu(r:eE)(h:Sa.aL)(hv:Sa.valid h=true)(f:Nat->Sa.iZ)(hf:∀b,Sa.Fair 6 (f b))(q:Bool)(hq:yc h f=q)(B:Nat)(w:nJ)(hH:bS B w r h)[hB:Le B w]:Calls nH 184 #[hU f,eW r h] w fun e w'=>e=.returned (.bool q)/\∃δ,w'=af w δ:=by
 have HH:=qh hH;have HV:=qh hv;have HF:=qh hf;have HQ:=qh hq;have Xy:=hH.2.2.len;have h4:=(Sa.az.1 hv).1.2.2.2;have AM:=qh (Sa.az.1 hv).1.2.1;have ZX:=qh (Sa.az.1 hv).2.2.2;obtain⟨kA,kc,pA,pc,bA,bc⟩:=r;clear hH hv hf hq;unfold hU;go_enter Tryz.func184,Tryz.ntmps184;go_wp2_with fail;refine QCJ ?_;intro W1 aE cz de cN cY dc dX lH jU kM iY;have vr:Hid (av W1 w.heap.size 220 (js f)):=by rw[aE.out];exact(av.new rfl).alloc _
 have s1:Hid (Sl aH B W1 bA bc h.bars):=qh HH.out.2.2.up;clear aE;go_loopg [5,6,10] h.bars.length (fun gg z z2 i wr=>∃(k:Nat) (δ:nJ),k<=h.bars.length/\gg=h.bars.length-k/\i=.int .i64 k/\Hid (∀b,b<k->Sa.o5 h.floor (f b)<=nth h.bars b)/\wr=af W1 δ)
 case atStart=>exact⟨0,W1,nE _,rfl,rfl,fun b hb=>absurd hb nQ,(aY W1).symm⟩
 case round=>
  obtain⟨k,δ,hk,rfl,rfl,HK,rfl⟩:=hrel;by_cases hlt:k<h.bars.length
  ·obtain⟨b,o,rfl,hb,d0⟩:=s1.out.int hlt;have ib:Lt b W1:=⟨nL hb cz.out⟩;have hki:(k:Int)<(h.bars.length:Int):=nQ;have hk0:¬(k:Int)<0:=nQ;have Sj:(k:Int)<5:=nQ;obtain⟨z0,z1,z2,z3⟩:=yH f (show k<5 by omega);have c0:=vr.out.cell z0;have c1:=vr.out.cell z1;have c2:=vr.out.cell z2;have c3:=vr.out.cell z3;obtain⟨n1,n2,n3,n4⟩:=wE AM.out (HF.out k);have HFK:=qh (HF.out k);obtain⟨y,hy⟩:∃y,nth h.bars k=y:=⟨_,rfl⟩;have hyb:=ZX.out _ (aS _ hlt);rw[hy] at hyb d0;obtain⟨v,hv⟩:∃v,Sa.gm h.floor (f k)=v:=⟨_,rfl⟩;rw[hv] at n1 n2;have LX:=qh hv;have Ch:Hid (Sa.o5 h.floor (f k)=(f k).bg+v):=by unfold Hid Sa.o5;rw[hv]
   have HY:=qh hy;clear hy hv z0 z1 z2 z3;by_cases hfit:(f k).bg+v<=y
   ·have hfb:¬y<(f k).bg+v:=nQ;go_wp2_with fail;refine wpRl ?_;repeat (go_big_quiet_step ((first|(go_at_call 185;refine Calls.bU (v:=.int .i64 v) (by rw[<-LX.out];exact qD (f k) _ AM.out HFK.out _)))))
    refine QBY ?_;rintro _ ⟨δq,rfl⟩;go_wp2;go_roundg (h.bars.length-(k+1))
    case measure=>omega
    case rel=>
     refine⟨k+1,_,hlt,rfl,by go_num,fun b hb=>?_,aq⟩;rcases Nat.lt_succ_iff_lt_or_eq.1 hb with h'|rfl
     ·exact HK.out b h'
     ·rw[Ch.out,HY.out];exact hfit
   ·have hfb:y<(f k).bg+v:=nQ;have Sy:Hid (q=false):=by rw[<-HQ.out];exact At hlt HK.out (by rw[Ch.out,HY.out];exact hfit)
    go_wp2_with fail;refine wpRl ?_;repeat (go_big_quiet_step ((first|(go_at_call 185;refine Calls.bU (v:=.int .i64 v) (by rw[<-LX.out];exact qD (f k) _ AM.out HFK.out _)))))
    refine QBY ?_;rintro _ ⟨δq,rfl⟩;go_wp2;go_ret;exact⟨by rw[Sy.out];rfl,ag⟩
  ·obtain rfl:k=h.bars.length:=by omega
   have Sy:Hid (q=true):=by rw[<-HQ.out];exact D7 HK.out
   go_wp2;go_ret;exact⟨by rw[Sy.out];rfl,ag⟩
theorem AE(f:Nat->Sa.iZ){i:Nat}(hi:i<5):(js f).extract (i*4) (i*4+4)=#[.int .i64 (f i).parts,.int .i64 (f i).bg,.int .i64 (f i).dD,.int .i64 (f i).days]:=by
 obtain rfl|rfl|rfl|rfl|rfl:i=0\/i=1\/i=2\/i=3\/i=4:=by omega
 all_goals simp[js]
def zM(fl:Int)(f:Nat->Sa.iZ)(k:Nat):Int:=Sa.gk (fun b=>Sa.gm fl (f b)) k
theorem CO(h:Sa.aL)(l:List Int):zM h.floor (dI h l) 5=Sa.cF h l:=rfl
theorem wX(r:eE)(h:Sa.aL)(hv:Sa.valid h=true)(f:Nat->Sa.iZ)(hf:∀b,Sa.Fair 6 (f b))(n:Int)(hn:zM h.floor f 5=n)(B:Nat)(w:nJ)(hH:bS B w r h)[hB:Le B w]:Calls nH 181 #[hU f,eW r h] w fun e w'=>e=.returned (.int .i64 n)/\∃δ,w'=af w δ:=by
 have HF:=qh hf;have HN:=qh hn;have AM:=qh (Sa.az.1 hv).1.2.1;obtain⟨kA,kc,pA,pc,bA,bc⟩:=r;clear hH hv hf hn;unfold hU;go_enter Tryz.func181,Tryz.ntmps181;go_wp2_with (refine aj eN rfl _ rfl rfl ((av.new rfl).alloc _) rfl ?_);refine QCJ ?_;intro W1 aE cz de cN cY dc dX lH jU kM iY;clear aE;go_loopg [5,7,9] 5 (fun gg n z i wr=>∃(k:Nat) (δ:nJ),k<=5/\gg=5-k/\n=.int .i64 (zM h.floor f k)/\i=.int .i64 k/\wr=af W1 δ)
 case atStart=>exact⟨0,W1,nQ,rfl,rfl,rfl,(aY W1).symm⟩
 case round=>
  obtain⟨k,δ,hk,rfl,rfl,rfl,rfl⟩:=hrel;have NV:=Sa.iE (A:=300) (f:=fun b=>Sa.gm h.floor (f b)) (fun b=>by have:=wE AM.out (HF.out b);omega) k;have HS:Hid (zM h.floor f (k+1)=zM h.floor f k+Sa.gm h.floor (f k)):=rfl;obtain⟨s,hs⟩:∃s,zM h.floor f k=s:=⟨_,rfl⟩;have Ar:0<=s/\s<=300*k:=by rw[<-hs];exact NV
  rw[hs] at HS ⊢;obtain⟨n1,n2,n3,n4⟩:=wE AM.out (HF.out k);obtain⟨v,hv⟩:∃v,Sa.gm h.floor (f k)=v:=⟨_,rfl⟩;rw[hv] at n1 n2 HS;have HV:=qh hv;have XM:=qh hs;clear hv hs NV;by_cases hlt:k<5
  ·have VD:(k:Int)<5:=nQ;have HE:=qh (AE f hlt);go_wp2_with (first|(refine ox Tryz.underlying220 AZ rfl _ _ rfl rfl rfl hlt HE.out ?_)|(go_at_call 185;refine(qD (f k) _ AM.out (HF.out _) _).mono ?_;rw[HV.out];rintro e w1 ⟨rfl,δ1,rfl⟩));go_roundg (5-(k+1))
   case measure=>omega
   case rel=>exact⟨k+1,_,nQ,rfl,by rw[HS.out],by go_num,aq⟩
  ·obtain rfl:k=5:=by omega
   go_wp2;go_ret;exact⟨by rw[<-HN.out,XM.out];rfl,ag⟩
theorem Mn(n:Nat)(h:n<=6)(w:nJ):Calls nH 274 #[.int .u64 1,.int .u64 n] w fun e w'=>e=.returned (.tuple #[.int .u64 0,.int .u64 n])/\w=w':=by
 obtain rfl|rfl|rfl|rfl|rfl|rfl|rfl:n=0\/n=1\/n=2\/n=3\/n=4\/n=5\/n=6:=by omega
 all_goals go_enter Tryz.func274,Tryz.ntmps274;go_wp2;go_ret2;exact⟨rfl,rfl⟩
theorem SX(n:Nat)(h:n<=6)(w:nJ):Calls nH 251 #[.int .u64 1,.int .u64 n] w fun e w'=>e=.returned (.tuple #[.int .u64 0,.int .u64 n])/\w=w':=by go_enter Tryz.func251,Tryz.ntmps251;go_wp2_with (go_at_call 274;refine(Mn n h _).mono ?_;rintro e w1 ⟨rfl,rfl⟩);go_ret2;exact⟨rfl,rfl⟩
def cI(n:Nat):List nK:=List.replicate n (.int .i64 0)
theorem pM{n off m:Nat}(h:off+m<=n):splice (cI n) off (cI m)=cI n:=by unfold splice cI;rw[List.take_replicate,List.drop_replicate,List.length_replicate,List.replicate_append_replicate,List.replicate_append_replicate];congr 1;omega
theorem qI(n:Nat):jo (.int .i64 0) 1 n=(cI n).toArray:=by apply Array.ext';simp only[jo,madeCells,cI,Value.cells];apply List.ext_getElem?;intro i;by_cases h:i<n<;>simp[List.getElem?_replicate,Nat.mod_one,h]
theorem zy{n j:Nat}{v:nK}(h:(cI n)[j]?=some v):v=.int .i64 0/\j<n:=by obtain⟨h1,h2⟩:=List.getElem?_eq_some_iff.1 h;unfold cI at h1 h2;rw[List.length_replicate] at h1;rw[List.getElem_replicate] at h2;exact⟨h2.symm,h1⟩
theorem setRow_self{W:nJ}{b:Nat}{T:TypeId}{cs:Array nK}(h:av W b T cs):W.setRow b cs=W:=by
 obtain⟨heap,tape,drawn,os,output⟩:=W;unfold av at h;simp only[World.setRow] at *;congr 1;apply Array.ext_getElem?;intro k;rw[Array.getElem?_modify];by_cases hk:b=k
 ·subst hk;rw[if_pos rfl,h];rfl
 ·rw[if_neg hk]
theorem Hv{w:nJ}{ops:Array Oper}{rest:List Oper}{o:Oper}{a:Act}{Q:Exit->Act->nJ->Prop}(hgd:o.guard=none)(d s:Operand)(ho:o.op=.call { callee:=.builtin .copy,args:=#[d,s],argTypes:=#[35,35] }){dp sp:Option Addr}{dLen dCap sLen sCap:Nat}(hd:a.eval d=.slice dp dLen dCap)(hs:a.eval s=.slice sp sLen sCap){g off n:Nat}{T:TypeId}(hg:av w g T (cI n).toArray)(m:Nat)(hm:m=Nat.min sLen dLen)(hpos:0<m->dp=some ⟨g,off,none⟩/\∃ad,sp=some ad/\∀j,j<m->w.cell? (ad.add j)=some (.int .i64 0))(hfit:off+m<=n)(h:wpList nH ops Q rest (a.put o.dst (.int .i64 (m:Nat))) w):wpList nH ops Q (o::rest) a w:=by
 by_cases h0:m=0
 ·subst h0;exact wpList_copy_nothing hgd d s _ _ ho 3 Tryz.underlying35 nP dp sp dLen dCap sLen sCap hd hs hm.symm h
 ·obtain⟨rfl,ad,rfl,hsrc⟩:=hpos nQ;refine wpList_copy_own hgd d s _ _ ho 3 Tryz.underlying35 nP g off dLen dCap ad sLen sCap hd hs (cI n).toArray T hg (cI m) (by rw[<-hm];simp[cI]) (fun j v hv=>?_) (by simpa [cI] using hfit) (fun v hv=>?_) ?_
  ·obtain⟨rfl,hj⟩:=zy hv;exact hsrc j hj
  ·rw[List.eq_of_mem_replicate hv];rfl
  ·have e:(cI n).toArray.toList.take off++(cI m++(cI n).toArray.toList.drop (off+(cI m).length))=cI n:=pM hfit;rw[e,setRow_self hg,show(cI m).length=m by simp[cI]];exact h
theorem vQ{w:nJ}{ops:Array Oper}{o:Oper}{a:Act}{K:Act->nJ->Prop}{Q:Exit->Act->nJ->Prop}{E:Prop}(hgd:o.guard=none)(d s:Operand)(ho:o.op=.call { callee:=.builtin .copy,args:=#[d,s],argTypes:=#[35,35] }){dp sp:Option Addr}{dLen dCap sLen sCap:Nat}(hd:a.eval d=.slice dp dLen dCap)(hs:a.eval s=.slice sp sLen sCap){g off n:Nat}{T:TypeId}(hg:av w g T (cI n).toArray)(m:Nat)(hm:m=Nat.min sLen dLen)(hpos:0<m->dp=some ⟨g,off,none⟩/\∃ad,sp=some ad/\∀j,j<m->w.cell? (ad.add j)=some (.int .i64 0))(hfit:off+m<=n)(h:K (a.put o.dst (.int .i64 (m:Nat))) w):if Region.wanted o (yielded ops a.tmps)=true then Oper.wp nH o a w K Q else E:=by
 have hw:Region.wanted o (yielded ops a.tmps)=true:=by simp[Region.wanted,hgd]
 rw[if_pos hw];by_cases h0:m=0
 ·subst h0;have hrun:=run_copy_none (P:=nH) w 35 35 o.type 3 dp sp dLen dCap sLen sCap Tryz.underlying35 nP hm.symm;unfold Oper.wp;simp[execOp,ho,resolve,invoke,builtin,hd,hs,hrun,Result.andThen];exact h
 ·obtain⟨rfl,ad,rfl,hsrc⟩:=hpos nQ;have hrun:=run_copy_row (P:=nH) w 35 35 o.type 3 g off dLen dCap ad sLen sCap (cI n).toArray T (cI m) Tryz.underlying35 nP hg (by rw[<-hm];simp[cI]) (fun j v hv=>by obtain⟨rfl,hj⟩:=zy hv;exact hsrc j hj) (by simpa [cI] using hfit) (fun v hv=>by rw[List.eq_of_mem_replicate hv];rfl);have e:(cI n).toArray.toList.take off++cI m++(cI n).toArray.toList.drop (off+(cI m).length)=cI n:=by rw[List.append_assoc];exact pM hfit
  have e2:(cI n).toArray.toList.take off++(cI m++(cI n).toArray.toList.drop (off+(cI m).length))=cI n:=pM hfit;first|rw[e] at hrun|rw[e2] at hrun
  rw[setRow_self hg,show(cI m).length=m by simp[cI]] at hrun;unfold Oper.wp;simp only[execOp,ho,resolve,invoke,builtin,Sem.run_bind,Sem.run_pure,Result.andThen_ok,List.map_toArray,List.map_cons,List.map_nil,hd,hs,hrun];exact h
theorem zN(n:Nat)(hn:n<=6)(g c:Nat)(w:nJ)(hc:w.cell? ⟨g,0,none⟩=some (.int .i64 0)):Calls nH 221 #[.slice (some ⟨g,0,none⟩) 1 c,.int .i64 n] w fun e w'=>e=.returned (.slice (some ⟨w.heap.size,0,none⟩) n n)/\av w' w.heap.size 3 (cI n).toArray/\∃δ,w'=af w δ:=by
 have ig:Lt g w:=⟨World.block_lt_of_cell? _ _ hc⟩;have h6:(n:Int)<=6:=nQ;have hmk:=run_mk uC n nQ nQ;rw[qI] at hmk;go_enter Tryz.func221,Tryz.ntmps221;go_wp2_with (first|(go_at_call 251;refine(SX n hn _).mono ?_;rintro e w1 ⟨rfl,rfl⟩)|(refine Hv rfl _ _ rfl rfl rfl (g:=w.heap.size) (off:=0) (n:=n) (av.new rfl) (Nat.min 1 n) rfl ?hp ?hf ?_));case hp=>
  intro hm j hj;have h1:Nat.min 1 n<=1:=Nat.min_le_left _ _;obtain rfl:j=0:=by omega
  go_simp
 case hf=>rw[Nat.zero_add];exact Nat.min_le_right _ _
 refine aK fun W1 aE=>?_;have HB:Hid (av W1 w.heap.size 3 (cI n).toArray):=by rw[aE.out];exact av.new rfl
 have v1:Le w.heap.size W1:=fR aE;have v2:aC w.heap.size w W1:=iC aE;clear aE hc;go_loopg [8] (n-Nat.min 1 n) (fun gg i wr=>∃(k:Nat) (δ:nJ),k<=n/\(0<n->0<k)/\gg=n-k/\i=.int .i64 k/\wr=af W1 δ)
 case atStart=>
  refine⟨Nat.min 1 n,W1,Nat.min_le_right _ _,fun h=>?_,?_,rfl,(aY W1).symm⟩
  ·exact Nat.lt_min.2 ⟨nQ,h⟩
  ·rfl
 case round=>
  obtain⟨k,δ,hk,xV,rfl,rfl,rfl⟩:=hrel;by_cases hlt:k<n
  ·have hki:(k:Int)<(n:Int):=nQ;have hk0:¬(k:Int)<0:=nQ;have hkc:¬n=k:=nQ;have hle:(k:Int)<=(n:Int):=nQ;have HP:Hid (∀j,j<Nat.min k (n-k)->(af W1 δ).drew.cell? ((⟨w.heap.size,0,none⟩:Addr).add j)=some (.int .i64 0)):=by
    refine qh fun j hj=>?_;have hj2:j<n:=by have h1:Nat.min k (n-k)<=k:=Nat.min_le_left k (n-k);omega
    rw[Addr.add_mid,Nat.zero_add];exact(HB.out.af δ).cell (by simp[cI,hj2])
   have XX:Hid (k+Nat.min k (n-k)<=n):=qh (by have h1:Nat.min k (n-k)<=n-k:=Nat.min_le_right k (n-k);omega);have HM:Hid ((k:Int)+(Nat.min k (n-k):Nat)=((k+Nat.min k (n-k):Nat):Int)/\0<Nat.min k (n-k)):=by have h0:=xV nQ;have h1:0<Nat.min k (n-k):=Nat.lt_min.2 ⟨h0,nQ⟩;exact⟨nQ,h1⟩
   have hmb:((Nat.min k (n-k):Nat):Int)<=6:=by have:=XX.out;omega
   obtain⟨m,hm⟩:∃m,Nat.min k (n-k)=m:=⟨_,rfl⟩;have U6:=qh hm;rw[hm] at HP XX HM hmb;clear hm;have hwr:IntKind.i64.wrap ((k:Int)+(m:Int))=(k:Int)+(m:Int):=by rw[IntWalk.i64_in];omega
   go_wp2_with fail;go_region_law (refine vQ rfl (.tmp 41) (.tmp 44) rfl (dp:=some ⟨w.heap.size,k,none⟩) (dLen:=n-k) (dCap:=n-k) (sp:=some ⟨w.heap.size,0,none⟩) (sLen:=k) (sCap:=n) (by simp[Act.eval,Act.put]) (by simp[Act.eval,Act.put]) (g:=w.heap.size) (off:=k) (n:=n) ((HB.out.af δ).drew) m U6.out.symm (fun _=>⟨rfl,_,rfl,HP.out⟩) XX.out ?_);all_goals go_wp2
   all_goals go_roundg (n-(k+m))
   case measure=>have:=HM.out.2;omega
   case rel=>exact⟨k+m,_,XX.out,fun h=>by have:=xV h;omega,rfl,by rw[<-HM.out.1],aq⟩
  ·obtain rfl:k=n:=by omega
   go_wp2;go_ret;exact⟨rfl,HB.out.af δ,ag⟩
def mY(x:List Int):Array nK:=(x.map fun v=>Value.int .i64 v).toArray
theorem Lc(n:Nat):mY (List.replicate n 0)=(cI n).toArray:=by simp[mY,cI]
theorem Ow{x:List Int}{i:Nat}(hi:i<x.length):(mY x)[i]?=some (.int .i64 (nth x i)):=by simp[mY,hi,bV]
theorem Ec(x:List Int)(i:Nat)(v:Int):(mY x).setIfInBounds i (.int .i64 v)=mY (x.set i v):=by simp[mY,List.map_set]
def qt(x:List Int)(j:Nat):List Int:=x.take (x.length-j)++List.replicate j 0
theorem Nf(x:List Int):qt x 0=x:=by simp[qt]
theorem Bn{x:List Int}{j:Nat}(hj:j<=x.length):(qt x j).length=x.length:=by simp[qt];omega
theorem Qw{x:List Int}{j i:Nat}(h:i+j+1=x.length):nth (qt x j) i=nth x i:=by rw[bV _ (by rw[Bn nQ];omega),bV _ nQ];simp only[qt];rw[List.getElem_append_left (by simp;omega),List.getElem_take]
theorem Bm{x:List Int}{j i:Nat}(h:i+j+1=x.length)(v:Int):(qt x j).set i v=x.take i++v::List.replicate j 0:=by unfold qt;rw[show x.length-j=i+1 by omega,List.set_append_left _ _ (by simp;omega),bu x nQ,List.set_append_right _ _ (by simp;omega)];simp[show i-min i x.length=0 by omega]
theorem Ng{x:List Int}{j i:Nat}(h:i+j+1=x.length):(qt x j).set i 0=qt x (j+1):=by rw[Bm h];unfold qt;rw[show x.length-(j+1)=i by omega,List.replicate_succ]
def qA(m:Nat)(x:List Int)(j:Nat):Prop:=x.drop (x.length-j)=List.replicate j ((m:Int)-1)
theorem JB(m:Nat)(x:List Int):qA m x 0:=by simp[qA]
theorem drop_cons{x:List Int}{i:Nat}(h:i<x.length):x.drop i=nth x i::x.drop (i+1):=by rw[bV _ h];exact List.drop_eq_getElem_cons h
theorem JC{m:Nat}{x:List Int}{j i:Nat}(h:i+j+1=x.length)(ht:qA m x j)(hx:nth x i=(m:Int)-1):qA m x (j+1):=by unfold qA at *;rw[show x.length-(j+1)=i by omega,drop_cons nQ,show i+1=x.length-j by omega,ht,hx,List.replicate_succ]
theorem Fi{m:Nat}{x:List Int}{j i:Nat}(h:i+j+1=x.length)(ht:qA m x j):x=x.take i++nth x i::List.replicate j ((m:Int)-1):=by unfold qA at ht;rw[<-ht,show x.length-j=i+1 by omega,<-drop_cons nQ,List.take_append_drop]
theorem Kl{m:Nat}{x:List Int}{j i:Nat}(h:i+j+1=x.length)(ht:qA m x j)(hx:nth x i+1<(m:Int)):Sa.kB m x=some ((qt x j).set i (nth x i+1)):=by
 rw[Bm h];conv=>lhs;rw[Fi h ht]
 exact Sa.Qr _ _ hx
theorem Km{m:Nat}{x:List Int}(ht:qA m x x.length):Sa.kB m x=none:=by unfold qA at ht;rw[Nat.sub_self,List.drop_zero] at ht;rw[ht];exact Sa.M0 _
theorem Ot(x:List Int):x.flatMap aH=x.map fun v=>Value.int .i64 v:=by
 induction x with
 |nil=>rfl
 |cons a x ih=>rw[List.flatMap_cons,ih];rfl
theorem zI{W:nJ}{b:Nat}{T:TypeId}{x:List Int}(h:av W b T (mY x))(hl:x.length<=1000):Sl aH W.heap.size W (some ⟨b,0,none⟩) x.length x:=by refine⟨nR _,nQ,fun _=>⟨b,0,rfl,h.rO,fun j v hj=>?_⟩⟩;rw[Ot] at hj;rw[Nat.zero_add];exact h.cell (by simpa [mY] using hj)
theorem mU{S T:Nat->Prop}{A B C:nJ}(h:bw S A B)(k:bw T B C)(hT:∀b,T b->A.heap.size<=b):bw S A C:=
 ⟨nT h.size k.size,k.os.trans h.os,k.tape.trans h.tape,k.output.trans h.output,fun b hb hn=>(k.block b (nL hb h.size) fun ht=>by have:=hT b ht;omega).trans (h.block b hb hn)⟩
theorem KX{m:Nat}{x q:List Int}(hx:∀y∈x,0<=y/\y<(m:Int))(h:Sa.kB m x=some q):Sa.lZ m x=x::Sa.lZ m q:=by rw[Sa.rG hx,h]
theorem KY{m:Nat}{x:List Int}(hx:∀y∈x,0<=y/\y<(m:Int))(h:Sa.kB m x=none):Sa.lZ m x=[x]:=by rw[Sa.rG hx,h]
theorem Ku{m:Nat}{x:List Int}{j i:Nat}(h:i+j+1=x.length)(hx:∀y∈x,0<=y/\y<(m:Int))(hv:nth x i+1<(m:Int)):((qt x j).set i (nth x i+1)).length=x.length/\∀y∈(qt x j).set i (nth x i+1),0<=y/\y<(m:Int):=by
 have h0:=hx _ (aS x (k:=i) nQ);refine⟨by rw[List.length_set,Bn nQ],fun y hy=>?_⟩;rw[Bm h] at hy;rcases List.mem_append.1 hy with h1|h1
 ·exact hx y (List.mem_of_mem_take h1)
 ·rcases List.mem_cons.1 h1 with rfl|h1
  ·omega
  ·have:=List.eq_of_mem_replicate h1;omega
def nh(h:Sa.aL)(pk:Nat)(x:List Int)(vs:Array nK)(W:nJ):Prop:=
 vs=#[.slice (some ⟨pk,0,none⟩) h.parts.length h.parts.length,hU (dI h x)]/\x.length=h.parts.length/\av W pk 3 (mY x)
abbrev pL(r:eE)(h:Sa.aL):nK:=.agg #[.slice r.kA h.kinds.length r.kc,.int .i64 h.floor,.slice r.pA h.parts.length r.pc,.slice r.bA h.bars.length r.bc,.int .i64 0]
def AU(r:eE)(h:Sa.aL):Array nK:=#[.slice r.kA h.kinds.length r.kc,.int .i64 h.floor,.slice r.pA h.parts.length r.pc,.slice r.bA h.bars.length r.bc,.int .i64 0]
theorem Da{m:Nat}{L pre:List (List Int)}{x:List Int}(he:pre++Sa.lZ m x=L)(hx:∀y∈x,0<=y/\y<(m:Int)):pre++[x] <+: L:=by rw[Sa.rG hx,List.append_cons] at he;exact⟨_,he⟩
section
attribute[local go_sem] Oper.semAt_some
theorem wW(Ok:Nat->Prop)(r:eE)(h:Sa.aL)(hv:Sa.valid h=true)(B:Nat)(W1:nJ)(hH:bS B W1 r h)[hB:Le B W1](hkeep:∀(S:Nat->Prop) (W':nJ),(∀b,S b->Ok b)->bw S W1 W'->bS B W' r h):qY nH 183 #[pL r h] #[] (nh h (W1.heap.size+2)) (Sa.mu h.bars.length h.parts.length) (fun b=>b=W1.heap.size+2) Ok W1:=by
 have Xd:=qh hkeep;clear hkeep;intro S l J Jx hS GX vf hY hJ;refine(callsIn_wide (n:=3)).1 ?_;have HH:=qh hH;have HV:=qh hv;have HS:=qh hS;have Iv:=qh GX;have Po:=qh vf;have HY:=qh hY;have HJ:=qh hJ;have l1:=hH.2.1.len;have l2:=hH.2.2.len;refine QDV ?_;intro h6 h4;obtain⟨kA,kc,pA,pc,bA,bc⟩:=r;clear hH hv hS GX vf hY hJ;refine callsIn_of_wp Tryz.func183 rfl trivial ?_ rfl;simp only[Tryz.ntmps183,List.size_toArray,List.length_cons,List.length_nil,Nat.reduceAdd,Nat.reduceSub,Array.replicate_succ,Array.replicate_zero,List.push_toArray,List.append_toArray,List.nil_append,List.cons_append];refine wpIn_wide.2 ?_;by_cases hmn:0<h.parts.length/\h.bars.length=0
 ·have hn0:(0:Int)<(h.parts.length:Int):=nQ;have hm0:(h.bars.length:Int)<=0:=nQ;have HL:Hid (Sa.mu h.bars.length h.parts.length=[]):=by obtain⟨k,hk⟩:∃k,h.parts.length=k+1:=⟨h.parts.length-1,nQ⟩;unfold Hid;rw[hmn.2,hk];rfl
  obtain⟨kinds,fl,parts,bars⟩:=h;obtain rfl:bars=[]:=List.length_eq_zero_iff.1 hmn.2;clear hmn;go_wp2_with (go_at_call 221;refine(zN parts.length h6 (W1.heap.size+1) 1 _ nW).mono ?_;rintro e w1 ⟨rfl,ku,δ1,rfl⟩);refine bodyPost_ret (results_none Tryz.results183 _ _ _) rfl ?_;refine⟨_,true,rfl,bw.dz eP,fun _=>?_,fun h=>by cases h⟩;rw[HL.out];exact Iv.out _ _ _ HJ.out (bw.dz eP)
 have HN:Hid (0<h.parts.length->0<h.bars.length):=qh nQ;have Wa:(decide (0<h.parts.length)=false/\decide ((0:Int)<(h.parts.length:Int))=false)\/((0:Int)<(h.parts.length:Int)/\¬h.bars=[]):=by
  by_cases h0:0<h.parts.length
  ·exact .inr ⟨nQ,fun e=>by have:=HN.out h0;rw[e] at this;simp at this⟩
  ·exact .inl ⟨decide_eq_false h0,decide_eq_false nQ⟩
 clear hmn;rcases Wa with⟨VO,VN⟩|⟨VN,ku⟩;all_goals go_wp2_with (go_at_call 221;refine(zN h.parts.length nQ (W1.heap.size+1) 1 _ nW).mono ?_;rintro e w1 ⟨rfl,ku,δ1,rfl⟩;have yR:=qh ku;clear ku)
 all_goals
  refine aK fun W2 eu=>?_;have HZ:Hid (W1.heap.size+3<=W2.heap.size):=by have:=yR.out.rO;rw[<-eu.out] at this;unfold Hid;simp at this;omega
  have HBK:Hid (av W2 (W1.heap.size+2) 3 (mY (List.replicate h.parts.length 0))):=by have:=yR.out;rw[<-eu.out] at this;rw[Lc];simpa [Hid] using this
  have ri:Hid (av W2 W1.heap.size 236 (AU ⟨kA,kc,pA,pc,bA,bc⟩ h)):=by rw[eu.out];exact((av.new rfl).alloc _).af _
  have sj:Hid (bw (fun _=>False) W1 W2):=by rw[eu.out];exact bw.dz eP
  clear eu yR;refine(wpIn_wide (n:=3)).1 ?_
 all_goals
  gi_loopg [5] (Sa.mu h.bars.length h.parts.length).length (fun gg i wr=>∃(pre:List (List Int)) (x:List Int),Hid (pre++Sa.lZ h.bars.length x=Sa.mu h.bars.length h.parts.length)/\gg=(Sa.lZ h.bars.length x).length/\Hid (x.length=h.parts.length/\∀y∈x,0<=y/\y<(h.bars.length:Int))/\Hid (av wr (W1.heap.size+2) 3 (mY x)) /\
   Hid (av wr W1.heap.size 236 (AU ⟨kA,kc,pA,pc,bA,bc⟩ h))/\Hid (bw S W1 wr)/\Hid (J pre wr)/\Hid (W1.heap.size+3<=wr.heap.size))
  case atStart=>
   by_cases hm:0<h.bars.length
   ·exact⟨[],List.replicate h.parts.length 0,by unfold Hid;rw[Sa.rF hm,List.nil_append],by rw[Sa.rF hm],⟨nV,fun y hy=>by have:=List.eq_of_mem_replicate hy;omega⟩,HBK,ri,sj.out.mono (fun b h=>h.elim),Iv.out _ _ _ HJ.out (sj.out.mono (fun b h=>h.elim)),HZ⟩
   ·have hp:h.parts.length=0:=by have:=HN.out;omega
    exact⟨[],List.replicate h.parts.length 0,by unfold Hid;rw[hp];rfl,by rw[hp];rfl,⟨nV,fun y hy=>by rw[hp] at hy;cases hy⟩,HBK,ri,sj.out.mono (fun b h=>h.elim),Iv.out _ _ _ HJ.out (sj.out.mono (fun b h=>h.elim)),HZ⟩
  case round=>
   obtain⟨pre,x,HP,rfl,HX,Xi,Sv,Xc,HJr,HZr⟩:=hrel;have st0:wr.cell? ⟨W1.heap.size,0,none⟩=some (.slice kA h.kinds.length kc):=Sv.out.cell rfl;have st1:wr.cell? ⟨W1.heap.size,1,none⟩=some (.int .i64 h.floor):=Sv.out.cell rfl;have st2:wr.cell? ⟨W1.heap.size,2,none⟩=some (.slice pA h.parts.length pc):=Sv.out.cell rfl;have st3:wr.cell? ⟨W1.heap.size,3,none⟩=some (.slice bA h.bars.length bc):=Sv.out.cell rfl;have st4:wr.cell? ⟨W1.heap.size,4,none⟩=some (.int .i64 0):=Sv.out.cell rfl;have i1:=Sv.out.lt;have i2:=Xi.out.lt;have XV:Hid (bS wr.heap.size wr ⟨kA,kc,pA,pc,bA,bc⟩ h):=qh ((Xd.out S wr (fun b hb=>(HS.out b hb).2) Xc.out).more (nT hB.out Xc.out.size));have hxl:=HX.out.1;have LJ:Hid (Sl aH wr.heap.size wr (some ⟨W1.heap.size+2,0,none⟩) h.parts.length x):=by rw[<-hxl];exact zI Xi.out nQ
   have SH:Hid (Calls nH 222 #[eW ⟨kA,kc,pA,pc,bA,bc⟩ h,.slice (some ⟨W1.heap.size+2,0,none⟩) h.parts.length h.parts.length] wr fun e w'=>e=.returned (hU (dI h x))/\∃δ,w'=af wr δ):=by have:=JK ⟨kA,kc,pA,pc,bA,bc⟩ h HV.out x nQ (fun y hy=>by have:=HX.out.2 y hy;omega) (some ⟨W1.heap.size+2,0,none⟩) h.parts.length wr.heap.size wr XV.out LJ.out;rw[hxl] at this;exact this
   clear hxl;gi_wp2_with (fail);refine⟨trivial,?_⟩;refine(callsIn_wide.2 SH.out).mono ?_;rintro e w1 ⟨rfl,δ1,rfl⟩;have hpre:=Da HP.out HX.out.2;obtain⟨fn,tmps,assign,body,hy,hR⟩:=HY.out 2 pre x #[.slice (some ⟨W1.heap.size+2,0,none⟩) h.parts.length h.parts.length,hU (dI h x)] (af wr δ1) hpre (Iv.out _ _ _ HJr.out (bw.af _ _ _)) ⟨rfl,HX.out.1,Xi.out.af δ1⟩;clear hpre;gi_wp2_with (fail);refine hR.mono ?_;clear hR hy;rintro e W3 ⟨b,rfl,hP⟩;have PD:=qh hP;clear hP;cases b
   ·gi_wp2_with (fail);refine bodyPost_ret (results_none Tryz.results183 _ _ _) rfl ?_;obtain⟨q,hq,QU,hx⟩:=PD.out.2.2 rfl;have hpre:=Da HP.out HX.out.2;exact⟨_,false,rfl,Xc.out.trans ((bw.af _ _ _).trans PD.out.1),fun h=>(by cases h),fun _=>⟨pre++q,((List.prefix_append_right_inj _).2 hq).trans hpre,by simp[QU],hx⟩⟩
   have K3:bw S wr W3:=(bw.af _ _ _).trans PD.out.1;have UH:Hid (av W3 (W1.heap.size+2) 3 (mY (qt x 0))):=by rw[Nf];exact Xi.out.eG K3 (fun hb=>by have:=(HS.out _ hb).1;omega)
   have si:Hid (av W3 W1.heap.size 236 (AU ⟨kA,kc,pA,pc,bA,bc⟩ h)):=Sv.out.eG K3 (fun hb=>by have:=(HS.out _ hb).1;omega);have XU:Hid (bw S W1 W3):=Xc.out.trans K3;have HZ3:Hid (W1.heap.size+3<=W3.heap.size):=qh (nT HZr.out K3.size);have Xe:Hid (J (pre++[x]) W3):=PD.out.2.1 rfl;have Pk:=qh HX.out.1;clear K3 PD st0 st1 st2 st3 st4 Xi Sv Xc HZr HJr SH LJ XV i1 i2;have hxl:=HX.out.1;gi_wp2_with (fail);refine wpIn_wide.2 ?_;go_loopg [5] h.parts.length (fun gg i wr=>∃(j:Nat),j<=h.parts.length/\gg=h.parts.length-j/\i=.int .i64 ((h.parts.length:Int)-1-(j:Int))/\Hid (qA h.bars.length x j)/\Hid (av wr (W1.heap.size+2) 3 (mY (qt x j)))/\Hid (bw (fun b=>b=W1.heap.size+2) W3 wr))
   case atStart=>exact⟨0,nE _,rfl,by go_num,JB _ _,UH,bw.refl _ _⟩
   case round=>
    obtain⟨j,hj,rfl,rfl,HT,Xj,U8⟩:=hrel;have hzj:=U8.out.size;have i1:Lt W1.heap.size wr:=⟨by have:=HZ3.out;omega⟩;have i2:=Xj.out.lt;have HSj:Hid (av wr W1.heap.size 236 (AU ⟨kA,kc,pA,pc,bA,bc⟩ h)):=si.out.eG U8.out nQ;have st3:wr.cell? ⟨W1.heap.size,3,none⟩=some (.slice bA h.bars.length bc):=HSj.out.cell rfl;have st4:wr.cell? ⟨W1.heap.size,4,none⟩=some (.int .i64 0):=HSj.out.cell rfl;clear hzj;by_cases hlt:j<h.parts.length
    ·obtain⟨i,hi⟩:∃i:Nat,i+j+1=h.parts.length:=⟨h.parts.length-1-j,nQ⟩;have UN:i+j+1=x.length:=by rw[hxl];exact hi
     have KP:(h.parts.length:Int)-1-(j:Int)=(i:Int):=nQ;rw[KP];have hil:(i:Int)<(h.parts.length:Int):=nQ;have hi0:¬(i:Int)<0:=nQ;have hig:(0:Int)<=(i:Int):=nQ;have TF:=HX.out.2 (nth x i) (aS x nQ);have d0:wr.cell? ⟨W1.heap.size+2,i,none⟩=some (.int .i64 (nth x i)):=by rw[<-Qw UN];exact Xj.out.cell (Ow (by rw[Bn nQ];omega))
     have f0:=Xj.out.free i;have HI:=qh UN;have HII:=qh KP;clear UN KP hi;by_cases hv:nth x i=(h.bars.length:Int)-1
     ·have LI:=qh hv;rw[hv] at d0;clear hv TF;go_wp2_with fail;refine wpRl ?_;repeat (go_big_quiet_step ((first|(fail))))
      refine QBY ?_;rintro _ ⟨δq,rfl⟩;go_wp2;go_roundg (h.parts.length-(j+1))
      case measure=>omega
      case rel=>
       refine⟨j+1,hlt,rfl,by have:=HII.out;go_num,JC HI.out HT.out LI.out,?_,?_⟩
       ·unfold Hid;rw[<-Ng HI.out,<-Ec];exact(Xj.out.af δq).set i _
       ·exact U8.out.trans (bw.set (S:=fun b=>b=W1.heap.size+2) (bw.af _ _ _) rfl _ _)
     ·have hv1:nth x i+1<(h.bars.length:Int):=nQ;have ZI:=qh (Ku HI.out HX.out.2 hv1);have WW:=qh (KX HX.out.2 (Kl HI.out HT.out hv1));obtain⟨v,sA⟩:∃v,nth x i=v:=⟨_,rfl⟩;rw[sA] at d0 hv hv1 TF ZI WW;have hne:(v==(h.bars.length:Int)-1)=false:=by simpa using hv
      clear hv sA;go_wp2_with fail;refine wpRl ?_;repeat (go_big_quiet_step ((first|(fail))))
      refine QBY ?_;rintro _ ⟨δq,rfl⟩;go_wp2_with fail;gi_wp2;gi_roundg (Sa.lZ h.bars.length ((qt x j).set i (v+1))).length;case measure=>rw[WW.out];simp
      case rel=>
       have XC:bw (fun b=>b=W1.heap.size+2) W3 ((af wr δq).setCell ⟨W1.heap.size+2,i,none⟩ (.int .i64 (v+1))):=U8.out.trans (bw.set (S:=fun b=>b=W1.heap.size+2) (bw.af _ _ _) rfl _ _);refine⟨pre++[x],(qt x j).set i (v+1),?_,rfl,⟨by rw[ZI.out.1];exact Pk.out,ZI.out.2⟩,?_,si.out.eG XC nQ,mU XU.out XC (by rintro b rfl;omega),Iv.out _ _ _ Xe.out XC,nT HZ3.out XC.size⟩
       ·have:=HP.out;rw[WW.out] at this;unfold Hid;rw[<-this];simp
       ·unfold Hid;rw[<-Ec];exact(Xj.out.af δq).set i _
    ·obtain rfl:j=h.parts.length:=by omega
     have KP:(h.parts.length:Int)-1-(h.parts.length:Int) = -1:=nQ;rw[KP];have WW:Hid (Sa.lZ h.bars.length x=[x]):=KY HX.out.2 (Km (by rw[hxl];exact HT.out));go_wp2_with fail;refine wpRl ?_;repeat (go_big_quiet_step ((first|(fail))))
     refine QBY ?_;rintro _ ⟨δq,rfl⟩;go_wp2_with fail;gi_wp2;refine bodyPost_ret (results_none Tryz.results183 _ _ _) rfl ?_;refine⟨_,true,rfl,mU XU.out (U8.out.trans (bw.af _ _ _)) (by rintro b rfl;omega),fun _=>?_,fun h=>by cases h⟩;have:=HP.out;rw[WW.out] at this;rw[List.nil_append,<-this];exact Iv.out _ _ _ Xe.out (U8.out.trans (bw.af _ _ _))
theorem JL(r:eE)(h:Sa.aL)(hv:Sa.valid h=true)(B:Nat)(W1:nJ)(hH:bS B W1 r h)[hB:Le B W1]:qY nH 183 #[pL r h] #[] (nh h (W1.heap.size+2)) (Sa.mu h.bars.length h.parts.length) (fun b=>b=W1.heap.size+2) (fun b=>B<=b) W1:=
 wW _ r h hv B W1 hH fun _ _ hS hk=>hH.eG hk hB.out hS
end
theorem vz(r:eE)(h:Sa.aL)(w:nJ):Calls nH 182 #[eW r h] w fun e w'=>e=.returned (.func (.func 220) #[] #[.pointer (some ⟨w.heap.size,0,none⟩)])/\w'=w.alloc (.cells #[.slice r.kA h.kinds.length r.kc,.int .i64 h.floor,.slice r.pA h.parts.length r.pc,.slice r.bA h.bars.length r.bc] 37):=by go_enter Tryz.func182,Tryz.ntmps182;go_wp2_with fail;go_ret;exact⟨rfl,rfl⟩
theorem FZ{h:Sa.aL}{L pre:List (List Int)}{x:List Int}(hp:pre++[x] <+: L)(hx:Sa.fits h x=true):pre.filter (Sa.fits h)++[x] <+: L.filter (Sa.fits h):=by obtain⟨t,rfl⟩:=hp;rw[List.filter_append,List.filter_append];exact⟨t.filter (Sa.fits h),by simp[hx]⟩
def ug(r:eE)(h:Sa.aL):Array nK:=#[.slice r.kA h.kinds.length r.kc,.int .i64 h.floor,.slice r.pA h.parts.length r.pc,.slice r.bA h.bars.length r.bc]
theorem MJ{fn:Func}{R:Ending->nJ->Prop}{t:Array nK}{D:Nat}{W:nJ}{v:nK}(hD:W.heap[D]?=some (.deferred (some [])))(hr:(results fn t).run nH (W.putObj D (.deferred none))=.ok v (W.putObj D (.deferred none)))(h:R (.returned v) (W.putObj D (.deferred none))):bodyPostM Fence.wide 3 nH fn R .normal { tmps:=t,defers:=[{ target:=.collected D,args:=#[] }] } W:=
 ⟨nV,.inl ⟨_,_,rfl,run_takeDeferred hD,_,hr,h⟩⟩
section
attribute[local go_sem] Oper.semAt_some
theorem wV(r:eE)(h:Sa.aL)(hv:Sa.valid h=true)(B bp:Nat)(W1:nJ)(hH:bS B W1 r h)[hB:Le B W1](yZ:av W1 bp 37 (ug r h)):qY nH 220 #[] #[.pointer (some ⟨bp,0,none⟩)] (nh h (W1.heap.size+5)) (Sa.bH h) (fun b=>b=W1.heap.size+5\/b=W1.heap.size+1\/b=W1.heap.size+2) (fun b=>B<=b/\b≠bp) W1:=by
 intro S l J Jx hS GX vf hY hJ;have HH:=qh hH;have HV:=qh hv;have HS:=qh hS;have Iv:=qh GX;have Po:=qh vf;have HY:=qh hY;have HJ:=qh hJ;have HBP:=qh yZ;have l1:=hH.2.1.len;have l2:=hH.2.2.len;refine QDV ?_;intro h6 h4;have Xy:=yZ.rO;obtain⟨kA,kc,pA,pc,bA,bc⟩:=r;have ib:=yZ.lt;have b0:W1.cell? ⟨bp,0,none⟩=some (.slice kA h.kinds.length kc):=yZ.cell rfl;have b1:W1.cell? ⟨bp,1,none⟩=some (.int .i64 h.floor):=yZ.cell rfl;have b2:W1.cell? ⟨bp,2,none⟩=some (.slice pA h.parts.length pc):=yZ.cell rfl;have b3:W1.cell? ⟨bp,3,none⟩=some (.slice bA h.bars.length bc):=yZ.cell rfl;clear hH hv hS GX vf hY hJ yZ;refine nc Tryz.func220 rfl ?_;simp only[Tryz.ntmps220,List.size_toArray,List.length_cons,List.length_nil,Nat.reduceAdd,Nat.reduceSub,Array.replicate_succ,Array.replicate_zero,List.push_toArray,List.append_toArray,List.nil_append,List.cons_append];go_wp2_with fail;refine aK fun W0 jh=>?_;have HZ:Hid (W0.heap.size=W1.heap.size+1):=by rw[jh.out];unfold Hid;simp
 have SD:Hid (bw (fun _=>False) W1 W0):=by rw[jh.out];exact bw.dz eP
 have HYB:Hid (av W0 W1.heap.size 271 #[.func (.yield l) #[] #[]]):=by rw[jh.out];exact av.new rfl
 clear jh;have hst:∀W,bw S W1 W->W1.heap.size+1<=W.heap.size->True:=fun _ _ _=>trivial;clear hst;refine QFM ?_;intro PJ;have hit:∀W2,Below W0.heap.size W0 W2->W2.heap.size=W0.heap.size+2->qY nH 183 #[pL ⟨kA,kc,pA,pc,bA,bc⟩ h] #[] (nh h (W1.heap.size+5)) (Sa.mu h.bars.length h.parts.length) (fun b=>b=W1.heap.size+5) (fun b=>B<=b) W2:=by
  intro W2 gi hs2;have e:W2.heap.size+2=W1.heap.size+5:=by rw[hs2,HZ.out]
  rw[<-e];have YS:Le B W2:=⟨by have:=hB.out;have:=HZ.out;omega⟩;exact JL ⟨kA,kc,pA,pc,bA,bc⟩ h HV.out B W2 (PJ.out.eG (S:=fun _=>False) (bw.dz gi) (by have:=hB.out;have:=HZ.out;omega) (fun _ h=>h.elim))
 have SE:=qh hit;clear hit;refine wo (enters_of Tryz.func183 nP rfl) (nh h (W1.heap.size+5)) (Sa.mu h.bars.length h.parts.length) (fun b=>b=W1.heap.size+5) (fun b=>B<=b)
  (first:=#[pL ⟨kA,kc,pA,pc,bA,bc⟩ h]) (caps:=#[]) rfl (by have:=HZ.out;rintro b rfl;omega) SE.out ?size ?item S ?hS ?ok
  (fun pre W=>J (pre.filter (Sa.fits h)) W) (fun c pre W=>c=.ret/\∃q,q <+: Sa.bH h/\q≠[]/\Jx q W) ?hI ?hIx ?h0
  (fun x vs a' W=>∃bl,a' = { tmps:=#[.func (.yield l) #[] #[],.pointer (some ⟨bp,0,none⟩),.pointer (some ⟨W1.heap.size,0,none⟩),.slice (some ⟨W1.heap.size+5,0,none⟩) h.parts.length h.parts.length,.pointer (some ⟨bl,0,none⟩),
   .agg #[.slice kA h.kinds.length kc,.int .i64 h.floor,.slice pA h.parts.length pc,.slice bA h.bars.length bc],pL ⟨kA,kc,pA,pc,bA,bc⟩ h,.func (.func 183) #[pL ⟨kA,kc,pA,pc,bA,bc⟩ h] #[],
   .slice (some ⟨W1.heap.size+5,0,none⟩) h.parts.length h.parts.length,hU (dI h x),undef,undef,undef,undef,undef,undef,undef,undef,undef,undef],defers:=[] }/\av W bl 220 (js (dI h x))/\W0.heap.size+2<=bl) ?hAx ?assign ?body ?done ?stop
 case size=>rintro x vs W ⟨rfl,_⟩;rfl
 case item=>rintro x vs W W' ⟨h1,h2,h3⟩ hk;exact⟨h1,h2,h3.eG hk (by have:=HZ.out;rintro(h|h|h);exact h.elim;omega;omega)⟩
 case hS=>intro b hb;have:=HS.out b hb;exact⟨by have:=HZ.out;omega,this.2.1⟩
 case ok=>have:=hB.out;have:=HZ.out;exact⟨nQ,nQ⟩
 case hI=>intro pre W W' hj hk;exact Iv.out _ _ _ hj (hk.mono fun b hb=>by have:=HZ.out;rcases hb with h|h|h;exact .inl h;exact .inr (.inl nQ);exact .inr (.inr nQ))
 case hIx=>rintro c pre W W' ⟨rfl,q,h1,h2,h3⟩ hk;exact⟨rfl,q,h1,h2,Po.out _ _ _ h3 (hk.mono fun b hb=>by have:=HZ.out;rcases hb with h|h|h;exact .inl h;exact .inr (.inl nQ);exact .inr (.inr nQ))⟩
 case h0=>exact Iv.out _ _ _ HJ.out (SD.out.mono fun b h=>h.elim)
 case hAx=>rintro x vs a' W W' ⟨bl,h1,h2,h3⟩ hk;exact⟨bl,h1,h2.eG hk (by rintro(h|h|h);exact h.elim;omega;omega),h3⟩
 case assign=>rintro l' m x vs W K ⟨rfl,hx,iA⟩ hK;have hlt:=iA.rO;have hz:=HZ.out;gi_wp2_with (refine lK eN (by first|rfl|(simp[Region.wanted,yielded];done)) _ _ rfl rfl rfl (av.new rfl) rfl rfl (rI _) ?_;intro W2 gi hk2);refine hK _ _ ?_ ⟨_,rfl,gi,nQ⟩;refine⟨nT nV hk2.size,hk2.os,hk2.tape,hk2.output,fun b hb _=>?_⟩;exact(hk2.block b (by simp;omega) nQ).trans (Below.heap_alloc _ _ b hb)
 case body=>
  rintro l' m pre x vs a' W hpre XE ⟨rfl,hx,iA⟩ ⟨bl,rfl,ve,hlo⟩ hk hs;have hz:=HZ.out;have Xk:Hid (av W bp 37 (ug ⟨kA,kc,pA,pc,bA,bc⟩ h)):=(HBP.out.eG SD.out (fun h=>h)).eG hk (fun hb=>(HS.out _ hb).2.2 rfl);have HYW:Hid (av W W1.heap.size 271 #[.func (.yield l) #[] #[]]):=HYB.out.eG hk (fun hb=>by have:=(HS.out _ hb).1;omega);have Jv:Hid (bS B W ⟨kA,kc,pA,pc,bA,bc⟩ h):=qh (PJ.out.eG hk (by have:=hB.out;omega) (fun b hb=>(HS.out b hb).2.1));have iB:Le B W:=⟨by have:=hB.out;omega⟩;have c0:W.cell? ⟨bp,0,none⟩=some (.slice kA h.kinds.length kc):=Xk.out.cell rfl;have c1:W.cell? ⟨bp,1,none⟩=some (.int .i64 h.floor):=Xk.out.cell rfl;have c2:W.cell? ⟨bp,2,none⟩=some (.slice pA h.parts.length pc):=Xk.out.cell rfl;have c3:W.cell? ⟨bp,3,none⟩=some (.slice bA h.bars.length bc):=Xk.out.cell rfl;have y0:W.cell? ⟨W1.heap.size,0,none⟩=some (.func (.yield l) #[] #[]):=HYW.out.cell rfl;have j1:=Xk.out.lt;have j2:=HYW.out.lt;have j3:=ve.lt;have L4:=qh ve;have yR:=qh iA;have Zy:=qh hpre;have HJP:=qh XE;have HKW:=qh hk;have Pk:=qh hx;have HF:Hid (∀b,Sa.Fair 6 (dI h x b)):=qh fun b=>Sa.fe HV.out nQ _;clear ve iA hpre XE hk hx hz;rcases hq:Sa.fits h x with _|_
  ·have HQ:=qh hq;clear hq;gi_wp2_with (refine eT eN (by first|rfl|(simp[Region.wanted,yielded];done)) _ rfl rfl L4.out rfl ?_);refine gz (wu ⟨kA,kc,pA,pc,bA,bc⟩ h HV.out (dI h x) HF.out false HQ.out B W Jv.out) ?_;rintro e w1 ⟨rfl,δ,rfl⟩;gi_wp2;refine⟨(fun _ h=>by cases h),?_⟩;gi_wp2;refine⟨bw.af _ _ _,?_⟩;show J ((pre++[x]).filter (Sa.fits h)) _;rw[List.filter_append,List.filter_cons,if_neg (by rw[HQ.out];simp),List.filter_nil,List.append_nil];exact Iv.out _ _ _ HJP.out (bw.af _ _ _)
  ·have HQ:=qh hq;have HPF:=qh (FZ Zy.out hq);have HFE:Hid ((pre++[x]).filter (Sa.fits h)=pre.filter (Sa.fits h)++[x]):=by unfold Hid;rw[List.filter_append];simp[hq]
   clear hq;gi_wp2_with (refine eT eN (by first|rfl|(simp[Region.wanted,yielded];done)) _ rfl rfl L4.out rfl ?_);refine gz (wu ⟨kA,kc,pA,pc,bA,bc⟩ h HV.out (dI h x) HF.out true HQ.out B W Jv.out) ?_;rintro e w1 ⟨rfl,δ,rfl⟩;obtain⟨fn,tmps,assign,body,hy,hR⟩:=HY.out (m-1) (pre.filter (Sa.fits h)) x #[.slice (some ⟨W1.heap.size+5,0,none⟩) h.parts.length h.parts.length,hU (dI h x)] (af W δ) HPF.out (Iv.out _ _ _ HJP.out (bw.af _ _ _)) ⟨rfl,Pk.out,yR.out.af δ⟩;unfold hU at hy;gi_wp2_with (refine eT eN (by first|rfl|(simp[Region.wanted,yielded];done)) _ rfl rfl (L4.out.af δ) rfl ?_);refine⟨(fun h=>by simp[Fence.wide] at h),?_⟩;refine RoundIn.mono (F:=Fence.wide.inRound l') hR ?_;clear hR hy;rintro e W3 ⟨b,rfl,hP⟩;have PD:=qh hP;clear hP;cases b
   ·gi_wp2;obtain⟨q,hq,QU,hx⟩:=PD.out.2.2 rfl;exact⟨(bw.af _ _ _).trans PD.out.1,rfl,_,((List.prefix_append_right_inj _).2 hq).trans HPF.out,by simp[QU],hx⟩
   ·gi_wp2;refine⟨(bw.af _ _ _).trans PD.out.1,?_⟩;show J ((pre++[x]).filter (Sa.fits h)) _;rw[HFE.out];exact PD.out.2.1 rfl
 case done=>
  intro W hj hk hD;refine MJ (v:=.tuple #[]) hD (results_none Tryz.results220 _ _ _) ?_;refine⟨_,true,rfl,?_,fun _=>?_,fun h=>by cases h⟩
  ·exact mU ((SD.out.mono fun b h=>h.elim).trans hk) ((bw.refl (fun b=>b=W0.heap.size) W).putObj rfl _) (by have:=HZ.out;rintro b rfl;omega)
  ·exact Iv.out _ _ _ hj ((bw.refl _ W).putObj (.inr (.inl HZ.out)) _)
 case stop=>
  rintro c pre W hpre hne ⟨rfl,q,h1,h2,h3⟩ hk hD;go_wp2_with fail;refine mK (v:=.tuple #[]) hD (results_none Tryz.results220 _ _ _) ?_;refine⟨_,false,rfl,?_,(fun h=>by cases h),fun _=>⟨q,h1,h2,?_⟩⟩
  ·exact mU ((SD.out.mono fun b h=>h.elim).trans hk) ((bw.refl (fun b=>b=W0.heap.size) W).putObj rfl _) (by have:=HZ.out;rintro b rfl;omega)
  ·exact Po.out _ _ _ h3 ((bw.refl _ W).putObj (.inr (.inl HZ.out)) _)
end
end Go.Proofs.YtcjjlikhlmfedaaGreatDoor
