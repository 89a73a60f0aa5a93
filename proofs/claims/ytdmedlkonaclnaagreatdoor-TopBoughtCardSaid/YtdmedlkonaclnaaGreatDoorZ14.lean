/- A part of the proof that a law of layer 12 holds, cut small by a program (names and blanks): Sa1, Sa4, Sa2, Sa3, Sa5, Sa6, Sa7. -/
import Derived.Deep.RegionWith
import Derived.Deep.RegionLaw
import Derived.Sort.LoopGhostIn
import Derived.Test.YtdmedlkonaclnaaGreatDoorZ2
import Derived.Test.YtdmedlkonaclnaaGreatDoorZ11
set_option maxRecDepth 100000
set_option maxHeartbeats 40000000
set_option linter.unusedVariables false
set_option linter.unusedSimpArgs false
namespace Go.Proofs.YtdmedlkonaclnaaGreatDoor
open Go.RowKit
open Nat renaming le_trans → nT, lt_of_lt_of_le → nL, le_refl → nR, zero_le → nE, le_of_lt → nS, lt_succ_self → nA
open Go.Proofs.Tryz renaming prog → nH
open Go renaming World → nJ, Value → nK
def rB(x:Sa.Kind):List nK:=[.int .i64 x.fU,.int .i64 x.days]
def jD(x:Sa.Part):List nK:=[.int .i64 x.kind,.int .i64 x.bC]
structure eR where
 kA:Option Addr
 kc:Nat
 pA:Option Addr
 pc:Nat
 bA:Option Addr
 bc:Nat
abbrev fA(r:eR)(h:Sa.aN):nK:=.agg #[.slice r.kA h.kinds.length r.kc,.int .i64 h.floor,.slice r.pA h.parts.length r.pc,.slice r.bA h.bars.length r.bc]
def bT(B:Nat)(w:nJ)(r:eR)(h:Sa.aN):Prop:=Sl rB B w r.kA r.kc h.kinds/\Sl jD B w r.pA r.pc h.parts/\Sl aI B w r.bA r.bc h.bars
section
variable{B:Nat}{w:nJ}{r:eR}{h:Sa.aN}
@[go_sem] theorem qK(δ:nJ)[hB:Le B w]:bT B (af w δ) r h↔bT B w r h:=by simp only[bT,AT]
@[go_sem] theorem jt:bT B w.drew r h↔bT B w r h:=Iff.rfl
theorem bT.up{w':nJ}(k:bT B w r h)[hg:au B w w']:bT B w' r h:=⟨k.1.up,k.2.1.up,k.2.2.up⟩
theorem bT.more(k:bT B w r h){B':Nat}(hB:B<=B'):bT B' w r h:=⟨k.1.more hB,k.2.1.more hB,k.2.2.more hB⟩
theorem bT.wide{W:nJ}(k:bT B w r h)[au B w W][hB:Le B W]:bT W.heap.size W r h:=⟨k.1.wide,k.2.1.wide,k.2.2.wide⟩
theorem bT.eM{S:Nat->Prop}{w':nJ}(k:bT B w r h)(hk:bH S w w')(hB:B<=w.heap.size)(hs:∀b,S b->B<=b):bT B w' r h:=⟨hk.Tj k.1 hB hs,hk.Tj k.2.1 hB hs,hk.Tj k.2.2 hB hs⟩
theorem Sl.kind{A:Option Addr}{c:Nat}{xs:List Sa.Kind}(h:Sl rB B w A c xs){k:Nat}(hk:k<xs.length):∃b o,A=some ⟨b,o,none⟩/\b<B/\w.cell? ⟨b,o+k*2,none⟩=some (.int .i64 (nth xs k).fU)/\w.cell? ⟨b,o+k*2+1,none⟩=some (.int .i64 (nth xs k).days):=by obtain⟨b,o,hA,hb,hc⟩:=h.at_ (size:=2) (fun _=>rfl) hk nQ;rw[bR _ hk];exact⟨b,o,hA,hb,hc 0 _ rfl,hc 1 _ rfl⟩
theorem Sl.part{A:Option Addr}{c:Nat}{xs:List Sa.Part}(h:Sl jD B w A c xs){k:Nat}(hk:k<xs.length):∃b o,A=some ⟨b,o,none⟩/\b<B/\w.cell? ⟨b,o+k*2,none⟩=some (.int .i64 (nth xs k).kind)/\w.cell? ⟨b,o+k*2+1,none⟩=some (.int .i64 (nth xs k).bC):=by obtain⟨b,o,hA,hb,hc⟩:=h.at_ (size:=2) (fun _=>rfl) hk nQ;rw[bR _ hk];exact⟨b,o,hA,hb,hc 0 _ rfl,hc 1 _ rfl⟩
end
theorem IX(n low high:Int)(w:nJ):Calls nH 133 #[.int .i64 n,.int .i64 low,.int .i64 high] w fun e w'=>e=.returned (.bool (fH low high n))/\w=w':=by
 go_enter Tryz.func133,Tryz.ntmps133;by_cases h1:low<=n
 ·go_wp2;go_ret;exact⟨bu (by simp[fH,h1]),rfl⟩
 ·go_wp2;go_ret;exact⟨bu (by simp[fH];omega),rfl⟩
def VR(c:Sa.jF):nK:=.agg #[.int .i64 c.parts,.int .i64 c.bC,.int .i64 c.dR,.int .i64 c.days]
def jZ(f:Nat->Sa.jF):Array nK:=#[.int .i64 (f 0).parts,.int .i64 (f 0).bC,.int .i64 (f 0).dR,.int .i64 (f 0).days,.int .i64 (f 1).parts,.int .i64 (f 1).bC,.int .i64 (f 1).dR,.int .i64 (f 1).days,
 .int .i64 (f 2).parts,.int .i64 (f 2).bC,.int .i64 (f 2).dR,.int .i64 (f 2).days,.int .i64 (f 3).parts,.int .i64 (f 3).bC,.int .i64 (f 3).dR,.int .i64 (f 3).days,.int .i64 (f 4).parts,.int .i64 (f 4).bC,.int .i64 (f 4).dR,.int .i64 (f 4).days]
def Mk(f:Nat->Sa.jF)(i:Nat)(c:Sa.jF)(j:Nat):Sa.jF:=if j=i then c else f j
theorem Oz(f:Nat->Sa.jF){i:Nat}(hi:i<5)(c:Sa.jF):((((jZ f).setIfInBounds (i*4) (.int .i64 c.parts)).setIfInBounds (i*4+1) (.int .i64 c.bC)).setIfInBounds (i*4+2) (.int .i64 c.dR)).setIfInBounds (i*4+3) (.int .i64 c.days)=jZ (Mk f i c):=by
 obtain rfl|rfl|rfl|rfl|rfl:i=0\/i=1\/i=2\/i=3\/i=4:=by omega
 all_goals simp[jZ,Mk]
theorem AM(f:Nat->Sa.jF){i:Nat}(hi:i<5):(jZ f)[i*4]?=some (.int .i64 (f i).parts)/\(jZ f)[i*4+1]?=some (.int .i64 (f i).bC)/\(jZ f)[i*4+2]?=some (.int .i64 (f i).dR)/\(jZ f)[i*4+3]?=some (.int .i64 (f i).days):=by
 obtain rfl|rfl|rfl|rfl|rfl:i=0\/i=1\/i=2\/i=3\/i=4:=by omega
 all_goals exact⟨rfl,rfl,rfl,rfl⟩
theorem Wt(r:eR)(h:Sa.aN)(hv:Sa.valid h=true)(f:Nat->Sa.jF)(i k:Nat)(o:Nat)(ho:o=i*4)(hi:i<5)(hk:k<h.parts.length)(n:Int)(hn:n<=6)(hf:Sa.Fair n (f i))(B b:Nat)(T:TypeId)(w:nJ)(hH:bT B w r h)[hB:Le B w](hb:ax w b T (jZ f)):Calls nH 198 #[.pointer (some ⟨b,o,none⟩),fA r h,.int .i64 k] w fun e w'=>(∃v,e=.returned v)/\ax w' b T (jZ (Mk f i (Sa.oP h (f i) (nth h.parts k))))/\bH (fun x=>x=b) w w':=by
 subst ho;obtain⟨kA,kc,pA,pc,bA,bc⟩:=r;have hc:=Oz f hi (Sa.oP h (f i) (nth h.parts k));obtain⟨z0,z1,z2,z3⟩:=AM f hi;have d0:=hb.cell z0;have d1:=hb.cell z1;have d2:=hb.cell z2;have d3:=hb.cell z3;have f0:=hb.free (i*4);have f1:=hb.free (i*4+1);have f2:=hb.free (i*4+2);have f3:=hb.free (i*4+3);have ib:=hb.lt;obtain⟨LR,k1,k2⟩:=Sa.qC hv (aV _ hk);have hp:=(Sa.aD.1 hv).2.2.1 _ (aV _ hk);have hlp:=hH.2.1.len;have hlk:=hH.1.len;obtain⟨j,hj⟩:∃j:Nat,(nth h.parts k).kind=j:=⟨(nth h.parts k).kind.toNat,nQ⟩;have hjt:(nth h.parts k).kind.toNat=j:=nQ;unfold Sa.kindOf at k1 k2;rw[hjt] at LR k1 k2;obtain⟨bp,op,rfl,Be,p0,p1⟩:=hH.2.1.part hk;obtain⟨bk,ok,rfl,hbk,q0,q1⟩:=hH.1.kind LR;have ip:Lt bp w:=⟨nL Be hB.out⟩;have ik:Lt bk w:=⟨nL hbk hB.out⟩;have HX:=qh hb;have F:=hf;unfold Sa.Fair at F;rw[hj] at p0;obtain⟨q,hq⟩:∃q,nth h.kinds j=q:=⟨_,rfl⟩;obtain⟨p,hp'⟩:∃p,(nth h.parts k).bC=p:=⟨_,rfl⟩;have Wa:Hid (Sa.oP h (f i) (nth h.parts k)=⟨(f i).parts+1,(f i).bC+p,max (f i).dR q.fU,max (f i).days q.days⟩):=by unfold Hid Sa.oP Sa.kindOf;rw[hjt,hq,hp']
 rw[hq] at q0 q1 k1 k2;rw[hp'] at p1 hp;obtain⟨x,hx⟩:∃x,max (f i).dR q.fU=x:=⟨_,rfl⟩;obtain⟨y,hy⟩:∃y,max (f i).days q.days=y:=⟨_,rfl⟩;rw[hx,hy] at Wa;rw[Wa.out] at hc ⊢;have HC:=qh hc;have m1:(if (f i).dR<q.fU then q.fU else (f i).dR)=x:=by rw[<-hx,Int.max_def];split<;>split<;>omega
 have m2:(if (f i).days<q.days then q.days else (f i).days)=y:=by rw[<-hy,Int.max_def];split<;>split<;>omega
 have hki:(k:Int)<(h.parts.length:Int):=nQ;have hk0:¬(k:Int)<0:=nQ;have hji:(j:Int)<(h.kinds.length:Int):=nQ;have hj0:¬(j:Int)<0:=nQ;have HY:=qh (And.intro hx hy);clear hb hc hH hf hv hx hy hq hp' Wa hj hjt;go_enter Tryz.func198,Tryz.ntmps198;go_wp2_with fail;go_region;go_wp2_with fail;go_region;go_wp2_with fail;go_end0;refine⟨⟨_,rfl⟩,?_,?_⟩
 ·rw[<-HC.out];exact(((((((HX.out.set _ _).set _ _).set _ _).set _ _).alloc _).alloc _).alloc _).drew.drew
 ·exact(((((((((bH.refl (fun x=>x=b) w).set rfl _ _).set rfl _ _).set rfl _ _).set rfl _ _).alloc _).alloc _).alloc _).drew).drew
theorem sB(c:Sa.jF)(fl:Int)(hf:0<=fl/\fl<=9)(hc:Sa.Fair 6 c)(w:nJ):Calls nH 70 #[VR c,.int .i64 fl] w fun e w'=>e=.returned (.int .i64 (Sa.gQ fl c))/\∃δ,w'=af w δ:=by
 obtain⟨a,b,s,d⟩:=c;unfold VR;unfold Sa.Fair at hc;simp only[] at hc ⊢;have hm:=Sa.zL hc.2.1 hc.2.2.1;have hs:Sa.gQ fl ⟨a,b,s,d⟩=if a=0 then 0 else fl+(b*s+9) / 10:=rfl;by_cases h0:a=0
 ·rw[hs,if_pos h0];subst h0;go_enter Tryz.func70,Tryz.ntmps70;go_wp2;go_ret;exact⟨rfl,ag⟩
 ·rw[hs,if_neg h0];have hd:(a==0)=false:=by simp[h0]
  have hq:(b*s+9).tdiv 10=(b*s+9) / 10:=Int.tdiv_eq_ediv_of_nonneg nQ;go_enter Tryz.func70,Tryz.ntmps70;go_wp2;go_ret;exact⟨rfl,ag⟩
theorem dj{n low high:Int}{b:Bool}(h:fH low high n=b)(w:nJ):Calls nH 133 #[.int .i64 n,.int .i64 low,.int .i64 high] w fun e w'=>e=.returned (.bool b)/\w=w':=by subst h;exact IX n low high w
theorem BW(n:Int)(b:Bool)(h:fH 0 99 n=b)(w:nJ):Calls nH 135 #[.int .i64 n] w fun e w'=>e=.returned (.bool (!b))/\∃δ,w'=af w δ:=by have H:=qh h;clear h;go_enter Tryz.func135,Tryz.ntmps135;go_wp2_with (go_at_call 133;refine(dj H.out _).mono ?_;rintro e w1 ⟨rfl,rfl⟩);go_ret;exact⟨rfl,ag⟩
theorem mH{α:Type}[Inhabited α]{p:α->Bool}{xs:List α}{k:Nat}(hk:k<xs.length)(h:p (nth xs k)=false):xs.all p=false:=by rw[List.all_eq_false];exact⟨_,aV _ hk,by simp[h]⟩
theorem qJ{α:Type}[Inhabited α]{p:α->Bool}{xs:List α}{k:Nat}(hk:k<xs.length)(h:(xs.take k).all p=true)(h2:p (nth xs k)=true):(xs.take (k+1)).all p=true:=by rw[bE xs hk,List.all_append,h];simp[h2]
theorem Fe(A:Option Addr)(c:Nat)(xs:List Int)(B:Nat)(w:nJ)(hS:Sl aI B w A c xs)[hB:Le B w]:Calls nH 196 #[.slice A xs.length c,.func (.func 135) #[] #[]] w fun e w'=>∃i:Int,e=.returned (.int .i64 i)/\(0<=i↔xs.all (fH 0 99)=false)/\∃δ,w'=af w δ:=by
 have HS:=qh hS;have hcl:=hS.len;clear hS;go_enter Tryz.func196,Tryz.ntmps196;go_wp2;go_loopg [8] xs.length (fun g i wr=>∃(k:Nat) (δ:nJ),k<=xs.length/\g=xs.length-k/\i=.int .i64 k/\Hid ((xs.take k).all (fH 0 99)=true)/\wr=af w δ)
 case atStart=>exact⟨0,w,nE _,rfl,rfl,rfl,(bw w).symm⟩
 case round=>
  obtain⟨k,δ,hk,rfl,rfl,HK,rfl⟩:=hrel;by_cases hlt:k<xs.length
  ·obtain⟨b,o,rfl,hb,d0⟩:=HS.out.int hlt;have ib:Lt b w:=⟨nL hb hB.out⟩;have hki:(k:Int)<(xs.length:Int):=nQ;have hk0:¬(k:Int)<0:=nQ;rcases hq:fH 0 99 (nth xs k) with _|_
   ·have HF:=qh (mH hlt hq);have HQ:=qh hq;clear hq;go_wp2_with (go_at_call 135;refine(BW _ _ HQ.out _).mono ?_;rintro e w1 ⟨rfl,δ1,rfl⟩);go_ret;exact⟨k,rfl,⟨fun _=>HF.out,fun _=>by omega⟩,ag⟩
   ·have HQ:=qh hq;have uv:=qh (qJ hlt HK.out hq);clear hq;go_wp2_with (go_at_call 135;refine(BW _ _ HQ.out _).mono ?_;rintro e w1 ⟨rfl,δ1,rfl⟩);go_roundg (xs.length-(k+1))
    case measure=>omega
    case rel=>exact⟨k+1,_,hlt,rfl,by go_num,uv,aq⟩
  ·obtain rfl:k=xs.length:=by omega
   have HF:Hid (xs.all (fH 0 99)=true):=by have:=HK.out;rw[List.take_length] at this;exact this
   go_wp2;go_ret;exact⟨-1,rfl,⟨fun h=>by omega,fun h=>by rw[HF.out] at h;cases h⟩,ag⟩
theorem BY(A:Option Addr)(c:Nat)(xs:List Int)(b:Bool)(hb:xs.all (fH 0 99)=b)(B:Nat)(w:nJ)(hS:Sl aI B w A c xs)[hB:Le B w]:Calls nH 134 #[.slice A xs.length c,.func (.func 135) #[] #[]] w fun e w'=>e=.returned (.bool (!b))/\∃δ,w'=af w δ:=by
 have HS:=qh hS;have HB:=qh hb;clear hS hb;go_enter Tryz.func134,Tryz.ntmps134;go_wp2_with (go_at_call 196;refine(Fe A c xs B _ HS.out.up).mono ?_;rintro e w1 ⟨i,rfl,hi,δ,rfl⟩;have HI:=qh hi;clear hi);go_ret;refine⟨bu ?_,ag⟩;have hi:=HI.out;rw[HB.out] at hi;cases b
 ·exact decide_eq_true (hi.2 rfl)
 ·exact decide_eq_false (fun h=>by cases hi.1 h)
theorem rY{h:Sa.aN}(hv:Sa.valid h=false):Ending.returned (.int .i64 80)=Ending.returned (Value.int .i64 (cC (Sa.valid h) 80)):=by rw[hv];rfl
theorem vB(k:Sa.Kind):(Sa.oJ k=true/\fH 0 9 k.fU=true/\fH 0 20 k.days=true)\/(Sa.oJ k=false/\fH 0 9 k.fU=false)\/(Sa.oJ k=false/\fH 0 9 k.fU=true/\fH 0 20 k.days=false):=by unfold Sa.oJ;cases fH 0 9 k.fU<;>cases fH 0 20 k.days<;>simp
theorem vA(n:Int)(p:Sa.Part):(Sa.mw n p=true/\fH 0 (n-1) p.kind=true/\fH 0 40 p.bC=true)\/(Sa.mw n p=false/\fH 0 (n-1) p.kind=false)\/(Sa.mw n p=false/\fH 0 (n-1) p.kind=true/\fH 0 40 p.bC=false):=by unfold Sa.mw;cases fH 0 (n-1) p.kind<;>cases fH 0 40 p.bC<;>simp
theorem eo{h:Sa.aN}(hb:Sa.oG h=false\/h.kinds.all Sa.oJ=false\/h.parts.all (Sa.mw h.kinds.length)=false\/h.bars.all (fH 0 99)=false):Sa.valid h=false:=by unfold Sa.valid;rcases hb with h|h|h|h<;>rw[h]<;>simp
theorem Ff(r:eR)(h:Sa.aN)(B:Nat)(w:nJ)(hH:bT B w r h)[hB:Le B w]:Calls nH 66 #[fA r h] w fun e w'=>e=.returned (.int .i64 (cC (Sa.valid h) 80))/\∃δ,w'=af w δ:=by
 have HH:=qh hH;have l1:=hH.1.len;have l2:=hH.2.1.len;have l3:=hH.2.2.len;obtain⟨kA,kc,pA,pc,bA,bc⟩:=r;clear hH;by_cases t1:(3:Int)<(h.kinds.length:Int)
 ·have HB:=qh (rY (eo (h:=h) (.inl (by unfold Sa.oG;rw[decide_eq_false nQ];simp))));go_enter Tryz.func66,Tryz.ntmps66;go_wp2;go_ret;exact⟨HB.out,ag⟩
 rcases t2:fH 0 9 h.floor with _|_
 ·have HB:=qh (rY (eo (h:=h) (.inl (by unfold Sa.oG;rw[t2];simp))));have T2:=qh t2;clear t2;go_enter Tryz.func66,Tryz.ntmps66;go_wp2_with (go_at_call 133;refine(dj T2.out _).mono ?_;rintro e w1 ⟨rfl,rfl⟩);go_ret;exact⟨HB.out,ag⟩
 have T2:=qh t2;by_cases t3:(6:Int)<(h.parts.length:Int)
 ·have HB:=qh (rY (eo (h:=h) (.inl (by unfold Sa.oG;rw[decide_eq_false (p:=h.parts.length<=6) nQ];simp))));clear t2;go_enter Tryz.func66,Tryz.ntmps66;go_wp2_with (go_at_call 133;refine(dj T2.out _).mono ?_;rintro e w1 ⟨rfl,rfl⟩);go_ret;exact⟨HB.out,ag⟩
 by_cases t4:(4:Int)<(h.bars.length:Int)
 ·have HB:=qh (rY (eo (h:=h) (.inl (by unfold Sa.oG;rw[decide_eq_false (p:=h.bars.length<=4) nQ];simp))));clear t2;go_enter Tryz.func66,Tryz.ntmps66;go_wp2_with (go_at_call 133;refine(dj T2.out _).mono ?_;rintro e w1 ⟨rfl,rfl⟩);go_ret;exact⟨HB.out,ag⟩
 have HT:Hid (Sa.oG h=true):=by unfold Hid Sa.oG;rw[t2];simp;omega
 clear t2;go_enter Tryz.func66,Tryz.ntmps66;go_wp2_with (go_at_call 133;refine(dj T2.out _).mono ?_;rintro e w1 ⟨rfl,rfl⟩);refine QAE ?_;intro W1 aH cJ dF cU dA dD um mV kR mG;refine QCE ?_;intro qg;clear aH;go_loopg [4,32] h.kinds.length (fun g z i wr=>∃(k:Nat) (δ:nJ),k<=h.kinds.length/\g=h.kinds.length-k/\i=.int .i64 k/\Hid ((h.kinds.take k).all Sa.oJ=true)/\wr=af W1 δ)
 case atStart=>exact⟨0,W1,nE _,rfl,rfl,rfl,(bw _).symm⟩
 case round=>
  obtain⟨k,δ,hk,rfl,rfl,HK,rfl⟩:=hrel;by_cases hlt:k<h.kinds.length
  ·obtain⟨b,o,rfl,hb,d0,d1⟩:=qg.out.1.kind hlt;have ib:Lt b W1:=⟨nL hb cJ.out⟩;have hki:(k:Int)<(h.kinds.length:Int):=nQ;have hk0:¬(k:Int)<0:=nQ;rcases vB (nth h.kinds k) with⟨c0,c1,c2⟩|⟨c0,c1⟩|⟨c0,c1,c2⟩
   ·have uv:=qh (qJ hlt HK.out c0);have C1:=qh c1;have C2:=qh c2;clear c0 c1 c2;go_wp2_with (go_at_call 133;first|(with_reducible refine(dj C1.out _).mono ?_;rintro e w1 ⟨rfl,rfl⟩)|(with_reducible refine(dj C2.out _).mono ?_;rintro e w1 ⟨rfl,rfl⟩));go_roundg (h.kinds.length-(k+1))
    case measure=>omega
    case rel=>exact⟨k+1,_,hlt,rfl,by go_num,uv,aq⟩
   ·have HB:=qh (rY (eo (h:=h) (.inr (.inl (mH hlt c0)))));have C1:=qh c1;clear c0 c1;go_wp2_with (go_at_call 133;refine(dj C1.out _).mono ?_;rintro e w1 ⟨rfl,rfl⟩);go_ret;exact⟨HB.out,ag⟩
   ·have HB:=qh (rY (eo (h:=h) (.inr (.inl (mH hlt c0)))));have C1:=qh c1;have C2:=qh c2;clear c0 c1 c2;go_wp2_with (go_at_call 133;first|(with_reducible refine(dj C1.out _).mono ?_;rintro e w1 ⟨rfl,rfl⟩)|(with_reducible refine(dj C2.out _).mono ?_;rintro e w1 ⟨rfl,rfl⟩));go_ret;exact⟨HB.out,ag⟩
  ·obtain rfl:k=h.kinds.length:=by omega
   have HKA:Hid (h.kinds.all Sa.oJ=true):=by have:=HK.out;rw[List.take_length] at this;exact this
   clear HK;go_wp2_with fail;go_loopg [6,50] h.parts.length (fun g z i wr=>∃(k:Nat) (δ:nJ),k<=h.parts.length/\g=h.parts.length-k/\i=.int .i64 k/\Hid ((h.parts.take k).all (Sa.mw h.kinds.length)=true)/\wr=af W1 δ)
   case atStart=>exact⟨0,_,nE _,rfl,rfl,rfl,aq⟩
   case round=>
    obtain⟨k,δ,hk,rfl,rfl,HK,rfl⟩:=hrel;by_cases hlt:k<h.parts.length
    ·obtain⟨b,o,rfl,hb,d0,d1⟩:=qg.out.2.1.part hlt;have ib:Lt b W1:=⟨nL hb cJ.out⟩;have hki:(k:Int)<(h.parts.length:Int):=nQ;have hk0:¬(k:Int)<0:=nQ;rcases vA (h.kinds.length:Int) (nth h.parts k) with⟨c0,c1,c2⟩|⟨c0,c1⟩|⟨c0,c1,c2⟩
     ·have uv:=qh (qJ (p:=Sa.mw h.kinds.length) hlt HK.out c0);have C1:=qh c1;have C2:=qh c2;clear c0 c1 c2;go_wp2_with (go_at_call 133;first|(with_reducible refine(dj C1.out _).mono ?_;rintro e w1 ⟨rfl,rfl⟩)|(with_reducible refine(dj C2.out _).mono ?_;rintro e w1 ⟨rfl,rfl⟩));go_roundg (h.parts.length-(k+1))
      case measure=>omega
      case rel=>exact⟨k+1,_,hlt,rfl,by go_num,uv,aq⟩
     ·have HB:=qh (rY (eo (h:=h) (.inr (.inr (.inl (mH hlt c0))))));have C1:=qh c1;clear c0 c1;go_wp2_with (go_at_call 133;refine(dj C1.out _).mono ?_;rintro e w1 ⟨rfl,rfl⟩);go_ret;exact⟨HB.out,ag⟩
     ·have HB:=qh (rY (eo (h:=h) (.inr (.inr (.inl (mH hlt c0))))));have C1:=qh c1;have C2:=qh c2;clear c0 c1 c2;go_wp2_with (go_at_call 133;first|(with_reducible refine(dj C1.out _).mono ?_;rintro e w1 ⟨rfl,rfl⟩)|(with_reducible refine(dj C2.out _).mono ?_;rintro e w1 ⟨rfl,rfl⟩));go_ret;exact⟨HB.out,ag⟩
    ·obtain rfl:k=h.parts.length:=by omega
     have HPA:Hid (h.parts.all (Sa.mw h.kinds.length)=true):=by have:=HK.out;rw[List.take_length] at this;exact this
     clear HK;rcases hb:h.bars.all (fH 0 99) with _|_
     ·have HB:=qh (rY (eo (h:=h) (.inr (.inr (.inr hb)))));have SK:=qh hb;clear hb;go_wp2_with (go_at_call 134;refine(BY bA bc h.bars _ SK.out B _ qg.out.2.2.up).mono ?_;rintro e w1 ⟨rfl,δ1,rfl⟩);go_ret;exact⟨HB.out,ag⟩
     ·have HB:Hid (Ending.returned (.int .i64 0)=Ending.returned (Value.int .i64 (cC (Sa.valid h) 80))):=by unfold Hid Sa.valid;rw[HT.out,HKA.out,HPA.out,hb];rfl
      have SK:=qh hb;clear hb;go_wp2_with (go_at_call 134;refine(BY bA bc h.bars _ SK.out B _ qg.out.2.2.up).mono ?_;rintro e w1 ⟨rfl,δ1,rfl⟩);go_ret;exact⟨HB.out,ag⟩
def iS(f:Nat->Sa.jF):nK:=.agg (jZ f)
theorem fe:fT nH 121 20:=fT.mk' Tryz.underlying121 rfl nP
theorem Dk:fT nH 119 4:=fT.mk' Tryz.underlying119 rfl nP
theorem tS(f:Nat->Sa.jF):(jZ f).all (·.oneCell')=true:=by unfold jZ;simp[Value.oneCell']
def dW(h:Sa.aN)(l:List Int)(j:Nat):Sa.jF:=Sa.iT h l (j:Int)
theorem KI(h:Sa.aN)(l:List Int)(x:Nat):dW h (l++[(x:Int)])=Mk (dW h l) x (Sa.oP h (dW h l x) (nth h.parts l.length)):=by
 funext j;unfold dW Mk;rw[Sa.CM];by_cases hj:j=x
 ·subst hj;rw[if_pos rfl,if_pos rfl]
 ·rw[if_neg nQ,if_neg hj]
theorem Mw(r:eR)(h:Sa.aN)(hv:Sa.valid h=true)(l:List Int)(hl:l.length<=h.parts.length)(hx:∀x∈l,0<=x/\x<5)(A:Option Addr)(c:Nat)(B:Nat)(w:nJ)(hH:bT B w r h)[hB:Le B w](hS:Sl aI B w A c l):Calls nH 138 #[fA r h,.slice A l.length c] w fun e w'=>e=.returned (iS (dW h l))/\∃δ,w'=af w δ:=by
 have HH:=qh hH;have HV:=qh hv;have HX:=qh hx;have HL:=qh hl;have Ut:=hS.len;have h6:=(Sa.aD.1 hv).1.2.2.1;obtain⟨kA,kc,pA,pc,bA,bc⟩:=r;clear hH hv hx hl;go_enter Tryz.func138,Tryz.ntmps138;go_wp2_with fail;refine QCD ?_;intro W1 aH cJ dF cU dA dD eI;refine QCR ?_;intro mV kR mG jE;have xF:Hid (ax W1 (w.heap.size+1) 121 (jZ (dW h (l.take 0)))):=by rw[aH.out];exact ax.new nV
 have HZ:Hid (W1.heap.size=w.heap.size+2):=by rw[aH.out];unfold Hid;simp
 have s1:Hid (Sl aI B W1 A c l):=qh hS.up;refine QCE ?_;intro qg;clear aH hS;go_loopg [5,6,9] l.length (fun gg z z2 i wr=>∃(k:Nat),k<=l.length/\gg=l.length-k/\i=.int .i64 k/\Hid (ax wr (w.heap.size+1) 121 (jZ (dW h (l.take k))))/\Hid (bH (fun x=>x=w.heap.size+1) W1 wr))
 case atStart=>exact⟨0,nE _,rfl,rfl,xF,bH.refl _ _⟩
 case round=>
  obtain⟨k,hk,rfl,rfl,hBk,hK⟩:=hrel;have hcell:Hid (∀b o,b<w.heap.size+1->wr.cell? ⟨b,o,none⟩=W1.cell? ⟨b,o,none⟩):=qh (fun b o hb=>hK.out.cell (by have:=HZ.out;omega) nQ);have iw:Le B wr:=⟨nT cJ.out hK.out.size⟩;have ib:Lt (w.heap.size+1) wr:=hBk.out.lt;have dF:Lt w.heap.size wr:=⟨nL (by have:=HZ.out;omega) hK.out.size⟩;have HHr:Hid (bT B wr ⟨kA,kc,pA,pc,bA,bc⟩ h):=qh (qg.out.eM hK.out (by have:=HZ.out;have:=hB.out;omega) (by have:=hB.out;rintro b rfl;omega));by_cases hlt:k<l.length
  ·obtain⟨b,o,rfl,hb,d0⟩:=s1.out.int hlt;have NJ:b<w.heap.size+1:=by have:=hB.out;omega
   rw[<-hcell.out b _ NJ] at d0;have ibb:Lt b wr:=⟨by have:=ib.out;omega⟩;have hki:(k:Int)<(l.length:Int):=nQ;have hk0:¬(k:Int)<0:=nQ;obtain⟨x,hx⟩:∃x:Nat,nth l k=x:=⟨(nth l k).toNat,by have:=HX.out _ (aV _ hlt);omega⟩;have Zu:x<5:=by have:=HX.out _ (aV _ hlt);omega
   rw[hx] at d0;have hxi:(x:Int)<5:=nQ;have hx0:¬(x:Int)<0:=nQ;have hxm:((x:Int) != -1)=true:=nV;have e0:wr.cell? ⟨w.heap.size,0,none⟩=some (.slice kA h.kinds.length kc):=(hcell.out _ 0 (nA _)).trans nZ;have e1:wr.cell? ⟨w.heap.size,1,none⟩=some (.int .i64 h.floor):=(hcell.out _ 1 (nA _)).trans nZ;have e2:wr.cell? ⟨w.heap.size,2,none⟩=some (.slice pA h.parts.length pc):=(hcell.out _ 2 (nA _)).trans nZ;have e3:wr.cell? ⟨w.heap.size,3,none⟩=some (.slice bA h.bars.length bc):=(hcell.out _ 3 (nA _)).trans nZ;have HF:Hid (Sa.Fair 6 (dW h (l.take k) x)):=qh (Sa.fF HV.out (by rw[List.length_take];have:=HL.out;omega) _);have HKP:Hid (k<h.parts.length):=qh (by have:=HL.out;omega);have HX5:=qh Zu;have HN:Hid (dW h (l.take (k+1))=Mk (dW h (l.take k)) x (Sa.oP h (dW h (l.take k) x) (nth h.parts k))):=by unfold Hid;rw[bE l hlt,hx,KI,List.length_take,Nat.min_eq_left (nS hlt)]
   go_wp2_with fail;go_region_with (go_at_call 198;refine(Wt ⟨kA,kc,pA,pc,bA,bc⟩ h HV.out (dW h (l.take k)) x k (x*4) rfl HX5.out HKP.out 6 (Int.le_refl _) HF.out B (w.heap.size+1) _ _ (jt.2 HHr.out) hBk.out.drew).mono ?_;rintro e w2 ⟨⟨v,rfl⟩,gM,hk2⟩);go_wp2;go_roundg (l.length-(k+1))
   case measure=>omega
   case rel=>exact⟨k+1,hlt,rfl,by go_num,by rw[HN.out];exact gM,hK.out.trans (((bH.refl _ _).drew).trans hk2)⟩
  ·obtain rfl:k=l.length:=by omega
   have HBF:Hid (ax wr (w.heap.size+1) 121 (jZ (dW h l))):=by have:=hBk.out;rw[List.take_length] at this;exact this
   clear hBk;go_wp2_with (first|(refine av fe rfl _ rfl rfl HBF.out rfl ?_)|(refine ak fe rfl _ _ rfl rfl rfl HBF.out rfl rfl (tS _) ?_;intro W2 gM hk2));refine gZ fe Tryz.results138 rfl gM rfl ⟨rfl,fy (w:=w) (hK.out.trans hk2) (by rintro b rfl;omega)⟩
def Am(h:Sa.aN)(f:Nat->Sa.jF):Bool:=(List.range h.bars.length).all fun b=>decide (Sa.qy h.floor (f b)<=nth h.bars b)
theorem Ry(h:Sa.aN)(l:List Int):Am h (dW h l)=Sa.fits h l:=rfl
theorem CF{h:Sa.aN}{f:Nat->Sa.jF}{k:Nat}(hk:k<h.bars.length)(h0:∀b,b<k->Sa.qy h.floor (f b)<=nth h.bars b)(h1:¬Sa.qy h.floor (f k)<=nth h.bars k):Am h f=false:=by unfold Am;rw[List.all_eq_false];exact⟨k,List.mem_range.2 hk,by simpa using h1⟩
theorem GJ{h:Sa.aN}{f:Nat->Sa.jF}(h0:∀b,b<h.bars.length->Sa.qy h.floor (f b)<=nth h.bars b):Am h f=true:=by unfold Am;rw[List.all_eq_true];exact fun b hb=>decide_eq_true (h0 b (List.mem_range.1 hb))
theorem yH{fl:Int}(hf:0<=fl/\fl<=9){c:Sa.jF}(hc:Sa.Fair 6 c):0<=Sa.gQ fl c/\Sa.gQ fl c<=300/\0<=c.bC/\c.bC<=240:=by have h1:=Sa.nM hf hc;have h2:=hc.2.1;omega
theorem yD(r:eR)(h:Sa.aN)(hv:Sa.valid h=true)(f:Nat->Sa.jF)(hf:∀b,Sa.Fair 6 (f b))(q:Bool)(hq:Am h f=q)(B:Nat)(w:nJ)(hH:bT B w r h)[hB:Le B w]:Calls nH 69 #[iS f,fA r h] w fun e w'=>e=.returned (.bool q)/\∃δ,w'=af w δ:=by
 have HH:=qh hH;have HV:=qh hv;have HF:=qh hf;have HQ:=qh hq;have hbl:=hH.2.2.len;have h4:=(Sa.aD.1 hv).1.2.2.2;have CY:=qh (Sa.aD.1 hv).1.2.1;have HBA:=qh (Sa.aD.1 hv).2.2.2;obtain⟨kA,kc,pA,pc,bA,bc⟩:=r;clear hH hv hf hq;unfold iS;go_enter Tryz.func69,Tryz.ntmps69;go_wp2_with fail;refine QCD ?_;intro W1 aH cJ dF cU dA dD eI;refine QCO ?_;intro mV kR mG jE;have xF:Hid (ax W1 w.heap.size 121 (jZ f)):=by rw[aH.out];exact(ax.new rfl).alloc _
 have s1:Hid (Sl aI B W1 bA bc h.bars):=qh HH.out.2.2.up;clear aH;go_loopg [5,6,10] h.bars.length (fun gg z z2 i wr=>∃(k:Nat) (δ:nJ),k<=h.bars.length/\gg=h.bars.length-k/\i=.int .i64 k/\Hid (∀b,b<k->Sa.qy h.floor (f b)<=nth h.bars b)/\wr=af W1 δ)
 case atStart=>exact⟨0,W1,nE _,rfl,rfl,fun b hb=>absurd hb nQ,(bw W1).symm⟩
 case round=>
  obtain⟨k,δ,hk,rfl,rfl,HK,rfl⟩:=hrel;by_cases hlt:k<h.bars.length
  ·obtain⟨b,o,rfl,hb,d0⟩:=s1.out.int hlt;have ib:Lt b W1:=⟨nL hb cJ.out⟩;have hki:(k:Int)<(h.bars.length:Int):=nQ;have hk0:¬(k:Int)<0:=nQ;have VI:(k:Int)<5:=nQ;obtain⟨z0,z1,z2,z3⟩:=AM f (show k<5 by omega);have c0:=xF.out.cell z0;have c1:=xF.out.cell z1;have c2:=xF.out.cell z2;have c3:=xF.out.cell z3;obtain⟨n1,n2,n3,n4⟩:=yH CY.out (HF.out k);have HFK:=qh (HF.out k);obtain⟨y,hy⟩:∃y,nth h.bars k=y:=⟨_,rfl⟩;have hyb:=HBA.out _ (aV _ hlt);rw[hy] at hyb d0;obtain⟨v,hv⟩:∃v,Sa.gQ h.floor (f k)=v:=⟨_,rfl⟩;rw[hv] at n1 n2;have Mc:=qh hv;have AX:Hid (Sa.qy h.floor (f k)=(f k).bC+v):=by unfold Hid Sa.qy;rw[hv]
   have HY:=qh hy;clear hy hv z0 z1 z2 z3;by_cases hfit:(f k).bC+v<=y
   ·have hfb:¬y<(f k).bC+v:=nQ;go_wp2_with fail;refine wpRl ?_;repeat (go_big_quiet_step ((first|(go_at_call 70;refine Calls.bN (v:=.int .i64 v) (by rw[<-Mc.out];exact sB (f k) _ CY.out HFK.out _)))))
    refine QBT ?_;rintro _ ⟨δq,rfl⟩;go_wp2;go_roundg (h.bars.length-(k+1))
    case measure=>omega
    case rel=>
     refine⟨k+1,_,hlt,rfl,by go_num,fun b hb=>?_,aq⟩;rcases Nat.lt_succ_iff_lt_or_eq.1 hb with h'|rfl
     ·exact HK.out b h'
     ·rw[AX.out,HY.out];exact hfit
   ·have hfb:y<(f k).bC+v:=nQ;have VW:Hid (q=false):=by rw[<-HQ.out];exact CF hlt HK.out (by rw[AX.out,HY.out];exact hfit)
    go_wp2_with fail;refine wpRl ?_;repeat (go_big_quiet_step ((first|(go_at_call 70;refine Calls.bN (v:=.int .i64 v) (by rw[<-Mc.out];exact sB (f k) _ CY.out HFK.out _)))))
    refine QBT ?_;rintro _ ⟨δq,rfl⟩;go_wp2;go_ret;exact⟨by rw[VW.out];rfl,ag⟩
  ·obtain rfl:k=h.bars.length:=by omega
   have VW:Hid (q=true):=by rw[<-HQ.out];exact GJ HK.out
   go_wp2;go_ret;exact⟨by rw[VW.out];rfl,ag⟩
theorem CP(f:Nat->Sa.jF){i:Nat}(hi:i<5):(jZ f).extract (i*4) (i*4+4)=#[.int .i64 (f i).parts,.int .i64 (f i).bC,.int .i64 (f i).dR,.int .i64 (f i).days]:=by
 obtain rfl|rfl|rfl|rfl|rfl:i=0\/i=1\/i=2\/i=3\/i=4:=by omega
 all_goals simp[jZ]
def BR(fl:Int)(f:Nat->Sa.jF)(k:Nat):Int:=Sa.gP (fun b=>Sa.gQ fl (f b)) k
theorem Fa(h:Sa.aN)(l:List Int):BR h.floor (dW h l) 5=Sa.cL h l:=rfl
theorem zj(r:eR)(h:Sa.aN)(hv:Sa.valid h=true)(f:Nat->Sa.jF)(hf:∀b,Sa.Fair 6 (f b))(n:Int)(hn:BR h.floor f 5=n)(B:Nat)(w:nJ)(hH:bT B w r h)[hB:Le B w]:Calls nH 56 #[iS f,fA r h] w fun e w'=>e=.returned (.int .i64 n)/\∃δ,w'=af w δ:=by
 have HF:=qh hf;have HN:=qh hn;have CY:=qh (Sa.aD.1 hv).1.2.1;obtain⟨kA,kc,pA,pc,bA,bc⟩:=r;clear hH hv hf hn;unfold iS;go_enter Tryz.func56,Tryz.ntmps56;go_wp2_with (refine av fe rfl _ rfl rfl ((ax.new rfl).alloc _) rfl ?_);refine QCD ?_;intro W1 aH cJ dF cU dA dD eI;refine QCO ?_;intro mV kR mG jE;clear aH;go_loopg [5,7,9] 5 (fun gg n z i wr=>∃(k:Nat) (δ:nJ),k<=5/\gg=5-k/\n=.int .i64 (BR h.floor f k)/\i=.int .i64 k/\wr=af W1 δ)
 case atStart=>exact⟨0,W1,nQ,rfl,rfl,rfl,(bw W1).symm⟩
 case round=>
  obtain⟨k,δ,hk,rfl,rfl,rfl,rfl⟩:=hrel;have Rh:=Sa.jj (A:=300) (f:=fun b=>Sa.gQ h.floor (f b)) (fun b=>by have:=yH CY.out (HF.out b);omega) k;have HS:Hid (BR h.floor f (k+1)=BR h.floor f k+Sa.gQ h.floor (f k)):=rfl;obtain⟨s,hs⟩:∃s,BR h.floor f k=s:=⟨_,rfl⟩;have CD:0<=s/\s<=300*k:=by rw[<-hs];exact Rh
  rw[hs] at HS ⊢;obtain⟨n1,n2,n3,n4⟩:=yH CY.out (HF.out k);obtain⟨v,hv⟩:∃v,Sa.gQ h.floor (f k)=v:=⟨_,rfl⟩;rw[hv] at n1 n2 HS;have HV:=qh hv;have HSS:=qh hs;clear hv hs Rh;by_cases hlt:k<5
  ·have Zu:(k:Int)<5:=nQ;have HE:=qh (CP f hlt);go_wp2_with (first|(refine pT Tryz.underlying121 Dk rfl _ _ rfl rfl rfl hlt HE.out ?_)|(go_at_call 70;refine(sB (f k) _ CY.out (HF.out _) _).mono ?_;rw[HV.out];rintro e w1 ⟨rfl,δ1,rfl⟩));go_roundg (5-(k+1))
   case measure=>omega
   case rel=>exact⟨k+1,_,nQ,rfl,by rw[HS.out],by go_num,aq⟩
  ·obtain rfl:k=5:=by omega
   go_wp2;go_ret;exact⟨by rw[<-HN.out,HSS.out];rfl,ag⟩
theorem PA(n:Nat)(h:n<=6)(w:nJ):Calls nH 245 #[.int .u64 1,.int .u64 n] w fun e w'=>e=.returned (.tuple #[.int .u64 0,.int .u64 n])/\w=w':=by
 obtain rfl|rfl|rfl|rfl|rfl|rfl|rfl:n=0\/n=1\/n=2\/n=3\/n=4\/n=5\/n=6:=by omega
 all_goals go_enter Tryz.func245,Tryz.ntmps245;go_wp2;go_ret2;exact⟨rfl,rfl⟩
theorem Ws(n:Nat)(h:n<=6)(w:nJ):Calls nH 197 #[.int .u64 1,.int .u64 n] w fun e w'=>e=.returned (.tuple #[.int .u64 0,.int .u64 n])/\w=w':=by go_enter Tryz.func197,Tryz.ntmps197;go_wp2_with (go_at_call 245;refine(PA n h _).mono ?_;rintro e w1 ⟨rfl,rfl⟩);go_ret2;exact⟨rfl,rfl⟩
def cQ(n:Nat):List nK:=List.replicate n (.int .i64 0)
theorem qR{n off m:Nat}(h:off+m<=n):splice (cQ n) off (cQ m)=cQ n:=by unfold splice cQ;rw[List.take_replicate,List.drop_replicate,List.length_replicate,List.replicate_append_replicate,List.replicate_append_replicate];congr 1;omega
theorem sI(n:Nat):jW (.int .i64 0) 1 n=(cQ n).toArray:=by apply Array.ext';simp only[jW,madeCells,cQ,Value.cells];apply List.ext_getElem?;intro i;by_cases h:i<n<;>simp[List.getElem?_replicate,Nat.mod_one,h]
theorem Bx{n j:Nat}{v:nK}(h:(cQ n)[j]?=some v):v=.int .i64 0/\j<n:=by obtain⟨h1,h2⟩:=List.getElem?_eq_some_iff.1 h;unfold cQ at h1 h2;rw[List.length_replicate] at h1;rw[List.getElem_replicate] at h2;exact⟨h2.symm,h1⟩
theorem setRow_self{W:nJ}{b:Nat}{T:TypeId}{cs:Array nK}(h:ax W b T cs):W.setRow b cs=W:=by
 obtain⟨heap,tape,drawn,os,output⟩:=W;unfold ax at h;simp only[World.setRow] at *;congr 1;apply Array.ext_getElem?;intro k;rw[Array.getElem?_modify];by_cases hk:b=k
 ·subst hk;rw[if_pos rfl,h];rfl
 ·rw[if_neg hk]
theorem Kv{w:nJ}{ops:Array Oper}{rest:List Oper}{o:Oper}{a:Act}{Q:Exit->Act->nJ->Prop}(hgd:o.guard=none)(d s:Operand)(ho:o.op=.call { callee:=.builtin .copy,args:=#[d,s],argTypes:=#[35,35] }){dp sp:Option Addr}{dLen dCap sLen sCap:Nat}(hd:a.eval d=.slice dp dLen dCap)(hs:a.eval s=.slice sp sLen sCap){g off n:Nat}{T:TypeId}(hg:ax w g T (cQ n).toArray)(m:Nat)(hm:m=Nat.min sLen dLen)(hpos:0<m->dp=some ⟨g,off,none⟩/\∃ad,sp=some ad/\∀j,j<m->w.cell? (ad.add j)=some (.int .i64 0))(hfit:off+m<=n)(h:wpList nH ops Q rest (a.put o.dst (.int .i64 (m:Nat))) w):wpList nH ops Q (o::rest) a w:=by
 by_cases h0:m=0
 ·subst h0;exact wpList_copy_nothing hgd d s _ _ ho 3 Tryz.underlying35 nP dp sp dLen dCap sLen sCap hd hs hm.symm h
 ·obtain⟨rfl,ad,rfl,hsrc⟩:=hpos nQ;refine wpList_copy_own hgd d s _ _ ho 3 Tryz.underlying35 nP g off dLen dCap ad sLen sCap hd hs (cQ n).toArray T hg (cQ m) (by rw[<-hm];simp[cQ]) (fun j v hv=>?_) (by simpa [cQ] using hfit) (fun v hv=>?_) ?_
  ·obtain⟨rfl,hj⟩:=Bx hv;exact hsrc j hj
  ·rw[List.eq_of_mem_replicate hv];rfl
  ·have e:(cQ n).toArray.toList.take off++(cQ m++(cQ n).toArray.toList.drop (off+(cQ m).length))=cQ n:=qR hfit;rw[e,setRow_self hg,show(cQ m).length=m by simp[cQ]];exact h
theorem yc{w:nJ}{ops:Array Oper}{o:Oper}{a:Act}{K:Act->nJ->Prop}{Q:Exit->Act->nJ->Prop}{E:Prop}(hgd:o.guard=none)(d s:Operand)(ho:o.op=.call { callee:=.builtin .copy,args:=#[d,s],argTypes:=#[35,35] }){dp sp:Option Addr}{dLen dCap sLen sCap:Nat}(hd:a.eval d=.slice dp dLen dCap)(hs:a.eval s=.slice sp sLen sCap){g off n:Nat}{T:TypeId}(hg:ax w g T (cQ n).toArray)(m:Nat)(hm:m=Nat.min sLen dLen)(hpos:0<m->dp=some ⟨g,off,none⟩/\∃ad,sp=some ad/\∀j,j<m->w.cell? (ad.add j)=some (.int .i64 0))(hfit:off+m<=n)(h:K (a.put o.dst (.int .i64 (m:Nat))) w):if Region.wanted o (yielded ops a.tmps)=true then Oper.wp nH o a w K Q else E:=by
 have hw:Region.wanted o (yielded ops a.tmps)=true:=by simp[Region.wanted,hgd]
 rw[if_pos hw];by_cases h0:m=0
 ·subst h0;have hrun:=run_copy_none (P:=nH) w 35 35 o.type 3 dp sp dLen dCap sLen sCap Tryz.underlying35 nP hm.symm;unfold Oper.wp;simp[execOp,ho,resolve,invoke,builtin,hd,hs,hrun,Result.andThen];exact h
 ·obtain⟨rfl,ad,rfl,hsrc⟩:=hpos nQ;have hrun:=run_copy_row (P:=nH) w 35 35 o.type 3 g off dLen dCap ad sLen sCap (cQ n).toArray T (cQ m) Tryz.underlying35 nP hg (by rw[<-hm];simp[cQ]) (fun j v hv=>by obtain⟨rfl,hj⟩:=Bx hv;exact hsrc j hj) (by simpa [cQ] using hfit) (fun v hv=>by rw[List.eq_of_mem_replicate hv];rfl);have e:(cQ n).toArray.toList.take off++cQ m++(cQ n).toArray.toList.drop (off+(cQ m).length)=cQ n:=by rw[List.append_assoc];exact qR hfit
  have e2:(cQ n).toArray.toList.take off++(cQ m++(cQ n).toArray.toList.drop (off+(cQ m).length))=cQ n:=qR hfit;first|rw[e] at hrun|rw[e2] at hrun
  rw[setRow_self hg,show(cQ m).length=m by simp[cQ]] at hrun;unfold Oper.wp;simp only[execOp,ho,resolve,invoke,builtin,Sem.run_bind,Sem.run_pure,Result.andThen_ok,List.map_toArray,List.map_cons,List.map_nil,hd,hs,hrun];exact h
theorem BS(n:Nat)(hn:n<=6)(g c:Nat)(w:nJ)(hc:w.cell? ⟨g,0,none⟩=some (.int .i64 0)):Calls nH 137 #[.slice (some ⟨g,0,none⟩) 1 c,.int .i64 n] w fun e w'=>e=.returned (.slice (some ⟨w.heap.size,0,none⟩) n n)/\ax w' w.heap.size 3 (cQ n).toArray/\∃δ,w'=af w δ:=by
 have ig:Lt g w:=⟨World.block_lt_of_cell? _ _ hc⟩;have h6:(n:Int)<=6:=nQ;have hmk:=run_mk wo n nQ nQ;rw[sI] at hmk;go_enter Tryz.func137,Tryz.ntmps137;go_wp2_with (first|(go_at_call 197;refine(Ws n hn _).mono ?_;rintro e w1 ⟨rfl,rfl⟩)|(refine Kv rfl _ _ rfl rfl rfl (g:=w.heap.size) (off:=0) (n:=n) (ax.new rfl) (Nat.min 1 n) rfl ?hp ?hf ?_));case hp=>
  intro hm j hj;have h1:Nat.min 1 n<=1:=Nat.min_le_left _ _;obtain rfl:j=0:=by omega
  go_simp
 case hf=>rw[Nat.zero_add];exact Nat.min_le_right _ _
 refine aL fun W1 aH=>?_;have HB:Hid (ax W1 w.heap.size 3 (cQ n).toArray):=by rw[aH.out];exact ax.new rfl
 have v1:Le w.heap.size W1:=fI aH;have v2:au w.heap.size w W1:=gu aH;clear aH hc;go_loopg [8] (n-Nat.min 1 n) (fun gg i wr=>∃(k:Nat) (δ:nJ),k<=n/\(0<n->0<k)/\gg=n-k/\i=.int .i64 k/\wr=af W1 δ)
 case atStart=>
  refine⟨Nat.min 1 n,W1,Nat.min_le_right _ _,fun h=>?_,?_,rfl,(bw W1).symm⟩
  ·exact Nat.lt_min.2 ⟨nQ,h⟩
  ·rfl
 case round=>
  obtain⟨k,δ,hk,Ad,rfl,rfl,rfl⟩:=hrel;by_cases hlt:k<n
  ·have hki:(k:Int)<(n:Int):=nQ;have hk0:¬(k:Int)<0:=nQ;have hkc:¬n=k:=nQ;have hle:(k:Int)<=(n:Int):=nQ;have HP:Hid (∀j,j<Nat.min k (n-k)->(af W1 δ).drew.cell? ((⟨w.heap.size,0,none⟩:Addr).add j)=some (.int .i64 0)):=by
    refine qh fun j hj=>?_;have hj2:j<n:=by have h1:Nat.min k (n-k)<=k:=Nat.min_le_left k (n-k);omega
    rw[Addr.add_mid,Nat.zero_add];exact(HB.out.af δ).cell (by simp[cQ,hj2])
   have HFI:Hid (k+Nat.min k (n-k)<=n):=qh (by have h1:Nat.min k (n-k)<=n-k:=Nat.min_le_right k (n-k);omega);have HM:Hid ((k:Int)+(Nat.min k (n-k):Nat)=((k+Nat.min k (n-k):Nat):Int)/\0<Nat.min k (n-k)):=by have h0:=Ad nQ;have h1:0<Nat.min k (n-k):=Nat.lt_min.2 ⟨h0,nQ⟩;exact⟨nQ,h1⟩
   have hmb:((Nat.min k (n-k):Nat):Int)<=6:=by have:=HFI.out;omega
   obtain⟨m,hm⟩:∃m,Nat.min k (n-k)=m:=⟨_,rfl⟩;have V0:=qh hm;rw[hm] at HP HFI HM hmb;clear hm;have hwr:IntKind.i64.wrap ((k:Int)+(m:Int))=(k:Int)+(m:Int):=by rw[IntWalk.i64_in];omega
   go_wp2_with fail;go_region_law (refine yc rfl (.tmp 41) (.tmp 44) rfl (dp:=some ⟨w.heap.size,k,none⟩) (dLen:=n-k) (dCap:=n-k) (sp:=some ⟨w.heap.size,0,none⟩) (sLen:=k) (sCap:=n) (by simp[Act.eval,Act.put]) (by simp[Act.eval,Act.put]) (g:=w.heap.size) (off:=k) (n:=n) ((HB.out.af δ).drew) m V0.out.symm (fun _=>⟨rfl,_,rfl,HP.out⟩) HFI.out ?_);all_goals go_wp2
   all_goals go_roundg (n-(k+m))
   case measure=>have:=HM.out.2;omega
   case rel=>exact⟨k+m,_,HFI.out,fun h=>by have:=Ad h;omega,rfl,by rw[<-HM.out.1],aq⟩
  ·obtain rfl:k=n:=by omega
   go_wp2;go_ret;exact⟨rfl,HB.out.af δ,ag⟩
def oU(x:List Int):Array nK:=(x.map fun v=>Value.int .i64 v).toArray
theorem Oa(n:Nat):oU (List.replicate n 0)=(cQ n).toArray:=by simp[oU,cQ]
theorem RO{x:List Int}{i:Nat}(hi:i<x.length):(oU x)[i]?=some (.int .i64 (nth x i)):=by simp[oU,hi,bR]
theorem GP(x:List Int)(i:Nat)(v:Int):(oU x).setIfInBounds i (.int .i64 v)=oU (x.set i v):=by simp[oU,List.map_set]
def rZ(x:List Int)(j:Nat):List Int:=x.take (x.length-j)++List.replicate j 0
theorem Qv(x:List Int):rZ x 0=x:=by simp[rZ]
theorem DB{x:List Int}{j:Nat}(hj:j<=x.length):(rZ x j).length=x.length:=by simp[rZ];omega
theorem TX{x:List Int}{j i:Nat}(h:i+j+1=x.length):nth (rZ x j) i=nth x i:=by rw[bR _ (by rw[DB nQ];omega),bR _ nQ];simp only[rZ];rw[List.getElem_append_left (by simp;omega),List.getElem_take]
theorem DA{x:List Int}{j i:Nat}(h:i+j+1=x.length)(v:Int):(rZ x j).set i v=x.take i++v::List.replicate j 0:=by unfold rZ;rw[show x.length-j=i+1 by omega,List.set_append_left _ _ (by simp;omega),bE x nQ,List.set_append_right _ _ (by simp;omega)];simp[show i-min i x.length=0 by omega]
theorem Qw{x:List Int}{j i:Nat}(h:i+j+1=x.length):(rZ x j).set i 0=rZ x (j+1):=by rw[DA h];unfold rZ;rw[show x.length-(j+1)=i by omega,List.replicate_succ]
def sw(m:Nat)(x:List Int)(j:Nat):Prop:=x.drop (x.length-j)=List.replicate j ((m:Int)-1)
theorem Mn(m:Nat)(x:List Int):sw m x 0:=by simp[sw]
theorem drop_cons{x:List Int}{i:Nat}(h:i<x.length):x.drop i=nth x i::x.drop (i+1):=by rw[bR _ h];exact List.drop_eq_getElem_cons h
theorem Mo{m:Nat}{x:List Int}{j i:Nat}(h:i+j+1=x.length)(ht:sw m x j)(hx:nth x i=(m:Int)-1):sw m x (j+1):=by unfold sw at *;rw[show x.length-(j+1)=i by omega,drop_cons nQ,show i+1=x.length-j by omega,ht,hx,List.replicate_succ]
theorem IB{m:Nat}{x:List Int}{j i:Nat}(h:i+j+1=x.length)(ht:sw m x j):x=x.take i++nth x i::List.replicate j ((m:Int)-1):=by unfold sw at ht;rw[<-ht,show x.length-j=i+1 by omega,<-drop_cons nQ,List.take_append_drop]
theorem Nb{m:Nat}{x:List Int}{j i:Nat}(h:i+j+1=x.length)(ht:sw m x j)(hx:nth x i+1<(m:Int)):Sa.mb m x=some ((rZ x j).set i (nth x i+1)):=by
 rw[DA h];conv=>lhs;rw[IB h ht]
 exact Sa.TQ _ _ hx
theorem Nc{m:Nat}{x:List Int}(ht:sw m x x.length):Sa.mb m x=none:=by unfold sw at ht;rw[Nat.sub_self,List.drop_zero] at ht;rw[ht];exact Sa.Qm _
theorem RJ(x:List Int):x.flatMap aI=x.map fun v=>Value.int .i64 v:=by
 induction x with
 |nil=>rfl
 |cons a x ih=>rw[List.flatMap_cons,ih];rfl
theorem BK{W:nJ}{b:Nat}{T:TypeId}{x:List Int}(h:ax W b T (oU x))(hl:x.length<=1000):Sl aI W.heap.size W (some ⟨b,0,none⟩) x.length x:=by refine⟨nR _,nQ,fun _=>⟨b,0,rfl,h.tN,fun j v hj=>?_⟩⟩;rw[RJ] at hj;rw[Nat.zero_add];exact h.cell (by simpa [oU] using hj)
theorem oQ{S T:Nat->Prop}{A B C:nJ}(h:bH S A B)(k:bH T B C)(hT:∀b,T b->A.heap.size<=b):bH S A C:=
 ⟨nT h.size k.size,k.os.trans h.os,k.tape.trans h.tape,k.output.trans h.output,fun b hb hn=>(k.block b (nL hb h.size) fun ht=>by have:=hT b ht;omega).trans (h.block b hb hn)⟩
theorem NR{m:Nat}{x q:List Int}(hx:∀y∈x,0<=y/\y<(m:Int))(h:Sa.mb m x=some q):Sa.nr m x=x::Sa.nr m q:=by rw[Sa.tR hx,h]
theorem NS{m:Nat}{x:List Int}(hx:∀y∈x,0<=y/\y<(m:Int))(h:Sa.mb m x=none):Sa.nr m x=[x]:=by rw[Sa.tR hx,h]
theorem Nk{m:Nat}{x:List Int}{j i:Nat}(h:i+j+1=x.length)(hx:∀y∈x,0<=y/\y<(m:Int))(hv:nth x i+1<(m:Int)):((rZ x j).set i (nth x i+1)).length=x.length/\∀y∈(rZ x j).set i (nth x i+1),0<=y/\y<(m:Int):=by
 have h0:=hx _ (aV x (k:=i) nQ);refine⟨by rw[List.length_set,DB nQ],fun y hy=>?_⟩;rw[DA h] at hy;rcases List.mem_append.1 hy with h1|h1
 ·exact hx y (List.mem_of_mem_take h1)
 ·rcases List.mem_cons.1 h1 with rfl|h1
  ·omega
  ·have:=List.eq_of_mem_replicate h1;omega
def oY(h:Sa.aN)(pk:Nat)(x:List Int)(vs:Array nK)(W:nJ):Prop:=
 vs=#[.slice (some ⟨pk,0,none⟩) h.parts.length h.parts.length,iS (dW h x)]/\x.length=h.parts.length/\ax W pk 3 (oU x)
abbrev qQ(r:eR)(h:Sa.aN):nK:=.agg #[.slice r.kA h.kinds.length r.kc,.int .i64 h.floor,.slice r.pA h.parts.length r.pc,.slice r.bA h.bars.length r.bc,.int .i64 0]
def De(r:eR)(h:Sa.aN):Array nK:=#[.slice r.kA h.kinds.length r.kc,.int .i64 h.floor,.slice r.pA h.parts.length r.pc,.slice r.bA h.bars.length r.bc,.int .i64 0]
theorem Fv{m:Nat}{L pre:List (List Int)}{x:List Int}(he:pre++Sa.nr m x=L)(hx:∀y∈x,0<=y/\y<(m:Int)):pre++[x] <+: L:=by rw[Sa.tR hx,List.append_cons] at he;exact⟨_,he⟩
section
attribute[local go_sem] Oper.semAt_some
theorem zi(Ok:Nat->Prop)(r:eR)(h:Sa.aN)(hv:Sa.valid h=true)(B:Nat)(W1:nJ)(hH:bT B W1 r h)[hB:Le B W1](hkeep:∀(S:Nat->Prop) (W':nJ),(∀b,S b->Ok b)->bH S W1 W'->bT B W' r h):tD nH 68 #[qQ r h] #[] (oY h (W1.heap.size+2)) (Sa.nD h.bars.length h.parts.length) (fun b=>b=W1.heap.size+2) Ok W1:=by
 have aaT:=qh hkeep;clear hkeep;intro S l J Jx hS J7 xp hY hJ;refine(callsIn_wide (n:=3)).1 ?_;have HH:=qh hH;have HV:=qh hv;have HS:=qh hS;have KT:=qh J7;have SH:=qh xp;have HY:=qh hY;have HJ:=qh hJ;have l1:=hH.2.1.len;have l2:=hH.2.2.len;refine QDU ?_;intro h6 h4;obtain⟨kA,kc,pA,pc,bA,bc⟩:=r;clear hH hv hS J7 xp hY hJ;refine callsIn_of_wp Tryz.func68 rfl trivial ?_ rfl;simp only[Tryz.ntmps68,List.size_toArray,List.length_cons,List.length_nil,Nat.reduceAdd,Nat.reduceSub,Array.replicate_succ,Array.replicate_zero,List.push_toArray,List.append_toArray,List.nil_append,List.cons_append];refine wpIn_wide.2 ?_;by_cases hmn:0<h.parts.length/\h.bars.length=0
 ·have hn0:(0:Int)<(h.parts.length:Int):=nQ;have hm0:(h.bars.length:Int)<=0:=nQ;have HL:Hid (Sa.nD h.bars.length h.parts.length=[]):=by obtain⟨k,hk⟩:∃k,h.parts.length=k+1:=⟨h.parts.length-1,nQ⟩;unfold Hid;rw[hmn.2,hk];rfl
  obtain⟨kinds,fl,parts,bars⟩:=h;obtain rfl:bars=[]:=List.length_eq_zero_iff.1 hmn.2;clear hmn;go_wp2_with (go_at_call 137;refine(BS parts.length h6 (W1.heap.size+1) 1 _ nW).mono ?_;rintro e w1 ⟨rfl,kL,δ1,rfl⟩);refine bodyPost_ret (results_none Tryz.results68 _ _ _) rfl ?_;refine⟨_,true,rfl,bH.dK fk,fun _=>?_,fun h=>by cases h⟩;rw[HL.out];exact KT.out _ _ _ HJ.out (bH.dK fk)
 have HN:Hid (0<h.parts.length->0<h.bars.length):=qh nQ;have Z9:(decide (0<h.parts.length)=false/\decide ((0:Int)<(h.parts.length:Int))=false)\/((0:Int)<(h.parts.length:Int)/\¬h.bars=[]):=by
  by_cases h0:0<h.parts.length
  ·exact .inr ⟨nQ,fun e=>by have:=HN.out h0;rw[e] at this;simp at this⟩
  ·exact .inl ⟨decide_eq_false h0,decide_eq_false nQ⟩
 clear hmn;rcases Z9 with⟨ZG,ZF⟩|⟨ZF,kL⟩;all_goals go_wp2_with (go_at_call 137;refine(BS h.parts.length nQ (W1.heap.size+1) 1 _ nW).mono ?_;rintro e w1 ⟨rfl,kL,δ1,rfl⟩;have AY:=qh kL;clear kL)
 all_goals
  refine aL fun W2 eJ=>?_;have HZ:Hid (W1.heap.size+3<=W2.heap.size):=by have:=AY.out.tN;rw[<-eJ.out] at this;unfold Hid;simp at this;omega
  have HBK:Hid (ax W2 (W1.heap.size+2) 3 (oU (List.replicate h.parts.length 0))):=by have:=AY.out;rw[<-eJ.out] at this;rw[Oa];simpa [Hid] using this
  have tZ:Hid (ax W2 W1.heap.size 140 (De ⟨kA,kc,pA,pc,bA,bc⟩ h)):=by rw[eJ.out];exact((ax.new rfl).alloc _).af _
  have uv:Hid (bH (fun _=>False) W1 W2):=by rw[eJ.out];exact bH.dK fk
  clear eJ AY;refine(wpIn_wide (n:=3)).1 ?_
 all_goals
  gi_loopg [5] (Sa.nD h.bars.length h.parts.length).length (fun gg i wr=>∃(pre:List (List Int)) (x:List Int),Hid (pre++Sa.nr h.bars.length x=Sa.nD h.bars.length h.parts.length)/\gg=(Sa.nr h.bars.length x).length/\Hid (x.length=h.parts.length/\∀y∈x,0<=y/\y<(h.bars.length:Int))/\Hid (ax wr (W1.heap.size+2) 3 (oU x)) /\
   Hid (ax wr W1.heap.size 140 (De ⟨kA,kc,pA,pc,bA,bc⟩ h))/\Hid (bH S W1 wr)/\Hid (J pre wr)/\Hid (W1.heap.size+3<=wr.heap.size))
  case atStart=>
   by_cases hm:0<h.bars.length
   ·exact⟨[],List.replicate h.parts.length 0,by unfold Hid;rw[Sa.tQ hm,List.nil_append],by rw[Sa.tQ hm],⟨nV,fun y hy=>by have:=List.eq_of_mem_replicate hy;omega⟩,HBK,tZ,uv.out.mono (fun b h=>h.elim),KT.out _ _ _ HJ.out (uv.out.mono (fun b h=>h.elim)),HZ⟩
   ·have hp:h.parts.length=0:=by have:=HN.out;omega
    exact⟨[],List.replicate h.parts.length 0,by unfold Hid;rw[hp];rfl,by rw[hp];rfl,⟨nV,fun y hy=>by rw[hp] at hy;cases hy⟩,HBK,tZ,uv.out.mono (fun b h=>h.elim),KT.out _ _ _ HJ.out (uv.out.mono (fun b h=>h.elim)),HZ⟩
  case round=>
   obtain⟨pre,x,HP,rfl,HX,HBr,VT,HKr,HJr,HZr⟩:=hrel;have st0:wr.cell? ⟨W1.heap.size,0,none⟩=some (.slice kA h.kinds.length kc):=VT.out.cell rfl;have st1:wr.cell? ⟨W1.heap.size,1,none⟩=some (.int .i64 h.floor):=VT.out.cell rfl;have st2:wr.cell? ⟨W1.heap.size,2,none⟩=some (.slice pA h.parts.length pc):=VT.out.cell rfl;have st3:wr.cell? ⟨W1.heap.size,3,none⟩=some (.slice bA h.bars.length bc):=VT.out.cell rfl;have st4:wr.cell? ⟨W1.heap.size,4,none⟩=some (.int .i64 0):=VT.out.cell rfl;have i1:=VT.out.lt;have i2:=HBr.out.lt;have HHr:Hid (bT wr.heap.size wr ⟨kA,kc,pA,pc,bA,bc⟩ h):=qh ((aaT.out S wr (fun b hb=>(HS.out b hb).2) HKr.out).more (nT hB.out HKr.out.size));have hxl:=HX.out.1;have ON:Hid (Sl aI wr.heap.size wr (some ⟨W1.heap.size+2,0,none⟩) h.parts.length x):=by rw[<-hxl];exact BK HBr.out nQ
   have V9:Hid (Calls nH 138 #[fA ⟨kA,kc,pA,pc,bA,bc⟩ h,.slice (some ⟨W1.heap.size+2,0,none⟩) h.parts.length h.parts.length] wr fun e w'=>e=.returned (iS (dW h x))/\∃δ,w'=af wr δ):=by have:=Mw ⟨kA,kc,pA,pc,bA,bc⟩ h HV.out x nQ (fun y hy=>by have:=HX.out.2 y hy;omega) (some ⟨W1.heap.size+2,0,none⟩) h.parts.length wr.heap.size wr HHr.out ON.out;rw[hxl] at this;exact this
   clear hxl;gi_wp2_with (fail);refine⟨trivial,?_⟩;refine(callsIn_wide.2 V9.out).mono ?_;rintro e w1 ⟨rfl,δ1,rfl⟩;have hpre:=Fv HP.out HX.out.2;obtain⟨fn,tmps,assign,body,hy,hR⟩:=HY.out 2 pre x #[.slice (some ⟨W1.heap.size+2,0,none⟩) h.parts.length h.parts.length,iS (dW h x)] (af wr δ1) hpre (KT.out _ _ _ HJr.out (bH.af _ _ _)) ⟨rfl,HX.out.1,HBr.out.af δ1⟩;clear hpre;gi_wp2_with (fail);refine hR.mono ?_;clear hR hy;rintro e W3 ⟨b,rfl,hP⟩;have SV:=qh hP;clear hP;cases b
   ·gi_wp2_with (fail);refine bodyPost_ret (results_none Tryz.results68 _ _ _) rfl ?_;obtain⟨q,hq,Up,hx⟩:=SV.out.2.2 rfl;have hpre:=Fv HP.out HX.out.2;exact⟨_,false,rfl,HKr.out.trans ((bH.af _ _ _).trans SV.out.1),fun h=>(by cases h),fun _=>⟨pre++q,((List.prefix_append_right_inj _).2 hq).trans hpre,by simp[Up],hx⟩⟩
   have K3:bH S wr W3:=(bH.af _ _ _).trans SV.out.1;have YB:Hid (ax W3 (W1.heap.size+2) 3 (oU (rZ x 0))):=by rw[Qv];exact HBr.out.eM K3 (fun hb=>by have:=(HS.out _ hb).1;omega)
   have uu:Hid (ax W3 W1.heap.size 140 (De ⟨kA,kc,pA,pc,bA,bc⟩ h)):=VT.out.eM K3 (fun hb=>by have:=(HS.out _ hb).1;omega);have HK3:Hid (bH S W1 W3):=HKr.out.trans K3;have HZ3:Hid (W1.heap.size+3<=W3.heap.size):=qh (nT HZr.out K3.size);have HJ3:Hid (J (pre++[x]) W3):=SV.out.2.1 rfl;have SD:=qh HX.out.1;clear K3 SV st0 st1 st2 st3 st4 HBr VT HKr HZr HJr V9 ON HHr i1 i2;have hxl:=HX.out.1;gi_wp2_with (fail);refine wpIn_wide.2 ?_;go_loopg [5] h.parts.length (fun gg i wr=>∃(j:Nat),j<=h.parts.length/\gg=h.parts.length-j/\i=.int .i64 ((h.parts.length:Int)-1-(j:Int))/\Hid (sw h.bars.length x j)/\Hid (ax wr (W1.heap.size+2) 3 (oU (rZ x j)))/\Hid (bH (fun b=>b=W1.heap.size+2) W3 wr))
   case atStart=>exact⟨0,nE _,rfl,by go_num,Mn _ _,YB,bH.refl _ _⟩
   case round=>
    obtain⟨j,hj,rfl,rfl,HT,HBj,Y0⟩:=hrel;have hzj:=Y0.out.size;have i1:Lt W1.heap.size wr:=⟨by have:=HZ3.out;omega⟩;have i2:=HBj.out.lt;have HSj:Hid (ax wr W1.heap.size 140 (De ⟨kA,kc,pA,pc,bA,bc⟩ h)):=uu.out.eM Y0.out nQ;have st3:wr.cell? ⟨W1.heap.size,3,none⟩=some (.slice bA h.bars.length bc):=HSj.out.cell rfl;have st4:wr.cell? ⟨W1.heap.size,4,none⟩=some (.int .i64 0):=HSj.out.cell rfl;clear hzj;by_cases hlt:j<h.parts.length
    ·obtain⟨i,hi⟩:∃i:Nat,i+j+1=h.parts.length:=⟨h.parts.length-1-j,nQ⟩;have YK:i+j+1=x.length:=by rw[hxl];exact hi
     have LW:(h.parts.length:Int)-1-(j:Int)=(i:Int):=nQ;rw[LW];have hil:(i:Int)<(h.parts.length:Int):=nQ;have hi0:¬(i:Int)<0:=nQ;have hig:(0:Int)<=(i:Int):=nQ;have Ui:=HX.out.2 (nth x i) (aV x nQ);have d0:wr.cell? ⟨W1.heap.size+2,i,none⟩=some (.int .i64 (nth x i)):=by rw[<-TX YK];exact HBj.out.cell (RO (by rw[DB nQ];omega))
     have f0:=HBj.out.free i;have HI:=qh YK;have HII:=qh LW;clear YK LW hi;by_cases hv:nth x i=(h.bars.length:Int)-1
     ·have OI:=qh hv;rw[hv] at d0;clear hv Ui;go_wp2_with fail;refine wpRl ?_;repeat (go_big_quiet_step ((first|(fail))))
      refine QBT ?_;rintro _ ⟨δq,rfl⟩;go_wp2;go_roundg (h.parts.length-(j+1))
      case measure=>omega
      case rel=>
       refine⟨j+1,hlt,rfl,by have:=HII.out;go_num,Mo HI.out HT.out OI.out,?_,?_⟩
       ·unfold Hid;rw[<-Qw HI.out,<-GP];exact(HBj.out.af δq).set i _
       ·exact Y0.out.trans (bH.set (S:=fun b=>b=W1.heap.size+2) (bH.af _ _ _) rfl _ _)
     ·have hv1:nth x i+1<(h.bars.length:Int):=nQ;have HMR:=qh (Nk HI.out HX.out.2 hv1);have HNX:=qh (NR HX.out.2 (Nb HI.out HT.out hv1));obtain⟨v,hve⟩:∃v,nth x i=v:=⟨_,rfl⟩;rw[hve] at d0 hv hv1 Ui HMR HNX;have hne:(v==(h.bars.length:Int)-1)=false:=by simpa using hv
      clear hv hve;go_wp2_with fail;refine wpRl ?_;repeat (go_big_quiet_step ((first|(fail))))
      refine QBT ?_;rintro _ ⟨δq,rfl⟩;go_wp2_with fail;gi_wp2;gi_roundg (Sa.nr h.bars.length ((rZ x j).set i (v+1))).length;case measure=>rw[HNX.out];simp
      case rel=>
       have hKL:bH (fun b=>b=W1.heap.size+2) W3 ((af wr δq).setCell ⟨W1.heap.size+2,i,none⟩ (.int .i64 (v+1))):=Y0.out.trans (bH.set (S:=fun b=>b=W1.heap.size+2) (bH.af _ _ _) rfl _ _);refine⟨pre++[x],(rZ x j).set i (v+1),?_,rfl,⟨by rw[HMR.out.1];exact SD.out,HMR.out.2⟩,?_,uu.out.eM hKL nQ,oQ HK3.out hKL (by rintro b rfl;omega),KT.out _ _ _ HJ3.out hKL,nT HZ3.out hKL.size⟩
       ·have:=HP.out;rw[HNX.out] at this;unfold Hid;rw[<-this];simp
       ·unfold Hid;rw[<-GP];exact(HBj.out.af δq).set i _
    ·obtain rfl:j=h.parts.length:=by omega
     have LW:(h.parts.length:Int)-1-(h.parts.length:Int) = -1:=nQ;rw[LW];have HNX:Hid (Sa.nr h.bars.length x=[x]):=NS HX.out.2 (Nc (by rw[hxl];exact HT.out));go_wp2_with fail;refine wpRl ?_;repeat (go_big_quiet_step ((first|(fail))))
     refine QBT ?_;rintro _ ⟨δq,rfl⟩;go_wp2_with fail;gi_wp2;refine bodyPost_ret (results_none Tryz.results68 _ _ _) rfl ?_;refine⟨_,true,rfl,oQ HK3.out (Y0.out.trans (bH.af _ _ _)) (by rintro b rfl;omega),fun _=>?_,fun h=>by cases h⟩;have:=HP.out;rw[HNX.out] at this;rw[List.nil_append,<-this];exact KT.out _ _ _ HJ3.out (Y0.out.trans (bH.af _ _ _))
theorem Mx(r:eR)(h:Sa.aN)(hv:Sa.valid h=true)(B:Nat)(W1:nJ)(hH:bT B W1 r h)[hB:Le B W1]:tD nH 68 #[qQ r h] #[] (oY h (W1.heap.size+2)) (Sa.nD h.bars.length h.parts.length) (fun b=>b=W1.heap.size+2) (fun b=>B<=b) W1:=
 zi _ r h hv B W1 hH fun _ _ hS hk=>hH.eM hk hB.out hS
end
theorem xK(r:eR)(h:Sa.aN)(w:nJ):Calls nH 67 #[fA r h] w fun e w'=>e=.returned (.func (.func 136) #[] #[.pointer (some ⟨w.heap.size,0,none⟩)])/\w'=w.alloc (.cells #[.slice r.kA h.kinds.length r.kc,.int .i64 h.floor,.slice r.pA h.parts.length r.pc,.slice r.bA h.bars.length r.bc] 37):=by go_enter Tryz.func67,Tryz.ntmps67;go_wp2_with fail;go_ret;exact⟨rfl,rfl⟩
theorem Jh{h:Sa.aN}{L pre:List (List Int)}{x:List Int}(hp:pre++[x] <+: L)(hx:Sa.fits h x=true):pre.filter (Sa.fits h)++[x] <+: L.filter (Sa.fits h):=by obtain⟨t,rfl⟩:=hp;rw[List.filter_append,List.filter_append];exact⟨t.filter (Sa.fits h),by simp[hx]⟩
def vP(r:eR)(h:Sa.aN):Array nK:=#[.slice r.kA h.kinds.length r.kc,.int .i64 h.floor,.slice r.pA h.parts.length r.pc,.slice r.bA h.bars.length r.bc]
theorem P5{fn:Func}{R:Ending->nJ->Prop}{t:Array nK}{D:Nat}{W:nJ}{v:nK}(hD:W.heap[D]?=some (.deferred (some [])))(hr:(results fn t).run nH (W.putObj D (.deferred none))=.ok v (W.putObj D (.deferred none)))(h:R (.returned v) (W.putObj D (.deferred none))):bodyPostM Fence.wide 3 nH fn R .normal { tmps:=t,defers:=[{ target:=.collected D,args:=#[] }] } W:=
 ⟨nV,.inl ⟨_,_,rfl,run_takeDeferred hD,_,hr,h⟩⟩
section
attribute[local go_sem] Oper.semAt_some
theorem zh(r:eR)(h:Sa.aN)(hv:Sa.valid h=true)(B bp:Nat)(W1:nJ)(hH:bT B W1 r h)[hB:Le B W1](Be:ax W1 bp 37 (vP r h)):tD nH 136 #[] #[.pointer (some ⟨bp,0,none⟩)] (oY h (W1.heap.size+5)) (Sa.bL h) (fun b=>b=W1.heap.size+5\/b=W1.heap.size+1\/b=W1.heap.size+2) (fun b=>B<=b/\b≠bp) W1:=by
 intro S l J Jx hS J7 xp hY hJ;have HH:=qh hH;have HV:=qh hv;have HS:=qh hS;have KT:=qh J7;have SH:=qh xp;have HY:=qh hY;have HJ:=qh hJ;have HBP:=qh Be;have l1:=hH.2.1.len;have l2:=hH.2.2.len;refine QDU ?_;intro h6 h4;have hbl:=Be.tN;obtain⟨kA,kc,pA,pc,bA,bc⟩:=r;have ib:=Be.lt;have b0:W1.cell? ⟨bp,0,none⟩=some (.slice kA h.kinds.length kc):=Be.cell rfl;have b1:W1.cell? ⟨bp,1,none⟩=some (.int .i64 h.floor):=Be.cell rfl;have b2:W1.cell? ⟨bp,2,none⟩=some (.slice pA h.parts.length pc):=Be.cell rfl;have b3:W1.cell? ⟨bp,3,none⟩=some (.slice bA h.bars.length bc):=Be.cell rfl;clear hH hv hS J7 xp hY hJ Be;refine oW Tryz.func136 rfl ?_;simp only[Tryz.ntmps136,List.size_toArray,List.length_cons,List.length_nil,Nat.reduceAdd,Nat.reduceSub,Array.replicate_succ,Array.replicate_zero,List.push_toArray,List.append_toArray,List.nil_append,List.cons_append];go_wp2_with fail;refine aL fun W0 jO=>?_;have HZ:Hid (W0.heap.size=W1.heap.size+1):=by rw[jO.out];unfold Hid;simp
 have V5:Hid (bH (fun _=>False) W1 W0):=by rw[jO.out];exact bH.dK fk
 have HYB:Hid (ax W0 W1.heap.size 216 #[.func (.yield l) #[] #[]]):=by rw[jO.out];exact ax.new rfl
 clear jO;have hst:∀W,bH S W1 W->W1.heap.size+1<=W.heap.size->True:=fun _ _ _=>trivial;clear hst;refine QFL ?_;intro SZ;have hit:∀W2,Below W0.heap.size W0 W2->W2.heap.size=W0.heap.size+2->tD nH 68 #[qQ ⟨kA,kc,pA,pc,bA,bc⟩ h] #[] (oY h (W1.heap.size+5)) (Sa.nD h.bars.length h.parts.length) (fun b=>b=W1.heap.size+5) (fun b=>B<=b) W2:=by
  intro W2 gM hs2;have e:W2.heap.size+2=W1.heap.size+5:=by rw[hs2,HZ.out]
  rw[<-e];have hLe:Le B W2:=⟨by have:=hB.out;have:=HZ.out;omega⟩;exact Mx ⟨kA,kc,pA,pc,bA,bc⟩ h HV.out B W2 (SZ.out.eM (S:=fun _=>False) (bH.dK gM) (by have:=hB.out;have:=HZ.out;omega) (fun _ h=>h.elim))
 have V6:=qh hit;clear hit;refine yB (enters_of Tryz.func68 nP rfl) (oY h (W1.heap.size+5)) (Sa.nD h.bars.length h.parts.length) (fun b=>b=W1.heap.size+5) (fun b=>B<=b)
  (first:=#[qQ ⟨kA,kc,pA,pc,bA,bc⟩ h]) (caps:=#[]) rfl (by have:=HZ.out;rintro b rfl;omega) V6.out ?size ?item S ?hS ?ok
  (fun pre W=>J (pre.filter (Sa.fits h)) W) (fun c pre W=>c=.ret/\∃q,q <+: Sa.bL h/\q≠[]/\Jx q W) ?hI ?hIx ?h0
  (fun x vs a' W=>∃bl,a' = { tmps:=#[.func (.yield l) #[] #[],.pointer (some ⟨bp,0,none⟩),.pointer (some ⟨W1.heap.size,0,none⟩),.slice (some ⟨W1.heap.size+5,0,none⟩) h.parts.length h.parts.length,.pointer (some ⟨bl,0,none⟩),
   .agg #[.slice kA h.kinds.length kc,.int .i64 h.floor,.slice pA h.parts.length pc,.slice bA h.bars.length bc],qQ ⟨kA,kc,pA,pc,bA,bc⟩ h,.func (.func 68) #[qQ ⟨kA,kc,pA,pc,bA,bc⟩ h] #[],
   .slice (some ⟨W1.heap.size+5,0,none⟩) h.parts.length h.parts.length,iS (dW h x),undef,undef,undef,undef,undef,undef,undef,undef,undef,undef],defers:=[] }/\ax W bl 121 (jZ (dW h x))/\W0.heap.size+2<=bl) ?hAx ?assign ?body ?done ?stop
 case size=>rintro x vs W ⟨rfl,_⟩;rfl
 case item=>rintro x vs W W' ⟨h1,h2,h3⟩ hk;exact⟨h1,h2,h3.eM hk (by have:=HZ.out;rintro(h|h|h);exact h.elim;omega;omega)⟩
 case hS=>intro b hb;have:=HS.out b hb;exact⟨by have:=HZ.out;omega,this.2.1⟩
 case ok=>have:=hB.out;have:=HZ.out;exact⟨nQ,nQ⟩
 case hI=>intro pre W W' hj hk;exact KT.out _ _ _ hj (hk.mono fun b hb=>by have:=HZ.out;rcases hb with h|h|h;exact .inl h;exact .inr (.inl nQ);exact .inr (.inr nQ))
 case hIx=>rintro c pre W W' ⟨rfl,q,h1,h2,h3⟩ hk;exact⟨rfl,q,h1,h2,SH.out _ _ _ h3 (hk.mono fun b hb=>by have:=HZ.out;rcases hb with h|h|h;exact .inl h;exact .inr (.inl nQ);exact .inr (.inr nQ))⟩
 case h0=>exact KT.out _ _ _ HJ.out (V5.out.mono fun b h=>h.elim)
 case hAx=>rintro x vs a' W W' ⟨bl,h1,h2,h3⟩ hk;exact⟨bl,h1,h2.eM hk (by rintro(h|h|h);exact h.elim;omega;omega),h3⟩
 case assign=>rintro l' m x vs W K ⟨rfl,hx,jh⟩ hK;have hlt:=jh.tN;have hz:=HZ.out;gi_wp2_with (refine nc fe (by first|rfl|(simp[Region.wanted,yielded];done)) _ _ rfl rfl rfl (ax.new rfl) rfl rfl (tS _) ?_;intro W2 gM hk2);refine hK _ _ ?_ ⟨_,rfl,gM,nQ⟩;refine⟨nT nV hk2.size,hk2.os,hk2.tape,hk2.output,fun b hb _=>?_⟩;exact(hk2.block b (by simp;omega) nQ).trans (Below.heap_alloc _ _ b hb)
 case body=>
  rintro l' m pre x vs a' W hpre hJp ⟨rfl,hx,jh⟩ ⟨bl,rfl,xo,hlo⟩ hk hs;have hz:=HZ.out;have HBW:Hid (ax W bp 37 (vP ⟨kA,kc,pA,pc,bA,bc⟩ h)):=(HBP.out.eM V5.out (fun h=>h)).eM hk (fun hb=>(HS.out _ hb).2.2 rfl);have HYW:Hid (ax W W1.heap.size 216 #[.func (.yield l) #[] #[]]):=HYB.out.eM hk (fun hb=>by have:=(HS.out _ hb).1;omega);have Mh:Hid (bT B W ⟨kA,kc,pA,pc,bA,bc⟩ h):=qh (SZ.out.eM hk (by have:=hB.out;omega) (fun b hb=>(HS.out b hb).2.1));have iB:Le B W:=⟨by have:=hB.out;omega⟩;have c0:W.cell? ⟨bp,0,none⟩=some (.slice kA h.kinds.length kc):=HBW.out.cell rfl;have c1:W.cell? ⟨bp,1,none⟩=some (.int .i64 h.floor):=HBW.out.cell rfl;have c2:W.cell? ⟨bp,2,none⟩=some (.slice pA h.parts.length pc):=HBW.out.cell rfl;have c3:W.cell? ⟨bp,3,none⟩=some (.slice bA h.bars.length bc):=HBW.out.cell rfl;have y0:W.cell? ⟨W1.heap.size,0,none⟩=some (.func (.yield l) #[] #[]):=HYW.out.cell rfl;have j1:=HBW.out.lt;have j2:=HYW.out.lt;have j3:=xo.lt;have Pe:=qh xo;have AY:=qh jh;have ado:=qh hpre;have HJP:=qh hJp;have HKW:=qh hk;have SD:=qh hx;have HF:Hid (∀b,Sa.Fair 6 (dW h x b)):=qh fun b=>Sa.fF HV.out nQ _;clear xo jh hpre hJp hk hx hz;rcases hq:Sa.fits h x with _|_
  ·have HQ:=qh hq;clear hq;gi_wp2_with (refine fu fe (by first|rfl|(simp[Region.wanted,yielded];done)) _ rfl rfl Pe.out rfl ?_);refine gY (yD ⟨kA,kc,pA,pc,bA,bc⟩ h HV.out (dW h x) HF.out false HQ.out B W Mh.out) ?_;rintro e w1 ⟨rfl,δ,rfl⟩;gi_wp2;refine⟨(fun _ h=>by cases h),?_⟩;gi_wp2;refine⟨bH.af _ _ _,?_⟩;show J ((pre++[x]).filter (Sa.fits h)) _;rw[List.filter_append,List.filter_cons,if_neg (by rw[HQ.out];simp),List.filter_nil,List.append_nil];exact KT.out _ _ _ HJP.out (bH.af _ _ _)
  ·have HQ:=qh hq;have HPF:=qh (Jh ado.out hq);have HFE:Hid ((pre++[x]).filter (Sa.fits h)=pre.filter (Sa.fits h)++[x]):=by unfold Hid;rw[List.filter_append];simp[hq]
   clear hq;gi_wp2_with (refine fu fe (by first|rfl|(simp[Region.wanted,yielded];done)) _ rfl rfl Pe.out rfl ?_);refine gY (yD ⟨kA,kc,pA,pc,bA,bc⟩ h HV.out (dW h x) HF.out true HQ.out B W Mh.out) ?_;rintro e w1 ⟨rfl,δ,rfl⟩;obtain⟨fn,tmps,assign,body,hy,hR⟩:=HY.out (m-1) (pre.filter (Sa.fits h)) x #[.slice (some ⟨W1.heap.size+5,0,none⟩) h.parts.length h.parts.length,iS (dW h x)] (af W δ) HPF.out (KT.out _ _ _ HJP.out (bH.af _ _ _)) ⟨rfl,SD.out,AY.out.af δ⟩;unfold iS at hy;gi_wp2_with (refine fu fe (by first|rfl|(simp[Region.wanted,yielded];done)) _ rfl rfl (Pe.out.af δ) rfl ?_);refine⟨(fun h=>by simp[Fence.wide] at h),?_⟩;refine RoundIn.mono (F:=Fence.wide.inRound l') hR ?_;clear hR hy;rintro e W3 ⟨b,rfl,hP⟩;have SV:=qh hP;clear hP;cases b
   ·gi_wp2;obtain⟨q,hq,Up,hx⟩:=SV.out.2.2 rfl;exact⟨(bH.af _ _ _).trans SV.out.1,rfl,_,((List.prefix_append_right_inj _).2 hq).trans HPF.out,by simp[Up],hx⟩
   ·gi_wp2;refine⟨(bH.af _ _ _).trans SV.out.1,?_⟩;show J ((pre++[x]).filter (Sa.fits h)) _;rw[HFE.out];exact SV.out.2.1 rfl
 case done=>
  intro W hj hk hD;refine P5 (v:=.tuple #[]) hD (results_none Tryz.results136 _ _ _) ?_;refine⟨_,true,rfl,?_,fun _=>?_,fun h=>by cases h⟩
  ·exact oQ ((V5.out.mono fun b h=>h.elim).trans hk) ((bH.refl (fun b=>b=W0.heap.size) W).putObj rfl _) (by have:=HZ.out;rintro b rfl;omega)
  ·exact KT.out _ _ _ hj ((bH.refl _ W).putObj (.inr (.inl HZ.out)) _)
 case stop=>
  rintro c pre W hpre hne ⟨rfl,q,h1,h2,h3⟩ hk hD;go_wp2_with fail;refine oF (v:=.tuple #[]) hD (results_none Tryz.results136 _ _ _) ?_;refine⟨_,false,rfl,?_,(fun h=>by cases h),fun _=>⟨q,h1,h2,?_⟩⟩
  ·exact oQ ((V5.out.mono fun b h=>h.elim).trans hk) ((bH.refl (fun b=>b=W0.heap.size) W).putObj rfl _) (by have:=HZ.out;rintro b rfl;omega)
  ·exact SH.out _ _ _ h3 ((bH.refl _ W).putObj (.inr (.inl HZ.out)) _)
end
end Go.Proofs.YtdmedlkonaclnaaGreatDoor
