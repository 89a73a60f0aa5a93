/- A part of the proof that a law of layer 12 holds, cut small by a program (names and blanks): Ha3. -/
import Derived.Test.YtdmedlkonaclnaaGreatDoorZ3
set_option maxRecDepth 100000
set_option maxHeartbeats 40000000
set_option linter.unusedVariables false
set_option linter.unusedSimpArgs false
namespace Go.Proofs.YtdmedlkonaclnaaGreatDoor
open Go.RowKit
open Nat renaming le_trans → nT, lt_of_lt_of_le → nL, le_refl → nR, zero_le → nE, lt_succ_self → nA
open Go.Proofs.Tryz renaming prog → nH
open Go renaming World → nJ, Value → nK
section
open An
theorem iI(x:Im)(wi cu:Int)(w:nJ)(hx:qx x=true)(hw:fH 0 20 wi=true)(hc:fH 0 20 cu=true):Calls nH 285 #[.agg #[.int .i64 x.wL,.int .i64 x.xx,.int .i64 x.lean,.int .i64 x.ya,.int .i64 x.sx],.int .i64 wi,.int .i64 cu] w fun e w'=>e=.returned (.int .i64 (zR x wi cu))/\∃δ,w'=af w δ:=by have hb:=qh (JL hx hw hc);clear hx hw hc;go_enter Tryz.func285,Tryz.ntmps285;go_wp2;go_ret;refine⟨cG ?_,ag⟩;have hb:=hb.out;rw[KY (x:=x.wL*wi) nQ,KY (x:=x.xx*cu) nQ,KY nQ];rfl
def nq(L:List Int)(k:Nat):Bool:=jY L (k:Int)
theorem Sl.aU{B:Nat}{w:nJ}{A:Option Addr}{c:Nat}{xs:List Im}(h:Sl fC B w A c xs)(h0:0<xs.length):∃b o,A=some ⟨b,o,none⟩/\b<B/\∀k,k<xs.length->w.cell? ⟨b,o+k*5,none⟩=some (.int .i64 (nth xs k).wL)/\w.cell? ⟨b,o+k*5+1,none⟩=some (.int .i64 (nth xs k).xx)/\w.cell? ⟨b,o+k*5+2,none⟩=some (.int .i64 (nth xs k).lean)/\w.cell? ⟨b,o+k*5+3,none⟩=some (.int .i64 (nth xs k).ya)/\w.cell? ⟨b,o+k*5+4,none⟩=some (.int .i64 (nth xs k).sx):=by obtain⟨b,o,hA,hb,_⟩:=h.Vp h0;refine⟨b,o,hA,hb,fun k hk=>?_⟩;obtain⟨b',o',p5,_,r⟩:=h.Vp hk;rw[hA] at p5;injection p5 with e;injection e with e1 e2;subst e1 e2;exact r
theorem Iy(x:Int)(b:Bool):x*(if b=true then 2 else 1)=if b=true then x+x else x:=by cases b<;>simp<;>omega
theorem MK(r:eP)(n:Net)(rt:pE)(t:ji)(A:Option Addr)(c:Nat)(L:List Int)(B:Nat)(w:nJ)[hB:Le B w](h:cg B w r n)(hL:Sl aI B w A c L)(ht:jV n t)(hi:0<n.aB.length):Calls nH 264 #[eK r n,wH rt t,.int .i64 0,.slice A L.length c] w fun e w'=>e=.returned (.int .i64 (bears n t 0 (nq L)))/\∃δ,w'=af w δ:=by
 have hv:=aD.1 ht.1;have hw:=hv.2.2.2.2.1;have h6:=hv.2.2.2.1;have Af:=ht.2.1;have LX:=ht.2.2.1;have HW:=qh hw;have l2:=h.2.2.len;clear hv hw;by_cases h1:1<n.aB.length;case neg=>have HE:=qh (show bears n t 0 (nq L)=0 by have:=HW.out;unfold bears;rw[if_neg nQ,if_neg nQ];rfl);clear h6;go_enter Tryz.func264,Tryz.ntmps264;go_wp2_with fail;go_ret;exact⟨cG HE.out.symm,ag⟩
 case pos=>
  have Uk:0<n.aU.length:=by have:=HW.out;omega
  have hx:=oe ht.1 Uk;have hbd:=FZ ht Uk;have kL:0<=zR (nth n.aU 0) t.aP t.cur:=hbd.1;have gM:zR (nth n.aU 0) t.aP t.cur<=360:=hbd.2;obtain⟨b,o,hA,hb,k0,k1,k2,k3,k4⟩:=h.2.2.Vp Uk;have ib:Lt b w:=⟨nL hb hB.out⟩;simp only[Nat.zero_mul,Nat.add_zero] at k0 k1 k2 k3 k4;have hwi:(0:Int)<(n.aU.length:Int):=nQ;have hE:bears n t 0 (nq L)=if jY L 1=true then zR (nth n.aU 0) t.aP t.cur+zR (nth n.aU 0) t.aP t.cur else zR (nth n.aU 0) t.aP t.cur:=by unfold bears side ld nq;rw[if_neg nQ,if_pos nQ,Int.zero_add,Iy];rfl
  clear hbd;by_cases hin:jY L 1=true;all_goals try rw[Bool.not_eq_true] at hin
  all_goals
   rw[hin] at hE;have HE:=qh hE;clear hE;rw[show eK r n=Value.agg #[.int .i64 n.aP.lo,.int .i64 n.aP.hi,.int .i64 n.cur.lo,.int .i64 n.cur.hi,.slice r.gA n.ay.length r.gc,.slice r.aA n.aB.length r.ac,.slice r.wA n.aU.length r.wc] from rfl,hA];clear hA;go_enter Tryz.func264,Tryz.ntmps264;go_wp2_with fail;refine wpRl ?_;repeat (go_big_quiet_step ((first|(go_at_call 285;exact Calls.bN (iI _ _ _ _ nZ nZ nZ)))))
   refine QBT ?_;rintro _ ⟨δq,rfl⟩;go_wp2_with (go_at_call 203;refine(DM A c L 1 B _ hL.up).mono ?_;rintro e w1 ⟨rfl,rfl⟩)
  ·refine wpRl ?_;repeat (go_big_quiet_step ((first|(go_at_call 285;exact Calls.bN (iI _ _ _ _ nZ nZ nZ)))))
   refine QBT ?_;rintro _ ⟨δr,rfl⟩;go_wp2_with fail;go_ret;refine⟨cG ?_,ag⟩;rw[HE.out];simp
  ·go_ret;refine⟨cG ?_,ag⟩;rw[HE.out];simp
theorem MJ(r:eP)(n:Net)(rt:pE)(t:ji)(j:Nat)(A:Option Addr)(c:Nat)(L:List Int)(B:Nat)(w:nJ)[hB:Le B w](h:cg B w r n)(hL:Sl aI B w A c L)(ht:jV n t)(hi:j+1<n.aB.length):Calls nH 264 #[eK r n,wH rt t,.int .i64 (j+1),.slice A L.length c] w fun e w'=>e=.returned (.int .i64 (bears n t (j+1) (nq L)))/\∃δ,w'=af w δ:=by
 have hv:=aD.1 ht.1;have hw:=hv.2.2.2.2.1;have h6:=hv.2.2.2.1;have Af:=ht.2.1;have LX:=ht.2.2.1;have l2:=h.2.2.len;have hwj:j<n.aU.length:=nQ;have hx:=oe ht.1 hwj;have hbd:=FZ ht hwj;have kL:0<=zR (nth n.aU j) t.aP t.cur:=hbd.1;have gM:zR (nth n.aU j) t.aP t.cur<=360:=hbd.2;obtain⟨b,o,hA,hb,kk⟩:=h.2.2.aU nQ;obtain⟨k0,k1,k2,k3,k4⟩:=kk j hwj;have ib:Lt b w:=⟨nL hb hB.out⟩;have hwi:(j:Int)<(n.aU.length:Int):=nQ;have hE:bears n t (j+1) (nq L)=(if jY L j=true then zR (nth n.aU j) t.aP t.cur+zR (nth n.aU j) t.aP t.cur else zR (nth n.aU j) t.aP t.cur)+(if j+1<n.aU.length then (if jY L ((j:Int)+1+1)=true then zR (nth n.aU (j+1)) t.aP t.cur+zR (nth n.aU (j+1)) t.aP t.cur else zR (nth n.aU (j+1)) t.aP t.cur) else 0):=by unfold bears side ld;rw[if_pos nQ,Iy,Iy];rfl
 clear hbd hv;by_cases h1:j+1<n.aU.length;case neg=>
  have ZQ:¬((j:Int)+1<(n.aB.length:Int)-1):=nQ;rw[if_neg h1,Int.add_zero] at hE;have HW:=qh hw;clear hw h1;by_cases hin:jY L j=true;all_goals try rw[Bool.not_eq_true] at hin
  all_goals
   rw[hin] at hE;have HE:=qh hE;clear hE kk;rw[show eK r n=Value.agg #[.int .i64 n.aP.lo,.int .i64 n.aP.hi,.int .i64 n.cur.lo,.int .i64 n.cur.hi,.slice r.gA n.ay.length r.gc,.slice r.aA n.aB.length r.ac,.slice r.wA n.aU.length r.wc] from rfl,hA];clear hA;go_enter Tryz.func264,Tryz.ntmps264;go_wp2_with fail;refine wpRl ?_;repeat (go_big_quiet_step ((first|(go_at_call 285;exact Calls.bN (iI _ _ _ _ nZ nZ nZ)))))
   refine QBT ?_;rintro _ ⟨δq,rfl⟩;go_wp2_with (go_at_call 203;refine(DM A c L j B _ hL.up).mono ?_;rintro e w1 ⟨rfl,rfl⟩)
  ·refine wpRl ?_;repeat (go_big_quiet_step ((first|(go_at_call 285;exact Calls.bN (iI _ _ _ _ nZ nZ nZ)))))
   refine QBT ?_;rintro _ ⟨δr,rfl⟩;go_wp2_with fail;go_ret;refine⟨cG ?_,ag⟩;rw[HE.out];simp
  ·go_ret;refine⟨cG ?_,ag⟩;rw[HE.out];simp
 case pos=>
  have ZQ:(j:Int)+1<(n.aB.length:Int)-1:=nQ;have hy:=oe ht.1 h1;have hbd:=FZ ht h1;have Ri:0<=zR (nth n.aU (j+1)) t.aP t.cur:=hbd.1;have hb4:zR (nth n.aU (j+1)) t.aP t.cur<=360:=hbd.2;obtain⟨m0,m1,m2,m3,m4⟩:=kk (j+1) h1;have ag1:(j:Int)+1<(n.aU.length:Int):=nQ;rw[if_pos h1] at hE;have HW:=qh hw;clear hw h1 hbd kk;by_cases hin:jY L j=true<;>by_cases ZW:jY L ((j:Int)+1+1)=true;all_goals try rw[Bool.not_eq_true] at hin
  all_goals try rw[Bool.not_eq_true] at ZW
  all_goals
   rw[hin,ZW] at hE;have HE:=qh hE;clear hE;rw[show eK r n=Value.agg #[.int .i64 n.aP.lo,.int .i64 n.aP.hi,.int .i64 n.cur.lo,.int .i64 n.cur.hi,.slice r.gA n.ay.length r.gc,.slice r.aA n.aB.length r.ac,.slice r.wA n.aU.length r.wc] from rfl,hA];clear hA;go_enter Tryz.func264,Tryz.ntmps264;go_wp2_with fail;refine wpRl ?_;repeat (go_big_quiet_step ((first|(go_at_call 285;exact Calls.bN (iI _ _ _ _ nZ nZ nZ)))))
   refine QBT ?_;rintro _ ⟨δq,rfl⟩;go_wp2_with (go_at_call 203;refine(DM A c L _ B _ hL.up).mono ?_;rintro e w1 ⟨rfl,rfl⟩);refine wpRl ?_;repeat (go_big_quiet_step ((first|(go_at_call 285;exact Calls.bN (iI _ _ _ _ nZ nZ nZ)))))
   refine QBT ?_;rintro _ ⟨δr,rfl⟩;go_wp2_with (go_at_call 203;refine(DM A c L _ B _ hL.up).mono ?_;rintro e w1 ⟨rfl,rfl⟩)
  ·refine wpRl ?_;repeat (go_big_quiet_step ((first|(go_at_call 285;exact Calls.bN (iI _ _ _ _ nZ nZ nZ)))))
   refine QBT ?_;rintro _ ⟨δr,rfl⟩;go_wp2_with (go_at_call 203;refine(DM A c L _ B _ hL.up).mono ?_;rintro e w1 ⟨rfl,rfl⟩);refine wpRl ?_;repeat (go_big_quiet_step ((first|(go_at_call 285;exact Calls.bN (iI _ _ _ _ nZ nZ nZ)))))
   refine QBT ?_;rintro _ ⟨δr,rfl⟩;go_wp2_with (go_at_call 203;refine(DM A c L _ B _ hL.up).mono ?_;rintro e w1 ⟨rfl,rfl⟩);go_ret;refine⟨cG ?_,ag⟩;rw[HE.out];simp<;>omega
  ·refine wpRl ?_;repeat (go_big_quiet_step ((first|(go_at_call 285;exact Calls.bN (iI _ _ _ _ nZ nZ nZ)))))
   refine QBT ?_;rintro _ ⟨δr,rfl⟩;go_wp2_with (go_at_call 203;refine(DM A c L _ B _ hL.up).mono ?_;rintro e w1 ⟨rfl,rfl⟩);go_ret;refine⟨cG ?_,ag⟩;rw[HE.out];simp<;>omega
  ·refine wpRl ?_;repeat (go_big_quiet_step ((first|(go_at_call 285;exact Calls.bN (iI _ _ _ _ nZ nZ nZ)))))
   refine QBT ?_;rintro _ ⟨δr,rfl⟩;go_wp2_with (go_at_call 203;refine(DM A c L _ B _ hL.up).mono ?_;rintro e w1 ⟨rfl,rfl⟩);go_ret;refine⟨cG ?_,ag⟩;rw[HE.out];simp<;>omega
  ·go_ret;refine⟨cG ?_,ag⟩;rw[HE.out];simp<;>omega
theorem vm(r:eP)(n:Net)(rt:pE)(t:ji)(i:Nat)(A:Option Addr)(c:Nat)(L:List Int)(B:Nat)(w:nJ)[hB:Le B w](h:cg B w r n)(hL:Sl aI B w A c L)(ht:jV n t)(hi:i<n.aB.length):Calls nH 264 #[eK r n,wH rt t,.int .i64 i,.slice A L.length c] w fun e w'=>e=.returned (.int .i64 (bears n t i (nq L)))/\∃δ,w'=af w δ:=by
 cases i with
 |zero=>exact MK r n rt t A c L B w h hL ht hi
 |succ j=>exact MJ r n rt t j A c L B w h hL ht hi
theorem Dr(r:eP)(n:Net)(rt:pE)(t:ji)(i:Nat)(B:Nat)(w:nJ)[hB:Le B w](h:cg B w r n)(h':rX B w rt t)(ht:jV n t)(hi:i<n.aB.length):Calls nH 265 #[eK r n,wH rt t,.int .i64 i] w fun e w'=>e=.returned (.int .i64 (can n t i))/\∃δ,w'=af w δ:=by
 have hcd:=Ed ht hi;obtain⟨b,o,hA,hb,k0,k1⟩:=h.2.1.Yh hi;have ib:Lt b w:=⟨nL hb hB.out⟩;obtain⟨b',o',p5,hb',k2⟩:=h'.int hcd.2.2.2.1;refine QFM ?_;intro ib' LW hi0 hj0 hj1 HC;rw[show eK r n=Value.agg #[.int .i64 n.aP.lo,.int .i64 n.aP.hi,.int .i64 n.cur.lo,.int .i64 n.cur.hi,.slice r.gA n.ay.length r.gc,.slice r.aA n.aB.length r.ac,.slice r.wA n.aU.length r.wc] from rfl,hA,show wH rt t=Value.agg #[.int .i64 t.aP,.int .i64 t.cur,.slice rt.tA t.ay.length rt.tc] from rfl,p5];clear hcd hA p5;go_enter Tryz.func265,Tryz.ntmps265;go_wp2_with fail;refine wpRl ?_;repeat (go_big_quiet_step ((first|(fail))))
 refine QBT ?_;rintro _ ⟨δ,rfl⟩;go_wp2_with fail;go_ret;refine⟨cG ?_,ag⟩;have HC:=HC.out;have e:2*(nth n.aB i).wt*nth t.ay (nth n.aB i).bt.toNat=can n t i:=rfl;rw[KY (x:=2*(nth n.aB i).wt) nQ,e,KY (x:=can n t i) nQ]
end
section
open An
def iZ(n:Net)(t:ji)(L:List Int)(k:Nat):List Int:=pU k (rQ n t (nq L))
theorem Pq{n:Net}{t:ji}{d:Nat->Bool}{i:Nat}(h:d i=true):rQ n t d i=true:=by unfold rQ;rw[h];rfl
theorem QU{A:Option Addr}{c:Nat}{L:List Int}{x:Int}{b:Bool}(hb:jY L x=b){B:Nat}{w:nJ}(h:Sl aI B w A c L):Calls nH 203 #[.slice A L.length c,.int .i64 x] w fun e w'=>e=.returned (.bool b)/\w=w':=hb▸DM A c L x B w h
theorem Qt(r:eP)(n:Net)(rt:pE)(t:ji)(A:Option Addr)(c:Nat)(L:List Int)(B:Nat)(w:nJ)[hB:Le B w](h:cg B w r n)(h':rX B w rt t)(hL:Sl aI B w A c L)(ht:jV n t):Calls nH 238 #[eK r n,wH rt t,.slice A L.length c] w fun e w'=>∃(A':Option Addr) (c':Nat) (δ:nJ),e=.returned (.slice A' (iZ n t L n.aB.length).length c')/\w'=af w δ/\Sl aI (af w δ).heap.size (af w δ) A' c' (iZ n t L n.aB.length):=by
 have h6:=(aD.1 ht.1).2.2.2.1;go_enter Tryz.func238,Tryz.ntmps238;go_wp2_with fail;refine QAP ?_;intro W1 aH cJ dF cU dA dD eI mV kR mG jE mR mQ vX;refine QDK ?_;intro xB xA AF;have g1:cg B W1 r n:=h.up;have g2:rX B W1 rt t:=h'.up;have g3:Sl aI B W1 A c L:=hL.up;go_loopw [7,8] (fun o i wr=>∃(k c':Nat) (A':Option Addr) (δ:nJ),k<=n.aB.length/\i=.int .i64 k/\o=.slice A' (iZ n t L k).length c'/\wr.ownsRow W1.heap.size 3 1 (.slice A' (iZ n t L k).length c') (iZ n t L k).length ((iZ n t L k).flatMap aI)/\wr=af W1 δ) (fun _ i _=>n.aB.length-(intOf i).toNat)
 case atStart=>exact⟨0,0,none,W1,nE _,rfl,rfl,World.ownsRow_nil _ _ _ _,(bw W1).symm⟩
 case round=>
  obtain⟨k,c',A',δ,hk,rfl,rfl,hown,rfl⟩:=hrel;have HO:=qh hown;clear hown;by_cases hlt:k<n.aB.length
  ·have hle:(iZ n t L k).length<=k:=I9 _ _;have hS:iZ n t L (k+1)=iZ n t L k++(if rQ n t (nq L) k=true then[(k:Int)] else[]):=Fk _ _;have ir:=wg ht (d:=nq L) hlt;have hcb:=(Ed ht hlt).2.2.2.2.2.2;by_cases hin:jY L k=true;case pos=>
    have HS:=qh (show iZ n t L (k+1)=iZ n t L k++[(k:Int)] by rw[hS,if_pos (Pq hin)]);clear hS;go_wp2_with fail;refine wpRl ?_;repeat (go_big_quiet_step ((first|(go_at_call 203;exact Calls.lC (QU hin g3.up))|(go_at_call 264;exact Calls.bN (vm r n rt t k A c L B _ g1.up g3.up ht hlt))|(go_at_call 265;exact Calls.bN (Dr r n rt t k B _ g1.up g2.up ht hlt)))))
    refine QBT ?_;rintro _ ⟨δq,rfl⟩;go_wp2_with (at_builtin;(refine dL W1 wo (.tmp 31) (.tmp 33) rfl rfl (kY _ HO.out) rfl rfl nW rfl (by simp[Value.oneCell']) nQ nQ ?_);intro YD Yc δ' hown');go_roundw
    case rel=>
     have e1:(iZ n t L (k+1)).length=(iZ n t L k).length+1:=by rw[HS.out];simp
     refine⟨k+1,Yc,YD,_,nQ,by go_num,by rw[e1],?_,aq⟩;rw[e1,HS.out,List.flatMap_append];exact hown'
    case measure=>simp[intOf];omega
   case neg=>
    rw[Bool.not_eq_true] at hin;by_cases hsp:can n t k<bears n t k (nq L);case pos=>
     have HS:=qh (show iZ n t L (k+1)=iZ n t L k++[(k:Int)] by rw[hS,if_pos (by unfold rQ spare;simp[hlt];omega)]);clear hS;go_wp2_with fail;refine wpRl ?_;repeat (go_big_quiet_step ((first|(go_at_call 203;exact Calls.lC (QU hin g3.up))|(go_at_call 264;exact Calls.bN (vm r n rt t k A c L B _ g1.up g3.up ht hlt))|(go_at_call 265;exact Calls.bN (Dr r n rt t k B _ g1.up g2.up ht hlt)))))
     refine QBT ?_;rintro _ ⟨δq,rfl⟩;go_wp2_with (at_builtin;(refine dL W1 wo (.tmp 31) (.tmp 33) rfl rfl (kY _ HO.out) rfl rfl nW rfl (by simp[Value.oneCell']) nQ nQ ?_);intro YD Yc δ' hown');go_roundw
     case rel=>
      have e1:(iZ n t L (k+1)).length=(iZ n t L k).length+1:=by rw[HS.out];simp
      refine⟨k+1,Yc,YD,_,nQ,by go_num,by rw[e1],?_,aq⟩;rw[e1,HS.out,List.flatMap_append];exact hown'
     case measure=>simp[intOf];omega
    case neg=>
     have HS:=qh (show iZ n t L (k+1)=iZ n t L k by rw[hS,if_neg (by unfold rQ spare;simp[nq,hin];omega),List.append_nil]);clear hS;go_wp2_with fail;refine wpRl ?_;repeat (go_big_quiet_step ((first|(go_at_call 203;exact Calls.lC (QU hin g3.up))|(go_at_call 264;exact Calls.bN (vm r n rt t k A c L B _ g1.up g3.up ht hlt))|(go_at_call 265;exact Calls.bN (Dr r n rt t k B _ g1.up g2.up ht hlt)))))
     refine QBT ?_;rintro _ ⟨δq,rfl⟩;go_wp2_with fail;go_roundw
     case rel=>refine⟨k+1,c',A',_,nQ,by go_num,by rw[HS.out],?_,aq⟩;rw[HS.out];exact kY _ HO.out
     case measure=>simp[intOf];omega
  ·obtain rfl:k=n.aB.length:=by omega
   go_wp2_with fail;go_ret;exact⟨A',c',_,rfl,aq,IQ (Sl.bU HO.out)⟩
end
section
open An
theorem Qj(f:List Int):∀u∈f.flatMap aI,u.oneCell'=true:=by intro u hu;simp[aI] at hu;obtain⟨x,_,rfl⟩:=hu;rfl
def upto(lo:Int)(k:Nat):List Int:=(List.range k).map fun(j:Nat)=>lo+j
theorem tH(lo:Int)(k:Nat):upto lo (k+1)=upto lo k++[lo+k]:=by simp[upto,List.range_succ]
def gG:Nat->List Sp->List Int->List (List Int)
 |0,_,f=>[f]
 |m+1,gs,f=>(upto (nth gs f.length).lo ((nth gs f.length).hi+1-(nth gs f.length).lo).toNat).flatMap fun g=>gG m gs (f++[g])
theorem uM{gs:List Sp}(h:nk gs=true):∀(m:Nat) (f:List Int),f.length+m=gs.length->(gG m gs f).length<=10 ^ m/\0<(gG m gs f).length:=by
 intro m;induction m with
 |zero=>intro f _;simp[gG]
 |succ m ih=>
  intro f hf
  have hs:=(List.all_eq_true.1 h) _ (aV gs (k:=f.length) nQ)
  simp only[jM,decide_eq_true_eq] at hs
  have key:∀k:Nat,(((upto (nth gs f.length).lo k).flatMap fun g=>gG m gs (f++[g])).length<=k*10 ^ m)/\(0<k->0<((upto (nth gs f.length).lo k).flatMap fun g=>gG m gs (f++[g])).length):=by
   intro k;induction k with
   |zero=>simp[upto]
   |succ k ihk=>
    rw[tH,List.flatMap_append,List.length_append]
    have:=ih (f++[(nth gs f.length).lo+k]) (by simp;omega)
    simp only[List.flatMap_cons,List.flatMap_nil,List.append_nil]
    rw[Nat.succ_mul]
    omega
  unfold gG
  have h1:=key ((nth gs f.length).hi+1-(nth gs f.length).lo).toNat
  refine⟨nT h1.1 ?_,h1.2 nQ⟩
  rw[Nat.pow_succ,Nat.mul_comm]
  exact Nat.mul_le_mul_left _ nQ
def CZ(w:nJ)(L:List (List Int))(e:Ending)(w':nJ):Prop:=∃(A:Option Addr) (c:Nat) (δ:nJ),e=.returned (.slice A L.length c)/\w'=af w δ/\wv 3 aI (af w δ) A c L
theorem Rs(r:eP)(n:Net)(f:List Int)(A:Option Addr)(c:Nat)(B:Nat)(w:nJ)[hB:Le B w](h:cg B w r n)(hf:fN 3 aI w.heap.size w A c f)(hl:f.length=n.ay.length):Calls nH 263 #[eK r n,.slice A f.length c] w (CZ w (gG 0 n.ay f)):=by
 have hE:((f.length:Int)==(n.ay.length:Int))=true:=by simp;omega
 have l1:=hf.plain.len;clear hl;go_enter Tryz.func263,Tryz.ntmps263;go_wp2_with fail;go_ret;have hsub:fN 3 aI ((w.alloc (.cells #[.int .i64 n.aP.lo,.int .i64 n.aP.hi,.int .i64 n.cur.lo,.int .i64 n.cur.hi,.slice r.gA n.ay.length r.gc,.slice r.aA n.aB.length r.ac,.slice r.wA n.aU.length r.wc] 28)).alloc (.cells #[.slice A f.length c] 35)).heap.size ((w.alloc (.cells #[.int .i64 n.aP.lo,.int .i64 n.aP.hi,.int .i64 n.cur.lo,.int .i64 n.cur.hi,.slice r.gA n.ay.length r.gc,.slice r.aA n.aB.length r.ac,.slice r.wA n.aU.length r.wc] 28)).alloc (.cells #[.slice A f.length c] 35)) A c f:=hf.wide;refine⟨some ⟨w.heap.size+1,0,none⟩,1,_,rfl,aq,?_⟩;rw[<-aq (w:=w) (W:=(w.alloc (.cells #[.int .i64 n.aP.lo,.int .i64 n.aP.hi,.int .i64 n.cur.lo,.int .i64 n.cur.hi,.slice r.gA n.ay.length r.gc,.slice r.aA n.aB.length r.ac,.slice r.wA n.aU.length r.wc] 28)).alloc (.cells #[.slice A f.length c] 35))];exact⟨nR _,nQ,[.slice A f.length c],ox nW nW,iV.one hsub⟩
def KV(n:Net)(m:Nat):Prop:=∀(r:eP) (f:List Int) (A:Option Addr) (c:Nat) (B:Nat) (w:nJ),Le B w->cg B w r n->fN 3 aI w.heap.size w A c f->f.length+m=n.ay.length->∀ln:Nat,f.length=ln ->
 Calls nH 263 #[eK r n,.slice A ln c] w (CZ w (gG m n.ay f))
theorem Rr(n:Net)(m:Nat)(hg:nk n.ay=true)(h3:n.ay.length<=3)(IH:KV n m):KV n (m+1):=by
 intro r f A c B w hB h hf hfl ln jg;subst jg;have l1:=hf.plain.len;have hlt:f.length<n.ay.length:=nQ;have hne:((f.length:Int)==(n.ay.length:Int))=false:=by simp;omega
 obtain⟨bs,os,hA,hb,d0,d1⟩:=h.1.sp hlt;have ib:Lt bs w:=⟨nL hb hB.out⟩;have hki:(f.length:Int)<(n.ay.length:Int):=nQ;have hk0:¬(f.length:Int)<0:=nQ;have hsp:=(List.all_eq_true.1 hg) _ (aV n.ay hlt);simp only[jM,decide_eq_true_eq] at hsp;obtain⟨lo,hlo⟩:∃x,x=(nth n.ay f.length).lo:=⟨_,rfl⟩;obtain⟨hi,hhi⟩:∃x,x=(nth n.ay f.length).hi:=⟨_,rfl⟩;rw[<-hlo] at hsp d0;rw[<-hhi] at hsp d1;obtain⟨Yb,XJ⟩:∃x,x=(hi+1-lo).toNat:=⟨_,rfl⟩;have hF:=qh (show gG (m+1) n.ay f=(upto lo Yb).flatMap fun g=>gG m n.ay (f++[g]) by rw[XJ,hlo,hhi];rfl);have SO:(Yb:Int)=hi+1-lo:=nQ;have HC:=qh SO;have HLO:=qh hlo;have HHI:=qh hhi;have HCN:=qh XJ;have CY:=qh hfl;have Vk:=qh IH;have HG:=qh hg;have H:=qh h;have H3:=qh h3;have agB:Yb<=10:=nQ;clear hlo hhi XJ SO hfl IH hg h h3;rw[show eK r n=Value.agg #[.int .i64 n.aP.lo,.int .i64 n.aP.hi,.int .i64 n.cur.lo,.int .i64 n.cur.hi,.slice r.gA n.ay.length r.gc,.slice r.aA n.aB.length r.ac,.slice r.wA n.aU.length r.wc] from rfl,hA];have HA:=qh hA;clear hA;go_enter Tryz.func263,Tryz.ntmps263;go_wp2_with fail;rw[<-HA.out];refine QAP ?_;intro W1 aH cJ dF cU dA dD eI mV kR mG jE mR mQ vX;have xB:W1.cell? ⟨w.heap.size+1,0,none⟩=some (.int .i64 lo):=by rw[aH.out];go_simp
 have xA:W1.cell? ⟨w.heap.size+1,1,none⟩=some (.int .i64 hi):=by rw[aH.out];go_simp
 have g1:cg B W1 r n:=H.out.up;have g2:fN 3 aI W1.heap.size W1 A c f:=hf.wide;have G1:=qh g1;have G2:=qh g2;clear g1 g2 hf d0 d1;go_loopw [5,7] (fun o g wr=>∃(k c':Nat) (A':Option Addr) (cs:List nK) (L:List (List Int)),k<=Yb/\g=.int .i64 (lo+k)/\Hid (L=(upto lo k).flatMap fun g=>gG m n.ay (f++[g]))/\L.length<=k*10 ^ m/\o=.slice A' L.length c'/\wr.ownsRow W1.heap.size 35 1 (.slice A' L.length c') L.length cs/\iV 3 aI wr cs L/\au W1.heap.size W1 wr/\Le W1.heap.size wr) (fun _ g _=>(lo+Yb-intOf g).toNat)
 case atStart=>exact⟨0,0,none,[],[],nE _,nV,by simp[upto,Hid],nV,rfl,World.ownsRow_nil _ _ _ _,iV.nil,inferInstance,inferInstance⟩
 case round=>
  obtain⟨k,c',A',cs,L,hk,rfl,hL,hLl,rfl,hown,hsub,i1,i2⟩:=hrel;refine QBO ?_;intro hcell i3;have i4:Lt (w.heap.size+1) wr:=⟨nL eI.out i2.out⟩;refine QBK ?_;intro i5 i6 i7 HO HS;clear hown hsub;by_cases hlt':k<Yb
  ·have hle:lo+(k:Int)<=hi:=by have:=HC.out;omega
   have hbd:k*10 ^ m<=100000:=by have:10 ^ m<=10 ^ 2:=Nat.pow_le_pow_right nQ (by have:=CY.out;have:=H3.out;omega);have:=Nat.mul_le_mul (show k<=10 by omega) this;omega
   have NI:=(uM HG.out m (f++[lo+k]) (by have:=CY.out;simp;omega));have Xt:10 ^ m<=1000:=by have:10 ^ m<=10 ^ 2:=Nat.pow_le_pow_right nQ (by have:=CY.out;have:=H3.out;omega);omega
   have agv:f.length<=3:=by have:=CY.out;have:=H3.out;omega
   go_wp2_with fail;go_goals
   go_region_held3 (fun W=>W.cell? ⟨w.heap.size,0,none⟩=some (.int .i64 n.aP.lo)/\W.cell? ⟨w.heap.size,1,none⟩=some (.int .i64 n.aP.hi)/\W.cell? ⟨w.heap.size,2,none⟩=some (.int .i64 n.cur.lo)/\W.cell? ⟨w.heap.size,3,none⟩=some (.int .i64 n.cur.hi) /\
     W.cell? ⟨w.heap.size,4,none⟩=some (.slice r.gA n.ay.length r.gc)/\W.cell? ⟨w.heap.size,5,none⟩=some (.slice r.aA n.aB.length r.ac)/\W.cell? ⟨w.heap.size,6,none⟩=some (.slice r.wA n.aU.length r.wc))
    (refine⟨?_,?_,?_,?_,?_,?_,?_⟩<;>go_simp)
    (first|(refine fG wr wo (.tmp 32) (.tmp 33) rfl rfl (v:=.slice (some ⟨_,0,none⟩) 0 0) (by first|exact cB nW nW|exact(cB nW nW).alloc _) rfl (B:=W1.heap.size) (A:=A) (m:=f.length) (c:=c) (news:=f.flatMap aI) rfl (G2.out.up.plain.2.2) (vG f) (Qj f) nQ nQ ?_;intro A1 c1 δ1 eF hg1)|((refine cW wr wo (.tmp 34) (.tmp 36) rfl rfl (v:=.slice A1 f.length c1) (n:=f.length) (xs:=f.flatMap aI) (by first|exact eF|exact eF.alloc _ ) rfl (m:=1) (c:=1) (news:=[.int .i64 (lo+k)]) rfl (ox (by first|(go_simp;done)|(refine hg1.cell nW (by simp[Value.ownBlock]))) (nA _)) rfl (by simp[Value.oneCell']) nQ nQ ?_);intro A2 c2 δ2 iE mU)|(go_at_call 263;refine(Vk.out r (f++[lo+(k:Int)]) A2 c2 B _ inferInstance G1.out.up (fN.bU (by rw[List.flatMap_append];exact iE) nV) (by have:=CY.out;simp;omega) (f.length+1) nV).mono ?_;rintro e w1 ⟨A3,c3,δ3,rfl,rfl,hq1,NF,VP,Rf,hs3⟩)|(refine cW W1 Ti (.tmp 30) (.tmp 38) rfl rfl (v:=.slice A' L.length c') (n:=L.length) (xs:=cs) (bg HO.out) rfl (A:=A3) (m:=(gG m n.ay (f++[lo+(k:Int)])).length) (c:=c3) (news:=VP) rfl Rf (by have:=hs3.1;omega) hs3.Dx nQ nQ ?_;intro A4 c4 δ4 Jo J2))
   all_goals
    go_wp2_with fail;go_roundw
    case rel=>
     refine⟨k+1,c4,A4,cs++VP,L++gG m n.ay (f++[lo+(k:Int)]),nQ,?_,?_,?_,by rw[List.length_append],by rw[List.length_append];exact Jo,(HS.out.up.append hs3).grown (bg HO.out) J2 nU,inferInstance,inferInstance⟩
     ·first|(congr 1;omega)|(congr 1;push_cast;omega)
     ·unfold Hid;rw[tH,List.flatMap_append,<-hL.out];simp
     ·rw[List.length_append,Nat.succ_mul];omega
    case measure=>simp[intOf];omega
  ·obtain rfl:k=Yb:=by omega
   have hgt:¬lo+(k:Int)<=hi:=by have:=HC.out;omega
   have HF:=qh (show gG (m+1) n.ay f=L by rw[hF.out,hL.out]);go_wp2_with fail;go_ret;rw[HF.out];refine QBJ ?_;intro i8 i9;refine⟨A',c',wr,rfl,aq,?_⟩;rw[<-aq (w:=w) (W:=wr)];exact wv.bU HO.out HS.out rfl
end
section
open An
theorem CE(n:Net)(hg:nk n.ay=true)(h3:n.ay.length<=3):∀m,KV n m
 |0=>fun r f A c B w hB h hf hl ln jg=>by subst jg;exact Rs r n f A c B w h hf nQ
 |m+1=>Rr n m hg h3 (CE n hg h3 m)
theorem slT:pF nH 286 109 (.agg #[.int .i64 0,.int .i64 0,.slice none 0 0]) 3 40:=pF.mk Tryz.underlying286 nP rfl nQ
instance:Inhabited ji:=⟨⟨0,0,[]⟩⟩
def mT(w:nJ)(cs:List nK)(L:List ji):Prop:=
 cs.length=L.length*3/\∀i,i<L.length->cs[i*3]?=some (.int .i64 (nth L i).aP)/\cs[i*3+1]?=some (.int .i64 (nth L i).cur)/\∃A' c',cs[i*3+2]?=some (.slice A' (nth L i).ay.length c')/\fN 3 aI w.heap.size w A' c' (nth L i).ay
section
variable{w w':nJ}{cs:List nK}{L:List ji}
theorem mT.nil:mT w [] []:=⟨rfl,fun i h=>absurd h nV⟩
theorem mT.up(h:mT w cs L)[hg:au w.heap.size w w'][hs:Le w.heap.size w']:mT w' cs L:=
 ⟨h.1,fun i hi=>by obtain⟨a,b,A',c',e,s⟩:=h.2 i hi;exact⟨a,b,A',c',e,s.wide⟩⟩
theorem mT.grown(h:mT w cs L){v:nK}{base:Nat}{e:TypeId}{size n:Nat}{ys:List nK}(hown:w.ownsRow base e size v n ys)(hg:w.grownBy w' v.ownBlock)(hne:e≠3):mT w' cs L:=
 ⟨h.1,fun i hi=>by obtain⟨a,b,A',c',e',s⟩:=h.2 i hi;exact⟨a,b,A',c',e',s.grown hown hg hne⟩⟩
theorem ye{α:Type}[Inhabited α](xs ys:List α){k:Nat}(h:k<xs.length):nth (xs++ys) k=nth xs k:=by rw[bR _ (by simp;omega),bR _ h,List.getElem_append_left h]
theorem yg{α:Type}[Inhabited α](xs:List α)(x:α):nth (xs++[x]) xs.length=x:=by rw[bR _ nV,List.getElem_append_right nQ];simp
theorem mT.snoc(h:mT w cs L){t:ji}{A':Option Addr}{c':Nat}(hs:fN 3 aI w.heap.size w A' c' t.ay):mT w (cs++[.int .i64 t.aP,.int .i64 t.cur,.slice A' t.ay.length c']) (L++[t]):=by
 refine⟨by simp[h.1];omega,fun i hi=>?_⟩;rw[List.length_append,List.length_singleton] at hi;by_cases hlt:i<L.length
 ·obtain⟨a,b,YD,Yc,e,s⟩:=h.2 i hlt;rw[ye _ _ hlt];refine⟨?_,?_,YD,Yc,?_,s⟩
  ·rw[List.getElem?_append_left (by rw[h.1];omega)];exact a
  ·rw[List.getElem?_append_left (by rw[h.1];omega)];exact b
  ·rw[List.getElem?_append_left (by rw[h.1];omega)];exact e
 ·obtain rfl:i=L.length:=by omega
  rw[yg];refine⟨?_,?_,A',c',?_,hs⟩
  ·rw[List.getElem?_append_right (by rw[h.1];omega),h.1,show L.length*3-L.length*3=0 by omega];rfl
  ·rw[List.getElem?_append_right (by rw[h.1];omega),h.1,show L.length*3+1-L.length*3=1 by omega];rfl
  ·rw[List.getElem?_append_right (by rw[h.1];omega),h.1,show L.length*3+2-L.length*3=2 by omega];rfl
end
def ur(w:nJ)(A:Option Addr)(c:Nat)(L:List ji):Prop:=L.length<=c/\c<=9223372036854775807/\∃cs,Cells w w.heap.size A cs/\mT w cs L
section
variable{w w':nJ}{A:Option Addr}{c:Nat}{L:List ji}
theorem ur.at_(h:ur w A c L){k:Nat}(hk:k<L.length):∃b o A' c',A=some ⟨b,o,none⟩/\b<w.heap.size/\w.cell? ⟨b,o+k*3,none⟩=some (.int .i64 (nth L k).aP)/\w.cell? ⟨b,o+k*3+1,none⟩=some (.int .i64 (nth L k).cur)/\w.cell? ⟨b,o+k*3+2,none⟩=some (.slice A' (nth L k).ay.length c')/\Sl aI w.heap.size w A' c' (nth L k).ay:=by obtain⟨h1,h2,cs,h3,h4,h5⟩:=h;obtain⟨a,b',A',c',e,s⟩:=h5 k hk;obtain⟨b,o,hA,hb,hc⟩:=h3 (by rintro rfl;simp at e);exact⟨b,o,A',c',hA,hb,hc _ _ a,by have:=hc _ _ b';rwa [<-Nat.add_assoc] at this,by have:=hc _ _ e;rwa [<-Nat.add_assoc] at this,s.plain⟩
theorem ur.bU{base:Nat}{e:TypeId}{n:Nat}{cs:List nK}(h:w.ownsRow base e 3 (.slice A n c) n cs)(hs:mT w cs L)(hn:L.length=n):ur w A c L:=by
 refine⟨?_,?_,cs,Cells.bU h,hs⟩
 ·rcases h.2 with⟨hv,h0⟩|⟨g,cap,cur,hv,_,hh,hnc,_⟩
  ·omega
  ·injection hv with _ _ hc;omega
 ·rcases h.2 with⟨hv,h0⟩|⟨g,cap,cur,hv,_,hh,hnc,hm,_⟩
  ·injection hv with _ _ hc;omega
  ·injection hv with _ _ hc;unfold maxLen at hm;omega
end
def Ai(n:Net):List (List Int):=gG n.ay.length n.ay []
def Bn(w c:Int)(ls:List (List Int)):List ji:=ls.map fun l=>⟨w,c,l⟩
def yT(w:Int)(cs:List Int)(ls:List (List Int)):List ji:=cs.flatMap fun c=>Bn w c ls
def yS(ws cs:List Int)(ls:List (List Int)):List ji:=ws.flatMap fun w=>yT w cs ls
def EV(s:Sp):List Int:=upto s.lo (s.hi+1-s.lo).toNat
def bI(n:Net):List ji:=yS (EV n.aP) (EV n.cur) (Ai n)
theorem wv.Yj{α:Type}[Inhabited α]{enc:α->List nK}{T:TypeId}{w:nJ}{A:Option Addr}{c:Nat}{xss:List (List α)}(h:wv T enc w A c xss)(h0:0<xss.length):∃b o,A=some ⟨b,o,none⟩/\b<w.heap.size/\∀k,k<xss.length->∃A' c',w.cell? ⟨b,o+k,none⟩=some (.slice A' (nth xss k).length c')/\fN T enc w.heap.size w A' c' (nth xss k):=by obtain⟨b,o,_,_,hA,hb,_⟩:=h.at_ h0;refine⟨b,o,hA,hb,fun k hk=>?_⟩;obtain⟨b',o',A',c',p5,_,e,s⟩:=h.at_ hk;rw[hA] at p5;injection p5 with q;injection q with q1 q2;subst q1 q2;rw[bR _ hk];exact⟨A',c',e,s⟩
theorem EG(w c:Int)(ls:List (List Int)):(Bn w c ls).length=ls.length:=by simp[Bn]
theorem Mm(w c:Int)(ls:List (List Int)){k:Nat}(h:k<ls.length):Bn w c (ls.take (k+1))=Bn w c (ls.take k)++[⟨w,c,nth ls k⟩]:=by rw[bE ls h];simp[Bn]
theorem BB(w lo:Int)(k:Nat)(ls:List (List Int)):yT w (upto lo (k+1)) ls=yT w (upto lo k) ls++Bn w (lo+k) ls:=by rw[tH];simp[yT]
theorem EH(w lo:Int)(k:Nat)(ls:List (List Int)):(yT w (upto lo k) ls).length=k*ls.length:=by
 induction k with
 |zero=>simp[yT,upto]
 |succ k ih=>rw[BB,List.length_append,ih,EG,Nat.succ_mul]
theorem BA(lo clo:Int)(k ck:Nat)(ls:List (List Int)):yS (upto lo (k+1)) (upto clo ck) ls=yS (upto lo k) (upto clo ck) ls++yT (lo+k) (upto clo ck) ls:=by rw[tH lo k];simp[yS]
theorem EF(lo clo:Int)(k ck:Nat)(ls:List (List Int)):(yS (upto lo k) (upto clo ck) ls).length=k*(ck*ls.length):=by
 induction k with
 |zero=>simp[yS,upto]
 |succ k ih=>rw[BA,List.length_append,ih,EH,Nat.succ_mul]
def AS(w:nJ)(n:Net)(e:Ending)(w':nJ):Prop:=∃(A:Option Addr) (c:Nat) (δ:nJ),e=.returned (.slice A (bI n).length c)/\w'=af w δ/\ur (af w δ) A c (bI n)
theorem EE(r:eP)(n:Net)(B:Nat)(w:nJ)[hB:Le B w](h:cg B w r n)(hv:valid n=true):Calls nH 237 #[eK r n] w (AS w n):=by
 have v1:=(aD.1 hv).1;have v2:=(aD.1 hv).2.1;have v3:=(aD.1 hv).2.2.1;have v6:=(aD.1 hv).2.2.2.2.2.1;have HGR:=qh (CE n v6 v3 n.ay.length);have NI:=uM v6 n.ay.length [] nV;have Xt:10 ^ n.ay.length<=10 ^ 3:=Nat.pow_le_pow_right nQ v3;simp only[jM,decide_eq_true_eq] at v1 v2;obtain⟨LS,hLS⟩:∃x,x=gG n.ay.length n.ay []:=⟨_,rfl⟩;rw[<-hLS] at NI;have hLl:LS.length<=1000:=nQ;have hL0:=NI.2;obtain⟨kw,hkw⟩:∃x,x=(n.aP.hi+1-n.aP.lo).toNat:=⟨_,rfl⟩;obtain⟨kc,hkc⟩:∃x,x=(n.cur.hi+1-n.cur.lo).toNat:=⟨_,rfl⟩;have ZT:(kw:Int)=n.aP.hi+1-n.aP.lo:=nQ;have ZV:(kc:Int)=n.cur.hi+1-n.cur.lo:=nQ;have kL:kw<=21:=nQ;have gM:kc<=21:=nQ;have HF:=qh (show bI n=yS (upto n.aP.lo kw) (upto n.cur.lo kc) LS by rw[hLS,hkw,hkc];rfl);have HLS:=qh hLS;have HW:=qh ZT;have HC:=qh ZV;clear hLS hkw hkc ZT ZV NI Xt v6;go_enter Tryz.func237,Tryz.ntmps237;have hc:=HGR.out r [] none 0 B (w.alloc (.cells #[.int .i64 n.aP.lo,.int .i64 n.aP.hi,.int .i64 n.cur.lo,.int .i64 n.cur.hi,.slice r.gA n.ay.length r.gc,.slice r.aA n.aB.length r.ac,.slice r.wA n.aU.length r.wc] 28)) inferInstance h.up fN.none_ nV 0 rfl;rw[<-HLS.out] at hc;have HCC:=qh hc;clear hc;go_wp2_with fail;refine HCC.out.mono ?_;rintro e w1 ⟨Al,cl,δ,rfl,rfl,Ik⟩;go_wp2_with fail;refine QCP ?_;intro W1 aH cJ dF cU dA dD um mV kR mG;have Il:wv 3 aI W1 Al cl LS:=by rw[aH.out];exact Ik
 obtain⟨bl,ol,rfl,hbl,LR⟩:=Il.Yj hL0;have il:Lt bl W1:=⟨hbl⟩;have HK:=qh LR;clear Il Ik LR;go_loopw [3,5] (fun o g wr=>∃(k c':Nat) (A':Option Addr) (cs:List nK) (L:List ji),k<=kw/\g=.int .i64 (n.aP.lo+k)/\Hid (L=yS (upto n.aP.lo k) (upto n.cur.lo kc) LS)/\o=.slice A' L.length c'/\wr.ownsRow W1.heap.size 109 3 (.slice A' L.length c') L.length cs/\mT wr cs L/\au W1.heap.size W1 wr/\Le W1.heap.size wr) (fun _ g _=>(n.aP.lo+kw-intOf g).toNat)
 case atStart=>exact⟨0,0,none,[],[],nE _,nV,by simp[upto,yS,Hid],rfl,World.ownsRow_nil _ _ _ _,mT.nil,inferInstance,inferInstance⟩
 case round=>
  obtain⟨k,c',A',cs,L,hk,rfl,hL,rfl,hown,hsub,i1,i2⟩:=hrel;refine QBO ?_;intro hcell i3;have HO:=qh hown;have HS:=qh hsub;clear hown hsub;by_cases hlt:k<kw
  ·have hle:n.aP.lo+(k:Int)<=n.aP.hi:=by have:=HW.out;omega
   go_wp2_with fail;go_loopw [3,6] (fun o g wr=>∃(k2 c':Nat) (A':Option Addr) (cs:List nK) (L2:List ji),k2<=kc/\g=.int .i64 (n.cur.lo+k2)/\Hid (L2=L++yT (n.aP.lo+k) (upto n.cur.lo k2) LS)/\o=.slice A' L2.length c'/\wr.ownsRow W1.heap.size 109 3 (.slice A' L2.length c') L2.length cs/\mT wr cs L2/\au W1.heap.size W1 wr/\Le W1.heap.size wr) (fun _ g _=>(n.cur.lo+kc-intOf g).toNat)
   case atStart=>exact⟨0,c',A',cs,L,nE _,nV,by simp[upto,yT,Hid],rfl,HO.out,HS.out,i1,i2⟩
   case round=>
    clear HO HS hcell i1 i2 i3;obtain⟨k2,c',A',cs,L2,hk2,rfl,hL2,rfl,hown,hsub,i1,i2⟩:=hrel;refine QBO ?_;intro hcell i3;have HO:=qh hown;have HS:=qh hsub;clear hown hsub;by_cases hlt2:k2<kc
    ·have agd:n.cur.lo+(k2:Int)<=n.cur.hi:=by have:=HC.out;omega
     go_wp2_with fail;go_loopw [3,7] (fun o g wr=>∃(k3 c':Nat) (A':Option Addr) (cs:List nK) (L3:List ji),k3<=LS.length/\g=.int .i64 k3/\Hid (L3=L2++Bn (n.aP.lo+k) (n.cur.lo+k2) (LS.take k3))/\o=.slice A' L3.length c'/\wr.ownsRow W1.heap.size 109 3 (.slice A' L3.length c') L3.length cs/\mT wr cs L3/\au W1.heap.size W1 wr/\Le W1.heap.size wr) (fun _ g _=>(LS.length-intOf g).toNat)
     case atStart=>exact⟨0,c',A',cs,L2,nE _,nV,by simp[Bn,Hid],rfl,HO.out,HS.out,i1,i2⟩
     case round=>
      clear HO HS hcell i1 i2 i3;obtain⟨k3,c',A',cs,L3,si,rfl,hL3,rfl,hown,hsub,i1,i2⟩:=hrel;refine QBO ?_;intro hcell i3;have i4:Lt bl wr:=⟨nL hbl i2.out⟩;have HO:=qh hown;have HS:=qh hsub;clear hown hsub;by_cases ZL:k3<LS.length
      ·obtain⟨A3,c3,Rf,hs3⟩:=HK.out k3 ZL;have hki:(k3:Int)<(LS.length:Int):=nQ;have hk0:¬(k3:Int)<0:=nQ;have hbig:L3.length<=900000:=by rw[hL3.out,hL2.out,hL.out,List.length_append,List.length_append,EF,EH,EG,List.length_take];have q1:=Nat.mul_le_mul gM hLl;have q2:=Nat.mul_le_mul (show k<=21 by omega) q1;have q3:=Nat.mul_le_mul (show k2<=21 by omega) hLl;omega
       go_wp2_with (at_builtin;(refine cq W1 slT (.tmp 36) (.tmp 44) rfl rfl (v:=.slice A' L3.length c') (n:=L3.length) (xs:=cs) HO.out rfl rfl nW rfl (by simp[Value.oneCell']) nQ nQ ?_);intro A4 c4 δ4 Jo J2);go_roundw
       case rel=>refine⟨k3+1,c4,A4,_,L3++[⟨n.aP.lo+k,n.cur.lo+k2,nth LS k3⟩],nQ,by go_num,?_,by rw[List.length_append];rfl,by rw[List.length_append];exact Jo,((HS.out.up (w':=wr.alloc (.cells #[.int .i64 (n.aP.lo+k),.int .i64 (n.cur.lo+k2),.slice A3 (nth LS k3).length c3] 109))).snoc (t:=⟨n.aP.lo+k,n.cur.lo+k2,nth LS k3⟩) hs3.wide).grown (HO.out.alloc _) J2 nU,inferInstance,inferInstance⟩;unfold Hid;rw[Mm _ _ _ ZL,<-List.append_assoc,<-hL3.out]
       case measure=>simp[intOf];omega
      ·obtain rfl:k3=LS.length:=by omega
       have HQ:=qh (show L3=L++yT (n.aP.lo+k) (upto n.cur.lo (k2+1)) LS by rw[hL3.out,List.take_length,hL2.out,BB,List.append_assoc]);go_wp2_with fail;go_roundw
       case rel=>refine⟨k2+1,c',A',cs,L3,nQ,?_,HQ.out,rfl,HO.out,HS.out,i1,i2⟩;first|(congr 1;omega)|(congr 1;push_cast;omega)
       case measure=>simp[intOf];omega
    ·obtain rfl:k2=kc:=by omega
     have agr:¬n.cur.lo+(k2:Int)<=n.cur.hi:=by have:=HC.out;omega
     have HQ:=qh (show L2=yS (upto n.aP.lo (k+1)) (upto n.cur.lo k2) LS by rw[hL2.out,hL.out,BA]);go_wp2_with fail;go_roundw
     case rel=>refine⟨k+1,c',A',cs,L2,nQ,?_,HQ.out,rfl,HO.out,HS.out,i1,i2⟩;first|(congr 1;omega)|(congr 1;push_cast;omega)
     case measure=>simp[intOf];omega
  ·obtain rfl:k=kw:=by omega
   have hgt:¬n.aP.lo+(k:Int)<=n.aP.hi:=by have:=HW.out;omega
   have HQ:=qh (show bI n=L by rw[HF.out,hL.out]);go_wp2_with fail;go_ret;rw[AS,HQ.out];refine QBJ ?_;intro i8 i9;refine⟨A',c',wr,rfl,aq,?_⟩;rw[<-aq (w:=w) (W:=wr)];exact ur.bU HO.out HS.out rfl
end
section
open An
theorem zO{lo x:Int}{k:Nat}:x∈upto lo k↔lo<=x/\x<lo+k:=by
 unfold upto;simp only[List.mem_map,List.mem_range];constructor
 ·rintro⟨j,hj,rfl⟩;omega
 ·intro h;exact⟨(x-lo).toNat,nQ,nQ⟩
theorem Nn{s:Sp}{x:Int}:x∈EV s↔sO s x=true:=by unfold EV sO;rw[zO,dn];omega
theorem JH{gs:List Sp}:∀(m:Nat) (f l:List Int),f.length+m=gs.length->(l∈gG m gs f↔l.length=gs.length/\l.take f.length=f/\∀i,f.length<=i->i<gs.length->sO (nth gs i) (nth l i)=true):=by
 intro m;induction m with
 |zero=>
  intro f l hf
  unfold gG
  rw[List.mem_singleton]
  constructor
  ·rintro rfl;exact⟨nQ,List.take_length,fun i h1 h2=>by omega⟩
  ·rintro⟨h1,h2,_⟩;rw[List.take_of_length_le nQ] at h2;exact h2
 |succ m ih=>
  intro f l hf
  unfold gG
  rw[List.mem_flatMap]
  constructor
  ·rintro⟨g,hg,hl⟩;rw[ih _ _ (by simp;omega)] at hl;obtain⟨h1,h2,h3⟩:=hl;rw[zO] at hg;have hlen:f.length<l.length:=nQ;rw[List.length_append,List.length_singleton] at h2 h3;rw[bE l hlen] at h2;have h4:=List.append_inj h2 (by rw[List.length_take];omega);refine⟨h1,h4.1,fun i hi1 hi2=>?_⟩;by_cases hif:i=f.length
   ·subst hif;have h5:=h4.2;simp only[List.cons.injEq,and_true] at h5;rw[h5,sO,dn];omega
   ·exact h3 i nQ hi2
  ·rintro⟨h1,h2,h3⟩;have hlen:f.length<l.length:=nQ;refine⟨nth l f.length,?_,?_⟩
   ·have:=h3 f.length (nR _) nQ;rw[sO,dn] at this;rw[zO];omega
   ·rw[ih _ _ (by simp;omega)];refine⟨h1,?_,fun i hi1 hi2=>h3 i (by simp at hi1;omega) hi2⟩;rw[List.length_append,List.length_singleton,bE l hlen,h2]
theorem gR{n:Net}{t:ji}:t∈bI n↔uy n t=true:=by
 unfold bI yS yT Bn;simp only[List.mem_flatMap,List.mem_map,Nn];have YM:∀l,l∈Ai n↔l.length=n.ay.length/\ru n.ay l l.length=true:=by
  intro l;unfold Ai;rw[JH _ _ _ nV];simp only[List.length_nil,List.take_zero,true_and,nE,forall_const];constructor
  ·rintro⟨h1,h2⟩;refine⟨h1,?_⟩;unfold ru;rw[List.all_eq_true];intro i hi;exact h2 i (by rw[<-h1];simpa using hi)
  ·rintro⟨h1,h2⟩;exact⟨h1,fun i hi=>rq h2 nQ⟩
 constructor
 ·rintro⟨w,hw,c,hc,l,hl,rfl⟩;rw[YM] at hl;simp only[uy,hw,hc,hl.1,decide_true,Bool.and_self];rw[<-hl.1,hl.2];rfl
 ·intro h;simp only[uy,Bool.and_eq_true,decide_eq_true_eq] at h;exact⟨t.aP,h.1.1.1,t.cur,h.1.1.2,t.ay,(YM _).2 ⟨h.1.2,h.2⟩,rfl⟩
def calm(n:Net)(t:ji):Bool:=decide ((iZ n t [] n.aB.length).length=0)
def kf(n:Net)(k:Nat):Nat:=(((bI n).take k).filter (calm n)).length
def kj(n:Net):Nat:=((bI n).filter (calm n)).length
theorem xH{n:Net}(hv:valid n=true):(bI n).length<=441000:=by
 have v1:=(aD.1 hv).1;have v2:=(aD.1 hv).2.1;have v3:=(aD.1 hv).2.2.1;have v6:=(aD.1 hv).2.2.2.2.2.1;have NI:=(uM v6 n.ay.length [] nV).1;have Xt:10 ^ n.ay.length<=10 ^ 3:=Nat.pow_le_pow_right nQ v3;simp only[jM,decide_eq_true_eq] at v1 v2;unfold bI EV;rw[EF];have h1:(Ai n).length<=1000:=by unfold Ai;omega
 have q1:=Nat.mul_le_mul (show(n.cur.hi+1-n.cur.lo).toNat<=21 by omega) h1;have q2:=Nat.mul_le_mul (show(n.aP.hi+1-n.aP.lo).toNat<=21 by omega) q1;omega
theorem Dt(r:eP)(n:Net)(B:Nat)(w:nJ)[hB:Le B w](h:cg B w r n)(hv:valid n=true):Calls nH 187 #[eK r n] w fun e w'=>e=.returned (.tuple #[.int .i64 (kj n),.int .i64 (bI n).length])/\∃δ,w'=af w δ:=by
 have hlen:=xH hv;have HV:=qh hv;clear hv;go_enter Tryz.func187,Tryz.ntmps187;go_wp2_with (go_at_call 237;refine(EE r n B _ h.up HV.out).mono ?_;rintro e w1 ⟨Al,cl,δ,rfl,rfl,Ik⟩);refine QAL ?_;intro W1 aH cJ dF cU dA dD um mV kR mG jE mR mQ;have Il:ur W1 Al cl (bI n):=by rw[aH.out];exact Ik
 have HS:=qh Il;have g1:cg B W1 r n:=h.up;clear Il Ik;go_loopw [2,5] (fun s i wr=>∃(k:Nat) (δ:nJ),k<=(bI n).length/\i=.int .i64 k/\s=.int .i64 (kf n k)/\wr=af W1 δ) (fun _ i _=>(bI n).length-(intOf i).toNat)
 case atStart=>exact⟨0,W1,nE _,rfl,rfl,(bw W1).symm⟩
 case round=>
  obtain⟨k,δ,hk,rfl,rfl,rfl⟩:=hrel;by_cases hlt:k<(bI n).length
  ·obtain⟨b,o,A',c',hA,hb,d0,d1,d2,SM⟩:=HS.out.at_ hlt;have ib:Lt b W1:=⟨hb⟩;rw[hA];clear hA;have Ig:uy n (nth (bI n) k)=true:=gR.1 (aV _ hlt);have hok:=FG HV.out Ig;have hq:kf n k<=k:=by unfold kf;have:=List.length_filter_le (calm n) ((bI n).take k);rw[List.length_take] at this;omega
   have hki:(k:Int)<((bI n).length:Int):=nQ;have hk0:¬(k:Int)<0:=nQ;have Bv:Hid (kf n (k+1)=kf n k+if calm n (nth (bI n) k)=true then 1 else 0):=by unfold Hid kf;rw[bE _ hlt,List.filter_append,List.length_append];congr 1;by_cases hc:calm n (nth (bI n) k)=true<;>simp[hc]
   by_cases hc:(iZ n (nth (bI n) k) [] n.aB.length).length=0;all_goals have OY:=hc
   ·have HN:=qh (show kf n (k+1)=kf n k+1 by rw[Bv.out,if_pos (by simp[calm,hc])]);have HZ:=qh hc;have hz:(((iZ n (nth (bI n) k) [] n.aB.length).length:Int)==0)=true:=by rw[Yg,decide_eq_true_eq];exact hc
    clear hc OY Ig;go_wp2_with fail;go_region_held3 (fun W=>W.cell? ⟨w.heap.size,0,none⟩=some (.int .i64 n.aP.lo)/\W.cell? ⟨w.heap.size,1,none⟩=some (.int .i64 n.aP.hi)/\W.cell? ⟨w.heap.size,2,none⟩=some (.int .i64 n.cur.lo)/\W.cell? ⟨w.heap.size,3,none⟩=some (.int .i64 n.cur.hi) /\
      W.cell? ⟨w.heap.size,4,none⟩=some (.slice r.gA n.ay.length r.gc)/\W.cell? ⟨w.heap.size,5,none⟩=some (.slice r.aA n.aB.length r.ac)/\W.cell? ⟨w.heap.size,6,none⟩=some (.slice r.wA n.aU.length r.wc) /\
      W.cell? ⟨b,o+k*3,none⟩=some (.int .i64 (nth (bI n) k).aP)/\W.cell? ⟨b,o+k*3+1,none⟩=some (.int .i64 (nth (bI n) k).cur)/\W.cell? ⟨b,o+k*3+2,none⟩=some (.slice A' (nth (bI n) k).ay.length c'))
     (refine⟨?_,?_,?_,?_,?_,?_,?_,?_,?_,?_⟩<;>go_simp)
     (first|(go_at_call 238;refine(Qt r n ⟨A',c'⟩ (nth (bI n) k) none 0 [] _ _ g1.wide SM.wide Sl.none_ hok).mono ?_;rintro e w1 ⟨A2,c2,δ2,rfl,rfl,_⟩))
    go_wp2_with fail;go_roundw
    case rel=>exact⟨k+1,_,nQ,by go_num,by rw[HN.out];go_num,aq⟩
    case measure=>simp[intOf];omega
   ·have HN:=qh (show kf n (k+1)=kf n k by rw[Bv.out,if_neg (by simp[calm,hc]),Nat.add_zero]);have hz:(((iZ n (nth (bI n) k) [] n.aB.length).length:Int)==0)=false:=by rw[Yg,decide_eq_false_iff_not];exact hc
    clear hc OY Ig;go_wp2_with fail;go_region_held3 (fun W=>W.cell? ⟨w.heap.size,0,none⟩=some (.int .i64 n.aP.lo)/\W.cell? ⟨w.heap.size,1,none⟩=some (.int .i64 n.aP.hi)/\W.cell? ⟨w.heap.size,2,none⟩=some (.int .i64 n.cur.lo)/\W.cell? ⟨w.heap.size,3,none⟩=some (.int .i64 n.cur.hi) /\
      W.cell? ⟨w.heap.size,4,none⟩=some (.slice r.gA n.ay.length r.gc)/\W.cell? ⟨w.heap.size,5,none⟩=some (.slice r.aA n.aB.length r.ac)/\W.cell? ⟨w.heap.size,6,none⟩=some (.slice r.wA n.aU.length r.wc) /\
      W.cell? ⟨b,o+k*3,none⟩=some (.int .i64 (nth (bI n) k).aP)/\W.cell? ⟨b,o+k*3+1,none⟩=some (.int .i64 (nth (bI n) k).cur)/\W.cell? ⟨b,o+k*3+2,none⟩=some (.slice A' (nth (bI n) k).ay.length c'))
     (refine⟨?_,?_,?_,?_,?_,?_,?_,?_,?_,?_⟩<;>go_simp)
     (first|(go_at_call 238;refine(Qt r n ⟨A',c'⟩ (nth (bI n) k) none 0 [] _ _ g1.wide SM.wide Sl.none_ hok).mono ?_;rintro e w1 ⟨A2,c2,δ2,rfl,rfl,_⟩))
    go_wp2_with fail;go_roundw
    case rel=>exact⟨k+1,_,nQ,by go_num,by rw[HN.out],aq⟩
    case measure=>simp[intOf];omega
  ·obtain rfl:k=(bI n).length:=by omega
   have HQ:=qh (show kf n (bI n).length=kj n by unfold kf kj;rw[List.take_length]);go_wp2_with fail;go_ret2;exact⟨PM (int_eq (by rw[HQ.out])) rfl,ag⟩
end
end Go.Proofs.YtdmedlkonaclnaaGreatDoor
