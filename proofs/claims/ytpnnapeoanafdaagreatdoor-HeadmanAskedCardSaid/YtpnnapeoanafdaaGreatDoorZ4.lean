/- A part of the proof that a law of layer 12 holds, cut small by a program (names and blanks): Ha3. -/
import Derived.Test.YtpnnapeoanafdaaGreatDoorZ3
set_option maxRecDepth 100000
set_option maxHeartbeats 40000000
set_option linter.unusedVariables false
set_option linter.unusedSimpArgs false
namespace Go.Proofs.YtpnnapeoanafdaaGreatDoor
open Go.RowKit
open Nat renaming le_trans → nT, lt_of_lt_of_le → nL, le_refl → nR, zero_le → nE, lt_succ_self → nA
open Go.Proofs.Tryz renaming prog → nH
open Go renaming World → nJ, Value → nK
section
open An
theorem iT(x:Jj)(wi cu:Int)(w:nJ)(hx:qB x=true)(hw:fH 0 20 wi=true)(hc:fH 0 20 cu=true):Calls nH 271 #[.agg #[.int .i64 x.wX,.int .i64 x.xH,.int .i64 x.lean,.int .i64 x.yA,.int .i64 x.sE],.int .i64 wi,.int .i64 cu] w fun e w'=>e=.returned (.int .i64 (Ai x wi cu))/\∃δ,w'=ah w δ:=by have hb:=qh (KL hx hw hc);clear hx hw hc;go_enter Tryz.func271,Tryz.ntmps271;go_wp2;go_ret;refine⟨cG ?_,ag⟩;have hb:=hb.out;rw[Mh (x:=x.wX*wi) nQ,Mh (x:=x.xH*cu) nQ,Mh nQ];rfl
def nN(L:List Int)(k:Nat):Bool:=ke L (k:Int)
theorem Sl.aU{B:Nat}{w:nJ}{A:Option Addr}{c:Nat}{xs:List Jj}(h:Sl fA B w A c xs)(h0:0<xs.length):∃b o,A=some ⟨b,o,none⟩/\b<B/\∀k,k<xs.length->w.cell? ⟨b,o+k*5,none⟩=some (.int .i64 (nth xs k).wX)/\w.cell? ⟨b,o+k*5+1,none⟩=some (.int .i64 (nth xs k).xH)/\w.cell? ⟨b,o+k*5+2,none⟩=some (.int .i64 (nth xs k).lean)/\w.cell? ⟨b,o+k*5+3,none⟩=some (.int .i64 (nth xs k).yA)/\w.cell? ⟨b,o+k*5+4,none⟩=some (.int .i64 (nth xs k).sE):=by obtain⟨b,o,hA,hb,_⟩:=h.WA h0;refine⟨b,o,hA,hb,fun k hk=>?_⟩;obtain⟨b',o',qf,_,r⟩:=h.WA hk;rw[hA] at qf;injection qf with e;injection e with e1 e2;subst e1 e2;exact r
theorem Jt(x:Int)(b:Bool):x*(if b=true then 2 else 1)=if b=true then x+x else x:=by cases b<;>simp<;>omega
theorem NY(r:eS)(n:Net)(rt:pz)(t:jn)(A:Option Addr)(c:Nat)(L:List Int)(B:Nat)(w:nJ)[hB:Le B w](h:cr B w r n)(hL:Sl aI B w A c L)(ht:jZ n t)(hi:0<n.aB.length):Calls nH 251 #[eK r n,wT rt t,.int .i64 0,.slice A L.length c] w fun e w'=>e=.returned (.int .i64 (bears n t 0 (nN L)))/\∃δ,w'=ah w δ:=by
 have hv:=aC.1 ht.1;have hw:=hv.2.2.2.2.1;have h6:=hv.2.2.2.1;have AE:=ht.2.1;have MY:=ht.2.2.1;have HW:=qh hw;have l2:=h.2.2.len;clear hv hw;by_cases h1:1<n.aB.length;case neg=>have HE:=qh (show bears n t 0 (nN L)=0 by have:=HW.out;unfold bears;rw[if_neg nQ,if_neg nQ];rfl);clear h6;go_enter Tryz.func251,Tryz.ntmps251;go_wp2_with fail;go_ret;exact⟨cG HE.out.symm,ag⟩
 case pos=>
  have Qj:0<n.aU.length:=by have:=HW.out;omega
  have hx:=oC ht.1 Qj;have hbd:=GX ht Qj;have kS:0<=Ai (nth n.aU 0) t.aP t.cur:=hbd.1;have fX:Ai (nth n.aU 0) t.aP t.cur<=360:=hbd.2;obtain⟨b,o,hA,hb,k0,k1,k2,k3,k4⟩:=h.2.2.WA Qj;have ib:Lt b w:=⟨nL hb hB.out⟩;simp only[Nat.zero_mul,Nat.add_zero] at k0 k1 k2 k3 k4;have hwi:(0:Int)<(n.aU.length:Int):=nQ;have hE:bears n t 0 (nN L)=if ke L 1=true then Ai (nth n.aU 0) t.aP t.cur+Ai (nth n.aU 0) t.aP t.cur else Ai (nth n.aU 0) t.aP t.cur:=by unfold bears side ld nN;rw[if_neg nQ,if_pos nQ,Int.zero_add,Jt];rfl
  clear hbd;by_cases hin:ke L 1=true;all_goals try rw[Bool.not_eq_true] at hin
  all_goals
   rw[hin] at hE;have HE:=qh hE;clear hE;rw[show eK r n=Value.agg #[.int .i64 n.aP.lo,.int .i64 n.aP.hi,.int .i64 n.cur.lo,.int .i64 n.cur.hi,.slice r.gA n.av.length r.gc,.slice r.aA n.aB.length r.ac,.slice r.wA n.aU.length r.wc] from rfl,hA];clear hA;go_enter Tryz.func251,Tryz.ntmps251;go_wp2_with fail;refine wpRl ?_;repeat (go_big_quiet_step ((first|(go_at_call 271;exact Calls.bV (iT _ _ _ _ nZ nZ nZ)))))
   refine QBU ?_;rintro _ ⟨δq,rfl⟩;go_wp2_with (go_at_call 229;refine(EA A c L 1 B _ hL.up).mono ?_;rintro e w1 ⟨rfl,rfl⟩)
  ·refine wpRl ?_;repeat (go_big_quiet_step ((first|(go_at_call 271;exact Calls.bV (iT _ _ _ _ nZ nZ nZ)))))
   refine QBU ?_;rintro _ ⟨δr,rfl⟩;go_wp2_with fail;go_ret;refine⟨cG ?_,ag⟩;rw[HE.out];simp
  ·go_ret;refine⟨cG ?_,ag⟩;rw[HE.out];simp
theorem NW(r:eS)(n:Net)(rt:pz)(t:jn)(j:Nat)(A:Option Addr)(c:Nat)(L:List Int)(B:Nat)(w:nJ)[hB:Le B w](h:cr B w r n)(hL:Sl aI B w A c L)(ht:jZ n t)(hi:j+1<n.aB.length):Calls nH 251 #[eK r n,wT rt t,.int .i64 (j+1),.slice A L.length c] w fun e w'=>e=.returned (.int .i64 (bears n t (j+1) (nN L)))/\∃δ,w'=ah w δ:=by
 have hv:=aC.1 ht.1;have hw:=hv.2.2.2.2.1;have h6:=hv.2.2.2.1;have AE:=ht.2.1;have MY:=ht.2.2.1;have l2:=h.2.2.len;have hwj:j<n.aU.length:=nQ;have hx:=oC ht.1 hwj;have hbd:=GX ht hwj;have kS:0<=Ai (nth n.aU j) t.aP t.cur:=hbd.1;have fX:Ai (nth n.aU j) t.aP t.cur<=360:=hbd.2;obtain⟨b,o,hA,hb,kk⟩:=h.2.2.aU nQ;obtain⟨k0,k1,k2,k3,k4⟩:=kk j hwj;have ib:Lt b w:=⟨nL hb hB.out⟩;have hwi:(j:Int)<(n.aU.length:Int):=nQ;have hE:bears n t (j+1) (nN L)=(if ke L j=true then Ai (nth n.aU j) t.aP t.cur+Ai (nth n.aU j) t.aP t.cur else Ai (nth n.aU j) t.aP t.cur)+(if j+1<n.aU.length then (if ke L ((j:Int)+1+1)=true then Ai (nth n.aU (j+1)) t.aP t.cur+Ai (nth n.aU (j+1)) t.aP t.cur else Ai (nth n.aU (j+1)) t.aP t.cur) else 0):=by unfold bears side ld;rw[if_pos nQ,Jt,Jt];rfl
 clear hbd hv;by_cases h1:j+1<n.aU.length;case neg=>
  have aaU:¬((j:Int)+1<(n.aB.length:Int)-1):=nQ;rw[if_neg h1,Int.add_zero] at hE;have HW:=qh hw;clear hw h1;by_cases hin:ke L j=true;all_goals try rw[Bool.not_eq_true] at hin
  all_goals
   rw[hin] at hE;have HE:=qh hE;clear hE kk;rw[show eK r n=Value.agg #[.int .i64 n.aP.lo,.int .i64 n.aP.hi,.int .i64 n.cur.lo,.int .i64 n.cur.hi,.slice r.gA n.av.length r.gc,.slice r.aA n.aB.length r.ac,.slice r.wA n.aU.length r.wc] from rfl,hA];clear hA;go_enter Tryz.func251,Tryz.ntmps251;go_wp2_with fail;refine wpRl ?_;repeat (go_big_quiet_step ((first|(go_at_call 271;exact Calls.bV (iT _ _ _ _ nZ nZ nZ)))))
   refine QBU ?_;rintro _ ⟨δq,rfl⟩;go_wp2_with (go_at_call 229;refine(EA A c L j B _ hL.up).mono ?_;rintro e w1 ⟨rfl,rfl⟩)
  ·refine wpRl ?_;repeat (go_big_quiet_step ((first|(go_at_call 271;exact Calls.bV (iT _ _ _ _ nZ nZ nZ)))))
   refine QBU ?_;rintro _ ⟨δr,rfl⟩;go_wp2_with fail;go_ret;refine⟨cG ?_,ag⟩;rw[HE.out];simp
  ·go_ret;refine⟨cG ?_,ag⟩;rw[HE.out];simp
 case pos=>
  have aaU:(j:Int)+1<(n.aB.length:Int)-1:=nQ;have hy:=oC ht.1 h1;have hbd:=GX ht h1;have SA:0<=Ai (nth n.aU (j+1)) t.aP t.cur:=hbd.1;have hb4:Ai (nth n.aU (j+1)) t.aP t.cur<=360:=hbd.2;obtain⟨m0,m1,m2,m3,m4⟩:=kk (j+1) h1;have ah8:(j:Int)+1<(n.aU.length:Int):=nQ;rw[if_pos h1] at hE;have HW:=qh hw;clear hw h1 hbd kk;by_cases hin:ke L j=true<;>by_cases aaY:ke L ((j:Int)+1+1)=true;all_goals try rw[Bool.not_eq_true] at hin
  all_goals try rw[Bool.not_eq_true] at aaY
  all_goals
   rw[hin,aaY] at hE;have HE:=qh hE;clear hE;rw[show eK r n=Value.agg #[.int .i64 n.aP.lo,.int .i64 n.aP.hi,.int .i64 n.cur.lo,.int .i64 n.cur.hi,.slice r.gA n.av.length r.gc,.slice r.aA n.aB.length r.ac,.slice r.wA n.aU.length r.wc] from rfl,hA];clear hA;go_enter Tryz.func251,Tryz.ntmps251;go_wp2_with fail;refine wpRl ?_;repeat (go_big_quiet_step ((first|(go_at_call 271;exact Calls.bV (iT _ _ _ _ nZ nZ nZ)))))
   refine QBU ?_;rintro _ ⟨δq,rfl⟩;go_wp2_with (go_at_call 229;refine(EA A c L _ B _ hL.up).mono ?_;rintro e w1 ⟨rfl,rfl⟩);refine wpRl ?_;repeat (go_big_quiet_step ((first|(go_at_call 271;exact Calls.bV (iT _ _ _ _ nZ nZ nZ)))))
   refine QBU ?_;rintro _ ⟨δr,rfl⟩;go_wp2_with (go_at_call 229;refine(EA A c L _ B _ hL.up).mono ?_;rintro e w1 ⟨rfl,rfl⟩)
  ·refine wpRl ?_;repeat (go_big_quiet_step ((first|(go_at_call 271;exact Calls.bV (iT _ _ _ _ nZ nZ nZ)))))
   refine QBU ?_;rintro _ ⟨δr,rfl⟩;go_wp2_with (go_at_call 229;refine(EA A c L _ B _ hL.up).mono ?_;rintro e w1 ⟨rfl,rfl⟩);refine wpRl ?_;repeat (go_big_quiet_step ((first|(go_at_call 271;exact Calls.bV (iT _ _ _ _ nZ nZ nZ)))))
   refine QBU ?_;rintro _ ⟨δr,rfl⟩;go_wp2_with (go_at_call 229;refine(EA A c L _ B _ hL.up).mono ?_;rintro e w1 ⟨rfl,rfl⟩);go_ret;refine⟨cG ?_,ag⟩;rw[HE.out];simp<;>omega
  ·refine wpRl ?_;repeat (go_big_quiet_step ((first|(go_at_call 271;exact Calls.bV (iT _ _ _ _ nZ nZ nZ)))))
   refine QBU ?_;rintro _ ⟨δr,rfl⟩;go_wp2_with (go_at_call 229;refine(EA A c L _ B _ hL.up).mono ?_;rintro e w1 ⟨rfl,rfl⟩);go_ret;refine⟨cG ?_,ag⟩;rw[HE.out];simp<;>omega
  ·refine wpRl ?_;repeat (go_big_quiet_step ((first|(go_at_call 271;exact Calls.bV (iT _ _ _ _ nZ nZ nZ)))))
   refine QBU ?_;rintro _ ⟨δr,rfl⟩;go_wp2_with (go_at_call 229;refine(EA A c L _ B _ hL.up).mono ?_;rintro e w1 ⟨rfl,rfl⟩);go_ret;refine⟨cG ?_,ag⟩;rw[HE.out];simp<;>omega
  ·go_ret;refine⟨cG ?_,ag⟩;rw[HE.out];simp<;>omega
theorem vA(r:eS)(n:Net)(rt:pz)(t:jn)(i:Nat)(A:Option Addr)(c:Nat)(L:List Int)(B:Nat)(w:nJ)[hB:Le B w](h:cr B w r n)(hL:Sl aI B w A c L)(ht:jZ n t)(hi:i<n.aB.length):Calls nH 251 #[eK r n,wT rt t,.int .i64 i,.slice A L.length c] w fun e w'=>e=.returned (.int .i64 (bears n t i (nN L)))/\∃δ,w'=ah w δ:=by
 cases i with
 |zero=>exact NY r n rt t A c L B w h hL ht hi
 |succ j=>exact NW r n rt t j A c L B w h hL ht hi
theorem D0(r:eS)(n:Net)(rt:pz)(t:jn)(i:Nat)(B:Nat)(w:nJ)[hB:Le B w](h:cr B w r n)(h':sj B w rt t)(ht:jZ n t)(hi:i<n.aB.length):Calls nH 252 #[eK r n,wT rt t,.int .i64 i] w fun e w'=>e=.returned (.int .i64 (can n t i))/\∃δ,w'=ah w δ:=by
 have hcd:=EY ht hi;obtain⟨b,o,hA,hb,k0,k1⟩:=h.2.1.Zm hi;have ib:Lt b w:=⟨nL hb hB.out⟩;obtain⟨b',o',qf,hb',k2⟩:=h'.int hcd.2.2.2.1;refine QFF ?_;intro ib' Jg hi0 hj0 hj1 HC;rw[show eK r n=Value.agg #[.int .i64 n.aP.lo,.int .i64 n.aP.hi,.int .i64 n.cur.lo,.int .i64 n.cur.hi,.slice r.gA n.av.length r.gc,.slice r.aA n.aB.length r.ac,.slice r.wA n.aU.length r.wc] from rfl,hA,show wT rt t=Value.agg #[.int .i64 t.aP,.int .i64 t.cur,.slice rt.tA t.av.length rt.tc] from rfl,qf];clear hcd hA qf;go_enter Tryz.func252,Tryz.ntmps252;go_wp2_with fail;refine wpRl ?_;repeat (go_big_quiet_step ((first|(fail))))
 refine QBU ?_;rintro _ ⟨δ,rfl⟩;go_wp2_with fail;go_ret;refine⟨cG ?_,ag⟩;have HC:=HC.out;have e:2*(nth n.aB i).wt*nth t.av (nth n.aB i).bt.toNat=can n t i:=rfl;rw[Mh (x:=2*(nth n.aB i).wt) nQ,e,Mh (x:=can n t i) nQ]
end
section
open An
def jj(n:Net)(t:jn)(L:List Int)(k:Nat):List Int:=p5 k (rV n t (nN L))
theorem QE{n:Net}{t:jn}{d:Nat->Bool}{i:Nat}(h:d i=true):rV n t d i=true:=by unfold rV;rw[h];rfl
theorem Sg{A:Option Addr}{c:Nat}{L:List Int}{x:Int}{b:Bool}(hb:ke L x=b){B:Nat}{w:nJ}(h:Sl aI B w A c L):Calls nH 229 #[.slice A L.length c,.int .i64 x] w fun e w'=>e=.returned (.bool b)/\w=w':=hb▸EA A c L x B w h
theorem RH(r:eS)(n:Net)(rt:pz)(t:jn)(A:Option Addr)(c:Nat)(L:List Int)(B:Nat)(w:nJ)[hB:Le B w](h:cr B w r n)(h':sj B w rt t)(hL:Sl aI B w A c L)(ht:jZ n t):Calls nH 206 #[eK r n,wT rt t,.slice A L.length c] w fun e w'=>∃(A':Option Addr) (c':Nat) (δ:nJ),e=.returned (.slice A' (jj n t L n.aB.length).length c')/\w'=ah w δ/\Sl aI (ah w δ).heap.size (ah w δ) A' c' (jj n t L n.aB.length):=by
 have h6:=(aC.1 ht.1).2.2.2.1;go_enter Tryz.func206,Tryz.ntmps206;go_wp2_with fail;refine QAP ?_;intro W1 aH cJ dF cW di dz eL nt lC mQ jI nk nj wC;refine QDG ?_;intro xL xK AV;have g1:cr B W1 r n:=h.up;have g2:sj B W1 rt t:=h'.up;have g3:Sl aI B W1 A c L:=hL.up;go_loopw [7,8] (fun o i wr=>∃(k c':Nat) (A':Option Addr) (δ:nJ),k<=n.aB.length/\i=.int .i64 k/\o=.slice A' (jj n t L k).length c'/\wr.ownsRow W1.heap.size 3 1 (.slice A' (jj n t L k).length c') (jj n t L k).length ((jj n t L k).flatMap aI)/\wr=ah W1 δ) (fun _ i _=>n.aB.length-(intOf i).toNat)
 case atStart=>exact⟨0,0,none,W1,nE _,rfl,rfl,World.ownsRow_nil _ _ _ _,(bw W1).symm⟩
 case round=>
  obtain⟨k,c',A',δ,hk,rfl,rfl,hown,rfl⟩:=hrel;have HO:=qh hown;clear hown;by_cases hlt:k<n.aB.length
  ·have hle:(jj n t L k).length<=k:=J5 _ _;have hS:jj n t L (k+1)=jj n t L k++(if rV n t (nN L) k=true then[(k:Int)] else[]):=Gk _ _;have ij:=wJ ht (d:=nN L) hlt;have hcb:=(EY ht hlt).2.2.2.2.2.2;by_cases hin:ke L k=true;case pos=>
    have HS:=qh (show jj n t L (k+1)=jj n t L k++[(k:Int)] by rw[hS,if_pos (QE hin)]);clear hS;go_wp2_with fail;refine wpRl ?_;repeat (go_big_quiet_step ((first|(go_at_call 229;exact Calls.lT (Sg hin g3.up))|(go_at_call 251;exact Calls.bV (vA r n rt t k A c L B _ g1.up g3.up ht hlt))|(go_at_call 252;exact Calls.bV (D0 r n rt t k B _ g1.up g2.up ht hlt)))))
    refine QBU ?_;rintro _ ⟨δq,rfl⟩;go_wp2_with (at_builtin;(refine dL W1 wO (.tmp 31) (.tmp 33) rfl rfl (lJ _ HO.out) rfl rfl nW rfl (by simp[Value.oneCell']) nQ nQ ?_);intro ZK Zh δ' hown');go_roundw
    case rel=>
     have e1:(jj n t L (k+1)).length=(jj n t L k).length+1:=by rw[HS.out];simp
     refine⟨k+1,Zh,ZK,_,nQ,by go_num,by rw[e1],?_,ai⟩;rw[e1,HS.out,List.flatMap_append];exact hown'
    case measure=>simp[intOf];omega
   case neg=>
    rw[Bool.not_eq_true] at hin;by_cases hsp:can n t k<bears n t k (nN L);case pos=>
     have HS:=qh (show jj n t L (k+1)=jj n t L k++[(k:Int)] by rw[hS,if_pos (by unfold rV spare;simp[hlt];omega)]);clear hS;go_wp2_with fail;refine wpRl ?_;repeat (go_big_quiet_step ((first|(go_at_call 229;exact Calls.lT (Sg hin g3.up))|(go_at_call 251;exact Calls.bV (vA r n rt t k A c L B _ g1.up g3.up ht hlt))|(go_at_call 252;exact Calls.bV (D0 r n rt t k B _ g1.up g2.up ht hlt)))))
     refine QBU ?_;rintro _ ⟨δq,rfl⟩;go_wp2_with (at_builtin;(refine dL W1 wO (.tmp 31) (.tmp 33) rfl rfl (lJ _ HO.out) rfl rfl nW rfl (by simp[Value.oneCell']) nQ nQ ?_);intro ZK Zh δ' hown');go_roundw
     case rel=>
      have e1:(jj n t L (k+1)).length=(jj n t L k).length+1:=by rw[HS.out];simp
      refine⟨k+1,Zh,ZK,_,nQ,by go_num,by rw[e1],?_,ai⟩;rw[e1,HS.out,List.flatMap_append];exact hown'
     case measure=>simp[intOf];omega
    case neg=>
     have HS:=qh (show jj n t L (k+1)=jj n t L k by rw[hS,if_neg (by unfold rV spare;simp[nN,hin];omega),List.append_nil]);clear hS;go_wp2_with fail;refine wpRl ?_;repeat (go_big_quiet_step ((first|(go_at_call 229;exact Calls.lT (Sg hin g3.up))|(go_at_call 251;exact Calls.bV (vA r n rt t k A c L B _ g1.up g3.up ht hlt))|(go_at_call 252;exact Calls.bV (D0 r n rt t k B _ g1.up g2.up ht hlt)))))
     refine QBU ?_;rintro _ ⟨δq,rfl⟩;go_wp2_with fail;go_roundw
     case rel=>refine⟨k+1,c',A',_,nQ,by go_num,by rw[HS.out],?_,ai⟩;rw[HS.out];exact lJ _ HO.out
     case measure=>simp[intOf];omega
  ·obtain rfl:k=n.aB.length:=by omega
   go_wp2_with fail;go_ret;exact⟨A',c',_,rfl,ai,JM (Sl.bU HO.out)⟩
end
section
open An
theorem Rx(f:List Int):∀u∈f.flatMap aI,u.oneCell'=true:=by intro u hu;simp[aI] at hu;obtain⟨x,_,rfl⟩:=hu;rfl
def upto(lo:Int)(k:Nat):List Int:=(List.range k).map fun(j:Nat)=>lo+j
theorem tG(lo:Int)(k:Nat):upto lo (k+1)=upto lo k++[lo+k]:=by simp[upto,List.range_succ]
def gV:Nat->List Sp->List Int->List (List Int)
 |0,_,f=>[f]
 |m+1,gs,f=>(upto (nth gs f.length).lo ((nth gs f.length).hi+1-(nth gs f.length).lo).toNat).flatMap fun g=>gV m gs (f++[g])
theorem uR{gs:List Sp}(h:nI gs=true):∀(m:Nat) (f:List Int),f.length+m=gs.length->(gV m gs f).length<=10 ^ m/\0<(gV m gs f).length:=by
 intro m;induction m with
 |zero=>intro f _;simp[gV]
 |succ m ih=>
  intro f hf
  have hs:=(List.all_eq_true.1 h) _ (aR gs (k:=f.length) nQ)
  simp only[jP,decide_eq_true_eq] at hs
  have key:∀k:Nat,(((upto (nth gs f.length).lo k).flatMap fun g=>gV m gs (f++[g])).length<=k*10 ^ m)/\(0<k->0<((upto (nth gs f.length).lo k).flatMap fun g=>gV m gs (f++[g])).length):=by
   intro k;induction k with
   |zero=>simp[upto]
   |succ k ihk=>
    rw[tG,List.flatMap_append,List.length_append]
    have:=ih (f++[(nth gs f.length).lo+k]) (by simp;omega)
    simp only[List.flatMap_cons,List.flatMap_nil,List.append_nil]
    rw[Nat.succ_mul]
    omega
  unfold gV
  have h1:=key ((nth gs f.length).hi+1-(nth gs f.length).lo).toNat
  refine⟨nT h1.1 ?_,h1.2 nQ⟩
  rw[Nat.pow_succ,Nat.mul_comm]
  exact Nat.mul_le_mul_left _ nQ
def DH(w:nJ)(L:List (List Int))(e:Ending)(w':nJ):Prop:=∃(A:Option Addr) (c:Nat) (δ:nJ),e=.returned (.slice A L.length c)/\w'=ah w δ/\wP 3 aI (ah w δ) A c L
theorem SJ(r:eS)(n:Net)(f:List Int)(A:Option Addr)(c:Nat)(B:Nat)(w:nJ)[hB:Le B w](h:cr B w r n)(hf:fN 3 aI w.heap.size w A c f)(hl:f.length=n.av.length):Calls nH 250 #[eK r n,.slice A f.length c] w (DH w (gV 0 n.av f)):=by
 have hE:((f.length:Int)==(n.av.length:Int))=true:=by simp;omega
 have l1:=hf.plain.len;clear hl;go_enter Tryz.func250,Tryz.ntmps250;go_wp2_with fail;go_ret;have hsub:fN 3 aI ((w.alloc (.cells #[.int .i64 n.aP.lo,.int .i64 n.aP.hi,.int .i64 n.cur.lo,.int .i64 n.cur.hi,.slice r.gA n.av.length r.gc,.slice r.aA n.aB.length r.ac,.slice r.wA n.aU.length r.wc] 28)).alloc (.cells #[.slice A f.length c] 35)).heap.size ((w.alloc (.cells #[.int .i64 n.aP.lo,.int .i64 n.aP.hi,.int .i64 n.cur.lo,.int .i64 n.cur.hi,.slice r.gA n.av.length r.gc,.slice r.aA n.aB.length r.ac,.slice r.wA n.aU.length r.wc] 28)).alloc (.cells #[.slice A f.length c] 35)) A c f:=hf.wide;refine⟨some ⟨w.heap.size+1,0,none⟩,1,_,rfl,ai,?_⟩;rw[<-ai (w:=w) (W:=(w.alloc (.cells #[.int .i64 n.aP.lo,.int .i64 n.aP.hi,.int .i64 n.cur.lo,.int .i64 n.cur.hi,.slice r.gA n.av.length r.gc,.slice r.aA n.aB.length r.ac,.slice r.wA n.aU.length r.wc] 28)).alloc (.cells #[.slice A f.length c] 35))];exact⟨nR _,nQ,[.slice A f.length c],oD nW nW,jg.one hsub⟩
def Ma(n:Net)(m:Nat):Prop:=∀(r:eS) (f:List Int) (A:Option Addr) (c:Nat) (B:Nat) (w:nJ),Le B w->cr B w r n->fN 3 aI w.heap.size w A c f->f.length+m=n.av.length->∀ln:Nat,f.length=ln ->
 Calls nH 250 #[eK r n,.slice A ln c] w (DH w (gV m n.av f))
theorem SI(n:Net)(m:Nat)(hg:nI n.av=true)(h3:n.av.length<=3)(IH:Ma n m):Ma n (m+1):=by
 intro r f A c B w hB h hf hfl ln jA;subst jA;have l1:=hf.plain.len;have hlt:f.length<n.av.length:=nQ;have hne:((f.length:Int)==(n.av.length:Int))=false:=by simp;omega
 obtain⟨bs,os,hA,hb,d0,d1⟩:=h.1.sp hlt;have ib:Lt bs w:=⟨nL hb hB.out⟩;have hki:(f.length:Int)<(n.av.length:Int):=nQ;have hk0:¬(f.length:Int)<0:=nQ;have hsp:=(List.all_eq_true.1 hg) _ (aR n.av hlt);simp only[jP,decide_eq_true_eq] at hsp;obtain⟨lo,hlo⟩:∃x,x=(nth n.av f.length).lo:=⟨_,rfl⟩;obtain⟨hi,hhi⟩:∃x,x=(nth n.av f.length).hi:=⟨_,rfl⟩;rw[<-hlo] at hsp d0;rw[<-hhi] at hsp d1;obtain⟨BI,YT⟩:∃x,x=(hi+1-lo).toNat:=⟨_,rfl⟩;have hF:=qh (show gV (m+1) n.av f=(upto lo BI).flatMap fun g=>gV m n.av (f++[g]) by rw[YT,hlo,hhi];rfl);have T8:(BI:Int)=hi+1-lo:=nQ;have HC:=qh T8;have HLO:=qh hlo;have HHI:=qh hhi;have HCN:=qh YT;have DG:=qh hfl;have Ww:=qh IH;have HG:=qh hg;have H:=qh h;have H3:=qh h3;have ahP:BI<=10:=nQ;clear hlo hhi YT T8 hfl IH hg h h3;rw[show eK r n=Value.agg #[.int .i64 n.aP.lo,.int .i64 n.aP.hi,.int .i64 n.cur.lo,.int .i64 n.cur.hi,.slice r.gA n.av.length r.gc,.slice r.aA n.aB.length r.ac,.slice r.wA n.aU.length r.wc] from rfl,hA];have HA:=qh hA;clear hA;go_enter Tryz.func250,Tryz.ntmps250;go_wp2_with fail;rw[<-HA.out];refine QAP ?_;intro W1 aH cJ dF cW di dz eL nt lC mQ jI nk nj wC;have xL:W1.cell? ⟨w.heap.size+1,0,none⟩=some (.int .i64 lo):=by rw[aH.out];go_simp
 have xK:W1.cell? ⟨w.heap.size+1,1,none⟩=some (.int .i64 hi):=by rw[aH.out];go_simp
 have g1:cr B W1 r n:=H.out.up;have g2:fN 3 aI W1.heap.size W1 A c f:=hf.wide;have G1:=qh g1;have G2:=qh g2;clear g1 g2 hf d0 d1;go_loopw [5,7] (fun o g wr=>∃(k c':Nat) (A':Option Addr) (cs:List nK) (L:List (List Int)),k<=BI/\g=.int .i64 (lo+k)/\Hid (L=(upto lo k).flatMap fun g=>gV m n.av (f++[g]))/\L.length<=k*10 ^ m/\o=.slice A' L.length c'/\wr.ownsRow W1.heap.size 35 1 (.slice A' L.length c') L.length cs/\jg 3 aI wr cs L/\aD W1.heap.size W1 wr/\Le W1.heap.size wr) (fun _ g _=>(lo+BI-intOf g).toNat)
 case atStart=>exact⟨0,0,none,[],[],nE _,nV,by simp[upto,Hid],nV,rfl,World.ownsRow_nil _ _ _ _,jg.nil,inferInstance,inferInstance⟩
 case round=>
  obtain⟨k,c',A',cs,L,hk,rfl,hL,hLl,rfl,hown,hsub,i1,i2⟩:=hrel;refine QBM ?_;intro hcell i3;have i4:Lt (w.heap.size+1) wr:=⟨nL eL.out i2.out⟩;refine QBI ?_;intro i5 i6 i7 HO HS;clear hown hsub;by_cases hlt':k<BI
  ·have hle:lo+(k:Int)<=hi:=by have:=HC.out;omega
   have hbd:k*10 ^ m<=100000:=by have:10 ^ m<=10 ^ 2:=Nat.pow_le_pow_right nQ (by have:=DG.out;have:=H3.out;omega);have:=Nat.mul_le_mul (show k<=10 by omega) this;omega
   have VL:=(uR HG.out m (f++[lo+k]) (by have:=DG.out;simp;omega));have YB:10 ^ m<=1000:=by have:10 ^ m<=10 ^ 2:=Nat.pow_le_pow_right nQ (by have:=DG.out;have:=H3.out;omega);omega
   have ahK:f.length<=3:=by have:=DG.out;have:=H3.out;omega
   go_wp2_with fail;go_goals
   go_region_held3 (fun W=>W.cell? ⟨w.heap.size,0,none⟩=some (.int .i64 n.aP.lo)/\W.cell? ⟨w.heap.size,1,none⟩=some (.int .i64 n.aP.hi)/\W.cell? ⟨w.heap.size,2,none⟩=some (.int .i64 n.cur.lo)/\W.cell? ⟨w.heap.size,3,none⟩=some (.int .i64 n.cur.hi) /\
     W.cell? ⟨w.heap.size,4,none⟩=some (.slice r.gA n.av.length r.gc)/\W.cell? ⟨w.heap.size,5,none⟩=some (.slice r.aA n.aB.length r.ac)/\W.cell? ⟨w.heap.size,6,none⟩=some (.slice r.wA n.aU.length r.wc))
    (refine⟨?_,?_,?_,?_,?_,?_,?_⟩<;>go_simp)
    (first|(refine fE wr wO (.tmp 32) (.tmp 33) rfl rfl (v:=.slice (some ⟨_,0,none⟩) 0 0) (by first|exact cB nW nW|exact(cB nW nW).alloc _) rfl (B:=W1.heap.size) (A:=A) (m:=f.length) (c:=c) (news:=f.flatMap aI) rfl (G2.out.up.plain.2.2) (vT f) (Rx f) nQ nQ ?_;intro A1 c1 δ1 eG hg1)|((refine cU wr wO (.tmp 34) (.tmp 36) rfl rfl (v:=.slice A1 f.length c1) (n:=f.length) (xs:=f.flatMap aI) (by first|exact eG|exact eG.alloc _ ) rfl (m:=1) (c:=1) (news:=[.int .i64 (lo+k)]) rfl (oD (by first|(go_simp;done)|(refine hg1.cell nW (by simp[Value.ownBlock]))) (nA _)) rfl (by simp[Value.oneCell']) nQ nQ ?_);intro A2 c2 δ2 gK mu)|(go_at_call 250;refine(Ww.out r (f++[lo+(k:Int)]) A2 c2 B _ inferInstance G1.out.up (fN.bU (by rw[List.flatMap_append];exact gK) nV) (by have:=DG.out;simp;omega) (f.length+1) nV).mono ?_;rintro e w1 ⟨A3,c3,δ3,rfl,rfl,hq1,BE,W8,Qn,hs3⟩)|(refine cU W1 Uv (.tmp 30) (.tmp 38) rfl rfl (v:=.slice A' L.length c') (n:=L.length) (xs:=cs) (bu HO.out) rfl (A:=A3) (m:=(gV m n.av (f++[lo+(k:Int)])).length) (c:=c3) (news:=W8) rfl Qn (by have:=hs3.1;omega) hs3.Ee nQ nQ ?_;intro A4 c4 δ4 Kl KZ))
   all_goals
    go_wp2_with fail;go_roundw
    case rel=>
     refine⟨k+1,c4,A4,cs++W8,L++gV m n.av (f++[lo+(k:Int)]),nQ,?_,?_,?_,by rw[List.length_append],by rw[List.length_append];exact Kl,(HS.out.up.append hs3).grown (bu HO.out) KZ nU,inferInstance,inferInstance⟩
     ·first|(congr 1;omega)|(congr 1;push_cast;omega)
     ·unfold Hid;rw[tG,List.flatMap_append,<-hL.out];simp
     ·rw[List.length_append,Nat.succ_mul];omega
    case measure=>simp[intOf];omega
  ·obtain rfl:k=BI:=by omega
   have hgt:¬lo+(k:Int)<=hi:=by have:=HC.out;omega
   have HF:=qh (show gV (m+1) n.av f=L by rw[hF.out,hL.out]);go_wp2_with fail;go_ret;rw[HF.out];refine QBH ?_;intro i8 i9;refine⟨A',c',wr,rfl,ai,?_⟩;rw[<-ai (w:=w) (W:=wr)];exact wP.bU HO.out HS.out rfl
end
section
open An
theorem Dl(n:Net)(hg:nI n.av=true)(h3:n.av.length<=3):∀m,Ma n m
 |0=>fun r f A c B w hB h hf hl ln jA=>by subst jA;exact SJ r n f A c B w h hf nQ
 |m+1=>SI n m hg h3 (Dl n hg h3 m)
theorem slT:pE nH 268 94 (.agg #[.int .i64 0,.int .i64 0,.slice none 0 0]) 3 40:=pE.mk Tryz.underlying268 nP rfl nQ
instance:Inhabited jn:=⟨⟨0,0,[]⟩⟩
def nq(w:nJ)(cs:List nK)(L:List jn):Prop:=
 cs.length=L.length*3/\∀i,i<L.length->cs[i*3]?=some (.int .i64 (nth L i).aP)/\cs[i*3+1]?=some (.int .i64 (nth L i).cur)/\∃A' c',cs[i*3+2]?=some (.slice A' (nth L i).av.length c')/\fN 3 aI w.heap.size w A' c' (nth L i).av
section
variable{w w':nJ}{cs:List nK}{L:List jn}
theorem nq.nil:nq w [] []:=⟨rfl,fun i h=>absurd h nV⟩
theorem nq.up(h:nq w cs L)[hg:aD w.heap.size w w'][hs:Le w.heap.size w']:nq w' cs L:=
 ⟨h.1,fun i hi=>by obtain⟨a,b,A',c',e,s⟩:=h.2 i hi;exact⟨a,b,A',c',e,s.wide⟩⟩
theorem nq.grown(h:nq w cs L){v:nK}{base:Nat}{e:TypeId}{size n:Nat}{ys:List nK}(hown:w.ownsRow base e size v n ys)(hg:w.grownBy w' v.ownBlock)(hne:e≠3):nq w' cs L:=
 ⟨h.1,fun i hi=>by obtain⟨a,b,A',c',e',s⟩:=h.2 i hi;exact⟨a,b,A',c',e',s.grown hown hg hne⟩⟩
theorem yE{α:Type}[Inhabited α](xs ys:List α){k:Nat}(h:k<xs.length):nth (xs++ys) k=nth xs k:=by rw[bN _ (by simp;omega),bN _ h,List.getElem_append_left h]
theorem yF{α:Type}[Inhabited α](xs:List α)(x:α):nth (xs++[x]) xs.length=x:=by rw[bN _ nV,List.getElem_append_right nQ];simp
theorem nq.snoc(h:nq w cs L){t:jn}{A':Option Addr}{c':Nat}(hs:fN 3 aI w.heap.size w A' c' t.av):nq w (cs++[.int .i64 t.aP,.int .i64 t.cur,.slice A' t.av.length c']) (L++[t]):=by
 refine⟨by simp[h.1];omega,fun i hi=>?_⟩;rw[List.length_append,List.length_singleton] at hi;by_cases hlt:i<L.length
 ·obtain⟨a,b,ZK,Zh,e,s⟩:=h.2 i hlt;rw[yE _ _ hlt];refine⟨?_,?_,ZK,Zh,?_,s⟩
  ·rw[List.getElem?_append_left (by rw[h.1];omega)];exact a
  ·rw[List.getElem?_append_left (by rw[h.1];omega)];exact b
  ·rw[List.getElem?_append_left (by rw[h.1];omega)];exact e
 ·obtain rfl:i=L.length:=by omega
  rw[yF];refine⟨?_,?_,A',c',?_,hs⟩
  ·rw[List.getElem?_append_right (by rw[h.1];omega),h.1,show L.length*3-L.length*3=0 by omega];rfl
  ·rw[List.getElem?_append_right (by rw[h.1];omega),h.1,show L.length*3+1-L.length*3=1 by omega];rfl
  ·rw[List.getElem?_append_right (by rw[h.1];omega),h.1,show L.length*3+2-L.length*3=2 by omega];rfl
end
def uw(w:nJ)(A:Option Addr)(c:Nat)(L:List jn):Prop:=L.length<=c/\c<=9223372036854775807/\∃cs,Cells w w.heap.size A cs/\nq w cs L
section
variable{w w':nJ}{A:Option Addr}{c:Nat}{L:List jn}
theorem uw.at_(h:uw w A c L){k:Nat}(hk:k<L.length):∃b o A' c',A=some ⟨b,o,none⟩/\b<w.heap.size/\w.cell? ⟨b,o+k*3,none⟩=some (.int .i64 (nth L k).aP)/\w.cell? ⟨b,o+k*3+1,none⟩=some (.int .i64 (nth L k).cur)/\w.cell? ⟨b,o+k*3+2,none⟩=some (.slice A' (nth L k).av.length c')/\Sl aI w.heap.size w A' c' (nth L k).av:=by obtain⟨h1,h2,cs,h3,h4,h5⟩:=h;obtain⟨a,b',A',c',e,s⟩:=h5 k hk;obtain⟨b,o,hA,hb,hc⟩:=h3 (by rintro rfl;simp at e);exact⟨b,o,A',c',hA,hb,hc _ _ a,by have:=hc _ _ b';rwa [<-Nat.add_assoc] at this,by have:=hc _ _ e;rwa [<-Nat.add_assoc] at this,s.plain⟩
theorem uw.bU{base:Nat}{e:TypeId}{n:Nat}{cs:List nK}(h:w.ownsRow base e 3 (.slice A n c) n cs)(hs:nq w cs L)(hn:L.length=n):uw w A c L:=by
 refine⟨?_,?_,cs,Cells.bU h,hs⟩
 ·rcases h.2 with⟨hv,h0⟩|⟨g,cap,cur,hv,_,hh,hnc,_⟩
  ·omega
  ·injection hv with _ _ hc;omega
 ·rcases h.2 with⟨hv,h0⟩|⟨g,cap,cur,hv,_,hh,hnc,hm,_⟩
  ·injection hv with _ _ hc;omega
  ·injection hv with _ _ hc;unfold maxLen at hm;omega
end
def AI(n:Net):List (List Int):=gV n.av.length n.av []
def BU(w c:Int)(ls:List (List Int)):List jn:=ls.map fun l=>⟨w,c,l⟩
def zq(w:Int)(cs:List Int)(ls:List (List Int)):List jn:=cs.flatMap fun c=>BU w c ls
def zo(ws cs:List Int)(ls:List (List Int)):List jn:=ws.flatMap fun w=>zq w cs ls
def FT(s:Sp):List Int:=upto s.lo (s.hi+1-s.lo).toNat
def bK(n:Net):List jn:=zo (FT n.aP) (FT n.cur) (AI n)
theorem wP.Zo{α:Type}[Inhabited α]{enc:α->List nK}{T:TypeId}{w:nJ}{A:Option Addr}{c:Nat}{xss:List (List α)}(h:wP T enc w A c xss)(h0:0<xss.length):∃b o,A=some ⟨b,o,none⟩/\b<w.heap.size/\∀k,k<xss.length->∃A' c',w.cell? ⟨b,o+k,none⟩=some (.slice A' (nth xss k).length c')/\fN T enc w.heap.size w A' c' (nth xss k):=by obtain⟨b,o,_,_,hA,hb,_⟩:=h.at_ h0;refine⟨b,o,hA,hb,fun k hk=>?_⟩;obtain⟨b',o',A',c',qf,_,e,s⟩:=h.at_ hk;rw[hA] at qf;injection qf with q;injection q with q1 q2;subst q1 q2;rw[bN _ hk];exact⟨A',c',e,s⟩
theorem FB(w c:Int)(ls:List (List Int)):(BU w c ls).length=ls.length:=by simp[BU]
theorem Ns(w c:Int)(ls:List (List Int)){k:Nat}(h:k<ls.length):BU w c (ls.take (k+1))=BU w c (ls.take k)++[⟨w,c,nth ls k⟩]:=by rw[bz ls h];simp[BU]
theorem Cj(w lo:Int)(k:Nat)(ls:List (List Int)):zq w (upto lo (k+1)) ls=zq w (upto lo k) ls++BU w (lo+k) ls:=by rw[tG];simp[zq]
theorem FC(w lo:Int)(k:Nat)(ls:List (List Int)):(zq w (upto lo k) ls).length=k*ls.length:=by
 induction k with
 |zero=>simp[zq,upto]
 |succ k ih=>rw[Cj,List.length_append,ih,FB,Nat.succ_mul]
theorem Ci(lo clo:Int)(k ck:Nat)(ls:List (List Int)):zo (upto lo (k+1)) (upto clo ck) ls=zo (upto lo k) (upto clo ck) ls++zq (lo+k) (upto clo ck) ls:=by rw[tG lo k];simp[zo]
theorem FA(lo clo:Int)(k ck:Nat)(ls:List (List Int)):(zo (upto lo k) (upto clo ck) ls).length=k*(ck*ls.length):=by
 induction k with
 |zero=>simp[zo,upto]
 |succ k ih=>rw[Ci,List.length_append,ih,FC,Nat.succ_mul]
def Bm(w:nJ)(n:Net)(e:Ending)(w':nJ):Prop:=∃(A:Option Addr) (c:Nat) (δ:nJ),e=.returned (.slice A (bK n).length c)/\w'=ah w δ/\uw (ah w δ) A c (bK n)
theorem Fz(r:eS)(n:Net)(B:Nat)(w:nJ)[hB:Le B w](h:cr B w r n)(hv:valid n=true):Calls nH 205 #[eK r n] w (Bm w n):=by
 have v1:=(aC.1 hv).1;have v2:=(aC.1 hv).2.1;have v3:=(aC.1 hv).2.2.1;have v6:=(aC.1 hv).2.2.2.2.2.1;have HGR:=qh (Dl n v6 v3 n.av.length);have VL:=uR v6 n.av.length [] nV;have YB:10 ^ n.av.length<=10 ^ 3:=Nat.pow_le_pow_right nQ v3;simp only[jP,decide_eq_true_eq] at v1 v2;obtain⟨LS,hLS⟩:∃x,x=gV n.av.length n.av []:=⟨_,rfl⟩;rw[<-hLS] at VL;have hLl:LS.length<=1000:=nQ;have hL0:=VL.2;obtain⟨kw,hkw⟩:∃x,x=(n.aP.hi+1-n.aP.lo).toNat:=⟨_,rfl⟩;obtain⟨kc,hkc⟩:∃x,x=(n.cur.hi+1-n.cur.lo).toNat:=⟨_,rfl⟩;have aaW:(kw:Int)=n.aP.hi+1-n.aP.lo:=nQ;have aaX:(kc:Int)=n.cur.hi+1-n.cur.lo:=nQ;have kS:kw<=21:=nQ;have fX:kc<=21:=nQ;have HF:=qh (show bK n=zo (upto n.aP.lo kw) (upto n.cur.lo kc) LS by rw[hLS,hkw,hkc];rfl);have HLS:=qh hLS;have HW:=qh aaW;have HC:=qh aaX;clear hLS hkw hkc aaW aaX VL YB v6;go_enter Tryz.func205,Tryz.ntmps205;have hc:=HGR.out r [] none 0 B (w.alloc (.cells #[.int .i64 n.aP.lo,.int .i64 n.aP.hi,.int .i64 n.cur.lo,.int .i64 n.cur.hi,.slice r.gA n.av.length r.gc,.slice r.aA n.aB.length r.ac,.slice r.wA n.aU.length r.wc] 28)) inferInstance h.up fN.none_ nV 0 rfl;rw[<-HLS.out] at hc;have HCC:=qh hc;clear hc;go_wp2_with fail;refine HCC.out.mono ?_;rintro e w1 ⟨Al,cl,δ,rfl,rfl,Jh⟩;go_wp2_with fail;refine QCL ?_;intro W1 aH cJ dF cW di dz uu nt lC mQ;have Ji:wP 3 aI W1 Al cl LS:=by rw[aH.out];exact Jh
 obtain⟨bl,ol,rfl,Qp,Je⟩:=Ji.Zo hL0;have il:Lt bl W1:=⟨Qp⟩;have HK:=qh Je;clear Ji Jh Je;go_loopw [3,5] (fun o g wr=>∃(k c':Nat) (A':Option Addr) (cs:List nK) (L:List jn),k<=kw/\g=.int .i64 (n.aP.lo+k)/\Hid (L=zo (upto n.aP.lo k) (upto n.cur.lo kc) LS)/\o=.slice A' L.length c'/\wr.ownsRow W1.heap.size 94 3 (.slice A' L.length c') L.length cs/\nq wr cs L/\aD W1.heap.size W1 wr/\Le W1.heap.size wr) (fun _ g _=>(n.aP.lo+kw-intOf g).toNat)
 case atStart=>exact⟨0,0,none,[],[],nE _,nV,by simp[upto,zo,Hid],rfl,World.ownsRow_nil _ _ _ _,nq.nil,inferInstance,inferInstance⟩
 case round=>
  obtain⟨k,c',A',cs,L,hk,rfl,hL,rfl,hown,hsub,i1,i2⟩:=hrel;refine QBM ?_;intro hcell i3;have HO:=qh hown;have HS:=qh hsub;clear hown hsub;by_cases hlt:k<kw
  ·have hle:n.aP.lo+(k:Int)<=n.aP.hi:=by have:=HW.out;omega
   go_wp2_with fail;go_loopw [3,6] (fun o g wr=>∃(k2 c':Nat) (A':Option Addr) (cs:List nK) (L2:List jn),k2<=kc/\g=.int .i64 (n.cur.lo+k2)/\Hid (L2=L++zq (n.aP.lo+k) (upto n.cur.lo k2) LS)/\o=.slice A' L2.length c'/\wr.ownsRow W1.heap.size 94 3 (.slice A' L2.length c') L2.length cs/\nq wr cs L2/\aD W1.heap.size W1 wr/\Le W1.heap.size wr) (fun _ g _=>(n.cur.lo+kc-intOf g).toNat)
   case atStart=>exact⟨0,c',A',cs,L,nE _,nV,by simp[upto,zq,Hid],rfl,HO.out,HS.out,i1,i2⟩
   case round=>
    clear HO HS hcell i1 i2 i3;obtain⟨k2,c',A',cs,L2,hk2,rfl,hL2,rfl,hown,hsub,i1,i2⟩:=hrel;refine QBM ?_;intro hcell i3;have HO:=qh hown;have HS:=qh hsub;clear hown hsub;by_cases hlt2:k2<kc
    ·have ahr:n.cur.lo+(k2:Int)<=n.cur.hi:=by have:=HC.out;omega
     go_wp2_with fail;go_loopw [3,7] (fun o g wr=>∃(k3 c':Nat) (A':Option Addr) (cs:List nK) (L3:List jn),k3<=LS.length/\g=.int .i64 k3/\Hid (L3=L2++BU (n.aP.lo+k) (n.cur.lo+k2) (LS.take k3))/\o=.slice A' L3.length c'/\wr.ownsRow W1.heap.size 94 3 (.slice A' L3.length c') L3.length cs/\nq wr cs L3/\aD W1.heap.size W1 wr/\Le W1.heap.size wr) (fun _ g _=>(LS.length-intOf g).toNat)
     case atStart=>exact⟨0,c',A',cs,L2,nE _,nV,by simp[BU,Hid],rfl,HO.out,HS.out,i1,i2⟩
     case round=>
      clear HO HS hcell i1 i2 i3;obtain⟨k3,c',A',cs,L3,sx,rfl,hL3,rfl,hown,hsub,i1,i2⟩:=hrel;refine QBM ?_;intro hcell i3;have i4:Lt bl wr:=⟨nL Qp i2.out⟩;have HO:=qh hown;have HS:=qh hsub;clear hown hsub;by_cases aaQ:k3<LS.length
      ·obtain⟨A3,c3,Qn,hs3⟩:=HK.out k3 aaQ;have hki:(k3:Int)<(LS.length:Int):=nQ;have hk0:¬(k3:Int)<0:=nQ;have hbig:L3.length<=900000:=by rw[hL3.out,hL2.out,hL.out,List.length_append,List.length_append,FA,FC,FB,List.length_take];have q1:=Nat.mul_le_mul fX hLl;have q2:=Nat.mul_le_mul (show k<=21 by omega) q1;have q3:=Nat.mul_le_mul (show k2<=21 by omega) hLl;omega
       go_wp2_with (at_builtin;(refine bP W1 slT (.tmp 36) (.tmp 44) rfl rfl (v:=.slice A' L3.length c') (n:=L3.length) (xs:=cs) HO.out rfl rfl nW rfl (by simp[Value.oneCell']) nQ nQ ?_);intro A4 c4 δ4 Kl KZ);go_roundw
       case rel=>refine⟨k3+1,c4,A4,_,L3++[⟨n.aP.lo+k,n.cur.lo+k2,nth LS k3⟩],nQ,by go_num,?_,by rw[List.length_append];rfl,by rw[List.length_append];exact Kl,((HS.out.up (w':=wr.alloc (.cells #[.int .i64 (n.aP.lo+k),.int .i64 (n.cur.lo+k2),.slice A3 (nth LS k3).length c3] 94))).snoc (t:=⟨n.aP.lo+k,n.cur.lo+k2,nth LS k3⟩) hs3.wide).grown (HO.out.alloc _) KZ nU,inferInstance,inferInstance⟩;unfold Hid;rw[Ns _ _ _ aaQ,<-List.append_assoc,<-hL3.out]
       case measure=>simp[intOf];omega
      ·obtain rfl:k3=LS.length:=by omega
       have HQ:=qh (show L3=L++zq (n.aP.lo+k) (upto n.cur.lo (k2+1)) LS by rw[hL3.out,List.take_length,hL2.out,Cj,List.append_assoc]);go_wp2_with fail;go_roundw
       case rel=>refine⟨k2+1,c',A',cs,L3,nQ,?_,HQ.out,rfl,HO.out,HS.out,i1,i2⟩;first|(congr 1;omega)|(congr 1;push_cast;omega)
       case measure=>simp[intOf];omega
    ·obtain rfl:k2=kc:=by omega
     have ahF:¬n.cur.lo+(k2:Int)<=n.cur.hi:=by have:=HC.out;omega
     have HQ:=qh (show L2=zo (upto n.aP.lo (k+1)) (upto n.cur.lo k2) LS by rw[hL2.out,hL.out,Ci]);go_wp2_with fail;go_roundw
     case rel=>refine⟨k+1,c',A',cs,L2,nQ,?_,HQ.out,rfl,HO.out,HS.out,i1,i2⟩;first|(congr 1;omega)|(congr 1;push_cast;omega)
     case measure=>simp[intOf];omega
  ·obtain rfl:k=kw:=by omega
   have hgt:¬n.aP.lo+(k:Int)<=n.aP.hi:=by have:=HW.out;omega
   have HQ:=qh (show bK n=L by rw[HF.out,hL.out]);go_wp2_with fail;go_ret;rw[Bm,HQ.out];refine QBH ?_;intro i8 i9;refine⟨A',c',wr,rfl,ai,?_⟩;rw[<-ai (w:=w) (W:=wr)];exact uw.bU HO.out HS.out rfl
end
section
open An
theorem Af{lo x:Int}{k:Nat}:x∈upto lo k↔lo<=x/\x<lo+k:=by
 unfold upto;simp only[List.mem_map,List.mem_range];constructor
 ·rintro⟨j,hj,rfl⟩;omega
 ·intro h;exact⟨(x-lo).toNat,nQ,nQ⟩
theorem ON{s:Sp}{x:Int}:x∈FT s↔sS s x=true:=by unfold FT sS;rw[Af,cX];omega
theorem KI{gs:List Sp}:∀(m:Nat) (f l:List Int),f.length+m=gs.length->(l∈gV m gs f↔l.length=gs.length/\l.take f.length=f/\∀i,f.length<=i->i<gs.length->sS (nth gs i) (nth l i)=true):=by
 intro m;induction m with
 |zero=>
  intro f l hf
  unfold gV
  rw[List.mem_singleton]
  constructor
  ·rintro rfl;exact⟨nQ,List.take_length,fun i h1 h2=>by omega⟩
  ·rintro⟨h1,h2,_⟩;rw[List.take_of_length_le nQ] at h2;exact h2
 |succ m ih=>
  intro f l hf
  unfold gV
  rw[List.mem_flatMap]
  constructor
  ·rintro⟨g,hg,hl⟩;rw[ih _ _ (by simp;omega)] at hl;obtain⟨h1,h2,h3⟩:=hl;rw[Af] at hg;have hlen:f.length<l.length:=nQ;rw[List.length_append,List.length_singleton] at h2 h3;rw[bz l hlen] at h2;have h4:=List.append_inj h2 (by rw[List.length_take];omega);refine⟨h1,h4.1,fun i hi1 hi2=>?_⟩;by_cases hif:i=f.length
   ·subst hif;have h5:=h4.2;simp only[List.cons.injEq,and_true] at h5;rw[h5,sS,cX];omega
   ·exact h3 i nQ hi2
  ·rintro⟨h1,h2,h3⟩;have hlen:f.length<l.length:=nQ;refine⟨nth l f.length,?_,?_⟩
   ·have:=h3 f.length (nR _) nQ;rw[sS,cX] at this;rw[Af];omega
   ·rw[ih _ _ (by simp;omega)];refine⟨h1,?_,fun i hi1 hi2=>h3 i (by simp at hi1;omega) hi2⟩;rw[List.length_append,List.length_singleton,bz l hlen,h2]
theorem iu{n:Net}{t:jn}:t∈bK n↔uB n t=true:=by
 unfold bK zo zq BU;simp only[List.mem_flatMap,List.mem_map,ON];have ZS:∀l,l∈AI n↔l.length=n.av.length/\rC n.av l l.length=true:=by
  intro l;unfold AI;rw[KI _ _ _ nV];simp only[List.length_nil,List.take_zero,true_and,nE,forall_const];constructor
  ·rintro⟨h1,h2⟩;refine⟨h1,?_⟩;unfold rC;rw[List.all_eq_true];intro i hi;exact h2 i (by rw[<-h1];simpa using hi)
  ·rintro⟨h1,h2⟩;exact⟨h1,fun i hi=>rB h2 nQ⟩
 constructor
 ·rintro⟨w,hw,c,hc,l,hl,rfl⟩;rw[ZS] at hl;simp only[uB,hw,hc,hl.1,decide_true,Bool.and_self];rw[<-hl.1,hl.2];rfl
 ·intro h;simp only[uB,Bool.and_eq_true,decide_eq_true_eq] at h;exact⟨t.aP,h.1.1.1,t.cur,h.1.1.2,t.av,(ZS _).2 ⟨h.1.2,h.2⟩,rfl⟩
def calm(n:Net)(t:jn):Bool:=decide ((jj n t [] n.aB.length).length=0)
def kB(n:Net)(k:Nat):Nat:=(((bK n).take k).filter (calm n)).length
def kD(n:Net):Nat:=((bK n).filter (calm n)).length
theorem xR{n:Net}(hv:valid n=true):(bK n).length<=441000:=by
 have v1:=(aC.1 hv).1;have v2:=(aC.1 hv).2.1;have v3:=(aC.1 hv).2.2.1;have v6:=(aC.1 hv).2.2.2.2.2.1;have VL:=(uR v6 n.av.length [] nV).1;have YB:10 ^ n.av.length<=10 ^ 3:=Nat.pow_le_pow_right nQ v3;simp only[jP,decide_eq_true_eq] at v1 v2;unfold bK FT;rw[FA];have h1:(AI n).length<=1000:=by unfold AI;omega
 have q1:=Nat.mul_le_mul (show(n.cur.hi+1-n.cur.lo).toNat<=21 by omega) h1;have q2:=Nat.mul_le_mul (show(n.aP.hi+1-n.aP.lo).toNat<=21 by omega) q1;omega
theorem D8(r:eS)(n:Net)(B:Nat)(w:nJ)[hB:Le B w](h:cr B w r n)(hv:valid n=true):Calls nH 147 #[eK r n] w fun e w'=>e=.returned (.tuple #[.int .i64 (kD n),.int .i64 (bK n).length])/\∃δ,w'=ah w δ:=by
 have hlen:=xR hv;have HV:=qh hv;clear hv;go_enter Tryz.func147,Tryz.ntmps147;go_wp2_with (go_at_call 205;refine(Fz r n B _ h.up HV.out).mono ?_;rintro e w1 ⟨Al,cl,δ,rfl,rfl,Jh⟩);refine QAL ?_;intro W1 aH cJ dF cW di dz uu nt lC mQ jI nk nj;have Ji:uw W1 Al cl (bK n):=by rw[aH.out];exact Jh
 have HS:=qh Ji;have g1:cr B W1 r n:=h.up;clear Ji Jh;go_loopw [2,5] (fun s i wr=>∃(k:Nat) (δ:nJ),k<=(bK n).length/\i=.int .i64 k/\s=.int .i64 (kB n k)/\wr=ah W1 δ) (fun _ i _=>(bK n).length-(intOf i).toNat)
 case atStart=>exact⟨0,W1,nE _,rfl,rfl,(bw W1).symm⟩
 case round=>
  obtain⟨k,δ,hk,rfl,rfl,rfl⟩:=hrel;by_cases hlt:k<(bK n).length
  ·obtain⟨b,o,A',c',hA,hb,d0,d1,d2,T6⟩:=HS.out.at_ hlt;have ib:Lt b W1:=⟨hb⟩;rw[hA];clear hA;have Ja:uB n (nth (bK n) k)=true:=iu.1 (aR _ hlt);have hok:=GF HV.out Ja;have hq:kB n k<=k:=by unfold kB;have:=List.length_filter_le (calm n) ((bK n).take k);rw[List.length_take] at this;omega
   have hki:(k:Int)<((bK n).length:Int):=nQ;have hk0:¬(k:Int)<0:=nQ;have Cc:Hid (kB n (k+1)=kB n k+if calm n (nth (bK n) k)=true then 1 else 0):=by unfold Hid kB;rw[bz _ hlt,List.filter_append,List.length_append];congr 1;by_cases hc:calm n (nth (bK n) k)=true<;>simp[hc]
   by_cases hc:(jj n (nth (bK n) k) [] n.aB.length).length=0;all_goals have Qo:=hc
   ·have HN:=qh (show kB n (k+1)=kB n k+1 by rw[Cc.out,if_pos (by simp[calm,hc])]);have HZ:=qh hc;have hz:(((jj n (nth (bK n) k) [] n.aB.length).length:Int)==0)=true:=by rw[Zl,decide_eq_true_eq];exact hc
    clear hc Qo Ja;go_wp2_with fail;go_region_held3 (fun W=>W.cell? ⟨w.heap.size,0,none⟩=some (.int .i64 n.aP.lo)/\W.cell? ⟨w.heap.size,1,none⟩=some (.int .i64 n.aP.hi)/\W.cell? ⟨w.heap.size,2,none⟩=some (.int .i64 n.cur.lo)/\W.cell? ⟨w.heap.size,3,none⟩=some (.int .i64 n.cur.hi) /\
      W.cell? ⟨w.heap.size,4,none⟩=some (.slice r.gA n.av.length r.gc)/\W.cell? ⟨w.heap.size,5,none⟩=some (.slice r.aA n.aB.length r.ac)/\W.cell? ⟨w.heap.size,6,none⟩=some (.slice r.wA n.aU.length r.wc) /\
      W.cell? ⟨b,o+k*3,none⟩=some (.int .i64 (nth (bK n) k).aP)/\W.cell? ⟨b,o+k*3+1,none⟩=some (.int .i64 (nth (bK n) k).cur)/\W.cell? ⟨b,o+k*3+2,none⟩=some (.slice A' (nth (bK n) k).av.length c'))
     (refine⟨?_,?_,?_,?_,?_,?_,?_,?_,?_,?_⟩<;>go_simp)
     (first|(go_at_call 206;refine(RH r n ⟨A',c'⟩ (nth (bK n) k) none 0 [] _ _ g1.wide T6.wide Sl.none_ hok).mono ?_;rintro e w1 ⟨A2,c2,δ2,rfl,rfl,_⟩))
    go_wp2_with fail;go_roundw
    case rel=>exact⟨k+1,_,nQ,by go_num,by rw[HN.out];go_num,ai⟩
    case measure=>simp[intOf];omega
   ·have HN:=qh (show kB n (k+1)=kB n k by rw[Cc.out,if_neg (by simp[calm,hc]),Nat.add_zero]);have hz:(((jj n (nth (bK n) k) [] n.aB.length).length:Int)==0)=false:=by rw[Zl,decide_eq_false_iff_not];exact hc
    clear hc Qo Ja;go_wp2_with fail;go_region_held3 (fun W=>W.cell? ⟨w.heap.size,0,none⟩=some (.int .i64 n.aP.lo)/\W.cell? ⟨w.heap.size,1,none⟩=some (.int .i64 n.aP.hi)/\W.cell? ⟨w.heap.size,2,none⟩=some (.int .i64 n.cur.lo)/\W.cell? ⟨w.heap.size,3,none⟩=some (.int .i64 n.cur.hi) /\
      W.cell? ⟨w.heap.size,4,none⟩=some (.slice r.gA n.av.length r.gc)/\W.cell? ⟨w.heap.size,5,none⟩=some (.slice r.aA n.aB.length r.ac)/\W.cell? ⟨w.heap.size,6,none⟩=some (.slice r.wA n.aU.length r.wc) /\
      W.cell? ⟨b,o+k*3,none⟩=some (.int .i64 (nth (bK n) k).aP)/\W.cell? ⟨b,o+k*3+1,none⟩=some (.int .i64 (nth (bK n) k).cur)/\W.cell? ⟨b,o+k*3+2,none⟩=some (.slice A' (nth (bK n) k).av.length c'))
     (refine⟨?_,?_,?_,?_,?_,?_,?_,?_,?_,?_⟩<;>go_simp)
     (first|(go_at_call 206;refine(RH r n ⟨A',c'⟩ (nth (bK n) k) none 0 [] _ _ g1.wide T6.wide Sl.none_ hok).mono ?_;rintro e w1 ⟨A2,c2,δ2,rfl,rfl,_⟩))
    go_wp2_with fail;go_roundw
    case rel=>exact⟨k+1,_,nQ,by go_num,by rw[HN.out],ai⟩
    case measure=>simp[intOf];omega
  ·obtain rfl:k=(bK n).length:=by omega
   have HQ:=qh (show kB n (bK n).length=kD n by unfold kB kD;rw[List.take_length]);go_wp2_with fail;go_ret2;exact⟨Q0 (int_eq (by rw[HQ.out])) rfl,ag⟩
end
end Go.Proofs.YtpnnapeoanafdaaGreatDoor
