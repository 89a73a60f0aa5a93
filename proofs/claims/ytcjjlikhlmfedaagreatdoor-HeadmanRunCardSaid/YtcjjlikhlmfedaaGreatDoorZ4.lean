/- A part of the proof that the statement HeadmanRunCardSaid holds, cut small by a program (names and blanks): Ha3. -/
import Derived.Test.YtcjjlikhlmfedaaGreatDoorZ3
set_option maxRecDepth 100000
set_option maxHeartbeats 40000000
set_option linter.unusedVariables false
set_option linter.unusedSimpArgs false
namespace Go.Proofs.YtcjjlikhlmfedaaGreatDoor
open Go.RowKit
open Nat renaming le_trans → nT, lt_of_lt_of_le → nL, le_refl → nR, zero_le → nE, lt_succ_self → nA
open Go.Proofs.Tryz renaming prog → nH
open Go renaming World → nJ, Value → nK
section
open An
theorem gR(x:EX)(wi cu:Int)(w:nJ)(hx:oZ x=true)(hw:fj 0 20 wi=true)(hc:fj 0 20 cu=true):Calls nH 280 #[.agg #[.int .i64 x.uJ,.int .i64 x.vj,.int .i64 x.lean,.int .i64 x.vP,.int .i64 x.qB],.int .i64 wi,.int .i64 cu] w fun e w'=>e=.returned (.int .i64 (xK x wi cu))/\∃δ,w'=af w δ:=by have hb:=qh (GC hx hw hc);clear hx hw hc;go_enter Tryz.func280,Tryz.ntmps280;go_wp2;go_ret;refine⟨cB ?_,ag⟩;have hb:=hb.out;rw[IA (x:=x.uJ*wi) nQ,IA (x:=x.vj*cu) nQ,IA nQ];rfl
def lY(L:List Int)(k:Nat):Bool:=jr L (k:Int)
theorem Sl.aQ{B:Nat}{w:nJ}{A:Option Addr}{c:Nat}{xs:List EX}(h:Sl eY B w A c xs)(h0:0<xs.length):∃b o,A=some ⟨b,o,none⟩/\b<B/\∀k,k<xs.length->w.cell? ⟨b,o+k*5,none⟩=some (.int .i64 (nth xs k).uJ)/\w.cell? ⟨b,o+k*5+1,none⟩=some (.int .i64 (nth xs k).vj)/\w.cell? ⟨b,o+k*5+2,none⟩=some (.int .i64 (nth xs k).lean)/\w.cell? ⟨b,o+k*5+3,none⟩=some (.int .i64 (nth xs k).vP)/\w.cell? ⟨b,o+k*5+4,none⟩=some (.int .i64 (nth xs k).qB):=by obtain⟨b,o,hA,hb,_⟩:=h.RR h0;refine⟨b,o,hA,hb,fun k hk=>?_⟩;obtain⟨b',o',oH,_,r⟩:=h.RR hk;rw[hA] at oH;injection oH with e;injection e with e1 e2;subst e1 e2;exact r
theorem Ff(x:Int)(b:Bool):x*(if b=true then 2 else 1)=if b=true then x+x else x:=by cases b<;>simp<;>omega
theorem JX(r:eD)(n:Net)(rt:nu)(t:iD)(A:Option Addr)(c:Nat)(L:List Int)(B:Nat)(w:nJ)[hB:Le B w](h:cj B w r n)(hL:Sl aH B w A c L)(ht:jn n t)(hi:0<n.ay.length):Calls nH 269 #[ew r n,uH rt t,.int .i64 0,.slice A L.length c] w fun e w'=>e=.returned (.int .i64 (bears n t 0 (lY L)))/\∃δ,w'=af w δ:=by
 have hv:=az.1 ht.1;have hw:=hv.2.2.2.2.1;have h6:=hv.2.2.2.1;have xX:=ht.2.1;have Ji:=ht.2.2.1;have HW:=qh hw;have l2:=h.2.2.len;clear hv hw;by_cases h1:1<n.ay.length;case neg=>have HE:=qh (show bears n t 0 (lY L)=0 by have:=HW.out;unfold bears;rw[if_neg nQ,if_neg nQ];rfl);clear h6;go_enter Tryz.func269,Tryz.ntmps269;go_wp2_with fail;go_ret;exact⟨cB HE.out.symm,ag⟩
 case pos=>
  have QM:0<n.aQ.length:=by have:=HW.out;omega
  have hx:=mE ht.1 QM;have hbd:=DA ht QM;have ku:0<=xK (nth n.aQ 0) t.aN t.cur:=hbd.1;have gi:xK (nth n.aQ 0) t.aN t.cur<=360:=hbd.2;obtain⟨b,o,hA,hb,k0,k1,k2,k3,k4⟩:=h.2.2.RR QM;have ib:Lt b w:=⟨nL hb hB.out⟩;simp only[Nat.zero_mul,Nat.add_zero] at k0 k1 k2 k3 k4;have hwi:(0:Int)<(n.aQ.length:Int):=nQ;have hE:bears n t 0 (lY L)=if jr L 1=true then xK (nth n.aQ 0) t.aN t.cur+xK (nth n.aQ 0) t.aN t.cur else xK (nth n.aQ 0) t.aN t.cur:=by unfold bears side ld lY;rw[if_neg nQ,if_pos nQ,Int.zero_add,Ff];rfl
  clear hbd;by_cases hin:jr L 1=true;all_goals try rw[Bool.not_eq_true] at hin
  all_goals
   rw[hin] at hE;have HE:=qh hE;clear hE;rw[show ew r n=Value.agg #[.int .i64 n.aN.lo,.int .i64 n.aN.hi,.int .i64 n.cur.lo,.int .i64 n.cur.hi,.slice r.gA n.au.length r.gc,.slice r.aA n.ay.length r.ac,.slice r.wA n.aQ.length r.wc] from rfl,hA];clear hA;go_enter Tryz.func269,Tryz.ntmps269;go_wp2_with fail;refine wpRl ?_;repeat (go_big_quiet_step ((first|(go_at_call 280;exact Calls.bU (gR _ _ _ _ nZ nZ nZ)))))
   refine QBY ?_;rintro _ ⟨δq,rfl⟩;go_wp2_with (go_at_call 153;refine(Bx A c L 1 B _ hL.up).mono ?_;rintro e w1 ⟨rfl,rfl⟩)
  ·refine wpRl ?_;repeat (go_big_quiet_step ((first|(go_at_call 280;exact Calls.bU (gR _ _ _ _ nZ nZ nZ)))))
   refine QBY ?_;rintro _ ⟨δr,rfl⟩;go_wp2_with fail;go_ret;refine⟨cB ?_,ag⟩;rw[HE.out];simp
  ·go_ret;refine⟨cB ?_,ag⟩;rw[HE.out];simp
theorem JW(r:eD)(n:Net)(rt:nu)(t:iD)(j:Nat)(A:Option Addr)(c:Nat)(L:List Int)(B:Nat)(w:nJ)[hB:Le B w](h:cj B w r n)(hL:Sl aH B w A c L)(ht:jn n t)(hi:j+1<n.ay.length):Calls nH 269 #[ew r n,uH rt t,.int .i64 (j+1),.slice A L.length c] w fun e w'=>e=.returned (.int .i64 (bears n t (j+1) (lY L)))/\∃δ,w'=af w δ:=by
 have hv:=az.1 ht.1;have hw:=hv.2.2.2.2.1;have h6:=hv.2.2.2.1;have xX:=ht.2.1;have Ji:=ht.2.2.1;have l2:=h.2.2.len;have Yq:j<n.aQ.length:=nQ;have hx:=mE ht.1 Yq;have hbd:=DA ht Yq;have ku:0<=xK (nth n.aQ j) t.aN t.cur:=hbd.1;have gi:xK (nth n.aQ j) t.aN t.cur<=360:=hbd.2;obtain⟨b,o,hA,hb,kk⟩:=h.2.2.aQ nQ;obtain⟨k0,k1,k2,k3,k4⟩:=kk j Yq;have ib:Lt b w:=⟨nL hb hB.out⟩;have hwi:(j:Int)<(n.aQ.length:Int):=nQ;have hE:bears n t (j+1) (lY L)=(if jr L j=true then xK (nth n.aQ j) t.aN t.cur+xK (nth n.aQ j) t.aN t.cur else xK (nth n.aQ j) t.aN t.cur)+(if j+1<n.aQ.length then (if jr L ((j:Int)+1+1)=true then xK (nth n.aQ (j+1)) t.aN t.cur+xK (nth n.aQ (j+1)) t.aN t.cur else xK (nth n.aQ (j+1)) t.aN t.cur) else 0):=by unfold bears side ld;rw[if_pos nQ,Ff,Ff];rfl
 clear hbd hv;by_cases h1:j+1<n.aQ.length;case neg=>
  have VY:¬((j:Int)+1<(n.ay.length:Int)-1):=nQ;rw[if_neg h1,Int.add_zero] at hE;have HW:=qh hw;clear hw h1;by_cases hin:jr L j=true;all_goals try rw[Bool.not_eq_true] at hin
  all_goals
   rw[hin] at hE;have HE:=qh hE;clear hE kk;rw[show ew r n=Value.agg #[.int .i64 n.aN.lo,.int .i64 n.aN.hi,.int .i64 n.cur.lo,.int .i64 n.cur.hi,.slice r.gA n.au.length r.gc,.slice r.aA n.ay.length r.ac,.slice r.wA n.aQ.length r.wc] from rfl,hA];clear hA;go_enter Tryz.func269,Tryz.ntmps269;go_wp2_with fail;refine wpRl ?_;repeat (go_big_quiet_step ((first|(go_at_call 280;exact Calls.bU (gR _ _ _ _ nZ nZ nZ)))))
   refine QBY ?_;rintro _ ⟨δq,rfl⟩;go_wp2_with (go_at_call 153;refine(Bx A c L j B _ hL.up).mono ?_;rintro e w1 ⟨rfl,rfl⟩)
  ·refine wpRl ?_;repeat (go_big_quiet_step ((first|(go_at_call 280;exact Calls.bU (gR _ _ _ _ nZ nZ nZ)))))
   refine QBY ?_;rintro _ ⟨δr,rfl⟩;go_wp2_with fail;go_ret;refine⟨cB ?_,ag⟩;rw[HE.out];simp
  ·go_ret;refine⟨cB ?_,ag⟩;rw[HE.out];simp
 case pos=>
  have VY:(j:Int)+1<(n.ay.length:Int)-1:=nQ;have hy:=mE ht.1 h1;have hbd:=DA ht h1;have NW:0<=xK (nth n.aQ (j+1)) t.aN t.cur:=hbd.1;have hb4:xK (nth n.aQ (j+1)) t.aN t.cur<=360:=hbd.2;obtain⟨m0,m1,m2,m3,m4⟩:=kk (j+1) h1;have abT:(j:Int)+1<(n.aQ.length:Int):=nQ;rw[if_pos h1] at hE;have HW:=qh hw;clear hw h1 hbd kk;by_cases hin:jr L j=true<;>by_cases V6:jr L ((j:Int)+1+1)=true;all_goals try rw[Bool.not_eq_true] at hin
  all_goals try rw[Bool.not_eq_true] at V6
  all_goals
   rw[hin,V6] at hE;have HE:=qh hE;clear hE;rw[show ew r n=Value.agg #[.int .i64 n.aN.lo,.int .i64 n.aN.hi,.int .i64 n.cur.lo,.int .i64 n.cur.hi,.slice r.gA n.au.length r.gc,.slice r.aA n.ay.length r.ac,.slice r.wA n.aQ.length r.wc] from rfl,hA];clear hA;go_enter Tryz.func269,Tryz.ntmps269;go_wp2_with fail;refine wpRl ?_;repeat (go_big_quiet_step ((first|(go_at_call 280;exact Calls.bU (gR _ _ _ _ nZ nZ nZ)))))
   refine QBY ?_;rintro _ ⟨δq,rfl⟩;go_wp2_with (go_at_call 153;refine(Bx A c L _ B _ hL.up).mono ?_;rintro e w1 ⟨rfl,rfl⟩);refine wpRl ?_;repeat (go_big_quiet_step ((first|(go_at_call 280;exact Calls.bU (gR _ _ _ _ nZ nZ nZ)))))
   refine QBY ?_;rintro _ ⟨δr,rfl⟩;go_wp2_with (go_at_call 153;refine(Bx A c L _ B _ hL.up).mono ?_;rintro e w1 ⟨rfl,rfl⟩)
  ·refine wpRl ?_;repeat (go_big_quiet_step ((first|(go_at_call 280;exact Calls.bU (gR _ _ _ _ nZ nZ nZ)))))
   refine QBY ?_;rintro _ ⟨δr,rfl⟩;go_wp2_with (go_at_call 153;refine(Bx A c L _ B _ hL.up).mono ?_;rintro e w1 ⟨rfl,rfl⟩);refine wpRl ?_;repeat (go_big_quiet_step ((first|(go_at_call 280;exact Calls.bU (gR _ _ _ _ nZ nZ nZ)))))
   refine QBY ?_;rintro _ ⟨δr,rfl⟩;go_wp2_with (go_at_call 153;refine(Bx A c L _ B _ hL.up).mono ?_;rintro e w1 ⟨rfl,rfl⟩);go_ret;refine⟨cB ?_,ag⟩;rw[HE.out];simp<;>omega
  ·refine wpRl ?_;repeat (go_big_quiet_step ((first|(go_at_call 280;exact Calls.bU (gR _ _ _ _ nZ nZ nZ)))))
   refine QBY ?_;rintro _ ⟨δr,rfl⟩;go_wp2_with (go_at_call 153;refine(Bx A c L _ B _ hL.up).mono ?_;rintro e w1 ⟨rfl,rfl⟩);go_ret;refine⟨cB ?_,ag⟩;rw[HE.out];simp<;>omega
  ·refine wpRl ?_;repeat (go_big_quiet_step ((first|(go_at_call 280;exact Calls.bU (gR _ _ _ _ nZ nZ nZ)))))
   refine QBY ?_;rintro _ ⟨δr,rfl⟩;go_wp2_with (go_at_call 153;refine(Bx A c L _ B _ hL.up).mono ?_;rintro e w1 ⟨rfl,rfl⟩);go_ret;refine⟨cB ?_,ag⟩;rw[HE.out];simp<;>omega
  ·go_ret;refine⟨cB ?_,ag⟩;rw[HE.out];simp<;>omega
theorem tF(r:eD)(n:Net)(rt:nu)(t:iD)(i:Nat)(A:Option Addr)(c:Nat)(L:List Int)(B:Nat)(w:nJ)[hB:Le B w](h:cj B w r n)(hL:Sl aH B w A c L)(ht:jn n t)(hi:i<n.ay.length):Calls nH 269 #[ew r n,uH rt t,.int .i64 i,.slice A L.length c] w fun e w'=>e=.returned (.int .i64 (bears n t i (lY L)))/\∃δ,w'=af w δ:=by
 cases i with
 |zero=>exact JX r n rt t A c L B w h hL ht hi
 |succ j=>exact JW r n rt t j A c L B w h hL ht hi
theorem Bd(r:eD)(n:Net)(rt:nu)(t:iD)(i:Nat)(B:Nat)(w:nJ)[hB:Le B w](h:cj B w r n)(h':qp B w rt t)(ht:jn n t)(hi:i<n.ay.length):Calls nH 270 #[ew r n,uH rt t,.int .i64 i] w fun e w'=>e=.returned (.int .i64 (can n t i))/\∃δ,w'=af w δ:=by
 have hcd:=BW ht hi;obtain⟨b,o,hA,hb,k0,k1⟩:=h.2.1.Un hi;have ib:Lt b w:=⟨nL hb hB.out⟩;obtain⟨b',o',oH,hb',k2⟩:=h'.int hcd.2.2.2.1;refine QFN ?_;intro ib' KP hi0 hj0 Xu HC;rw[show ew r n=Value.agg #[.int .i64 n.aN.lo,.int .i64 n.aN.hi,.int .i64 n.cur.lo,.int .i64 n.cur.hi,.slice r.gA n.au.length r.gc,.slice r.aA n.ay.length r.ac,.slice r.wA n.aQ.length r.wc] from rfl,hA,show uH rt t=Value.agg #[.int .i64 t.aN,.int .i64 t.cur,.slice rt.tA t.au.length rt.tc] from rfl,oH];clear hcd hA oH;go_enter Tryz.func270,Tryz.ntmps270;go_wp2_with fail;refine wpRl ?_;repeat (go_big_quiet_step ((first|(fail))))
 refine QBY ?_;rintro _ ⟨δ,rfl⟩;go_wp2_with fail;go_ret;refine⟨cB ?_,ag⟩;have HC:=HC.out;have e:2*(nth n.ay i).wt*nth t.au (nth n.ay i).bt.toNat=can n t i:=rfl;rw[IA (x:=2*(nth n.ay i).wt) nQ,e,IA (x:=can n t i) nQ]
end
section
open An
def ir(n:Net)(t:iD)(L:List Int)(k:Nat):List Int:=oy k (qg n t (lY L))
theorem Mf{n:Net}{t:iD}{d:Nat->Bool}{i:Nat}(h:d i=true):qg n t d i=true:=by unfold qg;rw[h];rfl
theorem Nz{A:Option Addr}{c:Nat}{L:List Int}{x:Int}{b:Bool}(hb:jr L x=b){B:Nat}{w:nJ}(h:Sl aH B w A c L):Calls nH 153 #[.slice A L.length c,.int .i64 x] w fun e w'=>e=.returned (.bool b)/\w=w':=hb▸Bx A c L x B w h
theorem Nc(r:eD)(n:Net)(rt:nu)(t:iD)(A:Option Addr)(c:Nat)(L:List Int)(B:Nat)(w:nJ)[hB:Le B w](h:cj B w r n)(h':qp B w rt t)(hL:Sl aH B w A c L)(ht:jn n t):Calls nH 233 #[ew r n,uH rt t,.slice A L.length c] w fun e w'=>∃(A':Option Addr) (c':Nat) (δ:nJ),e=.returned (.slice A' (ir n t L n.ay.length).length c')/\w'=af w δ/\Sl aH (af w δ).heap.size (af w δ) A' c' (ir n t L n.ay.length):=by
 have h6:=(az.1 ht.1).2.2.2.1;go_enter Tryz.func233,Tryz.ntmps233;go_wp2_with fail;refine QAP ?_;intro W1 aE cz de cN cY dc dX lH jU kM iY lC lu uu;refine QDL ?_;intro vn vm yz;have g1:cj B W1 r n:=h.up;have g2:qp B W1 rt t:=h'.up;have g3:Sl aH B W1 A c L:=hL.up;go_loopw [7,8] (fun o i wr=>∃(k c':Nat) (A':Option Addr) (δ:nJ),k<=n.ay.length/\i=.int .i64 k/\o=.slice A' (ir n t L k).length c'/\wr.ownsRow W1.heap.size 3 1 (.slice A' (ir n t L k).length c') (ir n t L k).length ((ir n t L k).flatMap aH)/\wr=af W1 δ) (fun _ i _=>n.ay.length-(intOf i).toNat)
 case atStart=>exact⟨0,0,none,W1,nE _,rfl,rfl,World.ownsRow_nil _ _ _ _,(aY W1).symm⟩
 case round=>
  obtain⟨k,c',A',δ,hk,rfl,rfl,hown,rfl⟩:=hrel;have HO:=qh hown;clear hown;by_cases hlt:k<n.ay.length
  ·have hle:(ir n t L k).length<=k:=FM _ _;have hS:ir n t L (k+1)=ir n t L k++(if qg n t (lY L) k=true then[(k:Int)] else[]):=CW _ _;have gH:=uy ht (d:=lY L) hlt;have hcb:=(BW ht hlt).2.2.2.2.2.2;by_cases hin:jr L k=true;case pos=>
    have HS:=qh (show ir n t L (k+1)=ir n t L k++[(k:Int)] by rw[hS,if_pos (Mf hin)]);clear hS;go_wp2_with fail;refine wpRl ?_;repeat (go_big_quiet_step ((first|(go_at_call 153;exact Calls.j8 (Nz hin g3.up))|(go_at_call 269;exact Calls.bU (tF r n rt t k A c L B _ g1.up g3.up ht hlt))|(go_at_call 270;exact Calls.bU (Bd r n rt t k B _ g1.up g2.up ht hlt)))))
    refine QBY ?_;rintro _ ⟨δq,rfl⟩;go_wp2_with (at_builtin;(refine dA W1 uC (.tmp 31) (.tmp 33) rfl rfl (jX _ HO.out) rfl rfl nW rfl (by simp[Value.oneCell']) nQ nQ ?_);intro UJ Ui δ' hown');go_roundw
    case rel=>
     have e1:(ir n t L (k+1)).length=(ir n t L k).length+1:=by rw[HS.out];simp
     refine⟨k+1,Ui,UJ,_,nQ,by go_num,by rw[e1],?_,aq⟩;rw[e1,HS.out,List.flatMap_append];exact hown'
    case measure=>simp[intOf];omega
   case neg=>
    rw[Bool.not_eq_true] at hin;by_cases hsp:can n t k<bears n t k (lY L);case pos=>
     have HS:=qh (show ir n t L (k+1)=ir n t L k++[(k:Int)] by rw[hS,if_pos (by unfold qg spare;simp[hlt];omega)]);clear hS;go_wp2_with fail;refine wpRl ?_;repeat (go_big_quiet_step ((first|(go_at_call 153;exact Calls.j8 (Nz hin g3.up))|(go_at_call 269;exact Calls.bU (tF r n rt t k A c L B _ g1.up g3.up ht hlt))|(go_at_call 270;exact Calls.bU (Bd r n rt t k B _ g1.up g2.up ht hlt)))))
     refine QBY ?_;rintro _ ⟨δq,rfl⟩;go_wp2_with (at_builtin;(refine dA W1 uC (.tmp 31) (.tmp 33) rfl rfl (jX _ HO.out) rfl rfl nW rfl (by simp[Value.oneCell']) nQ nQ ?_);intro UJ Ui δ' hown');go_roundw
     case rel=>
      have e1:(ir n t L (k+1)).length=(ir n t L k).length+1:=by rw[HS.out];simp
      refine⟨k+1,Ui,UJ,_,nQ,by go_num,by rw[e1],?_,aq⟩;rw[e1,HS.out,List.flatMap_append];exact hown'
     case measure=>simp[intOf];omega
    case neg=>
     have HS:=qh (show ir n t L (k+1)=ir n t L k by rw[hS,if_neg (by unfold qg spare;simp[lY,hin];omega),List.append_nil]);clear hS;go_wp2_with fail;refine wpRl ?_;repeat (go_big_quiet_step ((first|(go_at_call 153;exact Calls.j8 (Nz hin g3.up))|(go_at_call 269;exact Calls.bU (tF r n rt t k A c L B _ g1.up g3.up ht hlt))|(go_at_call 270;exact Calls.bU (Bd r n rt t k B _ g1.up g2.up ht hlt)))))
     refine QBY ?_;rintro _ ⟨δq,rfl⟩;go_wp2_with fail;go_roundw
     case rel=>refine⟨k+1,c',A',_,nQ,by go_num,by rw[HS.out],?_,aq⟩;rw[HS.out];exact jX _ HO.out
     case measure=>simp[intOf];omega
  ·obtain rfl:k=n.ay.length:=by omega
   go_wp2_with fail;go_ret;exact⟨A',c',_,rfl,aq,Fx (Sl.bW HO.out)⟩
end
section
open An
theorem MX(f:List Int):∀u∈f.flatMap aH,u.oneCell'=true:=by intro u hu;simp[aH] at hu;obtain⟨x,_,rfl⟩:=hu;rfl
def upto(lo:Int)(k:Nat):List Int:=(List.range k).map fun(j:Nat)=>lo+j
theorem rq(lo:Int)(k:Nat):upto lo (k+1)=upto lo k++[lo+k]:=by simp[upto,List.range_succ]
def fV:Nat->List Sp->List Int->List (List Int)
 |0,_,f=>[f]
 |m+1,gs,f=>(upto (nth gs f.length).lo ((nth gs f.length).hi+1-(nth gs f.length).lo).toNat).flatMap fun g=>fV m gs (f++[g])
theorem sM{gs:List Sp}(h:lW gs=true):∀(m:Nat) (f:List Int),f.length+m=gs.length->(fV m gs f).length<=10 ^ m/\0<(fV m gs f).length:=by
 intro m;induction m with
 |zero=>intro f _;simp[fV]
 |succ m ih=>
  intro f hf
  have hs:=(List.all_eq_true.1 h) _ (aS gs (k:=f.length) nQ)
  simp only[jf,decide_eq_true_eq] at hs
  have key:∀k:Nat,(((upto (nth gs f.length).lo k).flatMap fun g=>fV m gs (f++[g])).length<=k*10 ^ m)/\(0<k->0<((upto (nth gs f.length).lo k).flatMap fun g=>fV m gs (f++[g])).length):=by
   intro k;induction k with
   |zero=>simp[upto]
   |succ k ihk=>
    rw[rq,List.flatMap_append,List.length_append]
    have:=ih (f++[(nth gs f.length).lo+k]) (by simp;omega)
    simp only[List.flatMap_cons,List.flatMap_nil,List.append_nil]
    rw[Nat.succ_mul]
    omega
  unfold fV
  have h1:=key ((nth gs f.length).hi+1-(nth gs f.length).lo).toNat
  refine⟨nT h1.1 ?_,h1.2 nQ⟩
  rw[Nat.pow_succ,Nat.mul_comm]
  exact Nat.mul_le_mul_left _ nQ
def AN(w:nJ)(L:List (List Int))(e:Ending)(w':nJ):Prop:=∃(A:Option Addr) (c:Nat) (δ:nJ),e=.returned (.slice A L.length c)/\w'=af w δ/\uD 3 aH (af w δ) A c L
theorem Ob(r:eD)(n:Net)(f:List Int)(A:Option Addr)(c:Nat)(B:Nat)(w:nJ)[hB:Le B w](h:cj B w r n)(hf:fm 3 aH w.heap.size w A c f)(hl:f.length=n.au.length):Calls nH 268 #[ew r n,.slice A f.length c] w (AN w (fV 0 n.au f)):=by
 have hE:((f.length:Int)==(n.au.length:Int))=true:=by simp;omega
 have l1:=hf.plain.len;clear hl;go_enter Tryz.func268,Tryz.ntmps268;go_wp2_with fail;go_ret;have hsub:fm 3 aH ((w.alloc (.cells #[.int .i64 n.aN.lo,.int .i64 n.aN.hi,.int .i64 n.cur.lo,.int .i64 n.cur.hi,.slice r.gA n.au.length r.gc,.slice r.aA n.ay.length r.ac,.slice r.wA n.aQ.length r.wc] 28)).alloc (.cells #[.slice A f.length c] 35)).heap.size ((w.alloc (.cells #[.int .i64 n.aN.lo,.int .i64 n.aN.hi,.int .i64 n.cur.lo,.int .i64 n.cur.hi,.slice r.gA n.au.length r.gc,.slice r.aA n.ay.length r.ac,.slice r.wA n.aQ.length r.wc] 28)).alloc (.cells #[.slice A f.length c] 35)) A c f:=hf.wide;refine⟨some ⟨w.heap.size+1,0,none⟩,1,_,rfl,aq,?_⟩;rw[<-aq (w:=w) (W:=(w.alloc (.cells #[.int .i64 n.aN.lo,.int .i64 n.aN.hi,.int .i64 n.cur.lo,.int .i64 n.cur.hi,.slice r.gA n.au.length r.gc,.slice r.aA n.ay.length r.ac,.slice r.wA n.aQ.length r.wc] 28)).alloc (.cells #[.slice A f.length c] 35))];exact⟨nR _,nQ,[.slice A f.length c],mF nW nW,ic.one hsub⟩
def Iw(n:Net)(m:Nat):Prop:=∀(r:eD) (f:List Int) (A:Option Addr) (c:Nat) (B:Nat) (w:nJ),Le B w->cj B w r n->fm 3 aH w.heap.size w A c f->f.length+m=n.au.length->∀ln:Nat,f.length=ln ->
 Calls nH 268 #[ew r n,.slice A ln c] w (AN w (fV m n.au f))
theorem Oa(n:Net)(m:Nat)(hg:lW n.au=true)(h3:n.au.length<=3)(IH:Iw n m):Iw n (m+1):=by
 intro r f A c B w hB h hf hfl ln gG;subst gG;have l1:=hf.plain.len;have hlt:f.length<n.au.length:=nQ;have hne:((f.length:Int)==(n.au.length:Int))=false:=by simp;omega
 obtain⟨bs,os,hA,hb,d0,d1⟩:=h.1.sp hlt;have ib:Lt bs w:=⟨nL hb hB.out⟩;have hki:(f.length:Int)<(n.au.length:Int):=nQ;have hk0:¬(f.length:Int)<0:=nQ;have hsp:=(List.all_eq_true.1 hg) _ (aS n.au hlt);simp only[jf,decide_eq_true_eq] at hsp;obtain⟨lo,hlo⟩:∃x,x=(nth n.au f.length).lo:=⟨_,rfl⟩;obtain⟨hi,hhi⟩:∃x,x=(nth n.au f.length).hi:=⟨_,rfl⟩;rw[<-hlo] at hsp d0;rw[<-hhi] at hsp d1;obtain⟨Uh,TW⟩:∃x,x=(hi+1-lo).toNat:=⟨_,rfl⟩;have hF:=qh (show fV (m+1) n.au f=(upto lo Uh).flatMap fun g=>fV m n.au (f++[g]) by rw[TW,hlo,hhi];rfl);have Pz:(Uh:Int)=hi+1-lo:=nQ;have HC:=qh Pz;have HLO:=qh hlo;have HHI:=qh hhi;have HCN:=qh TW;have AM:=qh hfl;have RN:=qh IH;have HG:=qh hg;have H:=qh h;have H3:=qh h3;have acw:Uh<=10:=nQ;clear hlo hhi TW Pz hfl IH hg h h3;rw[show ew r n=Value.agg #[.int .i64 n.aN.lo,.int .i64 n.aN.hi,.int .i64 n.cur.lo,.int .i64 n.cur.hi,.slice r.gA n.au.length r.gc,.slice r.aA n.ay.length r.ac,.slice r.wA n.aQ.length r.wc] from rfl,hA];have HA:=qh hA;clear hA;go_enter Tryz.func268,Tryz.ntmps268;go_wp2_with fail;rw[<-HA.out];refine QAP ?_;intro W1 aE cz de cN cY dc dX lH jU kM iY lC lu uu;have vn:W1.cell? ⟨w.heap.size+1,0,none⟩=some (.int .i64 lo):=by rw[aE.out];go_simp
 have vm:W1.cell? ⟨w.heap.size+1,1,none⟩=some (.int .i64 hi):=by rw[aE.out];go_simp
 have g1:cj B W1 r n:=H.out.up;have g2:fm 3 aH W1.heap.size W1 A c f:=hf.wide;have G1:=qh g1;have G2:=qh g2;clear g1 g2 hf d0 d1;go_loopw [5,7] (fun o g wr=>∃(k c':Nat) (A':Option Addr) (cs:List nK) (L:List (List Int)),k<=Uh/\g=.int .i64 (lo+k)/\Hid (L=(upto lo k).flatMap fun g=>fV m n.au (f++[g]))/\L.length<=k*10 ^ m/\o=.slice A' L.length c'/\wr.ownsRow W1.heap.size 35 1 (.slice A' L.length c') L.length cs/\ic 3 aH wr cs L/\aC W1.heap.size W1 wr/\Le W1.heap.size wr) (fun _ g _=>(lo+Uh-intOf g).toNat)
 case atStart=>exact⟨0,0,none,[],[],nE _,nV,by simp[upto,Hid],nV,rfl,World.ownsRow_nil _ _ _ _,ic.nil,inferInstance,inferInstance⟩
 case round=>
  obtain⟨k,c',A',cs,L,hk,rfl,hL,Wk,rfl,hown,hsub,i1,i2⟩:=hrel;refine QBN ?_;intro hcell i3;have i4:Lt (w.heap.size+1) wr:=⟨nL dX.out i2.out⟩;refine QBJ ?_;intro i5 i6 i7 HO HS;clear hown hsub;by_cases hlt':k<Uh
  ·have hle:lo+(k:Int)<=hi:=by have:=HC.out;omega
   have hbd:k*10 ^ m<=100000:=by have:10 ^ m<=10 ^ 2:=Nat.pow_le_pow_right nQ (by have:=AM.out;have:=H3.out;omega);have:=Nat.mul_le_mul (show k<=10 by omega) this;omega
   have Q9:=(sM HG.out m (f++[lo+k]) (by have:=AM.out;simp;omega));have TJ:10 ^ m<=1000:=by have:10 ^ m<=10 ^ 2:=Nat.pow_le_pow_right nQ (by have:=AM.out;have:=H3.out;omega);omega
   have acq:f.length<=3:=by have:=AM.out;have:=H3.out;omega
   go_wp2_with fail;go_goals
   go_region_held3 (fun W=>W.cell? ⟨w.heap.size,0,none⟩=some (.int .i64 n.aN.lo)/\W.cell? ⟨w.heap.size,1,none⟩=some (.int .i64 n.aN.hi)/\W.cell? ⟨w.heap.size,2,none⟩=some (.int .i64 n.cur.lo)/\W.cell? ⟨w.heap.size,3,none⟩=some (.int .i64 n.cur.hi) /\
     W.cell? ⟨w.heap.size,4,none⟩=some (.slice r.gA n.au.length r.gc)/\W.cell? ⟨w.heap.size,5,none⟩=some (.slice r.aA n.ay.length r.ac)/\W.cell? ⟨w.heap.size,6,none⟩=some (.slice r.wA n.aQ.length r.wc))
    (refine⟨?_,?_,?_,?_,?_,?_,?_⟩<;>go_simp)
    (first|(refine fh wr uC (.tmp 32) (.tmp 33) rfl rfl (v:=.slice (some ⟨_,0,none⟩) 0 0) (by first|exact cx nW nW|exact(cx nW nW).alloc _) rfl (B:=W1.heap.size) (A:=A) (m:=f.length) (c:=c) (news:=f.flatMap aH) rfl (G2.out.up.plain.2.2) (tT f) (MX f) nQ nQ ?_;intro A1 c1 δ1 ei hg1)|((refine cQ wr uC (.tmp 34) (.tmp 36) rfl rfl (v:=.slice A1 f.length c1) (n:=f.length) (xs:=f.flatMap aH) (by first|exact ei|exact ei.alloc _ ) rfl (m:=1) (c:=1) (news:=[.int .i64 (lo+k)]) rfl (mF (by first|(go_simp;done)|(refine hg1.cell nW (by simp[Value.ownBlock]))) (nA _)) rfl (by simp[Value.oneCell']) nQ nQ ?_);intro A2 c2 δ2 gM kC)|(go_at_call 268;refine(RN.out r (f++[lo+(k:Int)]) A2 c2 B _ inferInstance G1.out.up (fm.bW (by rw[List.flatMap_append];exact gM) nV) (by have:=AM.out;simp;omega) (f.length+1) nV).mono ?_;rintro e w1 ⟨A3,c3,δ3,rfl,rfl,hq1,KN,Sr,NS,hs3⟩)|(refine cQ W1 PX (.tmp 30) (.tmp 38) rfl rfl (v:=.slice A' L.length c') (n:=L.length) (xs:=cs) (aT HO.out) rfl (A:=A3) (m:=(fV m n.au (f++[lo+(k:Int)])).length) (c:=c3) (news:=Sr) rfl NS (by have:=hs3.1;omega) hs3.Bj nQ nQ ?_;intro A4 c4 δ4 Gg GQ))
   all_goals
    go_wp2_with fail;go_roundw
    case rel=>
     refine⟨k+1,c4,A4,cs++Sr,L++fV m n.au (f++[lo+(k:Int)]),nQ,?_,?_,?_,by rw[List.length_append],by rw[List.length_append];exact Gg,(HS.out.up.append hs3).grown (aT HO.out) GQ nU,inferInstance,inferInstance⟩
     ·first|(congr 1;omega)|(congr 1;push_cast;omega)
     ·unfold Hid;rw[rq,List.flatMap_append,<-hL.out];simp
     ·rw[List.length_append,Nat.succ_mul];omega
    case measure=>simp[intOf];omega
  ·obtain rfl:k=Uh:=by omega
   have hgt:¬lo+(k:Int)<=hi:=by have:=HC.out;omega
   have HF:=qh (show fV (m+1) n.au f=L by rw[hF.out,hL.out]);go_wp2_with fail;go_ret;rw[HF.out];refine QBI ?_;intro i8 i9;refine⟨A',c',wr,rfl,aq,?_⟩;rw[<-aq (w:=w) (W:=wr)];exact uD.bW HO.out HS.out rfl
end
section
open An
theorem As(n:Net)(hg:lW n.au=true)(h3:n.au.length<=3):∀m,Iw n m
 |0=>fun r f A c B w hB h hf hl ln gG=>by subst gG;exact Ob r n f A c B w h hf nQ
 |m+1=>Oa n m hg h3 (As n hg h3 m)
theorem slT:nw nH 280 82 (.agg #[.int .i64 0,.int .i64 0,.slice none 0 0]) 3 40:=nw.mk Tryz.underlying280 nP rfl nQ
instance:Inhabited iD:=⟨⟨0,0,[]⟩⟩
def lG(w:nJ)(cs:List nK)(L:List iD):Prop:=
 cs.length=L.length*3/\∀i,i<L.length->cs[i*3]?=some (.int .i64 (nth L i).aN)/\cs[i*3+1]?=some (.int .i64 (nth L i).cur)/\∃A' c',cs[i*3+2]?=some (.slice A' (nth L i).au.length c')/\fm 3 aH w.heap.size w A' c' (nth L i).au
section
variable{w w':nJ}{cs:List nK}{L:List iD}
theorem lG.nil:lG w [] []:=⟨rfl,fun i h=>absurd h nV⟩
theorem lG.up(h:lG w cs L)[hg:aC w.heap.size w w'][hs:Le w.heap.size w']:lG w' cs L:=
 ⟨h.1,fun i hi=>by obtain⟨a,b,A',c',e,s⟩:=h.2 i hi;exact⟨a,b,A',c',e,s.wide⟩⟩
theorem lG.grown(h:lG w cs L){v:nK}{base:Nat}{e:TypeId}{size n:Nat}{ys:List nK}(hown:w.ownsRow base e size v n ys)(hg:w.grownBy w' v.ownBlock)(hne:e≠3):lG w' cs L:=
 ⟨h.1,fun i hi=>by obtain⟨a,b,A',c',e',s⟩:=h.2 i hi;exact⟨a,b,A',c',e',s.grown hown hg hne⟩⟩
theorem vS{α:Type}[Inhabited α](xs ys:List α){k:Nat}(h:k<xs.length):nth (xs++ys) k=nth xs k:=by rw[bV _ (by simp;omega),bV _ h,List.getElem_append_left h]
theorem vT{α:Type}[Inhabited α](xs:List α)(x:α):nth (xs++[x]) xs.length=x:=by rw[bV _ nV,List.getElem_append_right nQ];simp
theorem lG.snoc(h:lG w cs L){t:iD}{A':Option Addr}{c':Nat}(hs:fm 3 aH w.heap.size w A' c' t.au):lG w (cs++[.int .i64 t.aN,.int .i64 t.cur,.slice A' t.au.length c']) (L++[t]):=by
 refine⟨by simp[h.1];omega,fun i hi=>?_⟩;rw[List.length_append,List.length_singleton] at hi;by_cases hlt:i<L.length
 ·obtain⟨a,b,UJ,Ui,e,s⟩:=h.2 i hlt;rw[vS _ _ hlt];refine⟨?_,?_,UJ,Ui,?_,s⟩
  ·rw[List.getElem?_append_left (by rw[h.1];omega)];exact a
  ·rw[List.getElem?_append_left (by rw[h.1];omega)];exact b
  ·rw[List.getElem?_append_left (by rw[h.1];omega)];exact e
 ·obtain rfl:i=L.length:=by omega
  rw[vT];refine⟨?_,?_,A',c',?_,hs⟩
  ·rw[List.getElem?_append_right (by rw[h.1];omega),h.1,show L.length*3-L.length*3=0 by omega];rfl
  ·rw[List.getElem?_append_right (by rw[h.1];omega),h.1,show L.length*3+1-L.length*3=1 by omega];rfl
  ·rw[List.getElem?_append_right (by rw[h.1];omega),h.1,show L.length*3+2-L.length*3=2 by omega];rfl
end
def sg(w:nJ)(A:Option Addr)(c:Nat)(L:List iD):Prop:=L.length<=c/\c<=9223372036854775807/\∃cs,Cells w w.heap.size A cs/\lG w cs L
section
variable{w w':nJ}{A:Option Addr}{c:Nat}{L:List iD}
theorem sg.at_(h:sg w A c L){k:Nat}(hk:k<L.length):∃b o A' c',A=some ⟨b,o,none⟩/\b<w.heap.size/\w.cell? ⟨b,o+k*3,none⟩=some (.int .i64 (nth L k).aN)/\w.cell? ⟨b,o+k*3+1,none⟩=some (.int .i64 (nth L k).cur)/\w.cell? ⟨b,o+k*3+2,none⟩=some (.slice A' (nth L k).au.length c')/\Sl aH w.heap.size w A' c' (nth L k).au:=by obtain⟨h1,h2,cs,h3,h4,h5⟩:=h;obtain⟨a,b',A',c',e,s⟩:=h5 k hk;obtain⟨b,o,hA,hb,hc⟩:=h3 (by rintro rfl;simp at e);exact⟨b,o,A',c',hA,hb,hc _ _ a,by have:=hc _ _ b';rwa [<-Nat.add_assoc] at this,by have:=hc _ _ e;rwa [<-Nat.add_assoc] at this,s.plain⟩
theorem sg.bW{base:Nat}{e:TypeId}{n:Nat}{cs:List nK}(h:w.ownsRow base e 3 (.slice A n c) n cs)(hs:lG w cs L)(hn:L.length=n):sg w A c L:=by
 refine⟨?_,?_,cs,Cells.bW h,hs⟩
 ·rcases h.2 with⟨hv,h0⟩|⟨g,cap,cur,hv,_,hh,hnc,_⟩
  ·omega
  ·injection hv with _ _ hc;omega
 ·rcases h.2 with⟨hv,h0⟩|⟨g,cap,cur,hv,_,hh,hnc,hm,_⟩
  ·injection hv with _ _ hc;omega
  ·injection hv with _ _ hc;unfold maxLen at hm;omega
end
def yb(n:Net):List (List Int):=fV n.au.length n.au []
def zk(w c:Int)(ls:List (List Int)):List iD:=ls.map fun l=>⟨w,c,l⟩
def wR(w:Int)(cs:List Int)(ls:List (List Int)):List iD:=cs.flatMap fun c=>zk w c ls
def wQ(ws cs:List Int)(ls:List (List Int)):List iD:=ws.flatMap fun w=>wR w cs ls
def CJ(s:Sp):List Int:=upto s.lo (s.hi+1-s.lo).toNat
def bB(n:Net):List iD:=wQ (CJ n.aN) (CJ n.cur) (yb n)
theorem uD.Up{α:Type}[Inhabited α]{enc:α->List nK}{T:TypeId}{w:nJ}{A:Option Addr}{c:Nat}{xss:List (List α)}(h:uD T enc w A c xss)(h0:0<xss.length):∃b o,A=some ⟨b,o,none⟩/\b<w.heap.size/\∀k,k<xss.length->∃A' c',w.cell? ⟨b,o+k,none⟩=some (.slice A' (nth xss k).length c')/\fm T enc w.heap.size w A' c' (nth xss k):=by obtain⟨b,o,_,_,hA,hb,_⟩:=h.at_ h0;refine⟨b,o,hA,hb,fun k hk=>?_⟩;obtain⟨b',o',A',c',oH,_,e,s⟩:=h.at_ hk;rw[hA] at oH;injection oH with q;injection q with q1 q2;subst q1 q2;rw[bV _ hk];exact⟨A',c',e,s⟩
theorem Cu(w c:Int)(ls:List (List Int)):(zk w c ls).length=ls.length:=by simp[zk]
theorem JA(w c:Int)(ls:List (List Int)){k:Nat}(h:k<ls.length):zk w c (ls.take (k+1))=zk w c (ls.take k)++[⟨w,c,nth ls k⟩]:=by rw[bu ls h];simp[zk]
theorem zC(w lo:Int)(k:Nat)(ls:List (List Int)):wR w (upto lo (k+1)) ls=wR w (upto lo k) ls++zk w (lo+k) ls:=by rw[rq];simp[wR]
theorem Cv(w lo:Int)(k:Nat)(ls:List (List Int)):(wR w (upto lo k) ls).length=k*ls.length:=by
 induction k with
 |zero=>simp[wR,upto]
 |succ k ih=>rw[zC,List.length_append,ih,Cu,Nat.succ_mul]
theorem zB(lo WB:Int)(k ck:Nat)(ls:List (List Int)):wQ (upto lo (k+1)) (upto WB ck) ls=wQ (upto lo k) (upto WB ck) ls++wR (lo+k) (upto WB ck) ls:=by rw[rq lo k];simp[wQ]
theorem Ct(lo WB:Int)(k ck:Nat)(ls:List (List Int)):(wQ (upto lo k) (upto WB ck) ls).length=k*(ck*ls.length):=by
 induction k with
 |zero=>simp[wQ,upto]
 |succ k ih=>rw[zB,List.length_append,ih,Cv,Nat.succ_mul]
def yN(w:nJ)(n:Net)(e:Ending)(w':nJ):Prop:=∃(A:Option Addr) (c:Nat) (δ:nJ),e=.returned (.slice A (bB n).length c)/\w'=af w δ/\sg (af w δ) A c (bB n)
theorem Cs(r:eD)(n:Net)(B:Nat)(w:nJ)[hB:Le B w](h:cj B w r n)(hv:valid n=true):Calls nH 232 #[ew r n] w (yN w n):=by
 have v1:=(az.1 hv).1;have v2:=(az.1 hv).2.1;have v3:=(az.1 hv).2.2.1;have v6:=(az.1 hv).2.2.2.2.2.1;have HGR:=qh (As n v6 v3 n.au.length);have Q9:=sM v6 n.au.length [] nV;have TJ:10 ^ n.au.length<=10 ^ 3:=Nat.pow_le_pow_right nQ v3;simp only[jf,decide_eq_true_eq] at v1 v2;obtain⟨LS,XB⟩:∃x,x=fV n.au.length n.au []:=⟨_,rfl⟩;rw[<-XB] at Q9;have Wk:LS.length<=1000:=nQ;have hL0:=Q9.2;obtain⟨kw,hkw⟩:∃x,x=(n.aN.hi+1-n.aN.lo).toNat:=⟨_,rfl⟩;obtain⟨kc,hkc⟩:∃x,x=(n.cur.hi+1-n.cur.lo).toNat:=⟨_,rfl⟩;have V4:(kw:Int)=n.aN.hi+1-n.aN.lo:=nQ;have V5:(kc:Int)=n.cur.hi+1-n.cur.lo:=nQ;have ku:kw<=21:=nQ;have gi:kc<=21:=nQ;have HF:=qh (show bB n=wQ (upto n.aN.lo kw) (upto n.cur.lo kc) LS by rw[XB,hkw,hkc];rfl);have HLS:=qh XB;have HW:=qh V4;have HC:=qh V5;clear XB hkw hkc V4 V5 Q9 TJ v6;go_enter Tryz.func232,Tryz.ntmps232;have hc:=HGR.out r [] none 0 B (w.alloc (.cells #[.int .i64 n.aN.lo,.int .i64 n.aN.hi,.int .i64 n.cur.lo,.int .i64 n.cur.hi,.slice r.gA n.au.length r.gc,.slice r.aA n.ay.length r.ac,.slice r.wA n.aQ.length r.wc] 28)) inferInstance h.up fm.none_ nV 0 rfl;rw[<-HLS.out] at hc;have HCC:=qh hc;clear hc;go_wp2_with fail;refine HCC.out.mono ?_;rintro e w1 ⟨Al,cl,δ,rfl,rfl,EU⟩;go_wp2_with fail;refine QCM ?_;intro W1 aE cz de cN cY dc rX lH jU kM;have EV:uD 3 aH W1 Al cl LS:=by rw[aE.out];exact EU
 obtain⟨bl,ol,rfl,Xy,Q0⟩:=EV.Up hL0;have il:Lt bl W1:=⟨Xy⟩;have HK:=qh Q0;clear EV EU Q0;go_loopw [3,5] (fun o g wr=>∃(k c':Nat) (A':Option Addr) (cs:List nK) (L:List iD),k<=kw/\g=.int .i64 (n.aN.lo+k)/\Hid (L=wQ (upto n.aN.lo k) (upto n.cur.lo kc) LS)/\o=.slice A' L.length c'/\wr.ownsRow W1.heap.size 82 3 (.slice A' L.length c') L.length cs/\lG wr cs L/\aC W1.heap.size W1 wr/\Le W1.heap.size wr) (fun _ g _=>(n.aN.lo+kw-intOf g).toNat)
 case atStart=>exact⟨0,0,none,[],[],nE _,nV,by simp[upto,wQ,Hid],rfl,World.ownsRow_nil _ _ _ _,lG.nil,inferInstance,inferInstance⟩
 case round=>
  obtain⟨k,c',A',cs,L,hk,rfl,hL,rfl,hown,hsub,i1,i2⟩:=hrel;refine QBN ?_;intro hcell i3;have HO:=qh hown;have HS:=qh hsub;clear hown hsub;by_cases hlt:k<kw
  ·have hle:n.aN.lo+(k:Int)<=n.aN.hi:=by have:=HW.out;omega
   go_wp2_with fail;go_loopw [3,6] (fun o g wr=>∃(k2 c':Nat) (A':Option Addr) (cs:List nK) (L2:List iD),k2<=kc/\g=.int .i64 (n.cur.lo+k2)/\Hid (L2=L++wR (n.aN.lo+k) (upto n.cur.lo k2) LS)/\o=.slice A' L2.length c'/\wr.ownsRow W1.heap.size 82 3 (.slice A' L2.length c') L2.length cs/\lG wr cs L2/\aC W1.heap.size W1 wr/\Le W1.heap.size wr) (fun _ g _=>(n.cur.lo+kc-intOf g).toNat)
   case atStart=>exact⟨0,c',A',cs,L,nE _,nV,by simp[upto,wR,Hid],rfl,HO.out,HS.out,i1,i2⟩
   case round=>
    clear HO HS hcell i1 i2 i3;obtain⟨k2,c',A',cs,L2,hk2,rfl,YU,rfl,hown,hsub,i1,i2⟩:=hrel;refine QBN ?_;intro hcell i3;have HO:=qh hown;have HS:=qh hsub;clear hown hsub;by_cases hlt2:k2<kc
    ·have ac6:n.cur.lo+(k2:Int)<=n.cur.hi:=by have:=HC.out;omega
     go_wp2_with fail;go_loopw [3,7] (fun o g wr=>∃(k3 c':Nat) (A':Option Addr) (cs:List nK) (L3:List iD),k3<=LS.length/\g=.int .i64 k3/\Hid (L3=L2++zk (n.aN.lo+k) (n.cur.lo+k2) (LS.take k3))/\o=.slice A' L3.length c'/\wr.ownsRow W1.heap.size 82 3 (.slice A' L3.length c') L3.length cs/\lG wr cs L3/\aC W1.heap.size W1 wr/\Le W1.heap.size wr) (fun _ g _=>(LS.length-intOf g).toNat)
     case atStart=>exact⟨0,c',A',cs,L2,nE _,nV,by simp[zk,Hid],rfl,HO.out,HS.out,i1,i2⟩
     case round=>
      clear HO HS hcell i1 i2 i3;obtain⟨k3,c',A',cs,L3,qu,rfl,YT,rfl,hown,hsub,i1,i2⟩:=hrel;refine QBN ?_;intro hcell i3;have i4:Lt bl wr:=⟨nL Xy i2.out⟩;have HO:=qh hown;have HS:=qh hsub;clear hown hsub;by_cases VT:k3<LS.length
      ·obtain⟨A3,c3,NS,hs3⟩:=HK.out k3 VT;have hki:(k3:Int)<(LS.length:Int):=nQ;have hk0:¬(k3:Int)<0:=nQ;have hbig:L3.length<=900000:=by rw[YT.out,YU.out,hL.out,List.length_append,List.length_append,Ct,Cv,Cu,List.length_take];have q1:=Nat.mul_le_mul gi Wk;have q2:=Nat.mul_le_mul (show k<=21 by omega) q1;have q3:=Nat.mul_le_mul (show k2<=21 by omega) Wk;omega
       go_wp2_with (at_builtin;(refine bK W1 slT (.tmp 36) (.tmp 44) rfl rfl (v:=.slice A' L3.length c') (n:=L3.length) (xs:=cs) HO.out rfl rfl nW rfl (by simp[Value.oneCell']) nQ nQ ?_);intro A4 c4 δ4 Gg GQ);go_roundw
       case rel=>refine⟨k3+1,c4,A4,_,L3++[⟨n.aN.lo+k,n.cur.lo+k2,nth LS k3⟩],nQ,by go_num,?_,by rw[List.length_append];rfl,by rw[List.length_append];exact Gg,((HS.out.up (w':=wr.alloc (.cells #[.int .i64 (n.aN.lo+k),.int .i64 (n.cur.lo+k2),.slice A3 (nth LS k3).length c3] 82))).snoc (t:=⟨n.aN.lo+k,n.cur.lo+k2,nth LS k3⟩) hs3.wide).grown (HO.out.alloc _) GQ nU,inferInstance,inferInstance⟩;unfold Hid;rw[JA _ _ _ VT,<-List.append_assoc,<-YT.out]
       case measure=>simp[intOf];omega
      ·obtain rfl:k3=LS.length:=by omega
       have HQ:=qh (show L3=L++wR (n.aN.lo+k) (upto n.cur.lo (k2+1)) LS by rw[YT.out,List.take_length,YU.out,zC,List.append_assoc]);go_wp2_with fail;go_roundw
       case rel=>refine⟨k2+1,c',A',cs,L3,nQ,?_,HQ.out,rfl,HO.out,HS.out,i1,i2⟩;first|(congr 1;omega)|(congr 1;push_cast;omega)
       case measure=>simp[intOf];omega
    ·obtain rfl:k2=kc:=by omega
     have acm:¬n.cur.lo+(k2:Int)<=n.cur.hi:=by have:=HC.out;omega
     have HQ:=qh (show L2=wQ (upto n.aN.lo (k+1)) (upto n.cur.lo k2) LS by rw[YU.out,hL.out,zB]);go_wp2_with fail;go_roundw
     case rel=>refine⟨k+1,c',A',cs,L2,nQ,?_,HQ.out,rfl,HO.out,HS.out,i1,i2⟩;first|(congr 1;omega)|(congr 1;push_cast;omega)
     case measure=>simp[intOf];omega
  ·obtain rfl:k=kw:=by omega
   have hgt:¬n.aN.lo+(k:Int)<=n.aN.hi:=by have:=HW.out;omega
   have HQ:=qh (show bB n=L by rw[HF.out,hL.out]);go_wp2_with fail;go_ret;rw[yN,HQ.out];refine QBI ?_;intro i8 i9;refine⟨A',c',wr,rfl,aq,?_⟩;rw[<-aq (w:=w) (W:=wr)];exact sg.bW HO.out HS.out rfl
end
section
open An
theorem xH{lo x:Int}{k:Nat}:x∈upto lo k↔lo<=x/\x<lo+k:=by
 unfold upto;simp only[List.mem_map,List.mem_range];constructor
 ·rintro⟨j,hj,rfl⟩;omega
 ·intro h;exact⟨(x-lo).toNat,nQ,nQ⟩
theorem Kw{s:Sp}{x:Int}:x∈CJ s↔qL s x=true:=by unfold CJ qL;rw[xH,cZ];omega
theorem GA{gs:List Sp}:∀(m:Nat) (f l:List Int),f.length+m=gs.length->(l∈fV m gs f↔l.length=gs.length/\l.take f.length=f/\∀i,f.length<=i->i<gs.length->qL (nth gs i) (nth l i)=true):=by
 intro m;induction m with
 |zero=>
  intro f l hf
  unfold fV
  rw[List.mem_singleton]
  constructor
  ·rintro rfl;exact⟨nQ,List.take_length,fun i h1 h2=>by omega⟩
  ·rintro⟨h1,h2,_⟩;rw[List.take_of_length_le nQ] at h2;exact h2
 |succ m ih=>
  intro f l hf
  unfold fV
  rw[List.mem_flatMap]
  constructor
  ·rintro⟨g,hg,hl⟩;rw[ih _ _ (by simp;omega)] at hl;obtain⟨h1,h2,h3⟩:=hl;rw[xH] at hg;have hlen:f.length<l.length:=nQ;rw[List.length_append,List.length_singleton] at h2 h3;rw[bu l hlen] at h2;have h4:=List.append_inj h2 (by rw[List.length_take];omega);refine⟨h1,h4.1,fun i hi1 hi2=>?_⟩;by_cases hif:i=f.length
   ·subst hif;have h5:=h4.2;simp only[List.cons.injEq,and_true] at h5;rw[h5,qL,cZ];omega
   ·exact h3 i nQ hi2
  ·rintro⟨h1,h2,h3⟩;have hlen:f.length<l.length:=nQ;refine⟨nth l f.length,?_,?_⟩
   ·have:=h3 f.length (nR _) nQ;rw[qL,cZ] at this;rw[xH];omega
   ·rw[ih _ _ (by simp;omega)];refine⟨h1,?_,fun i hi1 hi2=>h3 i (by simp at hi1;omega) hi2⟩;rw[List.length_append,List.length_singleton,bu l hlen,h2]
theorem gp{n:Net}{t:iD}:t∈bB n↔su n t=true:=by
 unfold bB wQ wR zk;simp only[List.mem_flatMap,List.mem_map,Kw];have UO:∀l,l∈yb n↔l.length=n.au.length/\pZ n.au l l.length=true:=by
  intro l;unfold yb;rw[GA _ _ _ nV];simp only[List.length_nil,List.take_zero,true_and,nE,forall_const];constructor
  ·rintro⟨h1,h2⟩;refine⟨h1,?_⟩;unfold pZ;rw[List.all_eq_true];intro i hi;exact h2 i (by rw[<-h1];simpa using hi)
  ·rintro⟨h1,h2⟩;exact⟨h1,fun i hi=>pY h2 nQ⟩
 constructor
 ·rintro⟨w,hw,c,hc,l,hl,rfl⟩;rw[UO] at hl;simp only[su,hw,hc,hl.1,decide_true,Bool.and_self];rw[<-hl.1,hl.2];rfl
 ·intro h;simp only[su,Bool.and_eq_true,decide_eq_true_eq] at h;exact⟨t.aN,h.1.1.1,t.cur,h.1.1.2,t.au,(UO _).2 ⟨h.1.2,h.2⟩,rfl⟩
def calm(n:Net)(t:iD):Bool:=decide ((ir n t [] n.ay.length).length=0)
def jv(n:Net)(k:Nat):Nat:=(((bB n).take k).filter (calm n)).length
def jA(n:Net):Nat:=((bB n).filter (calm n)).length
theorem vu{n:Net}(hv:valid n=true):(bB n).length<=441000:=by
 have v1:=(az.1 hv).1;have v2:=(az.1 hv).2.1;have v3:=(az.1 hv).2.2.1;have v6:=(az.1 hv).2.2.2.2.2.1;have Q9:=(sM v6 n.au.length [] nV).1;have TJ:10 ^ n.au.length<=10 ^ 3:=Nat.pow_le_pow_right nQ v3;simp only[jf,decide_eq_true_eq] at v1 v2;unfold bB CJ;rw[Ct];have h1:(yb n).length<=1000:=by unfold yb;omega
 have q1:=Nat.mul_le_mul (show(n.cur.hi+1-n.cur.lo).toNat<=21 by omega) h1;have q2:=Nat.mul_le_mul (show(n.aN.hi+1-n.aN.lo).toNat<=21 by omega) q1;omega
theorem Bf(r:eD)(n:Net)(B:Nat)(w:nJ)[hB:Le B w](h:cj B w r n)(hv:valid n=true):Calls nH 194 #[ew r n] w fun e w'=>e=.returned (.tuple #[.int .i64 (jA n),.int .i64 (bB n).length])/\∃δ,w'=af w δ:=by
 have hlen:=vu hv;have HV:=qh hv;clear hv;go_enter Tryz.func194,Tryz.ntmps194;go_wp2_with (go_at_call 232;refine(Cs r n B _ h.up HV.out).mono ?_;rintro e w1 ⟨Al,cl,δ,rfl,rfl,EU⟩);refine QAL ?_;intro W1 aE cz de cN cY dc rX lH jU kM iY lC lu;have EV:sg W1 Al cl (bB n):=by rw[aE.out];exact EU
 have HS:=qh EV;have g1:cj B W1 r n:=h.up;clear EV EU;go_loopw [2,5] (fun s i wr=>∃(k:Nat) (δ:nJ),k<=(bB n).length/\i=.int .i64 k/\s=.int .i64 (jv n k)/\wr=af W1 δ) (fun _ i _=>(bB n).length-(intOf i).toNat)
 case atStart=>exact⟨0,W1,nE _,rfl,rfl,(aY W1).symm⟩
 case round=>
  obtain⟨k,δ,hk,rfl,rfl,rfl⟩:=hrel;by_cases hlt:k<(bB n).length
  ·obtain⟨b,o,A',c',hA,hb,d0,d1,d2,Px⟩:=HS.out.at_ hlt;have ib:Lt b W1:=⟨hb⟩;rw[hA];clear hA;have EO:su n (nth (bB n) k)=true:=gp.1 (aS _ hlt);have hok:=Dk HV.out EO;have hq:jv n k<=k:=by unfold jv;have:=List.length_filter_le (calm n) ((bB n).take k);rw[List.length_take] at this;omega
   have hki:(k:Int)<((bB n).length:Int):=nQ;have hk0:¬(k:Int)<0:=nQ;have zw:Hid (jv n (k+1)=jv n k+if calm n (nth (bB n) k)=true then 1 else 0):=by unfold Hid jv;rw[bu _ hlt,List.filter_append,List.length_append];congr 1;by_cases hc:calm n (nth (bB n) k)=true<;>simp[hc]
   by_cases hc:(ir n (nth (bB n) k) [] n.ay.length).length=0;all_goals have LV:=hc
   ·have HN:=qh (show jv n (k+1)=jv n k+1 by rw[zw.out,if_pos (by simp[calm,hc])]);have HZ:=qh hc;have hz:(((ir n (nth (bB n) k) [] n.ay.length).length:Int)==0)=true:=by rw[Um,decide_eq_true_eq];exact hc
    clear hc LV EO;go_wp2_with fail;go_region_held3 (fun W=>W.cell? ⟨w.heap.size,0,none⟩=some (.int .i64 n.aN.lo)/\W.cell? ⟨w.heap.size,1,none⟩=some (.int .i64 n.aN.hi)/\W.cell? ⟨w.heap.size,2,none⟩=some (.int .i64 n.cur.lo)/\W.cell? ⟨w.heap.size,3,none⟩=some (.int .i64 n.cur.hi) /\
      W.cell? ⟨w.heap.size,4,none⟩=some (.slice r.gA n.au.length r.gc)/\W.cell? ⟨w.heap.size,5,none⟩=some (.slice r.aA n.ay.length r.ac)/\W.cell? ⟨w.heap.size,6,none⟩=some (.slice r.wA n.aQ.length r.wc) /\
      W.cell? ⟨b,o+k*3,none⟩=some (.int .i64 (nth (bB n) k).aN)/\W.cell? ⟨b,o+k*3+1,none⟩=some (.int .i64 (nth (bB n) k).cur)/\W.cell? ⟨b,o+k*3+2,none⟩=some (.slice A' (nth (bB n) k).au.length c'))
     (refine⟨?_,?_,?_,?_,?_,?_,?_,?_,?_,?_⟩<;>go_simp)
     (first|(go_at_call 233;refine(Nc r n ⟨A',c'⟩ (nth (bB n) k) none 0 [] _ _ g1.wide Px.wide Sl.none_ hok).mono ?_;rintro e w1 ⟨A2,c2,δ2,rfl,rfl,_⟩))
    go_wp2_with fail;go_roundw
    case rel=>exact⟨k+1,_,nQ,by go_num,by rw[HN.out];go_num,aq⟩
    case measure=>simp[intOf];omega
   ·have HN:=qh (show jv n (k+1)=jv n k by rw[zw.out,if_neg (by simp[calm,hc]),Nat.add_zero]);have hz:(((ir n (nth (bB n) k) [] n.ay.length).length:Int)==0)=false:=by rw[Um,decide_eq_false_iff_not];exact hc
    clear hc LV EO;go_wp2_with fail;go_region_held3 (fun W=>W.cell? ⟨w.heap.size,0,none⟩=some (.int .i64 n.aN.lo)/\W.cell? ⟨w.heap.size,1,none⟩=some (.int .i64 n.aN.hi)/\W.cell? ⟨w.heap.size,2,none⟩=some (.int .i64 n.cur.lo)/\W.cell? ⟨w.heap.size,3,none⟩=some (.int .i64 n.cur.hi) /\
      W.cell? ⟨w.heap.size,4,none⟩=some (.slice r.gA n.au.length r.gc)/\W.cell? ⟨w.heap.size,5,none⟩=some (.slice r.aA n.ay.length r.ac)/\W.cell? ⟨w.heap.size,6,none⟩=some (.slice r.wA n.aQ.length r.wc) /\
      W.cell? ⟨b,o+k*3,none⟩=some (.int .i64 (nth (bB n) k).aN)/\W.cell? ⟨b,o+k*3+1,none⟩=some (.int .i64 (nth (bB n) k).cur)/\W.cell? ⟨b,o+k*3+2,none⟩=some (.slice A' (nth (bB n) k).au.length c'))
     (refine⟨?_,?_,?_,?_,?_,?_,?_,?_,?_,?_⟩<;>go_simp)
     (first|(go_at_call 233;refine(Nc r n ⟨A',c'⟩ (nth (bB n) k) none 0 [] _ _ g1.wide Px.wide Sl.none_ hok).mono ?_;rintro e w1 ⟨A2,c2,δ2,rfl,rfl,_⟩))
    go_wp2_with fail;go_roundw
    case rel=>exact⟨k+1,_,nQ,by go_num,by rw[HN.out],aq⟩
    case measure=>simp[intOf];omega
  ·obtain rfl:k=(bB n).length:=by omega
   have HQ:=qh (show jv n (bB n).length=jA n by unfold jv jA;rw[List.take_length]);go_wp2_with fail;go_ret2;exact⟨Mu (int_eq (by rw[HQ.out])) rfl,ag⟩
end
end Go.Proofs.YtcjjlikhlmfedaaGreatDoor
