/- A part of the proof that a law of layer 12 holds, cut small by a program (names and blanks): Hk11. -/
import Derived.Test.YtpnnapeoanafdaaGreatDoorZ36
set_option maxRecDepth 100000
set_option maxHeartbeats 40000000
set_option linter.unusedVariables false
set_option linter.unusedSimpArgs false
namespace Go.Proofs.YtpnnapeoanafdaaGreatDoor
open Go.RowKit
open Nat renaming lt_of_lt_of_le → nL, zero_le → nE
open Go.Proofs.Tryz renaming prog → nH
open Go renaming World → nJ
section
open Hd
def RunE(n:Nat)(d:ct)(a:List aQ)(w:nJ)(e:Ending)(w':nJ):Prop:=
 ∃(aA:Option Addr) (ac:Nat) (r':aW) (lA:Option Addr) (lc:Nat) (δ:nJ),e=.returned (.tuple #[.slice aA n ac,aY r' d.ax,.slice lA d.az.length lc,.bool true])/\w'=ah w δ /\
  (ah w δ).ownsRow w.heap.size 9 1 (.slice aA n ac) n (a.flatMap bS)/\aK w.heap.size (ah w δ) r' d.ax/\(ah w δ).ownsRow w.heap.size 9 1 (.slice lA d.az.length lc) d.az.length ((d.az.map (·.line)).flatMap bS)
theorem run12_e(r:aW)(t:aO)(ls:List aQ)(A:Option Addr)(c:Nat)(hv:aE t=true)(hl:ls.length<=30)(hlen:∀x∈ls,x.length<=1000)(d:ct)(a:List aQ)(hd:(dJ (bZ t) ls).1=d)(ha:(dJ (bZ t) ls).2=a)(n:Nat)(hn:ls.length=n)(B:Nat)(w:nJ)(hT:aN B w r t)[hB:Le B w][h8:Le 8 w](hL:cT w)(hS:Sl bS B w A c ls):Calls nH 13 #[aY r t,.slice A n c] w (RunE n d a w):=by subst hd ha hn;exact UE r t ls A c hv hl hlen B w hT hL hS
theorem sl_ow{base:Nat}{W:nJ}{A:Option Addr}{c n:Nat}{a:List aQ}(h:W.ownsRow base 9 1 (.slice A n c) n (a.flatMap bS))(hn:a.length=n):Sl bS W.heap.size W A c a:=by subst hn;exact Sl.bU h
section
variable{P:Program}{ops:Array Oper}{Q:Exit->Act->nJ->Prop}
theorem wpOp_rn{i:Nat}{o:Oper}{K:Act->nJ->Prop}{a:Act}{w:nJ}(hi:ops[i]?=some o)(hw:Region.wanted o (yielded ops a.tmps)=true)(h:o.wp P a w K Q):wpOp P ops Q i K a w:=by unfold wpOp;rw[hi];show if Region.wanted _ _=true then _ else _;rw[if_pos hw];exact Or.inl h
end
theorem joinI_ne:∀ {l:List Int},l≠[]->gI l≠[]
 |[],h=>absurd rfl h
 |[x],_=>Vu x
 |x::y::r,_=>fun e=>by rw[gI] at e;exact absurd (congrArg List.length e) nV
theorem empty_str(y:aQ):(str y).toList.isEmpty=decide (y=[]):=by rw[oF,iL];cases y<;>rfl
theorem abh(n e:Int)(hn:e=0->-10000<=n/\n<=1000000)(x:aQ)(hx:mB e (Lib.itoa n)=x)(w:nJ):Calls nH 22 #[.int .i64 n,.int .i64 e] w fun e' w'=>e'=.returned (.string (str x))/\∃δ,w'=ah w δ:=by
 by_cases h0:e=0
 ·subst h0;have HB:=qh (hn rfl);have h1:¬n < -1000000000:=by have:=HB.out;omega
  have h2:¬(1000000000:Int)<n:=by have:=HB.out;omega
  have HX:Hid (Lib.itoa n=x):=qh hx;clear hn hx;go_enter Tryz.func22,Tryz.ntmps22;go_wp2_with (go_at_call 34;refine(yU n HB.out _ HX.out _).mono ?_;rintro e w1 ⟨rfl,δ1,rfl⟩);go_ret;exact⟨rfl,ag⟩
 ·by_cases h3:e=3
  ·subst h3;have HX:Hid (aab=x):=qh hx;clear hn hx;go_enter Tryz.func22,Tryz.ntmps22;go_wp2;go_ret;exact⟨by rw[<-HX.out];rfl,ag⟩
  ·have e0:(e==0)=false:=by simp[h0]
   have e3:(e==3)=false:=by simp[h3]
   have HX:Hid (Jz=x):=by unfold Hid;rw[<-hx];unfold mB;rw[if_neg h0,if_neg h3]
   clear h0 h3 hn hx;go_enter Tryz.func22,Tryz.ntmps22;go_wp2;go_ret;exact⟨by rw[<-HX.out];rfl,ag⟩
theorem abr(l:List Int)(e:Int)(hf:Uk l)(x:aQ)(hx:mB e (pP l)=x)(A:Option Addr)(c:Nat)(B:Nat)(w:nJ)(hS:Sl aI B w A c l)[hB:Le B w]:Calls nH 25 #[.slice A l.length c,.int .i64 e] w fun e' w'=>e'=.returned (.string (str x))/\∃δ,w'=ah w δ:=by
 have HS:=qh hS;have HF:=qh hf;have h6:=hf.1;have HX:=qh hx;clear hS hf hx;go_enter Tryz.func25,Tryz.ntmps25;go_wp2_with fail;go_loopg [5,6] l.length (fun gg out i wr=>∃(k:Nat) (y:aQ) (δ:nJ),k<=l.length/\gg=l.length-k/\out=.string (str y)/\i=.int .i64 k/\wr=ah w δ/\Hid (y=gI (l.take k)))
 case atStart=>exact⟨0,[],_,nE _,rfl,rfl,rfl,ai,qh rfl⟩
 case round=>
  obtain⟨k,y,δ,hk,rfl,rfl,rfl,rfl,HY⟩:=hrel;by_cases hlt:k<l.length
  ·have hki:(k:Int)<(l.length:Int):=nQ;have hk0:¬(k:Int)<0:=nQ;obtain⟨b,o,rfl,hb,dk⟩:=HS.out.int hlt;have ib:Lt b w:=⟨nL hb hB.out⟩;have HTK:=qh (Ii HF.out hlt);have hjl:y.length<=18:=by rw[HY.out];exact SU HF.out k
   obtain⟨z,hz⟩:∃z,Lib.itoa (nth l k)=z:=⟨_,rfl⟩;have hzl:z.length<=8:=by rw[<-hz];exact we 6 (by have:=HTK.out;omega)
   have acO:=qh fun(W:nJ)=>abh (nth l k) 0 (fun _=>HTK.out) z hz W;clear hb;by_cases AA:0<k
   ·have aiU:(0:Int)<(k:Int):=nQ;have HN:Hid (gI (l.take (k+1))=(y++[32])++z):=by unfold Hid;rw[bz l hlt,HY.out,<-hz,List.append_assoc];refine As _ ?_;intro e;have:=congrArg List.length e;rw[List.length_take,List.length_nil] at this;omega
    have a1:∀W:nJ,(Op.stringOp .add (str y) (⟨#[32]⟩:ByteArray)).run nH W=.ok (.string (str (y++[32]))) W:=fun W=>eA (P:=nH) W y [32] (by simp;omega);have a2:=fun(W:nJ)=>eA (P:=nH) W (y++[32]) z (by simp;omega);rw[<-HN.out] at a2;clear hz HN;go_wp2_with (go_at_call 22;refine(acO.out _).mono ?_;rintro e w1 ⟨rfl,δ1,rfl⟩);go_roundg (l.length-(k+1))
    case measure=>omega
    case rel=>exact⟨k+1,_,_,hlt,rfl,rfl,by go_num,ai,qh rfl⟩
   ·obtain rfl:k=0:=by omega
    have HN:Hid (gI (l.take 1)=y++z):=by
     have hy0:y=[]:=HY.out;unfold Hid;rw[hy0,<-hz];cases l with
     |nil=>exact absurd hlt nU
     |cons x r=>rfl
    replace dk:w.cell? ⟨b,o,none⟩=some (.int .i64 (nth l 0)):=dk;have a2:=fun(W:nJ)=>eA (P:=nH) W y z nQ;rw[<-HN.out] at a2;clear hz HN;go_wp2_with (go_at_call 22;refine(acO.out _).mono ?_;rintro e w1 ⟨rfl,δ1,rfl⟩);go_roundg (l.length-(0+1))
    case measure=>omega
    case rel=>exact⟨1,_,_,hlt,rfl,rfl,by go_num,ai,qh rfl⟩
  ·obtain rfl:k=l.length:=by omega
   have HJ:Hid (y=gI l):=qh (by rw[HY.out,List.take_length]);have HZ:∀e:Int,¬e=0->mB e (pP l)=mB e (Lib.itoa 0):=fun e he=>by unfold mB;rw[if_neg he,if_neg he]
   have HZ:=qh HZ;have HT:Hid ((y=[]->pP l=vj)/\(y≠[]->pP l=y)):=by
    refine qh ⟨fun h=>?_,fun h=>?_⟩
    ·have h2:gI l=[]:=HJ.out▸h;exact if_pos (Decidable.byContradiction fun h3=>joinI_ne h3 h2)
    ·have hl:l≠[]:=fun h2=>h (by rw[HJ.out,h2];rfl);unfold pP;rw[if_neg hl,HJ.out]
   clear HY HJ;by_cases h0:e=0
   ·subst h0;have HX0:Hid (pP l=x):=qh HX.out;by_cases hy:y=[]
    ·have HX1:Hid (vj=x):=qh ((HT.out.1 hy).symm.trans HX0.out);have s1:(str y).toList.isEmpty=true:=(empty_str y).trans (decide_eq_true hy);clear hy;go_wp2;go_ret;exact⟨by rw[<-HX1.out];rfl,ag⟩
    ·have HX1:Hid (y=x):=qh ((HT.out.2 hy).symm.trans HX0.out);have s1:(str y).toList.isEmpty=false:=(empty_str y).trans (decide_eq_false hy);clear hy;go_wp2;go_ret;exact⟨by rw[<-HX1.out];rfl,ag⟩
   ·have e0:(e==0)=false:=by simp[h0]
    have HC:=qh fun(W:nJ)=>abh 0 e (fun h=>absurd h h0) x ((HZ.out e h0).symm.trans HX.out) W;obtain⟨b,s1⟩:∃b,(str y).toList.isEmpty=b:=⟨_,rfl⟩;clear h0;cases b;all_goals go_wp2_with (go_at_call 22;refine(HC.out _).mono ?_;rintro e w1 ⟨rfl,δ1,rfl⟩);go_ret;exact⟨rfl,ag⟩
end
end Go.Proofs.YtpnnapeoanafdaaGreatDoor
