/- A part of the proof that a law of layer 12 holds, cut small by a program (names and blanks): Hw1, Hw2, Hw3, Hw0, Hw4, Hw6, Hw5. -/
import Derived.Test.YtdmedlkonaclnaaGreatDoorZ10
import Derived.Test.YtdmedlkonaclnaaGreatDoorZ11
set_option maxRecDepth 100000
set_option maxHeartbeats 40000000
set_option linter.unusedVariables false
set_option linter.unusedSimpArgs false
namespace Go.Proofs.YtdmedlkonaclnaaGreatDoor
open Go.RowKit
open Nat renaming le_trans → nT, lt_of_lt_of_le → nL, le_refl → nR, zero_le → nE, le_of_lt → nS
open Go.Proofs.Tryz renaming prog → nH
open Go renaming World → nJ, Value → nK
section
open Hd
theorem Wi:∀x:Fin 10,IntKind.u8.wrap (48+(x.val:Int))=((48+x.val:Nat):Int):=by decide
theorem Dd(x:Nat)(hx:x<10)(b:UInt8)(hb:b.toNat=48+x)(w:nJ):Calls nH 46 #[.int .i64 x] w fun e w'=>e=.returned (.string (str [b]))/\∃δ,w'=af w δ:=by
 have h0:¬(x:Int)<0:=nQ;have h1:(x:Int)<10:=nQ;have w1:IntKind.u8.wrap (48+(x:Int))=(b.toNat:Int):=by rw[hb];exact Wi ⟨x,hx⟩
 have b1:=fun(W:nJ) (g c:Nat) (h:W.cell? ⟨g,0,none⟩=some (.int .u8 b.toNat))=>Hq W g c b h;clear hb;go_enter Tryz.func46,Tryz.ntmps46;go_wp2;go_ret;exact⟨rfl,ag⟩
theorem D8{x:Nat}(h:x<10):Lib.decDigits x=[UInt8.ofNat (48+x)]:=by rw[Lib.decDigits,dif_pos h]
theorem RY{n:Nat}(h:¬n<10):Lib.decDigits n=Lib.decDigits (n / 10)++[UInt8.ofNat (48+n % 10)]:=by rw[Lib.decDigits,dif_neg h]
theorem K8(k:Nat)(hk:k<=9):∀(n:Nat),n<10 ^ (k+1)->∀(l:bz),Lib.decDigits n=l->∀w:nJ,Calls nH 46 #[.int .i64 n] w fun e w'=>e=.returned (.string (str l))/\∃δ,w'=af w δ:=by
 induction k with
 |zero=>
  intro n hn l hl w
  rw[<-hl,D8 nQ]
  exact Dd n nQ _ (Nf nQ) w
 |succ k ih=>
  intro n hn l hl w
  by_cases h10:n<10
  ·rw[<-hl,D8 h10];exact Dd n h10 _ (Nf h10) w
  ·have hb:n<10000000000:=nL hn (Nat.pow_le_pow_right (n:=10) (j:=10) nQ nQ);have hq:n / 10<10 ^ (k+1):=by rw[Nat.pow_succ] at hn;omega
   have e:=RY h10;rw[hl] at e;obtain⟨x,hx⟩:∃x,Lib.decDigits (n / 10)=x:=⟨_,rfl⟩;rw[hx] at e;have hxl:x.length<=20:=by rw[<-hx];exact nT ((eH (n / 10)).2.2.2.2 k hq) nQ
   have HX:=qh hx;have HD:Hid (Lib.decDigits (n % 10)=[UInt8.ofNat (48+n % 10)]):=qh (D8 nQ);have HI:=qh (ih nQ);have HQ:=qh hq;obtain⟨q,hqq⟩:∃q,n / 10=q:=⟨_,rfl⟩;obtain⟨m,hm⟩:∃m,n % 10=m:=⟨_,rfl⟩;have d1:(n:Int).tdiv 10=(q:Int):=by rw[Int.tdiv_eq_ediv_of_nonneg nQ];omega
   have d2:(n:Int).tmod 10=(m:Int):=by rw[Int.tmod_eq_emod_of_nonneg nQ];omega
   have hm9:m<10:=nQ;have hqb:q<1000000000:=nQ;rw[hqq] at HX HQ;rw[hm] at HD e;have a1:=fun(W:nJ)=>gp (P:=nH) W x [UInt8.ofNat (48+m)] (by simp;omega);rw[<-e] at a1;have HM:Hid ((UInt8.ofNat (48+m)).toNat=48+m):=qh (Nf hm9);have h0:¬(n:Int)<0:=nQ;have h1:¬(n:Int)<10:=nQ;have HM9:=qh hm9;obtain⟨b,ir⟩:∃b,UInt8.ofNat (48+m)=b:=⟨_,rfl⟩;rw[ir] at HM a1;clear ih hq hx e hm hqq hl ir HD;go_enter Tryz.func46,Tryz.ntmps46;go_wp2_with (first|(go_at_call 46;(with_reducible refine Calls.mono (HI.out q HQ.out x HX.out _) ?_);rintro e w1 ⟨rfl,δ1,rfl⟩)|(go_at_call 46;(with_reducible refine Calls.mono (Dd m HM9.out b HM.out _) ?_);rintro e w1 ⟨rfl,δ2,rfl⟩));go_ret;exact⟨rfl,ag⟩
theorem Fo(n:Int)(hn:-1000000<=n/\n<=1000000)(l:bz)(hl:Lib.itoa n=l)(w:nJ):Calls nH 46 #[.int .i64 n] w fun e w'=>e=.returned (.string (str l))/\∃δ,w'=af w δ:=by
 unfold Lib.itoa at hl;by_cases h0:n<0
 ·rw[if_pos h0] at hl;obtain⟨m,hm⟩:∃m:Nat,-n=m:=⟨n.natAbs,nQ⟩;have e:n.natAbs=m:=nQ;rw[e] at hl;have hb:m<10 ^ (8+1):=by simp;omega
  obtain⟨x,hx⟩:∃x,Lib.decDigits m=x:=⟨_,rfl⟩;rw[hx] at hl;have hxl:x.length<=9:=by rw[<-hx];exact(eH m).2.2.2.2 8 hb
  have a1:=fun(W:nJ)=>gp (P:=nH) W [45] x (by simp;omega);have a2:∀W:nJ,(Op.stringOp .add (⟨#[45]⟩:ByteArray) (str x)).run nH W=.ok (.string (str l)) W:=by intro W;rw[<-hl];exact a1 W
  have HX:=qh hx;have HB:=qh hb;have HM:=qh hm;clear hx hb e hl a1;go_enter Tryz.func46,Tryz.ntmps46;go_wp2_with (go_at_call 46;refine(K8 8 nQ m HB.out x HX.out _).mono ?_;rintro e w1 ⟨rfl,δ1,rfl⟩);go_ret;exact⟨rfl,ag⟩
 ·rw[if_neg h0] at hl;obtain⟨m,rfl⟩:∃m:Nat,n=m:=⟨n.toNat,nQ⟩;exact K8 8 nQ m (by simp;omega) l (by simpa using hl) w
theorem yE(n:Int)(hn:-10000<=n/\n<=1000000)(l:bz)(hl:Lib.itoa n=l)(w:nJ):Calls nH 46 #[.int .i64 n] w fun e w'=>e=.returned (.string (str l))/\∃δ,w'=af w δ:=Fo n ⟨nQ,hn.2⟩ l hl w
end
section
open Hd
theorem z7(x:Int):∀ {l:List Int},l≠[]->je (l++[x])=je l++32::Lib.itoa x
 |[],h=>absurd rfl h
 |[y],_=>rfl
 |y::z::r,_=>by have ih:=z7 x (l:=z::r) nV;rw[List.cons_append,List.cons_append,je];rw[List.cons_append] at ih;rw[ih,je];simp
theorem GK{l:List Int}(h:S4 l){k:Nat}(hk:k<l.length):-10000<=nth l k/\nth l k<=1000000:=by have:=h.2 _ (aV l hk);omega
theorem Rz{l:List Int}(h:S4 l)(k:Nat):(je (l.take k)).length<=18:=by have h1:=tO (l:=l.take k) fun x hx=>h.2 x (List.mem_of_mem_take hx);have h2:=h.1;rw[List.length_take] at h1;omega
theorem TB(l:List Int)(hf:S4 l)(A:Option Addr)(c:Nat)(B:Nat)(w:nJ)(hS:Sl aI B w A c l)[hB:Le B w]:Calls nH 146 #[.slice A l.length c] w fun e w'=>e=.returned (.string (str (qz l)))/\∃δ,w'=af w δ:=by
 have HS:=qh hS;have HF:=qh hf;have h6:=hf.1;clear hS hf;by_cases h0:l=[]
 ·have HE:=qh (show qz l=uX from if_pos h0);have hz:((l.length:Int)==0)=true:=by rw[h0];rfl
  clear h0;go_enter Tryz.func146,Tryz.ntmps146;go_wp2;go_ret;exact⟨by rw[HE.out];rfl,ag⟩
 ·have hpos:0<l.length:=List.length_pos_iff.2 h0;have HE:=qh (show qz l=je l from if_neg h0);have hz:((l.length:Int)==0)=false:=by simp;omega
  have ZF:(0:Int)<(l.length:Int):=nQ;obtain⟨b,o,rfl,hb,d0⟩:=HS.out.int hpos;have ib:Lt b w:=⟨nL hb hB.out⟩;simp only[Nat.add_zero] at d0;have HT:=qh (GK HF.out hpos);have H1:Hid (je (l.take 1)=Lib.itoa (nth l 0)):=by
   unfold Hid;cases l with
   |nil=>exact absurd rfl h0
   |cons x r=>rfl
  clear h0 hb;go_enter Tryz.func146,Tryz.ntmps146;go_wp2_with (go_at_call 46;refine(yE (nth l 0) HT.out _ H1.out.symm _).mono ?_;rintro e w1 ⟨rfl,δ0,rfl⟩);go_loopg [3,4] (l.length-1) (fun gg out i wr=>∃(k:Nat) (δ:nJ),1<=k/\k<=l.length/\gg=l.length-k/\out=.string (str (je (l.take k)))/\i=.int .i64 k/\wr=af w δ)
  case atStart=>exact⟨1,_,nR _,hpos,rfl,rfl,rfl,aq⟩
  case round=>
   obtain⟨k,δ,Ad,hk,rfl,rfl,rfl,rfl⟩:=hrel;by_cases hlt:k<l.length
   ·have hki:(k:Int)<(l.length:Int):=nQ;have hk0:¬(k:Int)<0:=nQ;obtain⟨b',o',hA,hb',dk⟩:=HS.out.int hlt;injection hA with hA;injection hA with hA1 vU;subst hA1 vU;have HTK:=qh (GK HF.out hlt);have HN:Hid (je (l.take (k+1))=je (l.take k)++32::Lib.itoa (nth l k)):=by unfold Hid;rw[bE l hlt];refine z7 _ ?_;intro e;have:=congrArg List.length e;rw[List.length_take,List.length_nil] at this;omega
    have hjl:=Rz HF.out k;obtain⟨x,hx⟩:∃x,Lib.itoa (nth l k)=x:=⟨_,rfl⟩;have hxl:x.length<=8:=by rw[<-hx];exact sN 6 (by have:=HTK.out;omega)
    obtain⟨y,hy⟩:∃y,je (l.take k)=y:=⟨_,rfl⟩;rw[hx,hy] at HN;rw[hy] at hjl ⊢;have a1:∀W:nJ,(Op.stringOp .add (⟨#[32]⟩:ByteArray) (str x)).run nH W=.ok (.string (str (32::x))) W:=fun W=>gp (P:=nH) W [32] x (by simp;omega);have a2:=fun(W:nJ)=>gp (P:=nH) W y (32::x) (by simp;omega);rw[<-HN.out] at a2;have HX:=qh hx;clear hx hy hb' HN;go_wp2_with (go_at_call 46;refine(yE (nth l k) HTK.out _ HX.out _).mono ?_;rintro e w1 ⟨rfl,δ1,rfl⟩);go_roundg (l.length-(k+1))
    case measure=>omega
    case rel=>exact⟨k+1,_,nQ,hlt,rfl,rfl,by go_num,aq⟩
   ·obtain rfl:k=l.length:=by omega
    go_wp2;go_ret;exact⟨by rw[HE.out];(first|rfl|(rw[List.take_length];rfl)),ag⟩
end
section
open Hd
theorem xZ(l r:bz):∀acc:Nat,Lib.decFrom acc (l++r)=(Lib.decFrom acc l).bind fun n=>Lib.decFrom n r:=by
 induction l with
 |nil=>intro acc;rfl
 |cons b l ih=>
  intro acc
  rw[List.cons_append,Lib.decFrom,Lib.decFrom]
  cases Lib.digitVal b with
  |none=>rfl
  |some d=>exact ih _
theorem D9{m:bz}{k:Nat}{b:UInt8}(hb:m[k]?=some b)(hd:Lib.digitVal b=none):Lib.decFrom 0 m=none:=by
 have hk:=(List.getElem?_eq_some_iff.1 hb).1;have e:m=m.take k++b::m.drop (k+1):=by have h2:=(List.getElem?_eq_some_iff.1 hb).2;rw[<-h2,List.getElem_cons_drop,List.take_append_drop]
 rw[e,xZ];cases Lib.decFrom 0 (m.take k) with
 |none=>rfl
 |some n=>simp only[Option.bind_some,Lib.decFrom,hd]
theorem AD{m:bz}{k n d:Nat}{b:UInt8}(hb:m[k]?=some b)(hd:Lib.digitVal b=some d)(hn:Lib.decFrom 0 (m.take k)=some n):Lib.decFrom 0 (m.take (k+1))=some (n*10+d):=by rw[List.take_add_one,hb,xZ,hn];simp only[Option.bind_some,Option.toList,Lib.decFrom,hd]
theorem Ay{b:UInt8}(h:b.toNat<48\/57<b.toNat):Lib.digitVal b=none:=by unfold Lib.digitVal;rw[if_neg nQ]
theorem xy{b:UInt8}(h:¬b.toNat<48/\¬57<b.toNat):Lib.digitVal b=some (b.toNat-48):=by unfold Lib.digitVal;rw[if_pos nQ]
theorem Kr{l:bz}{n k:Nat}(h:Lib.decFrom 0 l=some n)(hk:l.length<=k):n<10 ^ k:=by
 have key:∀(l:bz) (acc n:Nat),Lib.decFrom acc l=some n->n<(acc+1)*10 ^ l.length:=by
  intro l;induction l with
  |nil=>intro acc n h;simp only[Lib.decFrom,Option.some.injEq] at h;subst h;simp
  |cons b l ih=>
   intro acc n h
   simp only[Lib.decFrom] at h
   cases hd:Lib.digitVal b with
   |none=>rw[hd] at h;cases h
   |some d=>
    rw[hd] at h
    have h1:=ih _ _ h
    have h2:=(xz hd).1
    have h3:(acc*10+d+1)*10 ^ l.length<=((acc+1)*10)*10 ^ l.length:=Nat.mul_le_mul_right _ nQ
    rw[List.length_cons,Nat.pow_succ,Nat.mul_comm (10 ^ l.length) 10,<-Nat.mul_assoc]
    omega
 have:=key l 0 n h;rw[Nat.zero_add,Nat.one_mul] at this;exact nL this (Nat.pow_le_pow_right nQ hk)
def Ql(o:Option Int):Int:=o.getD 0
theorem Rv{m:bz}{k:Nat}(h:k<m.length):∃b,m[k]?=some b:=⟨m[k],by simp[h]⟩
theorem WK:∀k:Fin 7,10 ^ k.val<=1000000:=by decide
def wm(o:Option Int)(w:nJ)(e:Ending)(w':nJ):Prop:=e=.returned (.tuple #[.int .i64 (Ql o),.bool o.isSome])/\∃δ,w'=af w δ
theorem iG{o:Option Int}{w w':nJ}(h:o=none)(hl:∃δ,w'=af w δ):wm o w (.returned (.tuple #[.int .i64 0,.bool false])) w':=by subst h;exact⟨rfl,hl⟩
theorem zE{o:Option Int}{w w':nJ}{n:Int}(h:o=some n)(hl:∃δ,w'=af w δ):wm o w (.returned (.tuple #[.int .i64 n,.bool true])) w':=by subst h;exact⟨rfl,hl⟩
theorem TO(m:bz)(hl:m.length<=1048576)(w:nJ):Calls nH 63 #[.string (str (45::m))] w (wm (numOf (45::m)) w):=by
 have hO:Hid (numOf (45::m)=if p7 true m=true then (Lib.decFrom 0 m).map fun(n:Nat)=>-(n:Int) else none):=rfl;have q0:=fun(W:nJ) t k hh=>tP (P:=nH) W t k (45::m) 0 0 rfl 45 hh rfl;have q1:=fun(W:nJ) t k hh=>Rw (P:=nH) W t k (45::m) 1 1 rfl m hh nV rfl;have e45:((UInt8.toNat 45:Nat):Int)=45:=rfl;have Ut:(45::m).length=m.length+1:=rfl;by_cases hd:p7 true m=true
 ·have XQ:Hid (numOf (45::m)=(Lib.decFrom 0 m).map fun(n:Nat)=>-(n:Int)):=qh (hO.out.trans (if_pos hd));unfold p7 at hd;simp only[Bool.and_eq_true,decide_eq_true_eq,Bool.not_eq_true',Bool.and_eq_false_iff,decide_eq_false_iff_not,Bool.or_eq_false_iff] at hd;obtain⟨⟨h1,h6⟩,hz⟩:=hd;obtain⟨b1,kL⟩:=Rv (m:=m) (k:=0) nQ;have p0:=fun(W:nJ) t k hh=>tP (P:=nH) W t k m 0 0 rfl b1 hh kL;have g1:¬(m.length:Int)<1:=nQ;have g6:¬(6:Int)<(m.length:Int):=nQ;rw[List.head?_eq_getElem?,kL] at hz;by_cases h48:b1=48
  ·subst h48;exfalso;rcases hz with hz|⟨_,hz⟩
   ·exact hz rfl
   ·exact absurd hz nV
  ·have n48:((b1.toNat:Int)==48)=false:=by simp;intro e;exact h48 (UInt8.toNat_inj.1 (show b1.toNat=(48:UInt8).toNat by simpa using (by omega:b1.toNat=48)))
   clear kL hz h48;go_enter Tryz.func63,Tryz.ntmps63;go_wp2_with fail;go_loopg [5,6] m.length (fun gg n i wr=>∃(k v:Nat) (δ:nJ),k<=m.length/\gg=m.length-k/\n=.int .i64 v/\i=.int .i64 k/\Hid (Lib.decFrom 0 (m.take k)=some v)/\wr=af w δ)
   case atStart=>exact⟨0,0,w,nE _,rfl,rfl,rfl,rfl,(bw w).symm⟩
   case round=>
    obtain⟨k,v,δ,hk,rfl,rfl,rfl,HV,rfl⟩:=hrel;have hv6:v<1000000:=nL (Kr HV.out (k:=k) (by rw[List.length_take];omega)) (WK ⟨k,nQ⟩);by_cases hlt:k<m.length
    ·have hki:(k:Int)<(m.length:Int):=nQ;obtain⟨b,hb⟩:=Rv hlt;refine QFH ?_;intro x1 LY;by_cases GA:b.toNat<48\/57<b.toNat
     ·have HN:Hid (numOf (45::m)=none):=qh (by rw[XQ.out,D9 hb (Ay GA)];rfl);clear hb HV;rcases GA with GA|GA
      ·have j1:(b.toNat:Int)<48:=nQ;go_wp2_with fail;go_ret2;exact iG HN.out ag
      ·have j1:¬(b.toNat:Int)<48:=nQ;have j2:(57:Int)<(b.toNat:Int):=nQ;go_wp2_with fail;go_ret2;exact iG HN.out ag
     ·have HN:=qh (AD hb (xy nQ) HV.out);refine QCT ?_;intro j1 j2 u1 d SN;rw[SN] at HN u1;have hd9:d<=9:=nQ;clear hb HV GA SN;go_wp2_with fail;go_roundg (m.length-(k+1))
      case measure=>omega
      case rel=>exact⟨k+1,v*10+d,_,nQ,rfl,by go_num,by go_num,HN,aq⟩
    ·obtain rfl:k=m.length:=by omega
     have HN:Hid (numOf (45::m)=some (-(v:Int))):=qh (by have:=HV.out;rw[List.take_length] at this;rw[XQ.out,this];rfl);clear HV;go_wp2_with fail;go_ret2;exact zE HN.out ag
 ·have HN:Hid (numOf (45::m)=none):=qh (hO.out.trans (if_neg hd));by_cases h1:m.length<1
  ·have g1:(m.length:Int)<1:=nQ;clear hd;go_enter Tryz.func63,Tryz.ntmps63;go_wp2_with fail;go_ret2;exact iG HN.out ag
  by_cases h6:6<m.length
  ·have g1:¬(m.length:Int)<1:=nQ;have g6:(6:Int)<(m.length:Int):=nQ;clear hd;go_enter Tryz.func63,Tryz.ntmps63;go_wp2_with fail;go_ret2;exact iG HN.out ag
  obtain⟨b1,kL⟩:=Rv (m:=m) (k:=0) nQ;have p0:=fun(W:nJ) t k hh=>tP (P:=nH) W t k m 0 0 rfl b1 hh kL;have h48:b1=48:=by unfold p7 at hd;rw[List.head?_eq_getElem?,kL] at hd;apply Classical.byContradiction;intro hc;apply hd;have:¬(some b1=some 48):=fun e=>hc (Option.some.inj e);simp[this];omega
  subst h48;have e48:((UInt8.toNat 48:Nat):Int)=48:=rfl;have g1:¬(m.length:Int)<1:=nQ;have g6:¬(6:Int)<(m.length:Int):=nQ;clear hd kL;go_enter Tryz.func63,Tryz.ntmps63;go_wp2_with fail;all_goals go_ret2
  all_goals exact iG HN.out ag
theorem TM(m:bz)(b1:UInt8)(kL:m[0]?=some b1)(Re:b1≠45)(hl:m.length<=1048576)(w:nJ):Calls nH 63 #[.string (str m)] w (wm (numOf m) w):=by
 have Rb:m.head?≠some 45:=by rw[List.head?_eq_getElem?,kL];intro e;injection e with e;exact Re e
 have hO:Hid (numOf m=if p7 false m=true then (Lib.decFrom 0 m).map fun(n:Nat)=>(n:Int) else none):=by unfold Hid numOf pq;simp only[if_neg Rb,decide_eq_false Rb]
 have q0:=fun(W:nJ) t k hh=>tP (P:=nH) W t k m 0 0 rfl b1 hh kL;have e45:((b1.toNat:Int)==45)=false:=by simp;intro e;exact Re (UInt8.toNat_inj.1 (show b1.toNat=(45:UInt8).toNat by simpa using (by omega:b1.toNat=45)))
 have hpos:0<m.length:=(List.getElem?_eq_some_iff.1 kL).1;have hpi:(0:Int)<(m.length:Int):=nQ;by_cases hd:p7 false m=true
 ·have XQ:Hid (numOf m=(Lib.decFrom 0 m).map fun(n:Nat)=>(n:Int)):=qh (hO.out.trans (if_pos hd));unfold p7 at hd;simp only[Bool.and_eq_true,decide_eq_true_eq,Bool.not_eq_true',Bool.and_eq_false_iff,decide_eq_false_iff_not,Bool.or_eq_false_iff] at hd;obtain⟨⟨h1,h6⟩,hz⟩:=hd;have g1:¬(m.length:Int)<1:=nQ;have g6:¬(6:Int)<(m.length:Int):=nQ;rw[List.head?_eq_getElem?,kL] at hz;by_cases h48:b1=48
  ·subst h48;rcases hz with hz|⟨hz,_⟩
   ·exact absurd rfl hz
   ·have e48:((UInt8.toNat 48:Nat):Int)=48:=rfl;have hl1:m.length=1:=nQ;have g7:¬(1:Int)<(m.length:Int):=nQ;have OS:=qh hl1;clear hl1 kL Re Rb;go_enter Tryz.func63,Tryz.ntmps63;go_wp2_with fail;go_loopg [5,6] m.length (fun gg n i wr=>∃(k v:Nat) (δ:nJ),k<=m.length/\gg=m.length-k/\n=.int .i64 v/\i=.int .i64 k/\Hid (Lib.decFrom 0 (m.take k)=some v)/\wr=af w δ)
    case atStart=>exact⟨0,0,w,nE _,rfl,rfl,rfl,rfl,(bw w).symm⟩
    case round=>
     obtain⟨k,v,δ,hk,rfl,rfl,rfl,HV,rfl⟩:=hrel;have hv6:v<1000000:=nL (Kr HV.out (k:=k) (by rw[List.length_take];omega)) (WK ⟨k,nQ⟩);by_cases hlt:k<m.length
     ·have hki:(k:Int)<(m.length:Int):=nQ;obtain⟨b,hb⟩:=Rv hlt;refine QFH ?_;intro x1 LY;by_cases GA:b.toNat<48\/57<b.toNat
      ·have HN:Hid (numOf m=none):=qh (by rw[XQ.out,D9 hb (Ay GA)];rfl);clear hb HV;rcases GA with GA|GA
       ·have j1:(b.toNat:Int)<48:=nQ;go_wp2_with fail;go_ret2;exact iG HN.out ag
       ·have j1:¬(b.toNat:Int)<48:=nQ;have j2:(57:Int)<(b.toNat:Int):=nQ;go_wp2_with fail;go_ret2;exact iG HN.out ag
      ·have HN:=qh (AD hb (xy nQ) HV.out);refine QCT ?_;intro j1 j2 u1 d SN;rw[SN] at HN u1;have hd9:d<=9:=nQ;clear hb HV GA SN;go_wp2_with fail;go_roundg (m.length-(k+1))
       case measure=>omega
       case rel=>exact⟨k+1,v*10+d,_,nQ,rfl,by go_num,by go_num,HN,aq⟩
     ·obtain rfl:k=m.length:=by omega
      have HN:Hid (numOf m=some (v:Int)):=qh (by have:=HV.out;rw[List.take_length] at this;rw[XQ.out,this];rfl);clear HV;go_wp2_with fail;go_ret2;exact zE HN.out ag
  ·have n48:((b1.toNat:Int)==48)=false:=by simp;intro e;exact h48 (UInt8.toNat_inj.1 (show b1.toNat=(48:UInt8).toNat by simpa using (by omega:b1.toNat=48)))
   clear hz h48 kL Re Rb;go_enter Tryz.func63,Tryz.ntmps63;go_wp2_with fail;go_loopg [5,6] m.length (fun gg n i wr=>∃(k v:Nat) (δ:nJ),k<=m.length/\gg=m.length-k/\n=.int .i64 v/\i=.int .i64 k/\Hid (Lib.decFrom 0 (m.take k)=some v)/\wr=af w δ)
   case atStart=>exact⟨0,0,w,nE _,rfl,rfl,rfl,rfl,(bw w).symm⟩
   case round=>
    obtain⟨k,v,δ,hk,rfl,rfl,rfl,HV,rfl⟩:=hrel;have hv6:v<1000000:=nL (Kr HV.out (k:=k) (by rw[List.length_take];omega)) (WK ⟨k,nQ⟩);by_cases hlt:k<m.length
    ·have hki:(k:Int)<(m.length:Int):=nQ;obtain⟨b,hb⟩:=Rv hlt;refine QFH ?_;intro x1 LY;by_cases GA:b.toNat<48\/57<b.toNat
     ·have HN:Hid (numOf m=none):=qh (by rw[XQ.out,D9 hb (Ay GA)];rfl);clear hb HV;rcases GA with GA|GA
      ·have j1:(b.toNat:Int)<48:=nQ;go_wp2_with fail;go_ret2;exact iG HN.out ag
      ·have j1:¬(b.toNat:Int)<48:=nQ;have j2:(57:Int)<(b.toNat:Int):=nQ;go_wp2_with fail;go_ret2;exact iG HN.out ag
     ·have HN:=qh (AD hb (xy nQ) HV.out);refine QCT ?_;intro j1 j2 u1 d SN;rw[SN] at HN u1;have hd9:d<=9:=nQ;clear hb HV GA SN;go_wp2_with fail;go_roundg (m.length-(k+1))
      case measure=>omega
      case rel=>exact⟨k+1,v*10+d,_,nQ,rfl,by go_num,by go_num,HN,aq⟩
    ·obtain rfl:k=m.length:=by omega
     have HN:Hid (numOf m=some (v:Int)):=qh (by have:=HV.out;rw[List.take_length] at this;rw[XQ.out,this];rfl);clear HV;go_wp2_with fail;go_ret2;exact zE HN.out ag
 ·have HN:Hid (numOf m=none):=qh (hO.out.trans (if_neg hd));by_cases h1:m.length<1
  ·omega
  by_cases h6:6<m.length
  ·have g1:¬(m.length:Int)<1:=nQ;have g6:(6:Int)<(m.length:Int):=nQ;clear hd;go_enter Tryz.func63,Tryz.ntmps63;go_wp2_with fail;go_ret2;exact iG HN.out ag
  have h48:b1=48/\1<m.length:=by
   unfold p7 at hd;rw[List.head?_eq_getElem?,kL] at hd;apply Classical.byContradiction;intro hc;apply hd;by_cases hb:b1=48
   ·have:¬1<m.length:=fun e=>hc ⟨hb,e⟩;simp[hb,this];omega
   ·have:¬(some b1=some 48):=fun e=>hb (Option.some.inj e);simp[this];omega
  obtain⟨h48,hg⟩:=h48;subst h48;have g7:(1:Int)<(m.length:Int):=nQ;have e48:((UInt8.toNat 48:Nat):Int)=48:=rfl;have g1:¬(m.length:Int)<1:=nQ;have g6:¬(6:Int)<(m.length:Int):=nQ;clear hd kL Re Rb;go_enter Tryz.func63,Tryz.ntmps63;go_wp2_with fail;go_ret2;exact iG HN.out ag
theorem ia(t:bz)(hl:t.length<=1048576)(w:nJ):Calls nH 63 #[.string (str t)] w (wm (numOf t) w):=by
 cases t with
 |nil=>
  have HN:=qh TN
  go_enter Tryz.func63,Tryz.ntmps63
  go_wp2_with fail
  go_ret2
  exact iG HN.out ag
 |cons b r=>
  by_cases hb:b=45
  ·subst hb;exact TO r (by simp at hl;omega) w
  ·exact TM (b::r) b rfl hb hl w
end
section
open Hd
theorem cF(x l:bz):((str x).toList==l)=decide (x=l):=by
 rw[oB,jd];by_cases h:x=l
 ·subst h;simp
 ·simp[h]
theorem dN(t:bz)(o:Option Wd)(h:nu t=o)(d:Wd):((str t).toList==cj d)=decide (o=some d):=by
 rw[cF];by_cases hd:t=cj d
 ·rw[decide_eq_true hd,decide_eq_true (by rw[<-h];exact dI.2 hd)]
 ·rw[decide_eq_false hd,decide_eq_false (fun e=>hd (dI.1 (by rw[h];exact e)))]
theorem cS(t:bz)(o:Option Wd)(h:nu t=o):((str t).toList==[119,105,110,100])=decide (o=some .aP)/\((str t).toList==[99,117,114,114,101,110,116])=decide (o=some .current)/\((str t).toList==[104,101,97,118,121])=decide (o=some .gE)/\((str t).toList==[116,111,114,110])=decide (o=some .ah)/\((str t).toList==[114,111,112,101])=decide (o=some .ng)/\((str t).toList==[109,101,110,100,101,114,115])=decide (o=some .ey)/\((str t).toList==[109,101,110,100,101,100])=decide (o=some .eX)/\((str t).toList==[112,97,114,116])=decide (o=some .part)/\((str t).toList==[98,97,114,114,101,108])=decide (o=some .fM)/\((str t).toList==[115,97,102,101])=decide (o=some .safe)/\((str t).toList==[115,116,111,114,109])=decide (o=some .gy)/\((str t).toList==[108,111,115,115])=decide (o=some .kr)/\((str t).toList==[100,111,110,101])=decide (o=some .done)/\((str t).toList==[115,97,108,116])=decide (o=some .fU)/\((str t).toList==[98,117,121])=decide (o=some .yu)/\((str t).toList==[101,97,114,108,121])=decide (o=some .early)/\((str t).toList==[110,101,101,100])=decide (o=some .nw)/\((str t).toList==[111,114,100,101,114])=decide (o=some .order)/\((str t).toList==[112,97,99,107])=decide (o=some .pack)/\((str t).toList==[102,111,114,103,101,116])=decide (o=some .forget):=
 ⟨dN t o h .aP,dN t o h .current,dN t o h .gE,dN t o h .ah,dN t o h .ng,dN t o h .ey,dN t o h .eX,dN t o h .part,dN t o h .fM,dN t o h .safe,dN t o h .gy,dN t o h .kr,dN t o h .done,dN t o h .fU,dN t o h .yu,dN t o h .early,dN t o h .nw,dN t o h .order,dN t o h .pack,dN t o h .forget⟩
end
section
open Hd
def kdO(o:Option Wd):Nat:=match o with|none=>0|some d=>cN d
def arO(o:Option Wd):Nat:=match o with|none=>0|some d=>tq d
theorem Dp(t:bz)(w:nJ):Calls nH 128 #[.string (str t)] w fun e w'=>e=.returned (.tuple #[.int .i64 (kdO (nu t):Nat),.int .i64 (arO (nu t):Nat)])/\∃δ,w'=af w δ:=by
 obtain⟨o,ho⟩:∃o,nu t=o:=⟨_,rfl⟩;have F:=cS t o ho;rw[ho];clear ho;obtain⟨f0,f1,f2,f3,f4,f5,f6,f7,f8,f9,f10,f11,f12,f13,f14,f15,f16,f17,f18,f19⟩:=F;rcases o with _|d
 ·simp only[reduceCtorEq,decide_false] at f0 f1 f2 f3 f4 f5 f6 f7 f8 f9 f10 f11 f12 f13 f14 f15 f16 f17 f18 f19;go_enter Tryz.func128,Tryz.ntmps128;go_wp2;go_ret2;exact⟨rfl,ag⟩
 ·cases d;all_goals simp only[Option.some.injEq,reduceCtorEq,decide_false,decide_true] at f0 f1 f2 f3 f4 f5 f6 f7 f8 f9 f10 f11 f12 f13 f14 f15 f16 f17 f18 f19;go_enter Tryz.func128,Tryz.ntmps128;go_wp2;go_ret2;exact⟨rfl,ag⟩
end
section
open Hd
def ek(B:Nat)(w:nJ)(v:nK):Option dU->Prop
 |none=>v=.agg #[.int .i64 0,.string ⟨#[]⟩,.slice none 0 0]
 |some c=>∃A cap,v=.agg #[.int .i64 (cN c.w:Nat),.string (str (cj c.w)),.slice A c.a.length cap]/\fN 3 aI B w A cap c.a
theorem ek.wide{B:Nat}{w w':nJ}{v:nK}{o:Option dU}(h:ek B w v o)[hg:au B w w'][hB:Le B w']:ek w'.heap.size w' v o:=by
 cases o with
 |none=>exact h
 |some c=>obtain⟨A,cap,h1,h2⟩:=h;exact⟨A,cap,h1,h2.wide⟩
theorem fN.ep{α:Type}{enc:α->List nK}{T T':TypeId}{B g i:Nat}{w:nJ}{A:Option Addr}{c:Nat}{xs:List α}{cs:Array nK}{u:nK}(h:fN T enc B w A c xs)(hb:ax w g T' cs)(hne:T'≠T):fN T enc B (w.setCell ⟨g,i,none⟩ u) A c xs:=
 h.lQ (nR _) fun b cur fr _ hh=>by refine Below.heap_setCell w ⟨g,i,none⟩ u b ?_;rintro rfl;unfold ax at hb;rw[hb] at hh;injection hh with hh;injection hh with _ ht;exact hne ht
theorem ek.ep{B g i:Nat}{w:nJ}{v u:nK}{o:Option dU}{T':TypeId}{cs:Array nK}(h:ek B w v o)(hb:ax w g T' cs)(hne:T'≠3):ek B (w.setCell ⟨g,i,none⟩ u) v o:=by
 cases o with
 |none=>exact h
 |some c=>obtain⟨A,cap,h1,h2⟩:=h;exact⟨A,cap,h1,h2.ep hb hne⟩
def tT(o:Option dU)(w:nJ)(e:Ending)(w':nJ):Prop:=∃v δ,e=.returned v/\w'=af w δ/\ek (af w δ).heap.size (af w δ) v o
theorem qO{o:Option dU}{w w':nJ}(h:o=none)(hl:∃δ,w'=af w δ):tT o w (.returned (.agg #[.int .i64 0,.string ⟨#[]⟩,.slice none 0 0])) w':=by subst h;obtain⟨δ,rfl⟩:=hl;exact⟨_,δ,rfl,rfl,rfl⟩
theorem Iu{o:Option dU}{w w':nJ}{c:dU}{A:Option Addr}{cap ln:Nat}{k:Int}{s:ByteArray}(h:o=some c)(hk:k=(cN c.w:Nat))(hs:s=str (cj c.w))(hn:c.a.length=ln)(hl:∃δ,w'=af w δ)(hS:fN 3 aI w'.heap.size w' A cap c.a):tT o w (.returned (.agg #[.int .i64 k,.string s,.slice A ln cap])) w':=by subst h hk hs hn;obtain⟨δ,rfl⟩:=hl;exact⟨_,δ,rfl,rfl,A,cap,rfl,hS⟩
theorem Xe(d:Wd):1<=cN d/\cN d<=5:=by cases d<;>decide
theorem aat(d:Wd):tq d<=4:=by cases d<;>decide
theorem zo(ws:List bz)(A:Option Addr)(c:Nat)(hl:∀t∈ws,t.length<=1048576)(h1k:ws.length<=1048577)(B:Nat)(w:nJ)(hS:Sl aX B w A c ws)[hB:Le B w]:Calls nH 62 #[.slice A ws.length c] w (tT (bM ws) w):=by
 cases ws with
 |nil=>
  clear hS
  go_enter Tryz.func62,Tryz.ntmps62
  go_wp2
  refine bodyPost_ret (v:=.agg #[.int .i64 0,.string ⟨#[]⟩,.slice none 0 0]) ?_ rfl ?_
  ·simp only[results,Tryz.results62];go_simp
  ·exact qO rfl ag
 |cons t r=>
  have HS:=qh hS
  have HL:=qh hl
  obtain⟨b,o,rfl,hb,d0⟩:=hS.mh (k:=0) nV
  have ib:Lt b w:=⟨nL hb hB.out⟩
  have d0':w.cell? ⟨b,o,none⟩=some (.string (str t)):=by have:=d0;simp only[Nat.add_zero] at this;exact this
  have hlen:(t::r).length=r.length+1:=rfl
  have hz:((r.length:Int)+1==0)=false:=by simp;omega
  have ZF:(0:Int)<(r.length:Int)+1:=nQ
  clear hS hl d0 hb
  rcases ho:nu t with _|d
  ·have HN:Hid (bM (t::r)=none):=qh (GZ ho);have HK:Hid (kdO (nu t)=0):=by unfold Hid;rw[ho];rfl
   clear ho;go_enter Tryz.func62,Tryz.ntmps62;go_wp2_with (go_at_call 128;refine(Dp t _).mono ?_;rw[HK.out];rintro e w1 ⟨rfl,δ1,rfl⟩);refine bodyPost_ret (v:=.agg #[.int .i64 0,.string ⟨#[]⟩,.slice none 0 0]) ?_ rfl ?_
   ·simp only[results,Tryz.results62];go_simp
   ·exact qO HN.out ag
  ·have HK:Hid (kdO (nu t)=cN d/\arO (nu t)=tq d):=by unfold Hid;rw[ho];exact⟨rfl,rfl⟩
   have HW:Hid (t=cj d):=qh (dI.1 ho);have HC:Hid (bM (t::r)=(cR r).bind fun a=>if a.length=tq d then some ⟨d,a⟩ else none):=by unfold Hid;show rV (nu t) (cR r)=_;rw[ho];rfl
   have hkp:=Xe d;have hap:=aat d;obtain⟨kd,JZ⟩:∃kd,cN d=kd:=⟨_,rfl⟩;obtain⟨ar,har⟩:∃ar,tq d=ar:=⟨_,rfl⟩;rw[JZ] at HK hkp;rw[har] at HK hap HC;have hk0:((kd:Int)==0)=false:=by simp;omega
   have HKD:=qh JZ;clear ho JZ har;by_cases hn:r.length=ar
   ·have hq:((r.length:Int)+1 != (ar:Int)+1)=false:=by simp;omega
    have Y2:=qh hn;clear hn;go_enter Tryz.func62,Tryz.ntmps62;go_wp2_with (go_at_call 128;refine(Dp t _).mono ?_;rw[HK.out.1,HK.out.2];rintro e w1 ⟨rfl,δ1,hw⟩;have z1:ax w1 w.heap.size 66 #[.int .i64 0,.string ⟨#[]⟩,.slice none 0 0]:=(by rw[hw];exact(ax.new rfl).af _);have g3:au w.heap.size w w1:=(by rw[hw];infer_instance);have g4:Le w.heap.size w1:=(by rw[hw];infer_instance);have g5:au B w w1:=(by rw[hw];infer_instance);have g6:Le B w1:=(by rw[hw];infer_instance);have ib1:Lt b w1:=(by rw[hw];infer_instance);have d1:w1.cell? ⟨b,o,none⟩=some (.string (str t)):=(by rw[hw];go_simp);clear hw);have iz:Lt w.heap.size w1:=z1.lt;refine aL fun W1 aH=>?_;obtain⟨cJ,dF,cU,dA,dD⟩:=Au B w aH;have eI:Lt (w1.heap.size) W1:=nt aH;have Z1:Hid (ax W1 w.heap.size 66 #[.int .i64 0,.string ⟨#[]⟩,.slice none 0 0]):=by rw[aH.out];exact z1.alloc _
    have X1:Hid (ax W1 w1.heap.size 66 #[.int .i64 kd,.string (str t),.slice none 0 0]):=by rw[aH.out];exact ax.new rfl
    have ZM:w1.heap.size<W1.heap.size:=X1.out.tN;have ZN:w.heap.size<W1.heap.size:=Z1.out.tN;have hne:w.heap.size≠w1.heap.size:=by have:=z1.tN;omega
    clear aH z1 d1;go_loopg [6,7,8] r.length (fun gg i n is wr=>∃(k cap:Nat) (A1:Option Addr) (a:List Int),k<=r.length/\gg=r.length-k/\i=.int .i64 ((k:Int)+1)/\Hid (cR (r.take k)=some a)/\Hid (ax wr w1.heap.size 66 #[.int .i64 kd,.string (str t),.slice A1 a.length cap])/\Hid (wr.ownsRow W1.heap.size 3 1 (.slice A1 a.length cap) a.length (a.flatMap aI))/\Hid (ax wr w.heap.size 66 #[.int .i64 0,.string ⟨#[]⟩,.slice none 0 0])/\au B w wr/\Le B wr/\au w.heap.size w wr/\Le W1.heap.size wr)
    case atStart=>exact⟨0,0,none,[],nE _,rfl,rfl,qh rfl,X1,qh (World.ownsRow_nil _ _ _ _),Z1,inferInstance,inferInstance,inferInstance,inferInstance⟩
    case round=>
     obtain⟨k,cap,A1,a,hk,rfl,rfl,HA,HX,HO,HZ,i1,i2,i3,i4⟩:=hrel;have jx:=HX.out.lt;have jz:=HZ.out.lt;have cx0:=HX.out.cell (i:=0) rfl;have cx1:=HX.out.cell (i:=1) rfl;have cx2:=HX.out.cell (i:=2) rfl;have fx2:=HX.out.free 2;have iw:Le w.heap.size wr:=⟨nT (nS ZN) i4.out⟩;have hrl:r.length<=1048576:=nQ;have hab:a.length<=1048577:=by have:=oM HA.out;rw[List.length_take] at this;omega
     by_cases hlt:k<r.length
     ·have hki:(k:Int)+1<(r.length:Int)+1:=nQ;have agj:¬(k:Int)+1<0:=nQ;obtain⟨b2,o2,vU,gM,dk⟩:=(HS.out.up (w':=wr)).mh (k:=k+1) nQ;injection vU with vU;injection vU with NQ XT;subst NQ XT;have jb:Lt b wr:=⟨nL gM i2.out⟩;rw[show nth (t::r) (k+1)=nth r k from rfl] at dk;have HLK:Hid ((nth r k).length<=1048576):=qh (HL.out _ (by simp[aV r hlt]));obtain⟨u,hu⟩:∃u,nth r k=u:=⟨_,rfl⟩;have Yx:Hid (u∈r):=qh (by rw[<-hu];exact aV r hlt);have HTK:Hid (r.take (k+1)=r.take k++[u]):=qh (by rw[bE r hlt,hu]);rw[hu] at dk HLK;clear hu gM;rcases hn:numOf u with _|n
      ·have HN:Hid (bM (t::r)=none):=by unfold Hid;rw[HC.out,tK Yx.out hn];rfl
       have iX:Hid (Ql (numOf u)=0/\(numOf u).isSome=false):=by unfold Hid;rw[hn];exact⟨rfl,rfl⟩
       have cz0:=HZ.out.cell (i:=0) rfl;have cz1:=HZ.out.cell (i:=1) rfl;have cz2:=HZ.out.cell (i:=2) rfl;have fz0:=HZ.out.free 0;have fz1:=HZ.out.free 1;have fz2:=HZ.out.free 2;clear hn;go_wp2_with (go_at_call 63;refine(ia u HLK.out _).mono ?_;rintro e w2 ⟨rfl,δ2,rfl⟩;rw[iX.out.1,iX.out.2]);refine bodyPost_ret (v:=.agg #[.int .i64 0,.string ⟨#[]⟩,.slice none 0 0]) ?_ rfl ?_
       ·simp only[results,Tryz.results62];go_simp
       ·exact qO HN.out ag
      ·have iX:Hid (Ql (numOf u)=n/\(numOf u).isSome=true):=by unfold Hid;rw[hn];exact⟨rfl,rfl⟩
       have HA':Hid (cR (r.take (k+1))=some (a++[n])):=by unfold Hid;rw[HTK.out,Cl,HA.out,hn];rfl
       clear hn;go_wp2_with (first|(go_at_call 63;refine(ia u HLK.out _).mono ?_;rintro e w2 ⟨rfl,δ2,rfl⟩;rw[iX.out.1,iX.out.2])|(at_builtin;(refine cq W1 wo (.tmp 53) (.tmp 55) rfl rfl (bg HO.out) rfl rfl nW rfl (by simp[Value.oneCell']) nQ nQ ?_);intro A' c' δ' hown' hg;have Bg:=qh hown';clear hown' hg));go_roundg (r.length-(k+1))
       case measure=>omega
       case rel=>
        refine⟨k+1,c',A',a++[n],nQ,rfl,by go_num,HA',?_,?_,?_,inferInstance,inferInstance,inferInstance,inferInstance⟩
        ·rw[List.length_append];exact qh (ax.set (cs:=#[.int .i64 kd,.string (str t),.slice A1 a.length cap]) (((HX.out.af δ2).alloc _).ez ZM _) 2 _)
        ·rw[List.length_append,List.flatMap_append];exact qh (dh Bg.out (eZ Bg.out (((HX.out.af δ2).alloc _).ez ZM _) nU))
        ·exact qh (ax.fD (((HZ.out.af δ2).alloc _).ez ZN _) hne _)
     ·obtain rfl:k=r.length:=by omega
      have hA:=HA.out;rw[List.take_length] at hA;have Wa:Hid (bM (t::r)=some ⟨d,a⟩):=by unfold Hid;rw[HC.out,hA,Option.bind_some,if_pos (by rw[oM hA,Y2.out])]
      have cz0:=HZ.out.cell (i:=0) rfl;have cz1:=HZ.out.cell (i:=1) rfl;have cz2:=HZ.out.cell (i:=2) rfl;have fz0:=HZ.out.free 0;have fz1:=HZ.out.free 1;have fz2:=HZ.out.free 2;have hkn:¬((r.length:Int)+1<(r.length:Int)+1):=nQ;clear hA;go_wp2_with fail;refine bodyPost_ret (v:=.agg #[.int .i64 kd,.string (str t),.slice A1 a.length cap]) ?_ rfl ?_
      ·simp only[results,Tryz.results62];go_simp
      ·refine Iu Wa.out (by rw[<-HKD.out]) (by rw[<-HW.out]) rfl ag ?_;refine fN.bU (base:=W1.heap.size) (size:=1) (n:=a.length) ?_ rfl;iterate 3 (refine dh ?_ (eZ HO.out HZ.out nU))
       exact HO.out
   ·have hq:((r.length:Int)+1 != (ar:Int)+1)=true:=by simp;omega
    have HN:Hid (bM (t::r)=none):=by
     unfold Hid;rw[HC.out];cases hx:cR r with
     |none=>rfl
     |some a=>simp only[Option.bind_some];rw[if_neg (by rw[oM hx];exact hn)]
    clear hn HC;go_enter Tryz.func62,Tryz.ntmps62;go_wp2_with (go_at_call 128;refine(Dp t _).mono ?_;rw[HK.out.1,HK.out.2];rintro e w1 ⟨rfl,δ1,rfl⟩);refine bodyPost_ret (v:=.agg #[.int .i64 0,.string ⟨#[]⟩,.slice none 0 0]) ?_ rfl ?_
    ·simp only[results,Tryz.results62];go_simp
    ·exact qO HN.out ag
end
section
open Hd
theorem IL{l:bz}{k:Nat}{b:UInt8}(hb:l[k]?=some b):bG (l.take (k+1))=if b=32 then bG (l.take k)++[[]] else MM b (bG (l.take k)):=by rw[List.take_add_one,hb];exact IM _ _
theorem IN(l:bz):∃ws w,bG l=ws++[w]:=by
 rcases List.eq_nil_or_concat (bG l) with h|⟨ws,w,h⟩
 ·exact absurd h (oC l)
 ·exact⟨ws,w,by rw[h,List.concat_eq_append]⟩
theorem xq(ws:List bz):ws.flatMap aX=ws.map fun t=>Value.string (str t):=by
 induction ws with
 |nil=>rfl
 |cons w ws ih=>rw[List.flatMap_cons,ih];rfl
theorem NV(ws:List bz)(u v:bz):((ws++[u]).flatMap aX).set ws.length (.string (str v))=(ws++[v]).flatMap aX:=by rw[xq,xq,List.map_append,List.map_append,List.set_append_right _ _ nV];simp
theorem UD(ws:List bz)(u:bz):((ws++[u]).flatMap aX)[ws.length]?=some (.string (str u)):=by rw[xq,List.getElem?_map,List.getElem?_append_right (nR _)];simp
theorem wP(l:bz)(hl:l.length<=1048576)(w:nJ):Calls nH 61 #[.string (str l)] w fun e w'=>∃A c,e=.returned (.slice A (bG l).length c)/\Sl aX w'.heap.size w' A c (bG l)/\∃δ,w'=af w δ:=by
 go_enter Tryz.func61,Tryz.ntmps61;go_wp2_with fail;go_loopg [3,4] l.length (fun gg o i wr=>∃(k c:Nat) (A:Option Addr),k<=l.length/\gg=l.length-k/\o=.slice A (bG (l.take k)).length c/\i=.int .i64 k/\Hid (wr.ownsRow w.heap.size 9 1 (.slice A (bG (l.take k)).length c) (bG (l.take k)).length ((bG (l.take k)).flatMap aX))/\au w.heap.size w wr/\Le w.heap.size wr)
 case atStart=>exact⟨0,1,some ⟨w.heap.size,0,none⟩,nE _,rfl,rfl,rfl,qh (Fx (n:=1) (nR _) rfl nQ rfl),inferInstance,inferInstance⟩
 case round=>
  obtain⟨k,c,A,hk,rfl,rfl,rfl,HO,i1,i2⟩:=hrel;by_cases hlt:k<l.length
  ·have hki:(k:Int)<(l.length:Int):=nQ;obtain⟨b,hb⟩:∃b,l[k]?=some b:=⟨l[k],by simp[hlt]⟩;have x1:=fun(W:nJ) t q hh=>tP (P:=nH) W t q l (k:Int) k rfl b hh hb;have HT:=qh (IL hb);have ym:=(jv (l.take k)).1;have rR:=(jv (l.take k)).2;rw[List.length_take] at ym rR;obtain⟨ws,u,pO⟩:=IN (l.take k);rw[pO] at HO HT ym rR ⊢;have hul:u.length<=1048576:=by have:=rR u nV;omega
   have Uk:ws.length<=1048577:=by rw[List.length_append] at ym;simp at ym;omega
   clear hb pO ym rR;by_cases h32:b=32
   ·have Io:=qh (HT.out.trans (if_pos h32));subst h32;have e32:((UInt8.toNat 32:Nat):Int)=32:=rfl;go_wp2_with (at_builtin;(refine cq w YE (.tmp 16) (.tmp 17) rfl rfl HO.out rfl rfl nW rfl (by simp[Value.oneCell']) (by simp;omega) nQ ?_);intro A' c' δ' hown' hg);go_roundg (l.length-(k+1))
    case measure=>omega
    case rel=>refine⟨k+1,c',A',nQ,rfl,by rw[Io.out];simp,by go_num,?_,inferInstance,inferInstance⟩;rw[Io.out];refine qh ?_;rw[List.length_append,List.flatMap_append];exact hown'
   ·have Io:=qh (HT.out.trans (if_neg h32));rw[ML] at Io;have n32:((b.toNat:Int)==32)=false:=by simp;intro e;exact h32 (UInt8.toNat_inj.1 (show b.toNat=(32:UInt8).toNat by simpa using (by omega:b.toNat=32)))
    obtain⟨g,rfl,hg0,hg1,hc,hf⟩:=qV HO.out nV;have d1:=hc ws.length _ (UD ws u);have f1:=hf ws.length;have iN:oy w.heap.size g:=⟨hg0⟩;have a1:=fun(W:nJ)=>gp (P:=nH) W u [b] (by simp;omega);have b1:=fun(W:nJ) (g c:Nat) (h:W.cell? ⟨g,0,none⟩=some (.int .u8 b.toNat))=>Hq W g c b h;obtain⟨m,hm⟩:∃m,(ws++[u]).length=m:=⟨_,rfl⟩;have hmw:m=ws.length+1:=by rw[<-hm];simp
    obtain⟨p,hp⟩:∃p,ws.length=p:=⟨_,rfl⟩;have HP:=qh hp;rw[hm] at HO ⊢;rw[hp] at d1 f1;have hmp:IntKind.i64.wrap ((m:Int)-1)=(p:Int):=by rw[IntWalk.i64_in];omega;omega
    have hpm:(p:Int)<(m:Int):=nQ;have ZG:¬(p:Int)<0:=nQ;have HM:=qh hm;clear hc hf h32 hm hp hmw;go_wp2_with fail;go_region;go_wp2_with fail;go_roundg (l.length-(k+1))
    case measure=>omega
    case rel=>
     have hlen:(ws++[u++[b]]).length=m:=by rw[<-HM.out];simp
     refine⟨k+1,c,some ⟨g,0,none⟩,nQ,rfl,by rw[Io.out,hlen],by go_num,?_,inferInstance,inferInstance⟩;rw[Io.out,hlen,<-NV ws u (u++[b]),HP.out];refine qh ?_;exact(pL HO.out (by have:=HO.out.1;rw[this,Nat.mul_one];exact Int.ofNat_lt.1 hpm)).alloc _
  ·obtain rfl:k=l.length:=by omega
   go_wp2_with fail;go_ret;have HO:=HO.out;rw[List.take_length] at HO ⊢;exact⟨A,c,rfl,Sl.bU HO,ag⟩
end
end Go.Proofs.YtdmedlkonaclnaaGreatDoor
