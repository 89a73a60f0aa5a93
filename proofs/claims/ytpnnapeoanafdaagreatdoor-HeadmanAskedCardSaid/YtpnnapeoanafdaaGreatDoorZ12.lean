/- A part of the proof that a law of layer 12 holds, cut small by a program (names and blanks): Hw1, Hw2, Hw3, Hw0, Hw4, Hw6, Hw5. -/
import Derived.Test.YtpnnapeoanafdaaGreatDoorZ10
import Derived.Test.YtpnnapeoanafdaaGreatDoorZ11
set_option maxRecDepth 100000
set_option maxHeartbeats 40000000
set_option linter.unusedVariables false
set_option linter.unusedSimpArgs false
namespace Go.Proofs.YtpnnapeoanafdaaGreatDoor
open Go.RowKit
open Nat renaming le_trans → nT, lt_of_lt_of_le → nL, le_refl → nR, zero_le → nE, le_of_lt → nS
open Go.Proofs.Tryz renaming prog → nH
open Go renaming World → nJ, Value → nK
section
open Hd
theorem Xw:∀x:Fin 10,IntKind.u8.wrap (48+(x.val:Int))=((48+x.val:Nat):Int):=by decide
theorem DO(x:Nat)(hx:x<10)(b:UInt8)(hb:b.toNat=48+x)(w:nJ):Calls nH 34 #[.int .i64 x] w fun e w'=>e=.returned (.string (str [b]))/\∃δ,w'=ah w δ:=by
 have h0:¬(x:Int)<0:=nQ;have h1:(x:Int)<10:=nQ;have w1:IntKind.u8.wrap (48+(x:Int))=(b.toNat:Int):=by rw[hb];exact Xw ⟨x,hx⟩
 have b1:=fun(W:nJ) (g c:Nat) (h:W.cell? ⟨g,0,none⟩=some (.int .u8 b.toNat))=>IW W g c b h;clear hb;go_enter Tryz.func34,Tryz.ntmps34;go_wp2;go_ret;exact⟨rfl,ag⟩
theorem ES{x:Nat}(h:x<10):Lib.decDigits x=[UInt8.ofNat (48+x)]:=by rw[Lib.decDigits,dif_pos h]
theorem Tf{n:Nat}(h:¬n<10):Lib.decDigits n=Lib.decDigits (n / 10)++[UInt8.ofNat (48+n % 10)]:=by rw[Lib.decDigits,dif_neg h]
theorem Mm(k:Nat)(hk:k<=9):∀(n:Nat),n<10 ^ (k+1)->∀(l:aQ),Lib.decDigits n=l->∀w:nJ,Calls nH 34 #[.int .i64 n] w fun e w'=>e=.returned (.string (str l))/\∃δ,w'=ah w δ:=by
 induction k with
 |zero=>
  intro n hn l hl w
  rw[<-hl,ES nQ]
  exact DO n nQ _ (OD nQ) w
 |succ k ih=>
  intro n hn l hl w
  by_cases h10:n<10
  ·rw[<-hl,ES h10];exact DO n h10 _ (OD h10) w
  ·have hb:n<10000000000:=nL hn (Nat.pow_le_pow_right (n:=10) (j:=10) nQ nQ);have hq:n / 10<10 ^ (k+1):=by rw[Nat.pow_succ] at hn;omega
   have e:=Tf h10;rw[hl] at e;obtain⟨x,hx⟩:∃x,Lib.decDigits (n / 10)=x:=⟨_,rfl⟩;rw[hx] at e;have hxl:x.length<=20:=by rw[<-hx];exact nT ((dQ (n / 10)).2.2.2.2 k hq) nQ
   have HX:=qh hx;have HD:Hid (Lib.decDigits (n % 10)=[UInt8.ofNat (48+n % 10)]):=qh (ES nQ);have HI:=qh (ih nQ);have HQ:=qh hq;obtain⟨q,hqq⟩:∃q,n / 10=q:=⟨_,rfl⟩;obtain⟨m,hm⟩:∃m,n % 10=m:=⟨_,rfl⟩;have d1:(n:Int).tdiv 10=(q:Int):=by rw[Int.tdiv_eq_ediv_of_nonneg nQ];omega
   have d2:(n:Int).tmod 10=(m:Int):=by rw[Int.tmod_eq_emod_of_nonneg nQ];omega
   have hm9:m<10:=nQ;have hqb:q<1000000000:=nQ;rw[hqq] at HX HQ;rw[hm] at HD e;have a1:=fun(W:nJ)=>eA (P:=nH) W x [UInt8.ofNat (48+m)] (by simp;omega);rw[<-e] at a1;have HM:Hid ((UInt8.ofNat (48+m)).toNat=48+m):=qh (OD hm9);have h0:¬(n:Int)<0:=nQ;have h1:¬(n:Int)<10:=nQ;have HM9:=qh hm9;obtain⟨b,ij⟩:∃b,UInt8.ofNat (48+m)=b:=⟨_,rfl⟩;rw[ij] at HM a1;clear ih hq hx e hm hqq hl ij HD;go_enter Tryz.func34,Tryz.ntmps34;go_wp2_with (first|(go_at_call 34;(with_reducible refine Calls.mono (HI.out q HQ.out x HX.out _) ?_);rintro e w1 ⟨rfl,δ1,rfl⟩)|(go_at_call 34;(with_reducible refine Calls.mono (DO m HM9.out b HM.out _) ?_);rintro e w1 ⟨rfl,δ2,rfl⟩));go_ret;exact⟨rfl,ag⟩
theorem yU(n:Int)(hn:-10000<=n/\n<=1000000)(l:aQ)(hl:Lib.itoa n=l)(w:nJ):Calls nH 34 #[.int .i64 n] w fun e w'=>e=.returned (.string (str l))/\∃δ,w'=ah w δ:=by
 unfold Lib.itoa at hl;by_cases h0:n<0
 ·rw[if_pos h0] at hl;obtain⟨m,hm⟩:∃m:Nat,-n=m:=⟨n.natAbs,nQ⟩;have e:n.natAbs=m:=nQ;rw[e] at hl;have hb:m<10 ^ (8+1):=by simp;omega
  obtain⟨x,hx⟩:∃x,Lib.decDigits m=x:=⟨_,rfl⟩;rw[hx] at hl;have hxl:x.length<=9:=by rw[<-hx];exact(dQ m).2.2.2.2 8 hb
  have a1:=fun(W:nJ)=>eA (P:=nH) W [45] x (by simp;omega);have a2:∀W:nJ,(Op.stringOp .add (⟨#[45]⟩:ByteArray) (str x)).run nH W=.ok (.string (str l)) W:=by intro W;rw[<-hl];exact a1 W
  have HX:=qh hx;have HB:=qh hb;have HM:=qh hm;clear hx hb e hl a1;go_enter Tryz.func34,Tryz.ntmps34;go_wp2_with (go_at_call 34;refine(Mm 8 nQ m HB.out x HX.out _).mono ?_;rintro e w1 ⟨rfl,δ1,rfl⟩);go_ret;exact⟨rfl,ag⟩
 ·rw[if_neg h0] at hl;obtain⟨m,rfl⟩:∃m:Nat,n=m:=⟨n.toNat,nQ⟩;exact Mm 8 nQ m (by simp;omega) l (by simpa using hl) w
end
section
open Hd
theorem As(x:Int):∀ {l:List Int},l≠[]->gI (l++[x])=gI l++32::Lib.itoa x
 |[],h=>absurd rfl h
 |[y],_=>rfl
 |y::z::r,_=>by have ih:=As x (l:=z::r) nV;rw[List.cons_append,List.cons_append,gI];rw[List.cons_append] at ih;rw[ih,gI];simp
theorem Ii{l:List Int}(h:Uk l){k:Nat}(hk:k<l.length):-10000<=nth l k/\nth l k<=1000000:=by have:=h.2 _ (aR l hk);omega
theorem SU{l:List Int}(h:Uk l)(k:Nat):(gI (l.take k)).length<=18:=by have h1:=tO (l:=l.take k) fun x hx=>h.2 x (List.mem_of_mem_take hx);have h2:=h.1;rw[List.length_take] at h1;omega
theorem UN(l:List Int)(hf:Uk l)(A:Option Addr)(c:Nat)(B:Nat)(w:nJ)(hS:Sl aI B w A c l)[hB:Le B w]:Calls nH 183 #[.slice A l.length c] w fun e w'=>e=.returned (.string (str (pP l)))/\∃δ,w'=ah w δ:=by
 have HS:=qh hS;have HF:=qh hf;have h6:=hf.1;clear hS hf;by_cases h0:l=[]
 ·have HE:=qh (show pP l=vj from if_pos h0);have hz:((l.length:Int)==0)=true:=by rw[h0];rfl
  clear h0;go_enter Tryz.func183,Tryz.ntmps183;go_wp2;go_ret;exact⟨by rw[HE.out];rfl,ag⟩
 ·have hpos:0<l.length:=List.length_pos_iff.2 h0;have HE:=qh (show pP l=gI l from if_neg h0);have hz:((l.length:Int)==0)=false:=by simp;omega
  have hp1:(0:Int)<(l.length:Int):=nQ;obtain⟨b,o,rfl,hb,d0⟩:=HS.out.int hpos;have ib:Lt b w:=⟨nL hb hB.out⟩;simp only[Nat.add_zero] at d0;have HT:=qh (Ii HF.out hpos);have H1:Hid (gI (l.take 1)=Lib.itoa (nth l 0)):=by
   unfold Hid;cases l with
   |nil=>exact absurd rfl h0
   |cons x r=>rfl
  clear h0 hb;go_enter Tryz.func183,Tryz.ntmps183;go_wp2_with (go_at_call 34;refine(yU (nth l 0) HT.out _ H1.out.symm _).mono ?_;rintro e w1 ⟨rfl,δ0,rfl⟩);go_loopg [3,4] (l.length-1) (fun gg out i wr=>∃(k:Nat) (δ:nJ),1<=k/\k<=l.length/\gg=l.length-k/\out=.string (str (gI (l.take k)))/\i=.int .i64 k/\wr=ah w δ)
  case atStart=>exact⟨1,_,nR _,hpos,rfl,rfl,rfl,ai⟩
  case round=>
   obtain⟨k,δ,AA,hk,rfl,rfl,rfl,rfl⟩:=hrel;by_cases hlt:k<l.length
   ·have hki:(k:Int)<(l.length:Int):=nQ;have hk0:¬(k:Int)<0:=nQ;obtain⟨b',o',hA,hb',dk⟩:=HS.out.int hlt;injection hA with hA;injection hA with B9 rz;subst B9 rz;have HTK:=qh (Ii HF.out hlt);have HN:Hid (gI (l.take (k+1))=gI (l.take k)++32::Lib.itoa (nth l k)):=by unfold Hid;rw[bz l hlt];refine As _ ?_;intro e;have:=congrArg List.length e;rw[List.length_take,List.length_nil] at this;omega
    have hjl:=SU HF.out k;obtain⟨x,hx⟩:∃x,Lib.itoa (nth l k)=x:=⟨_,rfl⟩;have hxl:x.length<=8:=by rw[<-hx];exact we 6 (by have:=HTK.out;omega)
    obtain⟨y,hy⟩:∃y,gI (l.take k)=y:=⟨_,rfl⟩;rw[hx,hy] at HN;rw[hy] at hjl ⊢;have a1:∀W:nJ,(Op.stringOp .add (⟨#[32]⟩:ByteArray) (str x)).run nH W=.ok (.string (str (32::x))) W:=fun W=>eA (P:=nH) W [32] x (by simp;omega);have a2:=fun(W:nJ)=>eA (P:=nH) W y (32::x) (by simp;omega);rw[<-HN.out] at a2;have HX:=qh hx;clear hx hy hb' HN;go_wp2_with (go_at_call 34;refine(yU (nth l k) HTK.out _ HX.out _).mono ?_;rintro e w1 ⟨rfl,δ1,rfl⟩);go_roundg (l.length-(k+1))
    case measure=>omega
    case rel=>exact⟨k+1,_,nQ,hlt,rfl,rfl,by go_num,ai⟩
   ·obtain rfl:k=l.length:=by omega
    go_wp2;go_ret;exact⟨by rw[HE.out];(first|rfl|(rw[List.take_length];rfl)),ag⟩
end
section
open Hd
theorem yz(l r:aQ):∀acc:Nat,Lib.decFrom acc (l++r)=(Lib.decFrom acc l).bind fun n=>Lib.decFrom n r:=by
 induction l with
 |nil=>intro acc;rfl
 |cons b l ih=>
  intro acc
  rw[List.cons_append,Lib.decFrom,Lib.decFrom]
  cases Lib.digitVal b with
  |none=>rfl
  |some d=>exact ih _
theorem ET{m:aQ}{k:Nat}{b:UInt8}(hb:m[k]?=some b)(hd:Lib.digitVal b=none):Lib.decFrom 0 m=none:=by
 have hk:=(List.getElem?_eq_some_iff.1 hb).1;have e:m=m.take k++b::m.drop (k+1):=by have h2:=(List.getElem?_eq_some_iff.1 hb).2;rw[<-h2,List.getElem_cons_drop,List.take_append_drop]
 rw[e,yz];cases Lib.decFrom 0 (m.take k) with
 |none=>rfl
 |some n=>simp only[Option.bind_some,Lib.decFrom,hd]
theorem AT{m:aQ}{k n d:Nat}{b:UInt8}(hb:m[k]?=some b)(hd:Lib.digitVal b=some d)(hn:Lib.decFrom 0 (m.take k)=some n):Lib.decFrom 0 (m.take (k+1))=some (n*10+d):=by rw[List.take_add_one,hb,yz,hn];simp only[Option.bind_some,Option.toList,Lib.decFrom,hd]
theorem AP{b:UInt8}(h:b.toNat<48\/57<b.toNat):Lib.digitVal b=none:=by unfold Lib.digitVal;rw[if_neg nQ]
theorem xI{b:UInt8}(h:¬b.toNat<48/\¬57<b.toNat):Lib.digitVal b=some (b.toNat-48):=by unfold Lib.digitVal;rw[if_pos nQ]
theorem Lx{l:aQ}{n k:Nat}(h:Lib.decFrom 0 l=some n)(hk:l.length<=k):n<10 ^ k:=by
 have key:∀(l:aQ) (acc n:Nat),Lib.decFrom acc l=some n->n<(acc+1)*10 ^ l.length:=by
  intro l;induction l with
  |nil=>intro acc n h;simp only[Lib.decFrom,Option.some.injEq] at h;subst h;simp
  |cons b l ih=>
   intro acc n h
   simp only[Lib.decFrom] at h
   cases hd:Lib.digitVal b with
   |none=>rw[hd] at h;cases h
   |some d=>
    rw[hd] at h
    have h1:=ih _ _ h
    have h2:=(xJ hd).1
    have h3:(acc*10+d+1)*10 ^ l.length<=((acc+1)*10)*10 ^ l.length:=Nat.mul_le_mul_right _ nQ
    rw[List.length_cons,Nat.pow_succ,Nat.mul_comm (10 ^ l.length) 10,<-Nat.mul_assoc]
    omega
 have:=key l 0 n h;rw[Nat.zero_add,Nat.one_mul] at this;exact nL this (Nat.pow_le_pow_right nQ hk)
def Rz(o:Option Int):Int:=o.getD 0
theorem SN{m:aQ}{k:Nat}(h:k<m.length):∃b,m[k]?=some b:=⟨m[k],by simp[h]⟩
theorem XV:∀k:Fin 7,10 ^ k.val<=1000000:=by decide
def wM(o:Option Int)(w:nJ)(e:Ending)(w':nJ):Prop:=e=.returned (.tuple #[.int .i64 (Rz o),.bool o.isSome])/\∃δ,w'=ah w δ
theorem iR{o:Option Int}{w w':nJ}(h:o=none)(hl:∃δ,w'=ah w δ):wM o w (.returned (.tuple #[.int .i64 0,.bool false])) w':=by subst h;exact⟨rfl,hl⟩
theorem zT{o:Option Int}{w w':nJ}{n:Int}(h:o=some n)(hl:∃δ,w'=ah w δ):wM o w (.returned (.tuple #[.int .i64 n,.bool true])) w':=by subst h;exact⟨rfl,hl⟩
theorem U9(m:aQ)(hl:m.length<=1000)(w:nJ):Calls nH 36 #[.string (str (45::m))] w (wM (numOf (45::m)) w):=by
 have hO:Hid (numOf (45::m)=if qi true m=true then (Lib.decFrom 0 m).map fun(n:Nat)=>-(n:Int) else none):=rfl;have q0:=fun(W:nJ) t k hh=>rq (P:=nH) W t k (45::m) 0 0 rfl 45 hh rfl;have q1:=fun(W:nJ) t k hh=>SO (P:=nH) W t k (45::m) 1 1 rfl m hh nV rfl;have e45:((UInt8.toNat 45:Nat):Int)=45:=rfl;have VI:(45::m).length=m.length+1:=rfl;by_cases hd:qi true m=true
 ·have Y1:Hid (numOf (45::m)=(Lib.decFrom 0 m).map fun(n:Nat)=>-(n:Int)):=qh (hO.out.trans (if_pos hd));unfold qi at hd;simp only[Bool.and_eq_true,decide_eq_true_eq,Bool.not_eq_true',Bool.and_eq_false_iff,decide_eq_false_iff_not,Bool.or_eq_false_iff] at hd;obtain⟨⟨h1,h6⟩,hz⟩:=hd;obtain⟨b1,kS⟩:=SN (m:=m) (k:=0) nQ;have p0:=fun(W:nJ) t k hh=>rq (P:=nH) W t k m 0 0 rfl b1 hh kS;have g1:¬(m.length:Int)<1:=nQ;have g6:¬(6:Int)<(m.length:Int):=nQ;rw[List.head?_eq_getElem?,kS] at hz;by_cases h48:b1=48
  ·subst h48;exfalso;rcases hz with hz|⟨_,hz⟩
   ·exact hz rfl
   ·exact absurd hz nV
  ·have n48:((b1.toNat:Int)==48)=false:=by simp;intro e;exact h48 (UInt8.toNat_inj.1 (show b1.toNat=(48:UInt8).toNat by simpa using (by omega:b1.toNat=48)))
   clear kS hz h48;go_enter Tryz.func36,Tryz.ntmps36;go_wp2_with fail;go_loopg [5,6] m.length (fun gg n i wr=>∃(k v:Nat) (δ:nJ),k<=m.length/\gg=m.length-k/\n=.int .i64 v/\i=.int .i64 k/\Hid (Lib.decFrom 0 (m.take k)=some v)/\wr=ah w δ)
   case atStart=>exact⟨0,0,w,nE _,rfl,rfl,rfl,rfl,(bw w).symm⟩
   case round=>
    obtain⟨k,v,δ,hk,rfl,rfl,rfl,HV,rfl⟩:=hrel;have hv6:v<1000000:=nL (Lx HV.out (k:=k) (by rw[List.length_take];omega)) (XV ⟨k,nQ⟩);by_cases hlt:k<m.length
    ·have hki:(k:Int)<(m.length:Int):=nQ;obtain⟨b,hb⟩:=SN hlt;refine QFA ?_;intro x1 MZ;by_cases Hx:b.toNat<48\/57<b.toNat
     ·have HN:Hid (numOf (45::m)=none):=qh (by rw[Y1.out,ET hb (AP Hx)];rfl);clear hb HV;rcases Hx with Hx|Hx
      ·have j1:(b.toNat:Int)<48:=nQ;go_wp2_with fail;go_ret2;exact iR HN.out ag
      ·have j1:¬(b.toNat:Int)<48:=nQ;have j2:(57:Int)<(b.toNat:Int):=nQ;go_wp2_with fail;go_ret2;exact iR HN.out ag
     ·have HN:=qh (AT hb (xI nQ) HV.out);refine QCP ?_;intro j1 j2 u1 d T7;rw[T7] at HN u1;have hd9:d<=9:=nQ;clear hb HV Hx T7;go_wp2_with fail;go_roundg (m.length-(k+1))
      case measure=>omega
      case rel=>exact⟨k+1,v*10+d,_,nQ,rfl,by go_num,by go_num,HN,ai⟩
    ·obtain rfl:k=m.length:=by omega
     have HN:Hid (numOf (45::m)=some (-(v:Int))):=qh (by have:=HV.out;rw[List.take_length] at this;rw[Y1.out,this];rfl);clear HV;go_wp2_with fail;go_ret2;exact zT HN.out ag
 ·have HN:Hid (numOf (45::m)=none):=qh (hO.out.trans (if_neg hd));by_cases h1:m.length<1
  ·have g1:(m.length:Int)<1:=nQ;clear hd;go_enter Tryz.func36,Tryz.ntmps36;go_wp2_with fail;go_ret2;exact iR HN.out ag
  by_cases h6:6<m.length
  ·have g1:¬(m.length:Int)<1:=nQ;have g6:(6:Int)<(m.length:Int):=nQ;clear hd;go_enter Tryz.func36,Tryz.ntmps36;go_wp2_with fail;go_ret2;exact iR HN.out ag
  obtain⟨b1,kS⟩:=SN (m:=m) (k:=0) nQ;have p0:=fun(W:nJ) t k hh=>rq (P:=nH) W t k m 0 0 rfl b1 hh kS;have h48:b1=48:=by unfold qi at hd;rw[List.head?_eq_getElem?,kS] at hd;apply Classical.byContradiction;intro hc;apply hd;have:¬(some b1=some 48):=fun e=>hc (Option.some.inj e);simp[this];omega
  subst h48;have e48:((UInt8.toNat 48:Nat):Int)=48:=rfl;have g1:¬(m.length:Int)<1:=nQ;have g6:¬(6:Int)<(m.length:Int):=nQ;clear hd kS;go_enter Tryz.func36,Tryz.ntmps36;go_wp2_with fail;all_goals go_ret2
  all_goals exact iR HN.out ag
theorem U8(m:aQ)(b1:UInt8)(kS:m[0]?=some b1)(Sw:b1≠45)(hl:m.length<=1000)(w:nJ):Calls nH 36 #[.string (str m)] w (wM (numOf m) w):=by
 have St:m.head?≠some 45:=by rw[List.head?_eq_getElem?,kS];intro e;injection e with e;exact Sw e
 have hO:Hid (numOf m=if qi false m=true then (Lib.decFrom 0 m).map fun(n:Nat)=>(n:Int) else none):=by unfold Hid numOf pn;simp only[if_neg St,decide_eq_false St]
 have q0:=fun(W:nJ) t k hh=>rq (P:=nH) W t k m 0 0 rfl b1 hh kS;have e45:((b1.toNat:Int)==45)=false:=by simp;intro e;exact Sw (UInt8.toNat_inj.1 (show b1.toNat=(45:UInt8).toNat by simpa using (by omega:b1.toNat=45)))
 have hpos:0<m.length:=(List.getElem?_eq_some_iff.1 kS).1;have hpi:(0:Int)<(m.length:Int):=nQ;by_cases hd:qi false m=true
 ·have Y1:Hid (numOf m=(Lib.decFrom 0 m).map fun(n:Nat)=>(n:Int)):=qh (hO.out.trans (if_pos hd));unfold qi at hd;simp only[Bool.and_eq_true,decide_eq_true_eq,Bool.not_eq_true',Bool.and_eq_false_iff,decide_eq_false_iff_not,Bool.or_eq_false_iff] at hd;obtain⟨⟨h1,h6⟩,hz⟩:=hd;have g1:¬(m.length:Int)<1:=nQ;have g6:¬(6:Int)<(m.length:Int):=nQ;rw[List.head?_eq_getElem?,kS] at hz;by_cases h48:b1=48
  ·subst h48;rcases hz with hz|⟨hz,_⟩
   ·exact absurd rfl hz
   ·have e48:((UInt8.toNat 48:Nat):Int)=48:=rfl;have hl1:m.length=1:=nQ;have g7:¬(1:Int)<(m.length:Int):=nQ;have Qh:=qh hl1;clear hl1 kS Sw St;go_enter Tryz.func36,Tryz.ntmps36;go_wp2_with fail;go_loopg [5,6] m.length (fun gg n i wr=>∃(k v:Nat) (δ:nJ),k<=m.length/\gg=m.length-k/\n=.int .i64 v/\i=.int .i64 k/\Hid (Lib.decFrom 0 (m.take k)=some v)/\wr=ah w δ)
    case atStart=>exact⟨0,0,w,nE _,rfl,rfl,rfl,rfl,(bw w).symm⟩
    case round=>
     obtain⟨k,v,δ,hk,rfl,rfl,rfl,HV,rfl⟩:=hrel;have hv6:v<1000000:=nL (Lx HV.out (k:=k) (by rw[List.length_take];omega)) (XV ⟨k,nQ⟩);by_cases hlt:k<m.length
     ·have hki:(k:Int)<(m.length:Int):=nQ;obtain⟨b,hb⟩:=SN hlt;refine QFA ?_;intro x1 MZ;by_cases Hx:b.toNat<48\/57<b.toNat
      ·have HN:Hid (numOf m=none):=qh (by rw[Y1.out,ET hb (AP Hx)];rfl);clear hb HV;rcases Hx with Hx|Hx
       ·have j1:(b.toNat:Int)<48:=nQ;go_wp2_with fail;go_ret2;exact iR HN.out ag
       ·have j1:¬(b.toNat:Int)<48:=nQ;have j2:(57:Int)<(b.toNat:Int):=nQ;go_wp2_with fail;go_ret2;exact iR HN.out ag
      ·have HN:=qh (AT hb (xI nQ) HV.out);refine QCP ?_;intro j1 j2 u1 d T7;rw[T7] at HN u1;have hd9:d<=9:=nQ;clear hb HV Hx T7;go_wp2_with fail;go_roundg (m.length-(k+1))
       case measure=>omega
       case rel=>exact⟨k+1,v*10+d,_,nQ,rfl,by go_num,by go_num,HN,ai⟩
     ·obtain rfl:k=m.length:=by omega
      have HN:Hid (numOf m=some (v:Int)):=qh (by have:=HV.out;rw[List.take_length] at this;rw[Y1.out,this];rfl);clear HV;go_wp2_with fail;go_ret2;exact zT HN.out ag
  ·have n48:((b1.toNat:Int)==48)=false:=by simp;intro e;exact h48 (UInt8.toNat_inj.1 (show b1.toNat=(48:UInt8).toNat by simpa using (by omega:b1.toNat=48)))
   clear hz h48 kS Sw St;go_enter Tryz.func36,Tryz.ntmps36;go_wp2_with fail;go_loopg [5,6] m.length (fun gg n i wr=>∃(k v:Nat) (δ:nJ),k<=m.length/\gg=m.length-k/\n=.int .i64 v/\i=.int .i64 k/\Hid (Lib.decFrom 0 (m.take k)=some v)/\wr=ah w δ)
   case atStart=>exact⟨0,0,w,nE _,rfl,rfl,rfl,rfl,(bw w).symm⟩
   case round=>
    obtain⟨k,v,δ,hk,rfl,rfl,rfl,HV,rfl⟩:=hrel;have hv6:v<1000000:=nL (Lx HV.out (k:=k) (by rw[List.length_take];omega)) (XV ⟨k,nQ⟩);by_cases hlt:k<m.length
    ·have hki:(k:Int)<(m.length:Int):=nQ;obtain⟨b,hb⟩:=SN hlt;refine QFA ?_;intro x1 MZ;by_cases Hx:b.toNat<48\/57<b.toNat
     ·have HN:Hid (numOf m=none):=qh (by rw[Y1.out,ET hb (AP Hx)];rfl);clear hb HV;rcases Hx with Hx|Hx
      ·have j1:(b.toNat:Int)<48:=nQ;go_wp2_with fail;go_ret2;exact iR HN.out ag
      ·have j1:¬(b.toNat:Int)<48:=nQ;have j2:(57:Int)<(b.toNat:Int):=nQ;go_wp2_with fail;go_ret2;exact iR HN.out ag
     ·have HN:=qh (AT hb (xI nQ) HV.out);refine QCP ?_;intro j1 j2 u1 d T7;rw[T7] at HN u1;have hd9:d<=9:=nQ;clear hb HV Hx T7;go_wp2_with fail;go_roundg (m.length-(k+1))
      case measure=>omega
      case rel=>exact⟨k+1,v*10+d,_,nQ,rfl,by go_num,by go_num,HN,ai⟩
    ·obtain rfl:k=m.length:=by omega
     have HN:Hid (numOf m=some (v:Int)):=qh (by have:=HV.out;rw[List.take_length] at this;rw[Y1.out,this];rfl);clear HV;go_wp2_with fail;go_ret2;exact zT HN.out ag
 ·have HN:Hid (numOf m=none):=qh (hO.out.trans (if_neg hd));by_cases h1:m.length<1
  ·omega
  by_cases h6:6<m.length
  ·have g1:¬(m.length:Int)<1:=nQ;have g6:(6:Int)<(m.length:Int):=nQ;clear hd;go_enter Tryz.func36,Tryz.ntmps36;go_wp2_with fail;go_ret2;exact iR HN.out ag
  have h48:b1=48/\1<m.length:=by
   unfold qi at hd;rw[List.head?_eq_getElem?,kS] at hd;apply Classical.byContradiction;intro hc;apply hd;by_cases hb:b1=48
   ·have:¬1<m.length:=fun e=>hc ⟨hb,e⟩;simp[hb,this];omega
   ·have:¬(some b1=some 48):=fun e=>hb (Option.some.inj e);simp[this];omega
  obtain⟨h48,hg⟩:=h48;subst h48;have g7:(1:Int)<(m.length:Int):=nQ;have e48:((UInt8.toNat 48:Nat):Int)=48:=rfl;have g1:¬(m.length:Int)<1:=nQ;have g6:¬(6:Int)<(m.length:Int):=nQ;clear hd kS Sw St;go_enter Tryz.func36,Tryz.ntmps36;go_wp2_with fail;go_ret2;exact iR HN.out ag
theorem gS(t:aQ)(hl:t.length<=1000)(w:nJ):Calls nH 36 #[.string (str t)] w (wM (numOf t) w):=by
 cases t with
 |nil=>
  have HN:=qh Eg
  go_enter Tryz.func36,Tryz.ntmps36
  go_wp2_with fail
  go_ret2
  exact iR HN.out ag
 |cons b r=>
  by_cases hb:b=45
  ·subst hb;exact U9 r (by simp at hl;omega) w
  ·exact U8 (b::r) b rfl hb hl w
end
section
open Hd
theorem cj(x l:aQ):((str x).toList==l)=decide (x=l):=by
 rw[oF,iL];by_cases h:x=l
 ·subst h;simp
 ·simp[h]
theorem dN(t:aQ)(o:Option Wd)(h:jO t=o)(d:Wd):((str t).toList==cF d)=decide (o=some d):=by
 rw[cj];by_cases hd:t=cF d
 ·rw[decide_eq_true hd,decide_eq_true (by rw[<-h];exact dn.2 hd)]
 ·rw[decide_eq_false hd,decide_eq_false (fun e=>hd (dn.1 (by rw[h];exact e)))]
theorem cL(t:aQ)(o:Option Wd)(h:jO t=o):((str t).toList==[119,105,110,100])=decide (o=some .aP)/\((str t).toList==[99,117,114,114,101,110,116])=decide (o=some .current)/\((str t).toList==[104,101,97,118,121])=decide (o=some .gJ)/\((str t).toList==[116,111,114,110])=decide (o=some .af)/\((str t).toList==[114,111,112,101])=decide (o=some .mV)/\((str t).toList==[109,101,110,100,101,114,115])=decide (o=some .dY)/\((str t).toList==[109,101,110,100,101,100])=decide (o=some .eE)/\((str t).toList==[112,97,114,116])=decide (o=some .part)/\((str t).toList==[98,97,114,114,101,108])=decide (o=some .fG)/\((str t).toList==[115,97,102,101])=decide (o=some .safe)/\((str t).toList==[115,116,111,114,109])=decide (o=some .gr)/\((str t).toList==[108,111,115,115])=decide (o=some .jl)/\((str t).toList==[100,111,110,101])=decide (o=some .done)/\((str t).toList==[115,97,108,116])=decide (o=some .fV)/\((str t).toList==[98,117,121])=decide (o=some .yB)/\((str t).toList==[101,97,114,108,121])=decide (o=some .early)/\((str t).toList==[110,101,101,100])=decide (o=some .nD)/\((str t).toList==[111,114,100,101,114])=decide (o=some .order)/\((str t).toList==[112,97,99,107])=decide (o=some .pack)/\((str t).toList==[102,111,114,103,101,116])=decide (o=some .forget):=
 ⟨dN t o h .aP,dN t o h .current,dN t o h .gJ,dN t o h .af,dN t o h .mV,dN t o h .dY,dN t o h .eE,dN t o h .part,dN t o h .fG,dN t o h .safe,dN t o h .gr,dN t o h .jl,dN t o h .done,dN t o h .fV,dN t o h .yB,dN t o h .early,dN t o h .nD,dN t o h .order,dN t o h .pack,dN t o h .forget⟩
end
section
open Hd
def kdO(o:Option Wd):Nat:=match o with|none=>0|some d=>cg d
def arO(o:Option Wd):Nat:=match o with|none=>0|some d=>tS d
theorem DY(t:aQ)(w:nJ):Calls nH 93 #[.string (str t)] w fun e w'=>e=.returned (.tuple #[.int .i64 (kdO (jO t):Nat),.int .i64 (arO (jO t):Nat)])/\∃δ,w'=ah w δ:=by
 obtain⟨o,ho⟩:∃o,jO t=o:=⟨_,rfl⟩;have F:=cL t o ho;rw[ho];clear ho;obtain⟨f0,f1,f2,f3,f4,f5,f6,f7,f8,f9,f10,f11,f12,f13,f14,f15,f16,f17,f18,f19⟩:=F;rcases o with _|d
 ·simp only[reduceCtorEq,decide_false] at f0 f1 f2 f3 f4 f5 f6 f7 f8 f9 f10 f11 f12 f13 f14 f15 f16 f17 f18 f19;go_enter Tryz.func93,Tryz.ntmps93;go_wp2;go_ret2;exact⟨rfl,ag⟩
 ·cases d;all_goals simp only[Option.some.injEq,reduceCtorEq,decide_false,decide_true] at f0 f1 f2 f3 f4 f5 f6 f7 f8 f9 f10 f11 f12 f13 f14 f15 f16 f17 f18 f19;go_enter Tryz.func93,Tryz.ntmps93;go_wp2;go_ret2;exact⟨rfl,ag⟩
end
section
open Hd
def dZ(B:Nat)(w:nJ)(v:nK):Option eB->Prop
 |none=>v=.agg #[.int .i64 0,.string ⟨#[]⟩,.slice none 0 0]
 |some c=>∃A cap,v=.agg #[.int .i64 (cg c.w:Nat),.string (str (cF c.w)),.slice A c.a.length cap]/\fN 3 aI B w A cap c.a
theorem dZ.wide{B:Nat}{w w':nJ}{v:nK}{o:Option eB}(h:dZ B w v o)[hg:aD B w w'][hB:Le B w']:dZ w'.heap.size w' v o:=by
 cases o with
 |none=>exact h
 |some c=>obtain⟨A,cap,h1,h2⟩:=h;exact⟨A,cap,h1,h2.wide⟩
theorem fN.eo{α:Type}{enc:α->List nK}{T T':TypeId}{B g i:Nat}{w:nJ}{A:Option Addr}{c:Nat}{xs:List α}{cs:Array nK}{u:nK}(h:fN T enc B w A c xs)(hb:ay w g T' cs)(hne:T'≠T):fN T enc B (w.setCell ⟨g,i,none⟩ u) A c xs:=
 h.ri (nR _) fun b cur fr _ hh=>by refine Below.heap_setCell w ⟨g,i,none⟩ u b ?_;rintro rfl;unfold ay at hb;rw[hb] at hh;injection hh with hh;injection hh with _ ht;exact hne ht
theorem dZ.eo{B g i:Nat}{w:nJ}{v u:nK}{o:Option eB}{T':TypeId}{cs:Array nK}(h:dZ B w v o)(hb:ay w g T' cs)(hne:T'≠3):dZ B (w.setCell ⟨g,i,none⟩ u) v o:=by
 cases o with
 |none=>exact h
 |some c=>obtain⟨A,cap,h1,h2⟩:=h;exact⟨A,cap,h1,h2.eo hb hne⟩
def tU(o:Option eB)(w:nJ)(e:Ending)(w':nJ):Prop:=∃v δ,e=.returned v/\w'=ah w δ/\dZ (ah w δ).heap.size (ah w δ) v o
theorem qR{o:Option eB}{w w':nJ}(h:o=none)(hl:∃δ,w'=ah w δ):tU o w (.returned (.agg #[.int .i64 0,.string ⟨#[]⟩,.slice none 0 0])) w':=by subst h;obtain⟨δ,rfl⟩:=hl;exact⟨_,δ,rfl,rfl,rfl⟩
theorem Jq{o:Option eB}{w w':nJ}{c:eB}{A:Option Addr}{cap ln:Nat}{k:Int}{s:ByteArray}(h:o=some c)(hk:k=(cg c.w:Nat))(hs:s=str (cF c.w))(hn:c.a.length=ln)(hl:∃δ,w'=ah w δ)(hS:fN 3 aI w'.heap.size w' A cap c.a):tU o w (.returned (.agg #[.int .i64 k,.string s,.slice A ln cap])) w':=by subst h hk hs hn;obtain⟨δ,rfl⟩:=hl;exact⟨_,δ,rfl,rfl,A,cap,rfl,hS⟩
theorem Yk(d:Wd):1<=cg d/\cg d<=5:=by cases d<;>decide
theorem abx(d:Wd):tS d<=4:=by cases d<;>decide
theorem zF(ws:List aQ)(A:Option Addr)(c:Nat)(hl:∀t∈ws,t.length<=1000)(h1k:ws.length<=1001)(B:Nat)(w:nJ)(hS:Sl bS B w A c ws)[hB:Le B w]:Calls nH 47 #[.slice A ws.length c] w (tU (bJ ws) w):=by
 cases ws with
 |nil=>
  clear hS
  go_enter Tryz.func47,Tryz.ntmps47
  go_wp2
  refine bodyPost_ret (v:=.agg #[.int .i64 0,.string ⟨#[]⟩,.slice none 0 0]) ?_ rfl ?_
  ·simp only[results,Tryz.results47];go_simp
  ·exact qR rfl ag
 |cons t r=>
  have HS:=qh hS
  have HL:=qh hl
  obtain⟨b,o,rfl,hb,d0⟩:=hS.kK (k:=0) nV
  have ib:Lt b w:=⟨nL hb hB.out⟩
  have d0':w.cell? ⟨b,o,none⟩=some (.string (str t)):=by have:=d0;simp only[Nat.add_zero] at this;exact this
  have hlen:(t::r).length=r.length+1:=rfl
  have hz:((r.length:Int)+1==0)=false:=by simp;omega
  have hp1:(0:Int)<(r.length:Int)+1:=nQ
  clear hS hl d0 hb
  rcases ho:jO t with _|d
  ·have HN:Hid (bJ (t::r)=none):=qh (qK ho);have HK:Hid (kdO (jO t)=0):=by unfold Hid;rw[ho];rfl
   clear ho;go_enter Tryz.func47,Tryz.ntmps47;go_wp2_with (go_at_call 93;refine(DY t _).mono ?_;rw[HK.out];rintro e w1 ⟨rfl,δ1,rfl⟩);refine bodyPost_ret (v:=.agg #[.int .i64 0,.string ⟨#[]⟩,.slice none 0 0]) ?_ rfl ?_
   ·simp only[results,Tryz.results47];go_simp
   ·exact qR HN.out ag
  ·have HK:Hid (kdO (jO t)=cg d/\arO (jO t)=tS d):=by unfold Hid;rw[ho];exact⟨rfl,rfl⟩
   have HW:Hid (t=cF d):=qh (dn.1 ho);have HC:Hid (bJ (t::r)=(cQ r).bind fun a=>if a.length=tS d then some ⟨d,a⟩ else none):=by unfold Hid;show pV (jO t) (cQ r)=_;rw[ho];rfl
   have hkp:=Yk d;have hap:=abx d;obtain⟨kd,Ht⟩:∃kd,cg d=kd:=⟨_,rfl⟩;obtain⟨ar,har⟩:∃ar,tS d=ar:=⟨_,rfl⟩;rw[Ht] at HK hkp;rw[har] at HK hap HC;have hk0:((kd:Int)==0)=false:=by simp;omega
   have HKD:=qh Ht;clear ho Ht har;by_cases hn:r.length=ar
   ·have hq:((r.length:Int)+1 != (ar:Int)+1)=false:=by simp;omega
    have HAR:=qh hn;clear hn;go_enter Tryz.func47,Tryz.ntmps47;go_wp2_with (go_at_call 93;refine(DY t _).mono ?_;rw[HK.out.1,HK.out.2];rintro e w1 ⟨rfl,δ1,hw⟩;have z1:ay w1 w.heap.size 53 #[.int .i64 0,.string ⟨#[]⟩,.slice none 0 0]:=(by rw[hw];exact(ay.new rfl).ah _);have g3:aD w.heap.size w w1:=(by rw[hw];infer_instance);have g4:Le w.heap.size w1:=(by rw[hw];infer_instance);have g5:aD B w w1:=(by rw[hw];infer_instance);have g6:Le B w1:=(by rw[hw];infer_instance);have ib1:Lt b w1:=(by rw[hw];infer_instance);have d1:w1.cell? ⟨b,o,none⟩=some (.string (str t)):=(by rw[hw];go_simp);clear hw);have iz:Lt w.heap.size w1:=z1.lt;refine aM fun W1 aH=>?_;obtain⟨cJ,dF,cW,di,dz⟩:=BH B w aH;have eL:Lt (w1.heap.size) W1:=nr aH;have Z1:Hid (ay W1 w.heap.size 53 #[.int .i64 0,.string ⟨#[]⟩,.slice none 0 0]):=by rw[aH.out];exact z1.alloc _
    have X1:Hid (ay W1 w1.heap.size 53 #[.int .i64 kd,.string (str t),.slice none 0 0]):=by rw[aH.out];exact ay.new rfl
    have aaR:w1.heap.size<W1.heap.size:=X1.out.tN;have aaS:w.heap.size<W1.heap.size:=Z1.out.tN;have hne:w.heap.size≠w1.heap.size:=by have:=z1.tN;omega
    clear aH z1 d1;go_loopg [6,7,8] r.length (fun gg i n is wr=>∃(k cap:Nat) (A1:Option Addr) (a:List Int),k<=r.length/\gg=r.length-k/\i=.int .i64 ((k:Int)+1)/\Hid (cQ (r.take k)=some a)/\Hid (ay wr w1.heap.size 53 #[.int .i64 kd,.string (str t),.slice A1 a.length cap])/\Hid (wr.ownsRow W1.heap.size 3 1 (.slice A1 a.length cap) a.length (a.flatMap aI))/\Hid (ay wr w.heap.size 53 #[.int .i64 0,.string ⟨#[]⟩,.slice none 0 0])/\aD B w wr/\Le B wr/\aD w.heap.size w wr/\Le W1.heap.size wr)
    case atStart=>exact⟨0,0,none,[],nE _,rfl,rfl,qh rfl,X1,qh (World.ownsRow_nil _ _ _ _),Z1,inferInstance,inferInstance,inferInstance,inferInstance⟩
    case round=>
     obtain⟨k,cap,A1,a,hk,rfl,rfl,HA,HX,HO,HZ,i1,i2,i3,i4⟩:=hrel;have jx:=HX.out.lt;have jz:=HZ.out.lt;have cx0:=HX.out.cell (i:=0) rfl;have cx1:=HX.out.cell (i:=1) rfl;have cx2:=HX.out.cell (i:=2) rfl;have fx2:=HX.out.free 2;have iw:Le w.heap.size wr:=⟨nT (nS aaS) i4.out⟩;have hrl:r.length<=1000:=nQ;have hab:a.length<=1001:=by have:=mZ HA.out;rw[List.length_take] at this;omega
     by_cases hlt:k<r.length
     ·have hki:(k:Int)+1<(r.length:Int)+1:=nQ;have ahx:¬(k:Int)+1<0:=nQ;obtain⟨b2,o2,rz,fX,dk⟩:=(HS.out.up (w':=wr)).kK (k:=k+1) nQ;injection rz with rz;injection rz with AH Y5;subst AH Y5;have jb:Lt b wr:=⟨nL fX i2.out⟩;rw[show nth (t::r) (k+1)=nth r k from rfl] at dk;have HLK:Hid ((nth r k).length<=1000):=qh (HL.out _ (by simp[aR r hlt]));obtain⟨u,hu⟩:∃u,nth r k=u:=⟨_,rfl⟩;have ZD:Hid (u∈r):=qh (by rw[<-hu];exact aR r hlt);have HTK:Hid (r.take (k+1)=r.take k++[u]):=qh (by rw[bz r hlt,hu]);rw[hu] at dk HLK;clear hu fX;rcases hn:numOf u with _|n
      ·have HN:Hid (bJ (t::r)=none):=by unfold Hid;rw[HC.out,kP ZD.out hn];rfl
       have jh:Hid (Rz (numOf u)=0/\(numOf u).isSome=false):=by unfold Hid;rw[hn];exact⟨rfl,rfl⟩
       have cz0:=HZ.out.cell (i:=0) rfl;have cz1:=HZ.out.cell (i:=1) rfl;have cz2:=HZ.out.cell (i:=2) rfl;have fz0:=HZ.out.free 0;have fz1:=HZ.out.free 1;have fz2:=HZ.out.free 2;clear hn;go_wp2_with (go_at_call 36;refine(gS u HLK.out _).mono ?_;rintro e w2 ⟨rfl,δ2,rfl⟩;rw[jh.out.1,jh.out.2]);refine bodyPost_ret (v:=.agg #[.int .i64 0,.string ⟨#[]⟩,.slice none 0 0]) ?_ rfl ?_
       ·simp only[results,Tryz.results47];go_simp
       ·exact qR HN.out ag
      ·have jh:Hid (Rz (numOf u)=n/\(numOf u).isSome=true):=by unfold Hid;rw[hn];exact⟨rfl,rfl⟩
       have HA':Hid (cQ (r.take (k+1))=some (a++[n])):=by unfold Hid;rw[HTK.out,CQ,HA.out,hn];rfl
       clear hn;go_wp2_with (first|(go_at_call 36;refine(gS u HLK.out _).mono ?_;rintro e w2 ⟨rfl,δ2,rfl⟩;rw[jh.out.1,jh.out.2])|(at_builtin;(refine bP W1 wO (.tmp 53) (.tmp 55) rfl rfl (bu HO.out) rfl rfl nW rfl (by simp[Value.oneCell']) nQ nQ ?_);intro A' c' δ' hown' hg;have BK:=qh hown';clear hown' hg));go_roundg (r.length-(k+1))
       case measure=>omega
       case rel=>
        refine⟨k+1,c',A',a++[n],nQ,rfl,by go_num,HA',?_,?_,?_,inferInstance,inferInstance,inferInstance,inferInstance⟩
        ·rw[List.length_append];exact qh (ay.set (cs:=#[.int .i64 kd,.string (str t),.slice A1 a.length cap]) (((HX.out.ah δ2).alloc _).ez aaR _) 2 _)
        ·rw[List.length_append,List.flatMap_append];exact qh (cZ BK.out (fc BK.out (((HX.out.ah δ2).alloc _).ez aaR _) nU))
        ·exact qh (ay.fB (((HZ.out.ah δ2).alloc _).ez aaS _) hne _)
     ·obtain rfl:k=r.length:=by omega
      have hA:=HA.out;rw[List.take_length] at hA;have Xn:Hid (bJ (t::r)=some ⟨d,a⟩):=by unfold Hid;rw[HC.out,hA,Option.bind_some,if_pos (by rw[mZ hA,HAR.out])]
      have cz0:=HZ.out.cell (i:=0) rfl;have cz1:=HZ.out.cell (i:=1) rfl;have cz2:=HZ.out.cell (i:=2) rfl;have fz0:=HZ.out.free 0;have fz1:=HZ.out.free 1;have fz2:=HZ.out.free 2;have hkn:¬((r.length:Int)+1<(r.length:Int)+1):=nQ;clear hA;go_wp2_with fail;refine bodyPost_ret (v:=.agg #[.int .i64 kd,.string (str t),.slice A1 a.length cap]) ?_ rfl ?_
      ·simp only[results,Tryz.results47];go_simp
      ·refine Jq Xn.out (by rw[<-HKD.out]) (by rw[<-HW.out]) rfl ag ?_;refine fN.bU (base:=W1.heap.size) (size:=1) (n:=a.length) ?_ rfl;iterate 3 (refine cZ ?_ (fc HO.out HZ.out nU))
       exact HO.out
   ·have hq:((r.length:Int)+1 != (ar:Int)+1)=true:=by simp;omega
    have HN:Hid (bJ (t::r)=none):=by
     unfold Hid;rw[HC.out];cases hx:cQ r with
     |none=>rfl
     |some a=>simp only[Option.bind_some];rw[if_neg (by rw[mZ hx];exact hn)]
    clear hn HC;go_enter Tryz.func47,Tryz.ntmps47;go_wp2_with (go_at_call 93;refine(DY t _).mono ?_;rw[HK.out.1,HK.out.2];rintro e w1 ⟨rfl,δ1,rfl⟩);refine bodyPost_ret (v:=.agg #[.int .i64 0,.string ⟨#[]⟩,.slice none 0 0]) ?_ rfl ?_
    ·simp only[results,Tryz.results47];go_simp
    ·exact qR HN.out ag
end
section
open Hd
theorem JJ{l:aQ}{k:Nat}{b:UInt8}(hb:l[k]?=some b):aS (l.take (k+1))=if b=32 then aS (l.take k)++[[]] else Oa b (aS (l.take k)):=by rw[List.take_add_one,hb];exact zw _ _
theorem JK(l:aQ):∃ws w,aS l=ws++[w]:=by
 rcases List.eq_nil_or_concat (aS l) with h|⟨ws,w,h⟩
 ·exact absurd h (gQ l)
 ·exact⟨ws,w,by rw[h,List.concat_eq_append]⟩
theorem xE(ws:List aQ):ws.flatMap bS=ws.map fun t=>Value.string (str t):=by
 induction ws with
 |nil=>rfl
 |cons w ws ih=>rw[List.flatMap_cons,ih];rfl
theorem Pz(ws:List aQ)(u v:aQ):((ws++[u]).flatMap bS).set ws.length (.string (str v))=(ws++[v]).flatMap bS:=by rw[xE,xE,List.map_append,List.map_append,List.set_append_right _ _ nV];simp
theorem VP(ws:List aQ)(u:aQ):((ws++[u]).flatMap bS)[ws.length]?=some (.string (str u)):=by rw[xE,List.getElem?_map,List.getElem?_append_right (nR _)];simp
theorem vz(l:aQ)(hl:l.length<=1000)(w:nJ):Calls nH 37 #[.string (str l)] w fun e w'=>∃A c,e=.returned (.slice A (aS l).length c)/\Sl bS w'.heap.size w' A c (aS l)/\∃δ,w'=ah w δ:=by
 go_enter Tryz.func37,Tryz.ntmps37;go_wp2_with fail;go_loopg [3,4] l.length (fun gg o i wr=>∃(k c:Nat) (A:Option Addr),k<=l.length/\gg=l.length-k/\o=.slice A (aS (l.take k)).length c/\i=.int .i64 k/\Hid (wr.ownsRow w.heap.size 9 1 (.slice A (aS (l.take k)).length c) (aS (l.take k)).length ((aS (l.take k)).flatMap bS))/\aD w.heap.size w wr/\Le w.heap.size wr)
 case atStart=>exact⟨0,1,some ⟨w.heap.size,0,none⟩,nE _,rfl,rfl,rfl,qh (vF (n:=1) (nR _) rfl nQ rfl),inferInstance,inferInstance⟩
 case round=>
  obtain⟨k,c,A,hk,rfl,rfl,rfl,HO,i1,i2⟩:=hrel;by_cases hlt:k<l.length
  ·have hki:(k:Int)<(l.length:Int):=nQ;obtain⟨b,hb⟩:∃b,l[k]?=some b:=⟨l[k],by simp[hlt]⟩;have x1:=fun(W:nJ) t q hh=>rq (P:=nH) W t q l (k:Int) k rfl b hh hb;have HT:=qh (JJ hb);have yJ:=(gR (l.take k)).1;have ur:=(gR (l.take k)).2;rw[List.length_take] at yJ ur;obtain⟨ws,u,pT⟩:=JK (l.take k);rw[pT] at HO HT yJ ur ⊢;have hul:u.length<=1000:=by have:=ur u nV;omega
   have Qj:ws.length<=1001:=by rw[List.length_append] at yJ;simp at yJ;omega
   clear hb pT yJ ur;by_cases h32:b=32
   ·have Fs:=qh (HT.out.trans (if_pos h32));subst h32;have e32:((UInt8.toNat 32:Nat):Int)=32:=rfl;go_wp2_with (at_builtin;(refine bP w Ut (.tmp 16) (.tmp 17) rfl rfl HO.out rfl rfl nW rfl (by simp[Value.oneCell']) (by simp;omega) nQ ?_);intro A' c' δ' hown' hg);go_roundg (l.length-(k+1))
    case measure=>omega
    case rel=>refine⟨k+1,c',A',nQ,rfl,by rw[Fs.out];simp,by go_num,?_,inferInstance,inferInstance⟩;rw[Fs.out];refine qh ?_;rw[List.length_append,List.flatMap_append];exact hown'
   ·have Fs:=qh (HT.out.trans (if_neg h32));rw[N9] at Fs;have n32:((b.toNat:Int)==32)=false:=by simp;intro e;exact h32 (UInt8.toNat_inj.1 (show b.toNat=(32:UInt8).toNat by simpa using (by omega:b.toNat=32)))
    obtain⟨g,rfl,hg0,hg1,hc,hf⟩:=qY HO.out nV;have d1:=hc ws.length _ (VP ws u);have f1:=hf ws.length;have iN:oE w.heap.size g:=⟨hg0⟩;have a1:=fun(W:nJ)=>eA (P:=nH) W u [b] (by simp;omega);have b1:=fun(W:nJ) (g c:Nat) (h:W.cell? ⟨g,0,none⟩=some (.int .u8 b.toNat))=>IW W g c b h;obtain⟨m,hm⟩:∃m,(ws++[u]).length=m:=⟨_,rfl⟩;have hmw:m=ws.length+1:=by rw[<-hm];simp
    obtain⟨p,hp⟩:∃p,ws.length=p:=⟨_,rfl⟩;have HP:=qh hp;rw[hm] at HO ⊢;rw[hp] at d1 f1;have hmp:IntKind.i64.wrap ((m:Int)-1)=(p:Int):=by rw[IntWalk.i64_in];omega;omega
    have hpm:(p:Int)<(m:Int):=nQ;have hp0:¬(p:Int)<0:=nQ;have HM:=qh hm;clear hc hf h32 hm hp hmw;go_wp2_with fail;go_region;go_wp2_with fail;go_roundg (l.length-(k+1))
    case measure=>omega
    case rel=>
     have hlen:(ws++[u++[b]]).length=m:=by rw[<-HM.out];simp
     refine⟨k+1,c,some ⟨g,0,none⟩,nQ,rfl,by rw[Fs.out,hlen],by go_num,?_,inferInstance,inferInstance⟩;rw[Fs.out,hlen,<-Pz ws u (u++[b]),HP.out];refine qh ?_;exact(pK HO.out (by have:=HO.out.1;rw[this,Nat.mul_one];exact Int.ofNat_lt.1 hpm)).alloc _
  ·obtain rfl:k=l.length:=by omega
   go_wp2_with fail;go_ret;have HO:=HO.out;rw[List.take_length] at HO ⊢;exact⟨A,c,rfl,Sl.bU HO,ag⟩
end
end Go.Proofs.YtpnnapeoanafdaaGreatDoor
