/- A part of the proof that the statement HeadmanRunCardSaid holds, cut small by a program (names and blanks): Hw1, Hw2, Hw3, Hw0, Hw4, Hw6, Hw5. -/
import Derived.Test.YtcjjlikhlmfedaaGreatDoorZ10
import Derived.Test.YtcjjlikhlmfedaaGreatDoorZ11
set_option maxRecDepth 100000
set_option maxHeartbeats 40000000
set_option linter.unusedVariables false
set_option linter.unusedSimpArgs false
namespace Go.Proofs.YtcjjlikhlmfedaaGreatDoor
open Go.RowKit
open Nat renaming le_trans → nT, lt_of_lt_of_le → nL, le_refl → nR, zero_le → nE, le_of_lt → nS
open Go.Proofs.Tryz renaming prog → nH
open Go renaming World → nJ, Value → nK
section
open Hd
theorem SO:∀x:Fin 10,IntKind.u8.wrap (48+(x.val:Int))=((48+x.val:Nat):Int):=by decide
theorem AS(x:Nat)(hx:x<10)(b:UInt8)(hb:b.toNat=48+x)(w:nJ):Calls nH 93 #[.int .i64 x] w fun e w'=>e=.returned (.string (str [b]))/\∃δ,w'=af w δ:=by
 have h0:¬(x:Int)<0:=nQ;have h1:(x:Int)<10:=nQ;have w1:IntKind.u8.wrap (48+(x:Int))=(b.toNat:Int):=by rw[hb];exact SO ⟨x,hx⟩
 have b1:=fun(W:nJ) (g c:Nat) (h:W.cell? ⟨g,0,none⟩=some (.int .u8 b.toNat))=>EC W g c b h;clear hb;go_enter Tryz.func93,Tryz.ntmps93;go_wp2;go_ret;exact⟨rfl,ag⟩
theorem BR{x:Nat}(h:x<10):Lib.decDigits x=[UInt8.ofNat (48+x)]:=by rw[Lib.decDigits,dif_pos h]
theorem OD{n:Nat}(h:¬n<10):Lib.decDigits n=Lib.decDigits (n / 10)++[UInt8.ofNat (48+n % 10)]:=by rw[Lib.decDigits,dif_neg h]
theorem IF(k:Nat)(hk:k<=9):∀(n:Nat),n<10 ^ (k+1)->∀(l:bL),Lib.decDigits n=l->∀w:nJ,Calls nH 93 #[.int .i64 n] w fun e w'=>e=.returned (.string (str l))/\∃δ,w'=af w δ:=by
 induction k with
 |zero=>
  intro n hn l hl w
  rw[<-hl,BR nQ]
  exact AS n nQ _ (Ko nQ) w
 |succ k ih=>
  intro n hn l hl w
  by_cases h10:n<10
  ·rw[<-hl,BR h10];exact AS n h10 _ (Ko h10) w
  ·have hb:n<10000000000:=nL hn (Nat.pow_le_pow_right (n:=10) (j:=10) nQ nQ);have hq:n / 10<10 ^ (k+1):=by rw[Nat.pow_succ] at hn;omega
   have e:=OD h10;rw[hl] at e;obtain⟨x,hx⟩:∃x,Lib.decDigits (n / 10)=x:=⟨_,rfl⟩;rw[hx] at e;have hxl:x.length<=20:=by rw[<-hx];exact nT ((eO (n / 10)).2.2.2.2 k hq) nQ
   have HX:=qh hx;have HD:Hid (Lib.decDigits (n % 10)=[UInt8.ofNat (48+n % 10)]):=qh (BR nQ);have HI:=qh (ih nQ);have HQ:=qh hq;obtain⟨q,hqq⟩:∃q,n / 10=q:=⟨_,rfl⟩;obtain⟨m,hm⟩:∃m,n % 10=m:=⟨_,rfl⟩;have d1:(n:Int).tdiv 10=(q:Int):=by rw[Int.tdiv_eq_ediv_of_nonneg nQ];omega
   have d2:(n:Int).tmod 10=(m:Int):=by rw[Int.tmod_eq_emod_of_nonneg nQ];omega
   have hm9:m<10:=nQ;have hqb:q<1000000000:=nQ;rw[hqq] at HX HQ;rw[hm] at HD e;have a1:=fun(W:nJ)=>jy (P:=nH) W x [UInt8.ofNat (48+m)] (by simp;omega);rw[<-e] at a1;have HM:Hid ((UInt8.ofNat (48+m)).toNat=48+m):=qh (Ko hm9);have h0:¬(n:Int)<0:=nQ;have h1:¬(n:Int)<10:=nQ;have HM9:=qh hm9;obtain⟨b,gH⟩:∃b,UInt8.ofNat (48+m)=b:=⟨_,rfl⟩;rw[gH] at HM a1;clear ih hq hx e hm hqq hl gH HD;go_enter Tryz.func93,Tryz.ntmps93;go_wp2_with (first|(go_at_call 93;(with_reducible refine Calls.mono (HI.out q HQ.out x HX.out _) ?_);rintro e w1 ⟨rfl,δ1,rfl⟩)|(go_at_call 93;(with_reducible refine Calls.mono (AS m HM9.out b HM.out _) ?_);rintro e w1 ⟨rfl,δ2,rfl⟩));go_ret;exact⟨rfl,ag⟩
theorem wz(n:Int)(hn:-10000<=n/\n<=1000000)(l:bL)(hl:Lib.itoa n=l)(w:nJ):Calls nH 93 #[.int .i64 n] w fun e w'=>e=.returned (.string (str l))/\∃δ,w'=af w δ:=by
 unfold Lib.itoa at hl;by_cases h0:n<0
 ·rw[if_pos h0] at hl;obtain⟨m,hm⟩:∃m:Nat,-n=m:=⟨n.natAbs,nQ⟩;have e:n.natAbs=m:=nQ;rw[e] at hl;have hb:m<10 ^ (8+1):=by simp;omega
  obtain⟨x,hx⟩:∃x,Lib.decDigits m=x:=⟨_,rfl⟩;rw[hx] at hl;have hxl:x.length<=9:=by rw[<-hx];exact(eO m).2.2.2.2 8 hb
  have a1:=fun(W:nJ)=>jy (P:=nH) W [45] x (by simp;omega);have a2:∀W:nJ,(Op.stringOp .add (⟨#[45]⟩:ByteArray) (str x)).run nH W=.ok (.string (str l)) W:=by intro W;rw[<-hl];exact a1 W
  have HX:=qh hx;have HB:=qh hb;have HM:=qh hm;clear hx hb e hl a1;go_enter Tryz.func93,Tryz.ntmps93;go_wp2_with (go_at_call 93;refine(IF 8 nQ m HB.out x HX.out _).mono ?_;rintro e w1 ⟨rfl,δ1,rfl⟩);go_ret;exact⟨rfl,ag⟩
 ·rw[if_neg h0] at hl;obtain⟨m,rfl⟩:∃m:Nat,n=m:=⟨n.toNat,nQ⟩;exact IF 8 nQ m (by simp;omega) l (by simpa using hl) w
end
section
open Hd
theorem xR(x:Int):∀ {l:List Int},l≠[]->iu (l++[x])=iu l++32::Lib.itoa x
 |[],h=>absurd rfl h
 |[y],_=>rfl
 |y::z::r,_=>by have ih:=xR x (l:=z::r) nV;rw[List.cons_append,List.cons_append,iu];rw[List.cons_append] at ih;rw[ih,iu];simp
theorem D9{l:List Int}(h:PM l){k:Nat}(hk:k<l.length):-10000<=nth l k/\nth l k<=1000000:=by have:=h.2 _ (aS l hk);omega
theorem Oi{l:List Int}(h:PM l)(k:Nat):(iu (l.take k)).length<=18:=by have h1:=rC (l:=l.take k) fun x hx=>h.2 x (List.mem_of_mem_take hx);have h2:=h.1;rw[List.length_take] at h1;omega
theorem Qf(l:List Int)(hf:PM l)(A:Option Addr)(c:Nat)(B:Nat)(w:nJ)(hS:Sl aH B w A c l)[hB:Le B w]:Calls nH 95 #[.slice A l.length c] w fun e w'=>e=.returned (.string (str (o6 l)))/\∃δ,w'=af w δ:=by
 have HS:=qh hS;have HF:=qh hf;have h6:=hf.1;clear hS hf;by_cases h0:l=[]
 ·have HE:=qh (show o6 l=sZ from if_pos h0);have hz:((l.length:Int)==0)=true:=by rw[h0];rfl
  clear h0;go_enter Tryz.func95,Tryz.ntmps95;go_wp2;go_ret;exact⟨by rw[HE.out];rfl,ag⟩
 ·have hpos:0<l.length:=List.length_pos_iff.2 h0;have HE:=qh (show o6 l=iu l from if_neg h0);have hz:((l.length:Int)==0)=false:=by simp;omega
  have VN:(0:Int)<(l.length:Int):=nQ;obtain⟨b,o,rfl,hb,d0⟩:=HS.out.int hpos;have ib:Lt b w:=⟨nL hb hB.out⟩;simp only[Nat.add_zero] at d0;have HT:=qh (D9 HF.out hpos);have H1:Hid (iu (l.take 1)=Lib.itoa (nth l 0)):=by
   unfold Hid;cases l with
   |nil=>exact absurd rfl h0
   |cons x r=>rfl
  clear h0 hb;go_enter Tryz.func95,Tryz.ntmps95;go_wp2_with (go_at_call 93;refine(wz (nth l 0) HT.out _ H1.out.symm _).mono ?_;rintro e w1 ⟨rfl,δ0,rfl⟩);go_loopg [3,4] (l.length-1) (fun gg out i wr=>∃(k:Nat) (δ:nJ),1<=k/\k<=l.length/\gg=l.length-k/\out=.string (str (iu (l.take k)))/\i=.int .i64 k/\wr=af w δ)
  case atStart=>exact⟨1,_,nR _,hpos,rfl,rfl,rfl,aq⟩
  case round=>
   obtain⟨k,δ,xV,hk,rfl,rfl,rfl,rfl⟩:=hrel;by_cases hlt:k<l.length
   ·have hki:(k:Int)<(l.length:Int):=nQ;have hk0:¬(k:Int)<0:=nQ;obtain⟨b',o',hA,hb',dk⟩:=HS.out.int hlt;injection hA with hA;injection hA with hA1 uo;subst hA1 uo;have XK:=qh (D9 HF.out hlt);have HN:Hid (iu (l.take (k+1))=iu (l.take k)++32::Lib.itoa (nth l k)):=by unfold Hid;rw[bu l hlt];refine xR _ ?_;intro e;have:=congrArg List.length e;rw[List.length_take,List.length_nil] at this;omega
    have hjl:=Oi HF.out k;obtain⟨x,hx⟩:∃x,Lib.itoa (nth l k)=x:=⟨_,rfl⟩;have hxl:x.length<=8:=by rw[<-hx];exact xS 6 (by have:=XK.out;omega)
    obtain⟨y,hy⟩:∃y,iu (l.take k)=y:=⟨_,rfl⟩;rw[hx,hy] at HN;rw[hy] at hjl ⊢;have a1:∀W:nJ,(Op.stringOp .add (⟨#[32]⟩:ByteArray) (str x)).run nH W=.ok (.string (str (32::x))) W:=fun W=>jy (P:=nH) W [32] x (by simp;omega);have a2:=fun(W:nJ)=>jy (P:=nH) W y (32::x) (by simp;omega);rw[<-HN.out] at a2;have HX:=qh hx;clear hx hy hb' HN;go_wp2_with (go_at_call 93;refine(wz (nth l k) XK.out _ HX.out _).mono ?_;rintro e w1 ⟨rfl,δ1,rfl⟩);go_roundg (l.length-(k+1))
    case measure=>omega
    case rel=>exact⟨k+1,_,nQ,hlt,rfl,rfl,by go_num,aq⟩
   ·obtain rfl:k=l.length:=by omega
    go_wp2;go_ret;exact⟨by rw[HE.out];(first|rfl|(rw[List.take_length];rfl)),ag⟩
end
section
open Hd
theorem vO(l r:bL):∀acc:Nat,Lib.decFrom acc (l++r)=(Lib.decFrom acc l).bind fun n=>Lib.decFrom n r:=by
 induction l with
 |nil=>intro acc;rfl
 |cons b l ih=>
  intro acc
  rw[List.cons_append,Lib.decFrom,Lib.decFrom]
  cases Lib.digitVal b with
  |none=>rfl
  |some d=>exact ih _
theorem BS{m:bL}{k:Nat}{b:UInt8}(hb:m[k]?=some b)(hd:Lib.digitVal b=none):Lib.decFrom 0 m=none:=by
 have hk:=(List.getElem?_eq_some_iff.1 hb).1;have e:m=m.take k++b::m.drop (k+1):=by have h2:=(List.getElem?_eq_some_iff.1 hb).2;rw[<-h2,List.getElem_cons_drop,List.take_append_drop]
 rw[e,vO];cases Lib.decFrom 0 (m.take k) with
 |none=>rfl
 |some n=>simp only[Option.bind_some,Lib.decFrom,hd]
theorem yx{m:bL}{k n d:Nat}{b:UInt8}(hb:m[k]?=some b)(hd:Lib.digitVal b=some d)(hn:Lib.decFrom 0 (m.take k)=some n):Lib.decFrom 0 (m.take (k+1))=some (n*10+d):=by rw[List.take_add_one,hb,vO,hn];simp only[Option.bind_some,Option.toList,Lib.decFrom,hd]
theorem yo{b:UInt8}(h:b.toNat<48\/57<b.toNat):Lib.digitVal b=none:=by unfold Lib.digitVal;rw[if_neg nQ]
theorem vk{b:UInt8}(h:¬b.toNat<48/\¬57<b.toNat):Lib.digitVal b=some (b.toNat-48):=by unfold Lib.digitVal;rw[if_pos nQ]
theorem Hr{l:bL}{n k:Nat}(h:Lib.decFrom 0 l=some n)(hk:l.length<=k):n<10 ^ k:=by
 have key:∀(l:bL) (acc n:Nat),Lib.decFrom acc l=some n->n<(acc+1)*10 ^ l.length:=by
  intro l;induction l with
  |nil=>intro acc n h;simp only[Lib.decFrom,Option.some.injEq] at h;subst h;simp
  |cons b l ih=>
   intro acc n h
   simp only[Lib.decFrom] at h
   cases hd:Lib.digitVal b with
   |none=>rw[hd] at h;cases h
   |some d=>
    rw[hd] at h
    have h1:=ih _ _ h
    have h2:=(vl hd).1
    have h3:(acc*10+d+1)*10 ^ l.length<=((acc+1)*10)*10 ^ l.length:=Nat.mul_le_mul_right _ nQ
    rw[List.length_cons,Nat.pow_succ,Nat.mul_comm (10 ^ l.length) 10,<-Nat.mul_assoc]
    omega
 have:=key l 0 n h;rw[Nat.zero_add,Nat.one_mul] at this;exact nL this (Nat.pow_le_pow_right nQ hk)
def MZ(o:Option Int):Int:=o.getD 0
theorem Oe{m:bL}{k:Nat}(h:k<m.length):∃b,m[k]?=some b:=⟨m[k],by simp[h]⟩
theorem Th:∀k:Fin 7,10 ^ k.val<=1000000:=by decide
def uB(o:Option Int)(w:nJ)(e:Ending)(w':nJ):Prop:=e=.returned (.tuple #[.int .i64 (MZ o),.bool o.isSome])/\∃δ,w'=af w δ
theorem gN{o:Option Int}{w w':nJ}(h:o=none)(hl:∃δ,w'=af w δ):uB o w (.returned (.tuple #[.int .i64 0,.bool false])) w':=by subst h;exact⟨rfl,hl⟩
theorem xx{o:Option Int}{w w':nJ}{n:Int}(h:o=some n)(hl:∃δ,w'=af w δ):uB o w (.returned (.tuple #[.int .i64 n,.bool true])) w':=by subst h;exact⟨rfl,hl⟩
theorem Qp(m:bL)(hl:m.length<=1000)(w:nJ):Calls nH 136 #[.string (str (45::m))] w (uB (numOf (45::m)) w):=by
 have hO:Hid (numOf (45::m)=if oJ true m=true then (Lib.decFrom 0 m).map fun(n:Nat)=>-(n:Int) else none):=rfl;have q0:=fun(W:nJ) t k hh=>rD (P:=nH) W t k (45::m) 0 0 rfl 45 hh rfl;have q1:=fun(W:nJ) t k hh=>Of (P:=nH) W t k (45::m) 1 1 rfl m hh nV rfl;have e45:((UInt8.toNat 45:Nat):Int)=45:=rfl;have QZ:(45::m).length=m.length+1:=rfl;by_cases hd:oJ true m=true
 ·have T5:Hid (numOf (45::m)=(Lib.decFrom 0 m).map fun(n:Nat)=>-(n:Int)):=qh (hO.out.trans (if_pos hd));unfold oJ at hd;simp only[Bool.and_eq_true,decide_eq_true_eq,Bool.not_eq_true',Bool.and_eq_false_iff,decide_eq_false_iff_not,Bool.or_eq_false_iff] at hd;obtain⟨⟨h1,h6⟩,hz⟩:=hd;obtain⟨b1,ku⟩:=Oe (m:=m) (k:=0) nQ;have p0:=fun(W:nJ) t k hh=>rD (P:=nH) W t k m 0 0 rfl b1 hh ku;have g1:¬(m.length:Int)<1:=nQ;have g6:¬(6:Int)<(m.length:Int):=nQ;rw[List.head?_eq_getElem?,ku] at hz;by_cases h48:b1=48
  ·subst h48;exfalso;rcases hz with hz|⟨_,hz⟩
   ·exact hz rfl
   ·exact absurd hz nV
  ·have n48:((b1.toNat:Int)==48)=false:=by simp;intro e;exact h48 (UInt8.toNat_inj.1 (show b1.toNat=(48:UInt8).toNat by simpa using (by omega:b1.toNat=48)))
   clear ku hz h48;go_enter Tryz.func136,Tryz.ntmps136;go_wp2_with fail;go_loopg [5,6] m.length (fun gg n i wr=>∃(k v:Nat) (δ:nJ),k<=m.length/\gg=m.length-k/\n=.int .i64 v/\i=.int .i64 k/\Hid (Lib.decFrom 0 (m.take k)=some v)/\wr=af w δ)
   case atStart=>exact⟨0,0,w,nE _,rfl,rfl,rfl,rfl,(aY w).symm⟩
   case round=>
    obtain⟨k,v,δ,hk,rfl,rfl,rfl,HV,rfl⟩:=hrel;have hv6:v<1000000:=nL (Hr HV.out (k:=k) (by rw[List.length_take];omega)) (Th ⟨k,nQ⟩);by_cases hlt:k<m.length
    ·have hki:(k:Int)<(m.length:Int):=nQ;obtain⟨b,hb⟩:=Oe hlt;refine QFI ?_;intro x1 Jj;by_cases DU:b.toNat<48\/57<b.toNat
     ·have HN:Hid (numOf (45::m)=none):=qh (by rw[T5.out,BS hb (yo DU)];rfl);clear hb HV;rcases DU with DU|DU
      ·have j1:(b.toNat:Int)<48:=nQ;go_wp2_with fail;go_ret2;exact gN HN.out ag
      ·have j1:¬(b.toNat:Int)<48:=nQ;have j2:(57:Int)<(b.toNat:Int):=nQ;go_wp2_with fail;go_ret2;exact gN HN.out ag
     ·have HN:=qh (yx hb (vk nQ) HV.out);refine QCP ?_;intro j1 j2 u1 d Py;rw[Py] at HN u1;have hd9:d<=9:=nQ;clear hb HV DU Py;go_wp2_with fail;go_roundg (m.length-(k+1))
      case measure=>omega
      case rel=>exact⟨k+1,v*10+d,_,nQ,rfl,by go_num,by go_num,HN,aq⟩
    ·obtain rfl:k=m.length:=by omega
     have HN:Hid (numOf (45::m)=some (-(v:Int))):=qh (by have:=HV.out;rw[List.take_length] at this;rw[T5.out,this];rfl);clear HV;go_wp2_with fail;go_ret2;exact xx HN.out ag
 ·have HN:Hid (numOf (45::m)=none):=qh (hO.out.trans (if_neg hd));by_cases h1:m.length<1
  ·have g1:(m.length:Int)<1:=nQ;clear hd;go_enter Tryz.func136,Tryz.ntmps136;go_wp2_with fail;go_ret2;exact gN HN.out ag
  by_cases h6:6<m.length
  ·have g1:¬(m.length:Int)<1:=nQ;have g6:(6:Int)<(m.length:Int):=nQ;clear hd;go_enter Tryz.func136,Tryz.ntmps136;go_wp2_with fail;go_ret2;exact gN HN.out ag
  obtain⟨b1,ku⟩:=Oe (m:=m) (k:=0) nQ;have p0:=fun(W:nJ) t k hh=>rD (P:=nH) W t k m 0 0 rfl b1 hh ku;have h48:b1=48:=by unfold oJ at hd;rw[List.head?_eq_getElem?,ku] at hd;apply Classical.byContradiction;intro hc;apply hd;have:¬(some b1=some 48):=fun e=>hc (Option.some.inj e);simp[this];omega
  subst h48;have e48:((UInt8.toNat 48:Nat):Int)=48:=rfl;have g1:¬(m.length:Int)<1:=nQ;have g6:¬(6:Int)<(m.length:Int):=nQ;clear hd ku;go_enter Tryz.func136,Tryz.ntmps136;go_wp2_with fail;all_goals go_ret2
  all_goals exact gN HN.out ag
theorem Qn(m:bL)(b1:UInt8)(ku:m[0]?=some b1)(NR:b1≠45)(hl:m.length<=1000)(w:nJ):Calls nH 136 #[.string (str m)] w (uB (numOf m) w):=by
 have NO:m.head?≠some 45:=by rw[List.head?_eq_getElem?,ku];intro e;injection e with e;exact NR e
 have hO:Hid (numOf m=if oJ false m=true then (Lib.decFrom 0 m).map fun(n:Nat)=>(n:Int) else none):=by unfold Hid numOf nr;simp only[if_neg NO,decide_eq_false NO]
 have q0:=fun(W:nJ) t k hh=>rD (P:=nH) W t k m 0 0 rfl b1 hh ku;have e45:((b1.toNat:Int)==45)=false:=by simp;intro e;exact NR (UInt8.toNat_inj.1 (show b1.toNat=(45:UInt8).toNat by simpa using (by omega:b1.toNat=45)))
 have hpos:0<m.length:=(List.getElem?_eq_some_iff.1 ku).1;have hpi:(0:Int)<(m.length:Int):=nQ;by_cases hd:oJ false m=true
 ·have T5:Hid (numOf m=(Lib.decFrom 0 m).map fun(n:Nat)=>(n:Int)):=qh (hO.out.trans (if_pos hd));unfold oJ at hd;simp only[Bool.and_eq_true,decide_eq_true_eq,Bool.not_eq_true',Bool.and_eq_false_iff,decide_eq_false_iff_not,Bool.or_eq_false_iff] at hd;obtain⟨⟨h1,h6⟩,hz⟩:=hd;have g1:¬(m.length:Int)<1:=nQ;have g6:¬(6:Int)<(m.length:Int):=nQ;rw[List.head?_eq_getElem?,ku] at hz;by_cases h48:b1=48
  ·subst h48;rcases hz with hz|⟨hz,_⟩
   ·exact absurd rfl hz
   ·have e48:((UInt8.toNat 48:Nat):Int)=48:=rfl;have hl1:m.length=1:=nQ;have g7:¬(1:Int)<(m.length:Int):=nQ;have LM:=qh hl1;clear hl1 ku NR NO;go_enter Tryz.func136,Tryz.ntmps136;go_wp2_with fail;go_loopg [5,6] m.length (fun gg n i wr=>∃(k v:Nat) (δ:nJ),k<=m.length/\gg=m.length-k/\n=.int .i64 v/\i=.int .i64 k/\Hid (Lib.decFrom 0 (m.take k)=some v)/\wr=af w δ)
    case atStart=>exact⟨0,0,w,nE _,rfl,rfl,rfl,rfl,(aY w).symm⟩
    case round=>
     obtain⟨k,v,δ,hk,rfl,rfl,rfl,HV,rfl⟩:=hrel;have hv6:v<1000000:=nL (Hr HV.out (k:=k) (by rw[List.length_take];omega)) (Th ⟨k,nQ⟩);by_cases hlt:k<m.length
     ·have hki:(k:Int)<(m.length:Int):=nQ;obtain⟨b,hb⟩:=Oe hlt;refine QFI ?_;intro x1 Jj;by_cases DU:b.toNat<48\/57<b.toNat
      ·have HN:Hid (numOf m=none):=qh (by rw[T5.out,BS hb (yo DU)];rfl);clear hb HV;rcases DU with DU|DU
       ·have j1:(b.toNat:Int)<48:=nQ;go_wp2_with fail;go_ret2;exact gN HN.out ag
       ·have j1:¬(b.toNat:Int)<48:=nQ;have j2:(57:Int)<(b.toNat:Int):=nQ;go_wp2_with fail;go_ret2;exact gN HN.out ag
      ·have HN:=qh (yx hb (vk nQ) HV.out);refine QCP ?_;intro j1 j2 u1 d Py;rw[Py] at HN u1;have hd9:d<=9:=nQ;clear hb HV DU Py;go_wp2_with fail;go_roundg (m.length-(k+1))
       case measure=>omega
       case rel=>exact⟨k+1,v*10+d,_,nQ,rfl,by go_num,by go_num,HN,aq⟩
     ·obtain rfl:k=m.length:=by omega
      have HN:Hid (numOf m=some (v:Int)):=qh (by have:=HV.out;rw[List.take_length] at this;rw[T5.out,this];rfl);clear HV;go_wp2_with fail;go_ret2;exact xx HN.out ag
  ·have n48:((b1.toNat:Int)==48)=false:=by simp;intro e;exact h48 (UInt8.toNat_inj.1 (show b1.toNat=(48:UInt8).toNat by simpa using (by omega:b1.toNat=48)))
   clear hz h48 ku NR NO;go_enter Tryz.func136,Tryz.ntmps136;go_wp2_with fail;go_loopg [5,6] m.length (fun gg n i wr=>∃(k v:Nat) (δ:nJ),k<=m.length/\gg=m.length-k/\n=.int .i64 v/\i=.int .i64 k/\Hid (Lib.decFrom 0 (m.take k)=some v)/\wr=af w δ)
   case atStart=>exact⟨0,0,w,nE _,rfl,rfl,rfl,rfl,(aY w).symm⟩
   case round=>
    obtain⟨k,v,δ,hk,rfl,rfl,rfl,HV,rfl⟩:=hrel;have hv6:v<1000000:=nL (Hr HV.out (k:=k) (by rw[List.length_take];omega)) (Th ⟨k,nQ⟩);by_cases hlt:k<m.length
    ·have hki:(k:Int)<(m.length:Int):=nQ;obtain⟨b,hb⟩:=Oe hlt;refine QFI ?_;intro x1 Jj;by_cases DU:b.toNat<48\/57<b.toNat
     ·have HN:Hid (numOf m=none):=qh (by rw[T5.out,BS hb (yo DU)];rfl);clear hb HV;rcases DU with DU|DU
      ·have j1:(b.toNat:Int)<48:=nQ;go_wp2_with fail;go_ret2;exact gN HN.out ag
      ·have j1:¬(b.toNat:Int)<48:=nQ;have j2:(57:Int)<(b.toNat:Int):=nQ;go_wp2_with fail;go_ret2;exact gN HN.out ag
     ·have HN:=qh (yx hb (vk nQ) HV.out);refine QCP ?_;intro j1 j2 u1 d Py;rw[Py] at HN u1;have hd9:d<=9:=nQ;clear hb HV DU Py;go_wp2_with fail;go_roundg (m.length-(k+1))
      case measure=>omega
      case rel=>exact⟨k+1,v*10+d,_,nQ,rfl,by go_num,by go_num,HN,aq⟩
    ·obtain rfl:k=m.length:=by omega
     have HN:Hid (numOf m=some (v:Int)):=qh (by have:=HV.out;rw[List.take_length] at this;rw[T5.out,this];rfl);clear HV;go_wp2_with fail;go_ret2;exact xx HN.out ag
 ·have HN:Hid (numOf m=none):=qh (hO.out.trans (if_neg hd));by_cases h1:m.length<1
  ·omega
  by_cases h6:6<m.length
  ·have g1:¬(m.length:Int)<1:=nQ;have g6:(6:Int)<(m.length:Int):=nQ;clear hd;go_enter Tryz.func136,Tryz.ntmps136;go_wp2_with fail;go_ret2;exact gN HN.out ag
  have h48:b1=48/\1<m.length:=by
   unfold oJ at hd;rw[List.head?_eq_getElem?,ku] at hd;apply Classical.byContradiction;intro hc;apply hd;by_cases hb:b1=48
   ·have:¬1<m.length:=fun e=>hc ⟨hb,e⟩;simp[hb,this];omega
   ·have:¬(some b1=some 48):=fun e=>hb (Option.some.inj e);simp[this];omega
  obtain⟨h48,hg⟩:=h48;subst h48;have g7:(1:Int)<(m.length:Int):=nQ;have e48:((UInt8.toNat 48:Nat):Int)=48:=rfl;have g1:¬(m.length:Int)<1:=nQ;have g6:¬(6:Int)<(m.length:Int):=nQ;clear hd ku NR NO;go_enter Tryz.func136,Tryz.ntmps136;go_wp2_with fail;go_ret2;exact gN HN.out ag
theorem iR(t:bL)(hl:t.length<=1000)(w:nJ):Calls nH 136 #[.string (str t)] w (uB (numOf t) w):=by
 cases t with
 |nil=>
  have HN:=qh Qo
  go_enter Tryz.func136,Tryz.ntmps136
  go_wp2_with fail
  go_ret2
  exact gN HN.out ag
 |cons b r=>
  by_cases hb:b=45
  ·subst hb;exact Qp r (by simp at hl;omega) w
  ·exact Qn (b::r) b rfl hb hl w
end
section
open Hd
theorem cA(x l:bL):((str x).toList==l)=decide (x=l):=by
 rw[sw,jw];by_cases h:x=l
 ·subst h;simp
 ·simp[h]
theorem dB(t:bL)(o:Option Wd)(h:mh t=o)(d:Wd):((str t).toList==cJ d)=decide (o=some d):=by
 rw[cA];by_cases hd:t=cJ d
 ·rw[decide_eq_true hd,decide_eq_true (by rw[<-h];exact dn.2 hd)]
 ·rw[decide_eq_false hd,decide_eq_false (fun e=>hd (dn.1 (by rw[h];exact e)))]
theorem cM(t:bL)(o:Option Wd)(h:mh t=o):((str t).toList==[119,105,110,100])=decide (o=some .aN)/\((str t).toList==[99,117,114,114,101,110,116])=decide (o=some .current)/\((str t).toList==[104,101,97,118,121])=decide (o=some .fU)/\((str t).toList==[116,111,114,110])=decide (o=some .ai)/\((str t).toList==[114,111,112,101])=decide (o=some .lM)/\((str t).toList==[109,101,110,100,101,114,115])=decide (o=some .dU)/\((str t).toList==[109,101,110,100,101,100])=decide (o=some .eK)/\((str t).toList==[112,97,114,116])=decide (o=some .part)/\((str t).toList==[98,97,114,114,101,108])=decide (o=some .fo)/\((str t).toList==[115,97,102,101])=decide (o=some .safe)/\((str t).toList==[115,116,111,114,109])=decide (o=some .fP)/\((str t).toList==[108,111,115,115])=decide (o=some .jE)/\((str t).toList==[100,111,110,101])=decide (o=some .done)/\((str t).toList==[115,97,108,116])=decide (o=some .fD)/\((str t).toList==[98,117,121])=decide (o=some .we)/\((str t).toList==[101,97,114,108,121])=decide (o=some .early)/\((str t).toList==[110,101,101,100])=decide (o=some .mj)/\((str t).toList==[111,114,100,101,114])=decide (o=some .order)/\((str t).toList==[112,97,99,107])=decide (o=some .pack)/\((str t).toList==[102,111,114,103,101,116])=decide (o=some .forget):=
 ⟨dB t o h .aN,dB t o h .current,dB t o h .fU,dB t o h .ai,dB t o h .lM,dB t o h .dU,dB t o h .eK,dB t o h .part,dB t o h .fo,dB t o h .safe,dB t o h .fP,dB t o h .jE,dB t o h .done,dB t o h .fD,dB t o h .we,dB t o h .early,dB t o h .mj,dB t o h .order,dB t o h .pack,dB t o h .forget⟩
end
section
open Hd
def Yf(o:Option Wd):Nat:=match o with|none=>0|some d=>cP d
def arO(o:Option Wd):Nat:=match o with|none=>0|some d=>rZ d
theorem Bb(t:bL)(w:nJ):Calls nH 192 #[.string (str t)] w fun e w'=>e=.returned (.tuple #[.int .i64 (Yf (mh t):Nat),.int .i64 (arO (mh t):Nat)])/\∃δ,w'=af w δ:=by
 obtain⟨o,ho⟩:∃o,mh t=o:=⟨_,rfl⟩;have F:=cM t o ho;rw[ho];clear ho;obtain⟨f0,f1,f2,f3,f4,f5,f6,f7,f8,f9,f10,f11,f12,f13,f14,f15,f16,f17,f18,f19⟩:=F;rcases o with _|d
 ·simp only[reduceCtorEq,decide_false] at f0 f1 f2 f3 f4 f5 f6 f7 f8 f9 f10 f11 f12 f13 f14 f15 f16 f17 f18 f19;go_enter Tryz.func192,Tryz.ntmps192;go_wp2;go_ret2;exact⟨rfl,ag⟩
 ·cases d;all_goals simp only[Option.some.injEq,reduceCtorEq,decide_false,decide_true] at f0 f1 f2 f3 f4 f5 f6 f7 f8 f9 f10 f11 f12 f13 f14 f15 f16 f17 f18 f19;go_enter Tryz.func192,Tryz.ntmps192;go_wp2;go_ret2;exact⟨rfl,ag⟩
end
section
open Hd
def dL(B:Nat)(w:nJ)(v:nK):Option eH->Prop
 |none=>v=.agg #[.int .i64 0,.string ⟨#[]⟩,.slice none 0 0]
 |some c=>∃A cap,v=.agg #[.int .i64 (cP c.w:Nat),.string (str (cJ c.w)),.slice A c.a.length cap]/\fm 3 aH B w A cap c.a
theorem dL.wide{B:Nat}{w w':nJ}{v:nK}{o:Option eH}(h:dL B w v o)[hg:aC B w w'][hB:Le B w']:dL w'.heap.size w' v o:=by
 cases o with
 |none=>exact h
 |some c=>obtain⟨A,cap,h1,h2⟩:=h;exact⟨A,cap,h1,h2.wide⟩
theorem fm.dP{α:Type}{enc:α->List nK}{T T':TypeId}{B g i:Nat}{w:nJ}{A:Option Addr}{c:Nat}{xs:List α}{cs:Array nK}{u:nK}(h:fm T enc B w A c xs)(hb:av w g T' cs)(hne:T'≠T):fm T enc B (w.setCell ⟨g,i,none⟩ u) A c xs:=
 h.pV (nR _) fun b cur fr _ hh=>by refine Below.heap_setCell w ⟨g,i,none⟩ u b ?_;rintro rfl;unfold av at hb;rw[hb] at hh;injection hh with hh;injection hh with _ ht;exact hne ht
theorem dL.dP{B g i:Nat}{w:nJ}{v u:nK}{o:Option eH}{T':TypeId}{cs:Array nK}(h:dL B w v o)(hb:av w g T' cs)(hne:T'≠3):dL B (w.setCell ⟨g,i,none⟩ u) v o:=by
 cases o with
 |none=>exact h
 |some c=>obtain⟨A,cap,h1,h2⟩:=h;exact⟨A,cap,h1,h2.dP hb hne⟩
def rJ(o:Option eH)(w:nJ)(e:Ending)(w':nJ):Prop:=∃v δ,e=.returned v/\w'=af w δ/\dL (af w δ).heap.size (af w δ) v o
theorem pK{o:Option eH}{w w':nJ}(h:o=none)(hl:∃δ,w'=af w δ):rJ o w (.returned (.agg #[.int .i64 0,.string ⟨#[]⟩,.slice none 0 0])) w':=by subst h;obtain⟨δ,rfl⟩:=hl;exact⟨_,δ,rfl,rfl,rfl⟩
theorem Fc{o:Option eH}{w w':nJ}{c:eH}{A:Option Addr}{cap ln:Nat}{k:Int}{s:ByteArray}(h:o=some c)(hk:k=(cP c.w:Nat))(hs:s=str (cJ c.w))(hn:c.a.length=ln)(hl:∃δ,w'=af w δ)(hS:fm 3 aH w'.heap.size w' A cap c.a):rJ o w (.returned (.agg #[.int .i64 k,.string s,.slice A ln cap])) w':=by subst h hk hs hn;obtain⟨δ,rfl⟩:=hl;exact⟨_,δ,rfl,rfl,A,cap,rfl,hS⟩
theorem Tz(d:Wd):1<=cP d/\cP d<=5:=by cases d<;>decide
theorem WE(d:Wd):rZ d<=4:=by cases d<;>decide
theorem xb(ws:List bL)(A:Option Addr)(c:Nat)(hl:∀t∈ws,t.length<=1000)(h1k:ws.length<=1001)(B:Nat)(w:nJ)(hS:Sl cm B w A c ws)[hB:Le B w]:Calls nH 135 #[.slice A ws.length c] w (rJ (bJ ws) w):=by
 cases ws with
 |nil=>
  clear hS
  go_enter Tryz.func135,Tryz.ntmps135
  go_wp2
  refine bodyPost_ret (v:=.agg #[.int .i64 0,.string ⟨#[]⟩,.slice none 0 0]) ?_ rfl ?_
  ·simp only[results,Tryz.results135];go_simp
  ·exact pK rfl ag
 |cons t r=>
  have HS:=qh hS
  have HL:=qh hl
  obtain⟨b,o,rfl,hb,d0⟩:=hS.lQ (k:=0) nV
  have ib:Lt b w:=⟨nL hb hB.out⟩
  have d0':w.cell? ⟨b,o,none⟩=some (.string (str t)):=by have:=d0;simp only[Nat.add_zero] at this;exact this
  have hlen:(t::r).length=r.length+1:=rfl
  have hz:((r.length:Int)+1==0)=false:=by simp;omega
  have VN:(0:Int)<(r.length:Int)+1:=nQ
  clear hS hl d0 hb
  rcases ho:mh t with _|d
  ·have HN:Hid (bJ (t::r)=none):=qh (El ho);have HK:Hid (Yf (mh t)=0):=by unfold Hid;rw[ho];rfl
   clear ho;go_enter Tryz.func135,Tryz.ntmps135;go_wp2_with (go_at_call 192;refine(Bb t _).mono ?_;rw[HK.out];rintro e w1 ⟨rfl,δ1,rfl⟩);refine bodyPost_ret (v:=.agg #[.int .i64 0,.string ⟨#[]⟩,.slice none 0 0]) ?_ rfl ?_
   ·simp only[results,Tryz.results135];go_simp
   ·exact pK HN.out ag
  ·have HK:Hid (Yf (mh t)=cP d/\arO (mh t)=rZ d):=by unfold Hid;rw[ho];exact⟨rfl,rfl⟩
   have HW:Hid (t=cJ d):=qh (dn.1 ho);have HC:Hid (bJ (t::r)=(cS r).bind fun a=>if a.length=rZ d then some ⟨d,a⟩ else none):=by unfold Hid;show qn (mh t) (cS r)=_;rw[ho];rfl
   have hkp:=Tz d;have hap:=WE d;obtain⟨kd,GO⟩:∃kd,cP d=kd:=⟨_,rfl⟩;obtain⟨ar,har⟩:∃ar,rZ d=ar:=⟨_,rfl⟩;rw[GO] at HK hkp;rw[har] at HK hap HC;have hk0:((kd:Int)==0)=false:=by simp;omega
   have HKD:=qh GO;clear ho GO har;by_cases hn:r.length=ar
   ·have hq:((r.length:Int)+1 != (ar:Int)+1)=false:=by simp;omega
    have Va:=qh hn;clear hn;go_enter Tryz.func135,Tryz.ntmps135;go_wp2_with (go_at_call 192;refine(Bb t _).mono ?_;rw[HK.out.1,HK.out.2];rintro e w1 ⟨rfl,δ1,hw⟩;have z1:av w1 w.heap.size 159 #[.int .i64 0,.string ⟨#[]⟩,.slice none 0 0]:=(by rw[hw];exact(av.new rfl).af _);have g3:aC w.heap.size w w1:=(by rw[hw];infer_instance);have g4:Le w.heap.size w1:=(by rw[hw];infer_instance);have g5:aC B w w1:=(by rw[hw];infer_instance);have g6:Le B w1:=(by rw[hw];infer_instance);have ib1:Lt b w1:=(by rw[hw];infer_instance);have d1:w1.cell? ⟨b,o,none⟩=some (.string (str t)):=(by rw[hw];go_simp);clear hw);have iz:Lt w.heap.size w1:=z1.lt;refine aK fun W1 aE=>?_;obtain⟨cz,de,cN,cY,dc⟩:=yj B w aE;have dX:Lt (w1.heap.size) W1:=mb aE;have Z1:Hid (av W1 w.heap.size 159 #[.int .i64 0,.string ⟨#[]⟩,.slice none 0 0]):=by rw[aE.out];exact z1.alloc _
    have X1:Hid (av W1 w1.heap.size 159 #[.int .i64 kd,.string (str t),.slice none 0 0]):=by rw[aE.out];exact av.new rfl
    have VU:w1.heap.size<W1.heap.size:=X1.out.rO;have VV:w.heap.size<W1.heap.size:=Z1.out.rO;have hne:w.heap.size≠w1.heap.size:=by have:=z1.rO;omega
    clear aE z1 d1;go_loopg [6,7,8] r.length (fun gg i n is wr=>∃(k cap:Nat) (A1:Option Addr) (a:List Int),k<=r.length/\gg=r.length-k/\i=.int .i64 ((k:Int)+1)/\Hid (cS (r.take k)=some a)/\Hid (av wr w1.heap.size 159 #[.int .i64 kd,.string (str t),.slice A1 a.length cap])/\Hid (wr.ownsRow W1.heap.size 3 1 (.slice A1 a.length cap) a.length (a.flatMap aH))/\Hid (av wr w.heap.size 159 #[.int .i64 0,.string ⟨#[]⟩,.slice none 0 0])/\aC B w wr/\Le B wr/\aC w.heap.size w wr/\Le W1.heap.size wr)
    case atStart=>exact⟨0,0,none,[],nE _,rfl,rfl,qh rfl,X1,qh (World.ownsRow_nil _ _ _ _),Z1,inferInstance,inferInstance,inferInstance,inferInstance⟩
    case round=>
     obtain⟨k,cap,A1,a,hk,rfl,rfl,HA,HX,HO,HZ,i1,i2,i3,i4⟩:=hrel;have jx:=HX.out.lt;have jz:=HZ.out.lt;have cx0:=HX.out.cell (i:=0) rfl;have Zi:=HX.out.cell (i:=1) rfl;have cx2:=HX.out.cell (i:=2) rfl;have fx2:=HX.out.free 2;have iw:Le w.heap.size wr:=⟨nT (nS VV) i4.out⟩;have hrl:r.length<=1000:=nQ;have hab:a.length<=1001:=by have:=mQ HA.out;rw[List.length_take] at this;omega
     by_cases hlt:k<r.length
     ·have hki:(k:Int)+1<(r.length:Int)+1:=nQ;have ace:¬(k:Int)+1<0:=nQ;obtain⟨b2,o2,uo,gi,dk⟩:=(HS.out.up (w':=wr)).lQ (k:=k+1) nQ;injection uo with uo;injection uo with KW T8;subst KW T8;have jb:Lt b wr:=⟨nL gi i2.out⟩;rw[show nth (t::r) (k+1)=nth r k from rfl] at dk;have ZM:Hid ((nth r k).length<=1000):=qh (HL.out _ (by simp[aS r hlt]));obtain⟨u,hu⟩:∃u,nth r k=u:=⟨_,rfl⟩;have UD:Hid (u∈r):=qh (by rw[<-hu];exact aS r hlt);have XK:Hid (r.take (k+1)=r.take k++[u]):=qh (by rw[bu r hlt,hu]);rw[hu] at dk ZM;clear hu gi;rcases hn:numOf u with _|n
      ·have HN:Hid (bJ (t::r)=none):=by unfold Hid;rw[HC.out,ry UD.out hn];rfl
       have ie:Hid (MZ (numOf u)=0/\(numOf u).isSome=false):=by unfold Hid;rw[hn];exact⟨rfl,rfl⟩
       have cz0:=HZ.out.cell (i:=0) rfl;have cz1:=HZ.out.cell (i:=1) rfl;have cz2:=HZ.out.cell (i:=2) rfl;have fz0:=HZ.out.free 0;have fz1:=HZ.out.free 1;have fz2:=HZ.out.free 2;clear hn;go_wp2_with (go_at_call 136;refine(iR u ZM.out _).mono ?_;rintro e w2 ⟨rfl,δ2,rfl⟩;rw[ie.out.1,ie.out.2]);refine bodyPost_ret (v:=.agg #[.int .i64 0,.string ⟨#[]⟩,.slice none 0 0]) ?_ rfl ?_
       ·simp only[results,Tryz.results135];go_simp
       ·exact pK HN.out ag
      ·have ie:Hid (MZ (numOf u)=n/\(numOf u).isSome=true):=by unfold Hid;rw[hn];exact⟨rfl,rfl⟩
       have Ya:Hid (cS (r.take (k+1))=some (a++[n])):=by unfold Hid;rw[XK.out,z7,HA.out,hn];rfl
       clear hn;go_wp2_with (first|(go_at_call 136;refine(iR u ZM.out _).mono ?_;rintro e w2 ⟨rfl,δ2,rfl⟩;rw[ie.out.1,ie.out.2])|(at_builtin;(refine bK W1 uC (.tmp 53) (.tmp 55) rfl rfl (aT HO.out) rfl rfl nW rfl (by simp[Value.oneCell']) nQ nQ ?_);intro A' c' δ' hown' hg;have zb:=qh hown';clear hown' hg));go_roundg (r.length-(k+1))
       case measure=>omega
       case rel=>
        refine⟨k+1,c',A',a++[n],nQ,rfl,by go_num,Ya,?_,?_,?_,inferInstance,inferInstance,inferInstance,inferInstance⟩
        ·rw[List.length_append];exact qh (av.set (cs:=#[.int .i64 kd,.string (str t),.slice A1 a.length cap]) (((HX.out.af δ2).alloc _).dM VU _) 2 _)
        ·rw[List.length_append,List.flatMap_append];exact qh (cT zb.out (eL zb.out (((HX.out.af δ2).alloc _).dM VU _) nU))
        ·exact qh (av.eZ (((HZ.out.af δ2).alloc _).dM VV _) hne _)
     ·obtain rfl:k=r.length:=by omega
      have hA:=HA.out;rw[List.take_length] at hA;have SI:Hid (bJ (t::r)=some ⟨d,a⟩):=by unfold Hid;rw[HC.out,hA,Option.bind_some,if_pos (by rw[mQ hA,Va.out])]
      have cz0:=HZ.out.cell (i:=0) rfl;have cz1:=HZ.out.cell (i:=1) rfl;have cz2:=HZ.out.cell (i:=2) rfl;have fz0:=HZ.out.free 0;have fz1:=HZ.out.free 1;have fz2:=HZ.out.free 2;have hkn:¬((r.length:Int)+1<(r.length:Int)+1):=nQ;clear hA;go_wp2_with fail;refine bodyPost_ret (v:=.agg #[.int .i64 kd,.string (str t),.slice A1 a.length cap]) ?_ rfl ?_
      ·simp only[results,Tryz.results135];go_simp
      ·refine Fc SI.out (by rw[<-HKD.out]) (by rw[<-HW.out]) rfl ag ?_;refine fm.bW (base:=W1.heap.size) (size:=1) (n:=a.length) ?_ rfl;iterate 3 (refine cT ?_ (eL HO.out HZ.out nU))
       exact HO.out
   ·have hq:((r.length:Int)+1 != (ar:Int)+1)=true:=by simp;omega
    have HN:Hid (bJ (t::r)=none):=by
     unfold Hid;rw[HC.out];cases hx:cS r with
     |none=>rfl
     |some a=>simp only[Option.bind_some];rw[if_neg (by rw[mQ hx];exact hn)]
    clear hn HC;go_enter Tryz.func135,Tryz.ntmps135;go_wp2_with (go_at_call 192;refine(Bb t _).mono ?_;rw[HK.out.1,HK.out.2];rintro e w1 ⟨rfl,δ1,rfl⟩);refine bodyPost_ret (v:=.agg #[.int .i64 0,.string ⟨#[]⟩,.slice none 0 0]) ?_ rfl ?_
    ·simp only[results,Tryz.results135];go_simp
    ·exact pK HN.out ag
end
section
open Hd
theorem Ft{l:bL}{k:Nat}{b:UInt8}(hb:l[k]?=some b):bE (l.take (k+1))=if b=32 then bE (l.take k)++[[]] else JZ b (bE (l.take k)):=by rw[List.take_add_one,hb];exact Fu _ _
theorem Fv(l:bL):∃ws w,bE l=ws++[w]:=by
 rcases List.eq_nil_or_concat (bE l) with h|⟨ws,w,h⟩
 ·exact absurd h (mH l)
 ·exact⟨ws,w,by rw[h,List.concat_eq_append]⟩
theorem vg(ws:List bL):ws.flatMap cm=ws.map fun t=>Value.string (str t):=by
 induction ws with
 |nil=>rfl
 |cons w ws ih=>rw[List.flatMap_cons,ih];rfl
theorem KZ(ws:List bL)(u v:bL):((ws++[u]).flatMap cm).set ws.length (.string (str v))=(ws++[v]).flatMap cm:=by rw[vg,vg,List.map_append,List.map_append,List.set_append_right _ _ nV];simp
theorem Re(ws:List bL)(u:bL):((ws++[u]).flatMap cm)[ws.length]?=some (.string (str u)):=by rw[vg,List.getElem?_map,List.getElem?_append_right (nR _)];simp
theorem xe(l:bL)(hl:l.length<=1000)(w:nJ):Calls nH 134 #[.string (str l)] w fun e w'=>∃A c,e=.returned (.slice A (bE l).length c)/\Sl cm w'.heap.size w' A c (bE l)/\∃δ,w'=af w δ:=by
 go_enter Tryz.func134,Tryz.ntmps134;go_wp2_with fail;go_loopg [3,4] l.length (fun gg o i wr=>∃(k c:Nat) (A:Option Addr),k<=l.length/\gg=l.length-k/\o=.slice A (bE (l.take k)).length c/\i=.int .i64 k/\Hid (wr.ownsRow w.heap.size 9 1 (.slice A (bE (l.take k)).length c) (bE (l.take k)).length ((bE (l.take k)).flatMap cm))/\aC w.heap.size w wr/\Le w.heap.size wr)
 case atStart=>exact⟨0,1,some ⟨w.heap.size,0,none⟩,nE _,rfl,rfl,rfl,qh (Dc (n:=1) (nR _) rfl nQ rfl),inferInstance,inferInstance⟩
 case round=>
  obtain⟨k,c,A,hk,rfl,rfl,rfl,HO,i1,i2⟩:=hrel;by_cases hlt:k<l.length
  ·have hki:(k:Int)<(l.length:Int):=nQ;obtain⟨b,hb⟩:∃b,l[k]?=some b:=⟨l[k],by simp[hlt]⟩;have x1:=fun(W:nJ) t q hh=>rD (P:=nH) W t q l (k:Int) k rfl b hh hb;have HT:=qh (Ft hb);have vX:=(iQ (l.take k)).1;have rW:=(iQ (l.take k)).2;rw[List.length_take] at vX rW;obtain⟨ws,u,oe⟩:=Fv (l.take k);rw[oe] at HO HT vX rW ⊢;have hul:u.length<=1000:=by have:=rW u nV;omega
   have QM:ws.length<=1001:=by rw[List.length_append] at vX;simp at vX;omega
   clear hb oe vX rW;by_cases Wq:b=32
   ·have Jt:=qh (HT.out.trans (if_pos Wq));subst Wq;have e32:((UInt8.toNat 32:Nat):Int)=32:=rfl;go_wp2_with (at_builtin;(refine bK w RS (.tmp 16) (.tmp 17) rfl rfl HO.out rfl rfl nW rfl (by simp[Value.oneCell']) (by simp;omega) nQ ?_);intro A' c' δ' hown' hg);go_roundg (l.length-(k+1))
    case measure=>omega
    case rel=>refine⟨k+1,c',A',nQ,rfl,by rw[Jt.out];simp,by go_num,?_,inferInstance,inferInstance⟩;rw[Jt.out];refine qh ?_;rw[List.length_append,List.flatMap_append];exact hown'
   ·have Jt:=qh (HT.out.trans (if_neg Wq));rw[JY] at Jt;have n32:((b.toNat:Int)==32)=false:=by simp;intro e;exact Wq (UInt8.toNat_inj.1 (show b.toNat=(32:UInt8).toNat by simpa using (by omega:b.toNat=32)))
    obtain⟨g,rfl,hg0,hg1,hc,hf⟩:=pQ HO.out nV;have d1:=hc ws.length _ (Re ws u);have f1:=hf ws.length;have iN:mw w.heap.size g:=⟨hg0⟩;have a1:=fun(W:nJ)=>jy (P:=nH) W u [b] (by simp;omega);have b1:=fun(W:nJ) (g c:Nat) (h:W.cell? ⟨g,0,none⟩=some (.int .u8 b.toNat))=>EC W g c b h;obtain⟨m,hm⟩:∃m,(ws++[u]).length=m:=⟨_,rfl⟩;have hmw:m=ws.length+1:=by rw[<-hm];simp
    obtain⟨p,hp⟩:∃p,ws.length=p:=⟨_,rfl⟩;have HP:=qh hp;rw[hm] at HO ⊢;rw[hp] at d1 f1;have hmp:IntKind.i64.wrap ((m:Int)-1)=(p:Int):=by rw[IntWalk.i64_in];omega;omega
    have hpm:(p:Int)<(m:Int):=nQ;have VO:¬(p:Int)<0:=nQ;have HM:=qh hm;clear hc hf Wq hm hp hmw;go_wp2_with fail;go_region;go_wp2_with fail;go_roundg (l.length-(k+1))
    case measure=>omega
    case rel=>
     have hlen:(ws++[u++[b]]).length=m:=by rw[<-HM.out];simp
     refine⟨k+1,c,some ⟨g,0,none⟩,nQ,rfl,by rw[Jt.out,hlen],by go_num,?_,inferInstance,inferInstance⟩;rw[Jt.out,hlen,<-KZ ws u (u++[b]),HP.out];refine qh ?_;exact(nN HO.out (by have:=HO.out.1;rw[this,Nat.mul_one];exact Int.ofNat_lt.1 hpm)).alloc _
  ·obtain rfl:k=l.length:=by omega
   go_wp2_with fail;go_ret;have HO:=HO.out;rw[List.take_length] at HO ⊢;exact⟨A,c,rfl,Sl.bW HO,ag⟩
end
end Go.Proofs.YtcjjlikhlmfedaaGreatDoor
