/- A part of the proof that a law of layer 12 holds, cut small by a program (names and blanks): Hm1. -/
import Derived.Test.YtpnnapeoanafdaaGreatDoorZ1
set_option maxRecDepth 100000
set_option maxHeartbeats 40000000
set_option linter.unusedVariables false
set_option linter.unusedSimpArgs false
namespace Go.Proofs.YtpnnapeoanafdaaGreatDoor
open Go.RowKit
open Nat renaming lt_of_lt_of_le → nL, le_refl → nR, zero_le → nE
open Go.Proofs.Tryz renaming prog → nH
open Go renaming World → nJ, Value → nK
namespace Me
structure kr where
 fr:Int
 lo:Int
 hi:Int
 hr:Int
structure Pr where
 a:Int
 b:Int
structure Net where
 m:Int
 hs:List kr
 ps:List Pr
instance:Inhabited kr:=⟨⟨0,0,0,0⟩⟩
instance:Inhabited Pr:=⟨⟨0,0⟩⟩
def ke(xs:List Int)(x:Int):Bool:=decide (x∈xs)
theorem Se{xs:List Int}{x:Int}:ke xs x=true↔x∈xs:=by simp[ke]
theorem Hi{xs:List Int}{x:Int}:ke xs x=false↔x∉xs:=by simp[ke]
def vB(done:List Int)(h:Int)(p:Pr):Bool:=!decide (p.b=h)||ke done p.a
def Q7(ps:List Pr)(done:List Int)(h:Int):Bool:=ps.all (vB done h)
def may(n:Net)(done:List Int)(h:Int):Bool:=!ke done h&&Q7 n.ps done h
theorem tM{n:Net}{done:List Int}{h:Int}:may n done h=true↔h∉done/\∀p∈n.ps,p.b=h->p.a∈done:=by
 unfold may Q7 vB;rw[Bool.and_eq_true,Bool.not_eq_true',Hi,List.all_eq_true];refine and_congr_right fun _=>forall_congr' fun p=>forall_congr' fun _=>?_;rw[Bool.or_eq_true,Bool.not_eq_true',decide_eq_false_iff_not,Se];constructor
 ·intro h1 h2;exact h1.resolve_left (fun h3=>h3 h2)
 ·intro h1;by_cases h2:p.b=h
  ·exact .inr (h1 h2)
  ·exact .inl h2
def az(n:Net):Nat->List Int->List (List Int)
 |0,l=>[l]
 |k+1,l=>(List.range n.hs.length).flatMap fun(i:Nat)=>if may n l (i:Int)=true then az n k (l++[(i:Int)]) else[]
def gH(n:Net):List (List Int):=az n n.hs.length []
def goes(n:Net):List Int->List Int->Bool
 |_,[]=>true
 |pre,x::xs=>(fH 0 ((n.hs.length:Int)-1) x&&may n pre x)&&goes n (pre++[x]) xs
def eu(n:Net)(l:List Int):Bool:=decide (l.length=n.hs.length)&&goes n [] l
theorem Ro{n:Net}{k:Nat}{l o:List Int}:o∈az n k l↔∃r,o=l++r/\r.length=k/\goes n l r=true:=by
 induction k generalizing l with
 |zero=>
  unfold az
  rw[List.mem_singleton]
  constructor
  ·rintro rfl;exact⟨[],nV,rfl,rfl⟩
  ·rintro⟨r,rfl,hr,_⟩;rw[List.eq_nil_of_length_eq_zero hr,List.append_nil]
 |succ k ih=>
  unfold az
  rw[List.mem_flatMap]
  constructor
  ·rintro⟨i,hi,ho⟩;rw[List.mem_range] at hi;by_cases hm:may n l (i:Int)=true
   ·rw[if_pos hm,ih] at ho;obtain⟨r,rfl,hr,hg⟩:=ho;refine⟨(i:Int)::r,nV,by simp[hr],?_⟩;unfold goes;rw[hm,hg,Bool.and_true,Bool.and_true,cX];omega
   ·rw[if_neg hm] at ho;cases ho
  ·rintro⟨r,rfl,hr,hg⟩;cases r with
   |nil=>cases hr
   |cons x r=>
    unfold goes at hg
    rw[Bool.and_eq_true,Bool.and_eq_true,cX] at hg
    obtain⟨⟨⟨h1,h2⟩,hm⟩,hg⟩:=hg
    refine⟨x.toNat,by rw[List.mem_range];omega,?_⟩
    have hx:(x.toNat:Int)=x:=nQ
    rw[hx,if_pos hm,ih]
    exact⟨r,nV,by simpa using hr,hg⟩
theorem ki{n:Net}{o:List Int}:o∈gH n↔eu n o=true:=by
 unfold gH eu;rw[Ro,Bool.and_eq_true,decide_eq_true_eq];constructor
 ·rintro⟨r,rfl,hr,hg⟩;exact⟨by simpa using hr,by simpa using hg⟩
 ·rintro⟨hl,hg⟩;exact⟨o,nV,hl,hg⟩
def oO(h:kr):Bool:=decide (0<=h.fr/\h.fr<=20/\0<=h.lo/\h.lo<=h.hi/\h.hi<=20/\1<=h.hr/\h.hr<=9)
def dj(hs:List kr):Bool:=hs.all oO
def BY(k:Nat)(p:Pr):Bool:=decide (0<=p.a/\p.a<k/\0<=p.b/\p.b<k)
def j8(k:Nat)(ps:List Pr):Bool:=ps.all (BY k)
def qd(n:Net):Bool:=!(gH n).isEmpty
def valid(n:Net):Bool:=(decide (1<=n.m/\n.m<=3)&&decide (n.hs.length<=6)&&decide (n.ps.length<=8)&&dj n.hs&&j8 n.hs.length n.ps)&&qd n
theorem aC{n:Net}:valid n=true↔(1<=n.m/\n.m<=3)/\n.hs.length<=6/\n.ps.length<=8/\dj n.hs=true/\j8 n.hs.length n.ps=true/\qd n=true:=by simp[valid,and_assoc]
theorem eD{hs:List kr}(h:dj hs=true){k:Nat}(hk:k<hs.length):oO (nth hs k)=true:=List.all_eq_true.1 h _ (aR hs hk)
theorem GG{m:Nat}{ps:List Pr}(h:j8 m ps=true){k:Nat}(hk:k<ps.length):BY m (nth ps k)=true:=List.all_eq_true.1 h _ (aR ps hk)
def jq(free:List Int):Nat->Nat
 |0=>0
 |k+1=>if nth free k<nth free (jq free k) then k else jq free k
def own(free:List Int):Nat:=jq free free.length
def kH(ps:List Pr)(out:List Int)(h:Int)(b:Int):Nat->Int
 |0=>b
 |k+1=>if (nth ps k).b=h then max (kH ps out h b k) (nth out (nth ps k).a.toNat) else kH ps out h b k
def fF(n:Net)(s:List Int × List Int)(h:Int):Int:=
 kH n.ps s.2 h (max (nth s.1 (own s.1)) (nth n.hs h.toNat).fr) n.ps.length+(nth n.hs h.toNat).hr
def step(n:Net)(s:List Int × List Int)(h:Int):List Int × List Int:=(s.1.set (own s.1) (fF n s h),s.2.set h.toNat (fF n s h))
def start(n:Net):List Int × List Int:=(List.replicate n.m.toNat 0,List.replicate n.hs.length 0)
def run(n:Net)(l:List Int):List Int × List Int:=l.foldl (step n) (start n)
def times(n:Net)(l:List Int):List Int:=(run n l).2
theorem oG(n:Net)(l:List Int)(h:Int):run n (l++[h])=step n (run n l) h:=by simp[run,List.foldl_append]
theorem DU{n:Net}(p:List Int->List Int × List Int->Prop)(l:List Int)(h0:p [] (start n))(h1:∀pre x,pre++[x] <+: l->p pre (run n pre)->p (pre++[x]) (step n (run n pre) x)):p l (run n l):=by
 have key:∀k,k<=l.length->p (l.take k) (run n (l.take k)):=by
  intro k;induction k with
  |zero=>intro _;rw[List.take_zero];exact h0
  |succ k ih=>
   intro hk
   rw[bz l nQ,oG]
   refine h1 _ _ ?_ (ih nQ)
   rw[<-bz l nQ]
   exact List.take_prefix _ _
 have:=key l.length (nR _);rwa [List.take_length] at this
theorem jX(n:Net)(l:List Int):(run n l).1.length=n.m.toNat/\(run n l).2.length=n.hs.length:=
 DU (fun _ s=>s.1.length=n.m.toNat/\s.2.length=n.hs.length) l (by simp[start]) (fun pre x _ ih=>by simp[step,ih])
theorem kL(n:Net)(l:List Int):(times n l).length=n.hs.length:=(jX n l).2
theorem iJ{α:Type}[Inhabited α](xs:List α){k:Nat}(h:k<xs.length)(v:α):nth (xs.set k v) k=v:=by simp[nth,h]
theorem kF{α:Type}[Inhabited α](xs:List α){j k:Nat}(h:j≠k)(v:α):nth (xs.set j v) k=nth xs k:=by simp[nth,List.getElem?_set_ne h]
theorem B6{α:Type}[Inhabited α](xs:List α)(j k:Nat)(v:α):nth (xs.set j v) k=v\/nth (xs.set j v) k=nth xs k:=by
 by_cases h:j=k
 ·subst h;rcases Nat.lt_or_ge j xs.length with hl|hl
  ·exact .inl (iJ xs hl v)
  ·exact .inr (by rw[List.set_eq_of_length_le hl])
 ·exact .inr (kF xs h v)
theorem vO{m k:Nat}:nth (List.replicate m (0:Int)) k=0:=by unfold nth List.getD;rw[List.getElem?_replicate];split<;>rfl
theorem Ec{free:List Int}{k:Nat}(h:0<k):jq free k<k:=by
 induction k with
 |zero=>omega
 |succ k ih=>
  unfold jq
  split
  ·omega
  ·cases k with
   |zero=>simp[jq]
   |succ k=>have:=ih nQ;omega
theorem U6{free:List Int}{k:Nat}(j:Nat)(h:j<k):nth free (jq free k)<=nth free j:=by
 induction k with
 |zero=>omega
 |succ k ih=>
  unfold jq
  by_cases hj:j<k
  ·have:=ih hj;split<;>omega
  ·have:j=k:=nQ;subst this;split<;>omega
theorem Ri{free:List Int}(h:0<free.length):own free<free.length:=Ec h
theorem XW{free:List Int}{j:Nat}(h:j<free.length):nth free (own free)<=nth free j:=U6 j h
theorem Wi{ps:List Pr}{out:List Int}{h b M:Int}(k:Nat)(hb:b<=M)(ho:∀j,nth out j<=M):b<=kH ps out h b k/\kH ps out h b k<=M:=by
 induction k with
 |zero=>exact⟨Int.le_refl _,hb⟩
 |succ k ih=>
  unfold kH
  split
  ·have:=ho (nth ps k).a.toNat;omega
  ·exact ih
theorem dV{h:kr}:oO h=true↔0<=h.fr/\h.fr<=20/\0<=h.lo/\h.lo<=h.hi/\h.hi<=20/\1<=h.hr/\h.hr<=9:=by simp[oO]
theorem jr{k:Nat}{p:Pr}:BY k p=true↔0<=p.a/\p.a<k/\0<=p.b/\p.b<k:=by simp[BY]
def kY(M:Int)(xs:List Int):Prop:=∀j,0<=nth xs j/\nth xs j<=M
theorem DE{M:Int}{xs:List Int}{v:Int}(h:kY M xs)(h0:0<=v)(h1:v<=M)(k:Nat):kY M (xs.set k v):=fun j=>by
 rcases B6 xs k j v with e|e<;>rw[e]
 ·exact⟨h0,h1⟩
 ·exact h j
theorem o6{M M':Int}{xs:List Int}(h:kY M xs)(hM:M<=M'):kY M' xs:=fun j=>⟨(h j).1,Int.le_trans (h j).2 hM⟩
def isHole(n:Net)(h:Int):Prop:=0<=h/\h<n.hs.length
theorem xx{n:Net}{s:List Int × List Int}{h M:Int}(hv:dj n.hs=true)(hh:isHole n h)(h1:kY M s.1)(h2:kY M s.2)(hM:20<=M):0<=fF n s h/\fF n s h<=M+9/\(nth n.hs h.toNat).fr+(nth n.hs h.toNat).hr<=fF n s h/\nth s.1 (own s.1)<=fF n s h/\kH n.ps s.2 h (max (nth s.1 (own s.1)) (nth n.hs h.toNat).fr) n.ps.length<=M:=by have a:=dV.1 (eD hv (k:=h.toNat) (by have:=hh.1;have:=hh.2;omega));have b:=h1 (own s.1);have c:=Wi (ps:=n.ps) (out:=s.2) (h:=h) (b:=max (nth s.1 (own s.1)) (nth n.hs h.toNat).fr) (M:=M) n.ps.length nQ (fun j=>(h2 j).2);unfold fF;omega
def qb(n:Net)(l:List Int):Prop:=∀x∈l,isHole n x
theorem JW{n:Net}(hv:dj n.hs=true)(l:List Int)(hl:qb n l):kY (20+9*l.length) (run n l).1/\kY (20+9*l.length) (run n l).2:=by
 have z:∀m,kY 20 (List.replicate m 0):=fun m j=>by rw[vO];omega
 refine DU (fun l s=>kY (20+9*(l.length:Int)) s.1/\kY (20+9*(l.length:Int)) s.2) l ⟨z _,z _⟩ ?_;rintro pre x hp ⟨i1,i2⟩;have hx:isHole n x:=hl x (hp.subset nV);obtain⟨b1,b2,_⟩:=xx hv hx i1 i2 nQ;have e:(20+9*((pre++[x]).length:Int))=20+9*(pre.length:Int)+9:=by simp;omega
 rw[e];exact⟨DE (o6 i1 nQ) b1 b2 _,DE (o6 i2 nQ) b1 b2 _⟩
theorem Lf{n:Net}{pre l:List Int}(h:goes n pre l=true):qb n l:=by
 induction l generalizing pre with
 |nil=>intro x hx;cases hx
 |cons y l ih=>
  unfold goes at h
  rw[Bool.and_eq_true,Bool.and_eq_true,cX] at h
  intro x hx
  rcases List.mem_cons.1 hx with rfl|hx
  ·exact⟨h.1.1.1,nQ⟩
  ·exact ih h.2 x hx
theorem jE{n:Net}{l:List Int}(h:eu n l=true):qb n l:=by unfold eu at h;rw[Bool.and_eq_true] at h;exact Lf h.2
theorem ji{n:Net}{l:List Int}(h:eu n l=true):l.length=n.hs.length:=by unfold eu at h;rw[Bool.and_eq_true,decide_eq_true_eq] at h;exact h.1
theorem vi{n:Net}(hv:valid n=true){l:List Int}(hl:eu n l=true):kY 74 (times n l):=by obtain⟨_,h6,_,ho,_⟩:=aC.1 hv;have:=(JW ho l (jE hl)).2;refine o6 this ?_;rw[ji hl];omega
def fP(hs:List kr)(ts rt:List Int):Nat->Int
 |0=>0
 |k+1=>fP hs ts rt k+nth rt k*(nth ts k-(nth hs k).fr)
def jl(n:Net)(l rt:List Int):Int:=fP n.hs (times n l) rt n.hs.length
def Ep(n:Net):List Int:=n.hs.map kr.lo
def gT(n:Net):List Int:=n.hs.map kr.hi
def dM(n:Net)(l:List Int):Int:=jl n l (gT n)
def ou(ts:List Int):Nat->Int
 |0=>0
 |k+1=>max (ou ts k) (nth ts k)
def eZ(n:Net)(l:List Int):Int:=ou (times n l) n.hs.length
def ze{α:Type}(f:α->Int):α->List α->α
 |b,[]=>b
 |b,x::xs=>if f x<f b then ze f x xs else ze f b xs
theorem Bf{α:Type}(f:α->Int)(b:α)(xs:List α):f (ze f b xs)<=f b/\∀x∈xs,f (ze f b xs)<=f x:=by
 induction xs generalizing b with
 |nil=>exact⟨Int.le_refl _,fun x hx=>by cases hx⟩
 |cons y ys ih=>
  unfold ze
  split
  ·obtain⟨h1,h2⟩:=ih y;refine⟨nQ,fun x hx=>?_⟩;rcases List.mem_cons.1 hx with rfl|hx
   ·exact h1
   ·exact h2 x hx
  ·obtain⟨h1,h2⟩:=ih b;refine⟨h1,fun x hx=>?_⟩;rcases List.mem_cons.1 hx with rfl|hx
   ·omega
   ·exact h2 x hx
theorem Wf{α:Type}(f:α->Int)(b:α)(xs:List α):ze f b xs=b\/ze f b xs∈xs:=by
 induction xs generalizing b with
 |nil=>exact .inl rfl
 |cons y ys ih=>
  unfold ze
  split
  ·rcases ih y with h|h
   ·rw[h];exact .inr nV
   ·exact .inr (by simp[h])
  ·rcases ih b with h|h
   ·exact .inl h
   ·exact .inr (by simp[h])
theorem Tx{α:Type}(f:α->Int)(b:α)(xs:List α)(x:α):ze f b (xs++[x])=if f x<f (ze f b xs) then x else ze f b xs:=by
 induction xs generalizing b with
 |nil=>rfl
 |cons y ys ih=>
  rw[List.cons_append]
  unfold ze
  split
  ·exact ih y
  ·exact ih b
def least{α:Type}[Inhabited α](f:α->Int):List α->α
 |[]=>default
 |x::xs=>ze f x xs
theorem oQ{α:Type}[Inhabited α](f:α->Int){xs:List α}(h:xs≠[])(x:α):least f (xs++[x])=if f x<f (least f xs) then x else least f xs:=by
 cases xs with
 |nil=>exact absurd rfl h
 |cons y ys=>exact Tx f y ys x
theorem least_le{α:Type}[Inhabited α](f:α->Int){xs:List α}{x:α}(h:x∈xs):f (least f xs)<=f x:=by
 cases xs with
 |nil=>cases h
 |cons y ys=>
  rcases List.mem_cons.1 h with rfl|h
  ·exact(Bf f x ys).1
  ·exact(Bf f y ys).2 x h
theorem fC{α:Type}[Inhabited α](f:α->Int){xs:List α}(h:xs≠[]):least f xs∈xs:=by
 cases xs with
 |nil=>exact absurd rfl h
 |cons y ys=>
  rcases Wf f y ys with e|e
  ·show ze f y ys∈_;rw[e];simp
  ·exact List.mem_cons_of_mem _ e
def fZ(n:Net):List Int:=least (dM n) (gH n)
def cR(n:Net):Int:=dM n (fZ n)
def mE(n:Net):Int:=eZ n (least (eZ n) (gH n))
theorem mP{n:Net}(h:qd n=true):gH n≠[]:=by intro e;unfold qd at h;rw[e] at h;cases h
theorem Dc{n:Net}{l:List Int}(h:eu n l=true):cR n<=dM n l:=least_le _ (ki.2 h)
theorem Iv{n:Net}{l:List Int}(h:eu n l=true):mE n<=eZ n l:=least_le (eZ n) (ki.2 h)
theorem gp{n:Net}(h:qd n=true):eu n (fZ n)=true:=ki.1 (fC _ (mP h))
end Me
section
open Me
def bE(x:kr):List nK:=[.int .i64 x.fr,.int .i64 x.lo,.int .i64 x.hi,.int .i64 x.hr]
def dG(x:Pr):List nK:=[.int .i64 x.a,.int .i64 x.b]
section
variable{B:Nat}{w:nJ}{A:Option Addr}{c:Nat}
theorem Sl.pr{xs:List Pr}(h:Sl dG B w A c xs){k:Nat}(hk:k<xs.length):∃b o,A=some ⟨b,o,none⟩/\b<B/\w.cell? ⟨b,o+k*2,none⟩=some (.int .i64 (nth xs k).a)/\w.cell? ⟨b,o+k*2+1,none⟩=some (.int .i64 (nth xs k).b):=by obtain⟨b,o,hA,hb,hc⟩:=h.at_ (size:=2) (fun _=>rfl) hk nQ;rw[bN _ hk];exact⟨b,o,hA,hb,hc 0 _ rfl,hc 1 _ rfl⟩
theorem Sl.hole{xs:List kr}(h:Sl bE B w A c xs){k:Nat}(hk:k<xs.length):∃b o,A=some ⟨b,o,none⟩/\b<B/\w.cell? ⟨b,o+k*4,none⟩=some (.int .i64 (nth xs k).fr)/\w.cell? ⟨b,o+k*4+1,none⟩=some (.int .i64 (nth xs k).lo)/\w.cell? ⟨b,o+k*4+2,none⟩=some (.int .i64 (nth xs k).hi)/\w.cell? ⟨b,o+k*4+3,none⟩=some (.int .i64 (nth xs k).hr):=by obtain⟨b,o,hA,hb,hc⟩:=h.at_ (size:=4) (fun _=>rfl) hk nQ;rw[bN _ hk];exact⟨b,o,hA,hb,hc 0 _ rfl,hc 1 _ rfl,hc 2 _ rfl,hc 3 _ rfl⟩
theorem Sl.take{α:Type}{enc:α->List nK}{xs:List α}(h:Sl enc B w A c xs)(k:Nat):Sl enc B w A c (xs.take k):=by
 refine⟨by rw[List.length_take];have:=h.1;omega,h.2.1,fun hne=>?_⟩;have hn:xs.flatMap enc≠[]:=by
  intro e;apply hne;have:(xs.take k).flatMap enc <+: xs.flatMap enc:=by
   conv=>rhs;rw[<-List.take_append_drop k xs,List.flatMap_append]
   exact List.prefix_append _ _
  rw[e] at this;exact List.prefix_nil.1 this
 obtain⟨b,o,hA,hb,hv⟩:=h.2.2 hn;refine⟨b,o,hA,hb,fun j v hj=>hv j v ?_⟩;conv=>lhs;rw[<-List.take_append_drop k xs,List.flatMap_append]
 rw[List.getElem?_append_left (List.getElem?_eq_some_iff.1 hj).1];exact hj
end
structure cx where
 hA:Option Addr
 hc:Nat
 pA:Option Addr
 pc:Nat
abbrev cH(r:cx)(n:Net):nK:=.agg #[.int .i64 n.m,.slice r.hA n.hs.length r.hc,.slice r.pA n.ps.length r.pc]
def bL(B:Nat)(w:nJ)(r:cx)(n:Net):Prop:=Sl bE B w r.hA r.hc n.hs/\Sl dG B w r.pA r.pc n.ps
section
variable{B:Nat}{w:nJ}{r:cx}{n:Net}
@[go_sem] theorem WG:bL B w.drew r n↔bL B w r n:=Iff.rfl
theorem bL.up{w':nJ}(h:bL B w r n)[hg:aD B w w']:bL B w' r n:=⟨h.1.up,h.2.up⟩
theorem bL.more(h:bL B w r n){B':Nat}(hB:B<=B'):bL B' w r n:=⟨h.1.more hB,h.2.more hB⟩
theorem bL.wide{W:nJ}(h:bL B w r n)[aD B w W][hB:Le B W]:bL W.heap.size W r n:=h.up.more hB.out
end
theorem qp(n low high:Int)(w:nJ):Calls nH 122 #[.int .i64 n,.int .i64 low,.int .i64 high] w fun e w'=>e=.returned (.bool (fH low high n))/\w=w':=by go_enter Tryz.func122,Tryz.ntmps122;go_wp2_with (go_at_call 185;refine(zm _ _ _ _).mono ?_;rintro e w1 ⟨rfl,rfl⟩);go_ret;exact⟨rfl,rfl⟩
theorem wR(n low high:Int)(w:nJ):Calls nH 163 #[.int .i64 n,.int .i64 low,.int .i64 high] w fun e w'=>e=.returned (.bool (fH low high n))/\w=w':=by
 go_enter Tryz.func163,Tryz.ntmps163;by_cases h1:low<=n
 ·go_wp2;go_ret;exact⟨bg (by simp[fH,h1]),rfl⟩
 ·go_wp2;go_ret;exact⟨bg (by simp[fH];omega),rfl⟩
theorem MJ(A:Option Addr)(c ln:Nat)(xs:List Int)(x:Int)(B:Nat)(w:nJ)(h:Sl aI B w A c xs)(hn:xs.length=ln):Calls nH 229 #[.slice A ln c,.int .i64 x] w fun e w'=>e=.returned (.bool (ke xs x))/\w=w':=by
 subst hn;have hl:=h.len;go_enter Tryz.func229,Tryz.ntmps229;go_wp2;go_loop [5] (fun i=>∃k:Nat,k<=xs.length/\i=.int .i64 k/\Hid (x∉xs.take k)) (fun i=>xs.length-(intOf i).toNat)
 case atStart=>exact⟨0,nE _,rfl,by simp[Hid]⟩
 case round=>
  obtain⟨k,hk,rfl,hn⟩:=hrel;by_cases hlt:k<xs.length
  ·obtain⟨b,o,rfl,hb,hc⟩:=h.int hlt;have hm:=qh (aR xs hlt);have ht:=qh (bz xs hlt);by_cases he:nth xs k=x
   ·subst he;go_wp2;go_ret;exact⟨bg (by simpa [ke] using hm.out),rfl⟩
   ·have he':(nth xs k==x)=false:=by simpa using he
    go_wp2;go_round
    case rel=>refine⟨k+1,nQ,by go_num,?_⟩;have:=hn.out;unfold Hid;rw[ht.out];simp[this,Ne.symm he]
    case measure=>simp[intOf];omega
  ·obtain rfl:k=xs.length:=by omega
   go_wp2;go_ret;refine⟨bg ?_,rfl⟩;have:=hn.out;simpa [ke] using this
theorem Vv(A:Option Addr)(c ln:Nat)(xs:List Int)(x:Int)(B:Nat)(w:nJ)(h:Sl aI B w A c xs)(hn:xs.length=ln):Calls nH 255 #[.slice A ln c,.int .i64 x] w fun e w'=>(∃n:Int,e=.returned (.int .i64 n)/\decide (0<=n)=ke xs x)/\w=w':=by
 subst hn;have hl:=h.len;go_enter Tryz.func255,Tryz.ntmps255;go_wp2;go_loop [8] (fun i=>∃k:Nat,k<=xs.length/\i=.int .i64 k/\Hid (x∉xs.take k)) (fun i=>xs.length-(intOf i).toNat)
 case atStart=>exact⟨0,nE _,rfl,by simp[Hid]⟩
 case round=>
  obtain⟨k,hk,rfl,hn⟩:=hrel;by_cases hlt:k<xs.length
  ·obtain⟨b',o,rfl,hb,Qo⟩:=h.int hlt;have hm:=qh (aR xs hlt);have ht:=qh (bz xs hlt);by_cases he:nth xs k=x
   ·subst he;go_wp2;go_ret;exact⟨⟨k,rfl,by simpa [ke] using hm.out⟩,rfl⟩
   ·have he':(x==nth xs k)=false:=by simpa using Ne.symm he
    go_wp2;go_round
    case rel=>refine⟨k+1,nQ,by go_num,?_⟩;have:=hn.out;unfold Hid;rw[ht.out];simp[this,Ne.symm he]
    case measure=>simp[intOf];omega
  ·obtain rfl:k=xs.length:=by omega
   go_wp2;go_ret;refine⟨⟨-1,rfl,?_⟩,rfl⟩;have:=hn.out;rw[List.take_length] at this;rw[Hi.2 this];rfl
theorem rK(A:Option Addr)(c ln:Nat)(xs:List Int)(x:Int)(b:Bool)(hb:ke xs x=b)(B:Nat)(w:nJ)(h:Sl aI B w A c xs)(hn:xs.length=ln):Calls nH 221 #[.slice A ln c,.int .i64 x] w fun e w'=>e=.returned (.bool b)/\w=w':=by subst hb;go_enter Tryz.func221,Tryz.ntmps221;go_wp2_with (go_at_call 255;refine(Vv _ _ _ xs _ _ _ h hn).mono ?_;rintro e w1 ⟨⟨k,rfl,hk⟩,rfl⟩);go_ret;exact⟨bg nV,rfl⟩
end
section
open Me
theorem Gi(p:Pr)(h:Int)(bh bl:Nat)(A:Option Addr)(c:Nat)(l:List Int)(B:Nat)(w:nJ)(hS:Sl aI B w A c l)[hB:Le B w][i1:Lt bh w][i2:Lt bl w](c1:w.cell? ⟨bh,0,none⟩=some (.int .i64 h))(c2:w.cell? ⟨bl,0,none⟩=some (.slice A l.length c))(b:Bool)(hb:vB l h p=b):Calls nH 256 #[.agg #[.int .i64 p.a,.int .i64 p.b],.pointer (some ⟨bh,0,none⟩),.pointer (some ⟨bl,0,none⟩)] w fun e w'=>e=.returned (.bool (!b))/\∃δ,w'=ah w δ:=by
 subst hb;by_cases h1:p.b=h
 ·have h1':(p.b==h)=true:=by simpa using h1
  have HE:=qh h1;clear h1;go_enter Tryz.func256,Tryz.ntmps256;go_wp2_with (go_at_call 221;refine(rK _ _ _ l _ _ rfl B _ hS.up rfl).mono ?_;rintro e w1 ⟨rfl,rfl⟩);go_ret;exact⟨bg (by simp[vB,HE.out]),ag⟩
 ·have h1':(p.b==h)=false:=by simpa using h1
  have HE:=qh h1;clear h1;go_enter Tryz.func256,Tryz.ntmps256;go_wp2_with fail;go_ret;exact⟨bg (by simp[vB,HE.out]),ag⟩
theorem JY(h:Int)(bh bl:Nat)(A:Option Addr)(c:Nat)(l:List Int)(pA:Option Addr)(pc ln:Nat)(ps:List Pr)(B:Nat)(w:nJ)(hS:Sl aI B w A c l)(hP:Sl dG B w pA pc ps)(jA:ps.length=ln)[hB:Le B w][i1:Lt bh w][i2:Lt bl w](c1:w.cell? ⟨bh,0,none⟩=some (.int .i64 h))(c2:w.cell? ⟨bl,0,none⟩=some (.slice A l.length c)):Calls nH 218 #[.slice pA ln pc,.func (.func 256) #[] #[.pointer (some ⟨bh,0,none⟩),.pointer (some ⟨bl,0,none⟩)]] w fun e w'=>(∃n:Int,e=.returned (.int .i64 n)/\decide (0<=n) = !Q7 ps l h)/\∃δ,w'=ah w δ:=by
 subst jA;have hl:=hP.len;go_enter Tryz.func218,Tryz.ntmps218;go_wp2;go_loopw [8] (fun i wr=>∃(k:Nat) (δ:nJ),k<=ps.length/\i=.int .i64 k/\Hid ((ps.take k).all (vB l h)=true)/\wr=ah w δ) (fun i _=>ps.length-(intOf i).toNat)
 case atStart=>exact⟨0,w,nE _,rfl,by simp[Hid],(bw w).symm⟩
 case round=>
  obtain⟨k,δ,hk,rfl,hn,rfl⟩:=hrel;by_cases hlt:k<ps.length
  ·obtain⟨b',o,rfl,hb,hc0,AE⟩:=hP.pr hlt;have hb':Lt b' w:=⟨nL hb hB.out⟩;have hm:=qh (aR ps hlt);have ht:=qh (bz ps hlt);by_cases he:vB l h (nth ps k)=true
   ·have HE:=qh he;clear he;go_wp2_with (go_at_call 256;refine(Gi (nth ps k) h bh bl A c l B _ hS.up nW nW _ HE.out).mono ?_;rintro e w1 ⟨rfl,δ1,rfl⟩);go_roundw
    case rel=>refine⟨k+1,_,nQ,by go_num,?_,ai⟩;refine QCR ?_;simp[HE.out]
    case measure=>simp[intOf];omega
   ·rw[Bool.not_eq_true] at he;have HE:=qh he;clear he;go_wp2_with (go_at_call 256;refine(Gi (nth ps k) h bh bl A c l B _ hS.up nW nW _ HE.out).mono ?_;rintro e w1 ⟨rfl,δ1,rfl⟩);go_ret;refine⟨⟨k,rfl,?_⟩,ag⟩;have:Q7 ps l h=false:=by rw[Q7,List.all_eq_false];exact⟨_,hm.out,by simp[HE.out]⟩
    rw[this];simp
  ·obtain rfl:k=ps.length:=by omega
   go_wp2;go_ret;refine⟨⟨-1,rfl,?_⟩,ag⟩;have:=hn.out;rw[List.take_length] at this;rw[Q7,this];rfl
theorem Ms(r:cx)(n:Net)(h:Int)(A:Option Addr)(c ln:Nat)(l:List Int)(b:Bool)(hb:Q7 n.ps l h=b)(B:Nat)(w:nJ)(hS:Sl aI B w A c l)(hN:bL B w r n)(jA:l.length=ln)[hB:Le B w]:Calls nH 222 #[cH r n,.int .i64 h,.slice A ln c] w fun e w'=>e=.returned (.bool b)/\∃δ,w'=ah w δ:=by subst jA hb;go_enter Tryz.func222,Tryz.ntmps222;go_wp2_with (first|(go_at_call 166;go_in)|(go_at_call 218;refine(JY h _ _ A c l r.pA r.pc _ n.ps B _ hS.up hN.2.up rfl nW nW).mono ?_;rintro e w1 ⟨⟨k,rfl,hk⟩,δ,rfl⟩));go_ret;exact⟨bg nV,ag⟩
theorem Ra(r:cx)(n:Net)(h:Int)(A:Option Addr)(c ln:Nat)(l:List Int)(b:Bool)(hb:may n l h=b)(B:Nat)(w:nJ)(hS:Sl aI B w A c l)(hN:bL B w r n)(jA:l.length=ln)[hB:Le B w]:Calls nH 186 #[cH r n,.slice A ln c,.int .i64 h] w fun e w'=>e=.returned (.bool b)/\∃δ,w'=ah w δ:=by
 subst jA hb;have hl:=hN.2.len;by_cases hi:ke l h=true
 ·go_enter Tryz.func186,Tryz.ntmps186;go_wp2_with (go_at_call 229;refine(MJ _ _ _ l _ B _ hS.up rfl).mono ?_;rintro e w1 ⟨rfl,rfl⟩);go_ret;exact⟨bg (by simp[may,hi]),ag⟩
 ·rw[Bool.not_eq_true] at hi;go_enter Tryz.func186,Tryz.ntmps186;go_wp2_with (go_at_call 229;refine(MJ _ _ _ l _ B _ hS.up rfl).mono ?_;rintro e w1 ⟨rfl,rfl⟩);go_loop [7] (fun i=>∃k:Nat,k<=n.ps.length/\i=.int .i64 k/\Hid ((n.ps.take k).all (vB l h)=true)) (fun i=>n.ps.length-(intOf i).toNat)
  case atStart=>exact⟨0,nE _,rfl,by simp[Hid]⟩
  case round=>
   obtain⟨k,hk,rfl,hn⟩:=hrel;by_cases hlt:k<n.ps.length
   ·obtain⟨b',o,hA,hb,hc0,AE⟩:=hN.2.pr hlt;have hb':Lt b' w:=⟨nL hb hB.out⟩;have hm:=qh (aR n.ps hlt);have ht:=qh (bz n.ps hlt);have HA:=qh hA;have hki:(k:Int)<(n.ps.length:Int):=nQ;have hk0:¬(k:Int)<0:=nQ;obtain⟨rA,rc,pA,pc⟩:=r;have hA:pA=some ⟨b',o,none⟩:=HA.out;subst hA;by_cases h1:(nth n.ps k).b=h
    ·have h1':((nth n.ps k).b==h)=true:=by simpa using h1
     by_cases h2:ke l (nth n.ps k).a=true
     ·have HP:=qh (show vB l h (nth n.ps k)=true by simp[vB,h2]);clear h1;go_wp2_with (go_at_call 229;refine(MJ _ _ _ l _ B _ hS.up rfl).mono ?_;rintro e w1 ⟨rfl,rfl⟩);go_round
      case rel=>refine⟨k+1,nQ,by go_num,?_⟩;refine QCR ?_;simp[HP.out]
      case measure=>simp[intOf];omega
     ·rw[Bool.not_eq_true] at h2;have HP:=qh (show vB l h (nth n.ps k)=false by simp[vB,h2,h1]);clear h1;go_wp2_with (go_at_call 229;refine(MJ _ _ _ l _ B _ hS.up rfl).mono ?_;rintro e w1 ⟨rfl,rfl⟩);go_ret;refine⟨bg ?_,ag⟩;have:Q7 n.ps l h=false:=by rw[Q7,List.all_eq_false];exact⟨_,hm.out,by simp[HP.out]⟩
      simp[may,this]
    ·have h1':((nth n.ps k).b==h)=false:=by simpa using h1
     have HP:=qh (show vB l h (nth n.ps k)=true by simp[vB,h1]);clear h1;go_wp2_with fail;go_round
     case rel=>refine⟨k+1,nQ,by go_num,?_⟩;refine QCR ?_;simp[HP.out]
     case measure=>simp[intOf];omega
   ·obtain rfl:k=n.ps.length:=by omega
    go_wp2;go_ret;refine⟨bg ?_,ag⟩;have:=hn.out;rw[List.take_length] at this;simp[may,Q7,this,hi]
theorem qx(r:cx)(n:Net)(x:Int)(b:Bool)(hb:fH 0 ((n.hs.length:Int)-1) x=b)(B:Nat)(w:nJ)(hN:bL B w r n)[hB:Le B w]:Calls nH 123 #[cH r n,.int .i64 x] w fun e w'=>e=.returned (.bool b)/\∃δ,w'=ah w δ:=by subst hb;have hl:=hN.1.len;go_enter Tryz.func123,Tryz.ntmps123;go_wp2_with (go_at_call 122;refine(qp _ _ _ _).mono ?_;rintro e w1 ⟨rfl,rfl⟩);go_ret;exact⟨rfl,ag⟩
end
section
open Me
theorem OO(r:cx)(n:Net)(x:Int)(bx:Nat)(w:nJ)[i1:Lt bx w](hl:n.hs.length<=9223372036854775807)(hc:w.cell? ⟨bx,1,none⟩=some (.slice r.hA n.hs.length r.hc)):Calls nH 162 #[.int .i64 x,.pointer (some ⟨bx,0,none⟩)] w fun e w'=>e=.returned (.bool (fH 0 ((n.hs.length:Int)-1) x))/\w=w':=by go_enter Tryz.func162,Tryz.ntmps162;go_wp2_with (go_at_call 163;refine(wR _ _ _ _).mono ?_;rintro e w1 ⟨rfl,rfl⟩);go_ret;exact⟨rfl,rfl⟩
theorem CY(x:kr)(w:nJ):Calls nH 165 #[.agg #[.int .i64 x.fr,.int .i64 x.lo,.int .i64 x.hi,.int .i64 x.hr]] w fun e w'=>e=.returned (.bool (!oO x))/\∃δ,w'=ah w δ:=by go_enter Tryz.func165,Tryz.ntmps165;go_wp2_with (go_at_call 163;refine(wR _ _ _ _).mono ?_;rintro e w1 ⟨rfl,rfl⟩);all_goals go_ret;exact⟨bg (by rw[Bool.eq_iff_iff];simp[fH,oO] at *;omega),ag⟩
theorem CX(r:cx)(n:Net)(p:Pr)(bx bf:Nat)(w:nJ)[i1:Lt bx w][i2:Lt bf w](hl:n.hs.length<=9223372036854775807)(hc:w.cell? ⟨bx,1,none⟩=some (.slice r.hA n.hs.length r.hc))(hf:w.cell? ⟨bf,0,none⟩=some (.func (.func 162) #[] #[.pointer (some ⟨bx,0,none⟩)])):Calls nH 167 #[.agg #[.int .i64 p.a,.int .i64 p.b],.pointer (some ⟨bf,0,none⟩)] w fun e w'=>e=.returned (.bool (!BY n.hs.length p))/\∃δ,w'=ah w δ:=by go_enter Tryz.func167,Tryz.ntmps167;go_wp2_with (go_at_call 162;refine(OO r n _ bx _ hl nW).mono ?_;rintro e w1 ⟨rfl,rfl⟩);all_goals go_ret;exact⟨bg (by rw[Bool.eq_iff_iff];simp[fH,BY] at *;omega),ag⟩
theorem Ez(A:Option Addr)(ln c:Nat)(xs:List kr)(B:Nat)(w:nJ)(h:Sl bE B w A c xs)(hn:xs.length=ln)[hB:Le B w]:Calls nH 217 #[.slice A ln c,.func (.func 165) #[] #[]] w fun e w'=>(∃n:Int,e=.returned (.int .i64 n)/\decide (0<=n) = !dj xs)/\∃δ,w'=ah w δ:=by
 subst hn;have hl:=h.len;go_enter Tryz.func217,Tryz.ntmps217;go_wp2;go_loopw [8] (fun i wr=>∃(k:Nat) (δ:nJ),k<=xs.length/\i=.int .i64 k/\Hid ((xs.take k).all oO=true)/\wr=ah w δ) (fun i _=>xs.length-(intOf i).toNat)
 case atStart=>exact⟨0,w,nE _,rfl,by simp[Hid],(bw w).symm⟩
 case round=>
  obtain⟨k,δ,hk,rfl,hn,rfl⟩:=hrel;by_cases hlt:k<xs.length
  ·obtain⟨b',o,rfl,hb,hc0,AE,MY,Qn⟩:=h.hole hlt;refine QDE ?_;intro hb' hm ht;by_cases he:oO (nth xs k)=true
   ·go_wp2_with (go_at_call 165;refine(CY (nth xs k) _).mono ?_;rintro e w1 ⟨rfl,δ1,rfl⟩);go_roundw
    case rel=>refine⟨k+1,_,nQ,by go_num,?_,ai⟩;refine QCR ?_;simp[he]
    case measure=>simp[intOf];omega
   ·rw[Bool.not_eq_true] at he;go_wp2_with (go_at_call 165;refine(CY (nth xs k) _).mono ?_;rintro e w1 ⟨rfl,δ1,rfl⟩);go_ret;refine⟨⟨k,rfl,?_⟩,ag⟩;have:dj xs=false:=by rw[dj,List.all_eq_false];exact⟨_,hm.out,by simp[he]⟩
    rw[this];simp
  ·obtain rfl:k=xs.length:=by omega
   go_wp2;go_ret;refine⟨⟨-1,rfl,?_⟩,ag⟩;have:=hn.out;rw[List.take_length] at this;rw[dj,this];rfl
theorem KW(r:cx)(n:Net)(bx bf:Nat)(A:Option Addr)(ln c:Nat)(xs:List Pr)(B:Nat)(w:nJ)(h:Sl dG B w A c xs)(hn:xs.length=ln)[hB:Le B w][i1:Lt bx w][i2:Lt bf w](hl':n.hs.length<=9223372036854775807)(hc:w.cell? ⟨bx,1,none⟩=some (.slice r.hA n.hs.length r.hc))(hf:w.cell? ⟨bf,0,none⟩=some (.func (.func 162) #[] #[.pointer (some ⟨bx,0,none⟩)])):Calls nH 218 #[.slice A ln c,.func (.func 167) #[] #[.pointer (some ⟨bf,0,none⟩)]] w fun e w'=>(∃k:Int,e=.returned (.int .i64 k)/\decide (0<=k) = !j8 n.hs.length xs)/\∃δ,w'=ah w δ:=by
 subst hn;have hl:=h.len;go_enter Tryz.func218,Tryz.ntmps218;go_wp2;go_loopw [8] (fun i wr=>∃(k:Nat) (δ:nJ),k<=xs.length/\i=.int .i64 k/\Hid ((xs.take k).all (BY n.hs.length)=true)/\wr=ah w δ) (fun i _=>xs.length-(intOf i).toNat)
 case atStart=>exact⟨0,w,nE _,rfl,by simp[Hid],(bw w).symm⟩
 case round=>
  obtain⟨k,δ,hk,rfl,hn,rfl⟩:=hrel;by_cases hlt:k<xs.length
  ·obtain⟨b',o,rfl,hb,hc0,AE⟩:=h.pr hlt;refine QDE ?_;intro hb' hm ht;by_cases he:BY n.hs.length (nth xs k)=true
   ·go_wp2_with (go_at_call 167;refine(CX r n (nth xs k) bx bf _ hl' nW nW).mono ?_;rintro e w1 ⟨rfl,δ1,rfl⟩);go_roundw
    case rel=>refine⟨k+1,_,nQ,by go_num,?_,ai⟩;refine QCR ?_;simp[he]
    case measure=>simp[intOf];omega
   ·rw[Bool.not_eq_true] at he;go_wp2_with (go_at_call 167;refine(CX r n (nth xs k) bx bf _ hl' nW nW).mono ?_;rintro e w1 ⟨rfl,δ1,rfl⟩);go_ret;refine⟨⟨k,rfl,?_⟩,ag⟩;have:j8 n.hs.length xs=false:=by rw[j8,List.all_eq_false];exact⟨_,hm.out,by simp[he]⟩
    rw[this];simp
  ·obtain rfl:k=xs.length:=by omega
   go_wp2;go_ret;refine⟨⟨-1,rfl,?_⟩,ag⟩;have:=hn.out;rw[List.take_length] at this;rw[j8,this];rfl
end
namespace Me
def BI(F:List Int)(x:Int):Nat:=F.countP (fun a=>decide (a<=x))
def bit(p:Prop)[Decidable p]:Nat:=if p then 1 else 0
theorem Wa(F:List Int)(k:Nat)(hk:k<F.length)(v x:Int):BI (F.set k v) x+bit (nth F k<=x)=BI F x+bit (v<=x):=by
 induction F generalizing k with
 |nil=>simp at hk
 |cons a F ih=>
  cases k with
  |zero=>
   simp only[List.set_cons_zero,BI,List.countP_cons,nth,List.getD,List.getElem?_cons_zero,Option.getD_some,bit,decide_eq_true_eq]
   by_cases h1:a<=x<;>by_cases h2:v<=x<;>simp only[h1,h2,if_true,if_false]<;>omega
  |succ k=>
   have:=ih k (by simpa using hk)
   have e:nth (a::F) (k+1)=nth F k:=by simp[nth]
   rw[e]
   simp only[List.set_cons_succ,BI,List.countP_cons] at this ⊢
   omega
theorem Wb(F:List Int)(x:Int):0<BI F x↔∃k,k<F.length/\nth F k<=x:=by
 unfold BI;rw[List.countP_pos_iff];constructor
 ·rintro⟨a,ha,h⟩;obtain⟨k,hk,rfl⟩:=List.getElem_of_mem ha;exact⟨k,hk,by rw[bN _ hk];simpa using h⟩
 ·rintro⟨k,hk,h⟩;exact⟨_,aR F hk,by simpa using h⟩
theorem zc{F:List Int}(hF:0<F.length)(x:Int):0<BI F x↔nth F (own F)<=x:=by
 rw[Wb];constructor
 ·rintro⟨k,hk,h⟩;have:=XW hk;omega
 ·intro h;exact⟨_,Ri hF,h⟩
theorem wD{F:List Int}(hF:0<F.length)(c x:Int):BI (F.set (own F) c) x+bit (nth F (own F)<=x)=BI F x+bit (c<=x):=Wa F _ (Ri hF) c x
def Ul(F F':List Int):Prop:=∀x,BI F' x<=BI F x
theorem Nb{F F':List Int}(h:Ul F F')(hF:0<F.length)(Pt:0<F'.length):nth F (own F)<=nth F' (own F'):=by have h1:=(zc Pt (nth F' (own F'))).2 (Int.le_refl _);exact(zc hF _).1 (nL h1 (h _))
theorem pW{p:Prop}[Decidable p](h:p):bit p=1:=if_pos h
theorem zh{p:Prop}[Decidable p](h:¬p):bit p=0:=if_neg h
theorem Iw{F F':List Int}(h:Ul F F')(hF:0<F.length)(Pt:0<F'.length){c c':Int}(h1:nth F (own F)<=c)(h2:nth F' (own F')<=c')(h3:c<=c'):Ul (F.set (own F) c) (F'.set (own F') c'):=by
 intro x;have a:=wD hF c x;have b:=wD Pt c' x;have d:=h x;have e:=zc hF x;have e':=zc Pt x;by_cases k1:c'<=x
 ·rw[pW k1,pW (show nth F' (own F')<=x by omega)] at b;rw[pW (show c<=x by omega),pW (show nth F (own F)<=x by omega)] at a;omega
 ·rw[zh k1] at b;by_cases k2:nth F (own F)<=x
  ·rw[pW k2] at a;by_cases k3:nth F' (own F')<=x
   ·rw[pW k3] at b;omega
   ·have:¬0<BI F' x:=fun hc=>k3 (e'.1 hc);rw[zh k3] at b;omega
  ·have:¬0<BI F x:=fun hc=>k2 (e.1 hc);have k3:¬nth F' (own F')<=x:=fun hc=>by have:=e'.2 hc;omega
   rw[zh k3] at b;omega
theorem Ta{F F':List Int}(h:Ul F F')(Pt:0<F'.length){c':Int}(h2:nth F' (own F')<=c'):Ul F (F'.set (own F') c'):=by
 intro x;have b:=wD Pt c' x;have d:=h x;by_cases k1:c'<=x
 ·rw[pW k1,pW (show nth F' (own F')<=x by omega)] at b;omega
 ·rw[zh k1] at b;omega
theorem Na{a b:Nat}(h:b<=a):Ul (List.replicate a 0) (List.replicate b 0):=by
 intro x;unfold BI;rw[List.countP_replicate,List.countP_replicate];split
 ·exact h
 ·exact nR _
theorem E8{ps:List Pr}{out:List Int}{h b M:Int}(k:Nat):kH ps out h b k<=M↔b<=M/\∀j,j<k->(nth ps j).b=h->nth out (nth ps j).a.toNat<=M:=by
 induction k with
 |zero=>exact⟨fun hb=>⟨hb,fun j hj=>by omega⟩,fun hb=>hb.1⟩
 |succ k ih=>
  unfold kH
  by_cases hk:(nth ps k).b=h
  ·rw[if_pos hk,Int.max_le,ih];constructor
   ·rintro⟨⟨h1,h2⟩,h3⟩;refine⟨h1,fun j hj hb=>?_⟩;by_cases e:j=k
    ·subst e;exact h3
    ·exact h2 j nQ hb
   ·rintro⟨h1,h2⟩;exact⟨⟨h1,fun j hj=>h2 j nQ⟩,h2 k nQ hk⟩
  ·rw[if_neg hk,ih];refine and_congr_right fun _=>⟨fun h2 j hj hb=>?_,fun h2 j hj=>h2 j nQ⟩;by_cases e:j=k
   ·subst e;exact absurd hb hk
   ·exact h2 j nQ hb
theorem qD{n:Net}{s:List Int × List Int}{h:Int}:nth s.1 (own s.1)+(nth n.hs h.toNat).hr<=fF n s h/\(nth n.hs h.toNat).fr+(nth n.hs h.toNat).hr<=fF n s h:=by have:=((E8 (ps:=n.ps) (out:=s.2) (h:=h) (b:=max (nth s.1 (own s.1)) (nth n.hs h.toNat).fr) n.ps.length).1 (Int.le_refl _)).1;unfold fF;omega
theorem CW{n n':Net}{s s':List Int × List Int}{h h':Int}(e1:(nth n.hs h.toNat).fr=(nth n'.hs h'.toNat).fr)(e2:(nth n.hs h.toNat).hr=(nth n'.hs h'.toNat).hr)(hm:nth s.1 (own s.1)<=nth s'.1 (own s'.1))(hp:∀p∈n.ps,p.b=h->∃p'∈n'.ps,p'.b=h'/\nth s.2 p.a.toNat<=nth s'.2 p'.a.toNat):fF n s h<=fF n' s' h':=by unfold fF;rw[e1,e2];refine Int.add_le_add_right ?_ _;obtain⟨h1,h2⟩:=(E8 (ps:=n'.ps) (out:=s'.2) (h:=h') (b:=max (nth s'.1 (own s'.1)) (nth n'.hs h'.toNat).fr) n'.ps.length).1 (Int.le_refl _);rw[E8];refine⟨nQ,fun j hj hb=>?_⟩;obtain⟨p',hp',hb',ho⟩:=hp _ (aR _ hj) hb;obtain⟨k,hk,rfl⟩:=List.getElem_of_mem hp';have:=h2 k hk (by rw[bN _ hk];exact hb');rw[bN _ hk] at this;omega
structure uY(n n':Net):Prop where
 hs:n.hs=n'.hs
 m:n'.m.toNat<=n.m.toNat
 m0:0<n'.m.toNat
 ps:∀p∈n.ps,p∈n'.ps
theorem JV{n n':Net}(h:uY n n')(hv:dj n.hs=true)(l:List Int)(hl:qb n l):Ul (run n l).1 (run n' l).1/\∀j,nth (run n l).2 j<=nth (run n' l).2 j:=by
 have key:∀k,k<=l.length->Ul (run n (l.take k)).1 (run n' (l.take k)).1/\∀j,nth (run n (l.take k)).2 j<=nth (run n' (l.take k)).2 j:=by
  intro k;induction k with
  |zero=>exact fun _=>⟨Na h.m,fun j=>by show nth (List.replicate _ 0) j<=nth (List.replicate _ 0) j;rw[vO,vO];exact Int.le_refl _⟩
  |succ k ih=>
   intro hk
   obtain⟨i1,i2⟩:=ih nQ
   rw[bz l nQ,oG,oG]
   obtain⟨a1,a2⟩:=jX n (l.take k)
   obtain⟨b1,b2⟩:=jX n' (l.take k)
   have hm:=h.m
   have hm0:=h.m0
   have hF:0<(run n (l.take k)).1.length:=nQ
   have Pt:0<(run n' (l.take k)).1.length:=nQ
   have hmin:=Nb i1 hF Pt
   have hle:fF n (run n (l.take k)) (nth l k)<=fF n' (run n' (l.take k)) (nth l k):=
    CW (by rw[h.hs]) (by rw[h.hs]) hmin (fun p hp hb=>⟨p,h.ps p hp,hb,i2 _⟩)
   have hx:=hl (nth l k) (aR _ nQ)
   have hr:=dV.1 (eD hv (k:=(nth l k).toNat) (by have:=hx.1;have:=hx.2;omega))
   have g1:=(qD (n:=n) (s:=run n (l.take k)) (h:=nth l k)).1
   have g2:=(qD (n:=n') (s:=run n' (l.take k)) (h:=nth l k)).1
   rw[<-h.hs] at g2
   refine⟨Iw i1 hF Pt nQ nQ hle,fun j=>?_⟩
   show nth (List.set _ _ _) j<=nth (List.set _ _ _) j
   by_cases hj:(nth l k).toNat=j
   ·subst hj;have e:n'.hs.length=n.hs.length:=by rw[h.hs]
    rw[iJ _ (by have:=hx.1;have:=hx.2;omega),iJ _ (by have:=hx.1;have:=hx.2;omega)];exact hle
   ·rw[kF _ hj,kF _ hj];exact i2 j
 have:=key l.length (nR _);rwa [List.take_length] at this
theorem DN{n n':Net}(h:uY n n')(hv:dj n.hs=true){l:List Int}(hl:qb n l)(j:Nat):nth (times n l) j<=nth (times n' l) j:=(JV h hv l hl).2 j
theorem RS{hs:List kr}{ts ts' rt:List Int}(k:Nat)(ht:∀j,nth ts j<=nth ts' j)(hr:∀j,j<k->0<=nth rt j):fP hs ts rt k<=fP hs ts' rt k:=by
 induction k with
 |zero=>exact Int.le_refl _
 |succ k ih=>
  unfold fP
  have h1:=ih (fun j hj=>hr j nQ)
  have h2:nth rt k*(nth ts k-(nth hs k).fr)<=nth rt k*(nth ts' k-(nth hs k).fr):=Int.mul_le_mul_of_nonneg_left (by have:=ht k;omega) (hr k nQ)
  omega
theorem Vi{ts ts':List Int}(k:Nat)(ht:∀j,nth ts j<=nth ts' j):ou ts k<=ou ts' k:=by
 induction k with
 |zero=>exact Int.le_refl _
 |succ k ih=>unfold ou;have:=ht k;omega
theorem iX{n:Net}{j:Nat}(hj:j<n.hs.length):nth (gT n) j=(nth n.hs j).hi:=by unfold gT nth List.getD;rw[List.getElem?_map,List.getElem?_eq_getElem hj];rfl
theorem GL{n:Net}{j:Nat}(hj:j<n.hs.length):nth (Ep n) j=(nth n.hs j).lo:=by unfold Ep nth List.getD;rw[List.getElem?_map,List.getElem?_eq_getElem hj];rfl
theorem vg{n n':Net}(h:uY n n')(hv:dj n.hs=true){l:List Int}(hl:qb n l):dM n l<=dM n' l/\eZ n l<=eZ n' l:=by
 have ht:=DN h hv hl;have e:gT n'=gT n:=by unfold gT;rw[h.hs]
 unfold dM jl eZ;rw[e,<-h.hs];exact⟨RS _ ht (fun j hj=>by rw[iX hj];have:=dV.1 (eD hv hj);omega),Vi _ ht⟩
theorem Ib{n n':Net}(h:uY n n'){pre l:List Int}(hg:goes n' pre l=true):goes n pre l=true:=by
 induction l generalizing pre with
 |nil=>rfl
 |cons x l ih=>
  unfold goes at hg ⊢
  rw[Bool.and_eq_true,Bool.and_eq_true] at hg ⊢
  rw[h.hs]
  refine⟨⟨hg.1.1,?_⟩,ih hg.2⟩
  rw[tM]
  obtain⟨a,b⟩:=tM.1 hg.1.2
  exact⟨a,fun p hp=>b p (h.ps p hp)⟩
theorem zO{n n':Net}(h:uY n n'){l:List Int}(hl:eu n' l=true):eu n l=true:=by unfold eu at hl ⊢;rw[Bool.and_eq_true] at hl ⊢;rw[h.hs];exact⟨hl.1,Ib h hl.2⟩
theorem M6{n:Net}{l:List Int}(h:eu n l=true):qd n=true:=by
 unfold qd;have:=ki.2 h;cases hl:gH n with
 |nil=>rw[hl] at this;cases this
 |cons=>rfl
theorem Er{n n':Net}(h:uY n n')(hv:dj n.hs=true)(ho:qd n'=true):qd n=true/\cR n<=cR n'/\mE n<=mE n':=by
 have hb:=gp ho;have fX:=zO h hb;have hd:eu n' (least (eZ n') (gH n'))=true:=ki.1 (fC _ (mP ho));have MX:=zO h hd;refine⟨M6 fX,?_,?_⟩
 ·have:=Dc fX;have:=(vg h hv (jE fX)).1;unfold cR at *;omega
 ·have:=Iv MX;have:=(vg h hv (jE MX)).2;unfold mE at *;omega
end Me
namespace Me
theorem Ld{n:Net}{pre l:List Int}(h:goes n pre l=true):l.Nodup/\∀x∈l,x∉pre:=by
 induction l generalizing pre with
 |nil=>exact⟨List.nodup_nil,fun x hx=>by cases hx⟩
 |cons y l ih=>
  unfold goes at h
  rw[Bool.and_eq_true,Bool.and_eq_true] at h
  obtain⟨i1,i2⟩:=ih h.2
  have hy:=(tM.1 h.1.2).1
  refine⟨List.nodup_cons.2 ⟨fun hm=>i2 y hm nV,i1⟩,fun x hx hp=>?_⟩
  rcases List.mem_cons.1 hx with rfl|hx
  ·exact hy hp
  ·exact i2 x hx (by simp[hp])
theorem GA{n:Net}{l:List Int}(h:eu n l=true):goes n [] l=true:=by unfold eu at h;rw[Bool.and_eq_true] at h;exact h.2
theorem xp{n:Net}{l:List Int}(h:eu n l=true):l.Nodup:=(Ld (GA h)).1
theorem Mn:∀(l1 l2:List Int),l1.Nodup->(∀x∈l1,x∈l2)->l1.length<=l2.length
 |[],_,_,_=>nE _
 |a::l1,l2,hn,hs=>by
  rw[List.nodup_cons] at hn;have ha:=hs a nV;have:=Mn l1 (l2.erase a) hn.2 (fun x hx=>by
   rw[List.mem_erase_of_ne (by rintro rfl;exact hn.1 hx)]
   exact hs x (by simp[hx]))
  rw[List.length_erase_of_mem ha] at this;have:0<l2.length:=List.length_pos_of_mem ha;simp;omega
def Ef(k:Nat):List Int:=(List.range k).map fun(i:Nat)=>(i:Int)
theorem RM{k:Nat}{x:Int}:x∈Ef k↔0<=x/\x<k:=by
 unfold Ef;rw[List.mem_map];constructor
 ·rintro⟨i,hi,rfl⟩;rw[List.mem_range] at hi;omega
 ·intro h;exact⟨x.toNat,by rw[List.mem_range];omega,nQ⟩
theorem mZ(k:Nat):(Ef k).length=k:=by simp[Ef]
theorem Zn{l:List Int}{k:Nat}(hn:l.Nodup)(hh:∀x∈l,0<=x/\x<k)(hl:l.length=k){x:Int}(hx:0<=x/\x<k):x∈l:=by
 rcases Classical.em (x∈l) with h|h
 ·exact h
 ·have:=Mn (x::l) (Ef k) (List.nodup_cons.2 ⟨h,hn⟩) (fun y hy=>by
   rw[RM]
   rcases List.mem_cons.1 hy with rfl|hy
   ·exact hx
   ·exact hh y hy)
  rw[mZ] at this;simp at this;omega
theorem vG{n:Net}{l:List Int}(h:eu n l=true){x:Int}:x∈l↔isHole n x:=
 ⟨fun hx=>jE h x hx,fun hx=>Zn (xp h) (jE h) (ji h) hx⟩
structure Plain(n:Net):Prop where
 m:n.m=1
 ps:n.ps=[]
 fr:∀h∈n.hs,h.fr=0
 ok:dj n.hs=true
end Me
namespace Me
def qV(d:Nat)(x:Int):Int:=if (d:Int)<x then x-1 else x
def cut(n:Net)(d:Nat):Net:=⟨n.m,n.hs.take d++n.hs.drop (d+1),n.ps.map fun p=>⟨qV d p.a,qV d p.b⟩⟩
def red(d:Nat)(l:List Int):List Int:=(l.filter fun(x:Int)=>decide (x≠(d:Int))).map (qV d)
def loose(n:Net)(d:Nat):Prop:=∀p∈n.ps,p.a≠d/\p.b≠d
theorem Gh(d:Nat)(l:List Int)(x:Int):red d (l++[x])=red d l++if x=d then[] else[qV d x]:=by unfold red;rw[List.filter_append,List.map_append];by_cases h:x=d<;>simp[h]
theorem rJ{n:Net}{d:Nat}(hd:d<n.hs.length):(cut n d).hs.length=n.hs.length-1:=by show(n.hs.take d++n.hs.drop (d+1)).length=_;rw[List.length_append,List.length_take,List.length_drop];omega
theorem Ei{α:Type}[Inhabited α](a b:List α){k:Nat}(h:k<a.length):nth (a++b) k=nth a k:=by unfold nth List.getD;rw[List.getElem?_append_left h]
theorem Eh{α:Type}[Inhabited α](a b:List α){k:Nat}(h:a.length<=k):nth (a++b) k=nth b (k-a.length):=by unfold nth List.getD;rw[List.getElem?_append_right h]
theorem EU{n:Net}{d:Nat}(hd:d<n.hs.length)(j:Nat):nth (cut n d).hs j=nth n.hs (if j<d then j else j+1):=by
 show nth (n.hs.take d++n.hs.drop (d+1)) j=_;have e:(n.hs.take d).length=d:=by rw[List.length_take];omega
 by_cases h:j<d
 ·rw[Ei _ _ nQ,if_pos h];unfold nth List.getD;rw[List.getElem?_take_of_lt h]
 ·rw[Eh _ _ nQ,if_neg h,e];unfold nth List.getD;rw[List.getElem?_drop,show d+1+(j-d)=j+1 by omega]
theorem UI{d:Nat}{x:Int}(h0:0<=x)(hx:x≠d):0<=qV d x/\(if (qV d x).toNat<d then (qV d x).toNat else (qV d x).toNat+1)=x.toNat:=by
 unfold qV;split
 ·refine⟨nQ,?_⟩;rw[if_neg nQ];omega
 ·refine⟨h0,?_⟩;rw[if_pos nQ]
theorem tq{n:Net}{d:Nat}(hd:d<n.hs.length){x:Int}(hx:isHole n x)(hne:x≠d):isHole (cut n d) (qV d x)/\nth (cut n d).hs (qV d x).toNat=nth n.hs x.toNat:=by obtain⟨a,b⟩:=UI hx.1 hne;refine⟨⟨a,?_⟩,by rw[EU hd,b]⟩;rw[rJ hd];have:=hx.2;unfold qV;split<;>omega
theorem yT{d:Nat}{x y:Int}(hx:x≠d)(hy:y≠d)(h:qV d x=qV d y):x=y:=by unfold qV at h;split at h<;>split at h<;>omega
theorem ML{d:Nat}{l:List Int}{x:Int}(hx:x≠d):qV d x∈red d l↔x∈l:=by
 unfold red;rw[List.mem_map];constructor
 ·rintro⟨y,hy,he⟩;rw[List.mem_filter] at hy;rw[<-yT (by simpa using hy.2) hx he];exact hy.1
 ·intro h;exact⟨x,by rw[List.mem_filter];exact⟨h,by simpa using hx⟩,rfl⟩
theorem Zf{n:Net}{d:Nat}(hv:dj n.hs=true):dj (cut n d).hs=true:=by
 unfold dj at *;rw[List.all_eq_true] at *;intro h hm;rcases List.mem_append.1 (show h∈n.hs.take d++n.hs.drop (d+1) from hm) with hm|hm
 ·exact hv h (List.mem_of_mem_take hm)
 ·exact hv h (List.mem_of_mem_drop hm)
theorem SL{n:Net}{d:Nat}(hd:d<n.hs.length)(hps:loose n d)(hpk:j8 n.hs.length n.ps=true){pre l:List Int}(h:goes n pre l=true):goes (cut n d) (red d pre) (red d l)=true:=by
 induction l generalizing pre with
 |nil=>rfl
 |cons x l ih=>
  unfold goes at h
  rw[Bool.and_eq_true,Bool.and_eq_true] at h
  have i:=ih h.2
  rw[Gh] at i
  have hx:isHole n x:=by have:=cX.1 h.1.1;exact⟨this.1,nQ⟩
  by_cases Ph:x=d
  ·rw[if_pos Ph,List.append_nil] at i;have:red d (x::l)=red d l:=by unfold red;simp[Ph]
   rw[this];exact i
  ·rw[if_neg Ph] at i;have:red d (x::l)=qV d x::red d l:=by unfold red;simp[Ph]
   rw[this];unfold goes;rw[i,Bool.and_true,Bool.and_eq_true];obtain⟨a1,a2⟩:=(tq hd hx Ph).1;refine⟨cX.2 ⟨a1,nQ⟩,tM.2 ⟨fun hc=>(tM.1 h.1.2).1 ((ML Ph).1 hc),?_⟩⟩;intro p hp hb;obtain⟨q,hq,rfl⟩:=List.mem_map.1 hp;obtain⟨q1,q2⟩:=hps q hq;exact(ML q1).2 ((tM.1 h.1.2).2 q hq (yT q2 Ph hb))
theorem Lh{l:List Int}{d:Int}(hn:l.Nodup)(hd:d∈l):(l.filter fun x=>decide (x≠d)).length=l.length-1:=by
 induction l with
 |nil=>cases hd
 |cons x l ih=>
  rw[List.nodup_cons] at hn
  by_cases hx:x=d
  ·subst hx;have:l.filter (fun y=>decide (y≠x))=l:=by rw[List.filter_eq_self];intro y hy;simp only[decide_eq_true_eq];rintro rfl;exact hn.1 hy
   rw[List.filter_cons_of_neg nV,this];simp
  ·have MX:d∈l:=by
    rcases List.mem_cons.1 hd with h|h
    ·exact absurd h.symm hx
    ·exact h
   have:=ih hn.2 MX;have hl:=List.length_pos_of_mem MX;rw[List.filter_cons_of_pos (by simpa using hx)];simp only[List.length_cons];omega
theorem ME{n:Net}{d:Nat}(hd:d<n.hs.length)(hps:loose n d)(hpk:j8 n.hs.length n.ps=true){l:List Int}(h:eu n l=true):eu (cut n d) (red d l)=true:=by unfold eu;rw[show goes (cut n d) [] (red d l)=true from SL hd hps hpk (pre:=[]) (GA h),Bool.and_true,decide_eq_true_eq,rJ hd];unfold red;rw[List.length_map,Lh (xp h) ((vG h).2 ⟨nQ,nQ⟩),ji h]
theorem UD{n:Net}{d:Nat}(hm:1<=n.m)(hd:d<n.hs.length)(hps:loose n d)(hpk:j8 n.hs.length n.ps=true)(hv:dj n.hs=true)(l:List Int)(hl:qb n l):Ul (run (cut n d) (red d l)).1 (run n l).1/\∀x,isHole n x->x≠d->nth (run (cut n d) (red d l)).2 (qV d x).toNat<=nth (run n l).2 x.toNat:=by
 have key:∀k,k<=l.length->Ul (run (cut n d) (red d (l.take k))).1 (run n (l.take k)).1/\∀x,isHole n x->x≠d->nth (run (cut n d) (red d (l.take k))).2 (qV d x).toNat<=nth (run n (l.take k)).2 x.toNat:=by
  intro k;induction k with
  |zero=>
   refine fun _=>⟨Na (nR _),fun x _ _=>?_⟩
   show nth (List.replicate _ 0) _<=nth (List.replicate _ 0) _
   rw[vO,vO];exact Int.le_refl _
  |succ k ih=>
   intro hk
   obtain⟨i1,i2⟩:=ih nQ
   rw[bz l nQ,oG,Gh]
   generalize hx':nth l k=x
   have hx:isHole n x:=by rw[<-hx'];exact hl _ (aR _ nQ)
   obtain⟨a1,a2⟩:=jX n (l.take k)
   obtain⟨b1,b2⟩:=jX (cut n d) (red d (l.take k))
   have hmm:(cut n d).m=n.m:=rfl
   have Pt:0<(run n (l.take k)).1.length:=nQ
   have hF:0<(run (cut n d) (red d (l.take k))).1.length:=by rw[b1,hmm];omega
   have hr:=dV.1 (eD hv (k:=x.toNat) (by have:=hx.1;have:=hx.2;omega))
   have g2:=(qD (n:=n) (s:=run n (l.take k)) (h:=x)).1
   by_cases Ph:x=d
   ·rw[if_pos Ph,List.append_nil];refine⟨Ta i1 Pt nQ,fun y hy hyd=>?_⟩;show _<=nth (List.set _ _ _) _;rw[kF _ (by have:=hy.1;have:=hx.1;omega)];exact i2 y hy hyd
   ·rw[if_neg Ph,oG];obtain⟨c1,c2⟩:=tq hd hx Ph;have hmin:=Nb i1 hF Pt;have hle:fF (cut n d) (run (cut n d) (red d (l.take k))) (qV d x)<=fF n (run n (l.take k)) x:=by refine CW (by rw[c2]) (by rw[c2]) hmin ?_;intro p hp hb;obtain⟨q,hq,rfl⟩:=List.mem_map.1 hp;obtain⟨q1,q2⟩:=hps q hq;refine⟨q,hq,yT q2 Ph hb,i2 q.a ?_ q1⟩;have:=jr.1 (List.all_eq_true.1 hpk q hq);exact⟨this.1,this.2.1⟩
    have g1:=(qD (n:=cut n d) (s:=run (cut n d) (red d (l.take k))) (h:=qV d x)).1;rw[c2] at g1;refine⟨Iw i1 hF Pt nQ nQ hle,fun y hy hyd=>?_⟩;show nth (List.set _ _ _) _<=nth (List.set _ _ _) _;obtain⟨e1,e2⟩:=tq hd hy hyd;by_cases hj:x=y
    ·subst hj;rw[iJ _ (by have:=c1.1;have:=c1.2;omega),iJ _ (by have:=hx.1;have:=hx.2;omega)];exact hle
    ·rw[kF _ (fun hc=>hj (by have:=hx.1;have:=hy.1;omega)) (j:=x.toNat),kF _ (fun hc=>hj (yT Ph hyd (by have:=c1.1;have:=e1.1;omega)))];exact i2 y hy hyd
 have:=key l.length (nR _);rwa [List.take_length] at this
theorem XK(d j:Nat):qV d ((if j<d then j else j+1:Nat):Int)=j:=by unfold qV;split<;>split<;>omega
theorem JU{n:Net}(hv:dj n.hs=true)(l:List Int)(hl:qb n l)(hn:l.Nodup):∀x∈l,(nth n.hs x.toNat).fr+(nth n.hs x.toNat).hr<=nth (run n l).2 x.toNat:=by
 refine DU (fun l s=>∀x∈l,(nth n.hs x.toNat).fr+(nth n.hs x.toNat).hr<=nth s.2 x.toNat) l (fun x hx=>by cases hx) ?_;rintro pre y hp ih x hx;have hy:isHole n y:=hl y (hp.subset nV);show _<=nth (List.set _ _ _) _;by_cases hxy:x=y
 ·subst hxy;rw[iJ _ (by rw[(jX n pre).2];have:=hy.1;have:=hy.2;omega)];exact qD.2
 ·have hxp:x∈pre:=by
   rcases List.mem_append.1 hx with h|h
   ·exact h
   ·exact absurd (by simpa using h) hxy
  have hxh:isHole n x:=hl x (hp.subset (by simp[hxp]));rw[kF _ (by have:=hy.1;have:=hxh.1;omega)];exact ih x hxp
theorem vh{n:Net}(hv:dj n.hs=true){l:List Int}(h:eu n l=true){j:Nat}(hj:j<n.hs.length):(nth n.hs j).fr+(nth n.hs j).hr<=nth (times n l) j:=by have:=JU hv l (jE h) (xp h) (j:Int) ((vG h).2 ⟨nQ,nQ⟩);simpa [times] using this
theorem OS{n:Net}{d:Nat}(hd:d<n.hs.length)(hv:dj n.hs=true){ts ts':List Int}(ht:∀j:Nat,j+1<n.hs.length->nth ts' j<=nth ts (if j<d then j else j+1))(hdn:(nth n.hs d).fr<=nth ts d)(k:Nat)(hk:k<=n.hs.length):(k<=d->fP (cut n d).hs ts' (gT (cut n d)) k<=fP n.hs ts (gT n) k)/\(d<k->fP (cut n d).hs ts' (gT (cut n d)) (k-1)<=fP n.hs ts (gT n) k):=by
 induction k with
 |zero=>exact⟨fun _=>Int.le_refl _,fun h=>by omega⟩
 |succ k ih=>
  obtain⟨i1,i2⟩:=ih nQ
  have hmul:∀(a x y:Int),0<=a->x<=y->a*x<=a*y:=fun a x y h0 h=>Int.mul_le_mul_of_nonneg_left h h0
  refine⟨fun h=>?_,fun h=>?_⟩
  ·unfold fP;have:=i1 nQ;have c:=EU hd k;rw[if_pos nQ] at c;have t:=ht k nQ;rw[if_pos nQ] at t;have hh:=dV.1 (eD hv (k:=k) nQ);rw[iX (by rw[rJ hd];omega),iX nQ,c];have:=hmul (nth n.hs k).hi (nth ts' k-(nth n.hs k).fr) (nth ts k-(nth n.hs k).fr) nQ nQ;omega
  ·by_cases Ht:d<k
   ·have:=i2 Ht;obtain⟨j,rfl⟩:∃j,k=j+1:=⟨k-1,nQ⟩;simp only[Nat.add_sub_cancel] at this ⊢;rw[fP,fP];have c:=EU hd j;rw[if_neg nQ] at c;have t:=ht j nQ;rw[if_neg nQ] at t;have hh:=dV.1 (eD hv (k:=j+1) nQ);rw[iX (by rw[rJ hd];omega),iX nQ,c];have:=hmul (nth n.hs (j+1)).hi (nth ts' j-(nth n.hs (j+1)).fr) (nth ts (j+1)-(nth n.hs (j+1)).fr) nQ nQ;omega
   ·have e:k=d:=nQ;subst e;rw[Nat.add_sub_cancel,fP];have:=i1 (nR _);have hh:=dV.1 (eD hv (k:=k) nQ);rw[iX nQ (n:=n)];have:=Int.mul_nonneg (show 0<=(nth n.hs k).hi by omega) (show 0<=nth ts k-(nth n.hs k).fr by omega);omega
theorem Em{ts:List Int}(k:Nat):0<=ou ts k/\∀j,j<k->nth ts j<=ou ts k:=by
 induction k with
 |zero=>exact⟨Int.le_refl _,fun j hj=>by omega⟩
 |succ k ih=>
  obtain⟨i1,i2⟩:=ih
  unfold ou
  refine⟨nQ,fun j hj=>?_⟩
  by_cases e:j=k
  ·subst e;omega
  ·have:=i2 j nQ;omega
theorem yj{ts:List Int}{M:Int}(k:Nat):ou ts k<=M↔0<=M/\∀j,j<k->nth ts j<=M:=by
 constructor
 ·intro h;obtain⟨a,b⟩:=Em (ts:=ts) k;exact⟨nQ,fun j hj=>by have:=b j hj;omega⟩
 ·rintro⟨h0,h⟩;induction k with
  |zero=>exact h0
  |succ k ih=>unfold ou;have:=ih (fun j hj=>h j nQ);have:=h k nQ;omega
theorem Cg{n:Net}{d:Nat}(hm:1<=n.m)(hd:d<n.hs.length)(hps:loose n d)(hpk:j8 n.hs.length n.ps=true)(hv:dj n.hs=true){l:List Int}(h:eu n l=true):dM (cut n d) (red d l)<=dM n l/\eZ (cut n d) (red d l)<=eZ n l:=by
 have hr:=(UD hm hd hps hpk hv l (jE h)).2;have ht:∀j:Nat,j+1<n.hs.length->nth (times (cut n d) (red d l)) j<=nth (times n l) (if j<d then j else j+1):=by
  intro j hj;have hne:(((if j<d then j else j+1:Nat):Int))≠d:=by split<;>omega
  have:=hr ((if j<d then j else j+1:Nat):Int) ⟨nQ,by split<;>omega⟩ hne;rw[XK] at this;simpa [times] using this
 have hdn:(nth n.hs d).fr<=nth (times n l) d:=by have:=vh hv h hd;have:=dV.1 (eD hv hd);omega
 unfold dM jl eZ;rw[rJ hd];refine⟨(OS hd hv ht hdn n.hs.length (nR _)).2 hd,?_⟩;obtain⟨a,b⟩:=Em (ts:=times n l) n.hs.length;rw[yj];refine⟨a,fun j hj=>?_⟩;have:=ht j nQ;have:=b (if j<d then j else j+1) (by split<;>omega);omega
theorem OZ{n:Net}{d:Nat}(hv:valid n=true)(hd:d<n.hs.length)(hps:loose n d):valid (cut n d)=true/\cR (cut n d)<=cR n/\mE (cut n d)<=mE n:=by obtain⟨h1,h2,h3,h4,h5,h6⟩:=aC.1 hv;have hb:=gp h6;have hdo:eu n (least (eZ n) (gH n))=true:=ki.1 (fC _ (mP h6));have fX:=ME hd hps h5 hb;have MX:=ME hd hps h5 hdo;have w1:=(Cg h1.1 hd hps h5 h4 hb).1;have w2:=(Cg h1.1 hd hps h5 h4 hdo).2;have l1:=Dc fX;have l2:=Iv MX;refine⟨?_,by unfold cR at *;omega,by unfold mE at *;omega⟩;rw[aC];refine⟨h1,by rw[rJ hd];omega,by show(List.map _ _).length<=8;rw[List.length_map];exact h3,Zf h4,?_,M6 fX⟩;unfold j8;rw[List.all_eq_true];intro p hp;obtain⟨q,hq,rfl⟩:=List.mem_map.1 hp;have BE:=jr.1 (List.all_eq_true.1 h5 q hq);obtain⟨q1,q2⟩:=hps q hq;obtain⟨a1,a2⟩:=(tq hd (x:=q.a) ⟨BE.1,BE.2.1⟩ q1).1;obtain⟨b1,b2⟩:=(tq hd (x:=q.b) ⟨BE.2.2.1,BE.2.2.2⟩ q2).1;exact jr.2 ⟨a1,a2,b1,b2⟩
theorem RT{n:Net}(hv:dj n.hs=true){ts rt:List Int}{M:Int}(ht:kY M ts)(hr:kY 20 rt)(k:Nat)(hk:k<=n.hs.length)(hM:20<=M):-(20*M*k)<=fP n.hs ts rt k/\fP n.hs ts rt k<=20*M*k:=by
 induction k with
 |zero=>simp[fP]
 |succ k ih=>
  obtain⟨i1,i2⟩:=ih nQ
  have a:=ht k
  have b:=hr k
  have c:=dV.1 (eD hv (k:=k) nQ)
  unfold fP
  have d:nth rt k*(nth ts k-(nth n.hs k).fr)<=20*M:=by have e1:=Int.mul_le_mul_of_nonneg_left (show nth ts k-(nth n.hs k).fr<=M by omega) b.1;have e2:=Int.mul_le_mul_of_nonneg_right b.2 (show 0<=M by omega);omega
  have d2:-(20*M)<=nth rt k*(nth ts k-(nth n.hs k).fr):=by have e1:=Int.mul_le_mul_of_nonneg_left (show -M<=nth ts k-(nth n.hs k).fr by omega) b.1;have e2:=Int.mul_le_mul_of_nonneg_right b.2 (show 0<=M by omega);rw[Int.mul_neg] at e1;omega
  have e:(20*M*((k+1:Nat):Int))=20*M*k+20*M:=by rw[Int.natCast_add,Int.mul_add];simp
  omega
end Me
end Go.Proofs.YtpnnapeoanafdaaGreatDoor
