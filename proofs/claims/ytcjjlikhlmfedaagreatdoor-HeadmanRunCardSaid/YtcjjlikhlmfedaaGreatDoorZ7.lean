/- A part of the proof that the statement HeadmanRunCardSaid holds, cut small by a program (names and blanks): Hm1, Hm2. -/
import Derived.Test.YtcjjlikhlmfedaaGreatDoorZ1
set_option maxRecDepth 100000
set_option maxHeartbeats 40000000
set_option linter.unusedVariables false
set_option linter.unusedSimpArgs false
namespace Go.Proofs.YtcjjlikhlmfedaaGreatDoor
open Go.RowKit
open Nat renaming le_trans → nT, lt_of_lt_of_le → nL, le_refl → nR, zero_le → nE
open Go.Proofs.Tryz renaming prog → nH
open Go renaming World → nJ, Value → nK
namespace Me
structure jJ where
 fr:Int
 lo:Int
 hi:Int
 hr:Int
structure Pr where
 a:Int
 b:Int
structure Net where
 m:Int
 hs:List jJ
 ps:List Pr
instance:Inhabited jJ:=⟨⟨0,0,0,0⟩⟩
instance:Inhabited Pr:=⟨⟨0,0⟩⟩
def jr(xs:List Int)(x:Int):Bool:=decide (x∈xs)
theorem Nx{xs:List Int}{x:Int}:jr xs x=true↔x∈xs:=by simp[jr]
theorem DK{xs:List Int}{x:Int}:jr xs x=false↔x∉xs:=by simp[jr]
def tG(done:List Int)(h:Int)(p:Pr):Bool:=!decide (p.b=h)||jr done p.a
def Mv(ps:List Pr)(done:List Int)(h:Int):Bool:=ps.all (tG done h)
def may(n:Net)(done:List Int)(h:Int):Bool:=!jr done h&&Mv n.ps done h
theorem Qz{n:Net}{done:List Int}{h:Int}:may n done h=true↔h∉done/\∀p∈n.ps,p.b=h->p.a∈done:=by
 unfold may Mv tG;rw[Bool.and_eq_true,Bool.not_eq_true',DK,List.all_eq_true];refine and_congr_right fun _=>forall_congr' fun p=>forall_congr' fun _=>?_;rw[Bool.or_eq_true,Bool.not_eq_true',decide_eq_false_iff_not,Nx];constructor
 ·intro h1 h2;exact h1.resolve_left (fun h3=>h3 h2)
 ·intro h1;by_cases h2:p.b=h
  ·exact .inr (h1 h2)
  ·exact .inl h2
def aB(n:Net):Nat->List Int->List (List Int)
 |0,l=>[l]
 |k+1,l=>(List.range n.hs.length).flatMap fun(i:Nat)=>if may n l (i:Int)=true then aB n k (l++[(i:Int)]) else[]
def gj(n:Net):List (List Int):=aB n n.hs.length []
def goes(n:Net):List Int->List Int->Bool
 |_,[]=>true
 |pre,x::xs=>(fj 0 ((n.hs.length:Int)-1) x&&may n pre x)&&goes n (pre++[x]) xs
def fA(n:Net)(l:List Int):Bool:=decide (l.length=n.hs.length)&&goes n [] l
theorem MN{n:Net}{k:Nat}{l o:List Int}:o∈aB n k l↔∃r,o=l++r/\r.length=k/\goes n l r=true:=by
 induction k generalizing l with
 |zero=>
  unfold aB
  rw[List.mem_singleton]
  constructor
  ·rintro rfl;exact⟨[],nV,rfl,rfl⟩
  ·rintro⟨r,rfl,hr,_⟩;rw[List.eq_nil_of_length_eq_zero hr,List.append_nil]
 |succ k ih=>
  unfold aB
  rw[List.mem_flatMap]
  constructor
  ·rintro⟨i,hi,ho⟩;rw[List.mem_range] at hi;by_cases hm:may n l (i:Int)=true
   ·rw[if_pos hm,ih] at ho;obtain⟨r,rfl,hr,hg⟩:=ho;refine⟨(i:Int)::r,nV,by simp[hr],?_⟩;unfold goes;rw[hm,hg,Bool.and_true,Bool.and_true,cZ];omega
   ·rw[if_neg hm] at ho;cases ho
  ·rintro⟨r,rfl,hr,hg⟩;cases r with
   |nil=>cases hr
   |cons x r=>
    unfold goes at hg
    rw[Bool.and_eq_true,Bool.and_eq_true,cZ] at hg
    obtain⟨⟨⟨h1,h2⟩,hm⟩,hg⟩:=hg
    refine⟨x.toNat,by rw[List.mem_range];omega,?_⟩
    have hx:(x.toNat:Int)=x:=nQ
    rw[hx,if_pos hm,ih]
    exact⟨r,nV,by simpa using hr,hg⟩
theorem qW{n:Net}{o:List Int}:o∈gj n↔fA n o=true:=by
 unfold gj fA;rw[MN,Bool.and_eq_true,decide_eq_true_eq];constructor
 ·rintro⟨r,rfl,hr,hg⟩;exact⟨by simpa using hr,by simpa using hg⟩
 ·rintro⟨hl,hg⟩;exact⟨o,nV,hl,hg⟩
def mP(h:jJ):Bool:=decide (0<=h.fr/\h.fr<=20/\0<=h.lo/\h.lo<=h.hi/\h.hi<=20/\1<=h.hr/\h.hr<=9)
def eM(hs:List jJ):Bool:=hs.all mP
def zn(k:Nat)(p:Pr):Bool:=decide (0<=p.a/\p.a<k/\0<=p.b/\p.b<k)
def mM(k:Nat)(ps:List Pr):Bool:=ps.all (zn k)
def qN(n:Net):Bool:=!(gj n).isEmpty
def valid(n:Net):Bool:=(decide (1<=n.m/\n.m<=3)&&decide (n.hs.length<=6)&&decide (n.ps.length<=8)&&eM n.hs&&mM n.hs.length n.ps)&&qN n
theorem az{n:Net}:valid n=true↔(1<=n.m/\n.m<=3)/\n.hs.length<=6/\n.ps.length<=8/\eM n.hs=true/\mM n.hs.length n.ps=true/\qN n=true:=by simp[valid,and_assoc]
theorem iG{hs:List jJ}(h:eM hs=true){k:Nat}(hk:k<hs.length):mP (nth hs k)=true:=List.all_eq_true.1 h _ (aS hs hk)
theorem Dl{m:Nat}{ps:List Pr}(h:mM m ps=true){k:Nat}(hk:k<ps.length):zn m (nth ps k)=true:=List.all_eq_true.1 h _ (aS ps hk)
def je(free:List Int):Nat->Nat
 |0=>0
 |k+1=>if nth free k<nth free (je free k) then k else je free k
def own(free:List Int):Nat:=je free free.length
def jG(ps:List Pr)(out:List Int)(h:Int)(b:Int):Nat->Int
 |0=>b
 |k+1=>if (nth ps k).b=h then max (jG ps out h b k) (nth out (nth ps k).a.toNat) else jG ps out h b k
def gW(n:Net)(s:List Int × List Int)(h:Int):Int:=
 jG n.ps s.2 h (max (nth s.1 (own s.1)) (nth n.hs h.toNat).fr) n.ps.length+(nth n.hs h.toNat).hr
def step(n:Net)(s:List Int × List Int)(h:Int):List Int × List Int:=(s.1.set (own s.1) (gW n s h),s.2.set h.toNat (gW n s h))
def start(n:Net):List Int × List Int:=(List.replicate n.m.toNat 0,List.replicate n.hs.length 0)
def run(n:Net)(l:List Int):List Int × List Int:=l.foldl (step n) (start n)
def times(n:Net)(l:List Int):List Int:=(run n l).2
theorem wY(n:Net)(l:List Int)(h:Int):run n (l++[h])=step n (run n l) h:=by simp[run,List.foldl_append]
theorem AY{n:Net}(p:List Int->List Int × List Int->Prop)(l:List Int)(h0:p [] (start n))(h1:∀pre x,pre++[x] <+: l->p pre (run n pre)->p (pre++[x]) (step n (run n pre) x)):p l (run n l):=by
 have key:∀k,k<=l.length->p (l.take k) (run n (l.take k)):=by
  intro k;induction k with
  |zero=>intro _;rw[List.take_zero];exact h0
  |succ k ih=>
   intro hk
   rw[bu l nQ,wY]
   refine h1 _ _ ?_ (ih nQ)
   rw[<-bu l nQ]
   exact List.take_prefix _ _
 have:=key l.length (nR _);rwa [List.take_length] at this
theorem oQ(n:Net)(l:List Int):(run n l).1.length=n.m.toNat/\(run n l).2.length=n.hs.length:=
 AY (fun _ s=>s.1.length=n.m.toNat/\s.2.length=n.hs.length) l (by simp[start]) (fun pre x _ ih=>by simp[step,ih])
theorem jK(n:Net)(l:List Int):(times n l).length=n.hs.length:=(oQ n l).2
theorem pT{α:Type}[Inhabited α](xs:List α){k:Nat}(h:k<xs.length)(v:α):nth (xs.set k v) k=v:=by simp[nth,h]
theorem xy{α:Type}[Inhabited α](xs:List α){j k:Nat}(h:j≠k)(v:α):nth (xs.set j v) k=nth xs k:=by simp[nth,List.getElem?_set_ne h]
theorem zo{α:Type}[Inhabited α](xs:List α)(j k:Nat)(v:α):nth (xs.set j v) k=v\/nth (xs.set j v) k=nth xs k:=by
 by_cases h:j=k
 ·subst h;rcases Nat.lt_or_ge j xs.length with hl|hl
  ·exact .inl (pT xs hl v)
  ·exact .inr (by rw[List.set_eq_of_length_le hl])
 ·exact .inr (xy xs h v)
theorem Qq{m k:Nat}:nth (List.replicate m (0:Int)) k=0:=by unfold nth List.getD;rw[List.getElem?_replicate];split<;>rfl
theorem IX{free:List Int}{k:Nat}(h:0<k):je free k<k:=by
 induction k with
 |zero=>omega
 |succ k ih=>
  unfold je
  split
  ·omega
  ·cases k with
   |zero=>simp[je]
   |succ k=>have:=ih nQ;omega
theorem Rx{ps:List Pr}{out:List Int}{h b M:Int}(k:Nat)(hb:b<=M)(ho:∀j,nth out j<=M):b<=jG ps out h b k/\jG ps out h b k<=M:=by
 induction k with
 |zero=>exact⟨Int.le_refl _,hb⟩
 |succ k ih=>
  unfold jG
  split
  ·have:=ho (nth ps k).a.toNat;omega
  ·exact ih
theorem gC{h:jJ}:mP h=true↔0<=h.fr/\h.fr<=20/\0<=h.lo/\h.lo<=h.hi/\h.hi<=20/\1<=h.hr/\h.hr<=9:=by simp[mP]
theorem mN{k:Nat}{p:Pr}:zn k p=true↔0<=p.a/\p.a<k/\0<=p.b/\p.b<k:=by simp[zn]
def jT(M:Int)(xs:List Int):Prop:=∀j,0<=nth xs j/\nth xs j<=M
theorem AJ{M:Int}{xs:List Int}{v:Int}(h:jT M xs)(h0:0<=v)(h1:v<=M)(k:Nat):jT M (xs.set k v):=fun j=>by
 rcases zo xs k j v with e|e<;>rw[e]
 ·exact⟨h0,h1⟩
 ·exact h j
theorem ng{M M':Int}{xs:List Int}(h:jT M xs)(hM:M<=M'):jT M' xs:=fun j=>⟨(h j).1,Int.le_trans (h j).2 hM⟩
def isHole(n:Net)(h:Int):Prop:=0<=h/\h<n.hs.length
theorem uU{n:Net}{s:List Int × List Int}{h M:Int}(hv:eM n.hs=true)(hh:isHole n h)(h1:jT M s.1)(h2:jT M s.2)(hM:20<=M):0<=gW n s h/\gW n s h<=M+9/\(nth n.hs h.toNat).fr+(nth n.hs h.toNat).hr<=gW n s h/\nth s.1 (own s.1)<=gW n s h/\jG n.ps s.2 h (max (nth s.1 (own s.1)) (nth n.hs h.toNat).fr) n.ps.length<=M:=by have a:=gC.1 (iG hv (k:=h.toNat) (by have:=hh.1;have:=hh.2;omega));have b:=h1 (own s.1);have c:=Rx (ps:=n.ps) (out:=s.2) (h:=h) (b:=max (nth s.1 (own s.1)) (nth n.hs h.toNat).fr) (M:=M) n.ps.length nQ (fun j=>(h2 j).2);unfold gW;omega
def vb(n:Net)(l:List Int):Prop:=∀x∈l,isHole n x
theorem FE{n:Net}(hv:eM n.hs=true)(l:List Int)(hl:vb n l):jT (20+9*l.length) (run n l).1/\jT (20+9*l.length) (run n l).2:=by
 have z:∀m,jT 20 (List.replicate m 0):=fun m j=>by rw[Qq];omega
 refine AY (fun l s=>jT (20+9*(l.length:Int)) s.1/\jT (20+9*(l.length:Int)) s.2) l ⟨z _,z _⟩ ?_;rintro pre x hp ⟨i1,i2⟩;have hx:isHole n x:=hl x (hp.subset nV);obtain⟨b1,b2,_⟩:=uU hv hx i1 i2 nQ;have e:(20+9*((pre++[x]).length:Int))=20+9*(pre.length:Int)+9:=by simp;omega
 rw[e];exact⟨AJ (ng i1 nQ) b1 b2 _,AJ (ng i2 nQ) b1 b2 _⟩
theorem G4{n:Net}{pre l:List Int}(h:goes n pre l=true):vb n l:=by
 induction l generalizing pre with
 |nil=>intro x hx;cases hx
 |cons y l ih=>
  unfold goes at h
  rw[Bool.and_eq_true,Bool.and_eq_true,cZ] at h
  intro x hx
  rcases List.mem_cons.1 hx with rfl|hx
  ·exact⟨h.1.1.1,nQ⟩
  ·exact ih h.2 x hx
theorem mD{n:Net}{l:List Int}(h:fA n l=true):vb n l:=by unfold fA at h;rw[Bool.and_eq_true] at h;exact G4 h.2
theorem iV{n:Net}{l:List Int}(h:fA n l=true):l.length=n.hs.length:=by unfold fA at h;rw[Bool.and_eq_true,decide_eq_true_eq] at h;exact h.1
theorem sY{n:Net}(hv:valid n=true){l:List Int}(hl:fA n l=true):jT 74 (times n l):=by obtain⟨_,h6,_,ho,_⟩:=az.1 hv;have:=(FE ho l (mD hl)).2;refine ng this ?_;rw[iV hl];omega
def jq(hs:List jJ)(ts rt:List Int):Nat->Int
 |0=>0
 |k+1=>jq hs ts rt k+nth rt k*(nth ts k-(nth hs k).fr)
def jE(n:Net)(l rt:List Int):Int:=jq n.hs (times n l) rt n.hs.length
def Bp(n:Net):List Int:=n.hs.map jJ.lo
def jQ(n:Net):List Int:=n.hs.map jJ.hi
def dW(n:Net)(l:List Int):Int:=jE n l (jQ n)
def oD(ts:List Int):Nat->Int
 |0=>0
 |k+1=>max (oD ts k) (nth ts k)
def gX(n:Net)(l:List Int):Int:=oD (times n l) n.hs.length
def wK{α:Type}(f:α->Int):α->List α->α
 |b,[]=>b
 |b,x::xs=>if f x<f b then wK f x xs else wK f b xs
theorem yJ{α:Type}(f:α->Int)(b:α)(xs:List α):f (wK f b xs)<=f b/\∀x∈xs,f (wK f b xs)<=f x:=by
 induction xs generalizing b with
 |nil=>exact⟨Int.le_refl _,fun x hx=>by cases hx⟩
 |cons y ys ih=>
  unfold wK
  split
  ·obtain⟨h1,h2⟩:=ih y;refine⟨nQ,fun x hx=>?_⟩;rcases List.mem_cons.1 hx with rfl|hx
   ·exact h1
   ·exact h2 x hx
  ·obtain⟨h1,h2⟩:=ih b;refine⟨h1,fun x hx=>?_⟩;rcases List.mem_cons.1 hx with rfl|hx
   ·omega
   ·exact h2 x hx
theorem Ru{α:Type}(f:α->Int)(b:α)(xs:List α):wK f b xs=b\/wK f b xs∈xs:=by
 induction xs generalizing b with
 |nil=>exact .inl rfl
 |cons y ys ih=>
  unfold wK
  split
  ·rcases ih y with h|h
   ·rw[h];exact .inr nV
   ·exact .inr (by simp[h])
  ·rcases ih b with h|h
   ·exact .inl h
   ·exact .inr (by simp[h])
theorem OU{α:Type}(f:α->Int)(b:α)(xs:List α)(x:α):wK f b (xs++[x])=if f x<f (wK f b xs) then x else wK f b xs:=by
 induction xs generalizing b with
 |nil=>rfl
 |cons y ys ih=>
  rw[List.cons_append]
  unfold wK
  split
  ·exact ih y
  ·exact ih b
def least{α:Type}[Inhabited α](f:α->Int):List α->α
 |[]=>default
 |x::xs=>wK f x xs
theorem mS{α:Type}[Inhabited α](f:α->Int){xs:List α}(h:xs≠[])(x:α):least f (xs++[x])=if f x<f (least f xs) then x else least f xs:=by
 cases xs with
 |nil=>exact absurd rfl h
 |cons y ys=>exact OU f y ys x
theorem least_le{α:Type}[Inhabited α](f:α->Int){xs:List α}{x:α}(h:x∈xs):f (least f xs)<=f x:=by
 cases xs with
 |nil=>cases h
 |cons y ys=>
  rcases List.mem_cons.1 h with rfl|h
  ·exact(yJ f x ys).1
  ·exact(yJ f y ys).2 x h
theorem fJ{α:Type}[Inhabited α](f:α->Int){xs:List α}(h:xs≠[]):least f xs∈xs:=by
 cases xs with
 |nil=>exact absurd rfl h
 |cons y ys=>
  rcases Ru f y ys with e|e
  ·show wK f y ys∈_;rw[e];simp
  ·exact List.mem_cons_of_mem _ e
def fQ(n:Net):List Int:=least (dW n) (gj n)
def dK(n:Net):Int:=dW n (fQ n)
def qS(n:Net):Int:=gX n (least (gX n) (gj n))
theorem ou{n:Net}(h:qN n=true):gj n≠[]:=by intro e;unfold qN at h;rw[e] at h;cases h
theorem gT{n:Net}(h:qN n=true):fA n (fQ n)=true:=qW.1 (fJ _ (ou h))
end Me
section
open Me
def aZ(x:jJ):List nK:=[.int .i64 x.fr,.int .i64 x.lo,.int .i64 x.hi,.int .i64 x.hr]
def dj(x:Pr):List nK:=[.int .i64 x.a,.int .i64 x.b]
section
variable{B:Nat}{w:nJ}{A:Option Addr}{c:Nat}
theorem Sl.pr{xs:List Pr}(h:Sl dj B w A c xs){k:Nat}(hk:k<xs.length):∃b o,A=some ⟨b,o,none⟩/\b<B/\w.cell? ⟨b,o+k*2,none⟩=some (.int .i64 (nth xs k).a)/\w.cell? ⟨b,o+k*2+1,none⟩=some (.int .i64 (nth xs k).b):=by obtain⟨b,o,hA,hb,hc⟩:=h.at_ (size:=2) (fun _=>rfl) hk nQ;rw[bV _ hk];exact⟨b,o,hA,hb,hc 0 _ rfl,hc 1 _ rfl⟩
theorem Sl.hole{xs:List jJ}(h:Sl aZ B w A c xs){k:Nat}(hk:k<xs.length):∃b o,A=some ⟨b,o,none⟩/\b<B/\w.cell? ⟨b,o+k*4,none⟩=some (.int .i64 (nth xs k).fr)/\w.cell? ⟨b,o+k*4+1,none⟩=some (.int .i64 (nth xs k).lo)/\w.cell? ⟨b,o+k*4+2,none⟩=some (.int .i64 (nth xs k).hi)/\w.cell? ⟨b,o+k*4+3,none⟩=some (.int .i64 (nth xs k).hr):=by obtain⟨b,o,hA,hb,hc⟩:=h.at_ (size:=4) (fun _=>rfl) hk nQ;rw[bV _ hk];exact⟨b,o,hA,hb,hc 0 _ rfl,hc 1 _ rfl,hc 2 _ rfl,hc 3 _ rfl⟩
theorem Sl.take{α:Type}{enc:α->List nK}{xs:List α}(h:Sl enc B w A c xs)(k:Nat):Sl enc B w A c (xs.take k):=by
 refine⟨by rw[List.length_take];have:=h.1;omega,h.2.1,fun hne=>?_⟩;have hn:xs.flatMap enc≠[]:=by
  intro e;apply hne;have:(xs.take k).flatMap enc <+: xs.flatMap enc:=by
   conv=>rhs;rw[<-List.take_append_drop k xs,List.flatMap_append]
   exact List.prefix_append _ _
  rw[e] at this;exact List.prefix_nil.1 this
 obtain⟨b,o,hA,hb,hv⟩:=h.2.2 hn;refine⟨b,o,hA,hb,fun j v hj=>hv j v ?_⟩;conv=>lhs;rw[<-List.take_append_drop k xs,List.flatMap_append]
 rw[List.getElem?_append_left (List.getElem?_eq_some_iff.1 hj).1];exact hj
end
structure cw where
 hA:Option Addr
 hc:Nat
 pA:Option Addr
 pc:Nat
abbrev cD(r:cw)(n:Net):nK:=.agg #[.int .i64 n.m,.slice r.hA n.hs.length r.hc,.slice r.pA n.ps.length r.pc]
def bG(B:Nat)(w:nJ)(r:cw)(n:Net):Prop:=Sl aZ B w r.hA r.hc n.hs/\Sl dj B w r.pA r.pc n.ps
section
variable{B:Nat}{w:nJ}{r:cw}{n:Net}
@[go_sem] theorem RX:bG B w.drew r n↔bG B w r n:=Iff.rfl
theorem bG.up{w':nJ}(h:bG B w r n)[hg:aC B w w']:bG B w' r n:=⟨h.1.up,h.2.up⟩
theorem bG.more(h:bG B w r n){B':Nat}(hB:B<=B'):bG B' w r n:=⟨h.1.more hB,h.2.more hB⟩
theorem bG.wide{W:nJ}(h:bG B w r n)[aC B w W][hB:Le B W]:bG W.heap.size W r n:=h.up.more hB.out
end
theorem oN(n low high:Int)(w:nJ):Calls nH 59 #[.int .i64 n,.int .i64 low,.int .i64 high] w fun e w'=>e=.returned (.bool (fj low high n))/\w=w':=by go_enter Tryz.func59,Tryz.ntmps59;go_wp2_with (go_at_call 104;refine(wO _ _ _ _).mono ?_;rintro e w1 ⟨rfl,rfl⟩);go_ret;exact⟨rfl,rfl⟩
theorem uF(n low high:Int)(w:nJ):Calls nH 48 #[.int .i64 n,.int .i64 low,.int .i64 high] w fun e w'=>e=.returned (.bool (fj low high n))/\w=w':=by
 go_enter Tryz.func48,Tryz.ntmps48;by_cases h1:low<=n
 ·go_wp2;go_ret;exact⟨aW (by simp[fj,h1]),rfl⟩
 ·go_wp2;go_ret;exact⟨aW (by simp[fj];omega),rfl⟩
theorem I6(A:Option Addr)(c ln:Nat)(xs:List Int)(x:Int)(B:Nat)(w:nJ)(h:Sl aH B w A c xs)(hn:xs.length=ln):Calls nH 153 #[.slice A ln c,.int .i64 x] w fun e w'=>e=.returned (.bool (jr xs x))/\w=w':=by
 subst hn;have hl:=h.len;go_enter Tryz.func153,Tryz.ntmps153;go_wp2;go_loop [5] (fun i=>∃k:Nat,k<=xs.length/\i=.int .i64 k/\Hid (x∉xs.take k)) (fun i=>xs.length-(intOf i).toNat)
 case atStart=>exact⟨0,nE _,rfl,by simp[Hid]⟩
 case round=>
  obtain⟨k,hk,rfl,hn⟩:=hrel;by_cases hlt:k<xs.length
  ·obtain⟨b,o,rfl,hb,hc⟩:=h.int hlt;have hm:=qh (aS xs hlt);have ht:=qh (bu xs hlt);by_cases he:nth xs k=x
   ·subst he;go_wp2;go_ret;exact⟨aW (by simpa [jr] using hm.out),rfl⟩
   ·have he':(nth xs k==x)=false:=by simpa using he
    go_wp2;go_round
    case rel=>refine⟨k+1,nQ,by go_num,?_⟩;have:=hn.out;unfold Hid;rw[ht.out];simp[this,Ne.symm he]
    case measure=>simp[intOf];omega
  ·obtain rfl:k=xs.length:=by omega
   go_wp2;go_ret;refine⟨aW ?_,rfl⟩;have:=hn.out;simpa [jr] using this
theorem QK(A:Option Addr)(c ln:Nat)(xs:List Int)(x:Int)(B:Nat)(w:nJ)(h:Sl aH B w A c xs)(hn:xs.length=ln):Calls nH 207 #[.slice A ln c,.int .i64 x] w fun e w'=>(∃n:Int,e=.returned (.int .i64 n)/\decide (0<=n)=jr xs x)/\w=w':=by
 subst hn;have hl:=h.len;go_enter Tryz.func207,Tryz.ntmps207;go_wp2;go_loop [8] (fun i=>∃k:Nat,k<=xs.length/\i=.int .i64 k/\Hid (x∉xs.take k)) (fun i=>xs.length-(intOf i).toNat)
 case atStart=>exact⟨0,nE _,rfl,by simp[Hid]⟩
 case round=>
  obtain⟨k,hk,rfl,hn⟩:=hrel;by_cases hlt:k<xs.length
  ·obtain⟨b',o,rfl,hb,LV⟩:=h.int hlt;have hm:=qh (aS xs hlt);have ht:=qh (bu xs hlt);by_cases he:nth xs k=x
   ·subst he;go_wp2;go_ret;exact⟨⟨k,rfl,by simpa [jr] using hm.out⟩,rfl⟩
   ·have he':(x==nth xs k)=false:=by simpa using Ne.symm he
    go_wp2;go_round
    case rel=>refine⟨k+1,nQ,by go_num,?_⟩;have:=hn.out;unfold Hid;rw[ht.out];simp[this,Ne.symm he]
    case measure=>simp[intOf];omega
  ·obtain rfl:k=xs.length:=by omega
   go_wp2;go_ret;refine⟨⟨-1,rfl,?_⟩,rfl⟩;have:=hn.out;rw[List.take_length] at this;rw[DK.2 this];rfl
theorem p9(A:Option Addr)(c ln:Nat)(xs:List Int)(x:Int)(b:Bool)(hb:jr xs x=b)(B:Nat)(w:nJ)(h:Sl aH B w A c xs)(hn:xs.length=ln):Calls nH 151 #[.slice A ln c,.int .i64 x] w fun e w'=>e=.returned (.bool b)/\w=w':=by subst hb;go_enter Tryz.func151,Tryz.ntmps151;go_wp2_with (go_at_call 207;refine(QK _ _ _ xs _ _ _ h hn).mono ?_;rintro e w1 ⟨⟨k,rfl,hk⟩,rfl⟩);go_ret;exact⟨aW nV,rfl⟩
end
section
open Me
theorem CU(p:Pr)(h:Int)(bh bl:Nat)(A:Option Addr)(c:Nat)(l:List Int)(B:Nat)(w:nJ)(hS:Sl aH B w A c l)[hB:Le B w][i1:Lt bh w][i2:Lt bl w](c1:w.cell? ⟨bh,0,none⟩=some (.int .i64 h))(c2:w.cell? ⟨bl,0,none⟩=some (.slice A l.length c))(b:Bool)(hb:tG l h p=b):Calls nH 208 #[.agg #[.int .i64 p.a,.int .i64 p.b],.pointer (some ⟨bh,0,none⟩),.pointer (some ⟨bl,0,none⟩)] w fun e w'=>e=.returned (.bool (!b))/\∃δ,w'=af w δ:=by
 subst hb;by_cases h1:p.b=h
 ·have h1':(p.b==h)=true:=by simpa using h1
  have HE:=qh h1;clear h1;go_enter Tryz.func208,Tryz.ntmps208;go_wp2_with (go_at_call 151;refine(p9 _ _ _ l _ _ rfl B _ hS.up rfl).mono ?_;rintro e w1 ⟨rfl,rfl⟩);go_ret;exact⟨aW (by simp[tG,HE.out]),ag⟩
 ·have h1':(p.b==h)=false:=by simpa using h1
  have HE:=qh h1;clear h1;go_enter Tryz.func208,Tryz.ntmps208;go_wp2_with fail;go_ret;exact⟨aW (by simp[tG,HE.out]),ag⟩
theorem FG(h:Int)(bh bl:Nat)(A:Option Addr)(c:Nat)(l:List Int)(pA:Option Addr)(pc ln:Nat)(ps:List Pr)(B:Nat)(w:nJ)(hS:Sl aH B w A c l)(hP:Sl dj B w pA pc ps)(gG:ps.length=ln)[hB:Le B w][i1:Lt bh w][i2:Lt bl w](c1:w.cell? ⟨bh,0,none⟩=some (.int .i64 h))(c2:w.cell? ⟨bl,0,none⟩=some (.slice A l.length c)):Calls nH 101 #[.slice pA ln pc,.func (.func 208) #[] #[.pointer (some ⟨bh,0,none⟩),.pointer (some ⟨bl,0,none⟩)]] w fun e w'=>(∃n:Int,e=.returned (.int .i64 n)/\decide (0<=n) = !Mv ps l h)/\∃δ,w'=af w δ:=by
 subst gG;have hl:=hP.len;go_enter Tryz.func101,Tryz.ntmps101;go_wp2;go_loopw [8] (fun i wr=>∃(k:Nat) (δ:nJ),k<=ps.length/\i=.int .i64 k/\Hid ((ps.take k).all (tG l h)=true)/\wr=af w δ) (fun i _=>ps.length-(intOf i).toNat)
 case atStart=>exact⟨0,w,nE _,rfl,by simp[Hid],(aY w).symm⟩
 case round=>
  obtain⟨k,δ,hk,rfl,hn,rfl⟩:=hrel;by_cases hlt:k<ps.length
  ·obtain⟨b',o,rfl,hb,hc0,xX⟩:=hP.pr hlt;have hb':Lt b' w:=⟨nL hb hB.out⟩;have hm:=qh (aS ps hlt);have ht:=qh (bu ps hlt);by_cases he:tG l h (nth ps k)=true
   ·have HE:=qh he;clear he;go_wp2_with (go_at_call 208;refine(CU (nth ps k) h bh bl A c l B _ hS.up nW nW _ HE.out).mono ?_;rintro e w1 ⟨rfl,δ1,rfl⟩);go_roundw
    case rel=>refine⟨k+1,_,nQ,by go_num,?_,aq⟩;refine QCS ?_;simp[HE.out]
    case measure=>simp[intOf];omega
   ·rw[Bool.not_eq_true] at he;have HE:=qh he;clear he;go_wp2_with (go_at_call 208;refine(CU (nth ps k) h bh bl A c l B _ hS.up nW nW _ HE.out).mono ?_;rintro e w1 ⟨rfl,δ1,rfl⟩);go_ret;refine⟨⟨k,rfl,?_⟩,ag⟩;have:Mv ps l h=false:=by rw[Mv,List.all_eq_false];exact⟨_,hm.out,by simp[HE.out]⟩
    rw[this];simp
  ·obtain rfl:k=ps.length:=by omega
   go_wp2;go_ret;refine⟨⟨-1,rfl,?_⟩,ag⟩;have:=hn.out;rw[List.take_length] at this;rw[Mv,this];rfl
theorem IL(r:cw)(n:Net)(h:Int)(A:Option Addr)(c ln:Nat)(l:List Int)(b:Bool)(hb:Mv n.ps l h=b)(B:Nat)(w:nJ)(hS:Sl aH B w A c l)(hN:bG B w r n)(gG:l.length=ln)[hB:Le B w]:Calls nH 152 #[cD r n,.int .i64 h,.slice A ln c] w fun e w'=>e=.returned (.bool b)/\∃δ,w'=af w δ:=by subst gG hb;go_enter Tryz.func152,Tryz.ntmps152;go_wp2_with (first|(go_at_call 51;go_in)|(go_at_call 101;refine(FG h _ _ A c l r.pA r.pc _ n.ps B _ hS.up hN.2.up rfl nW nW).mono ?_;rintro e w1 ⟨⟨k,rfl,hk⟩,δ,rfl⟩));go_ret;exact⟨aW nV,ag⟩
theorem MA(r:cw)(n:Net)(h:Int)(A:Option Addr)(c ln:Nat)(l:List Int)(b:Bool)(hb:may n l h=b)(B:Nat)(w:nJ)(hS:Sl aH B w A c l)(hN:bG B w r n)(gG:l.length=ln)[hB:Le B w]:Calls nH 105 #[cD r n,.slice A ln c,.int .i64 h] w fun e w'=>e=.returned (.bool b)/\∃δ,w'=af w δ:=by
 subst gG hb;have hl:=hN.2.len;by_cases hi:jr l h=true
 ·go_enter Tryz.func105,Tryz.ntmps105;go_wp2_with (go_at_call 153;refine(I6 _ _ _ l _ B _ hS.up rfl).mono ?_;rintro e w1 ⟨rfl,rfl⟩);go_ret;exact⟨aW (by simp[may,hi]),ag⟩
 ·rw[Bool.not_eq_true] at hi;go_enter Tryz.func105,Tryz.ntmps105;go_wp2_with (go_at_call 153;refine(I6 _ _ _ l _ B _ hS.up rfl).mono ?_;rintro e w1 ⟨rfl,rfl⟩);go_loop [7] (fun i=>∃k:Nat,k<=n.ps.length/\i=.int .i64 k/\Hid ((n.ps.take k).all (tG l h)=true)) (fun i=>n.ps.length-(intOf i).toNat)
  case atStart=>exact⟨0,nE _,rfl,by simp[Hid]⟩
  case round=>
   obtain⟨k,hk,rfl,hn⟩:=hrel;by_cases hlt:k<n.ps.length
   ·obtain⟨b',o,hA,hb,hc0,xX⟩:=hN.2.pr hlt;have hb':Lt b' w:=⟨nL hb hB.out⟩;have hm:=qh (aS n.ps hlt);have ht:=qh (bu n.ps hlt);have HA:=qh hA;have hki:(k:Int)<(n.ps.length:Int):=nQ;have hk0:¬(k:Int)<0:=nQ;obtain⟨rA,rc,pA,pc⟩:=r;have hA:pA=some ⟨b',o,none⟩:=HA.out;subst hA;by_cases h1:(nth n.ps k).b=h
    ·have h1':((nth n.ps k).b==h)=true:=by simpa using h1
     by_cases h2:jr l (nth n.ps k).a=true
     ·have HP:=qh (show tG l h (nth n.ps k)=true by simp[tG,h2]);clear h1;go_wp2_with (go_at_call 153;refine(I6 _ _ _ l _ B _ hS.up rfl).mono ?_;rintro e w1 ⟨rfl,rfl⟩);go_round
      case rel=>refine⟨k+1,nQ,by go_num,?_⟩;refine QCS ?_;simp[HP.out]
      case measure=>simp[intOf];omega
     ·rw[Bool.not_eq_true] at h2;have HP:=qh (show tG l h (nth n.ps k)=false by simp[tG,h2,h1]);clear h1;go_wp2_with (go_at_call 153;refine(I6 _ _ _ l _ B _ hS.up rfl).mono ?_;rintro e w1 ⟨rfl,rfl⟩);go_ret;refine⟨aW ?_,ag⟩;have:Mv n.ps l h=false:=by rw[Mv,List.all_eq_false];exact⟨_,hm.out,by simp[HP.out]⟩
      simp[may,this]
    ·have h1':((nth n.ps k).b==h)=false:=by simpa using h1
     have HP:=qh (show tG l h (nth n.ps k)=true by simp[tG,h1]);clear h1;go_wp2_with fail;go_round
     case rel=>refine⟨k+1,nQ,by go_num,?_⟩;refine QCS ?_;simp[HP.out]
     case measure=>simp[intOf];omega
   ·obtain rfl:k=n.ps.length:=by omega
    go_wp2;go_ret;refine⟨aW ?_,ag⟩;have:=hn.out;rw[List.take_length] at this;simp[may,Mv,this,hi]
theorem oU(r:cw)(n:Net)(x:Int)(b:Bool)(hb:fj 0 ((n.hs.length:Int)-1) x=b)(B:Nat)(w:nJ)(hN:bG B w r n)[hB:Le B w]:Calls nH 60 #[cD r n,.int .i64 x] w fun e w'=>e=.returned (.bool b)/\∃δ,w'=af w δ:=by subst hb;have hl:=hN.1.len;go_enter Tryz.func60,Tryz.ntmps60;go_wp2_with (go_at_call 59;refine(oN _ _ _ _).mono ?_;rintro e w1 ⟨rfl,rfl⟩);go_ret;exact⟨rfl,ag⟩
end
section
open Me
theorem Kx(r:cw)(n:Net)(x:Int)(bx:Nat)(w:nJ)[i1:Lt bx w](hl:n.hs.length<=9223372036854775807)(hc:w.cell? ⟨bx,1,none⟩=some (.slice r.hA n.hs.length r.hc)):Calls nH 47 #[.int .i64 x,.pointer (some ⟨bx,0,none⟩)] w fun e w'=>e=.returned (.bool (fj 0 ((n.hs.length:Int)-1) x))/\w=w':=by go_enter Tryz.func47,Tryz.ntmps47;go_wp2_with (go_at_call 48;refine(uF _ _ _ _).mono ?_;rintro e w1 ⟨rfl,rfl⟩);go_ret;exact⟨rfl,rfl⟩
theorem Ad(x:jJ)(w:nJ):Calls nH 50 #[.agg #[.int .i64 x.fr,.int .i64 x.lo,.int .i64 x.hi,.int .i64 x.hr]] w fun e w'=>e=.returned (.bool (!mP x))/\∃δ,w'=af w δ:=by go_enter Tryz.func50,Tryz.ntmps50;go_wp2_with (go_at_call 48;refine(uF _ _ _ _).mono ?_;rintro e w1 ⟨rfl,rfl⟩);all_goals go_ret;exact⟨aW (by rw[Bool.eq_iff_iff];simp[fj,mP] at *;omega),ag⟩
theorem Ac(r:cw)(n:Net)(p:Pr)(bx bf:Nat)(w:nJ)[i1:Lt bx w][i2:Lt bf w](hl:n.hs.length<=9223372036854775807)(hc:w.cell? ⟨bx,1,none⟩=some (.slice r.hA n.hs.length r.hc))(hf:w.cell? ⟨bf,0,none⟩=some (.func (.func 47) #[] #[.pointer (some ⟨bx,0,none⟩)])):Calls nH 52 #[.agg #[.int .i64 p.a,.int .i64 p.b],.pointer (some ⟨bf,0,none⟩)] w fun e w'=>e=.returned (.bool (!zn n.hs.length p))/\∃δ,w'=af w δ:=by go_enter Tryz.func52,Tryz.ntmps52;go_wp2_with (go_at_call 47;refine(Kx r n _ bx _ hl nW).mono ?_;rintro e w1 ⟨rfl,rfl⟩);all_goals go_ret;exact⟨aW (by rw[Bool.eq_iff_iff];simp[fj,zn] at *;omega),ag⟩
theorem Bw(A:Option Addr)(ln c:Nat)(xs:List jJ)(B:Nat)(w:nJ)(h:Sl aZ B w A c xs)(hn:xs.length=ln)[hB:Le B w]:Calls nH 100 #[.slice A ln c,.func (.func 50) #[] #[]] w fun e w'=>(∃n:Int,e=.returned (.int .i64 n)/\decide (0<=n) = !eM xs)/\∃δ,w'=af w δ:=by
 subst hn;have hl:=h.len;go_enter Tryz.func100,Tryz.ntmps100;go_wp2;go_loopw [8] (fun i wr=>∃(k:Nat) (δ:nJ),k<=xs.length/\i=.int .i64 k/\Hid ((xs.take k).all mP=true)/\wr=af w δ) (fun i _=>xs.length-(intOf i).toNat)
 case atStart=>exact⟨0,w,nE _,rfl,by simp[Hid],(aY w).symm⟩
 case round=>
  obtain⟨k,δ,hk,rfl,hn,rfl⟩:=hrel;by_cases hlt:k<xs.length
  ·obtain⟨b',o,rfl,hb,hc0,xX,Ji,NS⟩:=h.hole hlt;refine QDI ?_;intro hb' hm ht;by_cases he:mP (nth xs k)=true
   ·go_wp2_with (go_at_call 50;refine(Ad (nth xs k) _).mono ?_;rintro e w1 ⟨rfl,δ1,rfl⟩);go_roundw
    case rel=>refine⟨k+1,_,nQ,by go_num,?_,aq⟩;refine QCS ?_;simp[he]
    case measure=>simp[intOf];omega
   ·rw[Bool.not_eq_true] at he;go_wp2_with (go_at_call 50;refine(Ad (nth xs k) _).mono ?_;rintro e w1 ⟨rfl,δ1,rfl⟩);go_ret;refine⟨⟨k,rfl,?_⟩,ag⟩;have:eM xs=false:=by rw[eM,List.all_eq_false];exact⟨_,hm.out,by simp[he]⟩
    rw[this];simp
  ·obtain rfl:k=xs.length:=by omega
   go_wp2;go_ret;refine⟨⟨-1,rfl,?_⟩,ag⟩;have:=hn.out;rw[List.take_length] at this;rw[eM,this];rfl
theorem GK(r:cw)(n:Net)(bx bf:Nat)(A:Option Addr)(ln c:Nat)(xs:List Pr)(B:Nat)(w:nJ)(h:Sl dj B w A c xs)(hn:xs.length=ln)[hB:Le B w][i1:Lt bx w][i2:Lt bf w](hl':n.hs.length<=9223372036854775807)(hc:w.cell? ⟨bx,1,none⟩=some (.slice r.hA n.hs.length r.hc))(hf:w.cell? ⟨bf,0,none⟩=some (.func (.func 47) #[] #[.pointer (some ⟨bx,0,none⟩)])):Calls nH 101 #[.slice A ln c,.func (.func 52) #[] #[.pointer (some ⟨bf,0,none⟩)]] w fun e w'=>(∃k:Int,e=.returned (.int .i64 k)/\decide (0<=k) = !mM n.hs.length xs)/\∃δ,w'=af w δ:=by
 subst hn;have hl:=h.len;go_enter Tryz.func101,Tryz.ntmps101;go_wp2;go_loopw [8] (fun i wr=>∃(k:Nat) (δ:nJ),k<=xs.length/\i=.int .i64 k/\Hid ((xs.take k).all (zn n.hs.length)=true)/\wr=af w δ) (fun i _=>xs.length-(intOf i).toNat)
 case atStart=>exact⟨0,w,nE _,rfl,by simp[Hid],(aY w).symm⟩
 case round=>
  obtain⟨k,δ,hk,rfl,hn,rfl⟩:=hrel;by_cases hlt:k<xs.length
  ·obtain⟨b',o,rfl,hb,hc0,xX⟩:=h.pr hlt;refine QDI ?_;intro hb' hm ht;by_cases he:zn n.hs.length (nth xs k)=true
   ·go_wp2_with (go_at_call 52;refine(Ac r n (nth xs k) bx bf _ hl' nW nW).mono ?_;rintro e w1 ⟨rfl,δ1,rfl⟩);go_roundw
    case rel=>refine⟨k+1,_,nQ,by go_num,?_,aq⟩;refine QCS ?_;simp[he]
    case measure=>simp[intOf];omega
   ·rw[Bool.not_eq_true] at he;go_wp2_with (go_at_call 52;refine(Ac r n (nth xs k) bx bf _ hl' nW nW).mono ?_;rintro e w1 ⟨rfl,δ1,rfl⟩);go_ret;refine⟨⟨k,rfl,?_⟩,ag⟩;have:mM n.hs.length xs=false:=by rw[mM,List.all_eq_false];exact⟨_,hm.out,by simp[he]⟩
    rw[this];simp
  ·obtain rfl:k=xs.length:=by omega
   go_wp2;go_ret;refine⟨⟨-1,rfl,?_⟩,ag⟩;have:=hn.out;rw[List.take_length] at this;rw[mM,this];rfl
end
namespace Me
theorem Rw{ps:List Pr}{out:List Int}{h b M:Int}(k:Nat):jG ps out h b k<=M↔b<=M/\∀j,j<k->(nth ps j).b=h->nth out (nth ps j).a.toNat<=M:=by
 induction k with
 |zero=>exact⟨fun hb=>⟨hb,fun j hj=>by omega⟩,fun hb=>hb.1⟩
 |succ k ih=>
  unfold jG
  by_cases hk:(nth ps k).b=h
  ·rw[if_pos hk,Int.max_le,ih];constructor
   ·rintro⟨⟨h1,h2⟩,h3⟩;refine⟨h1,fun j hj hb=>?_⟩;by_cases e:j=k
    ·subst e;exact h3
    ·exact h2 j nQ hb
   ·rintro⟨h1,h2⟩;exact⟨⟨h1,fun j hj=>h2 j nQ⟩,h2 k nQ hk⟩
  ·rw[if_neg hk,ih];refine and_congr_right fun _=>⟨fun h2 j hj hb=>?_,fun h2 j hj=>h2 j nQ⟩;by_cases e:j=k
   ·subst e;exact absurd hb hk
   ·exact h2 j nQ hb
theorem Kv{n:Net}{s:List Int × List Int}{h:Int}:nth s.1 (own s.1)+(nth n.hs h.toNat).hr<=gW n s h/\(nth n.hs h.toNat).fr+(nth n.hs h.toNat).hr<=gW n s h:=by have:=((Rw (ps:=n.ps) (out:=s.2) (h:=h) (b:=max (nth s.1 (own s.1)) (nth n.hs h.toNat).fr) n.ps.length).1 (Int.le_refl _)).1;unfold gW;omega
theorem rz{n:Net}{j:Nat}(hj:j<n.hs.length):nth (jQ n) j=(nth n.hs j).hi:=by unfold jQ nth List.getD;rw[List.getElem?_map,List.getElem?_eq_getElem hj];rfl
theorem Dp{n:Net}{j:Nat}(hj:j<n.hs.length):nth (Bp n) j=(nth n.hs j).lo:=by unfold Bp nth List.getD;rw[List.getElem?_map,List.getElem?_eq_getElem hj];rfl
end Me
namespace Me
theorem GZ{n:Net}{pre l:List Int}(h:goes n pre l=true):l.Nodup/\∀x∈l,x∉pre:=by
 induction l generalizing pre with
 |nil=>exact⟨List.nodup_nil,fun x hx=>by cases hx⟩
 |cons y l ih=>
  unfold goes at h
  rw[Bool.and_eq_true,Bool.and_eq_true] at h
  obtain⟨i1,i2⟩:=ih h.2
  have hy:=(Qz.1 h.1.2).1
  refine⟨List.nodup_cons.2 ⟨fun hm=>i2 y hm nV,i1⟩,fun x hx hp=>?_⟩
  rcases List.mem_cons.1 hx with rfl|hx
  ·exact hy hp
  ·exact i2 x hx (by simp[hp])
theorem MP{n:Net}{l:List Int}(h:fA n l=true):goes n [] l=true:=by unfold fA at h;rw[Bool.and_eq_true] at h;exact h.2
theorem zZ{n:Net}{l:List Int}(h:fA n l=true):l.Nodup:=(GZ (MP h)).1
theorem IG:∀(l1 l2:List Int),l1.Nodup->(∀x∈l1,x∈l2)->l1.length<=l2.length
 |[],_,_,_=>nE _
 |a::l1,l2,hn,hs=>by
  rw[List.nodup_cons] at hn;have ha:=hs a nV;have:=IG l1 (l2.erase a) hn.2 (fun x hx=>by
   rw[List.mem_erase_of_ne (by rintro rfl;exact hn.1 hx)]
   exact hs x (by simp[hx]))
  rw[List.length_erase_of_mem ha] at this;have:0<l2.length:=List.length_pos_of_mem ha;simp;omega
def Bk(k:Nat):List Int:=(List.range k).map fun(i:Nat)=>(i:Int)
theorem Nh{k:Nat}{x:Int}:x∈Bk k↔0<=x/\x<k:=by
 unfold Bk;rw[List.mem_map];constructor
 ·rintro⟨i,hi,rfl⟩;rw[List.mem_range] at hi;omega
 ·intro h;exact⟨x.toNat,by rw[List.mem_range];omega,nQ⟩
theorem mQ(k:Nat):(Bk k).length=k:=by simp[Bk]
theorem Uo{l:List Int}{k:Nat}(hn:l.Nodup)(hh:∀x∈l,0<=x/\x<k)(hl:l.length=k){x:Int}(hx:0<=x/\x<k):x∈l:=by
 rcases Classical.em (x∈l) with h|h
 ·exact h
 ·have:=IG (x::l) (Bk k) (List.nodup_cons.2 ⟨h,hn⟩) (fun y hy=>by
   rw[Nh]
   rcases List.mem_cons.1 hy with rfl|hy
   ·exact hx
   ·exact hh y hy)
  rw[mQ] at this;simp at this;omega
theorem wC{n:Net}{l:List Int}(h:fA n l=true){x:Int}:x∈l↔isHole n x:=
 ⟨fun hx=>mD h x hx,fun hx=>Uo (zZ h) (mD h) (iV h) hx⟩
structure Plain(n:Net):Prop where
 m:n.m=1
 ps:n.ps=[]
 fr:∀h∈n.hs,h.fr=0
 ok:eM n.hs=true
end Me
namespace Me
def Ck(d:Nat)(x:Int):Int:=if (d:Int)<x then x-1 else x
def cut(n:Net)(d:Nat):Net:=⟨n.m,n.hs.take d++n.hs.drop (d+1),n.ps.map fun p=>⟨Ck d p.a,Ck d p.b⟩⟩
theorem FD{n:Net}(hv:eM n.hs=true)(l:List Int)(hl:vb n l)(hn:l.Nodup):∀x∈l,(nth n.hs x.toNat).fr+(nth n.hs x.toNat).hr<=nth (run n l).2 x.toNat:=by
 refine AY (fun l s=>∀x∈l,(nth n.hs x.toNat).fr+(nth n.hs x.toNat).hr<=nth s.2 x.toNat) l (fun x hx=>by cases hx) ?_;rintro pre y hp ih x hx;have hy:isHole n y:=hl y (hp.subset nV);show _<=nth (List.set _ _ _) _;by_cases hxy:x=y
 ·subst hxy;rw[pT _ (by rw[(oQ n pre).2];have:=hy.1;have:=hy.2;omega)];exact Kv.2
 ·have Z6:x∈pre:=by
   rcases List.mem_append.1 hx with h|h
   ·exact h
   ·exact absurd (by simpa using h) hxy
  have hxh:isHole n x:=hl x (hp.subset (by simp[Z6]));rw[xy _ (by have:=hy.1;have:=hxh.1;omega)];exact ih x Z6
theorem AR{n:Net}(hv:eM n.hs=true){l:List Int}(h:fA n l=true){j:Nat}(hj:j<n.hs.length):(nth n.hs j).fr+(nth n.hs j).hr<=nth (times n l) j:=by have:=FD hv l (mD h) (zZ h) (j:Int) ((wC h).2 ⟨nQ,nQ⟩);simpa [times] using this
theorem I8{ts:List Int}(k:Nat):0<=oD ts k/\∀j,j<k->nth ts j<=oD ts k:=by
 induction k with
 |zero=>exact⟨Int.le_refl _,fun j hj=>by omega⟩
 |succ k ih=>
  obtain⟨i1,i2⟩:=ih
  unfold oD
  refine⟨nQ,fun j hj=>?_⟩
  by_cases e:j=k
  ·subst e;omega
  ·have:=i2 j nQ;omega
theorem Dw{ts:List Int}{M:Int}(k:Nat):oD ts k<=M↔0<=M/\∀j,j<k->nth ts j<=M:=by
 constructor
 ·intro h;obtain⟨a,b⟩:=I8 (ts:=ts) k;exact⟨nQ,fun j hj=>by have:=b j hj;omega⟩
 ·rintro⟨h0,h⟩;induction k with
  |zero=>exact h0
  |succ k ih=>unfold oD;have:=ih (fun j hj=>h j nQ);have:=h k nQ;omega
theorem Nn{n:Net}(hv:eM n.hs=true){ts rt:List Int}{M:Int}(ht:jT M ts)(hr:jT 20 rt)(k:Nat)(hk:k<=n.hs.length)(hM:20<=M):-(20*M*k)<=jq n.hs ts rt k/\jq n.hs ts rt k<=20*M*k:=by
 induction k with
 |zero=>simp[jq]
 |succ k ih=>
  obtain⟨i1,i2⟩:=ih nQ
  have a:=ht k
  have b:=hr k
  have c:=gC.1 (iG hv (k:=k) nQ)
  unfold jq
  have d:nth rt k*(nth ts k-(nth n.hs k).fr)<=20*M:=by have e1:=Int.mul_le_mul_of_nonneg_left (show nth ts k-(nth n.hs k).fr<=M by omega) b.1;have e2:=Int.mul_le_mul_of_nonneg_right b.2 (show 0<=M by omega);omega
  have d2:-(20*M)<=nth rt k*(nth ts k-(nth n.hs k).fr):=by have e1:=Int.mul_le_mul_of_nonneg_left (show -M<=nth ts k-(nth n.hs k).fr by omega) b.1;have e2:=Int.mul_le_mul_of_nonneg_right b.2 (show 0<=M by omega);rw[Int.mul_neg] at e1;omega
  have e:(20*M*((k+1:Nat):Int))=20*M*k+20*M:=by rw[Int.natCast_add,Int.mul_add];simp
  omega
end Me
section
open Me
theorem bw.aD{S:Nat->Prop}{A B:nJ}{B0:Nat}{r:cw}{n:Net}(h:bw S A B)(hN:bG B0 A r n)(hB:B0<=A.heap.size)(hs:∀b,S b->B0<=b):bG B0 B r n:=⟨h.PY hN.1 hB hs,h.PY hN.2 hB hs⟩
def rK(S:Nat->Prop)(L:List (List Int))(pre:List (List Int))(J Jx:List (List Int)->nJ->Prop)(W:nJ)(b:Bool)(W':nJ):Prop:=
 bw S W W'/\(b=true->J (pre++L) W')/\(b=false->∃q,q <+: L/\q≠[]/\Jx (pre++q) W')
def wL(P:Program)(lo:Nat)(S:Nat->Prop)(L:List (List Int))(l:Nat)(J Jx:List (List Int)->nJ->Prop):Prop:=
 ∀(m:Nat) (pre:List (List Int)) (x:List Int) (v:nK) (W:nJ),pre++[x] <+: L->J pre W->EI lo v x W ->
  YieldAt Fence.wide m P l #[v] W fun e W'=>∃b,e=.returned (.bool b)/\rK S [x] pre J Jx W b W'
structure Env(B bp by_ bm l:Nat)(r:cw)(n:Net)(W:nJ):Prop where
 aD:bG B W r n
 le:B<=W.heap.size
 p0:W.cell? ⟨bp,0,none⟩=some (.int .i64 n.m)
 p1:W.cell? ⟨bp,1,none⟩=some (.slice r.hA n.hs.length r.hc)
 p2:W.cell? ⟨bp,2,none⟩=some (.slice r.pA n.ps.length r.pc)
 y:W.cell? ⟨by_,0,none⟩=some (.func (.yield l) #[] #[])
 m:W.cell? ⟨bm,0,none⟩=some (.func (.func 150) #[] #[.pointer (some ⟨bp,0,none⟩),.pointer (some ⟨by_,0,none⟩),.pointer (some ⟨bm,0,none⟩)])
 lp:bp<W.heap.size
 ly:by_<W.heap.size
 lm:bm<W.heap.size
theorem Env.eG{S:Nat->Prop}{B bp by_ bm l:Nat}{r:cw}{n:Net}{W W':nJ}(h:Env B bp by_ bm l r n W)(k:bw S W W')(hs:∀b,S b->B<=b/\b≠bp/\b≠by_/\b≠bm):Env B bp by_ bm l r n W':=
 ⟨k.aD h.aD h.le (fun b hb=>(hs b hb).1),nT h.le k.size,(k.cell h.lp (fun hc=>(hs _ hc).2.1 rfl)).trans h.p0,(k.cell h.lp (fun hc=>(hs _ hc).2.1 rfl)).trans h.p1,(k.cell h.lp (fun hc=>(hs _ hc).2.1 rfl)).trans h.p2,
  (k.cell h.ly (fun hc=>(hs _ hc).2.2.1 rfl)).trans h.y,(k.cell h.lm (fun hc=>(hs _ hc).2.2.2 rfl)).trans h.m,nL h.lp k.size,nL h.ly k.size,nL h.lm k.size⟩
section
attribute[local go_sem] Oper.semAt_some
theorem Qt(n:Net)(r:cw)(B bp by_ bm lo:Nat)(S:Nat->Prop)(L:List (List Int))(lp:Nat)(J Jx:List (List Int)->nJ->Prop)(hY:wL nH lo S L lp J Jx)(l:List Int)(v:nK)(pre:List (List Int))(W:nJ)(hE:Env B bp by_ bm lp r n W)(hl:EI lo v l W)(hn:l.length=n.hs.length)(hL:pre++aB n 0 l <+: L)(hJ:J pre W):Calls nH 150 #[v,.pointer (some ⟨bp,0,none⟩),.pointer (some ⟨by_,0,none⟩),.pointer (some ⟨bm,0,none⟩)] W fun e W'=>∃b,e=.returned (.bool b)/\rK S (aB n 0 l) pre J Jx W b W':=by
 refine(callsIn_wide (n:=3)).1 ?_;obtain⟨fn,tmps,assign,body,hy,hR⟩:=hY 2 pre l v W hL hJ hl;obtain⟨A,c,rfl,hS,hlo⟩:=hl;have e1:=hE.p1;have e2:=hE.y;have h0:((l.length:Int)==(n.hs.length:Int))=true:=by simp[hn]
 have QZ:=hS.len;clear hn;refine callsIn_of_wp Tryz.func150 rfl trivial ?_ rfl;simp only[Tryz.ntmps150,List.size_toArray,List.length_cons,List.length_nil,Nat.reduceAdd,Nat.reduceSub,Array.replicate_succ,Array.replicate_zero,List.push_toArray,List.append_toArray,List.nil_append,List.cons_append];gi_wp2_with (refine hR.mono ?_;clear hR;rintro e W2 ⟨b,rfl,hP⟩);go_ret;exact⟨b,rfl,hP⟩
end
def oB(n:Net)(k:Nat)(l:List Int)(i:Nat):List (List Int):=(List.range i).flatMap fun(i:Nat)=>if may n l (i:Int)=true then aB n k (l++[(i:Int)]) else[]
theorem Df(n:Net)(k:Nat)(l:List Int)(i:Nat):oB n k l (i+1)=oB n k l i++if may n l (i:Int)=true then aB n k (l++[(i:Int)]) else[]:=by unfold oB;rw[List.range_succ,List.flatMap_append];simp
theorem Gj(n:Net)(k:Nat)(l:List Int){i:Nat}(h:i<=n.hs.length):oB n k l i <+: aB n (k+1) l:=by obtain⟨m,hm⟩:∃m,n.hs.length=i+m:=⟨n.hs.length-i,nQ⟩;unfold aB oB;rw[hm,List.range_add,List.flatMap_append];exact List.prefix_append _ _
theorem Qu(n:Net)(r:cw)(B bp by_ bm lo:Nat)(S:Nat->Prop)(hS:∀b,S b->B<=b/\b≠bp/\b≠by_/\b≠bm/\b<lo)(L:List (List Int))(lp:Nat)(J Jx:List (List Int)->nJ->Prop)(GX:AK J)(vf:AK Jx)(hY:wL nH lo S L lp J Jx)(h6:n.hs.length<=6):∀(k:Nat) (l:List Int) (v:nK) (pre:List (List Int)) (W:nJ),Env B bp by_ bm lp r n W->lo<=W.heap.size->EI lo v l W->l.length+k=n.hs.length->pre++aB n k l <+: L->J pre W->Calls nH 150 #[v,.pointer (some ⟨bp,0,none⟩),.pointer (some ⟨by_,0,none⟩),.pointer (some ⟨bm,0,none⟩)] W fun e W'=>∃b,e=.returned (.bool b)/\rK S (aB n k l) pre J Jx W b W':=by
 intro k;induction k with
 |zero=>intro l v pre W hE _ hl hn hL hJ;exact Qt n r B bp by_ bm lo S L lp J Jx hY l v pre W hE hl (by simpa using hn) hL hJ
 |succ k IH=>
  intro l v pre W hE YA hl hn hL hJ
  obtain⟨A,c,rfl,EU,hlo⟩:=hl
  have e1:=hE.p1
  have h0:((l.length:Int)==(n.hs.length:Int))=false:=by simp;omega
  have QZ:=EU.len
  have hkc:l.length<=c:=EU.1
  have RN:=qh IH
  have HE:=qh hE
  have HS:=qh hS
  have HJ:=qh GX
  have HL:=qh hL
  have HLo:=qh hlo
  have Sw:=qh EU
  have HN:=qh hn
  have HJ0:=qh hJ
  clear IH hE hS GX hL hlo EU hn hJ hY
  go_enter Tryz.func150,Tryz.ntmps150
  go_wp2_with fail
  go_loopw [21] (fun i wr=>∃j:Nat,j<=n.hs.length/\i=.int .i64 j/\Hid (J (pre++oB n k l j) wr)/\bw S W wr) (fun i _=>n.hs.length-(intOf i).toNat)
  case atStart=>exact⟨0,nE _,rfl,by unfold Hid oB;simpa using HJ0.out,bw.refl _ _⟩
  case round=>
   obtain⟨j,hj,rfl,XD,hK⟩:=hrel;have E1:=HE.out.eG hK (fun b hb=>⟨(HS.out b hb).1,(HS.out b hb).2.1,(HS.out b hb).2.2.1,(HS.out b hb).2.2.2.1⟩);have p0:=E1.p0;have p1:=E1.p1;have p2:=E1.p2;have pm:=E1.m;have i1:Lt bp wr:=⟨E1.lp⟩;have i2:Lt bm wr:=⟨E1.lm⟩;have i3:Le B wr:=⟨E1.le⟩;have i4:Lt by_ wr:=⟨E1.ly⟩;have S1:Sl aH wr.heap.size wr A c l:=(hK.sl Sw.out (nR _) (fun p hp hc=>by have:=(HS.out _ hc).2.2.2.2;have:=HLo.out p hp;omega)).more hK.size;have UG:=qh E1;clear E1;by_cases hlt:j<n.hs.length
   ·have DR:=qh (Df n k l j);have hpre:=qh (Gj n k l hlt);by_cases h1:jr l (j:Int)=true
    ·have HM:=qh (show may n l (j:Int)=false by unfold may;rw[h1];rfl);have HI:=qh h1;clear h1;go_wp2_with (go_at_call 151;refine(p9 _ _ _ l _ _ HI.out wr.heap.size _ S1 rfl).mono ?_;rintro e w1 ⟨rfl,rfl⟩);go_roundw
     case rel=>refine⟨j+1,hlt,by go_num,?_,hK⟩;unfold Hid;rw[DR.out,HM.out];simpa using XD.out
     case measure=>simp[intOf];omega
    ·rw[Bool.not_eq_true] at h1;have HI:=qh h1;by_cases h2:Mv n.ps l (j:Int)=true
     ·have HM:=qh (show may n l (j:Int)=true by unfold may;rw[h1,h2];rfl);have HR:=qh h2;clear h1 h2;have hcI:(l.length:Int)<=(c:Int):=nQ;have hl0:(0:Int)<=(l.length:Int):=nQ;have LU:l.length<=6:=by have:=HN.out;omega
      have VW:lo<=wr.heap.size:=nT YA hK.size;have VM:Hid ((pre++oB n k l j)++aB n k (l++[(j:Int)]) <+: L):=by refine List.IsPrefix.trans ?_ HL.out;rw[List.append_assoc];refine(List.prefix_append_right_inj _).2 ?_;have:=DR.out;rw[HM.out,if_pos rfl] at this;rw[<-this];exact hpre.out
      go_wp2_with (first|(go_at_call 151;refine(p9 _ _ _ l _ _ HI.out wr.heap.size _ S1 rfl).mono ?_;rintro e w1 ⟨rfl,rfl⟩)|(go_at_call 152;refine(IL r n _ _ _ _ l _ HR.out wr.heap.size _ S1 (UG.out.aD.more UG.out.le) rfl).mono ?_;rintro e w1 ⟨rfl,δ,rfl⟩));go_goals
      go_region_held3 (fun W=>W.cell? ⟨bm,0,none⟩=some (.func (.func 150) #[] #[.pointer (some ⟨bp,0,none⟩),.pointer (some ⟨by_,0,none⟩),.pointer (some ⟨bm,0,none⟩)]))
       (go_simp)
       (first|(refine fy uC (.tmp 40) (.tmp 42) rfl rfl A l.length (l.flatMap aH) rfl S1.RV (tT l) (Sl.holds S1.up) _ 1 1 [.int .i64 (j:Int)] rfl nQ rfl (NQ nW) (by simp[Value.oneCell']) nQ nQ ?_;intro A1 c1 δ1 ei)|(go_at_call 150;refine(RN.out (l++[(j:Int)]) _ (pre++oB n k l j) _ (UG.out.eG (S:=fun _=>False) (bw.dz eP) (fun _ h=>h.elim)) (nT VW (tU _ _)) (KB ei (nT VW (tU _ _))) (by have:=HN.out;simp;omega) VM.out (HJ.out _ _ _ XD.out eP)).mono ?_;rintro e w1 ⟨b,rfl,hP⟩;have hbm:w1.cell? ⟨bm,0,none⟩=some (.func (.func 150) #[] #[.pointer (some ⟨bp,0,none⟩),.pointer (some ⟨by_,0,none⟩),.pointer (some ⟨bm,0,none⟩)]):=(hP.1.cell (b:=bm) (o:=0) nW (fun hc=>(HS.out bm hc).2.2.2.1 rfl)).trans nW))
      cases b
      ·go_wp2_with fail;go_ret;obtain⟨q,hq,QU,hx⟩:=hP.2.2 rfl;refine⟨false,rfl,hK.trans ((bw.dz (A:=wr) eP).trans hP.1),(fun h=>by cases h),fun _=>⟨oB n k l j++q,?_,by simp[QU],by rw[<-List.append_assoc];exact hx⟩⟩;refine List.IsPrefix.trans ?_ hpre.out;rw[DR.out,HM.out,if_pos rfl];exact(List.prefix_append_right_inj _).2 hq
      ·go_wp2_with fail;go_roundw
       case rel=>refine⟨j+1,hlt,by go_num,?_,hK.trans ((bw.dz (A:=wr) eP).trans hP.1)⟩;unfold Hid;rw[DR.out,HM.out,if_pos rfl,<-List.append_assoc];exact hP.2.1 rfl
       case measure=>simp[intOf];omega
     ·rw[Bool.not_eq_true] at h2;have HM:=qh (show may n l (j:Int)=false by unfold may;rw[h2];simp);have HR:=qh h2;clear h1 h2;go_wp2_with (first|(go_at_call 151;refine(p9 _ _ _ l _ _ HI.out wr.heap.size _ S1 rfl).mono ?_;rintro e w1 ⟨rfl,rfl⟩)|(go_at_call 152;refine(IL r n _ _ _ _ l _ HR.out wr.heap.size _ S1 (UG.out.aD.more UG.out.le) rfl).mono ?_;rintro e w1 ⟨rfl,δ,rfl⟩));go_roundw
      case rel=>refine⟨j+1,hlt,by go_num,?_,hK.trans (bw.af _ _ _)⟩;unfold Hid;rw[DR.out,HM.out];simpa using HJ.out _ _ _ XD.out (fc _ _)
      case measure=>simp[intOf];omega
   ·obtain rfl:j=n.hs.length:=by omega
    go_wp2_with fail;go_ret;refine⟨true,rfl,hK,fun _=>XD.out,fun h=>by cases h⟩
end
section
open Me
open Go.Shelf
theorem J5(n:Net)(r:cw)(B bp:Nat)(S:Nat->Prop)(L:List (List Int))(lp:Nat)(J Jx:List (List Int)->nJ->Prop)(GX:AK J)(vf:AK Jx)(W:nJ)(hY:wL nH W.heap.size S L lp J Jx)(hS:∀b,S b->B<=b/\b≠bp/\b<W.heap.size)(h6:n.hs.length<=6)(hN:bG B W r n)(hB:B<=W.heap.size)(yZ:bp<W.heap.size)(c0:W.cell? ⟨bp,0,none⟩=some (.int .i64 n.m))(c1:W.cell? ⟨bp,1,none⟩=some (.slice r.hA n.hs.length r.hc))(c2:W.cell? ⟨bp,2,none⟩=some (.slice r.pA n.ps.length r.pc))(hL:gj n <+: L)(hJ:J [] W):Calls nH 149 #[.func (.yield lp) #[] #[],.pointer (some ⟨bp,0,none⟩)] W fun e W'=>∃v b,e=.returned v/\rK S (gj n) [] J Jx W b W':=by
 have i1:Lt bp W:=⟨yZ⟩;have HN:=qh hN;have HS:=qh hS;have HL:=qh hL;have HJ:=qh hJ;have HY:=qh hY;have Iv:=qh GX;have Po:=qh vf;have i2:Le B W:=⟨hB⟩;clear hN hS hL hJ hY GX vf;go_enter Tryz.func149,Tryz.ntmps149;go_wp2_with fail;refine(Qu n r B bp W.heap.size (W.heap.size+1) W.heap.size S (fun b hb=>⟨(HS.out b hb).1,(HS.out b hb).2.1,by have:=(HS.out b hb).2.2;omega,by have:=(HS.out b hb).2.2;omega,(HS.out b hb).2.2⟩) L lp J Jx Iv.out Po.out HY.out h6 n.hs.length [] _ [] _ ?e ?lo ⟨none,0,rfl,Sl.none_,fun p hp=>by cases hp⟩ nV (show[]++aB n n.hs.length [] <+: L from HL.out) ?j).mono ?post;case e=>exact⟨HN.out.up,tU _ _,nW,nW,nW,nW,nW,nW,nW,nW⟩
 case lo=>exact tU _ _
 case j=>exact Iv.out _ _ _ HJ.out eP
 case post=>rintro e W' ⟨b,rfl,hP⟩;go_wp2_with fail;go_end0;exact⟨_,b,rfl,(bw.dz (A:=W) eP).trans hP.1,hP.2.1,hP.2.2⟩
theorem Dg(n:Net)(r:cw)(w:nJ):Calls nH 102 #[cD r n] w fun e w'=>e=.returned (.func (.func 149) #[] #[.pointer (some ⟨w.heap.size,0,none⟩)])/\w'=w.alloc (.cells #[.int .i64 n.m,.slice r.hA n.hs.length r.hc,.slice r.pA n.ps.length r.pc] 112):=by go_enter Tryz.func102,Tryz.ntmps102;go_wp2_with fail;go_ret;exact⟨rfl,rfl⟩
theorem Iz(n:Net)(r:cw)(B bp:Nat){g:Operand}{p:Tmp}{assign body:Code}{Q:Exit->Act->nJ->Prop}{a:Act}{w:nJ}(hg:a.eval g=.func (.func 149) #[] #[.pointer (some ⟨bp,0,none⟩)])(h6:n.hs.length<=6)(hN:bG B w r n)(hB:B<=w.heap.size)(yZ:bp<w.heap.size)(c0:w.cell? ⟨bp,0,none⟩=some (.int .i64 n.m))(c1:w.cell? ⟨bp,1,none⟩=some (.slice r.hA n.hs.length r.hc))(c2:w.cell? ⟨bp,2,none⟩=some (.slice r.pA n.ps.length r.pc))(S:Nat->Prop)(hS:∀b,S b->B<=b/\b≠bp/\b<w.heap.size)(I:List (List Int)->nJ->Prop)(Ix:Code->List (List Int)->nJ->Prop)(hI:∀pre W W',I pre W->bw (za (fun _=>False) w.heap.size) W W'->I pre W')(hIx:∀c pre W W',Ix c pre W->bw (za (fun _=>False) w.heap.size) W W'->Ix c pre W')(h0:I [] w)(a₁:nK->Act)(hassign:∀(l m:Nat) (v:nK) (W:nJ) (K:Act->nJ->Prop),K (a₁ v) W->assign.wpIn (Fence.wide.inRound l) m nH (Exit.then K (fun _ _ _=>False)) { tmps:=(#[p].zip #[v]).foldl (fun t (p,v)=>t.setIfInBounds p v) a.tmps,defers:=[] } W)(hbody:∀(l m:Nat) (pre:List (List Int)) (x:List Int) (v:nK) (W:nJ),pre++[x] <+: gj n->I pre W->EI (w.heap.size+2) v x W->bw (za S w.heap.size) w W->w.heap.size+2<=W.heap.size->body.wpIn (Fence.wide.inRound l) m nH (MK S I Ix (pre++[x]) W) (a₁ v) W)(hdone:∀W,I (gj n) W->bw (za S w.heap.size) w W->W.heap[w.heap.size]?=some (.deferred (some []))->Q .normal { a with defers:={ target:=.collected w.heap.size,args:=#[] }::a.defers } W)(hstop:∀c pre W,pre <+: gj n->pre≠[]->Ix c pre W->bw (za S w.heap.size) w W->W.heap[w.heap.size]?=some (.deferred (some []))->c.wp nH Q { a with defers:={ target:=.collected w.heap.size,args:=#[] }::a.defers } W):(Code.rangeFunc g #[p] assign body).wp nH Q a w:=by
 refine(wpIn_wide (n:=3)).1 (wpIn_rangeFunc ?_);intro fn _;rw[show Fence.wide.round=none from rfl];obtain⟨rec,pW⟩:∃rec:LoopState->Option Code->Loop,rec=fun st pe=>{ state:=st,pending:=pe,fn,tmps:=a.tmps,params:=#[p],assign,body,defers:=w.heap.size }:=⟨_,rfl⟩;refine QFL ?_;intro D hD W1 aE hs1;have YV:W1.heap[D+1]?=some (.loop (rec .ready none)):=by rw[<-aE,hD];have:=World.alloc_heap_new (w.alloc (.deferred (some []))) (.loop (rec .ready none));rwa [World.size_alloc] at this
 have YW:W1.heap[D]?=some (.deferred (some [])):=by rw[<-aE,hD];exact(Below.heap_alloc _ _ _ nV).trans (World.alloc_heap_new w _)
 have hw1:Below w.heap.size w W1:=by rw[<-aE];exact((Below.refl _ w).alloc (nR _) _).alloc nV _
 rw[<-hD] at hS hI hIx hbody hdone hstop;have hT:∀b,za S D b->B<=b/\b≠bp/\b<W1.heap.size:=by
  rintro b (h|rfl|rfl)
  ·have:=hS b h;exact⟨this.1,this.2.1,nQ⟩
  ·exact⟨nQ,nQ,nQ⟩
  ·exact⟨nQ,nQ,nQ⟩
 have stay:∀ {k:Nat} {o:Obj} {W W':nJ},W.heap[k]?=some o->Below W.heap.size W W'->W'.heap[k]?=some o:=fun h hb=>(hb.block _ (Array.getElem?_eq_some_iff.1 h).1).trans h;obtain⟨J,hJ⟩:∃J:List (List Int)->nJ->Prop,J=fun pre W=>I pre W/\W.heap[D+1]?=some (.loop (rec .ready none))/\W.heap[D]?=some (.deferred (some []))/\bw (za S D) w W/\D+2<=W.heap.size:=⟨_,rfl⟩;obtain⟨Jx,T6⟩:∃J:List (List Int)->nJ->Prop,J=fun pre W=>∃c,Ix c pre W/\W.heap[D+1]?=some (.loop (rec .done (some c)))/\W.heap[D]?=some (.deferred (some []))/\bw (za S D) w W/\D+2<=W.heap.size:=⟨_,rfl⟩;have GX:AK J:=by subst hJ;rintro pre W W' ⟨k1,k2,k3,k4,k5⟩ hb;exact⟨hI _ _ _ k1 (.dz hb),stay k2 hb,stay k3 hb,k4.trans (.dz hb),nT k5 hb.size⟩
 have vf:AK Jx:=by subst T6;rintro pre W W' ⟨c,k1,k2,k3,k4,k5⟩ hb;exact⟨c,hIx _ _ _ _ k1 (.dz hb),stay k2 hb,stay k3 hb,k4.trans (.dz hb),nT k5 hb.size⟩
 have hY:wL nH W1.heap.size (za S D) (gj n) (D+1) J Jx:=by
  subst hJ T6;rintro m pre x v W hpre ⟨k1,k2,k3,k4,k5⟩ hl;rw[hs1] at hl;have hy:=run_yield (P:=nH) (args:=#[v]) k2 (by rw[pW];rfl);rw[pW] at hy;refine⟨fn,_,assign,body,hy,roundIn_of_wpIn trivial (hassign _ m v W _ ?_)⟩;refine⟨_,run_beginRound k2 (by rw[pW]),?_⟩;have hlt:D+1<W.heap.size:=nQ;have KU:za (fun _=>False) D (D+1):=.inr (.inr rfl);have Wg:∀b,za (fun _=>False) D b->za S D b:=by rintro b (h|h);exact h.elim;exact .inr h
  have hkb:bw (za (fun _=>False) D) W (W.putObj (D+1) (.loop { rec .ready none with state:=.busy })):=(bw.refl _ _).putObj KU _;refine QDC ?_;intro GN hk2;refine wpIn_mono (hbody _ m pre x v _ hpre (hI _ _ _ k1 hkb) (hl.eG hkb (by rintro b (h|h|h);exact h.elim;omega;omega)) (k4.trans (hkb.mono Wg)) (by rw[World.putObj_size];exact k5)) ?_;have fin:∀(jump:Option Code) (W3:nJ),bw S (W.putObj (D+1) (.loop { rec .ready none with state:=.busy })) W3 ->
    (Instr.endRound (D+1) jump).run nH W3=.ok (.bool jump.isNone) (W3.putObj (D+1) (.loop (rec (if jump.isNone then .ready else .done) jump))) /\
    (W3.putObj (D+1) (.loop (rec (if jump.isNone then .ready else .done) jump))).heap[D+1]?=some (.loop (rec (if jump.isNone then .ready else .done) jump)) /\
    (W3.putObj (D+1) (.loop (rec (if jump.isNone then .ready else .done) jump))).heap[D]?=some (.deferred (some [])) /\
    bw (za (fun _=>False) D) W3 (W3.putObj (D+1) (.loop (rec (if jump.isNone then .ready else .done) jump)))/\bw (za S D) W (W3.putObj (D+1) (.loop (rec (if jump.isNone then .ready else .done) jump)))/\D+2<=(W3.putObj (D+1) (.loop (rec (if jump.isNone then .ready else .done) jump))).heap.size:=fun jump W3 qu=>by
   have hz:D+2<=W3.heap.size:=by have:=qu.size;rw[World.putObj_size] at this;omega
   have V0:=(qu.block (D+1) (by rw[World.putObj_size];omega) (fun hc=>by have:=hS _ hc;omega)).trans GN
   have Sk:=(qu.block D (by rw[World.putObj_size];omega) (fun hc=>by have:=hS _ hc;omega)).trans hk2
   have hrun:=run_endRound (P:=nH) jump V0
   have hend:bw (za (fun _=>False) D) W3 (W3.putObj (D+1) (.loop (rec (if jump.isNone then .ready else .done) jump))):=(bw.refl _ _).putObj KU _
   refine⟨?_,World.putObj_heap_same nQ,(World.putObj_heap_other nQ).trans Sk,hend,((hkb.mono Wg).trans (qu.mono fun b h=>.inl h)).trans (hend.mono Wg),by rw[World.putObj_size];exact hz⟩
   rw[pW] at hrun ⊢
   exact hrun
  rintro e a3 W3 hp;cases e with
  |normal=>
   obtain⟨qu,GP⟩:=hp
   obtain⟨hr,f1,f2,f3,f4,f5⟩:=fin none W3 qu
   refine⟨_,_,hr,true,rfl,f4,fun _=>?_,fun h=>by cases h⟩
   exact⟨hI _ _ _ GP f3,f1,f2,k4.trans f4,f5⟩
  |ret=>
   obtain⟨qu,GP⟩:=hp
   obtain⟨hr,f1,f2,f3,f4,f5⟩:=fin (some .ret) W3 qu
   refine⟨_,_,hr,false,rfl,f4,(fun h=>by cases h),fun _=>?_⟩
   exact⟨[x],List.prefix_refl _,nV,.ret,hIx _ _ _ _ GP f3,f1,f2,k4.trans f4,f5⟩
  |exit id=>
   obtain⟨qu,GP⟩:=hp
   obtain⟨hr,f1,f2,f3,f4,f5⟩:=fin (some (.exit id)) W3 qu
   refine⟨_,_,hr,false,rfl,f4,(fun h=>by cases h),fun _=>?_⟩
   exact⟨[x],List.prefix_refl _,nV,.exit id,hIx _ _ _ _ GP f3,f1,f2,k4.trans f4,f5⟩
  |goto t=>
   obtain⟨qu,GP⟩:=hp
   obtain⟨hr,f1,f2,f3,f4,f5⟩:=fin (some (.goto t)) W3 qu
   refine⟨_,_,hr,false,rfl,f4,(fun h=>by cases h),fun _=>?_⟩
   exact⟨[x],List.prefix_refl _,nV,.goto t,hIx _ _ _ _ GP f3,f1,f2,k4.trans f4,f5⟩
  |panic ch=>exact hp.elim
  |outgrown=>exact hp.elim
 have g1:Le w.heap.size W1:=⟨hw1.size⟩;have g2:aC w.heap.size w W1:=⟨Same.of hw1⟩;have hc:=fun o=>hw1.cell (p:=⟨bp,o,none⟩) yZ;have TK:=J5 n r B bp (za S D) (gj n) (D+1) J Jx GX vf W1 hY hT h6 ((bw.dz hw1).aD (S:=fun _=>False) hN hB (fun _ h=>h.elim)) (by have:=hw1.size;omega) (by have:=hw1.size;omega) ((hc 0).trans c0) ((hc 1).trans c1) ((hc 2).trans c2) (List.prefix_refl _)
  (by subst hJ;exact⟨hI _ _ _ h0 (.dz hw1),YV,YW,.dz hw1,nQ⟩)
 refine⟨D+1,[{ target:=.collected w.heap.size,args:=#[] }],W1,{ target:=.fn (.func 149) #[.pointer (some ⟨bp,0,none⟩)],args:=#[.func (.yield (D+1)) #[] #[]] },W1,149,
  #[.func (.yield (D+1)) #[] #[]]++#[.pointer (some ⟨bp,0,none⟩)],W1,?_,?_,fun _ _=>trivial,?_,fun h=>(by simp[Fence.wide] at h),?_⟩
 ·rw[<-aE,pW,hD];exact run_enterLoop_outer _ _ _ _ _
 ·simp only[resolve,hg];simp[go_sem]
 ·simp[invoke,go_sem,enters_of Tryz.func149 nP rfl]
 ·refine callsIn_wide.2 (TK.mono ?_);rintro e W2 ⟨v,b,rfl,hK,ht,hf⟩;cases b with
  |true=>
   have:=ht rfl
   subst hJ
   obtain⟨k1,k2,k3,k4,k5⟩:=this
   have KU:za (fun _=>False) D (D+1):=.inr (.inr rfl)
   have T0:za S D (D+1):=.inr (.inr rfl)
   refine⟨none,_,by have:=run_endLoop (P:=nH) k2 (by rw[pW];simp);rw[pW] at this;exact this,?_⟩
   rw[<-hD]
   exact hdone _ (hI _ _ _ k1 ((bw.refl _ _).putObj KU _)) (k4.putObj T0 _) ((World.putObj_heap_other nQ).trans k3)
  |false=>
   obtain⟨q,hq,QU,hx⟩:=hf rfl
   subst T6
   obtain⟨c,k1,k2,k3,k4,k5⟩:=hx
   have KU:za (fun _=>False) D (D+1):=.inr (.inr rfl)
   have T0:za S D (D+1):=.inr (.inr rfl)
   refine⟨some c,_,by have:=run_endLoop (P:=nH) k2 (by rw[pW];simp);rw[pW] at this;exact this,?_⟩
   rw[<-hD]
   exact wpIn_wide.2 (hstop c q _ hq QU (hIx _ _ _ _ k1 ((bw.refl _ _).putObj KU _)) (k4.putObj T0 _) ((World.putObj_heap_other nQ).trans k3))
end
end Go.Proofs.YtcjjlikhlmfedaaGreatDoor
