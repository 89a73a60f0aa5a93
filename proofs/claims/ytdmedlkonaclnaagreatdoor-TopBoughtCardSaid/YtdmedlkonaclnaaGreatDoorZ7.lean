/- A part of the proof that a law of layer 12 holds, cut small by a program (names and blanks): Hm1, Hm2. -/
import Derived.Test.YtdmedlkonaclnaaGreatDoorZ1
set_option maxRecDepth 100000
set_option maxHeartbeats 40000000
set_option linter.unusedVariables false
set_option linter.unusedSimpArgs false
namespace Go.Proofs.YtdmedlkonaclnaaGreatDoor
open Go.RowKit
open Nat renaming le_trans → nT, lt_of_lt_of_le → nL, le_refl → nR, zero_le → nE
open Go.Proofs.Tryz renaming prog → nH
open Go renaming World → nJ, Value → nK
namespace Me
structure kE where
 fr:Int
 lo:Int
 hi:Int
 hr:Int
structure Pr where
 a:Int
 b:Int
structure Net where
 m:Int
 hs:List kE
 ps:List Pr
instance:Inhabited kE:=⟨⟨0,0,0,0⟩⟩
instance:Inhabited Pr:=⟨⟨0,0⟩⟩
def jY(xs:List Int)(x:Int):Bool:=decide (x∈xs)
theorem QS{xs:List Int}{x:Int}:jY xs x=true↔x∈xs:=by simp[jY]
theorem Gn{xs:List Int}{x:Int}:jY xs x=false↔x∉xs:=by simp[jY]
def vn(done:List Int)(h:Int)(p:Pr):Bool:=!decide (p.b=h)||jY done p.a
def PN(ps:List Pr)(done:List Int)(h:Int):Bool:=ps.all (vn done h)
def may(n:Net)(done:List Int)(h:Int):Bool:=!jY done h&&PN n.ps done h
theorem T0{n:Net}{done:List Int}{h:Int}:may n done h=true↔h∉done/\∀p∈n.ps,p.b=h->p.a∈done:=by
 unfold may PN vn;rw[Bool.and_eq_true,Bool.not_eq_true',Gn,List.all_eq_true];refine and_congr_right fun _=>forall_congr' fun p=>forall_congr' fun _=>?_;rw[Bool.or_eq_true,Bool.not_eq_true',decide_eq_false_iff_not,QS];constructor
 ·intro h1 h2;exact h1.resolve_left (fun h3=>h3 h2)
 ·intro h1;by_cases h2:p.b=h
  ·exact .inr (h1 h2)
  ·exact .inl h2
def aC(n:Net):Nat->List Int->List (List Int)
 |0,l=>[l]
 |k+1,l=>(List.range n.hs.length).flatMap fun(i:Nat)=>if may n l (i:Int)=true then aC n k (l++[(i:Int)]) else[]
def gN(n:Net):List (List Int):=aC n n.hs.length []
def goes(n:Net):List Int->List Int->Bool
 |_,[]=>true
 |pre,x::xs=>(fH 0 ((n.hs.length:Int)-1) x&&may n pre x)&&goes n (pre++[x]) xs
def fP(n:Net)(l:List Int):Bool:=decide (l.length=n.hs.length)&&goes n [] l
theorem P8{n:Net}{k:Nat}{l o:List Int}:o∈aC n k l↔∃r,o=l++r/\r.length=k/\goes n l r=true:=by
 induction k generalizing l with
 |zero=>
  unfold aC
  rw[List.mem_singleton]
  constructor
  ·rintro rfl;exact⟨[],nV,rfl,rfl⟩
  ·rintro⟨r,rfl,hr,_⟩;rw[List.eq_nil_of_length_eq_zero hr,List.append_nil]
 |succ k ih=>
  unfold aC
  rw[List.mem_flatMap]
  constructor
  ·rintro⟨i,hi,ho⟩;rw[List.mem_range] at hi;by_cases hm:may n l (i:Int)=true
   ·rw[if_pos hm,ih] at ho;obtain⟨r,rfl,hr,hg⟩:=ho;refine⟨(i:Int)::r,nV,by simp[hr],?_⟩;unfold goes;rw[hm,hg,Bool.and_true,Bool.and_true,dn];omega
   ·rw[if_neg hm] at ho;cases ho
  ·rintro⟨r,rfl,hr,hg⟩;cases r with
   |nil=>cases hr
   |cons x r=>
    unfold goes at hg
    rw[Bool.and_eq_true,Bool.and_eq_true,dn] at hg
    obtain⟨⟨⟨h1,h2⟩,hm⟩,hg⟩:=hg
    refine⟨x.toNat,by rw[List.mem_range];omega,?_⟩
    have hx:(x.toNat:Int)=x:=nQ
    rw[hx,if_pos hm,ih]
    exact⟨r,nV,by simpa using hr,hg⟩
theorem tu{n:Net}{o:List Int}:o∈gN n↔fP n o=true:=by
 unfold gN fP;rw[P8,Bool.and_eq_true,decide_eq_true_eq];constructor
 ·rintro⟨r,rfl,hr,hg⟩;exact⟨by simpa using hr,by simpa using hg⟩
 ·rintro⟨hl,hg⟩;exact⟨o,nV,hl,hg⟩
def oK(h:kE):Bool:=decide (0<=h.fr/\h.fr<=20/\0<=h.lo/\h.lo<=h.hi/\h.hi<=20/\1<=h.hr/\h.hr<=9)
def fc(hs:List kE):Bool:=hs.all oK
def Bq(k:Nat)(p:Pr):Bool:=decide (0<=p.a/\p.a<k/\0<=p.b/\p.b<k)
def oH(k:Nat)(ps:List Pr):Bool:=ps.all (Bq k)
def sR(n:Net):Bool:=!(gN n).isEmpty
def valid(n:Net):Bool:=(decide (1<=n.m/\n.m<=3)&&decide (n.hs.length<=6)&&decide (n.ps.length<=8)&&fc n.hs&&oH n.hs.length n.ps)&&sR n
theorem aD{n:Net}:valid n=true↔(1<=n.m/\n.m<=3)/\n.hs.length<=6/\n.ps.length<=8/\fc n.hs=true/\oH n.hs.length n.ps=true/\sR n=true:=by simp[valid,and_assoc]
theorem jl{hs:List kE}(h:fc hs=true){k:Nat}(hk:k<hs.length):oK (nth hs k)=true:=List.all_eq_true.1 h _ (aV hs hk)
theorem FH{m:Nat}{ps:List Pr}(h:oH m ps=true){k:Nat}(hk:k<ps.length):Bq m (nth ps k)=true:=List.all_eq_true.1 h _ (aV ps hk)
def jL(free:List Int):Nat->Nat
 |0=>0
 |k+1=>if nth free k<nth free (jL free k) then k else jL free k
def own(free:List Int):Nat:=jL free free.length
def kB(ps:List Pr)(out:List Int)(h:Int)(b:Int):Nat->Int
 |0=>b
 |k+1=>if (nth ps k).b=h then max (kB ps out h b k) (nth out (nth ps k).a.toNat) else kB ps out h b k
def iP(n:Net)(s:List Int × List Int)(h:Int):Int:=
 kB n.ps s.2 h (max (nth s.1 (own s.1)) (nth n.hs h.toNat).fr) n.ps.length+(nth n.hs h.toNat).hr
def step(n:Net)(s:List Int × List Int)(h:Int):List Int × List Int:=(s.1.set (own s.1) (iP n s h),s.2.set h.toNat (iP n s h))
def start(n:Net):List Int × List Int:=(List.replicate n.m.toNat 0,List.replicate n.hs.length 0)
def run(n:Net)(l:List Int):List Int × List Int:=l.foldl (step n) (start n)
def times(n:Net)(l:List Int):List Int:=(run n l).2
theorem zk(n:Net)(l:List Int)(h:Int):run n (l++[h])=step n (run n l) h:=by simp[run,List.foldl_append]
theorem Dj{n:Net}(p:List Int->List Int × List Int->Prop)(l:List Int)(h0:p [] (start n))(h1:∀pre x,pre++[x] <+: l->p pre (run n pre)->p (pre++[x]) (step n (run n pre) x)):p l (run n l):=by
 have key:∀k,k<=l.length->p (l.take k) (run n (l.take k)):=by
  intro k;induction k with
  |zero=>intro _;rw[List.take_zero];exact h0
  |succ k ih=>
   intro hk
   rw[bE l nQ,zk]
   refine h1 _ _ ?_ (ih nQ)
   rw[<-bE l nQ]
   exact List.take_prefix _ _
 have:=key l.length (nR _);rwa [List.take_length] at this
theorem qm(n:Net)(l:List Int):(run n l).1.length=n.m.toNat/\(run n l).2.length=n.hs.length:=
 Dj (fun _ s=>s.1.length=n.m.toNat/\s.2.length=n.hs.length) l (by simp[start]) (fun pre x _ ih=>by simp[step,ih])
theorem kF(n:Net)(l:List Int):(times n l).length=n.hs.length:=(qm n l).2
theorem qX{α:Type}[Inhabited α](xs:List α){k:Nat}(h:k<xs.length)(v:α):nth (xs.set k v) k=v:=by simp[nth,h]
theorem zF{α:Type}[Inhabited α](xs:List α){j k:Nat}(h:j≠k)(v:α):nth (xs.set j v) k=nth xs k:=by simp[nth,List.getElem?_set_ne h]
theorem Br{α:Type}[Inhabited α](xs:List α)(j k:Nat)(v:α):nth (xs.set j v) k=v\/nth (xs.set j v) k=nth xs k:=by
 by_cases h:j=k
 ·subst h;rcases Nat.lt_or_ge j xs.length with hl|hl
  ·exact .inl (qX xs hl v)
  ·exact .inr (by rw[List.set_eq_of_length_le hl])
 ·exact .inr (zF xs h v)
theorem TP{m k:Nat}:nth (List.replicate m (0:Int)) k=0:=by unfold nth List.getD;rw[List.getElem?_replicate];split<;>rfl
theorem Lp{free:List Int}{k:Nat}(h:0<k):jL free k<k:=by
 induction k with
 |zero=>omega
 |succ k ih=>
  unfold jL
  split
  ·omega
  ·cases k with
   |zero=>simp[jL]
   |succ k=>have:=ih nQ;omega
theorem UY{ps:List Pr}{out:List Int}{h b M:Int}(k:Nat)(hb:b<=M)(ho:∀j,nth out j<=M):b<=kB ps out h b k/\kB ps out h b k<=M:=by
 induction k with
 |zero=>exact⟨Int.le_refl _,hb⟩
 |succ k ih=>
  unfold kB
  split
  ·have:=ho (nth ps k).a.toNat;omega
  ·exact ih
theorem ic{h:kE}:oK h=true↔0<=h.fr/\h.fr<=20/\0<=h.lo/\h.lo<=h.hi/\h.hi<=20/\1<=h.hr/\h.hr<=9:=by simp[oK]
theorem oI{k:Nat}{p:Pr}:Bq k p=true↔0<=p.a/\p.a<k/\0<=p.b/\p.b<k:=by simp[Bq]
def kO(M:Int)(xs:List Int):Prop:=∀j,0<=nth xs j/\nth xs j<=M
theorem CW{M:Int}{xs:List Int}{v:Int}(h:kO M xs)(h0:0<=v)(h1:v<=M)(k:Nat):kO M (xs.set k v):=fun j=>by
 rcases Br xs k j v with e|e<;>rw[e]
 ·exact⟨h0,h1⟩
 ·exact h j
theorem oX{M M':Int}{xs:List Int}(h:kO M xs)(hM:M<=M'):kO M' xs:=fun j=>⟨(h j).1,Int.le_trans (h j).2 hM⟩
def isHole(n:Net)(h:Int):Prop:=0<=h/\h<n.hs.length
theorem xb{n:Net}{s:List Int × List Int}{h M:Int}(hv:fc n.hs=true)(hh:isHole n h)(h1:kO M s.1)(h2:kO M s.2)(hM:20<=M):0<=iP n s h/\iP n s h<=M+9/\(nth n.hs h.toNat).fr+(nth n.hs h.toNat).hr<=iP n s h/\nth s.1 (own s.1)<=iP n s h/\kB n.ps s.2 h (max (nth s.1 (own s.1)) (nth n.hs h.toNat).fr) n.ps.length<=M:=by have a:=ic.1 (jl hv (k:=h.toNat) (by have:=hh.1;have:=hh.2;omega));have b:=h1 (own s.1);have c:=UY (ps:=n.ps) (out:=s.2) (h:=h) (b:=max (nth s.1 (own s.1)) (nth n.hs h.toNat).fr) (M:=M) n.ps.length nQ (fun j=>(h2 j).2);unfold iP;omega
def xk(n:Net)(l:List Int):Prop:=∀x∈l,isHole n x
theorem IZ{n:Net}(hv:fc n.hs=true)(l:List Int)(hl:xk n l):kO (20+9*l.length) (run n l).1/\kO (20+9*l.length) (run n l).2:=by
 have z:∀m,kO 20 (List.replicate m 0):=fun m j=>by rw[TP];omega
 refine Dj (fun l s=>kO (20+9*(l.length:Int)) s.1/\kO (20+9*(l.length:Int)) s.2) l ⟨z _,z _⟩ ?_;rintro pre x hp ⟨i1,i2⟩;have hx:isHole n x:=hl x (hp.subset nV);obtain⟨b1,b2,_⟩:=xb hv hx i1 i2 nQ;have e:(20+9*((pre++[x]).length:Int))=20+9*(pre.length:Int)+9:=by simp;omega
 rw[e];exact⟨CW (oX i1 nQ) b1 b2 _,CW (oX i2 nQ) b1 b2 _⟩
theorem Ka{n:Net}{pre l:List Int}(h:goes n pre l=true):xk n l:=by
 induction l generalizing pre with
 |nil=>intro x hx;cases hx
 |cons y l ih=>
  unfold goes at h
  rw[Bool.and_eq_true,Bool.and_eq_true,dn] at h
  intro x hx
  rcases List.mem_cons.1 hx with rfl|hx
  ·exact⟨h.1.1.1,nQ⟩
  ·exact ih h.2 x hx
theorem oa{n:Net}{l:List Int}(h:fP n l=true):xk n l:=by unfold fP at h;rw[Bool.and_eq_true] at h;exact Ka h.2
theorem jB{n:Net}{l:List Int}(h:fP n l=true):l.length=n.hs.length:=by unfold fP at h;rw[Bool.and_eq_true,decide_eq_true_eq] at h;exact h.1
theorem uW{n:Net}(hv:valid n=true){l:List Int}(hl:fP n l=true):kO 74 (times n l):=by obtain⟨_,h6,_,ho,_⟩:=aD.1 hv;have:=(IZ ho l (oa hl)).2;refine oX this ?_;rw[jB hl];omega
def jX(hs:List kE)(ts rt:List Int):Nat->Int
 |0=>0
 |k+1=>jX hs ts rt k+nth rt k*(nth ts k-(nth hs k).fr)
def kr(n:Net)(l rt:List Int):Int:=jX n.hs (times n l) rt n.hs.length
def DD(n:Net):List Int:=n.hs.map kE.lo
def kK(n:Net):List Int:=n.hs.map kE.hi
def eC(n:Net)(l:List Int):Int:=kr n l (kK n)
def pY(ts:List Int):Nat->Int
 |0=>0
 |k+1=>max (pY ts k) (nth ts k)
def iQ(n:Net)(l:List Int):Int:=pY (times n l) n.hs.length
def yN{α:Type}(f:α->Int):α->List α->α
 |b,[]=>b
 |b,x::xs=>if f x<f b then yN f x xs else yN f b xs
theorem AO{α:Type}(f:α->Int)(b:α)(xs:List α):f (yN f b xs)<=f b/\∀x∈xs,f (yN f b xs)<=f x:=by
 induction xs generalizing b with
 |nil=>exact⟨Int.le_refl _,fun x hx=>by cases hx⟩
 |cons y ys ih=>
  unfold yN
  split
  ·obtain⟨h1,h2⟩:=ih y;refine⟨nQ,fun x hx=>?_⟩;rcases List.mem_cons.1 hx with rfl|hx
   ·exact h1
   ·exact h2 x hx
  ·obtain⟨h1,h2⟩:=ih b;refine⟨h1,fun x hx=>?_⟩;rcases List.mem_cons.1 hx with rfl|hx
   ·omega
   ·exact h2 x hx
theorem UU{α:Type}(f:α->Int)(b:α)(xs:List α):yN f b xs=b\/yN f b xs∈xs:=by
 induction xs generalizing b with
 |nil=>exact .inl rfl
 |cons y ys ih=>
  unfold yN
  split
  ·rcases ih y with h|h
   ·rw[h];exact .inr nV
   ·exact .inr (by simp[h])
  ·rcases ih b with h|h
   ·exact .inl h
   ·exact .inr (by simp[h])
theorem Sk{α:Type}(f:α->Int)(b:α)(xs:List α)(x:α):yN f b (xs++[x])=if f x<f (yN f b xs) then x else yN f b xs:=by
 induction xs generalizing b with
 |nil=>rfl
 |cons y ys ih=>
  rw[List.cons_append]
  unfold yN
  split
  ·exact ih y
  ·exact ih b
def least{α:Type}[Inhabited α](f:α->Int):List α->α
 |[]=>default
 |x::xs=>yN f x xs
theorem oO{α:Type}[Inhabited α](f:α->Int){xs:List α}(h:xs≠[])(x:α):least f (xs++[x])=if f x<f (least f xs) then x else least f xs:=by
 cases xs with
 |nil=>exact absurd rfl h
 |cons y ys=>exact Sk f y ys x
theorem least_le{α:Type}[Inhabited α](f:α->Int){xs:List α}{x:α}(h:x∈xs):f (least f xs)<=f x:=by
 cases xs with
 |nil=>cases h
 |cons y ys=>
  rcases List.mem_cons.1 h with rfl|h
  ·exact(AO f x ys).1
  ·exact(AO f y ys).2 x h
theorem gd{α:Type}[Inhabited α](f:α->Int){xs:List α}(h:xs≠[]):least f xs∈xs:=by
 cases xs with
 |nil=>exact absurd rfl h
 |cons y ys=>
  rcases UU f y ys with e|e
  ·show yN f y ys∈_;rw[e];simp
  ·exact List.mem_cons_of_mem _ e
def gz(n:Net):List Int:=least (eC n) (gN n)
def dY(n:Net):Int:=eC n (gz n)
def sZ(n:Net):Int:=iQ n (least (iQ n) (gN n))
theorem pP{n:Net}(h:sR n=true):gN n≠[]:=by intro e;unfold sR at h;rw[e] at h;cases h
theorem iL{n:Net}(h:sR n=true):fP n (gz n)=true:=tu.1 (gd _ (pP h))
end Me
section
open Me
def bB(x:kE):List nK:=[.int .i64 x.fr,.int .i64 x.lo,.int .i64 x.hi,.int .i64 x.hr]
def dH(x:Pr):List nK:=[.int .i64 x.a,.int .i64 x.b]
section
variable{B:Nat}{w:nJ}{A:Option Addr}{c:Nat}
theorem Sl.pr{xs:List Pr}(h:Sl dH B w A c xs){k:Nat}(hk:k<xs.length):∃b o,A=some ⟨b,o,none⟩/\b<B/\w.cell? ⟨b,o+k*2,none⟩=some (.int .i64 (nth xs k).a)/\w.cell? ⟨b,o+k*2+1,none⟩=some (.int .i64 (nth xs k).b):=by obtain⟨b,o,hA,hb,hc⟩:=h.at_ (size:=2) (fun _=>rfl) hk nQ;rw[bR _ hk];exact⟨b,o,hA,hb,hc 0 _ rfl,hc 1 _ rfl⟩
theorem Sl.hole{xs:List kE}(h:Sl bB B w A c xs){k:Nat}(hk:k<xs.length):∃b o,A=some ⟨b,o,none⟩/\b<B/\w.cell? ⟨b,o+k*4,none⟩=some (.int .i64 (nth xs k).fr)/\w.cell? ⟨b,o+k*4+1,none⟩=some (.int .i64 (nth xs k).lo)/\w.cell? ⟨b,o+k*4+2,none⟩=some (.int .i64 (nth xs k).hi)/\w.cell? ⟨b,o+k*4+3,none⟩=some (.int .i64 (nth xs k).hr):=by obtain⟨b,o,hA,hb,hc⟩:=h.at_ (size:=4) (fun _=>rfl) hk nQ;rw[bR _ hk];exact⟨b,o,hA,hb,hc 0 _ rfl,hc 1 _ rfl,hc 2 _ rfl,hc 3 _ rfl⟩
theorem Sl.take{α:Type}{enc:α->List nK}{xs:List α}(h:Sl enc B w A c xs)(k:Nat):Sl enc B w A c (xs.take k):=by
 refine⟨by rw[List.length_take];have:=h.1;omega,h.2.1,fun hne=>?_⟩;have hn:xs.flatMap enc≠[]:=by
  intro e;apply hne;have:(xs.take k).flatMap enc <+: xs.flatMap enc:=by
   conv=>rhs;rw[<-List.take_append_drop k xs,List.flatMap_append]
   exact List.prefix_append _ _
  rw[e] at this;exact List.prefix_nil.1 this
 obtain⟨b,o,hA,hb,hv⟩:=h.2.2 hn;refine⟨b,o,hA,hb,fun j v hj=>hv j v ?_⟩;conv=>lhs;rw[<-List.take_append_drop k xs,List.flatMap_append]
 rw[List.getElem?_append_left (List.getElem?_eq_some_iff.1 hj).1];exact hj
end
structure cw where
 hA:Option Addr
 hc:Nat
 pA:Option Addr
 pc:Nat
abbrev cI(r:cw)(n:Net):nK:=.agg #[.int .i64 n.m,.slice r.hA n.hs.length r.hc,.slice r.pA n.ps.length r.pc]
def bJ(B:Nat)(w:nJ)(r:cw)(n:Net):Prop:=Sl bB B w r.hA r.hc n.hs/\Sl dH B w r.pA r.pc n.ps
section
variable{B:Nat}{w:nJ}{r:cw}{n:Net}
@[go_sem] theorem Vv:bJ B w.drew r n↔bJ B w r n:=Iff.rfl
theorem bJ.up{w':nJ}(h:bJ B w r n)[hg:au B w w']:bJ B w' r n:=⟨h.1.up,h.2.up⟩
theorem bJ.more(h:bJ B w r n){B':Nat}(hB:B<=B'):bJ B' w r n:=⟨h.1.more hB,h.2.more hB⟩
theorem bJ.wide{W:nJ}(h:bJ B w r n)[au B w W][hB:Le B W]:bJ W.heap.size W r n:=h.up.more hB.out
end
theorem qi(n low high:Int)(w:nJ):Calls nH 78 #[.int .i64 n,.int .i64 low,.int .i64 high] w fun e w'=>e=.returned (.bool (fH low high n))/\w=w':=by go_enter Tryz.func78,Tryz.ntmps78;go_wp2_with (go_at_call 148;refine(yQ _ _ _ _).mono ?_;rintro e w1 ⟨rfl,rfl⟩);go_ret;exact⟨rfl,rfl⟩
theorem wD(n low high:Int)(w:nJ):Calls nH 152 #[.int .i64 n,.int .i64 low,.int .i64 high] w fun e w'=>e=.returned (.bool (fH low high n))/\w=w':=by
 go_enter Tryz.func152,Tryz.ntmps152;by_cases h1:low<=n
 ·go_wp2;go_ret;exact⟨bu (by simp[fH,h1]),rfl⟩
 ·go_wp2;go_ret;exact⟨bu (by simp[fH];omega),rfl⟩
theorem Ly(A:Option Addr)(c ln:Nat)(xs:List Int)(x:Int)(B:Nat)(w:nJ)(h:Sl aI B w A c xs)(hn:xs.length=ln):Calls nH 203 #[.slice A ln c,.int .i64 x] w fun e w'=>e=.returned (.bool (jY xs x))/\w=w':=by
 subst hn;have hl:=h.len;go_enter Tryz.func203,Tryz.ntmps203;go_wp2;go_loop [5] (fun i=>∃k:Nat,k<=xs.length/\i=.int .i64 k/\Hid (x∉xs.take k)) (fun i=>xs.length-(intOf i).toNat)
 case atStart=>exact⟨0,nE _,rfl,by simp[Hid]⟩
 case round=>
  obtain⟨k,hk,rfl,hn⟩:=hrel;by_cases hlt:k<xs.length
  ·obtain⟨b,o,rfl,hb,hc⟩:=h.int hlt;have hm:=qh (aV xs hlt);have ht:=qh (bE xs hlt);by_cases he:nth xs k=x
   ·subst he;go_wp2;go_ret;exact⟨bu (by simpa [jY] using hm.out),rfl⟩
   ·have he':(nth xs k==x)=false:=by simpa using he
    go_wp2;go_round
    case rel=>refine⟨k+1,nQ,by go_num,?_⟩;have:=hn.out;unfold Hid;rw[ht.out];simp[this,Ne.symm he]
    case measure=>simp[intOf];omega
  ·obtain rfl:k=xs.length:=by omega
   go_wp2;go_ret;refine⟨bu ?_,rfl⟩;have:=hn.out;simpa [jY] using this
theorem Ug(A:Option Addr)(c ln:Nat)(xs:List Int)(x:Int)(B:Nat)(w:nJ)(h:Sl aI B w A c xs)(hn:xs.length=ln):Calls nH 261 #[.slice A ln c,.int .i64 x] w fun e w'=>(∃n:Int,e=.returned (.int .i64 n)/\decide (0<=n)=jY xs x)/\w=w':=by
 subst hn;have hl:=h.len;go_enter Tryz.func261,Tryz.ntmps261;go_wp2;go_loop [8] (fun i=>∃k:Nat,k<=xs.length/\i=.int .i64 k/\Hid (x∉xs.take k)) (fun i=>xs.length-(intOf i).toNat)
 case atStart=>exact⟨0,nE _,rfl,by simp[Hid]⟩
 case round=>
  obtain⟨k,hk,rfl,hn⟩:=hrel;by_cases hlt:k<xs.length
  ·obtain⟨b',o,rfl,hb,OY⟩:=h.int hlt;have hm:=qh (aV xs hlt);have ht:=qh (bE xs hlt);by_cases he:nth xs k=x
   ·subst he;go_wp2;go_ret;exact⟨⟨k,rfl,by simpa [jY] using hm.out⟩,rfl⟩
   ·have he':(x==nth xs k)=false:=by simpa using Ne.symm he
    go_wp2;go_round
    case rel=>refine⟨k+1,nQ,by go_num,?_⟩;have:=hn.out;unfold Hid;rw[ht.out];simp[this,Ne.symm he]
    case measure=>simp[intOf];omega
  ·obtain rfl:k=xs.length:=by omega
   go_wp2;go_ret;refine⟨⟨-1,rfl,?_⟩,rfl⟩;have:=hn.out;rw[List.take_length] at this;rw[Gn.2 this];rfl
theorem rF(A:Option Addr)(c ln:Nat)(xs:List Int)(x:Int)(b:Bool)(hb:jY xs x=b)(B:Nat)(w:nJ)(h:Sl aI B w A c xs)(hn:xs.length=ln):Calls nH 234 #[.slice A ln c,.int .i64 x] w fun e w'=>e=.returned (.bool b)/\w=w':=by subst hb;go_enter Tryz.func234,Tryz.ntmps234;go_wp2_with (go_at_call 261;refine(Ug _ _ _ xs _ _ _ h hn).mono ?_;rintro e w1 ⟨⟨k,rfl,hk⟩,rfl⟩);go_ret;exact⟨bu nV,rfl⟩
end
section
open Me
theorem Fh(p:Pr)(h:Int)(bh bl:Nat)(A:Option Addr)(c:Nat)(l:List Int)(B:Nat)(w:nJ)(hS:Sl aI B w A c l)[hB:Le B w][i1:Lt bh w][i2:Lt bl w](c1:w.cell? ⟨bh,0,none⟩=some (.int .i64 h))(c2:w.cell? ⟨bl,0,none⟩=some (.slice A l.length c))(b:Bool)(hb:vn l h p=b):Calls nH 262 #[.agg #[.int .i64 p.a,.int .i64 p.b],.pointer (some ⟨bh,0,none⟩),.pointer (some ⟨bl,0,none⟩)] w fun e w'=>e=.returned (.bool (!b))/\∃δ,w'=af w δ:=by
 subst hb;by_cases h1:p.b=h
 ·have h1':(p.b==h)=true:=by simpa using h1
  have HE:=qh h1;clear h1;go_enter Tryz.func262,Tryz.ntmps262;go_wp2_with (go_at_call 234;refine(rF _ _ _ l _ _ rfl B _ hS.up rfl).mono ?_;rintro e w1 ⟨rfl,rfl⟩);go_ret;exact⟨bu (by simp[vn,HE.out]),ag⟩
 ·have h1':(p.b==h)=false:=by simpa using h1
  have HE:=qh h1;clear h1;go_enter Tryz.func262,Tryz.ntmps262;go_wp2_with fail;go_ret;exact⟨bu (by simp[vn,HE.out]),ag⟩
theorem I1(h:Int)(bh bl:Nat)(A:Option Addr)(c:Nat)(l:List Int)(pA:Option Addr)(pc ln:Nat)(ps:List Pr)(B:Nat)(w:nJ)(hS:Sl aI B w A c l)(hP:Sl dH B w pA pc ps)(jg:ps.length=ln)[hB:Le B w][i1:Lt bh w][i2:Lt bl w](c1:w.cell? ⟨bh,0,none⟩=some (.int .i64 h))(c2:w.cell? ⟨bl,0,none⟩=some (.slice A l.length c)):Calls nH 205 #[.slice pA ln pc,.func (.func 262) #[] #[.pointer (some ⟨bh,0,none⟩),.pointer (some ⟨bl,0,none⟩)]] w fun e w'=>(∃n:Int,e=.returned (.int .i64 n)/\decide (0<=n) = !PN ps l h)/\∃δ,w'=af w δ:=by
 subst jg;have hl:=hP.len;go_enter Tryz.func205,Tryz.ntmps205;go_wp2;go_loopw [8] (fun i wr=>∃(k:Nat) (δ:nJ),k<=ps.length/\i=.int .i64 k/\Hid ((ps.take k).all (vn l h)=true)/\wr=af w δ) (fun i _=>ps.length-(intOf i).toNat)
 case atStart=>exact⟨0,w,nE _,rfl,by simp[Hid],(bw w).symm⟩
 case round=>
  obtain⟨k,δ,hk,rfl,hn,rfl⟩:=hrel;by_cases hlt:k<ps.length
  ·obtain⟨b',o,rfl,hb,hc0,Af⟩:=hP.pr hlt;have hb':Lt b' w:=⟨nL hb hB.out⟩;have hm:=qh (aV ps hlt);have ht:=qh (bE ps hlt);by_cases he:vn l h (nth ps k)=true
   ·have HE:=qh he;clear he;go_wp2_with (go_at_call 262;refine(Fh (nth ps k) h bh bl A c l B _ hS.up nW nW _ HE.out).mono ?_;rintro e w1 ⟨rfl,δ1,rfl⟩);go_roundw
    case rel=>refine⟨k+1,_,nQ,by go_num,?_,aq⟩;refine QCV ?_;simp[HE.out]
    case measure=>simp[intOf];omega
   ·rw[Bool.not_eq_true] at he;have HE:=qh he;clear he;go_wp2_with (go_at_call 262;refine(Fh (nth ps k) h bh bl A c l B _ hS.up nW nW _ HE.out).mono ?_;rintro e w1 ⟨rfl,δ1,rfl⟩);go_ret;refine⟨⟨k,rfl,?_⟩,ag⟩;have:PN ps l h=false:=by rw[PN,List.all_eq_false];exact⟨_,hm.out,by simp[HE.out]⟩
    rw[this];simp
  ·obtain rfl:k=ps.length:=by omega
   go_wp2;go_ret;refine⟨⟨-1,rfl,?_⟩,ag⟩;have:=hn.out;rw[List.take_length] at this;rw[PN,this];rfl
theorem Lc(r:cw)(n:Net)(h:Int)(A:Option Addr)(c ln:Nat)(l:List Int)(b:Bool)(hb:PN n.ps l h=b)(B:Nat)(w:nJ)(hS:Sl aI B w A c l)(hN:bJ B w r n)(jg:l.length=ln)[hB:Le B w]:Calls nH 235 #[cI r n,.int .i64 h,.slice A ln c] w fun e w'=>e=.returned (.bool b)/\∃δ,w'=af w δ:=by subst jg hb;go_enter Tryz.func235,Tryz.ntmps235;go_wp2_with (first|(go_at_call 155;go_in)|(go_at_call 205;refine(I1 h _ _ A c l r.pA r.pc _ n.ps B _ hS.up hN.2.up rfl nW nW).mono ?_;rintro e w1 ⟨⟨k,rfl,hk⟩,δ,rfl⟩));go_ret;exact⟨bu nV,ag⟩
theorem PS(r:cw)(n:Net)(h:Int)(A:Option Addr)(c ln:Nat)(l:List Int)(b:Bool)(hb:may n l h=b)(B:Nat)(w:nJ)(hS:Sl aI B w A c l)(hN:bJ B w r n)(jg:l.length=ln)[hB:Le B w]:Calls nH 149 #[cI r n,.slice A ln c,.int .i64 h] w fun e w'=>e=.returned (.bool b)/\∃δ,w'=af w δ:=by
 subst jg hb;have hl:=hN.2.len;by_cases hi:jY l h=true
 ·go_enter Tryz.func149,Tryz.ntmps149;go_wp2_with (go_at_call 203;refine(Ly _ _ _ l _ B _ hS.up rfl).mono ?_;rintro e w1 ⟨rfl,rfl⟩);go_ret;exact⟨bu (by simp[may,hi]),ag⟩
 ·rw[Bool.not_eq_true] at hi;go_enter Tryz.func149,Tryz.ntmps149;go_wp2_with (go_at_call 203;refine(Ly _ _ _ l _ B _ hS.up rfl).mono ?_;rintro e w1 ⟨rfl,rfl⟩);go_loop [7] (fun i=>∃k:Nat,k<=n.ps.length/\i=.int .i64 k/\Hid ((n.ps.take k).all (vn l h)=true)) (fun i=>n.ps.length-(intOf i).toNat)
  case atStart=>exact⟨0,nE _,rfl,by simp[Hid]⟩
  case round=>
   obtain⟨k,hk,rfl,hn⟩:=hrel;by_cases hlt:k<n.ps.length
   ·obtain⟨b',o,hA,hb,hc0,Af⟩:=hN.2.pr hlt;have hb':Lt b' w:=⟨nL hb hB.out⟩;have hm:=qh (aV n.ps hlt);have ht:=qh (bE n.ps hlt);have HA:=qh hA;have hki:(k:Int)<(n.ps.length:Int):=nQ;have hk0:¬(k:Int)<0:=nQ;obtain⟨rA,rc,pA,pc⟩:=r;have hA:pA=some ⟨b',o,none⟩:=HA.out;subst hA;by_cases h1:(nth n.ps k).b=h
    ·have h1':((nth n.ps k).b==h)=true:=by simpa using h1
     by_cases h2:jY l (nth n.ps k).a=true
     ·have HP:=qh (show vn l h (nth n.ps k)=true by simp[vn,h2]);clear h1;go_wp2_with (go_at_call 203;refine(Ly _ _ _ l _ B _ hS.up rfl).mono ?_;rintro e w1 ⟨rfl,rfl⟩);go_round
      case rel=>refine⟨k+1,nQ,by go_num,?_⟩;refine QCV ?_;simp[HP.out]
      case measure=>simp[intOf];omega
     ·rw[Bool.not_eq_true] at h2;have HP:=qh (show vn l h (nth n.ps k)=false by simp[vn,h2,h1]);clear h1;go_wp2_with (go_at_call 203;refine(Ly _ _ _ l _ B _ hS.up rfl).mono ?_;rintro e w1 ⟨rfl,rfl⟩);go_ret;refine⟨bu ?_,ag⟩;have:PN n.ps l h=false:=by rw[PN,List.all_eq_false];exact⟨_,hm.out,by simp[HP.out]⟩
      simp[may,this]
    ·have h1':((nth n.ps k).b==h)=false:=by simpa using h1
     have HP:=qh (show vn l h (nth n.ps k)=true by simp[vn,h1]);clear h1;go_wp2_with fail;go_round
     case rel=>refine⟨k+1,nQ,by go_num,?_⟩;refine QCV ?_;simp[HP.out]
     case measure=>simp[intOf];omega
   ·obtain rfl:k=n.ps.length:=by omega
    go_wp2;go_ret;refine⟨bu ?_,ag⟩;have:=hn.out;rw[List.take_length] at this;simp[may,PN,this,hi]
theorem qp(r:cw)(n:Net)(x:Int)(b:Bool)(hb:fH 0 ((n.hs.length:Int)-1) x=b)(B:Nat)(w:nJ)(hN:bJ B w r n)[hB:Le B w]:Calls nH 79 #[cI r n,.int .i64 x] w fun e w'=>e=.returned (.bool b)/\∃δ,w'=af w δ:=by subst hb;have hl:=hN.1.len;go_enter Tryz.func79,Tryz.ntmps79;go_wp2_with (go_at_call 78;refine(qi _ _ _ _).mono ?_;rintro e w1 ⟨rfl,rfl⟩);go_ret;exact⟨rfl,ag⟩
end
section
open Me
theorem No(r:cw)(n:Net)(x:Int)(bx:Nat)(w:nJ)[i1:Lt bx w](hl:n.hs.length<=9223372036854775807)(hc:w.cell? ⟨bx,1,none⟩=some (.slice r.hA n.hs.length r.hc)):Calls nH 151 #[.int .i64 x,.pointer (some ⟨bx,0,none⟩)] w fun e w'=>e=.returned (.bool (fH 0 ((n.hs.length:Int)-1) x))/\w=w':=by go_enter Tryz.func151,Tryz.ntmps151;go_wp2_with (go_at_call 152;refine(wD _ _ _ _).mono ?_;rintro e w1 ⟨rfl,rfl⟩);go_ret;exact⟨rfl,rfl⟩
theorem Cq(x:kE)(w:nJ):Calls nH 154 #[.agg #[.int .i64 x.fr,.int .i64 x.lo,.int .i64 x.hi,.int .i64 x.hr]] w fun e w'=>e=.returned (.bool (!oK x))/\∃δ,w'=af w δ:=by go_enter Tryz.func154,Tryz.ntmps154;go_wp2_with (go_at_call 152;refine(wD _ _ _ _).mono ?_;rintro e w1 ⟨rfl,rfl⟩);all_goals go_ret;exact⟨bu (by rw[Bool.eq_iff_iff];simp[fH,oK] at *;omega),ag⟩
theorem Cp(r:cw)(n:Net)(p:Pr)(bx bf:Nat)(w:nJ)[i1:Lt bx w][i2:Lt bf w](hl:n.hs.length<=9223372036854775807)(hc:w.cell? ⟨bx,1,none⟩=some (.slice r.hA n.hs.length r.hc))(hf:w.cell? ⟨bf,0,none⟩=some (.func (.func 151) #[] #[.pointer (some ⟨bx,0,none⟩)])):Calls nH 156 #[.agg #[.int .i64 p.a,.int .i64 p.b],.pointer (some ⟨bf,0,none⟩)] w fun e w'=>e=.returned (.bool (!Bq n.hs.length p))/\∃δ,w'=af w δ:=by go_enter Tryz.func156,Tryz.ntmps156;go_wp2_with (go_at_call 151;refine(No r n _ bx _ hl nW).mono ?_;rintro e w1 ⟨rfl,rfl⟩);all_goals go_ret;exact⟨bu (by rw[Bool.eq_iff_iff];simp[fH,Bq] at *;omega),ag⟩
theorem DL(A:Option Addr)(ln c:Nat)(xs:List kE)(B:Nat)(w:nJ)(h:Sl bB B w A c xs)(hn:xs.length=ln)[hB:Le B w]:Calls nH 204 #[.slice A ln c,.func (.func 154) #[] #[]] w fun e w'=>(∃n:Int,e=.returned (.int .i64 n)/\decide (0<=n) = !fc xs)/\∃δ,w'=af w δ:=by
 subst hn;have hl:=h.len;go_enter Tryz.func204,Tryz.ntmps204;go_wp2;go_loopw [8] (fun i wr=>∃(k:Nat) (δ:nJ),k<=xs.length/\i=.int .i64 k/\Hid ((xs.take k).all oK=true)/\wr=af w δ) (fun i _=>xs.length-(intOf i).toNat)
 case atStart=>exact⟨0,w,nE _,rfl,by simp[Hid],(bw w).symm⟩
 case round=>
  obtain⟨k,δ,hk,rfl,hn,rfl⟩:=hrel;by_cases hlt:k<xs.length
  ·obtain⟨b',o,rfl,hb,hc0,Af,LX,Rf⟩:=h.hole hlt;refine QDI ?_;intro hb' hm ht;by_cases he:oK (nth xs k)=true
   ·go_wp2_with (go_at_call 154;refine(Cq (nth xs k) _).mono ?_;rintro e w1 ⟨rfl,δ1,rfl⟩);go_roundw
    case rel=>refine⟨k+1,_,nQ,by go_num,?_,aq⟩;refine QCV ?_;simp[he]
    case measure=>simp[intOf];omega
   ·rw[Bool.not_eq_true] at he;go_wp2_with (go_at_call 154;refine(Cq (nth xs k) _).mono ?_;rintro e w1 ⟨rfl,δ1,rfl⟩);go_ret;refine⟨⟨k,rfl,?_⟩,ag⟩;have:fc xs=false:=by rw[fc,List.all_eq_false];exact⟨_,hm.out,by simp[he]⟩
    rw[this];simp
  ·obtain rfl:k=xs.length:=by omega
   go_wp2;go_ret;refine⟨⟨-1,rfl,?_⟩,ag⟩;have:=hn.out;rw[List.take_length] at this;rw[fc,this];rfl
theorem JV(r:cw)(n:Net)(bx bf:Nat)(A:Option Addr)(ln c:Nat)(xs:List Pr)(B:Nat)(w:nJ)(h:Sl dH B w A c xs)(hn:xs.length=ln)[hB:Le B w][i1:Lt bx w][i2:Lt bf w](hl':n.hs.length<=9223372036854775807)(hc:w.cell? ⟨bx,1,none⟩=some (.slice r.hA n.hs.length r.hc))(hf:w.cell? ⟨bf,0,none⟩=some (.func (.func 151) #[] #[.pointer (some ⟨bx,0,none⟩)])):Calls nH 205 #[.slice A ln c,.func (.func 156) #[] #[.pointer (some ⟨bf,0,none⟩)]] w fun e w'=>(∃k:Int,e=.returned (.int .i64 k)/\decide (0<=k) = !oH n.hs.length xs)/\∃δ,w'=af w δ:=by
 subst hn;have hl:=h.len;go_enter Tryz.func205,Tryz.ntmps205;go_wp2;go_loopw [8] (fun i wr=>∃(k:Nat) (δ:nJ),k<=xs.length/\i=.int .i64 k/\Hid ((xs.take k).all (Bq n.hs.length)=true)/\wr=af w δ) (fun i _=>xs.length-(intOf i).toNat)
 case atStart=>exact⟨0,w,nE _,rfl,by simp[Hid],(bw w).symm⟩
 case round=>
  obtain⟨k,δ,hk,rfl,hn,rfl⟩:=hrel;by_cases hlt:k<xs.length
  ·obtain⟨b',o,rfl,hb,hc0,Af⟩:=h.pr hlt;refine QDI ?_;intro hb' hm ht;by_cases he:Bq n.hs.length (nth xs k)=true
   ·go_wp2_with (go_at_call 156;refine(Cp r n (nth xs k) bx bf _ hl' nW nW).mono ?_;rintro e w1 ⟨rfl,δ1,rfl⟩);go_roundw
    case rel=>refine⟨k+1,_,nQ,by go_num,?_,aq⟩;refine QCV ?_;simp[he]
    case measure=>simp[intOf];omega
   ·rw[Bool.not_eq_true] at he;go_wp2_with (go_at_call 156;refine(Cp r n (nth xs k) bx bf _ hl' nW nW).mono ?_;rintro e w1 ⟨rfl,δ1,rfl⟩);go_ret;refine⟨⟨k,rfl,?_⟩,ag⟩;have:oH n.hs.length xs=false:=by rw[oH,List.all_eq_false];exact⟨_,hm.out,by simp[he]⟩
    rw[this];simp
  ·obtain rfl:k=xs.length:=by omega
   go_wp2;go_ret;refine⟨⟨-1,rfl,?_⟩,ag⟩;have:=hn.out;rw[List.take_length] at this;rw[oH,this];rfl
end
namespace Me
theorem UX{ps:List Pr}{out:List Int}{h b M:Int}(k:Nat):kB ps out h b k<=M↔b<=M/\∀j,j<k->(nth ps j).b=h->nth out (nth ps j).a.toNat<=M:=by
 induction k with
 |zero=>exact⟨fun hb=>⟨hb,fun j hj=>by omega⟩,fun hb=>hb.1⟩
 |succ k ih=>
  unfold kB
  by_cases hk:(nth ps k).b=h
  ·rw[if_pos hk,Int.max_le,ih];constructor
   ·rintro⟨⟨h1,h2⟩,h3⟩;refine⟨h1,fun j hj hb=>?_⟩;by_cases e:j=k
    ·subst e;exact h3
    ·exact h2 j nQ hb
   ·rintro⟨h1,h2⟩;exact⟨⟨h1,fun j hj=>h2 j nQ⟩,h2 k nQ hk⟩
  ·rw[if_neg hk,ih];refine and_congr_right fun _=>⟨fun h2 j hj hb=>?_,fun h2 j hj=>h2 j nQ⟩;by_cases e:j=k
   ·subst e;exact absurd hb hk
   ·exact h2 j nQ hb
theorem Nl{n:Net}{s:List Int × List Int}{h:Int}:nth s.1 (own s.1)+(nth n.hs h.toNat).hr<=iP n s h/\(nth n.hs h.toNat).fr+(nth n.hs h.toNat).hr<=iP n s h:=by have:=((UX (ps:=n.ps) (out:=s.2) (h:=h) (b:=max (nth s.1 (own s.1)) (nth n.hs h.toNat).fr) n.ps.length).1 (Int.le_refl _)).1;unfold iP;omega
theorem tL{n:Net}{j:Nat}(hj:j<n.hs.length):nth (kK n) j=(nth n.hs j).hi:=by unfold kK nth List.getD;rw[List.getElem?_map,List.getElem?_eq_getElem hj];rfl
theorem FK{n:Net}{j:Nat}(hj:j<n.hs.length):nth (DD n) j=(nth n.hs j).lo:=by unfold DD nth List.getD;rw[List.getElem?_map,List.getElem?_eq_getElem hj];rfl
end Me
namespace Me
theorem J9{n:Net}{pre l:List Int}(h:goes n pre l=true):l.Nodup/\∀x∈l,x∉pre:=by
 induction l generalizing pre with
 |nil=>exact⟨List.nodup_nil,fun x hx=>by cases hx⟩
 |cons y l ih=>
  unfold goes at h
  rw[Bool.and_eq_true,Bool.and_eq_true] at h
  obtain⟨i1,i2⟩:=ih h.2
  have hy:=(T0.1 h.1.2).1
  refine⟨List.nodup_cons.2 ⟨fun hm=>i2 y hm nV,i1⟩,fun x hx hp=>?_⟩
  rcases List.mem_cons.1 hx with rfl|hx
  ·exact hy hp
  ·exact i2 x hx (by simp[hp])
theorem Qa{n:Net}{l:List Int}(h:fP n l=true):goes n [] l=true:=by unfold fP at h;rw[Bool.and_eq_true] at h;exact h.2
theorem Cj{n:Net}{l:List Int}(h:fP n l=true):l.Nodup:=(J9 (Qa h)).1
theorem K9:∀(l1 l2:List Int),l1.Nodup->(∀x∈l1,x∈l2)->l1.length<=l2.length
 |[],_,_,_=>nE _
 |a::l1,l2,hn,hs=>by
  rw[List.nodup_cons] at hn;have ha:=hs a nV;have:=K9 l1 (l2.erase a) hn.2 (fun x hx=>by
   rw[List.mem_erase_of_ne (by rintro rfl;exact hn.1 hx)]
   exact hs x (by simp[hx]))
  rw[List.length_erase_of_mem ha] at this;have:0<l2.length:=List.length_pos_of_mem ha;simp;omega
def Dy(k:Nat):List Int:=(List.range k).map fun(i:Nat)=>(i:Int)
theorem Qx{k:Nat}{x:Int}:x∈Dy k↔0<=x/\x<k:=by
 unfold Dy;rw[List.mem_map];constructor
 ·rintro⟨i,hi,rfl⟩;rw[List.mem_range] at hi;omega
 ·intro h;exact⟨x.toNat,by rw[List.mem_range];omega,nQ⟩
theorem oM(k:Nat):(Dy k).length=k:=by simp[Dy]
theorem Yi{l:List Int}{k:Nat}(hn:l.Nodup)(hh:∀x∈l,0<=x/\x<k)(hl:l.length=k){x:Int}(hx:0<=x/\x<k):x∈l:=by
 rcases Classical.em (x∈l) with h|h
 ·exact h
 ·have:=K9 (x::l) (Dy k) (List.nodup_cons.2 ⟨h,hn⟩) (fun y hy=>by
   rw[Qx]
   rcases List.mem_cons.1 hy with rfl|hy
   ·exact hx
   ·exact hh y hy)
  rw[oM] at this;simp at this;omega
theorem yF{n:Net}{l:List Int}(h:fP n l=true){x:Int}:x∈l↔isHole n x:=
 ⟨fun hx=>oa h x hx,fun hx=>Yi (Cj h) (oa h) (jB h) hx⟩
structure Plain(n:Net):Prop where
 m:n.m=1
 ps:n.ps=[]
 fr:∀h∈n.hs,h.fr=0
 ok:fc n.hs=true
end Me
namespace Me
def Er(d:Nat)(x:Int):Int:=if (d:Int)<x then x-1 else x
def cut(n:Net)(d:Nat):Net:=⟨n.m,n.hs.take d++n.hs.drop (d+1),n.ps.map fun p=>⟨Er d p.a,Er d p.b⟩⟩
theorem IY{n:Net}(hv:fc n.hs=true)(l:List Int)(hl:xk n l)(hn:l.Nodup):∀x∈l,(nth n.hs x.toNat).fr+(nth n.hs x.toNat).hr<=nth (run n l).2 x.toNat:=by
 refine Dj (fun l s=>∀x∈l,(nth n.hs x.toNat).fr+(nth n.hs x.toNat).hr<=nth s.2 x.toNat) l (fun x hx=>by cases hx) ?_;rintro pre y hp ih x hx;have hy:isHole n y:=hl y (hp.subset nV);show _<=nth (List.set _ _ _) _;by_cases hxy:x=y
 ·subst hxy;rw[qX _ (by rw[(qm n pre).2];have:=hy.1;have:=hy.2;omega)];exact Nl.2
 ·have hxp:x∈pre:=by
   rcases List.mem_append.1 hx with h|h
   ·exact h
   ·exact absurd (by simpa using h) hxy
  have hxh:isHole n x:=hl x (hp.subset (by simp[hxp]));rw[zF _ (by have:=hy.1;have:=hxh.1;omega)];exact ih x hxp
theorem Dc{n:Net}(hv:fc n.hs=true){l:List Int}(h:fP n l=true){j:Nat}(hj:j<n.hs.length):(nth n.hs j).fr+(nth n.hs j).hr<=nth (times n l) j:=by have:=IY hv l (oa h) (Cj h) (j:Int) ((yF h).2 ⟨nQ,nQ⟩);simpa [times] using this
theorem LA{ts:List Int}(k:Nat):0<=pY ts k/\∀j,j<k->nth ts j<=pY ts k:=by
 induction k with
 |zero=>exact⟨Int.le_refl _,fun j hj=>by omega⟩
 |succ k ih=>
  obtain⟨i1,i2⟩:=ih
  unfold pY
  refine⟨nQ,fun j hj=>?_⟩
  by_cases e:j=k
  ·subst e;omega
  ·have:=i2 j nQ;omega
theorem FU{ts:List Int}{M:Int}(k:Nat):pY ts k<=M↔0<=M/\∀j,j<k->nth ts j<=M:=by
 constructor
 ·intro h;obtain⟨a,b⟩:=LA (ts:=ts) k;exact⟨nQ,fun j hj=>by have:=b j hj;omega⟩
 ·rintro⟨h0,h⟩;induction k with
  |zero=>exact h0
  |succ k ih=>unfold pY;have:=ih (fun j hj=>h j nQ);have:=h k nQ;omega
theorem QC{n:Net}(hv:fc n.hs=true){ts rt:List Int}{M:Int}(ht:kO M ts)(hr:kO 20 rt)(k:Nat)(hk:k<=n.hs.length)(hM:20<=M):-(20*M*k)<=jX n.hs ts rt k/\jX n.hs ts rt k<=20*M*k:=by
 induction k with
 |zero=>simp[jX]
 |succ k ih=>
  obtain⟨i1,i2⟩:=ih nQ
  have a:=ht k
  have b:=hr k
  have c:=ic.1 (jl hv (k:=k) nQ)
  unfold jX
  have d:nth rt k*(nth ts k-(nth n.hs k).fr)<=20*M:=by have e1:=Int.mul_le_mul_of_nonneg_left (show nth ts k-(nth n.hs k).fr<=M by omega) b.1;have e2:=Int.mul_le_mul_of_nonneg_right b.2 (show 0<=M by omega);omega
  have d2:-(20*M)<=nth rt k*(nth ts k-(nth n.hs k).fr):=by have e1:=Int.mul_le_mul_of_nonneg_left (show -M<=nth ts k-(nth n.hs k).fr by omega) b.1;have e2:=Int.mul_le_mul_of_nonneg_right b.2 (show 0<=M by omega);rw[Int.mul_neg] at e1;omega
  have e:(20*M*((k+1:Nat):Int))=20*M*k+20*M:=by rw[Int.natCast_add,Int.mul_add];simp
  omega
end Me
section
open Me
theorem bH.aF{S:Nat->Prop}{A B:nJ}{B0:Nat}{r:cw}{n:Net}(h:bH S A B)(hN:bJ B0 A r n)(hB:B0<=A.heap.size)(hs:∀b,S b->B0<=b):bJ B0 B r n:=⟨h.Tj hN.1 hB hs,h.Tj hN.2 hB hs⟩
def tU(S:Nat->Prop)(L:List (List Int))(pre:List (List Int))(J Jx:List (List Int)->nJ->Prop)(W:nJ)(b:Bool)(W':nJ):Prop:=
 bH S W W'/\(b=true->J (pre++L) W')/\(b=false->∃q,q <+: L/\q≠[]/\Jx (pre++q) W')
def yO(P:Program)(lo:Nat)(S:Nat->Prop)(L:List (List Int))(l:Nat)(J Jx:List (List Int)->nJ->Prop):Prop:=
 ∀(m:Nat) (pre:List (List Int)) (x:List Int) (v:nK) (W:nJ),pre++[x] <+: L->J pre W->Hx lo v x W ->
  YieldAt Fence.wide m P l #[v] W fun e W'=>∃b,e=.returned (.bool b)/\tU S [x] pre J Jx W b W'
structure Env(B bp by_ bm l:Nat)(r:cw)(n:Net)(W:nJ):Prop where
 aF:bJ B W r n
 le:B<=W.heap.size
 p0:W.cell? ⟨bp,0,none⟩=some (.int .i64 n.m)
 p1:W.cell? ⟨bp,1,none⟩=some (.slice r.hA n.hs.length r.hc)
 p2:W.cell? ⟨bp,2,none⟩=some (.slice r.pA n.ps.length r.pc)
 y:W.cell? ⟨by_,0,none⟩=some (.func (.yield l) #[] #[])
 m:W.cell? ⟨bm,0,none⟩=some (.func (.func 233) #[] #[.pointer (some ⟨bp,0,none⟩),.pointer (some ⟨by_,0,none⟩),.pointer (some ⟨bm,0,none⟩)])
 lp:bp<W.heap.size
 ly:by_<W.heap.size
 lm:bm<W.heap.size
theorem Env.eM{S:Nat->Prop}{B bp by_ bm l:Nat}{r:cw}{n:Net}{W W':nJ}(h:Env B bp by_ bm l r n W)(k:bH S W W')(hs:∀b,S b->B<=b/\b≠bp/\b≠by_/\b≠bm):Env B bp by_ bm l r n W':=
 ⟨k.aF h.aF h.le (fun b hb=>(hs b hb).1),nT h.le k.size,(k.cell h.lp (fun hc=>(hs _ hc).2.1 rfl)).trans h.p0,(k.cell h.lp (fun hc=>(hs _ hc).2.1 rfl)).trans h.p1,(k.cell h.lp (fun hc=>(hs _ hc).2.1 rfl)).trans h.p2,
  (k.cell h.ly (fun hc=>(hs _ hc).2.2.1 rfl)).trans h.y,(k.cell h.lm (fun hc=>(hs _ hc).2.2.2 rfl)).trans h.m,nL h.lp k.size,nL h.ly k.size,nL h.lm k.size⟩
section
attribute[local go_sem] Oper.semAt_some
theorem TS(n:Net)(r:cw)(B bp by_ bm lo:Nat)(S:Nat->Prop)(L:List (List Int))(lp:Nat)(J Jx:List (List Int)->nJ->Prop)(hY:yO nH lo S L lp J Jx)(l:List Int)(v:nK)(pre:List (List Int))(W:nJ)(hE:Env B bp by_ bm lp r n W)(hl:Hx lo v l W)(hn:l.length=n.hs.length)(hL:pre++aC n 0 l <+: L)(hJ:J pre W):Calls nH 233 #[v,.pointer (some ⟨bp,0,none⟩),.pointer (some ⟨by_,0,none⟩),.pointer (some ⟨bm,0,none⟩)] W fun e W'=>∃b,e=.returned (.bool b)/\tU S (aC n 0 l) pre J Jx W b W':=by
 refine(callsIn_wide (n:=3)).1 ?_;obtain⟨fn,tmps,assign,body,hy,hR⟩:=hY 2 pre l v W hL hJ hl;obtain⟨A,c,rfl,hS,hlo⟩:=hl;have e1:=hE.p1;have e2:=hE.y;have h0:((l.length:Int)==(n.hs.length:Int))=true:=by simp[hn]
 have Ut:=hS.len;clear hn;refine callsIn_of_wp Tryz.func233 rfl trivial ?_ rfl;simp only[Tryz.ntmps233,List.size_toArray,List.length_cons,List.length_nil,Nat.reduceAdd,Nat.reduceSub,Array.replicate_succ,Array.replicate_zero,List.push_toArray,List.append_toArray,List.nil_append,List.cons_append];gi_wp2_with (refine hR.mono ?_;clear hR;rintro e W2 ⟨b,rfl,hP⟩);go_ret;exact⟨b,rfl,hP⟩
end
def pW(n:Net)(k:Nat)(l:List Int)(i:Nat):List (List Int):=(List.range i).flatMap fun(i:Nat)=>if may n l (i:Int)=true then aC n k (l++[(i:Int)]) else[]
theorem FA(n:Net)(k:Nat)(l:List Int)(i:Nat):pW n k l (i+1)=pW n k l i++if may n l (i:Int)=true then aC n k (l++[(i:Int)]) else[]:=by unfold pW;rw[List.range_succ,List.flatMap_append];simp
theorem Jr(n:Net)(k:Nat)(l:List Int){i:Nat}(h:i<=n.hs.length):pW n k l i <+: aC n (k+1) l:=by obtain⟨m,hm⟩:∃m,n.hs.length=i+m:=⟨n.hs.length-i,nQ⟩;unfold aC pW;rw[hm,List.range_add,List.flatMap_append];exact List.prefix_append _ _
theorem TU(n:Net)(r:cw)(B bp by_ bm lo:Nat)(S:Nat->Prop)(hS:∀b,S b->B<=b/\b≠bp/\b≠by_/\b≠bm/\b<lo)(L:List (List Int))(lp:Nat)(J Jx:List (List Int)->nJ->Prop)(J7:CX J)(xp:CX Jx)(hY:yO nH lo S L lp J Jx)(h6:n.hs.length<=6):∀(k:Nat) (l:List Int) (v:nK) (pre:List (List Int)) (W:nJ),Env B bp by_ bm lp r n W->lo<=W.heap.size->Hx lo v l W->l.length+k=n.hs.length->pre++aC n k l <+: L->J pre W->Calls nH 233 #[v,.pointer (some ⟨bp,0,none⟩),.pointer (some ⟨by_,0,none⟩),.pointer (some ⟨bm,0,none⟩)] W fun e W'=>∃b,e=.returned (.bool b)/\tU S (aC n k l) pre J Jx W b W':=by
 intro k;induction k with
 |zero=>intro l v pre W hE _ hl hn hL hJ;exact TS n r B bp by_ bm lo S L lp J Jx hY l v pre W hE hl (by simpa using hn) hL hJ
 |succ k IH=>
  intro l v pre W hE acn hl hn hL hJ
  obtain⟨A,c,rfl,Ik,hlo⟩:=hl
  have e1:=hE.p1
  have h0:((l.length:Int)==(n.hs.length:Int))=false:=by simp;omega
  have Ut:=Ik.len
  have hkc:l.length<=c:=Ik.1
  have Vk:=qh IH
  have HE:=qh hE
  have HS:=qh hS
  have HJ:=qh J7
  have HL:=qh hL
  have HLo:=qh hlo
  have VU:=qh Ik
  have HN:=qh hn
  have HJ0:=qh hJ
  clear IH hE hS J7 hL hlo Ik hn hJ hY
  go_enter Tryz.func233,Tryz.ntmps233
  go_wp2_with fail
  go_loopw [21] (fun i wr=>∃j:Nat,j<=n.hs.length/\i=.int .i64 j/\Hid (J (pre++pW n k l j) wr)/\bH S W wr) (fun i _=>n.hs.length-(intOf i).toNat)
  case atStart=>exact⟨0,nE _,rfl,by unfold Hid pW;simpa using HJ0.out,bH.refl _ _⟩
  case round=>
   obtain⟨j,hj,rfl,hJr,hK⟩:=hrel;have E1:=HE.out.eM hK (fun b hb=>⟨(HS.out b hb).1,(HS.out b hb).2.1,(HS.out b hb).2.2.1,(HS.out b hb).2.2.2.1⟩);have p0:=E1.p0;have p1:=E1.p1;have p2:=E1.p2;have pm:=E1.m;have i1:Lt bp wr:=⟨E1.lp⟩;have i2:Lt bm wr:=⟨E1.lm⟩;have i3:Le B wr:=⟨E1.le⟩;have i4:Lt by_ wr:=⟨E1.ly⟩;have S1:Sl aI wr.heap.size wr A c l:=(hK.sl VU.out (nR _) (fun p hp hc=>by have:=(HS.out _ hc).2.2.2.2;have:=HLo.out p hp;omega)).more hK.size;have YA:=qh E1;clear E1;by_cases hlt:j<n.hs.length
   ·have Gv:=qh (FA n k l j);have hpre:=qh (Jr n k l hlt);by_cases h1:jY l (j:Int)=true
    ·have HM:=qh (show may n l (j:Int)=false by unfold may;rw[h1];rfl);have HI:=qh h1;clear h1;go_wp2_with (go_at_call 234;refine(rF _ _ _ l _ _ HI.out wr.heap.size _ S1 rfl).mono ?_;rintro e w1 ⟨rfl,rfl⟩);go_roundw
     case rel=>refine⟨j+1,hlt,by go_num,?_,hK⟩;unfold Hid;rw[Gv.out,HM.out];simpa using hJr.out
     case measure=>simp[intOf];omega
    ·rw[Bool.not_eq_true] at h1;have HI:=qh h1;by_cases h2:PN n.ps l (j:Int)=true
     ·have HM:=qh (show may n l (j:Int)=true by unfold may;rw[h1,h2];rfl);have HR:=qh h2;clear h1 h2;have hcI:(l.length:Int)<=(c:Int):=nQ;have hl0:(0:Int)<=(l.length:Int):=nQ;have OX:l.length<=6:=by have:=HN.out;omega
      have ZO:lo<=wr.heap.size:=nT acn hK.size;have ZE:Hid ((pre++pW n k l j)++aC n k (l++[(j:Int)]) <+: L):=by refine List.IsPrefix.trans ?_ HL.out;rw[List.append_assoc];refine(List.prefix_append_right_inj _).2 ?_;have:=Gv.out;rw[HM.out,if_pos rfl] at this;rw[<-this];exact hpre.out
      go_wp2_with (first|(go_at_call 234;refine(rF _ _ _ l _ _ HI.out wr.heap.size _ S1 rfl).mono ?_;rintro e w1 ⟨rfl,rfl⟩)|(go_at_call 235;refine(Lc r n _ _ _ _ l _ HR.out wr.heap.size _ S1 (YA.out.aF.more YA.out.le) rfl).mono ?_;rintro e w1 ⟨rfl,δ,rfl⟩));go_goals
      go_region_held3 (fun W=>W.cell? ⟨bm,0,none⟩=some (.func (.func 233) #[] #[.pointer (some ⟨bp,0,none⟩),.pointer (some ⟨by_,0,none⟩),.pointer (some ⟨bm,0,none⟩)]))
       (go_simp)
       (first|(refine fO wo (.tmp 40) (.tmp 42) rfl rfl A l.length (l.flatMap aI) rfl S1.Vt (vG l) (Sl.holds S1.up) _ 1 1 [.int .i64 (j:Int)] rfl nQ rfl (Rd nW) (by simp[Value.oneCell']) nQ nQ ?_;intro A1 c1 δ1 eF)|(go_at_call 233;refine(Vk.out (l++[(j:Int)]) _ (pre++pW n k l j) _ (YA.out.eM (S:=fun _=>False) (bH.dK fk) (fun _ h=>h.elim)) (nT ZO (vH _ _)) (Ns eF (nT ZO (vH _ _))) (by have:=HN.out;simp;omega) ZE.out (HJ.out _ _ _ hJr.out fk)).mono ?_;rintro e w1 ⟨b,rfl,hP⟩;have hbm:w1.cell? ⟨bm,0,none⟩=some (.func (.func 233) #[] #[.pointer (some ⟨bp,0,none⟩),.pointer (some ⟨by_,0,none⟩),.pointer (some ⟨bm,0,none⟩)]):=(hP.1.cell (b:=bm) (o:=0) nW (fun hc=>(HS.out bm hc).2.2.2.1 rfl)).trans nW))
      cases b
      ·go_wp2_with fail;go_ret;obtain⟨q,hq,Up,hx⟩:=hP.2.2 rfl;refine⟨false,rfl,hK.trans ((bH.dK (A:=wr) fk).trans hP.1),(fun h=>by cases h),fun _=>⟨pW n k l j++q,?_,by simp[Up],by rw[<-List.append_assoc];exact hx⟩⟩;refine List.IsPrefix.trans ?_ hpre.out;rw[Gv.out,HM.out,if_pos rfl];exact(List.prefix_append_right_inj _).2 hq
      ·go_wp2_with fail;go_roundw
       case rel=>refine⟨j+1,hlt,by go_num,?_,hK.trans ((bH.dK (A:=wr) fk).trans hP.1)⟩;unfold Hid;rw[Gv.out,HM.out,if_pos rfl,<-List.append_assoc];exact hP.2.1 rfl
       case measure=>simp[intOf];omega
     ·rw[Bool.not_eq_true] at h2;have HM:=qh (show may n l (j:Int)=false by unfold may;rw[h2];simp);have HR:=qh h2;clear h1 h2;go_wp2_with (first|(go_at_call 234;refine(rF _ _ _ l _ _ HI.out wr.heap.size _ S1 rfl).mono ?_;rintro e w1 ⟨rfl,rfl⟩)|(go_at_call 235;refine(Lc r n _ _ _ _ l _ HR.out wr.heap.size _ S1 (YA.out.aF.more YA.out.le) rfl).mono ?_;rintro e w1 ⟨rfl,δ,rfl⟩));go_roundw
      case rel=>refine⟨j+1,hlt,by go_num,?_,hK.trans (bH.af _ _ _)⟩;unfold Hid;rw[Gv.out,HM.out];simpa using HJ.out _ _ _ hJr.out (eS _ _)
      case measure=>simp[intOf];omega
   ·obtain rfl:j=n.hs.length:=by omega
    go_wp2_with fail;go_ret;refine⟨true,rfl,hK,fun _=>hJr.out,fun h=>by cases h⟩
end
section
open Me
open Go.Shelf
theorem MT(n:Net)(r:cw)(B bp:Nat)(S:Nat->Prop)(L:List (List Int))(lp:Nat)(J Jx:List (List Int)->nJ->Prop)(J7:CX J)(xp:CX Jx)(W:nJ)(hY:yO nH W.heap.size S L lp J Jx)(hS:∀b,S b->B<=b/\b≠bp/\b<W.heap.size)(h6:n.hs.length<=6)(hN:bJ B W r n)(hB:B<=W.heap.size)(Be:bp<W.heap.size)(c0:W.cell? ⟨bp,0,none⟩=some (.int .i64 n.m))(c1:W.cell? ⟨bp,1,none⟩=some (.slice r.hA n.hs.length r.hc))(c2:W.cell? ⟨bp,2,none⟩=some (.slice r.pA n.ps.length r.pc))(hL:gN n <+: L)(hJ:J [] W):Calls nH 232 #[.func (.yield lp) #[] #[],.pointer (some ⟨bp,0,none⟩)] W fun e W'=>∃v b,e=.returned v/\tU S (gN n) [] J Jx W b W':=by
 have i1:Lt bp W:=⟨Be⟩;have HN:=qh hN;have HS:=qh hS;have HL:=qh hL;have HJ:=qh hJ;have HY:=qh hY;have KT:=qh J7;have SH:=qh xp;have i2:Le B W:=⟨hB⟩;clear hN hS hL hJ hY J7 xp;go_enter Tryz.func232,Tryz.ntmps232;go_wp2_with fail;refine(TU n r B bp W.heap.size (W.heap.size+1) W.heap.size S (fun b hb=>⟨(HS.out b hb).1,(HS.out b hb).2.1,by have:=(HS.out b hb).2.2;omega,by have:=(HS.out b hb).2.2;omega,(HS.out b hb).2.2⟩) L lp J Jx KT.out SH.out HY.out h6 n.hs.length [] _ [] _ ?e ?lo ⟨none,0,rfl,Sl.none_,fun p hp=>by cases hp⟩ nV (show[]++aC n n.hs.length [] <+: L from HL.out) ?j).mono ?post;case e=>exact⟨HN.out.up,vH _ _,nW,nW,nW,nW,nW,nW,nW,nW⟩
 case lo=>exact vH _ _
 case j=>exact KT.out _ _ _ HJ.out fk
 case post=>rintro e W' ⟨b,rfl,hP⟩;go_wp2_with fail;go_end0;exact⟨_,b,rfl,(bH.dK (A:=W) fk).trans hP.1,hP.2.1,hP.2.2⟩
theorem FB(n:Net)(r:cw)(w:nJ):Calls nH 184 #[cI r n] w fun e w'=>e=.returned (.func (.func 232) #[] #[.pointer (some ⟨w.heap.size,0,none⟩)])/\w'=w.alloc (.cells #[.int .i64 n.m,.slice r.hA n.hs.length r.hc,.slice r.pA n.ps.length r.pc] 204):=by go_enter Tryz.func184,Tryz.ntmps184;go_wp2_with fail;go_ret;exact⟨rfl,rfl⟩
theorem KX(n:Net)(r:cw)(B bp:Nat){g:Operand}{p:Tmp}{assign body:Code}{Q:Exit->Act->nJ->Prop}{a:Act}{w:nJ}(hg:a.eval g=.func (.func 232) #[] #[.pointer (some ⟨bp,0,none⟩)])(h6:n.hs.length<=6)(hN:bJ B w r n)(hB:B<=w.heap.size)(Be:bp<w.heap.size)(c0:w.cell? ⟨bp,0,none⟩=some (.int .i64 n.m))(c1:w.cell? ⟨bp,1,none⟩=some (.slice r.hA n.hs.length r.hc))(c2:w.cell? ⟨bp,2,none⟩=some (.slice r.pA n.ps.length r.pc))(S:Nat->Prop)(hS:∀b,S b->B<=b/\b≠bp/\b<w.heap.size)(I:List (List Int)->nJ->Prop)(Ix:Code->List (List Int)->nJ->Prop)(hI:∀pre W W',I pre W->bH (Bf (fun _=>False) w.heap.size) W W'->I pre W')(hIx:∀c pre W W',Ix c pre W->bH (Bf (fun _=>False) w.heap.size) W W'->Ix c pre W')(h0:I [] w)(a₁:nK->Act)(hassign:∀(l m:Nat) (v:nK) (W:nJ) (K:Act->nJ->Prop),K (a₁ v) W->assign.wpIn (Fence.wide.inRound l) m nH (Exit.then K (fun _ _ _=>False)) { tmps:=(#[p].zip #[v]).foldl (fun t (p,v)=>t.setIfInBounds p v) a.tmps,defers:=[] } W)(hbody:∀(l m:Nat) (pre:List (List Int)) (x:List Int) (v:nK) (W:nJ),pre++[x] <+: gN n->I pre W->Hx (w.heap.size+2) v x W->bH (Bf S w.heap.size) w W->w.heap.size+2<=W.heap.size->body.wpIn (Fence.wide.inRound l) m nH (P6 S I Ix (pre++[x]) W) (a₁ v) W)(hdone:∀W,I (gN n) W->bH (Bf S w.heap.size) w W->W.heap[w.heap.size]?=some (.deferred (some []))->Q .normal { a with defers:={ target:=.collected w.heap.size,args:=#[] }::a.defers } W)(hstop:∀c pre W,pre <+: gN n->pre≠[]->Ix c pre W->bH (Bf S w.heap.size) w W->W.heap[w.heap.size]?=some (.deferred (some []))->c.wp nH Q { a with defers:={ target:=.collected w.heap.size,args:=#[] }::a.defers } W):(Code.rangeFunc g #[p] assign body).wp nH Q a w:=by
 refine(wpIn_wide (n:=3)).1 (wpIn_rangeFunc ?_);intro fn _;rw[show Fence.wide.round=none from rfl];obtain⟨rec,qZ⟩:∃rec:LoopState->Option Code->Loop,rec=fun st pe=>{ state:=st,pending:=pe,fn,tmps:=a.tmps,params:=#[p],assign,body,defers:=w.heap.size }:=⟨_,rfl⟩;refine QFK ?_;intro D hD W1 aH hs1;have hL1:W1.heap[D+1]?=some (.loop (rec .ready none)):=by rw[<-aH,hD];have:=World.alloc_heap_new (w.alloc (.deferred (some []))) (.loop (rec .ready none));rwa [World.size_alloc] at this
 have hK1:W1.heap[D]?=some (.deferred (some [])):=by rw[<-aH,hD];exact(Below.heap_alloc _ _ _ nV).trans (World.alloc_heap_new w _)
 have hw1:Below w.heap.size w W1:=by rw[<-aH];exact((Below.refl _ w).alloc (nR _) _).alloc nV _
 rw[<-hD] at hS hI hIx hbody hdone hstop;have hT:∀b,Bf S D b->B<=b/\b≠bp/\b<W1.heap.size:=by
  rintro b (h|rfl|rfl)
  ·have:=hS b h;exact⟨this.1,this.2.1,nQ⟩
  ·exact⟨nQ,nQ,nQ⟩
  ·exact⟨nQ,nQ,nQ⟩
 have stay:∀ {k:Nat} {o:Obj} {W W':nJ},W.heap[k]?=some o->Below W.heap.size W W'->W'.heap[k]?=some o:=fun h hb=>(hb.block _ (Array.getElem?_eq_some_iff.1 h).1).trans h;obtain⟨J,hJ⟩:∃J:List (List Int)->nJ->Prop,J=fun pre W=>I pre W/\W.heap[D+1]?=some (.loop (rec .ready none))/\W.heap[D]?=some (.deferred (some []))/\bH (Bf S D) w W/\D+2<=W.heap.size:=⟨_,rfl⟩;obtain⟨Jx,XR⟩:∃J:List (List Int)->nJ->Prop,J=fun pre W=>∃c,Ix c pre W/\W.heap[D+1]?=some (.loop (rec .done (some c)))/\W.heap[D]?=some (.deferred (some []))/\bH (Bf S D) w W/\D+2<=W.heap.size:=⟨_,rfl⟩;have J7:CX J:=by subst hJ;rintro pre W W' ⟨k1,k2,k3,k4,k5⟩ hb;exact⟨hI _ _ _ k1 (.dK hb),stay k2 hb,stay k3 hb,k4.trans (.dK hb),nT k5 hb.size⟩
 have xp:CX Jx:=by subst XR;rintro pre W W' ⟨c,k1,k2,k3,k4,k5⟩ hb;exact⟨c,hIx _ _ _ _ k1 (.dK hb),stay k2 hb,stay k3 hb,k4.trans (.dK hb),nT k5 hb.size⟩
 have hY:yO nH W1.heap.size (Bf S D) (gN n) (D+1) J Jx:=by
  subst hJ XR;rintro m pre x v W hpre ⟨k1,k2,k3,k4,k5⟩ hl;rw[hs1] at hl;have hy:=run_yield (P:=nH) (args:=#[v]) k2 (by rw[qZ];rfl);rw[qZ] at hy;refine⟨fn,_,assign,body,hy,roundIn_of_wpIn trivial (hassign _ m v W _ ?_)⟩;refine⟨_,run_beginRound k2 (by rw[qZ]),?_⟩;have hlt:D+1<W.heap.size:=nQ;have NO:Bf (fun _=>False) D (D+1):=.inr (.inr rfl);have hTS:∀b,Bf (fun _=>False) D b->Bf S D b:=by rintro b (h|h);exact h.elim;exact .inr h
  have hkb:bH (Bf (fun _=>False) D) W (W.putObj (D+1) (.loop { rec .ready none with state:=.busy })):=(bH.refl _ _).putObj NO _;refine QDC ?_;intro JY hk2;refine wpIn_mono (hbody _ m pre x v _ hpre (hI _ _ _ k1 hkb) (hl.eM hkb (by rintro b (h|h|h);exact h.elim;omega;omega)) (k4.trans (hkb.mono hTS)) (by rw[World.putObj_size];exact k5)) ?_;have fin:∀(jump:Option Code) (W3:nJ),bH S (W.putObj (D+1) (.loop { rec .ready none with state:=.busy })) W3 ->
    (Instr.endRound (D+1) jump).run nH W3=.ok (.bool jump.isNone) (W3.putObj (D+1) (.loop (rec (if jump.isNone then .ready else .done) jump))) /\
    (W3.putObj (D+1) (.loop (rec (if jump.isNone then .ready else .done) jump))).heap[D+1]?=some (.loop (rec (if jump.isNone then .ready else .done) jump)) /\
    (W3.putObj (D+1) (.loop (rec (if jump.isNone then .ready else .done) jump))).heap[D]?=some (.deferred (some [])) /\
    bH (Bf (fun _=>False) D) W3 (W3.putObj (D+1) (.loop (rec (if jump.isNone then .ready else .done) jump)))/\bH (Bf S D) W (W3.putObj (D+1) (.loop (rec (if jump.isNone then .ready else .done) jump)))/\D+2<=(W3.putObj (D+1) (.loop (rec (if jump.isNone then .ready else .done) jump))).heap.size:=fun jump W3 si=>by
   have hz:D+2<=W3.heap.size:=by have:=si.size;rw[World.putObj_size] at this;omega
   have ZS:=(si.block (D+1) (by rw[World.putObj_size];omega) (fun hc=>by have:=hS _ hc;omega)).trans JY
   have LU:=(si.block D (by rw[World.putObj_size];omega) (fun hc=>by have:=hS _ hc;omega)).trans hk2
   have hrun:=run_endRound (P:=nH) jump ZS
   have hend:bH (Bf (fun _=>False) D) W3 (W3.putObj (D+1) (.loop (rec (if jump.isNone then .ready else .done) jump))):=(bH.refl _ _).putObj NO _
   refine⟨?_,World.putObj_heap_same nQ,(World.putObj_heap_other nQ).trans LU,hend,((hkb.mono hTS).trans (si.mono fun b h=>.inl h)).trans (hend.mono hTS),by rw[World.putObj_size];exact hz⟩
   rw[qZ] at hrun ⊢
   exact hrun
  rintro e a3 W3 hp;cases e with
  |normal=>
   obtain⟨si,J1⟩:=hp
   obtain⟨hr,f1,f2,f3,f4,f5⟩:=fin none W3 si
   refine⟨_,_,hr,true,rfl,f4,fun _=>?_,fun h=>by cases h⟩
   exact⟨hI _ _ _ J1 f3,f1,f2,k4.trans f4,f5⟩
  |ret=>
   obtain⟨si,J1⟩:=hp
   obtain⟨hr,f1,f2,f3,f4,f5⟩:=fin (some .ret) W3 si
   refine⟨_,_,hr,false,rfl,f4,(fun h=>by cases h),fun _=>?_⟩
   exact⟨[x],List.prefix_refl _,nV,.ret,hIx _ _ _ _ J1 f3,f1,f2,k4.trans f4,f5⟩
  |exit id=>
   obtain⟨si,J1⟩:=hp
   obtain⟨hr,f1,f2,f3,f4,f5⟩:=fin (some (.exit id)) W3 si
   refine⟨_,_,hr,false,rfl,f4,(fun h=>by cases h),fun _=>?_⟩
   exact⟨[x],List.prefix_refl _,nV,.exit id,hIx _ _ _ _ J1 f3,f1,f2,k4.trans f4,f5⟩
  |goto t=>
   obtain⟨si,J1⟩:=hp
   obtain⟨hr,f1,f2,f3,f4,f5⟩:=fin (some (.goto t)) W3 si
   refine⟨_,_,hr,false,rfl,f4,(fun h=>by cases h),fun _=>?_⟩
   exact⟨[x],List.prefix_refl _,nV,.goto t,hIx _ _ _ _ J1 f3,f1,f2,k4.trans f4,f5⟩
  |panic ch=>exact hp.elim
  |outgrown=>exact hp.elim
 have g1:Le w.heap.size W1:=⟨hw1.size⟩;have g2:au w.heap.size w W1:=⟨Same.of hw1⟩;have hc:=fun o=>hw1.cell (p:=⟨bp,o,none⟩) Be;have Xu:=MT n r B bp (Bf S D) (gN n) (D+1) J Jx J7 xp W1 hY hT h6 ((bH.dK hw1).aF (S:=fun _=>False) hN hB (fun _ h=>h.elim)) (by have:=hw1.size;omega) (by have:=hw1.size;omega) ((hc 0).trans c0) ((hc 1).trans c1) ((hc 2).trans c2) (List.prefix_refl _)
  (by subst hJ;exact⟨hI _ _ _ h0 (.dK hw1),hL1,hK1,.dK hw1,nQ⟩)
 refine⟨D+1,[{ target:=.collected w.heap.size,args:=#[] }],W1,{ target:=.fn (.func 232) #[.pointer (some ⟨bp,0,none⟩)],args:=#[.func (.yield (D+1)) #[] #[]] },W1,232,
  #[.func (.yield (D+1)) #[] #[]]++#[.pointer (some ⟨bp,0,none⟩)],W1,?_,?_,fun _ _=>trivial,?_,fun h=>(by simp[Fence.wide] at h),?_⟩
 ·rw[<-aH,qZ,hD];exact run_enterLoop_outer _ _ _ _ _
 ·simp only[resolve,hg];simp[go_sem]
 ·simp[invoke,go_sem,enters_of Tryz.func232 nP rfl]
 ·refine callsIn_wide.2 (Xu.mono ?_);rintro e W2 ⟨v,b,rfl,hK,ht,hf⟩;cases b with
  |true=>
   have:=ht rfl
   subst hJ
   obtain⟨k1,k2,k3,k4,k5⟩:=this
   have NO:Bf (fun _=>False) D (D+1):=.inr (.inr rfl)
   have XO:Bf S D (D+1):=.inr (.inr rfl)
   refine⟨none,_,by have:=run_endLoop (P:=nH) k2 (by rw[qZ];simp);rw[qZ] at this;exact this,?_⟩
   rw[<-hD]
   exact hdone _ (hI _ _ _ k1 ((bH.refl _ _).putObj NO _)) (k4.putObj XO _) ((World.putObj_heap_other nQ).trans k3)
  |false=>
   obtain⟨q,hq,Up,hx⟩:=hf rfl
   subst XR
   obtain⟨c,k1,k2,k3,k4,k5⟩:=hx
   have NO:Bf (fun _=>False) D (D+1):=.inr (.inr rfl)
   have XO:Bf S D (D+1):=.inr (.inr rfl)
   refine⟨some c,_,by have:=run_endLoop (P:=nH) k2 (by rw[qZ];simp);rw[qZ] at this;exact this,?_⟩
   rw[<-hD]
   exact wpIn_wide.2 (hstop c q _ hq Up (hIx _ _ _ _ k1 ((bH.refl _ _).putObj NO _)) (k4.putObj XO _) ((World.putObj_heap_other nQ).trans k3))
end
end Go.Proofs.YtdmedlkonaclnaaGreatDoor
