/- A part of the proof that the statement HeadmanRunCardSaid holds, cut small by a program (names and blanks): HdP2, HdP3, HdP4, HdP5, HdP7, HdP6. -/
import Derived.Test.YtcjjlikhlmfedaaGreatDoorZ2
import Derived.Test.YtcjjlikhlmfedaaGreatDoorZ6
import Derived.Test.YtcjjlikhlmfedaaGreatDoorZ9
set_option maxRecDepth 100000
set_option maxHeartbeats 40000000
set_option linter.unusedVariables false
set_option linter.unusedSimpArgs false
namespace Go.Proofs.YtcjjlikhlmfedaaGreatDoor
open Go.RowKit
open Nat renaming le_trans → nT
def An.wN(n:An.Net):Nat:=bM (pX n) 21 0
theorem An.Vc(n:An.Net):An.wN n<=21:=qO _ _
namespace Hd
structure aV where
 aD:An.Net
 ai:Me.Net
 aa:Sa.aL
def aG(t:aV):Bool:=An.valid t.aD&&Me.valid t.ai&&Sa.valid t.aa
theorem cq{t:aV}:aG t=true↔An.valid t.aD=true/\Me.valid t.ai=true/\Sa.valid t.aa=true:=by simp[aG,and_assoc]
def Wy(n:Me.Net)(d:Int):Me.Net:=⟨n.m,n.hs,n.ps.filter fun p=>decide (p.a≠d/\p.b≠d)⟩
def qJ(n:Me.Net)(d:Nat):Me.Net:=Me.cut (Wy n d) d
def jF(t:aV)(c:eH):Option aV:=
 match c.w with
 |.aN=>some ⟨⟨⟨nth c.a 0,nth c.a 1⟩,t.aD.cur,t.aD.au,t.aD.ay,t.aD.aQ⟩,t.ai,t.aa⟩
 |.current=>some ⟨⟨t.aD.aN,⟨nth c.a 0,nth c.a 1⟩,t.aD.au,t.aD.ay,t.aD.aQ⟩,t.ai,t.aa⟩
 |.fU=>if 0<=nth c.a 0/\nth c.a 0<t.aD.ay.length then
   some ⟨⟨t.aD.aN,t.aD.cur,t.aD.au,t.aD.ay.set (nth c.a 0).toNat ⟨nth c.a 1,(nth t.aD.ay (nth c.a 0).toNat).bt⟩,t.aD.aQ⟩,t.ai,t.aa⟩ else none
 |.ai=>some ⟨t.aD,⟨t.ai.m,t.ai.hs++[⟨nth c.a 0,nth c.a 1,nth c.a 2,nth c.a 3⟩],t.ai.ps⟩,t.aa⟩
 |.lM=>some ⟨t.aD,⟨t.ai.m,t.ai.hs,t.ai.ps++[⟨nth c.a 0,nth c.a 1⟩]⟩,t.aa⟩
 |.dU=>some ⟨t.aD,⟨nth c.a 0,t.ai.hs,t.ai.ps⟩,t.aa⟩
 |.eK=>if t.ai.hs.length=0 then none else some ⟨t.aD,qJ t.ai (nth (Me.fQ t.ai) 0).toNat,t.aa⟩
 |.part=>some ⟨t.aD,t.ai,⟨t.aa.kinds,t.aa.floor,t.aa.parts++[⟨nth c.a 0,nth c.a 1⟩],t.aa.bars⟩⟩
 |.fo=>some ⟨t.aD,t.ai,⟨t.aa.kinds,t.aa.floor,t.aa.parts,t.aa.bars++[nth c.a 0]⟩⟩
 |_=>none
def gZ(t:aV)(c:eH):Option aV:=match jF t c with
 |none=>none
 |some o=>if aG o=true then some o else none
theorem Ia{t o:aV}{c:eH}(h:gZ t c=some o):aG o=true:=by
 unfold gZ at h;cases h0:jF t c with
 |none=>rw[h0] at h;cases h
 |some o'=>
  rw[h0] at h
  simp only at h
  split at h
  ·injection h with h;subst h;assumption
  ·cases h
def kf(t:aV)(c:eH):aV:=(gZ t c).getD t
theorem qb{t:aV}(hv:aG t=true)(c:eH):aG (kf t c)=true:=by
 unfold kf;cases h:gZ t c with
 |none=>exact hv
 |some o=>exact Ia h
def RT(h:Sa.aL):Int × Int:=if Sa.bH h=[] then (0,3) else (Sa.cF h (Me.least (Sa.cF h) (Sa.bH h)),0)
def ME(h:Sa.aL):List Int × Int:=if Sa.bH h=[] then ([],3) else (Me.least (Sa.cF h) (Sa.bH h),0)
def BN(h:Sa.aL)(d:Int)(l:List Int):Int:=-(Sa.iJ h d l)
def Ox(h:Sa.aL)(d:Int):Int × Int:=if fj 0 20 d=false then (0,1) else if Sa.bH h=[] then (0,3) else (Sa.iJ h d (Me.least (BN h d) (Sa.bH h)),0)
def eR(t:aV)(c:eH):Int × Int:=
 match c.w with
 |.safe=>(oE (decide (An.jl t.aD (bT t.aD) 0=0)) (decide (An.jl t.aD (gu t.aD) 0=0)),0)
 |.fP=>if An.wN t.aD=21 then (0,3) else (An.wN t.aD,0)
 |.jE=>(Me.dK t.ai,0)
 |.done=>(Me.qS t.ai,0)
 |.fD=>RT t.aa
 |.early=>Ox t.aa (nth c.a 0)
 |_=>(Sa.qc t.aa,Sa.rP t.aa)
def pU(t:aV)(c:eH):List Int × Int:=
 match c.w with
 |.mj=>(An.jO t.aD,An.kZ t.aD)
 |.order=>(Me.fQ t.ai,0)
 |_=>ME t.aa
def LP:bL:=[111,107]
def LQ:bL:=[110,111]
def CC:bL:=[119,104,97,116]
def Vd:bL:=[110,111,110,101]
def Fj:bL:=[119,114,111,110,103]
def sZ:bL:=[110,111,116,104,105,110,103]
def sV(b:Bool):bL:=if b=true then LP else LQ
def lT(e:Int)(t:bL):bL:=if e=0 then t else if e=3 then Vd else Fj
def iu:List Int->bL
 |[]=>[]
 |[x]=>Lib.itoa x
 |x::y::r=>Lib.itoa x++32::iu (y::r)
def o6(l:List Int):bL:=if l=[] then sZ else iu l
def nt(t:aV)(c:eH):bL:=if cP c.w=3 then lT (pU t c).2 (o6 (pU t c).1) else lT (eR t c).2 (Lib.itoa (eR t c).1)
def zK(s:UInt8)(v n:Int):Bool:=if s=60 then decide (v<n) else if s=61 then decide (v=n) else decide (n<v)
def fF(t:aV)(q:eH)(s:UInt8)(n:Int):Bool:=decide ((eR t q).2=0)&&zK s (eR t q).1 n
def oF(t:aV):vq->Bool
 |.ord q s n _=>fF t q s n
 |_=>false
def IE:vq->eH
 |.ord _ _ _ c=>c
 |_=>⟨.aN,[]⟩
structure Ord where
 num:Nat
 line:bL
instance:Inhabited Ord:=⟨⟨0,[]⟩⟩
structure cU where
 ax:aV
 aB:List Ord
 given:Nat
def ji(t:aV)(os:List Ord):Option Nat:=os.findIdx? fun o=>oF t (di o.line)
def tB(n:Nat)(b:Bool):bL:=32::Lib.itoa (n:Int)++58::sV b
def ey:Nat->cU->cU × bL
 |0,d=>(d,[])
 |k+1,d=>match ji d.ax d.aB with
  |none=>(d,[])
  |some i=>
   let o:=nth d.aB i
   let c:=IE (di o.line)
   let r:=ey k ⟨kf d.ax c,d.aB.eraseIdx i,d.given⟩
   (r.1,tB o.num (gZ d.ax c).isSome++r.2)
def dF(d:cU)(line:bL):cU × bL:=
 match di line with
 |.none=>(d,CC)
 |.ord _ _ _ _=>if d.aB.length=5 then (d,LQ) else (⟨d.ax,d.aB++[⟨d.given,line⟩],d.given+1⟩,LP)
 |.cmd c=>
  if cP c.w=1 then (⟨kf d.ax c,d.aB,d.given⟩,sV (gZ d.ax c).isSome)
  else if cP c.w=5 then match d.aB.findIdx? (fun o=>decide ((o.num:Int)=nth c.a 0)) with
   |none=>(d,LQ)
   |some i=>(⟨d.ax,d.aB.eraseIdx i,d.given⟩,LP)
  else (d,nt d.ax c)
def kS(d:cU)(line:bL):cU × bL:=
 let r:=ey (dF d line).1.aB.length (dF d line).1
 (r.1,(dF d line).2++r.2)
def pN:cU->List bL->cU × List bL
 |d,[]=>(d,[])
 |d,l::ls=>((pN (kS d l).1 ls).1,(kS d l).2::(pN (kS d l).1 ls).2)
theorem JM(ls:List bL):∀(d:cU) (l:bL),pN d (ls++[l])=((kS (pN d ls).1 l).1,(pN d ls).2++[(kS (pN d ls).1 l).2]):=by
 induction ls with
 |nil=>intro d l;rfl
 |cons x xs ih=>intro d l;rw[List.cons_append,pN,ih];rfl
def gQ(t:aV):cU:=⟨t,[],0⟩
theorem CF(k:Nat):∀d:cU,aG d.ax=true->aG (ey k d).1.ax=true:=by
 induction k with
 |zero=>intro d h;exact h
 |succ k ih=>
  intro d h
  rw[ey]
  cases ji d.ax d.aB with
  |none=>exact h
  |some i=>exact ih _ (qb h _)
theorem uQ{d:cU}(h:aG d.ax=true)(l:bL):aG (dF d l).1.ax=true:=by
 unfold dF;cases di l with
 |none=>exact h
 |ord q s n c=>simp only[];split<;>exact h
 |cmd c=>
  simp only[]
  split
  ·exact qb h c
  ·split
   ·split<;>exact h
   ·exact h
theorem Fk{d:cU}(h:aG d.ax=true)(l:bL):aG (kS d l).1.ax=true:=CF _ _ (uQ h l)
def iM(os:List Ord):Prop:=os.length<=5/\∀o∈os,∃q s n c,di o.line=.ord q s n c
theorem pR{os:List Ord}(h:iM os)(i:Nat):iM (os.eraseIdx i):=
 ⟨nT (List.length_eraseIdx_le _ _) h.1,fun o ho=>h.2 o (List.mem_of_mem_eraseIdx ho)⟩
theorem Fq(k:Nat):∀d:cU,iM d.aB->iM (ey k d).1.aB:=by
 induction k with
 |zero=>intro d h;exact h
 |succ k ih=>
  intro d h
  rw[ey]
  cases ji d.ax d.aB with
  |none=>exact h
  |some i=>exact ih _ (pR h i)
theorem xk{d:cU}(h:iM d.aB)(l:bL):iM (dF d l).1.aB:=by
 unfold dF;cases hl:di l with
 |none=>exact h
 |ord q s n c=>
  simp only[]
  split
  ·exact h
  ·refine⟨by have:=h.1;simp;omega,fun o ho=>?_⟩;rcases List.mem_append.1 ho with h1|h1
   ·exact h.2 o h1
   ·simp at h1;subst h1;exact⟨q,s,n,c,hl⟩
 |cmd c=>
  simp only[]
  split
  ·exact h
  ·split
   ·split
    ·exact h
    ·exact pR h _
   ·exact h
theorem JD{d:cU}(h:iM d.aB)(l:bL):iM (kS d l).1.aB:=Fq _ _ (xk h l)
theorem ML:iM []:=⟨nV,fun o ho=>by cases ho⟩
end Hd
namespace Hd
def WG(c:eH):Prop:=c.a.length=rZ c.w/\∀x∈c.a,-1000000<x/\x<1000000
theorem yA{ws:List bL}{c:eH}(h:bJ ws=some c):WG c:=by obtain⟨r,_,h1,h2⟩:=Jm.1 h;exact⟨h2,Gu h1⟩
theorem J7{t:bL}{q c:eH}{s:UInt8}{n:Int}(h:di t=.ord q s n c):∃k,(bE t).head?=some kR/\jg ij (bE t)=some k/\4<=k/\bJ (((bE t).take (k-2)).drop 1)=some q/\kD (nth (bE t) (k-2))=some s/\numOf (nth (bE t) (k-1))=some n/\bJ ((bE t).drop (k+1))=some c/\cP q.w=2/\cP c.w=1:=by
 unfold di dZ at h;split at h
 ·rename_i hw;cases hi:jg ij (bE t) with
  |none=>rw[hi] at h;cases h
  |some k=>
   rw[hi] at h
   simp only[] at h
   split at h
   ·cases h
   ·rename_i h4;unfold oX at h;cases h1:bJ (((bE t).take (k-2)).drop 1) with
    |none=>rw[h1] at h;cases h
    |some q'=>
     cases h2:kD (nth (bE t) (k-2)) with
     |none=>rw[h1,h2] at h;cases h
     |some s'=>
      cases h3:numOf (nth (bE t) (k-1)) with
      |none=>rw[h1,h2,h3] at h;cases h
      |some n'=>
       cases h5:bJ ((bE t).drop (k+1)) with
       |none=>rw[h1,h2,h3,h5] at h;cases h
       |some c'=>
        rw[h1,h2,h3,h5] at h
        simp only[] at h
        split at h
        ·rename_i hk;injection h with e1 e2 e3 e4;subst e1 e2 e3 e4;exact⟨k,hw,hi▸rfl,nQ,h1,h2,h3,h5,hk⟩
        ·cases h
 ·cases hc:bJ (bE t) with
  |none=>rw[hc] at h;cases h
  |some c'=>rw[hc] at h;cases h
def Calm(d:cU):Prop:=ji d.ax d.aB=none
theorem wT:∀ {k:Nat} {d:cU},Calm d->ey k d=(d,[])
 |0,d,_=>rfl
 |k+1,d,h=>by rw[ey,show ji d.ax d.aB=none from h]
theorem D8{t:aV}{os:List Ord}{i:Nat}(h:ji t os=some i):i<os.length/\oF t (di (nth os i).line)=true/\∀j,j<i->oF t (di (nth os j).line)=false:=by unfold ji at h;obtain⟨h1,h2,h3⟩:=List.findIdx?_eq_some_iff_getElem.1 h;refine⟨h1,by rw[bV _ h1];exact h2,fun j hj=>?_⟩;have:=h3 j hj;rw[bV _ nQ];simpa using this
theorem DF(d:Wd):cP d=1\/cP d=2\/cP d=3\/cP d=5:=by cases d<;>decide
end Hd
namespace Hd
theorem Jn{n:Me.Net}(hv:Me.valid n=true)(h0:n.hs.length≠0):(nth (Me.fQ n) 0).toNat<n.hs.length:=by have ho:=Me.gT (Me.az.1 hv).2.2.2.2.2;have hl:(Me.fQ n).length=n.hs.length:=Me.iV ho;have:=(Me.wC ho).1 (aS (Me.fQ n) (k:=0) nQ);have h1:=this.1;have h2:=this.2;omega
theorem PR:mh kR=none:=by decide +kernel
theorem Qo:numOf []=none:=by decide +kernel
theorem El{w:bL}{ws:List bL}(h:mh w=none):bJ (w::ws)=none:=by show qn (mh w) _=none;rw[h];rfl
theorem ry{ws:List bL}{w:bL}(hw:w∈ws)(h:numOf w=none):cS ws=none:=by
 induction ws with
 |nil=>cases hw
 |cons v vs ih=>
  rw[cS]
  rcases List.mem_cons.1 hw with rfl|hw
  ·rw[h]
  ·cases numOf v with
   |none=>rfl
   |some n=>simp only[];rw[ih hw];rfl
theorem GL{t:bL}:∀ {ws:List bL} {k:Nat},jg t ws=some k->k<ws.length/\nth ws k=t/\∀j,j<k->nth ws j≠t
 |[],k,h=>by cases h
 |w::ws,k,h=>by
  rw[jg] at h;by_cases hw:w=t
  ·rw[if_pos hw] at h;injection h with h;subst h;exact⟨nV,hw,fun j hj=>absurd hj nQ⟩
  ·rw[if_neg hw] at h;simp only[Option.map_eq_some_iff] at h;obtain⟨j,hj,rfl⟩:=h;obtain⟨a,b,c⟩:=GL hj;refine⟨by simp;omega,by simpa [nth] using b,fun i hi=>?_⟩;cases i with
   |zero=>simpa [nth] using hw
   |succ i=>have:=c i nQ;simpa [nth] using this
theorem GJ{n:Nat}(h:n<100):(Lib.itoa (n:Int)).length<=2:=by unfold Lib.itoa;rw[if_neg nQ];exact(eO _).2.2.2.2 1 nQ
end Hd
namespace Hd
theorem xS{n:Int}(k:Nat)(h:n.natAbs<10 ^ (k+1)):(Lib.itoa n).length<=k+2:=by
 unfold Lib.itoa;split
 ·have:=(eO n.natAbs).2.2.2.2 k h;simp only[List.length_cons];omega
 ·have:=(eO n.toNat).2.2.2.2 k nQ;omega
theorem DI{n:Int}(h:0<=n/\n<100):(Lib.itoa n).length<=2:=by obtain⟨m,rfl⟩:∃m:Nat,n=m:=⟨n.toNat,nQ⟩;exact GJ nQ
theorem rC:∀ {l:List Int},(∀x∈l,0<=x/\x<100)->(iu l).length<=3*l.length
 |[],_=>by simp[iu]
 |[x],h=>by have:=DI (h x nV);simp only[iu,List.length_cons,List.length_nil];omega
 |x::y::r,h=>by have h1:=DI (h x nV);have h2:=rC (l:=y::r) fun z hz=>h z (by simp[hz]);rw[iu];simp only[List.length_append,List.length_cons] at h2 ⊢;omega
def PM(l:List Int):Prop:=l.length<=6/\∀x∈l,0<=x/\x<100
theorem Jl:PM []:=⟨nV,fun x hx=>by cases hx⟩
theorem Ol{n:An.Net}(hv:An.valid n=true):PM (An.jO n):=by
 cases hok:An.jD n with
 |false=>rw[An.Dq hok];exact Jl
 |true=>
  rw[An.Dr hv hok]
  obtain⟨_,_,_,h4,_,_,h7,_⟩:=An.az.1 hv
  refine⟨by rw[List.length_map,List.length_range];exact h4,fun x hx=>?_⟩
  obtain⟨i,hi,rfl⟩:=List.mem_map.1 hx
  rw[List.mem_range] at hi
  have h1:=An.sI.1 hok i hi
  have h2:=An.CA hv hi
  have h3:=List.all_eq_true.1 (show n.ay.all (An.kY n.au.length)=true from h7) _ (aS n.ay hi)
  simp only[An.kY,decide_eq_true_eq] at h3
  omega
theorem Rg{n:Me.Net}(hv:Me.valid n=true):PM (Me.fQ n):=by have ho:=Me.gT (Me.az.1 hv).2.2.2.2.2;have h6:=(Me.az.1 hv).2.1;refine⟨by rw[Me.iV ho];exact h6,fun x hx=>?_⟩;have:=(Me.wC ho).1 hx;unfold Me.isHole at this;omega
theorem Oj{h:Sa.aL}(hv:Sa.valid h=true):PM (ME h).1:=by
 unfold ME;split
 ·exact Jl
 ·rename_i hp;have hm:Me.least (Sa.cF h) (Sa.bH h)∈Sa.mu h.bars.length h.parts.length:=(List.mem_filter.1 (Me.fJ (Sa.cF h) hp)).1;obtain⟨h1,h2⟩:=Sa.iL.1 hm;have h3:=Sa.az.1 hv;refine⟨by show List.length _<=6;rw[h1];exact h3.1.2.2.1,fun x hx=>?_⟩;have:=h2 x hx;have:=h3.1.2.2.2;omega
theorem BK{t:aV}(hv:aG t=true)(c:eH):PM (pU t c).1:=by
 obtain⟨h1,h2,h3⟩:=cq.1 hv;unfold pU;split
 ·exact Ol h1
 ·exact Rg h2
 ·exact Oj h3
theorem Iq{t:aV}(hv:aG t=true)(c:eH):-1500<=(eR t c).1/\(eR t c).1<=10000:=by
 obtain⟨h1,h2,h3⟩:=cq.1 hv;unfold eR;split
 ·show -1500<=oE _ _/\oE _ _<=10000;unfold oE;split
  ·omega
  ·split<;>omega
 ·have:=An.Vc t.aD;split
  ·show(-1500:Int)<=0/\(0:Int)<=10000;omega
  ·show(-1500:Int)<=(An.wN t.aD:Int)/\(An.wN t.aD:Int)<=10000;omega
 ·have:=KD h2;exact⟨by show -1500<=Me.dK t.ai;omega,this.2⟩
 ·have:=Oy h2;exact⟨by show -1500<=Me.qS t.ai;omega,by show Me.qS t.ai<=10000;omega⟩
 ·unfold RT;split
  ·show(-1500:Int)<=0/\(0:Int)<=10000;omega
  ·rename_i hp;have hm:(Me.least (Sa.cF t.aa) (Sa.bH t.aa)).length=t.aa.parts.length:=(Sa.iL.1 (List.mem_filter.1 (Me.fJ (Sa.cF t.aa) hp)).1).1;have:=Sa.iE (A:=300) (f:=Sa.tq t.aa (Me.least (Sa.cF t.aa) (Sa.bH t.aa))) (fun b=>Sa.mB (Sa.az.1 h3).1.2.1 (Sa.fe h3 (Nat.le_of_eq hm) (b:Int))) 5;show -1500<=Sa.gk _ 5/\Sa.gk _ 5<=10000;omega
 ·unfold Ox;split
  ·show(-1500:Int)<=0/\(0:Int)<=10000;omega
  ·split
   ·show(-1500:Int)<=0/\(0:Int)<=10000;omega
   ·rename_i hp;have hm:(Me.least (BN t.aa (nth c.a 0)) (Sa.bH t.aa)).length=t.aa.parts.length:=(Sa.iL.1 (List.mem_filter.1 (Me.fJ (BN t.aa (nth c.a 0)) hp)).1).1;have:=Sa.iE (A:=300) (f:=Sa.kL t.aa (nth c.a 0) (Me.least (BN t.aa (nth c.a 0)) (Sa.bH t.aa))) (fun b=>by have:=(Sa.fe h3 (Nat.le_of_eq hm) (b:Int)).2.1;unfold Sa.kL;split<;>omega) 5;show -1500<=Sa.gk _ 5/\Sa.gk _ 5<=10000;omega
 ·have:=Sa.vv h3 (Sa.mu (t.aa.bars.length+1) t.aa.parts.length) fun l hl=>Nat.le_of_eq (Sa.iL.1 hl).1;show -1500<=Sa.qc t.aa/\Sa.qc t.aa<=10000;unfold Sa.qc Sa.jL;split
  ·omega
  ·split
   ·omega
   ·split<;>omega
theorem CB{e:Int}{x:bL}{k:Nat}(h:x.length<=k)(hk:5<=k):(lT e x).length<=k:=by
 unfold lT;split
 ·exact h
 ·split
  ·show 4<=k;omega
  ·show 5<=k;omega
theorem Nr{l:List Int}(h:PM l):(o6 l).length<=18:=by
 unfold o6;split
 ·decide
 ·have:=rC h.2;have:=h.1;omega
theorem LH(t:aV)(c:eH)(hv:aG t=true):(nt t c).length<=60:=by
 unfold nt;split
 ·exact CB (nT (Nr (BK hv c)) nU) nU
 ·have:=Iq hv c;exact CB (nT (xS 5 nQ) nU) nU
end Hd
namespace Hd
def Bv:vq->Bool|.ord _ _ _ _=>true|_=>false
theorem oS{ws:List bL}{c:eH}(h:dZ ws=.cmd c):bJ ws=some c/\Bv (dZ ws)=false:=by
 refine⟨?_,by rw[h];rfl⟩;unfold dZ at h;split at h
 ·split at h
  ·split at h
   ·cases h
   ·unfold oX at h;split at h
    ·split at h<;>cases h
    ·cases h
  ·cases h
 ·split at h
  ·injection h with h;subst h;assumption
  ·cases h
theorem Aw{ws:List bL}(h:ws.head?=some kR):bJ ws=none:=by
 cases ws with
 |nil=>rfl
 |cons t r=>
  injection h with h
  subst h
  exact El PR
theorem zS{ws:List bL}{q c:eH}{s:UInt8}{n:Int}(h:dZ ws=.ord q s n c):bJ ws=none:=by
 unfold dZ at h;split at h
 ·rename_i hw;exact Aw hw
 ·split at h<;>cases h
theorem FJ{ws:List bL}(h:dZ ws=.none):bJ ws=none:=by
 unfold dZ at h;split at h
 ·rename_i hw;exact Aw hw
 ·split at h
  ·cases h
  ·assumption
theorem Ef{ws:List bL}(h:bJ ws=none)(h0:0<ws.length)(hf:nth ws 0=cJ .forget){a:List Int}(ha:cS (ws.drop 1)=some a):a.length≠1:=by
 cases ws with
 |nil=>cases h0
 |cons t r=>
  intro hl
  have ht:t=cJ .forget:=hf
  have hr:cS r=some a:=ha
  have:qn (mh t) (cS r)=none:=h
  rw[dn.2 ht,hr] at this
  unfold qn at this
  simp only[Option.bind_some,if_pos (show a.length=rZ .forget from hl)] at this
  cases this
theorem Z5{d:Wd}(h:cP d=5):d=.forget:=by cases d<;>first|rfl|(exact absurd h nU)
theorem BI{ws:List bL}{c:eH}(h:bJ ws=some c)(hc:cP c.w=5):∃x,c=⟨.forget,[x]⟩/\nth ws 0=cJ .forget/\cS (ws.drop 1)=some [x]:=by
 obtain⟨r,rfl,h1,h2⟩:=Jm.1 h;obtain⟨d,a⟩:=c;have hd:d=.forget:=Z5 hc;subst hd;have h2:a.length=1:=h2;match a,h2 with
 |[x],_=>exact⟨x,rfl,rfl,h1⟩
end Hd
namespace Hd
def exS:Sa.aL:=⟨[⟨3,10⟩,⟨5,4⟩],2,[⟨0,10⟩,⟨0,15⟩,⟨1,8⟩],[40,20]⟩
def fW:aV:=⟨Hh,vV,exS⟩
def Y8:bL:=[108,111,115,115]
def Y7:bL:=[119,104,101,110,32,108,111,115,115,32,62,32,53,48,32,116,104,101,110,32,109,101,110,100,101,114,115,32,50]
def Y6:bL:=[119,104,101,110,32,115,97,102,101,32,61,32,49,32,116,104,101,110,32,119,105,110,100,32,48,32,57]
def Y5:bL:=[104,101,97,118,121,32,49,32,49,49]
def Y4:bL:=[110,101,101,100]
def Ea:bL:=[119,104,101,110,32,98,117,121,32,62,32,57,32,116,104,101,110,32,98,97,114,114,101,108,32,49]
def Y3:bL:=[115,97,105,108]
def Zg:bL:=[53,56]
def Zf:bL:=[111,107,32,48,58,111,107]
def Ze:bL:=[111,107]
def Zd:bL:=[111,107,32,49,58,111,107]
def Zb:bL:=[48,32,55,32,48]
def Za:bL:=[111,107]
def Y9:bL:=[119,104,97,116]
def gD:List bL:=[Y8,Y7,Y6,Y5,Y4,Ea,Y3]
def jR:List bL:=[Zg,Zf,Ze,Zd,Zb,Za,Y9]
theorem Hg:(pN (gQ fW) gD).2=jR:=by decide +kernel
theorem Ud:(pN (gQ fW) gD).1.ax.ai.m=2:=by decide +kernel
theorem Ri:(pN (gQ fW) gD).1.ax.aD.aN.lo=0/\(pN (gQ fW) gD).1.ax.aD.aN.hi=9:=by decide +kernel
theorem Rj:(pN (gQ fW) gD).1.aB.map (·.line)=[Ea]:=by decide +kernel
theorem Oo:aG fW=true:=by decide +kernel
end Hd
end Go.Proofs.YtcjjlikhlmfedaaGreatDoor
