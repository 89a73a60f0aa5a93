/- A part of the proof that a law of layer 12 holds, cut small by a program (names and blanks): HdP1, St, SaP1. -/
import Derived.Lib.AtoiAll
import Derived.Lib.Atoi
import Derived.Lib.ItoaNum
import Derived.Lib.OthersKept
import Derived.Lib.Builder
import Derived.Lib.AppendStr
import Derived.Lib.UnsafeStr
import Derived.Laws.Externs
import Derived.Laws.RangeAny
import Derived.BigRegion
import Derived.Test.YtpnnapeoanafdaaGreatDoorZ1
set_option maxRecDepth 100000
set_option maxHeartbeats 40000000
set_option linter.unusedVariables false
set_option linter.unusedSimpArgs false
namespace Go.Proofs.YtpnnapeoanafdaaGreatDoor
open Go.RowKit
open Nat renaming le_trans → nT, le_refl → nR, le_of_lt → nS
open Go.Proofs.Tryz renaming prog → nH
open Go renaming World → nJ, Value → nK
namespace Hd
abbrev aQ:=List UInt8
def aS:List UInt8->List aQ
 |[]=>[[]]
 |b::r=>if b=32 then[]::aS r else match aS r with
  |[]=>[[b]]
  |w::ws=>(b::w)::ws
theorem gQ(s:List UInt8):aS s≠[]:=by
 cases s with
 |nil=>simp[aS]
 |cons b r=>
  unfold aS
  split
  ·simp
  ·split<;>simp
def Oa(b:UInt8):List aQ->List aQ
 |[]=>[[b]]
 |[w]=>[w++[b]]
 |w::ws=>w::Oa b ws
theorem zw(s:List UInt8)(b:UInt8):aS (s++[b])=if b=32 then aS s++[[]] else Oa b (aS s):=by
 induction s with
 |nil=>
  by_cases hb:b=32<;>simp[aS,hb,Oa]
 |cons x r ih=>
  rw[List.cons_append,aS,ih,aS]
  by_cases hb:b=32
  ·rw[if_pos hb,if_pos hb];by_cases hx:x=32
   ·rw[if_pos hx,if_pos hx];rfl
   ·rw[if_neg hx,if_neg hx];cases h:aS r with
    |nil=>exact absurd h (gQ r)
    |cons w ws=>rfl
  ·rw[if_neg hb,if_neg hb];by_cases hx:x=32
   ·rw[if_pos hx,if_pos hx];cases h:aS r with
    |nil=>exact absurd h (gQ r)
    |cons w ws=>rfl
   ·rw[if_neg hx,if_neg hx];cases h:aS r with
    |nil=>exact absurd h (gQ r)
    |cons w ws=>
     cases ws with
     |nil=>rfl
     |cons v vs=>rfl
theorem N9(b:UInt8)(ws:List aQ)(w:aQ):Oa b (ws++[w])=ws++[w++[b]]:=by
 induction ws with
 |nil=>rfl
 |cons v vs ih=>
  cases vs with
  |nil=>rfl
  |cons u us=>show v::Oa b (u::us++[w])=_;rw[ih];rfl
theorem gR(s:List UInt8):(aS s).length<=s.length+1/\∀w∈aS s,w.length<=s.length:=by
 induction s with
 |nil=>simp[aS]
 |cons b r ih=>
  unfold aS
  split
  ·simp only[List.length_cons];refine⟨nQ,fun w hw=>?_⟩;rcases List.mem_cons.1 hw with rfl|hw
   ·simp
   ·have:=ih.2 w hw;omega
  ·cases h:aS r with
   |nil=>exact absurd h (gQ r)
   |cons v vs=>
    rw[h] at ih
    simp only[List.length_cons] at *
    refine⟨nQ,fun w hw=>?_⟩
    rcases List.mem_cons.1 hw with rfl|hw
    ·have:=ih.2 v nV;simp;omega
    ·have:=ih.2 w (by simp[hw]);omega
def pn(w:aQ):aQ:=if w.head?=some 45 then w.tail else w
def qi(neg:Bool)(d:aQ):Bool:=decide (1<=d.length/\d.length<=6) && !(decide (d.head?=some 48)&&(decide (1<d.length)||neg))
def numOf(w:aQ):Option Int:=
 if qi (decide (w.head?=some 45)) (pn w)=true then (Lib.decFrom 0 (pn w)).map fun(n:Nat)=>if w.head?=some 45 then -(n:Int) else (n:Int) else none
theorem xJ{b:UInt8}{x:Nat}(h:Lib.digitVal b=some x):x<10/\b=UInt8.ofNat (48+x)/\b.toNat=48+x:=by
 unfold Lib.digitVal at h;split at h
 ·injection h with h;refine⟨nQ,?_,nQ⟩;rw[show 48+x=b.toNat by omega];simp
 ·cases h
theorem OD{x:Nat}(h:x<10):(UInt8.ofNat (48+x)).toNat=48+x:=by show(48+x) % 256=48+x;omega
theorem Iy{x:Nat}(h:x<10):Lib.digitVal (UInt8.ofNat (48+x))=some x:=by have:=OD h;unfold Lib.digitVal;rw[this,if_pos nQ];congr 1;omega
theorem wz(l:aQ)(b:UInt8)(acc:Nat):Lib.decFrom acc (l++[b])=(Lib.decFrom acc l).bind fun n=>(Lib.digitVal b).map fun d=>n*10+d:=by
 induction l generalizing acc with
 |nil=>
  simp only[List.nil_append,Lib.decFrom]
  cases Lib.digitVal b<;>rfl
 |cons x r ih=>
  simp only[List.cons_append,Lib.decFrom]
  cases Lib.digitVal x with
  |none=>rfl
  |some d=>exact ih _
theorem UG{α:Type}{p:List α->Prop}(h0:p [])(h1:∀l x,p l->p (l++[x]))(l:List α):p l:=by
 obtain⟨r,rfl⟩:∃r:List α,l=r.reverse:=⟨l.reverse,nV⟩;induction r with
 |nil=>exact h0
 |cons x r ih=>rw[List.reverse_cons];exact h1 _ _ ih
theorem Lw(d:aQ):∀n,d≠[]->(d.head?=some 48->d.length=1)->Lib.decFrom 0 d=some n->Lib.decDigits n=d/\(d.head?≠some 48->0<n)/\n<10 ^ d.length:=by
 induction d using UG with
 |h0=>intro n h;exact absurd rfl h
 |h1 l b ih=>
  intro n _ hz hd
  rw[wz] at hd
  cases hl:Lib.decFrom 0 l with
  |none=>rw[hl] at hd;cases hd
  |some v=>
   rw[hl] at hd
   simp only[Option.bind_some,Option.map_eq_some_iff] at hd
   obtain⟨x,hx,rfl⟩:=hd
   obtain⟨hx9,hb,hbn⟩:=xJ hx
   by_cases jA:l=[]
   ·subst jA;simp only[Lib.decFrom,Option.some.injEq] at hl;subst hl;rw[show 0*10+x=x by omega];refine⟨?_,?_,by simp;omega⟩
    ·rw[Lib.decDigits,dif_pos hx9,hb];rfl
    ·intro h;rcases Nat.eq_zero_or_pos x with rfl|h'
     ·exact absurd (by simp[hb]) h
     ·exact h'
   ·have hh:(l++[b]).head?=l.head?:=by cases l with
     |nil=>exact absurd rfl jA
     |cons y ys=>rfl
    rw[hh] at hz ⊢;have hl1:l.head?≠some 48:=fun h=>by have:=hz h;rw[List.length_append] at this;simp at this;exact jA this
    obtain⟨i1,i2,i3⟩:=ih v jA (fun h=>absurd h hl1) hl;have hv:=i2 hl1;refine⟨?_,fun _=>by omega,?_⟩
    ·rw[Lib.decDigits,dif_neg nQ,show(v*10+x) / 10=v by omega,show(v*10+x) % 10=x by omega,i1,hb]
    ·rw[List.length_append,List.length_cons,List.length_nil,Nat.pow_succ];omega
theorem dQ(n:Nat):Lib.decFrom 0 (Lib.decDigits n)=some n/\Lib.decDigits n≠[]/\((Lib.decDigits n).head?=some 48->n=0)/\(∀b∈Lib.decDigits n,48<=b.toNat/\b.toNat<=57)/\(∀k,n<10 ^ (k+1)->(Lib.decDigits n).length<=k+1):=by
 induction n using Nat.strongRecOn with
 |_ n ih=>
  by_cases h:n<10
  ·rw[Lib.decDigits,dif_pos h];have e:=OD h;refine⟨?_,nV,?_,?_,?_⟩
   ·simp only[Lib.decFrom];rw[Iy h];simp
   ·intro h1;simp only[List.head?_cons,Option.some.injEq] at h1;have:=congrArg UInt8.toNat h1;rw[e] at this;simp at this;exact this
   ·intro b hb;simp only[List.mem_singleton] at hb;rw[hb,e];omega
   ·intro k _;simp
  ·obtain⟨i1,i2,i3,i4,i5⟩:=ih (n / 10) nQ;rw[Lib.decDigits,dif_neg h];have e:=OD (x:=n % 10) nQ;refine⟨?_,nV,?_,?_,?_⟩
   ·rw[wz,i1,Iy nQ];simp;omega
   ·intro h1;cases hd:Lib.decDigits (n / 10) with
    |nil=>exact absurd hd i2
    |cons y ys=>
     rw[hd] at h1 i3
     have:=i3 h1
     omega
   ·intro b hb;rcases List.mem_append.1 hb with hb|hb
    ·exact i4 b hb
    ·simp only[List.mem_singleton] at hb;rw[hb,e];omega
   ·intro k hk;cases k with
    |zero=>simp at hk;omega
    |succ k=>
     have:=i5 k (by rw[Nat.pow_succ] at hk;omega)
     simp only[List.length_append,List.length_cons,List.length_nil];omega
theorem AU(n:Nat):(Lib.decDigits n).head?≠some 45:=by
 obtain⟨_,h2,_,h4,_⟩:=dQ n;cases hd:Lib.decDigits n with
 |nil=>exact absurd hd h2
 |cons y ys=>
  rw[hd] at h4
  have:=h4 y nV
  intro h
  simp only[List.head?_cons,Option.some.injEq] at h
  subst h
  revert this;decide
theorem jF{w:aQ}{n:Int}:numOf w=some n↔w=Lib.itoa n/\-1000000<n/\n<1000000:=by
 unfold numOf qi;constructor
 ·intro h;split at h
  ·rename_i hd;simp only[Bool.and_eq_true,decide_eq_true_eq,Bool.not_eq_true',Bool.and_eq_false_iff,decide_eq_false_iff_not,Bool.or_eq_false_iff] at hd;obtain⟨⟨h1,h6⟩,hz⟩:=hd;simp only[Option.map_eq_some_iff] at h;obtain⟨u,hu,rfl⟩:=h;have hne:pn w≠[]:=by intro e;rw[e] at h1;simp at h1
   have hz1:(pn w).head?=some 48->(pn w).length=1:=by
    intro e;rcases hz with hz|⟨hz,_⟩
    ·exact absurd e hz
    ·omega
   obtain⟨e1,e2,e3⟩:=Lw (pn w) u hne hz1 hu;have hu6:u<1000000:=by have:10 ^ (pn w).length<=10 ^ 6:=Nat.pow_le_pow_right nQ h6;omega
   by_cases hm:w.head?=some 45
   ·rw[if_pos hm];have uq:(pn w).head?≠some 48:=by
     rcases hz with hz|⟨_,hz⟩
     ·exact hz
     ·exact absurd hm hz
    have:=e2 uq;refine⟨?_,nQ,nQ⟩;unfold Lib.itoa;rw[if_pos nQ,show(-(u:Int)).natAbs=u by omega,e1];unfold pn;rw[if_pos hm];cases w with
    |nil=>cases hm
    |cons x xs=>simp only[List.head?_cons,Option.some.injEq] at hm;subst hm;rfl
   ·rw[if_neg hm];refine⟨?_,nQ,nQ⟩;unfold Lib.itoa;rw[if_neg nQ,show((u:Int)).toNat=u by omega,e1];unfold pn;rw[if_neg hm]
  ·cases h
 ·rintro⟨rfl,hlo,hhi⟩;unfold Lib.itoa;by_cases hn:n<0
  ·rw[if_pos hn];obtain⟨a1,a2,a3,a4,a5⟩:=dQ n.natAbs;have hl:=a5 5 nQ;have hl1:1<=(Lib.decDigits n.natAbs).length:=by
    cases hd:Lib.decDigits n.natAbs with
    |nil=>exact absurd hd a2
    |cons y ys=>simp
   have hh:(Lib.decDigits n.natAbs).head?≠some 48:=fun h=>by have:=a3 h;omega
   simp only[pn,List.head?_cons,if_true,List.tail_cons];rw[if_pos (by simp[hl1,hl,hh]),a1];simp;omega
  ·rw[if_neg hn];obtain⟨a1,a2,a3,a4,a5⟩:=dQ n.toNat;have hl:=a5 5 nQ;have hl1:1<=(Lib.decDigits n.toNat).length:=by
    cases hd:Lib.decDigits n.toNat with
    |nil=>exact absurd hd a2
    |cons y ys=>simp
   have h45:=AU n.toNat;simp only[pn,if_neg h45];rw[if_pos ?_,a1]
   ·simp;omega
   ·simp only[Bool.and_eq_true,decide_eq_true_eq,Bool.not_eq_true',Bool.and_eq_false_iff,decide_eq_false_iff_not,Bool.or_eq_false_iff,hl1,hl,h45,not_false_eq_true,and_true,true_and];by_cases h0:(Lib.decDigits n.toNat).head?=some 48
    ·have:=a3 h0;rw[this];right;rw[Lib.decDigits];simp
    ·exact .inl h0
theorem CN(l:aQ):∀acc n,acc*10 ^ l.length+10 ^ l.length<=1000000000000->Lib.decFrom acc l=some n->Lib.parseUint10 acc l=.ok n:=by
 induction l with
 |nil=>intro acc n _ h;simp only[Lib.decFrom,Option.some.injEq] at h;subst h;rfl
 |cons b r ih=>
  intro acc n hb h
  simp only[Lib.decFrom] at h
  cases hx:Lib.digitVal b with
  |none=>rw[hx] at h;cases h
  |some x=>
   rw[hx] at h
   obtain⟨x9,_,hbn⟩:=xJ hx
   simp only[Lib.parseUint10]
   have h1:1<=10 ^ r.length:=Nat.one_le_pow _ _ nU
   rw[List.length_cons,Nat.pow_succ] at hb
   have h2:acc*(10 ^ r.length*10)=acc*10*10 ^ r.length:=by rw[Nat.mul_comm (10 ^ r.length) 10,Nat.mul_assoc]
   have h3:acc*10<=acc*10*10 ^ r.length:=Nat.le_mul_of_pos_right _ h1
   rw[if_pos nQ,if_neg nQ,if_neg nQ,show b.toNat-48=x by omega]
   refine ih _ _ ?_ h
   rw[Nat.add_mul]
   have h4:x*10 ^ r.length<=9*10 ^ r.length:=Nat.mul_le_mul_right _ nQ
   omega
theorem DB{n:Int}(h:-1000000<n/\n<1000000):Lib.atoiAll (Lib.itoa n)=.ok n:=by
 unfold Lib.itoa;by_cases hn:n<0
 ·rw[if_pos hn];obtain⟨a1,a2,a3,a4,a5⟩:=dQ n.natAbs;have hl:=a5 5 nQ;have hp:=CN (Lib.decDigits n.natAbs) 0 _ (by
   have:10 ^ (Lib.decDigits n.natAbs).length<=10 ^ 6:=Nat.pow_le_pow_right nQ hl
   omega) a1
  unfold Lib.atoiAll;simp only[show((45:UInt8).toNat=43\/(45:UInt8).toNat=45) from .inr rfl,if_true,Lib.parseMag,if_neg a2,hp];rw[if_neg nV,if_neg (by simp;omega)];simp;omega
 ·rw[if_neg hn];obtain⟨a1,a2,a3,a4,a5⟩:=dQ n.toNat;have hl:=a5 5 nQ;have hp:=CN (Lib.decDigits n.toNat) 0 _ (by
   have:10 ^ (Lib.decDigits n.toNat).length<=10 ^ 6:=Nat.pow_le_pow_right nQ hl
   omega) a1
  cases hd:Lib.decDigits n.toNat with
  |nil=>exact absurd hd a2
  |cons y ys=>
   rw[hd] at a4 hp
   have hy:=a4 y nV
   unfold Lib.atoiAll
   simp only[show ¬(y.toNat=43\/y.toNat=45) by omega,if_false,Lib.parseMag,hp]
   show(if ¬y.toNat=45/\9223372036854775808<=n.toNat then Lib.NumEnd.range else if y.toNat=45/\9223372036854775808<n.toNat then Lib.NumEnd.range else Lib.NumEnd.ok (if y.toNat=45 then -(n.toNat:Int) else (n.toNat:Int)))=_
   rw[if_neg nQ,if_neg nQ,if_neg nQ]
   congr 1;omega
theorem RO{n:Int}(h:-1000000<n/\n<1000000):(pn (Lib.itoa n)).length<=6:=by
 unfold Lib.itoa pn;by_cases hn:n<0
 ·rw[if_pos hn];simpa using (dQ n.natAbs).2.2.2.2 5 nQ
 ·rw[if_neg hn,if_neg (AU _)];exact(dQ n.toNat).2.2.2.2 5 nQ
theorem GK{w:aQ}{v:Int}:(w=Lib.itoa v/\(pn w).length<=6)↔numOf w=some v:=by
 rw[jF];constructor
 ·rintro⟨h1,h2⟩;refine⟨h1,?_⟩;subst h1;unfold Lib.itoa pn at h2;by_cases hn:v<0
  ·rw[if_pos hn] at h2;simp only[List.head?_cons,if_true,List.tail_cons] at h2;have h3:=(Lw _ v.natAbs (dQ _).2.1 (fun h=>by have:=(dQ _).2.2.1 h;omega) (dQ v.natAbs).1).2.2;have:10 ^ (Lib.decDigits v.natAbs).length<=10 ^ 6:=Nat.pow_le_pow_right nQ h2;omega
  ·rw[if_neg hn,if_neg (AU _)] at h2;have h3:=(Lw _ v.toNat (dQ _).2.1 (fun h=>by rw[(dQ _).2.2.1 h,Lib.decDigits];simp) (dQ v.toNat).1).2.2;have:10 ^ (Lib.decDigits v.toNat).length<=10 ^ 6:=Nat.pow_le_pow_right nQ h2;omega
 ·rintro⟨rfl,h1,h2⟩;exact⟨rfl,RO ⟨h1,h2⟩⟩
def cQ:List aQ->Option (List Int)
 |[]=>some []
 |w::ws=>match numOf w with
  |none=>none
  |some n=>(cQ ws).map (n :: ·)
theorem mZ{ws:List aQ}:∀ {a:List Int},cQ ws=some a->a.length=ws.length:=by
 induction ws with
 |nil=>intro a h;simp only[cQ,Option.some.injEq] at h;subst h;rfl
 |cons w ws ih=>
  intro a h
  rw[cQ] at h
  cases hn:numOf w with
  |none=>rw[hn] at h;cases h
  |some n=>
   rw[hn] at h
   simp only[Option.map_eq_some_iff] at h
   obtain⟨b,hb,rfl⟩:=h
   simp[ih hb]
theorem CQ(ws:List aQ)(w:aQ):cQ (ws++[w])=(cQ ws).bind fun a=>(numOf w).map fun n=>a++[n]:=by
 induction ws with
 |nil=>rw[List.nil_append];simp only[cQ,Option.bind_some];cases numOf w<;>rfl
 |cons v vs ih=>
  rw[List.cons_append,cQ,cQ,ih]
  cases numOf v with
  |none=>rfl
  |some n=>cases cQ vs with
   |none=>rfl
   |some a=>cases numOf w<;>rfl
theorem Ky{ws:List aQ}:∀ {a:List Int},cQ ws=some a->∀x∈a,-1000000<x/\x<1000000:=by
 induction ws with
 |nil=>intro a h x hx;simp only[cQ,Option.some.injEq] at h;subst h;cases hx
 |cons w ws ih=>
  intro a h x hx
  rw[cQ] at h
  cases hn:numOf w with
  |none=>rw[hn] at h;cases h
  |some n=>
   rw[hn] at h
   simp only[Option.map_eq_some_iff] at h
   obtain⟨b,hb,rfl⟩:=h
   rcases List.mem_cons.1 hx with rfl|hx
   ·exact(jF.1 hn).2
   ·exact ih hb x hx
inductive Wd where
 |aP
 |current
 |gJ
 |af
 |mV
 |dY
 |eE
 |part
 |fG
 |safe
 |gr
 |jl
 |done
 |fV
 |yB
 |early
 |nD
 |order
 |pack
 |forget
deriving DecidableEq
def cF:Wd->aQ
 |.aP=>[119,105,110,100]
 |.current=>[99,117,114,114,101,110,116]
 |.gJ=>[104,101,97,118,121]
 |.af=>[116,111,114,110]
 |.mV=>[114,111,112,101]
 |.dY=>[109,101,110,100,101,114,115]
 |.eE=>[109,101,110,100,101,100]
 |.part=>[112,97,114,116]
 |.fG=>[98,97,114,114,101,108]
 |.safe=>[115,97,102,101]
 |.gr=>[115,116,111,114,109]
 |.jl=>[108,111,115,115]
 |.done=>[100,111,110,101]
 |.fV=>[115,97,108,116]
 |.yB=>[98,117,121]
 |.early=>[101,97,114,108,121]
 |.nD=>[110,101,101,100]
 |.order=>[111,114,100,101,114]
 |.pack=>[112,97,99,107]
 |.forget=>[102,111,114,103,101,116]
def aeo:List Wd:=[.aP,.current,.gJ,.af,.mV,.dY,.eE,.part,.fG,.safe,.gr,.jl,.done,.fV,.yB,.early,.nD,.order,.pack,.forget]
def tS:Wd->Nat
 |.aP=>2
 |.current=>2
 |.gJ=>2
 |.af=>4
 |.mV=>2
 |.dY=>1
 |.eE=>0
 |.part=>2
 |.fG=>1
 |.safe=>0
 |.gr=>0
 |.jl=>0
 |.done=>0
 |.fV=>0
 |.yB=>0
 |.early=>1
 |.nD=>0
 |.order=>0
 |.pack=>0
 |.forget=>1
def cg:Wd->Nat
 |.aP=>1
 |.current=>1
 |.gJ=>1
 |.af=>1
 |.mV=>1
 |.dY=>1
 |.eE=>1
 |.part=>1
 |.fG=>1
 |.safe=>2
 |.gr=>2
 |.jl=>2
 |.done=>2
 |.fV=>2
 |.yB=>2
 |.early=>2
 |.nD=>3
 |.order=>3
 |.pack=>3
 |.forget=>5
def fJ:aQ:=[119,104,101,110]
def eY:aQ:=[116,104,101,110]
def jO(t:aQ):Option Wd:=aeo.find? fun d=>decide (cF d=t)
theorem dn{t:aQ}{d:Wd}:jO t=some d↔t=cF d:=by
 constructor
 ·intro h;have:=List.find?_some h;simpa using (of_decide_eq_true this).symm
 ·rintro rfl;cases d<;>decide
structure eB where
 w:Wd
 a:List Int
deriving DecidableEq
def pV(d:Option Wd)(a:Option (List Int)):Option eB:=d.bind fun d=>a.bind fun a=>if a.length=tS d then some ⟨d,a⟩ else none
def bJ:List aQ->Option eB
 |[]=>none
 |t::r=>pV (jO t) (cQ r)
theorem EV{ws:List aQ}{c:eB}:bJ ws=some c↔∃r,ws=cF c.w::r/\cQ r=some c.a/\c.a.length=tS c.w:=by
 constructor
 ·intro h;cases ws with
  |nil=>cases h
  |cons t r=>
   unfold bJ pV at h
   simp only[Option.bind_eq_some_iff] at h
   obtain⟨d,h1,a,h2,h⟩:=h
   split at h
   ·injection h with h;subst h;exact⟨r,by rw[dn.1 h1],h2,nZ⟩
   ·cases h
 ·rintro⟨r,rfl,h1,h2⟩;show pV (jO (cF c.w)) (cQ r)=some c;unfold pV;rw[dn.2 rfl,h1];simp only[Option.bind_some,if_pos h2]
inductive ql where
 |none
 |cmd (c:eB)
 |ord (q:eB) (sign:UInt8) (num:Int) (c:eB)
deriving DecidableEq
def fM(t:aQ):List aQ->Option Nat
 |[]=>none
 |w::ws=>if w=t then some 0 else (fM t ws).map (· + 1)
def kC(t:aQ):Option UInt8:=if t=[60] then some 60 else if t=[61] then some 61 else if t=[62] then some 62 else none
def oK(ws:List aQ)(k:Nat):ql:=
 match bJ ((ws.take (k-2)).drop 1),kC (nth ws (k-2)),numOf (nth ws (k-1)),bJ (ws.drop (k+1)) with
 |some q,some s,some n,some c=>if cg q.w=2/\cg c.w=1 then .ord q s n c else .none
 |_,_,_,_=>.none
def dH(ws:List aQ):ql:=
 if ws.head?=some fJ then match fM eY ws with
  |some k=>if k<4 then .none else oK ws k
  |none=>.none
 else match bJ ws with
  |some c=>.cmd c
  |none=>.none
def bH(t:aQ):ql:=dH (aS t)
end Hd
section
open Hd
theorem SM(s:ByteArray)(i:Nat)(h:i<s.size):s.data.toList[i]?=some (s[i]'h):=by have h':i<s.data.size:=h;rw[List.getElem?_eq_getElem (by simpa using h')];rfl
theorem FU(s:ByteArray):s.data.toList.length=s.size:=Array.length_toList
theorem Yr{P:Program}(w:nJ)(t:TypeId)(s:ByteArray)(k:IntKind)(i:Nat)(h:P.underlying t=some .string)(hi:i<s.size):(Instr.index t (.string s) (.int k i)).run P w=.ok (.int .u8 (s[i]'hi).toNat) w:=by rw[run_index_string w t s k i h,dif_pos ⟨nQ,nQ⟩];rfl
def str(l:aQ):ByteArray:=⟨l.toArray⟩
@[go_sem] theorem iL(l:aQ):(str l).data.toList=l:=by simp[str]
@[go_sem] theorem lI(l:aQ):(str l).size=l.length:=by simp[str,ByteArray.size]
theorem wV{a:ByteArray}{l:aQ}(h:a.data.toList=l):a=str l:=by subst h;cases a;simp[str]
theorem M9(s:ByteArray)(i j:Nat):(s.extract i j).data.toList=(s.data.toList.take j).drop i:=by rw[ByteArray.data_extract,Array.toList_extract,List.extract_eq_take_drop,List.drop_take]
theorem oF(s:ByteArray):s.toList=s.data.toList:=by rw[ByteArray.toList_eq]
theorem QH{P:Program}(w:nJ)(t:TypeId)(s:ByteArray)(k:IntKind)(j:Nat)(h:P.underlying t=some .string)(hj:j<=s.size):(Instr.slice t (.string s) none (some (.int k j)) none).run P w=.ok (.string (s.extract 0 j)) w:=by rw[run_slice_string_to_if w t s k j h,if_pos ⟨nQ,nQ⟩];rfl
theorem JL{P:Program}(w:nJ)(t:TypeId)(s:ByteArray)(k:IntKind)(i:Nat)(h:P.underlying t=some .string)(hi:i<=s.size):(Instr.slice t (.string s) (some (.int k i)) none none).run P w=.ok (.string (s.extract i s.size)) w:=by rw[run_slice_string_from_if w t s k i h,if_pos ⟨nQ,nQ⟩];rfl
theorem Wm(a b:ByteArray):(a++b).data.toList=a.data.toList++b.data.toList:=by rw[ByteArray.data_append,Array.toList_append]
theorem eA{P:Program}(w:nJ)(x y:aQ)(h:x.length+y.length<=100000):(Op.stringOp .add (str x) (str y)).run P w=.ok (.string (str (x++y))) w:=by rw[run_string_add_sum (P:=P) w (str x) (str y) (by rw[lI,lI];omega)];rw[wV (a:=str x++str y) (l:=x++y) (by rw[Wm,iL,iL])]
theorem IW(W:nJ)(g c:Nat)(b:UInt8)(h:W.cell? ⟨g,0,none⟩=some (.int .u8 b.toNat)):(convert 122 9 (.slice (some ⟨g,0,none⟩) 1 c)).run nH W=.ok (.string (str [b])) W:=by
 exact run_convert_bytes_back (P:=nH) W 122 9 5 ⟨g,0,none⟩ c [b] nP nP nP (fun j hj=>by
  obtain rfl:j=0:=by simpa using hj
  rw[show(⟨g,0,none⟩:Addr).add 0=⟨g,0,none⟩ by simp[Addr.add_lit],h]
  rfl)
def bS(t:aQ):List nK:=[.string (str t)]
theorem gP(t:aQ):(bS t).length=1:=rfl
theorem Sl.kK{B:Nat}{w:nJ}{A:Option Addr}{c:Nat}{ts:List aQ}(h:Sl bS B w A c ts){k:Nat}(hk:k<ts.length):∃b o,A=some ⟨b,o,none⟩/\b<B/\w.cell? ⟨b,o+k,none⟩=some (.string (str (nth ts k))):=by obtain⟨b,o,hA,hb,hc⟩:=h.at_ gP hk nQ;refine⟨b,o,hA,hb,?_⟩;have:=hc 0 (.string (str (nth ts k))) (by rw[bN _ hk];rfl);simpa using this
theorem rq{P:Program}(w:nJ)(t:TypeId)(k:IntKind)(l:aQ)(i:Int)(j:Nat)(hi:i=(j:Int))(b:UInt8)(h:P.underlying t=some .string)(hb:l[j]?=some b):(Instr.index t (.string (str l)) (.int k i)).run P w=.ok (.int .u8 b.toNat) w:=by
 subst hi;have hj:j<(str l).size:=by rw[lI];exact(List.getElem?_eq_some_iff.1 hb).1
 rw[Yr w t (str l) k j h hj];have h2:=SM (str l) j hj;rw[iL,hb] at h2;injection h2 with h2;rw[h2]
theorem SO{P:Program}(w:nJ)(t:TypeId)(k:IntKind)(l:aQ)(i:Int)(j:Nat)(hi:i=(j:Int))(m:aQ)(h:P.underlying t=some .string)(hj:j<=l.length)(hm:l.drop j=m):(Instr.slice t (.string (str l)) (some (.int k i)) none none).run P w=.ok (.string (str m)) w:=by subst hi;rw[JL w t (str l) k j h (by rw[lI];exact hj)];rw[wV (a:=(str l).extract j (str l).size) (l:=m)];rw[M9,List.take_of_length_le (by rw[FU];exact nR _),iL,hm]
theorem Xv{P:Program}(w:nJ)(t:TypeId)(k:IntKind)(l:aQ)(j:Nat)(m:aQ)(h:P.underlying t=some .string)(hj:j<=l.length)(hm:l.take j=m):(Instr.slice t (.string (str l)) none (some (.int k j)) none).run P w=.ok (.string (str m)) w:=by rw[QH w t (str l) k j h (by rw[lI];exact hj)];have e:(str l).extract 0 j=str m:=wV (by rw[M9,List.drop_zero,iL,hm]);rw[e]
theorem Uq(x y:aQ):((str x).toList==(str y).toList)=decide (x=y):=by
 rw[oF,oF,iL,iL];by_cases h:x=y
 ·subst h;simp
 ·simp[h]
theorem Ut:pE nH 40 9 (.string ⟨#[]⟩) 1 16:=pE.mk Tryz.underlying40 nP rfl nQ
theorem vV{w w':nJ}(h:Below w.heap.size w w'):∃δ,w'=ah w δ:=⟨w',(bV h).symm⟩
def BM(b base:Nat)(l:aQ)(w:nJ):Prop:=
 ∃p v,ay w b 204 #[.pointer p,v]/\(p=none\/p=some ⟨b,0,none⟩)/\w.ownsRow base 5 1 v l.length (Lib.byteCells l)
structure Rest(b base:Nat)(w w':nJ):Prop where
 eN:bI (fun k=>k=b\/base<=k) w w'
 row:∀k T cur fr,T≠5->k≠b->w.heap[k]?=some (.cells cur T fr)->w'.heap[k]?=some (.cells cur T fr)
theorem Rest.refl(b base:Nat)(w:nJ):Rest b base w w:=⟨bI.refl _ _,fun _ _ _ _ _ _ h=>h⟩
theorem Rest.trans{b base:Nat}{w1 w2 w3:nJ}(h:Rest b base w1 w2)(k:Rest b base w2 w3):Rest b base w1 w3:=⟨h.eN.trans k.eN,fun j T cur fr hT hj hh=>k.row j T cur fr hT hj (h.row j T cur fr hT hj hh)⟩
theorem wo{w:nJ}{k:Nat}{o:Obj}(h:w.heap[k]?=some o):k<w.heap.size:=(Array.getElem?_eq_some_iff.1 h).1
theorem Rest.set{b base:Nat}(w:nJ)(i:Nat)(u:nK):Rest b base w (w.setCell ⟨b,i,none⟩ u):=
 ⟨(bI.refl _ _).set (.inl rfl) i u,fun k _ _ _ _ hk hh=>(Below.heap_setCell w ⟨b,i,none⟩ u k hk).trans hh⟩
theorem Rest.grown{b base:Nat}{w w':nJ}{v:nK}{n:Nat}{xs:List nK}(hown:w.ownsRow base 5 1 v n xs)(hg:w.grownBy w' v.ownBlock):Rest b base w w':=by
 refine⟨⟨hg.size,hg.os,hg.tape,hg.output,fun k hk hs=>hg.block k hk fun e=>hs (.inr (hown.lt k e.symm).1)⟩,fun k T cur fr hT _ hh=>(hg.block k (wo hh) ?_).trans hh⟩;intro e;rcases hown.2 with⟨rfl,_⟩|⟨g,cap,cur',rfl,_,EH,_⟩
 ·simp[Value.ownBlock] at e
 ·have:k=g:=by simpa [Value.ownBlock] using e
  subst this;rw[hh] at EH;injection EH with EH;injection EH with _ ht;exact hT ht
theorem Uw:pE nH 122 5 (.int .u8 0) 1 1:=pE.mk Tryz.underlying122 nP rfl nQ
theorem IB(b base:Nat)(l:aQ)(w:nJ)(h:BM b base l w):Calls nH 203 #[.pointer (some ⟨b,0,none⟩)] w fun e w'=>e=.returned (.tuple #[])/\BM b base l w'/\Rest b base w w':=by
 obtain⟨p,v,hb,hp,hown⟩:=h;obtain⟨j,hj,hjs⟩:=Option.map_eq_some_iff.1 (show(Tryz.prog.info? 204).map (fun i=>i.size)=some 2 by kernel_rfl);have c0:=hb.cell (i:=0) (v:=.pointer p) rfl;have f0:=hb.free 0;have hsh:w.shape? b=some (204,2):=by unfold ay at hb;simp[World.shape?,hb]
 have Dh:(w.setCell ⟨b,0,none⟩ (.pointer (some ⟨b,0,none⟩))).ownsRow base 5 1 v l.length (Lib.byteCells l):=by refine cZ hown ?_;intro e;exact Lib.ownBlock_ne hown hb nU e
 have HO:=qh hown;have xO:=qh Dh;have HB:=qh hb;have ib:=hb.lt;clear hown Dh hb;rcases hp with rfl|rfl
 ·go_enter Tryz.func203,Tryz.ntmps203;go_wp2;rw[Lib.run_to_unsafe w ⟨b,0,none⟩ (t:=204) nP nP hj (by rw[hjs];decide) hsh (Nat.zero_lt_succ 1)];simp only[Result.andThen];rw[Oper.upon_value];go_wp2;rw[run_callFunc_extern Tryz.func248 nP nP nP (e:=Extern.AbiNoEscape.same) nP,Lib.run_noEscape];simp only[Result.andThen];rw[Oper.upon_value];go_wp2;rw[Lib.run_from_unsafe w ⟨b,0,none⟩ (u:=204) nP nP hj hsh nP];simp only[Result.andThen];rw[Oper.upon_value];go_wp2;go_end0;exact⟨rfl,⟨_,v,HB.out.set 0 _,.inr rfl,xO.out⟩,Rest.set _ _ _⟩
 ·go_enter Tryz.func203,Tryz.ntmps203;go_wp2;rw[Lib.run_neq_ptr_same w _ (te:=204) nP hj];go_wp2;go_end0;exact⟨rfl,⟨_,v,HB.out,.inr rfl,HO.out⟩,Rest.refl _ _ _⟩
theorem UY{b base:Nat}{v:nK}{n:Nat}{xs:List nK}{w:nJ}{cs:Array nK}(hown:w.ownsRow base 5 1 v n xs)(hb:ay w b 204 cs)(i:Nat)(u:nK):(w.setCell ⟨b,i,none⟩ u).ownsRow base 5 1 v n xs:=
 cZ hown (fun e=>Lib.ownBlock_ne hown hb nU e)
theorem BQ(b base:Nat)(l:aQ)(s:ByteArray)(y:aQ)(hy:s.data.toList=y)(w:nJ)(h:BM b base l w)(hl:l.length<=100000)(hyl:y.length<=100000)(hbase:base<=w.heap.size):Calls nH 136 #[.pointer (some ⟨b,0,none⟩),.string s] w fun e w'=>e=.returned (.tuple #[.int .i64 s.size,.nilIface])/\BM b base (l++y) w'/\Rest b base w w':=by
 obtain⟨i0,ht,hi,hz,hsize,hby,_,_⟩:=Uw;have hsz:s.size=y.length:=by rw[<-hy,FU]
 have HY:=qh hy;have H:=qh h;clear h hy;go_enter Tryz.func136,Tryz.ntmps136;go_wp2_with (go_at_call 203;refine(IB b base l _ H.out).mono ?_);rintro e w1 ⟨rfl,h1,r1⟩;obtain⟨p,v,hb,hp,hown⟩:=h1;have hs1:base<=w1.heap.size:=nT hbase r1.eN.size;obtain⟨A,cap,rfl⟩:=qy hown;have c1:=hb.cell (i:=1) (v:=.slice A l.length cap) rfl;have ib:=hb.lt;have HB:=qh hb;have HO:=qh hown;have R1:=qh r1;have HP:=qh hp;have HZ:=qh hsz;clear hb hown r1 hp hsz;go_wp2_with (at_builtin;refine Lib.wpList_append_own_string _ rfl _ _ 122 9 rfl base 5 i0 ht nP hi hz hsize hby _ _ _ rfl HO.out s rfl ?c3 ?c4 ?c5 ?_);case c3=>have:=HZ.out;unfold maxLen;omega
 case c4=>have:=HZ.out;omega
 case c5=>omega
 intro v' w2 hown' hgrow _;have r2:Rest b base w1 w2:=Rest.grown HO.out hgrow;have fX:ay w2 b 204 #[.pointer p,.slice A l.length cap]:=(hgrow.block b HB.out.tN (fun e=>Lib.ownBlock_ne HO.out HB.out nU e.symm)).trans HB.out;obtain⟨A',c',rfl⟩:=qy hown';have d1:=fX.cell (i:=1) (v:=.slice A l.length cap) rfl;have f1:=fX.free 1;have ib2:=fX.lt;have Bw:=qh fX;have R2:=qh r2;have xO:Hid (w2.ownsRow base 5 1 (.slice A' (l.length+s.size) c') (l.length+s.size) (Lib.byteCells (l++y))):=qh (by rw[Lib.byteCells_append,<-HY.out];exact hown');clear fX r2 hown' hgrow;go_wp2;go_ret2;refine⟨rfl,⟨p,.slice A' (l.length+s.size) c',?_,HP.out,?_⟩,R1.out.trans (R2.out.trans (Rest.set _ _ _))⟩
 ·exact Bw.out.set 1 _
 ·have:=UY xO.out Bw.out 1 (.slice A' (l.length+s.size) c');rw[HZ.out] at this;rw[List.length_append,HZ.out];exact this
end
namespace Sa
structure Kind where
 fV:Int
 days:Int
structure Part where
 kind:Int
 bG:Int
structure aJ where
 kinds:List Kind
 floor:Int
 parts:List Part
 bars:List Int
instance:Inhabited Kind:=⟨⟨0,0⟩⟩
instance:Inhabited Part:=⟨⟨0,0⟩⟩
def oN(k:Kind):Bool:=fH 0 9 k.fV&&fH 0 20 k.days
def mH(n:Int)(p:Part):Bool:=fH 0 (n-1) p.kind&&fH 0 40 p.bG
def oM(h:aJ):Bool:=decide (h.kinds.length<=3)&&fH 0 9 h.floor&&decide (h.parts.length<=6)&&decide (h.bars.length<=4)
def valid(h:aJ):Bool:=oM h&&h.kinds.all oN&&h.parts.all (mH h.kinds.length)&&h.bars.all (fH 0 99)
theorem aC{h:aJ}:valid h=true↔(h.kinds.length<=3/\(0<=h.floor/\h.floor<=9)/\h.parts.length<=6/\h.bars.length<=4)/\(∀k∈h.kinds,(0<=k.fV/\k.fV<=9)/\(0<=k.days/\k.days<=20))/\(∀p∈h.parts,(0<=p.kind/\p.kind<=(h.kinds.length:Int)-1)/\(0<=p.bG/\p.bG<=40))/\∀b∈h.bars,0<=b/\b<=99:=by simp only[valid,oM,oN,mH,Bool.and_eq_true,decide_eq_true_eq,List.all_eq_true,cX,and_assoc]
structure jJ where
 parts:Int
 bG:Int
 dP:Int
 days:Int
def Qw:jJ:=⟨0,0,0,0⟩
def kindOf(h:aJ)(p:Part):Kind:=nth h.kinds p.kind.toNat
def oR(h:aJ)(c:jJ)(p:Part):jJ:=⟨c.parts+1,c.bG+p.bG,max c.dP (kindOf h p).fV,max c.days (kindOf h p).days⟩
def ir(floor:Int)(c:jJ):Int:=if c.parts=0 then 0 else floor+(c.bG*c.dP+9) / 10
def nN(l:List Int)(b:Int):List Nat:=(List.range l.length).filter fun i=>decide (nth l i=b)
def fy(h:aJ)(is:List Nat):jJ:=is.foldl (fun c i=>oR h c (nth h.parts i)) Qw
def jf(h:aJ)(l:List Int)(b:Int):jJ:=fy h (nN l b)
theorem rF(h:aJ)(is:List Nat)(i:Nat):fy h (is++[i])=oR h (fy h is) (nth h.parts i):=by simp[fy]
theorem zV{α:Type}[Inhabited α](l r:List α){i:Nat}(h:i<l.length):nth (l++r) i=nth l i:=by unfold nth;rw[List.getD_eq_getElem?_getD,List.getD_eq_getElem?_getD,List.getElem?_append_left h]
theorem zW{α:Type}[Inhabited α](l:List α)(x:α)(r:List α):nth (l++x::r) l.length=x:=by unfold nth;rw[List.getD_eq_getElem?_getD,List.getElem?_append_right (nR _)];simp
theorem Ho(l:List Int)(x b:Int):nN (l++[x]) b=nN l b++if x=b then[l.length] else[]:=by
 unfold nN;rw[List.length_append,List.length_cons,List.length_nil,Nat.zero_add,List.range_succ,List.filter_append];congr 1
 ·refine List.filter_congr fun i hi=>?_;rw[zV _ _ (List.mem_range.1 hi)]
 ·rw[List.filter_cons,zW];by_cases hx:x=b<;>simp[hx]
theorem Dv(h:aJ)(l:List Int)(x b:Int):jf h (l++[x]) b=if x=b then oR h (jf h l b) (nth h.parts l.length) else jf h l b:=by
 unfold jf;rw[Ho];by_cases hx:x=b
 ·rw[if_pos hx,if_pos hx,rF]
 ·rw[if_neg hx,if_neg hx,List.append_nil]
theorem MP{l:List Int}{b:Int}{i:Nat}:i∈nN l b↔i<l.length/\nth l i=b:=by simp[nN]
def Fair(n:Int)(c:jJ):Prop:=(0<=c.parts/\c.parts<=n)/\(0<=c.bG/\c.bG<=40*n)/\(0<=c.dP/\c.dP<=9)/\(0<=c.days/\c.days<=20)
theorem PC:Fair 0 Qw:=⟨⟨nU,nU⟩,⟨nU,nU⟩,⟨nU,nU⟩,nU,nU⟩
theorem qF{h:aJ}(hv:valid h=true){p:Part}(hp:p∈h.parts):p.kind.toNat<h.kinds.length/\(0<=(kindOf h p).fV/\(kindOf h p).fV<=9)/\(0<=(kindOf h p).days/\(kindOf h p).days<=20):=by have hv:=aC.1 hv;have h1:=hv.2.2.1 p hp;have hlt:p.kind.toNat<h.kinds.length:=nQ;exact⟨hlt,hv.2.1 _ (aR _ hlt)⟩
theorem SY{h:aJ}(hv:valid h=true){n:Int}{c:jJ}{p:Part}(hp:p∈h.parts)(hc:Fair n c):Fair (n+1) (oR h c p):=by obtain⟨_,k1,k2⟩:=qF hv hp;have p2:=((aC.1 hv).2.2.1 p hp).2;unfold Fair oR at *;simp only[];omega
theorem PD{m n:Int}{c:jJ}(h:Fair m c)(hmn:m<=n):Fair n c:=by unfold Fair at *;omega
theorem qJ{h:aJ}(hv:valid h=true)(is:List Nat)(hi:∀i∈is,i<h.parts.length):Fair is.length (fy h is):=by
 obtain⟨r,rfl⟩:∃r:List Nat,is=r.reverse:=⟨is.reverse,nV⟩;induction r with
 |nil=>exact PC
 |cons i r ih=>
  rw[List.reverse_cons,rF,List.length_append,List.length_cons,List.length_nil]
  exact SY hv (aR _ (hi i nV)) (ih fun j hj=>hi j (by simp at hj ⊢;exact .inl hj))
theorem EB(l:List Int)(b:Int):(nN l b).length<=l.length:=by have:=List.length_filter_le (fun i=>decide (nth l i=b)) (List.range l.length);rwa [List.length_range] at this
theorem fD{h:aJ}(hv:valid h=true){l:List Int}(hl:l.length<=h.parts.length)(b:Int):Fair 6 (jf h l b):=
 PD (qJ hv _ fun i hi=>by have:=(MP.1 hi).1;omega) (by have:=EB l b;have:=(aC.1 hv).1.2.2.1;omega)
theorem zZ{a b A B:Int}(ha:0<=a/\a<=A)(hb:0<=b/\b<=B):0<=a*b/\a*b<=A*B:=
 ⟨Int.mul_nonneg ha.1 hb.1,Int.mul_le_mul ha.2 hb.2 hb.1 nQ⟩
theorem oy{f:Int}(hf:0<=f/\f<=9){c:jJ}(hc:Fair 6 c):0<=ir f c/\ir f c<=300:=by have:=zZ hc.2.1 hc.2.2.1;unfold ir;split<;>omega
theorem QM{h:aJ}(hv:valid h=true){c:jJ}{n:Int}{p:Part}(hp:p∈h.parts)(hc:Fair n c):ir h.floor c<=ir h.floor (oR h c p)/\c.bG<=(oR h c p).bG:=by
 obtain⟨_,k1,k2⟩:=qF hv hp;have p2:=((aC.1 hv).2.2.1 p hp).2;have hf:=(aC.1 hv).1.2.1;have e1:(oR h c p).parts≠0:=by have:=hc.1;simp only[oR];omega
 have e2:c.bG<=(oR h c p).bG:=by simp only[oR];omega
 have e3:c.dP<=(oR h c p).dP:=by simp only[oR];omega
 have e4:0<=(oR h c p).dP:=by have:=hc.2.2.1;omega
 refine⟨?_,e2⟩;have hm:c.bG*c.dP<=(oR h c p).bG*(oR h c p).dP:=Int.mul_le_mul e2 e3 hc.2.2.1.1 (by have:=hc.2.1;omega);have h0:0<=c.bG*c.dP:=Int.mul_nonneg hc.2.1.1 hc.2.2.1.1;unfold ir;rw[if_neg e1];split<;>omega
def qC(floor:Int)(c:jJ):Int:=c.bG+ir floor c
def VQ(h:aJ)(l:List Int)(b:Nat):Bool:=decide (qC h.floor (jf h l b)<=nth h.bars b)
def fits(h:aJ)(l:List Int):Bool:=(List.range h.bars.length).all (VQ h l)
theorem PA{h:aJ}(hv:valid h=true){l:List Int}{x:Int}(hl:l.length<h.parts.length)(hf:fits h (l++[x])=true):fits h l=true:=by
 unfold fits at *;rw[List.all_eq_true] at *;intro b hb;have h1:=hf b hb;unfold VQ at *;rw[decide_eq_true_eq] at *;rw[Dv] at h1;split at h1
 ·have:=QM hv (aR h.parts hl) (fD hv (nS hl) b);unfold qC at *;omega
 ·exact h1
theorem SR{h:aJ}(hv:valid h=true){l:List Int}(r:List Int)(hl:l.length+r.length<=h.parts.length)(hf:fits h (l++r)=true):fits h l=true:=by
 induction r generalizing l with
 |nil=>simpa using hf
 |cons x r ih=>
  rw[List.length_cons] at hl
  exact PA hv nQ (ih (l:=l++[x]) (by simp;omega) (by simpa using hf))
def ow(m:Nat):Nat->List (List Int)
 |0=>[[]]
 |k+1=>(List.range m).flatMap fun(b:Nat)=>(ow m k).map ((b:Int) :: ·)
theorem jw{m:Nat}:∀ {k:Nat} {l:List Int},l∈ow m k↔l.length=k/\∀x∈l,0<=x/\x<(m:Int)
 |0,l=>by
  simp only[ow,List.mem_singleton];constructor
  ·rintro rfl;exact⟨rfl,fun x hx=>by cases hx⟩
  ·exact fun h=>List.length_eq_zero_iff.1 h.1
 |k+1,l=>by
  simp only[ow,List.mem_flatMap,List.mem_range,List.mem_map];constructor
  ·rintro⟨b,hb,r,hr,rfl⟩;obtain⟨h1,h2⟩:=jw.1 hr;refine⟨by simp[h1],fun x hx=>?_⟩;rcases List.mem_cons.1 hx with rfl|hx
   ·omega
   ·exact h2 x hx
  ·rintro⟨h1,h2⟩;cases l with
   |nil=>simp at h1
   |cons x r=>
    have hx:=h2 x nV
    refine⟨x.toNat,nQ,r,jw.2 ⟨by simpa using h1,fun y hy=>h2 y (by simp[hy])⟩,?_⟩
    rw[Int.toNat_of_nonneg hx.1]
def bM(h:aJ):List (List Int):=(ow h.bars.length h.parts.length).filter (fits h)
def mD(m:Nat):List Int->Option (List Int)
 |[]=>none
 |d::ds=>match mD m ds with
  |some q=>some (d::q)
  |none=>if d+1<(m:Int) then some ((d+1)::List.replicate ds.length 0) else none
def n9(m:Nat):List Int->List (List Int)
 |[]=>[[]]
 |d::ds=>(n9 m ds).map (d :: ·)++(List.range' (d.toNat+1) (m-(d.toNat+1))).flatMap fun(b:Nat)=>(ow m ds.length).map ((b:Int) :: ·)
theorem tP{m:Nat}(hm:0<m):∀k:Nat,n9 m (List.replicate k 0)=ow m k
 |0=>rfl
 |k+1=>by rw[List.replicate_succ,n9,tP hm k,List.length_replicate,ow];obtain⟨j,rfl⟩:∃j,m=j+1:=⟨m-1,nQ⟩;rw[List.range_eq_range',List.range'_succ,List.flatMap_cons];simp
theorem tQ{m:Nat}:∀ {l:List Int},(∀x∈l,0<=x/\x<(m:Int))->n9 m l=l::(match mD m l with|some q=>n9 m q|none=>[])
 |[],_=>rfl
 |d::ds,h=>by
  have hd:=h d nV;have hm:0<m:=nQ;have ih:=tQ (l:=ds) fun x hx=>h x (by simp[hx]);rw[n9,ih,mD];cases hn:mD m ds with
  |some q=>
   simp only[n9]
   have hq:q.length=ds.length:=by
    have key:∀ {l q:List Int},mD m l=some q->q.length=l.length:=by
     intro l;induction l with
     |nil=>intro q hq;cases hq
     |cons x xs ihh=>
      intro q hq
      rw[mD] at hq
      cases hx:mD m xs with
      |some q'=>rw[hx] at hq;simp only[Option.some.injEq] at hq;subst hq;simp[ihh hx]
      |none=>
       rw[hx] at hq
       simp only[] at hq
       split at hq
       ·simp only[Option.some.injEq] at hq;subst hq;simp
       ·cases hq
    exact key hn
   rw[hq]
   simp
  |none=>
   simp only[List.map_cons,List.map_nil]
   by_cases hlt:d+1<(m:Int)
   ·rw[if_pos hlt];simp only[n9];rw[tP hm,List.length_replicate];obtain⟨j,hj⟩:∃j,m-(d.toNat+1)=j+1:=⟨m-(d.toNat+1)-1,nQ⟩;rw[hj,List.range'_succ,List.flatMap_cons,show((d.toNat+1:Nat):Int)=d+1 by omega,show(d+1).toNat+1=d.toNat+1+1 by omega,show m-(d.toNat+1+1)=j by omega];simp
   ·rw[if_neg hlt,show m-(d.toNat+1)=0 by omega];simp
theorem Va{m:Nat}{l:List Int}(x:Int)(k:Nat)(hx:x+1<(m:Int)):mD m (l++x::List.replicate k ((m:Int)-1))=some (l++(x+1)::List.replicate k 0):=by
 have hend:∀k,mD m (List.replicate k ((m:Int)-1))=none:=by
  intro k;induction k with
  |zero=>rfl
  |succ k ih=>rw[List.replicate_succ,mD,ih];simp only[];rw[if_neg nQ]
 induction l with
 |nil=>rw[List.nil_append,mD,hend];simp only[];rw[if_pos hx];simp
 |cons y l ih=>rw[List.cons_append,mD,ih];rfl
theorem RA{m:Nat}(k:Nat):mD m (List.replicate k ((m:Int)-1))=none:=by
 induction k with
 |zero=>rfl
 |succ k ih=>rw[List.replicate_succ,mD,ih];simp only[];rw[if_neg nQ]
def gd(h:aJ):Nat->List Int->List (List Int)
 |0,l=>if fits h l=true then[l] else[]
 |k+1,l=>if fits h l=true then (List.range h.bars.length).flatMap fun(b:Nat)=>gd h k (l++[(b:Int)]) else[]
theorem C7{h:aJ}(hv:valid h=true):∀(k:Nat) (l:List Int),l.length+k=h.parts.length->gd h k l=((ow h.bars.length k).map (l ++ ·)).filter (fits h)
 |0,l,hl=>by rw[gd,ow];by_cases hf:fits h l=true<;>simp[hf]
 |k+1,l,hl=>by
  rw[gd];by_cases hf:fits h l=true
  ·rw[if_pos hf,ow,List.map_flatMap,List.filter_flatMap];congr 1;funext b;rw[C7 hv k (l++[(b:Int)]) (by simp;omega),List.map_map];congr 2;funext r;simp
  ·rw[if_neg hf];symm;rw[List.filter_eq_nil_iff];intro o ho hfo;obtain⟨r,hr,rfl⟩:=List.mem_map.1 ho;exact hf (SR hv r (by have:=(jw.1 hr).1;omega) hfo)
theorem yo{h:aJ}(hv:valid h=true):gd h h.parts.length []=bM h:=by rw[C7 hv _ _ nV];simp[bM]
def iq(f:Nat->Int):Nat->Int
 |0=>0
 |k+1=>iq f k+f k
theorem uD{f:Nat->Int}{m:Nat}:∀ {k:Nat},(∀i,m<=i->i<m+k->f i=0)->iq f (m+k)=iq f m
 |0,_=>rfl
 |k+1,h=>by rw[<-Nat.add_assoc,iq,uD fun i h1 h2=>h i h1 nQ,h (m+k) nQ nQ];omega
theorem jo{f:Nat->Int}{A:Int}(hA:∀i,0<=f i/\f i<=A):∀k:Nat,0<=iq f k/\iq f k<=A*k
 |0=>by simp[iq]
 |k+1=>by have:=jo hA k;have:=hA k;rw[iq,show(A*((k+1:Nat):Int))=A*k+A by rw[Int.natCast_succ,Int.mul_add,Int.mul_one]];omega
def vp(h:aJ)(l:List Int)(b:Nat):Int:=ir h.floor (jf h l b)
def cK(h:aJ)(l:List Int):Int:=iq (vp h l) 5
def mN(h:aJ)(d:Int)(l:List Int)(b:Nat):Int:=if (jf h l b).days<=d then (jf h l b).bG else 0
def ju(h:aJ)(d:Int)(l:List Int):Int:=iq (mN h d l) 5
theorem Dw{h:aJ}{l:List Int}{b:Nat}(hl:∀x∈l,x<(b:Int)):jf h l b=Qw:=by
 unfold jf;rw[show nN l b=[] from ?_]
 ·rfl
 ·unfold nN;rw[List.filter_eq_nil_iff];intro i hi;have:=hl _ (aR l (List.mem_range.1 hi));simp;omega
theorem Fe{h:aJ}(h4:h.bars.length<=4){l:List Int}(hl:∀x∈l,x<(h.bars.length:Int)):cK h l=iq (vp h l) h.bars.length:=by unfold cK;obtain⟨k,hk⟩:∃k,5=h.bars.length+k:=⟨5-h.bars.length,nQ⟩;rw[hk];refine uD fun i h1 h2=>?_;unfold vp;rw[Dw fun x hx=>by have:=hl x hx;omega];rfl
theorem Iq{h:aJ}(h4:h.bars.length<=4)(d:Int){l:List Int}(hl:∀x∈l,x<(h.bars.length:Int)):ju h d l=iq (mN h d l) h.bars.length:=by unfold ju;obtain⟨k,hk⟩:∃k,5=h.bars.length+k:=⟨5-h.bars.length,nQ⟩;rw[hk];refine uD fun i h1 h2=>?_;unfold mN;rw[Dw fun x hx=>by have:=hl x hx;omega];split<;>rfl
def eH(h:aJ)(size:Int):aJ:={ h with bars:=h.bars++[size] }
def yq(h:aJ)(l:List Int):Int:=qC h.floor (jf h l h.bars.length)
def jK(h:aJ)(ls:List (List Int)):Int:=(ls.filter (fits h)).foldl (fun n l=>min n (yq h l)) 100
def kM(h:aJ):Int:=jK h (ow (h.bars.length+1) h.parts.length)
theorem Dx(h:aJ)(size:Int)(l:List Int)(b:Int):jf (eH h size) l b=jf h l b:=rfl
theorem xF(h:aJ)(size:Int)(l:List Int):fits (eH h size) l=true↔fits h l=true/\yq h l<=size:=by
 unfold fits;rw[show(eH h size).bars.length=h.bars.length+1 by simp[eH],List.range_succ,List.all_append,Bool.and_eq_true];refine and_congr ?_ ?_
 ·rw[List.all_eq_true,List.all_eq_true];refine forall_congr' fun b=>forall_congr' fun hb=>?_;unfold VQ;rw[Dx,show(eH h size).floor=h.floor from rfl,show(eH h size).bars=h.bars++[size] from rfl,zV _ _ (List.mem_range.1 hb)]
 ·rw[List.all_cons,List.all_nil,Bool.and_true];unfold VQ yq;rw[Dx,show(eH h size).floor=h.floor from rfl,show(eH h size).bars=h.bars++[size] from rfl,zW,decide_eq_true_eq]
theorem foldl_min(f:List Int->Int):∀(ls:List (List Int)) (n:Int) (s:Int),ls.foldl (fun n l=>min n (f l)) n<=s↔n<=s\/∃l∈ls,f l<=s
 |[],n,s=>by simp
 |x::ls,n,s=>by
  rw[List.foldl_cons,foldl_min f ls];simp only[List.mem_cons,exists_eq_or_imp];constructor
  ·rintro(h1|h1)
   ·rcases Int.le_total n (f x) with h2|h2
    ·exact .inl nQ
    ·exact .inr (.inl nQ)
   ·exact .inr (.inr h1)
  ·rintro(h1|h1|h1)
   ·exact .inl nQ
   ·exact .inl nQ
   ·exact .inr h1
theorem size_le{h:aJ}{s:Int}(hs:s<100):kM h<=s↔bM (eH h s)≠[]:=by
 unfold kM jK;rw[foldl_min,Ne,bM,List.filter_eq_nil_iff,show(eH h s).bars.length=h.bars.length+1 by simp[eH],show(eH h s).parts=h.parts from rfl];constructor
 ·rintro(h1|⟨l,hl,h1⟩)
  ·omega
  ·rw[List.mem_filter] at hl;exact fun h2=>h2 l hl.1 ((xF h s l).2 ⟨hl.2,h1⟩)
 ·intro h1;apply Classical.byContradiction;intro h2;refine h1 fun l hl hf=>h2 (.inr ⟨l,?_,((xF h s l).1 hf).2⟩);exact List.mem_filter.2 ⟨hl,((xF h s l).1 hf).1⟩
theorem NA(h:aJ)(ls:List (List Int))(l:List Int):jK h (ls++[l])=if fits h l=true then min (jK h ls) (yq h l) else jK h ls:=by unfold jK;rw[List.filter_append,List.foldl_append];by_cases hf:fits h l=true<;>simp[hf]
theorem xT{h:aJ}(hv:valid h=true)(ls:List (List Int))(hl:∀l∈ls,l.length<=h.parts.length):0<=jK h ls/\jK h ls<=100:=by
 obtain⟨r,rfl⟩:∃r:List (List Int),ls=r.reverse:=⟨ls.reverse,nV⟩;induction r with
 |nil=>simp[jK]
 |cons l r ih=>
  have:=ih fun x hx=>hl x (by simp at hx ⊢;exact .inl hx)
  rw[List.reverse_cons,NA]
  have hc:=fD hv (hl l nV) h.bars.length
  have hs:=oy (aC.1 hv).1.2.1 hc
  have h2:=hc.2.1
  unfold yq qC
  split<;>omega
theorem Ab{h:aJ}(hv:valid h=true)(h4:h.bars.length<4){s:Int}(hs:0<=s/\s<=99):valid (eH h s)=true:=by
 have hv:=aC.1 hv;refine aC.2 ⟨⟨hv.1.1,hv.1.2.1,hv.1.2.2.1,by simp[eH];omega⟩,hv.2.1,hv.2.2.1,fun b hb=>?_⟩;rcases List.mem_append.1 hb with h1|h1
 ·exact hv.2.2.2 b h1
 ·simp at h1;omega
def rQ(h:aJ):Int:=if bM h≠[] then 0 else if h.bars.length=4 then 0 else if 99<kM h then 0 else kM h
def ud(h:aJ):Int:=if bM h≠[] then 0 else if h.bars.length=4 then 2 else if 99<kM h then 3 else 0
end Sa
end Go.Proofs.YtpnnapeoanafdaaGreatDoor
