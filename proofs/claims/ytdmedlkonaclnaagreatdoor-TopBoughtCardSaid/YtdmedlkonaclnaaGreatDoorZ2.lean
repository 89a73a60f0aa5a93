/- A part of the proof that a law of layer 12 holds, cut small by a program (names and blanks): HdP1, St, SaP1. -/
import Derived.Lib.AtoiAll
import Derived.Lib.Atoi
import Derived.Lib.ItoaNum
import Derived.Lib.OthersKept
import Derived.Lib.Builder
import Derived.Lib.AppendStr
import Derived.Lib.UnsafeStr
import Derived.Laws.Externs
import Derived.Laws.RangeAny
import Derived.BigRegion
import Derived.Test.YtdmedlkonaclnaaGreatDoorZ1
set_option maxRecDepth 100000
set_option maxHeartbeats 40000000
set_option linter.unusedVariables false
set_option linter.unusedSimpArgs false
namespace Go.Proofs.YtdmedlkonaclnaaGreatDoor
open Go.RowKit
open Nat renaming le_trans → nT, le_refl → nR, le_of_lt → nS
open Go.Proofs.Tryz renaming prog → nH
open Go renaming World → nJ, Value → nK
namespace Hd
abbrev bz:=List UInt8
def bG:List UInt8->List bz
 |[]=>[[]]
 |b::r=>if b=32 then[]::bG r else match bG r with
  |[]=>[[b]]
  |w::ws=>(b::w)::ws
theorem oC(s:List UInt8):bG s≠[]:=by
 cases s with
 |nil=>simp[bG]
 |cons b r=>
  unfold bG
  split
  ·simp
  ·split<;>simp
def MM(b:UInt8):List bz->List bz
 |[]=>[[b]]
 |[w]=>[w++[b]]
 |w::ws=>w::MM b ws
theorem IM(s:List UInt8)(b:UInt8):bG (s++[b])=if b=32 then bG s++[[]] else MM b (bG s):=by
 induction s with
 |nil=>
  by_cases hb:b=32<;>simp[bG,hb,MM]
 |cons x r ih=>
  rw[List.cons_append,bG,ih,bG]
  by_cases hb:b=32
  ·rw[if_pos hb,if_pos hb];by_cases hx:x=32
   ·rw[if_pos hx,if_pos hx];rfl
   ·rw[if_neg hx,if_neg hx];cases h:bG r with
    |nil=>exact absurd h (oC r)
    |cons w ws=>rfl
  ·rw[if_neg hb,if_neg hb];by_cases hx:x=32
   ·rw[if_pos hx,if_pos hx];cases h:bG r with
    |nil=>exact absurd h (oC r)
    |cons w ws=>rfl
   ·rw[if_neg hx,if_neg hx];cases h:bG r with
    |nil=>exact absurd h (oC r)
    |cons w ws=>
     cases ws with
     |nil=>rfl
     |cons v vs=>rfl
theorem ML(b:UInt8)(ws:List bz)(w:bz):MM b (ws++[w])=ws++[w++[b]]:=by
 induction ws with
 |nil=>rfl
 |cons v vs ih=>
  cases vs with
  |nil=>rfl
  |cons u us=>show v::MM b (u::us++[w])=_;rw[ih];rfl
theorem jv(s:List UInt8):(bG s).length<=s.length+1/\∀w∈bG s,w.length<=s.length:=by
 induction s with
 |nil=>simp[bG]
 |cons b r ih=>
  unfold bG
  split
  ·simp only[List.length_cons];refine⟨nQ,fun w hw=>?_⟩;rcases List.mem_cons.1 hw with rfl|hw
   ·simp
   ·have:=ih.2 w hw;omega
  ·cases h:bG r with
   |nil=>exact absurd h (oC r)
   |cons v vs=>
    rw[h] at ih
    simp only[List.length_cons] at *
    refine⟨nQ,fun w hw=>?_⟩
    rcases List.mem_cons.1 hw with rfl|hw
    ·have:=ih.2 v nV;simp;omega
    ·have:=ih.2 w (by simp[hw]);omega
def pq(w:bz):bz:=if w.head?=some 45 then w.tail else w
def p7(neg:Bool)(d:bz):Bool:=decide (1<=d.length/\d.length<=6) && !(decide (d.head?=some 48)&&(decide (1<d.length)||neg))
def numOf(w:bz):Option Int:=
 if p7 (decide (w.head?=some 45)) (pq w)=true then (Lib.decFrom 0 (pq w)).map fun(n:Nat)=>if w.head?=some 45 then -(n:Int) else (n:Int) else none
theorem xz{b:UInt8}{x:Nat}(h:Lib.digitVal b=some x):x<10/\b=UInt8.ofNat (48+x)/\b.toNat=48+x:=by
 unfold Lib.digitVal at h;split at h
 ·injection h with h;refine⟨nQ,?_,nQ⟩;rw[show 48+x=b.toNat by omega];simp
 ·cases h
theorem Nf{x:Nat}(h:x<10):(UInt8.ofNat (48+x)).toNat=48+x:=by show(48+x) % 256=48+x;omega
theorem GV{x:Nat}(h:x<10):Lib.digitVal (UInt8.ofNat (48+x))=some x:=by have:=Nf h;unfold Lib.digitVal;rw[this,if_pos nQ];congr 1;omega
theorem vW(l:bz)(b:UInt8)(acc:Nat):Lib.decFrom acc (l++[b])=(Lib.decFrom acc l).bind fun n=>(Lib.digitVal b).map fun d=>n*10+d:=by
 induction l generalizing acc with
 |nil=>
  simp only[List.nil_append,Lib.decFrom]
  cases Lib.digitVal b<;>rfl
 |cons x r ih=>
  simp only[List.cons_append,Lib.decFrom]
  cases Lib.digitVal x with
  |none=>rfl
  |some d=>exact ih _
theorem Tv{α:Type}{p:List α->Prop}(h0:p [])(h1:∀l x,p l->p (l++[x]))(l:List α):p l:=by
 obtain⟨r,rfl⟩:∃r:List α,l=r.reverse:=⟨l.reverse,nV⟩;induction r with
 |nil=>exact h0
 |cons x r ih=>rw[List.reverse_cons];exact h1 _ _ ih
theorem Kq(d:bz):∀n,d≠[]->(d.head?=some 48->d.length=1)->Lib.decFrom 0 d=some n->Lib.decDigits n=d/\(d.head?≠some 48->0<n)/\n<10 ^ d.length:=by
 induction d using Tv with
 |h0=>intro n h;exact absurd rfl h
 |h1 l b ih=>
  intro n _ hz hd
  rw[vW] at hd
  cases hl:Lib.decFrom 0 l with
  |none=>rw[hl] at hd;cases hd
  |some v=>
   rw[hl] at hd
   simp only[Option.bind_some,Option.map_eq_some_iff] at hd
   obtain⟨x,hx,rfl⟩:=hd
   obtain⟨hx9,hb,hbn⟩:=xz hx
   by_cases jg:l=[]
   ·subst jg;simp only[Lib.decFrom,Option.some.injEq] at hl;subst hl;rw[show 0*10+x=x by omega];refine⟨?_,?_,by simp;omega⟩
    ·rw[Lib.decDigits,dif_pos hx9,hb];rfl
    ·intro h;rcases Nat.eq_zero_or_pos x with rfl|h'
     ·exact absurd (by simp[hb]) h
     ·exact h'
   ·have hh:(l++[b]).head?=l.head?:=by cases l with
     |nil=>exact absurd rfl jg
     |cons y ys=>rfl
    rw[hh] at hz ⊢;have hl1:l.head?≠some 48:=fun h=>by have:=hz h;rw[List.length_append] at this;simp at this;exact jg this
    obtain⟨i1,i2,i3⟩:=ih v jg (fun h=>absurd h hl1) hl;have hv:=i2 hl1;refine⟨?_,fun _=>by omega,?_⟩
    ·rw[Lib.decDigits,dif_neg nQ,show(v*10+x) / 10=v by omega,show(v*10+x) % 10=x by omega,i1,hb]
    ·rw[List.length_append,List.length_cons,List.length_nil,Nat.pow_succ];omega
theorem eH(n:Nat):Lib.decFrom 0 (Lib.decDigits n)=some n/\Lib.decDigits n≠[]/\((Lib.decDigits n).head?=some 48->n=0)/\(∀b∈Lib.decDigits n,48<=b.toNat/\b.toNat<=57)/\(∀k,n<10 ^ (k+1)->(Lib.decDigits n).length<=k+1):=by
 induction n using Nat.strongRecOn with
 |_ n ih=>
  by_cases h:n<10
  ·rw[Lib.decDigits,dif_pos h];have e:=Nf h;refine⟨?_,nV,?_,?_,?_⟩
   ·simp only[Lib.decFrom];rw[GV h];simp
   ·intro h1;simp only[List.head?_cons,Option.some.injEq] at h1;have:=congrArg UInt8.toNat h1;rw[e] at this;simp at this;exact this
   ·intro b hb;simp only[List.mem_singleton] at hb;rw[hb,e];omega
   ·intro k _;simp
  ·obtain⟨i1,i2,i3,i4,i5⟩:=ih (n / 10) nQ;rw[Lib.decDigits,dif_neg h];have e:=Nf (x:=n % 10) nQ;refine⟨?_,nV,?_,?_,?_⟩
   ·rw[vW,i1,GV nQ];simp;omega
   ·intro h1;cases hd:Lib.decDigits (n / 10) with
    |nil=>exact absurd hd i2
    |cons y ys=>
     rw[hd] at h1 i3
     have:=i3 h1
     omega
   ·intro b hb;rcases List.mem_append.1 hb with hb|hb
    ·exact i4 b hb
    ·simp only[List.mem_singleton] at hb;rw[hb,e];omega
   ·intro k hk;cases k with
    |zero=>simp at hk;omega
    |succ k=>
     have:=i5 k (by rw[Nat.pow_succ] at hk;omega)
     simp only[List.length_append,List.length_cons,List.length_nil];omega
theorem AE(n:Nat):(Lib.decDigits n).head?≠some 45:=by
 obtain⟨_,h2,_,h4,_⟩:=eH n;cases hd:Lib.decDigits n with
 |nil=>exact absurd hd h2
 |cons y ys=>
  rw[hd] at h4
  have:=h4 y nV
  intro h
  simp only[List.head?_cons,Option.some.injEq] at h
  subst h
  revert this;decide
theorem ou{w:bz}{n:Int}:numOf w=some n↔w=Lib.itoa n/\-1000000<n/\n<1000000:=by
 unfold numOf p7;constructor
 ·intro h;split at h
  ·rename_i hd;simp only[Bool.and_eq_true,decide_eq_true_eq,Bool.not_eq_true',Bool.and_eq_false_iff,decide_eq_false_iff_not,Bool.or_eq_false_iff] at hd;obtain⟨⟨h1,h6⟩,hz⟩:=hd;simp only[Option.map_eq_some_iff] at h;obtain⟨u,hu,rfl⟩:=h;have hne:pq w≠[]:=by intro e;rw[e] at h1;simp at h1
   have hz1:(pq w).head?=some 48->(pq w).length=1:=by
    intro e;rcases hz with hz|⟨hz,_⟩
    ·exact absurd e hz
    ·omega
   obtain⟨e1,e2,e3⟩:=Kq (pq w) u hne hz1 hu;have hu6:u<1000000:=by have:10 ^ (pq w).length<=10 ^ 6:=Nat.pow_le_pow_right nQ h6;omega
   by_cases hm:w.head?=some 45
   ·rw[if_pos hm];have uk:(pq w).head?≠some 48:=by
     rcases hz with hz|⟨_,hz⟩
     ·exact hz
     ·exact absurd hm hz
    have:=e2 uk;refine⟨?_,nQ,nQ⟩;unfold Lib.itoa;rw[if_pos nQ,show(-(u:Int)).natAbs=u by omega,e1];unfold pq;rw[if_pos hm];cases w with
    |nil=>cases hm
    |cons x xs=>simp only[List.head?_cons,Option.some.injEq] at hm;subst hm;rfl
   ·rw[if_neg hm];refine⟨?_,nQ,nQ⟩;unfold Lib.itoa;rw[if_neg nQ,show((u:Int)).toNat=u by omega,e1];unfold pq;rw[if_neg hm]
  ·cases h
 ·rintro⟨rfl,hlo,hhi⟩;unfold Lib.itoa;by_cases hn:n<0
  ·rw[if_pos hn];obtain⟨a1,a2,a3,a4,a5⟩:=eH n.natAbs;have hl:=a5 5 nQ;have hl1:1<=(Lib.decDigits n.natAbs).length:=by
    cases hd:Lib.decDigits n.natAbs with
    |nil=>exact absurd hd a2
    |cons y ys=>simp
   have hh:(Lib.decDigits n.natAbs).head?≠some 48:=fun h=>by have:=a3 h;omega
   simp only[pq,List.head?_cons,if_true,List.tail_cons];rw[if_pos (by simp[hl1,hl,hh]),a1];simp;omega
  ·rw[if_neg hn];obtain⟨a1,a2,a3,a4,a5⟩:=eH n.toNat;have hl:=a5 5 nQ;have hl1:1<=(Lib.decDigits n.toNat).length:=by
    cases hd:Lib.decDigits n.toNat with
    |nil=>exact absurd hd a2
    |cons y ys=>simp
   have h45:=AE n.toNat;simp only[pq,if_neg h45];rw[if_pos ?_,a1]
   ·simp;omega
   ·simp only[Bool.and_eq_true,decide_eq_true_eq,Bool.not_eq_true',Bool.and_eq_false_iff,decide_eq_false_iff_not,Bool.or_eq_false_iff,hl1,hl,h45,not_false_eq_true,and_true,true_and];by_cases h0:(Lib.decDigits n.toNat).head?=some 48
    ·have:=a3 h0;rw[this];right;rw[Lib.decDigits];simp
    ·exact .inl h0
theorem Cg(l:bz):∀acc n,acc*10 ^ l.length+10 ^ l.length<=1000000000000->Lib.decFrom acc l=some n->Lib.parseUint10 acc l=.ok n:=by
 induction l with
 |nil=>intro acc n _ h;simp only[Lib.decFrom,Option.some.injEq] at h;subst h;rfl
 |cons b r ih=>
  intro acc n hb h
  simp only[Lib.decFrom] at h
  cases hx:Lib.digitVal b with
  |none=>rw[hx] at h;cases h
  |some x=>
   rw[hx] at h
   obtain⟨x9,_,hbn⟩:=xz hx
   simp only[Lib.parseUint10]
   have h1:1<=10 ^ r.length:=Nat.one_le_pow _ _ nU
   rw[List.length_cons,Nat.pow_succ] at hb
   have h2:acc*(10 ^ r.length*10)=acc*10*10 ^ r.length:=by rw[Nat.mul_comm (10 ^ r.length) 10,Nat.mul_assoc]
   have h3:acc*10<=acc*10*10 ^ r.length:=Nat.le_mul_of_pos_right _ h1
   rw[if_pos nQ,if_neg nQ,if_neg nQ,show b.toNat-48=x by omega]
   refine ih _ _ ?_ h
   rw[Nat.add_mul]
   have h4:x*10 ^ r.length<=9*10 ^ r.length:=Nat.mul_le_mul_right _ nQ
   omega
theorem CS{n:Int}(h:-1000000<n/\n<1000000):Lib.atoiAll (Lib.itoa n)=.ok n:=by
 unfold Lib.itoa;by_cases hn:n<0
 ·rw[if_pos hn];obtain⟨a1,a2,a3,a4,a5⟩:=eH n.natAbs;have hl:=a5 5 nQ;have hp:=Cg (Lib.decDigits n.natAbs) 0 _ (by
   have:10 ^ (Lib.decDigits n.natAbs).length<=10 ^ 6:=Nat.pow_le_pow_right nQ hl
   omega) a1
  unfold Lib.atoiAll;simp only[show((45:UInt8).toNat=43\/(45:UInt8).toNat=45) from .inr rfl,if_true,Lib.parseMag,if_neg a2,hp];rw[if_neg nV,if_neg (by simp;omega)];simp;omega
 ·rw[if_neg hn];obtain⟨a1,a2,a3,a4,a5⟩:=eH n.toNat;have hl:=a5 5 nQ;have hp:=Cg (Lib.decDigits n.toNat) 0 _ (by
   have:10 ^ (Lib.decDigits n.toNat).length<=10 ^ 6:=Nat.pow_le_pow_right nQ hl
   omega) a1
  cases hd:Lib.decDigits n.toNat with
  |nil=>exact absurd hd a2
  |cons y ys=>
   rw[hd] at a4 hp
   have hy:=a4 y nV
   unfold Lib.atoiAll
   simp only[show ¬(y.toNat=43\/y.toNat=45) by omega,if_false,Lib.parseMag,hp]
   show(if ¬y.toNat=45/\9223372036854775808<=n.toNat then Lib.NumEnd.range else if y.toNat=45/\9223372036854775808<n.toNat then Lib.NumEnd.range else Lib.NumEnd.ok (if y.toNat=45 then -(n.toNat:Int) else (n.toNat:Int)))=_
   rw[if_neg nQ,if_neg nQ,if_neg nQ]
   congr 1;omega
theorem Qy{n:Int}(h:-1000000<n/\n<1000000):(pq (Lib.itoa n)).length<=6:=by
 unfold Lib.itoa pq;by_cases hn:n<0
 ·rw[if_pos hn];simpa using (eH n.natAbs).2.2.2.2 5 nQ
 ·rw[if_neg hn,if_neg (AE _)];exact(eH n.toNat).2.2.2.2 5 nQ
theorem FJ{w:bz}{v:Int}:(w=Lib.itoa v/\(pq w).length<=6)↔numOf w=some v:=by
 rw[ou];constructor
 ·rintro⟨h1,h2⟩;refine⟨h1,?_⟩;subst h1;unfold Lib.itoa pq at h2;by_cases hn:v<0
  ·rw[if_pos hn] at h2;simp only[List.head?_cons,if_true,List.tail_cons] at h2;have h3:=(Kq _ v.natAbs (eH _).2.1 (fun h=>by have:=(eH _).2.2.1 h;omega) (eH v.natAbs).1).2.2;have:10 ^ (Lib.decDigits v.natAbs).length<=10 ^ 6:=Nat.pow_le_pow_right nQ h2;omega
  ·rw[if_neg hn,if_neg (AE _)] at h2;have h3:=(Kq _ v.toNat (eH _).2.1 (fun h=>by rw[(eH _).2.2.1 h,Lib.decDigits];simp) (eH v.toNat).1).2.2;have:10 ^ (Lib.decDigits v.toNat).length<=10 ^ 6:=Nat.pow_le_pow_right nQ h2;omega
 ·rintro⟨rfl,h1,h2⟩;exact⟨rfl,Qy ⟨h1,h2⟩⟩
def cR:List bz->Option (List Int)
 |[]=>some []
 |w::ws=>match numOf w with
  |none=>none
  |some n=>(cR ws).map (n :: ·)
theorem oM{ws:List bz}:∀ {a:List Int},cR ws=some a->a.length=ws.length:=by
 induction ws with
 |nil=>intro a h;simp only[cR,Option.some.injEq] at h;subst h;rfl
 |cons w ws ih=>
  intro a h
  rw[cR] at h
  cases hn:numOf w with
  |none=>rw[hn] at h;cases h
  |some n=>
   rw[hn] at h
   simp only[Option.map_eq_some_iff] at h
   obtain⟨b,hb,rfl⟩:=h
   simp[ih hb]
theorem Cl(ws:List bz)(w:bz):cR (ws++[w])=(cR ws).bind fun a=>(numOf w).map fun n=>a++[n]:=by
 induction ws with
 |nil=>rw[List.nil_append];simp only[cR,Option.bind_some];cases numOf w<;>rfl
 |cons v vs ih=>
  rw[List.cons_append,cR,cR,ih]
  cases numOf v with
  |none=>rfl
  |some n=>cases cR vs with
   |none=>rfl
   |some a=>cases numOf w<;>rfl
theorem JB{ws:List bz}:∀ {a:List Int},cR ws=some a->∀x∈a,-1000000<x/\x<1000000:=by
 induction ws with
 |nil=>intro a h x hx;simp only[cR,Option.some.injEq] at h;subst h;cases hx
 |cons w ws ih=>
  intro a h x hx
  rw[cR] at h
  cases hn:numOf w with
  |none=>rw[hn] at h;cases h
  |some n=>
   rw[hn] at h
   simp only[Option.map_eq_some_iff] at h
   obtain⟨b,hb,rfl⟩:=h
   rcases List.mem_cons.1 hx with rfl|hx
   ·exact(ou.1 hn).2
   ·exact ih hb x hx
inductive Wd where
 |aP
 |current
 |gE
 |ah
 |ng
 |ey
 |eX
 |part
 |fM
 |safe
 |gy
 |kr
 |done
 |fU
 |yu
 |early
 |nw
 |order
 |pack
 |forget
deriving DecidableEq
def cj:Wd->bz
 |.aP=>[119,105,110,100]
 |.current=>[99,117,114,114,101,110,116]
 |.gE=>[104,101,97,118,121]
 |.ah=>[116,111,114,110]
 |.ng=>[114,111,112,101]
 |.ey=>[109,101,110,100,101,114,115]
 |.eX=>[109,101,110,100,101,100]
 |.part=>[112,97,114,116]
 |.fM=>[98,97,114,114,101,108]
 |.safe=>[115,97,102,101]
 |.gy=>[115,116,111,114,109]
 |.kr=>[108,111,115,115]
 |.done=>[100,111,110,101]
 |.fU=>[115,97,108,116]
 |.yu=>[98,117,121]
 |.early=>[101,97,114,108,121]
 |.nw=>[110,101,101,100]
 |.order=>[111,114,100,101,114]
 |.pack=>[112,97,99,107]
 |.forget=>[102,111,114,103,101,116]
def adh:List Wd:=[.aP,.current,.gE,.ah,.ng,.ey,.eX,.part,.fM,.safe,.gy,.kr,.done,.fU,.yu,.early,.nw,.order,.pack,.forget]
def tq:Wd->Nat
 |.aP=>2
 |.current=>2
 |.gE=>2
 |.ah=>4
 |.ng=>2
 |.ey=>1
 |.eX=>0
 |.part=>2
 |.fM=>1
 |.safe=>0
 |.gy=>0
 |.kr=>0
 |.done=>0
 |.fU=>0
 |.yu=>0
 |.early=>1
 |.nw=>0
 |.order=>0
 |.pack=>0
 |.forget=>1
def cN:Wd->Nat
 |.aP=>1
 |.current=>1
 |.gE=>1
 |.ah=>1
 |.ng=>1
 |.ey=>1
 |.eX=>1
 |.part=>1
 |.fM=>1
 |.safe=>2
 |.gy=>2
 |.kr=>2
 |.done=>2
 |.fU=>2
 |.yu=>2
 |.early=>2
 |.nw=>3
 |.order=>3
 |.pack=>3
 |.forget=>5
def lY:bz:=[119,104,101,110]
def iY:bz:=[116,104,101,110]
def nu(t:bz):Option Wd:=adh.find? fun d=>decide (cj d=t)
theorem dI{t:bz}{d:Wd}:nu t=some d↔t=cj d:=by
 constructor
 ·intro h;have:=List.find?_some h;simpa using (of_decide_eq_true this).symm
 ·rintro rfl;cases d<;>decide
structure dU where
 w:Wd
 a:List Int
deriving DecidableEq
def rV(d:Option Wd)(a:Option (List Int)):Option dU:=d.bind fun d=>a.bind fun a=>if a.length=tq d then some ⟨d,a⟩ else none
def bM:List bz->Option dU
 |[]=>none
 |t::r=>rV (nu t) (cR r)
theorem Ea{ws:List bz}{c:dU}:bM ws=some c↔∃r,ws=cj c.w::r/\cR r=some c.a/\c.a.length=tq c.w:=by
 constructor
 ·intro h;cases ws with
  |nil=>cases h
  |cons t r=>
   unfold bM rV at h
   simp only[Option.bind_eq_some_iff] at h
   obtain⟨d,h1,a,h2,h⟩:=h
   split at h
   ·injection h with h;subst h;exact⟨r,by rw[dI.1 h1],h2,nZ⟩
   ·cases h
 ·rintro⟨r,rfl,h1,h2⟩;show rV (nu (cj c.w)) (cR r)=some c;unfold rV;rw[dI.2 rfl,h1];simp only[Option.bind_some,if_pos h2]
inductive tC where
 |none
 |cmd (c:dU)
 |ord (q:dU) (sign:UInt8) (num:Int) (c:dU)
deriving DecidableEq
def jN(t:bz):List bz->Option Nat
 |[]=>none
 |w::ws=>if w=t then some 0 else (jN t ws).map (· + 1)
def mj(t:bz):Option UInt8:=if t=[60] then some 60 else if t=[61] then some 61 else if t=[62] then some 62 else none
def qv(ws:List bz)(k:Nat):tC:=
 match bM ((ws.take (k-2)).drop 1),mj (nth ws (k-2)),numOf (nth ws (k-1)),bM (ws.drop (k+1)) with
 |some q,some s,some n,some c=>if cN q.w=2/\cN c.w=1 then .ord q s n c else .none
 |_,_,_,_=>.none
def eD(ws:List bz):tC:=
 if ws.head?=some lY then match jN iY ws with
  |some k=>if k<4 then .none else qv ws k
  |none=>.none
 else match bM ws with
  |some c=>.cmd c
  |none=>.none
def bK(t:bz):tC:=eD (bG t)
end Hd
section
open Hd
theorem Ru(s:ByteArray)(i:Nat)(h:i<s.size):s.data.toList[i]?=some (s[i]'h):=by have h':i<s.data.size:=h;rw[List.getElem?_eq_getElem (by simpa using h')];rfl
theorem EW(s:ByteArray):s.data.toList.length=s.size:=Array.length_toList
theorem Xk{P:Program}(w:nJ)(t:TypeId)(s:ByteArray)(k:IntKind)(i:Nat)(h:P.underlying t=some .string)(hi:i<s.size):(Instr.index t (.string s) (.int k i)).run P w=.ok (.int .u8 (s[i]'hi).toNat) w:=by rw[run_index_string w t s k i h,dif_pos ⟨nQ,nQ⟩];rfl
def str(l:bz):ByteArray:=⟨l.toArray⟩
@[go_sem] theorem jd(l:bz):(str l).data.toList=l:=by simp[str]
@[go_sem] theorem mL(l:bz):(str l).size=l.length:=by simp[str,ByteArray.size]
theorem yX{a:ByteArray}{l:bz}(h:a.data.toList=l):a=str l:=by subst h;cases a;simp[str]
theorem UH(s:ByteArray)(i j:Nat):(s.extract i j).data.toList=(s.data.toList.take j).drop i:=by rw[ByteArray.data_extract,Array.toList_extract,List.extract_eq_take_drop,List.drop_take]
theorem oB(s:ByteArray):s.toList=s.data.toList:=by rw[ByteArray.toList_eq]
theorem IP{P:Program}(w:nJ)(t:TypeId)(s:ByteArray)(k:IntKind)(i:Nat)(h:P.underlying t=some .string)(hi:i<=s.size):(Instr.slice t (.string s) (some (.int k i)) none none).run P w=.ok (.string (s.extract i s.size)) w:=by rw[run_slice_string_from_if w t s k i h,if_pos ⟨nQ,nQ⟩];rfl
theorem U8(a b:ByteArray):(a++b).data.toList=a.data.toList++b.data.toList:=by rw[ByteArray.data_append,Array.toList_append]
theorem gp{P:Program}(w:nJ)(x y:bz)(h:x.length+y.length<=4000000):(Op.stringOp .add (str x) (str y)).run P w=.ok (.string (str (x++y))) w:=by rw[run_string_add_sum (P:=P) w (str x) (str y) (by rw[mL,mL];omega)];rw[yX (a:=str x++str y) (l:=x++y) (by rw[U8,jd,jd])]
theorem Hq(W:nJ)(g c:Nat)(b:UInt8)(h:W.cell? ⟨g,0,none⟩=some (.int .u8 b.toNat)):(convert 178 9 (.slice (some ⟨g,0,none⟩) 1 c)).run nH W=.ok (.string (str [b])) W:=by
 exact run_convert_bytes_back (P:=nH) W 178 9 5 ⟨g,0,none⟩ c [b] nP nP nP (fun j hj=>by
  obtain rfl:j=0:=by simpa using hj
  rw[show(⟨g,0,none⟩:Addr).add 0=⟨g,0,none⟩ by simp[Addr.add_lit],h]
  rfl)
def aX(t:bz):List nK:=[.string (str t)]
theorem gD(t:bz):(aX t).length=1:=rfl
theorem Sl.mh{B:Nat}{w:nJ}{A:Option Addr}{c:Nat}{ts:List bz}(h:Sl aX B w A c ts){k:Nat}(hk:k<ts.length):∃b o,A=some ⟨b,o,none⟩/\b<B/\w.cell? ⟨b,o+k,none⟩=some (.string (str (nth ts k))):=by obtain⟨b,o,hA,hb,hc⟩:=h.at_ gD hk nQ;refine⟨b,o,hA,hb,?_⟩;have:=hc 0 (.string (str (nth ts k))) (by rw[bR _ hk];rfl);simpa using this
theorem tP{P:Program}(w:nJ)(t:TypeId)(k:IntKind)(l:bz)(i:Int)(j:Nat)(hi:i=(j:Int))(b:UInt8)(h:P.underlying t=some .string)(hb:l[j]?=some b):(Instr.index t (.string (str l)) (.int k i)).run P w=.ok (.int .u8 b.toNat) w:=by
 subst hi;have hj:j<(str l).size:=by rw[mL];exact(List.getElem?_eq_some_iff.1 hb).1
 rw[Xk w t (str l) k j h hj];have h2:=Ru (str l) j hj;rw[jd,hb] at h2;injection h2 with h2;rw[h2]
theorem Rw{P:Program}(w:nJ)(t:TypeId)(k:IntKind)(l:bz)(i:Int)(j:Nat)(hi:i=(j:Int))(m:bz)(h:P.underlying t=some .string)(hj:j<=l.length)(hm:l.drop j=m):(Instr.slice t (.string (str l)) (some (.int k i)) none none).run P w=.ok (.string (str m)) w:=by subst hi;rw[IP w t (str l) k j h (by rw[mL];exact hj)];rw[yX (a:=(str l).extract j (str l).size) (l:=m)];rw[UH,List.take_of_length_le (by rw[EW];exact nR _),jd,hm]
theorem Te(x y:bz):((str x).toList==(str y).toList)=decide (x=y):=by
 rw[oB,oB,jd,jd];by_cases h:x=y
 ·subst h;simp
 ·simp[h]
theorem YE:pF nH 48 9 (.string ⟨#[]⟩) 1 16:=pF.mk Tryz.underlying48 nP rfl nQ
theorem vI{w w':nJ}(h:Below w.heap.size w w'):∃δ,w'=af w δ:=⟨w',(bN h).symm⟩
def Bi(b base:Nat)(l:bz)(w:nJ):Prop:=
 ∃p v,ax w b 180 #[.pointer p,v]/\(p=none\/p=some ⟨b,0,none⟩)/\w.ownsRow base 5 1 v l.length (Lib.byteCells l)
structure Rest(b base:Nat)(w w':nJ):Prop where
 eM:bH (fun k=>k=b\/base<=k) w w'
 row:∀k T cur fr,T≠5->k≠b->w.heap[k]?=some (.cells cur T fr)->w'.heap[k]?=some (.cells cur T fr)
theorem Rest.refl(b base:Nat)(w:nJ):Rest b base w w:=⟨bH.refl _ _,fun _ _ _ _ _ _ h=>h⟩
theorem Rest.trans{b base:Nat}{w1 w2 w3:nJ}(h:Rest b base w1 w2)(k:Rest b base w2 w3):Rest b base w1 w3:=⟨h.eM.trans k.eM,fun j T cur fr hT hj hh=>k.row j T cur fr hT hj (h.row j T cur fr hT hj hh)⟩
theorem vS{w:nJ}{k:Nat}{o:Obj}(h:w.heap[k]?=some o):k<w.heap.size:=(Array.getElem?_eq_some_iff.1 h).1
theorem Rest.set{b base:Nat}(w:nJ)(i:Nat)(u:nK):Rest b base w (w.setCell ⟨b,i,none⟩ u):=
 ⟨(bH.refl _ _).set (.inl rfl) i u,fun k _ _ _ _ hk hh=>(Below.heap_setCell w ⟨b,i,none⟩ u k hk).trans hh⟩
theorem Rest.grown{b base:Nat}{w w':nJ}{v:nK}{n:Nat}{xs:List nK}(hown:w.ownsRow base 5 1 v n xs)(hg:w.grownBy w' v.ownBlock):Rest b base w w':=by
 refine⟨⟨hg.size,hg.os,hg.tape,hg.output,fun k hk hs=>hg.block k hk fun e=>hs (.inr (hown.lt k e.symm).1)⟩,fun k T cur fr hT _ hh=>(hg.block k (vS hh) ?_).trans hh⟩;intro e;rcases hown.2 with⟨rfl,_⟩|⟨g,cap,cur',rfl,_,DS,_⟩
 ·simp[Value.ownBlock] at e
 ·have:k=g:=by simpa [Value.ownBlock] using e
  subst this;rw[hh] at DS;injection DS with DS;injection DS with _ ht;exact hT ht
theorem Tj:pF nH 178 5 (.int .u8 0) 1 1:=pF.mk Tryz.underlying178 nP rfl nQ
theorem GY(b base:Nat)(l:bz)(w:nJ)(h:Bi b base l w):Calls nH 180 #[.pointer (some ⟨b,0,none⟩)] w fun e w'=>e=.returned (.tuple #[])/\Bi b base l w'/\Rest b base w w':=by
 obtain⟨p,v,hb,hp,hown⟩:=h;obtain⟨j,hj,hjs⟩:=Option.map_eq_some_iff.1 (show(Tryz.prog.info? 180).map (fun i=>i.size)=some 2 by kernel_rfl);have c0:=hb.cell (i:=0) (v:=.pointer p) rfl;have f0:=hb.free 0;have hsh:w.shape? b=some (180,2):=by unfold ax at hb;simp[World.shape?,hb]
 have CA:(w.setCell ⟨b,0,none⟩ (.pointer (some ⟨b,0,none⟩))).ownsRow base 5 1 v l.length (Lib.byteCells l):=by refine dh hown ?_;intro e;exact Lib.ownBlock_ne hown hb nU e
 have HO:=qh hown;have yw:=qh CA;have HB:=qh hb;have ib:=hb.lt;clear hown CA hb;rcases hp with rfl|rfl
 ·go_enter Tryz.func180,Tryz.ntmps180;go_wp2;rw[Lib.run_to_unsafe w ⟨b,0,none⟩ (t:=180) nP nP hj (by rw[hjs];decide) hsh (Nat.zero_lt_succ 1)];simp only[Result.andThen];rw[Oper.upon_value];go_wp2;rw[run_callFunc_extern Tryz.func228 nP nP nP (e:=Extern.AbiNoEscape.same) nP,Lib.run_noEscape];simp only[Result.andThen];rw[Oper.upon_value];go_wp2;rw[Lib.run_from_unsafe w ⟨b,0,none⟩ (u:=180) nP nP hj hsh nP];simp only[Result.andThen];rw[Oper.upon_value];go_wp2;go_end0;exact⟨rfl,⟨_,v,HB.out.set 0 _,.inr rfl,yw.out⟩,Rest.set _ _ _⟩
 ·go_enter Tryz.func180,Tryz.ntmps180;go_wp2;rw[Lib.run_neq_ptr_same w _ (te:=180) nP hj];go_wp2;go_end0;exact⟨rfl,⟨_,v,HB.out,.inr rfl,HO.out⟩,Rest.refl _ _ _⟩
theorem TI{b base:Nat}{v:nK}{n:Nat}{xs:List nK}{w:nJ}{cs:Array nK}(hown:w.ownsRow base 5 1 v n xs)(hb:ax w b 180 cs)(i:Nat)(u:nK):(w.setCell ⟨b,i,none⟩ u).ownsRow base 5 1 v n xs:=
 dh hown (fun e=>Lib.ownBlock_ne hown hb nU e)
theorem Bk(b base:Nat)(l:bz)(s:ByteArray)(y:bz)(hy:s.data.toList=y)(w:nJ)(h:Bi b base l w)(hl:l.length<=100000)(hyl:y.length<=100000)(hbase:base<=w.heap.size):Calls nH 96 #[.pointer (some ⟨b,0,none⟩),.string s] w fun e w'=>e=.returned (.tuple #[.int .i64 s.size,.nilIface])/\Bi b base (l++y) w'/\Rest b base w w':=by
 obtain⟨i0,ht,hi,hz,hsize,hby,_,_⟩:=Tj;have hsz:s.size=y.length:=by rw[<-hy,EW]
 have HY:=qh hy;have H:=qh h;clear h hy;go_enter Tryz.func96,Tryz.ntmps96;go_wp2_with (go_at_call 180;refine(GY b base l _ H.out).mono ?_);rintro e w1 ⟨rfl,h1,r1⟩;obtain⟨p,v,hb,hp,hown⟩:=h1;have hs1:base<=w1.heap.size:=nT hbase r1.eM.size;obtain⟨A,cap,rfl⟩:=qt hown;have c1:=hb.cell (i:=1) (v:=.slice A l.length cap) rfl;have ib:=hb.lt;have HB:=qh hb;have HO:=qh hown;have R1:=qh r1;have HP:=qh hp;have HZ:=qh hsz;clear hb hown r1 hp hsz;go_wp2_with (at_builtin;refine Lib.wpList_append_own_string _ rfl _ _ 178 9 rfl base 5 i0 ht nP hi hz hsize hby _ _ _ rfl HO.out s rfl ?c3 ?c4 ?c5 ?_);case c3=>have:=HZ.out;unfold maxLen;omega
 case c4=>have:=HZ.out;omega
 case c5=>omega
 intro v' w2 hown' hgrow _;have r2:Rest b base w1 w2:=Rest.grown HO.out hgrow;have gM:ax w2 b 180 #[.pointer p,.slice A l.length cap]:=(hgrow.block b HB.out.tN (fun e=>Lib.ownBlock_ne HO.out HB.out nU e.symm)).trans HB.out;obtain⟨A',c',rfl⟩:=qt hown';have d1:=gM.cell (i:=1) (v:=.slice A l.length cap) rfl;have f1:=gM.free 1;have ib2:=gM.lt;have Ia:=qh gM;have R2:=qh r2;have yw:Hid (w2.ownsRow base 5 1 (.slice A' (l.length+s.size) c') (l.length+s.size) (Lib.byteCells (l++y))):=qh (by rw[Lib.byteCells_append,<-HY.out];exact hown');clear gM r2 hown' hgrow;go_wp2;go_ret2;refine⟨rfl,⟨p,.slice A' (l.length+s.size) c',?_,HP.out,?_⟩,R1.out.trans (R2.out.trans (Rest.set _ _ _))⟩
 ·exact Ia.out.set 1 _
 ·have:=TI yw.out Ia.out 1 (.slice A' (l.length+s.size) c');rw[HZ.out] at this;rw[List.length_append,HZ.out];exact this
end
namespace Sa
structure Kind where
 fU:Int
 days:Int
structure Part where
 kind:Int
 bC:Int
structure aN where
 kinds:List Kind
 floor:Int
 parts:List Part
 bars:List Int
instance:Inhabited Kind:=⟨⟨0,0⟩⟩
instance:Inhabited Part:=⟨⟨0,0⟩⟩
def oJ(k:Kind):Bool:=fH 0 9 k.fU&&fH 0 20 k.days
def mw(n:Int)(p:Part):Bool:=fH 0 (n-1) p.kind&&fH 0 40 p.bC
def oG(h:aN):Bool:=decide (h.kinds.length<=3)&&fH 0 9 h.floor&&decide (h.parts.length<=6)&&decide (h.bars.length<=4)
def valid(h:aN):Bool:=oG h&&h.kinds.all oJ&&h.parts.all (mw h.kinds.length)&&h.bars.all (fH 0 99)
theorem aD{h:aN}:valid h=true↔(h.kinds.length<=3/\(0<=h.floor/\h.floor<=9)/\h.parts.length<=6/\h.bars.length<=4)/\(∀k∈h.kinds,(0<=k.fU/\k.fU<=9)/\(0<=k.days/\k.days<=20))/\(∀p∈h.parts,(0<=p.kind/\p.kind<=(h.kinds.length:Int)-1)/\(0<=p.bC/\p.bC<=40))/\∀b∈h.bars,0<=b/\b<=99:=by simp only[valid,oG,oJ,mw,Bool.and_eq_true,decide_eq_true_eq,List.all_eq_true,dn,and_assoc]
structure jF where
 parts:Int
 bC:Int
 dR:Int
 days:Int
def Pf:jF:=⟨0,0,0,0⟩
def kindOf(h:aN)(p:Part):Kind:=nth h.kinds p.kind.toNat
def oP(h:aN)(c:jF)(p:Part):jF:=⟨c.parts+1,c.bC+p.bC,max c.dR (kindOf h p).fU,max c.days (kindOf h p).days⟩
def gQ(floor:Int)(c:jF):Int:=if c.parts=0 then 0 else floor+(c.bC*c.dR+9) / 10
def nq(l:List Int)(b:Int):List Nat:=(List.range l.length).filter fun i=>decide (nth l i=b)
def fB(h:aN)(is:List Nat):jF:=is.foldl (fun c i=>oP h c (nth h.parts i)) Pf
def iT(h:aN)(l:List Int)(b:Int):jF:=fB h (nq l b)
theorem rz(h:aN)(is:List Nat)(i:Nat):fB h (is++[i])=oP h (fB h is) (nth h.parts i):=by simp[fB]
theorem zH{α:Type}[Inhabited α](l r:List α){i:Nat}(h:i<l.length):nth (l++r) i=nth l i:=by unfold nth;rw[List.getD_eq_getElem?_getD,List.getD_eq_getElem?_getD,List.getElem?_append_left h]
theorem zI{α:Type}[Inhabited α](l:List α)(x:α)(r:List α):nth (l++x::r) l.length=x:=by unfold nth;rw[List.getD_eq_getElem?_getD,List.getElem?_append_right (nR _)];simp
theorem Gt(l:List Int)(x b:Int):nq (l++[x]) b=nq l b++if x=b then[l.length] else[]:=by
 unfold nq;rw[List.length_append,List.length_cons,List.length_nil,Nat.zero_add,List.range_succ,List.filter_append];congr 1
 ·refine List.filter_congr fun i hi=>?_;rw[zH _ _ (List.mem_range.1 hi)]
 ·rw[List.filter_cons,zI];by_cases hx:x=b<;>simp[hx]
theorem CM(h:aN)(l:List Int)(x b:Int):iT h (l++[x]) b=if x=b then oP h (iT h l b) (nth h.parts l.length) else iT h l b:=by
 unfold iT;rw[Gt];by_cases hx:x=b
 ·rw[if_pos hx,if_pos hx,rz]
 ·rw[if_neg hx,if_neg hx,List.append_nil]
theorem LI{l:List Int}{b:Int}{i:Nat}:i∈nq l b↔i<l.length/\nth l i=b:=by simp[nq]
def Fair(n:Int)(c:jF):Prop:=(0<=c.parts/\c.parts<=n)/\(0<=c.bC/\c.bC<=40*n)/\(0<=c.dR/\c.dR<=9)/\(0<=c.days/\c.days<=20)
theorem N6:Fair 0 Pf:=⟨⟨nU,nU⟩,⟨nU,nU⟩,⟨nU,nU⟩,nU,nU⟩
theorem qC{h:aN}(hv:valid h=true){p:Part}(hp:p∈h.parts):p.kind.toNat<h.kinds.length/\(0<=(kindOf h p).fU/\(kindOf h p).fU<=9)/\(0<=(kindOf h p).days/\(kindOf h p).days<=20):=by have hv:=aD.1 hv;have h1:=hv.2.2.1 p hp;have hlt:p.kind.toNat<h.kinds.length:=nQ;exact⟨hlt,hv.2.1 _ (aV _ hlt)⟩
theorem RF{h:aN}(hv:valid h=true){n:Int}{c:jF}{p:Part}(hp:p∈h.parts)(hc:Fair n c):Fair (n+1) (oP h c p):=by obtain⟨_,k1,k2⟩:=qC hv hp;have p2:=((aD.1 hv).2.2.1 p hp).2;unfold Fair oP at *;simp only[];omega
theorem N7{m n:Int}{c:jF}(h:Fair m c)(hmn:m<=n):Fair n c:=by unfold Fair at *;omega
theorem qH{h:aN}(hv:valid h=true)(is:List Nat)(hi:∀i∈is,i<h.parts.length):Fair is.length (fB h is):=by
 obtain⟨r,rfl⟩:∃r:List Nat,is=r.reverse:=⟨is.reverse,nV⟩;induction r with
 |nil=>exact N6
 |cons i r ih=>
  rw[List.reverse_cons,rz,List.length_append,List.length_cons,List.length_nil]
  exact RF hv (aV _ (hi i nV)) (ih fun j hj=>hi j (by simp at hj ⊢;exact .inl hj))
theorem DN(l:List Int)(b:Int):(nq l b).length<=l.length:=by have:=List.length_filter_le (fun i=>decide (nth l i=b)) (List.range l.length);rwa [List.length_range] at this
theorem fF{h:aN}(hv:valid h=true){l:List Int}(hl:l.length<=h.parts.length)(b:Int):Fair 6 (iT h l b):=
 N7 (qH hv _ fun i hi=>by have:=(LI.1 hi).1;omega) (by have:=DN l b;have:=(aD.1 hv).1.2.2.1;omega)
theorem zL{a b A B:Int}(ha:0<=a/\a<=A)(hb:0<=b/\b<=B):0<=a*b/\a*b<=A*B:=
 ⟨Int.mul_nonneg ha.1 hb.1,Int.mul_le_mul ha.2 hb.2 hb.1 nQ⟩
theorem nM{f:Int}(hf:0<=f/\f<=9){c:jF}(hc:Fair 6 c):0<=gQ f c/\gQ f c<=300:=by have:=zL hc.2.1 hc.2.2.1;unfold gQ;split<;>omega
theorem Pz{h:aN}(hv:valid h=true){c:jF}{n:Int}{p:Part}(hp:p∈h.parts)(hc:Fair n c):gQ h.floor c<=gQ h.floor (oP h c p)/\c.bC<=(oP h c p).bC:=by
 obtain⟨_,k1,k2⟩:=qC hv hp;have p2:=((aD.1 hv).2.2.1 p hp).2;have hf:=(aD.1 hv).1.2.1;have e1:(oP h c p).parts≠0:=by have:=hc.1;simp only[oP];omega
 have e2:c.bC<=(oP h c p).bC:=by simp only[oP];omega
 have e3:c.dR<=(oP h c p).dR:=by simp only[oP];omega
 have e4:0<=(oP h c p).dR:=by have:=hc.2.2.1;omega
 refine⟨?_,e2⟩;have hm:c.bC*c.dR<=(oP h c p).bC*(oP h c p).dR:=Int.mul_le_mul e2 e3 hc.2.2.1.1 (by have:=hc.2.1;omega);have h0:0<=c.bC*c.dR:=Int.mul_nonneg hc.2.1.1 hc.2.2.1.1;unfold gQ;rw[if_neg e1];split<;>omega
def qy(floor:Int)(c:jF):Int:=c.bC+gQ floor c
def UE(h:aN)(l:List Int)(b:Nat):Bool:=decide (qy h.floor (iT h l b)<=nth h.bars b)
def fits(h:aN)(l:List Int):Bool:=(List.range h.bars.length).all (UE h l)
theorem NW{h:aN}(hv:valid h=true){l:List Int}{x:Int}(hl:l.length<h.parts.length)(hf:fits h (l++[x])=true):fits h l=true:=by
 unfold fits at *;rw[List.all_eq_true] at *;intro b hb;have h1:=hf b hb;unfold UE at *;rw[decide_eq_true_eq] at *;rw[CM] at h1;split at h1
 ·have:=Pz hv (aV h.parts hl) (fF hv (nS hl) b);unfold qy at *;omega
 ·exact h1
theorem Rx{h:aN}(hv:valid h=true){l:List Int}(r:List Int)(hl:l.length+r.length<=h.parts.length)(hf:fits h (l++r)=true):fits h l=true:=by
 induction r generalizing l with
 |nil=>simpa using hf
 |cons x r ih=>
  rw[List.length_cons] at hl
  exact NW hv nQ (ih (l:=l++[x]) (by simp;omega) (by simpa using hf))
def nD(m:Nat):Nat->List (List Int)
 |0=>[[]]
 |k+1=>(List.range m).flatMap fun(b:Nat)=>(nD m k).map ((b:Int) :: ·)
theorem jr{m:Nat}:∀ {k:Nat} {l:List Int},l∈nD m k↔l.length=k/\∀x∈l,0<=x/\x<(m:Int)
 |0,l=>by
  simp only[nD,List.mem_singleton];constructor
  ·rintro rfl;exact⟨rfl,fun x hx=>by cases hx⟩
  ·exact fun h=>List.length_eq_zero_iff.1 h.1
 |k+1,l=>by
  simp only[nD,List.mem_flatMap,List.mem_range,List.mem_map];constructor
  ·rintro⟨b,hb,r,hr,rfl⟩;obtain⟨h1,h2⟩:=jr.1 hr;refine⟨by simp[h1],fun x hx=>?_⟩;rcases List.mem_cons.1 hx with rfl|hx
   ·omega
   ·exact h2 x hx
  ·rintro⟨h1,h2⟩;cases l with
   |nil=>simp at h1
   |cons x r=>
    have hx:=h2 x nV
    refine⟨x.toNat,nQ,r,jr.2 ⟨by simpa using h1,fun y hy=>h2 y (by simp[hy])⟩,?_⟩
    rw[Int.toNat_of_nonneg hx.1]
def bL(h:aN):List (List Int):=(nD h.bars.length h.parts.length).filter (fits h)
def mb(m:Nat):List Int->Option (List Int)
 |[]=>none
 |d::ds=>match mb m ds with
  |some q=>some (d::q)
  |none=>if d+1<(m:Int) then some ((d+1)::List.replicate ds.length 0) else none
def nr(m:Nat):List Int->List (List Int)
 |[]=>[[]]
 |d::ds=>(nr m ds).map (d :: ·)++(List.range' (d.toNat+1) (m-(d.toNat+1))).flatMap fun(b:Nat)=>(nD m ds.length).map ((b:Int) :: ·)
theorem tQ{m:Nat}(hm:0<m):∀k:Nat,nr m (List.replicate k 0)=nD m k
 |0=>rfl
 |k+1=>by rw[List.replicate_succ,nr,tQ hm k,List.length_replicate,nD];obtain⟨j,rfl⟩:∃j,m=j+1:=⟨m-1,nQ⟩;rw[List.range_eq_range',List.range'_succ,List.flatMap_cons];simp
theorem tR{m:Nat}:∀ {l:List Int},(∀x∈l,0<=x/\x<(m:Int))->nr m l=l::(match mb m l with|some q=>nr m q|none=>[])
 |[],_=>rfl
 |d::ds,h=>by
  have hd:=h d nV;have hm:0<m:=nQ;have ih:=tR (l:=ds) fun x hx=>h x (by simp[hx]);rw[nr,ih,mb];cases hn:mb m ds with
  |some q=>
   simp only[nr]
   have hq:q.length=ds.length:=by
    have key:∀ {l q:List Int},mb m l=some q->q.length=l.length:=by
     intro l;induction l with
     |nil=>intro q hq;cases hq
     |cons x xs ihh=>
      intro q hq
      rw[mb] at hq
      cases hx:mb m xs with
      |some q'=>rw[hx] at hq;simp only[Option.some.injEq] at hq;subst hq;simp[ihh hx]
      |none=>
       rw[hx] at hq
       simp only[] at hq
       split at hq
       ·simp only[Option.some.injEq] at hq;subst hq;simp
       ·cases hq
    exact key hn
   rw[hq]
   simp
  |none=>
   simp only[List.map_cons,List.map_nil]
   by_cases hlt:d+1<(m:Int)
   ·rw[if_pos hlt];simp only[nr];rw[tQ hm,List.length_replicate];obtain⟨j,hj⟩:∃j,m-(d.toNat+1)=j+1:=⟨m-(d.toNat+1)-1,nQ⟩;rw[hj,List.range'_succ,List.flatMap_cons,show((d.toNat+1:Nat):Int)=d+1 by omega,show(d+1).toNat+1=d.toNat+1+1 by omega,show m-(d.toNat+1+1)=j by omega];simp
   ·rw[if_neg hlt,show m-(d.toNat+1)=0 by omega];simp
theorem TQ{m:Nat}{l:List Int}(x:Int)(k:Nat)(hx:x+1<(m:Int)):mb m (l++x::List.replicate k ((m:Int)-1))=some (l++(x+1)::List.replicate k 0):=by
 have hend:∀k,mb m (List.replicate k ((m:Int)-1))=none:=by
  intro k;induction k with
  |zero=>rfl
  |succ k ih=>rw[List.replicate_succ,mb,ih];simp only[];rw[if_neg nQ]
 induction l with
 |nil=>rw[List.nil_append,mb,hend];simp only[];rw[if_pos hx];simp
 |cons y l ih=>rw[List.cons_append,mb,ih];rfl
theorem Qm{m:Nat}(k:Nat):mb m (List.replicate k ((m:Int)-1))=none:=by
 induction k with
 |zero=>rfl
 |succ k ih=>rw[List.replicate_succ,mb,ih];simp only[];rw[if_neg nQ]
def fV(h:aN):Nat->List Int->List (List Int)
 |0,l=>if fits h l=true then[l] else[]
 |k+1,l=>if fits h l=true then (List.range h.bars.length).flatMap fun(b:Nat)=>fV h k (l++[(b:Int)]) else[]
theorem Cs{h:aN}(hv:valid h=true):∀(k:Nat) (l:List Int),l.length+k=h.parts.length->fV h k l=((nD h.bars.length k).map (l ++ ·)).filter (fits h)
 |0,l,hl=>by rw[fV,nD];by_cases hf:fits h l=true<;>simp[hf]
 |k+1,l,hl=>by
  rw[fV];by_cases hf:fits h l=true
  ·rw[if_pos hf,nD,List.map_flatMap,List.filter_flatMap];congr 1;funext b;rw[Cs hv k (l++[(b:Int)]) (by simp;omega),List.map_map];congr 2;funext r;simp
  ·rw[if_neg hf];symm;rw[List.filter_eq_nil_iff];intro o ho hfo;obtain⟨r,hr,rfl⟩:=List.mem_map.1 ho;exact hf (Rx hv r (by have:=(jr.1 hr).1;omega) hfo)
theorem xS{h:aN}(hv:valid h=true):fV h h.parts.length []=bL h:=by rw[Cs hv _ _ nV];simp[bL]
def gP(f:Nat->Int):Nat->Int
 |0=>0
 |k+1=>gP f k+f k
theorem uA{f:Nat->Int}{m:Nat}:∀ {k:Nat},(∀i,m<=i->i<m+k->f i=0)->gP f (m+k)=gP f m
 |0,_=>rfl
 |k+1,h=>by rw[<-Nat.add_assoc,gP,uA fun i h1 h2=>h i h1 nQ,h (m+k) nQ nQ];omega
theorem jj{f:Nat->Int}{A:Int}(hA:∀i,0<=f i/\f i<=A):∀k:Nat,0<=gP f k/\gP f k<=A*k
 |0=>by simp[gP]
 |k+1=>by have:=jj hA k;have:=hA k;rw[gP,show(A*((k+1:Nat):Int))=A*k+A by rw[Int.natCast_succ,Int.mul_add,Int.mul_one]];omega
def vf(h:aN)(l:List Int)(b:Nat):Int:=gQ h.floor (iT h l b)
def cL(h:aN)(l:List Int):Int:=gP (vf h l) 5
def mE(h:aN)(d:Int)(l:List Int)(b:Nat):Int:=if (iT h l b).days<=d then (iT h l b).bC else 0
def jo(h:aN)(d:Int)(l:List Int):Int:=gP (mE h d l) 5
theorem CN{h:aN}{l:List Int}{b:Nat}(hl:∀x∈l,x<(b:Int)):iT h l b=Pf:=by
 unfold iT;rw[show nq l b=[] from ?_]
 ·rfl
 ·unfold nq;rw[List.filter_eq_nil_iff];intro i hi;have:=hl _ (aV l (List.mem_range.1 hi));simp;omega
theorem Ei{h:aN}(h4:h.bars.length<=4){l:List Int}(hl:∀x∈l,x<(h.bars.length:Int)):cL h l=gP (vf h l) h.bars.length:=by unfold cL;obtain⟨k,hk⟩:∃k,5=h.bars.length+k:=⟨5-h.bars.length,nQ⟩;rw[hk];refine uA fun i h1 h2=>?_;unfold vf;rw[CN fun x hx=>by have:=hl x hx;omega];rfl
theorem GR{h:aN}(h4:h.bars.length<=4)(d:Int){l:List Int}(hl:∀x∈l,x<(h.bars.length:Int)):jo h d l=gP (mE h d l) h.bars.length:=by unfold jo;obtain⟨k,hk⟩:∃k,5=h.bars.length+k:=⟨5-h.bars.length,nQ⟩;rw[hk];refine uA fun i h1 h2=>?_;unfold mE;rw[CN fun x hx=>by have:=hl x hx;omega];split<;>rfl
def eG(h:aN)(size:Int):aN:={ h with bars:=h.bars++[size] }
def xT(h:aN)(l:List Int):Int:=qy h.floor (iT h l h.bars.length)
def jG(h:aN)(ls:List (List Int)):Int:=(ls.filter (fits h)).foldl (fun n l=>min n (xT h l)) 100
def kG(h:aN):Int:=jG h (nD (h.bars.length+1) h.parts.length)
theorem CO(h:aN)(size:Int)(l:List Int)(b:Int):iT (eG h size) l b=iT h l b:=rfl
theorem xu(h:aN)(size:Int)(l:List Int):fits (eG h size) l=true↔fits h l=true/\xT h l<=size:=by
 unfold fits;rw[show(eG h size).bars.length=h.bars.length+1 by simp[eG],List.range_succ,List.all_append,Bool.and_eq_true];refine and_congr ?_ ?_
 ·rw[List.all_eq_true,List.all_eq_true];refine forall_congr' fun b=>forall_congr' fun hb=>?_;unfold UE;rw[CO,show(eG h size).floor=h.floor from rfl,show(eG h size).bars=h.bars++[size] from rfl,zH _ _ (List.mem_range.1 hb)]
 ·rw[List.all_cons,List.all_nil,Bool.and_true];unfold UE xT;rw[CO,show(eG h size).floor=h.floor from rfl,show(eG h size).bars=h.bars++[size] from rfl,zI,decide_eq_true_eq]
theorem foldl_min(f:List Int->Int):∀(ls:List (List Int)) (n:Int) (s:Int),ls.foldl (fun n l=>min n (f l)) n<=s↔n<=s\/∃l∈ls,f l<=s
 |[],n,s=>by simp
 |x::ls,n,s=>by
  rw[List.foldl_cons,foldl_min f ls];simp only[List.mem_cons,exists_eq_or_imp];constructor
  ·rintro(h1|h1)
   ·rcases Int.le_total n (f x) with h2|h2
    ·exact .inl nQ
    ·exact .inr (.inl nQ)
   ·exact .inr (.inr h1)
  ·rintro(h1|h1|h1)
   ·exact .inl nQ
   ·exact .inl nQ
   ·exact .inr h1
theorem size_le{h:aN}{s:Int}(hs:s<100):kG h<=s↔bL (eG h s)≠[]:=by
 unfold kG jG;rw[foldl_min,Ne,bL,List.filter_eq_nil_iff,show(eG h s).bars.length=h.bars.length+1 by simp[eG],show(eG h s).parts=h.parts from rfl];constructor
 ·rintro(h1|⟨l,hl,h1⟩)
  ·omega
  ·rw[List.mem_filter] at hl;exact fun h2=>h2 l hl.1 ((xu h s l).2 ⟨hl.2,h1⟩)
 ·intro h1;apply Classical.byContradiction;intro h2;refine h1 fun l hl hf=>h2 (.inr ⟨l,?_,((xu h s l).1 hf).2⟩);exact List.mem_filter.2 ⟨hl,((xu h s l).1 hf).1⟩
theorem Ms(h:aN)(ls:List (List Int))(l:List Int):jG h (ls++[l])=if fits h l=true then min (jG h ls) (xT h l) else jG h ls:=by unfold jG;rw[List.filter_append,List.foldl_append];by_cases hf:fits h l=true<;>simp[hf]
theorem xI{h:aN}(hv:valid h=true)(ls:List (List Int))(hl:∀l∈ls,l.length<=h.parts.length):0<=jG h ls/\jG h ls<=100:=by
 obtain⟨r,rfl⟩:∃r:List (List Int),ls=r.reverse:=⟨ls.reverse,nV⟩;induction r with
 |nil=>simp[jG]
 |cons l r ih=>
  have:=ih fun x hx=>hl x (by simp at hx ⊢;exact .inl hx)
  rw[List.reverse_cons,Ms]
  have hc:=fF hv (hl l nV) h.bars.length
  have hs:=nM (aD.1 hv).1.2.1 hc
  have h2:=hc.2.1
  unfold xT qy
  split<;>omega
theorem zM{h:aN}(hv:valid h=true)(h4:h.bars.length<4){s:Int}(hs:0<=s/\s<=99):valid (eG h s)=true:=by
 have hv:=aD.1 hv;refine aD.2 ⟨⟨hv.1.1,hv.1.2.1,hv.1.2.2.1,by simp[eG];omega⟩,hv.2.1,hv.2.2.1,fun b hb=>?_⟩;rcases List.mem_append.1 hb with h1|h1
 ·exact hv.2.2.2 b h1
 ·simp at h1;omega
def rJ(h:aN):Int:=if bL h≠[] then 0 else if h.bars.length=4 then 0 else if 99<kG h then 0 else kG h
def tY(h:aN):Int:=if bL h≠[] then 0 else if h.bars.length=4 then 2 else if 99<kG h then 3 else 0
end Sa
end Go.Proofs.YtdmedlkonaclnaaGreatDoor
