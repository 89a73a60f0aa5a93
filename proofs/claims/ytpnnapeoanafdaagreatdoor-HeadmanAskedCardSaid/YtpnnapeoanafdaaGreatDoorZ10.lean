/- A part of the proof that a law of layer 12 holds, cut small by a program (names and blanks): HdP2, HdP3, HdP4, HdP5, HdP7, HdP6, HdP8. -/
import Derived.Test.YtpnnapeoanafdaaGreatDoorZ2
import Derived.Test.YtpnnapeoanafdaaGreatDoorZ6
import Derived.Test.YtpnnapeoanafdaaGreatDoorZ9
set_option maxRecDepth 100000
set_option maxHeartbeats 40000000
set_option linter.unusedVariables false
set_option linter.unusedSimpArgs false
namespace Go.Proofs.YtpnnapeoanafdaaGreatDoor
open Go.RowKit
open Nat renaming le_trans → nT, le_refl → nR, lt_succ_self → nA
def An.wN(n:An.Net):Nat:=bQ (ry n) 21 0
theorem An.aa9(n:An.Net):An.wN n<=21:=sZ _ _
namespace Hd
structure aO where
 aF:An.Net
 af:Me.Net
 aa:Sa.aJ
def aE(t:aO):Bool:=An.valid t.aF&&Me.valid t.af&&Sa.valid t.aa
theorem aX{t:aO}:aE t=true↔An.valid t.aF=true/\Me.valid t.af=true/\Sa.valid t.aa=true:=by simp[aE,and_assoc]
def Is(n:Me.Net)(d:Int):Me.Net:=⟨n.m,n.hs,n.ps.filter fun p=>decide (p.a≠d/\p.b≠d)⟩
def nM(n:Me.Net)(d:Nat):Me.Net:=Me.cut (Is n d) d
def jd(t:aO)(c:eB):Option aO:=
 match c.w with
 |.aP=>some ⟨⟨⟨nth c.a 0,nth c.a 1⟩,t.aF.cur,t.aF.av,t.aF.aB,t.aF.aU⟩,t.af,t.aa⟩
 |.current=>some ⟨⟨t.aF.aP,⟨nth c.a 0,nth c.a 1⟩,t.aF.av,t.aF.aB,t.aF.aU⟩,t.af,t.aa⟩
 |.gJ=>if 0<=nth c.a 0/\nth c.a 0<t.aF.aB.length then
   some ⟨⟨t.aF.aP,t.aF.cur,t.aF.av,t.aF.aB.set (nth c.a 0).toNat ⟨nth c.a 1,(nth t.aF.aB (nth c.a 0).toNat).bt⟩,t.aF.aU⟩,t.af,t.aa⟩ else none
 |.af=>some ⟨t.aF,⟨t.af.m,t.af.hs++[⟨nth c.a 0,nth c.a 1,nth c.a 2,nth c.a 3⟩],t.af.ps⟩,t.aa⟩
 |.mV=>some ⟨t.aF,⟨t.af.m,t.af.hs,t.af.ps++[⟨nth c.a 0,nth c.a 1⟩]⟩,t.aa⟩
 |.dY=>some ⟨t.aF,⟨nth c.a 0,t.af.hs,t.af.ps⟩,t.aa⟩
 |.eE=>if t.af.hs.length=0 then none else some ⟨t.aF,nM t.af (nth (Me.fZ t.af) 0).toNat,t.aa⟩
 |.part=>some ⟨t.aF,t.af,⟨t.aa.kinds,t.aa.floor,t.aa.parts++[⟨nth c.a 0,nth c.a 1⟩],t.aa.bars⟩⟩
 |.fG=>some ⟨t.aF,t.af,⟨t.aa.kinds,t.aa.floor,t.aa.parts,t.aa.bars++[nth c.a 0]⟩⟩
 |_=>none
def gz(t:aO)(c:eB):Option aO:=match jd t c with
 |none=>none
 |some o=>if aE o=true then some o else none
theorem LJ{t o:aO}{c:eB}(h:gz t c=some o):aE o=true:=by
 unfold gz at h;cases h0:jd t c with
 |none=>rw[h0] at h;cases h
 |some o'=>
  rw[h0] at h
  simp only at h
  split at h
  ·injection h with h;subst h;assumption
  ·cases h
def jc(t:aO)(c:eB):aO:=(gz t c).getD t
theorem rP{t:aO}(hv:aE t=true)(c:eB):aE (jc t c)=true:=by
 unfold jc;cases h:gz t c with
 |none=>exact hv
 |some o=>exact LJ h
def WB(h:Sa.aJ):Int × Int:=if Sa.bM h=[] then (0,3) else (Sa.cK h (Me.least (Sa.cK h) (Sa.bM h)),0)
def Rf(h:Sa.aJ):List Int × Int:=if Sa.bM h=[] then ([],3) else (Me.least (Sa.cK h) (Sa.bM h),0)
def EP(h:Sa.aJ)(d:Int)(l:List Int):Int:=-(Sa.ju h d l)
def S8(h:Sa.aJ)(d:Int):Int × Int:=if fH 0 20 d=false then (0,1) else if Sa.bM h=[] then (0,3) else (Sa.ju h d (Me.least (EP h d) (Sa.bM h)),0)
def ew(t:aO)(c:eB):Int × Int:=
 match c.w with
 |.safe=>(qa (decide (An.jW t.aF (bY t.aF) 0=0)) (decide (An.jW t.aF (iC t.aF) 0=0)),0)
 |.gr=>if An.wN t.aF=21 then (0,3) else (An.wN t.aF,0)
 |.jl=>(Me.cR t.af,0)
 |.done=>(Me.mE t.af,0)
 |.fV=>WB t.aa
 |.early=>S8 t.aa (nth c.a 0)
 |_=>(Sa.rQ t.aa,Sa.ud t.aa)
def lP(t:aO)(c:eB):List Int × Int:=
 match c.w with
 |.nD=>(An.kQ t.aF,An.nc t.aF)
 |.order=>(Me.fZ t.af,0)
 |_=>Rf t.aa
def tW:aQ:=[111,107]
def vk:aQ:=[110,111]
def mC:aQ:=[119,104,97,116]
def aab:aQ:=[110,111,110,101]
def Jz:aQ:=[119,114,111,110,103]
def vj:aQ:=[110,111,116,104,105,110,103]
def jB(b:Bool):aQ:=if b=true then tW else vk
def mB(e:Int)(t:aQ):aQ:=if e=0 then t else if e=3 then aab else Jz
def gI:List Int->aQ
 |[]=>[]
 |[x]=>Lib.itoa x
 |x::y::r=>Lib.itoa x++32::gI (y::r)
def pP(l:List Int):aQ:=if l=[] then vj else gI l
def fY(t:aO)(c:eB):aQ:=if cg c.w=3 then mB (lP t c).2 (pP (lP t c).1) else mB (ew t c).2 (Lib.itoa (ew t c).1)
def Cw(s:UInt8)(v n:Int):Bool:=if s=60 then decide (v<n) else if s=61 then decide (v=n) else decide (n<v)
def fR(t:aO)(q:eB)(s:UInt8)(n:Int):Bool:=decide ((ew t q).2=0)&&Cw s (ew t q).1 n
def oW(t:aO):ql->Bool
 |.ord q s n _=>fR t q s n
 |_=>false
def Cl:ql->eB
 |.ord _ _ _ c=>c
 |_=>⟨.aP,[]⟩
structure Ord where
 num:Nat
 line:aQ
instance:Inhabited Ord:=⟨⟨0,[]⟩⟩
structure ct where
 ax:aO
 az:List Ord
 given:Nat
def gE(t:aO)(os:List Ord):Option Nat:=os.findIdx? fun o=>oW t (bH o.line)
def rW(n:Nat)(b:Bool):aQ:=32::Lib.itoa (n:Int)++58::jB b
def de:Nat->ct->ct × aQ
 |0,d=>(d,[])
 |k+1,d=>match gE d.ax d.az with
  |none=>(d,[])
  |some i=>
   let o:=nth d.az i
   let c:=Cl (bH o.line)
   let r:=de k ⟨jc d.ax c,d.az.eraseIdx i,d.given⟩
   (r.1,rW o.num (gz d.ax c).isSome++r.2)
def cI(d:ct)(line:aQ):ct × aQ:=
 match bH line with
 |.none=>(d,mC)
 |.ord _ _ _ _=>if d.az.length=5 then (d,vk) else (⟨d.ax,d.az++[⟨d.given,line⟩],d.given+1⟩,tW)
 |.cmd c=>
  if cg c.w=1 then (⟨jc d.ax c,d.az,d.given⟩,jB (gz d.ax c).isSome)
  else if cg c.w=5 then match d.az.findIdx? (fun o=>decide ((o.num:Int)=nth c.a 0)) with
   |none=>(d,vk)
   |some i=>(⟨d.ax,d.az.eraseIdx i,d.given⟩,tW)
  else (d,fY d.ax c)
def fO(d:ct)(line:aQ):ct × aQ:=
 let r:=de (cI d line).1.az.length (cI d line).1
 (r.1,(cI d line).2++r.2)
def dJ:ct->List aQ->ct × List aQ
 |d,[]=>(d,[])
 |d,l::ls=>((dJ (fO d l).1 ls).1,(fO d l).2::(dJ (fO d l).1 ls).2)
theorem NK(ls:List aQ):∀(d:ct) (l:aQ),dJ d (ls++[l])=((fO (dJ d ls).1 l).1,(dJ d ls).2++[(fO (dJ d ls).1 l).2]):=by
 induction ls with
 |nil=>intro d l;rfl
 |cons x xs ih=>intro d l;rw[List.cons_append,dJ,ih];rfl
theorem Gf(ls:List aQ):∀d,(dJ d ls).2.length=ls.length:=by
 induction ls with
 |nil=>intro d;rfl
 |cons x xs ih=>intro d;rw[dJ];simp[ih]
def bZ(t:aO):ct:=⟨t,[],0⟩
theorem FM(k:Nat):∀d:ct,aE d.ax=true->aE (de k d).1.ax=true:=by
 induction k with
 |zero=>intro d h;exact h
 |succ k ih=>
  intro d h
  rw[de]
  cases gE d.ax d.az with
  |none=>exact h
  |some i=>exact ih _ (rP h _)
theorem xm{d:ct}(h:aE d.ax=true)(l:aQ):aE (cI d l).1.ax=true:=by
 unfold cI;cases bH l with
 |none=>exact h
 |ord q s n c=>simp only[];split<;>exact h
 |cmd c=>
  simp only[]
  split
  ·exact rP h c
  ·split
   ·split<;>exact h
   ·exact h
theorem uE{d:ct}(h:aE d.ax=true)(l:aQ):aE (fO d l).1.ax=true:=FM _ _ (xm h l)
theorem CE(ls:List aQ):∀ {d:ct},aE d.ax=true->aE (dJ d ls).1.ax=true:=by
 induction ls with
 |nil=>intro d h;exact h
 |cons l ls ih=>intro d h;rw[dJ];exact ih (uE h l)
def ie(os:List Ord):Prop:=os.length<=5/\∀o∈os,∃q s n c,bH o.line=.ord q s n c
theorem qZ{os:List Ord}(h:ie os)(i:Nat):ie (os.eraseIdx i):=
 ⟨nT (List.length_eraseIdx_le _ _) h.1,fun o ho=>h.2 o (List.mem_of_mem_eraseIdx ho)⟩
theorem JG(k:Nat):∀d:ct,ie d.az->ie (de k d).1.az:=by
 induction k with
 |zero=>intro d h;exact h
 |succ k ih=>
  intro d h
  rw[de]
  cases gE d.ax d.az with
  |none=>exact h
  |some i=>exact ih _ (qZ h i)
theorem vE{d:ct}(h:ie d.az)(l:aQ):ie (cI d l).1.az:=by
 unfold cI;cases hl:bH l with
 |none=>exact h
 |ord q s n c=>
  simp only[]
  split
  ·exact h
  ·refine⟨by have:=h.1;simp;omega,fun o ho=>?_⟩;rcases List.mem_append.1 ho with h1|h1
   ·exact h.2 o h1
   ·simp at h1;subst h1;exact⟨q,s,n,c,hl⟩
 |cmd c=>
  simp only[]
  split
  ·exact h
  ·split
   ·split
    ·exact h
    ·exact qZ h _
   ·exact h
theorem wW{d:ct}(h:ie d.az)(l:aQ):ie (fO d l).1.az:=JG _ _ (vE h l)
theorem zC(ls:List aQ):∀ {d:ct},ie d.az->ie (dJ d ls).1.az:=by
 induction ls with
 |nil=>intro d h;exact h
 |cons l ls ih=>intro d h;rw[dJ];exact ih (wW h l)
theorem sJ:ie []:=⟨nV,fun o ho=>by cases ho⟩
end Hd
namespace Hd
def qH:List aQ->aQ
 |[]=>[]
 |[w]=>w
 |w::v::r=>w++32::qH (v::r)
theorem Cs{w:aQ}(h:(32:UInt8)∉w)(s:aQ):aS (w++32::s)=w::aS s:=by
 induction w with
 |nil=>rw[List.nil_append,aS,if_pos rfl]
 |cons b r ih=>
  have hb:b≠32:=fun e=>h (by simp[e])
  rw[List.cons_append,aS,if_neg hb,ih (fun e=>h (by simp[e]))]
theorem JI{w:aQ}(h:(32:UInt8)∉w):aS w=[w]:=by
 induction w with
 |nil=>rfl
 |cons b r ih=>
  have hb:b≠32:=fun e=>h (by simp[e])
  rw[aS,if_neg hb,ih (fun e=>h (by simp[e]))]
theorem uG:∀ {ws:List aQ},ws≠[]->(∀w∈ws,(32:UInt8)∉w)->aS (qH ws)=ws
 |[],h,_=>absurd rfl h
 |[w],_,h=>JI (h w nV)
 |w::v::r,_,h=>by rw[qH,Cs (h w nV),uG nV fun x hx=>h x (by simp[hx])]
theorem xS(s:aQ):∀w∈aS s,(32:UInt8)∉w:=by
 induction s with
 |nil=>intro w hw;simp[aS] at hw;simp[hw]
 |cons b r ih=>
  rw[aS]
  by_cases hb:b=32
  ·rw[if_pos hb];intro w hw;rcases List.mem_cons.1 hw with rfl|hw
   ·simp
   ·exact ih w hw
  ·rw[if_neg hb];cases hs:aS r with
   |nil=>exact absurd hs (gQ r)
   |cons v vs=>
    rw[hs] at ih
    intro w hw
    rcases List.mem_cons.1 hw with rfl|hw
    ·intro h;rcases List.mem_cons.1 h with h|h
     ·exact hb h.symm
     ·exact ih v nV h
    ·exact ih w (by simp[hw])
theorem join_cons{w:aQ}{r:List aQ}(h:r≠[]):qH (w::r)=w++32::qH r:=by
 cases r with
 |nil=>exact absurd rfl h
 |cons v vs=>rfl
theorem KO(s:aQ):qH (aS s)=s:=by
 induction s with
 |nil=>rfl
 |cons b r ih=>
  rw[aS]
  by_cases hb:b=32
  ·rw[if_pos hb,join_cons (gQ r),ih,hb];rfl
  ·rw[if_neg hb];cases hs:aS r with
   |nil=>exact absurd hs (gQ r)
   |cons v vs=>
    rw[hs] at ih
    simp only[]
    rw[<-ih]
    cases vs with
    |nil=>rfl
    |cons u us=>rfl
theorem KV(n:Int):∀b∈Lib.itoa n,b=45\/48<=b.toNat/\b.toNat<=57:=by
 intro b hb;unfold Lib.itoa at hb;split at hb
 ·rcases List.mem_cons.1 hb with rfl|hb
  ·exact .inl rfl
  ·exact .inr ((dQ _).2.2.2.1 b hb)
 ·exact .inr ((dQ _).2.2.2.1 b hb)
theorem Hg(n:Int)(c:UInt8)(h:c≠45)(h2:¬(48<=c.toNat/\c.toNat<=57)):c∉Lib.itoa n:=by
 intro hc;rcases KV n c hc with h'|h'
 ·exact h h'
 ·exact h2 h'
theorem Vu(n:Int):Lib.itoa n≠[]:=by
 unfold Lib.itoa;split
 ·simp
 ·exact(dQ _).2.1
def aby(c:eB):Prop:=c.a.length=tS c.w/\∀x∈c.a,-1000000<x/\x<1000000
theorem AW{ws:List aQ}{c:eB}(h:bJ ws=some c):aby c:=by obtain⟨r,_,h1,h2⟩:=EV.1 h;exact⟨h2,Ky h1⟩
theorem Oi{t:aQ}{q c:eB}{s:UInt8}{n:Int}(h:bH t=.ord q s n c):∃k,(aS t).head?=some fJ/\fM eY (aS t)=some k/\4<=k/\bJ (((aS t).take (k-2)).drop 1)=some q/\kC (nth (aS t) (k-2))=some s/\numOf (nth (aS t) (k-1))=some n/\bJ ((aS t).drop (k+1))=some c/\cg q.w=2/\cg c.w=1:=by
 unfold bH dH at h;split at h
 ·rename_i hw;cases hi:fM eY (aS t) with
  |none=>rw[hi] at h;cases h
  |some k=>
   rw[hi] at h
   simp only[] at h
   split at h
   ·cases h
   ·rename_i h4;unfold oK at h;cases h1:bJ (((aS t).take (k-2)).drop 1) with
    |none=>rw[h1] at h;cases h
    |some q'=>
     cases h2:kC (nth (aS t) (k-2)) with
     |none=>rw[h1,h2] at h;cases h
     |some s'=>
      cases h3:numOf (nth (aS t) (k-1)) with
      |none=>rw[h1,h2,h3] at h;cases h
      |some n'=>
       cases h5:bJ ((aS t).drop (k+1)) with
       |none=>rw[h1,h2,h3,h5] at h;cases h
       |some c'=>
        rw[h1,h2,h3,h5] at h
        simp only[] at h
        split at h
        ·rename_i hk;injection h with e1 e2 e3 e4;subst e1 e2 e3 e4;exact⟨k,hw,hi▸rfl,nQ,h1,h2,h3,h5,hk⟩
        ·cases h
 ·cases hc:bJ (aS t) with
  |none=>rw[hc] at h;cases h
  |some c'=>rw[hc] at h;cases h
def jQ(l:aQ):Bool:=match bH l with|.ord _ _ _ _=>true|_=>false
def Calm(d:ct):Prop:=gE d.ax d.az=none
theorem Tv(t:aO)(g:Nat):Calm ⟨t,[],g⟩:=rfl
theorem zv:∀ {k:Nat} {d:ct},Calm d->de k d=(d,[])
 |0,d,_=>rfl
 |k+1,d,h=>by rw[de,show gE d.ax d.az=none from h]
theorem sY{t:aO}{os:List Ord}{i:Nat}(h:gE t os=some i):i<os.length/\oW t (bH (nth os i).line)=true/\∀j,j<i->oW t (bH (nth os j).line)=false:=by unfold gE at h;obtain⟨h1,h2,h3⟩:=List.findIdx?_eq_some_iff_getElem.1 h;refine⟨h1,by rw[bN _ h1];exact h2,fun j hj=>?_⟩;have:=h3 j hj;rw[bN _ nQ];simpa using this
theorem Cr:∀ {k:Nat} {d:ct},d.az.length<=k->Calm (de k d).1
 |0,d,h=>by have:d.az=[]:=List.length_eq_zero_iff.1 nQ;unfold Calm de gE;rw[this];rfl
 |k+1,d,h=>by
  rw[de];cases hf:gE d.ax d.az with
  |none=>exact hf
  |some i=>exact Cr (by have:=(sY hf).1;simp[List.length_eraseIdx,this];omega)
theorem Ny(d:ct)(l:aQ):Calm (fO d l).1:=Cr (nR _)
theorem Ge:∀(ls:List aQ) {d:ct},Calm d->Calm (dJ d ls).1
 |[],_,h=>h
 |l::ls,d,_=>by rw[dJ];exact Ge ls (Ny d l)
def ny(t:aO)(l:aQ):aO × aQ:=
 match bH l with
 |.none=>(t,mC)
 |.ord _ _ _ _=>(t,vk)
 |.cmd c=>if cg c.w=1 then (jc t c,jB (gz t c).isSome) else if cg c.w=5 then (t,vk) else (t,fY t c)
def qX:aO->List aQ->aO × List aQ
 |t,[]=>(t,[])
 |t,l::ls=>((qX (ny t l).1 ls).1,(ny t l).2::(qX (ny t l).1 ls).2)
theorem Ob{l:aQ}(h:jQ l=false)(t:aO)(g:Nat):cI ⟨t,[],g⟩ l=(⟨(ny t l).1,[],g⟩,(ny t l).2):=by
 unfold cI ny;unfold jQ at h;cases hl:bH l with
 |none=>rfl
 |ord q s n c=>rw[hl] at h;cases h
 |cmd c=>
  simp only[]
  split
  ·rfl
  ·split<;>rfl
theorem JA{l:aQ}(h:jQ l=false)(t:aO)(g:Nat):fO ⟨t,[],g⟩ l=(⟨(ny t l).1,[],g⟩,(ny t l).2):=by unfold fO;rw[Ob h];simp only[List.length_nil,de,List.append_nil]
theorem tH:∀ {ls:List aQ},(∀l∈ls,jQ l=false)->∀(t:aO) (g:Nat),dJ ⟨t,[],g⟩ ls=(⟨(qX t ls).1,[],g⟩,(qX t ls).2)
 |[],_,t,g=>rfl
 |l::ls,h,t,g=>by rw[dJ,JA (h l nV),tH (ls:=ls) fun x hx=>h x (by simp[hx])];rfl
theorem vY(d:Wd):cg d=1\/cg d=2\/cg d=3\/cg d=5:=by cases d<;>decide
end Hd
namespace Hd
def xj:Wd->Nat
 |.aP=>1
 |.current=>1
 |.gJ=>1
 |.safe=>1
 |.gr=>1
 |.nD=>1
 |.af=>2
 |.mV=>2
 |.dY=>2
 |.eE=>2
 |.jl=>2
 |.order=>2
 |.done=>2
 |.part=>3
 |.fG=>3
 |.fV=>3
 |.pack=>3
 |.early=>3
 |.yB=>3
 |.forget=>0
def mz(t:aO)(c:eB):aO × aQ:=if cg c.w=1 then (jc t c,jB (gz t c).isSome) else if cg c.w=5 then (t,vk) else (t,fY t c)
theorem tJ{l:aQ}{c:eB}(h:bH l=.cmd c)(t:aO):ny t l=mz t c:=by unfold ny mz;rw[h]
theorem UU{c:eB}(hp:xj c.w=1):∃(f:An.Net->An.Net) (a:An.Net->aQ),∀t,aE t=true->mz t c=(⟨f t.aF,t.af,t.aa⟩,a t.aF)/\An.valid (f t.aF)=true:=by
 have AD:∀(g:An.Net->Option An.Net),cg c.w=1->(∀t,jd t c=(g t.aF).map fun n=>⟨n,t.af,t.aa⟩)->∃(f:An.Net->An.Net) (a:An.Net->aQ),∀t,aE t=true->mz t c=(⟨f t.aF,t.af,t.aa⟩,a t.aF)/\An.valid (f t.aF)=true:=by
  intro g hk hg;refine⟨fun n=>match g n with|none=>n|some n'=>if An.valid n'=true then n' else n,fun n=>jB (match g n with|none=>false|some n'=>An.valid n'),fun t hv=>?_⟩;obtain⟨h1,h2,h3⟩:=aX.1 hv;unfold mz jc gz;rw[if_pos hk,hg t];cases hgt:g t.aF with
  |none=>simp[hgt,h1,jB]
  |some n'=>
   have e:aE ⟨n',t.af,t.aa⟩=An.valid n':=by unfold aE;rw[h2,h3];simp
   simp only[Option.map_some,e,hgt]
   by_cases hn:An.valid n'=true
   ·simp[hn]
   ·simp[hn,h1]
 have yL:cg c.w≠1->cg c.w≠5->(∀t t':aO,t.aF=t'.aF->fY t c=fY t' c)->∃(f:An.Net->An.Net) (a:An.Net->aQ),∀t,aE t=true->mz t c=(⟨f t.aF,t.af,t.aa⟩,a t.aF)/\An.valid (f t.aF)=true:=by intro h1 h5 ha;refine⟨id,fun n=>fY ⟨n,⟨0,[],[]⟩,⟨[],0,[],[]⟩⟩ c,fun t hv=>?_⟩;unfold mz;rw[if_neg h1,if_neg h5,ha t ⟨t.aF,⟨0,[],[]⟩,⟨[],0,[],[]⟩⟩ rfl];exact⟨rfl,(aX.1 hv).1⟩
 obtain⟨w,a⟩:=c;cases w
 ·exact AD (fun n=>some ⟨⟨nth a 0,nth a 1⟩,n.cur,n.av,n.aB,n.aU⟩) rfl fun t=>rfl
 ·exact AD (fun n=>some ⟨n.aP,⟨nth a 0,nth a 1⟩,n.av,n.aB,n.aU⟩) rfl fun t=>rfl
 ·exact AD (fun n=>if 0<=nth a 0/\nth a 0<n.aB.length then some ⟨n.aP,n.cur,n.av,n.aB.set (nth a 0).toNat ⟨nth a 1,(nth n.aB (nth a 0).toNat).bt⟩,n.aU⟩ else none) rfl fun t=>by simp only[jd];split<;>simp
 ·cases hp
 ·cases hp
 ·cases hp
 ·cases hp
 ·cases hp
 ·cases hp
 ·exact yL (by simp[cg]) (by simp[cg]) fun t t' h=>by simp[fY,ew,lP,cg,h]
 ·exact yL (by simp[cg]) (by simp[cg]) fun t t' h=>by simp[fY,ew,lP,cg,h]
 ·cases hp
 ·cases hp
 ·cases hp
 ·cases hp
 ·cases hp
 ·exact yL (by simp[cg]) (by simp[cg]) fun t t' h=>by simp[fY,ew,lP,cg,h]
 ·cases hp
 ·cases hp
 ·cases hp
theorem UT{c:eB}(hp:xj c.w=2):∃(f:Me.Net->Me.Net) (a:Me.Net->aQ),∀t,aE t=true->mz t c=(⟨t.aF,f t.af,t.aa⟩,a t.af)/\Me.valid (f t.af)=true:=by
 have AD:∀(g:Me.Net->Option Me.Net),cg c.w=1->(∀t,jd t c=(g t.af).map fun n=>⟨t.aF,n,t.aa⟩)->∃(f:Me.Net->Me.Net) (a:Me.Net->aQ),∀t,aE t=true->mz t c=(⟨t.aF,f t.af,t.aa⟩,a t.af)/\Me.valid (f t.af)=true:=by
  intro g hk hg;refine⟨fun n=>match g n with|none=>n|some n'=>if Me.valid n'=true then n' else n,fun n=>jB (match g n with|none=>false|some n'=>Me.valid n'),fun t hv=>?_⟩;obtain⟨h1,h2,h3⟩:=aX.1 hv;unfold mz jc gz;rw[if_pos hk,hg t];cases hgt:g t.af with
  |none=>simp[hgt,h2,jB]
  |some n'=>
   have e:aE ⟨t.aF,n',t.aa⟩=Me.valid n':=by unfold aE;rw[h1,h3];simp
   simp only[Option.map_some,e,hgt]
   by_cases hn:Me.valid n'=true
   ·simp[hn]
   ·simp[hn,h2]
 have yL:cg c.w≠1->cg c.w≠5->(∀t t':aO,t.af=t'.af->fY t c=fY t' c)->∃(f:Me.Net->Me.Net) (a:Me.Net->aQ),∀t,aE t=true->mz t c=(⟨t.aF,f t.af,t.aa⟩,a t.af)/\Me.valid (f t.af)=true:=by intro h1 h5 ha;refine⟨id,fun n=>fY ⟨⟨⟨0,0⟩,⟨0,0⟩,[],[],[]⟩,n,⟨[],0,[],[]⟩⟩ c,fun t hv=>?_⟩;unfold mz;rw[if_neg h1,if_neg h5,ha t ⟨⟨⟨0,0⟩,⟨0,0⟩,[],[],[]⟩,t.af,⟨[],0,[],[]⟩⟩ rfl];exact⟨rfl,(aX.1 hv).2.1⟩
 obtain⟨w,a⟩:=c;cases w
 ·cases hp
 ·cases hp
 ·cases hp
 ·exact AD (fun n=>some ⟨n.m,n.hs++[⟨nth a 0,nth a 1,nth a 2,nth a 3⟩],n.ps⟩) rfl fun t=>rfl
 ·exact AD (fun n=>some ⟨n.m,n.hs,n.ps++[⟨nth a 0,nth a 1⟩]⟩) rfl fun t=>rfl
 ·exact AD (fun n=>some ⟨nth a 0,n.hs,n.ps⟩) rfl fun t=>rfl
 ·exact AD (fun n=>if n.hs.length=0 then none else some (nM n (nth (Me.fZ n) 0).toNat)) rfl fun t=>by simp only[jd];split<;>simp
 ·cases hp
 ·cases hp
 ·cases hp
 ·cases hp
 ·exact yL (by simp[cg]) (by simp[cg]) fun t t' h=>by simp[fY,ew,lP,cg,h]
 ·exact yL (by simp[cg]) (by simp[cg]) fun t t' h=>by simp[fY,ew,lP,cg,h]
 ·cases hp
 ·cases hp
 ·cases hp
 ·cases hp
 ·exact yL (by simp[cg]) (by simp[cg]) fun t t' h=>by simp[fY,ew,lP,cg,h]
 ·cases hp
 ·cases hp
theorem US{c:eB}(hp:xj c.w=3):∃(f:Sa.aJ->Sa.aJ) (a:Sa.aJ->aQ),∀t,aE t=true->mz t c=(⟨t.aF,t.af,f t.aa⟩,a t.aa)/\Sa.valid (f t.aa)=true:=by
 have AD:∀(g:Sa.aJ->Option Sa.aJ),cg c.w=1->(∀t,jd t c=(g t.aa).map fun n=>⟨t.aF,t.af,n⟩)->∃(f:Sa.aJ->Sa.aJ) (a:Sa.aJ->aQ),∀t,aE t=true->mz t c=(⟨t.aF,t.af,f t.aa⟩,a t.aa)/\Sa.valid (f t.aa)=true:=by
  intro g hk hg;refine⟨fun n=>match g n with|none=>n|some n'=>if Sa.valid n'=true then n' else n,fun n=>jB (match g n with|none=>false|some n'=>Sa.valid n'),fun t hv=>?_⟩;obtain⟨h1,h2,h3⟩:=aX.1 hv;unfold mz jc gz;rw[if_pos hk,hg t];cases hgt:g t.aa with
  |none=>simp[hgt,h3,jB]
  |some n'=>
   have e:aE ⟨t.aF,t.af,n'⟩=Sa.valid n':=by unfold aE;rw[h1,h2];simp
   simp only[Option.map_some,e,hgt]
   by_cases hn:Sa.valid n'=true
   ·simp[hn]
   ·simp[hn,h3]
 have yL:cg c.w≠1->cg c.w≠5->(∀t t':aO,t.aa=t'.aa->fY t c=fY t' c)->∃(f:Sa.aJ->Sa.aJ) (a:Sa.aJ->aQ),∀t,aE t=true->mz t c=(⟨t.aF,t.af,f t.aa⟩,a t.aa)/\Sa.valid (f t.aa)=true:=by intro h1 h5 ha;refine⟨id,fun n=>fY ⟨⟨⟨0,0⟩,⟨0,0⟩,[],[],[]⟩,⟨0,[],[]⟩,n⟩ c,fun t hv=>?_⟩;unfold mz;rw[if_neg h1,if_neg h5,ha t ⟨⟨⟨0,0⟩,⟨0,0⟩,[],[],[]⟩,⟨0,[],[]⟩,t.aa⟩ rfl];exact⟨rfl,(aX.1 hv).2.2⟩
 obtain⟨w,a⟩:=c;cases w
 ·cases hp
 ·cases hp
 ·cases hp
 ·cases hp
 ·cases hp
 ·cases hp
 ·cases hp
 ·exact AD (fun n=>some ⟨n.kinds,n.floor,n.parts++[⟨nth a 0,nth a 1⟩],n.bars⟩) rfl fun t=>rfl
 ·exact AD (fun n=>some ⟨n.kinds,n.floor,n.parts,n.bars++[nth a 0]⟩) rfl fun t=>rfl
 ·cases hp
 ·cases hp
 ·cases hp
 ·cases hp
 ·exact yL (by simp[cg]) (by simp[cg]) fun t t' h=>by simp[fY,ew,lP,cg,h]
 ·exact yL (by simp[cg]) (by simp[cg]) fun t t' h=>by simp[fY,ew,lP,cg,h]
 ·exact yL (by simp[cg]) (by simp[cg]) fun t t' h=>by simp[fY,ew,lP,cg,h]
 ·cases hp
 ·cases hp
 ·exact yL (by simp[cg]) (by simp[cg]) fun t t' h=>by simp[fY,ew,lP,cg,h]
 ·cases hp
theorem Rd(w:Wd):xj w<=3:=by cases w<;>decide
theorem TB{t:aO}(hv:aE t=true){c d:eB}(hc:xj c.w≠0)(hd:xj d.w≠0)(hne:xj c.w≠xj d.w):(mz (mz t c).1 d).1=(mz (mz t d).1 c).1/\(mz t c).2=(mz (mz t d).1 c).2/\(mz (mz t c).1 d).2=(mz t d).2:=by
 have Qn:=Rd c.w;have hd3:=Rd d.w;obtain⟨v1,v2,v3⟩:=aX.1 hv;have hcs:xj c.w=1\/xj c.w=2\/xj c.w=3:=nQ;have hds:xj d.w=1\/xj d.w=2\/xj d.w=3:=nQ;rcases hcs with h|h|h<;>rcases hds with h'|h'|h';all_goals first|(exfalso;omega)|skip
 ·obtain⟨f,a,e⟩:=UU h;obtain⟨g,b,e'⟩:=UT h';have k1:aE ⟨f t.aF,t.af,t.aa⟩=true:=aX.2 ⟨(e t hv).2,v2,v3⟩;have k2:aE ⟨t.aF,g t.af,t.aa⟩=true:=aX.2 ⟨v1,(e' t hv).2,v3⟩;simp only[(e t hv).1,(e' t hv).1,(e _ k2).1,(e' _ k1).1,and_self]
 ·obtain⟨f,a,e⟩:=UU h;obtain⟨g,b,e'⟩:=US h';have k1:aE ⟨f t.aF,t.af,t.aa⟩=true:=aX.2 ⟨(e t hv).2,v2,v3⟩;have k2:aE ⟨t.aF,t.af,g t.aa⟩=true:=aX.2 ⟨v1,v2,(e' t hv).2⟩;simp only[(e t hv).1,(e' t hv).1,(e _ k2).1,(e' _ k1).1,and_self]
 ·obtain⟨f,a,e⟩:=UT h;obtain⟨g,b,e'⟩:=UU h';have k1:aE ⟨t.aF,f t.af,t.aa⟩=true:=aX.2 ⟨v1,(e t hv).2,v3⟩;have k2:aE ⟨g t.aF,t.af,t.aa⟩=true:=aX.2 ⟨(e' t hv).2,v2,v3⟩;simp only[(e t hv).1,(e' t hv).1,(e _ k2).1,(e' _ k1).1,and_self]
 ·obtain⟨f,a,e⟩:=UT h;obtain⟨g,b,e'⟩:=US h';have k1:aE ⟨t.aF,f t.af,t.aa⟩=true:=aX.2 ⟨v1,(e t hv).2,v3⟩;have k2:aE ⟨t.aF,t.af,g t.aa⟩=true:=aX.2 ⟨v1,v2,(e' t hv).2⟩;simp only[(e t hv).1,(e' t hv).1,(e _ k2).1,(e' _ k1).1,and_self]
 ·obtain⟨f,a,e⟩:=US h;obtain⟨g,b,e'⟩:=UU h';have k1:aE ⟨t.aF,t.af,f t.aa⟩=true:=aX.2 ⟨v1,v2,(e t hv).2⟩;have k2:aE ⟨g t.aF,t.af,t.aa⟩=true:=aX.2 ⟨(e' t hv).2,v2,v3⟩;simp only[(e t hv).1,(e' t hv).1,(e _ k2).1,(e' _ k1).1,and_self]
 ·obtain⟨f,a,e⟩:=US h;obtain⟨g,b,e'⟩:=UT h';have k1:aE ⟨t.aF,t.af,f t.aa⟩=true:=aX.2 ⟨v1,v2,(e t hv).2⟩;have k2:aE ⟨t.aF,g t.af,t.aa⟩=true:=aX.2 ⟨v1,(e' t hv).2,v3⟩;simp only[(e t hv).1,(e' t hv).1,(e _ k2).1,(e' _ k1).1,and_self]
theorem oZ{l:aQ}{c:eB}(h:bH l=.cmd c):jQ l=false:=by unfold jQ;rw[h]
theorem beside{t:aO}(hv:aE t=true){x y:aQ}{c d:eB}(hx:bH x=.cmd c)(hy:bH y=.cmd d)(hc:xj c.w≠0)(hd:xj d.w≠0)(hne:xj c.w≠xj d.w):(dJ (bZ t) [x,y]).1.ax=(dJ (bZ t) [y,x]).1.ax/\∃a b,(dJ (bZ t) [x,y]).2=[a,b]/\(dJ (bZ t) [y,x]).2=[b,a]:=by obtain⟨h1,h2,h3⟩:=TB hv hc hd hne;have e1:dJ (bZ t) [x,y]=_:=tH (ls:=[x,y]) (by simp[oZ hx,oZ hy]) t 0;have e2:dJ (bZ t) [y,x]=_:=tH (ls:=[y,x]) (by simp[oZ hx,oZ hy]) t 0;rw[e1,e2];simp only[qX,tJ hx,tJ hy];exact⟨h1,_,_,rfl,by rw[h2,h3]⟩
theorem KG{n:Me.Net}(hv:Me.valid n=true){d:Nat}(hd:d<n.hs.length):Me.valid (nM n d)=true/\Me.cR (nM n d)<=Me.cR n/\(nM n d).hs.length=n.hs.length-1:=by
 obtain⟨h1,h2,h3,h4,h5,h6⟩:=Me.aC.1 hv;have hE:Me.uY (Is n d) n:=⟨rfl,nR _,nQ,fun p hp=>(List.mem_filter.1 hp).1⟩;obtain⟨a1,a2,_⟩:=Me.Er hE h4 h6;have uc:Me.valid (Is n d)=true:=Me.aC.2 ⟨h1,h2,nT (List.length_filter_le _ _) h3,h4,by
  unfold Me.j8 at *
  rw[List.all_eq_true] at *
  exact fun p hp=>h5 p (List.mem_filter.1 hp).1,a1⟩
 have hl:Me.loose (Is n d) d:=fun p hp=>by have:=(List.mem_filter.1 hp).2;simpa using this
 obtain⟨b1,b2,_⟩:=Me.OZ uc (d:=d) hd hl;exact⟨b1,Int.le_trans b2 a2,Me.rJ (n:=Is n d) hd⟩
theorem EZ{n:Me.Net}(hv:Me.valid n=true)(h0:n.hs.length≠0):(nth (Me.fZ n) 0).toNat<n.hs.length:=by have ho:=Me.gp (Me.aC.1 hv).2.2.2.2.2;have hl:(Me.fZ n).length=n.hs.length:=Me.ji ho;have:=(Me.vG ho).1 (aR (Me.fZ n) (k:=0) nQ);have h1:=this.1;have h2:=this.2;omega
def pR:aQ:=cF .eE
def sP:aQ:=cF .jl
theorem xX:bH pR=.cmd ⟨.eE,[]⟩:=by decide +kernel
theorem wZ:bH sP=.cmd ⟨.jl,[]⟩:=by decide +kernel
def rX(t:aO):aO:=if t.af.hs.length=0 then t else⟨t.aF,nM t.af (nth (Me.fZ t.af) 0).toNat,t.aa⟩
theorem pN{t:aO}(hv:aE t=true):aE (rX t)=true/\(rX t).af.hs.length=t.af.hs.length-1/\Me.cR (rX t).af<=Me.cR t.af:=by
 obtain⟨v1,v2,v3⟩:=aX.1 hv;unfold rX;by_cases h0:t.af.hs.length=0
 ·rw[if_pos h0];exact⟨hv,nQ,Int.le_refl _⟩
 ·rw[if_neg h0];obtain⟨a,b,c⟩:=KG v2 (EZ v2 h0);exact⟨aX.2 ⟨v1,a,v3⟩,c,b⟩
theorem D9{t:aO}(hv:aE t=true):ny t pR=(rX t,jB (decide (t.af.hs.length≠0))):=by
 rw[tJ xX];unfold mz jc gz jd;simp only[cg,if_true];by_cases h0:t.af.hs.length=0
 ·simp[h0,rX]
 ·have:=(pN hv).1;unfold rX at this ⊢;rw[if_neg h0] at this;simp[h0,this]
theorem zJ(t:aO):ny t sP=(t,Lib.itoa (Me.cR t.af)):=by rw[tJ wZ];rfl
def mG:Nat->List aQ
 |0=>[]
 |k+1=>pR::sP::mG k
def iterM:Nat->aO->aO
 |0,t=>t
 |k+1,t=>iterM k (rX t)
def gD(t:aO)(j:Nat):Int:=Me.cR (iterM j t).af
theorem rj:∀(k:Nat) {t:aO},aE t=true->aE (iterM k t)=true/\(iterM k t).af.hs.length=t.af.hs.length-k
 |0,t,h=>⟨h,rfl⟩
 |k+1,t,h=>by obtain⟨a,b,_⟩:=pN h;obtain⟨c,d⟩:=rj k a;exact⟨c,by rw[iterM,d,b];omega⟩
theorem Au:∀(k:Nat) (t:aO),(iterM k t).af.m=t.af.m/\(iterM k t).aF=t.aF/\(iterM k t).aa=t.aa
 |0,t=>⟨rfl,rfl,rfl⟩
 |k+1,t=>by obtain⟨a,b,c⟩:=Au k (rX t);rw[iterM,a,b,c];unfold rX;split<;>exact⟨rfl,rfl,rfl⟩
theorem De:∀(k:Nat) (t:aO),iterM (k+1) t=rX (iterM k t)
 |0,_=>rfl
 |k+1,t=>De k (rX t)
theorem OR{t:aO}(hv:aE t=true)(j:Nat):gD t (j+1)<=gD t j:=by unfold gD;rw[De];exact(pN (rj j hv).1).2.2
theorem yc:∀(k:Nat) {t:aO},aE t=true->qX t (mG k)=(iterM k t,(List.range k).flatMap fun j=>[jB (decide (t.af.hs.length-j≠0)),Lib.itoa (gD t (j+1))])
 |0,t,_=>rfl
 |k+1,t,hv=>by obtain⟨a,b,_⟩:=pN hv;rw[mG,qX,D9 hv];simp only[];rw[qX,zJ];simp only[];rw[yc k a,iterM,List.range_succ_eq_map,List.flatMap_cons,List.flatMap_map,b];simp only[List.cons_append,List.nil_append,Nat.sub_zero];refine congrArg _ (congrArg _ (congrArg _ ?_));congr 1;funext j;rw[show t.af.hs.length-1-j=t.af.hs.length-(j+1) by omega];rfl
def CV(k:Nat):List aQ:=sP::mG (k+1)
theorem KD{t:aO}(hv:aE t=true):dJ (bZ t) (CV t.af.hs.length)=(⟨iterM (t.af.hs.length+1) t,[],0⟩,Lib.itoa (gD t 0)::(List.range (t.af.hs.length+1)).flatMap fun j=>[jB (decide (t.af.hs.length-j≠0)),Lib.itoa (gD t (j+1))]):=by
 have hw:∀l∈CV t.af.hs.length,jQ l=false:=by
  have key:∀k,∀l∈mG k,jQ l=false:=by
   intro k;induction k with
   |zero=>intro l hl;cases hl
   |succ k ih=>
    intro l hl
    rcases List.mem_cons.1 hl with rfl|hl
    ·exact oZ xX
    ·rcases List.mem_cons.1 hl with rfl|hl
     ·exact oZ wZ
     ·exact ih l hl
  intro l hl;rcases List.mem_cons.1 hl with rfl|hl
  ·exact oZ wZ
  ·exact key _ l hl
 have e:dJ (bZ t) (CV t.af.hs.length)=_:=tH hw t 0;rw[e,CV,qX,zJ];simp only[];rw[yc _ hv];rfl
theorem KF{t:aO}(hv:aE t=true):(iterM (t.af.hs.length+1) t).af=⟨t.af.m,[],[]⟩:=by
 obtain⟨a,b⟩:=rj (t.af.hs.length+1) hv;have hm:=(Au (t.af.hs.length+1) t).1;have uc:=Me.aC.1 (aX.1 a).2.1;have h0:(iterM (t.af.hs.length+1) t).af.hs=[]:=List.length_eq_zero_iff.1 nQ;have hp:(iterM (t.af.hs.length+1) t).af.ps=[]:=by
  have h5:=uc.2.2.2.2.1;rw[h0] at h5;cases hps:(iterM (t.af.hs.length+1) t).af.ps with
  |nil=>rfl
  |cons p ps=>
   rw[hps] at h5
   have:=Me.jr.1 (List.all_eq_true.1 h5 p nV)
   simp at this
   omega
 cases hT:(iterM (t.af.hs.length+1) t).af with
 |mk m hs ps=>rw[hT] at hm h0 hp;simp only at hm h0 hp;subst hm h0 hp;rfl
theorem DK:jO []=none:=by decide +kernel
theorem Mg:jO fJ=none:=by decide +kernel
theorem Eg:numOf []=none:=by decide +kernel
theorem qK{w:aQ}{ws:List aQ}(h:jO w=none):bJ (w::ws)=none:=by show pV (jO w) _=none;rw[h];rfl
theorem AX{w:aQ}{ws:List aQ}(h:cQ ws=none):bJ (w::ws)=none:=by show pV (jO w) (cQ ws)=none;rw[h];unfold pV;cases jO w<;>rfl
theorem kP{ws:List aQ}{w:aQ}(hw:w∈ws)(h:numOf w=none):cQ ws=none:=by
 induction ws with
 |nil=>cases hw
 |cons v vs ih=>
  rw[cQ]
  rcases List.mem_cons.1 hw with rfl|hw
  ·rw[h]
  ·cases numOf v with
   |none=>rfl
   |some n=>simp only[];rw[ih hw];rfl
theorem Nd{ws:List aQ}(h:ws≠[]):bJ (ws++[[]])=none:=by
 cases ws with
 |nil=>exact absurd rfl h
 |cons w r=>exact AX (kP (w:=[]) nV Eg)
theorem sK{ws:List aQ}{k:Nat}(h:bJ ((ws.take (k-2)).drop 1)=none\/bJ (ws.drop (k+1))=none\/numOf (nth ws (k-1))=none):oK ws k=.none:=by
 unfold oK;rcases h with h|h|h
 ·rw[h]
 ·rw[h];cases bJ ((ws.take (k-2)).drop 1)<;>cases kC (nth ws (k-2))<;>cases numOf (nth ws (k-1))<;>rfl
 ·rw[h];cases bJ ((ws.take (k-2)).drop 1)<;>cases kC (nth ws (k-2))<;>rfl
theorem Lg(s:aQ):bH (32::s)=.none:=by unfold bH;rw[aS,if_pos rfl];unfold dH;rw[if_neg (by simp[fJ]),qK DK]
theorem Av{t:aQ}:∀ {ws:List aQ},t∉ws->fM t ws=none
 |[],_=>rfl
 |w::ws,h=>by rw[fM,if_neg (fun e=>h (by simp[e])),Av (fun e=>h (by simp[e]))];rfl
theorem MQ{t:aQ}{r:List aQ}:∀ {ws:List aQ},t∉r->fM t (ws++r)=fM t ws
 |[],h=>Av h
 |w::ws,h=>by rw[List.cons_append,fM,fM,MQ (ws:=ws) h]
theorem Aw{t:aQ}:∀ {ws:List aQ} {k:Nat},fM t ws=some k->k<ws.length/\nth ws k=t/\∀j,j<k->nth ws j≠t
 |[],k,h=>by cases h
 |w::ws,k,h=>by
  rw[fM] at h;by_cases hw:w=t
  ·rw[if_pos hw] at h;injection h with h;subst h;exact⟨nV,hw,fun j hj=>absurd hj nQ⟩
  ·rw[if_neg hw] at h;simp only[Option.map_eq_some_iff] at h;obtain⟨j,hj,rfl⟩:=h;obtain⟨a,b,c⟩:=Aw hj;refine⟨by simp;omega,by simpa [nth] using b,fun i hi=>?_⟩;cases i with
   |zero=>simpa [nth] using hw
   |succ i=>have:=c i nQ;simpa [nth] using this
theorem Ic(s:aQ):bH (s++[32])=.none:=by
 have hne:=gQ s;unfold bH;rw[zw,if_pos rfl];unfold dH;split
 ·rw[MQ (by simp[eY])];cases hi:fM eY (aS s) with
  |none=>rfl
  |some k=>
   simp only[]
   split
   ·rfl
   ·obtain⟨hk,_,_⟩:=Aw hi;refine sK ?_;by_cases hl:k+1<(aS s).length
    ·refine .inr (.inl ?_);rw[List.drop_append_of_le_length nQ];exact Nd (by intro e;have:=congrArg List.length e;simp at this;omega)
    ·refine .inr (.inl ?_);rw[List.drop_append,List.drop_eq_nil_of_le nQ,show k+1-(aS s).length=0 by omega];exact qK DK
 ·rw[Nd hne]
theorem PV{ws:List aQ}{c:eB}(h:bJ ws=some c):∃r,ws=cF c.w::r/\(∀w∈r,∃n,numOf w=some n)/\r.length=tS c.w:=by
 obtain⟨r,rfl,h1,h2⟩:=EV.1 h;refine⟨r,rfl,?_,by rw[<-mZ h1,h2]⟩;intro w hw;cases hn:numOf w with
 |none=>rw[kP hw hn] at h1;cases h1
 |some n=>exact⟨n,rfl⟩
theorem GI{w:aQ}{n:Int}(h:numOf w=some n):w≠eY:=by
 obtain⟨rfl,_⟩:=jF.1 h;intro e;have:(116:UInt8)∈Lib.itoa n:=by rw[e];decide
 exact Hg n 116 nU nU this
theorem Nr(d:Wd):cF d≠eY:=by cases d<;>decide
theorem Tl{ws:List aQ}{c:eB}(h:bJ ws=some c):eY∉ws:=by
 obtain⟨r,rfl,h1,_⟩:=PV h;intro hm;rcases List.mem_cons.1 hm with h2|h2
 ·exact Nr c.w h2.symm
 ·obtain⟨n,hn⟩:=h1 _ h2;exact GI hn rfl
theorem Px{s:aQ}(h:bH s≠.none):bH (fJ++32::s)=.none:=by
 have hs:aS (fJ++32::s)=fJ::aS s:=Cs nU s;unfold bH at h ⊢;rw[hs];unfold dH at h ⊢;rw[if_pos (show(fJ::aS s).head?=some fJ from rfl),fM,if_neg nU];by_cases hw:(aS s).head?=some fJ
 ·cases hi:fM eY (aS s) with
  |none=>rfl
  |some k=>
   simp only[Option.map_some]
   split
   ·rfl
   ·rename_i h4;rw[if_pos hw,hi] at h;simp only[] at h;by_cases hk:k<4
    ·rw[if_pos hk] at h;exact absurd rfl h
    ·refine sK (.inl ?_);rw[show k+1-2=(k-2)+1 by omega,List.take_succ_cons,List.drop_succ_cons,List.drop_zero];cases hsp:aS s with
     |nil=>exact absurd hsp (gQ s)
     |cons w ws=>
      rw[hsp] at hw
      simp only[List.head?_cons,Option.some.injEq] at hw
      subst hw
      rw[show k-2=(k-3)+1 by omega,List.take_succ_cons]
      exact qK Mg
 ·rw[if_neg hw] at h;cases hc:bJ (aS s) with
  |none=>rw[hc] at h;exact absurd rfl h
  |some c=>rw[Av (Tl hc)];rfl
def Mf:List aQ->List aQ
 |[]=>[]
 |w::ws=>w::ws.flatMap fun v=>[[],v]
theorem Pw{w v:aQ}{ws:List aQ}:dH (Mf (w::v::ws))=.none:=by
 show dH (w::[]::v::ws.flatMap fun v=>[[],v])=.none;unfold dH;split
 ·cases hi:fM eY (w::[]::v::ws.flatMap fun v=>[[],v]) with
  |none=>rfl
  |some k=>
   simp only[]
   split
   ·rfl
   ·refine sK (.inl ?_);rw[show k-2=(k-4)+1+1 by omega,List.take_succ_cons,List.drop_succ_cons,List.drop_zero,List.take_succ_cons];exact qK DK
 ·rw[AX (kP (w:=[]) nV Eg)]
def kR(b:UInt8)(w:aQ):aQ:=match numOf w with|none=>w|some _=>b::w
def En(b:UInt8):List aQ->List aQ
 |[]=>[]
 |w::ws=>w::ws.map (kR b)
theorem GJ{w:aQ}{n:Int}(h:numOf w=some n){b:UInt8}(hb:b=48\/b=43):numOf (b::w)=none:=by
 cases hn:numOf (b::w) with
 |none=>rfl
 |some m=>
  exfalso
  obtain⟨e,_⟩:=jF.1 hn
  obtain⟨e2,_⟩:=jF.1 h
  unfold Lib.itoa at e
  split at e
  ·injection e with e _;rcases hb with rfl|rfl<;>revert e<;>decide
  ·rcases hb with rfl|rfl
   ·have h0:=(dQ m.toNat).2.2.1 (by rw[<-e];rfl);rw[h0,Lib.decDigits] at e;simp at e;exact Vu n (e2▸e)
   ·have:=(dQ m.toNat).2.2.2.1 43 (by rw[<-e];simp);revert this;decide
theorem CZ{b:UInt8}(hb:b=48\/b=43)(w:aQ):(kR b w=eY)↔w=eY:=by
 unfold kR;cases hn:numOf w with
 |none=>rfl
 |some n=>
  constructor
  ·intro h;exfalso;simp only[eY] at h;injection h with h _;rcases hb with rfl|rfl<;>revert h<;>decide
  ·intro h;exact absurd h (GI hn)
theorem Hq{b:UInt8}(hb:b=48\/b=43):∀ws:List aQ,fM eY (ws.map (kR b))=fM eY ws
 |[]=>rfl
 |w::ws=>by
  rw[List.map_cons,fM,fM,Hq hb ws];by_cases h:w=eY
  ·rw[if_pos ((CZ hb w).2 h),if_pos h]
  ·rw[if_neg (fun e=>h ((CZ hb w).1 e)),if_neg h]
theorem Py{b:UInt8}(hb:b=48\/b=43){ws:List aQ}(h:dH ws≠.none)(aaO:∃w∈ws.drop 1,∃n,numOf w=some n):dH (En b ws)=.none:=by
 cases ws with
 |nil=>obtain⟨w,hw,_⟩:=aaO;simp at hw
 |cons w ws=>
  show dH (w::ws.map (kR b))=.none
  unfold dH at h ⊢
  by_cases hw:(w::ws).head?=some fJ
  ·have Sj:(w::ws.map (kR b)).head?=some fJ:=hw;rw[if_pos hw] at h;rw[if_pos Sj];simp only[List.head?_cons,Option.some.injEq] at hw;subst hw;rw[fM,if_neg nU] at h ⊢;rw[Hq hb];cases hi:fM eY ws with
   |none=>rfl
   |some k=>
    rw[hi] at h
    simp only[Option.map_some] at h ⊢
    by_cases hk:k+1<4
    ·rw[if_pos hk]
    ·rw[if_neg hk] at h ⊢;have hlt:=(Aw hi).1;refine sK (.inr (.inr ?_));have e1:nth (fJ::ws) (k+1-1)=nth ws (k-1):=by rw[show k+1-1=(k-1)+1 by omega];rfl
     have e2:nth (fJ::ws.map (kR b)) (k+1-1)=kR b (nth ws (k-1)):=by rw[show k+1-1=(k-1)+1 by omega];show nth (ws.map (kR b)) (k-1)=_;rw[bN _ (by simp;omega),bN _ nQ];simp
     rw[e2];unfold kR;cases hn:numOf (nth ws (k-1)) with
     |none=>
      exfalso
      refine h (sK (.inr (.inr ?_)))
      rw[e1,hn]
     |some n=>exact GJ hn hb
  ·have Sj:¬(w::ws.map (kR b)).head?=some fJ:=hw;rw[if_neg Sj];obtain⟨v,hv,n,hn⟩:=aaO;rw[List.drop_succ_cons,List.drop_zero] at hv;rw[AX (kP (w:=b::v) (List.mem_map.2 ⟨v,hv,by unfold kR;rw[hn]⟩) (GJ hn hb))]
def fS(t:aQ):Nat:=t.count 58
theorem rL(a b:aQ):fS (a++b)=fS a+fS b:=List.count_append
theorem wE(n:Int):fS (Lib.itoa n)=0:=List.count_eq_zero.2 (Hg n 58 nU nU)
theorem Nc(b:Bool):fS (jB b)=0:=by cases b<;>decide
theorem Tk(n:Nat)(b:Bool):fS (rW n b)=1:=by unfold rW;rw[show(32::Lib.itoa (n:Int)++58::jB b)=[32]++(Lib.itoa (n:Int)++([58]++jB b)) from rfl,rL,rL,rL,wE,Nc];decide
theorem ID:∀l:List Int,fS (gI l)=0
 |[]=>rfl
 |[x]=>wE x
 |x::y::r=>by rw[gI,show(Lib.itoa x++32::gI (y::r))=Lib.itoa x++([32]++gI (y::r)) from rfl,rL,rL,wE,ID (y::r)];decide
theorem IC{e:Int}{t:aQ}(h:fS t=0):fS (mB e t)=0:=by
 unfold mB;split
 ·exact h
 ·split<;>decide
theorem We(t:aO)(c:eB):fS (fY t c)=0:=by
 unfold fY;split
 ·refine IC ?_;unfold pP;split
  ·decide
  ·exact ID _
 ·exact IC (wE _)
theorem wD(d:ct)(l:aQ):fS (cI d l).2=0:=by
 unfold cI;cases bH l with
 |none=>show fS mC=0;decide
 |ord q s n c=>simp only[];split<;>(first|(show fS vk=0;decide)|(show fS tW=0;decide))
 |cmd c=>
  simp only[]
  split
  ·exact Nc _
  ·split
   ·split<;>(first|(show fS vk=0;decide)|(show fS tW=0;decide))
   ·exact We _ _
theorem Dr:∀(k:Nat) (d:ct),fS (de k d).2+(de k d).1.az.length=d.az.length
 |0,d=>by rw[de];show 0+d.az.length=d.az.length;omega
 |k+1,d=>by
  rw[de];cases hf:gE d.ax d.az with
  |none=>show 0+d.az.length=d.az.length;omega
  |some i=>
   have hi:=(sY hf).1
   have:=Dr k ⟨jc d.ax (Cl (bH (nth d.az i).line)),d.az.eraseIdx i,d.given⟩
   simp only[rL,Tk]
   simp only[List.length_eraseIdx,if_pos hi] at this
   omega
def wI(t w:aQ):Bool:=decide (w.length<=t.length/\t.take w.length=w)
theorem Wh{a b w:aQ}(h:a.length=w.length):wI (a++b) w=decide (a=w):=by
 unfold wI;rw[<-h,List.take_left];by_cases e:a=w
 ·simp[e]
 ·simp[e]
def oX(l a:aQ):Bool:=jQ l&&wI a tW
def nh(l:aQ):Bool:=match bH l with|.cmd c=>decide (cg c.w=5)|_=>false
def sX(l a:aQ):Bool:=nh l&&wI a tW
theorem JC(d:ct)(l:aQ):(fO d l).1.az.length+((sX l (fO d l).2).toNat+fS (fO d l).2)=d.az.length+(oX l (fO d l).2).toNat:=by
 have hs:=Dr (cI d l).1.az.length (cI d l).1;have hc:=wD d l;have key:(cI d l).1.az.length+(sX l (fO d l).2).toNat=d.az.length+(oX l (fO d l).2).toNat:=by
  have hb:∀x:aQ,x.length=2->(cI d l).2=x->wI (fO d l).2 tW=decide (x=tW):=by intro x hx e;show wI ((cI d l).2++_) tW=_;rw[e];exact Wh hx
  unfold sX oX nh jQ;unfold cI at hb ⊢;cases hr:bH l with
  |none=>simp
  |ord q s n c=>
   rw[hr] at hb
   simp only[] at hb ⊢
   by_cases h5:d.az.length=5
   ·simp only[if_pos h5] at hb ⊢;rw[hb vk rfl rfl];simp[vk,tW]
   ·simp only[if_neg h5] at hb ⊢;rw[hb tW rfl rfl];simp
  |cmd c=>
   rw[hr] at hb
   simp only[] at hb ⊢
   by_cases h1:cg c.w=1
   ·simp[h1]
   ·simp only[if_neg h1] at hb ⊢;by_cases h5:cg c.w=5
    ·simp only[if_pos h5] at hb ⊢;cases hf:d.az.findIdx? (fun o=>decide ((o.num:Int)=nth c.a 0)) with
     |none=>
      rw[hf] at hb
      rw[hb vk rfl rfl]
      simp[vk,tW]
     |some i=>
      rw[hf] at hb
      rw[hb tW rfl rfl]
      have hi:=(List.findIdx?_eq_some_iff_getElem.1 hf).1
      simp[h5,List.length_eraseIdx,hi]
      omega
    ·simp[h5]
 have e2:fS (fO d l).2=fS (de (cI d l).1.az.length (cI d l).1).2:=by show fS ((cI d l).2++_)=_;rw[rL,hc,Nat.zero_add]
 have e1:(fO d l).1.az.length=(de (cI d l).1.az.length (cI d l).1).1.az.length:=rfl;omega
def gW:List aQ->List aQ->Nat
 |l::ls,a::bs=>(oX l a).toNat+gW ls bs
 |_,_=>0
def kT:List aQ->List aQ->Nat
 |l::ls,a::bs=>((sX l a).toNat+fS a)+kT ls bs
 |_,_=>0
theorem CG:∀(ls:List aQ) (d:ct),(dJ d ls).1.az.length+kT ls (dJ d ls).2=d.az.length+gW ls (dJ d ls).2
 |[],d=>by simp[dJ,kT,gW]
 |l::ls,d=>by have h1:=JC d l;have h2:=CG ls (fO d l).1;rw[dJ];simp only[kT,gW];omega
def Br(m:Nat)(d:ct):Prop:=d.given<=m/\∀o∈d.az,o.num<d.given
theorem At{n:Nat}(h:n<100):(Lib.itoa (n:Int)).length<=2:=by unfold Lib.itoa;rw[if_neg nQ];exact(dQ _).2.2.2.2 1 nQ
theorem Cq:∀(k:Nat) {d:ct} {m:Nat},m<100->Br m d->Br m (de k d).1/\(de k d).2.length<=6*d.az.length
 |0,d,m,_,h=>⟨h,by simp[de]⟩
 |k+1,d,m,hm,h=>by
  rw[de];cases hf:gE d.ax d.az with
  |none=>exact⟨h,nV⟩
  |some i=>
   have hi:=(sY hf).1
   have h2:Br m ⟨jc d.ax (Cl (bH (nth d.az i).line)),d.az.eraseIdx i,d.given⟩:=⟨h.1,fun o ho=>h.2 o (List.mem_of_mem_eraseIdx ho)⟩
   obtain⟨a,b⟩:=Cq k hm h2
   refine⟨a,?_⟩
   simp only[List.length_eraseIdx,if_pos hi] at b
   have hn:=h.2 _ (aR d.az hi)
   have hs:=At (n:=(nth d.az i).num) (by have:=h.1;omega)
   have hy:∀b:Bool,(jB b).length=2:=by intro b;cases b<;>rfl
   simp only[List.length_append,rW,List.length_cons,hy]
   omega
theorem UZ{d:ct}{m:Nat}(h:Br m d)(l:aQ):Br (m+1) (cI d l).1:=by
 have h1:Br (m+1) d:=⟨Nat.le_succ_of_le h.1,h.2⟩;unfold cI;cases bH l with
 |none=>exact h1
 |ord q s n c=>
  simp only[]
  split
  ·exact h1
  ·refine⟨Nat.succ_le_succ h.1,fun o ho=>?_⟩;rcases List.mem_append.1 ho with ho|ho
   ·exact Nat.lt_succ_of_lt (h.2 o ho)
   ·simp at ho;subst ho;exact nA _
 |cmd c=>
  simp only[]
  split
  ·exact h1
  ·split
   ·split
    ·exact h1
    ·exact⟨h1.1,fun o ho=>h1.2 o (List.mem_of_mem_eraseIdx ho)⟩
   ·exact h1
theorem CF(hA:∀t c,aE t=true->(fY t c).length<=60):∀(ls:List aQ) {d:ct} {m:Nat},aE d.ax=true->ie d.az->Br m d->m+ls.length<100->∀a∈(dJ d ls).2,a.length<=100
 |[],d,m,_,_,_,_=>fun a ha=>by cases ha
 |l::ls,d,m,hv,ho,hn,hm=>by
  simp only[List.length_cons] at hm;have h1:=UZ hn l;obtain⟨h2,h3⟩:=Cq (cI d l).1.az.length (m:=m+1) nQ h1;have h5:=(vE ho l).1;have hown:(cI d l).2.length<=60:=by
   unfold cI;cases bH l with
   |none=>show mC.length<=60;decide
   |ord q s n c=>simp only[];split<;>(first|(show vk.length<=60;decide)|(show tW.length<=60;decide))
   |cmd c=>
    simp only[]
    split
    ·cases (gz d.ax c).isSome<;>(simp only[jB];decide)
    ·split
     ·split<;>(first|(show vk.length<=60;decide)|(show tW.length<=60;decide))
     ·exact hA _ _ hv
  rw[dJ];intro a ha;rcases List.mem_cons.1 ha with rfl|ha
  ·show((cI d l).2++_).length<=100;rw[List.length_append];have:6*(cI d l).1.az.length<=30:=nQ;omega
  ·exact CF hA ls (uE hv l) (wW ho l) (m:=m+1) h2 nQ a ha
end Hd
namespace Hd
theorem we{n:Int}(k:Nat)(h:n.natAbs<10 ^ (k+1)):(Lib.itoa n).length<=k+2:=by
 unfold Lib.itoa;split
 ·have:=(dQ n.natAbs).2.2.2.2 k h;simp only[List.length_cons];omega
 ·have:=(dQ n.toNat).2.2.2.2 k nQ;omega
theorem Hf{n:Int}(h:0<=n/\n<100):(Lib.itoa n).length<=2:=by obtain⟨m,rfl⟩:∃m:Nat,n=m:=⟨n.toNat,nQ⟩;exact At nQ
theorem tO:∀ {l:List Int},(∀x∈l,0<=x/\x<100)->(gI l).length<=3*l.length
 |[],_=>by simp[gI]
 |[x],h=>by have:=Hf (h x nV);simp only[gI,List.length_cons,List.length_nil];omega
 |x::y::r,h=>by have h1:=Hf (h x nV);have h2:=tO (l:=y::r) fun z hz=>h z (by simp[hz]);rw[gI];simp only[List.length_append,List.length_cons] at h2 ⊢;omega
def Uk(l:List Int):Prop:=l.length<=6/\∀x∈l,0<=x/\x<100
theorem M8:Uk []:=⟨nV,fun x hx=>by cases hx⟩
theorem SW{n:An.Net}(hv:An.valid n=true):Uk (An.kQ n):=by
 cases hok:An.kG n with
 |false=>rw[An.GM hok];exact M8
 |true=>
  rw[An.GN hv hok]
  obtain⟨_,_,_,h4,_,_,h7,_⟩:=An.aC.1 hv
  refine⟨by rw[List.length_map,List.length_range];exact h4,fun x hx=>?_⟩
  obtain⟨i,hi,rfl⟩:=List.mem_map.1 hx
  rw[List.mem_range] at hi
  have h1:=An.uN.1 hok i hi
  have h2:=An.FH hv hi
  have h3:=List.all_eq_true.1 (show n.aB.all (An.mY n.av.length)=true from h7) _ (aR n.aB hi)
  simp only[An.mY,decide_eq_true_eq] at h3
  omega
theorem VR{n:Me.Net}(hv:Me.valid n=true):Uk (Me.fZ n):=by have ho:=Me.gp (Me.aC.1 hv).2.2.2.2.2;have h6:=(Me.aC.1 hv).2.1;refine⟨by rw[Me.ji ho];exact h6,fun x hx=>?_⟩;have:=(Me.vG ho).1 hx;unfold Me.isHole at this;omega
theorem SV{h:Sa.aJ}(hv:Sa.valid h=true):Uk (Rf h).1:=by
 unfold Rf;split
 ·exact M8
 ·rename_i hp;have hm:Me.least (Sa.cK h) (Sa.bM h)∈Sa.ow h.bars.length h.parts.length:=(List.mem_filter.1 (Me.fC (Sa.cK h) hp)).1;obtain⟨h1,h2⟩:=Sa.jw.1 hm;have h3:=Sa.aC.1 hv;refine⟨by show List.length _<=6;rw[h1];exact h3.1.2.2.1,fun x hx=>?_⟩;have:=h2 x hx;have:=h3.1.2.2.2;omega
theorem EN{t:aO}(hv:aE t=true)(c:eB):Uk (lP t c).1:=by
 obtain⟨h1,h2,h3⟩:=aX.1 hv;unfold lP;split
 ·exact SW h1
 ·exact VR h2
 ·exact SV h3
theorem L4{t:aO}(hv:aE t=true)(c:eB):-1500<=(ew t c).1/\(ew t c).1<=10000:=by
 obtain⟨h1,h2,h3⟩:=aX.1 hv;unfold ew;split
 ·show -1500<=qa _ _/\qa _ _<=10000;unfold qa;split
  ·omega
  ·split<;>omega
 ·have:=An.aa9 t.aF;split
  ·show(-1500:Int)<=0/\(0:Int)<=10000;omega
  ·show(-1500:Int)<=(An.wN t.aF:Int)/\(An.wN t.aF:Int)<=10000;omega
 ·have:=Db h2;exact⟨by show -1500<=Me.cR t.af;omega,this.2⟩
 ·have:=S9 h2;exact⟨by show -1500<=Me.mE t.af;omega,by show Me.mE t.af<=10000;omega⟩
 ·unfold WB;split
  ·show(-1500:Int)<=0/\(0:Int)<=10000;omega
  ·rename_i hp;have hm:(Me.least (Sa.cK t.aa) (Sa.bM t.aa)).length=t.aa.parts.length:=(Sa.jw.1 (List.mem_filter.1 (Me.fC (Sa.cK t.aa) hp)).1).1;have:=Sa.jo (A:=300) (f:=Sa.vp t.aa (Me.least (Sa.cK t.aa) (Sa.bM t.aa))) (fun b=>Sa.oy (Sa.aC.1 h3).1.2.1 (Sa.fD h3 (Nat.le_of_eq hm) (b:Int))) 5;show -1500<=Sa.iq _ 5/\Sa.iq _ 5<=10000;omega
 ·unfold S8;split
  ·show(-1500:Int)<=0/\(0:Int)<=10000;omega
  ·split
   ·show(-1500:Int)<=0/\(0:Int)<=10000;omega
   ·rename_i hp;have hm:(Me.least (EP t.aa (nth c.a 0)) (Sa.bM t.aa)).length=t.aa.parts.length:=(Sa.jw.1 (List.mem_filter.1 (Me.fC (EP t.aa (nth c.a 0)) hp)).1).1;have:=Sa.jo (A:=300) (f:=Sa.mN t.aa (nth c.a 0) (Me.least (EP t.aa (nth c.a 0)) (Sa.bM t.aa))) (fun b=>by have:=(Sa.fD h3 (Nat.le_of_eq hm) (b:Int)).2.1;unfold Sa.mN;split<;>omega) 5;show -1500<=Sa.iq _ 5/\Sa.iq _ 5<=10000;omega
 ·have:=Sa.xT h3 (Sa.ow (t.aa.bars.length+1) t.aa.parts.length) fun l hl=>Nat.le_of_eq (Sa.jw.1 hl).1;show -1500<=Sa.rQ t.aa/\Sa.rQ t.aa<=10000;unfold Sa.rQ Sa.kM;split
  ·omega
  ·split
   ·omega
   ·split<;>omega
theorem FI{e:Int}{x:aQ}{k:Nat}(h:x.length<=k)(hk:5<=k):(mB e x).length<=k:=by
 unfold mB;split
 ·exact h
 ·split
  ·show 4<=k;omega
  ·show 5<=k;omega
theorem RZ{l:List Int}(h:Uk l):(pP l).length<=18:=by
 unfold pP;split
 ·decide
 ·have:=tO h.2;have:=h.1;omega
theorem DD(t:aO)(c:eB)(hv:aE t=true):(fY t c).length<=60:=by
 unfold fY;split
 ·exact FI (nT (RZ (EN hv c)) nU) nU
 ·have:=L4 hv c;exact FI (nT (we 5 nQ) nU) nU
end Hd
namespace Hd
def Ey:ql->Bool|.ord _ _ _ _=>true|_=>false
theorem qw{ws:List aQ}{c:eB}(h:dH ws=.cmd c):bJ ws=some c/\Ey (dH ws)=false:=by
 refine⟨?_,by rw[h];rfl⟩;unfold dH at h;split at h
 ·split at h
  ·split at h
   ·cases h
   ·unfold oK at h;split at h
    ·split at h<;>cases h
    ·cases h
  ·cases h
 ·split at h
  ·injection h with h;subst h;assumption
  ·cases h
theorem Ds{ws:List aQ}(h:ws.head?=some fJ):bJ ws=none:=by
 cases ws with
 |nil=>rfl
 |cons t r=>
  injection h with h
  subst h
  exact qK Mg
theorem CJ{ws:List aQ}{q c:eB}{s:UInt8}{n:Int}(h:dH ws=.ord q s n c):bJ ws=none:=by
 unfold dH at h;split at h
 ·rename_i hw;exact Ds hw
 ·split at h<;>cases h
theorem J2{ws:List aQ}(h:dH ws=.none):bJ ws=none:=by
 unfold dH at h;split at h
 ·rename_i hw;exact Ds hw
 ·split at h
  ·cases h
  ·assumption
theorem Ir{ws:List aQ}(h:bJ ws=none)(h0:0<ws.length)(hf:nth ws 0=cF .forget){a:List Int}(ha:cQ (ws.drop 1)=some a):a.length≠1:=by
 cases ws with
 |nil=>cases h0
 |cons t r=>
  intro hl
  have ht:t=cF .forget:=hf
  have hr:cQ r=some a:=ha
  have:pV (jO t) (cQ r)=none:=h
  rw[dn.2 ht,hr] at this
  unfold pV at this
  simp only[Option.bind_some,if_pos (show a.length=tS .forget from hl)] at this
  cases this
theorem kd5{d:Wd}(h:cg d=5):d=.forget:=by cases d<;>first|rfl|(exact absurd h nU)
theorem EL{ws:List aQ}{c:eB}(h:bJ ws=some c)(hc:cg c.w=5):∃x,c=⟨.forget,[x]⟩/\nth ws 0=cF .forget/\cQ (ws.drop 1)=some [x]:=by
 obtain⟨r,rfl,h1,h2⟩:=EV.1 h;obtain⟨d,a⟩:=c;have hd:d=.forget:=kd5 hc;subst hd;have h2:a.length=1:=h2;match a,h2 with
 |[x],_=>exact⟨x,rfl,rfl,h1⟩
end Hd
namespace Hd
def exS:Sa.aJ:=⟨[⟨3,10⟩,⟨5,4⟩],2,[⟨0,10⟩,⟨0,15⟩,⟨1,8⟩],[40,20]⟩
def gX:aO:=⟨Lo,yH,exS⟩
def ae6:aQ:=[108,111,115,115]
def ae5:aQ:=[119,104,101,110,32,108,111,115,115,32,62,32,53,48,32,116,104,101,110,32,109,101,110,100,101,114,115,32,50]
def ae4:aQ:=[119,104,101,110,32,115,97,102,101,32,61,32,49,32,116,104,101,110,32,119,105,110,100,32,48,32,57]
def ae3:aQ:=[104,101,97,118,121,32,49,32,49,49]
def ae2:aQ:=[110,101,101,100]
def Il:aQ:=[119,104,101,110,32,98,117,121,32,62,32,57,32,116,104,101,110,32,98,97,114,114,101,108,32,49]
def ae1:aQ:=[115,97,105,108]
def aed:aQ:=[53,56]
def aec:aQ:=[111,107,32,48,58,111,107]
def aeb:aQ:=[111,107]
def aea:aQ:=[111,107,32,49,58,111,107]
def ae9:aQ:=[48,32,55,32,48]
def ae8:aQ:=[111,107]
def ae7:aQ:=[119,104,97,116]
def iM:List aQ:=[ae6,ae5,ae4,ae3,ae2,Il,ae1]
def kU:List aQ:=[aed,aec,aeb,aea,ae9,ae8,ae7]
theorem Ln:(dJ (bZ gX) iM).2=kU:=by decide +kernel
theorem Zb:(dJ (bZ gX) iM).1.ax.af.m=2:=by decide +kernel
theorem VT:(dJ (bZ gX) iM).1.ax.aF.aP.lo=0/\(dJ (bZ gX) iM).1.ax.aF.aP.hi=9:=by decide +kernel
theorem VU:(dJ (bZ gX) iM).1.az.map (·.line)=[Il]:=by decide +kernel
theorem SZ:aE gX=true:=by decide +kernel
end Hd
namespace Hd
def lY(x:ql):Int:=match x with|.none=>0|.cmd c=>(cg c.w:Nat)|.ord _ _ _ _=>4
theorem xz{l:aQ}:lY (bH l)=4↔jQ l=true:=by
 unfold lY jQ;cases bH l with
 |none=>simp
 |ord q s n c=>simp
 |cmd c=>rcases vY c.w with h|h|h|h<;>simp[h]
end Hd
end Go.Proofs.YtpnnapeoanafdaaGreatDoor
