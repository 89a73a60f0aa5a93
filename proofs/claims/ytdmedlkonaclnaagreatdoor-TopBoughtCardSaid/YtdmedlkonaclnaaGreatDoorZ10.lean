/- A part of the proof that a law of layer 12 holds, cut small by a program (names and blanks): HdP2, HdP3, HdP4, HdP5, HdP7, HdP6, HdP8. -/
import Derived.Test.YtdmedlkonaclnaaGreatDoorZ2
import Derived.Test.YtdmedlkonaclnaaGreatDoorZ6
import Derived.Test.YtdmedlkonaclnaaGreatDoorZ9
set_option maxRecDepth 100000
set_option maxHeartbeats 40000000
set_option linter.unusedVariables false
set_option linter.unusedSimpArgs false
namespace Go.Proofs.YtdmedlkonaclnaaGreatDoor
open Go.RowKit
open Nat renaming le_trans → nT, lt_succ_self → nA
def An.wN(n:An.Net):Nat:=bP (ri n) 21 0
theorem An.Y4(n:An.Net):An.wN n<=21:=sV _ _
namespace Hd
structure aW where
 aF:An.Net
 ah:Me.Net
 aa:Sa.aN
def aG(t:aW):Bool:=An.valid t.aF&&Me.valid t.ah&&Sa.valid t.aa
theorem cr{t:aW}:aG t=true↔An.valid t.aF=true/\Me.valid t.ah=true/\Sa.valid t.aa=true:=by simp[aG,and_assoc]
def aal(n:Me.Net)(d:Int):Me.Net:=⟨n.m,n.hs,n.ps.filter fun p=>decide (p.a≠d/\p.b≠d)⟩
def sJ(n:Me.Net)(d:Nat):Me.Net:=Me.cut (aal n d) d
def kz(t:aW)(c:dU):Option aW:=
 match c.w with
 |.aP=>some ⟨⟨⟨nth c.a 0,nth c.a 1⟩,t.aF.cur,t.aF.ay,t.aF.aB,t.aF.aU⟩,t.ah,t.aa⟩
 |.current=>some ⟨⟨t.aF.aP,⟨nth c.a 0,nth c.a 1⟩,t.aF.ay,t.aF.aB,t.aF.aU⟩,t.ah,t.aa⟩
 |.gE=>if 0<=nth c.a 0/\nth c.a 0<t.aF.aB.length then
   some ⟨⟨t.aF.aP,t.aF.cur,t.aF.ay,t.aF.aB.set (nth c.a 0).toNat ⟨nth c.a 1,(nth t.aF.aB (nth c.a 0).toNat).bt⟩,t.aF.aU⟩,t.ah,t.aa⟩ else none
 |.ah=>some ⟨t.aF,⟨t.ah.m,t.ah.hs++[⟨nth c.a 0,nth c.a 1,nth c.a 2,nth c.a 3⟩],t.ah.ps⟩,t.aa⟩
 |.ng=>some ⟨t.aF,⟨t.ah.m,t.ah.hs,t.ah.ps++[⟨nth c.a 0,nth c.a 1⟩]⟩,t.aa⟩
 |.ey=>some ⟨t.aF,⟨nth c.a 0,t.ah.hs,t.ah.ps⟩,t.aa⟩
 |.eX=>if t.ah.hs.length=0 then none else some ⟨t.aF,sJ t.ah (nth (Me.gz t.ah) 0).toNat,t.aa⟩
 |.part=>some ⟨t.aF,t.ah,⟨t.aa.kinds,t.aa.floor,t.aa.parts++[⟨nth c.a 0,nth c.a 1⟩],t.aa.bars⟩⟩
 |.fM=>some ⟨t.aF,t.ah,⟨t.aa.kinds,t.aa.floor,t.aa.parts,t.aa.bars++[nth c.a 0]⟩⟩
 |_=>none
def fW(t:aW)(c:dU):Option aW:=match kz t c with
 |none=>none
 |some o=>if aG o=true then some o else none
theorem KB{t o:aW}{c:dU}(h:fW t c=some o):aG o=true:=by
 unfold fW at h;cases h0:kz t c with
 |none=>rw[h0] at h;cases h
 |some o'=>
  rw[h0] at h
  simp only at h
  split at h
  ·injection h with h;subst h;assumption
  ·cases h
def iH(t:aW)(c:dU):aW:=(fW t c).getD t
theorem rI{t:aW}(hv:aG t=true)(c:dU):aG (iH t c)=true:=by
 unfold iH;cases h:fW t c with
 |none=>exact hv
 |some o=>exact KB h
def Vr(h:Sa.aN):Int × Int:=if Sa.bL h=[] then (0,3) else (Sa.cL h (Me.least (Sa.cL h) (Sa.bL h)),0)
def PX(h:Sa.aN):List Int × Int:=if Sa.bL h=[] then ([],3) else (Me.least (Sa.cL h) (Sa.bL h),0)
def D0(h:Sa.aN)(d:Int)(l:List Int):Int:=-(Sa.jo h d l)
def RP(h:Sa.aN)(d:Int):Int × Int:=if fH 0 20 d=false then (0,1) else if Sa.bL h=[] then (0,3) else (Sa.jo h d (Me.least (D0 h d) (Sa.bL h)),0)
def fm(t:aW)(c:dU):Int × Int:=
 match c.w with
 |.safe=>(pZ (decide (An.jT t.aF (bW t.aF) 0=0)) (decide (An.jT t.aF (gV t.aF) 0=0)),0)
 |.gy=>if An.wN t.aF=21 then (0,3) else (An.wN t.aF,0)
 |.kr=>(Me.dY t.ah,0)
 |.done=>(Me.sZ t.ah,0)
 |.fU=>Vr t.aa
 |.early=>RP t.aa (nth c.a 0)
 |_=>(Sa.rJ t.aa,Sa.tY t.aa)
def qY(t:aW)(c:dU):List Int × Int:=
 match c.w with
 |.nw=>(An.kJ t.aF,An.mO t.aF)
 |.order=>(Me.gz t.ah,0)
 |_=>PX t.aa
def iq:bz:=[111,107]
def Ic:bz:=[110,111]
def yW:bz:=[119,104,97,116]
def Y5:bz:=[110,111,110,101]
def IC:bz:=[119,114,111,110,103]
def uX:bz:=[110,111,116,104,105,110,103]
def me(b:Bool):bz:=if b=true then iq else Ic
def nj(e:Int)(t:bz):bz:=if e=0 then t else if e=3 then Y5 else IC
def je:List Int->bz
 |[]=>[]
 |[x]=>Lib.itoa x
 |x::y::r=>Lib.itoa x++32::je (y::r)
def qz(l:List Int):bz:=if l=[] then uX else je l
def nC(t:aW)(c:dU):bz:=if cN c.w=3 then nj (qY t c).2 (qz (qY t c).1) else nj (fm t c).2 (Lib.itoa (fm t c).1)
def BN(s:UInt8)(v n:Int):Bool:=if s=60 then decide (v<n) else if s=61 then decide (v=n) else decide (n<v)
def cY(t:aW)(q:dU)(s:UInt8)(n:Int):Bool:=decide ((fm t q).2=0)&&BN s (fm t q).1 n
def ni(t:aW):tC->Bool
 |.ord q s n _=>cY t q s n
 |_=>false
def yU:tC->dU
 |.ord _ _ _ c=>c
 |_=>⟨.aP,[]⟩
structure Ord where
 num:Nat
 line:bz
instance:Inhabited Ord:=⟨⟨0,[]⟩⟩
structure cE where
 az:aW
 aC:List Ord
 given:Nat
def ie(t:aW)(os:List Ord):Option Nat:=os.findIdx? fun o=>ni t (bK o.line)
def lZ(n:Nat)(b:Bool):bz:=32::Lib.itoa (n:Int)++58::me b
def dO:Nat->cE->cE × bz
 |0,d=>(d,[])
 |k+1,d=>match ie d.az d.aC with
  |none=>(d,[])
  |some i=>
   let o:=nth d.aC i
   let c:=yU (bK o.line)
   let r:=dO k ⟨iH d.az c,d.aC.eraseIdx i,d.given⟩
   (r.1,lZ o.num (fW d.az c).isSome++r.2)
def di(d:cE)(line:bz):cE × bz:=
 match bK line with
 |.none=>(d,yW)
 |.ord _ _ _ _=>if d.aC.length=5 then (d,Ic) else (⟨d.az,d.aC++[⟨d.given,line⟩],d.given+1⟩,iq)
 |.cmd c=>
  if cN c.w=1 then (⟨iH d.az c,d.aC,d.given⟩,me (fW d.az c).isSome)
  else if cN c.w=5 then match d.aC.findIdx? (fun o=>decide ((o.num:Int)=nth c.a 0)) with
   |none=>(d,Ic)
   |some i=>(⟨d.az,d.aC.eraseIdx i,d.given⟩,iq)
  else (d,nC d.az c)
def iC(d:cE)(line:bz):cE × bz:=
 let r:=dO (di d line).1.aC.length (di d line).1
 (r.1,(di d line).2++r.2)
def dJ:cE->List bz->cE × List bz
 |d,[]=>(d,[])
 |d,l::ls=>((dJ (iC d l).1 ls).1,(iC d l).2::(dJ (iC d l).1 ls).2)
theorem MA(ls:List bz):∀(d:cE) (l:bz),dJ d (ls++[l])=((iC (dJ d ls).1 l).1,(dJ d ls).2++[(iC (dJ d ls).1 l).2]):=by
 induction ls with
 |nil=>intro d l;rfl
 |cons x xs ih=>intro d l;rw[List.cons_append,dJ,ih];rfl
theorem sD(ls:List bz):∀d,(dJ d ls).2.length=ls.length:=by
 induction ls with
 |nil=>intro d;rfl
 |cons x xs ih=>intro d;rw[dJ];simp[ih]
def bY(t:aW):cE:=⟨t,[],0⟩
theorem ER(k:Nat):∀d:cE,aG d.az=true->aG (dO k d).1.az=true:=by
 induction k with
 |zero=>intro d h;exact h
 |succ k ih=>
  intro d h
  rw[dO]
  cases ie d.az d.aC with
  |none=>exact h
  |some i=>exact ih _ (rI h _)
theorem wU{d:cE}(h:aG d.az=true)(l:bz):aG (di d l).1.az=true:=by
 unfold di;cases bK l with
 |none=>exact h
 |ord q s n c=>simp only[];split<;>exact h
 |cmd c=>
  simp only[]
  split
  ·exact rI h c
  ·split
   ·split<;>exact h
   ·exact h
theorem uB{d:cE}(h:aG d.az=true)(l:bz):aG (iC d l).1.az=true:=ER _ _ (wU h l)
theorem B6(ls:List bz):∀ {d:cE},aG d.az=true->aG (dJ d ls).1.az=true:=by
 induction ls with
 |nil=>intro d h;exact h
 |cons l ls ih=>intro d h;rw[dJ];exact ih (uB h l)
def gL(os:List Ord):Prop:=os.length<=5/\∀o∈os,∃q s n c,bK o.line=.ord q s n c
theorem qW{os:List Ord}(h:gL os)(i:Nat):gL (os.eraseIdx i):=
 ⟨nT (List.length_eraseIdx_le _ _) h.1,fun o ho=>h.2 o (List.mem_of_mem_eraseIdx ho)⟩
theorem II(k:Nat):∀d:cE,gL d.aC->gL (dO k d).1.aC:=by
 induction k with
 |zero=>intro d h;exact h
 |succ k ih=>
  intro d h
  rw[dO]
  cases ie d.az d.aC with
  |none=>exact h
  |some i=>exact ih _ (qW h i)
theorem vq{d:cE}(h:gL d.aC)(l:bz):gL (di d l).1.aC:=by
 unfold di;cases hl:bK l with
 |none=>exact h
 |ord q s n c=>
  simp only[]
  split
  ·exact h
  ·refine⟨by have:=h.1;simp;omega,fun o ho=>?_⟩;rcases List.mem_append.1 ho with h1|h1
   ·exact h.2 o h1
   ·simp at h1;subst h1;exact⟨q,s,n,c,hl⟩
 |cmd c=>
  simp only[]
  split
  ·exact h
  ·split
   ·split
    ·exact h
    ·exact qW h _
   ·exact h
theorem wK{d:cE}(h:gL d.aC)(l:bz):gL (iC d l).1.aC:=II _ _ (vq h l)
theorem PE(ls:List bz):∀ {d:cE},gL d.aC->gL (dJ d ls).1.aC:=by
 induction ls with
 |nil=>intro d h;exact h
 |cons l ls ih=>intro d h;rw[dJ];exact ih (wK h l)
theorem zz:gL []:=⟨nV,fun o ho=>by cases ho⟩
end Hd
namespace Hd
def zZ:List bz->bz
 |[]=>[]
 |[w]=>w
 |w::v::r=>w++32::zZ (v::r)
theorem Mr{w:bz}(h:(32:UInt8)∉w)(s:bz):bG (w++32::s)=w::bG s:=by
 induction w with
 |nil=>rw[List.nil_append,bG,if_pos rfl]
 |cons b r ih=>
  have hb:b≠32:=fun e=>h (by simp[e])
  rw[List.cons_append,bG,if_neg hb,ih (fun e=>h (by simp[e]))]
theorem IK{w:bz}(h:(32:UInt8)∉w):bG w=[w]:=by
 induction w with
 |nil=>rfl
 |cons b r ih=>
  have hb:b≠32:=fun e=>h (by simp[e])
  rw[bG,if_neg hb,ih (fun e=>h (by simp[e]))]
theorem zb:∀ {ws:List bz},ws≠[]->(∀w∈ws,(32:UInt8)∉w)->bG (zZ ws)=ws
 |[],h,_=>absurd rfl h
 |[w],_,h=>IK (h w nV)
 |w::v::r,_,h=>by rw[zZ,Mr (h w nV),zb nV fun x hx=>h x (by simp[hx])]
theorem JT(n:Int):∀b∈Lib.itoa n,b=45\/48<=b.toNat/\b.toNat<=57:=by
 intro b hb;unfold Lib.itoa at hb;split at hb
 ·rcases List.mem_cons.1 hb with rfl|hb
  ·exact .inl rfl
  ·exact .inr ((eH _).2.2.2.1 b hb)
 ·exact .inr ((eH _).2.2.2.1 b hb)
theorem QO(n:Int)(c:UInt8)(h:c≠45)(h2:¬(48<=c.toNat/\c.toNat<=57)):c∉Lib.itoa n:=by
 intro hc;rcases JT n c hc with h'|h'
 ·exact h h'
 ·exact h2 h'
theorem JU(n:Int):(32:UInt8)∉Lib.itoa n:=QO n 32 nU nU
theorem Iw(d:Wd):(32:UInt8)∉cj d:=by cases d<;>decide
theorem Cm:∀ {a:List Int},(∀x∈a,-1000000<x/\x<1000000)->cR (a.map Lib.itoa)=some a
 |[],_=>rfl
 |x::a,h=>by rw[List.map_cons,cR,ou.2 ⟨rfl,h x nV⟩,Cm fun y hy=>h y (by simp[hy])];rfl
def wz(c:dU):List bz:=cj c.w::c.a.map Lib.itoa
def uh(c:dU):bz:=zZ (wz c)
theorem Da(c:dU):∀w∈wz c,(32:UInt8)∉w:=by
 intro w hw;rcases List.mem_cons.1 hw with rfl|hw
 ·exact Iw _
 ·obtain⟨x,_,rfl⟩:=List.mem_map.1 hw;exact JU x
theorem Ml(d:Wd):cj d≠lY:=by cases d<;>decide
def Vc(c:dU):Prop:=c.a.length=tq c.w/\∀x∈c.a,-1000000<x/\x<1000000
theorem On{c:dU}(h:Vc c):bM (wz c)=some c:=Ea.2 ⟨_,rfl,Cm h.2,h.1⟩
theorem Cc{c:dU}(h:Vc c):bK (uh c)=.cmd c:=by unfold bK uh;rw[zb (by simp[wz]) (Da c)];unfold eD;rw[if_neg (by simp[wz,Ml]),On h]
theorem mS{ws:List bz}{c:dU}(h:bM ws=some c):Vc c:=by obtain⟨r,_,h1,h2⟩:=Ea.1 h;exact⟨h2,JB h1⟩
theorem tJ{t:bz}{q c:dU}{s:UInt8}{n:Int}(h:bK t=.ord q s n c):∃k,(bG t).head?=some lY/\jN iY (bG t)=some k/\4<=k/\bM (((bG t).take (k-2)).drop 1)=some q/\mj (nth (bG t) (k-2))=some s/\numOf (nth (bG t) (k-1))=some n/\bM ((bG t).drop (k+1))=some c/\cN q.w=2/\cN c.w=1:=by
 unfold bK eD at h;split at h
 ·rename_i hw;cases hi:jN iY (bG t) with
  |none=>rw[hi] at h;cases h
  |some k=>
   rw[hi] at h
   simp only[] at h
   split at h
   ·cases h
   ·rename_i h4;unfold qv at h;cases h1:bM (((bG t).take (k-2)).drop 1) with
    |none=>rw[h1] at h;cases h
    |some q'=>
     cases h2:mj (nth (bG t) (k-2)) with
     |none=>rw[h1,h2] at h;cases h
     |some s'=>
      cases h3:numOf (nth (bG t) (k-1)) with
      |none=>rw[h1,h2,h3] at h;cases h
      |some n'=>
       cases h5:bM ((bG t).drop (k+1)) with
       |none=>rw[h1,h2,h3,h5] at h;cases h
       |some c'=>
        rw[h1,h2,h3,h5] at h
        simp only[] at h
        split at h
        ·rename_i hk;injection h with e1 e2 e3 e4;subst e1 e2 e3 e4;exact⟨k,hw,hi▸rfl,nQ,h1,h2,h3,h5,hk⟩
        ·cases h
 ·cases hc:bM (bG t) with
  |none=>rw[hc] at h;cases h
  |some c'=>rw[hc] at h;cases h
def ku(l:bz):Bool:=match bK l with|.ord _ _ _ _=>true|_=>false
def Calm(d:cE):Prop:=ie d.az d.aC=none
theorem za:∀ {k:Nat} {d:cE},Calm d->dO k d=(d,[])
 |0,d,_=>rfl
 |k+1,d,h=>by rw[dO,show ie d.az d.aC=none from h]
theorem Aq{t:aW}{os:List Ord}{i:Nat}(h:ie t os=some i):i<os.length/\ni t (bK (nth os i).line)=true/\∀j,j<i->ni t (bK (nth os j).line)=false:=by unfold ie at h;obtain⟨h1,h2,h3⟩:=List.findIdx?_eq_some_iff_getElem.1 h;refine⟨h1,by rw[bR _ h1];exact h2,fun j hj=>?_⟩;have:=h3 j hj;rw[bR _ nQ];simpa using this
def fj(t:aW)(l:bz):aW × bz:=
 match bK l with
 |.none=>(t,yW)
 |.ord _ _ _ _=>(t,Ic)
 |.cmd c=>if cN c.w=1 then (iH t c,me (fW t c).isSome) else if cN c.w=5 then (t,Ic) else (t,nC t c)
def cX:aW->List bz->aW × List bz
 |t,[]=>(t,[])
 |t,l::ls=>((cX (fj t l).1 ls).1,(fj t l).2::(cX (fj t l).1 ls).2)
theorem MO{l:bz}(h:ku l=false)(t:aW)(g:Nat):di ⟨t,[],g⟩ l=(⟨(fj t l).1,[],g⟩,(fj t l).2):=by
 unfold di fj;unfold ku at h;cases hl:bK l with
 |none=>rfl
 |ord q s n c=>rw[hl] at h;cases h
 |cmd c=>
  simp only[]
  split
  ·rfl
  ·split<;>rfl
theorem yZ{l:bz}(h:ku l=false)(t:aW)(g:Nat):iC ⟨t,[],g⟩ l=(⟨(fj t l).1,[],g⟩,(fj t l).2):=by unfold iC;rw[MO h];simp only[List.length_nil,dO,List.append_nil]
theorem n9:∀ {ls:List bz},(∀l∈ls,ku l=false)->∀(t:aW) (g:Nat),dJ ⟨t,[],g⟩ ls=(⟨(cX t ls).1,[],g⟩,(cX t ls).2)
 |[],_,t,g=>rfl
 |l::ls,h,t,g=>by rw[dJ,yZ (h l nV),n9 (ls:=ls) fun x hx=>h x (by simp[hx])];rfl
theorem qF(d:Wd):cN d=1\/cN d=2\/cN d=3\/cN d=5:=by cases d<;>decide
theorem uY{t:aW}{g:Nat}{o:bz}{q c:dU}{s:UInt8}{n:Int}(hr:bK o=.ord q s n c):iC ⟨t,[],g⟩ o=if cY t q s n=true then (⟨iH t c,[],g+1⟩,iq++lZ g (fW t c).isSome) else (⟨t,[⟨g,o⟩],g+1⟩,iq):=by
 unfold iC;have e:di ⟨t,[],g⟩ o=(⟨t,[⟨g,o⟩],g+1⟩,iq):=by unfold di;rw[hr];simp
 rw[e];simp only[List.length_cons,List.length_nil,Nat.zero_add,dO,ie,List.findIdx?_cons,hr,ni];by_cases h:cY t q s n=true
 ·rw[if_pos h];simp[h,hr,yU,nth]
 ·rw[if_neg h];simp[h]
theorem Fi(k:Nat)(hk:k<1000000):bK (uh ⟨.forget,[(k:Int)]⟩)=.cmd ⟨.forget,[(k:Int)]⟩:=Cc ⟨rfl,fun x hx=>by simp at hx;omega⟩
theorem NU{t:aW}{o f:bz}{q c:dU}{s:UInt8}{n:Int}{ls:List bz}(hr:bK o=.ord q s n c)(hf:bK f=.cmd ⟨.forget,[0]⟩)(hh:cY t q s n=false)(h:∀l∈ls,ku l=false):(dJ (bY t) (o::f::ls)).2=iq::iq::(dJ (bY t) ls).2/\(dJ (bY t) (o::f::ls)).1.az=(dJ (bY t) ls).1.az/\(dJ (bY t) (o::f::ls)).1.aC=[]/\(dJ (bY t) ls).1.aC=[]:=by
 have e2:iC ⟨t,[⟨0,o⟩],1⟩ f=(⟨t,[],1⟩,iq):=by
  have:di ⟨t,[⟨0,o⟩],1⟩ f=(⟨t,[],1⟩,iq):=by unfold di;rw[hf];simp[cN,nth]
  unfold iC;rw[this];simp[dO]
 have e3:dJ (bY t) ls=_:=n9 h t 0;rw[e3,dJ,dJ,bY,uY hr,if_neg (by simp[hh]),e2,n9 h t 1];exact⟨rfl,rfl,rfl,rfl⟩
def ki(l:bz):Bool:=match bK l with|.ord _ _ _ _=>false|.cmd c=>decide (cN c.w≠5)|.none=>true
theorem wJ{t:aW}{g:Nat}{o l:bz}{k:Nat}{q c:dU}{s:UInt8}{n:Int}(hr:bK o=.ord q s n c)(hl:ki l=true):iC ⟨t,[⟨k,o⟩],g⟩ l=if cY (fj t l).1 q s n=true then (⟨iH (fj t l).1 c,[],g⟩,(fj t l).2++lZ k (fW (fj t l).1 c).isSome) else (⟨(fj t l).1,[⟨k,o⟩],g⟩,(fj t l).2):=by
 have e:di ⟨t,[⟨k,o⟩],g⟩ l=(⟨(fj t l).1,[⟨k,o⟩],g⟩,(fj t l).2):=by
  unfold di fj;unfold ki at hl;cases h:bK l with
  |none=>rfl
  |ord q s n c=>rw[h] at hl;cases hl
  |cmd c=>
   rw[h] at hl
   simp only[decide_eq_true_eq,if_neg (of_decide_eq_true hl)]
   split<;>rfl
 unfold iC;rw[e];simp only[List.length_cons,List.length_nil,Nat.zero_add,dO,ie,List.findIdx?_cons,hr,ni];by_cases h:cY (fj t l).1 q s n=true
 ·rw[if_pos h];simp[h,hr,yU,nth]
 ·rw[if_neg h];simp[h]
theorem wE{l:bz}(h:ki l=true):ku l=false:=by
 unfold ki at h;unfold ku;cases hl:bK l with
 |none=>rfl
 |ord q s n c=>rw[hl] at h;cases h
 |cmd c=>rfl
theorem EA:∀ {ls:List bz} {t:aW} {g:Nat} {o:bz} {k:Nat} {q c:dU} {s:UInt8} {n:Int},bK o=.ord q s n c->(∀l∈ls,ki l=true)->(∀i,i<ls.length->cY (cX t (ls.take (i+1))).1 q s n=false)->dJ ⟨t,[⟨k,o⟩],g⟩ ls=(⟨(cX t ls).1,[⟨k,o⟩],g⟩,(cX t ls).2)
 |[],t,g,o,k,q,c,s,n,hr,hw,hh=>rfl
 |l::ls,t,g,o,k,q,c,s,n,hr,hw,hh=>by
  have h0:=hh 0 nV;have e0:(cX t ((l::ls).take 1)).1=(fj t l).1:=by simp[cX]
  rw[e0] at h0;rw[dJ,wJ hr (hw l nV),if_neg (by simp[h0]),cX];have:=EA (ls:=ls) (t:=(fj t l).1) (g:=g) (k:=k) hr (fun x hx=>hw x (by simp[hx])) (fun i hi=>by
   have:=hh (i+1) (by simp;omega)
   rwa [List.take_succ_cons,cX] at this)
  simp only[this]
theorem ED:∀ {ls:List bz} {t:aW} {g:Nat} {o:bz} {k:Nat} {q c:dU} {s:UInt8} {n:Int} {i:Nat},bK o=.ord q s n c->(∀l∈ls,ki l=true)->i<ls.length->(∀j,j<i->cY (cX t (ls.take (j+1))).1 q s n=false)->cY (cX t (ls.take (i+1))).1 q s n=true->(dJ ⟨t,[⟨k,o⟩],g⟩ ls).1.aC=[]/\(dJ ⟨t,[⟨k,o⟩],g⟩ ls).2.take i=(cX t ls).2.take i/\nth (dJ ⟨t,[⟨k,o⟩],g⟩ ls).2 i=nth (cX t ls).2 i++lZ k (fW (cX t (ls.take (i+1))).1 c).isSome
 |[],t,g,o,k,q,c,s,n,i,hr,hw,hi,hh,h1=>absurd hi nV
 |l::ls,t,g,o,k,q,c,s,n,0,hr,hw,hi,hh,h1=>by
  have e0:(cX t ((l::ls).take (0+1))).1=(fj t l).1:=by simp[cX]
  rw[e0] at h1 ⊢;rw[dJ,wJ hr (hw l nV),if_pos h1,cX];have:=n9 (ls:=ls) (fun x hx=>wE (hw x (by simp[hx]))) (iH (fj t l).1 c) g;simp only[this];refine⟨trivial,?_,?_⟩<;>first|rfl|simp[nth]
 |l::ls,t,g,o,k,q,c,s,n,i+1,hr,hw,hi,hh,h1=>by
  have h0:=hh 0 nQ;have e0:(cX t ((l::ls).take (0+1))).1=(fj t l).1:=by simp[cX]
  rw[e0] at h0;rw[List.take_succ_cons,cX] at h1 ⊢;rw[dJ,wJ hr (hw l nV),if_neg (by simp[h0]),cX];obtain⟨a1,a2,a3⟩:=ED (ls:=ls) (t:=(fj t l).1) (g:=g) (k:=k) (i:=i) hr (fun x hx=>hw x (by simp[hx])) (by simpa using hi) (fun j hj=>by
   have:=hh (j+1) nQ
   rwa [List.take_succ_cons,cX] at this) h1
  exact⟨a1,by simp only[List.take_succ_cons,a2],by simpa [nth] using a3⟩
end Hd
namespace Hd
theorem L5{n:Me.Net}(hv:Me.valid n=true)(h0:n.hs.length≠0):(nth (Me.gz n) 0).toNat<n.hs.length:=by have ho:=Me.iL (Me.aD.1 hv).2.2.2.2.2;have hl:(Me.gz n).length=n.hs.length:=Me.jB ho;have:=(Me.yF ho).1 (aV (Me.gz n) (k:=0) nQ);have h1:=this.1;have h2:=this.2;omega
theorem Ta:nu lY=none:=by decide +kernel
theorem TN:numOf []=none:=by decide +kernel
theorem GZ{w:bz}{ws:List bz}(h:nu w=none):bM (w::ws)=none:=by show rV (nu w) _=none;rw[h];rfl
theorem tK{ws:List bz}{w:bz}(hw:w∈ws)(h:numOf w=none):cR ws=none:=by
 induction ws with
 |nil=>cases hw
 |cons v vs ih=>
  rw[cR]
  rcases List.mem_cons.1 hw with rfl|hw
  ·rw[h]
  ·cases numOf v with
   |none=>rfl
   |some n=>simp only[];rw[ih hw];rfl
theorem JW{t:bz}:∀ {ws:List bz} {k:Nat},jN t ws=some k->k<ws.length/\nth ws k=t/\∀j,j<k->nth ws j≠t
 |[],k,h=>by cases h
 |w::ws,k,h=>by
  rw[jN] at h;by_cases hw:w=t
  ·rw[if_pos hw] at h;injection h with h;subst h;exact⟨nV,hw,fun j hj=>absurd hj nQ⟩
  ·rw[if_neg hw] at h;simp only[Option.map_eq_some_iff] at h;obtain⟨j,hj,rfl⟩:=h;obtain⟨a,b,c⟩:=JW hj;refine⟨by simp;omega,by simpa [nth] using b,fun i hi=>?_⟩;cases i with
   |zero=>simpa [nth] using hw
   |succ i=>have:=c i nQ;simpa [nth] using this
def AW(m:Nat)(d:cE):Prop:=d.given<=m/\∀o∈d.aC,o.num<d.given
theorem z8{n:Nat}(h:n<100):(Lib.itoa (n:Int)).length<=2:=by unfold Lib.itoa;rw[if_neg nQ];exact(eH _).2.2.2.2 1 nQ
theorem BI:∀(k:Nat) {d:cE} {m:Nat},m<100->AW m d->AW m (dO k d).1/\(dO k d).2.length<=6*d.aC.length
 |0,d,m,_,h=>⟨h,by simp[dO]⟩
 |k+1,d,m,hm,h=>by
  rw[dO];cases hf:ie d.az d.aC with
  |none=>exact⟨h,nV⟩
  |some i=>
   have hi:=(Aq hf).1
   have h2:AW m ⟨iH d.az (yU (bK (nth d.aC i).line)),d.aC.eraseIdx i,d.given⟩:=⟨h.1,fun o ho=>h.2 o (List.mem_of_mem_eraseIdx ho)⟩
   obtain⟨a,b⟩:=BI k hm h2
   refine⟨a,?_⟩
   simp only[List.length_eraseIdx,if_pos hi] at b
   have hn:=h.2 _ (aV d.aC hi)
   have hs:=z8 (n:=(nth d.aC i).num) (by have:=h.1;omega)
   have hy:∀b:Bool,(me b).length=2:=by intro b;cases b<;>rfl
   simp only[List.length_append,lZ,List.length_cons,hy]
   omega
theorem TJ{d:cE}{m:Nat}(h:AW m d)(l:bz):AW (m+1) (di d l).1:=by
 have h1:AW (m+1) d:=⟨Nat.le_succ_of_le h.1,h.2⟩;unfold di;cases bK l with
 |none=>exact h1
 |ord q s n c=>
  simp only[]
  split
  ·exact h1
  ·refine⟨Nat.succ_le_succ h.1,fun o ho=>?_⟩;rcases List.mem_append.1 ho with ho|ho
   ·exact Nat.lt_succ_of_lt (h.2 o ho)
   ·simp at ho;subst ho;exact nA _
 |cmd c=>
  simp only[]
  split
  ·exact h1
  ·split
   ·split
    ·exact h1
    ·exact⟨h1.1,fun o ho=>h1.2 o (List.mem_of_mem_eraseIdx ho)⟩
   ·exact h1
theorem B9(hA:∀t c,aG t=true->(nC t c).length<=60):∀(ls:List bz) {d:cE} {m:Nat},aG d.az=true->gL d.aC->AW m d->m+ls.length<100->∀a∈(dJ d ls).2,a.length<=100
 |[],d,m,_,_,_,_=>fun a ha=>by cases ha
 |l::ls,d,m,hv,ho,hn,hm=>by
  simp only[List.length_cons] at hm;have h1:=TJ hn l;obtain⟨h2,h3⟩:=BI (di d l).1.aC.length (m:=m+1) nQ h1;have h5:=(vq ho l).1;have hown:(di d l).2.length<=60:=by
   unfold di;cases bK l with
   |none=>show yW.length<=60;decide
   |ord q s n c=>simp only[];split<;>(first|(show Ic.length<=60;decide)|(show iq.length<=60;decide))
   |cmd c=>
    simp only[]
    split
    ·cases (fW d.az c).isSome<;>(simp only[me];decide)
    ·split
     ·split<;>(first|(show Ic.length<=60;decide)|(show iq.length<=60;decide))
     ·exact hA _ _ hv
  rw[dJ];intro a ha;rcases List.mem_cons.1 ha with rfl|ha
  ·show((di d l).2++_).length<=100;rw[List.length_append];have:6*(di d l).1.aC.length<=30:=nQ;omega
  ·exact B9 hA ls (uB hv l) (wK ho l) (m:=m+1) h2 nQ a ha
end Hd
namespace Hd
theorem sN{n:Int}(k:Nat)(h:n.natAbs<10 ^ (k+1)):(Lib.itoa n).length<=k+2:=by
 unfold Lib.itoa;split
 ·have:=(eH n.natAbs).2.2.2.2 k h;simp only[List.length_cons];omega
 ·have:=(eH n.toNat).2.2.2.2 k nQ;omega
theorem Gl{n:Int}(h:0<=n/\n<100):(Lib.itoa n).length<=2:=by obtain⟨m,rfl⟩:∃m:Nat,n=m:=⟨n.toNat,nQ⟩;exact z8 nQ
theorem tO:∀ {l:List Int},(∀x∈l,0<=x/\x<100)->(je l).length<=3*l.length
 |[],_=>by simp[je]
 |[x],h=>by have:=Gl (h x nV);simp only[je,List.length_cons,List.length_nil];omega
 |x::y::r,h=>by have h1:=Gl (h x nV);have h2:=tO (l:=y::r) fun z hz=>h z (by simp[hz]);rw[je];simp only[List.length_append,List.length_cons] at h2 ⊢;omega
def S4(l:List Int):Prop:=l.length<=6/\∀x∈l,0<=x/\x<100
theorem L1:S4 []:=⟨nV,fun x hx=>by cases hx⟩
theorem RD{n:An.Net}(hv:An.valid n=true):S4 (An.kJ n):=by
 cases hok:An.kq n with
 |false=>rw[An.FL hok];exact L1
 |true=>
  rw[An.FM hv hok]
  obtain⟨_,_,_,h4,_,_,h7,_⟩:=An.aD.1 hv
  refine⟨by rw[List.length_map,List.length_range];exact h4,fun x hx=>?_⟩
  obtain⟨i,hi,rfl⟩:=List.mem_map.1 hx
  rw[List.mem_range] at hi
  have h1:=An.uJ.1 hok i hi
  have h2:=An.EM hv hi
  have h3:=List.all_eq_true.1 (show n.aB.all (An.mN n.ay.length)=true from h7) _ (aV n.aB hi)
  simp only[An.mN,decide_eq_true_eq] at h3
  omega
theorem UF{n:Me.Net}(hv:Me.valid n=true):S4 (Me.gz n):=by have ho:=Me.iL (Me.aD.1 hv).2.2.2.2.2;have h6:=(Me.aD.1 hv).2.1;refine⟨by rw[Me.jB ho];exact h6,fun x hx=>?_⟩;have:=(Me.yF ho).1 hx;unfold Me.isHole at this;omega
theorem RC{h:Sa.aN}(hv:Sa.valid h=true):S4 (PX h).1:=by
 unfold PX;split
 ·exact L1
 ·rename_i hp;have hm:Me.least (Sa.cL h) (Sa.bL h)∈Sa.nD h.bars.length h.parts.length:=(List.mem_filter.1 (Me.gd (Sa.cL h) hp)).1;obtain⟨h1,h2⟩:=Sa.jr.1 hm;have h3:=Sa.aD.1 hv;refine⟨by show List.length _<=6;rw[h1];exact h3.1.2.2.1,fun x hx=>?_⟩;have:=h2 x hx;have:=h3.1.2.2.2;omega
theorem DZ{t:aW}(hv:aG t=true)(c:dU):S4 (qY t c).1:=by
 obtain⟨h1,h2,h3⟩:=cr.1 hv;unfold qY;split
 ·exact RD h1
 ·exact UF h2
 ·exact RC h3
theorem KO{t:aW}(hv:aG t=true)(c:dU):-1500<=(fm t c).1/\(fm t c).1<=10000:=by
 obtain⟨h1,h2,h3⟩:=cr.1 hv;unfold fm;split
 ·show -1500<=pZ _ _/\pZ _ _<=10000;unfold pZ;split
  ·omega
  ·split<;>omega
 ·have:=An.Y4 t.aF;split
  ·show(-1500:Int)<=0/\(0:Int)<=10000;omega
  ·show(-1500:Int)<=(An.wN t.aF:Int)/\(An.wN t.aF:Int)<=10000;omega
 ·have:=Nu h2;exact⟨by show -1500<=Me.dY t.ah;omega,this.2⟩
 ·have:=RQ h2;exact⟨by show -1500<=Me.sZ t.ah;omega,by show Me.sZ t.ah<=10000;omega⟩
 ·unfold Vr;split
  ·show(-1500:Int)<=0/\(0:Int)<=10000;omega
  ·rename_i hp;have hm:(Me.least (Sa.cL t.aa) (Sa.bL t.aa)).length=t.aa.parts.length:=(Sa.jr.1 (List.mem_filter.1 (Me.gd (Sa.cL t.aa) hp)).1).1;have:=Sa.jj (A:=300) (f:=Sa.vf t.aa (Me.least (Sa.cL t.aa) (Sa.bL t.aa))) (fun b=>Sa.nM (Sa.aD.1 h3).1.2.1 (Sa.fF h3 (Nat.le_of_eq hm) (b:Int))) 5;show -1500<=Sa.gP _ 5/\Sa.gP _ 5<=10000;omega
 ·unfold RP;split
  ·show(-1500:Int)<=0/\(0:Int)<=10000;omega
  ·split
   ·show(-1500:Int)<=0/\(0:Int)<=10000;omega
   ·rename_i hp;have hm:(Me.least (D0 t.aa (nth c.a 0)) (Sa.bL t.aa)).length=t.aa.parts.length:=(Sa.jr.1 (List.mem_filter.1 (Me.gd (D0 t.aa (nth c.a 0)) hp)).1).1;have:=Sa.jj (A:=300) (f:=Sa.mE t.aa (nth c.a 0) (Me.least (D0 t.aa (nth c.a 0)) (Sa.bL t.aa))) (fun b=>by have:=(Sa.fF h3 (Nat.le_of_eq hm) (b:Int)).2.1;unfold Sa.mE;split<;>omega) 5;show -1500<=Sa.gP _ 5/\Sa.gP _ 5<=10000;omega
 ·have:=Sa.xI h3 (Sa.nD (t.aa.bars.length+1) t.aa.parts.length) fun l hl=>Nat.le_of_eq (Sa.jr.1 hl).1;show -1500<=Sa.rJ t.aa/\Sa.rJ t.aa<=10000;unfold Sa.rJ Sa.kG;split
  ·omega
  ·split
   ·omega
   ·split<;>omega
theorem EN{e:Int}{x:bz}{k:Nat}(h:x.length<=k)(hk:5<=k):(nj e x).length<=k:=by
 unfold nj;split
 ·exact h
 ·split
  ·show 4<=k;omega
  ·show 5<=k;omega
theorem QG{l:List Int}(h:S4 l):(qz l).length<=18:=by
 unfold qz;split
 ·decide
 ·have:=tO h.2;have:=h.1;omega
theorem CV(t:aW)(c:dU)(hv:aG t=true):(nC t c).length<=60:=by
 unfold nC;split
 ·exact EN (nT (QG (DZ hv c)) nU) nU
 ·have:=KO hv c;exact EN (nT (sN 5 nQ) nU) nU
end Hd
namespace Hd
def DK:tC->Bool|.ord _ _ _ _=>true|_=>false
theorem qo{ws:List bz}{c:dU}(h:eD ws=.cmd c):bM ws=some c/\DK (eD ws)=false:=by
 refine⟨?_,by rw[h];rfl⟩;unfold eD at h;split at h
 ·split at h
  ·split at h
   ·cases h
   ·unfold qv at h;split at h
    ·split at h<;>cases h
    ·cases h
  ·cases h
 ·split at h
  ·injection h with h;subst h;assumption
  ·cases h
theorem CJ{ws:List bz}(h:ws.head?=some lY):bM ws=none:=by
 cases ws with
 |nil=>rfl
 |cons t r=>
  injection h with h
  subst h
  exact GZ Ta
theorem Cb{ws:List bz}{q c:dU}{s:UInt8}{n:Int}(h:eD ws=.ord q s n c):bM ws=none:=by
 unfold eD at h;split at h
 ·rename_i hw;exact CJ hw
 ·split at h<;>cases h
theorem I6{ws:List bz}(h:eD ws=.none):bM ws=none:=by
 unfold eD at h;split at h
 ·rename_i hw;exact CJ hw
 ·split at h
  ·cases h
  ·assumption
theorem GS{ws:List bz}(h:bM ws=none)(h0:0<ws.length)(hf:nth ws 0=cj .forget){a:List Int}(ha:cR (ws.drop 1)=some a):a.length≠1:=by
 cases ws with
 |nil=>cases h0
 |cons t r=>
  intro hl
  have ht:t=cj .forget:=hf
  have hr:cR r=some a:=ha
  have:rV (nu t) (cR r)=none:=h
  rw[dI.2 ht,hr] at this
  unfold rV at this
  simp only[Option.bind_some,if_pos (show a.length=tq .forget from hl)] at this
  cases this
theorem kd5{d:Wd}(h:cN d=5):d=.forget:=by cases d<;>first|rfl|(exact absurd h nU)
theorem DX{ws:List bz}{c:dU}(h:bM ws=some c)(hc:cN c.w=5):∃x,c=⟨.forget,[x]⟩/\nth ws 0=cj .forget/\cR (ws.drop 1)=some [x]:=by
 obtain⟨r,rfl,h1,h2⟩:=Ea.1 h;obtain⟨d,a⟩:=c;have hd:d=.forget:=kd5 hc;subst hd;have h2:a.length=1:=h2;match a,h2 with
 |[x],_=>exact⟨x,rfl,rfl,h1⟩
end Hd
namespace Hd
def exS:Sa.aN:=⟨[⟨3,10⟩,⟨5,4⟩],2,[⟨0,10⟩,⟨0,15⟩,⟨1,8⟩],[40,20]⟩
def gH:aW:=⟨Ki,yj,exS⟩
def acX:bz:=[108,111,115,115]
def acW:bz:=[119,104,101,110,32,108,111,115,115,32,62,32,53,48,32,116,104,101,110,32,109,101,110,100,101,114,115,32,50]
def acV:bz:=[119,104,101,110,32,115,97,102,101,32,61,32,49,32,116,104,101,110,32,119,105,110,100,32,48,32,57]
def acU:bz:=[104,101,97,118,121,32,49,32,49,49]
def acT:bz:=[110,101,101,100]
def GN:bz:=[119,104,101,110,32,98,117,121,32,62,32,57,32,116,104,101,110,32,98,97,114,114,101,108,32,49]
def acS:bz:=[115,97,105,108]
def ad4:bz:=[53,56]
def ad3:bz:=[111,107,32,48,58,111,107]
def ad2:bz:=[111,107]
def ad1:bz:=[111,107,32,49,58,111,107]
def ad0:bz:=[48,32,55,32,48]
def acZ:bz:=[111,107]
def acY:bz:=[119,104,97,116]
def ij:List bz:=[acX,acW,acV,acU,acT,GN,acS]
def kM:List bz:=[ad4,ad3,ad2,ad1,ad0,acZ,acY]
theorem Kh:(dJ (bY gH) ij).2=kM:=by decide +kernel
theorem XY:(dJ (bY gH) ij).1.az.ah.m=2:=by decide +kernel
theorem UI:(dJ (bY gH) ij).1.az.aF.aP.lo=0/\(dJ (bY gH) ij).1.az.aF.aP.hi=9:=by decide +kernel
theorem UJ:(dJ (bY gH) ij).1.aC.map (·.line)=[GN]:=by decide +kernel
theorem RH:aG gH=true:=by decide +kernel
end Hd
namespace Hd
def lG(x:tC):Int:=match x with|.none=>0|.cmd c=>(cN c.w:Nat)|.ord _ _ _ _=>4
theorem Ny{l:bz}:lG (bK l)=4↔ku l=true:=by
 unfold lG ku;cases bK l with
 |none=>simp
 |ord q s n c=>simp
 |cmd c=>rcases qF c.w with h|h|h|h<;>simp[h]
end Hd
end Go.Proofs.YtdmedlkonaclnaaGreatDoor
