/- A part of the proof that a law of layer 12 holds, cut small by a program (names and blanks): Ha1, Ha2. -/
import Derived.Test.YtpnnapeoanafdaaGreatDoorZ1
set_option maxRecDepth 100000
set_option maxHeartbeats 40000000
set_option linter.unusedVariables false
set_option linter.unusedSimpArgs false
namespace Go.Proofs.YtpnnapeoanafdaaGreatDoor
open Go.RowKit
open Nat renaming lt_of_lt_of_le → nL, zero_le → nE, lt_of_le_of_lt → nO
open Go.Proofs.Tryz renaming prog → nH
open Go renaming World → nJ, Value → nK
namespace An
structure Sp where
 lo:Int
 hi:Int
structure BN where
 wt:Int
 bt:Int
structure Jj where
 wX:Int
 xH:Int
 lean:Int
 yA:Int
 sE:Int
structure Net where
 aP:Sp
 cur:Sp
 av:List Sp
 aB:List BN
 aU:List Jj
structure jn where
 aP:Int
 cur:Int
 av:List Int
instance:Inhabited Sp:=⟨⟨0,0⟩⟩
instance:Inhabited BN:=⟨⟨0,0⟩⟩
instance:Inhabited Jj:=⟨⟨0,0,0,0,0⟩⟩
def jP(m:Int)(s:Sp):Bool:=decide (0<=s.lo/\s.lo<=s.hi/\s.hi<=m)
def mY(bots:Nat)(a:BN):Bool:=decide (0<=a.wt/\a.wt<=20/\0<=a.bt/\a.bt<bots)
def qB(w:Jj):Bool:=decide (0<=w.wX/\w.wX<=9/\0<=w.xH/\w.xH<=9/\0<=w.lean/\w.lean<=9/\0<=w.yA/\w.yA<=99/\0<=w.sE/\w.sE<=99)
def nI(xs:List Sp):Bool:=xs.all (jP 9)
def kE(g:Nat)(xs:List BN):Bool:=xs.all (mY g)
def nC(xs:List Jj):Bool:=xs.all qB
def valid(n:Net):Bool:=
 jP 20 n.aP&&jP 20 n.cur&&decide (n.av.length<=3)&&decide (n.aB.length<=6)&&decide (n.aU.length=n.aB.length-1)&&nI n.av&&kE n.av.length n.aB&&nC n.aU
theorem aC{n:Net}:valid n=true↔jP 20 n.aP=true/\jP 20 n.cur=true/\n.av.length<=3/\n.aB.length<=6/\n.aU.length=n.aB.length-1/\nI n.av=true/\kE n.av.length n.aB=true/\nC n.aU=true:=by simp[valid,and_assoc]
def Ai(x:Jj)(wi cu:Int):Int:=x.wX*wi+x.xH*cu
def ld(n:Net)(t:jn)(k:Nat):Int:=Ai (nth n.aU k) t.aP t.cur
def side(n:Net)(t:jn)(d:Nat->Bool)(k o:Nat):Int:=ld n t k*(if d o then 2 else 1)
def bears(n:Net)(t:jn)(i:Nat)(d:Nat->Bool):Int:=
 (if 0<i then side n t d (i-1) (i-1) else 0)+(if i<n.aU.length then side n t d i (i+1) else 0)
def can(n:Net)(t:jn)(i:Nat):Int:=2*(nth n.aB i).wt*nth t.av (nth n.aB i).bt.toNat
def spare(n:Net)(t:jn)(i:Nat)(d:Nat->Bool):Int:=can n t i-bears n t i d
def jZ(n:Net)(t:jn):Prop:=valid n=true/\fH 0 20 t.aP=true/\fH 0 20 t.cur=true/\t.av.length=n.av.length/\∀g∈t.av,fH 0 9 g=true
theorem xw{a b A B:Int}(h0:0<=a)(h1:a<=A)(h2:0<=b)(h3:b<=B):0<=a*b/\a*b<=A*B:=
 ⟨Int.mul_nonneg h0 h2,Int.mul_le_mul h1 h3 h2 (Int.le_trans h0 h1)⟩
theorem KL{x:Jj}{wi cu:Int}(hx:qB x=true)(hw:fH 0 20 wi=true)(hc:fH 0 20 cu=true):0<=x.wX*wi/\x.wX*wi<=180/\0<=x.xH*cu/\x.xH*cu<=180/\0<=Ai x wi cu/\Ai x wi cu<=360:=by simp only[qB,fH,decide_eq_true_eq] at *;have h1:=xw hx.1 hx.2.1 hw.1 hw.2;have h2:=xw hx.2.2.1 hx.2.2.2.1 hc.1 hc.2;unfold Ai;omega
theorem oC{n:Net}(hv:valid n=true){k:Nat}(hk:k<n.aU.length):qB (nth n.aU k)=true:=by have:=(aC.1 hv).2.2.2.2.2.2.2;unfold nC at this;exact(List.all_eq_true.1 this) _ (aR _ hk)
theorem mI{n:Net}(hv:valid n=true){k:Nat}(hk:k<n.aB.length):mY n.av.length (nth n.aB k)=true:=by have:=(aC.1 hv).2.2.2.2.2.2.1;unfold kE at this;exact(List.all_eq_true.1 this) _ (aR _ hk)
theorem GX{n:Net}{t:jn}(h:jZ n t){k:Nat}(hk:k<n.aU.length):0<=ld n t k/\ld n t k<=360:=by have:=KL (oC h.1 hk) h.2.1 h.2.2.1;unfold ld;omega
theorem vo{n:Net}{t:jn}(h:jZ n t){d:Nat->Bool}{k o:Nat}(hk:k<n.aU.length):0<=side n t d k o/\side n t d k o<=720:=by have:=GX h hk;unfold side;split<;>omega
theorem wJ{n:Net}{t:jn}(h:jZ n t){d:Nat->Bool}{i:Nat}(hi:i<n.aB.length):0<=bears n t i d/\bears n t i d<=1440:=by
 have hw:=(aC.1 h.1).2.2.2.2.1;unfold bears;by_cases h1:0<i
 ·have a:=vo h (d:=d) (k:=i-1) (o:=i-1) nQ;by_cases h2:i<n.aU.length
  ·have b:=vo h (d:=d) (k:=i) (o:=i+1) h2;simp only[h1,h2,if_true];omega
  ·simp only[h1,h2,if_true,if_false];omega
 ·by_cases h2:i<n.aU.length
  ·have b:=vo h (d:=d) (k:=i) (o:=i+1) h2;simp only[h1,h2,if_true,if_false];omega
  ·simp only[h1,h2,if_false];omega
theorem EY{n:Net}{t:jn}(h:jZ n t){i:Nat}(hi:i<n.aB.length):0<=(nth n.aB i).wt/\(nth n.aB i).wt<=20/\0<=(nth n.aB i).bt/\(nth n.aB i).bt.toNat<t.av.length/\0<=nth t.av (nth n.aB i).bt.toNat/\nth t.av (nth n.aB i).bt.toNat<=9/\0<=can n t i/\can n t i<=360:=by
 have ha:=mI h.1 hi;simp only[mY,decide_eq_true_eq] at ha;have hb:(nth n.aB i).bt.toNat<t.av.length:=by rw[h.2.2.2.1];omega
 have hg:=h.2.2.2.2 _ (aR _ hb);simp only[fH,decide_eq_true_eq] at hg;have:=xw (a:=2*(nth n.aB i).wt) (A:=40) nQ nQ hg.1 hg.2;unfold can;omega
end An
section
open An
def gY(x:Sp):List nK:=[.int .i64 x.lo,.int .i64 x.hi]
def cM(x:BN):List nK:=[.int .i64 x.wt,.int .i64 x.bt]
def fA(x:Jj):List nK:=[.int .i64 x.wX,.int .i64 x.xH,.int .i64 x.lean,.int .i64 x.yA,.int .i64 x.sE]
section
variable{B:Nat}{w:nJ}{A:Option Addr}{c:Nat}
theorem Sl.sp{xs:List Sp}(h:Sl gY B w A c xs){k:Nat}(hk:k<xs.length):∃b o,A=some ⟨b,o,none⟩/\b<B/\w.cell? ⟨b,o+k*2,none⟩=some (.int .i64 (nth xs k).lo)/\w.cell? ⟨b,o+k*2+1,none⟩=some (.int .i64 (nth xs k).hi):=by obtain⟨b,o,hA,hb,hc⟩:=h.at_ (size:=2) (fun _=>rfl) hk nQ;rw[bN _ hk];exact⟨b,o,hA,hb,hc 0 _ rfl,hc 1 _ rfl⟩
theorem Sl.Zm{xs:List BN}(h:Sl cM B w A c xs){k:Nat}(hk:k<xs.length):∃b o,A=some ⟨b,o,none⟩/\b<B/\w.cell? ⟨b,o+k*2,none⟩=some (.int .i64 (nth xs k).wt)/\w.cell? ⟨b,o+k*2+1,none⟩=some (.int .i64 (nth xs k).bt):=by obtain⟨b,o,hA,hb,hc⟩:=h.at_ (size:=2) (fun _=>rfl) hk nQ;rw[bN _ hk];exact⟨b,o,hA,hb,hc 0 _ rfl,hc 1 _ rfl⟩
theorem Sl.WA{xs:List Jj}(h:Sl fA B w A c xs){k:Nat}(hk:k<xs.length):∃b o,A=some ⟨b,o,none⟩/\b<B/\w.cell? ⟨b,o+k*5,none⟩=some (.int .i64 (nth xs k).wX)/\w.cell? ⟨b,o+k*5+1,none⟩=some (.int .i64 (nth xs k).xH)/\w.cell? ⟨b,o+k*5+2,none⟩=some (.int .i64 (nth xs k).lean)/\w.cell? ⟨b,o+k*5+3,none⟩=some (.int .i64 (nth xs k).yA)/\w.cell? ⟨b,o+k*5+4,none⟩=some (.int .i64 (nth xs k).sE):=by obtain⟨b,o,hA,hb,hc⟩:=h.at_ (size:=5) (fun _=>rfl) hk nQ;rw[bN _ hk];exact⟨b,o,hA,hb,hc 0 _ rfl,hc 1 _ rfl,hc 2 _ rfl,hc 3 _ rfl,hc 4 _ rfl⟩
end
structure eS where
 gA:Option Addr
 gc:Nat
 aA:Option Addr
 ac:Nat
 wA:Option Addr
 wc:Nat
abbrev eK(r:eS)(n:Net):nK:=.agg #[.int .i64 n.aP.lo,.int .i64 n.aP.hi,.int .i64 n.cur.lo,.int .i64 n.cur.hi,.slice r.gA n.av.length r.gc,.slice r.aA n.aB.length r.ac,.slice r.wA n.aU.length r.wc]
def cr(B:Nat)(w:nJ)(r:eS)(n:Net):Prop:=Sl gY B w r.gA r.gc n.av/\Sl cM B w r.aA r.ac n.aB/\Sl fA B w r.wA r.wc n.aU
section
variable{B:Nat}{w:nJ}{r:eS}{n:Net}
@[go_sem] theorem Zt:cr B w.drew r n↔cr B w r n:=Iff.rfl
theorem cr.up{w':nJ}(h:cr B w r n)[hg:aD B w w']:cr B w' r n:=⟨h.1.up,h.2.1.up,h.2.2.up⟩
theorem cr.more(h:cr B w r n){B':Nat}(hB:B<=B'):cr B' w r n:=⟨h.1.more hB,h.2.1.more hB,h.2.2.more hB⟩
end
theorem tF(n low high:Int)(w:nJ):Calls nH 121 #[.int .i64 n,.int .i64 low,.int .i64 high] w fun e w'=>e=.returned (.bool (fH low high n))/\w=w':=by go_enter Tryz.func121,Tryz.ntmps121;go_wp2_with (go_at_call 185;refine(zm _ _ _ _).mono ?_;rintro e w1 ⟨rfl,rfl⟩);go_ret;exact⟨rfl,rfl⟩
def ke(xs:List Int)(x:Int):Bool:=decide (x∈xs)
theorem EA(A:Option Addr)(c:Nat)(xs:List Int)(x:Int)(B:Nat)(w:nJ)(h:Sl aI B w A c xs):Calls nH 229 #[.slice A xs.length c,.int .i64 x] w fun e w'=>e=.returned (.bool (ke xs x))/\w=w':=by
 have hl:=h.len;go_enter Tryz.func229,Tryz.ntmps229;go_wp2;go_loop [5] (fun i=>∃k:Nat,k<=xs.length/\i=.int .i64 k/\Hid (x∉xs.take k)) (fun i=>xs.length-(intOf i).toNat)
 case atStart=>exact⟨0,nE _,rfl,by simp[Hid]⟩
 case round=>
  obtain⟨k,hk,rfl,hn⟩:=hrel;by_cases hlt:k<xs.length
  ·obtain⟨b,o,rfl,hb,hc⟩:=h.int hlt;have hm:=qh (aR xs hlt);have ht:=qh (bz xs hlt);by_cases he:nth xs k=x
   ·subst he;go_wp2;go_ret;exact⟨bg (by simpa [ke] using hm.out),rfl⟩
   ·have he':(nth xs k==x)=false:=by simpa using he
    go_wp2;go_round
    case rel=>refine⟨k+1,nQ,by go_num,?_⟩;have:=hn.out;unfold Hid;rw[ht.out];simp[this,Ne.symm he]
    case measure=>simp[intOf];omega
  ·obtain rfl:k=xs.length:=by omega
   go_wp2;go_ret;refine⟨bg ?_,rfl⟩;have:=hn.out;simpa [ke] using this
theorem Vq(so all:Int)(w:nJ):Calls nH 148 #[.int .i64 so,.int .i64 all] w fun e w'=>e=.returned (.int .i64 (Am so all))/\w=w':=by
 by_cases h1:so=0
 ·subst h1;go_enter Tryz.func148,Tryz.ntmps148;go_wp2;go_ret;exact⟨rfl,rfl⟩
 ·have h1':(so==0)=false:=by simpa using h1
  by_cases h2:so=all
  ·subst h2;go_enter Tryz.func148,Tryz.ntmps148;go_wp2;go_ret;exact⟨cG (by simp[Am,h1]),rfl⟩
  ·have h2':(so==all)=false:=by simpa using h2
   go_enter Tryz.func148,Tryz.ntmps148;go_wp2;go_ret;exact⟨cG (by simp[Am,h1,h2]),rfl⟩
theorem Df(lN x:Int)(b:Nat)(w:nJ)(hc:w.cell? ⟨b,0,none⟩=some (.int .i64 lN)):Calls nH 159 #[.int .i64 x,.pointer (some ⟨b,0,none⟩)] w fun e w'=>e=.returned (.bool (!fH 0 lN x))/\w=w':=by
 go_enter Tryz.func159,Tryz.ntmps159;by_cases h1:x<0
 ·go_wp2;go_ret;exact⟨bg (by simp[fH];omega),rfl⟩
 ·go_wp2;go_ret;exact⟨bg (by rw[Bool.eq_iff_iff];simp[fH];omega),rfl⟩
theorem Hj(lN:Int)(b:Nat)(A:Option Addr)(c:Nat)(xs:List Int)(B:Nat)(w:nJ)(h:Sl aI B w A c xs)(hc:w.cell? ⟨b,0,none⟩=some (.int .i64 lN)):Calls nH 173 #[.slice A xs.length c,.func (.func 159) #[] #[.pointer (some ⟨b,0,none⟩)]] w fun e w'=>(∃n:Int,e=.returned (.int .i64 n)/\decide (0<=n) = !Ff lN xs)/\w=w':=by
 have hl:=h.len;go_enter Tryz.func173,Tryz.ntmps173;go_wp2;go_loop [8] (fun i=>∃k:Nat,k<=xs.length/\i=.int .i64 k/\Hid ((xs.take k).all (fH 0 lN)=true)) (fun i=>xs.length-(intOf i).toNat)
 case atStart=>exact⟨0,nE _,rfl,by simp[Hid]⟩
 case round=>
  obtain⟨k,hk,rfl,hn⟩:=hrel;by_cases hlt:k<xs.length
  ·obtain⟨b',o,rfl,hb,Qo⟩:=h.int hlt;have hm:=qh (aR xs hlt);have ht:=qh (bz xs hlt);by_cases he:fH 0 lN (nth xs k)=true
   ·go_wp2_with (go_at_call 159;refine(Df lN _ b _ hc).mono ?_;rintro e w1 ⟨rfl,rfl⟩);go_round
    case rel=>refine⟨k+1,nQ,by go_num,?_⟩;refine QCR ?_;simp[he]
    case measure=>simp[intOf];omega
   ·rw[Bool.not_eq_true] at he;go_wp2_with (go_at_call 159;refine(Df lN _ b _ hc).mono ?_;rintro e w1 ⟨rfl,rfl⟩);go_ret;refine⟨⟨k,rfl,?_⟩,rfl⟩;have:Ff lN xs=false:=by rw[Ff,List.all_eq_false];exact⟨_,hm.out,by simp[he]⟩
    rw[this];simp
  ·obtain rfl:k=xs.length:=by omega
   go_wp2;go_ret;refine⟨⟨-1,rfl,?_⟩,rfl⟩;have:=hn.out;rw[List.take_length] at this;rw[Ff,this];rfl
end
section
open An
theorem Zq{α:Type}{enc:α->List nK}{W:nJ}(xs:List α){T:TypeId}{b c:Nat}{cs:Array nK}(hb:b=W.heap.size)(hn:xs.length<=c)(hc:c<=9223372036854775807)(hcs:cs.toList=xs.flatMap enc):Sl enc (b+1) (W.alloc (.cells cs T)) (some ⟨b,0,none⟩) c xs:=by refine⟨hn,hc,fun _=>⟨_,_,rfl,nQ,fun j v hj=>?_⟩⟩;rw[World.cell?_alloc_at _ _ _ _ hb,<-Array.getElem?_toList,hcs];simpa using hj
theorem Sf(lN:Int)(A:Option Addr)(c:Nat)(xs:List Int)(B:Nat)(w:nJ)(h:Sl aI B w A c xs)[hB:Le B w]:Calls nH 99 #[.int .i64 lN,.slice A xs.length c] w fun e w'=>e=.returned (.bool (Ff lN xs))/\∃δ,w'=ah w δ:=by go_enter Tryz.func99,Tryz.ntmps99;go_wp2_with (first|(go_at_call 110;go_in)|(go_at_call 173;refine(Hj lN _ _ _ _ B _ h.up nW).mono ?_;rintro e w1 ⟨⟨n,rfl,hn⟩,rfl⟩));go_ret;exact⟨bg nV,ag⟩
theorem xB(lN:Int)(b k:Nat)(arr:Array nK)(T:TypeId)(W:nJ)(hb:b=W.heap.size)(hk:arr.size=k)(hs:k<=100)(adM:arr.toList=(arr.toList.map intOf).flatMap aI):Calls nH 99 #[.int .i64 lN,.slice (some ⟨b,0,none⟩) k k] (W.alloc (.cells arr T)) fun e w'=>e=.returned (.bool (Ff lN (arr.toList.map intOf)))/\∃δ,w'=ah (W.alloc (.cells arr T)) δ:=by
 have hl:(arr.toList.map intOf).length=k:=by simpa using hk
 have hS:Sl aI (b+1) (W.alloc (.cells arr T)) (some ⟨b,0,none⟩) k (arr.toList.map intOf):=Zq _ hb nQ nQ adM;have hB:Le (b+1) (W.alloc (.cells arr T)):=⟨by subst hb;simp⟩;have:=Sf lN (some ⟨b,0,none⟩) k (arr.toList.map intOf) (b+1) _ hS;rw[hl] at this;exact this
theorem Hh(s:Sp)(m:Int)(w:nJ):Calls nH 94 #[.agg #[.int .i64 s.lo,.int .i64 s.hi],.int .i64 m] w fun e w'=>e=.returned (.bool (jP m s))/\∃δ,w'=ah w δ:=by go_enter Tryz.func94,Tryz.ntmps94;go_wp2_with (go_at_call 99;refine(xB _ _ _ _ _ _ nW nY nQ nY).mono ?_;rintro e w1 ⟨rfl,δ,rfl⟩);all_goals go_ret;exact⟨bg (by rw[Bool.eq_iff_iff];simp[Ff,fH,intOf,jP] at *;omega),ag⟩
theorem IL(s:Sp)(w:nJ):Calls nH 96 #[.agg #[.int .i64 s.lo,.int .i64 s.hi]] w fun e w'=>e=.returned (.bool (jP 9 s))/\∃δ,w'=ah w δ:=by go_enter Tryz.func96,Tryz.ntmps96;go_wp2_with (go_at_call 94;refine(Hh s 9 _).mono ?_;rintro e w1 ⟨rfl,δ,rfl⟩);go_ret;exact⟨rfl,ag⟩
theorem IK(a:BN)(b g:Nat)(gA:Option Addr)(gc:Nat)(w:nJ)[hb:Lt b w](hg:g<=9223372036854775807)(hc:w.cell? ⟨b,4,none⟩=some (.slice gA g gc)):Calls nH 98 #[.agg #[.int .i64 a.wt,.int .i64 a.bt],.pointer (some ⟨b,0,none⟩)] w fun e w'=>e=.returned (.bool (mY g a))/\∃δ,w'=ah w δ:=by go_enter Tryz.func98,Tryz.ntmps98;go_wp2_with (go_at_call 99;refine(xB _ _ _ _ _ _ nW nY nQ nY).mono ?_;rintro e w1 ⟨rfl,δ,rfl⟩);all_goals go_ret;exact⟨bg (by rw[Bool.eq_iff_iff];simp[Ff,fH,intOf,mY] at *;omega),ag⟩
theorem IJ(x:Jj)(w:nJ):Calls nH 101 #[.agg #[.int .i64 x.wX,.int .i64 x.xH,.int .i64 x.lean,.int .i64 x.yA,.int .i64 x.sE]] w fun e w'=>e=.returned (.bool (qB x))/\∃δ,w'=ah w δ:=by go_enter Tryz.func101,Tryz.ntmps101;go_wp2_with (go_at_call 99;refine(xB _ _ _ _ _ _ nW nY nQ nY).mono ?_;rintro e w1 ⟨rfl,δ,rfl⟩);all_goals go_ret;exact⟨bg (by rw[Bool.eq_iff_iff];simp[Ff,fH,intOf,qB] at *;omega),ag⟩
theorem PF(A:Option Addr)(ln c:Nat)(xs:List Sp)(B:Nat)(w:nJ)(h:Sl gY B w A c xs)(hn:xs.length=ln)[hB:Le B w]:Calls nH 95 #[.slice A ln c,.func (.func 96) #[] #[]] w fun e w'=>e=.returned (.bool (nI xs))/\∃δ,w'=ah w δ:=by
 subst hn;have hl:=h.len;go_enter Tryz.func95,Tryz.ntmps95;go_wp2;go_loopw [9] (fun i wr=>∃(k:Nat) (δ:nJ),k<=xs.length/\i=.int .i64 k/\Hid ((xs.take k).all (jP 9)=true)/\wr=ah w δ) (fun i _=>xs.length-(intOf i).toNat)
 case atStart=>exact⟨0,w,nE _,rfl,by simp[Hid],(bw w).symm⟩
 case round=>
  obtain⟨k,δ,hk,rfl,hn,rfl⟩:=hrel;by_cases hlt:k<xs.length
  ·obtain⟨b',o,rfl,hb,hc0,AE⟩:=h.sp hlt;refine QDE ?_;intro hb' hm ht;by_cases he:jP 9 (nth xs k)=true
   ·go_wp2_with (go_at_call 96;refine(IL (nth xs k) _).mono ?_;rintro e w1 ⟨rfl,δ1,rfl⟩);go_roundw
    case rel=>refine⟨k+1,_,nQ,by go_num,?_,ai⟩;refine QCR ?_;simp[he]
    case measure=>simp[intOf];omega
   ·rw[Bool.not_eq_true] at he;go_wp2_with (go_at_call 96;refine(IL (nth xs k) _).mono ?_;rintro e w1 ⟨rfl,δ1,rfl⟩);go_ret;refine⟨bg ?_,ag⟩;have:nI xs=false:=by rw[nI,List.all_eq_false];exact⟨_,hm.out,by simp[he]⟩
    exact this.symm
  ·obtain rfl:k=xs.length:=by omega
   go_wp2;go_ret;refine⟨bg ?_,ag⟩;have:=hn.out;rw[List.take_length] at this;exact this.symm
theorem Lq(A:Option Addr)(ln c:Nat)(xs:List BN)(bx g:Nat)(gA:Option Addr)(gc:Nat)(B:Nat)(w:nJ)(h:Sl cM B w A c xs)(hn:xs.length=ln)[hB:Le B w][hx:Lt bx w](hg:g<=9223372036854775807)(hcx:w.cell? ⟨bx,4,none⟩=some (.slice gA g gc)):Calls nH 97 #[.slice A ln c,.func (.func 98) #[] #[.pointer (some ⟨bx,0,none⟩)]] w fun e w'=>e=.returned (.bool (kE g xs))/\∃δ,w'=ah w δ:=by
 subst hn;have hl:=h.len;go_enter Tryz.func97,Tryz.ntmps97;go_wp2;go_loopw [9] (fun i wr=>∃(k:Nat) (δ:nJ),k<=xs.length/\i=.int .i64 k/\Hid ((xs.take k).all (mY g)=true)/\wr=ah w δ) (fun i _=>xs.length-(intOf i).toNat)
 case atStart=>exact⟨0,w,nE _,rfl,by simp[Hid],(bw w).symm⟩
 case round=>
  obtain⟨k,δ,hk,rfl,hn,rfl⟩:=hrel;by_cases hlt:k<xs.length
  ·obtain⟨b',o,rfl,hb,hc0,AE⟩:=h.Zm hlt;refine QDE ?_;intro hb' hm ht;by_cases he:mY g (nth xs k)=true
   ·go_wp2_with (go_at_call 98;refine(IK (nth xs k) bx g gA gc _ hg nW).mono ?_;rintro e w1 ⟨rfl,δ1,rfl⟩);go_roundw
    case rel=>refine⟨k+1,_,nQ,by go_num,?_,ai⟩;refine QCR ?_;simp[he]
    case measure=>simp[intOf];omega
   ·rw[Bool.not_eq_true] at he;go_wp2_with (go_at_call 98;refine(IK (nth xs k) bx g gA gc _ hg nW).mono ?_;rintro e w1 ⟨rfl,δ1,rfl⟩);go_ret;refine⟨bg ?_,ag⟩;have:kE g xs=false:=by rw[kE,List.all_eq_false];exact⟨_,hm.out,by simp[he]⟩
    exact this.symm
  ·obtain rfl:k=xs.length:=by omega
   go_wp2;go_ret;refine⟨bg ?_,ag⟩;have:=hn.out;rw[List.take_length] at this;exact this.symm
theorem Lp(A:Option Addr)(ln c:Nat)(xs:List Jj)(B:Nat)(w:nJ)(h:Sl fA B w A c xs)(hn:xs.length=ln)[hB:Le B w]:Calls nH 100 #[.slice A ln c,.func (.func 101) #[] #[]] w fun e w'=>e=.returned (.bool (nC xs))/\∃δ,w'=ah w δ:=by
 subst hn;have hl:=h.len;go_enter Tryz.func100,Tryz.ntmps100;go_wp2;go_loopw [9] (fun i wr=>∃(k:Nat) (δ:nJ),k<=xs.length/\i=.int .i64 k/\Hid ((xs.take k).all qB=true)/\wr=ah w δ) (fun i _=>xs.length-(intOf i).toNat)
 case atStart=>exact⟨0,w,nE _,rfl,by simp[Hid],(bw w).symm⟩
 case round=>
  obtain⟨k,δ,hk,rfl,hn,rfl⟩:=hrel;by_cases hlt:k<xs.length
  ·obtain⟨b',o,rfl,hb,hc0,AE,MY,Qn,hc4⟩:=h.WA hlt;refine QDE ?_;intro hb' hm ht;by_cases he:qB (nth xs k)=true
   ·go_wp2_with (go_at_call 101;refine(IJ (nth xs k) _).mono ?_;rintro e w1 ⟨rfl,δ1,rfl⟩);go_roundw
    case rel=>refine⟨k+1,_,nQ,by go_num,?_,ai⟩;refine QCR ?_;simp[he]
    case measure=>simp[intOf];omega
   ·rw[Bool.not_eq_true] at he;go_wp2_with (go_at_call 101;refine(IJ (nth xs k) _).mono ?_;rintro e w1 ⟨rfl,δ1,rfl⟩);go_ret;refine⟨bg ?_,ag⟩;have:nC xs=false:=by rw[nC,List.all_eq_false];exact⟨_,hm.out,by simp[he]⟩
    exact this.symm
  ·obtain rfl:k=xs.length:=by omega
   go_wp2;go_ret;refine⟨bg ?_,ag⟩;have:=hn.out;rw[List.take_length] at this;exact this.symm
theorem EW(r:eS)(n:Net)(B:Nat)(w:nJ)(h:cr B w r n)[hB:Le B w]:Calls nH 48 #[eK r n] w fun e w'=>e=.returned (.int .i64 (cD (valid n) 20))/\∃δ,w'=ah w δ:=by have l1:=h.1.len;have l2:=h.2.1.len;have l3:=h.2.2.len;go_enter Tryz.func48,Tryz.ntmps48;go_wp2_with (first|(go_at_call 94;refine(Hh _ _ _).mono ?_;rintro e w1 ⟨rfl,δ,rfl⟩)|(go_at_call 95;refine(PF _ _ _ n.av B _ h.1.up (by first|rfl|(simp[*];done)|omega)).mono ?_;rintro e w1 ⟨rfl,δ,rfl⟩)|(go_at_call 97;refine(Lq _ _ _ n.aB w.heap.size n.av.length r.gA r.gc B _ h.2.1.up (by first|rfl|(simp[*];done)|omega) nQ nW).mono ?_;rintro e w1 ⟨rfl,δ,rfl⟩)|(go_at_call 100;refine(Lp _ _ _ n.aU B _ h.2.2.up (by first|rfl|(simp[*];done)|omega)).mono ?_;rintro e w1 ⟨rfl,δ,rfl⟩));all_goals go_ret;refine⟨cG ?_,ag⟩;go_light;have hv:=@aC n;have hz:n.aU=[]↔n.aU.length=0:=List.length_eq_zero_iff.symm;grind [cD,nC]
end
section
open An
theorem xe(s:Sp)(m:Int)(w:nJ):Calls nH 120 #[.agg #[.int .i64 s.lo,.int .i64 s.hi],.int .i64 m] w fun e w'=>e=.returned (.bool (jP m s))/\∃δ,w'=ah w δ:=by go_enter Tryz.func120,Tryz.ntmps120;go_wp2_with (go_at_call 121;refine(tF _ _ _ _).mono ?_;rintro e w1 ⟨rfl,rfl⟩);all_goals go_ret;exact⟨bg (by grind [fH,jP]),ag⟩
theorem jY(r:eS)(n:Net)(B:Nat)(w:nJ)(h:cr B w r n)[hB:Le B w]:Calls nH 72 #[eK r n] w fun e w'=>e=.returned (.int .i64 (cD (valid n) 20))/\∃δ,w'=ah w δ:=by
 have l1:=h.1.len;have l2:=h.2.1.len;have l3:=h.2.2.len;by_cases hw:n.aU.length=n.aB.length-1;case neg=>
  obtain⟨m,hm⟩:∃m:Nat,m=n.aB.length-1:=⟨_,rfl⟩;have MV:(if 1<(n.aB.length:Int) then (n.aB.length:Int)-1 else 0)=(m:Int):=by split<;>omega
  have hne:((n.aU.length:Int) != (m:Int))=true:=by simp;omega
  have hv:valid n=false:=by rw[<-Bool.not_eq_true];intro hv;exact hw (aC.1 hv).2.2.2.2.1
  have HV:=qh hv;clear hm hv hw;go_enter Tryz.func72,Tryz.ntmps72;go_wp2_with (go_at_call 120;refine(xe _ _ _).mono ?_;rintro e w1 ⟨rfl,δ,rfl⟩);all_goals go_ret;exact⟨cG (by rw[HV.out];rfl),ag⟩
 case pos=>
  have MV:(if 1<(n.aB.length:Int) then (n.aB.length:Int)-1 else 0)=(n.aU.length:Int):=by split<;>omega
  have HW:=qh hw;clear hw;go_enter Tryz.func72,Tryz.ntmps72;go_wp2_with (go_at_call 120;refine(xe _ _ _).mono ?_;rintro e w1 ⟨rfl,δ,rfl⟩);all_goals first
   |(go_ret
     refine⟨cG ?_,ag⟩
     go_light
     have hv:=@aC n
     grind [cD])
   |skip
  refine aM fun W1 aH=>?_;have c4:W1.cell? ⟨w.heap.size,4,none⟩=some (.slice r.gA n.av.length r.gc):=by rw[aH.out];go_simp
  have c5:W1.cell? ⟨w.heap.size,5,none⟩=some (.slice r.aA n.aB.length r.ac):=by rw[aH.out];go_simp
  have c6:W1.cell? ⟨w.heap.size,6,none⟩=some (.slice r.wA n.aU.length r.wc):=by rw[aH.out];go_simp
  have i1:Lt w.heap.size W1:=nr aH;have i2:Le B W1:=fI aH;have i3:aD B w W1:=gy aH;have i4:aD w.heap.size w W1:=gy aH;have i5:Le w.heap.size W1:=fI aH;have s1:Sl gY B W1 r.gA r.gc n.av:=h.1.up;have s2:Sl cM B W1 r.aA r.ac n.aB:=h.2.1.up;have s3:Sl fA B W1 r.wA r.wc n.aU:=h.2.2.up;have F:=qh (show jP 20 n.aP=true/\jP 20 n.cur=true/\n.av.length<=3/\n.aB.length<=6 by refine⟨nZ,nZ,nQ,nQ⟩);clear MV;go_loopw [3] (fun i wr=>∃(k:Nat) (δ:nJ),k<=n.av.length/\i=.int .i64 k/\Hid (nI (n.av.take k)=true)/\wr=ah W1 δ) (fun i _=>n.av.length-(intOf i).toNat)
  case atStart=>exact⟨0,W1,nE _,rfl,by simp[Hid,nI],(bw W1).symm⟩
  case round=>
   obtain⟨k,δ,hk,rfl,hn,rfl⟩:=hrel;by_cases hlt:k<n.av.length
   ·obtain⟨b,o,hA,hb,d0,d1⟩:=s1.sp hlt;have ib:Lt b W1:=⟨nL hb i2.out⟩;rw[hA] at c4;have hm:=qh (aR n.av hlt);have ht:=qh (bz n.av hlt);clear hA;go_wp2_with (go_at_call 120;refine(xe (nth n.av k) 9 _).mono ?_;rintro e w1 ⟨rfl,δ1,rfl⟩)
    ·go_ret;refine⟨cG ?_,ag⟩;go_light;have hv:=(@aC n).1;have hm:=hm.out;grind [cD,nI]
    ·go_roundw
     case rel=>refine⟨k+1,_,nQ,by go_num,?_,ai⟩;unfold Hid;have hn:=hn.out;rw[ht.out];go_light;grind [nI]
     case measure=>simp[intOf];omega
   ·obtain rfl:k=n.av.length:=by omega
    have G1:=qh (show nI n.av=true by have:=hn.out;rwa [List.take_length] at this);clear hlt hn hk;go_wp2;go_loopw [4] (fun i wr=>∃(k:Nat) (δ:nJ),k<=n.aB.length/\i=.int .i64 k/\Hid (kE n.av.length (n.aB.take k)=true)/\wr=ah W1 δ) (fun i _=>n.aB.length-(intOf i).toNat)
    case atStart=>exact⟨0,δ,nE _,rfl,by simp[Hid,kE],rfl⟩
    case round=>
     obtain⟨k,δ,hk,rfl,hn,rfl⟩:=hrel;by_cases hlt:k<n.aB.length
     ·obtain⟨b,o,hA,hb,d0,d1⟩:=s2.Zm hlt;have ib:Lt b W1:=⟨nL hb i2.out⟩;rw[hA] at c5;have hm:=qh (aR n.aB hlt);have ht:=qh (bz n.aB hlt);have hki:(k:Int)<(n.aB.length:Int):=nQ;have hk0:¬(k:Int)<0:=nQ;clear hA;by_cases g1:fH 0 20 (nth n.aB k).wt=true;all_goals try rw[Bool.not_eq_true] at g1
      all_goals
       go_wp2_with fail;refine wpRl ?_;repeat (go_big_quiet_step ((go_at_call 121;exact Calls.lT (tF _ _ _ _))))
       refine QBU ?_;rintro _ ⟨δ1,rfl⟩;go_wp2
      all_goals try rw[Bool.not_eq_true] at g1
      all_goals first
       |(go_ret
         refine⟨cG ?_,ag⟩
         go_light
         have hv:=(@aC n).1
         have hm:=hm.out
         grind [cD,kE,mY,fH])
       |(go_roundw
         case rel=>
          refine⟨k+1,_,nQ,by go_num,?_,ai⟩
          unfold Hid
          have hn:=hn.out
          rw[ht.out]
          go_light
          grind [kE,mY,fH]
         case measure=>simp[intOf];omega)
     ·obtain rfl:k=n.aB.length:=by omega
      have G2:=qh (show kE n.av.length n.aB=true by have:=hn.out;rwa [List.take_length] at this);clear hlt hn hk;go_wp2;go_loopw [5] (fun i wr=>∃(k:Nat) (δ:nJ),k<=n.aU.length/\i=.int .i64 k/\Hid (nC (n.aU.take k)=true)/\wr=ah W1 δ) (fun i _=>n.aU.length-(intOf i).toNat)
      case atStart=>exact⟨0,δ,nE _,rfl,by simp[Hid,nC],rfl⟩
      case round=>
       obtain⟨k,δ,hk,rfl,hn,rfl⟩:=hrel;by_cases hlt:k<n.aU.length
       ·obtain⟨b,o,hA,hb,d0,d1,d2,d3,d4⟩:=s3.WA hlt;have ib:Lt b W1:=⟨nL hb i2.out⟩;rw[hA] at c6;have hm:=qh (aR n.aU hlt);have ht:=qh (bz n.aU hlt);have hki:(k:Int)<(n.aU.length:Int):=nQ;have hk0:¬(k:Int)<0:=nQ;clear hA;go_wp2_with (go_at_call 121;refine(tF _ _ _ _).mono ?_;rintro e w1 ⟨rfl,rfl⟩);all_goals first
         |(go_ret
           refine⟨cG ?_,ag⟩
           go_light
           have hv:=(@aC n).1
           have hm:=hm.out
           grind [cD,nC,qB,fH])
         |(go_roundw
           case rel=>
            refine⟨k+1,_,nQ,by go_num,?_,ai⟩
            unfold Hid
            have hn:=hn.out
            rw[ht.out]
            go_light
            grind [nC,qB,fH]
           case measure=>simp[intOf];omega)
       ·obtain rfl:k=n.aU.length:=by omega
        have G3:nC n.aU=true:=by have:=hn.out;rwa [List.take_length] at this
        have HV:=qh (show valid n=true from aC.2 ⟨F.out.1,F.out.2.1,F.out.2.2.1,F.out.2.2.2,HW.out,G1.out,G2.out,G3⟩);clear hlt hn hk G3;go_wp2;go_ret;exact⟨cG (by rw[HV.out];rfl),ag⟩
end
section
open An
structure pz where
 tA:Option Addr
 tc:Nat
abbrev wT(rt:pz)(t:jn):nK:=.agg #[.int .i64 t.aP,.int .i64 t.cur,.slice rt.tA t.av.length rt.tc]
abbrev sj(B:Nat)(w:nJ)(rt:pz)(t:jn):Prop:=Sl aI B w rt.tA rt.tc t.av
abbrev yD(r:eS)(n:Net)(rt:pz)(t:jn):nK:=.agg #[.int .i64 n.aP.lo,.int .i64 n.aP.hi,.int .i64 n.cur.lo,.int .i64 n.cur.hi,.slice r.gA n.av.length r.gc,.slice r.aA n.aB.length r.ac,.slice r.wA n.aU.length r.wc,.int .i64 t.aP,.int .i64 t.cur,.slice rt.tA t.av.length rt.tc]
theorem TA(s i:Nat)(hs:s<18446744073709551616):(bits BinOp.and IntKind.u64 ((s:Int) / 2 ^ i) 1==1)=s.testBit i:=by
 have h1:((s:Int) / 2 ^ i)=((s / 2 ^ i:Nat):Int):=by push_cast;rfl
 have h2:s / 2 ^ i<18446744073709551616:=nO (Nat.div_le_self _ _) hs;rw[h1,show(1:Int)=((1:Nat):Int) from rfl,u64_and_nat _ _ h2 nQ,Nat.and_one_is_mod,Nat.testBit_eq_decide_div_mod_eq,Bool.eq_iff_iff];simp only[beq_iff_eq,decide_eq_true_eq];omega
theorem M0(s i:Nat)(w:nJ)(hs:s<18446744073709551616)(hi:i<64):Calls nH 102 #[.int .u64 s,.int .i64 i] w fun e w'=>e=.returned (.bool (s.testBit i))/\w=w':=by have hf:=qh (TA s i hs);go_enter Tryz.func102,Tryz.ntmps102;go_wp2;go_ret;exact⟨bg hf.out,rfl⟩
theorem Yi(x:Jj)(wi cu:Int)(w:nJ)(hx:qB x=true)(hw:fH 0 20 wi=true)(hc:fH 0 20 cu=true):Calls nH 161 #[.agg #[.int .i64 x.wX,.int .i64 x.xH,.int .i64 x.lean,.int .i64 x.yA,.int .i64 x.sE],.int .i64 wi,.int .i64 cu] w fun e w'=>e=.returned (.int .i64 (Ai x wi cu))/\∃δ,w'=ah w δ:=by have hb:=qh (KL hx hw hc);clear hx hw hc;go_enter Tryz.func161,Tryz.ntmps161;go_wp2;go_ret;refine⟨cG ?_,ag⟩;have hb:=hb.out;rw[Mh (x:=x.wX*wi) nQ,Mh (x:=x.xH*cu) nQ,Mh nQ];rfl
theorem XB(n:Net)(t:jn)(wl ot:Int)(br bd bn:Nat)(wA:Option Addr)(wc:Nat)(dr:Nat)(n0:Int)(B:Nat)(w:nJ)[hB:Le B w][hr:Lt br w][hd:Lt bd w][hn:Lt bn w](ht:jZ n t)(h:Sl fA B w wA wc n.aU)(h0:w.cell? ⟨br,6,none⟩=some (.slice wA n.aU.length wc))(h1:w.cell? ⟨br,7,none⟩=some (.int .i64 t.aP))(h2:w.cell? ⟨br,8,none⟩=some (.int .i64 t.cur))(h3:w.cell? ⟨bd,0,none⟩=some (.int .u64 dr))(h4:w.cell? ⟨bn,0,none⟩=some (.int .i64 n0))(h5:w.frozen? ⟨bn,0,none⟩=false)(hs:dr<18446744073709551616)(hi:0<=wl->wl<n.aU.length->0<=ot/\ot<64)(hn0:0<=n0/\n0<=1000):Calls nH 160 #[.int .i64 wl,.int .i64 ot,.pointer (some ⟨br,0,none⟩),.pointer (some ⟨bd,0,none⟩),.pointer (some ⟨bn,0,none⟩)] w fun e w'=>e=.returned (.tuple #[])/\∃δ,w'=(ah w δ).setCell ⟨bn,0,none⟩ (.int .i64 (n0+if 0<=wl/\wl<n.aU.length then side n t (fun i=>dr.testBit i) wl.toNat ot.toNat else 0)):=by
 have hl:=h.len;by_cases hc:0<=wl/\wl<n.aU.length
 ·rw[if_pos hc];obtain⟨wn,rfl⟩:=Int.eq_ofNat_of_zero_le hc.1;obtain⟨on,rfl⟩:=Int.eq_ofNat_of_zero_le (hi hc.1 hc.2).1;have Sn:=(hi hc.1 hc.2).2;have hwn:wn<n.aU.length:=nQ;have hx:=oC ht.1 hwn;have hbd:=qh (GX ht hwn);have WK:=qh (vo ht (d:=fun i=>dr.testBit i) (o:=on) hwn);obtain⟨b,o,rfl,hb,k0,k1,k2,k3,k4⟩:=h.WA hwn;have ib:Lt b w:=⟨nL hb hB.out⟩;have hlt:(wn:Int)<(n.aU.length:Int):=nQ;have hnn:¬(wn:Int)<0:=nQ;have AE:=ht.2.1;have MY:=ht.2.2.1;have HE:Hid (Ai (nth n.aU wn) t.aP t.cur=ld n t wn):=qh rfl;clear hi hc ht h;by_cases ab2:dr.testBit on=true;all_goals try rw[Bool.not_eq_true] at ab2
  all_goals
   go_enter Tryz.func160,Tryz.ntmps160;go_wp2_with fail;refine wpRl ?_;repeat (go_big_quiet_step ((go_at_call 161;exact Calls.bV (Yi _ _ _ _ nZ nZ nZ))))
   refine QBU ?_;rintro _ ⟨δ,rfl⟩;go_wp2_with (go_at_call 102;refine(M0 _ _ _ nQ nQ).mono ?_;rintro e w1 ⟨rfl,rfl⟩);go_end0;refine⟨rfl,δ,?_⟩;have hbd:=hbd.out;have WK:=WK.out;congr 2;simp only[Int.toNat_natCast,side,ab2,HE.out,if_true] at *;first
    |(rw[Mh (x:=ld n t wn*2) nQ,Mh nQ];done)
    |(simp only[Bool.false_eq_true,if_false,Int.mul_one] at *;rw[Mh nQ])
 ·rw[if_neg hc,Int.add_zero];have hse:w.setCell ⟨bn,0,none⟩ (.int .i64 n0)=w:=fk h4;have HS:=qh hse;have Qo:wl<0\/¬wl<0/\(n.aU.length:Int)<=wl:=nQ;clear hse hc hi;rcases Qo with h'|⟨h'',h'⟩;all_goals go_enter Tryz.func160,Tryz.ntmps160;go_wp2;refine bodyPost_ret (results_none rfl _ _ _) rfl ?_;exact⟨rfl,w,by rw[bw,HS.out]⟩
end
section
open An
theorem TE(n:Net)(t:jn)(i:Nat)(d:Nat->Bool):(if (0:Int)<=(i:Int)-1/\(i:Int)-1<n.aU.length then side n t d ((i:Int)-1).toNat ((i:Int)-1).toNat else 0)+(if (0:Int)<=(i:Int)/\(i:Int)<n.aU.length then side n t d (i:Int).toNat ((i:Int)+1).toNat else 0)=(if 0<i/\i-1<n.aU.length then side n t d (i-1) (i-1) else 0)+(if i<n.aU.length then side n t d i (i+1) else 0):=by
 have e1:((i:Int)-1).toNat=i-1:=nQ;have e2:((i:Int)+1).toNat=i+1:=nQ;rw[e1,e2,Int.toNat_natCast];congr 1
 ·by_cases h:0<i/\i-1<n.aU.length
  ·rw[if_pos h,if_pos nQ]
  ·rw[if_neg h,if_neg nQ]
 ·by_cases h:i<n.aU.length
  ·rw[if_pos h,if_pos nQ]
  ·rw[if_neg h,if_neg nQ]
theorem Mo(n:Net)(t:jn)(wl ot:Int)(br bd bn:Nat)(wA:Option Addr)(wc:Nat)(dr:Nat)(n0:Int)(v0:nK)(B:Nat)(w0 δ0:nJ)[hB:Le B w0][hr:Lt br w0][hd:Lt bd w0][hn:Lt bn w0][hb:oE B bn](ht:jZ n t)(h:Sl fA B w0 wA wc n.aU)(hne:br≠bn)(adt:bd≠bn)(h0:w0.cell? ⟨br,6,none⟩=some (.slice wA n.aU.length wc))(h1:w0.cell? ⟨br,7,none⟩=some (.int .i64 t.aP))(h2:w0.cell? ⟨br,8,none⟩=some (.int .i64 t.cur))(h3:w0.cell? ⟨bd,0,none⟩=some (.int .u64 dr))(h4:w0.cell? ⟨bn,0,none⟩=some v0)(h5:w0.frozen? ⟨bn,0,none⟩=false)(hs:dr<18446744073709551616)(hi:0<=wl->wl<n.aU.length->0<=ot/\ot<64)(hn0:0<=n0/\n0<=1000):Calls nH 160 #[.int .i64 wl,.int .i64 ot,.pointer (some ⟨br,0,none⟩),.pointer (some ⟨bd,0,none⟩),.pointer (some ⟨bn,0,none⟩)] ((ah w0 δ0).setCell ⟨bn,0,none⟩ (.int .i64 n0)) fun e w'=>e=.returned (.tuple #[])/\∃δ,w'=(ah w0 δ).setCell ⟨bn,0,none⟩ (.int .i64 (n0+if 0<=wl/\wl<n.aU.length then side n t (fun i=>dr.testBit i) wl.toNat ot.toNat else 0)):=by
 have e0:∀b o,Lt b w0->b≠bn->((ah w0 δ0).setCell ⟨bn,0,none⟩ (.int .i64 n0)).cell? ⟨b,o,none⟩=w0.cell? ⟨b,o,none⟩:=fun b o _ hne=>by rw[World.cell?_setCell_other _ _ _ _ nV,wG]
 refine(XB n t wl ot br bd bn wA wc dr n0 B _ ht h.up (by rw[e0 _ _ hr hne];exact h0) (by rw[e0 _ _ hr hne];exact h1) (by rw[e0 _ _ hr hne];exact h2) (by rw[e0 _ _ hd adt];exact h3)
  (World.cell?_setCell_same _ _ _ (u:=v0) (by rw[wG];exact h4)) nW hs hi hn0).mono ?_
 rintro e w' ⟨rfl,δ,rfl⟩;obtain⟨δ',hδ⟩:=G7 (w0:=w0) δ0 δ (.int .i64 n0) (.int .i64 (n0+if 0<=wl/\wl<n.aU.length then side n t (fun i=>dr.testBit i) wl.toNat ot.toNat else 0)) h4;exact⟨rfl,δ',hδ⟩
theorem Wj(r:eS)(n:Net)(rt:pz)(t:jn)(i:Nat)(dr:Nat)(B:Nat)(w:nJ)[hB:Le B w](h:cr B w r n)(ht:jZ n t)(hi:i<n.aB.length)(hs:dr<18446744073709551616):Calls nH 105 #[yD r n rt t,.int .i64 i,.int .u64 dr] w fun e w'=>e=.returned (.int .i64 (bears n t i (fun k=>dr.testBit k)))/\∃δ,w'=ah w δ:=by
 have hv:=aC.1 ht.1;have hw:=hv.2.2.2.2.1;have h6:=hv.2.2.2.1;have hbd:=wJ ht (d:=fun k=>dr.testBit k) hi;have s1:∀k o,k<n.aU.length->0<=side n t (fun k=>dr.testBit k) k o/\side n t (fun k=>dr.testBit k) k o<=720:=fun k o hk=>vo ht hk;have hX:∃X:Int,X=(if (0:Int)<=(i:Int)-1/\(i:Int)-1<n.aU.length then side n t (fun k=>dr.testBit k) ((i:Int)-1).toNat ((i:Int)-1).toNat else 0)/\0<=X/\X<=720:=by
  refine⟨_,rfl,?_⟩;split
  ·exact s1 _ _ nQ
  ·omega
 obtain⟨X,hX,x0,x1⟩:=hX;have hE:bears n t i (fun k=>dr.testBit k)=X+(if (0:Int)<=(i:Int)/\(i:Int)<n.aU.length then side n t (fun k=>dr.testBit k) (i:Int).toNat ((i:Int)+1).toNat else 0):=by
  rw[hX,TE];unfold bears;congr 1;by_cases h0:0<i
  ·rw[if_pos h0,if_pos ⟨h0,nQ⟩]
  ·rw[if_neg h0,if_neg (fun h=>h0 h.1)]
 have HX:=qh hX;have HE:=qh hE;have HW:=qh hw;clear hX hE s1 hv hw;go_enter Tryz.func105,Tryz.ntmps105;go_wp2_with fail;refine Xq (b:=w.heap.size+1+1) (i:=0) (v:=.int .i64 0) nW ?_;refine(Mo n t _ _ w.heap.size _ _ r.wA r.wc dr 0 (.int .i64 0) B _ _ ht h.2.2.up nQ nQ nW nW nW nW nW nW hs (by have:=HW.out;omega) nQ).mono ?_;rintro e w1 ⟨rfl,δ,rfl⟩;rw[<-HX.out,Int.zero_add];go_wp2_with fail;refine(Mo n t _ _ w.heap.size _ _ r.wA r.wc dr X (.int .i64 0) B _ _ ht h.2.2.up nQ nQ nW nW nW nW nW nW hs (by have:=HW.out;omega) nQ).mono ?_;rintro e w1 ⟨rfl,δ1,rfl⟩;rw[<-HE.out];go_wp2_with fail;go_ret;exact⟨rfl,ag⟩
theorem DR(r:eS)(n:Net)(rt:pz)(t:jn)(i:Nat)(dr:Nat)(B:Nat)(w:nJ)[hB:Le B w](h:cr B w r n)(h':sj B w rt t)(ht:jZ n t)(hi:i<n.aB.length)(hs:dr<18446744073709551616):Calls nH 55 #[yD r n rt t,.int .i64 i,.int .u64 dr] w fun e w'=>e=.returned (.int .i64 (spare n t i (fun k=>dr.testBit k)))/\∃δ,w'=ah w δ:=by
 have hbd:=qh (wJ ht (d:=fun k=>dr.testBit k) hi);have hcd:=EY ht hi;have l1:=h'.len;obtain⟨b,o,hA,hb,k0,k1⟩:=h.2.1.Zm hi;have ib:Lt b w:=⟨nL hb hB.out⟩;obtain⟨b',o',qf,hb',k2⟩:=h'.int hcd.2.2.2.1;refine QFF ?_;intro ib' Jg hi0 hj0 hj1 HC;have HA:=qh hA;have HA':=qh qf;have H:=qh h;clear hcd hA qf;go_enter Tryz.func55,Tryz.ntmps55;rw[show yD r n rt t=Value.agg #[.int .i64 n.aP.lo,.int .i64 n.aP.hi,.int .i64 n.cur.lo,.int .i64 n.cur.hi,.slice r.gA n.av.length r.gc,.slice r.aA n.aB.length r.ac,.slice r.wA n.aU.length r.wc,.int .i64 t.aP,.int .i64 t.cur,.slice rt.tA t.av.length rt.tc] from rfl,HA.out,HA'.out];go_wp2_with fail;refine wpRl ?_;repeat (go_big_quiet_step ((rw[<-HA.out,<-HA'.out];go_at_call 105;exact Calls.bV (Wj r n rt t i dr B _ H.out.up ht hi hs))))
 refine QBU ?_;rintro _ ⟨δ,rfl⟩;go_wp2_with fail;go_ret;refine⟨cG ?_,ag⟩;have HC:=HC.out;have hbd:=hbd.out;have e:2*(nth n.aB i).wt*nth t.av (nth n.aB i).bt.toNat=can n t i:=rfl;rw[Mh (x:=2*(nth n.aB i).wt) nQ,e,Mh (x:=can n t i) nQ,Mh nQ];rfl
end
namespace An
def iG(n:Net)(t:jn)(m:Nat):Nat->Nat
 |0=>m
 |k+1=>if m.testBit k=false/\spare n t k (fun i=>m.testBit i)<0 then iG n t m k ||| 2 ^ k else iG n t m k
def jW(n:Net)(t:jn)(m:Nat):Nat:=iG n t m n.aB.length
def rV(n:Net)(t:jn)(d:Nat->Bool)(i:Nat):Bool:=d i||(decide (i<n.aB.length)&&decide (spare n t i d<0))
theorem JE(n:Net)(t:jn)(m k i:Nat):(iG n t m k).testBit i=(m.testBit i||(decide (i<k)&&decide (spare n t i (fun i=>m.testBit i)<0))):=by
 induction k with
 |zero=>simp[iG]
 |succ k ih=>
  unfold iG
  split
  ·rename_i h;rw[Nat.testBit_or,ih,Nat.testBit_two_pow];by_cases hik:k=i
   ·subst hik;simp[h.2]
   ·have e:decide (i<k+1)=decide (i<k):=by rw[decide_eq_decide];omega
    simp[hik,e]
  ·rename_i h;rw[ih];by_cases hik:i=k
   ·subst hik;by_cases hb:m.testBit i=true
    ·simp[hb]
    ·have:¬spare n t i (fun i=>m.testBit i)<0:=fun hs=>h ⟨by simpa using hb,hs⟩;simp[this]
   ·have e:decide (i<k+1)=decide (i<k):=by rw[decide_eq_decide];omega
    simp[e]
theorem Cn(n:Net)(t:jn)(m i:Nat):(jW n t m).testBit i=rV n t (fun i=>m.testBit i) i:=JE n t m _ i
theorem Nz(n:Net)(t:jn)(m k:Nat)(hm:m<64)(hk:k<=6):iG n t m k<64:=by
 induction k with
 |zero=>simpa [iG] using hm
 |succ k ih=>
  have h1:=ih nQ
  unfold iG
  split
  ·exact Nat.or_lt_two_pow (n:=6) h1 (Nat.pow_lt_pow_right nQ nQ)
  ·exact h1
end An
namespace An
def p5(m:Nat)(d:Nat->Bool):List Int:=((List.range m).filter d).map fun(i:Nat)=>(i:Int)
theorem Gk(m:Nat)(d:Nat->Bool):p5 (m+1) d=p5 m d++(if d m=true then[(m:Int)] else[]):=by unfold p5;rw[List.range_succ,List.filter_append,List.map_append];congr 1;by_cases h:d m=true<;>simp[h]
theorem KH{m:Nat}{d:Nat->Bool}{k:Nat}:(k:Int)∈p5 m d↔k<m/\d k=true:=by
 unfold p5;simp only[List.mem_map,List.mem_filter,List.mem_range];constructor
 ·rintro⟨j,h,hj⟩;have:j=k:=nQ;rwa [<-this]
 ·intro h;exact⟨k,h,rfl⟩
theorem J5(m:Nat)(d:Nat->Bool):(p5 m d).length<=m:=by unfold p5;rw[List.length_map];have:=List.length_filter_le d (List.range m);simpa using this
end An
section
open An
theorem Xr(s i:Nat)(w:nJ)(hs:s<18446744073709551616)(hi:i<6):Calls nH 103 #[.int .u64 s,.int .i64 i] w fun e w'=>e=.returned (.int .u64 ((s ||| 2 ^ i:Nat):Int))/\w=w':=by
 have key:∀(j:Nat) (p:Nat),p<18446744073709551616->p=2 ^ j->bits .or .u64 (s:Int) (p:Int)=((s ||| 2 ^ j:Nat):Int):=by intro j p hp he;rw[u64_or_nat s p hs hp,he]
 have K0:=qh (key 0 1 nQ rfl);have K1:=qh (key 1 2 nQ rfl);have K2:=qh (key 2 4 nQ rfl);have K3:=qh (key 3 8 nQ rfl);have K4:=qh (key 4 16 nQ rfl);have K5:=qh (key 5 32 nQ rfl);clear key;match i,hi with
 |0,_=>
  go_enter Tryz.func103,Tryz.ntmps103
  go_wp2
  go_ret
  exact⟨cG K0.out,rfl⟩
 |1,_=>
  go_enter Tryz.func103,Tryz.ntmps103
  go_wp2
  go_ret
  exact⟨cG K1.out,rfl⟩
 |2,_=>
  go_enter Tryz.func103,Tryz.ntmps103
  go_wp2
  go_ret
  exact⟨cG K2.out,rfl⟩
 |3,_=>
  go_enter Tryz.func103,Tryz.ntmps103
  go_wp2
  go_ret
  exact⟨cG K3.out,rfl⟩
 |4,_=>
  go_enter Tryz.func103,Tryz.ntmps103
  go_wp2
  go_ret
  exact⟨cG K4.out,rfl⟩
 |5,_=>
  go_enter Tryz.func103,Tryz.ntmps103
  go_wp2
  go_ret
  exact⟨cG K5.out,rfl⟩
theorem JD(r:eS)(n:Net)(rt:pz)(t:jn)(dr:Nat)(B:Nat)(w:nJ)[hB:Le B w](h:cr B w r n)(h':sj B w rt t)(ht:jZ n t)(hs:dr<64):Calls nH 51 #[yD r n rt t,.int .u64 dr] w fun e w'=>e=.returned (.int .u64 (jW n t dr))/\∃δ,w'=ah w δ:=by
 have hv:=aC.1 ht.1;have h6:=hv.2.2.2.1;clear hv;go_enter Tryz.func51,Tryz.ntmps51;go_wp2_with fail;go_loopw [5,12] (fun o i wr=>∃(k:Nat) (δ:nJ),k<=n.aB.length/\i=.int .i64 k/\o=.int .u64 (iG n t dr k)/\wr=ah (w.alloc (.cells #[.int .i64 n.aP.lo,.int .i64 n.aP.hi,.int .i64 n.cur.lo,.int .i64 n.cur.hi,.slice r.gA n.av.length r.gc,.slice r.aA n.aB.length r.ac,.slice r.wA n.aU.length r.wc,.int .i64 t.aP,.int .i64 t.cur,.slice rt.tA t.av.length rt.tc] 96)) δ) (fun _ i _=>n.aB.length-(intOf i).toNat)
 case atStart=>exact⟨0,_,nE _,rfl,rfl,(bw _).symm⟩
 case round=>
  obtain⟨k,δ,hk,rfl,rfl,rfl⟩:=hrel;by_cases hlt:k<n.aB.length
  ·have hlo:=Nz n t dr k hs nQ;by_cases hb:dr.testBit k=true;all_goals try rw[Bool.not_eq_true] at hb
   ·have HN:=qh (show iG n t dr (k+1)=iG n t dr k by simp[iG,hb]);go_wp2_with (go_at_call 102;refine(M0 _ _ _ nQ nQ).mono ?_;rintro e w1 ⟨rfl,rfl⟩);go_roundw
    case rel=>exact⟨k+1,_,nQ,by go_num,by rw[HN.out],rfl⟩
    case measure=>simp[intOf];omega
   ·by_cases hsp:spare n t k (fun i=>dr.testBit i)<0;all_goals have aaF:=hsp
    ·have HN:=qh (show iG n t dr (k+1)=iG n t dr k ||| 2 ^ k by simp[iG,hb,hsp]);clear aaF;go_wp2_with (first|(go_at_call 102;refine(M0 _ _ _ nQ nQ).mono ?_;rintro e w1 ⟨rfl,rfl⟩)|(go_at_call 55;refine(DR r n rt t k dr B _ h.up h'.up ht hlt nQ).mono ?_;rintro e w1 ⟨rfl,δ1,rfl⟩)|(go_at_call 103;refine(Xr _ _ _ nQ nQ).mono ?_;rintro e w1 ⟨rfl,rfl⟩));go_roundw
     case rel=>exact⟨k+1,_,nQ,by go_num,by rw[HN.out],Eu _ _ _⟩
     case measure=>simp[intOf];omega
    ·have HN:=qh (show iG n t dr (k+1)=iG n t dr k by simp[iG,hb,hsp]);clear aaF;go_wp2_with (first|(go_at_call 102;refine(M0 _ _ _ nQ nQ).mono ?_;rintro e w1 ⟨rfl,rfl⟩)|(go_at_call 55;refine(DR r n rt t k dr B _ h.up h'.up ht hlt nQ).mono ?_;rintro e w1 ⟨rfl,δ1,rfl⟩));go_roundw
     case rel=>exact⟨k+1,_,nQ,by go_num,by rw[HN.out],Eu _ _ _⟩
     case measure=>simp[intOf];omega
  ·obtain rfl:k=n.aB.length:=by omega
   go_wp2;go_ret;exact⟨rfl,ag⟩
end
section
open An
def bY(n:Net):jn:=⟨n.aP.hi,n.cur.hi,n.av.map (·.lo)⟩
def iC(n:Net):jn:=⟨n.aP.lo,n.cur.lo,n.av.map (·.hi)⟩
theorem DJ(r:eS)(n:Net)(B:Nat)(w:nJ)[hB:Le B w](h:cr B w r n)(h3:n.av.length<=3):Calls nH 50 #[eK r n] w fun e w'=>∃(rt:pz) (δ:nJ),e=.returned (yD r n rt (bY n))/\w'=ah w δ/\sj (ah w δ).heap.size (ah w δ) rt (bY n):=by
 go_enter Tryz.func50,Tryz.ntmps50;go_wp2_with fail;refine aM fun W1 aH=>?_;refine QAH ?_;intro cJ dF cW di dz eL jG lC mQ jI nk nj wC xL xK AV LA Lz Ly IA PS;refine QAQ ?_;intro Ti PR Th fw25 fw26 fw27 fw28 fw29 fw30 fw31 fw32 fw33 fw34;refine QET ?_;intro Tg V8;refine QCG ?_;intro V7 fw38 s1 hlen;go_loopw [16] (fun i wr=>∃(k:Nat) (A:Option Addr) (c:Nat),k<=n.av.length/\i=.int .i64 k/\wr.ownsRow W1.heap.size 3 1 (.slice A k c) k (((n.av.map (·.lo)).take k).flatMap aI)/\∃δ,wr=(ah W1 δ).setCell ⟨w.heap.size+1+1,2,none⟩ (.slice A k c)) (fun i _=>n.av.length-(intOf i).toNat)
 case atStart=>refine⟨0,none,0,nE _,rfl,by simpa using World.ownsRow_nil _ _ _ _,W1,?_⟩;rw[bw,fk nZ]
 case round=>
  obtain⟨k,A,c,hk,rfl,hown,δ,rfl⟩:=hrel;by_cases hlt:k<n.av.length
  ·obtain⟨b,o,hA,hb,d0,d1⟩:=s1.sp hlt;refine QEM ?_;intro ib in1 HA HO;clear hA hown;rw[HA.out];go_wp2_with (at_builtin;(refine dL W1 wO (.tmp 21) (.tmp 24) rfl rfl (HO.out.alloc _) rfl rfl nW rfl (by simp[Value.oneCell']) nQ nQ ?_);intro A' c' δ' hown');go_roundw
   case rel=>refine⟨k+1,A',c',nQ,by go_num,?_,zy (w0:=W1) δ (.slice A k c) (.slice A' (k+1) c') nZ uV⟩;have:=ownsRow_setCell_below hown' (a:=⟨w.heap.size+1+1,2,none⟩) jG.out (.slice A' (k+1) c');rw[rD aI (n.av.map (·.lo)) (by simpa using hlt),iK _ _ hlt];exact this
   case measure=>simp[intOf];omega
  ·obtain rfl:k=n.av.length:=by omega
   have HO:=qh hown;clear hown;have in2:qP (w.heap.size+1) (w.heap.size+1+1):=⟨nQ⟩;go_wp2_with fail;refine bodyPost_ret (v:=yD r n ⟨A,c⟩ (bY n)) ?_ rfl ?_
   ·simp only[results,Tryz.results50];go_simp;simp[bY]
   ·refine⟨⟨A,c⟩,_,rfl,ai,?_⟩;refine QDF ?_;have H1:=HO.out;rw[List.take_of_length_le nV] at H1;refine Sl.bU (base:=W1.heap.size) (e:=3) (size:=1) ?_;rw[show(bY n).av.length=n.av.length by simp[bY]];show(_:nJ).ownsRow W1.heap.size 3 1 _ _ ((n.av.map (·.lo)).flatMap aI);iterate 10 (refine ownsRow_setCell_below (a:=⟨_,_,_⟩) ?_ eL.out _)
    exact H1
theorem Zk(r:eS)(n:Net)(B:Nat)(w:nJ)[hB:Le B w](h:cr B w r n)(h3:n.av.length<=3):Calls nH 52 #[eK r n] w fun e w'=>∃(rt:pz) (δ:nJ),e=.returned (yD r n rt (iC n))/\w'=ah w δ/\sj (ah w δ).heap.size (ah w δ) rt (iC n):=by
 go_enter Tryz.func52,Tryz.ntmps52;go_wp2_with fail;refine aM fun W1 aH=>?_;refine QAH ?_;intro cJ dF cW di dz eL jG lC mQ jI nk nj wC xL xK AV LA Lz Ly IA PS;refine QAQ ?_;intro Ti PR Th fw25 fw26 fw27 fw28 fw29 fw30 fw31 fw32 fw33 fw34;have Tg:W1.cell? ⟨w.heap.size+1+1,0,none⟩=some (.int .i64 n.aP.lo):=by rw[aH.out];go_simp
 have V8:W1.cell? ⟨w.heap.size+1+1,1,none⟩=some (.int .i64 n.cur.lo):=by rw[aH.out];go_simp
 refine QCG ?_;intro V7 fw38 s1 hlen;go_loopw [16] (fun i wr=>∃(k:Nat) (A:Option Addr) (c:Nat),k<=n.av.length/\i=.int .i64 k/\wr.ownsRow W1.heap.size 3 1 (.slice A k c) k (((n.av.map (·.hi)).take k).flatMap aI)/\∃δ,wr=(ah W1 δ).setCell ⟨w.heap.size+1+1,2,none⟩ (.slice A k c)) (fun i _=>n.av.length-(intOf i).toNat)
 case atStart=>refine⟨0,none,0,nE _,rfl,by simpa using World.ownsRow_nil _ _ _ _,W1,?_⟩;rw[bw,fk nZ]
 case round=>
  obtain⟨k,A,c,hk,rfl,hown,δ,rfl⟩:=hrel;by_cases hlt:k<n.av.length
  ·obtain⟨b,o,hA,hb,d0,d1⟩:=s1.sp hlt;refine QEM ?_;intro ib in1 HA HO;clear hA hown;rw[HA.out];go_wp2_with (at_builtin;(refine dL W1 wO (.tmp 21) (.tmp 24) rfl rfl (HO.out.alloc _) rfl rfl nW rfl (by simp[Value.oneCell']) nQ nQ ?_);intro A' c' δ' hown');go_roundw
   case rel=>refine⟨k+1,A',c',nQ,by go_num,?_,zy (w0:=W1) δ (.slice A k c) (.slice A' (k+1) c') nZ uV⟩;have:=ownsRow_setCell_below hown' (a:=⟨w.heap.size+1+1,2,none⟩) jG.out (.slice A' (k+1) c');rw[rD aI (n.av.map (·.hi)) (by simpa using hlt),iK _ _ hlt];exact this
   case measure=>simp[intOf];omega
  ·obtain rfl:k=n.av.length:=by omega
   have HO:=qh hown;clear hown;have in2:qP (w.heap.size+1) (w.heap.size+1+1):=⟨nQ⟩;go_wp2_with fail;refine bodyPost_ret (v:=yD r n ⟨A,c⟩ (iC n)) ?_ rfl ?_
   ·simp only[results,Tryz.results52];go_simp;simp[iC]
   ·refine⟨⟨A,c⟩,_,rfl,ai,?_⟩;refine QDF ?_;have H1:=HO.out;rw[List.take_of_length_le nV] at H1;refine Sl.bU (base:=W1.heap.size) (e:=3) (size:=1) ?_;rw[show(iC n).av.length=n.av.length by simp[iC]];show(_:nJ).ownsRow W1.heap.size 3 1 _ _ ((n.av.map (·.hi)).flatMap aI);iterate 10 (refine ownsRow_setCell_below (a:=⟨_,_,_⟩) ?_ eL.out _)
    exact H1
end
section
open An
end
section
open An
theorem Zl(a:Nat):((a:Int)==0)=decide (a=0):=by rw[Bool.eq_iff_iff];simp
theorem cr.wide{B:Nat}{w W:nJ}{r:eS}{n:Net}(h:cr B w r n)[aD B w W][hB:Le B W]:cr W.heap.size W r n:=h.up.more hB.out
theorem sM{n:Net}(hv:valid n=true):jZ n (bY n):=by obtain⟨h1,h2,_,_,_,h6,_,_⟩:=aC.1 hv;simp only[jP,decide_eq_true_eq] at h1 h2;refine⟨hv,cX.2 (show 0<=n.aP.hi/\n.aP.hi<=20 by omega),cX.2 (show 0<=n.cur.hi/\n.cur.hi<=20 by omega),by simp[bY],?_⟩;intro g hg;simp only[bY,List.mem_map] at hg;obtain⟨s,hs,rfl⟩:=hg;have:=(List.all_eq_true.1 h6) s hs;simp only[jP,decide_eq_true_eq] at this;exact cX.2 nQ
theorem Kx{n:Net}(hv:valid n=true):jZ n (iC n):=by obtain⟨h1,h2,_,_,_,h6,_,_⟩:=aC.1 hv;simp only[jP,decide_eq_true_eq] at h1 h2;refine⟨hv,cX.2 (show 0<=n.aP.lo/\n.aP.lo<=20 by omega),cX.2 (show 0<=n.cur.lo/\n.cur.lo<=20 by omega),by simp[iC],?_⟩;intro g hg;simp only[iC,List.mem_map] at hg;obtain⟨s,hs,rfl⟩:=hg;have:=(List.all_eq_true.1 h6) s hs;simp only[jP,decide_eq_true_eq] at this;exact cX.2 nQ
def qa(a b:Bool):Int:=if a then 1 else if b then 3 else 2
theorem Sd(a b:Bool)(w:nJ):Calls nH 49 #[.bool a,.bool b] w fun e w'=>e=.returned (.int .i64 (qa a b))/\w=w':=by cases a<;>cases b;all_goals go_enter Tryz.func49,Tryz.ntmps49;go_wp2;go_ret;exact⟨rfl,rfl⟩
theorem wF(r:eS)(n:Net)(B:Nat)(w:nJ)(h:cr B w r n)[hB:Le B w](hv:valid n=true):Calls nH 48 #[eK r n] w fun e w'=>e=.returned (.int .i64 0)/\∃δ,w'=ah w δ:=
 (EW r n B w h).mono fun e w' hh=>by rw[hv] at hh;exact hh
theorem AZ(r:eS)(n:Net)(B:Nat)(w:nJ)(h:cr B w r n)[hB:Le B w](hv:valid n=false):Calls nH 48 #[eK r n] w fun e w'=>e=.returned (.int .i64 20)/\∃δ,w'=ah w δ:=
 (EW r n B w h).mono fun e w' hh=>by rw[hv] at hh;exact hh
def Ow(ok:Bool)(x:Int):Int:=if ok then x else 0
theorem XD(r:eS)(n:Net)(B:Nat)(w:nJ)[hB:Le B w](h:cr B w r n):Calls nH 23 #[eK r n] w fun e w'=>e=.returned (.tuple #[.int .i64 (Ow (valid n) (qa (decide (jW n (bY n) 0=0)) (decide (jW n (iC n) 0=0)))),.int .i64 (cD (valid n) 20)])/\∃δ,w'=ah w δ:=by
 by_cases hv:valid n=true
 ·have h3:=(aC.1 hv).2.2.1;have hw:=sM hv;have hb:=Kx hv;have HV:=qh hv;rw[hv];clear hv;go_enter Tryz.func23,Tryz.ntmps23;go_wp2_with (go_at_call 48;refine(wF r n B _ h.up HV.out).mono ?_;rintro e w1 ⟨rfl,δ,rfl⟩);go_region_held3 (fun W=>W.cell? ⟨w.heap.size,0,none⟩=some (.int .i64 n.aP.lo)/\W.cell? ⟨w.heap.size,1,none⟩=some (.int .i64 n.aP.hi)/\W.cell? ⟨w.heap.size,2,none⟩=some (.int .i64 n.cur.lo)/\W.cell? ⟨w.heap.size,3,none⟩=some (.int .i64 n.cur.hi) /\
    W.cell? ⟨w.heap.size,4,none⟩=some (.slice r.gA n.av.length r.gc)/\W.cell? ⟨w.heap.size,5,none⟩=some (.slice r.aA n.aB.length r.ac)/\W.cell? ⟨w.heap.size,6,none⟩=some (.slice r.wA n.aU.length r.wc))
   (refine⟨?_,?_,?_,?_,?_,?_,?_⟩<;>go_simp)
   (first|(go_at_call 50;refine(DJ r n B _ h.up h3).mono ?_;rintro e w1 ⟨rt,δ,rfl,rfl,ht⟩)|(go_at_call 52;refine(Zk r n B _ h.up h3).mono ?_;rintro e w1 ⟨rt,δ,rfl,rfl,ht⟩)|(go_at_call 49;refine(Sd _ _ _).mono ?_;rintro e w1 ⟨rfl,rfl⟩)|(go_at_call 51;refine(JD r n _ _ 0 _ _ h.wide ht.wide nZ nQ).mono ?_;rintro e w1 ⟨rfl,δ,rfl⟩))
  go_wp2_with fail;go_ret2;exact⟨by simp only[Ow,cD,Zl,if_true];rfl,ag⟩
 ·rw[Bool.not_eq_true] at hv;rw[hv];have HV:=qh hv;clear hv;go_enter Tryz.func23,Tryz.ntmps23;go_wp2_with (go_at_call 48;refine(AZ r n B _ h.up HV.out).mono ?_;rintro e w1 ⟨rfl,δ,rfl⟩);go_ret2;exact⟨rfl,ag⟩
open Classical in
theorem Q0{a b a' b':nK}(h1:a=a')(h2:b=b'):Ending.returned (.tuple #[a,b])=Ending.returned (.tuple #[a',b']):=by rw[h1,h2]
end
section
open An
theorem QG(r:eS)(n:Net)(rt:pz)(t:jn)(i:Nat)(B:Nat)(w:nJ)[hB:Le B w](h:cr B w r n)(h':sj B w rt t)(ht:jZ n t)(hi:i<n.aB.length):Calls nH 55 #[yD r n rt t,.int .i64 i,.int .u64 0] w fun e w'=>e=.returned (.int .i64 (spare n t i (fun _=>false)))/\∃δ,w'=ah w δ:=
 (DR r n rt t i 0 B w h h' ht hi nQ).mono fun e w' ⟨he,hδ⟩=>⟨by
  have e:(fun k=>Nat.testBit 0 k)=fun _=>false:=funext fun i=>Nat.zero_testBit i
  rw[e] at he;exact he,hδ⟩
def sS(s:Sp)(k:Int):Bool:=fH s.lo s.hi k
def rC(gs:List Sp)(ts:List Int)(k:Nat):Bool:=(List.range k).all fun i=>sS (nth gs i) (nth ts i)
def uB(n:Net)(t:jn):Bool:=sS n.aP t.aP&&sS n.cur t.cur&&decide (t.av.length=n.av.length)&&rC n.av t.av t.av.length
theorem rB{gs:List Sp}{ts:List Int}{k m:Nat}(h:rC gs ts m=true)(hk:k<m):sS (nth gs k) (nth ts k)=true:=by unfold rC at h;exact(List.all_eq_true.1 h) k (by simpa using hk)
theorem GF{n:Net}{t:jn}(hv:valid n=true)(ht:uB n t=true):jZ n t:=by obtain⟨h1,h2,_,_,_,h6,_,_⟩:=aC.1 hv;simp only[uB,Bool.and_eq_true,decide_eq_true_eq] at ht;obtain⟨⟨⟨a,b⟩,c⟩,d⟩:=ht;simp only[jP,decide_eq_true_eq] at h1 h2;simp only[sS,cX] at a b;refine⟨hv,cX.2 nQ,cX.2 nQ,c,?_⟩;intro g hg;obtain⟨i,hi,rfl⟩:=List.getElem_of_mem hg;have e:=rB d hi;rw[bN _ hi] at e;have hi':i<n.av.length:=nQ;have:=(List.all_eq_true.1 h6) _ (aR _ hi');simp only[jP,decide_eq_true_eq] at this;simp only[sS,cX] at e;exact cX.2 nQ
end
section
open An
def wg(n:Net)(x:Int):Net:={ n with aP:=⟨x,x⟩ }
def ry(n:Net)(x:Nat):Bool:=decide (jW (wg n x) (bY (wg n x)) 0≠0)
theorem wS{n:Net}(hv:valid n=true){x:Nat}(hx:x<=20):valid (wg n x)=true:=by rw[aC] at *;refine⟨?_,hv.2⟩;show jP 20 ⟨x,x⟩=true;simp only[jP,decide_eq_true_eq];omega
theorem GW(r:eS)(n:Net)(B:Nat)(w:nJ)[hB:Le B w](h:cr B w r n)(hv:valid n=true):Calls nH 104 #[eK r n,.func (.func 50) #[] #[]] w fun e w'=>e=.returned (.int .i64 (bQ (ry n) 21 0))/\∃δ,w'=ah w δ:=by
 have HV:=qh hv;clear hv;go_enter Tryz.func104,Tryz.ntmps104;go_wp2_with fail;go_loopw [6] (fun i wr=>∃(k:Nat) (lo hi:Int),k<=21/\i=.int .i64 k/\Hid (∀j,j<k->ry n j=false)/\ay wr w.heap.size 28 #[.int .i64 lo,.int .i64 hi,.int .i64 n.cur.lo,.int .i64 n.cur.hi,.slice r.gA n.av.length r.gc,.slice r.aA n.aB.length r.ac,.slice r.wA n.aU.length r.wc]/\aD w.heap.size w wr/\aD B w wr/\Le w.heap.size wr/\Le B wr) (fun i _=>21-(intOf i).toNat)
 case atStart=>exact⟨0,n.aP.lo,n.aP.hi,nQ,rfl,fun j hj=>by omega,ay.new rfl,inferInstance,inferInstance,inferInstance,inferInstance⟩
 case round=>
  obtain⟨k,lo,hi,hk,rfl,hn,yK,i1,i2,i3,i4⟩:=hrel;have i5:=yK.lt;have c0:=yK.cell (i:=0) rfl;have c1:=yK.cell (i:=1) rfl;have c2:=yK.cell (i:=2) rfl;have c3:=yK.cell (i:=3) rfl;have c4:=yK.cell (i:=4) rfl;have c5:=yK.cell (i:=5) rfl;have c6:=yK.cell (i:=6) rfl;have f0:=yK.free 0;have f1:=yK.free 1;have HB:=qh yK;clear yK;by_cases hlt:k<21
  ·have Yw:=wS HV.out (x:=k) nQ;have h3:(wg n k).av.length<=3:=(aC.1 Yw).2.2.1;have hw:=sM Yw;have hin:cr B w r (wg n k):=h;by_cases hh:jW (wg n k) (bY (wg n k)) 0=0;all_goals have EH:=hh
   ·have HH:=qh hh;have he:(jW (wg n k) (bY (wg n k)) 0:Int)=0:=nQ;clear hh EH Yw;go_wp2_with (first|(go_at_call 50;refine(DJ r (wg n k) B _ hin.up h3).mono ?_;rintro e w1 ⟨rt,δ,rfl,rfl,ht⟩)|(go_at_call 51;refine(JD r (wg n k) _ _ 0 _ _ hin.wide ht.wide hw nQ).mono ?_;rintro e w1 ⟨rfl,δ,rfl⟩));go_roundw
    case rel=>
     refine⟨k+1,k,k,nQ,by go_num,?_,((((HB.out.set 0 _).set 1 _).ah _).ah _),inferInstance,inferInstance,inferInstance,inferInstance⟩;intro j hj;by_cases VJ:j=k
     ·subst VJ;simp[ry,HH.out]
     ·exact hn.out j nQ
    case measure=>simp[intOf];omega
   ·have hne:((jW (wg n k) (bY (wg n k)) 0:Int) != 0)=true:=by simp;omega
    have HF:=qh (tg (ry n) hlt hn.out (by simp[ry,hh]));clear hh EH Yw;go_wp2_with (first|(go_at_call 50;refine(DJ r (wg n k) B _ hin.up h3).mono ?_;rintro e w1 ⟨rt,δ,rfl,rfl,ht⟩)|(go_at_call 51;refine(JD r (wg n k) _ _ 0 _ _ hin.wide ht.wide hw nQ).mono ?_;rintro e w1 ⟨rfl,δ,rfl⟩));go_ret;exact⟨cG (by rw[HF.out]),ag⟩
  ·obtain rfl:k=21:=by omega
   have HF:=qh (qg (ry n) hn.out);go_wp2_with fail;go_ret;exact⟨cG (by rw[HF.out];rfl),ag⟩
def ug(v:Bool)(k:Nat):Int:=if v then (if k=21 then 0 else k) else 0
def uh(v:Bool)(k:Nat):Int:=if v then (if k=21 then 3 else 0) else 20
theorem Un(r:eS)(n:Net)(B:Nat)(w:nJ)[hB:Le B w](h:cr B w r n):Calls nH 53 #[eK r n,.func (.func 50) #[] #[]] w fun e w'=>e=.returned (.tuple #[.int .i64 (ug (valid n) (bQ (ry n) 21 0)),.int .i64 (uh (valid n) (bQ (ry n) 21 0))])/\∃δ,w'=ah w δ:=by
 by_cases hv:valid n=true;all_goals try rw[Bool.not_eq_true] at hv
 all_goals have HV:=qh hv;rw[hv];clear hv
 ·have hX:∃X,X=bQ (ry n) 21 0:=⟨_,rfl⟩;obtain⟨X,hX⟩:=hX;rw[<-hX];have HX:=qh hX;clear hX;by_cases hx:X=21
  ·subst hx;go_enter Tryz.func53,Tryz.ntmps53;go_wp2_with (first|(go_at_call 48;refine(wF r n B _ h.up HV.out).mono ?_;rintro e w1 ⟨rfl,δ,rfl⟩)|(go_at_call 104;refine(GW r n B _ h.up HV.out).mono ?_;rw[<-HX.out];rintro e w1 ⟨rfl,δ,rfl⟩));go_ret2;exact⟨rfl,ag⟩
  ·have hne:((X:Int)==21)=false:=by simp;omega
   have HN:=qh hx;clear hx;go_enter Tryz.func53,Tryz.ntmps53;go_wp2_with (first|(go_at_call 48;refine(wF r n B _ h.up HV.out).mono ?_;rintro e w1 ⟨rfl,δ,rfl⟩)|(go_at_call 104;refine(GW r n B _ h.up HV.out).mono ?_;rw[<-HX.out];rintro e w1 ⟨rfl,δ,rfl⟩));go_ret2;exact⟨Q0 (int_eq (by simp[ug,HN.out])) (int_eq (by simp[uh,HN.out])),ag⟩
 ·go_enter Tryz.func53,Tryz.ntmps53;go_wp2_with (go_at_call 48;refine(AZ r n B _ h.up HV.out).mono ?_;rintro e w1 ⟨rfl,δ,rfl⟩);go_ret2;exact⟨rfl,ag⟩
theorem Xt(r:eS)(n:Net)(B:Nat)(w:nJ)[hB:Le B w](h:cr B w r n):Calls nH 24 #[eK r n] w fun e w'=>e=.returned (.tuple #[.int .i64 (ug (valid n) (bQ (ry n) 21 0)),.int .i64 (uh (valid n) (bQ (ry n) 21 0))])/\∃δ,w'=ah w δ:=by go_enter Tryz.func24,Tryz.ntmps24;go_wp2_with (go_at_call 53;refine(Un r n B _ h.up).mono ?_;rintro e w1 ⟨rfl,δ,rfl⟩);go_ret2;exact⟨rfl,ag⟩
end
end Go.Proofs.YtpnnapeoanafdaaGreatDoor
