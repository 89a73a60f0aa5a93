/- A part of the proof that a law of layer 12 holds, cut small by a program (names and blanks): Ha1, Ha2. -/
import Derived.Test.YtdmedlkonaclnaaGreatDoorZ1
set_option maxRecDepth 100000
set_option maxHeartbeats 40000000
set_option linter.unusedVariables false
set_option linter.unusedSimpArgs false
namespace Go.Proofs.YtdmedlkonaclnaaGreatDoor
open Go.RowKit
open Nat renaming lt_of_lt_of_le → nL, zero_le → nE, lt_of_le_of_lt → nO
open Go.Proofs.Tryz renaming prog → nH
open Go renaming World → nJ, Value → nK
namespace An
structure Sp where
 lo:Int
 hi:Int
structure Bj where
 wt:Int
 bt:Int
structure Im where
 wL:Int
 xx:Int
 lean:Int
 ya:Int
 sx:Int
structure Net where
 aP:Sp
 cur:Sp
 ay:List Sp
 aB:List Bj
 aU:List Im
structure ji where
 aP:Int
 cur:Int
 ay:List Int
instance:Inhabited Sp:=⟨⟨0,0⟩⟩
instance:Inhabited Bj:=⟨⟨0,0⟩⟩
instance:Inhabited Im:=⟨⟨0,0,0,0,0⟩⟩
def jM(m:Int)(s:Sp):Bool:=decide (0<=s.lo/\s.lo<=s.hi/\s.hi<=m)
def mN(bots:Nat)(a:Bj):Bool:=decide (0<=a.wt/\a.wt<=20/\0<=a.bt/\a.bt<bots)
def qx(w:Im):Bool:=decide (0<=w.wL/\w.wL<=9/\0<=w.xx/\w.xx<=9/\0<=w.lean/\w.lean<=9/\0<=w.ya/\w.ya<=99/\0<=w.sx/\w.sx<=99)
def nk(xs:List Sp):Bool:=xs.all (jM 9)
def ko(g:Nat)(xs:List Bj):Bool:=xs.all (mN g)
def nh(xs:List Im):Bool:=xs.all qx
def valid(n:Net):Bool:=
 jM 20 n.aP&&jM 20 n.cur&&decide (n.ay.length<=3)&&decide (n.aB.length<=6)&&decide (n.aU.length=n.aB.length-1)&&nk n.ay&&ko n.ay.length n.aB&&nh n.aU
theorem aD{n:Net}:valid n=true↔jM 20 n.aP=true/\jM 20 n.cur=true/\n.ay.length<=3/\n.aB.length<=6/\n.aU.length=n.aB.length-1/\nk n.ay=true/\ko n.ay.length n.aB=true/\nh n.aU=true:=by simp[valid,and_assoc]
def zR(x:Im)(wi cu:Int):Int:=x.wL*wi+x.xx*cu
def ld(n:Net)(t:ji)(k:Nat):Int:=zR (nth n.aU k) t.aP t.cur
def side(n:Net)(t:ji)(d:Nat->Bool)(k o:Nat):Int:=ld n t k*(if d o then 2 else 1)
def bears(n:Net)(t:ji)(i:Nat)(d:Nat->Bool):Int:=
 (if 0<i then side n t d (i-1) (i-1) else 0)+(if i<n.aU.length then side n t d i (i+1) else 0)
def can(n:Net)(t:ji)(i:Nat):Int:=2*(nth n.aB i).wt*nth t.ay (nth n.aB i).bt.toNat
def spare(n:Net)(t:ji)(i:Nat)(d:Nat->Bool):Int:=can n t i-bears n t i d
def jV(n:Net)(t:ji):Prop:=valid n=true/\fH 0 20 t.aP=true/\fH 0 20 t.cur=true/\t.ay.length=n.ay.length/\∀g∈t.ay,fH 0 9 g=true
theorem wZ{a b A B:Int}(h0:0<=a)(h1:a<=A)(h2:0<=b)(h3:b<=B):0<=a*b/\a*b<=A*B:=
 ⟨Int.mul_nonneg h0 h2,Int.mul_le_mul h1 h3 h2 (Int.le_trans h0 h1)⟩
theorem JL{x:Im}{wi cu:Int}(hx:qx x=true)(hw:fH 0 20 wi=true)(hc:fH 0 20 cu=true):0<=x.wL*wi/\x.wL*wi<=180/\0<=x.xx*cu/\x.xx*cu<=180/\0<=zR x wi cu/\zR x wi cu<=360:=by simp only[qx,fH,decide_eq_true_eq] at *;have h1:=wZ hx.1 hx.2.1 hw.1 hw.2;have h2:=wZ hx.2.2.1 hx.2.2.2.1 hc.1 hc.2;unfold zR;omega
theorem oe{n:Net}(hv:valid n=true){k:Nat}(hk:k<n.aU.length):qx (nth n.aU k)=true:=by have:=(aD.1 hv).2.2.2.2.2.2.2;unfold nh at this;exact(List.all_eq_true.1 this) _ (aV _ hk)
theorem mz{n:Net}(hv:valid n=true){k:Nat}(hk:k<n.aB.length):mN n.ay.length (nth n.aB k)=true:=by have:=(aD.1 hv).2.2.2.2.2.2.1;unfold ko at this;exact(List.all_eq_true.1 this) _ (aV _ hk)
theorem FZ{n:Net}{t:ji}(h:jV n t){k:Nat}(hk:k<n.aU.length):0<=ld n t k/\ld n t k<=360:=by have:=JL (oe h.1 hk) h.2.1 h.2.2.1;unfold ld;omega
theorem ve{n:Net}{t:ji}(h:jV n t){d:Nat->Bool}{k o:Nat}(hk:k<n.aU.length):0<=side n t d k o/\side n t d k o<=720:=by have:=FZ h hk;unfold side;split<;>omega
theorem wg{n:Net}{t:ji}(h:jV n t){d:Nat->Bool}{i:Nat}(hi:i<n.aB.length):0<=bears n t i d/\bears n t i d<=1440:=by
 have hw:=(aD.1 h.1).2.2.2.2.1;unfold bears;by_cases h1:0<i
 ·have a:=ve h (d:=d) (k:=i-1) (o:=i-1) nQ;by_cases h2:i<n.aU.length
  ·have b:=ve h (d:=d) (k:=i) (o:=i+1) h2;simp only[h1,h2,if_true];omega
  ·simp only[h1,h2,if_true,if_false];omega
 ·by_cases h2:i<n.aU.length
  ·have b:=ve h (d:=d) (k:=i) (o:=i+1) h2;simp only[h1,h2,if_true,if_false];omega
  ·simp only[h1,h2,if_false];omega
theorem Ed{n:Net}{t:ji}(h:jV n t){i:Nat}(hi:i<n.aB.length):0<=(nth n.aB i).wt/\(nth n.aB i).wt<=20/\0<=(nth n.aB i).bt/\(nth n.aB i).bt.toNat<t.ay.length/\0<=nth t.ay (nth n.aB i).bt.toNat/\nth t.ay (nth n.aB i).bt.toNat<=9/\0<=can n t i/\can n t i<=360:=by
 have ha:=mz h.1 hi;simp only[mN,decide_eq_true_eq] at ha;have hb:(nth n.aB i).bt.toNat<t.ay.length:=by rw[h.2.2.2.1];omega
 have hg:=h.2.2.2.2 _ (aV _ hb);simp only[fH,decide_eq_true_eq] at hg;have:=wZ (a:=2*(nth n.aB i).wt) (A:=40) nQ nQ hg.1 hg.2;unfold can;omega
end An
section
open An
def gI(x:Sp):List nK:=[.int .i64 x.lo,.int .i64 x.hi]
def cM(x:Bj):List nK:=[.int .i64 x.wt,.int .i64 x.bt]
def fC(x:Im):List nK:=[.int .i64 x.wL,.int .i64 x.xx,.int .i64 x.lean,.int .i64 x.ya,.int .i64 x.sx]
section
variable{B:Nat}{w:nJ}{A:Option Addr}{c:Nat}
theorem Sl.sp{xs:List Sp}(h:Sl gI B w A c xs){k:Nat}(hk:k<xs.length):∃b o,A=some ⟨b,o,none⟩/\b<B/\w.cell? ⟨b,o+k*2,none⟩=some (.int .i64 (nth xs k).lo)/\w.cell? ⟨b,o+k*2+1,none⟩=some (.int .i64 (nth xs k).hi):=by obtain⟨b,o,hA,hb,hc⟩:=h.at_ (size:=2) (fun _=>rfl) hk nQ;rw[bR _ hk];exact⟨b,o,hA,hb,hc 0 _ rfl,hc 1 _ rfl⟩
theorem Sl.Yh{xs:List Bj}(h:Sl cM B w A c xs){k:Nat}(hk:k<xs.length):∃b o,A=some ⟨b,o,none⟩/\b<B/\w.cell? ⟨b,o+k*2,none⟩=some (.int .i64 (nth xs k).wt)/\w.cell? ⟨b,o+k*2+1,none⟩=some (.int .i64 (nth xs k).bt):=by obtain⟨b,o,hA,hb,hc⟩:=h.at_ (size:=2) (fun _=>rfl) hk nQ;rw[bR _ hk];exact⟨b,o,hA,hb,hc 0 _ rfl,hc 1 _ rfl⟩
theorem Sl.Vp{xs:List Im}(h:Sl fC B w A c xs){k:Nat}(hk:k<xs.length):∃b o,A=some ⟨b,o,none⟩/\b<B/\w.cell? ⟨b,o+k*5,none⟩=some (.int .i64 (nth xs k).wL)/\w.cell? ⟨b,o+k*5+1,none⟩=some (.int .i64 (nth xs k).xx)/\w.cell? ⟨b,o+k*5+2,none⟩=some (.int .i64 (nth xs k).lean)/\w.cell? ⟨b,o+k*5+3,none⟩=some (.int .i64 (nth xs k).ya)/\w.cell? ⟨b,o+k*5+4,none⟩=some (.int .i64 (nth xs k).sx):=by obtain⟨b,o,hA,hb,hc⟩:=h.at_ (size:=5) (fun _=>rfl) hk nQ;rw[bR _ hk];exact⟨b,o,hA,hb,hc 0 _ rfl,hc 1 _ rfl,hc 2 _ rfl,hc 3 _ rfl,hc 4 _ rfl⟩
end
structure eP where
 gA:Option Addr
 gc:Nat
 aA:Option Addr
 ac:Nat
 wA:Option Addr
 wc:Nat
abbrev eK(r:eP)(n:Net):nK:=.agg #[.int .i64 n.aP.lo,.int .i64 n.aP.hi,.int .i64 n.cur.lo,.int .i64 n.cur.hi,.slice r.gA n.ay.length r.gc,.slice r.aA n.aB.length r.ac,.slice r.wA n.aU.length r.wc]
def cg(B:Nat)(w:nJ)(r:eP)(n:Net):Prop:=Sl gI B w r.gA r.gc n.ay/\Sl cM B w r.aA r.ac n.aB/\Sl fC B w r.wA r.wc n.aU
section
variable{B:Nat}{w:nJ}{r:eP}{n:Net}
@[go_sem] theorem Yo:cg B w.drew r n↔cg B w r n:=Iff.rfl
theorem cg.up{w':nJ}(h:cg B w r n)[hg:au B w w']:cg B w' r n:=⟨h.1.up,h.2.1.up,h.2.2.up⟩
theorem cg.more(h:cg B w r n){B':Nat}(hB:B<=B'):cg B' w r n:=⟨h.1.more hB,h.2.1.more hB,h.2.2.more hB⟩
end
theorem tG(n low high:Int)(w:nJ):Calls nH 77 #[.int .i64 n,.int .i64 low,.int .i64 high] w fun e w'=>e=.returned (.bool (fH low high n))/\w=w':=by go_enter Tryz.func77,Tryz.ntmps77;go_wp2_with (go_at_call 148;refine(yQ _ _ _ _).mono ?_;rintro e w1 ⟨rfl,rfl⟩);go_ret;exact⟨rfl,rfl⟩
def jY(xs:List Int)(x:Int):Bool:=decide (x∈xs)
theorem DM(A:Option Addr)(c:Nat)(xs:List Int)(x:Int)(B:Nat)(w:nJ)(h:Sl aI B w A c xs):Calls nH 203 #[.slice A xs.length c,.int .i64 x] w fun e w'=>e=.returned (.bool (jY xs x))/\w=w':=by
 have hl:=h.len;go_enter Tryz.func203,Tryz.ntmps203;go_wp2;go_loop [5] (fun i=>∃k:Nat,k<=xs.length/\i=.int .i64 k/\Hid (x∉xs.take k)) (fun i=>xs.length-(intOf i).toNat)
 case atStart=>exact⟨0,nE _,rfl,by simp[Hid]⟩
 case round=>
  obtain⟨k,hk,rfl,hn⟩:=hrel;by_cases hlt:k<xs.length
  ·obtain⟨b,o,rfl,hb,hc⟩:=h.int hlt;have hm:=qh (aV xs hlt);have ht:=qh (bE xs hlt);by_cases he:nth xs k=x
   ·subst he;go_wp2;go_ret;exact⟨bu (by simpa [jY] using hm.out),rfl⟩
   ·have he':(nth xs k==x)=false:=by simpa using he
    go_wp2;go_round
    case rel=>refine⟨k+1,nQ,by go_num,?_⟩;have:=hn.out;unfold Hid;rw[ht.out];simp[this,Ne.symm he]
    case measure=>simp[intOf];omega
  ·obtain rfl:k=xs.length:=by omega
   go_wp2;go_ret;refine⟨bu ?_,rfl⟩;have:=hn.out;simpa [jY] using this
theorem Uc(so all:Int)(w:nJ):Calls nH 188 #[.int .i64 so,.int .i64 all] w fun e w'=>e=.returned (.int .i64 (zV so all))/\w=w':=by
 by_cases h1:so=0
 ·subst h1;go_enter Tryz.func188,Tryz.ntmps188;go_wp2;go_ret;exact⟨rfl,rfl⟩
 ·have h1':(so==0)=false:=by simpa using h1
  by_cases h2:so=all
  ·subst h2;go_enter Tryz.func188,Tryz.ntmps188;go_wp2;go_ret;exact⟨cG (by simp[zV,h1]),rfl⟩
  ·have h2':(so==all)=false:=by simpa using h2
   go_enter Tryz.func188,Tryz.ntmps188;go_wp2;go_ret;exact⟨cG (by simp[zV,h1,h2]),rfl⟩
theorem Cx(lf x:Int)(b:Nat)(w:nJ)(hc:w.cell? ⟨b,0,none⟩=some (.int .i64 lf)):Calls nH 182 #[.int .i64 x,.pointer (some ⟨b,0,none⟩)] w fun e w'=>e=.returned (.bool (!fH 0 lf x))/\w=w':=by
 go_enter Tryz.func182,Tryz.ntmps182;by_cases h1:x<0
 ·go_wp2;go_ret;exact⟨bu (by simp[fH];omega),rfl⟩
 ·go_wp2;go_ret;exact⟨bu (by rw[Bool.eq_iff_iff];simp[fH];omega),rfl⟩
theorem Gr(lf:Int)(b:Nat)(A:Option Addr)(c:Nat)(xs:List Int)(B:Nat)(w:nJ)(h:Sl aI B w A c xs)(hc:w.cell? ⟨b,0,none⟩=some (.int .i64 lf)):Calls nH 196 #[.slice A xs.length c,.func (.func 182) #[] #[.pointer (some ⟨b,0,none⟩)]] w fun e w'=>(∃n:Int,e=.returned (.int .i64 n)/\decide (0<=n) = !Ej lf xs)/\w=w':=by
 have hl:=h.len;go_enter Tryz.func196,Tryz.ntmps196;go_wp2;go_loop [8] (fun i=>∃k:Nat,k<=xs.length/\i=.int .i64 k/\Hid ((xs.take k).all (fH 0 lf)=true)) (fun i=>xs.length-(intOf i).toNat)
 case atStart=>exact⟨0,nE _,rfl,by simp[Hid]⟩
 case round=>
  obtain⟨k,hk,rfl,hn⟩:=hrel;by_cases hlt:k<xs.length
  ·obtain⟨b',o,rfl,hb,OY⟩:=h.int hlt;have hm:=qh (aV xs hlt);have ht:=qh (bE xs hlt);by_cases he:fH 0 lf (nth xs k)=true
   ·go_wp2_with (go_at_call 182;refine(Cx lf _ b _ hc).mono ?_;rintro e w1 ⟨rfl,rfl⟩);go_round
    case rel=>refine⟨k+1,nQ,by go_num,?_⟩;refine QCV ?_;simp[he]
    case measure=>simp[intOf];omega
   ·rw[Bool.not_eq_true] at he;go_wp2_with (go_at_call 182;refine(Cx lf _ b _ hc).mono ?_;rintro e w1 ⟨rfl,rfl⟩);go_ret;refine⟨⟨k,rfl,?_⟩,rfl⟩;have:Ej lf xs=false:=by rw[Ej,List.all_eq_false];exact⟨_,hm.out,by simp[he]⟩
    rw[this];simp
  ·obtain rfl:k=xs.length:=by omega
   go_wp2;go_ret;refine⟨⟨-1,rfl,?_⟩,rfl⟩;have:=hn.out;rw[List.take_length] at this;rw[Ej,this];rfl
end
section
open An
theorem Yl{α:Type}{enc:α->List nK}{W:nJ}(xs:List α){T:TypeId}{b c:Nat}{cs:Array nK}(hb:b=W.heap.size)(hn:xs.length<=c)(hc:c<=9223372036854775807)(hcs:cs.toList=xs.flatMap enc):Sl enc (b+1) (W.alloc (.cells cs T)) (some ⟨b,0,none⟩) c xs:=by refine⟨hn,hc,fun _=>⟨_,_,rfl,nQ,fun j v hj=>?_⟩⟩;rw[World.cell?_alloc_at _ _ _ _ hb,<-Array.getElem?_toList,hcs];simpa using hj
theorem QT(lf:Int)(A:Option Addr)(c:Nat)(xs:List Int)(B:Nat)(w:nJ)(h:Sl aI B w A c xs)[hB:Le B w]:Calls nH 112 #[.int .i64 lf,.slice A xs.length c] w fun e w'=>e=.returned (.bool (Ej lf xs))/\∃δ,w'=af w δ:=by go_enter Tryz.func112,Tryz.ntmps112;go_wp2_with (first|(go_at_call 134;go_in)|(go_at_call 196;refine(Gr lf _ _ _ _ B _ h.up nW).mono ?_;rintro e w1 ⟨⟨n,rfl,hn⟩,rfl⟩));go_ret;exact⟨bu nV,ag⟩
theorem xg(lf:Int)(b k:Nat)(arr:Array nK)(T:TypeId)(W:nJ)(hb:b=W.heap.size)(hk:arr.size=k)(hs:k<=100)(acC:arr.toList=(arr.toList.map intOf).flatMap aI):Calls nH 112 #[.int .i64 lf,.slice (some ⟨b,0,none⟩) k k] (W.alloc (.cells arr T)) fun e w'=>e=.returned (.bool (Ej lf (arr.toList.map intOf)))/\∃δ,w'=af (W.alloc (.cells arr T)) δ:=by
 have hl:(arr.toList.map intOf).length=k:=by simpa using hk
 have hS:Sl aI (b+1) (W.alloc (.cells arr T)) (some ⟨b,0,none⟩) k (arr.toList.map intOf):=Yl _ hb nQ nQ acC;have hB:Le (b+1) (W.alloc (.cells arr T)):=⟨by subst hb;simp⟩;have:=QT lf (some ⟨b,0,none⟩) k (arr.toList.map intOf) (b+1) _ hS;rw[hl] at this;exact this
theorem Gm(s:Sp)(m:Int)(w:nJ):Calls nH 107 #[.agg #[.int .i64 s.lo,.int .i64 s.hi],.int .i64 m] w fun e w'=>e=.returned (.bool (jM m s))/\∃δ,w'=af w δ:=by go_enter Tryz.func107,Tryz.ntmps107;go_wp2_with (go_at_call 112;refine(xg _ _ _ _ _ _ nW nY nQ nY).mono ?_;rintro e w1 ⟨rfl,δ,rfl⟩);all_goals go_ret;exact⟨bu (by rw[Bool.eq_iff_iff];simp[Ej,fH,intOf,jM] at *;omega),ag⟩
theorem He(s:Sp)(w:nJ):Calls nH 109 #[.agg #[.int .i64 s.lo,.int .i64 s.hi]] w fun e w'=>e=.returned (.bool (jM 9 s))/\∃δ,w'=af w δ:=by go_enter Tryz.func109,Tryz.ntmps109;go_wp2_with (go_at_call 107;refine(Gm s 9 _).mono ?_;rintro e w1 ⟨rfl,δ,rfl⟩);go_ret;exact⟨rfl,ag⟩
theorem G9(a:Bj)(b g:Nat)(gA:Option Addr)(gc:Nat)(w:nJ)[hb:Lt b w](hg:g<=9223372036854775807)(hc:w.cell? ⟨b,4,none⟩=some (.slice gA g gc)):Calls nH 111 #[.agg #[.int .i64 a.wt,.int .i64 a.bt],.pointer (some ⟨b,0,none⟩)] w fun e w'=>e=.returned (.bool (mN g a))/\∃δ,w'=af w δ:=by go_enter Tryz.func111,Tryz.ntmps111;go_wp2_with (go_at_call 112;refine(xg _ _ _ _ _ _ nW nY nQ nY).mono ?_;rintro e w1 ⟨rfl,δ,rfl⟩);all_goals go_ret;exact⟨bu (by rw[Bool.eq_iff_iff];simp[Ej,fH,intOf,mN] at *;omega),ag⟩
theorem G8(x:Im)(w:nJ):Calls nH 114 #[.agg #[.int .i64 x.wL,.int .i64 x.xx,.int .i64 x.lean,.int .i64 x.ya,.int .i64 x.sx]] w fun e w'=>e=.returned (.bool (qx x))/\∃δ,w'=af w δ:=by go_enter Tryz.func114,Tryz.ntmps114;go_wp2_with (go_at_call 112;refine(xg _ _ _ _ _ _ nW nY nQ nY).mono ?_;rintro e w1 ⟨rfl,δ,rfl⟩);all_goals go_ret;exact⟨bu (by rw[Bool.eq_iff_iff];simp[Ej,fH,intOf,qx] at *;omega),ag⟩
theorem N9(A:Option Addr)(ln c:Nat)(xs:List Sp)(B:Nat)(w:nJ)(h:Sl gI B w A c xs)(hn:xs.length=ln)[hB:Le B w]:Calls nH 108 #[.slice A ln c,.func (.func 109) #[] #[]] w fun e w'=>e=.returned (.bool (nk xs))/\∃δ,w'=af w δ:=by
 subst hn;have hl:=h.len;go_enter Tryz.func108,Tryz.ntmps108;go_wp2;go_loopw [9] (fun i wr=>∃(k:Nat) (δ:nJ),k<=xs.length/\i=.int .i64 k/\Hid ((xs.take k).all (jM 9)=true)/\wr=af w δ) (fun i _=>xs.length-(intOf i).toNat)
 case atStart=>exact⟨0,w,nE _,rfl,by simp[Hid],(bw w).symm⟩
 case round=>
  obtain⟨k,δ,hk,rfl,hn,rfl⟩:=hrel;by_cases hlt:k<xs.length
  ·obtain⟨b',o,rfl,hb,hc0,Af⟩:=h.sp hlt;refine QDI ?_;intro hb' hm ht;by_cases he:jM 9 (nth xs k)=true
   ·go_wp2_with (go_at_call 109;refine(He (nth xs k) _).mono ?_;rintro e w1 ⟨rfl,δ1,rfl⟩);go_roundw
    case rel=>refine⟨k+1,_,nQ,by go_num,?_,aq⟩;refine QCV ?_;simp[he]
    case measure=>simp[intOf];omega
   ·rw[Bool.not_eq_true] at he;go_wp2_with (go_at_call 109;refine(He (nth xs k) _).mono ?_;rintro e w1 ⟨rfl,δ1,rfl⟩);go_ret;refine⟨bu ?_,ag⟩;have:nk xs=false:=by rw[nk,List.all_eq_false];exact⟨_,hm.out,by simp[he]⟩
    exact this.symm
  ·obtain rfl:k=xs.length:=by omega
   go_wp2;go_ret;refine⟨bu ?_,ag⟩;have:=hn.out;rw[List.take_length] at this;exact this.symm
theorem Kk(A:Option Addr)(ln c:Nat)(xs:List Bj)(bx g:Nat)(gA:Option Addr)(gc:Nat)(B:Nat)(w:nJ)(h:Sl cM B w A c xs)(hn:xs.length=ln)[hB:Le B w][hx:Lt bx w](hg:g<=9223372036854775807)(hcx:w.cell? ⟨bx,4,none⟩=some (.slice gA g gc)):Calls nH 110 #[.slice A ln c,.func (.func 111) #[] #[.pointer (some ⟨bx,0,none⟩)]] w fun e w'=>e=.returned (.bool (ko g xs))/\∃δ,w'=af w δ:=by
 subst hn;have hl:=h.len;go_enter Tryz.func110,Tryz.ntmps110;go_wp2;go_loopw [9] (fun i wr=>∃(k:Nat) (δ:nJ),k<=xs.length/\i=.int .i64 k/\Hid ((xs.take k).all (mN g)=true)/\wr=af w δ) (fun i _=>xs.length-(intOf i).toNat)
 case atStart=>exact⟨0,w,nE _,rfl,by simp[Hid],(bw w).symm⟩
 case round=>
  obtain⟨k,δ,hk,rfl,hn,rfl⟩:=hrel;by_cases hlt:k<xs.length
  ·obtain⟨b',o,rfl,hb,hc0,Af⟩:=h.Yh hlt;refine QDI ?_;intro hb' hm ht;by_cases he:mN g (nth xs k)=true
   ·go_wp2_with (go_at_call 111;refine(G9 (nth xs k) bx g gA gc _ hg nW).mono ?_;rintro e w1 ⟨rfl,δ1,rfl⟩);go_roundw
    case rel=>refine⟨k+1,_,nQ,by go_num,?_,aq⟩;refine QCV ?_;simp[he]
    case measure=>simp[intOf];omega
   ·rw[Bool.not_eq_true] at he;go_wp2_with (go_at_call 111;refine(G9 (nth xs k) bx g gA gc _ hg nW).mono ?_;rintro e w1 ⟨rfl,δ1,rfl⟩);go_ret;refine⟨bu ?_,ag⟩;have:ko g xs=false:=by rw[ko,List.all_eq_false];exact⟨_,hm.out,by simp[he]⟩
    exact this.symm
  ·obtain rfl:k=xs.length:=by omega
   go_wp2;go_ret;refine⟨bu ?_,ag⟩;have:=hn.out;rw[List.take_length] at this;exact this.symm
theorem Kj(A:Option Addr)(ln c:Nat)(xs:List Im)(B:Nat)(w:nJ)(h:Sl fC B w A c xs)(hn:xs.length=ln)[hB:Le B w]:Calls nH 113 #[.slice A ln c,.func (.func 114) #[] #[]] w fun e w'=>e=.returned (.bool (nh xs))/\∃δ,w'=af w δ:=by
 subst hn;have hl:=h.len;go_enter Tryz.func113,Tryz.ntmps113;go_wp2;go_loopw [9] (fun i wr=>∃(k:Nat) (δ:nJ),k<=xs.length/\i=.int .i64 k/\Hid ((xs.take k).all qx=true)/\wr=af w δ) (fun i _=>xs.length-(intOf i).toNat)
 case atStart=>exact⟨0,w,nE _,rfl,by simp[Hid],(bw w).symm⟩
 case round=>
  obtain⟨k,δ,hk,rfl,hn,rfl⟩:=hrel;by_cases hlt:k<xs.length
  ·obtain⟨b',o,rfl,hb,hc0,Af,LX,Rf,hc4⟩:=h.Vp hlt;refine QDI ?_;intro hb' hm ht;by_cases he:qx (nth xs k)=true
   ·go_wp2_with (go_at_call 114;refine(G8 (nth xs k) _).mono ?_;rintro e w1 ⟨rfl,δ1,rfl⟩);go_roundw
    case rel=>refine⟨k+1,_,nQ,by go_num,?_,aq⟩;refine QCV ?_;simp[he]
    case measure=>simp[intOf];omega
   ·rw[Bool.not_eq_true] at he;go_wp2_with (go_at_call 114;refine(G8 (nth xs k) _).mono ?_;rintro e w1 ⟨rfl,δ1,rfl⟩);go_ret;refine⟨bu ?_,ag⟩;have:nh xs=false:=by rw[nh,List.all_eq_false];exact⟨_,hm.out,by simp[he]⟩
    exact this.symm
  ·obtain rfl:k=xs.length:=by omega
   go_wp2;go_ret;refine⟨bu ?_,ag⟩;have:=hn.out;rw[List.take_length] at this;exact this.symm
theorem Eb(r:eP)(n:Net)(B:Nat)(w:nJ)(h:cg B w r n)[hB:Le B w]:Calls nH 47 #[eK r n] w fun e w'=>e=.returned (.int .i64 (cC (valid n) 20))/\∃δ,w'=af w δ:=by have l1:=h.1.len;have l2:=h.2.1.len;have l3:=h.2.2.len;go_enter Tryz.func47,Tryz.ntmps47;go_wp2_with (first|(go_at_call 107;refine(Gm _ _ _).mono ?_;rintro e w1 ⟨rfl,δ,rfl⟩)|(go_at_call 108;refine(N9 _ _ _ n.ay B _ h.1.up (by first|rfl|(simp[*];done)|omega)).mono ?_;rintro e w1 ⟨rfl,δ,rfl⟩)|(go_at_call 110;refine(Kk _ _ _ n.aB w.heap.size n.ay.length r.gA r.gc B _ h.2.1.up (by first|rfl|(simp[*];done)|omega) nQ nW).mono ?_;rintro e w1 ⟨rfl,δ,rfl⟩)|(go_at_call 113;refine(Kj _ _ _ n.aU B _ h.2.2.up (by first|rfl|(simp[*];done)|omega)).mono ?_;rintro e w1 ⟨rfl,δ,rfl⟩));all_goals go_ret;refine⟨cG ?_,ag⟩;go_light;have hv:=@aD n;have hz:n.aU=[]↔n.aU.length=0:=List.length_eq_zero_iff.symm;grind [cC,nh]
end
section
open An
theorem wR(s:Sp)(m:Int)(w:nJ):Calls nH 76 #[.agg #[.int .i64 s.lo,.int .i64 s.hi],.int .i64 m] w fun e w'=>e=.returned (.bool (jM m s))/\∃δ,w'=af w δ:=by go_enter Tryz.func76,Tryz.ntmps76;go_wp2_with (go_at_call 77;refine(tG _ _ _ _).mono ?_;rintro e w1 ⟨rfl,rfl⟩);all_goals go_ret;exact⟨bu (by grind [fH,jM]),ag⟩
theorem jU(r:eP)(n:Net)(B:Nat)(w:nJ)(h:cg B w r n)[hB:Le B w]:Calls nH 35 #[eK r n] w fun e w'=>e=.returned (.int .i64 (cC (valid n) 20))/\∃δ,w'=af w δ:=by
 have l1:=h.1.len;have l2:=h.2.1.len;have l3:=h.2.2.len;by_cases hw:n.aU.length=n.aB.length-1;case neg=>
  obtain⟨m,hm⟩:∃m:Nat,m=n.aB.length-1:=⟨_,rfl⟩;have LP:(if 1<(n.aB.length:Int) then (n.aB.length:Int)-1 else 0)=(m:Int):=by split<;>omega
  have hne:((n.aU.length:Int) != (m:Int))=true:=by simp;omega
  have hv:valid n=false:=by rw[<-Bool.not_eq_true];intro hv;exact hw (aD.1 hv).2.2.2.2.1
  have HV:=qh hv;clear hm hv hw;go_enter Tryz.func35,Tryz.ntmps35;go_wp2_with (go_at_call 76;refine(wR _ _ _).mono ?_;rintro e w1 ⟨rfl,δ,rfl⟩);all_goals go_ret;exact⟨cG (by rw[HV.out];rfl),ag⟩
 case pos=>
  have LP:(if 1<(n.aB.length:Int) then (n.aB.length:Int)-1 else 0)=(n.aU.length:Int):=by split<;>omega
  have HW:=qh hw;clear hw;go_enter Tryz.func35,Tryz.ntmps35;go_wp2_with (go_at_call 76;refine(wR _ _ _).mono ?_;rintro e w1 ⟨rfl,δ,rfl⟩);all_goals first
   |(go_ret
     refine⟨cG ?_,ag⟩
     go_light
     have hv:=@aD n
     grind [cC])
   |skip
  refine aL fun W1 aH=>?_;have c4:W1.cell? ⟨w.heap.size,4,none⟩=some (.slice r.gA n.ay.length r.gc):=by rw[aH.out];go_simp
  have c5:W1.cell? ⟨w.heap.size,5,none⟩=some (.slice r.aA n.aB.length r.ac):=by rw[aH.out];go_simp
  have c6:W1.cell? ⟨w.heap.size,6,none⟩=some (.slice r.wA n.aU.length r.wc):=by rw[aH.out];go_simp
  have i1:Lt w.heap.size W1:=nt aH;have i2:Le B W1:=fI aH;have i3:au B w W1:=gu aH;have i4:au w.heap.size w W1:=gu aH;have i5:Le w.heap.size W1:=fI aH;have s1:Sl gI B W1 r.gA r.gc n.ay:=h.1.up;have s2:Sl cM B W1 r.aA r.ac n.aB:=h.2.1.up;have s3:Sl fC B W1 r.wA r.wc n.aU:=h.2.2.up;have F:=qh (show jM 20 n.aP=true/\jM 20 n.cur=true/\n.ay.length<=3/\n.aB.length<=6 by refine⟨nZ,nZ,nQ,nQ⟩);clear LP;go_loopw [3] (fun i wr=>∃(k:Nat) (δ:nJ),k<=n.ay.length/\i=.int .i64 k/\Hid (nk (n.ay.take k)=true)/\wr=af W1 δ) (fun i _=>n.ay.length-(intOf i).toNat)
  case atStart=>exact⟨0,W1,nE _,rfl,by simp[Hid,nk],(bw W1).symm⟩
  case round=>
   obtain⟨k,δ,hk,rfl,hn,rfl⟩:=hrel;by_cases hlt:k<n.ay.length
   ·obtain⟨b,o,hA,hb,d0,d1⟩:=s1.sp hlt;have ib:Lt b W1:=⟨nL hb i2.out⟩;rw[hA] at c4;have hm:=qh (aV n.ay hlt);have ht:=qh (bE n.ay hlt);clear hA;go_wp2_with (go_at_call 76;refine(wR (nth n.ay k) 9 _).mono ?_;rintro e w1 ⟨rfl,δ1,rfl⟩)
    ·go_ret;refine⟨cG ?_,ag⟩;go_light;have hv:=(@aD n).1;have hm:=hm.out;grind [cC,nk]
    ·go_roundw
     case rel=>refine⟨k+1,_,nQ,by go_num,?_,aq⟩;unfold Hid;have hn:=hn.out;rw[ht.out];go_light;grind [nk]
     case measure=>simp[intOf];omega
   ·obtain rfl:k=n.ay.length:=by omega
    have G1:=qh (show nk n.ay=true by have:=hn.out;rwa [List.take_length] at this);clear hlt hn hk;go_wp2;go_loopw [4] (fun i wr=>∃(k:Nat) (δ:nJ),k<=n.aB.length/\i=.int .i64 k/\Hid (ko n.ay.length (n.aB.take k)=true)/\wr=af W1 δ) (fun i _=>n.aB.length-(intOf i).toNat)
    case atStart=>exact⟨0,δ,nE _,rfl,by simp[Hid,ko],rfl⟩
    case round=>
     obtain⟨k,δ,hk,rfl,hn,rfl⟩:=hrel;by_cases hlt:k<n.aB.length
     ·obtain⟨b,o,hA,hb,d0,d1⟩:=s2.Yh hlt;have ib:Lt b W1:=⟨nL hb i2.out⟩;rw[hA] at c5;have hm:=qh (aV n.aB hlt);have ht:=qh (bE n.aB hlt);have hki:(k:Int)<(n.aB.length:Int):=nQ;have hk0:¬(k:Int)<0:=nQ;clear hA;by_cases g1:fH 0 20 (nth n.aB k).wt=true;all_goals try rw[Bool.not_eq_true] at g1
      all_goals
       go_wp2_with fail;refine wpRl ?_;repeat (go_big_quiet_step ((go_at_call 77;exact Calls.lC (tG _ _ _ _))))
       refine QBT ?_;rintro _ ⟨δ1,rfl⟩;go_wp2
      all_goals try rw[Bool.not_eq_true] at g1
      all_goals first
       |(go_ret
         refine⟨cG ?_,ag⟩
         go_light
         have hv:=(@aD n).1
         have hm:=hm.out
         grind [cC,ko,mN,fH])
       |(go_roundw
         case rel=>
          refine⟨k+1,_,nQ,by go_num,?_,aq⟩
          unfold Hid
          have hn:=hn.out
          rw[ht.out]
          go_light
          grind [ko,mN,fH]
         case measure=>simp[intOf];omega)
     ·obtain rfl:k=n.aB.length:=by omega
      have G2:=qh (show ko n.ay.length n.aB=true by have:=hn.out;rwa [List.take_length] at this);clear hlt hn hk;go_wp2;go_loopw [5] (fun i wr=>∃(k:Nat) (δ:nJ),k<=n.aU.length/\i=.int .i64 k/\Hid (nh (n.aU.take k)=true)/\wr=af W1 δ) (fun i _=>n.aU.length-(intOf i).toNat)
      case atStart=>exact⟨0,δ,nE _,rfl,by simp[Hid,nh],rfl⟩
      case round=>
       obtain⟨k,δ,hk,rfl,hn,rfl⟩:=hrel;by_cases hlt:k<n.aU.length
       ·obtain⟨b,o,hA,hb,d0,d1,d2,d3,d4⟩:=s3.Vp hlt;have ib:Lt b W1:=⟨nL hb i2.out⟩;rw[hA] at c6;have hm:=qh (aV n.aU hlt);have ht:=qh (bE n.aU hlt);have hki:(k:Int)<(n.aU.length:Int):=nQ;have hk0:¬(k:Int)<0:=nQ;clear hA;go_wp2_with (go_at_call 77;refine(tG _ _ _ _).mono ?_;rintro e w1 ⟨rfl,rfl⟩);all_goals first
         |(go_ret
           refine⟨cG ?_,ag⟩
           go_light
           have hv:=(@aD n).1
           have hm:=hm.out
           grind [cC,nh,qx,fH])
         |(go_roundw
           case rel=>
            refine⟨k+1,_,nQ,by go_num,?_,aq⟩
            unfold Hid
            have hn:=hn.out
            rw[ht.out]
            go_light
            grind [nh,qx,fH]
           case measure=>simp[intOf];omega)
       ·obtain rfl:k=n.aU.length:=by omega
        have G3:nh n.aU=true:=by have:=hn.out;rwa [List.take_length] at this
        have HV:=qh (show valid n=true from aD.2 ⟨F.out.1,F.out.2.1,F.out.2.2.1,F.out.2.2.2,HW.out,G1.out,G2.out,G3⟩);clear hlt hn hk G3;go_wp2;go_ret;exact⟨cG (by rw[HV.out];rfl),ag⟩
end
section
open An
structure pE where
 tA:Option Addr
 tc:Nat
abbrev wH(rt:pE)(t:ji):nK:=.agg #[.int .i64 t.aP,.int .i64 t.cur,.slice rt.tA t.ay.length rt.tc]
abbrev rX(B:Nat)(w:nJ)(rt:pE)(t:ji):Prop:=Sl aI B w rt.tA rt.tc t.ay
abbrev yd(r:eP)(n:Net)(rt:pE)(t:ji):nK:=.agg #[.int .i64 n.aP.lo,.int .i64 n.aP.hi,.int .i64 n.cur.lo,.int .i64 n.cur.hi,.slice r.gA n.ay.length r.gc,.slice r.aA n.aB.length r.ac,.slice r.wA n.aU.length r.wc,.int .i64 t.aP,.int .i64 t.cur,.slice rt.tA t.ay.length rt.tc]
theorem So(s i:Nat)(hs:s<18446744073709551616):(bits BinOp.and IntKind.u64 ((s:Int) / 2 ^ i) 1==1)=s.testBit i:=by
 have h1:((s:Int) / 2 ^ i)=((s / 2 ^ i:Nat):Int):=by push_cast;rfl
 have h2:s / 2 ^ i<18446744073709551616:=nO (Nat.div_le_self _ _) hs;rw[h1,show(1:Int)=((1:Nat):Int) from rfl,u64_and_nat _ _ h2 nQ,Nat.and_one_is_mod,Nat.testBit_eq_decide_div_mod_eq,Bool.eq_iff_iff];simp only[beq_iff_eq,decide_eq_true_eq];omega
theorem LZ(s i:Nat)(w:nJ)(hs:s<18446744073709551616)(hi:i<64):Calls nH 115 #[.int .u64 s,.int .i64 i] w fun e w'=>e=.returned (.bool (s.testBit i))/\w=w':=by have hf:=qh (So s i hs);go_enter Tryz.func115,Tryz.ntmps115;go_wp2;go_ret;exact⟨bu hf.out,rfl⟩
theorem Xc(x:Im)(wi cu:Int)(w:nJ)(hx:qx x=true)(hw:fH 0 20 wi=true)(hc:fH 0 20 cu=true):Calls nH 231 #[.agg #[.int .i64 x.wL,.int .i64 x.xx,.int .i64 x.lean,.int .i64 x.ya,.int .i64 x.sx],.int .i64 wi,.int .i64 cu] w fun e w'=>e=.returned (.int .i64 (zR x wi cu))/\∃δ,w'=af w δ:=by have hb:=qh (JL hx hw hc);clear hx hw hc;go_enter Tryz.func231,Tryz.ntmps231;go_wp2;go_ret;refine⟨cG ?_,ag⟩;have hb:=hb.out;rw[KY (x:=x.wL*wi) nQ,KY (x:=x.xx*cu) nQ,KY nQ];rfl
theorem Wp(n:Net)(t:ji)(wl ot:Int)(br bd bn:Nat)(wA:Option Addr)(wc:Nat)(dr:Nat)(n0:Int)(B:Nat)(w:nJ)[hB:Le B w][hr:Lt br w][hd:Lt bd w][hn:Lt bn w](ht:jV n t)(h:Sl fC B w wA wc n.aU)(h0:w.cell? ⟨br,6,none⟩=some (.slice wA n.aU.length wc))(h1:w.cell? ⟨br,7,none⟩=some (.int .i64 t.aP))(h2:w.cell? ⟨br,8,none⟩=some (.int .i64 t.cur))(h3:w.cell? ⟨bd,0,none⟩=some (.int .u64 dr))(h4:w.cell? ⟨bn,0,none⟩=some (.int .i64 n0))(h5:w.frozen? ⟨bn,0,none⟩=false)(hs:dr<18446744073709551616)(hi:0<=wl->wl<n.aU.length->0<=ot/\ot<64)(hn0:0<=n0/\n0<=1000):Calls nH 230 #[.int .i64 wl,.int .i64 ot,.pointer (some ⟨br,0,none⟩),.pointer (some ⟨bd,0,none⟩),.pointer (some ⟨bn,0,none⟩)] w fun e w'=>e=.returned (.tuple #[])/\∃δ,w'=(af w δ).setCell ⟨bn,0,none⟩ (.int .i64 (n0+if 0<=wl/\wl<n.aU.length then side n t (fun i=>dr.testBit i) wl.toNat ot.toNat else 0)):=by
 have hl:=h.len;by_cases hc:0<=wl/\wl<n.aU.length
 ·rw[if_pos hc];obtain⟨wn,rfl⟩:=Int.eq_ofNat_of_zero_le hc.1;obtain⟨on,rfl⟩:=Int.eq_ofNat_of_zero_le (hi hc.1 hc.2).1;have QZ:=(hi hc.1 hc.2).2;have hwn:wn<n.aU.length:=nQ;have hx:=oe ht.1 hwn;have hbd:=qh (FZ ht hwn);have Vz:=qh (ve ht (d:=fun i=>dr.testBit i) (o:=on) hwn);obtain⟨b,o,rfl,hb,k0,k1,k2,k3,k4⟩:=h.Vp hwn;have ib:Lt b w:=⟨nL hb hB.out⟩;have hlt:(wn:Int)<(n.aU.length:Int):=nQ;have hnn:¬(wn:Int)<0:=nQ;have Af:=ht.2.1;have LX:=ht.2.2.1;have HE:Hid (zR (nth n.aU wn) t.aP t.cur=ld n t wn):=qh rfl;clear hi hc ht h;by_cases aa0:dr.testBit on=true;all_goals try rw[Bool.not_eq_true] at aa0
  all_goals
   go_enter Tryz.func230,Tryz.ntmps230;go_wp2_with fail;refine wpRl ?_;repeat (go_big_quiet_step ((go_at_call 231;exact Calls.bN (Xc _ _ _ _ nZ nZ nZ))))
   refine QBT ?_;rintro _ ⟨δ,rfl⟩;go_wp2_with (go_at_call 115;refine(LZ _ _ _ nQ nQ).mono ?_;rintro e w1 ⟨rfl,rfl⟩);go_end0;refine⟨rfl,δ,?_⟩;have hbd:=hbd.out;have Vz:=Vz.out;congr 2;simp only[Int.toNat_natCast,side,aa0,HE.out,if_true] at *;first
    |(rw[KY (x:=ld n t wn*2) nQ,KY nQ];done)
    |(simp only[Bool.false_eq_true,if_false,Int.mul_one] at *;rw[KY nQ])
 ·rw[if_neg hc,Int.add_zero];have hse:w.setCell ⟨bn,0,none⟩ (.int .i64 n0)=w:=fo h4;have HS:=qh hse;have OY:wl<0\/¬wl<0/\(n.aU.length:Int)<=wl:=nQ;clear hse hc hi;rcases OY with h'|⟨h'',h'⟩;all_goals go_enter Tryz.func230,Tryz.ntmps230;go_wp2;refine bodyPost_ret (results_none rfl _ _ _) rfl ?_;exact⟨rfl,w,by rw[bw,HS.out]⟩
end
section
open An
theorem Sq(n:Net)(t:ji)(i:Nat)(d:Nat->Bool):(if (0:Int)<=(i:Int)-1/\(i:Int)-1<n.aU.length then side n t d ((i:Int)-1).toNat ((i:Int)-1).toNat else 0)+(if (0:Int)<=(i:Int)/\(i:Int)<n.aU.length then side n t d (i:Int).toNat ((i:Int)+1).toNat else 0)=(if 0<i/\i-1<n.aU.length then side n t d (i-1) (i-1) else 0)+(if i<n.aU.length then side n t d i (i+1) else 0):=by
 have e1:((i:Int)-1).toNat=i-1:=nQ;have e2:((i:Int)+1).toNat=i+1:=nQ;rw[e1,e2,Int.toNat_natCast];congr 1
 ·by_cases h:0<i/\i-1<n.aU.length
  ·rw[if_pos h,if_pos nQ]
  ·rw[if_neg h,if_neg nQ]
 ·by_cases h:i<n.aU.length
  ·rw[if_pos h,if_pos nQ]
  ·rw[if_neg h,if_neg nQ]
theorem La(n:Net)(t:ji)(wl ot:Int)(br bd bn:Nat)(wA:Option Addr)(wc:Nat)(dr:Nat)(n0:Int)(v0:nK)(B:Nat)(w0 δ0:nJ)[hB:Le B w0][hr:Lt br w0][hd:Lt bd w0][hn:Lt bn w0][hb:oy B bn](ht:jV n t)(h:Sl fC B w0 wA wc n.aU)(hne:br≠bn)(aci:bd≠bn)(h0:w0.cell? ⟨br,6,none⟩=some (.slice wA n.aU.length wc))(h1:w0.cell? ⟨br,7,none⟩=some (.int .i64 t.aP))(h2:w0.cell? ⟨br,8,none⟩=some (.int .i64 t.cur))(h3:w0.cell? ⟨bd,0,none⟩=some (.int .u64 dr))(h4:w0.cell? ⟨bn,0,none⟩=some v0)(h5:w0.frozen? ⟨bn,0,none⟩=false)(hs:dr<18446744073709551616)(hi:0<=wl->wl<n.aU.length->0<=ot/\ot<64)(hn0:0<=n0/\n0<=1000):Calls nH 230 #[.int .i64 wl,.int .i64 ot,.pointer (some ⟨br,0,none⟩),.pointer (some ⟨bd,0,none⟩),.pointer (some ⟨bn,0,none⟩)] ((af w0 δ0).setCell ⟨bn,0,none⟩ (.int .i64 n0)) fun e w'=>e=.returned (.tuple #[])/\∃δ,w'=(af w0 δ).setCell ⟨bn,0,none⟩ (.int .i64 (n0+if 0<=wl/\wl<n.aU.length then side n t (fun i=>dr.testBit i) wl.toNat ot.toNat else 0)):=by
 have e0:∀b o,Lt b w0->b≠bn->((af w0 δ0).setCell ⟨bn,0,none⟩ (.int .i64 n0)).cell? ⟨b,o,none⟩=w0.cell? ⟨b,o,none⟩:=fun b o _ hne=>by rw[World.cell?_setCell_other _ _ _ _ nV,vZ]
 refine(Wp n t wl ot br bd bn wA wc dr n0 B _ ht h.up (by rw[e0 _ _ hr hne];exact h0) (by rw[e0 _ _ hr hne];exact h1) (by rw[e0 _ _ hr hne];exact h2) (by rw[e0 _ _ hd aci];exact h3)
  (World.cell?_setCell_same _ _ _ (u:=v0) (by rw[vZ];exact h4)) nW hs hi hn0).mono ?_
 rintro e w' ⟨rfl,δ,rfl⟩;obtain⟨δ',hδ⟩:=Gd (w0:=w0) δ0 δ (.int .i64 n0) (.int .i64 (n0+if 0<=wl/\wl<n.aU.length then side n t (fun i=>dr.testBit i) wl.toNat ot.toNat else 0)) h4;exact⟨rfl,δ',hδ⟩
theorem UZ(r:eP)(n:Net)(rt:pE)(t:ji)(i:Nat)(dr:Nat)(B:Nat)(w:nJ)[hB:Le B w](h:cg B w r n)(ht:jV n t)(hi:i<n.aB.length)(hs:dr<18446744073709551616):Calls nH 183 #[yd r n rt t,.int .i64 i,.int .u64 dr] w fun e w'=>e=.returned (.int .i64 (bears n t i (fun k=>dr.testBit k)))/\∃δ,w'=af w δ:=by
 have hv:=aD.1 ht.1;have hw:=hv.2.2.2.2.1;have h6:=hv.2.2.2.1;have hbd:=wg ht (d:=fun k=>dr.testBit k) hi;have s1:∀k o,k<n.aU.length->0<=side n t (fun k=>dr.testBit k) k o/\side n t (fun k=>dr.testBit k) k o<=720:=fun k o hk=>ve ht hk;have hX:∃X:Int,X=(if (0:Int)<=(i:Int)-1/\(i:Int)-1<n.aU.length then side n t (fun k=>dr.testBit k) ((i:Int)-1).toNat ((i:Int)-1).toNat else 0)/\0<=X/\X<=720:=by
  refine⟨_,rfl,?_⟩;split
  ·exact s1 _ _ nQ
  ·omega
 obtain⟨X,hX,x0,x1⟩:=hX;have hE:bears n t i (fun k=>dr.testBit k)=X+(if (0:Int)<=(i:Int)/\(i:Int)<n.aU.length then side n t (fun k=>dr.testBit k) (i:Int).toNat ((i:Int)+1).toNat else 0):=by
  rw[hX,Sq];unfold bears;congr 1;by_cases h0:0<i
  ·rw[if_pos h0,if_pos ⟨h0,nQ⟩]
  ·rw[if_neg h0,if_neg (fun h=>h0 h.1)]
 have HX:=qh hX;have HE:=qh hE;have HW:=qh hw;clear hX hE s1 hv hw;go_enter Tryz.func183,Tryz.ntmps183;go_wp2_with fail;refine We (b:=w.heap.size+1+1) (i:=0) (v:=.int .i64 0) nW ?_;refine(La n t _ _ w.heap.size _ _ r.wA r.wc dr 0 (.int .i64 0) B _ _ ht h.2.2.up nQ nQ nW nW nW nW nW nW hs (by have:=HW.out;omega) nQ).mono ?_;rintro e w1 ⟨rfl,δ,rfl⟩;rw[<-HX.out,Int.zero_add];go_wp2_with fail;refine(La n t _ _ w.heap.size _ _ r.wA r.wc dr X (.int .i64 0) B _ _ ht h.2.2.up nQ nQ nW nW nW nW nW nW hs (by have:=HW.out;omega) nQ).mono ?_;rintro e w1 ⟨rfl,δ1,rfl⟩;rw[<-HE.out];go_wp2_with fail;go_ret;exact⟨rfl,ag⟩
theorem Dg(r:eP)(n:Net)(rt:pE)(t:ji)(i:Nat)(dr:Nat)(B:Nat)(w:nJ)[hB:Le B w](h:cg B w r n)(h':rX B w rt t)(ht:jV n t)(hi:i<n.aB.length)(hs:dr<18446744073709551616):Calls nH 116 #[yd r n rt t,.int .i64 i,.int .u64 dr] w fun e w'=>e=.returned (.int .i64 (spare n t i (fun k=>dr.testBit k)))/\∃δ,w'=af w δ:=by
 have hbd:=qh (wg ht (d:=fun k=>dr.testBit k) hi);have hcd:=Ed ht hi;have l1:=h'.len;obtain⟨b,o,hA,hb,k0,k1⟩:=h.2.1.Yh hi;have ib:Lt b w:=⟨nL hb hB.out⟩;obtain⟨b',o',p5,hb',k2⟩:=h'.int hcd.2.2.2.1;refine QFM ?_;intro ib' LW hi0 hj0 hj1 HC;have HA:=qh hA;have HA':=qh p5;have H:=qh h;clear hcd hA p5;go_enter Tryz.func116,Tryz.ntmps116;rw[show yd r n rt t=Value.agg #[.int .i64 n.aP.lo,.int .i64 n.aP.hi,.int .i64 n.cur.lo,.int .i64 n.cur.hi,.slice r.gA n.ay.length r.gc,.slice r.aA n.aB.length r.ac,.slice r.wA n.aU.length r.wc,.int .i64 t.aP,.int .i64 t.cur,.slice rt.tA t.ay.length rt.tc] from rfl,HA.out,HA'.out];go_wp2_with fail;refine wpRl ?_;repeat (go_big_quiet_step ((rw[<-HA.out,<-HA'.out];go_at_call 183;exact Calls.bN (UZ r n rt t i dr B _ H.out.up ht hi hs))))
 refine QBT ?_;rintro _ ⟨δ,rfl⟩;go_wp2_with fail;go_ret;refine⟨cG ?_,ag⟩;have HC:=HC.out;have hbd:=hbd.out;have e:2*(nth n.aB i).wt*nth t.ay (nth n.aB i).bt.toNat=can n t i:=rfl;rw[KY (x:=2*(nth n.aB i).wt) nQ,e,KY (x:=can n t i) nQ,KY nQ];rfl
end
namespace An
def gX(n:Net)(t:ji)(m:Nat):Nat->Nat
 |0=>m
 |k+1=>if m.testBit k=false/\spare n t k (fun i=>m.testBit i)<0 then gX n t m k ||| 2 ^ k else gX n t m k
def jT(n:Net)(t:ji)(m:Nat):Nat:=gX n t m n.aB.length
def rQ(n:Net)(t:ji)(d:Nat->Bool)(i:Nat):Bool:=d i||(decide (i<n.aB.length)&&decide (spare n t i d<0))
theorem IF(n:Net)(t:ji)(m k i:Nat):(gX n t m k).testBit i=(m.testBit i||(decide (i<k)&&decide (spare n t i (fun i=>m.testBit i)<0))):=by
 induction k with
 |zero=>simp[gX]
 |succ k ih=>
  unfold gX
  split
  ·rename_i h;rw[Nat.testBit_or,ih,Nat.testBit_two_pow];by_cases hik:k=i
   ·subst hik;simp[h.2]
   ·have e:decide (i<k+1)=decide (i<k):=by rw[decide_eq_decide];omega
    simp[hik,e]
  ·rename_i h;rw[ih];by_cases hik:i=k
   ·subst hik;by_cases hb:m.testBit i=true
    ·simp[hb]
    ·have:¬spare n t i (fun i=>m.testBit i)<0:=fun hs=>h ⟨by simpa using hb,hs⟩;simp[this]
   ·have e:decide (i<k+1)=decide (i<k):=by rw[decide_eq_decide];omega
    simp[e]
theorem BG(n:Net)(t:ji)(m i:Nat):(jT n t m).testBit i=rQ n t (fun i=>m.testBit i) i:=IF n t m _ i
theorem Mq(n:Net)(t:ji)(m k:Nat)(hm:m<64)(hk:k<=6):gX n t m k<64:=by
 induction k with
 |zero=>simpa [gX] using hm
 |succ k ih=>
  have h1:=ih nQ
  unfold gX
  split
  ·exact Nat.or_lt_two_pow (n:=6) h1 (Nat.pow_lt_pow_right nQ nQ)
  ·exact h1
end An
namespace An
def pU(m:Nat)(d:Nat->Bool):List Int:=((List.range m).filter d).map fun(i:Nat)=>(i:Int)
theorem Fk(m:Nat)(d:Nat->Bool):pU (m+1) d=pU m d++(if d m=true then[(m:Int)] else[]):=by unfold pU;rw[List.range_succ,List.filter_append,List.map_append];congr 1;by_cases h:d m=true<;>simp[h]
theorem JG{m:Nat}{d:Nat->Bool}{k:Nat}:(k:Int)∈pU m d↔k<m/\d k=true:=by
 unfold pU;simp only[List.mem_map,List.mem_filter,List.mem_range];constructor
 ·rintro⟨j,h,hj⟩;have:j=k:=nQ;rwa [<-this]
 ·intro h;exact⟨k,h,rfl⟩
theorem I9(m:Nat)(d:Nat->Bool):(pU m d).length<=m:=by unfold pU;rw[List.length_map];have:=List.length_filter_le d (List.range m);simpa using this
end An
section
open An
theorem Wf(s i:Nat)(w:nJ)(hs:s<18446744073709551616)(hi:i<6):Calls nH 117 #[.int .u64 s,.int .i64 i] w fun e w'=>e=.returned (.int .u64 ((s ||| 2 ^ i:Nat):Int))/\w=w':=by
 have key:∀(j:Nat) (p:Nat),p<18446744073709551616->p=2 ^ j->bits .or .u64 (s:Int) (p:Int)=((s ||| 2 ^ j:Nat):Int):=by intro j p hp he;rw[u64_or_nat s p hs hp,he]
 have K0:=qh (key 0 1 nQ rfl);have K1:=qh (key 1 2 nQ rfl);have K2:=qh (key 2 4 nQ rfl);have K3:=qh (key 3 8 nQ rfl);have K4:=qh (key 4 16 nQ rfl);have K5:=qh (key 5 32 nQ rfl);clear key;match i,hi with
 |0,_=>
  go_enter Tryz.func117,Tryz.ntmps117
  go_wp2
  go_ret
  exact⟨cG K0.out,rfl⟩
 |1,_=>
  go_enter Tryz.func117,Tryz.ntmps117
  go_wp2
  go_ret
  exact⟨cG K1.out,rfl⟩
 |2,_=>
  go_enter Tryz.func117,Tryz.ntmps117
  go_wp2
  go_ret
  exact⟨cG K2.out,rfl⟩
 |3,_=>
  go_enter Tryz.func117,Tryz.ntmps117
  go_wp2
  go_ret
  exact⟨cG K3.out,rfl⟩
 |4,_=>
  go_enter Tryz.func117,Tryz.ntmps117
  go_wp2
  go_ret
  exact⟨cG K4.out,rfl⟩
 |5,_=>
  go_enter Tryz.func117,Tryz.ntmps117
  go_wp2
  go_ret
  exact⟨cG K5.out,rfl⟩
theorem IE(r:eP)(n:Net)(rt:pE)(t:ji)(dr:Nat)(B:Nat)(w:nJ)[hB:Le B w](h:cg B w r n)(h':rX B w rt t)(ht:jV n t)(hs:dr<64):Calls nH 50 #[yd r n rt t,.int .u64 dr] w fun e w'=>e=.returned (.int .u64 (jT n t dr))/\∃δ,w'=af w δ:=by
 have hv:=aD.1 ht.1;have h6:=hv.2.2.2.1;clear hv;go_enter Tryz.func50,Tryz.ntmps50;go_wp2_with fail;go_loopw [5,12] (fun o i wr=>∃(k:Nat) (δ:nJ),k<=n.aB.length/\i=.int .i64 k/\o=.int .u64 (gX n t dr k)/\wr=af (w.alloc (.cells #[.int .i64 n.aP.lo,.int .i64 n.aP.hi,.int .i64 n.cur.lo,.int .i64 n.cur.hi,.slice r.gA n.ay.length r.gc,.slice r.aA n.aB.length r.ac,.slice r.wA n.aU.length r.wc,.int .i64 t.aP,.int .i64 t.cur,.slice rt.tA t.ay.length rt.tc] 111)) δ) (fun _ i _=>n.aB.length-(intOf i).toNat)
 case atStart=>exact⟨0,_,nE _,rfl,rfl,(bw _).symm⟩
 case round=>
  obtain⟨k,δ,hk,rfl,rfl,rfl⟩:=hrel;by_cases hlt:k<n.aB.length
  ·have hlo:=Mq n t dr k hs nQ;by_cases hb:dr.testBit k=true;all_goals try rw[Bool.not_eq_true] at hb
   ·have HN:=qh (show gX n t dr (k+1)=gX n t dr k by simp[gX,hb]);go_wp2_with (go_at_call 115;refine(LZ _ _ _ nQ nQ).mono ?_;rintro e w1 ⟨rfl,rfl⟩);go_roundw
    case rel=>exact⟨k+1,_,nQ,by go_num,by rw[HN.out],rfl⟩
    case measure=>simp[intOf];omega
   ·by_cases hsp:spare n t k (fun i=>dr.testBit i)<0;all_goals have Zz:=hsp
    ·have HN:=qh (show gX n t dr (k+1)=gX n t dr k ||| 2 ^ k by simp[gX,hb,hsp]);clear Zz;go_wp2_with (first|(go_at_call 115;refine(LZ _ _ _ nQ nQ).mono ?_;rintro e w1 ⟨rfl,rfl⟩)|(go_at_call 116;refine(Dg r n rt t k dr B _ h.up h'.up ht hlt nQ).mono ?_;rintro e w1 ⟨rfl,δ1,rfl⟩)|(go_at_call 117;refine(Wf _ _ _ nQ nQ).mono ?_;rintro e w1 ⟨rfl,rfl⟩));go_roundw
     case rel=>exact⟨k+1,_,nQ,by go_num,by rw[HN.out],DG _ _ _⟩
     case measure=>simp[intOf];omega
    ·have HN:=qh (show gX n t dr (k+1)=gX n t dr k by simp[gX,hb,hsp]);clear Zz;go_wp2_with (first|(go_at_call 115;refine(LZ _ _ _ nQ nQ).mono ?_;rintro e w1 ⟨rfl,rfl⟩)|(go_at_call 116;refine(Dg r n rt t k dr B _ h.up h'.up ht hlt nQ).mono ?_;rintro e w1 ⟨rfl,δ1,rfl⟩));go_roundw
     case rel=>exact⟨k+1,_,nQ,by go_num,by rw[HN.out],DG _ _ _⟩
     case measure=>simp[intOf];omega
  ·obtain rfl:k=n.aB.length:=by omega
   go_wp2;go_ret;exact⟨rfl,ag⟩
end
section
open An
def bW(n:Net):ji:=⟨n.aP.hi,n.cur.hi,n.ay.map (·.lo)⟩
def gV(n:Net):ji:=⟨n.aP.lo,n.cur.lo,n.ay.map (·.hi)⟩
theorem C8(r:eP)(n:Net)(B:Nat)(w:nJ)[hB:Le B w](h:cg B w r n)(h3:n.ay.length<=3):Calls nH 49 #[eK r n] w fun e w'=>∃(rt:pE) (δ:nJ),e=.returned (yd r n rt (bW n))/\w'=af w δ/\rX (af w δ).heap.size (af w δ) rt (bW n):=by
 go_enter Tryz.func49,Tryz.ntmps49;go_wp2_with fail;refine aL fun W1 aH=>?_;refine QAH ?_;intro cJ dF cU dA dD eI ju kR mG jE mR mQ vX xB xA AF Ku Kt Ks GX Oj;refine QAQ ?_;intro R9 Oi R8 fw25 fw26 fw27 fw28 fw29 fw30 fw31 fw32 fw33 fw34;refine QFA ?_;intro RZ UT;refine QCI ?_;intro US fw38 s1 hlen;go_loopw [16] (fun i wr=>∃(k:Nat) (A:Option Addr) (c:Nat),k<=n.ay.length/\i=.int .i64 k/\wr.ownsRow W1.heap.size 3 1 (.slice A k c) k (((n.ay.map (·.lo)).take k).flatMap aI)/\∃δ,wr=(af W1 δ).setCell ⟨w.heap.size+1+1,2,none⟩ (.slice A k c)) (fun i _=>n.ay.length-(intOf i).toNat)
 case atStart=>refine⟨0,none,0,nE _,rfl,by simpa using World.ownsRow_nil _ _ _ _,W1,?_⟩;rw[bw,fo nZ]
 case round=>
  obtain⟨k,A,c,hk,rfl,hown,δ,rfl⟩:=hrel;by_cases hlt:k<n.ay.length
  ·obtain⟨b,o,hA,hb,d0,d1⟩:=s1.sp hlt;refine QER ?_;intro ib in1 HA HO;clear hA hown;rw[HA.out];go_wp2_with (at_builtin;(refine dL W1 wo (.tmp 21) (.tmp 24) rfl rfl (HO.out.alloc _) rfl rfl nW rfl (by simp[Value.oneCell']) nQ nQ ?_);intro A' c' δ' hown');go_roundw
   case rel=>refine⟨k+1,A',c',nQ,by go_num,?_,ze (w0:=W1) δ (.slice A k c) (.slice A' (k+1) c') nZ uQ⟩;have:=ownsRow_setCell_below hown' (a:=⟨w.heap.size+1+1,2,none⟩) ju.out (.slice A' (k+1) c');rw[ry aI (n.ay.map (·.lo)) (by simpa using hlt),jC _ _ hlt];exact this
   case measure=>simp[intOf];omega
  ·obtain rfl:k=n.ay.length:=by omega
   have HO:=qh hown;clear hown;have in2:qM (w.heap.size+1) (w.heap.size+1+1):=⟨nQ⟩;go_wp2_with fail;refine bodyPost_ret (v:=yd r n ⟨A,c⟩ (bW n)) ?_ rfl ?_
   ·simp only[results,Tryz.results49];go_simp;simp[bW]
   ·refine⟨⟨A,c⟩,_,rfl,aq,?_⟩;refine QDJ ?_;have H1:=HO.out;rw[List.take_of_length_le nV] at H1;refine Sl.bU (base:=W1.heap.size) (e:=3) (size:=1) ?_;rw[show(bW n).ay.length=n.ay.length by simp[bW]];show(_:nJ).ownsRow W1.heap.size 3 1 _ _ ((n.ay.map (·.lo)).flatMap aI);iterate 10 (refine ownsRow_setCell_below (a:=⟨_,_,_⟩) ?_ eI.out _)
    exact H1
theorem Yf(r:eP)(n:Net)(B:Nat)(w:nJ)[hB:Le B w](h:cg B w r n)(h3:n.ay.length<=3):Calls nH 51 #[eK r n] w fun e w'=>∃(rt:pE) (δ:nJ),e=.returned (yd r n rt (gV n))/\w'=af w δ/\rX (af w δ).heap.size (af w δ) rt (gV n):=by
 go_enter Tryz.func51,Tryz.ntmps51;go_wp2_with fail;refine aL fun W1 aH=>?_;refine QAH ?_;intro cJ dF cU dA dD eI ju kR mG jE mR mQ vX xB xA AF Ku Kt Ks GX Oj;refine QAQ ?_;intro R9 Oi R8 fw25 fw26 fw27 fw28 fw29 fw30 fw31 fw32 fw33 fw34;have RZ:W1.cell? ⟨w.heap.size+1+1,0,none⟩=some (.int .i64 n.aP.lo):=by rw[aH.out];go_simp
 have UT:W1.cell? ⟨w.heap.size+1+1,1,none⟩=some (.int .i64 n.cur.lo):=by rw[aH.out];go_simp
 refine QCI ?_;intro US fw38 s1 hlen;go_loopw [16] (fun i wr=>∃(k:Nat) (A:Option Addr) (c:Nat),k<=n.ay.length/\i=.int .i64 k/\wr.ownsRow W1.heap.size 3 1 (.slice A k c) k (((n.ay.map (·.hi)).take k).flatMap aI)/\∃δ,wr=(af W1 δ).setCell ⟨w.heap.size+1+1,2,none⟩ (.slice A k c)) (fun i _=>n.ay.length-(intOf i).toNat)
 case atStart=>refine⟨0,none,0,nE _,rfl,by simpa using World.ownsRow_nil _ _ _ _,W1,?_⟩;rw[bw,fo nZ]
 case round=>
  obtain⟨k,A,c,hk,rfl,hown,δ,rfl⟩:=hrel;by_cases hlt:k<n.ay.length
  ·obtain⟨b,o,hA,hb,d0,d1⟩:=s1.sp hlt;refine QER ?_;intro ib in1 HA HO;clear hA hown;rw[HA.out];go_wp2_with (at_builtin;(refine dL W1 wo (.tmp 21) (.tmp 24) rfl rfl (HO.out.alloc _) rfl rfl nW rfl (by simp[Value.oneCell']) nQ nQ ?_);intro A' c' δ' hown');go_roundw
   case rel=>refine⟨k+1,A',c',nQ,by go_num,?_,ze (w0:=W1) δ (.slice A k c) (.slice A' (k+1) c') nZ uQ⟩;have:=ownsRow_setCell_below hown' (a:=⟨w.heap.size+1+1,2,none⟩) ju.out (.slice A' (k+1) c');rw[ry aI (n.ay.map (·.hi)) (by simpa using hlt),jC _ _ hlt];exact this
   case measure=>simp[intOf];omega
  ·obtain rfl:k=n.ay.length:=by omega
   have HO:=qh hown;clear hown;have in2:qM (w.heap.size+1) (w.heap.size+1+1):=⟨nQ⟩;go_wp2_with fail;refine bodyPost_ret (v:=yd r n ⟨A,c⟩ (gV n)) ?_ rfl ?_
   ·simp only[results,Tryz.results51];go_simp;simp[gV]
   ·refine⟨⟨A,c⟩,_,rfl,aq,?_⟩;refine QDJ ?_;have H1:=HO.out;rw[List.take_of_length_le nV] at H1;refine Sl.bU (base:=W1.heap.size) (e:=3) (size:=1) ?_;rw[show(gV n).ay.length=n.ay.length by simp[gV]];show(_:nJ).ownsRow W1.heap.size 3 1 _ _ ((n.ay.map (·.hi)).flatMap aI);iterate 10 (refine ownsRow_setCell_below (a:=⟨_,_,_⟩) ?_ eI.out _)
    exact H1
end
section
open An
end
section
open An
theorem Yg(a:Nat):((a:Int)==0)=decide (a=0):=by rw[Bool.eq_iff_iff];simp
theorem cg.wide{B:Nat}{w W:nJ}{r:eP}{n:Net}(h:cg B w r n)[au B w W][hB:Le B W]:cg W.heap.size W r n:=h.up.more hB.out
theorem sH{n:Net}(hv:valid n=true):jV n (bW n):=by obtain⟨h1,h2,_,_,_,h6,_,_⟩:=aD.1 hv;simp only[jM,decide_eq_true_eq] at h1 h2;refine⟨hv,dn.2 (show 0<=n.aP.hi/\n.aP.hi<=20 by omega),dn.2 (show 0<=n.cur.hi/\n.cur.hi<=20 by omega),by simp[bW],?_⟩;intro g hg;simp only[bW,List.mem_map] at hg;obtain⟨s,hs,rfl⟩:=hg;have:=(List.all_eq_true.1 h6) s hs;simp only[jM,decide_eq_true_eq] at this;exact dn.2 nQ
theorem JA{n:Net}(hv:valid n=true):jV n (gV n):=by obtain⟨h1,h2,_,_,_,h6,_,_⟩:=aD.1 hv;simp only[jM,decide_eq_true_eq] at h1 h2;refine⟨hv,dn.2 (show 0<=n.aP.lo/\n.aP.lo<=20 by omega),dn.2 (show 0<=n.cur.lo/\n.cur.lo<=20 by omega),by simp[gV],?_⟩;intro g hg;simp only[gV,List.mem_map] at hg;obtain⟨s,hs,rfl⟩:=hg;have:=(List.all_eq_true.1 h6) s hs;simp only[jM,decide_eq_true_eq] at this;exact dn.2 nQ
def pZ(a b:Bool):Int:=if a then 1 else if b then 3 else 2
theorem QN(a b:Bool)(w:nJ):Calls nH 48 #[.bool a,.bool b] w fun e w'=>e=.returned (.int .i64 (pZ a b))/\w=w':=by cases a<;>cases b;all_goals go_enter Tryz.func48,Tryz.ntmps48;go_wp2;go_ret;exact⟨rfl,rfl⟩
theorem vY(r:eP)(n:Net)(B:Nat)(w:nJ)(h:cg B w r n)[hB:Le B w](hv:valid n=true):Calls nH 47 #[eK r n] w fun e w'=>e=.returned (.int .i64 0)/\∃δ,w'=af w δ:=
 (Eb r n B w h).mono fun e w' hh=>by rw[hv] at hh;exact hh
theorem AH(r:eP)(n:Net)(B:Nat)(w:nJ)(h:cg B w r n)[hB:Le B w](hv:valid n=false):Calls nH 47 #[eK r n] w fun e w'=>e=.returned (.int .i64 20)/\∃δ,w'=af w δ:=
 (Eb r n B w h).mono fun e w' hh=>by rw[hv] at hh;exact hh
def M9(ok:Bool)(x:Int):Int:=if ok then x else 0
theorem Wr(r:eP)(n:Net)(B:Nat)(w:nJ)[hB:Le B w](h:cg B w r n):Calls nH 16 #[eK r n] w fun e w'=>e=.returned (.tuple #[.int .i64 (M9 (valid n) (pZ (decide (jT n (bW n) 0=0)) (decide (jT n (gV n) 0=0)))),.int .i64 (cC (valid n) 20)])/\∃δ,w'=af w δ:=by
 by_cases hv:valid n=true
 ·have h3:=(aD.1 hv).2.2.1;have hw:=sH hv;have hb:=JA hv;have HV:=qh hv;rw[hv];clear hv;go_enter Tryz.func16,Tryz.ntmps16;go_wp2_with (go_at_call 47;refine(vY r n B _ h.up HV.out).mono ?_;rintro e w1 ⟨rfl,δ,rfl⟩);go_region_held3 (fun W=>W.cell? ⟨w.heap.size,0,none⟩=some (.int .i64 n.aP.lo)/\W.cell? ⟨w.heap.size,1,none⟩=some (.int .i64 n.aP.hi)/\W.cell? ⟨w.heap.size,2,none⟩=some (.int .i64 n.cur.lo)/\W.cell? ⟨w.heap.size,3,none⟩=some (.int .i64 n.cur.hi) /\
    W.cell? ⟨w.heap.size,4,none⟩=some (.slice r.gA n.ay.length r.gc)/\W.cell? ⟨w.heap.size,5,none⟩=some (.slice r.aA n.aB.length r.ac)/\W.cell? ⟨w.heap.size,6,none⟩=some (.slice r.wA n.aU.length r.wc))
   (refine⟨?_,?_,?_,?_,?_,?_,?_⟩<;>go_simp)
   (first|(go_at_call 49;refine(C8 r n B _ h.up h3).mono ?_;rintro e w1 ⟨rt,δ,rfl,rfl,ht⟩)|(go_at_call 51;refine(Yf r n B _ h.up h3).mono ?_;rintro e w1 ⟨rt,δ,rfl,rfl,ht⟩)|(go_at_call 48;refine(QN _ _ _).mono ?_;rintro e w1 ⟨rfl,rfl⟩)|(go_at_call 50;refine(IE r n _ _ 0 _ _ h.wide ht.wide nZ nQ).mono ?_;rintro e w1 ⟨rfl,δ,rfl⟩))
  go_wp2_with fail;go_ret2;exact⟨by simp only[M9,cC,Yg,if_true];rfl,ag⟩
 ·rw[Bool.not_eq_true] at hv;rw[hv];have HV:=qh hv;clear hv;go_enter Tryz.func16,Tryz.ntmps16;go_wp2_with (go_at_call 47;refine(AH r n B _ h.up HV.out).mono ?_;rintro e w1 ⟨rfl,δ,rfl⟩);go_ret2;exact⟨rfl,ag⟩
open Classical in
theorem PM{a b a' b':nK}(h1:a=a')(h2:b=b'):Ending.returned (.tuple #[a,b])=Ending.returned (.tuple #[a',b']):=by rw[h1,h2]
end
section
open An
theorem Pu(r:eP)(n:Net)(rt:pE)(t:ji)(i:Nat)(B:Nat)(w:nJ)[hB:Le B w](h:cg B w r n)(h':rX B w rt t)(ht:jV n t)(hi:i<n.aB.length):Calls nH 116 #[yd r n rt t,.int .i64 i,.int .u64 0] w fun e w'=>e=.returned (.int .i64 (spare n t i (fun _=>false)))/\∃δ,w'=af w δ:=
 (Dg r n rt t i 0 B w h h' ht hi nQ).mono fun e w' ⟨he,hδ⟩=>⟨by
  have e:(fun k=>Nat.testBit 0 k)=fun _=>false:=funext fun i=>Nat.zero_testBit i
  rw[e] at he;exact he,hδ⟩
def sO(s:Sp)(k:Int):Bool:=fH s.lo s.hi k
def ru(gs:List Sp)(ts:List Int)(k:Nat):Bool:=(List.range k).all fun i=>sO (nth gs i) (nth ts i)
def uy(n:Net)(t:ji):Bool:=sO n.aP t.aP&&sO n.cur t.cur&&decide (t.ay.length=n.ay.length)&&ru n.ay t.ay t.ay.length
theorem rq{gs:List Sp}{ts:List Int}{k m:Nat}(h:ru gs ts m=true)(hk:k<m):sO (nth gs k) (nth ts k)=true:=by unfold ru at h;exact(List.all_eq_true.1 h) k (by simpa using hk)
theorem FG{n:Net}{t:ji}(hv:valid n=true)(ht:uy n t=true):jV n t:=by obtain⟨h1,h2,_,_,_,h6,_,_⟩:=aD.1 hv;simp only[uy,Bool.and_eq_true,decide_eq_true_eq] at ht;obtain⟨⟨⟨a,b⟩,c⟩,d⟩:=ht;simp only[jM,decide_eq_true_eq] at h1 h2;simp only[sO,dn] at a b;refine⟨hv,dn.2 nQ,dn.2 nQ,c,?_⟩;intro g hg;obtain⟨i,hi,rfl⟩:=List.getElem_of_mem hg;have e:=rq d hi;rw[bR _ hi] at e;have hi':i<n.ay.length:=nQ;have:=(List.all_eq_true.1 h6) _ (aV _ hi');simp only[jM,decide_eq_true_eq] at this;simp only[sO,dn] at e;exact dn.2 nQ
end
section
open An
def vM(n:Net)(x:Int):Net:={ n with aP:=⟨x,x⟩ }
def ri(n:Net)(x:Nat):Bool:=decide (jT (vM n x) (bW (vM n x)) 0≠0)
theorem wF{n:Net}(hv:valid n=true){x:Nat}(hx:x<=20):valid (vM n x)=true:=by rw[aD] at *;refine⟨?_,hv.2⟩;show jM 20 ⟨x,x⟩=true;simp only[jM,decide_eq_true_eq];omega
theorem FY(r:eP)(n:Net)(B:Nat)(w:nJ)[hB:Le B w](h:cg B w r n)(hv:valid n=true):Calls nH 252 #[eK r n,.func (.func 49) #[] #[]] w fun e w'=>e=.returned (.int .i64 (bP (ri n) 21 0))/\∃δ,w'=af w δ:=by
 have HV:=qh hv;clear hv;go_enter Tryz.func252,Tryz.ntmps252;go_wp2_with fail;go_loopw [6] (fun i wr=>∃(k:Nat) (lo hi:Int),k<=21/\i=.int .i64 k/\Hid (∀j,j<k->ri n j=false)/\ax wr w.heap.size 28 #[.int .i64 lo,.int .i64 hi,.int .i64 n.cur.lo,.int .i64 n.cur.hi,.slice r.gA n.ay.length r.gc,.slice r.aA n.aB.length r.ac,.slice r.wA n.aU.length r.wc]/\au w.heap.size w wr/\au B w wr/\Le w.heap.size wr/\Le B wr) (fun i _=>21-(intOf i).toNat)
 case atStart=>exact⟨0,n.aP.lo,n.aP.hi,nQ,rfl,fun j hj=>by omega,ax.new rfl,inferInstance,inferInstance,inferInstance,inferInstance⟩
 case round=>
  obtain⟨k,lo,hi,hk,rfl,hn,yo,i1,i2,i3,i4⟩:=hrel;have i5:=yo.lt;have c0:=yo.cell (i:=0) rfl;have c1:=yo.cell (i:=1) rfl;have c2:=yo.cell (i:=2) rfl;have c3:=yo.cell (i:=3) rfl;have c4:=yo.cell (i:=4) rfl;have c5:=yo.cell (i:=5) rfl;have c6:=yo.cell (i:=6) rfl;have f0:=yo.free 0;have f1:=yo.free 1;have HB:=qh yo;clear yo;by_cases hlt:k<21
  ·have Xo:=wF HV.out (x:=k) nQ;have h3:(vM n k).ay.length<=3:=(aD.1 Xo).2.2.1;have hw:=sH Xo;have hin:cg B w r (vM n k):=h;by_cases hh:jT (vM n k) (bW (vM n k)) 0=0;all_goals have DS:=hh
   ·have HH:=qh hh;have he:(jT (vM n k) (bW (vM n k)) 0:Int)=0:=nQ;clear hh DS Xo;go_wp2_with (first|(go_at_call 49;refine(C8 r (vM n k) B _ hin.up h3).mono ?_;rintro e w1 ⟨rt,δ,rfl,rfl,ht⟩)|(go_at_call 50;refine(IE r (vM n k) _ _ 0 _ _ hin.wide ht.wide hw nQ).mono ?_;rintro e w1 ⟨rfl,δ,rfl⟩));go_roundw
    case rel=>
     refine⟨k+1,k,k,nQ,by go_num,?_,((((HB.out.set 0 _).set 1 _).af _).af _),inferInstance,inferInstance,inferInstance,inferInstance⟩;intro j hj;by_cases Uw:j=k
     ·subst Uw;simp[ri,HH.out]
     ·exact hn.out j nQ
    case measure=>simp[intOf];omega
   ·have hne:((jT (vM n k) (bW (vM n k)) 0:Int) != 0)=true:=by simp;omega
    have HF:=qh (sX (ri n) hlt hn.out (by simp[ri,hh]));clear hh DS Xo;go_wp2_with (first|(go_at_call 49;refine(C8 r (vM n k) B _ hin.up h3).mono ?_;rintro e w1 ⟨rt,δ,rfl,rfl,ht⟩)|(go_at_call 50;refine(IE r (vM n k) _ _ 0 _ _ hin.wide ht.wide hw nQ).mono ?_;rintro e w1 ⟨rfl,δ,rfl⟩));go_ret;exact⟨cG (by rw[HF.out]),ag⟩
  ·obtain rfl:k=21:=by omega
   have HF:=qh (p6 (ri n) hn.out);go_wp2_with fail;go_ret;exact⟨cG (by rw[HF.out];rfl),ag⟩
def ud(v:Bool)(k:Nat):Int:=if v then (if k=21 then 0 else k) else 0
def ue(v:Bool)(k:Nat):Int:=if v then (if k=21 then 3 else 0) else 20
theorem S8(r:eP)(n:Net)(B:Nat)(w:nJ)[hB:Le B w](h:cg B w r n):Calls nH 223 #[eK r n,.func (.func 49) #[] #[]] w fun e w'=>e=.returned (.tuple #[.int .i64 (ud (valid n) (bP (ri n) 21 0)),.int .i64 (ue (valid n) (bP (ri n) 21 0))])/\∃δ,w'=af w δ:=by
 by_cases hv:valid n=true;all_goals try rw[Bool.not_eq_true] at hv
 all_goals have HV:=qh hv;rw[hv];clear hv
 ·have hX:∃X,X=bP (ri n) 21 0:=⟨_,rfl⟩;obtain⟨X,hX⟩:=hX;rw[<-hX];have HX:=qh hX;clear hX;by_cases hx:X=21
  ·subst hx;go_enter Tryz.func223,Tryz.ntmps223;go_wp2_with (first|(go_at_call 47;refine(vY r n B _ h.up HV.out).mono ?_;rintro e w1 ⟨rfl,δ,rfl⟩)|(go_at_call 252;refine(FY r n B _ h.up HV.out).mono ?_;rw[<-HX.out];rintro e w1 ⟨rfl,δ,rfl⟩));go_ret2;exact⟨rfl,ag⟩
  ·have hne:((X:Int)==21)=false:=by simp;omega
   have HN:=qh hx;clear hx;go_enter Tryz.func223,Tryz.ntmps223;go_wp2_with (first|(go_at_call 47;refine(vY r n B _ h.up HV.out).mono ?_;rintro e w1 ⟨rfl,δ,rfl⟩)|(go_at_call 252;refine(FY r n B _ h.up HV.out).mono ?_;rw[<-HX.out];rintro e w1 ⟨rfl,δ,rfl⟩));go_ret2;exact⟨PM (int_eq (by simp[ud,HN.out])) (int_eq (by simp[ue,HN.out])),ag⟩
 ·go_enter Tryz.func223,Tryz.ntmps223;go_wp2_with (go_at_call 47;refine(AH r n B _ h.up HV.out).mono ?_;rintro e w1 ⟨rfl,δ,rfl⟩);go_ret2;exact⟨rfl,ag⟩
theorem Wg(r:eP)(n:Net)(B:Nat)(w:nJ)[hB:Le B w](h:cg B w r n):Calls nH 165 #[eK r n] w fun e w'=>e=.returned (.tuple #[.int .i64 (ud (valid n) (bP (ri n) 21 0)),.int .i64 (ue (valid n) (bP (ri n) 21 0))])/\∃δ,w'=af w δ:=by go_enter Tryz.func165,Tryz.ntmps165;go_wp2_with (go_at_call 223;refine(S8 r n B _ h.up).mono ?_;rintro e w1 ⟨rfl,δ,rfl⟩);go_ret2;exact⟨rfl,ag⟩
end
end Go.Proofs.YtdmedlkonaclnaaGreatDoor
