/- A part of the proof that the statement HeadmanRunCardSaid holds, cut small by a program (names and blanks): Ha1, Ha2. -/
import Derived.Test.YtcjjlikhlmfedaaGreatDoorZ1
set_option maxRecDepth 100000
set_option maxHeartbeats 40000000
set_option linter.unusedVariables false
set_option linter.unusedSimpArgs false
namespace Go.Proofs.YtcjjlikhlmfedaaGreatDoor
open Go.RowKit
open Nat renaming lt_of_lt_of_le → nL, zero_le → nE, lt_of_le_of_lt → nO
open Go.Proofs.Tryz renaming prog → nH
open Go renaming World → nJ, Value → nK
namespace An
structure Sp where
 lo:Int
 hi:Int
structure ze where
 wt:Int
 bt:Int
structure EX where
 uJ:Int
 vj:Int
 lean:Int
 vP:Int
 qB:Int
structure Net where
 aN:Sp
 cur:Sp
 au:List Sp
 ay:List ze
 aQ:List EX
structure iD where
 aN:Int
 cur:Int
 au:List Int
instance:Inhabited Sp:=⟨⟨0,0⟩⟩
instance:Inhabited ze:=⟨⟨0,0⟩⟩
instance:Inhabited EX:=⟨⟨0,0,0,0,0⟩⟩
def jf(m:Int)(s:Sp):Bool:=decide (0<=s.lo/\s.lo<=s.hi/\s.hi<=m)
def kY(bots:Nat)(a:ze):Bool:=decide (0<=a.wt/\a.wt<=20/\0<=a.bt/\a.bt<bots)
def oZ(w:EX):Bool:=decide (0<=w.uJ/\w.uJ<=9/\0<=w.vj/\w.vj<=9/\0<=w.lean/\w.lean<=9/\0<=w.vP/\w.vP<=99/\0<=w.qB/\w.qB<=99)
def lW(xs:List Sp):Bool:=xs.all (jf 9)
def jC(g:Nat)(xs:List ze):Bool:=xs.all (kY g)
def lN(xs:List EX):Bool:=xs.all oZ
def valid(n:Net):Bool:=
 jf 20 n.aN&&jf 20 n.cur&&decide (n.au.length<=3)&&decide (n.ay.length<=6)&&decide (n.aQ.length=n.ay.length-1)&&lW n.au&&jC n.au.length n.ay&&lN n.aQ
theorem az{n:Net}:valid n=true↔jf 20 n.aN=true/\jf 20 n.cur=true/\n.au.length<=3/\n.ay.length<=6/\n.aQ.length=n.ay.length-1/\lW n.au=true/\jC n.au.length n.ay=true/\lN n.aQ=true:=by simp[valid,and_assoc]
def xK(x:EX)(wi cu:Int):Int:=x.uJ*wi+x.vj*cu
def ld(n:Net)(t:iD)(k:Nat):Int:=xK (nth n.aQ k) t.aN t.cur
def side(n:Net)(t:iD)(d:Nat->Bool)(k o:Nat):Int:=ld n t k*(if d o then 2 else 1)
def bears(n:Net)(t:iD)(i:Nat)(d:Nat->Bool):Int:=
 (if 0<i then side n t d (i-1) (i-1) else 0)+(if i<n.aQ.length then side n t d i (i+1) else 0)
def can(n:Net)(t:iD)(i:Nat):Int:=2*(nth n.ay i).wt*nth t.au (nth n.ay i).bt.toNat
def spare(n:Net)(t:iD)(i:Nat)(d:Nat->Bool):Int:=can n t i-bears n t i d
def jn(n:Net)(t:iD):Prop:=valid n=true/\fj 0 20 t.aN=true/\fj 0 20 t.cur=true/\t.au.length=n.au.length/\∀g∈t.au,fj 0 9 g=true
theorem uT{a b A B:Int}(h0:0<=a)(h1:a<=A)(h2:0<=b)(h3:b<=B):0<=a*b/\a*b<=A*B:=
 ⟨Int.mul_nonneg h0 h2,Int.mul_le_mul h1 h3 h2 (Int.le_trans h0 h1)⟩
theorem GC{x:EX}{wi cu:Int}(hx:oZ x=true)(hw:fj 0 20 wi=true)(hc:fj 0 20 cu=true):0<=x.uJ*wi/\x.uJ*wi<=180/\0<=x.vj*cu/\x.vj*cu<=180/\0<=xK x wi cu/\xK x wi cu<=360:=by simp only[oZ,fj,decide_eq_true_eq] at *;have h1:=uT hx.1 hx.2.1 hw.1 hw.2;have h2:=uT hx.2.2.1 hx.2.2.2.1 hc.1 hc.2;unfold xK;omega
theorem mE{n:Net}(hv:valid n=true){k:Nat}(hk:k<n.aQ.length):oZ (nth n.aQ k)=true:=by have:=(az.1 hv).2.2.2.2.2.2.2;unfold lN at this;exact(List.all_eq_true.1 this) _ (aS _ hk)
theorem kH{n:Net}(hv:valid n=true){k:Nat}(hk:k<n.ay.length):kY n.au.length (nth n.ay k)=true:=by have:=(az.1 hv).2.2.2.2.2.2.1;unfold jC at this;exact(List.all_eq_true.1 this) _ (aS _ hk)
theorem DA{n:Net}{t:iD}(h:jn n t){k:Nat}(hk:k<n.aQ.length):0<=ld n t k/\ld n t k<=360:=by have:=GC (mE h.1 hk) h.2.1 h.2.2.1;unfold ld;omega
theorem tj{n:Net}{t:iD}(h:jn n t){d:Nat->Bool}{k o:Nat}(hk:k<n.aQ.length):0<=side n t d k o/\side n t d k o<=720:=by have:=DA h hk;unfold side;split<;>omega
theorem uy{n:Net}{t:iD}(h:jn n t){d:Nat->Bool}{i:Nat}(hi:i<n.ay.length):0<=bears n t i d/\bears n t i d<=1440:=by
 have hw:=(az.1 h.1).2.2.2.2.1;unfold bears;by_cases h1:0<i
 ·have a:=tj h (d:=d) (k:=i-1) (o:=i-1) nQ;by_cases h2:i<n.aQ.length
  ·have b:=tj h (d:=d) (k:=i) (o:=i+1) h2;simp only[h1,h2,if_true];omega
  ·simp only[h1,h2,if_true,if_false];omega
 ·by_cases h2:i<n.aQ.length
  ·have b:=tj h (d:=d) (k:=i) (o:=i+1) h2;simp only[h1,h2,if_true,if_false];omega
  ·simp only[h1,h2,if_false];omega
theorem BW{n:Net}{t:iD}(h:jn n t){i:Nat}(hi:i<n.ay.length):0<=(nth n.ay i).wt/\(nth n.ay i).wt<=20/\0<=(nth n.ay i).bt/\(nth n.ay i).bt.toNat<t.au.length/\0<=nth t.au (nth n.ay i).bt.toNat/\nth t.au (nth n.ay i).bt.toNat<=9/\0<=can n t i/\can n t i<=360:=by
 have ha:=kH h.1 hi;simp only[kY,decide_eq_true_eq] at ha;have hb:(nth n.ay i).bt.toNat<t.au.length:=by rw[h.2.2.2.1];omega
 have hg:=h.2.2.2.2 _ (aS _ hb);simp only[fj,decide_eq_true_eq] at hg;have:=uT (a:=2*(nth n.ay i).wt) (A:=40) nQ nQ hg.1 hg.2;unfold can;omega
end An
section
open An
def fX(x:Sp):List nK:=[.int .i64 x.lo,.int .i64 x.hi]
def cG(x:ze):List nK:=[.int .i64 x.wt,.int .i64 x.bt]
def eY(x:EX):List nK:=[.int .i64 x.uJ,.int .i64 x.vj,.int .i64 x.lean,.int .i64 x.vP,.int .i64 x.qB]
section
variable{B:Nat}{w:nJ}{A:Option Addr}{c:Nat}
theorem Sl.sp{xs:List Sp}(h:Sl fX B w A c xs){k:Nat}(hk:k<xs.length):∃b o,A=some ⟨b,o,none⟩/\b<B/\w.cell? ⟨b,o+k*2,none⟩=some (.int .i64 (nth xs k).lo)/\w.cell? ⟨b,o+k*2+1,none⟩=some (.int .i64 (nth xs k).hi):=by obtain⟨b,o,hA,hb,hc⟩:=h.at_ (size:=2) (fun _=>rfl) hk nQ;rw[bV _ hk];exact⟨b,o,hA,hb,hc 0 _ rfl,hc 1 _ rfl⟩
theorem Sl.Un{xs:List ze}(h:Sl cG B w A c xs){k:Nat}(hk:k<xs.length):∃b o,A=some ⟨b,o,none⟩/\b<B/\w.cell? ⟨b,o+k*2,none⟩=some (.int .i64 (nth xs k).wt)/\w.cell? ⟨b,o+k*2+1,none⟩=some (.int .i64 (nth xs k).bt):=by obtain⟨b,o,hA,hb,hc⟩:=h.at_ (size:=2) (fun _=>rfl) hk nQ;rw[bV _ hk];exact⟨b,o,hA,hb,hc 0 _ rfl,hc 1 _ rfl⟩
theorem Sl.RR{xs:List EX}(h:Sl eY B w A c xs){k:Nat}(hk:k<xs.length):∃b o,A=some ⟨b,o,none⟩/\b<B/\w.cell? ⟨b,o+k*5,none⟩=some (.int .i64 (nth xs k).uJ)/\w.cell? ⟨b,o+k*5+1,none⟩=some (.int .i64 (nth xs k).vj)/\w.cell? ⟨b,o+k*5+2,none⟩=some (.int .i64 (nth xs k).lean)/\w.cell? ⟨b,o+k*5+3,none⟩=some (.int .i64 (nth xs k).vP)/\w.cell? ⟨b,o+k*5+4,none⟩=some (.int .i64 (nth xs k).qB):=by obtain⟨b,o,hA,hb,hc⟩:=h.at_ (size:=5) (fun _=>rfl) hk nQ;rw[bV _ hk];exact⟨b,o,hA,hb,hc 0 _ rfl,hc 1 _ rfl,hc 2 _ rfl,hc 3 _ rfl,hc 4 _ rfl⟩
end
structure eD where
 gA:Option Addr
 gc:Nat
 aA:Option Addr
 ac:Nat
 wA:Option Addr
 wc:Nat
abbrev ew(r:eD)(n:Net):nK:=.agg #[.int .i64 n.aN.lo,.int .i64 n.aN.hi,.int .i64 n.cur.lo,.int .i64 n.cur.hi,.slice r.gA n.au.length r.gc,.slice r.aA n.ay.length r.ac,.slice r.wA n.aQ.length r.wc]
def cj(B:Nat)(w:nJ)(r:eD)(n:Net):Prop:=Sl fX B w r.gA r.gc n.au/\Sl cG B w r.aA r.ac n.ay/\Sl eY B w r.wA r.wc n.aQ
section
variable{B:Nat}{w:nJ}{r:eD}{n:Net}
@[go_sem] theorem Uu:cj B w.drew r n↔cj B w r n:=Iff.rfl
theorem cj.up{w':nJ}(h:cj B w r n)[hg:aC B w w']:cj B w' r n:=⟨h.1.up,h.2.1.up,h.2.2.up⟩
theorem cj.more(h:cj B w r n){B':Nat}(hB:B<=B'):cj B' w r n:=⟨h.1.more hB,h.2.1.more hB,h.2.2.more hB⟩
end
theorem rj(n low high:Int)(w:nJ):Calls nH 58 #[.int .i64 n,.int .i64 low,.int .i64 high] w fun e w'=>e=.returned (.bool (fj low high n))/\w=w':=by go_enter Tryz.func58,Tryz.ntmps58;go_wp2_with (go_at_call 104;refine(wO _ _ _ _).mono ?_;rintro e w1 ⟨rfl,rfl⟩);go_ret;exact⟨rfl,rfl⟩
def jr(xs:List Int)(x:Int):Bool:=decide (x∈xs)
theorem Bx(A:Option Addr)(c:Nat)(xs:List Int)(x:Int)(B:Nat)(w:nJ)(h:Sl aH B w A c xs):Calls nH 153 #[.slice A xs.length c,.int .i64 x] w fun e w'=>e=.returned (.bool (jr xs x))/\w=w':=by
 have hl:=h.len;go_enter Tryz.func153,Tryz.ntmps153;go_wp2;go_loop [5] (fun i=>∃k:Nat,k<=xs.length/\i=.int .i64 k/\Hid (x∉xs.take k)) (fun i=>xs.length-(intOf i).toNat)
 case atStart=>exact⟨0,nE _,rfl,by simp[Hid]⟩
 case round=>
  obtain⟨k,hk,rfl,hn⟩:=hrel;by_cases hlt:k<xs.length
  ·obtain⟨b,o,rfl,hb,hc⟩:=h.int hlt;have hm:=qh (aS xs hlt);have ht:=qh (bu xs hlt);by_cases he:nth xs k=x
   ·subst he;go_wp2;go_ret;exact⟨aW (by simpa [jr] using hm.out),rfl⟩
   ·have he':(nth xs k==x)=false:=by simpa using he
    go_wp2;go_round
    case rel=>refine⟨k+1,nQ,by go_num,?_⟩;have:=hn.out;unfold Hid;rw[ht.out];simp[this,Ne.symm he]
    case measure=>simp[intOf];omega
  ·obtain rfl:k=xs.length:=by omega
   go_wp2;go_ret;refine⟨aW ?_,rfl⟩;have:=hn.out;simpa [jr] using this
theorem QH(so all:Int)(w:nJ):Calls nH 195 #[.int .i64 so,.int .i64 all] w fun e w'=>e=.returned (.int .i64 (xO so all))/\w=w':=by
 by_cases h1:so=0
 ·subst h1;go_enter Tryz.func195,Tryz.ntmps195;go_wp2;go_ret;exact⟨rfl,rfl⟩
 ·have h1':(so==0)=false:=by simpa using h1
  by_cases h2:so=all
  ·subst h2;go_enter Tryz.func195,Tryz.ntmps195;go_wp2;go_ret;exact⟨cB (by simp[xO,h1]),rfl⟩
  ·have h2':(so==all)=false:=by simpa using h2
   go_enter Tryz.func195,Tryz.ntmps195;go_wp2;go_ret;exact⟨cB (by simp[xO,h1,h2]),rfl⟩
theorem Ai(jZ x:Int)(b:Nat)(w:nJ)(hc:w.cell? ⟨b,0,none⟩=some (.int .i64 jZ)):Calls nH 99 #[.int .i64 x,.pointer (some ⟨b,0,none⟩)] w fun e w'=>e=.returned (.bool (!fj 0 jZ x))/\w=w':=by
 go_enter Tryz.func99,Tryz.ntmps99;by_cases h1:x<0
 ·go_wp2;go_ret;exact⟨aW (by simp[fj];omega),rfl⟩
 ·go_wp2;go_ret;exact⟨aW (by rw[Bool.eq_iff_iff];simp[fj];omega),rfl⟩
theorem DL(jZ:Int)(b:Nat)(A:Option Addr)(c:Nat)(xs:List Int)(B:Nat)(w:nJ)(h:Sl aH B w A c xs)(hc:w.cell? ⟨b,0,none⟩=some (.int .i64 jZ)):Calls nH 103 #[.slice A xs.length c,.func (.func 99) #[] #[.pointer (some ⟨b,0,none⟩)]] w fun e w'=>(∃n:Int,e=.returned (.int .i64 n)/\decide (0<=n) = !Cb jZ xs)/\w=w':=by
 have hl:=h.len;go_enter Tryz.func103,Tryz.ntmps103;go_wp2;go_loop [8] (fun i=>∃k:Nat,k<=xs.length/\i=.int .i64 k/\Hid ((xs.take k).all (fj 0 jZ)=true)) (fun i=>xs.length-(intOf i).toNat)
 case atStart=>exact⟨0,nE _,rfl,by simp[Hid]⟩
 case round=>
  obtain⟨k,hk,rfl,hn⟩:=hrel;by_cases hlt:k<xs.length
  ·obtain⟨b',o,rfl,hb,LV⟩:=h.int hlt;have hm:=qh (aS xs hlt);have ht:=qh (bu xs hlt);by_cases he:fj 0 jZ (nth xs k)=true
   ·go_wp2_with (go_at_call 99;refine(Ai jZ _ b _ hc).mono ?_;rintro e w1 ⟨rfl,rfl⟩);go_round
    case rel=>refine⟨k+1,nQ,by go_num,?_⟩;refine QCS ?_;simp[he]
    case measure=>simp[intOf];omega
   ·rw[Bool.not_eq_true] at he;go_wp2_with (go_at_call 99;refine(Ai jZ _ b _ hc).mono ?_;rintro e w1 ⟨rfl,rfl⟩);go_ret;refine⟨⟨k,rfl,?_⟩,rfl⟩;have:Cb jZ xs=false:=by rw[Cb,List.all_eq_false];exact⟨_,hm.out,by simp[he]⟩
    rw[this];simp
  ·obtain rfl:k=xs.length:=by omega
   go_wp2;go_ret;refine⟨⟨-1,rfl,?_⟩,rfl⟩;have:=hn.out;rw[List.take_length] at this;rw[Cb,this];rfl
end
section
open An
theorem Ur{α:Type}{enc:α->List nK}{W:nJ}(xs:List α){T:TypeId}{b c:Nat}{cs:Array nK}(hb:b=W.heap.size)(hn:xs.length<=c)(hc:c<=9223372036854775807)(hcs:cs.toList=xs.flatMap enc):Sl enc (b+1) (W.alloc (.cells cs T)) (some ⟨b,0,none⟩) c xs:=by refine⟨hn,hc,fun _=>⟨_,_,rfl,nQ,fun j v hj=>?_⟩⟩;rw[World.cell?_alloc_at _ _ _ _ hb,<-Array.getElem?_toList,hcs];simpa using hj
theorem Ny(jZ:Int)(A:Option Addr)(c:Nat)(xs:List Int)(B:Nat)(w:nJ)(h:Sl aH B w A c xs)[hB:Le B w]:Calls nH 44 #[.int .i64 jZ,.slice A xs.length c] w fun e w'=>e=.returned (.bool (Cb jZ xs))/\∃δ,w'=af w δ:=by go_enter Tryz.func44,Tryz.ntmps44;go_wp2_with (first|(go_at_call 55;go_in)|(go_at_call 103;refine(DL jZ _ _ _ _ B _ h.up nW).mono ?_;rintro e w1 ⟨⟨n,rfl,hn⟩,rfl⟩));go_ret;exact⟨aW nV,ag⟩
theorem uZ(jZ:Int)(b k:Nat)(arr:Array nK)(T:TypeId)(W:nJ)(hb:b=W.heap.size)(hk:arr.size=k)(hs:k<=100)(YM:arr.toList=(arr.toList.map intOf).flatMap aH):Calls nH 44 #[.int .i64 jZ,.slice (some ⟨b,0,none⟩) k k] (W.alloc (.cells arr T)) fun e w'=>e=.returned (.bool (Cb jZ (arr.toList.map intOf)))/\∃δ,w'=af (W.alloc (.cells arr T)) δ:=by
 have hl:(arr.toList.map intOf).length=k:=by simpa using hk
 have hS:Sl aH (b+1) (W.alloc (.cells arr T)) (some ⟨b,0,none⟩) k (arr.toList.map intOf):=Ur _ hb nQ nQ YM;have hB:Le (b+1) (W.alloc (.cells arr T)):=⟨by subst hb;simp⟩;have:=Ny jZ (some ⟨b,0,none⟩) k (arr.toList.map intOf) (b+1) _ hS;rw[hl] at this;exact this
theorem DJ(s:Sp)(m:Int)(w:nJ):Calls nH 39 #[.agg #[.int .i64 s.lo,.int .i64 s.hi],.int .i64 m] w fun e w'=>e=.returned (.bool (jf m s))/\∃δ,w'=af w δ:=by go_enter Tryz.func39,Tryz.ntmps39;go_wp2_with (go_at_call 44;refine(uZ _ _ _ _ _ _ nW nY nQ nY).mono ?_;rintro e w1 ⟨rfl,δ,rfl⟩);all_goals go_ret;exact⟨aW (by rw[Bool.eq_iff_iff];simp[Cb,fj,intOf,jf] at *;omega),ag⟩
theorem Et(s:Sp)(w:nJ):Calls nH 41 #[.agg #[.int .i64 s.lo,.int .i64 s.hi]] w fun e w'=>e=.returned (.bool (jf 9 s))/\∃δ,w'=af w δ:=by go_enter Tryz.func41,Tryz.ntmps41;go_wp2_with (go_at_call 39;refine(DJ s 9 _).mono ?_;rintro e w1 ⟨rfl,δ,rfl⟩);go_ret;exact⟨rfl,ag⟩
theorem Es(a:ze)(b g:Nat)(gA:Option Addr)(gc:Nat)(w:nJ)[hb:Lt b w](hg:g<=9223372036854775807)(hc:w.cell? ⟨b,4,none⟩=some (.slice gA g gc)):Calls nH 43 #[.agg #[.int .i64 a.wt,.int .i64 a.bt],.pointer (some ⟨b,0,none⟩)] w fun e w'=>e=.returned (.bool (kY g a))/\∃δ,w'=af w δ:=by go_enter Tryz.func43,Tryz.ntmps43;go_wp2_with (go_at_call 44;refine(uZ _ _ _ _ _ _ nW nY nQ nY).mono ?_;rintro e w1 ⟨rfl,δ,rfl⟩);all_goals go_ret;exact⟨aW (by rw[Bool.eq_iff_iff];simp[Cb,fj,intOf,kY] at *;omega),ag⟩
theorem Er(x:EX)(w:nJ):Calls nH 46 #[.agg #[.int .i64 x.uJ,.int .i64 x.vj,.int .i64 x.lean,.int .i64 x.vP,.int .i64 x.qB]] w fun e w'=>e=.returned (.bool (oZ x))/\∃δ,w'=af w δ:=by go_enter Tryz.func46,Tryz.ntmps46;go_wp2_with (go_at_call 44;refine(uZ _ _ _ _ _ _ nW nY nQ nY).mono ?_;rintro e w1 ⟨rfl,δ,rfl⟩);all_goals go_ret;exact⟨aW (by rw[Bool.eq_iff_iff];simp[Cb,fj,intOf,oZ] at *;omega),ag⟩
theorem Lb(A:Option Addr)(ln c:Nat)(xs:List Sp)(B:Nat)(w:nJ)(h:Sl fX B w A c xs)(hn:xs.length=ln)[hB:Le B w]:Calls nH 40 #[.slice A ln c,.func (.func 41) #[] #[]] w fun e w'=>e=.returned (.bool (lW xs))/\∃δ,w'=af w δ:=by
 subst hn;have hl:=h.len;go_enter Tryz.func40,Tryz.ntmps40;go_wp2;go_loopw [9] (fun i wr=>∃(k:Nat) (δ:nJ),k<=xs.length/\i=.int .i64 k/\Hid ((xs.take k).all (jf 9)=true)/\wr=af w δ) (fun i _=>xs.length-(intOf i).toNat)
 case atStart=>exact⟨0,w,nE _,rfl,by simp[Hid],(aY w).symm⟩
 case round=>
  obtain⟨k,δ,hk,rfl,hn,rfl⟩:=hrel;by_cases hlt:k<xs.length
  ·obtain⟨b',o,rfl,hb,hc0,xX⟩:=h.sp hlt;refine QDI ?_;intro hb' hm ht;by_cases he:jf 9 (nth xs k)=true
   ·go_wp2_with (go_at_call 41;refine(Et (nth xs k) _).mono ?_;rintro e w1 ⟨rfl,δ1,rfl⟩);go_roundw
    case rel=>refine⟨k+1,_,nQ,by go_num,?_,aq⟩;refine QCS ?_;simp[he]
    case measure=>simp[intOf];omega
   ·rw[Bool.not_eq_true] at he;go_wp2_with (go_at_call 41;refine(Et (nth xs k) _).mono ?_;rintro e w1 ⟨rfl,δ1,rfl⟩);go_ret;refine⟨aW ?_,ag⟩;have:lW xs=false:=by rw[lW,List.all_eq_false];exact⟨_,hm.out,by simp[he]⟩
    exact this.symm
  ·obtain rfl:k=xs.length:=by omega
   go_wp2;go_ret;refine⟨aW ?_,ag⟩;have:=hn.out;rw[List.take_length] at this;exact this.symm
theorem Hj(A:Option Addr)(ln c:Nat)(xs:List ze)(bx g:Nat)(gA:Option Addr)(gc:Nat)(B:Nat)(w:nJ)(h:Sl cG B w A c xs)(hn:xs.length=ln)[hB:Le B w][hx:Lt bx w](hg:g<=9223372036854775807)(hcx:w.cell? ⟨bx,4,none⟩=some (.slice gA g gc)):Calls nH 42 #[.slice A ln c,.func (.func 43) #[] #[.pointer (some ⟨bx,0,none⟩)]] w fun e w'=>e=.returned (.bool (jC g xs))/\∃δ,w'=af w δ:=by
 subst hn;have hl:=h.len;go_enter Tryz.func42,Tryz.ntmps42;go_wp2;go_loopw [9] (fun i wr=>∃(k:Nat) (δ:nJ),k<=xs.length/\i=.int .i64 k/\Hid ((xs.take k).all (kY g)=true)/\wr=af w δ) (fun i _=>xs.length-(intOf i).toNat)
 case atStart=>exact⟨0,w,nE _,rfl,by simp[Hid],(aY w).symm⟩
 case round=>
  obtain⟨k,δ,hk,rfl,hn,rfl⟩:=hrel;by_cases hlt:k<xs.length
  ·obtain⟨b',o,rfl,hb,hc0,xX⟩:=h.Un hlt;refine QDI ?_;intro hb' hm ht;by_cases he:kY g (nth xs k)=true
   ·go_wp2_with (go_at_call 43;refine(Es (nth xs k) bx g gA gc _ hg nW).mono ?_;rintro e w1 ⟨rfl,δ1,rfl⟩);go_roundw
    case rel=>refine⟨k+1,_,nQ,by go_num,?_,aq⟩;refine QCS ?_;simp[he]
    case measure=>simp[intOf];omega
   ·rw[Bool.not_eq_true] at he;go_wp2_with (go_at_call 43;refine(Es (nth xs k) bx g gA gc _ hg nW).mono ?_;rintro e w1 ⟨rfl,δ1,rfl⟩);go_ret;refine⟨aW ?_,ag⟩;have:jC g xs=false:=by rw[jC,List.all_eq_false];exact⟨_,hm.out,by simp[he]⟩
    exact this.symm
  ·obtain rfl:k=xs.length:=by omega
   go_wp2;go_ret;refine⟨aW ?_,ag⟩;have:=hn.out;rw[List.take_length] at this;exact this.symm
theorem Hi(A:Option Addr)(ln c:Nat)(xs:List EX)(B:Nat)(w:nJ)(h:Sl eY B w A c xs)(hn:xs.length=ln)[hB:Le B w]:Calls nH 45 #[.slice A ln c,.func (.func 46) #[] #[]] w fun e w'=>e=.returned (.bool (lN xs))/\∃δ,w'=af w δ:=by
 subst hn;have hl:=h.len;go_enter Tryz.func45,Tryz.ntmps45;go_wp2;go_loopw [9] (fun i wr=>∃(k:Nat) (δ:nJ),k<=xs.length/\i=.int .i64 k/\Hid ((xs.take k).all oZ=true)/\wr=af w δ) (fun i _=>xs.length-(intOf i).toNat)
 case atStart=>exact⟨0,w,nE _,rfl,by simp[Hid],(aY w).symm⟩
 case round=>
  obtain⟨k,δ,hk,rfl,hn,rfl⟩:=hrel;by_cases hlt:k<xs.length
  ·obtain⟨b',o,rfl,hb,hc0,xX,Ji,NS,hc4⟩:=h.RR hlt;refine QDI ?_;intro hb' hm ht;by_cases he:oZ (nth xs k)=true
   ·go_wp2_with (go_at_call 46;refine(Er (nth xs k) _).mono ?_;rintro e w1 ⟨rfl,δ1,rfl⟩);go_roundw
    case rel=>refine⟨k+1,_,nQ,by go_num,?_,aq⟩;refine QCS ?_;simp[he]
    case measure=>simp[intOf];omega
   ·rw[Bool.not_eq_true] at he;go_wp2_with (go_at_call 46;refine(Er (nth xs k) _).mono ?_;rintro e w1 ⟨rfl,δ1,rfl⟩);go_ret;refine⟨aW ?_,ag⟩;have:lN xs=false:=by rw[lN,List.all_eq_false];exact⟨_,hm.out,by simp[he]⟩
    exact this.symm
  ·obtain rfl:k=xs.length:=by omega
   go_wp2;go_ret;refine⟨aW ?_,ag⟩;have:=hn.out;rw[List.take_length] at this;exact this.symm
theorem BU(r:eD)(n:Net)(B:Nat)(w:nJ)(h:cj B w r n)[hB:Le B w]:Calls nH 19 #[ew r n] w fun e w'=>e=.returned (.int .i64 (cE (valid n) 20))/\∃δ,w'=af w δ:=by have l1:=h.1.len;have l2:=h.2.1.len;have l3:=h.2.2.len;go_enter Tryz.func19,Tryz.ntmps19;go_wp2_with (first|(go_at_call 39;refine(DJ _ _ _).mono ?_;rintro e w1 ⟨rfl,δ,rfl⟩)|(go_at_call 40;refine(Lb _ _ _ n.au B _ h.1.up (by first|rfl|(simp[*];done)|omega)).mono ?_;rintro e w1 ⟨rfl,δ,rfl⟩)|(go_at_call 42;refine(Hj _ _ _ n.ay w.heap.size n.au.length r.gA r.gc B _ h.2.1.up (by first|rfl|(simp[*];done)|omega) nQ nW).mono ?_;rintro e w1 ⟨rfl,δ,rfl⟩)|(go_at_call 45;refine(Hi _ _ _ n.aQ B _ h.2.2.up (by first|rfl|(simp[*];done)|omega)).mono ?_;rintro e w1 ⟨rfl,δ,rfl⟩));all_goals go_ret;refine⟨cB ?_,ag⟩;go_light;have hv:=@az n;have hz:n.aQ=[]↔n.aQ.length=0:=List.length_eq_zero_iff.symm;grind [cE,lN]
end
section
open An
theorem uN(s:Sp)(m:Int)(w:nJ):Calls nH 57 #[.agg #[.int .i64 s.lo,.int .i64 s.hi],.int .i64 m] w fun e w'=>e=.returned (.bool (jf m s))/\∃δ,w'=af w δ:=by go_enter Tryz.func57,Tryz.ntmps57;go_wp2_with (go_at_call 58;refine(rj _ _ _ _).mono ?_;rintro e w1 ⟨rfl,rfl⟩);all_goals go_ret;exact⟨aW (by grind [fj,jf]),ag⟩
theorem jm(r:eD)(n:Net)(B:Nat)(w:nJ)(h:cj B w r n)[hB:Le B w]:Calls nH 22 #[ew r n] w fun e w'=>e=.returned (.int .i64 (cE (valid n) 20))/\∃δ,w'=af w δ:=by
 have l1:=h.1.len;have l2:=h.2.1.len;have l3:=h.2.2.len;by_cases hw:n.aQ.length=n.ay.length-1;case neg=>
  obtain⟨m,hm⟩:∃m:Nat,m=n.ay.length-1:=⟨_,rfl⟩;have Jg:(if 1<(n.ay.length:Int) then (n.ay.length:Int)-1 else 0)=(m:Int):=by split<;>omega
  have hne:((n.aQ.length:Int) != (m:Int))=true:=by simp;omega
  have hv:valid n=false:=by rw[<-Bool.not_eq_true];intro hv;exact hw (az.1 hv).2.2.2.2.1
  have HV:=qh hv;clear hm hv hw;go_enter Tryz.func22,Tryz.ntmps22;go_wp2_with (go_at_call 57;refine(uN _ _ _).mono ?_;rintro e w1 ⟨rfl,δ,rfl⟩);all_goals go_ret;exact⟨cB (by rw[HV.out];rfl),ag⟩
 case pos=>
  have Jg:(if 1<(n.ay.length:Int) then (n.ay.length:Int)-1 else 0)=(n.aQ.length:Int):=by split<;>omega
  have HW:=qh hw;clear hw;go_enter Tryz.func22,Tryz.ntmps22;go_wp2_with (go_at_call 57;refine(uN _ _ _).mono ?_;rintro e w1 ⟨rfl,δ,rfl⟩);all_goals first
   |(go_ret
     refine⟨cB ?_,ag⟩
     go_light
     have hv:=@az n
     grind [cE])
   |skip
  refine aK fun W1 aE=>?_;have c4:W1.cell? ⟨w.heap.size,4,none⟩=some (.slice r.gA n.au.length r.gc):=by rw[aE.out];go_simp
  have c5:W1.cell? ⟨w.heap.size,5,none⟩=some (.slice r.aA n.ay.length r.ac):=by rw[aE.out];go_simp
  have c6:W1.cell? ⟨w.heap.size,6,none⟩=some (.slice r.wA n.aQ.length r.wc):=by rw[aE.out];go_simp
  have i1:Lt w.heap.size W1:=mb aE;have i2:Le B W1:=fR aE;have i3:aC B w W1:=iC aE;have i4:aC w.heap.size w W1:=iC aE;have i5:Le w.heap.size W1:=fR aE;have s1:Sl fX B W1 r.gA r.gc n.au:=h.1.up;have s2:Sl cG B W1 r.aA r.ac n.ay:=h.2.1.up;have s3:Sl eY B W1 r.wA r.wc n.aQ:=h.2.2.up;have F:=qh (show jf 20 n.aN=true/\jf 20 n.cur=true/\n.au.length<=3/\n.ay.length<=6 by refine⟨nZ,nZ,nQ,nQ⟩);clear Jg;go_loopw [3] (fun i wr=>∃(k:Nat) (δ:nJ),k<=n.au.length/\i=.int .i64 k/\Hid (lW (n.au.take k)=true)/\wr=af W1 δ) (fun i _=>n.au.length-(intOf i).toNat)
  case atStart=>exact⟨0,W1,nE _,rfl,by simp[Hid,lW],(aY W1).symm⟩
  case round=>
   obtain⟨k,δ,hk,rfl,hn,rfl⟩:=hrel;by_cases hlt:k<n.au.length
   ·obtain⟨b,o,hA,hb,d0,d1⟩:=s1.sp hlt;have ib:Lt b W1:=⟨nL hb i2.out⟩;rw[hA] at c4;have hm:=qh (aS n.au hlt);have ht:=qh (bu n.au hlt);clear hA;go_wp2_with (go_at_call 57;refine(uN (nth n.au k) 9 _).mono ?_;rintro e w1 ⟨rfl,δ1,rfl⟩)
    ·go_ret;refine⟨cB ?_,ag⟩;go_light;have hv:=(@az n).1;have hm:=hm.out;grind [cE,lW]
    ·go_roundw
     case rel=>refine⟨k+1,_,nQ,by go_num,?_,aq⟩;unfold Hid;have hn:=hn.out;rw[ht.out];go_light;grind [lW]
     case measure=>simp[intOf];omega
   ·obtain rfl:k=n.au.length:=by omega
    have G1:=qh (show lW n.au=true by have:=hn.out;rwa [List.take_length] at this);clear hlt hn hk;go_wp2;go_loopw [4] (fun i wr=>∃(k:Nat) (δ:nJ),k<=n.ay.length/\i=.int .i64 k/\Hid (jC n.au.length (n.ay.take k)=true)/\wr=af W1 δ) (fun i _=>n.ay.length-(intOf i).toNat)
    case atStart=>exact⟨0,δ,nE _,rfl,by simp[Hid,jC],rfl⟩
    case round=>
     obtain⟨k,δ,hk,rfl,hn,rfl⟩:=hrel;by_cases hlt:k<n.ay.length
     ·obtain⟨b,o,hA,hb,d0,d1⟩:=s2.Un hlt;have ib:Lt b W1:=⟨nL hb i2.out⟩;rw[hA] at c5;have hm:=qh (aS n.ay hlt);have ht:=qh (bu n.ay hlt);have hki:(k:Int)<(n.ay.length:Int):=nQ;have hk0:¬(k:Int)<0:=nQ;clear hA;by_cases g1:fj 0 20 (nth n.ay k).wt=true;all_goals try rw[Bool.not_eq_true] at g1
      all_goals
       go_wp2_with fail;refine wpRl ?_;repeat (go_big_quiet_step ((go_at_call 58;exact Calls.j8 (rj _ _ _ _))))
       refine QBY ?_;rintro _ ⟨δ1,rfl⟩;go_wp2
      all_goals try rw[Bool.not_eq_true] at g1
      all_goals first
       |(go_ret
         refine⟨cB ?_,ag⟩
         go_light
         have hv:=(@az n).1
         have hm:=hm.out
         grind [cE,jC,kY,fj])
       |(go_roundw
         case rel=>
          refine⟨k+1,_,nQ,by go_num,?_,aq⟩
          unfold Hid
          have hn:=hn.out
          rw[ht.out]
          go_light
          grind [jC,kY,fj]
         case measure=>simp[intOf];omega)
     ·obtain rfl:k=n.ay.length:=by omega
      have G2:=qh (show jC n.au.length n.ay=true by have:=hn.out;rwa [List.take_length] at this);clear hlt hn hk;go_wp2;go_loopw [5] (fun i wr=>∃(k:Nat) (δ:nJ),k<=n.aQ.length/\i=.int .i64 k/\Hid (lN (n.aQ.take k)=true)/\wr=af W1 δ) (fun i _=>n.aQ.length-(intOf i).toNat)
      case atStart=>exact⟨0,δ,nE _,rfl,by simp[Hid,lN],rfl⟩
      case round=>
       obtain⟨k,δ,hk,rfl,hn,rfl⟩:=hrel;by_cases hlt:k<n.aQ.length
       ·obtain⟨b,o,hA,hb,d0,d1,d2,d3,d4⟩:=s3.RR hlt;have ib:Lt b W1:=⟨nL hb i2.out⟩;rw[hA] at c6;have hm:=qh (aS n.aQ hlt);have ht:=qh (bu n.aQ hlt);have hki:(k:Int)<(n.aQ.length:Int):=nQ;have hk0:¬(k:Int)<0:=nQ;clear hA;go_wp2_with (go_at_call 58;refine(rj _ _ _ _).mono ?_;rintro e w1 ⟨rfl,rfl⟩);all_goals first
         |(go_ret
           refine⟨cB ?_,ag⟩
           go_light
           have hv:=(@az n).1
           have hm:=hm.out
           grind [cE,lN,oZ,fj])
         |(go_roundw
           case rel=>
            refine⟨k+1,_,nQ,by go_num,?_,aq⟩
            unfold Hid
            have hn:=hn.out
            rw[ht.out]
            go_light
            grind [lN,oZ,fj]
           case measure=>simp[intOf];omega)
       ·obtain rfl:k=n.aQ.length:=by omega
        have G3:lN n.aQ=true:=by have:=hn.out;rwa [List.take_length] at this
        have HV:=qh (show valid n=true from az.2 ⟨F.out.1,F.out.2.1,F.out.2.2.1,F.out.2.2.2,HW.out,G1.out,G2.out,G3⟩);clear hlt hn hk G3;go_wp2;go_ret;exact⟨cB (by rw[HV.out];rfl),ag⟩
end
section
open An
structure nu where
 tA:Option Addr
 tc:Nat
abbrev uH(rt:nu)(t:iD):nK:=.agg #[.int .i64 t.aN,.int .i64 t.cur,.slice rt.tA t.au.length rt.tc]
abbrev qp(B:Nat)(w:nJ)(rt:nu)(t:iD):Prop:=Sl aH B w rt.tA rt.tc t.au
abbrev vR(r:eD)(n:Net)(rt:nu)(t:iD):nK:=.agg #[.int .i64 n.aN.lo,.int .i64 n.aN.hi,.int .i64 n.cur.lo,.int .i64 n.cur.hi,.slice r.gA n.au.length r.gc,.slice r.aA n.ay.length r.ac,.slice r.wA n.aQ.length r.wc,.int .i64 t.aN,.int .i64 t.cur,.slice rt.tA t.au.length rt.tc]
theorem OY(s i:Nat)(hs:s<18446744073709551616):(bits BinOp.and IntKind.u64 ((s:Int) / 2 ^ i) 1==1)=s.testBit i:=by
 have h1:((s:Int) / 2 ^ i)=((s / 2 ^ i:Nat):Int):=by push_cast;rfl
 have h2:s / 2 ^ i<18446744073709551616:=nO (Nat.div_le_self _ _) hs;rw[h1,show(1:Int)=((1:Nat):Int) from rfl,u64_and_nat _ _ h2 nQ,Nat.and_one_is_mod,Nat.testBit_eq_decide_div_mod_eq,Bool.eq_iff_iff];simp only[beq_iff_eq,decide_eq_true_eq];omega
theorem Jk(s i:Nat)(w:nJ)(hs:s<18446744073709551616)(hi:i<64):Calls nH 214 #[.int .u64 s,.int .i64 i] w fun e w'=>e=.returned (.bool (s.testBit i))/\w=w':=by have hf:=qh (OY s i hs);go_enter Tryz.func214,Tryz.ntmps214;go_wp2;go_ret;exact⟨aW hf.out,rfl⟩
theorem Tx(x:EX)(wi cu:Int)(w:nJ)(hx:oZ x=true)(hw:fj 0 20 wi=true)(hc:fj 0 20 cu=true):Calls nH 254 #[.agg #[.int .i64 x.uJ,.int .i64 x.vj,.int .i64 x.lean,.int .i64 x.vP,.int .i64 x.qB],.int .i64 wi,.int .i64 cu] w fun e w'=>e=.returned (.int .i64 (xK x wi cu))/\∃δ,w'=af w δ:=by have hb:=qh (GC hx hw hc);clear hx hw hc;go_enter Tryz.func254,Tryz.ntmps254;go_wp2;go_ret;refine⟨cB ?_,ag⟩;have hb:=hb.out;rw[IA (x:=x.uJ*wi) nQ,IA (x:=x.vj*cu) nQ,IA nQ];rfl
theorem SU(n:Net)(t:iD)(wl ot:Int)(br bd bn:Nat)(wA:Option Addr)(wc:Nat)(dr:Nat)(n0:Int)(B:Nat)(w:nJ)[hB:Le B w][hr:Lt br w][hd:Lt bd w][hn:Lt bn w](ht:jn n t)(h:Sl eY B w wA wc n.aQ)(h0:w.cell? ⟨br,6,none⟩=some (.slice wA n.aQ.length wc))(h1:w.cell? ⟨br,7,none⟩=some (.int .i64 t.aN))(h2:w.cell? ⟨br,8,none⟩=some (.int .i64 t.cur))(h3:w.cell? ⟨bd,0,none⟩=some (.int .u64 dr))(h4:w.cell? ⟨bn,0,none⟩=some (.int .i64 n0))(h5:w.frozen? ⟨bn,0,none⟩=false)(hs:dr<18446744073709551616)(hi:0<=wl->wl<n.aQ.length->0<=ot/\ot<64)(hn0:0<=n0/\n0<=1000):Calls nH 253 #[.int .i64 wl,.int .i64 ot,.pointer (some ⟨br,0,none⟩),.pointer (some ⟨bd,0,none⟩),.pointer (some ⟨bn,0,none⟩)] w fun e w'=>e=.returned (.tuple #[])/\∃δ,w'=(af w δ).setCell ⟨bn,0,none⟩ (.int .i64 (n0+if 0<=wl/\wl<n.aQ.length then side n t (fun i=>dr.testBit i) wl.toNat ot.toNat else 0)):=by
 have hl:=h.len;by_cases hc:0<=wl/\wl<n.aQ.length
 ·rw[if_pos hc];obtain⟨wn,rfl⟩:=Int.eq_ofNat_of_zero_le hc.1;obtain⟨on,rfl⟩:=Int.eq_ofNat_of_zero_le (hi hc.1 hc.2).1;have NH:=(hi hc.1 hc.2).2;have hwn:wn<n.aQ.length:=nQ;have hx:=mE ht.1 hwn;have hbd:=qh (DA ht hwn);have Sc:=qh (tj ht (d:=fun i=>dr.testBit i) (o:=on) hwn);obtain⟨b,o,rfl,hb,k0,k1,k2,k3,k4⟩:=h.RR hwn;have ib:Lt b w:=⟨nL hb hB.out⟩;have hlt:(wn:Int)<(n.aQ.length:Int):=nQ;have hnn:¬(wn:Int)<0:=nQ;have xX:=ht.2.1;have Ji:=ht.2.2.1;have HE:Hid (xK (nth n.aQ wn) t.aN t.cur=ld n t wn):=qh rfl;clear hi hc ht h;by_cases Wb:dr.testBit on=true;all_goals try rw[Bool.not_eq_true] at Wb
  all_goals
   go_enter Tryz.func253,Tryz.ntmps253;go_wp2_with fail;refine wpRl ?_;repeat (go_big_quiet_step ((go_at_call 254;exact Calls.bU (Tx _ _ _ _ nZ nZ nZ))))
   refine QBY ?_;rintro _ ⟨δ,rfl⟩;go_wp2_with (go_at_call 214;refine(Jk _ _ _ nQ nQ).mono ?_;rintro e w1 ⟨rfl,rfl⟩);go_end0;refine⟨rfl,δ,?_⟩;have hbd:=hbd.out;have Sc:=Sc.out;congr 2;simp only[Int.toNat_natCast,side,Wb,HE.out,if_true] at *;first
    |(rw[IA (x:=ld n t wn*2) nQ,IA nQ];done)
    |(simp only[Bool.false_eq_true,if_false,Int.mul_one] at *;rw[IA nQ])
 ·rw[if_neg hc,Int.add_zero];have hse:w.setCell ⟨bn,0,none⟩ (.int .i64 n0)=w:=eS h4;have HS:=qh hse;have LV:wl<0\/¬wl<0/\(n.aQ.length:Int)<=wl:=nQ;clear hse hc hi;rcases LV with h'|⟨h'',h'⟩;all_goals go_enter Tryz.func253,Tryz.ntmps253;go_wp2;refine bodyPost_ret (results_none rfl _ _ _) rfl ?_;exact⟨rfl,w,by rw[aY,HS.out]⟩
end
section
open An
theorem OZ(n:Net)(t:iD)(i:Nat)(d:Nat->Bool):(if (0:Int)<=(i:Int)-1/\(i:Int)-1<n.aQ.length then side n t d ((i:Int)-1).toNat ((i:Int)-1).toNat else 0)+(if (0:Int)<=(i:Int)/\(i:Int)<n.aQ.length then side n t d (i:Int).toNat ((i:Int)+1).toNat else 0)=(if 0<i/\i-1<n.aQ.length then side n t d (i-1) (i-1) else 0)+(if i<n.aQ.length then side n t d i (i+1) else 0):=by
 have e1:((i:Int)-1).toNat=i-1:=nQ;have e2:((i:Int)+1).toNat=i+1:=nQ;rw[e1,e2,Int.toNat_natCast];congr 1
 ·by_cases h:0<i/\i-1<n.aQ.length
  ·rw[if_pos h,if_pos nQ]
  ·rw[if_neg h,if_neg nQ]
 ·by_cases h:i<n.aQ.length
  ·rw[if_pos h,if_pos nQ]
  ·rw[if_neg h,if_neg nQ]
theorem II(n:Net)(t:iD)(wl ot:Int)(br bd bn:Nat)(wA:Option Addr)(wc:Nat)(dr:Nat)(n0:Int)(v0:nK)(B:Nat)(w0 δ0:nJ)[hB:Le B w0][hr:Lt br w0][hd:Lt bd w0][hn:Lt bn w0][hb:mw B bn](ht:jn n t)(h:Sl eY B w0 wA wc n.aQ)(hne:br≠bn)(Yw:bd≠bn)(h0:w0.cell? ⟨br,6,none⟩=some (.slice wA n.aQ.length wc))(h1:w0.cell? ⟨br,7,none⟩=some (.int .i64 t.aN))(h2:w0.cell? ⟨br,8,none⟩=some (.int .i64 t.cur))(h3:w0.cell? ⟨bd,0,none⟩=some (.int .u64 dr))(h4:w0.cell? ⟨bn,0,none⟩=some v0)(h5:w0.frozen? ⟨bn,0,none⟩=false)(hs:dr<18446744073709551616)(hi:0<=wl->wl<n.aQ.length->0<=ot/\ot<64)(hn0:0<=n0/\n0<=1000):Calls nH 253 #[.int .i64 wl,.int .i64 ot,.pointer (some ⟨br,0,none⟩),.pointer (some ⟨bd,0,none⟩),.pointer (some ⟨bn,0,none⟩)] ((af w0 δ0).setCell ⟨bn,0,none⟩ (.int .i64 n0)) fun e w'=>e=.returned (.tuple #[])/\∃δ,w'=(af w0 δ).setCell ⟨bn,0,none⟩ (.int .i64 (n0+if 0<=wl/\wl<n.aQ.length then side n t (fun i=>dr.testBit i) wl.toNat ot.toNat else 0)):=by
 have e0:∀b o,Lt b w0->b≠bn->((af w0 δ0).setCell ⟨bn,0,none⟩ (.int .i64 n0)).cell? ⟨b,o,none⟩=w0.cell? ⟨b,o,none⟩:=fun b o _ hne=>by rw[World.cell?_setCell_other _ _ _ _ nV,uw]
 refine(SU n t wl ot br bd bn wA wc dr n0 B _ ht h.up (by rw[e0 _ _ hr hne];exact h0) (by rw[e0 _ _ hr hne];exact h1) (by rw[e0 _ _ hr hne];exact h2) (by rw[e0 _ _ hd Yw];exact h3)
  (World.cell?_setCell_same _ _ _ (u:=v0) (by rw[uw];exact h4)) nW hs hi hn0).mono ?_
 rintro e w' ⟨rfl,δ,rfl⟩;obtain⟨δ',hδ⟩:=DE (w0:=w0) δ0 δ (.int .i64 n0) (.int .i64 (n0+if 0<=wl/\wl<n.aQ.length then side n t (fun i=>dr.testBit i) wl.toNat ot.toNat else 0)) h4;exact⟨rfl,δ',hδ⟩
theorem Ry(r:eD)(n:Net)(rt:nu)(t:iD)(i:Nat)(dr:Nat)(B:Nat)(w:nJ)[hB:Le B w](h:cj B w r n)(ht:jn n t)(hi:i<n.ay.length)(hs:dr<18446744073709551616):Calls nH 223 #[vR r n rt t,.int .i64 i,.int .u64 dr] w fun e w'=>e=.returned (.int .i64 (bears n t i (fun k=>dr.testBit k)))/\∃δ,w'=af w δ:=by
 have hv:=az.1 ht.1;have hw:=hv.2.2.2.2.1;have h6:=hv.2.2.2.1;have hbd:=uy ht (d:=fun k=>dr.testBit k) hi;have s1:∀k o,k<n.aQ.length->0<=side n t (fun k=>dr.testBit k) k o/\side n t (fun k=>dr.testBit k) k o<=720:=fun k o hk=>tj ht hk;have hX:∃X:Int,X=(if (0:Int)<=(i:Int)-1/\(i:Int)-1<n.aQ.length then side n t (fun k=>dr.testBit k) ((i:Int)-1).toNat ((i:Int)-1).toNat else 0)/\0<=X/\X<=720:=by
  refine⟨_,rfl,?_⟩;split
  ·exact s1 _ _ nQ
  ·omega
 obtain⟨X,hX,x0,x1⟩:=hX;have hE:bears n t i (fun k=>dr.testBit k)=X+(if (0:Int)<=(i:Int)/\(i:Int)<n.aQ.length then side n t (fun k=>dr.testBit k) (i:Int).toNat ((i:Int)+1).toNat else 0):=by
  rw[hX,OZ];unfold bears;congr 1;by_cases h0:0<i
  ·rw[if_pos h0,if_pos ⟨h0,nQ⟩]
  ·rw[if_neg h0,if_neg (fun h=>h0 h.1)]
 have HX:=qh hX;have HE:=qh hE;have HW:=qh hw;clear hX hE s1 hv hw;go_enter Tryz.func223,Tryz.ntmps223;go_wp2_with fail;refine SK (b:=w.heap.size+1+1) (i:=0) (v:=.int .i64 0) nW ?_;refine(II n t _ _ w.heap.size _ _ r.wA r.wc dr 0 (.int .i64 0) B _ _ ht h.2.2.up nQ nQ nW nW nW nW nW nW hs (by have:=HW.out;omega) nQ).mono ?_;rintro e w1 ⟨rfl,δ,rfl⟩;rw[<-HX.out,Int.zero_add];go_wp2_with fail;refine(II n t _ _ w.heap.size _ _ r.wA r.wc dr X (.int .i64 0) B _ _ ht h.2.2.up nQ nQ nW nW nW nW nW nW hs (by have:=HW.out;omega) nQ).mono ?_;rintro e w1 ⟨rfl,δ1,rfl⟩;rw[<-HE.out];go_wp2_with fail;go_ret;exact⟨rfl,ag⟩
theorem AV(r:eD)(n:Net)(rt:nu)(t:iD)(i:Nat)(dr:Nat)(B:Nat)(w:nJ)[hB:Le B w](h:cj B w r n)(h':qp B w rt t)(ht:jn n t)(hi:i<n.ay.length)(hs:dr<18446744073709551616):Calls nH 186 #[vR r n rt t,.int .i64 i,.int .u64 dr] w fun e w'=>e=.returned (.int .i64 (spare n t i (fun k=>dr.testBit k)))/\∃δ,w'=af w δ:=by
 have hbd:=qh (uy ht (d:=fun k=>dr.testBit k) hi);have hcd:=BW ht hi;have l1:=h'.len;obtain⟨b,o,hA,hb,k0,k1⟩:=h.2.1.Un hi;have ib:Lt b w:=⟨nL hb hB.out⟩;obtain⟨b',o',oH,hb',k2⟩:=h'.int hcd.2.2.2.1;refine QFN ?_;intro ib' KP hi0 hj0 Xu HC;have HA:=qh hA;have Ya:=qh oH;have H:=qh h;clear hcd hA oH;go_enter Tryz.func186,Tryz.ntmps186;rw[show vR r n rt t=Value.agg #[.int .i64 n.aN.lo,.int .i64 n.aN.hi,.int .i64 n.cur.lo,.int .i64 n.cur.hi,.slice r.gA n.au.length r.gc,.slice r.aA n.ay.length r.ac,.slice r.wA n.aQ.length r.wc,.int .i64 t.aN,.int .i64 t.cur,.slice rt.tA t.au.length rt.tc] from rfl,HA.out,Ya.out];go_wp2_with fail;refine wpRl ?_;repeat (go_big_quiet_step ((rw[<-HA.out,<-Ya.out];go_at_call 223;exact Calls.bU (Ry r n rt t i dr B _ H.out.up ht hi hs))))
 refine QBY ?_;rintro _ ⟨δ,rfl⟩;go_wp2_with fail;go_ret;refine⟨cB ?_,ag⟩;have HC:=HC.out;have hbd:=hbd.out;have e:2*(nth n.ay i).wt*nth t.au (nth n.ay i).bt.toNat=can n t i:=rfl;rw[IA (x:=2*(nth n.ay i).wt) nQ,e,IA (x:=can n t i) nQ,IA nQ];rfl
end
namespace An
def gy(n:Net)(t:iD)(m:Nat):Nat->Nat
 |0=>m
 |k+1=>if m.testBit k=false/\spare n t k (fun i=>m.testBit i)<0 then gy n t m k ||| 2 ^ k else gy n t m k
def jl(n:Net)(t:iD)(m:Nat):Nat:=gy n t m n.ay.length
def qg(n:Net)(t:iD)(d:Nat->Bool)(i:Nat):Bool:=d i||(decide (i<n.ay.length)&&decide (spare n t i d<0))
theorem Fo(n:Net)(t:iD)(m k i:Nat):(gy n t m k).testBit i=(m.testBit i||(decide (i<k)&&decide (spare n t i (fun i=>m.testBit i)<0))):=by
 induction k with
 |zero=>simp[gy]
 |succ k ih=>
  unfold gy
  split
  ·rename_i h;rw[Nat.testBit_or,ih,Nat.testBit_two_pow];by_cases hik:k=i
   ·subst hik;simp[h.2]
   ·have e:decide (i<k+1)=decide (i<k):=by rw[decide_eq_decide];omega
    simp[hik,e]
  ·rename_i h;rw[ih];by_cases hik:i=k
   ·subst hik;by_cases hb:m.testBit i=true
    ·simp[hb]
    ·have:¬spare n t i (fun i=>m.testBit i)<0:=fun hs=>h ⟨by simpa using hb,hs⟩;simp[this]
   ·have e:decide (i<k+1)=decide (i<k):=by rw[decide_eq_decide];omega
    simp[e]
theorem zF(n:Net)(t:iD)(m i:Nat):(jl n t m).testBit i=qg n t (fun i=>m.testBit i) i:=Fo n t m _ i
theorem JF(n:Net)(t:iD)(m k:Nat)(hm:m<64)(hk:k<=6):gy n t m k<64:=by
 induction k with
 |zero=>simpa [gy] using hm
 |succ k ih=>
  have h1:=ih nQ
  unfold gy
  split
  ·exact Nat.or_lt_two_pow (n:=6) h1 (Nat.pow_lt_pow_right nQ nQ)
  ·exact h1
end An
namespace An
def oy(m:Nat)(d:Nat->Bool):List Int:=((List.range m).filter d).map fun(i:Nat)=>(i:Int)
theorem CW(m:Nat)(d:Nat->Bool):oy (m+1) d=oy m d++(if d m=true then[(m:Int)] else[]):=by unfold oy;rw[List.range_succ,List.filter_append,List.map_append];congr 1;by_cases h:d m=true<;>simp[h]
theorem Gz{m:Nat}{d:Nat->Bool}{k:Nat}:(k:Int)∈oy m d↔k<m/\d k=true:=by
 unfold oy;simp only[List.mem_map,List.mem_filter,List.mem_range];constructor
 ·rintro⟨j,h,hj⟩;have:j=k:=nQ;rwa [<-this]
 ·intro h;exact⟨k,h,rfl⟩
theorem FM(m:Nat)(d:Nat->Bool):(oy m d).length<=m:=by unfold oy;rw[List.length_map];have:=List.length_filter_le d (List.range m);simpa using this
end An
section
open An
theorem SL(s i:Nat)(w:nJ)(hs:s<18446744073709551616)(hi:i<6):Calls nH 215 #[.int .u64 s,.int .i64 i] w fun e w'=>e=.returned (.int .u64 ((s ||| 2 ^ i:Nat):Int))/\w=w':=by
 have key:∀(j:Nat) (p:Nat),p<18446744073709551616->p=2 ^ j->bits .or .u64 (s:Int) (p:Int)=((s ||| 2 ^ j:Nat):Int):=by intro j p hp he;rw[u64_or_nat s p hs hp,he]
 have K0:=qh (key 0 1 nQ rfl);have K1:=qh (key 1 2 nQ rfl);have K2:=qh (key 2 4 nQ rfl);have K3:=qh (key 3 8 nQ rfl);have K4:=qh (key 4 16 nQ rfl);have K5:=qh (key 5 32 nQ rfl);clear key;match i,hi with
 |0,_=>
  go_enter Tryz.func215,Tryz.ntmps215
  go_wp2
  go_ret
  exact⟨cB K0.out,rfl⟩
 |1,_=>
  go_enter Tryz.func215,Tryz.ntmps215
  go_wp2
  go_ret
  exact⟨cB K1.out,rfl⟩
 |2,_=>
  go_enter Tryz.func215,Tryz.ntmps215
  go_wp2
  go_ret
  exact⟨cB K2.out,rfl⟩
 |3,_=>
  go_enter Tryz.func215,Tryz.ntmps215
  go_wp2
  go_ret
  exact⟨cB K3.out,rfl⟩
 |4,_=>
  go_enter Tryz.func215,Tryz.ntmps215
  go_wp2
  go_ret
  exact⟨cB K4.out,rfl⟩
 |5,_=>
  go_enter Tryz.func215,Tryz.ntmps215
  go_wp2
  go_ret
  exact⟨cB K5.out,rfl⟩
theorem Fm(r:eD)(n:Net)(rt:nu)(t:iD)(dr:Nat)(B:Nat)(w:nJ)[hB:Le B w](h:cj B w r n)(h':qp B w rt t)(ht:jn n t)(hs:dr<64):Calls nH 174 #[vR r n rt t,.int .u64 dr] w fun e w'=>e=.returned (.int .u64 (jl n t dr))/\∃δ,w'=af w δ:=by
 have hv:=az.1 ht.1;have h6:=hv.2.2.2.1;clear hv;go_enter Tryz.func174,Tryz.ntmps174;go_wp2_with fail;go_loopw [5,12] (fun o i wr=>∃(k:Nat) (δ:nJ),k<=n.ay.length/\i=.int .i64 k/\o=.int .u64 (gy n t dr k)/\wr=af (w.alloc (.cells #[.int .i64 n.aN.lo,.int .i64 n.aN.hi,.int .i64 n.cur.lo,.int .i64 n.cur.hi,.slice r.gA n.au.length r.gc,.slice r.aA n.ay.length r.ac,.slice r.wA n.aQ.length r.wc,.int .i64 t.aN,.int .i64 t.cur,.slice rt.tA t.au.length rt.tc] 226)) δ) (fun _ i _=>n.ay.length-(intOf i).toNat)
 case atStart=>exact⟨0,_,nE _,rfl,rfl,(aY _).symm⟩
 case round=>
  obtain⟨k,δ,hk,rfl,rfl,rfl⟩:=hrel;by_cases hlt:k<n.ay.length
  ·have hlo:=JF n t dr k hs nQ;by_cases hb:dr.testBit k=true;all_goals try rw[Bool.not_eq_true] at hb
   ·have HN:=qh (show gy n t dr (k+1)=gy n t dr k by simp[gy,hb]);go_wp2_with (go_at_call 214;refine(Jk _ _ _ nQ nQ).mono ?_;rintro e w1 ⟨rfl,rfl⟩);go_roundw
    case rel=>exact⟨k+1,_,nQ,by go_num,by rw[HN.out],rfl⟩
    case measure=>simp[intOf];omega
   ·by_cases hsp:spare n t k (fun i=>dr.testBit i)<0;all_goals have VI:=hsp
    ·have HN:=qh (show gy n t dr (k+1)=gy n t dr k ||| 2 ^ k by simp[gy,hb,hsp]);clear VI;go_wp2_with (first|(go_at_call 214;refine(Jk _ _ _ nQ nQ).mono ?_;rintro e w1 ⟨rfl,rfl⟩)|(go_at_call 186;refine(AV r n rt t k dr B _ h.up h'.up ht hlt nQ).mono ?_;rintro e w1 ⟨rfl,δ1,rfl⟩)|(go_at_call 215;refine(SL _ _ _ nQ nQ).mono ?_;rintro e w1 ⟨rfl,rfl⟩));go_roundw
     case rel=>exact⟨k+1,_,nQ,by go_num,by rw[HN.out],Bs _ _ _⟩
     case measure=>simp[intOf];omega
    ·have HN:=qh (show gy n t dr (k+1)=gy n t dr k by simp[gy,hb,hsp]);clear VI;go_wp2_with (first|(go_at_call 214;refine(Jk _ _ _ nQ nQ).mono ?_;rintro e w1 ⟨rfl,rfl⟩)|(go_at_call 186;refine(AV r n rt t k dr B _ h.up h'.up ht hlt nQ).mono ?_;rintro e w1 ⟨rfl,δ1,rfl⟩));go_roundw
     case rel=>exact⟨k+1,_,nQ,by go_num,by rw[HN.out],Bs _ _ _⟩
     case measure=>simp[intOf];omega
  ·obtain rfl:k=n.ay.length:=by omega
   go_wp2;go_ret;exact⟨rfl,ag⟩
end
section
open An
def bT(n:Net):iD:=⟨n.aN.hi,n.cur.hi,n.au.map (·.lo)⟩
def gu(n:Net):iD:=⟨n.aN.lo,n.cur.lo,n.au.map (·.hi)⟩
theorem AP(r:eD)(n:Net)(B:Nat)(w:nJ)[hB:Le B w](h:cj B w r n)(h3:n.au.length<=3):Calls nH 173 #[ew r n] w fun e w'=>∃(rt:nu) (δ:nJ),e=.returned (vR r n rt (bT n))/\w'=af w δ/\qp (af w δ).heap.size (af w δ) rt (bT n):=by
 go_enter Tryz.func173,Tryz.ntmps173;go_wp2_with fail;refine aK fun W1 aE=>?_;refine QAG ?_;intro cz de cN cY dc dX jP jU kM iY lC lu uu vn vm yz Hu Ht Hs Ej Ln;refine QAQ ?_;intro OG Lm OF fw25 fw26 fw27 fw28 fw29 fw30 fw31 fw32 fw33 fw34;refine QFA ?_;intro OE Rt;refine QCG ?_;intro Rs fw38 s1 hlen;go_loopw [16] (fun i wr=>∃(k:Nat) (A:Option Addr) (c:Nat),k<=n.au.length/\i=.int .i64 k/\wr.ownsRow W1.heap.size 3 1 (.slice A k c) k (((n.au.map (·.lo)).take k).flatMap aH)/\∃δ,wr=(af W1 δ).setCell ⟨w.heap.size+1+1,2,none⟩ (.slice A k c)) (fun i _=>n.au.length-(intOf i).toNat)
 case atStart=>refine⟨0,none,0,nE _,rfl,by simpa using World.ownsRow_nil _ _ _ _,W1,?_⟩;rw[aY,eS nZ]
 case round=>
  obtain⟨k,A,c,hk,rfl,hown,δ,rfl⟩:=hrel;by_cases hlt:k<n.au.length
  ·obtain⟨b,o,hA,hb,d0,d1⟩:=s1.sp hlt;refine QES ?_;intro ib in1 HA HO;clear hA hown;rw[HA.out];go_wp2_with (at_builtin;(refine dA W1 uC (.tmp 21) (.tmp 24) rfl rfl (HO.out.alloc _) rfl rfl nW rfl (by simp[Value.oneCell']) nQ nQ ?_);intro A' c' δ' hown');go_roundw
   case rel=>refine⟨k+1,A',c',nQ,by go_num,?_,wU (w0:=W1) δ (.slice A k c) (.slice A' (k+1) c') nZ sQ⟩;have:=ownsRow_setCell_below hown' (a:=⟨w.heap.size+1+1,2,none⟩) jP.out (.slice A' (k+1) c');rw[p4 aH (n.au.map (·.lo)) (by simpa using hlt),iq _ _ hlt];exact this
   case measure=>simp[intOf];omega
  ·obtain rfl:k=n.au.length:=by omega
   have HO:=qh hown;clear hown;have in2:pI (w.heap.size+1) (w.heap.size+1+1):=⟨nQ⟩;go_wp2_with fail;refine bodyPost_ret (v:=vR r n ⟨A,c⟩ (bT n)) ?_ rfl ?_
   ·simp only[results,Tryz.results173];go_simp;simp[bT]
   ·refine⟨⟨A,c⟩,_,rfl,aq,?_⟩;refine QDK ?_;have H1:=HO.out;rw[List.take_of_length_le nV] at H1;refine Sl.bW (base:=W1.heap.size) (e:=3) (size:=1) ?_;rw[show(bT n).au.length=n.au.length by simp[bT]];show(_:nJ).ownsRow W1.heap.size 3 1 _ _ ((n.au.map (·.lo)).flatMap aH);iterate 10 (refine ownsRow_setCell_below (a:=⟨_,_,_⟩) ?_ dX.out _)
    exact H1
theorem Ul(r:eD)(n:Net)(B:Nat)(w:nJ)[hB:Le B w](h:cj B w r n)(h3:n.au.length<=3):Calls nH 175 #[ew r n] w fun e w'=>∃(rt:nu) (δ:nJ),e=.returned (vR r n rt (gu n))/\w'=af w δ/\qp (af w δ).heap.size (af w δ) rt (gu n):=by
 go_enter Tryz.func175,Tryz.ntmps175;go_wp2_with fail;refine aK fun W1 aE=>?_;refine QAG ?_;intro cz de cN cY dc dX jP jU kM iY lC lu uu vn vm yz Hu Ht Hs Ej Ln;refine QAQ ?_;intro OG Lm OF fw25 fw26 fw27 fw28 fw29 fw30 fw31 fw32 fw33 fw34;have OE:W1.cell? ⟨w.heap.size+1+1,0,none⟩=some (.int .i64 n.aN.lo):=by rw[aE.out];go_simp
 have Rt:W1.cell? ⟨w.heap.size+1+1,1,none⟩=some (.int .i64 n.cur.lo):=by rw[aE.out];go_simp
 refine QCG ?_;intro Rs fw38 s1 hlen;go_loopw [16] (fun i wr=>∃(k:Nat) (A:Option Addr) (c:Nat),k<=n.au.length/\i=.int .i64 k/\wr.ownsRow W1.heap.size 3 1 (.slice A k c) k (((n.au.map (·.hi)).take k).flatMap aH)/\∃δ,wr=(af W1 δ).setCell ⟨w.heap.size+1+1,2,none⟩ (.slice A k c)) (fun i _=>n.au.length-(intOf i).toNat)
 case atStart=>refine⟨0,none,0,nE _,rfl,by simpa using World.ownsRow_nil _ _ _ _,W1,?_⟩;rw[aY,eS nZ]
 case round=>
  obtain⟨k,A,c,hk,rfl,hown,δ,rfl⟩:=hrel;by_cases hlt:k<n.au.length
  ·obtain⟨b,o,hA,hb,d0,d1⟩:=s1.sp hlt;refine QES ?_;intro ib in1 HA HO;clear hA hown;rw[HA.out];go_wp2_with (at_builtin;(refine dA W1 uC (.tmp 21) (.tmp 24) rfl rfl (HO.out.alloc _) rfl rfl nW rfl (by simp[Value.oneCell']) nQ nQ ?_);intro A' c' δ' hown');go_roundw
   case rel=>refine⟨k+1,A',c',nQ,by go_num,?_,wU (w0:=W1) δ (.slice A k c) (.slice A' (k+1) c') nZ sQ⟩;have:=ownsRow_setCell_below hown' (a:=⟨w.heap.size+1+1,2,none⟩) jP.out (.slice A' (k+1) c');rw[p4 aH (n.au.map (·.hi)) (by simpa using hlt),iq _ _ hlt];exact this
   case measure=>simp[intOf];omega
  ·obtain rfl:k=n.au.length:=by omega
   have HO:=qh hown;clear hown;have in2:pI (w.heap.size+1) (w.heap.size+1+1):=⟨nQ⟩;go_wp2_with fail;refine bodyPost_ret (v:=vR r n ⟨A,c⟩ (gu n)) ?_ rfl ?_
   ·simp only[results,Tryz.results175];go_simp;simp[gu]
   ·refine⟨⟨A,c⟩,_,rfl,aq,?_⟩;refine QDK ?_;have H1:=HO.out;rw[List.take_of_length_le nV] at H1;refine Sl.bW (base:=W1.heap.size) (e:=3) (size:=1) ?_;rw[show(gu n).au.length=n.au.length by simp[gu]];show(_:nJ).ownsRow W1.heap.size 3 1 _ _ ((n.au.map (·.hi)).flatMap aH);iterate 10 (refine ownsRow_setCell_below (a:=⟨_,_,_⟩) ?_ dX.out _)
    exact H1
end
section
open An
end
section
open An
theorem Um(a:Nat):((a:Int)==0)=decide (a=0):=by rw[Bool.eq_iff_iff];simp
theorem cj.wide{B:Nat}{w W:nJ}{r:eD}{n:Net}(h:cj B w r n)[aC B w W][hB:Le B W]:cj W.heap.size W r n:=h.up.more hB.out
theorem qH{n:Net}(hv:valid n=true):jn n (bT n):=by obtain⟨h1,h2,_,_,_,h6,_,_⟩:=az.1 hv;simp only[jf,decide_eq_true_eq] at h1 h2;refine⟨hv,cZ.2 (show 0<=n.aN.hi/\n.aN.hi<=20 by omega),cZ.2 (show 0<=n.cur.hi/\n.cur.hi<=20 by omega),by simp[bT],?_⟩;intro g hg;simp only[bT,List.mem_map] at hg;obtain⟨s,hs,rfl⟩:=hg;have:=(List.all_eq_true.1 h6) s hs;simp only[jf,decide_eq_true_eq] at this;exact cZ.2 nQ
theorem Gt{n:Net}(hv:valid n=true):jn n (gu n):=by obtain⟨h1,h2,_,_,_,h6,_,_⟩:=az.1 hv;simp only[jf,decide_eq_true_eq] at h1 h2;refine⟨hv,cZ.2 (show 0<=n.aN.lo/\n.aN.lo<=20 by omega),cZ.2 (show 0<=n.cur.lo/\n.cur.lo<=20 by omega),by simp[gu],?_⟩;intro g hg;simp only[gu,List.mem_map] at hg;obtain⟨s,hs,rfl⟩:=hg;have:=(List.all_eq_true.1 h6) s hs;simp only[jf,decide_eq_true_eq] at this;exact cZ.2 nQ
def oE(a b:Bool):Int:=if a then 1 else if b then 3 else 2
theorem Nw(a b:Bool)(w:nJ):Calls nH 172 #[.bool a,.bool b] w fun e w'=>e=.returned (.int .i64 (oE a b))/\w=w':=by cases a<;>cases b;all_goals go_enter Tryz.func172,Tryz.ntmps172;go_wp2;go_ret;exact⟨rfl,rfl⟩
theorem uv(r:eD)(n:Net)(B:Nat)(w:nJ)(h:cj B w r n)[hB:Le B w](hv:valid n=true):Calls nH 19 #[ew r n] w fun e w'=>e=.returned (.int .i64 0)/\∃δ,w'=af w δ:=
 (BU r n B w h).mono fun e w' hh=>by rw[hv] at hh;exact hh
theorem yC(r:eD)(n:Net)(B:Nat)(w:nJ)(h:cj B w r n)[hB:Le B w](hv:valid n=false):Calls nH 19 #[ew r n] w fun e w'=>e=.returned (.int .i64 20)/\∃δ,w'=af w δ:=
 (BU r n B w h).mono fun e w' hh=>by rw[hv] at hh;exact hh
def Kj(ok:Bool)(x:Int):Int:=if ok then x else 0
theorem SW(r:eD)(n:Net)(B:Nat)(w:nJ)[hB:Le B w](h:cj B w r n):Calls nH 112 #[ew r n] w fun e w'=>e=.returned (.tuple #[.int .i64 (Kj (valid n) (oE (decide (jl n (bT n) 0=0)) (decide (jl n (gu n) 0=0)))),.int .i64 (cE (valid n) 20)])/\∃δ,w'=af w δ:=by
 by_cases hv:valid n=true
 ·have h3:=(az.1 hv).2.2.1;have hw:=qH hv;have hb:=Gt hv;have HV:=qh hv;rw[hv];clear hv;go_enter Tryz.func112,Tryz.ntmps112;go_wp2_with (go_at_call 19;refine(uv r n B _ h.up HV.out).mono ?_;rintro e w1 ⟨rfl,δ,rfl⟩);go_region_held3 (fun W=>W.cell? ⟨w.heap.size,0,none⟩=some (.int .i64 n.aN.lo)/\W.cell? ⟨w.heap.size,1,none⟩=some (.int .i64 n.aN.hi)/\W.cell? ⟨w.heap.size,2,none⟩=some (.int .i64 n.cur.lo)/\W.cell? ⟨w.heap.size,3,none⟩=some (.int .i64 n.cur.hi) /\
    W.cell? ⟨w.heap.size,4,none⟩=some (.slice r.gA n.au.length r.gc)/\W.cell? ⟨w.heap.size,5,none⟩=some (.slice r.aA n.ay.length r.ac)/\W.cell? ⟨w.heap.size,6,none⟩=some (.slice r.wA n.aQ.length r.wc))
   (refine⟨?_,?_,?_,?_,?_,?_,?_⟩<;>go_simp)
   (first|(go_at_call 173;refine(AP r n B _ h.up h3).mono ?_;rintro e w1 ⟨rt,δ,rfl,rfl,ht⟩)|(go_at_call 175;refine(Ul r n B _ h.up h3).mono ?_;rintro e w1 ⟨rt,δ,rfl,rfl,ht⟩)|(go_at_call 172;refine(Nw _ _ _).mono ?_;rintro e w1 ⟨rfl,rfl⟩)|(go_at_call 174;refine(Fm r n _ _ 0 _ _ h.wide ht.wide nZ nQ).mono ?_;rintro e w1 ⟨rfl,δ,rfl⟩))
  go_wp2_with fail;go_ret2;exact⟨by simp only[Kj,cE,Um,if_true];rfl,ag⟩
 ·rw[Bool.not_eq_true] at hv;rw[hv];have HV:=qh hv;clear hv;go_enter Tryz.func112,Tryz.ntmps112;go_wp2_with (go_at_call 19;refine(yC r n B _ h.up HV.out).mono ?_;rintro e w1 ⟨rfl,δ,rfl⟩);go_ret2;exact⟨rfl,ag⟩
open Classical in
theorem Mu{a b a' b':nK}(h1:a=a')(h2:b=b'):Ending.returned (.tuple #[a,b])=Ending.returned (.tuple #[a',b']):=by rw[h1,h2]
end
section
open An
theorem Mh(r:eD)(n:Net)(rt:nu)(t:iD)(i:Nat)(B:Nat)(w:nJ)[hB:Le B w](h:cj B w r n)(h':qp B w rt t)(ht:jn n t)(hi:i<n.ay.length):Calls nH 186 #[vR r n rt t,.int .i64 i,.int .u64 0] w fun e w'=>e=.returned (.int .i64 (spare n t i (fun _=>false)))/\∃δ,w'=af w δ:=
 (AV r n rt t i 0 B w h h' ht hi nQ).mono fun e w' ⟨he,hδ⟩=>⟨by
  have e:(fun k=>Nat.testBit 0 k)=fun _=>false:=funext fun i=>Nat.zero_testBit i
  rw[e] at he;exact he,hδ⟩
def qL(s:Sp)(k:Int):Bool:=fj s.lo s.hi k
def pZ(gs:List Sp)(ts:List Int)(k:Nat):Bool:=(List.range k).all fun i=>qL (nth gs i) (nth ts i)
def su(n:Net)(t:iD):Bool:=qL n.aN t.aN&&qL n.cur t.cur&&decide (t.au.length=n.au.length)&&pZ n.au t.au t.au.length
theorem pY{gs:List Sp}{ts:List Int}{k m:Nat}(h:pZ gs ts m=true)(hk:k<m):qL (nth gs k) (nth ts k)=true:=by unfold pZ at h;exact(List.all_eq_true.1 h) k (by simpa using hk)
theorem Dk{n:Net}{t:iD}(hv:valid n=true)(ht:su n t=true):jn n t:=by obtain⟨h1,h2,_,_,_,h6,_,_⟩:=az.1 hv;simp only[su,Bool.and_eq_true,decide_eq_true_eq] at ht;obtain⟨⟨⟨a,b⟩,c⟩,d⟩:=ht;simp only[jf,decide_eq_true_eq] at h1 h2;simp only[qL,cZ] at a b;refine⟨hv,cZ.2 nQ,cZ.2 nQ,c,?_⟩;intro g hg;obtain⟨i,hi,rfl⟩:=List.getElem_of_mem hg;have e:=pY d hi;rw[bV _ hi] at e;have hi':i<n.au.length:=nQ;have:=(List.all_eq_true.1 h6) _ (aS _ hi');simp only[jf,decide_eq_true_eq] at this;simp only[qL,cZ] at e;exact cZ.2 nQ
end
section
open An
def uc(n:Net)(x:Int):Net:={ n with aN:=⟨x,x⟩ }
def pX(n:Net)(x:Nat):Bool:=decide (jl (uc n x) (bT (uc n x)) 0≠0)
theorem uG{n:Net}(hv:valid n=true){x:Nat}(hx:x<=20):valid (uc n x)=true:=by rw[az] at *;refine⟨?_,hv.2⟩;show jf 20 ⟨x,x⟩=true;simp only[jf,decide_eq_true_eq];omega
theorem Dz(r:eD)(n:Net)(B:Nat)(w:nJ)[hB:Le B w](h:cj B w r n)(hv:valid n=true):Calls nH 216 #[ew r n,.func (.func 173) #[] #[]] w fun e w'=>e=.returned (.int .i64 (bM (pX n) 21 0))/\∃δ,w'=af w δ:=by
 have HV:=qh hv;clear hv;go_enter Tryz.func216,Tryz.ntmps216;go_wp2_with fail;go_loopw [6] (fun i wr=>∃(k:Nat) (lo hi:Int),k<=21/\i=.int .i64 k/\Hid (∀j,j<k->pX n j=false)/\av wr w.heap.size 28 #[.int .i64 lo,.int .i64 hi,.int .i64 n.cur.lo,.int .i64 n.cur.hi,.slice r.gA n.au.length r.gc,.slice r.aA n.ay.length r.ac,.slice r.wA n.aQ.length r.wc]/\aC w.heap.size w wr/\aC B w wr/\Le w.heap.size wr/\Le B wr) (fun i _=>21-(intOf i).toNat)
 case atStart=>exact⟨0,n.aN.lo,n.aN.hi,nQ,rfl,fun j hj=>by omega,av.new rfl,inferInstance,inferInstance,inferInstance,inferInstance⟩
 case round=>
  obtain⟨k,lo,hi,hk,rfl,hn,vY,i1,i2,i3,i4⟩:=hrel;have i5:=vY.lt;have c0:=vY.cell (i:=0) rfl;have c1:=vY.cell (i:=1) rfl;have c2:=vY.cell (i:=2) rfl;have c3:=vY.cell (i:=3) rfl;have c4:=vY.cell (i:=4) rfl;have c5:=vY.cell (i:=5) rfl;have c6:=vY.cell (i:=6) rfl;have f0:=vY.free 0;have f1:=vY.free 1;have HB:=qh vY;clear vY;by_cases hlt:k<21
  ·have TH:=uG HV.out (x:=k) nQ;have h3:(uc n k).au.length<=3:=(az.1 TH).2.2.1;have hw:=qH TH;have hin:cj B w r (uc n k):=h;by_cases hh:jl (uc n k) (bT (uc n k)) 0=0;all_goals have BC:=hh
   ·have HH:=qh hh;have he:(jl (uc n k) (bT (uc n k)) 0:Int)=0:=nQ;clear hh BC TH;go_wp2_with (first|(go_at_call 173;refine(AP r (uc n k) B _ hin.up h3).mono ?_;rintro e w1 ⟨rt,δ,rfl,rfl,ht⟩)|(go_at_call 174;refine(Fm r (uc n k) _ _ 0 _ _ hin.wide ht.wide hw nQ).mono ?_;rintro e w1 ⟨rfl,δ,rfl⟩));go_roundw
    case rel=>
     refine⟨k+1,k,k,nQ,by go_num,?_,((((HB.out.set 0 _).set 1 _).af _).af _),inferInstance,inferInstance,inferInstance,inferInstance⟩;intro j hj;by_cases Q7:j=k
     ·subst Q7;simp[pX,HH.out]
     ·exact hn.out j nQ
    case measure=>simp[intOf];omega
   ·have hne:((jl (uc n k) (bT (uc n k)) 0:Int) != 0)=true:=by simp;omega
    have HF:=qh (qQ (pX n) hlt hn.out (by simp[pX,hh]));clear hh BC TH;go_wp2_with (first|(go_at_call 173;refine(AP r (uc n k) B _ hin.up h3).mono ?_;rintro e w1 ⟨rt,δ,rfl,rfl,ht⟩)|(go_at_call 174;refine(Fm r (uc n k) _ _ 0 _ _ hin.wide ht.wide hw nQ).mono ?_;rintro e w1 ⟨rfl,δ,rfl⟩));go_ret;exact⟨cB (by rw[HF.out]),ag⟩
  ·obtain rfl:k=21:=by omega
   have HF:=qh (oI (pX n) hn.out);go_wp2_with fail;go_ret;exact⟨cB (by rw[HF.out];rfl),ag⟩
def rQ(v:Bool)(k:Nat):Int:=if v then (if k=21 then 0 else k) else 0
def rR(v:Bool)(k:Nat):Int:=if v then (if k=21 then 3 else 0) else 20
theorem PO(r:eD)(n:Net)(B:Nat)(w:nJ)[hB:Le B w](h:cj B w r n):Calls nH 176 #[ew r n,.func (.func 173) #[] #[]] w fun e w'=>e=.returned (.tuple #[.int .i64 (rQ (valid n) (bM (pX n) 21 0)),.int .i64 (rR (valid n) (bM (pX n) 21 0))])/\∃δ,w'=af w δ:=by
 by_cases hv:valid n=true;all_goals try rw[Bool.not_eq_true] at hv
 all_goals have HV:=qh hv;rw[hv];clear hv
 ·have hX:∃X,X=bM (pX n) 21 0:=⟨_,rfl⟩;obtain⟨X,hX⟩:=hX;rw[<-hX];have HX:=qh hX;clear hX;by_cases hx:X=21
  ·subst hx;go_enter Tryz.func176,Tryz.ntmps176;go_wp2_with (first|(go_at_call 19;refine(uv r n B _ h.up HV.out).mono ?_;rintro e w1 ⟨rfl,δ,rfl⟩)|(go_at_call 216;refine(Dz r n B _ h.up HV.out).mono ?_;rw[<-HX.out];rintro e w1 ⟨rfl,δ,rfl⟩));go_ret2;exact⟨rfl,ag⟩
  ·have hne:((X:Int)==21)=false:=by simp;omega
   have HN:=qh hx;clear hx;go_enter Tryz.func176,Tryz.ntmps176;go_wp2_with (first|(go_at_call 19;refine(uv r n B _ h.up HV.out).mono ?_;rintro e w1 ⟨rfl,δ,rfl⟩)|(go_at_call 216;refine(Dz r n B _ h.up HV.out).mono ?_;rw[<-HX.out];rintro e w1 ⟨rfl,δ,rfl⟩));go_ret2;exact⟨Mu (int_eq (by simp[rQ,HN.out])) (int_eq (by simp[rR,HN.out])),ag⟩
 ·go_enter Tryz.func176,Tryz.ntmps176;go_wp2_with (go_at_call 19;refine(yC r n B _ h.up HV.out).mono ?_;rintro e w1 ⟨rfl,δ,rfl⟩);go_ret2;exact⟨rfl,ag⟩
theorem SM(r:eD)(n:Net)(B:Nat)(w:nJ)[hB:Le B w](h:cj B w r n):Calls nH 114 #[ew r n] w fun e w'=>e=.returned (.tuple #[.int .i64 (rQ (valid n) (bM (pX n) 21 0)),.int .i64 (rR (valid n) (bM (pX n) 21 0))])/\∃δ,w'=af w δ:=by go_enter Tryz.func114,Tryz.ntmps114;go_wp2_with (go_at_call 176;refine(PO r n B _ h.up).mono ?_;rintro e w1 ⟨rfl,δ,rfl⟩);go_ret2;exact⟨rfl,ag⟩
end
end Go.Proofs.YtcjjlikhlmfedaaGreatDoor
