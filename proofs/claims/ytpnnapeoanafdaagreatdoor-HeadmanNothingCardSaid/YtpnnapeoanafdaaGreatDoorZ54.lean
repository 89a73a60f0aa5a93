/- A part of the proof that a law of layer 12 holds, cut small by a program (names and blanks): Hk12. -/
import Derived.Test.YtpnnapeoanafdaaGreatDoorZ37
import Derived.Test.YtpnnapeoanafdaaGreatDoorZ53
set_option maxRecDepth 100000
set_option maxHeartbeats 40000000
set_option linter.unusedVariables false
set_option linter.unusedSimpArgs false
namespace Go.Proofs.YtpnnapeoanafdaaGreatDoor
open Go.RowKit
open Nat renaming le_trans → nT, lt_of_lt_of_le → nL, le_refl → nR, zero_le → nE
open Go.Proofs.Tryz renaming prog → nH
open Go renaming World → nJ, Value → nK
section
open Hd
theorem wp_append_x{P:Program}{W:nJ}{base:Nat}{o:Oper}{a:Act}{K:Act->nJ->Prop}{Q:Exit->Act->nJ->Prop}{t e:TypeId}{z:nK}{size bytes:Nat}(hT:pE P t e z size bytes)(s x:Operand)(ho:o.op=.call { callee:=.builtin .append,args:=#[s,x],argTypes:=#[t,t] }){v:nK}{n:Nat}{xs:List nK}(hown:W.ownsRow base e size v n xs)(hs:a.eval s=v){g m c:Nat}{arr:Array nK}{T:TypeId}(hx:a.eval x=.slice (some ⟨g,0,none⟩) m c)(hb:ay W g T arr)(hl:arr.size=m*size)(h1:∀u∈arr.toList,u.oneCell'=true)(h63:n+m<=1000000)(hbytes:bytes<=1000)[hbase:Le base W](h:∀A' c' W',W'.ownsRow base e size (.slice A' (n+m) c') (n+m) (xs++arr.toList)->W.grownBy W' v.ownBlock->((Value.slice A' (n+m) c').ownBlock=v.ownBlock\/(Value.slice A' (n+m) c').ownBlock=some W.heap.size)->K (a.put o.dst (.slice A' (n+m) c')) W'):o.wp P a W K Q:=by have hr:Cells W (g+1) (some ⟨g,0,none⟩) arr.toList:=fun _=>⟨g,0,rfl,nQ,fun j v hj=>by rw[Nat.zero_add];exact hb.cell (by rw[<-Array.getElem?_toList];exact hj)⟩;obtain⟨v',w',hrun,hown',hgw,ZX⟩:=vr (P:=P) (ty:=o.type) W hT hown (c:=c) hr (by simpa using hl) h1 h63 hbytes;obtain⟨A',c',rfl⟩:=qy hown';have h9:=h A' c' w' hown' hgw ZX;unfold Oper.wp execOp;simp only[ho,resolve,invoke,builtin,Sem.run_bind,Sem.run_pure,Result.andThen_ok,List.map_toArray,List.map_cons,List.map_nil,hs,hx];rw[hrun];exact h9
theorem grew_by{X W W':nJ}{row:Option Nat}(hg:W.grownBy W' row)(hr:∀k,row=some k->X.heap.size<=k)[i:aD X.heap.size X W][l:Le X.heap.size W]:aD X.heap.size X W':=
 ⟨⟨hg.os.trans i.out.1,hg.tape.trans i.out.2.1,hg.output.trans i.out.2.2.1,fun b hb=>(hg.block b (nL hb l.out) (fun e=>Nat.lt_irrefl _ (nL hb (hr b e.symm)))).trans (i.out.2.2.2 b hb)⟩⟩
theorem le_by{b:Nat}{W W':nJ}{row:Option Nat}(hg:W.grownBy W' row)[l:Le b W]:Le b W':=⟨nT l.out hg.size⟩
structure Twos(base:Nat)(W:nJ)(v1:nK)(n1:Nat)(x1:List nK)(v2:nK)(n2:Nat)(x2:List nK):Prop where
 o1:W.ownsRow base 9 1 v1 n1 x1
 o2:W.ownsRow base 9 1 v2 n2 x2
 n12:v1.ownBlock=none\/v1.ownBlock≠v2.ownBlock
 n21:v2.ownBlock=none\/v2.ownBlock≠v1.ownBlock
section
variable{base:Nat}{W W':nJ}{v1 v2 v':nK}{n1 n2 n':Nat}{x1 x2 x':List nK}{g:Nat}{T:TypeId}{cs:Array nK}
theorem Twos.alloc(h:Twos base W v1 n1 x1 v2 n2 x2)(o:Obj):Twos base (W.alloc o) v1 n1 x1 v2 n2 x2:=⟨h.o1.alloc _,h.o2.alloc _,h.n12,h.n21⟩
theorem Twos.app1(h:Twos base W v1 n1 x1 v2 n2 x2)(hg:W.grownBy W' v1.ownBlock)(ho:W'.ownsRow base 9 1 v' n' x')(ZX:v'.ownBlock=v1.ownBlock\/v'.ownBlock=some W.heap.size):Twos base W' v' n' x' v2 n2 x2:=by
 have hn:∀k,v2.ownBlock=some k->k<W.heap.size:=fun k hk=>(h.o2.lt k hk).2;refine⟨ho,h.o2.kept hg h.n21,?_,?_⟩
 ·rcases ZX with e|e
  ·rw[e];exact h.n12
  ·right;rw[e];intro e2;exact Nat.lt_irrefl _ (hn _ e2.symm)
 ·rcases ZX with e|e
  ·rw[e];exact h.n21
  ·right;rw[e];intro e2;exact Nat.lt_irrefl _ (hn _ e2)
theorem Twos.up(h:Twos base W v1 n1 x1 v2 n2 x2)[hg:aD W.heap.size W W']:Twos base W' v1 n1 x1 v2 n2 x2:=⟨bu h.o1,bu h.o2,h.n12,h.n21⟩
theorem Twos.swap(h:Twos base W v1 n1 x1 v2 n2 x2):Twos base W v2 n2 x2 v1 n1 x1:=⟨h.o2,h.o1,h.n21,h.n12⟩
theorem Twos.app2(h:Twos base W v1 n1 x1 v2 n2 x2)(hg:W.grownBy W' v2.ownBlock)(ho:W'.ownsRow base 9 1 v' n' x')(ZX:v'.ownBlock=v2.ownBlock\/v'.ownBlock=some W.heap.size):Twos base W' v1 n1 x1 v' n' x':=(h.swap.app1 hg ho ZX).swap
structure Ltl(W:nJ)(g:Nat)(s:aQ)(v1 v2:nK):Prop where
 bx:ay W g 9 #[.string (str s)]
 a1:v1.ownBlock≠some g
 a2:v2.ownBlock≠some g
theorem Ltl.mk'(h:Twos base W v1 n1 x1 v2 n2 x2)(s:aQ):Ltl (W.alloc (.cells #[.string (str s)] 9)) W.heap.size s v1 v2:=
 ⟨ay.new rfl,fun e=>Nat.lt_irrefl _ (h.o1.lt _ e).2,fun e=>Nat.lt_irrefl _ (h.o2.lt _ e).2⟩
theorem Ltl.alloc{s:aQ}(h:Ltl W g s v1 v2)(o:Obj):Ltl (W.alloc o) g s v1 v2:=⟨h.bx.alloc _,h.a1,h.a2⟩
theorem Ltl.app1{s:aQ}(h:Ltl W g s v1 v2)(hg:W.grownBy W' v1.ownBlock)(ZX:v'.ownBlock=v1.ownBlock\/v'.ownBlock=some W.heap.size):Ltl W' g s v' v2:=by
 refine⟨(hg.block g h.bx.tN fun e=>h.a1 e.symm).trans h.bx,?_,h.a2⟩;rcases ZX with e|e
 ·rw[e];exact h.a1
 ·rw[e];intro e2;injection e2 with e2;exact Nat.lt_irrefl _ (e2▸h.bx.tN)
theorem Ltl.app2{s:aQ}(h:Ltl W g s v1 v2)(hg:W.grownBy W' v2.ownBlock)(ZX:v'.ownBlock=v2.ownBlock\/v'.ownBlock=some W.heap.size):Ltl W' g s v1 v':=by
 refine⟨(hg.block g h.bx.tN fun e=>h.a2 e.symm).trans h.bx,h.a1,?_⟩;rcases ZX with e|e
 ·rw[e];exact h.a2
 ·rw[e];intro e2;injection e2 with e2;exact Nat.lt_irrefl _ (e2▸h.bx.tN)
end
theorem lawNothing_c(r:aW)(t:aO)(A:Option Addr)(c:Nat)(ls:List aQ)(B:Nat)(w:nJ)(hT:aN B w r t)(hS:Sl bS B w A c ls)[hB:Le B w][h8:Le 8 w](hL:cT w):Calls nH 4 #[aY r t,.slice A ls.length c] w fun e w'=>e=.returned (.bool true)/\∃δ,w'=ah w δ:=by
 have H:=qh hT;have HS:=qh hS;have HL:=qh hL;clear hT hS hL;go_enter Tryz.func4,Tryz.ntmps4;go_upto_region 1 with fail;refine QBT ?_;intro W1 aH cJ dF cW di dz eL jG;refine QDK ?_;intro X1;clear aH;go_wp2_with (refine au aq rfl _ rfl rfl X1.out rfl ?_);refine(qv r t ls A c B _ H.out.up HS.out.up).mono ?_;unfold kZ;rintro e w1 ⟨b,δ1,rfl,rfl,hr⟩;cases b with
 |false=>
  clear hr
  go_wp2_with (go_at_call 11;refine(dK _ HL.out.up).mono ?_;rintro e w1 ⟨rfl,δ2,rfl⟩)
  go_ret
  exact⟨rfl,ag⟩
 |true=>
  obtain⟨Hv,hv,Qr⟩:=hr rfl
  have hx:∀x∈ls,x.length<=1000:=fun x hx=>nT (Hv.2.2 x hx) nU
  have ho1:=CF DD ls (d:=bZ t) (m:=0) hv sJ ⟨nR _,fun o ho=>by cases ho⟩ nQ
  have hal:=Gf ls (bZ t)
  obtain⟨d,hd⟩:∃d,(dJ (bZ t) ls).1=d:=⟨_,rfl⟩
  obtain⟨a,ha⟩:∃a,(dJ (bZ t) ls).2=a:=⟨_,rfl⟩
  have Yx:=CE ls (d:=bZ t) hv
  have Ql:=(zC ls (d:=bZ t) sJ).1
  rw[hd] at Yx Ql
  rw[ha] at ho1 hal
  have hno:=fun(j:Nat) (hj:j<ls.length) (l x:aQ) (hl:nth ls j=l) (hx:nth (dJ (bZ t) ls).2 j=x)=>noth_round (t:=t) hj hl hx
  rw[ha] at hno
  have HNO:=qh hno
  have hall:=noth_all (t:=t) (ls:=ls)
  rw[hd] at hall
  have acM:=qh hall
  have HV:=qh hv
  have HR:Hid (∀W:nJ,aD B w W->Le B W->Le 8 W->aD 8 w W->Calls nH 13 #[aY r t,.slice A ls.length c] W (Bp ls.length d a W)):=qh fun W i1 i2 i3 i4=>vt r t ls A c hv Qr hx d a hd ha _ rfl B W H.out.up HL.out.up HS.out.up
  have HX:=qh hx
  have Ft:=qh ho1
  have Xo:=qh hal
  have HVD:=qh Yx
  have VF:(d.az.length:Int)<=5:=nQ
  have Y6:(ls.length:Int)<=30:=nQ
  have HD:=qh Ql
  clear hr Hv hv hx ho1 hal hd ha Yx Ql hno hall
  go_upto_region 4 with(first|(refine au aq rfl _ rfl rfl (X1.out.ah _) rfl ?_)|(go_at_call 13;refine(HR.out _ inferInstance inferInstance inferInstance inferInstance).mono ?_;unfold Bp;rintro e w1 ⟨aA,ac,rN,lA,lc,δ5,rfl,rfl,oA,oT,oL⟩;have OA:=qh oA;have OT:=qh oT;have OL:=qh oL;clear oA oT oL)|(refine iS (cs':=aG rN d.ax) aq rfl _ _ rfl rfl rfl rfl rfl (aL _ _) ?_))
  obtain⟨g,hg⟩:∃g,(ah (ah W1 δ1) δ5).heap.size=g:=⟨_,rfl⟩
  refine aM fun W5 jT=>?_
  have Fo:Le B W5:=fI jT
  have G9:aD B w W5:=gy jT
  obtain⟨su,tZ,tY,sR⟩:=EO 8 w jT
  have E5:Hid (ay W5 g 39 (aG rN d.ax)):=by rw[jT.out];exact qh (ay.new hg.symm)
  have SA5:Hid (Sl bS W5.heap.size W5 aA ac a):=by rw[jT.out];exact qh (uH (OA.out.alloc _) Xo.out)
  have ST5:Hid (aN W5.heap.size W5 rN d.ax):=by rw[jT.out];exact qh (OT.out.alloc _).is
  have SL5:Hid (Sl bS W5.heap.size W5 lA lc (d.az.map (·.line))):=by rw[jT.out];exact qh (uH (OL.out.alloc _) nV)
  have X5:Hid (ay W5 w.heap.size 39 (aG r t)):=by rw[jT.out];exact qh (ay.eO X1.out)
  clear jT OA OT OL
  have lw:Le W5.heap.size W5:=⟨nR _⟩
  rw[hg]
  clear hg
  go_wp2_with fail
  go_loopg [9,10,11] ls.length (fun gn s9 s10 s11 wr=>∃(j m1 c1 c2:Nat) (A1 A2:Option Addr) (L1 L2:List aQ),j<=ls.length/\m1<=j/\gn=ls.length-j/\s9=.slice A1 m1 c1/\s10=.slice A2 m1 c2/\s11=.int .i64 j/\Hid (L1=busyL' (bZ t) (ls.take j)/\L1.length=m1/\L2=busyA' (bZ t) (ls.take j)/\L2.length=m1) /\
   Hid (Twos W5.heap.size wr (.slice A1 m1 c1) m1 (L1.flatMap bS) (.slice A2 m1 c2) m1 (L2.flatMap bS))/\aD W5.heap.size W5 wr/\Le W5.heap.size wr)
  case atStart=>exact⟨0,0,0,0,none,none,[],[],nE _,nR _,rfl,rfl,rfl,rfl,qh ⟨rfl,rfl,rfl,rfl⟩,qh ⟨World.ownsRow_nil _ _ _ _,World.ownsRow_nil _ _ _ _,.inl rfl,.inl rfl⟩,inferInstance,inferInstance⟩
  case round=>
   obtain⟨j,m1,c1,c2,A1,A2,L1,L2,hj,sw,rfl,rfl,rfl,rfl,Xh,HTW,i1,i2⟩:=hrel;by_cases hlt:j<ls.length
   ·have hji:(j:Int)<(ls.length:Int):=nQ;have hj0:¬(j:Int)<0:=nQ;obtain⟨sb,so,rfl,EE,e0⟩:=(HS.out.up (w':=W5)).kK hlt;have isb:Lt sb W5:=⟨nL EE (inferInstance:Le B W5).out⟩;obtain⟨ab,ao,rfl,hab,e1⟩:=SA5.out.kK (k:=j) (by rw[Xo.out];exact hlt);have iab:Lt ab W5:=⟨hab⟩;have hl:=HX.out _ (aR ls hlt);have hla:=Ft.out _ (aR a (k:=j) (by rw[Xo.out];exact hlt));obtain⟨lj,Jd⟩:∃x,nth ls j=x:=⟨_,rfl⟩;obtain⟨aj,haj⟩:∃x,nth a j=x:=⟨_,rfl⟩;have ab1:=HNO.out j hlt lj aj Jd haj;rw[Jd] at e0 hl;rw[haj] at e1 hla;have f0:wr.cell? ⟨sb,so+j,none⟩=some (.string (str lj)):=(bB i1.out _ _ isb.out).trans e0;have f1:wr.cell? ⟨ab,ao+j,none⟩=some (.string (str aj)):=(bB i1.out _ _ iab.out).trans e1;have isw:Lt sb wr:=⟨nL isb.out i2.out⟩;have iaw:Lt ab wr:=⟨nL iab.out i2.out⟩;have HBo:Hid (∀(W:nJ) (b:Bool),wI aj tW=b->Calls nH 17 #[.string (str aj),.string ⟨#[111,107]⟩] W fun e w'=>e=.returned (.bool b)/\∃δ,w'=ah W δ):=qh fun W b hb=>TD aj tW (nT hla nU) b hb W;have HBn:Hid (∀(W:nJ) (b:Bool),wI aj vk=b->Calls nH 17 #[.string (str aj),.string ⟨#[110,111]⟩] W fun e w'=>e=.returned (.bool b)/\∃δ,w'=ah W δ):=qh fun W b hb=>TD aj vk (nT hla nU) b hb W;clear EE hab Jd haj;rcases ab1 with⟨hk,ha,kS,fX⟩|⟨hk,⟨ZY,ha2,ha3⟩,kS,fX⟩|⟨hk,hc⟩
    ·have HK:=qh fun(W:nJ)=>ng lj hl 0 hk W;have s1:((str aj).toList==[119,104,97,116])=true:=by rw[ha];exact cj mC _
     have s2:((str aj).toList != [119,104,97,116])=false:=by rw[bne,s1];rfl
     have HN:Hid (L1=busyL' (bZ t) (ls.take (j+1))/\L1.length=m1/\L2=busyA' (bZ t) (ls.take (j+1))/\L2.length=m1):=qh (by rw[kS,fX];exact Xh.out);clear hk ha kS fX;go_wp2_with (go_at_call 12;refine(HK.out _).mono ?_;rintro e w1 ⟨rfl,δ3,rfl⟩);go_roundg (ls.length-(j+1))
     case measure=>omega
     case rel=>exact⟨j+1,m1,c1,c2,A1,A2,L1,L2,nQ,nQ,rfl,rfl,rfl,by go_num,HN,qh HTW.out.up,inferInstance,inferInstance⟩
    ·have HN:Hid (L1=busyL' (bZ t) (ls.take (j+1))/\L1.length=m1/\L2=busyA' (bZ t) (ls.take (j+1))/\L2.length=m1):=qh (by rw[kS,fX];exact Xh.out);have s1:((str aj).toList==[119,104,97,116])=false:=(cj aj _).trans (decide_eq_false ZY);have H2:=qh ha2;have H3:=qh ha3;clear ZY ha2 ha3 kS fX;have hkk:∃kn,lY (bH lj)=kn/\(kn=2\/kn=3):=⟨_,rfl,hk⟩;obtain⟨kn,hkn,abd⟩:=hkk;have HK:=qh fun(W:nJ)=>ng lj hl kn hkn W;clear hk hkn;obtain⟨bn,hbn⟩:∃b,wI aj vk=b:=⟨_,rfl⟩;have Uj:=qh hbn;have Qn:bn=false\/(bn=true/\((str aj).toList==[110,111,110,101])=true/\((str aj).toList != [110,111,110,101])=false) \/
       (bn=true/\((str aj).toList==[110,111,110,101])=false/\((str aj).toList != [110,111,110,101])=true/\((str aj).toList==[110,111,116,104,105,110,103])=true/\((str aj).toList != [110,111,116,104,105,110,103])=false):=by
      cases bn with
      |false=>exact .inl rfl
      |true=>
       have f:=fun x:aQ=>cj aj x
       rcases H3.out hbn with ha|ha
       ·rw[ha] at f ⊢;exact .inr (.inl ⟨rfl,f _,by rw[bne,f];rfl⟩)
       ·rw[ha] at f ⊢;exact .inr (.inr ⟨rfl,by rw[f];decide,by rw[bne,f];decide,f _,by rw[bne,f];rfl⟩)
     clear hbn;rcases Qn with rfl|⟨rfl,t1,t2⟩|⟨rfl,t1,t2,t3,t4⟩;all_goals
      rcases abd with rfl|rfl;all_goals
       go_wp2_with (first|(go_at_call 12;refine(HK.out _).mono ?_;rintro e w1 ⟨rfl,δ3,rfl⟩)|(go_at_call 17;(first|((with_reducible refine Calls.mono (HBo.out _ _ H2.out) ?_);rintro e w1 ⟨rfl,δ4,rfl⟩)|((with_reducible refine Calls.mono (HBn.out _ _ Uj.out) ?_);rintro e w1 ⟨rfl,δ5',rfl⟩))));go_roundg (ls.length-(j+1))
       case measure=>omega
       case rel=>exact⟨j+1,m1,c1,c2,A1,A2,L1,L2,nQ,nQ,rfl,rfl,rfl,by go_num,HN,qh HTW.out.up,inferInstance,inferInstance⟩
    ·obtain⟨kn,hkn⟩:∃n,lY (bH lj)=n:=⟨_,rfl⟩;have HK:=qh fun(W:nJ)=>ng lj hl kn hkn W;rw[hkn] at hk;have k0:(kn==0)=false:=by rcases hk with h|h|h<;>(rw[h];rfl)
     have k2:(kn==2)=false:=by rcases hk with h|h|h<;>(rw[h];rfl)
     have k3:(kn==3)=false:=by rcases hk with h|h|h<;>(rw[h];rfl)
     have k0d:decide (kn=0)=false:=by rcases hk with h|h|h<;>(rw[h];rfl)
     have k2d:decide (kn=2)=false:=by rcases hk with h|h|h<;>(rw[h];rfl)
     have k3d:decide (kn=3)=false:=by rcases hk with h|h|h<;>(rw[h];rfl)
     clear hkn hk;rcases hc with⟨ha,kS,fX⟩|⟨ZY,ha2,kS,fX⟩
     ·have HN:Hid (L1=busyL' (bZ t) (ls.take (j+1))/\L1.length=m1/\L2=busyA' (bZ t) (ls.take (j+1))/\L2.length=m1):=qh (by rw[kS,fX];exact Xh.out);have s1:((str aj).toList==[110,111])=true:=by rw[ha];exact cj vk _
      clear ha kS fX;go_wp2_with (go_at_call 12;refine(HK.out _).mono ?_;rintro e w1 ⟨rfl,δ3,rfl⟩);go_roundg (ls.length-(j+1))
      case measure=>omega
      case rel=>exact⟨j+1,m1,c1,c2,A1,A2,L1,L2,nQ,nQ,rfl,rfl,rfl,by go_num,HN,qh HTW.out.up,inferInstance,inferInstance⟩
     ·have HN:Hid (L1++[lj]=busyL' (bZ t) (ls.take (j+1))/\(L1++[lj]).length=m1+1/\L2++[aj]=busyA' (bZ t) (ls.take (j+1))/\(L2++[aj]).length=m1+1):=qh (by
       have h:=Xh.out
       refine⟨by rw[kS,h.1],?_,by rw[fX,h.2.2.1],?_⟩
       ·rw[List.length_append,h.2.1];rfl
       ·rw[List.length_append,h.2.2.2];rfl)
      have s1:((str aj).toList==[110,111])=false:=(cj aj _).trans (decide_eq_false ZY);have H2:=qh ha2;clear ZY ha2 kS fX;go_wp2_with (first|(go_at_call 12;refine(HK.out _).mono ?_;rintro e w1 ⟨rfl,δ3,rfl⟩)|(go_at_call 17;refine(HBo.out _ _ H2.out).mono ?_;rintro e w1 ⟨rfl,δ4,rfl⟩));have T1:=HTW.out.up (W':=ah (ah wr δ3) δ4);have g1:aD W5.heap.size W5 (ah (ah wr δ3) δ4):=inferInstance;have g2:Le W5.heap.size (ah (ah wr δ3) δ4):=inferInstance;obtain⟨Z,hZ⟩:∃Z,ah (ah wr δ3) δ4=Z:=⟨_,rfl⟩;rw[hZ] at T1 g1 g2 ⊢;clear hZ;apply share
      ·intro K;refine wp_region_held (S:=fun W=>aD W5.heap.size W5 W) nP ?_;change wpAnyH _ _ _ _ _ _ _ _ (World.drew _);refine wpH_tq 0 (.slice A1 m1 c1) (inferInstance) ?_;refine QAC ?_;refine wpH_tq 1 (.slice (some ⟨sb,so,none⟩) ls.length c) (inferInstance) ?_;refine QAC ?_;refine wpH_tq 2 (.int .i64 j) (inferInstance) ?_;refine QAC ?_;refine wpH_tq 3 (.pointer (some ⟨sb,so+j,none⟩)) (inferInstance) ?_;refine QAC ?_;refine gN 4 (.string (str lj)) rfl nP (Or.inl ⟨nY,by intro w5 h5;have e5:=(bB h5.out sb (so+j) isb.out).trans e0;go_simp⟩) (inferInstance) ?_;refine QAC ?_;refine wpH_tq 7 (.slice A2 m1 c2) (inferInstance) ?_;refine QAC ?_;refine wpH_tq 8 (.slice (some ⟨ab,ao,none⟩) ls.length ac) (inferInstance) ?_;refine QAC ?_;refine wpH_tq 9 (.int .i64 j) (inferInstance) ?_;refine QAC ?_;refine wpH_tq 10 (.pointer (some ⟨ab,ao+j,none⟩)) (inferInstance) ?_;refine QAC ?_;refine gN 11 (.string (str aj)) rfl nP (Or.inl ⟨nY,by intro w5 h5;have e5:=(bB h5.out ab (ao+j) iab.out).trans e1;go_simp⟩) (inferInstance) ?_;refine QAC ?_;have aa7:=T1;have aae:aD W5.heap.size W5 Z.drew:=inferInstance;have lS:Le W5.heap.size Z.drew:=inferInstance;have aa7:Twos W5.heap.size Z.drew (.slice A1 m1 c1) m1 (L1.flatMap bS) (.slice A2 m1 c2) m1 (L2.flatMap bS):=⟨aa7.o1.drew,aa7.o2.drew,aa7.n12,aa7.n21⟩;obtain⟨aav,hY⟩:∃X,Z.drew=X:=⟨_,rfl⟩;rw[hY] at aa7 aae lS ⊢;refine wpAnyH_all (rs:=[5,12]) (by decide +kernel) nV ?_;intro i hi;rcases List.mem_cons.1 hi with rfl|hi
       ·unfold wpOp;show if Region.wanted _ _=true then _ else _;rw[if_pos nY];left;unfold Oper.wp;go_simp;refine⟨inferInstance,?_⟩;refine QAC ?_;have T1:=aa7.alloc (.cells #[.string (str lj)] 9);have L1:=Ltl.mk' aa7 lj;have gS1:aD W5.heap.size W5 (World.alloc aav (.cells #[.string (str lj)] 9)):=inferInstance;have lS1:Le W5.heap.size (World.alloc aav (.cells #[.string (str lj)] 9)):=inferInstance;obtain⟨q1,hq⟩:∃q,(World.heap aav).size=q:=⟨_,rfl⟩;rw[hq] at L1 ⊢;clear hq;obtain⟨aaw,hY⟩:∃X,World.alloc aav (.cells #[.string (str lj)] 9)=X:=⟨_,rfl⟩;rw[hY] at T1 L1 gS1 lS1 ⊢;clear hY;refine wpAnyH_all (rs:=[6,12]) (by decide +kernel) nV ?_;intro i hi;rcases List.mem_cons.1 hi with rfl|hi
        ·unfold wpOp;show if Region.wanted _ _=true then _ else _;rw[if_pos nY];left;refine wp_append_x Ut (.tmp 53) (.tmp 58) rfl T1.o1 rfl rfl L1.bx rfl (by intro u hu;simp at hu;subst hu;rfl) nQ nQ ?_;intro P2 c2 aax gK gr2 at2;have T2:=T1.app1 gr2 gK at2;have gS2:aD W5.heap.size W5 aax:=grew_by gr2 fun k hk=>(T1.o1.lt k hk).1;have lS2:Le W5.heap.size aax:=le_by gr2;refine⟨gS2,?_⟩;refine QAC ?_;refine wpAnyH_all (rs:=[12]) (by decide +kernel) nV ?_;intro i hi;obtain rfl:=List.mem_singleton.1 hi;refine QAF ?_;refine⟨inferInstance,?_⟩;refine QAC ?_;have T3:=T2.alloc (.cells #[.string (str aj)] 9);have L3:=Ltl.mk' T2 aj;have gS3:aD W5.heap.size W5 (World.alloc aax (.cells #[.string (str aj)] 9)):=inferInstance;have lS3:Le W5.heap.size (World.alloc aax (.cells #[.string (str aj)] 9)):=inferInstance;obtain⟨q3,hq⟩:∃q,(World.heap aax).size=q:=⟨_,rfl⟩;rw[hq] at L3 ⊢;clear hq;obtain⟨aay,hY⟩:∃X,World.alloc aax (.cells #[.string (str aj)] 9)=X:=⟨_,rfl⟩;rw[hY] at T3 L3 gS3 lS3 ⊢;clear hY;refine wpAnyH_all (rs:=[13]) (by decide +kernel) nV ?_;intro i hi;obtain rfl:=List.mem_singleton.1 hi;refine QBB ?_;refine wp_append_x Ut (.tmp 60) (.tmp 65) rfl T3.o2 rfl rfl L3.bx rfl (by intro u hu;simp at hu;subst hu;rfl) nQ nQ ?_;intro aaz c4 aaA Kl gr4 at4;have T4:=T3.app2 gr4 Kl at4;have gS4:aD W5.heap.size W5 aaA:=grew_by gr4 fun k hk=>(T3.o2.lt k hk).1;have lS4:Le W5.heap.size aaA:=le_by gr4;refine⟨gS4,?_⟩;refine QAC ?_;refine wpH_tq 14 (.slice P2 (m1+1) c2) (gS4) ?_;refine QAC ?_;refine wpH_tq 15 (.slice aaz (m1+1) c4) (gS4) ?_;refine QAC ?_;refine wpAnyH_done nP ?_ _;clear at4 gr4 Kl lS3 gS3 L3 T3 lS2 gS2 T2 at2 gr2 gK lS1 gS1 L1 T1;revert lS4;revert gS4;revert T4;revert aaA;revert q3;revert q1;revert c4;revert aaz;revert c2;revert P2;exact K.out
        ·obtain rfl:=List.mem_singleton.1 hi;refine QAF ?_;refine⟨inferInstance,?_⟩;refine QAC ?_;have T2:=T1.alloc (.cells #[.string (str aj)] 9);have L2:=Ltl.mk' T1 aj;have M2:=L1.alloc (.cells #[.string (str aj)] 9);have gS2:aD W5.heap.size W5 (World.alloc aaw (.cells #[.string (str aj)] 9)):=inferInstance;have lS2:Le W5.heap.size (World.alloc aaw (.cells #[.string (str aj)] 9)):=inferInstance;obtain⟨q2,hq⟩:∃q,(World.heap aaw).size=q:=⟨_,rfl⟩;rw[hq] at L2 ⊢;clear hq;obtain⟨aax,hY⟩:∃X,World.alloc aaw (.cells #[.string (str aj)] 9)=X:=⟨_,rfl⟩;rw[hY] at T2 L2 M2 gS2 lS2 ⊢;clear hY;refine wpAnyH_all (rs:=[6]) (by decide +kernel) nV ?_;intro i hi;obtain rfl:=List.mem_singleton.1 hi;refine QBB ?_;refine wp_append_x Ut (.tmp 53) (.tmp 58) rfl T2.o1 rfl rfl M2.bx rfl (by intro u hu;simp at hu;subst hu;rfl) nQ nQ ?_;intro aaC c3 aay lK gr3 at3;have T3:=T2.app1 gr3 lK at3;have M3:=L2.app1 gr3 at3;have gS3:aD W5.heap.size W5 aay:=grew_by gr3 fun k hk=>(T2.o1.lt k hk).1;have lS3:Le W5.heap.size aay:=le_by gr3;refine⟨gS3,?_⟩;refine QAC ?_;refine wpAnyH_all (rs:=[13]) (by decide +kernel) nV ?_;intro i hi;obtain rfl:=List.mem_singleton.1 hi;refine QBB ?_;refine wp_append_x Ut (.tmp 60) (.tmp 65) rfl T3.o2 rfl rfl M3.bx rfl (by intro u hu;simp at hu;subst hu;rfl) nQ nQ ?_;intro aaz c4 aaA Kl gr4 at4;have T4:=T3.app2 gr4 Kl at4;have gS4:aD W5.heap.size W5 aaA:=grew_by gr4 fun k hk=>(T3.o2.lt k hk).1;have lS4:Le W5.heap.size aaA:=le_by gr4;refine⟨gS4,?_⟩;refine QAC ?_;refine wpH_tq 14 (.slice aaC (m1+1) c3) (gS4) ?_;refine QAC ?_;refine wpH_tq 15 (.slice aaz (m1+1) c4) (gS4) ?_;refine QAC ?_;refine wpAnyH_done nP ?_ _;exact K.out _ _ _ _ _ _ _ T4 gS4 lS4
       ·obtain rfl:=List.mem_singleton.1 hi;refine QAF ?_;refine⟨inferInstance,?_⟩;refine QAC ?_;have T1:=aa7.alloc (.cells #[.string (str aj)] 9);have L1:=Ltl.mk' aa7 aj;have gS1:aD W5.heap.size W5 (World.alloc aav (.cells #[.string (str aj)] 9)):=inferInstance;have lS1:Le W5.heap.size (World.alloc aav (.cells #[.string (str aj)] 9)):=inferInstance;obtain⟨q1,hq⟩:∃q,(World.heap aav).size=q:=⟨_,rfl⟩;rw[hq] at L1 ⊢;clear hq;obtain⟨aaw,hY⟩:∃X,World.alloc aav (.cells #[.string (str aj)] 9)=X:=⟨_,rfl⟩;rw[hY] at T1 L1 gS1 lS1 ⊢;clear hY;refine wpAnyH_all (rs:=[5]) (by decide +kernel) nV ?_;intro i hi;obtain rfl:=List.mem_singleton.1 hi;refine QAF ?_;refine⟨inferInstance,?_⟩;refine QAC ?_;have T2:=T1.alloc (.cells #[.string (str lj)] 9);have L2:=Ltl.mk' T1 lj;have M2:=L1.alloc (.cells #[.string (str lj)] 9);have gS2:aD W5.heap.size W5 (World.alloc aaw (.cells #[.string (str lj)] 9)):=inferInstance;have lS2:Le W5.heap.size (World.alloc aaw (.cells #[.string (str lj)] 9)):=inferInstance;obtain⟨q2,hq⟩:∃q,(World.heap aaw).size=q:=⟨_,rfl⟩;rw[hq] at L2 ⊢;clear hq;obtain⟨aax,hY⟩:∃X,World.alloc aaw (.cells #[.string (str lj)] 9)=X:=⟨_,rfl⟩;rw[hY] at T2 L2 M2 gS2 lS2 ⊢;clear hY;refine wpAnyH_all (rs:=[6]) (by decide +kernel) nV ?_;intro i hi;obtain rfl:=List.mem_singleton.1 hi;refine QBB ?_;refine wp_append_x Ut (.tmp 53) (.tmp 58) rfl T2.o1 rfl rfl L2.bx rfl (by intro u hu;simp at hu;subst hu;rfl) nQ nQ ?_;intro aaC c3 aay lK gr3 at3;have T3:=T2.app1 gr3 lK at3;have M3:=M2.app1 gr3 at3;have gS3:aD W5.heap.size W5 aay:=grew_by gr3 fun k hk=>(T2.o1.lt k hk).1;have lS3:Le W5.heap.size aay:=le_by gr3;refine⟨gS3,?_⟩;refine QAC ?_;refine wpAnyH_all (rs:=[13]) (by decide +kernel) nV ?_;intro i hi;obtain rfl:=List.mem_singleton.1 hi;refine QBB ?_;refine wp_append_x Ut (.tmp 60) (.tmp 65) rfl T3.o2 rfl rfl M3.bx rfl (by intro u hu;simp at hu;subst hu;rfl) nQ nQ ?_;intro aaz c4 aaA Kl gr4 at4;have T4:=T3.app2 gr4 Kl at4;have gS4:aD W5.heap.size W5 aaA:=grew_by gr4 fun k hk=>(T3.o2.lt k hk).1;have lS4:Le W5.heap.size aaA:=le_by gr4;refine⟨gS4,?_⟩;refine QAC ?_;refine wpH_tq 14 (.slice aaC (m1+1) c3) (gS4) ?_;refine QAC ?_;refine wpH_tq 15 (.slice aaz (m1+1) c4) (gS4) ?_;refine QAC ?_;refine wpAnyH_done nP ?_ _;exact K.out _ _ _ _ _ _ _ T4 gS4 lS4
      intro A1' c1' Mb c2' g58 g65 W9 aaG aae lS;go_wp2_with fail;go_roundg (ls.length-(j+1))
      case measure=>omega
      case rel=>refine⟨j+1,m1+1,c1',c2',A1',Mb,L1++[lj],L2++[aj],nQ,nQ,rfl,rfl,rfl,by go_num,HN,?_,aae,lS⟩;unfold Hid;rw[List.flatMap_append,List.flatMap_append];exact aaG
   ·obtain rfl:j=ls.length:=by omega
    have HF:Hid (L1=busyL' (bZ t) ls/\L1.length=m1/\L2=busyA' (bZ t) ls/\L2.length=m1):=qh (by have h:=Xh.out;rw[List.take_length] at h;exact h);have hsub:=busy_sub ls (bZ t);rw[<-HF.out.1] at hsub;have HD2:Hid ((dJ (bZ t) L1).1=d):=qh (by rw[HF.out.1];exact acM.out.1);have HA2:Hid ((dJ (bZ t) L1).2=L2):=qh (by rw[HF.out.1,HF.out.2.2.1];exact acM.out.2);have g1:aD w.heap.size w wr:=pU (inferInstance:aD w.heap.size w W5) i1;have g2':Le w.heap.size wr:=⟨nT (inferInstance:Le w.heap.size W5).out i2.out⟩;have g3:aD B w wr:=⟨⟨g1.out.1,g1.out.2.1,g1.out.2.2.1,fun b hb=>g1.out.2.2.2 b (nL hb hB.out)⟩⟩;have g4:Le B wr:=⟨nT hB.out g2'.out⟩;have g5:aD 8 w wr:=⟨⟨g1.out.1,g1.out.2.1,g1.out.2.2.1,fun b hb=>g1.out.2.2.2 b (nL hb h8.out)⟩⟩;have g6:Le 8 wr:=⟨nT h8.out g2'.out⟩;have g7:Le wr.heap.size wr:=⟨nR _⟩;have Zy:Hid (Calls nH 13 #[aY r t,.slice A1 m1 c1] wr (Bp m1 d L2 wr)):=
     qh (vt r t L1 A1 c1 HV.out (by have:=hsub.1;omega) (fun x hx=>HX.out x (hsub.2 x hx)) d L2 HD2.out HA2.out m1 HF.out.2.1 wr.heap.size wr H.out.wide HL.out.up (uH HTW.out.o1 HF.out.2.1))
    have SW6:Hid (Sl bS wr.heap.size wr A2 c2 L2):=qh (uH HTW.out.o2 HF.out.2.2.2);have aaH:Hid (ay wr w.heap.size 39 (aG r t)):=qh (ay.eO X5.out);clear hsub HD2 HA2;go_upto_region 23 with(first|(refine au aq rfl _ rfl rfl aaH.out rfl ?_)|(go_at_call 13;refine Zy.out.mono ?_;unfold Bp;rintro e w1 ⟨bA,bc,rM,mA,mc,δ6,rfl,rfl,oA,oT,oL⟩;have OA:=qh oA;have OT:=qh oT;have OL:=qh oL;clear oA oT oL)|(refine iS (cs':=aG rM d.ax) aq rfl _ _ rfl rfl rfl rfl rfl (aL _ _) ?_));obtain⟨gb,hgb⟩:∃g,(ah wr δ6).heap.size=g:=⟨_,rfl⟩;refine aM fun W7 hW7=>?_;have k1:aD w.heap.size w W7:=gy hW7;have k2':Le w.heap.size W7:=by rw[hW7.out];infer_instance
    have k3':aD W5.heap.size W5 W7:=by rw[hW7.out];infer_instance
    have k4:Le W5.heap.size W7:=fI hW7;have k5:aD 8 w W7:=gy hW7;have k6:Le 8 W7:=fI hW7;have F7:Hid (ay W7 gb 39 (aG rM d.ax)):=by rw[hW7.out];exact qh (ay.new hgb.symm)
    have SB7:Hid (Sl bS W7.heap.size W7 bA bc L2):=by rw[hW7.out];exact qh (uH (OA.out.alloc _) HF.out.2.2.2)
    have SU7:Hid (aN W7.heap.size W7 rM d.ax):=by rw[hW7.out];exact qh (OT.out.alloc _).is
    have SM7:Hid (Sl bS W7.heap.size W7 mA mc (d.az.map (·.line))):=by rw[hW7.out];exact qh (uH (OL.out.alloc _) nV)
    have SW7:Hid (Sl bS W7.heap.size W7 A2 c2 L2):=by rw[hW7.out];exact qh SW6.out.wide
    clear hW7 OA OT OL Zy;have k7:Le W7.heap.size W7:=⟨nR _⟩;rw[hgb];clear hgb;have E7:Hid (ay W7 g 39 (aG rN d.ax)):=qh (ay.eO E5.out);have ST7:Hid (aN W7.heap.size W7 rN d.ax):=qh ST5.out.wide;have SL7:Hid (Sl bS W7.heap.size W7 lA lc (d.az.map (·.line))):=qh SL5.out.wide;go_wp2_with (first|(refine bC aq nY _ rfl rfl (ay.eO E7.out) rfl ?_)|(refine bC aq nY _ rfl rfl (ay.eO F7.out) rfl ?_)|(go_at_call 14;(first|(with_reducible refine Calls.mono (xU bA A2 bc c2 L2 W7.heap.size _ SB7.out.up SW7.out.up _ _ HF.out.2.2.2 HF.out.2.2.2) ?_)|(with_reducible refine Calls.mono (xU lA mA lc mc (d.az.map (·.line)) W7.heap.size _ SL7.out.up SM7.out.up _ _ nV nV) ?_));rintro e w1 ⟨rfl,δ9,rfl⟩)|(go_at_call 16;refine(Mp rN rM d.ax W7.heap.size _ ST7.out.up SU7.out.up).mono ?_;rintro e w1 ⟨rfl,δ9,rfl⟩)|(go_at_call 11;refine(dK _ HL.out.up).mono ?_;rintro e w1 ⟨rfl,δ9,rfl⟩));go_ret;exact⟨rfl,ag⟩
end
end Go.Proofs.YtpnnapeoanafdaaGreatDoor
