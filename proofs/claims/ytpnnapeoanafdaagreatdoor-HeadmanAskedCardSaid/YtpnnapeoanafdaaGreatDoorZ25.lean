/- A part of the proof that a law of layer 12 holds, cut small by a program (names and blanks): Hp1, Hp2, Hp3, Hp4, Hp5, Hp6. -/
import Derived.Lib.LaidTab
import Derived.Lib.SmallJoins
import Derived.Test.YtpnnapeoanafdaaGreatDoorZ13
import Derived.Test.YtpnnapeoanafdaaGreatDoorZ24
set_option maxRecDepth 100000
set_option maxHeartbeats 40000000
set_option linter.unusedVariables false
set_option linter.unusedSimpArgs false
namespace Go.Proofs.YtpnnapeoanafdaaGreatDoor
open Go.RowKit
open Nat renaming le_trans → nT, lt_of_lt_of_le → nL, le_refl → nR, zero_le → nE, le_succ → nF
open Go.Proofs.Tryz renaming prog → nH
open Go renaming World → nJ, Value → nK
section
open Go.Shelf Go.Sort
open Hd
def TabIs(w:nJ):Prop:=Lib.TabIs nH w "internal/strconv.uint64pow10" .u64 Lib.pow10Tab
theorem TabIs.up{w W:nJ}(h:TabIs w)[hg:aD 8 w W]:TabIs W:=by unfold TabIs Lib.TabIs World.var? at *;rw[show Tryz.prog.globalNamed "internal/strconv.uint64pow10" = some 1 by kernel_rfl] at *;simp only[Option.bind_some] at *;rw[hg.out.2.2.2 1 nQ];exact h
structure cT(w:nJ):Prop where
 Xx:TabIs w
 lN:∃m,w.cell? ⟨0,0,none⟩=some (.int .i64 m)
 syn:∃te pe,w.cell? ⟨4,0,none⟩=some (.iface te pe)
 rng:∃te pe,w.cell? ⟨5,0,none⟩=some (.iface te pe)
theorem cT.up{w W:nJ}(h:cT w)[hg:aD 8 w W]:cT W:=by
 refine⟨h.Xx.up,?_,?_,?_⟩
 ·obtain⟨m,hm⟩:=h.lN;exact⟨m,(bB hg.out _ _ nQ).trans hm⟩
 ·obtain⟨m,p,hm⟩:=h.syn;exact⟨m,p,(bB hg.out _ _ nQ).trans hm⟩
 ·obtain⟨m,p,hm⟩:=h.rng;exact⟨m,p,(bB hg.out _ _ nQ).trans hm⟩
theorem IV(w:nJ)(k:Nat)(os:Array Obj):Below w.heap.size w (grow (w.drewN k) os):=
 ⟨rfl,rfl,rfl,by simp[grow,World.drewN],fun j hj=>by
  show(w.heap++os)[j]?=_
  rw[Array.getElem?_append_left hj]⟩
theorem xA(n:Int)(l:aQ)(hl:Lib.itoa n=l)(h0:-9223372036854775808<=n)(h1:n<=9223372036854775807)(w:nJ)(hT:TabIs w):Calls nH 137 #[.int .i64 n] w fun e w'=>e=.returned (.string (str l))/\∃δ,w'=ah w δ:=by refine(Tryz.strconv_Itoa n h0 h1 w hT).mono ?_;rintro e w1 ⟨rfl,k,os,rfl⟩;rw[hl];exact⟨rfl,vV (IV w k os)⟩
theorem Uo(t:aQ):Lib.trimPrefix t [45]=pn t:=by
 unfold Lib.trimPrefix Lib.hasPrefix pn;cases t with
 |nil=>rfl
 |cons b r=>
  by_cases h:b=45
  ·subst h;simp
  ·have:([45]:List UInt8).isPrefixOf (b::r)=false:=by simp[List.isPrefixOf];exact fun e=>h e.symm
   simp[this,h]
theorem QC(t:aQ)(w:nJ):Calls nH 246 #[.string (str t),.string ⟨#[45]⟩] w fun e w'=>e=.returned (.string (str (pn t)))/\∃δ,w'=ah w δ:=by refine(Tryz.strings_TrimPrefix (str t) ⟨#[45]⟩ w).mono ?_;rintro e w1 ⟨rfl,rfl⟩;refine⟨?_,w1,(bw w1).symm⟩;rw[show(str t).data.toList=t by simp[str],show(⟨#[45]⟩:ByteArray).data.toList=[45] from rfl,Uo];rfl
def pg(o:Option Int)(w:nJ)(e:Ending)(w':nJ):Prop:=∃(v:Int) (δ:nJ),e=.returned (.tuple #[.int .i64 v,.bool o.isSome])/\w'=ah w δ/\∀n,o=some n->v=n
theorem So{o:Option Int}{v:Int}{w W:nJ}(h:o=some v)(hl:∃δ,W=ah w δ):pg o w (.returned (.tuple #[.int .i64 v,.bool true])) W:=by subst h;obtain⟨δ,rfl⟩:=hl;exact⟨v,δ,rfl,rfl,fun n h=>by injection h⟩
theorem EG{o:Option Int}{v:Int}{w W:nJ}(h:o=none)(hl:∃δ,W=ah w δ):pg o w (.returned (.tuple #[.int .i64 v,.bool false])) W:=by subst h;obtain⟨δ,rfl⟩:=hl;exact⟨v,δ,rfl,rfl,fun n h=>by cases h⟩
theorem Fb(t:aQ)(v:Int)(ht:t.length<=1000)(h:Lib.atoiAll t=.ok v)(w:nJ):Calls nH 247 #[.string (str t)] w fun e w'=>e=.returned (.tuple #[.int .i64 v,.nilIface])/\∃δ,w'=ah w δ:=by
 refine(Tryz.strconv_Atoi_ok (str t) (by rw[lI];omega) v (by rw[show(str t).data.toList=t by simp[str]];exact h) w).mono ?_;rintro e w1 ⟨rfl,hw⟩;refine⟨rfl,?_⟩;rcases hw with rfl|⟨s,rfl⟩
 ·exact⟨w1,(bw w1).symm⟩
 ·exact vV (Go.Joins.below_bytesWorld _ _ _ _ (nR _))
theorem TF(t:aQ)(ht:t.length<=1000)(h:∀v,Lib.atoiAll t≠.ok v)(w:nJ)(hL:cT w):Calls nH 247 #[.string (str t)] w fun e w'=>∃(v:Int) (te:TypeId) (p:nK),e=.returned (.tuple #[.int .i64 v,.iface te p])/\∃δ,w'=ah w δ:=by
 obtain⟨te,pe,h1⟩:=hL.syn;obtain⟨te2,pe2,h2⟩:=hL.rng;rcases ha:Lib.atoiAll t with v|_|_
 ·exact absurd ha (h v)
 ·refine(Tryz.strconv_Atoi_syntax (str t) (by rw[lI];omega) (by rw[show(str t).data.toList=t by simp[str]];exact ha) _ w h1 (.inr ⟨_,_,rfl⟩)).mono ?_;rintro e w1 ⟨N,rfl,_,_,hb⟩;exact⟨_,_,_,rfl,vV hb⟩
 ·refine(Tryz.strconv_Atoi_range (str t) (by rw[lI];omega) (by rw[show(str t).data.toList=t by simp[str]];exact ha) _ w h2 (.inr ⟨_,_,rfl⟩)).mono ?_;rintro e w1 ⟨N,rfl,_,_,hb⟩;exact⟨_,_,_,rfl,vV hb⟩
theorem Pj{t:aQ}(h:∀v,Lib.atoiAll t≠.ok v):numOf t=none:=by
 cases ho:numOf t with
 |none=>rfl
 |some n=>
  obtain⟨h1,h2⟩:=jF.1 ho
  exact absurd (by rw[h1];exact DB h2) (h n)
theorem MU{t:aQ}{v:Int}(h:Lib.atoiAll t=.ok v)(hn:¬(t=Lib.itoa v/\(pn t).length<=6)):numOf t=none:=by
 cases ho:numOf t with
 |none=>rfl
 |some n=>
  obtain⟨h1,h2⟩:=jF.1 ho
  have h3:=DB h2
  rw[<-h1,h] at h3
  injection h3 with h3
  subst h3
  exact absurd (GK.2 ho) hn
theorem GH(t:aQ)(ht:t.length<=1000)(w:nJ)[h8:Le 8 w](hL:cT w):Calls nH 201 #[.string (str t)] w (pg (numOf t) w):=by
 have HL:=qh hL;clear hL;by_cases hx:∃v,Lib.atoiAll t=.ok v
 ·obtain⟨v,hv⟩:=hx;have HV:=qh hv;have hb:=Lib.atoiAll_bounds hv;obtain⟨it,hit⟩:∃x,Lib.itoa v=x:=⟨_,rfl⟩;have Xj:=qh hit;obtain⟨mg,ZQ⟩:∃x,pn t=x:=⟨_,rfl⟩;have HTR:Hid (∀W:nJ,Calls nH 246 #[.string (str t),.string ⟨#[45]⟩] W fun e w'=>e=.returned (.string (str mg))/\∃δ,w'=ah W δ):=qh fun W=>by rw[<-ZQ];exact QC t W
  by_cases h6:mg.length<=6
  ·have h6i:(mg.length:Int)<=6:=nQ;by_cases he:it=t
   ·have HO:Hid (numOf t=some v):=qh (GK.1 ⟨by rw[hit,he],by rw[ZQ];exact h6⟩);subst he;clear hv hit ZQ h6;go_enter Tryz.func201,Tryz.ntmps201;go_wp2_with (first|(go_at_call 246;refine(HTR.out _).mono ?_;rintro e w1 ⟨rfl,δ1,rfl⟩)|(go_at_call 247;refine(Fb it v ht HV.out _).mono ?_;rintro e w1 ⟨rfl,δ2,rfl⟩)|(go_at_call 137;refine(xA v it Xj.out hb.1 hb.2 _ HL.out.Xx.up).mono ?_;rintro e w1 ⟨rfl,δ3,rfl⟩));go_ret2;exact So HO.out ag
   ·have HO:Hid (numOf t=none):=qh (MU hv fun h=>he (by rw[<-hit];exact h.1.symm));have hne:((str it).toList==(str t).toList)=false:=by rw[oF,oF,iL,iL];simpa using he
    have ads:¬str it=str t:=fun e=>he (by have:=congrArg (fun b:ByteArray=>b.data.toList) e;simpa [str] using this);clear hv hit ZQ h6 he;go_enter Tryz.func201,Tryz.ntmps201;go_wp2_with (first|(go_at_call 246;refine(HTR.out _).mono ?_;rintro e w1 ⟨rfl,δ1,rfl⟩)|(go_at_call 247;refine(Fb t v ht HV.out _).mono ?_;rintro e w1 ⟨rfl,δ2,rfl⟩)|(go_at_call 137;refine(xA v it Xj.out hb.1 hb.2 _ HL.out.Xx.up).mono ?_;rintro e w1 ⟨rfl,δ3,rfl⟩));go_ret2;exact EG HO.out ag
  ·have h6i:¬(mg.length:Int)<=6:=nQ;have h6d:decide ((mg.length:Int)<=6)=false:=decide_eq_false h6i;have HO:Hid (numOf t=none):=qh (MU hv fun h=>h6 (by rw[<-ZQ];exact h.2));clear hv hit ZQ;go_enter Tryz.func201,Tryz.ntmps201;go_wp2_with (first|(go_at_call 246;refine(HTR.out _).mono ?_;rintro e w1 ⟨rfl,δ1,rfl⟩)|(go_at_call 247;refine(Fb t v ht HV.out _).mono ?_;rintro e w1 ⟨rfl,δ2,rfl⟩));go_ret2;exact EG HO.out ag
 ·have hx:∀v,Lib.atoiAll t≠.ok v:=fun v e=>hx ⟨v,e⟩;have HX:=qh hx;have HO:=qh (Pj hx);clear hx;go_enter Tryz.func201,Tryz.ntmps201;go_wp2_with (first|(go_at_call 246;refine(QC t _).mono ?_;rintro e w1 ⟨rfl,δ1,rfl⟩)|(go_at_call 247;refine(TF t ht HX.out _ HL.out.up).mono ?_;rintro e w1 ⟨v,te,p,rfl,δ2,rfl⟩));go_ret2;exact EG HO.out ag
end
section
open Hd
def o9(o:Option (List Int))(w:nJ)(e:Ending)(w':nJ):Prop:=∃(A:Option Addr) (c:Nat) (δ:nJ),e=.returned (.tuple #[.slice A (o.getD []).length c,.bool o.isSome])/\w'=ah w δ/\fN 3 aI (ah w δ).heap.size (ah w δ) A c (o.getD [])
theorem aal{o:Option (List Int)}{w W:nJ}(h:o=none)(hl:∃δ,W=ah w δ):o9 o w (.returned (.tuple #[.slice none 0 0,.bool false])) W:=by subst h;obtain⟨δ,rfl⟩:=hl;exact⟨none,0,δ,rfl,rfl,fN.none_⟩
theorem X9{o:Option (List Int)}{a:List Int}{w W:nJ}{A:Option Addr}{c n b:Nat}(h:o=some a)[aD w.heap.size w W][Le w.heap.size W](hn:n=a.length)(ho:W.ownsRow b 3 1 (.slice A n c) n (a.flatMap aI)):o9 o w (.returned (.tuple #[.slice A n c,.bool true])) W:=by subst h;subst hn;refine⟨A,c,W,rfl,ai,?_⟩;refine QDF ?_;exact fN.bU ho rfl
theorem kP:∀ {ws:List aQ} {j:Nat},j<ws.length->numOf (nth ws j)=none->cQ ws=none
 |[],_,h,_=>absurd h (Nat.not_lt_zero _)
 |x::xs,0,_,h=>by have h:numOf x=none:=h;unfold cQ;simp[h]
 |x::xs,j+1,hl,h=>by have:=kP (ws:=xs) (j:=j) (Nat.lt_of_succ_lt_succ hl) h;unfold cQ;rw[this];cases numOf x<;>rfl
theorem Ox(ws:List aQ)(A:Option Addr)(cap:Nat)(hl:∀x∈ws,x.length<=1000)(hn:ws.length<=1001)(B:Nat)(w:nJ)(hS:Sl bS B w A cap ws)[hB:Le B w][h8:Le 8 w](hL:cT w):Calls nH 132 #[.slice A ws.length cap] w (o9 (cQ ws) w):=by
 have HS:=qh hS;have HL:=qh hL;have qm:=qh hl;clear hS hL hl;go_enter Tryz.func132,Tryz.ntmps132;go_upto_region 2 with fail;go_loopg [2,10] ws.length (fun gn s2 s10 wr=>∃(j:Nat) (A':Option Addr) (c':Nat) (a:List Int),j<=ws.length/\gn=ws.length-j/\s2=.slice A' j c'/\s10=.int .i64 j/\Hid (cQ (ws.take j)=some a)/\Hid (wr.ownsRow w.heap.size 3 1 (.slice A' j c') j (a.flatMap aI))/\aD w.heap.size w wr/\Le w.heap.size wr)
 case atStart=>exact⟨0,none,0,[],nE _,rfl,rfl,rfl,qh rfl,qh (World.ownsRow_nil _ _ _ _),inferInstance,inferInstance⟩
 case round=>
  obtain⟨j,A',c',a,hj,rfl,rfl,rfl,HA,HO,i1,i2⟩:=hrel;have a3:aD B w wr:=⟨⟨i1.out.1,i1.out.2.1,i1.out.2.2.1,fun b hb=>i1.out.2.2.2 b (nL hb hB.out)⟩⟩;have a4:Le B wr:=⟨nT hB.out i2.out⟩;have a5:aD 8 w wr:=⟨⟨i1.out.1,i1.out.2.1,i1.out.2.2.1,fun b hb=>i1.out.2.2.2 b (nL hb h8.out)⟩⟩;have a6:Le 8 wr:=⟨nT h8.out i2.out⟩;by_cases hlt:j<ws.length
  ·have hji:(j:Int)<(ws.length:Int):=nQ;have hj0:¬(j:Int)<0:=nQ;obtain⟨sb,so,rfl,EE,e0⟩:=(HS.out.up (w':=wr)).kK hlt;have isb:Lt sb wr:=⟨nL EE a4.out⟩;have Jd:=qm.out _ (aR ws hlt);have Z9:=qh (@kP ws j hlt);have TU:Hid (cQ (ws.take (j+1))=(numOf (nth ws j)).map fun n=>a++[n]):=by unfold Hid;rw[bz ws hlt,CQ,HA.out];rfl
   have HJ:Hid (a.length=j):=qh (by rw[mZ HA.out,List.length_take];omega);obtain⟨x,hx⟩:∃x,nth ws j=x:=⟨_,rfl⟩;rw[hx] at e0 Jd Z9 TU;have HC:Hid (∀W:nJ,cT W->Le 8 W->Calls nH 201 #[.string (str x)] W (pg (numOf x) W)):=qh fun W h1 h2=>GH x Jd W h1;unfold pg at HC;clear EE hx;cases ho:numOf x with
   |none=>
    rw[ho] at HC
    have HN:=qh (Z9.out ho)
    clear ho Z9 TU
    go_wp2_with (go_at_call 201;refine(HC.out _ HL.out.up inferInstance).mono ?_;rintro e w1 ⟨v,δ1,rfl,rfl,_⟩)
    go_ret2
    exact aal HN.out ag
   |some n=>
    rw[ho] at HC TU
    clear ho Z9
    go_wp2_with (first|(go_at_call 201;refine(HC.out _ HL.out.up inferInstance).mono ?_;rintro e w1 ⟨v,δ1,rfl,rfl,hv⟩;obtain rfl:=hv n rfl)|(at_builtin;(refine bP w wO (.tmp 21) (.tmp 23) rfl rfl (bu HO.out) rfl rfl nW rfl (by simp[Value.oneCell']) nQ nQ ?_);intro A3 c3 δ3 lK uO))
    go_roundg (ws.length-(j+1))
    case measure=>omega
    case rel=>refine⟨j+1,A3,c3,a++[v],nQ,rfl,rfl,by go_num,TU,?_,inferInstance,inferInstance⟩;rw[List.flatMap_append];exact qh (by simpa [aI] using lK)
  ·obtain rfl:j=ws.length:=by omega
   have hjn:¬((ws.length:Int)<(ws.length:Int)):=nQ;have HA2:Hid (cQ ws=some a):=by have:=HA.out;rw[List.take_length] at this;exact qh this
   have HJ:Hid (ws.length=a.length):=qh (mZ HA2.out).symm;clear HA;go_wp2_with fail;go_ret2;exact X9 HA2.out HJ.out HO.out
end
section
open Hd
def Ze:Wd->nK
 |.aP=>.func (.func 233) #[] #[]
 |.current=>.func (.func 234) #[] #[]
 |.gJ=>.func (.func 235) #[] #[]
 |.af=>.func (.func 236) #[] #[]
 |.mV=>.func (.func 238) #[] #[]
 |.dY=>.func (.func 240) #[] #[]
 |.eE=>.func (.func 241) #[] #[]
 |.part=>.func (.func 242) #[] #[]
 |.fG=>.func (.func 244) #[] #[]
 |_=>.nilFunc
def Z7(o:Option Wd):Nat:=match o with|some d=>if cg d=1 then tS d else 0|none=>0
def Z5(o:Option Wd):nK:=match o with|some d=>Ze d|none=>.nilFunc
def isC(o:Option Wd):Bool:=match o with|some d=>decide (cg d=1)|none=>false
theorem LK(t:aQ)(w:nJ):Calls nH 188 #[.string (str t)] w fun e w'=>e=.returned (.tuple #[.agg #[.int .i64 (Z7 (jO t):Nat),Z5 (jO t)],.bool (isC (jO t))])/\∃δ,w'=ah w δ:=by
 obtain⟨o,ho⟩:∃o,jO t=o:=⟨_,rfl⟩;have F:=cL t o ho;rw[ho];clear ho;obtain⟨f0,f1,f2,f3,f4,f5,f6,f7,f8,f9,f10,f11,f12,f13,f14,f15,f16,f17,f18,f19⟩:=F;rcases o with _|d
 ·simp only[reduceCtorEq,decide_false] at f0 f1 f2 f3 f4 f5 f6 f7 f8 f9 f10 f11 f12 f13 f14 f15 f16 f17 f18 f19;go_enter Tryz.func188,Tryz.ntmps188;go_wp2;refine bodyPost_ret (v:=.tuple #[.agg #[.int .i64 (0:Int),.nilFunc],.bool false]) ?_ rfl ⟨rfl,ag⟩;simp only[results,Tryz.results188];go_simp
 ·cases d;all_goals simp only[Option.some.injEq,reduceCtorEq,decide_false,decide_true] at f0 f1 f2 f3 f4 f5 f6 f7 f8 f9 f10 f11 f12 f13 f14 f15 f16 f17 f18 f19;go_enter Tryz.func188,Tryz.ntmps188;go_wp2;refine bodyPost_ret (v:=.tuple #[.agg #[.int .i64 (Z7 (some _):Nat),Z5 (some _)],.bool (isC (some _))]) ?_ rfl ⟨rfl,ag⟩;simp only[results,Tryz.results188];go_simp;try (first|rfl|exact⟨⟨rfl,rfl⟩,rfl⟩|(simp[Z7,Z5,isC,Ze,tS,cg];done))
theorem wQ(b:Bool)(w:nJ):Calls nH 128 #[.bool b] w fun e w'=>e=.returned (.string (str (jB b)))/\∃δ,w'=ah w δ:=by cases b;all_goals go_enter Tryz.func128,Tryz.ntmps128;go_wp2;go_ret;exact⟨rfl,ag⟩
theorem DM(e:Int)(x:aQ)(w:nJ):Calls nH 317 #[.int .i64 e,.string (str x)] w fun e' w'=>e'=.returned (.string (str (mB e x)))/\∃δ,w'=ah w δ:=by
 by_cases h0:e=0
 ·subst h0;go_enter Tryz.func317,Tryz.ntmps317;go_wp2;go_ret;exact⟨rfl,ag⟩
 ·by_cases h3:e=3
  ·subst h3;go_enter Tryz.func317,Tryz.ntmps317;go_wp2;go_ret;exact⟨rfl,ag⟩
  ·have e0:(e==0)=false:=by simp[h0]
   have e3:(e==3)=false:=by simp[h3]
   have HT:Hid (mB e x=Jz):=by unfold Hid mB;rw[if_neg h0,if_neg h3]
   clear h0 h3;go_enter Tryz.func317,Tryz.ntmps317;go_wp2;go_ret;exact⟨by rw[HT.out];rfl,ag⟩
end
section
open Hd
def mh{α:Type}(T:TypeId)(enc:α->List nK)(B:Nat)(w:nJ)(A:Option Addr)(c:Nat)(xs:List α):Prop:=Sl enc B w A c xs\/fN T enc w.heap.size w A c xs
section
variable{α:Type}{T:TypeId}{enc:α->List nK}{B:Nat}{w W:nJ}{A:Option Addr}{c:Nat}{xs:List α}
theorem mh.sl(h:mh T enc B w A c xs)[hB:Le B w]:Sl enc w.heap.size w A c xs:=by
 rcases h with h|h
 ·exact h.more hB.out
 ·exact h.plain
theorem mh.up(h:mh T enc B w A c xs)[hg:aD w.heap.size w W][hl:Le w.heap.size W][hB:Le B w]:mh T enc B W A c xs:=by
 rcases h with h|h
 ·have i:aD B w W:=⟨⟨hg.out.1,hg.out.2.1,hg.out.2.2.1,fun b hb=>hg.out.2.2.2 b (nL hb hB.out)⟩⟩;exact .inl h.up
 ·exact .inr h.wide
theorem mh.aV{b:Nat}{T':TypeId}{cs:Array nK}(h:mh T enc B w A c xs)(k:bI (fun x=>x=b) w W)(hb:ay w b T' cs)(hne:T'≠T)(hB:B<=b)(hl:B<=w.heap.size):mh T enc B W A c xs:=by
 rcases h with h|h
 ·have i:aD B w W:=⟨⟨k.os,k.tape,k.output,fun j hj=>k.block j (nL hj hl) (fun e:j=b=>absurd (e▸hj) (Nat.not_lt.2 hB))⟩⟩;exact .inl h.up
 ·exact .inr (h.aV k hb hne (nR _))
end
def aT(B:Nat)(w:nJ)(r:aW)(t:aO):Prop:=
 (mh 23 gY B w r.aF.gA r.aF.gc t.aF.av/\mh 102 cM B w r.aF.aA r.aF.ac t.aF.aB/\mh 148 fA B w r.aF.wA r.aF.wc t.aF.aU) /\
 (mh 150 bE B w r.af.hA r.af.hc t.af.hs/\mh 152 dG B w r.af.pA r.af.pc t.af.ps) /\
 (mh 155 rG B w r.aa.kA r.aa.kc t.aa.kinds/\mh 157 jH B w r.aa.pA r.aa.pc t.aa.parts/\mh 3 aI B w r.aa.bA r.aa.bc t.aa.bars)
section
variable{B:Nat}{w W:nJ}{r:aW}{t:aO}
theorem aT.of(h:aN B w r t):aT B w r t:=⟨⟨.inl h.1.1,.inl h.1.2.1,.inl h.1.2.2⟩,⟨.inl h.2.1.1,.inl h.2.1.2⟩,⟨.inl h.2.2.1,.inl h.2.2.2.1,.inl h.2.2.2.2⟩⟩
theorem aT.is(h:aT B w r t)[hB:Le B w]:aN w.heap.size w r t:=⟨⟨h.1.1.sl,h.1.2.1.sl,h.1.2.2.sl⟩,⟨h.2.1.1.sl,h.2.1.2.sl⟩,⟨h.2.2.1.sl,h.2.2.2.1.sl,h.2.2.2.2.sl⟩⟩
theorem aT.up(h:aT B w r t)[hg:aD w.heap.size w W][hl:Le w.heap.size W][hB:Le B w]:aT B W r t:=⟨⟨h.1.1.up,h.1.2.1.up,h.1.2.2.up⟩,⟨h.2.1.1.up,h.2.1.2.up⟩,⟨h.2.2.1.up,h.2.2.2.1.up,h.2.2.2.2.up⟩⟩
theorem aT.aV{b:Nat}{T:TypeId}{cs:Array nK}(h:aT B w r t)(k:bI (fun x=>x=b) w W)(hb:ay w b T cs)(hne:Bx T)(hB:B<=b)(hl:B<=w.heap.size):aT B W r t:=
 ⟨⟨h.1.1.aV k hb hne.1.1 hB hl,h.1.2.1.aV k hb hne.1.2.1 hB hl,h.1.2.2.aV k hb hne.1.2.2 hB hl⟩,⟨h.2.1.1.aV k hb hne.2.1.1 hB hl,h.2.1.2.aV k hb hne.2.1.2 hB hl⟩,⟨h.2.2.1.aV k hb hne.2.2.1 hB hl,h.2.2.2.1.aV k hb hne.2.2.2.1 hB hl,h.2.2.2.2.aV k hb hne.2.2.2.2 hB hl⟩⟩
end
theorem Sl.MI{α:Type}{enc:α->List nK}{B:Nat}{w:nJ}{A:Option Addr}{c:Nat}{xs:List α}(h:Sl enc B w A c xs)(hs:∀x,enc x≠[])(hA:A=none):xs.length=0:=by
 cases xs with
 |nil=>rfl
 |cons x xs=>
  obtain⟨b,o,e,_⟩:=h.2.2 (by rw[List.flatMap_cons];intro e;exact hs x (List.append_eq_nil_iff.1 e).1)
  rw[hA] at e
  cases e
theorem EJ{W:nJ}{g:Nat}{arr:Array nK}{T:TypeId}(hb:ay W g T arr):∀j u,arr.toList[j]?=some u->W.cell? ((⟨g,0,none⟩:Addr).add j)=some u:=fun j u hj=>by rw[Addr.add_mid,Nat.zero_add];exact hb.cell (by simpa using hj)
theorem OH(xs:List Me.kr)(x:Me.kr)(A:Option Addr)(cap:Nat)(hl:xs.length<=1000)(B:Nat)(w:nJ)(hS:Sl bE B w A cap xs)[hB:Le B w]:Calls nH 237 #[.slice A xs.length cap,.agg #[.int .i64 x.fr,.int .i64 x.lo,.int .i64 x.hi,.int .i64 x.hr]] w fun e w'=>∃(A':Option Addr) (c':Nat) (δ:nJ),e=.returned (.slice A' (xs.length+1) c')/\w'=ah w δ/\fN 150 bE (ah w δ).heap.size (ah w δ) A' c' (xs++[x]):=by refine QEZ ?_;intro HS AE MY;have HN:Hid ((xs.flatMap bE).length=xs.length*4):=qh (cm bE 4 (fun _=>rfl) _);clear hS;go_enter Tryz.func237,Tryz.ntmps237;go_upto_region 1 with fail;go_region_law (first|(refine fQ JO (.tmp 10) (.tmp 12) rfl rfl A xs.length (xs.flatMap bE) rfl (HS.out.MI (fun _=>by simp[bE])) HN.out (Sl.holds HS.out.up) _ 1 1 (bE x) rfl nQ rfl (EJ (arr:=(bE x).toArray) (T:=150) (by exact ay.drew (ay.new nW))) (qA x) nQ nQ ?_;intro A1 c1 δ1 eG));all_goals go_wp2_with fail;go_ret;refine⟨A1,c1,_,rfl,ai,?_⟩;refine QDF ?_;refine fN.bU (base:=w.heap.size) (size:=4) (n:=xs.length+1) ?_ nV;rw[List.flatMap_append];exact dA (by simpa [bE] using eG) (by first|exact nR _|(go_simp;omega)|(go_simp;done))
theorem OG(xs:List Me.Pr)(x:Me.Pr)(A:Option Addr)(cap:Nat)(hl:xs.length<=1000)(B:Nat)(w:nJ)(hS:Sl dG B w A cap xs)[hB:Le B w]:Calls nH 239 #[.slice A xs.length cap,.agg #[.int .i64 x.a,.int .i64 x.b]] w fun e w'=>∃(A':Option Addr) (c':Nat) (δ:nJ),e=.returned (.slice A' (xs.length+1) c')/\w'=ah w δ/\fN 152 dG (ah w δ).heap.size (ah w δ) A' c' (xs++[x]):=by refine QEZ ?_;intro HS AE MY;have HN:Hid ((xs.flatMap dG).length=xs.length*2):=qh (cm dG 2 (fun _=>rfl) _);clear hS;go_enter Tryz.func239,Tryz.ntmps239;go_upto_region 1 with fail;go_region_law (first|(refine fQ DS (.tmp 10) (.tmp 12) rfl rfl A xs.length (xs.flatMap dG) rfl (HS.out.MI (fun _=>by simp[dG])) HN.out (Sl.holds HS.out.up) _ 1 1 (dG x) rfl nQ rfl (EJ (arr:=(dG x).toArray) (T:=152) (by exact ay.drew (ay.new nW))) (Ed x) nQ nQ ?_;intro A1 c1 δ1 eG));all_goals go_wp2_with fail;go_ret;refine⟨A1,c1,_,rfl,ai,?_⟩;refine QDF ?_;refine fN.bU (base:=w.heap.size) (size:=2) (n:=xs.length+1) ?_ nV;rw[List.flatMap_append];exact dA (by simpa [dG] using eG) (by first|exact nR _|(go_simp;omega)|(go_simp;done))
theorem OF(xs:List Sa.Part)(x:Sa.Part)(A:Option Addr)(cap:Nat)(hl:xs.length<=1000)(B:Nat)(w:nJ)(hS:Sl jH B w A cap xs)[hB:Le B w]:Calls nH 243 #[.slice A xs.length cap,.agg #[.int .i64 x.kind,.int .i64 x.bG]] w fun e w'=>∃(A':Option Addr) (c':Nat) (δ:nJ),e=.returned (.slice A' (xs.length+1) c')/\w'=ah w δ/\fN 157 jH (ah w δ).heap.size (ah w δ) A' c' (xs++[x]):=by refine QEZ ?_;intro HS AE MY;have HN:Hid ((xs.flatMap jH).length=xs.length*2):=qh (cm jH 2 (fun _=>rfl) _);clear hS;go_enter Tryz.func243,Tryz.ntmps243;go_upto_region 1 with fail;go_region_law (first|(refine fQ Uu (.tmp 10) (.tmp 12) rfl rfl A xs.length (xs.flatMap jH) rfl (HS.out.MI (fun _=>by simp[jH])) HN.out (Sl.holds HS.out.up) _ 1 1 (jH x) rfl nQ rfl (EJ (arr:=(jH x).toArray) (T:=157) (by exact ay.drew (ay.new nW))) (vI x) nQ nQ ?_;intro A1 c1 δ1 eG));all_goals go_wp2_with fail;go_ret;refine⟨A1,c1,_,rfl,ai,?_⟩;refine QDF ?_;refine fN.bU (base:=w.heap.size) (size:=2) (n:=xs.length+1) ?_ nV;rw[List.flatMap_append];exact dA (by simpa [jH] using eG) (by first|exact nR _|(go_simp;omega)|(go_simp;done))
theorem RG(xs:List Int)(x:Int)(A:Option Addr)(cap:Nat)(hl:xs.length<=1000)(B:Nat)(w:nJ)(hS:Sl aI B w A cap xs)[hB:Le B w]:Calls nH 245 #[.slice A xs.length cap,.int .i64 x] w fun e w'=>∃(A':Option Addr) (c':Nat) (δ:nJ),e=.returned (.slice A' (xs.length+1) c')/\w'=ah w δ/\fN 3 aI (ah w δ).heap.size (ah w δ) A' c' (xs++[x]):=by refine QEZ ?_;intro HS AE MY;have HN:Hid ((xs.flatMap aI).length=xs.length*1):=qh (cm aI 1 (fun _=>rfl) _);clear hS;go_enter Tryz.func245,Tryz.ntmps245;go_upto_region 1 with fail;go_wp2_with (refine wpList_step fun K hK=>fQ wO (.tmp 10) (.tmp 12) rfl rfl A xs.length (xs.flatMap aI) rfl (HS.out.MI (fun _=>by simp[aI])) HN.out (Sl.holds HS.out.up) _ 1 1 (aI x) rfl nQ rfl (EJ (arr:=(aI x).toArray) (T:=3) (by first|exact ay.new rfl)) (vK x) nQ nQ ?kk;case' kk=>(intro A1 c1 δ1 eG;refine hK _ _ ?_));all_goals go_ret;refine⟨A1,c1,_,rfl,ai,?_⟩;refine QDF ?_;refine fN.bU (base:=w.heap.size) (size:=1) (n:=xs.length+1) ?_ nV;rw[List.flatMap_append];exact dA (by simpa [aI] using eG) (by first|exact nR _|(go_simp;omega)|(go_simp;done))
end
section
open Hd
def mq(B:Nat)(t:aO)(c:eB)(w:nJ)(e:Ending)(w':nJ):Prop:=
 ∃(r':aW) (δ:nJ),e=.returned (.tuple #[aY r' ((jd t c).getD t),.bool (jd t c).isSome])/\w'=ah w δ/\aT B (ah w δ) r' ((jd t c).getD t)
theorem rI{B:Nat}{r':aW}{t o:aO}{c:eB}{w W:nJ}(h:jd t c=some o)[aD w.heap.size w W][Le w.heap.size W](ho:aT B W r' o):mq B t c w (.returned (.tuple #[aY r' o,.bool true])) W:=by refine⟨r',W,by rw[h];rfl,ai,?_⟩;rw[<-ai (w:=w),h];exact ho
theorem Tb{B:Nat}{r:aW}{t:aO}{c:eB}{w W:nJ}(h:jd t c=none)[aD w.heap.size w W][Le w.heap.size W](ho:aT B W r t):mq B t c w (.returned (.tuple #[aY r t,.bool false])) W:=by refine⟨r,W,by rw[h];rfl,ai,?_⟩;rw[<-ai (w:=w),h];exact ho
section
variable{B:Nat}{w W:nJ}{r:aW}{t:aO}{A':Option Addr}{c':Nat}
theorem aT.eo{b i:Nat}{T:TypeId}{cs:Array nK}(h:aT B w r t)(hb:ay w b T cs)(hne:Bx T)(hB:B<=b)(hl:B<=w.heap.size)(u:nK):aT B (w.setCell ⟨b,i,none⟩ u) r t:=h.aV ((bI.refl (fun x=>x=b) w).set (b:=b) rfl i u) hb hne hB hl
theorem aT.drew(h:aT B w r t):aT B w.drew r t:=h
theorem aT.Kh{x:Me.kr}(h:aT B w r t)(hx:fN 150 bE w.heap.size w A' c' (t.af.hs++[x])):aT B w ⟨r.aF,⟨A',c',r.af.pA,r.af.pc⟩,r.aa⟩ ⟨t.aF,⟨t.af.m,t.af.hs++[x],t.af.ps⟩,t.aa⟩:=⟨h.1,⟨.inr hx,h.2.1.2⟩,h.2.2⟩
theorem aT.Kf{x:Me.Pr}(h:aT B w r t)(hx:fN 152 dG w.heap.size w A' c' (t.af.ps++[x])):aT B w ⟨r.aF,⟨r.af.hA,r.af.hc,A',c'⟩,r.aa⟩ ⟨t.aF,⟨t.af.m,t.af.hs,t.af.ps++[x]⟩,t.aa⟩:=⟨h.1,⟨h.2.1.1,.inr hx⟩,h.2.2⟩
theorem aT.Kg{x:Sa.Part}(h:aT B w r t)(hx:fN 157 jH w.heap.size w A' c' (t.aa.parts++[x])):aT B w ⟨r.aF,r.af,⟨r.aa.kA,r.aa.kc,A',c',r.aa.bA,r.aa.bc⟩⟩ ⟨t.aF,t.af,⟨t.aa.kinds,t.aa.floor,t.aa.parts++[x],t.aa.bars⟩⟩:=⟨h.1,h.2.1,⟨h.2.2.1,.inr hx,h.2.2.2.2⟩⟩
theorem aT.Ki{x:Int}(h:aT B w r t)(hx:fN 3 aI w.heap.size w A' c' (t.aa.bars++[x])):aT B w ⟨r.aF,r.af,⟨r.aa.kA,r.aa.kc,r.aa.pA,r.aa.pc,A',c'⟩⟩ ⟨t.aF,t.af,⟨t.aa.kinds,t.aa.floor,t.aa.parts,t.aa.bars++[x]⟩⟩:=⟨h.1,h.2.1,⟨h.2.2.1,h.2.2.2.1,.inr hx⟩⟩
end
theorem VV(r:aW)(t:aO)(ur:Small t)(a:List Int)(hl:a.length=2)(A:Option Addr)(cap:Nat)(B:Nat)(w:nJ)(hT:aT B w r t)[hB:Le B w](hS:Sl aI w.heap.size w A cap a):Calls nH 233 #[aY r t,.slice A a.length cap] w (mq B t ⟨.aP,a⟩ w):=by
 have nu:=qh ur;have H:=qh hT;obtain⟨bb,oo,rfl,ij,_⟩:=hS.int (k:=0) nQ;refine QAS ?_;intro HS hl0 hk0 hm0 hl1 AA sw;have HE:Hid (jd t ⟨.aP,a⟩=some ⟨⟨⟨nth a 0,nth a 1⟩,t.aF.cur,t.aF.av,t.aF.aB,t.aF.aU⟩,t.af,t.aa⟩):=rfl;have lw:Le w.heap.size w:=⟨nR _⟩;clear hT ur hl hS;go_enter Tryz.func233,Tryz.ntmps233;go_upto_region 1 with fail;refine QAI ?_;intro W1 aH cJ dF cW di dz eL A1 R1 M1 ib nb1 nb2 d0 x0 hx0;rw[hx0] at d0;refine QBN ?_;intro d1 x1 hx1;rw[hx1] at d1;rw[hx0,hx1] at HE;clear hx0 hx1 ij aH;have v0:=A1.out.ax.1;have cf0:=A1.out.free 0;have v1:=A1.out.ax.2.1;have cf1:=A1.out.free 1;go_upto_region 1 with fail;go_region;go_upto_region 2 with fail;refine QBL ?_;intro W3 bR q8 yb;have Gs:Le B W3:=fI bR;have A3:Hid (ay W3 w.heap.size 39 (aG r (⟨⟨⟨x0,x1⟩,t.aF.cur,t.aF.av,t.aF.aB,t.aF.aU⟩,t.af,t.aa⟩))):=by rw[bR.out];exact qh ((A1.out.drew.set 0 _).set 1 _)
 refine QEP ?_;intro R3;have M3:Hid (aT B W3 r (⟨⟨⟨x0,x1⟩,t.aF.cur,t.aF.av,t.aF.aB,t.aF.aU⟩,t.af,t.aa⟩)):=by rw[bR.out];exact qh (show aT B _ r t from(M1.out.drew.eo A1.out.drew nU hB.out cJ.out _).eo (A1.out.drew.set 0 _) nU hB.out (by simpa using cJ.out) _)
 clear bR;go_wp2_with (first|(refine au aq rfl _ rfl rfl A3.out rfl ?_)|(refine ak aq rfl _ _ rfl rfl rfl R3.out rfl rfl (aL _ _) ?_;intro W9 C9 k9));refine QAT ?_;intro p1 p2;refine ep aq Tryz.results233 rfl C9 rfl ?_;exact rI HE.out (M3.out.aV k9 R3.out nU (Nat.le_succ_of_le hB.out) Gs.out)
theorem Ls(r:aW)(t:aO)(ur:Small t)(a:List Int)(hl:a.length=2)(A:Option Addr)(cap:Nat)(B:Nat)(w:nJ)(hT:aT B w r t)[hB:Le B w](hS:Sl aI w.heap.size w A cap a):Calls nH 234 #[aY r t,.slice A a.length cap] w (mq B t ⟨.current,a⟩ w):=by
 have nu:=qh ur;have H:=qh hT;obtain⟨bb,oo,rfl,ij,_⟩:=hS.int (k:=0) nQ;refine QAS ?_;intro HS hl0 hk0 hm0 hl1 AA sw;have HE:Hid (jd t ⟨.current,a⟩=some ⟨⟨t.aF.aP,⟨nth a 0,nth a 1⟩,t.aF.av,t.aF.aB,t.aF.aU⟩,t.af,t.aa⟩):=rfl;have lw:Le w.heap.size w:=⟨nR _⟩;clear hT ur hl hS;go_enter Tryz.func234,Tryz.ntmps234;go_upto_region 1 with fail;refine QAI ?_;intro W1 aH cJ dF cW di dz eL A1 R1 M1 ib nb1 nb2 d0 x0 hx0;rw[hx0] at d0;refine QBN ?_;intro d1 x1 hx1;rw[hx1] at d1;rw[hx0,hx1] at HE;clear hx0 hx1 ij aH;have v2:=A1.out.ax.2.2.1;have cf2:=A1.out.free 2;have v3:=A1.out.ax.2.2.2.1;have cf3:=A1.out.free 3;go_upto_region 1 with fail;go_region;go_upto_region 2 with fail;refine QBL ?_;intro W3 bR q8 yb;have Gs:Le B W3:=fI bR;have A3:Hid (ay W3 w.heap.size 39 (aG r (⟨⟨t.aF.aP,⟨x0,x1⟩,t.aF.av,t.aF.aB,t.aF.aU⟩,t.af,t.aa⟩))):=by rw[bR.out];exact qh ((A1.out.drew.set 2 _).set 3 _)
 refine QEP ?_;intro R3;have M3:Hid (aT B W3 r (⟨⟨t.aF.aP,⟨x0,x1⟩,t.aF.av,t.aF.aB,t.aF.aU⟩,t.af,t.aa⟩)):=by rw[bR.out];exact qh (show aT B _ r t from(M1.out.drew.eo A1.out.drew nU hB.out cJ.out _).eo (A1.out.drew.set 2 _) nU hB.out (by simpa using cJ.out) _)
 clear bR;go_wp2_with (first|(refine au aq rfl _ rfl rfl A3.out rfl ?_)|(refine ak aq rfl _ _ rfl rfl rfl R3.out rfl rfl (aL _ _) ?_;intro W9 C9 k9));refine QAT ?_;intro p1 p2;refine ep aq Tryz.results234 rfl C9 rfl ?_;exact rI HE.out (M3.out.aV k9 R3.out nU (Nat.le_succ_of_le hB.out) Gs.out)
theorem Lr(r:aW)(t:aO)(ur:Small t)(a:List Int)(hl:a.length=1)(A:Option Addr)(cap:Nat)(B:Nat)(w:nJ)(hT:aT B w r t)[hB:Le B w](hS:Sl aI w.heap.size w A cap a):Calls nH 240 #[aY r t,.slice A a.length cap] w (mq B t ⟨.dY,a⟩ w):=by
 have nu:=qh ur;have H:=qh hT;obtain⟨bb,oo,rfl,ij,_⟩:=hS.int (k:=0) nQ;refine QDZ ?_;intro HS hl0 hk0 hm0;have HE:Hid (jd t ⟨.dY,a⟩=some ⟨t.aF,⟨nth a 0,t.af.hs,t.af.ps⟩,t.aa⟩):=rfl;have lw:Le w.heap.size w:=⟨nR _⟩;clear hT ur hl hS;go_enter Tryz.func240,Tryz.ntmps240;go_upto_region 1 with fail;refine QAI ?_;intro W1 aH cJ dF cW di dz eL A1 R1 M1 ib nb1 nb2 d0 x0 hx0;rw[hx0] at d0;rw[hx0] at HE;clear hx0 ij aH;have v7:=A1.out.ax.2.2.2.2.2.2.2.1;have cf7:=A1.out.free 7;go_upto_region 2 with fail;refine QBL ?_;intro W3 bR q8 yb;have Gs:Le B W3:=fI bR;have A3:Hid (ay W3 w.heap.size 39 (aG r (⟨t.aF,⟨x0,t.af.hs,t.af.ps⟩,t.aa⟩))):=by rw[bR.out];exact qh (A1.out.set 7 _)
 have R3:Hid (ay W3 (w.heap.size+1) 39 (aG dc cS)):=by rw[bR.out];exact qh (R1.out.fB (by show w.heap.size+1≠w.heap.size;omega) _)
 have M3:Hid (aT B W3 r (⟨t.aF,⟨x0,t.af.hs,t.af.ps⟩,t.aa⟩)):=by rw[bR.out];exact qh (show aT B _ r t from M1.out.eo A1.out nU hB.out cJ.out _)
 clear bR;go_wp2_with (first|(refine au aq rfl _ rfl rfl A3.out rfl ?_)|(refine ak aq rfl _ _ rfl rfl rfl R3.out rfl rfl (aL _ _) ?_;intro W9 C9 k9));refine QAT ?_;intro p1 p2;refine ep aq Tryz.results240 rfl C9 rfl ?_;exact rI HE.out (M3.out.aV k9 R3.out nU (Nat.le_succ_of_le hB.out) Gs.out)
theorem VY(r:aW)(t:aO)(ur:Small t)(a:List Int)(hl:a.length=2)(A:Option Addr)(cap:Nat)(B:Nat)(w:nJ)(hT:aT B w r t)[hB:Le B w](hS:Sl aI w.heap.size w A cap a):Calls nH 238 #[aY r t,.slice A a.length cap] w (mq B t ⟨.mV,a⟩ w):=by
 have nu:=qh ur;have H:=qh hT;obtain⟨bb,oo,rfl,ij,_⟩:=hS.int (k:=0) nQ;refine QAS ?_;intro HS hl0 hk0 hm0 hl1 AA sw;have HE:Hid (jd t ⟨.mV,a⟩=some ⟨t.aF,⟨t.af.m,t.af.hs,t.af.ps++[⟨nth a 0,nth a 1⟩]⟩,t.aa⟩):=rfl;have lw:Le w.heap.size w:=⟨nR _⟩;clear hT ur hl hS;go_enter Tryz.func238,Tryz.ntmps238;go_upto_region 1 with fail;refine QAI ?_;intro W1 aH cJ dF cW di dz eL A1 R1 M1 ib nb1 nb2 d0 x0 hx0;rw[hx0] at d0;refine QBN ?_;intro d1 x1 hx1;rw[hx1] at d1;rw[hx0,hx1] at HE;refine QBO ?_;intro I7 Jm;clear hx0 hx1 ij aH;have v9:=A1.out.ax.2.2.2.2.2.2.2.2.2.1;have cf9:=A1.out.free 9;refine QEY ?_;intro E0 G0;refine eW (S:=fun W=>ay W w.heap.size 39 (aG r t)/\aD w.heap.size w W) (N:=[13]) nP ?_;change wpAnyS _ _ _ _ _ _ _ _ _ (World.drew _);refine wpS_pq 0 (.pointer (some ⟨w.heap.size,7,none⟩)) (fun _=>⟨E0.out,G0⟩) ?_;refine QAC ?_;refine wpS_pq 1 (.pointer (some ⟨w.heap.size,9,none⟩)) (fun _=>⟨E0.out,G0⟩) ?_;refine QAC ?_;refine iP 2 (.slice r.af.pA t.af.ps.length r.af.pc) rfl nP (Or.inl ⟨nY,by intro w5 h5;have e:=ay.cell h5.1 (i:=9) (v:=.slice r.af.pA t.af.ps.length r.af.pc) rfl;go_simp⟩) (⟨E0.out,G0⟩) ?_;refine QAC ?_;refine wpS_pq 3 (.slice (some ⟨bb,oo,none⟩) a.length cap) (fun _=>⟨E0.out,G0⟩) ?_;refine QAC ?_;refine wpS_pq 4 (.pointer (some ⟨bb,oo,none⟩)) (fun _=>⟨E0.out,G0⟩) ?_;refine QAC ?_;refine QBF ?_;refine QAC ?_;refine wpS_pq 6 (.slice (some ⟨bb,oo,none⟩) a.length cap) (fun _=>⟨E0.out,G0⟩) ?_;refine QAC ?_;refine wpS_pq 7 (.pointer (some ⟨bb,oo+1,none⟩)) (fun _=>⟨E0.out,G0⟩) ?_;refine QAC ?_;refine QBS ?_;refine QAC ?_;refine wpS_pq 9 (.agg #[.int .i64 x0,.int .i64 x1]) (fun _=>⟨E0.out,G0⟩) ?_;refine QAC ?_;refine aZ (rs:=[10]) nP nV ?_;intro i hi;obtain rfl:=List.mem_singleton.1 hi;refine QAF ?_;refine(OG t.af.ps ⟨x0,x1⟩ r.af.pA r.af.pc nu.out.2.1.2 W1.heap.size _ (M1.out.is.2.1.2.up)).mono ?_;rintro e w1 ⟨A2,c2,δ2,rfl,rfl,hs⟩;have HX:=qh hs;clear hs;refine⟨fun _=>⟨E0.out.ah _,inferInstance⟩,?_⟩;refine QAC ?_;have E1:=E0.out.ah δ2;have el:=E1.lt;have ef:=E1.free 9;have ec:=E1.cell (i:=9) (v:=.slice r.af.pA t.af.ps.length r.af.pc) rfl;refine wpS_pq 11 (.pointer (some ⟨w.heap.size,7,none⟩)) (fun _=>⟨E0.out.ah _,inferInstance⟩) ?_;refine QAC ?_;refine wpS_pq 12 (.pointer (some ⟨w.heap.size,9,none⟩)) (fun _=>⟨E0.out.ah _,inferInstance⟩) ?_;refine QAC ?_;refine aZ (rs:=[13]) nP nV ?_;intro i hi;obtain rfl:=List.mem_singleton.1 hi;refine QAF ?_;refine⟨fun h=>absurd h nU,?_⟩;refine QAC ?_;refine eX nP ?_ _;go_upto_region 2 with fail;refine QBL ?_;intro W3 bR q8 yb;have Gs:Le B W3:=fI bR;have A3:Hid (ay W3 w.heap.size 39 (aG ⟨r.aF,⟨r.af.hA,r.af.hc,A2,c2⟩,r.aa⟩ (⟨t.aF,⟨t.af.m,t.af.hs,t.af.ps++[⟨x0,x1⟩]⟩,t.aa⟩))):=by rw[bR.out];rw[FD];exact qh ((A1.out.drew.ah _).set 9 _)
 refine QBV ?_;intro R3;have M3:Hid (aT B W3 ⟨r.aF,⟨r.af.hA,r.af.hc,A2,c2⟩,r.aa⟩ (⟨t.aF,⟨t.af.m,t.af.hs,t.af.ps++[⟨x0,x1⟩]⟩,t.aa⟩)):=by rw[bR.out];exact qh ((((M1.out.drew.up (W:=(ah W1.drew δ2))).Kf HX.out)).eo (A1.out.drew.ah _) nU hB.out (nT cJ.out (inferInstance:Le W1.heap.size (ah W1.drew δ2)).out) _)
 clear bR;go_wp2_with (first|(refine au aq rfl _ rfl rfl A3.out rfl ?_)|(refine ak aq rfl _ _ rfl rfl rfl R3.out rfl rfl (aL _ _) ?_;intro W9 C9 k9));refine QAT ?_;intro p1 p2;refine ep aq Tryz.results238 rfl C9 rfl ?_;exact rI HE.out (M3.out.aV k9 R3.out nU (Nat.le_succ_of_le hB.out) Gs.out)
theorem VX(r:aW)(t:aO)(ur:Small t)(a:List Int)(hl:a.length=4)(A:Option Addr)(cap:Nat)(B:Nat)(w:nJ)(hT:aT B w r t)[hB:Le B w](hS:Sl aI w.heap.size w A cap a):Calls nH 236 #[aY r t,.slice A a.length cap] w (mq B t ⟨.af,a⟩ w):=by
 have nu:=qh ur;have H:=qh hT;obtain⟨bb,oo,rfl,ij,_⟩:=hS.int (k:=0) nQ;refine QAS ?_;intro HS hl0 hk0 hm0 hl1 AA sw;have Fp:(2:Int)<(a.length:Int):=nQ;have hk2:Hid (2<a.length):=qh nQ;have hm2:2<a.length:=nQ;have WS:(3:Int)<(a.length:Int):=nQ;have sx:Hid (3<a.length):=qh nQ;have WQ:3<a.length:=nQ;have HE:Hid (jd t ⟨.af,a⟩=some ⟨t.aF,⟨t.af.m,t.af.hs++[⟨nth a 0,nth a 1,nth a 2,nth a 3⟩],t.af.ps⟩,t.aa⟩):=rfl;have lw:Le w.heap.size w:=⟨nR _⟩;clear hT ur hl hS;go_enter Tryz.func236,Tryz.ntmps236;go_upto_region 1 with fail;refine QAI ?_;intro W1 aH cJ dF cW di dz eL A1 R1 M1 ib nb1 nb2 d0 x0 hx0;rw[hx0] at d0;refine QBN ?_;intro d1 x1 hx1;rw[hx1] at d1;have d2:W1.cell? ⟨bb,oo+2,none⟩=some (.int .i64 (nth a 2)):=(HS.out.up (w':=W1)).kW (k:=2) hk2.out;obtain⟨x2,hx2⟩:∃x,nth a 2=x:=⟨_,rfl⟩;rw[hx2] at d2;have d3:W1.cell? ⟨bb,oo+3,none⟩=some (.int .i64 (nth a 3)):=(HS.out.up (w':=W1)).kW (k:=3) sx.out;obtain⟨x3,hx3⟩:∃x,nth a 3=x:=⟨_,rfl⟩;rw[hx3] at d3;rw[hx0,hx1,hx2,hx3] at HE;refine QBO ?_;intro I7 Jm;have HD2:Hid (∀W:nJ,aD w.heap.size w W->W.cell? ⟨bb,oo+2,none⟩=some (.int .i64 x2)):=qh fun W i=>((HS.out.up (w':=W)).kW (k:=2) hk2.out).trans (by rw[hx2]);have HD3:Hid (∀W:nJ,aD w.heap.size w W->W.cell? ⟨bb,oo+3,none⟩=some (.int .i64 x3)):=qh fun W i=>((HS.out.up (w':=W)).kW (k:=3) sx.out).trans (by rw[hx3]);clear hx0 hx1 hx2 hx3 ij aH;have v8:=A1.out.ax.2.2.2.2.2.2.2.2.1;have cf8:=A1.out.free 8;refine QEY ?_;intro E0 G0;refine eW (S:=fun W=>ay W w.heap.size 39 (aG r t)/\aD w.heap.size w W) (N:=[20]) nP ?_;change wpAnyS _ _ _ _ _ _ _ _ _ (World.drew _);refine wpS_pq 0 (.pointer (some ⟨w.heap.size,7,none⟩)) (fun _=>⟨E0.out,G0⟩) ?_;refine QAC ?_;refine wpS_pq 1 (.pointer (some ⟨w.heap.size,8,none⟩)) (fun _=>⟨E0.out,G0⟩) ?_;refine QAC ?_;refine iP 2 (.slice r.af.hA t.af.hs.length r.af.hc) rfl nP (Or.inl ⟨nY,by intro w5 h5;have e:=ay.cell h5.1 (i:=8) (v:=.slice r.af.hA t.af.hs.length r.af.hc) rfl;go_simp⟩) (⟨E0.out,G0⟩) ?_;refine QAC ?_;refine wpS_pq 3 (.slice (some ⟨bb,oo,none⟩) a.length cap) (fun _=>⟨E0.out,G0⟩) ?_;refine QAC ?_;refine wpS_pq 4 (.pointer (some ⟨bb,oo,none⟩)) (fun _=>⟨E0.out,G0⟩) ?_;refine QAC ?_;refine QBF ?_;refine QAC ?_;refine wpS_pq 6 (.slice (some ⟨bb,oo,none⟩) a.length cap) (fun _=>⟨E0.out,G0⟩) ?_;refine QAC ?_;refine wpS_pq 7 (.pointer (some ⟨bb,oo+1,none⟩)) (fun _=>⟨E0.out,G0⟩) ?_;refine QAC ?_;refine QBS ?_;refine QAC ?_;refine wpS_pq 9 (.slice (some ⟨bb,oo,none⟩) a.length cap) (fun _=>⟨E0.out,G0⟩) ?_;refine QAC ?_;refine wpS_pq 10 (.pointer (some ⟨bb,oo+2,none⟩)) (fun _=>⟨E0.out,G0⟩) ?_;refine QAC ?_;refine iP 11 (.int .i64 x2) rfl nP (Or.inl ⟨nY,by intro w5 h5;have e:=HD2.out w5 h5.2;go_simp⟩) (⟨E0.out,G0⟩) ?_;refine QAC ?_;refine wpS_pq 12 (.agg #[.int .i64 x1,.int .i64 x2]) (fun _=>⟨E0.out,G0⟩) ?_;refine QAC ?_;refine wpS_pq 13 (.slice (some ⟨bb,oo,none⟩) a.length cap) (fun _=>⟨E0.out,G0⟩) ?_;refine QAC ?_;refine wpS_pq 14 (.pointer (some ⟨bb,oo+3,none⟩)) (fun _=>⟨E0.out,G0⟩) ?_;refine QAC ?_;refine iP 15 (.int .i64 x3) rfl nP (Or.inl ⟨nY,by intro w5 h5;have e:=HD3.out w5 h5.2;go_simp⟩) (⟨E0.out,G0⟩) ?_;refine QAC ?_;refine wpS_pq 16 (.agg #[.int .i64 x0,.int .i64 x1,.int .i64 x2,.int .i64 x3]) (fun _=>⟨E0.out,G0⟩) ?_;refine QAC ?_;refine aZ (rs:=[17]) nP nV ?_;intro i hi;obtain rfl:=List.mem_singleton.1 hi;refine QAF ?_;refine(OH t.af.hs ⟨x0,x1,x2,x3⟩ r.af.hA r.af.hc nu.out.2.1.1 W1.heap.size _ (M1.out.is.2.1.1.up)).mono ?_;rintro e w1 ⟨A2,c2,δ2,rfl,rfl,hs⟩;have HX:=qh hs;clear hs;refine⟨fun _=>⟨E0.out.ah _,inferInstance⟩,?_⟩;refine QAC ?_;have E1:=E0.out.ah δ2;have el:=E1.lt;have ef:=E1.free 8;have ec:=E1.cell (i:=8) (v:=.slice r.af.hA t.af.hs.length r.af.hc) rfl;refine wpS_pq 18 (.pointer (some ⟨w.heap.size,7,none⟩)) (fun _=>⟨E0.out.ah _,inferInstance⟩) ?_;refine QAC ?_;refine wpS_pq 19 (.pointer (some ⟨w.heap.size,8,none⟩)) (fun _=>⟨E0.out.ah _,inferInstance⟩) ?_;refine QAC ?_;refine aZ (rs:=[20]) nP nV ?_;intro i hi;obtain rfl:=List.mem_singleton.1 hi;refine QAF ?_;refine⟨fun h=>absurd h nU,?_⟩;refine QAC ?_;refine eX nP ?_ _;go_upto_region 2 with fail;refine QBL ?_;intro W3 bR q8 yb;have Gs:Le B W3:=fI bR;have A3:Hid (ay W3 w.heap.size 39 (aG ⟨r.aF,⟨A2,c2,r.af.pA,r.af.pc⟩,r.aa⟩ (⟨t.aF,⟨t.af.m,t.af.hs++[⟨x0,x1,x2,x3⟩],t.af.ps⟩,t.aa⟩))):=by rw[bR.out];rw[FF];exact qh ((A1.out.drew.ah _).set 8 _)
 refine QBV ?_;intro R3;have M3:Hid (aT B W3 ⟨r.aF,⟨A2,c2,r.af.pA,r.af.pc⟩,r.aa⟩ (⟨t.aF,⟨t.af.m,t.af.hs++[⟨x0,x1,x2,x3⟩],t.af.ps⟩,t.aa⟩)):=by rw[bR.out];exact qh ((((M1.out.drew.up (W:=(ah W1.drew δ2))).Kh HX.out)).eo (A1.out.drew.ah _) nU hB.out (nT cJ.out (inferInstance:Le W1.heap.size (ah W1.drew δ2)).out) _)
 clear bR;go_wp2_with (first|(refine au aq rfl _ rfl rfl A3.out rfl ?_)|(refine ak aq rfl _ _ rfl rfl rfl R3.out rfl rfl (aL _ _) ?_;intro W9 C9 k9));refine QAT ?_;intro p1 p2;refine ep aq Tryz.results236 rfl C9 rfl ?_;exact rI HE.out (M3.out.aV k9 R3.out nU (Nat.le_succ_of_le hB.out) Gs.out)
theorem V0(r:aW)(t:aO)(ur:Small t)(a:List Int)(hl:a.length=2)(A:Option Addr)(cap:Nat)(B:Nat)(w:nJ)(hT:aT B w r t)[hB:Le B w](hS:Sl aI w.heap.size w A cap a):Calls nH 242 #[aY r t,.slice A a.length cap] w (mq B t ⟨.part,a⟩ w):=by
 have nu:=qh ur;have H:=qh hT;obtain⟨bb,oo,rfl,ij,_⟩:=hS.int (k:=0) nQ;refine QAS ?_;intro HS hl0 hk0 hm0 hl1 AA sw;have HE:Hid (jd t ⟨.part,a⟩=some ⟨t.aF,t.af,⟨t.aa.kinds,t.aa.floor,t.aa.parts++[⟨nth a 0,nth a 1⟩],t.aa.bars⟩⟩):=rfl;have lw:Le w.heap.size w:=⟨nR _⟩;clear hT ur hl hS;go_enter Tryz.func242,Tryz.ntmps242;go_upto_region 1 with fail;refine QAI ?_;intro W1 aH cJ dF cW di dz eL A1 R1 M1 ib nb1 nb2 d0 x0 hx0;rw[hx0] at d0;refine QBN ?_;intro d1 x1 hx1;rw[hx1] at d1;rw[hx0,hx1] at HE;refine QBO ?_;intro I7 Jm;clear hx0 hx1 ij aH;have v12:=A1.out.ax.2.2.2.2.2.2.2.2.2.2.2.2.1;have aem:=A1.out.free 12;refine QEY ?_;intro E0 G0;refine eW (S:=fun W=>ay W w.heap.size 39 (aG r t)/\aD w.heap.size w W) (N:=[13]) nP ?_;change wpAnyS _ _ _ _ _ _ _ _ _ (World.drew _);refine wpS_pq 0 (.pointer (some ⟨w.heap.size,10,none⟩)) (fun _=>⟨E0.out,G0⟩) ?_;refine QAC ?_;refine wpS_pq 1 (.pointer (some ⟨w.heap.size,12,none⟩)) (fun _=>⟨E0.out,G0⟩) ?_;refine QAC ?_;refine iP 2 (.slice r.aa.pA t.aa.parts.length r.aa.pc) rfl nP (Or.inl ⟨nY,by intro w5 h5;have e:=ay.cell h5.1 (i:=12) (v:=.slice r.aa.pA t.aa.parts.length r.aa.pc) rfl;go_simp⟩) (⟨E0.out,G0⟩) ?_;refine QAC ?_;refine wpS_pq 3 (.slice (some ⟨bb,oo,none⟩) a.length cap) (fun _=>⟨E0.out,G0⟩) ?_;refine QAC ?_;refine wpS_pq 4 (.pointer (some ⟨bb,oo,none⟩)) (fun _=>⟨E0.out,G0⟩) ?_;refine QAC ?_;refine QBF ?_;refine QAC ?_;refine wpS_pq 6 (.slice (some ⟨bb,oo,none⟩) a.length cap) (fun _=>⟨E0.out,G0⟩) ?_;refine QAC ?_;refine wpS_pq 7 (.pointer (some ⟨bb,oo+1,none⟩)) (fun _=>⟨E0.out,G0⟩) ?_;refine QAC ?_;refine QBS ?_;refine QAC ?_;refine wpS_pq 9 (.agg #[.int .i64 x0,.int .i64 x1]) (fun _=>⟨E0.out,G0⟩) ?_;refine QAC ?_;refine aZ (rs:=[10]) nP nV ?_;intro i hi;obtain rfl:=List.mem_singleton.1 hi;refine QAF ?_;refine(OF t.aa.parts ⟨x0,x1⟩ r.aa.pA r.aa.pc nu.out.2.2.2.1 W1.heap.size _ (M1.out.is.2.2.2.1.up)).mono ?_;rintro e w1 ⟨A2,c2,δ2,rfl,rfl,hs⟩;have HX:=qh hs;clear hs;refine⟨fun _=>⟨E0.out.ah _,inferInstance⟩,?_⟩;refine QAC ?_;have E1:=E0.out.ah δ2;have el:=E1.lt;have ef:=E1.free 12;have ec:=E1.cell (i:=12) (v:=.slice r.aa.pA t.aa.parts.length r.aa.pc) rfl;refine wpS_pq 11 (.pointer (some ⟨w.heap.size,10,none⟩)) (fun _=>⟨E0.out.ah _,inferInstance⟩) ?_;refine QAC ?_;refine wpS_pq 12 (.pointer (some ⟨w.heap.size,12,none⟩)) (fun _=>⟨E0.out.ah _,inferInstance⟩) ?_;refine QAC ?_;refine aZ (rs:=[13]) nP nV ?_;intro i hi;obtain rfl:=List.mem_singleton.1 hi;refine QAF ?_;refine⟨fun h=>absurd h nU,?_⟩;refine QAC ?_;refine eX nP ?_ _;go_upto_region 2 with fail;refine QBL ?_;intro W3 bR q8 yb;have Gs:Le B W3:=fI bR;have A3:Hid (ay W3 w.heap.size 39 (aG ⟨r.aF,r.af,⟨r.aa.kA,r.aa.kc,A2,c2,r.aa.bA,r.aa.bc⟩⟩ (⟨t.aF,t.af,⟨t.aa.kinds,t.aa.floor,t.aa.parts++[⟨x0,x1⟩],t.aa.bars⟩⟩))):=by rw[bR.out];rw[FE];exact qh ((A1.out.drew.ah _).set 12 _)
 refine QBV ?_;intro R3;have M3:Hid (aT B W3 ⟨r.aF,r.af,⟨r.aa.kA,r.aa.kc,A2,c2,r.aa.bA,r.aa.bc⟩⟩ (⟨t.aF,t.af,⟨t.aa.kinds,t.aa.floor,t.aa.parts++[⟨x0,x1⟩],t.aa.bars⟩⟩)):=by rw[bR.out];exact qh ((((M1.out.drew.up (W:=(ah W1.drew δ2))).Kg HX.out)).eo (A1.out.drew.ah _) nU hB.out (nT cJ.out (inferInstance:Le W1.heap.size (ah W1.drew δ2)).out) _)
 clear bR;go_wp2_with (first|(refine au aq rfl _ rfl rfl A3.out rfl ?_)|(refine ak aq rfl _ _ rfl rfl rfl R3.out rfl rfl (aL _ _) ?_;intro W9 C9 k9));refine QAT ?_;intro p1 p2;refine ep aq Tryz.results242 rfl C9 rfl ?_;exact rI HE.out (M3.out.aV k9 R3.out nU (Nat.le_succ_of_le hB.out) Gs.out)
theorem PN(r:aW)(t:aO)(ur:Small t)(a:List Int)(hl:a.length=1)(A:Option Addr)(cap:Nat)(B:Nat)(w:nJ)(hT:aT B w r t)[hB:Le B w](hS:Sl aI w.heap.size w A cap a):Calls nH 244 #[aY r t,.slice A a.length cap] w (mq B t ⟨.fG,a⟩ w):=by
 have nu:=qh ur;have H:=qh hT;obtain⟨bb,oo,rfl,ij,_⟩:=hS.int (k:=0) nQ;refine QDZ ?_;intro HS hl0 hk0 hm0;have HE:Hid (jd t ⟨.fG,a⟩=some ⟨t.aF,t.af,⟨t.aa.kinds,t.aa.floor,t.aa.parts,t.aa.bars++[nth a 0]⟩⟩):=rfl;have lw:Le w.heap.size w:=⟨nR _⟩;clear hT ur hl hS;go_enter Tryz.func244,Tryz.ntmps244;go_upto_region 1 with fail;refine QAI ?_;intro W1 aH cJ dF cW di dz eL A1 R1 M1 ib nb1 nb2 d0 x0 hx0;rw[hx0] at d0;rw[hx0] at HE;have I7:Hid (∀W:nJ,aD w.heap.size w W->W.cell? ⟨bb,oo,none⟩=some (.int .i64 x0)):=qh fun W i=>((HS.out.up (w':=W)).kW (k:=0) hk0.out).trans (by rw[hx0]);clear hx0 ij aH;have v13:=A1.out.ax.2.2.2.2.2.2.2.2.2.2.2.2.2;have ael:=A1.out.free 13;refine QEY ?_;intro E0 G0;refine eW (S:=fun W=>ay W w.heap.size 39 (aG r t)/\aD w.heap.size w W) (N:=[9]) nP ?_;change wpAnyS _ _ _ _ _ _ _ _ _ (World.drew _);refine wpS_pq 0 (.pointer (some ⟨w.heap.size,10,none⟩)) (fun _=>⟨E0.out,G0⟩) ?_;refine QAC ?_;refine wpS_pq 1 (.pointer (some ⟨w.heap.size,13,none⟩)) (fun _=>⟨E0.out,G0⟩) ?_;refine QAC ?_;refine iP 2 (.slice r.aa.bA t.aa.bars.length r.aa.bc) rfl nP (Or.inl ⟨nY,by intro w5 h5;have e:=ay.cell h5.1 (i:=13) (v:=.slice r.aa.bA t.aa.bars.length r.aa.bc) rfl;go_simp⟩) (⟨E0.out,G0⟩) ?_;refine QAC ?_;refine wpS_pq 3 (.slice (some ⟨bb,oo,none⟩) a.length cap) (fun _=>⟨E0.out,G0⟩) ?_;refine QAC ?_;refine wpS_pq 4 (.pointer (some ⟨bb,oo,none⟩)) (fun _=>⟨E0.out,G0⟩) ?_;refine QAC ?_;refine QBF ?_;refine QAC ?_;refine aZ (rs:=[6]) nP nV ?_;intro i hi;obtain rfl:=List.mem_singleton.1 hi;refine QAF ?_;refine(RG t.aa.bars x0 r.aa.bA r.aa.bc nu.out.2.2.2.2 W1.heap.size _ (M1.out.is.2.2.2.2.up)).mono ?_;rintro e w1 ⟨A2,c2,δ2,rfl,rfl,hs⟩;have HX:=qh hs;clear hs;refine⟨fun _=>⟨E0.out.ah _,inferInstance⟩,?_⟩;refine QAC ?_;have E1:=E0.out.ah δ2;have el:=E1.lt;have ef:=E1.free 13;have ec:=E1.cell (i:=13) (v:=.slice r.aa.bA t.aa.bars.length r.aa.bc) rfl;refine wpS_pq 7 (.pointer (some ⟨w.heap.size,10,none⟩)) (fun _=>⟨E0.out.ah _,inferInstance⟩) ?_;refine QAC ?_;refine wpS_pq 8 (.pointer (some ⟨w.heap.size,13,none⟩)) (fun _=>⟨E0.out.ah _,inferInstance⟩) ?_;refine QAC ?_;refine aZ (rs:=[9]) nP nV ?_;intro i hi;obtain rfl:=List.mem_singleton.1 hi;refine QAF ?_;refine⟨fun h=>absurd h nU,?_⟩;refine QAC ?_;refine eX nP ?_ _;go_upto_region 2 with fail;refine QBL ?_;intro W3 bR q8 yb;have Gs:Le B W3:=fI bR;have A3:Hid (ay W3 w.heap.size 39 (aG ⟨r.aF,r.af,⟨r.aa.kA,r.aa.kc,r.aa.pA,r.aa.pc,A2,c2⟩⟩ (⟨t.aF,t.af,⟨t.aa.kinds,t.aa.floor,t.aa.parts,t.aa.bars++[x0]⟩⟩))):=by rw[bR.out];rw[FG];exact qh ((A1.out.drew.ah _).set 13 _)
 refine QBV ?_;intro R3;have M3:Hid (aT B W3 ⟨r.aF,r.af,⟨r.aa.kA,r.aa.kc,r.aa.pA,r.aa.pc,A2,c2⟩⟩ (⟨t.aF,t.af,⟨t.aa.kinds,t.aa.floor,t.aa.parts,t.aa.bars++[x0]⟩⟩)):=by rw[bR.out];exact qh ((((M1.out.drew.up (W:=(ah W1.drew δ2))).Ki HX.out)).eo (A1.out.drew.ah _) nU hB.out (nT cJ.out (inferInstance:Le W1.heap.size (ah W1.drew δ2)).out) _)
 clear bR;go_wp2_with (first|(refine au aq rfl _ rfl rfl A3.out rfl ?_)|(refine ak aq rfl _ _ rfl rfl rfl R3.out rfl rfl (aL _ _) ?_;intro W9 C9 k9));refine QAT ?_;intro p1 p2;refine ep aq Tryz.results244 rfl C9 rfl ?_;exact rI HE.out (M3.out.aV k9 R3.out nU (Nat.le_succ_of_le hB.out) Gs.out)
end
section
open Hd
theorem aT.JQ{B g c:Nat}{w W:nJ}{r:aW}{t:aO}{A':Option Addr}{l:List An.BN}{cs:Array nK}(h:aT B w r t)(k:bI (fun x=>x=g) w W)(hb:ay w g 102 cs)(hB:B<=g)(hl:B<=w.heap.size)(hx:fN 102 cM W.heap.size W A' c l):aT B W ⟨⟨r.aF.gA,r.aF.gc,A',c,r.aF.wA,r.aF.wc⟩,r.af,r.aa⟩ ⟨⟨t.aF.aP,t.aF.cur,t.aF.av,l,t.aF.aU⟩,t.af,t.aa⟩:=
 ⟨⟨h.1.1.aV k hb nU hB hl,.inr hx,h.1.2.2.aV k hb nU hB hl⟩,⟨h.2.1.1.aV k hb nU hB hl,h.2.1.2.aV k hb nU hB hl⟩,⟨h.2.2.1.aV k hb nU hB hl,h.2.2.2.1.aV k hb nU hB hl,h.2.2.2.2.aV k hb nU hB hl⟩⟩
theorem Tc(r:aW)(t:aO)(ur:Small t)(a:List Int)(hl:a.length=2)(A:Option Addr)(cap:Nat)(B:Nat)(w:nJ)(hT:aT B w r t)[hB:Le B w](hS:Sl aI w.heap.size w A cap a):Calls nH 235 #[aY r t,.slice A a.length cap] w (mq B t ⟨.gJ,a⟩ w):=by
 have nu:=qh ur;have H:=qh hT;obtain⟨bb,oo,rfl,ij,_⟩:=hS.int (k:=0) nQ;refine QAS ?_;intro HS hl0 hk0 hm0 hl1 AA sw;refine QDO ?_;intro HE;have lw:Le w.heap.size w:=⟨nR _⟩;clear hT ur hl hS;go_enter Tryz.func235,Tryz.ntmps235;go_upto_region 1 with fail;refine QAI ?_;intro W1 aH cJ dF cW di dz eL A1 R1 M1 ib nb1 nb2 d0 x0 hx0;rw[hx0] at d0;refine QBN ?_;intro d1 x1 hx1;rw[hx1] at d1;rw[hx0,hx1] at HE;have Dj:=qh ij;clear hx0 hx1 ij aH;have v5:=A1.out.ax.2.2.2.2.2.1;have cf5:=A1.out.free 5;by_cases hx:0<=x0/\x0<(t.aF.aB.length:Int)
 ·obtain⟨i,rfl⟩:∃i:Nat,x0=(i:Int):=⟨x0.toNat,nQ⟩;refine QEA ?_;intro hi HE;clear hx;have hmA:0<t.aF.aB.length:=nQ;have hki:(i:Int)<(t.aF.aB.length:Int):=nQ;have hk0:¬(i:Int)<0:=nQ;have AA:decide ((i:Int)<0)=false:=decide_eq_false hk0;have hk2:¬(t.aF.aB.length:Int)<=(i:Int):=nQ;have sx:decide ((t.aF.aB.length:Int)<=(i:Int))=false:=decide_eq_false hk2;go_upto_region 1 with fail;go_region;go_upto_region 4 with(go_at_call 54;refine(AY r.aF.aA r.aF.ac t.aF.aB _ rfl W1.heap.size _ M1.out.is.1.2.1.up nu.out.1.2.1).mono ?_;rintro e w1 ⟨A2,c2,δ2,rfl,rfl,ho⟩;have HO:=qh ho;clear ho);refine aM fun W3 bR=>?_;have a1:aD w.heap.size w W3:=gy bR;have a2:Le w.heap.size W3:=fI bR;have a3:Le B W3:=fI bR;have A3:Hid (ay W3 w.heap.size 39 (aG ⟨⟨r.aF.gA,r.aF.gc,A2,c2,r.aF.wA,r.aF.wc⟩,r.af,r.aa⟩ t)):=by rw[bR.out];exact qh ((A1.out.drew.ah _).set 5 _)
  refine QBV ?_;intro R3;have M3:Hid (aT B W3 r t):=by rw[bR.out];exact qh ((M1.out.drew.up (W:=ah W1.drew δ2)).eo (A1.out.drew.ah _) nU hB.out (nT cJ.out (inferInstance:Le W1.heap.size (ah W1.drew δ2)).out) _)
  have O3:Hid (W3.ownsRow W1.heap.size 102 2 (.slice A2 t.aF.aB.length c2) t.aF.aB.length (t.aF.aB.flatMap cM)):=by rw[bR.out];exact qh (ownsRow_setCell_below HO.out (a:=⟨w.heap.size,5,none⟩) dz.out _)
  have e0:W3.cell? ⟨bb,oo,none⟩=some (.int .i64 (i:Int)):=by rw[bR.out];go_simp
  have e1':W3.cell? ⟨bb,oo+1,none⟩=some (.int .i64 x1):=by rw[bR.out];go_simp
  have ib3:Lt bb W3:=nr bR;clear bR HO M1 A1 R1 v5 cf5 d0 d1;obtain⟨ga,Hu,hb,hl,hc,hf⟩:=qY O3.out hmA;have c0:=hc (i*2) (.int .i64 (nth t.aF.aB i).wt) (by have:=gx cM 2 (fun _=>rfl) t.aF.aB i 0 hi nQ;rw[Nat.add_zero] at this;rw[this];rfl);have f0':=hf (i*2);have v5':W3.cell? ⟨w.heap.size,5,none⟩=some (.slice (some ⟨ga,0,none⟩) t.aF.aB.length c2):=by rw[<-Hu];exact A3.out.ax.2.2.2.2.2.1
  have lA3:=A3.out.lt;have n5:qP ga bb:=⟨by have:=dz.out;have:=nb1.out;have:=Dj.out;omega⟩;have n6:qP bb ga:=⟨fun e=>n5.out e.symm⟩;have n7:qP ga w.heap.size:=⟨by have:=dz.out;omega⟩;have n8:qP w.heap.size ga:=⟨fun e=>n7.out e.symm⟩;have hgb:w.heap.size+1<ga:=nL eL.out hb;subst Hu;have o1:=pK (u:=.int .i64 x1) (i:=i*2) (show W3.drew.ownsRow _ _ _ _ _ _ from O3.out) (by rw[cm cM 2 (fun _=>rfl)];omega);have e1:=jt cM 2 (fun _=>rfl) t.aF.aB i 0 (.int .i64 x1) (⟨x1,(nth t.aF.aB i).bt⟩:An.BN) hi nQ rfl;rw[Nat.add_zero] at e1;rw[e1] at o1;have O5:=qh o1;obtain⟨cs,hcs⟩:=Mz O3.out;have HCS:=qh hcs;clear o1 e1 hc hf hcs;go_region;go_upto_region 5 with fail;refine aM fun W4 jU=>?_;have i2:oE w.heap.size ga:=⟨nQ⟩;have i1:oE B ga:=⟨nT hB.out nQ⟩;have q8:aD w.heap.size w W4:=gy jU;have yb:Le w.heap.size W4:=fI jU;have Gs:Le B W4:=fI jU;have A4:Hid (ay W4 w.heap.size 39 (aG ⟨⟨r.aF.gA,r.aF.gc,some ⟨ga,0,none⟩,c2,r.aF.wA,r.aF.wc⟩,r.af,r.aa⟩ ⟨⟨t.aF.aP,t.aF.cur,t.aF.av,t.aF.aB.set i ⟨x1,(nth t.aF.aB i).bt⟩,t.aF.aU⟩,t.af,t.aa⟩)):=by rw[jU.out,Ck];exact qh (A3.out.drew.fB n8.out _)
  have R4:Hid (ay W4 (w.heap.size+1) 39 (aG dc cS)):=by rw[jU.out];exact qh (R3.out.drew.fB (by show w.heap.size+1≠ga;omega) _)
  have M4:Hid (aT B W4 ⟨⟨r.aF.gA,r.aF.gc,some ⟨ga,0,none⟩,c2,r.aF.wA,r.aF.wc⟩,r.af,r.aa⟩ ⟨⟨t.aF.aP,t.aF.cur,t.aF.av,t.aF.aB.set i ⟨x1,(nth t.aF.aB i).bt⟩,t.aF.aU⟩,t.af,t.aa⟩):=by rw[jU.out];exact qh (aT.JQ M3.out.drew ((bI.refl (fun x=>x=ga) W3.drew).set (b:=ga) rfl (i*2) (.int .i64 x1)) HCS.out i1.out a3.out (fN.bU (base:=W1.heap.size) (size:=2) O5.out (by rw[List.length_set])))
  clear jU A3 R3 M3 O3 O5;go_wp2_with (first|(refine au aq rfl _ rfl rfl A4.out rfl ?_)|(refine ak aq rfl _ _ rfl rfl rfl R4.out rfl rfl (aL _ _) ?_;intro W9 C9 k9));refine QAT ?_;intro p1 p2;refine ep aq Tryz.results235 rfl C9 rfl ?_;exact rI HE.out (M4.out.aV k9 R4.out nU (Nat.le_succ_of_le hB.out) Gs.out)
 ·have HN:Hid (jd t ⟨.gJ,a⟩=none):=qh (by rw[HE.out,if_neg hx]);by_cases h0:x0<0
  ·have h0d:decide (x0<0)=true:=decide_eq_true h0;clear hx;go_upto_region 1 with fail;go_region;go_wp2_with (first|(refine au aq rfl _ rfl rfl A1.out.drew rfl ?_)|(refine ak aq rfl _ _ rfl rfl rfl R1.out.drew rfl rfl (aL _ _) ?_;intro W9 C9 k9));refine QAT ?_;intro p1 p2;refine ep aq Tryz.results235 rfl C9 rfl ?_;exact Tb HN.out (M1.out.drew.aV k9 R1.out.drew nU (Nat.le_succ_of_le hB.out) cJ.out)
  ·have h0d:decide (x0<0)=false:=decide_eq_false h0;have h1:(t.aF.aB.length:Int)<=x0:=nQ;have h1d:decide ((t.aF.aB.length:Int)<=x0)=true:=decide_eq_true h1;clear hx;go_upto_region 1 with fail;go_region;go_wp2_with (first|(refine au aq rfl _ rfl rfl A1.out.drew rfl ?_)|(refine ak aq rfl _ _ rfl rfl rfl R1.out.drew rfl rfl (aL _ _) ?_;intro W9 C9 k9));refine QAT ?_;intro p1 p2;refine ep aq Tryz.results235 rfl C9 rfl ?_;exact Tb HN.out (M1.out.drew.aV k9 R1.out.drew nU (Nat.le_succ_of_le hB.out) cJ.out)
end
end Go.Proofs.YtpnnapeoanafdaaGreatDoor
