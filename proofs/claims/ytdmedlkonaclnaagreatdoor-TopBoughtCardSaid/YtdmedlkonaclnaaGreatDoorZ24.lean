/- A part of the proof that a law of layer 12 holds, cut small by a program (names and blanks): Hp1, Hp2, Hp3, Hp4, Hp5, Hp6. -/
import Derived.Lib.LaidTab
import Derived.Lib.SmallJoins
import Derived.Test.YtdmedlkonaclnaaGreatDoorZ13
import Derived.Test.YtdmedlkonaclnaaGreatDoorZ23
set_option maxRecDepth 100000
set_option maxHeartbeats 40000000
set_option linter.unusedVariables false
set_option linter.unusedSimpArgs false
namespace Go.Proofs.YtdmedlkonaclnaaGreatDoor
open Go.RowKit
open Nat renaming le_trans → nT, lt_of_lt_of_le → nL, le_refl → nR, zero_le → nE, le_succ → nF
open Go.Proofs.Tryz renaming prog → nH
open Go renaming World → nJ, Value → nK
section
open Go.Shelf Go.Sort
open Hd
def TabIs(w:nJ):Prop:=Lib.TabIs nH w "internal/strconv.uint64pow10" .u64 Lib.pow10Tab
theorem TabIs.up{w W:nJ}(h:TabIs w)[hg:au 8 w W]:TabIs W:=by unfold TabIs Lib.TabIs World.var? at *;rw[show Tryz.prog.globalNamed "internal/strconv.uint64pow10" = some 1 by kernel_rfl] at *;simp only[Option.bind_some] at *;rw[hg.out.2.2.2 1 nQ];exact h
structure cT(w:nJ):Prop where
 Wj:TabIs w
 lf:∃m,w.cell? ⟨0,0,none⟩=some (.int .i64 m)
 syn:∃te pe,w.cell? ⟨4,0,none⟩=some (.iface te pe)
 rng:∃te pe,w.cell? ⟨5,0,none⟩=some (.iface te pe)
theorem cT.up{w W:nJ}(h:cT w)[hg:au 8 w W]:cT W:=by
 refine⟨h.Wj.up,?_,?_,?_⟩
 ·obtain⟨m,hm⟩:=h.lf;exact⟨m,(aZ hg.out _ _ nQ).trans hm⟩
 ·obtain⟨m,p,hm⟩:=h.syn;exact⟨m,p,(aZ hg.out _ _ nQ).trans hm⟩
 ·obtain⟨m,p,hm⟩:=h.rng;exact⟨m,p,(aZ hg.out _ _ nQ).trans hm⟩
theorem Hp(w:nJ)(k:Nat)(os:Array Obj):Below w.heap.size w (grow (w.drewN k) os):=
 ⟨rfl,rfl,rfl,by simp[grow,World.drewN],fun j hj=>by
  show(w.heap++os)[j]?=_
  rw[Array.getElem?_append_left hj]⟩
theorem xe(n:Int)(l:bz)(hl:Lib.itoa n=l)(h0:-9223372036854775808<=n)(h1:n<=9223372036854775807)(w:nJ)(hT:TabIs w):Calls nH 97 #[.int .i64 n] w fun e w'=>e=.returned (.string (str l))/\∃δ,w'=af w δ:=by refine(Tryz.strconv_Itoa n h0 h1 w hT).mono ?_;rintro e w1 ⟨rfl,k,os,rfl⟩;rw[hl];exact⟨rfl,vI (Hp w k os)⟩
theorem Tb(t:bz):Lib.trimPrefix t [45]=pq t:=by
 unfold Lib.trimPrefix Lib.hasPrefix pq;cases t with
 |nil=>rfl
 |cons b r=>
  by_cases h:b=45
  ·subst h;simp
  ·have:([45]:List UInt8).isPrefixOf (b::r)=false:=by simp[List.isPrefixOf];exact fun e=>h e.symm
   simp[this,h]
theorem Po(t:bz)(w:nJ):Calls nH 226 #[.string (str t),.string ⟨#[45]⟩] w fun e w'=>e=.returned (.string (str (pq t)))/\∃δ,w'=af w δ:=by refine(Tryz.strings_TrimPrefix (str t) ⟨#[45]⟩ w).mono ?_;rintro e w1 ⟨rfl,rfl⟩;refine⟨?_,w1,(bw w1).symm⟩;rw[show(str t).data.toList=t by simp[str],show(⟨#[45]⟩:ByteArray).data.toList=[45] from rfl,Tb];rfl
def pn(o:Option Int)(w:nJ)(e:Ending)(w':nJ):Prop:=∃(v:Int) (δ:nJ),e=.returned (.tuple #[.int .i64 v,.bool o.isSome])/\w'=af w δ/\∀n,o=some n->v=n
theorem Q0{o:Option Int}{v:Int}{w W:nJ}(h:o=some v)(hl:∃δ,W=af w δ):pn o w (.returned (.tuple #[.int .i64 v,.bool true])) W:=by subst h;obtain⟨δ,rfl⟩:=hl;exact⟨v,δ,rfl,rfl,fun n h=>by injection h⟩
theorem DR{o:Option Int}{v:Int}{w W:nJ}(h:o=none)(hl:∃δ,W=af w δ):pn o w (.returned (.tuple #[.int .i64 v,.bool false])) W:=by subst h;obtain⟨δ,rfl⟩:=hl;exact⟨v,δ,rfl,rfl,fun n h=>by cases h⟩
theorem Ef(t:bz)(v:Int)(ht:t.length<=1000)(h:Lib.atoiAll t=.ok v)(w:nJ):Calls nH 227 #[.string (str t)] w fun e w'=>e=.returned (.tuple #[.int .i64 v,.nilIface])/\∃δ,w'=af w δ:=by
 refine(Tryz.strconv_Atoi_ok (str t) (by rw[mL];omega) v (by rw[show(str t).data.toList=t by simp[str]];exact h) w).mono ?_;rintro e w1 ⟨rfl,hw⟩;refine⟨rfl,?_⟩;rcases hw with rfl|⟨s,rfl⟩
 ·exact⟨w1,(bw w1).symm⟩
 ·exact vI (Go.Joins.below_bytesWorld _ _ _ _ (nR _))
theorem Sr(t:bz)(ht:t.length<=1000)(h:∀v,Lib.atoiAll t≠.ok v)(w:nJ)(hL:cT w):Calls nH 227 #[.string (str t)] w fun e w'=>∃(v:Int) (te:TypeId) (p:nK),e=.returned (.tuple #[.int .i64 v,.iface te p])/\∃δ,w'=af w δ:=by
 obtain⟨te,pe,h1⟩:=hL.syn;obtain⟨te2,pe2,h2⟩:=hL.rng;rcases ha:Lib.atoiAll t with v|_|_
 ·exact absurd ha (h v)
 ·refine(Tryz.strconv_Atoi_syntax (str t) (by rw[mL];omega) (by rw[show(str t).data.toList=t by simp[str]];exact ha) _ w h1 (.inr ⟨_,_,rfl⟩)).mono ?_;rintro e w1 ⟨N,rfl,_,_,hb⟩;exact⟨_,_,_,rfl,vI hb⟩
 ·refine(Tryz.strconv_Atoi_range (str t) (by rw[mL];omega) (by rw[show(str t).data.toList=t by simp[str]];exact ha) _ w h2 (.inr ⟨_,_,rfl⟩)).mono ?_;rintro e w1 ⟨N,rfl,_,_,hb⟩;exact⟨_,_,_,rfl,vI hb⟩
theorem NH{t:bz}(h:∀v,Lib.atoiAll t≠.ok v):numOf t=none:=by
 cases ho:numOf t with
 |none=>rfl
 |some n=>
  obtain⟨h1,h2⟩:=ou.1 ho
  exact absurd (by rw[h1];exact CS h2) (h n)
theorem LN{t:bz}{v:Int}(h:Lib.atoiAll t=.ok v)(hn:¬(t=Lib.itoa v/\(pq t).length<=6)):numOf t=none:=by
 cases ho:numOf t with
 |none=>rfl
 |some n=>
  obtain⟨h1,h2⟩:=ou.1 ho
  have h3:=CS h2
  rw[<-h1,h] at h3
  injection h3 with h3
  subst h3
  exact absurd (FJ.2 ho) hn
theorem FI(t:bz)(ht:t.length<=1000)(w:nJ)[h8:Le 8 w](hL:cT w):Calls nH 178 #[.string (str t)] w (pn (numOf t) w):=by
 have HL:=qh hL;clear hL;by_cases hx:∃v,Lib.atoiAll t=.ok v
 ·obtain⟨v,hv⟩:=hx;have HV:=qh hv;have hb:=Lib.atoiAll_bounds hv;obtain⟨it,hit⟩:∃x,Lib.itoa v=x:=⟨_,rfl⟩;have V6:=qh hit;obtain⟨mg,YH⟩:∃x,pq t=x:=⟨_,rfl⟩;have HTR:Hid (∀W:nJ,Calls nH 226 #[.string (str t),.string ⟨#[45]⟩] W fun e w'=>e=.returned (.string (str mg))/\∃δ,w'=af W δ):=qh fun W=>by rw[<-YH];exact Po t W
  by_cases h6:mg.length<=6
  ·have h6i:(mg.length:Int)<=6:=nQ;by_cases he:it=t
   ·have HO:Hid (numOf t=some v):=qh (FJ.1 ⟨by rw[hit,he],by rw[YH];exact h6⟩);subst he;clear hv hit YH h6;go_enter Tryz.func178,Tryz.ntmps178;go_wp2_with (first|(go_at_call 226;refine(HTR.out _).mono ?_;rintro e w1 ⟨rfl,δ1,rfl⟩)|(go_at_call 227;refine(Ef it v ht HV.out _).mono ?_;rintro e w1 ⟨rfl,δ2,rfl⟩)|(go_at_call 97;refine(xe v it V6.out hb.1 hb.2 _ HL.out.Wj.up).mono ?_;rintro e w1 ⟨rfl,δ3,rfl⟩));go_ret2;exact Q0 HO.out ag
   ·have HO:Hid (numOf t=none):=qh (LN hv fun h=>he (by rw[<-hit];exact h.1.symm));have hne:((str it).toList==(str t).toList)=false:=by rw[oB,oB,jd,jd];simpa using he
    have ach:¬str it=str t:=fun e=>he (by have:=congrArg (fun b:ByteArray=>b.data.toList) e;simpa [str] using this);clear hv hit YH h6 he;go_enter Tryz.func178,Tryz.ntmps178;go_wp2_with (first|(go_at_call 226;refine(HTR.out _).mono ?_;rintro e w1 ⟨rfl,δ1,rfl⟩)|(go_at_call 227;refine(Ef t v ht HV.out _).mono ?_;rintro e w1 ⟨rfl,δ2,rfl⟩)|(go_at_call 97;refine(xe v it V6.out hb.1 hb.2 _ HL.out.Wj.up).mono ?_;rintro e w1 ⟨rfl,δ3,rfl⟩));go_ret2;exact DR HO.out ag
  ·have h6i:¬(mg.length:Int)<=6:=nQ;have h6d:decide ((mg.length:Int)<=6)=false:=decide_eq_false h6i;have HO:Hid (numOf t=none):=qh (LN hv fun h=>h6 (by rw[<-YH];exact h.2));clear hv hit YH;go_enter Tryz.func178,Tryz.ntmps178;go_wp2_with (first|(go_at_call 226;refine(HTR.out _).mono ?_;rintro e w1 ⟨rfl,δ1,rfl⟩)|(go_at_call 227;refine(Ef t v ht HV.out _).mono ?_;rintro e w1 ⟨rfl,δ2,rfl⟩));go_ret2;exact DR HO.out ag
 ·have hx:∀v,Lib.atoiAll t≠.ok v:=fun v e=>hx ⟨v,e⟩;have HX:=qh hx;have HO:=qh (NH hx);clear hx;go_enter Tryz.func178,Tryz.ntmps178;go_wp2_with (first|(go_at_call 226;refine(Po t _).mono ?_;rintro e w1 ⟨rfl,δ1,rfl⟩)|(go_at_call 227;refine(Sr t ht HX.out _ HL.out.up).mono ?_;rintro e w1 ⟨v,te,p,rfl,δ2,rfl⟩));go_ret2;exact DR HO.out ag
end
section
open Hd
def pg(o:Option (List Int))(w:nJ)(e:Ending)(w':nJ):Prop:=∃(A:Option Addr) (c:Nat) (δ:nJ),e=.returned (.tuple #[.slice A (o.getD []).length c,.bool o.isSome])/\w'=af w δ/\fN 3 aI (af w δ).heap.size (af w δ) A c (o.getD [])
theorem Zg{o:Option (List Int)}{w W:nJ}(h:o=none)(hl:∃δ,W=af w δ):pg o w (.returned (.tuple #[.slice none 0 0,.bool false])) W:=by subst h;obtain⟨δ,rfl⟩:=hl;exact⟨none,0,δ,rfl,rfl,fN.none_⟩
theorem WS{o:Option (List Int)}{a:List Int}{w W:nJ}{A:Option Addr}{c n b:Nat}(h:o=some a)[au w.heap.size w W][Le w.heap.size W](hn:n=a.length)(ho:W.ownsRow b 3 1 (.slice A n c) n (a.flatMap aI)):pg o w (.returned (.tuple #[.slice A n c,.bool true])) W:=by subst h;subst hn;refine⟨A,c,W,rfl,aq,?_⟩;refine QDJ ?_;exact fN.bU ho rfl
theorem tK:∀ {ws:List bz} {j:Nat},j<ws.length->numOf (nth ws j)=none->cR ws=none
 |[],_,h,_=>absurd h (Nat.not_lt_zero _)
 |x::xs,0,_,h=>by have h:numOf x=none:=h;unfold cR;simp[h]
 |x::xs,j+1,hl,h=>by have:=tK (ws:=xs) (j:=j) (Nat.lt_of_succ_lt_succ hl) h;unfold cR;rw[this];cases numOf x<;>rfl
theorem Na(ws:List bz)(A:Option Addr)(cap:Nat)(hl:∀x∈ws,x.length<=1000)(hn:ws.length<=1001)(B:Nat)(w:nJ)(hS:Sl aX B w A cap ws)[hB:Le B w][h8:Le 8 w](hL:cT w):Calls nH 92 #[.slice A ws.length cap] w (pg (cR ws) w):=by
 have HS:=qh hS;have HL:=qh hL;have qd:=qh hl;clear hS hL hl;go_enter Tryz.func92,Tryz.ntmps92;go_upto_region 2 with fail;go_loopg [2,10] ws.length (fun gn s2 s10 wr=>∃(j:Nat) (A':Option Addr) (c':Nat) (a:List Int),j<=ws.length/\gn=ws.length-j/\s2=.slice A' j c'/\s10=.int .i64 j/\Hid (cR (ws.take j)=some a)/\Hid (wr.ownsRow w.heap.size 3 1 (.slice A' j c') j (a.flatMap aI))/\au w.heap.size w wr/\Le w.heap.size wr)
 case atStart=>exact⟨0,none,0,[],nE _,rfl,rfl,rfl,qh rfl,qh (World.ownsRow_nil _ _ _ _),inferInstance,inferInstance⟩
 case round=>
  obtain⟨j,A',c',a,hj,rfl,rfl,rfl,HA,HO,i1,i2⟩:=hrel;have a3:au B w wr:=⟨⟨i1.out.1,i1.out.2.1,i1.out.2.2.1,fun b hb=>i1.out.2.2.2 b (nL hb hB.out)⟩⟩;have a4:Le B wr:=⟨nT hB.out i2.out⟩;have a5:au 8 w wr:=⟨⟨i1.out.1,i1.out.2.1,i1.out.2.2.1,fun b hb=>i1.out.2.2.2 b (nL hb h8.out)⟩⟩;have a6:Le 8 wr:=⟨nT h8.out i2.out⟩;by_cases hlt:j<ws.length
  ·have hji:(j:Int)<(ws.length:Int):=nQ;have hj0:¬(j:Int)<0:=nQ;obtain⟨sb,so,rfl,xj,e0⟩:=(HS.out.up (w':=wr)).mh hlt;have isb:Lt sb wr:=⟨nL xj a4.out⟩;have yM:=qd.out _ (aV ws hlt);have YX:=qh (@tK ws j hlt);have SF:Hid (cR (ws.take (j+1))=(numOf (nth ws j)).map fun n=>a++[n]):=by unfold Hid;rw[bE ws hlt,Cl,HA.out];rfl
   have HJ:Hid (a.length=j):=qh (by rw[oM HA.out,List.length_take];omega);obtain⟨x,hx⟩:∃x,nth ws j=x:=⟨_,rfl⟩;rw[hx] at e0 yM YX SF;have HC:Hid (∀W:nJ,cT W->Le 8 W->Calls nH 178 #[.string (str x)] W (pn (numOf x) W)):=qh fun W h1 h2=>FI x yM W h1;unfold pn at HC;clear xj hx;cases ho:numOf x with
   |none=>
    rw[ho] at HC
    have HN:=qh (YX.out ho)
    clear ho YX SF
    go_wp2_with (go_at_call 178;refine(HC.out _ HL.out.up inferInstance).mono ?_;rintro e w1 ⟨v,δ1,rfl,rfl,_⟩)
    go_ret2
    exact Zg HN.out ag
   |some n=>
    rw[ho] at HC SF
    clear ho YX
    go_wp2_with (first|(go_at_call 178;refine(HC.out _ HL.out.up inferInstance).mono ?_;rintro e w1 ⟨v,δ1,rfl,rfl,hv⟩;obtain rfl:=hv n rfl)|(at_builtin;(refine cq w wo (.tmp 21) (.tmp 23) rfl rfl (bg HO.out) rfl rfl nW rfl (by simp[Value.oneCell']) nQ nQ ?_);intro A3 c3 δ3 mq rj))
    go_roundg (ws.length-(j+1))
    case measure=>omega
    case rel=>refine⟨j+1,A3,c3,a++[v],nQ,rfl,rfl,by go_num,SF,?_,inferInstance,inferInstance⟩;rw[List.flatMap_append];exact qh (by simpa [aI] using mq)
  ·obtain rfl:j=ws.length:=by omega
   have hjn:¬((ws.length:Int)<(ws.length:Int)):=nQ;have Wb:Hid (cR ws=some a):=by have:=HA.out;rw[List.take_length] at this;exact qh this
   have HJ:Hid (ws.length=a.length):=qh (oM Wb.out).symm;clear HA;go_wp2_with fail;go_ret2;exact WS Wb.out HJ.out HO.out
end
section
open Hd
def X7:Wd->nK
 |.aP=>.func (.func 209) #[] #[]
 |.current=>.func (.func 210) #[] #[]
 |.gE=>.func (.func 211) #[] #[]
 |.ah=>.func (.func 212) #[] #[]
 |.ng=>.func (.func 214) #[] #[]
 |.ey=>.func (.func 216) #[] #[]
 |.eX=>.func (.func 217) #[] #[]
 |.part=>.func (.func 218) #[] #[]
 |.fM=>.func (.func 220) #[] #[]
 |_=>.nilFunc
def YW(o:Option Wd):Nat:=match o with|some d=>if cN d=1 then tq d else 0|none=>0
def YU(o:Option Wd):nK:=match o with|some d=>X7 d|none=>.nilFunc
def Zr(o:Option Wd):Bool:=match o with|some d=>decide (cN d=1)|none=>false
theorem KC(t:bz)(w:nJ):Calls nH 159 #[.string (str t)] w fun e w'=>e=.returned (.tuple #[.agg #[.int .i64 (YW (nu t):Nat),YU (nu t)],.bool (Zr (nu t))])/\∃δ,w'=af w δ:=by
 obtain⟨o,ho⟩:∃o,nu t=o:=⟨_,rfl⟩;have F:=cS t o ho;rw[ho];clear ho;obtain⟨f0,f1,f2,f3,f4,f5,f6,f7,f8,f9,f10,f11,f12,f13,f14,f15,f16,f17,f18,f19⟩:=F;rcases o with _|d
 ·simp only[reduceCtorEq,decide_false] at f0 f1 f2 f3 f4 f5 f6 f7 f8 f9 f10 f11 f12 f13 f14 f15 f16 f17 f18 f19;go_enter Tryz.func159,Tryz.ntmps159;go_wp2;refine bodyPost_ret (v:=.tuple #[.agg #[.int .i64 (0:Int),.nilFunc],.bool false]) ?_ rfl ⟨rfl,ag⟩;simp only[results,Tryz.results159];go_simp
 ·cases d;all_goals simp only[Option.some.injEq,reduceCtorEq,decide_false,decide_true] at f0 f1 f2 f3 f4 f5 f6 f7 f8 f9 f10 f11 f12 f13 f14 f15 f16 f17 f18 f19;go_enter Tryz.func159,Tryz.ntmps159;go_wp2;refine bodyPost_ret (v:=.tuple #[.agg #[.int .i64 (YW (some _):Nat),YU (some _)],.bool (Zr (some _))]) ?_ rfl ⟨rfl,ag⟩;simp only[results,Tryz.results159];go_simp;try (first|rfl|exact⟨⟨rfl,rfl⟩,rfl⟩|(simp[YW,YU,Zr,X7,tq,cN];done))
theorem wC(b:Bool)(w:nJ):Calls nH 88 #[.bool b] w fun e w'=>e=.returned (.string (str (me b)))/\∃δ,w'=af w δ:=by cases b;all_goals go_enter Tryz.func88,Tryz.ntmps88;go_wp2;go_ret;exact⟨rfl,ag⟩
theorem Db(e:Int)(x:bz)(w:nJ):Calls nH 314 #[.int .i64 e,.string (str x)] w fun e' w'=>e'=.returned (.string (str (nj e x)))/\∃δ,w'=af w δ:=by
 by_cases h0:e=0
 ·subst h0;go_enter Tryz.func314,Tryz.ntmps314;go_wp2;go_ret;exact⟨rfl,ag⟩
 ·by_cases h3:e=3
  ·subst h3;go_enter Tryz.func314,Tryz.ntmps314;go_wp2;go_ret;exact⟨rfl,ag⟩
  ·have e0:(e==0)=false:=by simp[h0]
   have e3:(e==3)=false:=by simp[h3]
   have HT:Hid (nj e x=IC):=by unfold Hid nj;rw[if_neg h0,if_neg h3]
   clear h0 h3;go_enter Tryz.func314,Tryz.ntmps314;go_wp2;go_ret;exact⟨by rw[HT.out];rfl,ag⟩
end
section
open Hd
def lK{α:Type}(T:TypeId)(enc:α->List nK)(B:Nat)(w:nJ)(A:Option Addr)(c:Nat)(xs:List α):Prop:=Sl enc B w A c xs\/fN T enc w.heap.size w A c xs
section
variable{α:Type}{T:TypeId}{enc:α->List nK}{B:Nat}{w W:nJ}{A:Option Addr}{c:Nat}{xs:List α}
theorem lK.sl(h:lK T enc B w A c xs)[hB:Le B w]:Sl enc w.heap.size w A c xs:=by
 rcases h with h|h
 ·exact h.more hB.out
 ·exact h.plain
theorem lK.up(h:lK T enc B w A c xs)[hg:au w.heap.size w W][hl:Le w.heap.size W][hB:Le B w]:lK T enc B W A c xs:=by
 rcases h with h|h
 ·have i:au B w W:=⟨⟨hg.out.1,hg.out.2.1,hg.out.2.2.1,fun b hb=>hg.out.2.2.2 b (nL hb hB.out)⟩⟩;exact .inl h.up
 ·exact .inr h.wide
theorem lK.aR{b:Nat}{T':TypeId}{cs:Array nK}(h:lK T enc B w A c xs)(k:bH (fun x=>x=b) w W)(hb:ax w b T' cs)(hne:T'≠T)(hB:B<=b)(hl:B<=w.heap.size):lK T enc B W A c xs:=by
 rcases h with h|h
 ·have i:au B w W:=⟨⟨k.os,k.tape,k.output,fun j hj=>k.block j (nL hj hl) (fun e:j=b=>absurd (e▸hj) (Nat.not_lt.2 hB))⟩⟩;exact .inl h.up
 ·exact .inr (h.aR k hb hne (nR _))
end
def aS(B:Nat)(w:nJ)(r:aQ)(t:aW):Prop:=
 (lK 23 gI B w r.aF.gA r.aF.gc t.aF.ay/\lK 47 cM B w r.aF.aA r.aF.ac t.aF.aB/\lK 149 fC B w r.aF.wA r.aF.wc t.aF.aU) /\
 (lK 93 bB B w r.ah.hA r.ah.hc t.ah.hs/\lK 95 dH B w r.ah.pA r.ah.pc t.ah.ps) /\
 (lK 152 rB B w r.aa.kA r.aa.kc t.aa.kinds/\lK 74 jD B w r.aa.pA r.aa.pc t.aa.parts/\lK 3 aI B w r.aa.bA r.aa.bc t.aa.bars)
section
variable{B:Nat}{w W:nJ}{r:aQ}{t:aW}
theorem aS.of(h:aJ B w r t):aS B w r t:=⟨⟨.inl h.1.1,.inl h.1.2.1,.inl h.1.2.2⟩,⟨.inl h.2.1.1,.inl h.2.1.2⟩,⟨.inl h.2.2.1,.inl h.2.2.2.1,.inl h.2.2.2.2⟩⟩
theorem aS.is(h:aS B w r t)[hB:Le B w]:aJ w.heap.size w r t:=⟨⟨h.1.1.sl,h.1.2.1.sl,h.1.2.2.sl⟩,⟨h.2.1.1.sl,h.2.1.2.sl⟩,⟨h.2.2.1.sl,h.2.2.2.1.sl,h.2.2.2.2.sl⟩⟩
theorem aS.up(h:aS B w r t)[hg:au w.heap.size w W][hl:Le w.heap.size W][hB:Le B w]:aS B W r t:=⟨⟨h.1.1.up,h.1.2.1.up,h.1.2.2.up⟩,⟨h.2.1.1.up,h.2.1.2.up⟩,⟨h.2.2.1.up,h.2.2.2.1.up,h.2.2.2.2.up⟩⟩
theorem aS.aR{b:Nat}{T:TypeId}{cs:Array nK}(h:aS B w r t)(k:bH (fun x=>x=b) w W)(hb:ax w b T cs)(hne:AZ T)(hB:B<=b)(hl:B<=w.heap.size):aS B W r t:=
 ⟨⟨h.1.1.aR k hb hne.1.1 hB hl,h.1.2.1.aR k hb hne.1.2.1 hB hl,h.1.2.2.aR k hb hne.1.2.2 hB hl⟩,⟨h.2.1.1.aR k hb hne.2.1.1 hB hl,h.2.1.2.aR k hb hne.2.1.2 hB hl⟩,⟨h.2.2.1.aR k hb hne.2.2.1 hB hl,h.2.2.2.1.aR k hb hne.2.2.2.1 hB hl,h.2.2.2.2.aR k hb hne.2.2.2.2 hB hl⟩⟩
end
theorem Sl.Lx{α:Type}{enc:α->List nK}{B:Nat}{w:nJ}{A:Option Addr}{c:Nat}{xs:List α}(h:Sl enc B w A c xs)(hs:∀x,enc x≠[])(hA:A=none):xs.length=0:=by
 cases xs with
 |nil=>rfl
 |cons x xs=>
  obtain⟨b,o,e,_⟩:=h.2.2 (by rw[List.flatMap_cons];intro e;exact hs x (List.append_eq_nil_iff.1 e).1)
  rw[hA] at e
  cases e
theorem DU{W:nJ}{g:Nat}{arr:Array nK}{T:TypeId}(hb:ax W g T arr):∀j u,arr.toList[j]?=some u->W.cell? ((⟨g,0,none⟩:Addr).add j)=some u:=fun j u hj=>by rw[Addr.add_mid,Nat.zero_add];exact hb.cell (by simpa using hj)
theorem Nj(xs:List Me.kE)(x:Me.kE)(A:Option Addr)(cap:Nat)(hl:xs.length<=1000)(B:Nat)(w:nJ)(hS:Sl bB B w A cap xs)[hB:Le B w]:Calls nH 213 #[.slice A xs.length cap,.agg #[.int .i64 x.fr,.int .i64 x.lo,.int .i64 x.hi,.int .i64 x.hr]] w fun e w'=>∃(A':Option Addr) (c':Nat) (δ:nJ),e=.returned (.slice A' (xs.length+1) c')/\w'=af w δ/\fN 93 bB (af w δ).heap.size (af w δ) A' c' (xs++[x]):=by refine QFG ?_;intro HS Af LX;have HN:Hid ((xs.flatMap bB).length=xs.length*4):=qh (bX bB 4 (fun _=>rfl) _);clear hS;go_enter Tryz.func213,Tryz.ntmps213;go_upto_region 1 with fail;go_region_law (first|(refine fO IS (.tmp 10) (.tmp 12) rfl rfl A xs.length (xs.flatMap bB) rfl (HS.out.Lx (fun _=>by simp[bB])) HN.out (Sl.holds HS.out.up) _ 1 1 (bB x) rfl nQ rfl (DU (arr:=(bB x).toArray) (T:=93) (by exact ax.drew (ax.new nW))) (qw x) nQ nQ ?_;intro A1 c1 δ1 eF));all_goals go_wp2_with fail;go_ret;refine⟨A1,c1,_,rfl,aq,?_⟩;refine QDJ ?_;refine fN.bU (base:=w.heap.size) (size:=4) (n:=xs.length+1) ?_ nV;rw[List.flatMap_append];exact de (by simpa [bB] using eF) (by first|exact nR _|(go_simp;omega)|(go_simp;done))
theorem Ni(xs:List Me.Pr)(x:Me.Pr)(A:Option Addr)(cap:Nat)(hl:xs.length<=1000)(B:Nat)(w:nJ)(hS:Sl dH B w A cap xs)[hB:Le B w]:Calls nH 215 #[.slice A xs.length cap,.agg #[.int .i64 x.a,.int .i64 x.b]] w fun e w'=>∃(A':Option Addr) (c':Nat) (δ:nJ),e=.returned (.slice A' (xs.length+1) c')/\w'=af w δ/\fN 95 dH (af w δ).heap.size (af w δ) A' c' (xs++[x]):=by refine QFG ?_;intro HS Af LX;have HN:Hid ((xs.flatMap dH).length=xs.length*2):=qh (bX dH 2 (fun _=>rfl) _);clear hS;go_enter Tryz.func215,Tryz.ntmps215;go_upto_region 1 with fail;go_region_law (first|(refine fO Dh (.tmp 10) (.tmp 12) rfl rfl A xs.length (xs.flatMap dH) rfl (HS.out.Lx (fun _=>by simp[dH])) HN.out (Sl.holds HS.out.up) _ 1 1 (dH x) rfl nQ rfl (DU (arr:=(dH x).toArray) (T:=95) (by exact ax.drew (ax.new nW))) (Dw x) nQ nQ ?_;intro A1 c1 δ1 eF));all_goals go_wp2_with fail;go_ret;refine⟨A1,c1,_,rfl,aq,?_⟩;refine QDJ ?_;refine fN.bU (base:=w.heap.size) (size:=2) (n:=xs.length+1) ?_ nV;rw[List.flatMap_append];exact de (by simpa [dH] using eF) (by first|exact nR _|(go_simp;omega)|(go_simp;done))
theorem Nh(xs:List Sa.Part)(x:Sa.Part)(A:Option Addr)(cap:Nat)(hl:xs.length<=1000)(B:Nat)(w:nJ)(hS:Sl jD B w A cap xs)[hB:Le B w]:Calls nH 219 #[.slice A xs.length cap,.agg #[.int .i64 x.kind,.int .i64 x.bC]] w fun e w'=>∃(A':Option Addr) (c':Nat) (δ:nJ),e=.returned (.slice A' (xs.length+1) c')/\w'=af w δ/\fN 74 jD (af w δ).heap.size (af w δ) A' c' (xs++[x]):=by refine QFG ?_;intro HS Af LX;have HN:Hid ((xs.flatMap jD).length=xs.length*2):=qh (bX jD 2 (fun _=>rfl) _);clear hS;go_enter Tryz.func219,Tryz.ntmps219;go_upto_region 1 with fail;go_region_law (first|(refine fO Th (.tmp 10) (.tmp 12) rfl rfl A xs.length (xs.flatMap jD) rfl (HS.out.Lx (fun _=>by simp[jD])) HN.out (Sl.holds HS.out.up) _ 1 1 (jD x) rfl nQ rfl (DU (arr:=(jD x).toArray) (T:=74) (by exact ax.drew (ax.new nW))) (vu x) nQ nQ ?_;intro A1 c1 δ1 eF));all_goals go_wp2_with fail;go_ret;refine⟨A1,c1,_,rfl,aq,?_⟩;refine QDJ ?_;refine fN.bU (base:=w.heap.size) (size:=2) (n:=xs.length+1) ?_ nV;rw[List.flatMap_append];exact de (by simpa [jD] using eF) (by first|exact nR _|(go_simp;omega)|(go_simp;done))
theorem Qs(xs:List Int)(x:Int)(A:Option Addr)(cap:Nat)(hl:xs.length<=1000)(B:Nat)(w:nJ)(hS:Sl aI B w A cap xs)[hB:Le B w]:Calls nH 221 #[.slice A xs.length cap,.int .i64 x] w fun e w'=>∃(A':Option Addr) (c':Nat) (δ:nJ),e=.returned (.slice A' (xs.length+1) c')/\w'=af w δ/\fN 3 aI (af w δ).heap.size (af w δ) A' c' (xs++[x]):=by refine QFG ?_;intro HS Af LX;have HN:Hid ((xs.flatMap aI).length=xs.length*1):=qh (bX aI 1 (fun _=>rfl) _);clear hS;go_enter Tryz.func221,Tryz.ntmps221;go_upto_region 1 with fail;go_wp2_with (refine wpList_step fun K hK=>fO wo (.tmp 10) (.tmp 12) rfl rfl A xs.length (xs.flatMap aI) rfl (HS.out.Lx (fun _=>by simp[aI])) HN.out (Sl.holds HS.out.up) _ 1 1 (aI x) rfl nQ rfl (DU (arr:=(aI x).toArray) (T:=3) (by first|exact ax.new rfl)) (vz x) nQ nQ ?kk;case' kk=>(intro A1 c1 δ1 eF;refine hK _ _ ?_));all_goals go_ret;refine⟨A1,c1,_,rfl,aq,?_⟩;refine QDJ ?_;refine fN.bU (base:=w.heap.size) (size:=1) (n:=xs.length+1) ?_ nV;rw[List.flatMap_append];exact de (by simpa [aI] using eF) (by first|exact nR _|(go_simp;omega)|(go_simp;done))
end
section
open Hd
def lP(B:Nat)(t:aW)(c:dU)(w:nJ)(e:Ending)(w':nJ):Prop:=
 ∃(r':aQ) (δ:nJ),e=.returned (.tuple #[aO r' ((kz t c).getD t),.bool (kz t c).isSome])/\w'=af w δ/\aS B (af w δ) r' ((kz t c).getD t)
theorem rD{B:Nat}{r':aQ}{t o:aW}{c:dU}{w W:nJ}(h:kz t c=some o)[au w.heap.size w W][Le w.heap.size W](ho:aS B W r' o):lP B t c w (.returned (.tuple #[aO r' o,.bool true])) W:=by refine⟨r',W,by rw[h];rfl,aq,?_⟩;rw[<-aq (w:=w),h];exact ho
theorem RU{B:Nat}{r:aQ}{t:aW}{c:dU}{w W:nJ}(h:kz t c=none)[au w.heap.size w W][Le w.heap.size W](ho:aS B W r t):lP B t c w (.returned (.tuple #[aO r t,.bool false])) W:=by refine⟨r,W,by rw[h];rfl,aq,?_⟩;rw[<-aq (w:=w),h];exact ho
section
variable{B:Nat}{w W:nJ}{r:aQ}{t:aW}{A':Option Addr}{c':Nat}
theorem aS.ep{b i:Nat}{T:TypeId}{cs:Array nK}(h:aS B w r t)(hb:ax w b T cs)(hne:AZ T)(hB:B<=b)(hl:B<=w.heap.size)(u:nK):aS B (w.setCell ⟨b,i,none⟩ u) r t:=h.aR ((bH.refl (fun x=>x=b) w).set (b:=b) rfl i u) hb hne hB hl
theorem aS.drew(h:aS B w r t):aS B w.drew r t:=h
theorem aS.Jk{x:Me.kE}(h:aS B w r t)(hx:fN 93 bB w.heap.size w A' c' (t.ah.hs++[x])):aS B w ⟨r.aF,⟨A',c',r.ah.pA,r.ah.pc⟩,r.aa⟩ ⟨t.aF,⟨t.ah.m,t.ah.hs++[x],t.ah.ps⟩,t.aa⟩:=⟨h.1,⟨.inr hx,h.2.1.2⟩,h.2.2⟩
theorem aS.Ji{x:Me.Pr}(h:aS B w r t)(hx:fN 95 dH w.heap.size w A' c' (t.ah.ps++[x])):aS B w ⟨r.aF,⟨r.ah.hA,r.ah.hc,A',c'⟩,r.aa⟩ ⟨t.aF,⟨t.ah.m,t.ah.hs,t.ah.ps++[x]⟩,t.aa⟩:=⟨h.1,⟨h.2.1.1,.inr hx⟩,h.2.2⟩
theorem aS.Jj{x:Sa.Part}(h:aS B w r t)(hx:fN 74 jD w.heap.size w A' c' (t.aa.parts++[x])):aS B w ⟨r.aF,r.ah,⟨r.aa.kA,r.aa.kc,A',c',r.aa.bA,r.aa.bc⟩⟩ ⟨t.aF,t.ah,⟨t.aa.kinds,t.aa.floor,t.aa.parts++[x],t.aa.bars⟩⟩:=⟨h.1,h.2.1,⟨h.2.2.1,.inr hx,h.2.2.2.2⟩⟩
theorem aS.Jl{x:Int}(h:aS B w r t)(hx:fN 3 aI w.heap.size w A' c' (t.aa.bars++[x])):aS B w ⟨r.aF,r.ah,⟨r.aa.kA,r.aa.kc,r.aa.pA,r.aa.pc,A',c'⟩⟩ ⟨t.aF,t.ah,⟨t.aa.kinds,t.aa.floor,t.aa.parts,t.aa.bars++[x]⟩⟩:=⟨h.1,h.2.1,⟨h.2.2.1,h.2.2.2.1,.inr hx⟩⟩
end
theorem UK(r:aQ)(t:aW)(rR:Small t)(a:List Int)(hl:a.length=2)(A:Option Addr)(cap:Nat)(B:Nat)(w:nJ)(hT:aS B w r t)[hB:Le B w](hS:Sl aI w.heap.size w A cap a):Calls nH 209 #[aO r t,.slice A a.length cap] w (lP B t ⟨.aP,a⟩ w):=by
 have mW:=qh rR;have H:=qh hT;obtain⟨bb,oo,rfl,ir,_⟩:=hS.int (k:=0) nQ;refine QAR ?_;intro HS hl0 hk0 hm0 hl1 Ad sQ;have HE:Hid (kz t ⟨.aP,a⟩=some ⟨⟨⟨nth a 0,nth a 1⟩,t.aF.cur,t.aF.ay,t.aF.aB,t.aF.aU⟩,t.ah,t.aa⟩):=rfl;have lw:Le w.heap.size w:=⟨nR _⟩;clear hT rR hl hS;go_enter Tryz.func209,Tryz.ntmps209;go_upto_region 1 with fail;refine QAI ?_;intro W1 aH cJ dF cU dA dD eI A1 R1 M1 ib nb1 nb2 d0 x0 hx0;rw[hx0] at d0;refine QBP ?_;intro d1 x1 hx1;rw[hx1] at d1;rw[hx0,hx1] at HE;clear hx0 hx1 ir aH;have v0:=A1.out.az.1;have cf0:=A1.out.free 0;have v1:=A1.out.az.2.1;have cf1:=A1.out.free 1;go_upto_region 1 with fail;go_region;go_upto_region 2 with fail;refine QBN ?_;intro W3 bQ q8 wu;have Fu:Le B W3:=fI bQ;have A3:Hid (ax W3 w.heap.size 39 (aE r (⟨⟨⟨x0,x1⟩,t.aF.cur,t.aF.ay,t.aF.aB,t.aF.aU⟩,t.ah,t.aa⟩))):=by rw[bQ.out];exact qh ((A1.out.drew.set 0 _).set 1 _)
 refine QEV ?_;intro R3;have M3:Hid (aS B W3 r (⟨⟨⟨x0,x1⟩,t.aF.cur,t.aF.ay,t.aF.aB,t.aF.aU⟩,t.ah,t.aa⟩)):=by rw[bQ.out];exact qh (show aS B _ r t from(M1.out.drew.ep A1.out.drew nU hB.out cJ.out _).ep (A1.out.drew.set 0 _) nU hB.out (by simpa using cJ.out) _)
 clear bQ;go_wp2_with (first|(refine av ai rfl _ rfl rfl A3.out rfl ?_)|(refine ak ai rfl _ _ rfl rfl rfl R3.out rfl rfl (aM _ _) ?_;intro W9 C9 k9));refine QAT ?_;intro p1 p2;refine eu ai Tryz.results209 rfl C9 rfl ?_;exact rD HE.out (M3.out.aR k9 R3.out nU (Nat.le_succ_of_le hB.out) Fu.out)
theorem Km(r:aQ)(t:aW)(rR:Small t)(a:List Int)(hl:a.length=2)(A:Option Addr)(cap:Nat)(B:Nat)(w:nJ)(hT:aS B w r t)[hB:Le B w](hS:Sl aI w.heap.size w A cap a):Calls nH 210 #[aO r t,.slice A a.length cap] w (lP B t ⟨.current,a⟩ w):=by
 have mW:=qh rR;have H:=qh hT;obtain⟨bb,oo,rfl,ir,_⟩:=hS.int (k:=0) nQ;refine QAR ?_;intro HS hl0 hk0 hm0 hl1 Ad sQ;have HE:Hid (kz t ⟨.current,a⟩=some ⟨⟨t.aF.aP,⟨nth a 0,nth a 1⟩,t.aF.ay,t.aF.aB,t.aF.aU⟩,t.ah,t.aa⟩):=rfl;have lw:Le w.heap.size w:=⟨nR _⟩;clear hT rR hl hS;go_enter Tryz.func210,Tryz.ntmps210;go_upto_region 1 with fail;refine QAI ?_;intro W1 aH cJ dF cU dA dD eI A1 R1 M1 ib nb1 nb2 d0 x0 hx0;rw[hx0] at d0;refine QBP ?_;intro d1 x1 hx1;rw[hx1] at d1;rw[hx0,hx1] at HE;clear hx0 hx1 ir aH;have v2:=A1.out.az.2.2.1;have cf2:=A1.out.free 2;have v3:=A1.out.az.2.2.2.1;have cf3:=A1.out.free 3;go_upto_region 1 with fail;go_region;go_upto_region 2 with fail;refine QBN ?_;intro W3 bQ q8 wu;have Fu:Le B W3:=fI bQ;have A3:Hid (ax W3 w.heap.size 39 (aE r (⟨⟨t.aF.aP,⟨x0,x1⟩,t.aF.ay,t.aF.aB,t.aF.aU⟩,t.ah,t.aa⟩))):=by rw[bQ.out];exact qh ((A1.out.drew.set 2 _).set 3 _)
 refine QEV ?_;intro R3;have M3:Hid (aS B W3 r (⟨⟨t.aF.aP,⟨x0,x1⟩,t.aF.ay,t.aF.aB,t.aF.aU⟩,t.ah,t.aa⟩)):=by rw[bQ.out];exact qh (show aS B _ r t from(M1.out.drew.ep A1.out.drew nU hB.out cJ.out _).ep (A1.out.drew.set 2 _) nU hB.out (by simpa using cJ.out) _)
 clear bQ;go_wp2_with (first|(refine av ai rfl _ rfl rfl A3.out rfl ?_)|(refine ak ai rfl _ _ rfl rfl rfl R3.out rfl rfl (aM _ _) ?_;intro W9 C9 k9));refine QAT ?_;intro p1 p2;refine eu ai Tryz.results210 rfl C9 rfl ?_;exact rD HE.out (M3.out.aR k9 R3.out nU (Nat.le_succ_of_le hB.out) Fu.out)
theorem Kl(r:aQ)(t:aW)(rR:Small t)(a:List Int)(hl:a.length=1)(A:Option Addr)(cap:Nat)(B:Nat)(w:nJ)(hT:aS B w r t)[hB:Le B w](hS:Sl aI w.heap.size w A cap a):Calls nH 216 #[aO r t,.slice A a.length cap] w (lP B t ⟨.ey,a⟩ w):=by
 have mW:=qh rR;have H:=qh hT;obtain⟨bb,oo,rfl,ir,_⟩:=hS.int (k:=0) nQ;refine QEC ?_;intro HS hl0 hk0 hm0;have HE:Hid (kz t ⟨.ey,a⟩=some ⟨t.aF,⟨nth a 0,t.ah.hs,t.ah.ps⟩,t.aa⟩):=rfl;have lw:Le w.heap.size w:=⟨nR _⟩;clear hT rR hl hS;go_enter Tryz.func216,Tryz.ntmps216;go_upto_region 1 with fail;refine QAI ?_;intro W1 aH cJ dF cU dA dD eI A1 R1 M1 ib nb1 nb2 d0 x0 hx0;rw[hx0] at d0;rw[hx0] at HE;clear hx0 ir aH;have v7:=A1.out.az.2.2.2.2.2.2.2.1;have cf7:=A1.out.free 7;go_upto_region 2 with fail;refine QBN ?_;intro W3 bQ q8 wu;have Fu:Le B W3:=fI bQ;have A3:Hid (ax W3 w.heap.size 39 (aE r (⟨t.aF,⟨x0,t.ah.hs,t.ah.ps⟩,t.aa⟩))):=by rw[bQ.out];exact qh (A1.out.set 7 _)
 have R3:Hid (ax W3 (w.heap.size+1) 39 (aE dc cO)):=by rw[bQ.out];exact qh (R1.out.fD (by show w.heap.size+1≠w.heap.size;omega) _)
 have M3:Hid (aS B W3 r (⟨t.aF,⟨x0,t.ah.hs,t.ah.ps⟩,t.aa⟩)):=by rw[bQ.out];exact qh (show aS B _ r t from M1.out.ep A1.out nU hB.out cJ.out _)
 clear bQ;go_wp2_with (first|(refine av ai rfl _ rfl rfl A3.out rfl ?_)|(refine ak ai rfl _ _ rfl rfl rfl R3.out rfl rfl (aM _ _) ?_;intro W9 C9 k9));refine QAT ?_;intro p1 p2;refine eu ai Tryz.results216 rfl C9 rfl ?_;exact rD HE.out (M3.out.aR k9 R3.out nU (Nat.le_succ_of_le hB.out) Fu.out)
theorem UN(r:aQ)(t:aW)(rR:Small t)(a:List Int)(hl:a.length=2)(A:Option Addr)(cap:Nat)(B:Nat)(w:nJ)(hT:aS B w r t)[hB:Le B w](hS:Sl aI w.heap.size w A cap a):Calls nH 214 #[aO r t,.slice A a.length cap] w (lP B t ⟨.ng,a⟩ w):=by
 have mW:=qh rR;have H:=qh hT;obtain⟨bb,oo,rfl,ir,_⟩:=hS.int (k:=0) nQ;refine QAR ?_;intro HS hl0 hk0 hm0 hl1 Ad sQ;have HE:Hid (kz t ⟨.ng,a⟩=some ⟨t.aF,⟨t.ah.m,t.ah.hs,t.ah.ps++[⟨nth a 0,nth a 1⟩]⟩,t.aa⟩):=rfl;have lw:Le w.heap.size w:=⟨nR _⟩;clear hT rR hl hS;go_enter Tryz.func214,Tryz.ntmps214;go_upto_region 1 with fail;refine QAI ?_;intro W1 aH cJ dF cU dA dD eI A1 R1 M1 ib nb1 nb2 d0 x0 hx0;rw[hx0] at d0;refine QBP ?_;intro d1 x1 hx1;rw[hx1] at d1;rw[hx0,hx1] at HE;refine QBQ ?_;intro H9 Bh;clear hx0 hx1 ir aH;have v9:=A1.out.az.2.2.2.2.2.2.2.2.2.1;have cf9:=A1.out.free 9;refine QFF ?_;intro E0 G0;refine eU (S:=fun W=>ax W w.heap.size 39 (aE r t)/\au w.heap.size w W) (N:=[13]) nP ?_;change wpAnyS _ _ _ _ _ _ _ _ _ (World.drew _);refine wpS_pq 0 (.pointer (some ⟨w.heap.size,7,none⟩)) (fun _=>⟨E0.out,G0⟩) ?_;refine QAC ?_;refine wpS_pq 1 (.pointer (some ⟨w.heap.size,9,none⟩)) (fun _=>⟨E0.out,G0⟩) ?_;refine QAC ?_;refine iu 2 (.slice r.ah.pA t.ah.ps.length r.ah.pc) rfl nP (Or.inl ⟨nY,by intro w5 h5;have e:=ax.cell h5.1 (i:=9) (v:=.slice r.ah.pA t.ah.ps.length r.ah.pc) rfl;go_simp⟩) (⟨E0.out,G0⟩) ?_;refine QAC ?_;refine wpS_pq 3 (.slice (some ⟨bb,oo,none⟩) a.length cap) (fun _=>⟨E0.out,G0⟩) ?_;refine QAC ?_;refine wpS_pq 4 (.pointer (some ⟨bb,oo,none⟩)) (fun _=>⟨E0.out,G0⟩) ?_;refine QAC ?_;refine QBG ?_;refine QAC ?_;refine wpS_pq 6 (.slice (some ⟨bb,oo,none⟩) a.length cap) (fun _=>⟨E0.out,G0⟩) ?_;refine QAC ?_;refine wpS_pq 7 (.pointer (some ⟨bb,oo+1,none⟩)) (fun _=>⟨E0.out,G0⟩) ?_;refine QAC ?_;refine QBV ?_;refine QAC ?_;refine wpS_pq 9 (.agg #[.int .i64 x0,.int .i64 x1]) (fun _=>⟨E0.out,G0⟩) ?_;refine QAC ?_;refine aY (rs:=[10]) nP nV ?_;intro i hi;obtain rfl:=List.mem_singleton.1 hi;refine QAF ?_;refine(Ni t.ah.ps ⟨x0,x1⟩ r.ah.pA r.ah.pc mW.out.2.1.2 W1.heap.size _ (M1.out.is.2.1.2.up)).mono ?_;rintro e w1 ⟨A2,c2,δ2,rfl,rfl,hs⟩;have HX:=qh hs;clear hs;refine⟨fun _=>⟨E0.out.af _,inferInstance⟩,?_⟩;refine QAC ?_;have E1:=E0.out.af δ2;have el:=E1.lt;have ef:=E1.free 9;have ec:=E1.cell (i:=9) (v:=.slice r.ah.pA t.ah.ps.length r.ah.pc) rfl;refine wpS_pq 11 (.pointer (some ⟨w.heap.size,7,none⟩)) (fun _=>⟨E0.out.af _,inferInstance⟩) ?_;refine QAC ?_;refine wpS_pq 12 (.pointer (some ⟨w.heap.size,9,none⟩)) (fun _=>⟨E0.out.af _,inferInstance⟩) ?_;refine QAC ?_;refine aY (rs:=[13]) nP nV ?_;intro i hi;obtain rfl:=List.mem_singleton.1 hi;refine QAF ?_;refine⟨fun h=>absurd h nU,?_⟩;refine QAC ?_;refine eW nP ?_ _;go_upto_region 2 with fail;refine QBN ?_;intro W3 bQ q8 wu;have Fu:Le B W3:=fI bQ;have A3:Hid (ax W3 w.heap.size 39 (aE ⟨r.aF,⟨r.ah.hA,r.ah.hc,A2,c2⟩,r.aa⟩ (⟨t.aF,⟨t.ah.m,t.ah.hs,t.ah.ps++[⟨x0,x1⟩]⟩,t.aa⟩))):=by rw[bQ.out];rw[EI];exact qh ((A1.out.drew.af _).set 9 _)
 refine QBW ?_;intro R3;have M3:Hid (aS B W3 ⟨r.aF,⟨r.ah.hA,r.ah.hc,A2,c2⟩,r.aa⟩ (⟨t.aF,⟨t.ah.m,t.ah.hs,t.ah.ps++[⟨x0,x1⟩]⟩,t.aa⟩)):=by rw[bQ.out];exact qh ((((M1.out.drew.up (W:=(af W1.drew δ2))).Ji HX.out)).ep (A1.out.drew.af _) nU hB.out (nT cJ.out (inferInstance:Le W1.heap.size (af W1.drew δ2)).out) _)
 clear bQ;go_wp2_with (first|(refine av ai rfl _ rfl rfl A3.out rfl ?_)|(refine ak ai rfl _ _ rfl rfl rfl R3.out rfl rfl (aM _ _) ?_;intro W9 C9 k9));refine QAT ?_;intro p1 p2;refine eu ai Tryz.results214 rfl C9 rfl ?_;exact rD HE.out (M3.out.aR k9 R3.out nU (Nat.le_succ_of_le hB.out) Fu.out)
theorem UM(r:aQ)(t:aW)(rR:Small t)(a:List Int)(hl:a.length=4)(A:Option Addr)(cap:Nat)(B:Nat)(w:nJ)(hT:aS B w r t)[hB:Le B w](hS:Sl aI w.heap.size w A cap a):Calls nH 212 #[aO r t,.slice A a.length cap] w (lP B t ⟨.ah,a⟩ w):=by
 have mW:=qh rR;have H:=qh hT;obtain⟨bb,oo,rfl,ir,_⟩:=hS.int (k:=0) nQ;refine QAR ?_;intro HS hl0 hk0 hm0 hl1 Ad sQ;have JY:(2:Int)<(a.length:Int):=nQ;have hk2:Hid (2<a.length):=qh nQ;have hm2:2<a.length:=nQ;have ZS:(3:Int)<(a.length:Int):=nQ;have si:Hid (3<a.length):=qh nQ;have ZK:3<a.length:=nQ;have HE:Hid (kz t ⟨.ah,a⟩=some ⟨t.aF,⟨t.ah.m,t.ah.hs++[⟨nth a 0,nth a 1,nth a 2,nth a 3⟩],t.ah.ps⟩,t.aa⟩):=rfl;have lw:Le w.heap.size w:=⟨nR _⟩;clear hT rR hl hS;go_enter Tryz.func212,Tryz.ntmps212;go_upto_region 1 with fail;refine QAI ?_;intro W1 aH cJ dF cU dA dD eI A1 R1 M1 ib nb1 nb2 d0 x0 hx0;rw[hx0] at d0;refine QBP ?_;intro d1 x1 hx1;rw[hx1] at d1;have d2:W1.cell? ⟨bb,oo+2,none⟩=some (.int .i64 (nth a 2)):=(HS.out.up (w':=W1)).kN (k:=2) hk2.out;obtain⟨x2,hx2⟩:∃x,nth a 2=x:=⟨_,rfl⟩;rw[hx2] at d2;have d3:W1.cell? ⟨bb,oo+3,none⟩=some (.int .i64 (nth a 3)):=(HS.out.up (w':=W1)).kN (k:=3) si.out;obtain⟨x3,hx3⟩:∃x,nth a 3=x:=⟨_,rfl⟩;rw[hx3] at d3;rw[hx0,hx1,hx2,hx3] at HE;refine QBQ ?_;intro H9 Bh;have HD2:Hid (∀W:nJ,au w.heap.size w W->W.cell? ⟨bb,oo+2,none⟩=some (.int .i64 x2)):=qh fun W i=>((HS.out.up (w':=W)).kN (k:=2) hk2.out).trans (by rw[hx2]);have HD3:Hid (∀W:nJ,au w.heap.size w W->W.cell? ⟨bb,oo+3,none⟩=some (.int .i64 x3)):=qh fun W i=>((HS.out.up (w':=W)).kN (k:=3) si.out).trans (by rw[hx3]);clear hx0 hx1 hx2 hx3 ir aH;have v8:=A1.out.az.2.2.2.2.2.2.2.2.1;have cf8:=A1.out.free 8;refine QFF ?_;intro E0 G0;refine eU (S:=fun W=>ax W w.heap.size 39 (aE r t)/\au w.heap.size w W) (N:=[20]) nP ?_;change wpAnyS _ _ _ _ _ _ _ _ _ (World.drew _);refine wpS_pq 0 (.pointer (some ⟨w.heap.size,7,none⟩)) (fun _=>⟨E0.out,G0⟩) ?_;refine QAC ?_;refine wpS_pq 1 (.pointer (some ⟨w.heap.size,8,none⟩)) (fun _=>⟨E0.out,G0⟩) ?_;refine QAC ?_;refine iu 2 (.slice r.ah.hA t.ah.hs.length r.ah.hc) rfl nP (Or.inl ⟨nY,by intro w5 h5;have e:=ax.cell h5.1 (i:=8) (v:=.slice r.ah.hA t.ah.hs.length r.ah.hc) rfl;go_simp⟩) (⟨E0.out,G0⟩) ?_;refine QAC ?_;refine wpS_pq 3 (.slice (some ⟨bb,oo,none⟩) a.length cap) (fun _=>⟨E0.out,G0⟩) ?_;refine QAC ?_;refine wpS_pq 4 (.pointer (some ⟨bb,oo,none⟩)) (fun _=>⟨E0.out,G0⟩) ?_;refine QAC ?_;refine QBG ?_;refine QAC ?_;refine wpS_pq 6 (.slice (some ⟨bb,oo,none⟩) a.length cap) (fun _=>⟨E0.out,G0⟩) ?_;refine QAC ?_;refine wpS_pq 7 (.pointer (some ⟨bb,oo+1,none⟩)) (fun _=>⟨E0.out,G0⟩) ?_;refine QAC ?_;refine QBV ?_;refine QAC ?_;refine wpS_pq 9 (.slice (some ⟨bb,oo,none⟩) a.length cap) (fun _=>⟨E0.out,G0⟩) ?_;refine QAC ?_;refine wpS_pq 10 (.pointer (some ⟨bb,oo+2,none⟩)) (fun _=>⟨E0.out,G0⟩) ?_;refine QAC ?_;refine iu 11 (.int .i64 x2) rfl nP (Or.inl ⟨nY,by intro w5 h5;have e:=HD2.out w5 h5.2;go_simp⟩) (⟨E0.out,G0⟩) ?_;refine QAC ?_;refine wpS_pq 12 (.agg #[.int .i64 x1,.int .i64 x2]) (fun _=>⟨E0.out,G0⟩) ?_;refine QAC ?_;refine wpS_pq 13 (.slice (some ⟨bb,oo,none⟩) a.length cap) (fun _=>⟨E0.out,G0⟩) ?_;refine QAC ?_;refine wpS_pq 14 (.pointer (some ⟨bb,oo+3,none⟩)) (fun _=>⟨E0.out,G0⟩) ?_;refine QAC ?_;refine iu 15 (.int .i64 x3) rfl nP (Or.inl ⟨nY,by intro w5 h5;have e:=HD3.out w5 h5.2;go_simp⟩) (⟨E0.out,G0⟩) ?_;refine QAC ?_;refine wpS_pq 16 (.agg #[.int .i64 x0,.int .i64 x1,.int .i64 x2,.int .i64 x3]) (fun _=>⟨E0.out,G0⟩) ?_;refine QAC ?_;refine aY (rs:=[17]) nP nV ?_;intro i hi;obtain rfl:=List.mem_singleton.1 hi;refine QAF ?_;refine(Nj t.ah.hs ⟨x0,x1,x2,x3⟩ r.ah.hA r.ah.hc mW.out.2.1.1 W1.heap.size _ (M1.out.is.2.1.1.up)).mono ?_;rintro e w1 ⟨A2,c2,δ2,rfl,rfl,hs⟩;have HX:=qh hs;clear hs;refine⟨fun _=>⟨E0.out.af _,inferInstance⟩,?_⟩;refine QAC ?_;have E1:=E0.out.af δ2;have el:=E1.lt;have ef:=E1.free 8;have ec:=E1.cell (i:=8) (v:=.slice r.ah.hA t.ah.hs.length r.ah.hc) rfl;refine wpS_pq 18 (.pointer (some ⟨w.heap.size,7,none⟩)) (fun _=>⟨E0.out.af _,inferInstance⟩) ?_;refine QAC ?_;refine wpS_pq 19 (.pointer (some ⟨w.heap.size,8,none⟩)) (fun _=>⟨E0.out.af _,inferInstance⟩) ?_;refine QAC ?_;refine aY (rs:=[20]) nP nV ?_;intro i hi;obtain rfl:=List.mem_singleton.1 hi;refine QAF ?_;refine⟨fun h=>absurd h nU,?_⟩;refine QAC ?_;refine eW nP ?_ _;go_upto_region 2 with fail;refine QBN ?_;intro W3 bQ q8 wu;have Fu:Le B W3:=fI bQ;have A3:Hid (ax W3 w.heap.size 39 (aE ⟨r.aF,⟨A2,c2,r.ah.pA,r.ah.pc⟩,r.aa⟩ (⟨t.aF,⟨t.ah.m,t.ah.hs++[⟨x0,x1,x2,x3⟩],t.ah.ps⟩,t.aa⟩))):=by rw[bQ.out];rw[EK];exact qh ((A1.out.drew.af _).set 8 _)
 refine QBW ?_;intro R3;have M3:Hid (aS B W3 ⟨r.aF,⟨A2,c2,r.ah.pA,r.ah.pc⟩,r.aa⟩ (⟨t.aF,⟨t.ah.m,t.ah.hs++[⟨x0,x1,x2,x3⟩],t.ah.ps⟩,t.aa⟩)):=by rw[bQ.out];exact qh ((((M1.out.drew.up (W:=(af W1.drew δ2))).Jk HX.out)).ep (A1.out.drew.af _) nU hB.out (nT cJ.out (inferInstance:Le W1.heap.size (af W1.drew δ2)).out) _)
 clear bQ;go_wp2_with (first|(refine av ai rfl _ rfl rfl A3.out rfl ?_)|(refine ak ai rfl _ _ rfl rfl rfl R3.out rfl rfl (aM _ _) ?_;intro W9 C9 k9));refine QAT ?_;intro p1 p2;refine eu ai Tryz.results212 rfl C9 rfl ?_;exact rD HE.out (M3.out.aR k9 R3.out nU (Nat.le_succ_of_le hB.out) Fu.out)
theorem UO(r:aQ)(t:aW)(rR:Small t)(a:List Int)(hl:a.length=2)(A:Option Addr)(cap:Nat)(B:Nat)(w:nJ)(hT:aS B w r t)[hB:Le B w](hS:Sl aI w.heap.size w A cap a):Calls nH 218 #[aO r t,.slice A a.length cap] w (lP B t ⟨.part,a⟩ w):=by
 have mW:=qh rR;have H:=qh hT;obtain⟨bb,oo,rfl,ir,_⟩:=hS.int (k:=0) nQ;refine QAR ?_;intro HS hl0 hk0 hm0 hl1 Ad sQ;have HE:Hid (kz t ⟨.part,a⟩=some ⟨t.aF,t.ah,⟨t.aa.kinds,t.aa.floor,t.aa.parts++[⟨nth a 0,nth a 1⟩],t.aa.bars⟩⟩):=rfl;have lw:Le w.heap.size w:=⟨nR _⟩;clear hT rR hl hS;go_enter Tryz.func218,Tryz.ntmps218;go_upto_region 1 with fail;refine QAI ?_;intro W1 aH cJ dF cU dA dD eI A1 R1 M1 ib nb1 nb2 d0 x0 hx0;rw[hx0] at d0;refine QBP ?_;intro d1 x1 hx1;rw[hx1] at d1;rw[hx0,hx1] at HE;refine QBQ ?_;intro H9 Bh;clear hx0 hx1 ir aH;have v12:=A1.out.az.2.2.2.2.2.2.2.2.2.2.2.2.1;have adf:=A1.out.free 12;refine QFF ?_;intro E0 G0;refine eU (S:=fun W=>ax W w.heap.size 39 (aE r t)/\au w.heap.size w W) (N:=[13]) nP ?_;change wpAnyS _ _ _ _ _ _ _ _ _ (World.drew _);refine wpS_pq 0 (.pointer (some ⟨w.heap.size,10,none⟩)) (fun _=>⟨E0.out,G0⟩) ?_;refine QAC ?_;refine wpS_pq 1 (.pointer (some ⟨w.heap.size,12,none⟩)) (fun _=>⟨E0.out,G0⟩) ?_;refine QAC ?_;refine iu 2 (.slice r.aa.pA t.aa.parts.length r.aa.pc) rfl nP (Or.inl ⟨nY,by intro w5 h5;have e:=ax.cell h5.1 (i:=12) (v:=.slice r.aa.pA t.aa.parts.length r.aa.pc) rfl;go_simp⟩) (⟨E0.out,G0⟩) ?_;refine QAC ?_;refine wpS_pq 3 (.slice (some ⟨bb,oo,none⟩) a.length cap) (fun _=>⟨E0.out,G0⟩) ?_;refine QAC ?_;refine wpS_pq 4 (.pointer (some ⟨bb,oo,none⟩)) (fun _=>⟨E0.out,G0⟩) ?_;refine QAC ?_;refine QBG ?_;refine QAC ?_;refine wpS_pq 6 (.slice (some ⟨bb,oo,none⟩) a.length cap) (fun _=>⟨E0.out,G0⟩) ?_;refine QAC ?_;refine wpS_pq 7 (.pointer (some ⟨bb,oo+1,none⟩)) (fun _=>⟨E0.out,G0⟩) ?_;refine QAC ?_;refine QBV ?_;refine QAC ?_;refine wpS_pq 9 (.agg #[.int .i64 x0,.int .i64 x1]) (fun _=>⟨E0.out,G0⟩) ?_;refine QAC ?_;refine aY (rs:=[10]) nP nV ?_;intro i hi;obtain rfl:=List.mem_singleton.1 hi;refine QAF ?_;refine(Nh t.aa.parts ⟨x0,x1⟩ r.aa.pA r.aa.pc mW.out.2.2.2.1 W1.heap.size _ (M1.out.is.2.2.2.1.up)).mono ?_;rintro e w1 ⟨A2,c2,δ2,rfl,rfl,hs⟩;have HX:=qh hs;clear hs;refine⟨fun _=>⟨E0.out.af _,inferInstance⟩,?_⟩;refine QAC ?_;have E1:=E0.out.af δ2;have el:=E1.lt;have ef:=E1.free 12;have ec:=E1.cell (i:=12) (v:=.slice r.aa.pA t.aa.parts.length r.aa.pc) rfl;refine wpS_pq 11 (.pointer (some ⟨w.heap.size,10,none⟩)) (fun _=>⟨E0.out.af _,inferInstance⟩) ?_;refine QAC ?_;refine wpS_pq 12 (.pointer (some ⟨w.heap.size,12,none⟩)) (fun _=>⟨E0.out.af _,inferInstance⟩) ?_;refine QAC ?_;refine aY (rs:=[13]) nP nV ?_;intro i hi;obtain rfl:=List.mem_singleton.1 hi;refine QAF ?_;refine⟨fun h=>absurd h nU,?_⟩;refine QAC ?_;refine eW nP ?_ _;go_upto_region 2 with fail;refine QBN ?_;intro W3 bQ q8 wu;have Fu:Le B W3:=fI bQ;have A3:Hid (ax W3 w.heap.size 39 (aE ⟨r.aF,r.ah,⟨r.aa.kA,r.aa.kc,A2,c2,r.aa.bA,r.aa.bc⟩⟩ (⟨t.aF,t.ah,⟨t.aa.kinds,t.aa.floor,t.aa.parts++[⟨x0,x1⟩],t.aa.bars⟩⟩))):=by rw[bQ.out];rw[EJ];exact qh ((A1.out.drew.af _).set 12 _)
 refine QBW ?_;intro R3;have M3:Hid (aS B W3 ⟨r.aF,r.ah,⟨r.aa.kA,r.aa.kc,A2,c2,r.aa.bA,r.aa.bc⟩⟩ (⟨t.aF,t.ah,⟨t.aa.kinds,t.aa.floor,t.aa.parts++[⟨x0,x1⟩],t.aa.bars⟩⟩)):=by rw[bQ.out];exact qh ((((M1.out.drew.up (W:=(af W1.drew δ2))).Jj HX.out)).ep (A1.out.drew.af _) nU hB.out (nT cJ.out (inferInstance:Le W1.heap.size (af W1.drew δ2)).out) _)
 clear bQ;go_wp2_with (first|(refine av ai rfl _ rfl rfl A3.out rfl ?_)|(refine ak ai rfl _ _ rfl rfl rfl R3.out rfl rfl (aM _ _) ?_;intro W9 C9 k9));refine QAT ?_;intro p1 p2;refine eu ai Tryz.results218 rfl C9 rfl ?_;exact rD HE.out (M3.out.aR k9 R3.out nU (Nat.le_succ_of_le hB.out) Fu.out)
theorem Og(r:aQ)(t:aW)(rR:Small t)(a:List Int)(hl:a.length=1)(A:Option Addr)(cap:Nat)(B:Nat)(w:nJ)(hT:aS B w r t)[hB:Le B w](hS:Sl aI w.heap.size w A cap a):Calls nH 220 #[aO r t,.slice A a.length cap] w (lP B t ⟨.fM,a⟩ w):=by
 have mW:=qh rR;have H:=qh hT;obtain⟨bb,oo,rfl,ir,_⟩:=hS.int (k:=0) nQ;refine QEC ?_;intro HS hl0 hk0 hm0;have HE:Hid (kz t ⟨.fM,a⟩=some ⟨t.aF,t.ah,⟨t.aa.kinds,t.aa.floor,t.aa.parts,t.aa.bars++[nth a 0]⟩⟩):=rfl;have lw:Le w.heap.size w:=⟨nR _⟩;clear hT rR hl hS;go_enter Tryz.func220,Tryz.ntmps220;go_upto_region 1 with fail;refine QAI ?_;intro W1 aH cJ dF cU dA dD eI A1 R1 M1 ib nb1 nb2 d0 x0 hx0;rw[hx0] at d0;rw[hx0] at HE;have H9:Hid (∀W:nJ,au w.heap.size w W->W.cell? ⟨bb,oo,none⟩=some (.int .i64 x0)):=qh fun W i=>((HS.out.up (w':=W)).kN (k:=0) hk0.out).trans (by rw[hx0]);clear hx0 ir aH;have v13:=A1.out.az.2.2.2.2.2.2.2.2.2.2.2.2.2;have ade:=A1.out.free 13;refine QFF ?_;intro E0 G0;refine eU (S:=fun W=>ax W w.heap.size 39 (aE r t)/\au w.heap.size w W) (N:=[9]) nP ?_;change wpAnyS _ _ _ _ _ _ _ _ _ (World.drew _);refine wpS_pq 0 (.pointer (some ⟨w.heap.size,10,none⟩)) (fun _=>⟨E0.out,G0⟩) ?_;refine QAC ?_;refine wpS_pq 1 (.pointer (some ⟨w.heap.size,13,none⟩)) (fun _=>⟨E0.out,G0⟩) ?_;refine QAC ?_;refine iu 2 (.slice r.aa.bA t.aa.bars.length r.aa.bc) rfl nP (Or.inl ⟨nY,by intro w5 h5;have e:=ax.cell h5.1 (i:=13) (v:=.slice r.aa.bA t.aa.bars.length r.aa.bc) rfl;go_simp⟩) (⟨E0.out,G0⟩) ?_;refine QAC ?_;refine wpS_pq 3 (.slice (some ⟨bb,oo,none⟩) a.length cap) (fun _=>⟨E0.out,G0⟩) ?_;refine QAC ?_;refine wpS_pq 4 (.pointer (some ⟨bb,oo,none⟩)) (fun _=>⟨E0.out,G0⟩) ?_;refine QAC ?_;refine QBG ?_;refine QAC ?_;refine aY (rs:=[6]) nP nV ?_;intro i hi;obtain rfl:=List.mem_singleton.1 hi;refine QAF ?_;refine(Qs t.aa.bars x0 r.aa.bA r.aa.bc mW.out.2.2.2.2 W1.heap.size _ (M1.out.is.2.2.2.2.up)).mono ?_;rintro e w1 ⟨A2,c2,δ2,rfl,rfl,hs⟩;have HX:=qh hs;clear hs;refine⟨fun _=>⟨E0.out.af _,inferInstance⟩,?_⟩;refine QAC ?_;have E1:=E0.out.af δ2;have el:=E1.lt;have ef:=E1.free 13;have ec:=E1.cell (i:=13) (v:=.slice r.aa.bA t.aa.bars.length r.aa.bc) rfl;refine wpS_pq 7 (.pointer (some ⟨w.heap.size,10,none⟩)) (fun _=>⟨E0.out.af _,inferInstance⟩) ?_;refine QAC ?_;refine wpS_pq 8 (.pointer (some ⟨w.heap.size,13,none⟩)) (fun _=>⟨E0.out.af _,inferInstance⟩) ?_;refine QAC ?_;refine aY (rs:=[9]) nP nV ?_;intro i hi;obtain rfl:=List.mem_singleton.1 hi;refine QAF ?_;refine⟨fun h=>absurd h nU,?_⟩;refine QAC ?_;refine eW nP ?_ _;go_upto_region 2 with fail;refine QBN ?_;intro W3 bQ q8 wu;have Fu:Le B W3:=fI bQ;have A3:Hid (ax W3 w.heap.size 39 (aE ⟨r.aF,r.ah,⟨r.aa.kA,r.aa.kc,r.aa.pA,r.aa.pc,A2,c2⟩⟩ (⟨t.aF,t.ah,⟨t.aa.kinds,t.aa.floor,t.aa.parts,t.aa.bars++[x0]⟩⟩))):=by rw[bQ.out];rw[EL];exact qh ((A1.out.drew.af _).set 13 _)
 refine QBW ?_;intro R3;have M3:Hid (aS B W3 ⟨r.aF,r.ah,⟨r.aa.kA,r.aa.kc,r.aa.pA,r.aa.pc,A2,c2⟩⟩ (⟨t.aF,t.ah,⟨t.aa.kinds,t.aa.floor,t.aa.parts,t.aa.bars++[x0]⟩⟩)):=by rw[bQ.out];exact qh ((((M1.out.drew.up (W:=(af W1.drew δ2))).Jl HX.out)).ep (A1.out.drew.af _) nU hB.out (nT cJ.out (inferInstance:Le W1.heap.size (af W1.drew δ2)).out) _)
 clear bQ;go_wp2_with (first|(refine av ai rfl _ rfl rfl A3.out rfl ?_)|(refine ak ai rfl _ _ rfl rfl rfl R3.out rfl rfl (aM _ _) ?_;intro W9 C9 k9));refine QAT ?_;intro p1 p2;refine eu ai Tryz.results220 rfl C9 rfl ?_;exact rD HE.out (M3.out.aR k9 R3.out nU (Nat.le_succ_of_le hB.out) Fu.out)
end
section
open Hd
theorem aS.IU{B g c:Nat}{w W:nJ}{r:aQ}{t:aW}{A':Option Addr}{l:List An.Bj}{cs:Array nK}(h:aS B w r t)(k:bH (fun x=>x=g) w W)(hb:ax w g 47 cs)(hB:B<=g)(hl:B<=w.heap.size)(hx:fN 47 cM W.heap.size W A' c l):aS B W ⟨⟨r.aF.gA,r.aF.gc,A',c,r.aF.wA,r.aF.wc⟩,r.ah,r.aa⟩ ⟨⟨t.aF.aP,t.aF.cur,t.aF.ay,l,t.aF.aU⟩,t.ah,t.aa⟩:=
 ⟨⟨h.1.1.aR k hb nU hB hl,.inr hx,h.1.2.2.aR k hb nU hB hl⟩,⟨h.2.1.1.aR k hb nU hB hl,h.2.1.2.aR k hb nU hB hl⟩,⟨h.2.2.1.aR k hb nU hB hl,h.2.2.2.1.aR k hb nU hB hl,h.2.2.2.2.aR k hb nU hB hl⟩⟩
theorem RW(r:aQ)(t:aW)(rR:Small t)(a:List Int)(hl:a.length=2)(A:Option Addr)(cap:Nat)(B:Nat)(w:nJ)(hT:aS B w r t)[hB:Le B w](hS:Sl aI w.heap.size w A cap a):Calls nH 211 #[aO r t,.slice A a.length cap] w (lP B t ⟨.gE,a⟩ w):=by
 have mW:=qh rR;have H:=qh hT;obtain⟨bb,oo,rfl,ir,_⟩:=hS.int (k:=0) nQ;refine QAR ?_;intro HS hl0 hk0 hm0 hl1 Ad sQ;refine QDQ ?_;intro HE;have lw:Le w.heap.size w:=⟨nR _⟩;clear hT rR hl hS;go_enter Tryz.func211,Tryz.ntmps211;go_upto_region 1 with fail;refine QAI ?_;intro W1 aH cJ dF cU dA dD eI A1 R1 M1 ib nb1 nb2 d0 x0 hx0;rw[hx0] at d0;refine QBP ?_;intro d1 x1 hx1;rw[hx1] at d1;rw[hx0,hx1] at HE;have CD:=qh ir;clear hx0 hx1 ir aH;have v5:=A1.out.az.2.2.2.2.2.1;have cf5:=A1.out.free 5;by_cases hx:0<=x0/\x0<(t.aF.aB.length:Int)
 ·obtain⟨i,rfl⟩:∃i:Nat,x0=(i:Int):=⟨x0.toNat,nQ⟩;refine QED ?_;intro hi HE;clear hx;have hmA:0<t.aF.aB.length:=nQ;have hki:(i:Int)<(t.aF.aB.length:Int):=nQ;have hk0:¬(i:Int)<0:=nQ;have Ad:decide ((i:Int)<0)=false:=decide_eq_false hk0;have hk2:¬(t.aF.aB.length:Int)<=(i:Int):=nQ;have si:decide ((t.aF.aB.length:Int)<=(i:Int))=false:=decide_eq_false hk2;go_upto_region 1 with fail;go_region;go_upto_region 4 with(go_at_call 100;refine(AG r.aF.aA r.aF.ac t.aF.aB _ rfl W1.heap.size _ M1.out.is.1.2.1.up mW.out.1.2.1).mono ?_;rintro e w1 ⟨A2,c2,δ2,rfl,rfl,ho⟩;have HO:=qh ho;clear ho);refine aL fun W3 bQ=>?_;have a1:au w.heap.size w W3:=gu bQ;have a2:Le w.heap.size W3:=fI bQ;have a3:Le B W3:=fI bQ;have A3:Hid (ax W3 w.heap.size 39 (aE ⟨⟨r.aF.gA,r.aF.gc,A2,c2,r.aF.wA,r.aF.wc⟩,r.ah,r.aa⟩ t)):=by rw[bQ.out];exact qh ((A1.out.drew.af _).set 5 _)
  refine QBW ?_;intro R3;have M3:Hid (aS B W3 r t):=by rw[bQ.out];exact qh ((M1.out.drew.up (W:=af W1.drew δ2)).ep (A1.out.drew.af _) nU hB.out (nT cJ.out (inferInstance:Le W1.heap.size (af W1.drew δ2)).out) _)
  have O3:Hid (W3.ownsRow W1.heap.size 47 2 (.slice A2 t.aF.aB.length c2) t.aF.aB.length (t.aF.aB.flatMap cM)):=by rw[bQ.out];exact qh (ownsRow_setCell_below HO.out (a:=⟨w.heap.size,5,none⟩) dD.out _)
  have e0:W3.cell? ⟨bb,oo,none⟩=some (.int .i64 (i:Int)):=by rw[bQ.out];go_simp
  have e1':W3.cell? ⟨bb,oo+1,none⟩=some (.int .i64 x1):=by rw[bQ.out];go_simp
  have ib3:Lt bb W3:=nt bQ;clear bQ HO M1 A1 R1 v5 cf5 d0 d1;obtain⟨ga,Gx,hb,hl,hc,hf⟩:=qV O3.out hmA;have c0:=hc (i*2) (.int .i64 (nth t.aF.aB i).wt) (by have:=gk cM 2 (fun _=>rfl) t.aF.aB i 0 hi nQ;rw[Nat.add_zero] at this;rw[this];rfl);have f0':=hf (i*2);have v5':W3.cell? ⟨w.heap.size,5,none⟩=some (.slice (some ⟨ga,0,none⟩) t.aF.aB.length c2):=by rw[<-Gx];exact A3.out.az.2.2.2.2.2.1
  have lA3:=A3.out.lt;have n5:qM ga bb:=⟨by have:=dD.out;have:=nb1.out;have:=CD.out;omega⟩;have n6:qM bb ga:=⟨fun e=>n5.out e.symm⟩;have n7:qM ga w.heap.size:=⟨by have:=dD.out;omega⟩;have n8:qM w.heap.size ga:=⟨fun e=>n7.out e.symm⟩;have hgb:w.heap.size+1<ga:=nL eI.out hb;subst Gx;have o1:=pL (u:=.int .i64 x1) (i:=i*2) (show W3.drew.ownsRow _ _ _ _ _ _ from O3.out) (by rw[bX cM 2 (fun _=>rfl)];omega);have e1:=jn cM 2 (fun _=>rfl) t.aF.aB i 0 (.int .i64 x1) (⟨x1,(nth t.aF.aB i).bt⟩:An.Bj) hi nQ rfl;rw[Nat.add_zero] at e1;rw[e1] at o1;have O5:=qh o1;obtain⟨cs,hcs⟩:=Lm O3.out;have HCS:=qh hcs;clear o1 e1 hc hf hcs;go_region;go_upto_region 5 with fail;refine aL fun W4 jQ=>?_;have i2:oy w.heap.size ga:=⟨nQ⟩;have i1:oy B ga:=⟨nT hB.out nQ⟩;have q8:au w.heap.size w W4:=gu jQ;have wu:Le w.heap.size W4:=fI jQ;have Fu:Le B W4:=fI jQ;have A4:Hid (ax W4 w.heap.size 39 (aE ⟨⟨r.aF.gA,r.aF.gc,some ⟨ga,0,none⟩,c2,r.aF.wA,r.aF.wc⟩,r.ah,r.aa⟩ ⟨⟨t.aF.aP,t.aF.cur,t.aF.ay,t.aF.aB.set i ⟨x1,(nth t.aF.aB i).bt⟩,t.aF.aU⟩,t.ah,t.aa⟩)):=by rw[jQ.out,BC];exact qh (A3.out.drew.fD n8.out _)
  have R4:Hid (ax W4 (w.heap.size+1) 39 (aE dc cO)):=by rw[jQ.out];exact qh (R3.out.drew.fD (by show w.heap.size+1≠ga;omega) _)
  have M4:Hid (aS B W4 ⟨⟨r.aF.gA,r.aF.gc,some ⟨ga,0,none⟩,c2,r.aF.wA,r.aF.wc⟩,r.ah,r.aa⟩ ⟨⟨t.aF.aP,t.aF.cur,t.aF.ay,t.aF.aB.set i ⟨x1,(nth t.aF.aB i).bt⟩,t.aF.aU⟩,t.ah,t.aa⟩):=by rw[jQ.out];exact qh (aS.IU M3.out.drew ((bH.refl (fun x=>x=ga) W3.drew).set (b:=ga) rfl (i*2) (.int .i64 x1)) HCS.out i1.out a3.out (fN.bU (base:=W1.heap.size) (size:=2) O5.out (by rw[List.length_set])))
  clear jQ A3 R3 M3 O3 O5;go_wp2_with (first|(refine av ai rfl _ rfl rfl A4.out rfl ?_)|(refine ak ai rfl _ _ rfl rfl rfl R4.out rfl rfl (aM _ _) ?_;intro W9 C9 k9));refine QAT ?_;intro p1 p2;refine eu ai Tryz.results211 rfl C9 rfl ?_;exact rD HE.out (M4.out.aR k9 R4.out nU (Nat.le_succ_of_le hB.out) Fu.out)
 ·have HN:Hid (kz t ⟨.gE,a⟩=none):=qh (by rw[HE.out,if_neg hx]);by_cases h0:x0<0
  ·have h0d:decide (x0<0)=true:=decide_eq_true h0;clear hx;go_upto_region 1 with fail;go_region;go_wp2_with (first|(refine av ai rfl _ rfl rfl A1.out.drew rfl ?_)|(refine ak ai rfl _ _ rfl rfl rfl R1.out.drew rfl rfl (aM _ _) ?_;intro W9 C9 k9));refine QAT ?_;intro p1 p2;refine eu ai Tryz.results211 rfl C9 rfl ?_;exact RU HN.out (M1.out.drew.aR k9 R1.out.drew nU (Nat.le_succ_of_le hB.out) cJ.out)
  ·have h0d:decide (x0<0)=false:=decide_eq_false h0;have h1:(t.aF.aB.length:Int)<=x0:=nQ;have h1d:decide ((t.aF.aB.length:Int)<=x0)=true:=decide_eq_true h1;clear hx;go_upto_region 1 with fail;go_region;go_wp2_with (first|(refine av ai rfl _ rfl rfl A1.out.drew rfl ?_)|(refine ak ai rfl _ _ rfl rfl rfl R1.out.drew rfl rfl (aM _ _) ?_;intro W9 C9 k9));refine QAT ?_;intro p1 p2;refine eu ai Tryz.results211 rfl C9 rfl ?_;exact RU HN.out (M1.out.drew.aR k9 R1.out.drew nU (Nat.le_succ_of_le hB.out) cJ.out)
end
end Go.Proofs.YtdmedlkonaclnaaGreatDoor
