/- A part of the proof that the statement HeadmanRunCardSaid holds, cut small by a program (names and blanks): Hp1, Hp2, Hp3, Hp4, Hp5, Hp6. -/
import Derived.Lib.LaidTab
import Derived.Lib.SmallJoins
import Derived.Test.YtcjjlikhlmfedaaGreatDoorZ13
import Derived.Test.YtcjjlikhlmfedaaGreatDoorZ23
set_option maxRecDepth 100000
set_option maxHeartbeats 40000000
set_option linter.unusedVariables false
set_option linter.unusedSimpArgs false
namespace Go.Proofs.YtcjjlikhlmfedaaGreatDoor
open Go.RowKit
open Nat renaming le_trans → nT, lt_of_lt_of_le → nL, le_refl → nR, zero_le → nE, le_succ → nF
open Go.Proofs.Tryz renaming prog → nH
open Go renaming World → nJ, Value → nK
section
open Go.Shelf Go.Sort
open Hd
def TabIs(w:nJ):Prop:=Lib.TabIs nH w "internal/strconv.uint64pow10" .u64 Lib.pow10Tab
theorem TabIs.up{w W:nJ}(h:TabIs w)[hg:aC 8 w W]:TabIs W:=by unfold TabIs Lib.TabIs World.var? at *;rw[show Tryz.prog.globalNamed "internal/strconv.uint64pow10" = some 1 by kernel_rfl] at *;simp only[Option.bind_some] at *;rw[hg.out.2.2.2 1 nQ];exact h
structure cX(w:nJ):Prop where
 SP:TabIs w
 jZ:∃m,w.cell? ⟨0,0,none⟩=some (.int .i64 m)
 ZZ:∃te pe,w.cell? ⟨4,0,none⟩=some (.iface te pe)
 Z0:∃te pe,w.cell? ⟨5,0,none⟩=some (.iface te pe)
theorem cX.up{w W:nJ}(h:cX w)[hg:aC 8 w W]:cX W:=by
 refine⟨h.SP.up,?_,?_,?_⟩
 ·obtain⟨m,hm⟩:=h.jZ;exact⟨m,(bz hg.out _ _ nQ).trans hm⟩
 ·obtain⟨m,p,hm⟩:=h.ZZ;exact⟨m,p,(bz hg.out _ _ nQ).trans hm⟩
 ·obtain⟨m,p,hm⟩:=h.Z0;exact⟨m,p,(bz hg.out _ _ nQ).trans hm⟩
theorem EB(w:nJ)(k:Nat)(os:Array Obj):Below w.heap.size w (grow (w.drewN k) os):=
 ⟨rfl,rfl,rfl,by simp[grow,World.drewN],fun j hj=>by
  show(w.heap++os)[j]?=_
  rw[Array.getElem?_append_left hj]⟩
theorem uY(n:Int)(l:bL)(hl:Lib.itoa n=l)(h0:-9223372036854775808<=n)(h1:n<=9223372036854775807)(w:nJ)(hT:TabIs w):Calls nH 74 #[.int .i64 n] w fun e w'=>e=.returned (.string (str l))/\∃δ,w'=af w δ:=by refine(Tryz.strconv_Itoa n h0 h1 w hT).mono ?_;rintro e w1 ⟨rfl,k,os,rfl⟩;rw[hl];exact⟨rfl,tV (EB w k os)⟩
theorem PS(t:bL):Lib.trimPrefix t [45]=nr t:=by
 unfold Lib.trimPrefix Lib.hasPrefix nr;cases t with
 |nil=>rfl
 |cons b r=>
  by_cases h:b=45
  ·subst h;simp
  ·have:([45]:List UInt8).isPrefixOf (b::r)=false:=by simp[List.isPrefixOf];exact fun e=>h e.symm
   simp[this,h]
theorem Mc(t:bL)(w:nJ):Calls nH 188 #[.string (str t),.string ⟨#[45]⟩] w fun e w'=>e=.returned (.string (str (nr t)))/\∃δ,w'=af w δ:=by refine(Tryz.strings_TrimPrefix (str t) ⟨#[45]⟩ w).mono ?_;rintro e w1 ⟨rfl,rfl⟩;refine⟨?_,w1,(aY w1).symm⟩;rw[show(str t).data.toList=t by simp[str],show(⟨#[45]⟩:ByteArray).data.toList=[45] from rfl,PS];rfl
def nk(o:Option Int)(w:nJ)(e:Ending)(w':nJ):Prop:=∃(v:Int) (δ:nJ),e=.returned (.tuple #[.int .i64 v,.bool o.isSome])/\w'=af w δ/\∀n,o=some n->v=n
theorem NI{o:Option Int}{v:Int}{w W:nJ}(h:o=some v)(hl:∃δ,W=af w δ):nk o w (.returned (.tuple #[.int .i64 v,.bool true])) W:=by subst h;obtain⟨δ,rfl⟩:=hl;exact⟨v,δ,rfl,rfl,fun n h=>by injection h⟩
theorem BB{o:Option Int}{v:Int}{w W:nJ}(h:o=none)(hl:∃δ,W=af w δ):nk o w (.returned (.tuple #[.int .i64 v,.bool false])) W:=by subst h;obtain⟨δ,rfl⟩:=hl;exact⟨v,δ,rfl,rfl,fun n h=>by cases h⟩
theorem B6(t:bL)(v:Int)(ht:t.length<=1000)(h:Lib.atoiAll t=.ok v)(w:nJ):Calls nH 189 #[.string (str t)] w fun e w'=>e=.returned (.tuple #[.int .i64 v,.nilIface])/\∃δ,w'=af w δ:=by
 refine(Tryz.strconv_Atoi_ok (str t) (by rw[kT];omega) v (by rw[show(str t).data.toList=t by simp[str]];exact h) w).mono ?_;rintro e w1 ⟨rfl,hw⟩;refine⟨rfl,?_⟩;rcases hw with rfl|⟨s,rfl⟩
 ·exact⟨w1,(aY w1).symm⟩
 ·exact tV (Go.Joins.below_bytesWorld _ _ _ _ (nR _))
theorem O0(t:bL)(ht:t.length<=1000)(h:∀v,Lib.atoiAll t≠.ok v)(w:nJ)(hL:cX w):Calls nH 189 #[.string (str t)] w fun e w'=>∃(v:Int) (te:TypeId) (p:nK),e=.returned (.tuple #[.int .i64 v,.iface te p])/\∃δ,w'=af w δ:=by
 obtain⟨te,pe,h1⟩:=hL.ZZ;obtain⟨te2,pe2,h2⟩:=hL.Z0;rcases ha:Lib.atoiAll t with v|_|_
 ·exact absurd ha (h v)
 ·refine(Tryz.strconv_Atoi_syntax (str t) (by rw[kT];omega) (by rw[show(str t).data.toList=t by simp[str]];exact ha) _ w h1 (.inr ⟨_,_,rfl⟩)).mono ?_;rintro e w1 ⟨N,rfl,_,_,hb⟩;exact⟨_,_,_,rfl,tV hb⟩
 ·refine(Tryz.strconv_Atoi_range (str t) (by rw[kT];omega) (by rw[show(str t).data.toList=t by simp[str]];exact ha) _ w h2 (.inr ⟨_,_,rfl⟩)).mono ?_;rintro e w1 ⟨N,rfl,_,_,hb⟩;exact⟨_,_,_,rfl,tV hb⟩
theorem KO{t:bL}(h:∀v,Lib.atoiAll t≠.ok v):numOf t=none:=by
 cases ho:numOf t with
 |none=>rfl
 |some n=>
  obtain⟨h1,h2⟩:=o4.1 ho
  exact absurd (by rw[h1];exact AH h2) (h n)
theorem Jf{t:bL}{v:Int}(h:Lib.atoiAll t=.ok v)(hn:¬(t=Lib.itoa v/\(nr t).length<=6)):numOf t=none:=by
 cases ho:numOf t with
 |none=>rfl
 |some n=>
  obtain⟨h1,h2⟩:=o4.1 ho
  have h3:=AH h2
  rw[<-h1,h] at h3
  injection h3 with h3
  subst h3
  exact absurd (Dn.2 ho) hn
theorem Dm(t:bL)(ht:t.length<=1000)(w:nJ)[h8:Le 8 w](hL:cX w):Calls nH 130 #[.string (str t)] w (nk (numOf t) w):=by
 have HL:=qh hL;clear hL;by_cases hx:∃v,Lib.atoiAll t=.ok v
 ·obtain⟨v,hv⟩:=hx;have HV:=qh hv;have hb:=Lib.atoiAll_bounds hv;obtain⟨it,hit⟩:∃x,Lib.itoa v=x:=⟨_,rfl⟩;have SE:=qh hit;obtain⟨mg,UM⟩:∃x,nr t=x:=⟨_,rfl⟩;have WI:Hid (∀W:nJ,Calls nH 188 #[.string (str t),.string ⟨#[45]⟩] W fun e w'=>e=.returned (.string (str mg))/\∃δ,w'=af W δ):=qh fun W=>by rw[<-UM];exact Mc t W
  by_cases h6:mg.length<=6
  ·have h6i:(mg.length:Int)<=6:=nQ;by_cases he:it=t
   ·have HO:Hid (numOf t=some v):=qh (Dn.1 ⟨by rw[hit,he],by rw[UM];exact h6⟩);subst he;clear hv hit UM h6;go_enter Tryz.func130,Tryz.ntmps130;go_wp2_with (first|(go_at_call 188;refine(WI.out _).mono ?_;rintro e w1 ⟨rfl,δ1,rfl⟩)|(go_at_call 189;refine(B6 it v ht HV.out _).mono ?_;rintro e w1 ⟨rfl,δ2,rfl⟩)|(go_at_call 74;refine(uY v it SE.out hb.1 hb.2 _ HL.out.SP.up).mono ?_;rintro e w1 ⟨rfl,δ3,rfl⟩));go_ret2;exact NI HO.out ag
   ·have HO:Hid (numOf t=none):=qh (Jf hv fun h=>he (by rw[<-hit];exact h.1.symm));have hne:((str it).toList==(str t).toList)=false:=by rw[sw,sw,jw,jw];simpa using he
    have Yv:¬str it=str t:=fun e=>he (by have:=congrArg (fun b:ByteArray=>b.data.toList) e;simpa [str] using this);clear hv hit UM h6 he;go_enter Tryz.func130,Tryz.ntmps130;go_wp2_with (first|(go_at_call 188;refine(WI.out _).mono ?_;rintro e w1 ⟨rfl,δ1,rfl⟩)|(go_at_call 189;refine(B6 t v ht HV.out _).mono ?_;rintro e w1 ⟨rfl,δ2,rfl⟩)|(go_at_call 74;refine(uY v it SE.out hb.1 hb.2 _ HL.out.SP.up).mono ?_;rintro e w1 ⟨rfl,δ3,rfl⟩));go_ret2;exact BB HO.out ag
  ·have h6i:¬(mg.length:Int)<=6:=nQ;have h6d:decide ((mg.length:Int)<=6)=false:=decide_eq_false h6i;have HO:Hid (numOf t=none):=qh (Jf hv fun h=>h6 (by rw[<-UM];exact h.2));clear hv hit UM;go_enter Tryz.func130,Tryz.ntmps130;go_wp2_with (first|(go_at_call 188;refine(WI.out _).mono ?_;rintro e w1 ⟨rfl,δ1,rfl⟩)|(go_at_call 189;refine(B6 t v ht HV.out _).mono ?_;rintro e w1 ⟨rfl,δ2,rfl⟩));go_ret2;exact BB HO.out ag
 ·have hx:∀v,Lib.atoiAll t≠.ok v:=fun v e=>hx ⟨v,e⟩;have HX:=qh hx;have HO:=qh (KO hx);clear hx;go_enter Tryz.func130,Tryz.ntmps130;go_wp2_with (first|(go_at_call 188;refine(Mc t _).mono ?_;rintro e w1 ⟨rfl,δ1,rfl⟩)|(go_at_call 189;refine(O0 t ht HX.out _ HL.out.up).mono ?_;rintro e w1 ⟨v,te,p,rfl,δ2,rfl⟩));go_ret2;exact BB HO.out ag
end
section
open Hd
def nj(o:Option (List Int))(w:nJ)(e:Ending)(w':nJ):Prop:=∃(A:Option Addr) (c:Nat) (δ:nJ),e=.returned (.tuple #[.slice A (o.getD []).length c,.bool o.isSome])/\w'=af w δ/\fm 3 aH (af w δ).heap.size (af w δ) A c (o.getD [])
theorem Vn{o:Option (List Int)}{w W:nJ}(h:o=none)(hl:∃δ,W=af w δ):nj o w (.returned (.tuple #[.slice none 0 0,.bool false])) W:=by subst h;obtain⟨δ,rfl⟩:=hl;exact⟨none,0,δ,rfl,rfl,fm.none_⟩
theorem Tn{o:Option (List Int)}{a:List Int}{w W:nJ}{A:Option Addr}{c n b:Nat}(h:o=some a)[aC w.heap.size w W][Le w.heap.size W](hn:n=a.length)(ho:W.ownsRow b 3 1 (.slice A n c) n (a.flatMap aH)):nj o w (.returned (.tuple #[.slice A n c,.bool true])) W:=by subst h;subst hn;refine⟨A,c,W,rfl,aq,?_⟩;refine QDK ?_;exact fm.bW ho rfl
theorem ry:∀ {ws:List bL} {j:Nat},j<ws.length->numOf (nth ws j)=none->cS ws=none
 |[],_,h,_=>absurd h (Nat.not_lt_zero _)
 |x::xs,0,_,h=>by have h:numOf x=none:=h;unfold cS;simp[h]
 |x::xs,j+1,hl,h=>by have:=ry (ws:=xs) (j:=j) (Nat.lt_of_succ_lt_succ hl) h;unfold cS;rw[this];cases numOf x<;>rfl
theorem Kk(ws:List bL)(A:Option Addr)(cap:Nat)(hl:∀x∈ws,x.length<=1000)(hn:ws.length<=1001)(B:Nat)(w:nJ)(hS:Sl cm B w A cap ws)[hB:Le B w][h8:Le 8 w](hL:cX w):Calls nH 69 #[.slice A ws.length cap] w (nj (cS ws) w):=by
 have HS:=qh hS;have HL:=qh hL;have mG:=qh hl;clear hS hL hl;go_enter Tryz.func69,Tryz.ntmps69;go_upto_region 2 with fail;go_loopg [2,10] ws.length (fun gn s2 s10 wr=>∃(j:Nat) (A':Option Addr) (c':Nat) (a:List Int),j<=ws.length/\gn=ws.length-j/\s2=.slice A' j c'/\s10=.int .i64 j/\Hid (cS (ws.take j)=some a)/\Hid (wr.ownsRow w.heap.size 3 1 (.slice A' j c') j (a.flatMap aH))/\aC w.heap.size w wr/\Le w.heap.size wr)
 case atStart=>exact⟨0,none,0,[],nE _,rfl,rfl,rfl,qh rfl,qh (World.ownsRow_nil _ _ _ _),inferInstance,inferInstance⟩
 case round=>
  obtain⟨j,A',c',a,hj,rfl,rfl,rfl,HA,HO,i1,i2⟩:=hrel;refine QFF ?_;intro a3;have a4:Le B wr:=⟨nT hB.out i2.out⟩;have a5:aC 8 w wr:=⟨⟨i1.out.1,i1.out.2.1,i1.out.2.2.1,fun b hb=>i1.out.2.2.2 b (nL hb h8.out)⟩⟩;have a6:Le 8 wr:=⟨nT h8.out i2.out⟩;by_cases hlt:j<ws.length
  ·have hji:(j:Int)<(ws.length:Int):=nQ;have hj0:¬(j:Int)<0:=nQ;obtain⟨sb,so,rfl,ER,e0⟩:=(HS.out.up (w':=wr)).lQ hlt;have isb:Lt sb wr:=⟨nL ER a4.out⟩;have ES:=mG.out _ (aS ws hlt);have UZ:=qh (@ry ws j hlt);have Pm:Hid (cS (ws.take (j+1))=(numOf (nth ws j)).map fun n=>a++[n]):=by unfold Hid;rw[bu ws hlt,z7,HA.out];rfl
   have HJ:Hid (a.length=j):=qh (by rw[mQ HA.out,List.length_take];omega);obtain⟨x,hx⟩:∃x,nth ws j=x:=⟨_,rfl⟩;rw[hx] at e0 ES UZ Pm;have HC:Hid (∀W:nJ,cX W->Le 8 W->Calls nH 130 #[.string (str x)] W (nk (numOf x) W)):=qh fun W h1 h2=>Dm x ES W h1;unfold nk at HC;clear ER hx;cases ho:numOf x with
   |none=>
    rw[ho] at HC
    have HN:=qh (UZ.out ho)
    clear ho UZ Pm
    go_wp2_with (go_at_call 130;refine(HC.out _ HL.out.up inferInstance).mono ?_;rintro e w1 ⟨v,δ1,rfl,rfl,_⟩)
    go_ret2
    exact Vn HN.out ag
   |some n=>
    rw[ho] at HC Pm
    clear ho UZ
    go_wp2_with (first|(go_at_call 130;refine(HC.out _ HL.out.up inferInstance).mono ?_;rintro e w1 ⟨v,δ1,rfl,rfl,hv⟩;obtain rfl:=hv n rfl)|(at_builtin;(refine bK w uC (.tmp 21) (.tmp 23) rfl rfl (aT HO.out) rfl rfl nW rfl (by simp[Value.oneCell']) nQ nQ ?_);intro A3 c3 δ3 jB qj))
    go_roundg (ws.length-(j+1))
    case measure=>omega
    case rel=>refine⟨j+1,A3,c3,a++[v],nQ,rfl,rfl,by go_num,Pm,?_,inferInstance,inferInstance⟩;rw[List.flatMap_append];exact qh (by simpa [aH] using jB)
  ·obtain rfl:j=ws.length:=by omega
   have hjn:¬((ws.length:Int)<(ws.length:Int)):=nQ;have HA2:Hid (cS ws=some a):=by have:=HA.out;rw[List.take_length] at this;exact qh this
   have HJ:Hid (ws.length=a.length):=qh (mQ HA2.out).symm;clear HA;go_wp2_with fail;go_ret2;exact Tn HA2.out HJ.out HO.out
end
section
open Hd
def Uf:Wd->nK
 |.aN=>.func (.func 157) #[] #[]
 |.current=>.func (.func 158) #[] #[]
 |.fU=>.func (.func 159) #[] #[]
 |.ai=>.func (.func 160) #[] #[]
 |.lM=>.func (.func 162) #[] #[]
 |.dU=>.func (.func 164) #[] #[]
 |.eK=>.func (.func 165) #[] #[]
 |.part=>.func (.func 166) #[] #[]
 |.fo=>.func (.func 168) #[] #[]
 |_=>.nilFunc
def UY(o:Option Wd):Nat:=match o with|some d=>if cP d=1 then rZ d else 0|none=>0
def UW(o:Option Wd):nK:=match o with|some d=>Uf d|none=>.nilFunc
def VA(o:Option Wd):Bool:=match o with|some d=>decide (cP d=1)|none=>false
theorem Ib(t:bL)(w:nJ):Calls nH 107 #[.string (str t)] w fun e w'=>e=.returned (.tuple #[.agg #[.int .i64 (UY (mh t):Nat),UW (mh t)],.bool (VA (mh t))])/\∃δ,w'=af w δ:=by
 obtain⟨o,ho⟩:∃o,mh t=o:=⟨_,rfl⟩;have F:=cM t o ho;rw[ho];clear ho;obtain⟨f0,f1,f2,f3,f4,f5,f6,f7,f8,f9,f10,f11,f12,f13,f14,f15,f16,f17,f18,f19⟩:=F;rcases o with _|d
 ·simp only[reduceCtorEq,decide_false] at f0 f1 f2 f3 f4 f5 f6 f7 f8 f9 f10 f11 f12 f13 f14 f15 f16 f17 f18 f19;go_enter Tryz.func107,Tryz.ntmps107;go_wp2;refine bodyPost_ret (v:=.tuple #[.agg #[.int .i64 (0:Int),.nilFunc],.bool false]) ?_ rfl ⟨rfl,ag⟩;simp only[results,Tryz.results107];go_simp
 ·cases d;all_goals simp only[Option.some.injEq,reduceCtorEq,decide_false,decide_true] at f0 f1 f2 f3 f4 f5 f6 f7 f8 f9 f10 f11 f12 f13 f14 f15 f16 f17 f18 f19;go_enter Tryz.func107,Tryz.ntmps107;go_wp2;refine bodyPost_ret (v:=.tuple #[.agg #[.int .i64 (UY (some _):Nat),UW (some _)],.bool (VA (some _))]) ?_ rfl ⟨rfl,ag⟩;simp only[results,Tryz.results107];go_simp;try (first|rfl|exact⟨⟨rfl,rfl⟩,rfl⟩|(simp[UY,UW,VA,Uf,rZ,cP];done))
theorem uE(b:Bool)(w:nJ):Calls nH 65 #[.bool b] w fun e w'=>e=.returned (.string (str (sV b)))/\∃δ,w'=af w δ:=by cases b;all_goals go_enter Tryz.func65,Tryz.ntmps65;go_wp2;go_ret;exact⟨rfl,ag⟩
theorem AQ(e:Int)(x:bL)(w:nJ):Calls nH 300 #[.int .i64 e,.string (str x)] w fun e' w'=>e'=.returned (.string (str (lT e x)))/\∃δ,w'=af w δ:=by
 by_cases h0:e=0
 ·subst h0;go_enter Tryz.func300,Tryz.ntmps300;go_wp2;go_ret;exact⟨rfl,ag⟩
 ·by_cases h3:e=3
  ·subst h3;go_enter Tryz.func300,Tryz.ntmps300;go_wp2;go_ret;exact⟨rfl,ag⟩
  ·have e0:(e==0)=false:=by simp[h0]
   have e3:(e==3)=false:=by simp[h3]
   have HT:Hid (lT e x=Fj):=by unfold Hid lT;rw[if_neg h0,if_neg h3]
   clear h0 h3;go_enter Tryz.func300,Tryz.ntmps300;go_wp2;go_ret;exact⟨by rw[HT.out];rfl,ag⟩
end
section
open Hd
def kj{α:Type}(T:TypeId)(enc:α->List nK)(B:Nat)(w:nJ)(A:Option Addr)(c:Nat)(xs:List α):Prop:=Sl enc B w A c xs\/fm T enc w.heap.size w A c xs
section
variable{α:Type}{T:TypeId}{enc:α->List nK}{B:Nat}{w W:nJ}{A:Option Addr}{c:Nat}{xs:List α}
theorem kj.sl(h:kj T enc B w A c xs)[hB:Le B w]:Sl enc w.heap.size w A c xs:=by
 rcases h with h|h
 ·exact h.more hB.out
 ·exact h.plain
theorem kj.up(h:kj T enc B w A c xs)[hg:aC w.heap.size w W][hl:Le w.heap.size W][hB:Le B w]:kj T enc B W A c xs:=by
 rcases h with h|h
 ·have i:aC B w W:=⟨⟨hg.out.1,hg.out.2.1,hg.out.2.2.1,fun b hb=>hg.out.2.2.2 b (nL hb hB.out)⟩⟩;exact .inl h.up
 ·exact .inr h.wide
theorem kj.aO{b:Nat}{T':TypeId}{cs:Array nK}(h:kj T enc B w A c xs)(k:bw (fun x=>x=b) w W)(hb:av w b T' cs)(hne:T'≠T)(hB:B<=b)(hl:B<=w.heap.size):kj T enc B W A c xs:=by
 rcases h with h|h
 ·have i:aC B w W:=⟨⟨k.os,k.tape,k.output,fun j hj=>k.block j (nL hj hl) (fun e:j=b=>absurd (e▸hj) (Nat.not_lt.2 hB))⟩⟩;exact .inl h.up
 ·exact .inr (h.aO k hb hne (nR _))
end
def aP(B:Nat)(w:nJ)(r:aR)(t:aV):Prop:=
 (kj 23 fX B w r.aD.gA r.aD.gc t.aD.au/\kj 94 cG B w r.aD.aA r.aD.ac t.aD.ay/\kj 99 eY B w r.aD.wA r.aD.wc t.aD.aQ) /\
 (kj 105 aZ B w r.ai.hA r.ai.hc t.ai.hs/\kj 109 dj B w r.ai.pA r.ai.pc t.ai.ps) /\
 (kj 114 p6 B w r.aa.kA r.aa.kc t.aa.kinds/\kj 116 iX B w r.aa.pA r.aa.pc t.aa.parts/\kj 3 aH B w r.aa.bA r.aa.bc t.aa.bars)
section
variable{B:Nat}{w W:nJ}{r:aR}{t:aV}
theorem aP.of(h:aI B w r t):aP B w r t:=⟨⟨.inl h.1.1,.inl h.1.2.1,.inl h.1.2.2⟩,⟨.inl h.2.1.1,.inl h.2.1.2⟩,⟨.inl h.2.2.1,.inl h.2.2.2.1,.inl h.2.2.2.2⟩⟩
theorem aP.is(h:aP B w r t)[hB:Le B w]:aI w.heap.size w r t:=⟨⟨h.1.1.sl,h.1.2.1.sl,h.1.2.2.sl⟩,⟨h.2.1.1.sl,h.2.1.2.sl⟩,⟨h.2.2.1.sl,h.2.2.2.1.sl,h.2.2.2.2.sl⟩⟩
theorem aP.up(h:aP B w r t)[hg:aC w.heap.size w W][hl:Le w.heap.size W][hB:Le B w]:aP B W r t:=⟨⟨h.1.1.up,h.1.2.1.up,h.1.2.2.up⟩,⟨h.2.1.1.up,h.2.1.2.up⟩,⟨h.2.2.1.up,h.2.2.2.1.up,h.2.2.2.2.up⟩⟩
theorem aP.aO{b:Nat}{T:TypeId}{cs:Array nK}(h:aP B w r t)(k:bw (fun x=>x=b) w W)(hb:av w b T cs)(hne:yS T)(hB:B<=b)(hl:B<=w.heap.size):aP B W r t:=
 ⟨⟨h.1.1.aO k hb hne.1.1 hB hl,h.1.2.1.aO k hb hne.1.2.1 hB hl,h.1.2.2.aO k hb hne.1.2.2 hB hl⟩,⟨h.2.1.1.aO k hb hne.2.1.1 hB hl,h.2.1.2.aO k hb hne.2.1.2 hB hl⟩,⟨h.2.2.1.aO k hb hne.2.2.1 hB hl,h.2.2.2.1.aO k hb hne.2.2.2.1 hB hl,h.2.2.2.2.aO k hb hne.2.2.2.2 hB hl⟩⟩
end
theorem Sl.I5{α:Type}{enc:α->List nK}{B:Nat}{w:nJ}{A:Option Addr}{c:Nat}{xs:List α}(h:Sl enc B w A c xs)(hs:∀x,enc x≠[])(hA:A=none):xs.length=0:=by
 cases xs with
 |nil=>rfl
 |cons x xs=>
  obtain⟨b,o,e,_⟩:=h.2.2 (by rw[List.flatMap_cons];intro e;exact hs x (List.append_eq_nil_iff.1 e).1)
  rw[hA] at e
  cases e
theorem BG{W:nJ}{g:Nat}{arr:Array nK}{T:TypeId}(hb:av W g T arr):∀j u,arr.toList[j]?=some u->W.cell? ((⟨g,0,none⟩:Addr).add j)=some u:=fun j u hj=>by rw[Addr.add_mid,Nat.zero_add];exact hb.cell (by simpa using hj)
theorem Kt(xs:List Me.jJ)(x:Me.jJ)(A:Option Addr)(cap:Nat)(hl:xs.length<=1000)(B:Nat)(w:nJ)(hS:Sl aZ B w A cap xs)[hB:Le B w]:Calls nH 161 #[.slice A xs.length cap,.agg #[.int .i64 x.fr,.int .i64 x.lo,.int .i64 x.hi,.int .i64 x.hr]] w fun e w'=>∃(A':Option Addr) (c':Nat) (δ:nJ),e=.returned (.slice A' (xs.length+1) c')/\w'=af w δ/\fm 105 aZ (af w δ).heap.size (af w δ) A' c' (xs++[x]):=by refine QFH ?_;intro HS xX Ji;have HN:Hid ((xs.flatMap aZ).length=xs.length*4):=qh (cg aZ 4 (fun _=>rfl) _);clear hS;go_enter Tryz.func161,Tryz.ntmps161;go_upto_region 1 with fail;go_region_law (first|(refine fy Fy (.tmp 10) (.tmp 12) rfl rfl A xs.length (xs.flatMap aZ) rfl (HS.out.I5 (fun _=>by simp[aZ])) HN.out (Sl.holds HS.out.up) _ 1 1 (aZ x) rfl nQ rfl (BG (arr:=(aZ x).toArray) (T:=105) (by exact av.drew (av.new nW))) (oY x) nQ nQ ?_;intro A1 c1 δ1 ei));all_goals go_wp2_with fail;go_ret;refine⟨A1,c1,_,rfl,aq,?_⟩;refine QDK ?_;refine fm.bW (base:=w.heap.size) (size:=4) (n:=xs.length+1) ?_ nV;rw[List.flatMap_append];exact dO (by simpa [aZ] using ei) (by first|exact nR _|(go_simp;omega)|(go_simp;done))
theorem Ks(xs:List Me.Pr)(x:Me.Pr)(A:Option Addr)(cap:Nat)(hl:xs.length<=1000)(B:Nat)(w:nJ)(hS:Sl dj B w A cap xs)[hB:Le B w]:Calls nH 163 #[.slice A xs.length cap,.agg #[.int .i64 x.a,.int .i64 x.b]] w fun e w'=>∃(A':Option Addr) (c':Nat) (δ:nJ),e=.returned (.slice A' (xs.length+1) c')/\w'=af w δ/\fm 109 dj (af w δ).heap.size (af w δ) A' c' (xs++[x]):=by refine QFH ?_;intro HS xX Ji;have HN:Hid ((xs.flatMap dj).length=xs.length*2):=qh (cg dj 2 (fun _=>rfl) _);clear hS;go_enter Tryz.func163,Tryz.ntmps163;go_upto_region 1 with fail;go_region_law (first|(refine fy AW (.tmp 10) (.tmp 12) rfl rfl A xs.length (xs.flatMap dj) rfl (HS.out.I5 (fun _=>by simp[dj])) HN.out (Sl.holds HS.out.up) _ 1 1 (dj x) rfl nQ rfl (BG (arr:=(dj x).toArray) (T:=109) (by exact av.drew (av.new nW))) (Bi x) nQ nQ ?_;intro A1 c1 δ1 ei));all_goals go_wp2_with fail;go_ret;refine⟨A1,c1,_,rfl,aq,?_⟩;refine QDK ?_;refine fm.bW (base:=w.heap.size) (size:=2) (n:=xs.length+1) ?_ nV;rw[List.flatMap_append];exact dO (by simpa [dj] using ei) (by first|exact nR _|(go_simp;omega)|(go_simp;done))
theorem Kr(xs:List Sa.Part)(x:Sa.Part)(A:Option Addr)(cap:Nat)(hl:xs.length<=1000)(B:Nat)(w:nJ)(hS:Sl iX B w A cap xs)[hB:Le B w]:Calls nH 167 #[.slice A xs.length cap,.agg #[.int .i64 x.kind,.int .i64 x.bg]] w fun e w'=>∃(A':Option Addr) (c':Nat) (δ:nJ),e=.returned (.slice A' (xs.length+1) c')/\w'=af w δ/\fm 116 iX (af w δ).heap.size (af w δ) A' c' (xs++[x]):=by refine QFH ?_;intro HS xX Ji;have HN:Hid ((xs.flatMap iX).length=xs.length*2):=qh (cg iX 2 (fun _=>rfl) _);clear hS;go_enter Tryz.func167,Tryz.ntmps167;go_upto_region 1 with fail;go_region_law (first|(refine fy PW (.tmp 10) (.tmp 12) rfl rfl A xs.length (xs.flatMap iX) rfl (HS.out.I5 (fun _=>by simp[iX])) HN.out (Sl.holds HS.out.up) _ 1 1 (iX x) rfl nQ rfl (BG (arr:=(iX x).toArray) (T:=116) (by exact av.drew (av.new nW))) (tK x) nQ nQ ?_;intro A1 c1 δ1 ei));all_goals go_wp2_with fail;go_ret;refine⟨A1,c1,_,rfl,aq,?_⟩;refine QDK ?_;refine fm.bW (base:=w.heap.size) (size:=2) (n:=xs.length+1) ?_ nV;rw[List.flatMap_append];exact dO (by simpa [iX] using ei) (by first|exact nR _|(go_simp;omega)|(go_simp;done))
theorem Nb(xs:List Int)(x:Int)(A:Option Addr)(cap:Nat)(hl:xs.length<=1000)(B:Nat)(w:nJ)(hS:Sl aH B w A cap xs)[hB:Le B w]:Calls nH 169 #[.slice A xs.length cap,.int .i64 x] w fun e w'=>∃(A':Option Addr) (c':Nat) (δ:nJ),e=.returned (.slice A' (xs.length+1) c')/\w'=af w δ/\fm 3 aH (af w δ).heap.size (af w δ) A' c' (xs++[x]):=by refine QFH ?_;intro HS xX Ji;have HN:Hid ((xs.flatMap aH).length=xs.length*1):=qh (cg aH 1 (fun _=>rfl) _);clear hS;go_enter Tryz.func169,Tryz.ntmps169;go_upto_region 1 with fail;go_wp2_with (refine wpList_step fun K hK=>fy uC (.tmp 10) (.tmp 12) rfl rfl A xs.length (xs.flatMap aH) rfl (HS.out.I5 (fun _=>by simp[aH])) HN.out (Sl.holds HS.out.up) _ 1 1 (aH x) rfl nQ rfl (BG (arr:=(aH x).toArray) (T:=3) (by first|exact av.new rfl)) (tM x) nQ nQ ?kk;case' kk=>(intro A1 c1 δ1 ei;refine hK _ _ ?_));all_goals go_ret;refine⟨A1,c1,_,rfl,aq,?_⟩;refine QDK ?_;refine fm.bW (base:=w.heap.size) (size:=1) (n:=xs.length+1) ?_ nV;rw[List.flatMap_append];exact dO (by simpa [aH] using ei) (by first|exact nR _|(go_simp;omega)|(go_simp;done))
end
section
open Hd
def kr(B:Nat)(t:aV)(c:eH)(w:nJ)(e:Ending)(w':nJ):Prop:=
 ∃(r':aR) (δ:nJ),e=.returned (.tuple #[aX r' ((jF t c).getD t),.bool (jF t c).isSome])/\w'=af w δ/\aP B (af w δ) r' ((jF t c).getD t)
theorem p7{B:Nat}{r':aR}{t o:aV}{c:eH}{w W:nJ}(h:jF t c=some o)[aC w.heap.size w W][Le w.heap.size W](ho:aP B W r' o):kr B t c w (.returned (.tuple #[aX r' o,.bool true])) W:=by refine⟨r',W,by rw[h];rfl,aq,?_⟩;rw[<-aq (w:=w),h];exact ho
theorem Oz{B:Nat}{r:aR}{t:aV}{c:eH}{w W:nJ}(h:jF t c=none)[aC w.heap.size w W][Le w.heap.size W](ho:aP B W r t):kr B t c w (.returned (.tuple #[aX r t,.bool false])) W:=by refine⟨r,W,by rw[h];rfl,aq,?_⟩;rw[<-aq (w:=w),h];exact ho
section
variable{B:Nat}{w W:nJ}{r:aR}{t:aV}{A':Option Addr}{c':Nat}
theorem aP.dP{b i:Nat}{T:TypeId}{cs:Array nK}(h:aP B w r t)(hb:av w b T cs)(hne:yS T)(hB:B<=b)(hl:B<=w.heap.size)(u:nK):aP B (w.setCell ⟨b,i,none⟩ u) r t:=h.aO ((bw.refl (fun x=>x=b) w).set (b:=b) rfl i u) hb hne hB hl
theorem aP.drew(h:aP B w r t):aP B w.drew r t:=h
theorem aP.Gc{x:Me.jJ}(h:aP B w r t)(hx:fm 105 aZ w.heap.size w A' c' (t.ai.hs++[x])):aP B w ⟨r.aD,⟨A',c',r.ai.pA,r.ai.pc⟩,r.aa⟩ ⟨t.aD,⟨t.ai.m,t.ai.hs++[x],t.ai.ps⟩,t.aa⟩:=⟨h.1,⟨.inr hx,h.2.1.2⟩,h.2.2⟩
theorem aP.Ga{x:Me.Pr}(h:aP B w r t)(hx:fm 109 dj w.heap.size w A' c' (t.ai.ps++[x])):aP B w ⟨r.aD,⟨r.ai.hA,r.ai.hc,A',c'⟩,r.aa⟩ ⟨t.aD,⟨t.ai.m,t.ai.hs,t.ai.ps++[x]⟩,t.aa⟩:=⟨h.1,⟨h.2.1.1,.inr hx⟩,h.2.2⟩
theorem aP.Gb{x:Sa.Part}(h:aP B w r t)(hx:fm 116 iX w.heap.size w A' c' (t.aa.parts++[x])):aP B w ⟨r.aD,r.ai,⟨r.aa.kA,r.aa.kc,A',c',r.aa.bA,r.aa.bc⟩⟩ ⟨t.aD,t.ai,⟨t.aa.kinds,t.aa.floor,t.aa.parts++[x],t.aa.bars⟩⟩:=⟨h.1,h.2.1,⟨h.2.2.1,.inr hx,h.2.2.2.2⟩⟩
theorem aP.Gd{x:Int}(h:aP B w r t)(hx:fm 3 aH w.heap.size w A' c' (t.aa.bars++[x])):aP B w ⟨r.aD,r.ai,⟨r.aa.kA,r.aa.kc,r.aa.pA,r.aa.pc,A',c'⟩⟩ ⟨t.aD,t.ai,⟨t.aa.kinds,t.aa.floor,t.aa.parts,t.aa.bars++[x]⟩⟩:=⟨h.1,h.2.1,⟨h.2.2.1,h.2.2.2.1,.inr hx⟩⟩
end
theorem Rk(r:aR)(t:aV)(rW:Small t)(a:List Int)(hl:a.length=2)(A:Option Addr)(cap:Nat)(B:Nat)(w:nJ)(hT:aP B w r t)[hB:Le B w](hS:Sl aH w.heap.size w A cap a):Calls nH 157 #[aX r t,.slice A a.length cap] w (kr B t ⟨.aN,a⟩ w):=by
 have lI:=qh rW;have H:=qh hT;obtain⟨bb,oo,rfl,gH,_⟩:=hS.int (k:=0) nQ;refine QAS ?_;intro HS hl0 hk0 hm0 hl1 xV qM;have HE:Hid (jF t ⟨.aN,a⟩=some ⟨⟨⟨nth a 0,nth a 1⟩,t.aD.cur,t.aD.au,t.aD.ay,t.aD.aQ⟩,t.ai,t.aa⟩):=rfl;have lw:Le w.heap.size w:=⟨nR _⟩;clear hT rW hl hS;go_enter Tryz.func157,Tryz.ntmps157;go_upto_region 1 with fail;refine QAH ?_;intro W1 aE cz de cN cY dc dX A1 R1 M1 ib nb1 nb2 d0 x0 hx0;rw[hx0] at d0;refine QBO ?_;intro d1 x1 hx1;rw[hx1] at d1;rw[hx0,hx1] at HE;clear hx0 hx1 gH aE;have v0:=A1.out.ax.1;have cf0:=A1.out.free 0;have v1:=A1.out.ax.2.1;have cf1:=A1.out.free 1;go_upto_region 1 with fail;go_region;go_upto_region 2 with fail;refine QBM ?_;intro W3 bN q8 vD;have C8:Le B W3:=fR bN;have A3:Hid (av W3 w.heap.size 39 (aF r (⟨⟨⟨x0,x1⟩,t.aD.cur,t.aD.au,t.aD.ay,t.aD.aQ⟩,t.ai,t.aa⟩))):=by rw[bN.out];exact qh ((A1.out.drew.set 0 _).set 1 _)
 refine QEW ?_;intro R3;have M3:Hid (aP B W3 r (⟨⟨⟨x0,x1⟩,t.aD.cur,t.aD.au,t.aD.ay,t.aD.aQ⟩,t.ai,t.aa⟩)):=by rw[bN.out];exact qh (show aP B _ r t from(M1.out.drew.dP A1.out.drew nU hB.out cz.out _).dP (A1.out.drew.set 0 _) nU hB.out (by simpa using cz.out) _)
 clear bN;go_wp2_with (first|(refine aj ak rfl _ rfl rfl A3.out rfl ?_)|(refine ah ak rfl _ _ rfl rfl rfl R3.out rfl rfl (aJ _ _) ?_;intro W9 C9 k9));refine QAR ?_;intro p1 p2;refine dQ ak Tryz.results157 rfl C9 rfl ?_;exact p7 HE.out (M3.out.aO k9 R3.out nU (Nat.le_succ_of_le hB.out) C8.out)
theorem Ho(r:aR)(t:aV)(rW:Small t)(a:List Int)(hl:a.length=2)(A:Option Addr)(cap:Nat)(B:Nat)(w:nJ)(hT:aP B w r t)[hB:Le B w](hS:Sl aH w.heap.size w A cap a):Calls nH 158 #[aX r t,.slice A a.length cap] w (kr B t ⟨.current,a⟩ w):=by
 have lI:=qh rW;have H:=qh hT;obtain⟨bb,oo,rfl,gH,_⟩:=hS.int (k:=0) nQ;refine QAS ?_;intro HS hl0 hk0 hm0 hl1 xV qM;have HE:Hid (jF t ⟨.current,a⟩=some ⟨⟨t.aD.aN,⟨nth a 0,nth a 1⟩,t.aD.au,t.aD.ay,t.aD.aQ⟩,t.ai,t.aa⟩):=rfl;have lw:Le w.heap.size w:=⟨nR _⟩;clear hT rW hl hS;go_enter Tryz.func158,Tryz.ntmps158;go_upto_region 1 with fail;refine QAH ?_;intro W1 aE cz de cN cY dc dX A1 R1 M1 ib nb1 nb2 d0 x0 hx0;rw[hx0] at d0;refine QBO ?_;intro d1 x1 hx1;rw[hx1] at d1;rw[hx0,hx1] at HE;clear hx0 hx1 gH aE;have v2:=A1.out.ax.2.2.1;have cf2:=A1.out.free 2;have v3:=A1.out.ax.2.2.2.1;have cf3:=A1.out.free 3;go_upto_region 1 with fail;go_region;go_upto_region 2 with fail;refine QBM ?_;intro W3 bN q8 vD;have C8:Le B W3:=fR bN;have A3:Hid (av W3 w.heap.size 39 (aF r (⟨⟨t.aD.aN,⟨x0,x1⟩,t.aD.au,t.aD.ay,t.aD.aQ⟩,t.ai,t.aa⟩))):=by rw[bN.out];exact qh ((A1.out.drew.set 2 _).set 3 _)
 refine QEW ?_;intro R3;have M3:Hid (aP B W3 r (⟨⟨t.aD.aN,⟨x0,x1⟩,t.aD.au,t.aD.ay,t.aD.aQ⟩,t.ai,t.aa⟩)):=by rw[bN.out];exact qh (show aP B _ r t from(M1.out.drew.dP A1.out.drew nU hB.out cz.out _).dP (A1.out.drew.set 2 _) nU hB.out (by simpa using cz.out) _)
 clear bN;go_wp2_with (first|(refine aj ak rfl _ rfl rfl A3.out rfl ?_)|(refine ah ak rfl _ _ rfl rfl rfl R3.out rfl rfl (aJ _ _) ?_;intro W9 C9 k9));refine QAR ?_;intro p1 p2;refine dQ ak Tryz.results158 rfl C9 rfl ?_;exact p7 HE.out (M3.out.aO k9 R3.out nU (Nat.le_succ_of_le hB.out) C8.out)
theorem Hl(r:aR)(t:aV)(rW:Small t)(a:List Int)(hl:a.length=1)(A:Option Addr)(cap:Nat)(B:Nat)(w:nJ)(hT:aP B w r t)[hB:Le B w](hS:Sl aH w.heap.size w A cap a):Calls nH 164 #[aX r t,.slice A a.length cap] w (kr B t ⟨.dU,a⟩ w):=by
 have lI:=qh rW;have H:=qh hT;obtain⟨bb,oo,rfl,gH,_⟩:=hS.int (k:=0) nQ;refine QED ?_;intro HS hl0 hk0 hm0;have HE:Hid (jF t ⟨.dU,a⟩=some ⟨t.aD,⟨nth a 0,t.ai.hs,t.ai.ps⟩,t.aa⟩):=rfl;have lw:Le w.heap.size w:=⟨nR _⟩;clear hT rW hl hS;go_enter Tryz.func164,Tryz.ntmps164;go_upto_region 1 with fail;refine QAH ?_;intro W1 aE cz de cN cY dc dX A1 R1 M1 ib nb1 nb2 d0 x0 hx0;rw[hx0] at d0;rw[hx0] at HE;clear hx0 gH aE;have v7:=A1.out.ax.2.2.2.2.2.2.2.1;have cf7:=A1.out.free 7;go_upto_region 2 with fail;refine QBM ?_;intro W3 bN q8 vD;have C8:Le B W3:=fR bN;have A3:Hid (av W3 w.heap.size 39 (aF r (⟨t.aD,⟨x0,t.ai.hs,t.ai.ps⟩,t.aa⟩))):=by rw[bN.out];exact qh (A1.out.set 7 _)
 have R3:Hid (av W3 (w.heap.size+1) 39 (aF cV cL)):=by rw[bN.out];exact qh (R1.out.eZ (by show w.heap.size+1≠w.heap.size;omega) _)
 have M3:Hid (aP B W3 r (⟨t.aD,⟨x0,t.ai.hs,t.ai.ps⟩,t.aa⟩)):=by rw[bN.out];exact qh (show aP B _ r t from M1.out.dP A1.out nU hB.out cz.out _)
 clear bN;go_wp2_with (first|(refine aj ak rfl _ rfl rfl A3.out rfl ?_)|(refine ah ak rfl _ _ rfl rfl rfl R3.out rfl rfl (aJ _ _) ?_;intro W9 C9 k9));refine QAR ?_;intro p1 p2;refine dQ ak Tryz.results164 rfl C9 rfl ?_;exact p7 HE.out (M3.out.aO k9 R3.out nU (Nat.le_succ_of_le hB.out) C8.out)
theorem Rn(r:aR)(t:aV)(rW:Small t)(a:List Int)(hl:a.length=2)(A:Option Addr)(cap:Nat)(B:Nat)(w:nJ)(hT:aP B w r t)[hB:Le B w](hS:Sl aH w.heap.size w A cap a):Calls nH 162 #[aX r t,.slice A a.length cap] w (kr B t ⟨.lM,a⟩ w):=by
 have lI:=qh rW;have H:=qh hT;obtain⟨bb,oo,rfl,gH,_⟩:=hS.int (k:=0) nQ;refine QAS ?_;intro HS hl0 hk0 hm0 hl1 xV qM;have HE:Hid (jF t ⟨.lM,a⟩=some ⟨t.aD,⟨t.ai.m,t.ai.hs,t.ai.ps++[⟨nth a 0,nth a 1⟩]⟩,t.aa⟩):=rfl;have lw:Le w.heap.size w:=⟨nR _⟩;clear hT rW hl hS;go_enter Tryz.func162,Tryz.ntmps162;go_upto_region 1 with fail;refine QAH ?_;intro W1 aE cz de cN cY dc dX A1 R1 M1 ib nb1 nb2 d0 x0 hx0;rw[hx0] at d0;refine QBO ?_;intro d1 x1 hx1;rw[hx1] at d1;rw[hx0,hx1] at HE;refine QBP ?_;intro EL EZ;clear hx0 hx1 gH aE;have v9:=A1.out.ax.2.2.2.2.2.2.2.2.2.1;have Zm:=A1.out.free 9;refine QFG ?_;intro E0 G0;refine eI (S:=fun W=>av W w.heap.size 39 (aF r t)/\aC w.heap.size w W) (N:=[13]) nP ?_;change wpAnyS _ _ _ _ _ _ _ _ _ (World.drew _);refine wpS_pq 0 (.pointer (some ⟨w.heap.size,7,none⟩)) (fun _=>⟨E0.out,G0⟩) ?_;refine QAI ?_;refine wpS_pq 1 (.pointer (some ⟨w.heap.size,9,none⟩)) (fun _=>⟨E0.out,G0⟩) ?_;refine QAI ?_;refine gI 2 (.slice r.ai.pA t.ai.ps.length r.ai.pc) rfl nP (Or.inl ⟨nY,by intro w5 h5;have e:=av.cell h5.1 (i:=9) (v:=.slice r.ai.pA t.ai.ps.length r.ai.pc) rfl;go_simp⟩) (⟨E0.out,G0⟩) ?_;refine QAI ?_;refine wpS_pq 3 (.slice (some ⟨bb,oo,none⟩) a.length cap) (fun _=>⟨E0.out,G0⟩) ?_;refine QAI ?_;refine wpS_pq 4 (.pointer (some ⟨bb,oo,none⟩)) (fun _=>⟨E0.out,G0⟩) ?_;refine QAI ?_;refine QBG ?_;refine QAI ?_;refine wpS_pq 6 (.slice (some ⟨bb,oo,none⟩) a.length cap) (fun _=>⟨E0.out,G0⟩) ?_;refine QAI ?_;refine wpS_pq 7 (.pointer (some ⟨bb,oo+1,none⟩)) (fun _=>⟨E0.out,G0⟩) ?_;refine QAI ?_;refine QBT ?_;refine QAI ?_;refine wpS_pq 9 (.agg #[.int .i64 x0,.int .i64 x1]) (fun _=>⟨E0.out,G0⟩) ?_;refine QAI ?_;refine aU (rs:=[10]) nP nV ?_;intro i hi;obtain rfl:=List.mem_singleton.1 hi;refine QAE ?_;refine(Ks t.ai.ps ⟨x0,x1⟩ r.ai.pA r.ai.pc lI.out.2.1.2 W1.heap.size _ (M1.out.is.2.1.2.up)).mono ?_;rintro e w1 ⟨A2,c2,δ2,rfl,rfl,hs⟩;have HX:=qh hs;clear hs;refine⟨fun _=>⟨E0.out.af _,inferInstance⟩,?_⟩;refine QAI ?_;have E1:=E0.out.af δ2;have el:=E1.lt;have ef:=E1.free 9;have ec:=E1.cell (i:=9) (v:=.slice r.ai.pA t.ai.ps.length r.ai.pc) rfl;refine wpS_pq 11 (.pointer (some ⟨w.heap.size,7,none⟩)) (fun _=>⟨E0.out.af _,inferInstance⟩) ?_;refine QAI ?_;refine wpS_pq 12 (.pointer (some ⟨w.heap.size,9,none⟩)) (fun _=>⟨E0.out.af _,inferInstance⟩) ?_;refine QAI ?_;refine aU (rs:=[13]) nP nV ?_;intro i hi;obtain rfl:=List.mem_singleton.1 hi;refine QAE ?_;refine⟨fun h=>absurd h nU,?_⟩;refine QAI ?_;refine eJ nP ?_ _;go_upto_region 2 with fail;refine QBM ?_;intro W3 bN q8 vD;have C8:Le B W3:=fR bN;have A3:Hid (av W3 w.heap.size 39 (aF ⟨r.aD,⟨r.ai.hA,r.ai.hc,A2,c2⟩,r.aa⟩ (⟨t.aD,⟨t.ai.m,t.ai.hs,t.ai.ps++[⟨x0,x1⟩]⟩,t.aa⟩))):=by rw[bN.out];rw[Cw];exact qh ((A1.out.drew.af _).set 9 _)
 refine QBU ?_;intro R3;have M3:Hid (aP B W3 ⟨r.aD,⟨r.ai.hA,r.ai.hc,A2,c2⟩,r.aa⟩ (⟨t.aD,⟨t.ai.m,t.ai.hs,t.ai.ps++[⟨x0,x1⟩]⟩,t.aa⟩)):=by rw[bN.out];exact qh ((((M1.out.drew.up (W:=(af W1.drew δ2))).Ga HX.out)).dP (A1.out.drew.af _) nU hB.out (nT cz.out (inferInstance:Le W1.heap.size (af W1.drew δ2)).out) _)
 clear bN;go_wp2_with (first|(refine aj ak rfl _ rfl rfl A3.out rfl ?_)|(refine ah ak rfl _ _ rfl rfl rfl R3.out rfl rfl (aJ _ _) ?_;intro W9 C9 k9));refine QAR ?_;intro p1 p2;refine dQ ak Tryz.results162 rfl C9 rfl ?_;exact p7 HE.out (M3.out.aO k9 R3.out nU (Nat.le_succ_of_le hB.out) C8.out)
theorem Rm(r:aR)(t:aV)(rW:Small t)(a:List Int)(hl:a.length=4)(A:Option Addr)(cap:Nat)(B:Nat)(w:nJ)(hT:aP B w r t)[hB:Le B w](hS:Sl aH w.heap.size w A cap a):Calls nH 160 #[aX r t,.slice A a.length cap] w (kr B t ⟨.ai,a⟩ w):=by
 have lI:=qh rW;have H:=qh hT;obtain⟨bb,oo,rfl,gH,_⟩:=hS.int (k:=0) nQ;refine QAS ?_;intro HS hl0 hk0 hm0 hl1 xV qM;have GN:(2:Int)<(a.length:Int):=nQ;have hk2:Hid (2<a.length):=qh nQ;have hm2:2<a.length:=nQ;have V0:(3:Int)<(a.length:Int):=nQ;have qu:Hid (3<a.length):=qh nQ;have VS:3<a.length:=nQ;have HE:Hid (jF t ⟨.ai,a⟩=some ⟨t.aD,⟨t.ai.m,t.ai.hs++[⟨nth a 0,nth a 1,nth a 2,nth a 3⟩],t.ai.ps⟩,t.aa⟩):=rfl;have lw:Le w.heap.size w:=⟨nR _⟩;clear hT rW hl hS;go_enter Tryz.func160,Tryz.ntmps160;go_upto_region 1 with fail;refine QAH ?_;intro W1 aE cz de cN cY dc dX A1 R1 M1 ib nb1 nb2 d0 x0 hx0;rw[hx0] at d0;refine QBO ?_;intro d1 x1 hx1;rw[hx1] at d1;have d2:W1.cell? ⟨bb,oo+2,none⟩=some (.int .i64 (nth a 2)):=(HS.out.up (w':=W1)).jS (k:=2) hk2.out;obtain⟨x2,hx2⟩:∃x,nth a 2=x:=⟨_,rfl⟩;rw[hx2] at d2;have d3:W1.cell? ⟨bb,oo+3,none⟩=some (.int .i64 (nth a 3)):=(HS.out.up (w':=W1)).jS (k:=3) qu.out;obtain⟨x3,hx3⟩:∃x,nth a 3=x:=⟨_,rfl⟩;rw[hx3] at d3;rw[hx0,hx1,hx2,hx3] at HE;refine QBP ?_;intro EL EZ;have ZV:Hid (∀W:nJ,aC w.heap.size w W->W.cell? ⟨bb,oo+2,none⟩=some (.int .i64 x2)):=qh fun W i=>((HS.out.up (w':=W)).jS (k:=2) hk2.out).trans (by rw[hx2]);have ZU:Hid (∀W:nJ,aC w.heap.size w W->W.cell? ⟨bb,oo+3,none⟩=some (.int .i64 x3)):=qh fun W i=>((HS.out.up (w':=W)).jS (k:=3) qu.out).trans (by rw[hx3]);clear hx0 hx1 hx2 hx3 gH aE;have v8:=A1.out.ax.2.2.2.2.2.2.2.2.1;have Zn:=A1.out.free 8;refine QFG ?_;intro E0 G0;refine eI (S:=fun W=>av W w.heap.size 39 (aF r t)/\aC w.heap.size w W) (N:=[20]) nP ?_;change wpAnyS _ _ _ _ _ _ _ _ _ (World.drew _);refine wpS_pq 0 (.pointer (some ⟨w.heap.size,7,none⟩)) (fun _=>⟨E0.out,G0⟩) ?_;refine QAI ?_;refine wpS_pq 1 (.pointer (some ⟨w.heap.size,8,none⟩)) (fun _=>⟨E0.out,G0⟩) ?_;refine QAI ?_;refine gI 2 (.slice r.ai.hA t.ai.hs.length r.ai.hc) rfl nP (Or.inl ⟨nY,by intro w5 h5;have e:=av.cell h5.1 (i:=8) (v:=.slice r.ai.hA t.ai.hs.length r.ai.hc) rfl;go_simp⟩) (⟨E0.out,G0⟩) ?_;refine QAI ?_;refine wpS_pq 3 (.slice (some ⟨bb,oo,none⟩) a.length cap) (fun _=>⟨E0.out,G0⟩) ?_;refine QAI ?_;refine wpS_pq 4 (.pointer (some ⟨bb,oo,none⟩)) (fun _=>⟨E0.out,G0⟩) ?_;refine QAI ?_;refine QBG ?_;refine QAI ?_;refine wpS_pq 6 (.slice (some ⟨bb,oo,none⟩) a.length cap) (fun _=>⟨E0.out,G0⟩) ?_;refine QAI ?_;refine wpS_pq 7 (.pointer (some ⟨bb,oo+1,none⟩)) (fun _=>⟨E0.out,G0⟩) ?_;refine QAI ?_;refine QBT ?_;refine QAI ?_;refine wpS_pq 9 (.slice (some ⟨bb,oo,none⟩) a.length cap) (fun _=>⟨E0.out,G0⟩) ?_;refine QAI ?_;refine wpS_pq 10 (.pointer (some ⟨bb,oo+2,none⟩)) (fun _=>⟨E0.out,G0⟩) ?_;refine QAI ?_;refine gI 11 (.int .i64 x2) rfl nP (Or.inl ⟨nY,by intro w5 h5;have e:=ZV.out w5 h5.2;go_simp⟩) (⟨E0.out,G0⟩) ?_;refine QAI ?_;refine wpS_pq 12 (.agg #[.int .i64 x1,.int .i64 x2]) (fun _=>⟨E0.out,G0⟩) ?_;refine QAI ?_;refine wpS_pq 13 (.slice (some ⟨bb,oo,none⟩) a.length cap) (fun _=>⟨E0.out,G0⟩) ?_;refine QAI ?_;refine wpS_pq 14 (.pointer (some ⟨bb,oo+3,none⟩)) (fun _=>⟨E0.out,G0⟩) ?_;refine QAI ?_;refine gI 15 (.int .i64 x3) rfl nP (Or.inl ⟨nY,by intro w5 h5;have e:=ZU.out w5 h5.2;go_simp⟩) (⟨E0.out,G0⟩) ?_;refine QAI ?_;refine wpS_pq 16 (.agg #[.int .i64 x0,.int .i64 x1,.int .i64 x2,.int .i64 x3]) (fun _=>⟨E0.out,G0⟩) ?_;refine QAI ?_;refine aU (rs:=[17]) nP nV ?_;intro i hi;obtain rfl:=List.mem_singleton.1 hi;refine QAE ?_;refine(Kt t.ai.hs ⟨x0,x1,x2,x3⟩ r.ai.hA r.ai.hc lI.out.2.1.1 W1.heap.size _ (M1.out.is.2.1.1.up)).mono ?_;rintro e w1 ⟨A2,c2,δ2,rfl,rfl,hs⟩;have HX:=qh hs;clear hs;refine⟨fun _=>⟨E0.out.af _,inferInstance⟩,?_⟩;refine QAI ?_;have E1:=E0.out.af δ2;have el:=E1.lt;have ef:=E1.free 8;have ec:=E1.cell (i:=8) (v:=.slice r.ai.hA t.ai.hs.length r.ai.hc) rfl;refine wpS_pq 18 (.pointer (some ⟨w.heap.size,7,none⟩)) (fun _=>⟨E0.out.af _,inferInstance⟩) ?_;refine QAI ?_;refine wpS_pq 19 (.pointer (some ⟨w.heap.size,8,none⟩)) (fun _=>⟨E0.out.af _,inferInstance⟩) ?_;refine QAI ?_;refine aU (rs:=[20]) nP nV ?_;intro i hi;obtain rfl:=List.mem_singleton.1 hi;refine QAE ?_;refine⟨fun h=>absurd h nU,?_⟩;refine QAI ?_;refine eJ nP ?_ _;go_upto_region 2 with fail;refine QBM ?_;intro W3 bN q8 vD;have C8:Le B W3:=fR bN;have A3:Hid (av W3 w.heap.size 39 (aF ⟨r.aD,⟨A2,c2,r.ai.pA,r.ai.pc⟩,r.aa⟩ (⟨t.aD,⟨t.ai.m,t.ai.hs++[⟨x0,x1,x2,x3⟩],t.ai.ps⟩,t.aa⟩))):=by rw[bN.out];rw[Cy];exact qh ((A1.out.drew.af _).set 8 _)
 refine QBU ?_;intro R3;have M3:Hid (aP B W3 ⟨r.aD,⟨A2,c2,r.ai.pA,r.ai.pc⟩,r.aa⟩ (⟨t.aD,⟨t.ai.m,t.ai.hs++[⟨x0,x1,x2,x3⟩],t.ai.ps⟩,t.aa⟩)):=by rw[bN.out];exact qh ((((M1.out.drew.up (W:=(af W1.drew δ2))).Gc HX.out)).dP (A1.out.drew.af _) nU hB.out (nT cz.out (inferInstance:Le W1.heap.size (af W1.drew δ2)).out) _)
 clear bN;go_wp2_with (first|(refine aj ak rfl _ rfl rfl A3.out rfl ?_)|(refine ah ak rfl _ _ rfl rfl rfl R3.out rfl rfl (aJ _ _) ?_;intro W9 C9 k9));refine QAR ?_;intro p1 p2;refine dQ ak Tryz.results160 rfl C9 rfl ?_;exact p7 HE.out (M3.out.aO k9 R3.out nU (Nat.le_succ_of_le hB.out) C8.out)
theorem Ro(r:aR)(t:aV)(rW:Small t)(a:List Int)(hl:a.length=2)(A:Option Addr)(cap:Nat)(B:Nat)(w:nJ)(hT:aP B w r t)[hB:Le B w](hS:Sl aH w.heap.size w A cap a):Calls nH 166 #[aX r t,.slice A a.length cap] w (kr B t ⟨.part,a⟩ w):=by
 have lI:=qh rW;have H:=qh hT;obtain⟨bb,oo,rfl,gH,_⟩:=hS.int (k:=0) nQ;refine QAS ?_;intro HS hl0 hk0 hm0 hl1 xV qM;have HE:Hid (jF t ⟨.part,a⟩=some ⟨t.aD,t.ai,⟨t.aa.kinds,t.aa.floor,t.aa.parts++[⟨nth a 0,nth a 1⟩],t.aa.bars⟩⟩):=rfl;have lw:Le w.heap.size w:=⟨nR _⟩;clear hT rW hl hS;go_enter Tryz.func166,Tryz.ntmps166;go_upto_region 1 with fail;refine QAH ?_;intro W1 aE cz de cN cY dc dX A1 R1 M1 ib nb1 nb2 d0 x0 hx0;rw[hx0] at d0;refine QBO ?_;intro d1 x1 hx1;rw[hx1] at d1;rw[hx0,hx1] at HE;refine QBP ?_;intro EL EZ;clear hx0 hx1 gH aE;have v12:=A1.out.ax.2.2.2.2.2.2.2.2.2.2.2.2.1;have Zp:=A1.out.free 12;refine QFG ?_;intro E0 G0;refine eI (S:=fun W=>av W w.heap.size 39 (aF r t)/\aC w.heap.size w W) (N:=[13]) nP ?_;change wpAnyS _ _ _ _ _ _ _ _ _ (World.drew _);refine wpS_pq 0 (.pointer (some ⟨w.heap.size,10,none⟩)) (fun _=>⟨E0.out,G0⟩) ?_;refine QAI ?_;refine wpS_pq 1 (.pointer (some ⟨w.heap.size,12,none⟩)) (fun _=>⟨E0.out,G0⟩) ?_;refine QAI ?_;refine gI 2 (.slice r.aa.pA t.aa.parts.length r.aa.pc) rfl nP (Or.inl ⟨nY,by intro w5 h5;have e:=av.cell h5.1 (i:=12) (v:=.slice r.aa.pA t.aa.parts.length r.aa.pc) rfl;go_simp⟩) (⟨E0.out,G0⟩) ?_;refine QAI ?_;refine wpS_pq 3 (.slice (some ⟨bb,oo,none⟩) a.length cap) (fun _=>⟨E0.out,G0⟩) ?_;refine QAI ?_;refine wpS_pq 4 (.pointer (some ⟨bb,oo,none⟩)) (fun _=>⟨E0.out,G0⟩) ?_;refine QAI ?_;refine QBG ?_;refine QAI ?_;refine wpS_pq 6 (.slice (some ⟨bb,oo,none⟩) a.length cap) (fun _=>⟨E0.out,G0⟩) ?_;refine QAI ?_;refine wpS_pq 7 (.pointer (some ⟨bb,oo+1,none⟩)) (fun _=>⟨E0.out,G0⟩) ?_;refine QAI ?_;refine QBT ?_;refine QAI ?_;refine wpS_pq 9 (.agg #[.int .i64 x0,.int .i64 x1]) (fun _=>⟨E0.out,G0⟩) ?_;refine QAI ?_;refine aU (rs:=[10]) nP nV ?_;intro i hi;obtain rfl:=List.mem_singleton.1 hi;refine QAE ?_;refine(Kr t.aa.parts ⟨x0,x1⟩ r.aa.pA r.aa.pc lI.out.2.2.2.1 W1.heap.size _ (M1.out.is.2.2.2.1.up)).mono ?_;rintro e w1 ⟨A2,c2,δ2,rfl,rfl,hs⟩;have HX:=qh hs;clear hs;refine⟨fun _=>⟨E0.out.af _,inferInstance⟩,?_⟩;refine QAI ?_;have E1:=E0.out.af δ2;have el:=E1.lt;have ef:=E1.free 12;have ec:=E1.cell (i:=12) (v:=.slice r.aa.pA t.aa.parts.length r.aa.pc) rfl;refine wpS_pq 11 (.pointer (some ⟨w.heap.size,10,none⟩)) (fun _=>⟨E0.out.af _,inferInstance⟩) ?_;refine QAI ?_;refine wpS_pq 12 (.pointer (some ⟨w.heap.size,12,none⟩)) (fun _=>⟨E0.out.af _,inferInstance⟩) ?_;refine QAI ?_;refine aU (rs:=[13]) nP nV ?_;intro i hi;obtain rfl:=List.mem_singleton.1 hi;refine QAE ?_;refine⟨fun h=>absurd h nU,?_⟩;refine QAI ?_;refine eJ nP ?_ _;go_upto_region 2 with fail;refine QBM ?_;intro W3 bN q8 vD;have C8:Le B W3:=fR bN;have A3:Hid (av W3 w.heap.size 39 (aF ⟨r.aD,r.ai,⟨r.aa.kA,r.aa.kc,A2,c2,r.aa.bA,r.aa.bc⟩⟩ (⟨t.aD,t.ai,⟨t.aa.kinds,t.aa.floor,t.aa.parts++[⟨x0,x1⟩],t.aa.bars⟩⟩))):=by rw[bN.out];rw[Cx];exact qh ((A1.out.drew.af _).set 12 _)
 refine QBU ?_;intro R3;have M3:Hid (aP B W3 ⟨r.aD,r.ai,⟨r.aa.kA,r.aa.kc,A2,c2,r.aa.bA,r.aa.bc⟩⟩ (⟨t.aD,t.ai,⟨t.aa.kinds,t.aa.floor,t.aa.parts++[⟨x0,x1⟩],t.aa.bars⟩⟩)):=by rw[bN.out];exact qh ((((M1.out.drew.up (W:=(af W1.drew δ2))).Gb HX.out)).dP (A1.out.drew.af _) nU hB.out (nT cz.out (inferInstance:Le W1.heap.size (af W1.drew δ2)).out) _)
 clear bN;go_wp2_with (first|(refine aj ak rfl _ rfl rfl A3.out rfl ?_)|(refine ah ak rfl _ _ rfl rfl rfl R3.out rfl rfl (aJ _ _) ?_;intro W9 C9 k9));refine QAR ?_;intro p1 p2;refine dQ ak Tryz.results166 rfl C9 rfl ?_;exact p7 HE.out (M3.out.aO k9 R3.out nU (Nat.le_succ_of_le hB.out) C8.out)
theorem Lj(r:aR)(t:aV)(rW:Small t)(a:List Int)(hl:a.length=1)(A:Option Addr)(cap:Nat)(B:Nat)(w:nJ)(hT:aP B w r t)[hB:Le B w](hS:Sl aH w.heap.size w A cap a):Calls nH 168 #[aX r t,.slice A a.length cap] w (kr B t ⟨.fo,a⟩ w):=by
 have lI:=qh rW;have H:=qh hT;obtain⟨bb,oo,rfl,gH,_⟩:=hS.int (k:=0) nQ;refine QED ?_;intro HS hl0 hk0 hm0;have HE:Hid (jF t ⟨.fo,a⟩=some ⟨t.aD,t.ai,⟨t.aa.kinds,t.aa.floor,t.aa.parts,t.aa.bars++[nth a 0]⟩⟩):=rfl;have lw:Le w.heap.size w:=⟨nR _⟩;clear hT rW hl hS;go_enter Tryz.func168,Tryz.ntmps168;go_upto_region 1 with fail;refine QAH ?_;intro W1 aE cz de cN cY dc dX A1 R1 M1 ib nb1 nb2 d0 x0 hx0;rw[hx0] at d0;rw[hx0] at HE;have EL:Hid (∀W:nJ,aC w.heap.size w W->W.cell? ⟨bb,oo,none⟩=some (.int .i64 x0)):=qh fun W i=>((HS.out.up (w':=W)).jS (k:=0) hk0.out).trans (by rw[hx0]);clear hx0 gH aE;have v13:=A1.out.ax.2.2.2.2.2.2.2.2.2.2.2.2.2;have Zo:=A1.out.free 13;refine QFG ?_;intro E0 G0;refine eI (S:=fun W=>av W w.heap.size 39 (aF r t)/\aC w.heap.size w W) (N:=[9]) nP ?_;change wpAnyS _ _ _ _ _ _ _ _ _ (World.drew _);refine wpS_pq 0 (.pointer (some ⟨w.heap.size,10,none⟩)) (fun _=>⟨E0.out,G0⟩) ?_;refine QAI ?_;refine wpS_pq 1 (.pointer (some ⟨w.heap.size,13,none⟩)) (fun _=>⟨E0.out,G0⟩) ?_;refine QAI ?_;refine gI 2 (.slice r.aa.bA t.aa.bars.length r.aa.bc) rfl nP (Or.inl ⟨nY,by intro w5 h5;have e:=av.cell h5.1 (i:=13) (v:=.slice r.aa.bA t.aa.bars.length r.aa.bc) rfl;go_simp⟩) (⟨E0.out,G0⟩) ?_;refine QAI ?_;refine wpS_pq 3 (.slice (some ⟨bb,oo,none⟩) a.length cap) (fun _=>⟨E0.out,G0⟩) ?_;refine QAI ?_;refine wpS_pq 4 (.pointer (some ⟨bb,oo,none⟩)) (fun _=>⟨E0.out,G0⟩) ?_;refine QAI ?_;refine QBG ?_;refine QAI ?_;refine aU (rs:=[6]) nP nV ?_;intro i hi;obtain rfl:=List.mem_singleton.1 hi;refine QAE ?_;refine(Nb t.aa.bars x0 r.aa.bA r.aa.bc lI.out.2.2.2.2 W1.heap.size _ (M1.out.is.2.2.2.2.up)).mono ?_;rintro e w1 ⟨A2,c2,δ2,rfl,rfl,hs⟩;have HX:=qh hs;clear hs;refine⟨fun _=>⟨E0.out.af _,inferInstance⟩,?_⟩;refine QAI ?_;have E1:=E0.out.af δ2;have el:=E1.lt;have ef:=E1.free 13;have ec:=E1.cell (i:=13) (v:=.slice r.aa.bA t.aa.bars.length r.aa.bc) rfl;refine wpS_pq 7 (.pointer (some ⟨w.heap.size,10,none⟩)) (fun _=>⟨E0.out.af _,inferInstance⟩) ?_;refine QAI ?_;refine wpS_pq 8 (.pointer (some ⟨w.heap.size,13,none⟩)) (fun _=>⟨E0.out.af _,inferInstance⟩) ?_;refine QAI ?_;refine aU (rs:=[9]) nP nV ?_;intro i hi;obtain rfl:=List.mem_singleton.1 hi;refine QAE ?_;refine⟨fun h=>absurd h nU,?_⟩;refine QAI ?_;refine eJ nP ?_ _;go_upto_region 2 with fail;refine QBM ?_;intro W3 bN q8 vD;have C8:Le B W3:=fR bN;have A3:Hid (av W3 w.heap.size 39 (aF ⟨r.aD,r.ai,⟨r.aa.kA,r.aa.kc,r.aa.pA,r.aa.pc,A2,c2⟩⟩ (⟨t.aD,t.ai,⟨t.aa.kinds,t.aa.floor,t.aa.parts,t.aa.bars++[x0]⟩⟩))):=by rw[bN.out];rw[Cz];exact qh ((A1.out.drew.af _).set 13 _)
 refine QBU ?_;intro R3;have M3:Hid (aP B W3 ⟨r.aD,r.ai,⟨r.aa.kA,r.aa.kc,r.aa.pA,r.aa.pc,A2,c2⟩⟩ (⟨t.aD,t.ai,⟨t.aa.kinds,t.aa.floor,t.aa.parts,t.aa.bars++[x0]⟩⟩)):=by rw[bN.out];exact qh ((((M1.out.drew.up (W:=(af W1.drew δ2))).Gd HX.out)).dP (A1.out.drew.af _) nU hB.out (nT cz.out (inferInstance:Le W1.heap.size (af W1.drew δ2)).out) _)
 clear bN;go_wp2_with (first|(refine aj ak rfl _ rfl rfl A3.out rfl ?_)|(refine ah ak rfl _ _ rfl rfl rfl R3.out rfl rfl (aJ _ _) ?_;intro W9 C9 k9));refine QAR ?_;intro p1 p2;refine dQ ak Tryz.results168 rfl C9 rfl ?_;exact p7 HE.out (M3.out.aO k9 R3.out nU (Nat.le_succ_of_le hB.out) C8.out)
end
section
open Hd
theorem aP.Fz{B g c:Nat}{w W:nJ}{r:aR}{t:aV}{A':Option Addr}{l:List An.ze}{cs:Array nK}(h:aP B w r t)(k:bw (fun x=>x=g) w W)(hb:av w g 94 cs)(hB:B<=g)(hl:B<=w.heap.size)(hx:fm 94 cG W.heap.size W A' c l):aP B W ⟨⟨r.aD.gA,r.aD.gc,A',c,r.aD.wA,r.aD.wc⟩,r.ai,r.aa⟩ ⟨⟨t.aD.aN,t.aD.cur,t.aD.au,l,t.aD.aQ⟩,t.ai,t.aa⟩:=
 ⟨⟨h.1.1.aO k hb nU hB hl,.inr hx,h.1.2.2.aO k hb nU hB hl⟩,⟨h.2.1.1.aO k hb nU hB hl,h.2.1.2.aO k hb nU hB hl⟩,⟨h.2.2.1.aO k hb nU hB hl,h.2.2.2.1.aO k hb nU hB hl,h.2.2.2.2.aO k hb nU hB hl⟩⟩
theorem OA(r:aR)(t:aV)(rW:Small t)(a:List Int)(hl:a.length=2)(A:Option Addr)(cap:Nat)(B:Nat)(w:nJ)(hT:aP B w r t)[hB:Le B w](hS:Sl aH w.heap.size w A cap a):Calls nH 159 #[aX r t,.slice A a.length cap] w (kr B t ⟨.fU,a⟩ w):=by
 have lI:=qh rW;have H:=qh hT;obtain⟨bb,oo,rfl,gH,_⟩:=hS.int (k:=0) nQ;refine QAS ?_;intro HS hl0 hk0 hm0 hl1 xV qM;refine QDQ ?_;intro HE;have lw:Le w.heap.size w:=⟨nR _⟩;clear hT rW hl hS;go_enter Tryz.func159,Tryz.ntmps159;go_upto_region 1 with fail;refine QAH ?_;intro W1 aE cz de cN cY dc dX A1 R1 M1 ib nb1 nb2 d0 x0 hx0;rw[hx0] at d0;refine QBO ?_;intro d1 x1 hx1;rw[hx1] at d1;rw[hx0,hx1] at HE;have Ar:=qh gH;clear hx0 hx1 gH aE;have v5:=A1.out.ax.2.2.2.2.2.1;have cf5:=A1.out.free 5;by_cases hx:0<=x0/\x0<(t.aD.ay.length:Int)
 ·obtain⟨i,rfl⟩:∃i:Nat,x0=(i:Int):=⟨x0.toNat,nQ⟩;refine QEE ?_;intro hi HE;clear hx;have Yz:0<t.aD.ay.length:=nQ;have hki:(i:Int)<(t.aD.ay.length:Int):=nQ;have hk0:¬(i:Int)<0:=nQ;have xV:decide ((i:Int)<0)=false:=decide_eq_false hk0;have hk2:¬(t.aD.ay.length:Int)<=(i:Int):=nQ;have qu:decide ((t.aD.ay.length:Int)<=(i:Int))=false:=decide_eq_false hk2;go_upto_region 1 with fail;go_region;go_upto_region 4 with(go_at_call 77;refine(yB r.aD.aA r.aD.ac t.aD.ay _ rfl W1.heap.size _ M1.out.is.1.2.1.up lI.out.1.2.1).mono ?_;rintro e w1 ⟨A2,c2,δ2,rfl,rfl,ho⟩;have HO:=qh ho;clear ho);refine aK fun W3 bN=>?_;have a1:aC w.heap.size w W3:=iC bN;have a2:Le w.heap.size W3:=fR bN;have a3:Le B W3:=fR bN;have A3:Hid (av W3 w.heap.size 39 (aF ⟨⟨r.aD.gA,r.aD.gc,A2,c2,r.aD.wA,r.aD.wc⟩,r.ai,r.aa⟩ t)):=by rw[bN.out];exact qh ((A1.out.drew.af _).set 5 _)
  refine QBU ?_;intro R3;have M3:Hid (aP B W3 r t):=by rw[bN.out];exact qh ((M1.out.drew.up (W:=af W1.drew δ2)).dP (A1.out.drew.af _) nU hB.out (nT cz.out (inferInstance:Le W1.heap.size (af W1.drew δ2)).out) _)
  have O3:Hid (W3.ownsRow W1.heap.size 94 2 (.slice A2 t.aD.ay.length c2) t.aD.ay.length (t.aD.ay.flatMap cG)):=by rw[bN.out];exact qh (ownsRow_setCell_below HO.out (a:=⟨w.heap.size,5,none⟩) dc.out _)
  have e0:W3.cell? ⟨bb,oo,none⟩=some (.int .i64 (i:Int)):=by rw[bN.out];go_simp
  have e1':W3.cell? ⟨bb,oo+1,none⟩=some (.int .i64 x1):=by rw[bN.out];go_simp
  have ib3:Lt bb W3:=mb bN;clear bN HO M1 A1 R1 v5 cf5 d0 d1;obtain⟨ga,KQ,hb,hl,hc,hf⟩:=pQ O3.out Yz;have c0:=hc (i*2) (.int .i64 (nth t.aD.ay i).wt) (by have:=fL cG 2 (fun _=>rfl) t.aD.ay i 0 hi nQ;rw[Nat.add_zero] at this;rw[this];rfl);have f0':=hf (i*2);have v5':W3.cell? ⟨w.heap.size,5,none⟩=some (.slice (some ⟨ga,0,none⟩) t.aD.ay.length c2):=by rw[<-KQ];exact A3.out.ax.2.2.2.2.2.1
  have lA3:=A3.out.lt;have n5:pI ga bb:=⟨by have:=dc.out;have:=nb1.out;have:=Ar.out;omega⟩;have n6:pI bb ga:=⟨fun e=>n5.out e.symm⟩;have n7:pI ga w.heap.size:=⟨by have:=dc.out;omega⟩;have n8:pI w.heap.size ga:=⟨fun e=>n7.out e.symm⟩;have hgb:w.heap.size+1<ga:=nL dX.out hb;subst KQ;have o1:=nN (u:=.int .i64 x1) (i:=i*2) (show W3.drew.ownsRow _ _ _ _ _ _ from O3.out) (by rw[cg cG 2 (fun _=>rfl)];omega);have e1:=iI cG 2 (fun _=>rfl) t.aD.ay i 0 (.int .i64 x1) (⟨x1,(nth t.aD.ay i).bt⟩:An.ze) hi nQ rfl;rw[Nat.add_zero] at e1;rw[e1] at o1;have O5:=qh o1;obtain⟨cs,hcs⟩:=IU O3.out;have HCS:=qh hcs;clear o1 e1 hc hf hcs;go_region;go_upto_region 5 with fail;refine aK fun W4 gP=>?_;have i2:mw w.heap.size ga:=⟨nQ⟩;have i1:mw B ga:=⟨nT hB.out nQ⟩;have q8:aC w.heap.size w W4:=iC gP;have vD:Le w.heap.size W4:=fR gP;have C8:Le B W4:=fR gP;have A4:Hid (av W4 w.heap.size 39 (aF ⟨⟨r.aD.gA,r.aD.gc,some ⟨ga,0,none⟩,c2,r.aD.wA,r.aD.wc⟩,r.ai,r.aa⟩ ⟨⟨t.aD.aN,t.aD.cur,t.aD.au,t.aD.ay.set i ⟨x1,(nth t.aD.ay i).bt⟩,t.aD.aQ⟩,t.ai,t.aa⟩)):=by rw[gP.out,zD];exact qh (A3.out.drew.eZ n8.out _)
  have R4:Hid (av W4 (w.heap.size+1) 39 (aF cV cL)):=by rw[gP.out];exact qh (R3.out.drew.eZ (by show w.heap.size+1≠ga;omega) _)
  have M4:Hid (aP B W4 ⟨⟨r.aD.gA,r.aD.gc,some ⟨ga,0,none⟩,c2,r.aD.wA,r.aD.wc⟩,r.ai,r.aa⟩ ⟨⟨t.aD.aN,t.aD.cur,t.aD.au,t.aD.ay.set i ⟨x1,(nth t.aD.ay i).bt⟩,t.aD.aQ⟩,t.ai,t.aa⟩):=by rw[gP.out];exact qh (aP.Fz M3.out.drew ((bw.refl (fun x=>x=ga) W3.drew).set (b:=ga) rfl (i*2) (.int .i64 x1)) HCS.out i1.out a3.out (fm.bW (base:=W1.heap.size) (size:=2) O5.out (by rw[List.length_set])))
  clear gP A3 R3 M3 O3 O5;go_wp2_with (first|(refine aj ak rfl _ rfl rfl A4.out rfl ?_)|(refine ah ak rfl _ _ rfl rfl rfl R4.out rfl rfl (aJ _ _) ?_;intro W9 C9 k9));refine QAR ?_;intro p1 p2;refine dQ ak Tryz.results159 rfl C9 rfl ?_;exact p7 HE.out (M4.out.aO k9 R4.out nU (Nat.le_succ_of_le hB.out) C8.out)
 ·have HN:Hid (jF t ⟨.fU,a⟩=none):=qh (by rw[HE.out,if_neg hx]);by_cases h0:x0<0
  ·have h0d:decide (x0<0)=true:=decide_eq_true h0;clear hx;go_upto_region 1 with fail;go_region;go_wp2_with (first|(refine aj ak rfl _ rfl rfl A1.out.drew rfl ?_)|(refine ah ak rfl _ _ rfl rfl rfl R1.out.drew rfl rfl (aJ _ _) ?_;intro W9 C9 k9));refine QAR ?_;intro p1 p2;refine dQ ak Tryz.results159 rfl C9 rfl ?_;exact Oz HN.out (M1.out.drew.aO k9 R1.out.drew nU (Nat.le_succ_of_le hB.out) cz.out)
  ·have h0d:decide (x0<0)=false:=decide_eq_false h0;have h1:(t.aD.ay.length:Int)<=x0:=nQ;have h1d:decide ((t.aD.ay.length:Int)<=x0)=true:=decide_eq_true h1;clear hx;go_upto_region 1 with fail;go_region;go_wp2_with (first|(refine aj ak rfl _ rfl rfl A1.out.drew rfl ?_)|(refine ah ak rfl _ _ rfl rfl rfl R1.out.drew rfl rfl (aJ _ _) ?_;intro W9 C9 k9));refine QAR ?_;intro p1 p2;refine dQ ak Tryz.results159 rfl C9 rfl ?_;exact Oz HN.out (M1.out.drew.aO k9 R1.out.drew nU (Nat.le_succ_of_le hB.out) cz.out)
end
end Go.Proofs.YtcjjlikhlmfedaaGreatDoor
