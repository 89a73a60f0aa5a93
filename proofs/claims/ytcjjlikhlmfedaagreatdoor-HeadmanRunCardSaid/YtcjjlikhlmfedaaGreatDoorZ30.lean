/- A part of the proof that the statement HeadmanRunCardSaid holds, cut small by a program (names and blanks): Ho10, Ho11. -/
import Derived.Test.YtcjjlikhlmfedaaGreatDoorZ28
set_option maxRecDepth 100000
set_option maxHeartbeats 40000000
set_option linter.unusedVariables false
set_option linter.unusedSimpArgs false
namespace Go.Proofs.YtcjjlikhlmfedaaGreatDoor
open Go.RowKit
open Nat renaming le_trans → nT, lt_of_lt_of_le → nL, le_refl → nR, zero_le → nE, le_succ → nF
open Go.Proofs.Tryz renaming prog → nH
open Go renaming World → nJ, Value → nK
section
open Hd
def nq(t:aV)(ls:List bL):(List bL × List bL) × aV × Int:=
 if aG t=false then (([],[]),cL,120) else if 30<ls.length then (([],[]),cL,2) else
  (((pN (gQ t) ls).2,(pN (gQ t) ls).1.aB.map (·.line)),(pN (gQ t) ls).1.ax,0)
def gE(t:aV)(ls:List bL)(w:nJ)(e:Ending)(w':nJ):Prop:=
 ∃(aA:Option Addr) (ac:Nat) (r':aR) (lA:Option Addr) (lc:Nat) (δ:nJ),e=.returned (.tuple #[.slice aA (nq t ls).1.1.length ac,aX r' (nq t ls).2.1,.slice lA (nq t ls).1.2.length lc,.int .i64 (nq t ls).2.2])/\w'=af w δ /\
  Sl cm (af w δ).heap.size (af w δ) aA ac (nq t ls).1.1/\aI (af w δ).heap.size (af w δ) r' (nq t ls).2.1/\Sl cm (af w δ).heap.size (af w δ) lA lc (nq t ls).1.2
theorem yu(r:aR)(t:aV):Tryz.prog.built 53 [(0,aX r t)]=some (bX ⟨r,none,0⟩ (gQ t)):=by kernel_rfl
theorem aM.IT{base base' size n:Nat}{w w':nJ}{r:aR}{t:aV}{v:nK}{xs:List nK}(h:aM base w r t)(ho:w.ownsRow base' 9 size v n xs)(hg:w.grownBy w' v.ownBlock):aM base w' r t:=
 ⟨⟨bC h.1.1 ho nU hg,bC h.1.2.1 ho nU hg,bC h.1.2.2 ho nU hg⟩,⟨bC h.2.1.1 ho nU hg,bC h.2.1.2 ho nU hg⟩,⟨bC h.2.2.1 ho nU hg,bC h.2.2.2.1 ho nU hg,bC h.2.2.2.2 ho nU hg⟩⟩
theorem cC.IT{base' size n:Nat}{w W W':nJ}{r r':aR}{t t':aV}{v:nK}{xs:List nK}(h:cC r t w r' t' W)(ho:W.ownsRow base' 9 size v n xs)(hg:W.grownBy W' v.ownBlock):cC r t w r' t' W':=h.imp id fun o=>o.IT ho hg
theorem oR{P:Program}{W:nJ}{b:Nat}{T ty:TypeId}{cs:Array nK}{n:Nat}{fn:Func}{p s u v:Tmp}{R:Ending->nJ->Prop}{t:Array nK}(hT:fO P ty n)(hr:fn.results=#[.tmp s,.cell p ty,.tmp u,.tmp v])(hp:t.getD p undef=.pointer (some ⟨b,0,none⟩))(hb:av W b T cs)(hn:cs.size=n)(h:R (.returned (.tuple #[t.getD s undef,.agg cs,t.getD u undef,t.getD v undef])) W):bodyPost P fn R .ret { tmps:=t,defers:=[] } W:=by
 obtain⟨⟨d,h1,h2⟩,h3⟩:=hT;subst hn;refine bodyPost_ret (v:=.tuple #[t.getD s undef,.agg cs,t.getD u undef,t.getD v undef]) ?_ rfl h;have hl:=run_loadVar_row (P:=P) W b T ty cs (0,0) d hb h1 (by cases d<;>first|rfl|cases h2) h3;have hp':t[p]?.getD undef=.pointer (some ⟨b,0,none⟩):=by rw[<-hp];simp
 simp only[results,hr];simp[Sem.run_bind,Result.andThen,hp',asAddr,Sem.run_pure,hl]
theorem PN{B:Nat}{w:nJ}:aI B w cV cL:=⟨⟨Sl.none_,Sl.none_,Sl.none_⟩,⟨Sl.none_,Sl.none_⟩,⟨Sl.none_,Sl.none_,Sl.none_⟩⟩
theorem wv{t:aV}{ls:List bL}{w W:nJ}{e:Int}(h:nq t ls=(([],[]),cL,e))[aC w.heap.size w W][Le w.heap.size W]:gE t ls w (.returned (.tuple #[.slice none 0 0,aX cV cL,.slice none 0 0,.int .i64 e])) W:=by
 refine⟨none,0,cV,none,0,W,?_,aq,?_,?_,?_⟩
 ·rw[h];rfl
 ·rw[h];exact Sl.none_
 ·rw[h];exact PN
 ·rw[h];exact Sl.none_
theorem IK{t t':aV}{ls a l:List bL}{w W:nJ}{r':aR}{aA lA:Option Addr}{ac lc b1 b2:Nat}{n1 n2:Nat}(h:nq t ls=((a,l),t',0))[aC w.heap.size w W][Le w.heap.size W](ha:W.ownsRow b1 9 1 (.slice aA a.length ac) a.length (a.flatMap cm))(hl:W.ownsRow b2 9 1 (.slice lA l.length lc) l.length (l.flatMap cm))(ht:aI W.heap.size W r' t')(e1:n1=a.length:=by rfl)(e2:n2=l.length:=by rfl):gE t ls w (.returned (.tuple #[.slice aA n1 ac,aX r' t',.slice lA n2 lc,.int .i64 0])) W:=by
 subst e1;subst e2;refine⟨aA,ac,r',lA,lc,W,?_,aq,?_,?_,?_⟩
 ·rw[h]
 ·rw[h,<-aq (w:=w)];exact Sl.bW ha
 ·rw[h,<-aq (w:=w)];exact ht
 ·rw[h,<-aq (w:=w)];exact Sl.bW hl
theorem My(r:aR)(t:aV)(ls:List bL)(A:Option Addr)(cap:Nat)(hv:aG t=false)(hl:True)(B:Nat)(w:nJ)(hT:aI B w r t)[hB:Le B w](hS:Sl cm B w A cap ls):Calls nH 10 #[aX r t,.slice A ls.length cap] w (gE t ls w):=by
 have H:=qh hT;have HS:=qh hS;have HV:=qh hv;have HC:Hid (cE (aG t) 120=120):=by unfold Hid;rw[hv];rfl
 have HX:Hid (nq t ls=(([],[]),cL,120)):=by unfold Hid nq;rw[if_pos hv]
 clear hT hS hv;go_enter Tryz.func10,Tryz.ntmps10;go_upto_region 1 with fail;refine QBA ?_;intro W1 aE cz de cN cY dc dX b1 b2;clear aE;go_upto_region 3 with(first|(refine aj ak rfl _ rfl rfl b1.out rfl ?_)|(go_at_call 8;refine(cr r t B _ H.out.up).mono ?_;rw[HC.out];rintro e w1 ⟨rfl,δ1,rfl⟩));go_wp2_with (first|(refine ah (cs':=aF cV cL) ak rfl _ _ rfl rfl rfl (b2.out.af _) rfl rfl (aJ _ _) ?_;intro W9 C9 k9));refine QAR ?_;intro p1 p2;refine oR ak Tryz.results10 rfl C9 rfl ?_;exact wv HX.out
theorem JP(r:aR)(t:aV)(ls:List bL)(A:Option Addr)(cap:Nat)(hv:aG t=true)(hl:30<ls.length)(B:Nat)(w:nJ)(hT:aI B w r t)[hB:Le B w](hS:Sl cm B w A cap ls):Calls nH 10 #[aX r t,.slice A ls.length cap] w (gE t ls w):=by refine QEP ?_;intro H HS HV HC HX Pv;clear hT hS hv;go_enter Tryz.func10,Tryz.ntmps10;go_upto_region 1 with fail;refine QBA ?_;intro W1 aE cz de cN cY dc dX b1 b2;clear aE;go_upto_region 5 with(first|(refine aj ak rfl _ rfl rfl b1.out rfl ?_)|(go_at_call 8;refine(cr r t B _ H.out.up).mono ?_;rw[HC.out];rintro e w1 ⟨rfl,δ1,rfl⟩));go_wp2_with (first|(refine ah (cs':=aF cV cL) ak rfl _ _ rfl rfl rfl (b2.out.af _) rfl rfl (aJ _ _) ?_;intro W9 C9 k9));refine QAR ?_;intro p1 p2;refine oR ak Tryz.results10 rfl C9 rfl ?_;exact wv HX.out
end
section
open Hd
structure EF(t:aV)(ls:List bL)(j:Nat)(d:cU)(a:List bL):Prop where
 run:pN (gQ t) (ls.take j)=(d,a)
 valid:aG d.ax=true
 aB:iM d.aB
 Bk:ni d.aB
 given:d.given<=j
 len:a.length=j
theorem uL{t:aV}{ls:List bL}(hv:aG t=true):EF t ls 0 (gQ t) []:=⟨rfl,hv,ML,fun o ho=>(List.not_mem_nil ho).elim,nR _,rfl⟩
theorem EF.step{t:aV}{ls:List bL}{j:Nat}{d:cU}{a:List bL}(h:EF t ls j d a)(hj:j<ls.length)(h3:j<=1000)(hl:(nth ls j).length<=1000):EF t ls (j+1) (kS d (nth ls j)).1 (a++[(kS d (nth ls j)).2]):=by refine⟨?_,Fk h.valid _,JD h.aB _,JE h.Bk (nT h.given h3) hl,nT (Fl _ _) (Nat.succ_le_succ h.given),by rw[List.length_append,h.len];rfl⟩;rw[bu ls hj,JM,h.run]
theorem Qd(r:aR)(t:aV)(ls:List bL)(A:Option Addr)(cap:Nat)(hv:aG t=true)(hl:ls.length<=30)(hlen:∀x∈ls,x.length<=1000)(B:Nat)(w:nJ)(hT:aI B w r t)[hB:Le B w](hS:Sl cm B w A cap ls):Calls nH 10 #[aX r t,.slice A ls.length cap] w (gE t ls w):=by
 have H:=qh hT;have HS:=qh hS;refine QEV ?_;intro HV HC Pv gG VX mG;clear hT hS hv hlen;go_enter Tryz.func10,Tryz.ntmps10;go_upto_region 1 with fail;refine QBA ?_;intro W1 aE cz de cN cY dc dX b1 b2;clear aE;go_upto_region 6 with(first|(refine aj ak rfl _ rfl rfl b1.out rfl ?_)|(go_at_call 8;refine(cr r t B _ H.out.up).mono ?_;rw[HC.out];rintro e w1 ⟨rfl,δ1,rfl⟩));apply wp_region_lit;refine aj ak rfl _ rfl rfl (b1.out.af _) rfl ?_;refine fu (ps:=[(0,aX r t)]) (cells:=bX ⟨r,none,0⟩ (gQ t)) rfl _ _ rfl rfl (yu r t) ?_;go_upto_region 7 with(first|(refine ah (cs':=bX ⟨r,none,0⟩ (gQ t)) bQ rfl _ _ rfl rfl rfl (av.new (T:=53) rfl) rfl rfl (cO _ _) ?_;intro W2 E2 k2));refine QCQ ?_;intro g1 q3 q4 R2 gw;refine QEB ?_;intro g hg;rw[hg] at E2 gw ⊢;have lg2:=E2.lt;have E2:=qh E2;clear k2 b1 b2 g1 hg;go_upto_region 8 with fail;go_loopg [4,10] ls.length (fun gn s4 s10 wr=>∃(j:Nat) (Aa:Option Addr) (ca:Nat) (kk:cH) (d:cU) (a:List bL),j<=ls.length/\gn=ls.length-j/\s4=.slice Aa j ca/\s10=.int .i64 j/\Hid (EF t ls j d a)/\Hid (av wr g 53 (bX kk d))/\Hid (cC r t w kk.ax d.ax wr)/\Hid (dG wr kk.oA kk.oc d.aB)/\Hid (wr.ownsRow W2.heap.size 9 1 (.slice Aa j ca) j (a.flatMap cm))/\Hid (av wr (w.heap.size+1) 39 (aF cV cL))/\aC w.heap.size w wr/\Le W2.heap.size wr)
 case atStart=>exact⟨0,none,0,⟨r,none,0⟩,gQ t,[],nE _,rfl,rfl,rfl,qh (uL HV.out),E2,qh cC.refl,qh fm.none_,qh (World.ownsRow_nil _ _ _ _),R2,q3,⟨nR _⟩⟩
 case round=>
  obtain⟨j,Aa,ca,kk,d,a,hj,rfl,rfl,rfl,HJ,HE,LZ,HO,HA,HR,i1,i2⟩:=hrel;have a2:Le w.heap.size wr:=⟨nT q4.out i2.out⟩;refine QFF ?_;intro a3;have a4:Le B wr:=⟨nT hB.out a2.out⟩;have lE:=HE.out.lt;have lR:=HR.out.lt;by_cases hlt:j<ls.length
  ·have hji:(j:Int)<(ls.length:Int):=nQ;have hj0:¬(j:Int)<0:=nQ;obtain⟨sb,so,rfl,ER,e0⟩:=(HS.out.up (w':=wr)).lQ hlt;have EY:=qh (HJ.out.step hlt nQ (mG.out _ (aS ls hlt)));have gG:=mG.out _ (aS ls hlt);obtain⟨lj,ES⟩:∃x,nth ls j=x:=⟨_,rfl⟩;rw[ES] at e0 EY gG;refine QCR ?_;intro ri xd xt hx;rw[hx] at ri EY;simp only[] at EY;unfold eF at ri;clear ES gG hx;have jj1:mw w.heap.size W2.heap.size:=⟨q4.out⟩;have isb:Lt sb wr:=⟨nL ER a4.out⟩;go_upto_region 10 with fail;refine wp_region_held (S:=fun W=>aC wr.heap.size wr W) nP ?_;change wpAnyH _ _ _ _ _ _ _ _ (World.drew _);refine gJ 0 (gr kk d) rfl nP (gx bQ nY _ rfl rfl (fun W h=>av.eA (hg:=h) HE.out) rfl) (inferInstance) ?_;refine QAI ?_;refine wpH_tq 1 (.slice (some ⟨sb,so,none⟩) ls.length cap) (inferInstance) ?_;refine QAI ?_;refine wpH_tq 2 (.int .i64 j) (inferInstance) ?_;refine QAI ?_;refine wpH_tq 3 (.pointer (some ⟨sb,so+j,none⟩)) (inferInstance) ?_;refine QAI ?_;refine QFO ?_;refine QAI ?_;refine wpAnyH_all (rs:=[5,9]) nP nV ?_;intro i hi;rcases List.mem_cons.1 hi with rfl|hi
   ·unfold wpOp;show if Region.wanted _ _=true then _ else _;rw[if_pos nY];left;unfold Oper.wp;go_simp;refine QEK ?_;rintro e w1 ⟨k',δ5,rfl,rfl,xZ,DY⟩;have Cg:=qh xZ;have AL:=qh DY;clear xZ DY;refine⟨inferInstance,?_⟩;refine QAI ?_;refine QEL ?_;refine QAI ?_;refine wpH_tq 7 (gr k' xd) (inferInstance) ?_;refine QAI ?_;refine wpH_tq 8 (.string (str xt)) (inferInstance) ?_;refine QAI ?_;refine wpAnyH_all (rs:=[9]) nP nV ?_;intro i hi;obtain rfl:=List.mem_singleton.1 hi;refine QAE ?_;refine⟨inferInstance,?_⟩;refine QAI ?_;refine wpAnyH_all (rs:=[10]) nP nV ?_;intro i hi;obtain rfl:=List.mem_singleton.1 hi;refine QBB ?_;refine kF bQ _ _ rfl rfl rfl (av.new (T:=53) rfl) rfl rfl (cO _ _) ?_;intro W9 C9 k9;have g9:aC wr.heap.size wr W9:=bP k9 ((inferInstance:Le wr.heap.size (af wr.drew δ5)).out);refine⟨g9,?_⟩;refine QAI ?_;refine wpH_tq 11 (.string (str xt)) (g9) ?_;refine QAI ?_;refine wpAnyH_done nP ?_ _;refine QDJ ?_;intro To9 O9;refine QBZ ?_;intro E9 R9 A9 l9 f1 f2 f3 C9;clear k9 Cg AL;go_upto_region 12 with(first|(refine aj bQ rfl _ rfl rfl C9.out rfl ?_)|(refine ah bQ rfl _ _ rfl rfl rfl E9.out rfl rfl (cO _ _) ?_;intro W10 E10 Cl));refine QCV ?_;intro E10 To10 O10 qw R10 n1 n2 n3;clear E9 To9 O9 A9 R9 Cl C9;go_wp2_with (at_builtin;(refine bK W2 RS (.tmp 42) (.tmp 44) rfl rfl qw.out rfl rfl nW rfl (by simp[Value.oneCell']) nQ nQ ?_);intro A3 c3 δ3 jB qj);go_roundg (ls.length-(j+1))
    case measure=>omega
    case rel=>
     refine⟨j+1,A3,c3,k',xd,a++[xt],nQ,rfl,rfl,by go_num,EY,?_,?_,?_,?_,?_,inferInstance,inferInstance⟩
     ·exact qh (ep (E10.out.alloc _) (qw.out.alloc _) nU qj)
     ·exact qh ((To10.out.up (W':=W10.alloc _)).IT (qw.out.alloc _) qj)
     ·exact qh ((O10.out.wide (w':=W10.alloc _)).grown (qw.out.alloc _) qj nU)
     ·rw[List.flatMap_append];exact qh (by simpa [cm] using jB)
     ·exact qh (ep (R10.out.alloc _) (qw.out.alloc _) nU qj)
   ·obtain rfl:=List.mem_singleton.1 hi;refine QAE ?_;refine⟨inferInstance,?_⟩;refine QAI ?_;refine wpAnyH_all (rs:=[5]) nP nV ?_;intro i hi;obtain rfl:=List.mem_singleton.1 hi;refine QAE ?_;refine QEK ?_;rintro e w1 ⟨k',δ5,rfl,rfl,xZ,DY⟩;have Cg:=qh xZ;have AL:=qh DY;clear xZ DY;refine⟨inferInstance,?_⟩;refine QAI ?_;refine QEL ?_;refine QAI ?_;refine wpH_tq 7 (gr k' xd) (inferInstance) ?_;refine QAI ?_;refine wpH_tq 8 (.string (str xt)) (inferInstance) ?_;refine QAI ?_;refine wpAnyH_all (rs:=[10]) nP nV ?_;intro i hi;obtain rfl:=List.mem_singleton.1 hi;refine QBB ?_;refine kF bQ _ _ rfl rfl rfl (((av.new (T:=53) rfl).drew).af _) rfl rfl (cO _ _) ?_;intro W9 C9 k9;have g9:aC wr.heap.size wr W9:=bP k9 (nR _);refine⟨g9,?_⟩;refine QAI ?_;refine wpH_tq 11 (.string (str xt)) (g9) ?_;refine QAI ?_;refine wpAnyH_done nP ?_ _;refine QCX ?_;intro To9 O9;refine QBZ ?_;intro E9 R9 A9 l9 f1 f2 f3 C9;clear k9 Cg AL;go_upto_region 12 with(first|(refine aj bQ rfl _ rfl rfl C9.out rfl ?_)|(refine ah bQ rfl _ _ rfl rfl rfl E9.out rfl rfl (cO _ _) ?_;intro W10 E10 Cl));refine QCV ?_;intro E10 To10 O10 qw R10 n1 n2 n3;clear E9 To9 O9 A9 R9 Cl C9;go_wp2_with (at_builtin;(refine bK W2 RS (.tmp 42) (.tmp 44) rfl rfl qw.out rfl rfl nW rfl (by simp[Value.oneCell']) nQ nQ ?_);intro A3 c3 δ3 jB qj);go_roundg (ls.length-(j+1))
    case measure=>omega
    case rel=>
     refine⟨j+1,A3,c3,k',xd,a++[xt],nQ,rfl,rfl,by go_num,EY,?_,?_,?_,?_,?_,inferInstance,inferInstance⟩
     ·exact qh (ep (E10.out.alloc _) (qw.out.alloc _) nU qj)
     ·exact qh ((To10.out.up (W':=W10.alloc _)).IT (qw.out.alloc _) qj)
     ·exact qh ((O10.out.wide (w':=W10.alloc _)).grown (qw.out.alloc _) qj nU)
     ·rw[List.flatMap_append];exact qh (by simpa [cm] using jB)
     ·exact qh (ep (R10.out.alloc _) (qw.out.alloc _) nU qj)
  ·obtain rfl:j=ls.length:=by omega
   have hjn:¬((ls.length:Int)<(ls.length:Int)):=nQ;obtain⟨V,rfl⟩:∃V,V=wr:=⟨_,rfl⟩;have HX:Hid (nq t ls=((a,d.aB.map (·.line)),d.ax,0)):=by have hr:=HJ.out.run;rw[List.take_length] at hr;unfold Hid nq;rw[if_neg (by rw[HV.out];decide),if_neg gG,hr]
   have Uz:=qh (gL HJ.out.valid);have U7:=qh HJ.out.len;have h5:=HJ.out.aB.1;have E1:=HE;have Zw:Hid (aI V.heap.size V kk.ax d.ax):=qh (LZ.out.is H.out);clear hjn Pv gG VX HS HJ LZ H;go_upto_region 14 with fail;go_loopg [6,13] d.aB.length (fun gn s6 s13 wq=>∃(i:Nat) (Al:Option Addr) (cl:Nat),i<=d.aB.length/\gn=d.aB.length-i/\s6=.slice Al i cl/\s13=.int .i64 i/\Hid (wq.ownsRow V.heap.size 9 1 (.slice Al i cl) i (((d.aB.map (·.line)).take i).flatMap cm))/\aC V.heap.size V wq/\Le V.heap.size wq)
   case atStart=>exact⟨0,none,0,nE _,rfl,rfl,rfl,qh (World.ownsRow_nil _ _ _ _),inferInstance,⟨nR _⟩⟩
   case round=>
    obtain⟨i,Al,cl,hi,rfl,rfl,rfl,HL,m1,m2⟩:=hrel;have E2':Hid (av _ g 53 (bX kk d)):=qh (HE.out.eA (hg:=m1));have R2':Hid (av _ (w.heap.size+1) 39 (aF cV cL)):=qh (HR.out.eA (hg:=m1));have EW:=E2'.out.cell (i:=14) (v:=.slice kk.oA d.aB.length kk.oc) rfl;have lE2:=E2'.out.lt;by_cases hlt2:i<d.aB.length
    ·have KP:(i:Int)<(d.aB.length:Int):=nQ;have hi0:¬(i:Int)<0:=nQ;obtain⟨ob,oo,zq,yX,e0,e1⟩:=(HO.out.up (hg:=m1)).plain.order hlt2;have lob:Lt ob _:=⟨nL yX m2.out⟩;rw[zq] at EW;have HK:Hid (((d.aB.map (·.line)).take (i+1)).flatMap cm=((d.aB.map (·.line)).take i).flatMap cm++[.string (str (nth d.aB i).line)]):=by unfold Hid;rw[bu _ (by rw[List.length_map];exact hlt2),List.flatMap_append,iq _ _ hlt2];rfl
     clear zq yX e0;go_wp2_with (at_builtin;(refine bK V RS (.tmp 53) (.tmp 60) rfl rfl HL.out rfl rfl nW rfl (by simp[Value.oneCell']) nQ nQ ?_);intro A3 c3 δ3 jB qj);go_roundg (d.aB.length-(i+1))
     case measure=>omega
     case rel=>refine⟨i+1,A3,c3,nQ,rfl,rfl,by go_num,?_,inferInstance,inferInstance⟩;rw[HK.out];exact qh jB
    ·obtain rfl:i=d.aB.length:=by omega
     have hin:¬((d.aB.length:Int)<(d.aB.length:Int)):=nQ;have pJ:Hid (wr.ownsRow V.heap.size 9 1 (.slice Al (d.aB.map (·.line)).length cl) (d.aB.map (·.line)).length ((d.aB.map (·.line)).flatMap cm)):=by have:=HL.out;rw[List.take_of_length_le (by rw[List.length_map];exact nR _)] at this;rw[List.length_map];exact qh this
     have A2:Hid (wr.ownsRow W2.heap.size 9 1 (.slice Aa a.length ca) a.length (a.flatMap cm)):=by rw[U7.out];exact qh (aT HA.out)
     have TI2:Hid (aI V.heap.size wr kk.ax d.ax):=qh Zw.out.up;have x1:aC w.heap.size w wr:=⟨⟨m1.out.1.trans i1.out.1,m1.out.2.1.trans i1.out.2.1,m1.out.2.2.1.trans i1.out.2.2.1,fun b hb=>(m1.out.2.2.2 b (nL hb a2.out)).trans (i1.out.2.2.2 b hb)⟩⟩;have x2:Le w.heap.size wr:=⟨nT a2.out m2.out⟩;clear HL;go_upto_region 18 with(first|(refine bY (cs':=aF kk.ax d.ax) ak rfl _ rfl rfl E2'.out (eo kk d) rfl ?_)|(go_at_call 6;refine(fT kk.ax d.ax Uz.out V.heap.size _ TI2.out.up).mono ?_;rintro e w1 ⟨r',δ7,rfl,rfl,oT⟩;have OT:=qh oT;clear oT)|(refine ah ak rfl _ _ rfl rfl rfl (R2'.out.af _) rfl rfl (aJ _ _) ?_;intro W9 C9 k9));refine QAR ?_;intro p1 p2;refine oR ak Tryz.results10 rfl C9 rfl ?_;exact IK HX.out (ct (aT A2.out) k9 (R2'.out.af _) nU) (ct (aT pJ.out) k9 (R2'.out.af _) nU) (OT.out.aO k9 (R2'.out.af _) nU).is U7.out.symm (by rw[List.length_map])
theorem Mz(r:aR)(t:aV)(ls:List bL)(A:Option Addr)(cap:Nat)(hlen:∀x∈ls,x.length<=1000)(B:Nat)(w:nJ)(hT:aI B w r t)[hB:Le B w](hS:Sl cm B w A cap ls):Calls nH 10 #[aX r t,.slice A ls.length cap] w (gE t ls w):=by
 rcases hv:aG t with _|_
 ·exact My r t ls A cap hv trivial B w hT hS
 ·by_cases hl:30<ls.length
  ·exact JP r t ls A cap hv hl B w hT hS
  ·exact Qd r t ls A cap hv nQ hlen B w hT hS
end
end Go.Proofs.YtcjjlikhlmfedaaGreatDoor
