/- A part of the proof that the statement HeadmanRunCardSaid holds, cut small by a program (names and blanks): Ht1, Ht2. -/
import Derived.Laws.ResultCell
import Derived.Test.YtcjjlikhlmfedaaGreatDoorZ10
import Derived.Test.YtcjjlikhlmfedaaGreatDoorZ18
set_option maxRecDepth 100000
set_option maxHeartbeats 40000000
set_option linter.unusedVariables false
set_option linter.unusedSimpArgs false
namespace Go.Proofs.YtcjjlikhlmfedaaGreatDoor
open Go.RowKit
open Nat renaming le_refl → nR
open Go.Proofs.Tryz renaming prog → nH
open Go renaming World → nJ, Value → nK
section
open Hd
structure aR where
 aD:eD
 ai:cw
 aa:eE
def aF(r:aR)(t:aV):Array nK:=#[.int .i64 t.aD.aN.lo,.int .i64 t.aD.aN.hi,.int .i64 t.aD.cur.lo,.int .i64 t.aD.cur.hi,.slice r.aD.gA t.aD.au.length r.aD.gc,.slice r.aD.aA t.aD.ay.length r.aD.ac,.slice r.aD.wA t.aD.aQ.length r.aD.wc,
 .int .i64 t.ai.m,.slice r.ai.hA t.ai.hs.length r.ai.hc,.slice r.ai.pA t.ai.ps.length r.ai.pc,
 .slice r.aa.kA t.aa.kinds.length r.aa.kc,.int .i64 t.aa.floor,.slice r.aa.pA t.aa.parts.length r.aa.pc,.slice r.aa.bA t.aa.bars.length r.aa.bc]
abbrev aX(r:aR)(t:aV):nK:=.agg (aF r t)
def aI(B:Nat)(w:nJ)(r:aR)(t:aV):Prop:=cj B w r.aD t.aD/\bG B w r.ai t.ai/\bS B w r.aa t.aa
section
variable{B:Nat}{w:nJ}{r:aR}{t:aV}
@[go_sem] theorem Su:aI B w.drew r t↔aI B w r t:=Iff.rfl
theorem aI.up{w':nJ}(k:aI B w r t)[hg:aC B w w']:aI B w' r t:=⟨k.1.up,k.2.1.up,k.2.2.up⟩
theorem aI.wide{W:nJ}(k:aI B w r t)[aC B w W][hB:Le B W]:aI W.heap.size W r t:=⟨k.1.wide,k.2.1.wide,k.2.2.wide⟩
end
theorem aJ(r:aR)(t:aV):(aF r t).all (·.oneCell')=true:=by simp[aF,Value.oneCell']
theorem ak:fO nH 39 14:=fO.mk' Tryz.underlying39 rfl nP
theorem av.ax{w:nJ}{b:Nat}{T:TypeId}{r:aR}{t:aV}(h:av w b T (aF r t)):w.cell? ⟨b,0,none⟩=some (.int .i64 t.aD.aN.lo)/\w.cell? ⟨b,1,none⟩=some (.int .i64 t.aD.aN.hi)/\w.cell? ⟨b,2,none⟩=some (.int .i64 t.aD.cur.lo)/\w.cell? ⟨b,3,none⟩=some (.int .i64 t.aD.cur.hi)/\w.cell? ⟨b,4,none⟩=some (.slice r.aD.gA t.aD.au.length r.aD.gc)/\w.cell? ⟨b,5,none⟩=some (.slice r.aD.aA t.aD.ay.length r.aD.ac)/\w.cell? ⟨b,6,none⟩=some (.slice r.aD.wA t.aD.aQ.length r.aD.wc)/\w.cell? ⟨b,7,none⟩=some (.int .i64 t.ai.m)/\w.cell? ⟨b,8,none⟩=some (.slice r.ai.hA t.ai.hs.length r.ai.hc)/\w.cell? ⟨b,9,none⟩=some (.slice r.ai.pA t.ai.ps.length r.ai.pc)/\w.cell? ⟨b,10,none⟩=some (.slice r.aa.kA t.aa.kinds.length r.aa.kc)/\w.cell? ⟨b,11,none⟩=some (.int .i64 t.aa.floor)/\w.cell? ⟨b,12,none⟩=some (.slice r.aa.pA t.aa.parts.length r.aa.pc)/\w.cell? ⟨b,13,none⟩=some (.slice r.aa.bA t.aa.bars.length r.aa.bc):=
 ⟨h.cell rfl,h.cell rfl,h.cell rfl,h.cell rfl,h.cell rfl,h.cell rfl,h.cell rfl,h.cell rfl,h.cell rfl,h.cell rfl,h.cell rfl,h.cell rfl,h.cell rfl,h.cell rfl⟩
theorem dQ{P:Program}{W:nJ}{b:Nat}{T ty:TypeId}{cs:Array nK}{n:Nat}{fn:Func}{p u:Tmp}{R:Ending->nJ->Prop}{t:Array nK}(hT:fO P ty n)(hr:fn.results=#[.cell p ty,.tmp u])(hp:t.getD p undef=.pointer (some ⟨b,0,none⟩))(hb:av W b T cs)(hn:cs.size=n)(h:R (.returned (.tuple #[.agg cs,t.getD u undef])) W):bodyPost P fn R .ret { tmps:=t,defers:=[] } W:=by obtain⟨⟨d,h1,h2⟩,h3⟩:=hT;subst hn;refine bodyPost_ret (v:=.tuple #[.agg cs,t.getD u undef]) ?_ rfl h;rw[results_cell_tmp hr,hp];have hl:=run_loadVar_row (P:=P) W b T ty cs (0,0) d hb h1 (by cases d<;>first|rfl|cases h2) h3;simp only[asAddr,Sem.run_pure,Result.andThen_ok,hl]
theorem Wx(t:aV){a b c:Bool}(ha:An.valid t.aD=a)(hb:Me.valid t.ai=b)(hc:Sa.valid t.aa=c):aG t=(a&&b&&c):=by unfold aG;rw[ha,hb,hc]
theorem pn(r:aR)(t:aV)(B:Nat)(w:nJ)(h:aI B w r t)[hB:Le B w]:Calls nH 7 #[aX r t] w fun e w'=>e=.returned (.int .i64 (cE (aG t) 120))/\∃δ,w'=af w δ:=by
 have H:=qh h;clear h;rcases ha:An.valid t.aD with _|_;all_goals rcases hb:Me.valid t.ai with _|_
 all_goals rcases hc:Sa.valid t.aa with _|_
 all_goals
  have HV:=qh (Wx t ha hb hc);first|(have HA:Hid (cE (An.valid t.aD) 20=20):=by unfold Hid;rw[ha];rfl)|(have HA:Hid (cE (An.valid t.aD) 20=0):=by unfold Hid;rw[ha];rfl)
  first|(have HB:Hid (cE (Me.valid t.ai) 40=40):=by unfold Hid;rw[hb];rfl)|(have HB:Hid (cE (Me.valid t.ai) 40=0):=by unfold Hid;rw[hb];rfl)
  first|(have HC:Hid (cE (Sa.valid t.aa) 80=80):=by unfold Hid;rw[hc];rfl)|(have HC:Hid (cE (Sa.valid t.aa) 80=0):=by unfold Hid;rw[hc];rfl)
  clear ha hb hc;go_enter Tryz.func7,Tryz.ntmps7;go_upto_region 1 with fail;refine QAW ?_;intro W1 aE cz de cN cY dc b1;obtain⟨x0,x1,x2,x3,x4,x5,x6,x7,x8,x9,wm,wk,sW,wj⟩:=b1.ax;clear aE b1;go_wp2_with (first|(go_at_call 19;refine(BU r.aD t.aD B _ H.out.1.up).mono ?_;rw[HA.out];rintro e w1 ⟨rfl,δ1,rfl⟩)|(go_at_call 20;refine(Dv r.ai t.ai B _ H.out.2.1.up).mono ?_;rw[HB.out];rintro e w1 ⟨rfl,δ2,rfl⟩)|(go_at_call 21;refine(CS r.aa t.aa B _ H.out.2.2.up).mono ?_;rw[HC.out];rintro e w1 ⟨rfl,δ3,rfl⟩));go_ret;exact⟨by rw[HV.out];rfl,ag⟩
theorem cr(r:aR)(t:aV)(B:Nat)(w:nJ)(h:aI B w r t)[hB:Le B w]:Calls nH 8 #[aX r t] w fun e w'=>e=.returned (.int .i64 (cE (aG t) 120))/\∃δ,w'=af w δ:=by
 have H:=qh h;clear h;rcases ha:An.valid t.aD with _|_;all_goals rcases hb:Me.valid t.ai with _|_
 all_goals rcases hc:Sa.valid t.aa with _|_
 all_goals
  have HV:=qh (Wx t ha hb hc);first|(have HA:Hid (cE (An.valid t.aD) 20=20):=by unfold Hid;rw[ha];rfl)|(have HA:Hid (cE (An.valid t.aD) 20=0):=by unfold Hid;rw[ha];rfl)
  first|(have HB:Hid (cE (Me.valid t.ai) 40=40):=by unfold Hid;rw[hb];rfl)|(have HB:Hid (cE (Me.valid t.ai) 40=0):=by unfold Hid;rw[hb];rfl)
  first|(have HC:Hid (cE (Sa.valid t.aa) 80=80):=by unfold Hid;rw[hc];rfl)|(have HC:Hid (cE (Sa.valid t.aa) 80=0):=by unfold Hid;rw[hc];rfl)
  clear ha hb hc;go_enter Tryz.func8,Tryz.ntmps8;go_upto_region 1 with fail;refine QAW ?_;intro W1 aE cz de cN cY dc b1;obtain⟨x0,x1,x2,x3,x4,x5,x6,x7,x8,x9,wm,wk,sW,wj⟩:=b1.ax;clear aE b1;go_wp2_with (first|(go_at_call 22;refine(jm r.aD t.aD B _ H.out.1.up).mono ?_;rw[HA.out];rintro e w1 ⟨rfl,δ1,rfl⟩)|(go_at_call 23;refine(Ab r.ai t.ai B _ H.out.2.1.up).mono ?_;rw[HB.out];rintro e w1 ⟨rfl,δ2,rfl⟩)|(go_at_call 24;refine(uP r.aa t.aa B _ H.out.2.2.up).mono ?_;rw[HC.out];rintro e w1 ⟨rfl,δ3,rfl⟩));go_ret;exact⟨by rw[HV.out];rfl,ag⟩
end
section
open Hd
def cV:aR:=⟨⟨none,0,none,0,none,0⟩,⟨none,0,none,0⟩,⟨none,0,none,0,none,0⟩⟩
def cL:aV:=⟨⟨⟨0,0⟩,⟨0,0⟩,[],[],[]⟩,⟨0,[],[]⟩,⟨[],0,[],[]⟩⟩
theorem Jy:aF cV cL=#[.int .i64 0,.int .i64 0,.int .i64 0,.int .i64 0,.slice none 0 0,.slice none 0 0,.slice none 0 0,.int .i64 0,.slice none 0 0,.slice none 0 0,.slice none 0 0,.int .i64 0,.slice none 0 0,.slice none 0 0]:=rfl
def aM(base:Nat)(w:nJ)(r:aR)(t:aV):Prop:=dH base w r.aD t.aD/\eB base w r.ai t.ai/\fC base w r.aa t.aa
theorem aM.is{base:Nat}{w:nJ}{r:aR}{t:aV}(h:aM base w r t):aI w.heap.size w r t:=⟨h.1.is,⟨Sl.bW h.2.1.1,Sl.bW h.2.1.2⟩,h.2.2.is⟩
def Small(t:aV):Prop:=(t.aD.au.length<=1000/\t.aD.ay.length<=1000/\t.aD.aQ.length<=1000)/\(t.ai.hs.length<=1000/\t.ai.ps.length<=1000)/\(t.aa.kinds.length<=1000/\t.aa.parts.length<=1000/\t.aa.bars.length<=1000)
theorem WD(cs:Array nK)(hn:cs.size=14)(v0 v1 v2 v3 v4 v5 v6 v7 v8 v9 v10 v11 v12 v13:nK):((((((((((((((cs.setIfInBounds 0 v0).setIfInBounds 1 v1).setIfInBounds 2 v2).setIfInBounds 3 v3).setIfInBounds 4 v4).setIfInBounds 5 v5).setIfInBounds 6 v6).setIfInBounds 7 v7).setIfInBounds 8 v8).setIfInBounds 9 v9).setIfInBounds 10 v10).setIfInBounds 11 v11).setIfInBounds 12 v12).setIfInBounds 13 v13)=#[v0,v1,v2,v3,v4,v5,v6,v7,v8,v9,v10,v11,v12,v13]:=by
 apply Array.toList_inj.1;simp only[Array.toList_setIfInBounds];obtain⟨l⟩:=cs;match l,hn with
 |[_,_,_,_,_,_,_,_,_,_,_,_,_,_],_=>rfl
theorem av.Vl{W:nJ}{b:Nat}{T:TypeId}{cs:Array nK}(h:av W b T cs)(hn:cs.size=14)(v0 v1 v2 v3 v4 v5 v6 v7 v8 v9 v10 v11 v12 v13:nK):av ((((((((((((((W.setCell ⟨b,0,none⟩ v0).setCell ⟨b,1,none⟩ v1).setCell ⟨b,2,none⟩ v2).setCell ⟨b,3,none⟩ v3).setCell ⟨b,4,none⟩ v4).setCell ⟨b,5,none⟩ v5).setCell ⟨b,6,none⟩ v6).setCell ⟨b,7,none⟩ v7).setCell ⟨b,8,none⟩ v8).setCell ⟨b,9,none⟩ v9).setCell ⟨b,10,none⟩ v10).setCell ⟨b,11,none⟩ v11).setCell ⟨b,12,none⟩ v12).setCell ⟨b,13,none⟩ v13) b T #[v0,v1,v2,v3,v4,v5,v6,v7,v8,v9,v10,v11,v12,v13]:=by have k:=((((((((((((((h.set 0 v0).set 1 v1).set 2 v2).set 3 v3).set 4 v4).set 5 v5).set 6 v6).set 7 v7).set 8 v8).set 9 v9).set 10 v10).set 11 v11).set 12 v12).set 13 v13);rw[WD cs hn] at k;exact k
theorem fT(r:aR)(t:aV)(hs:Small t)(B:Nat)(w:nJ)(h:aI B w r t)[hB:Le B w]:Calls nH 6 #[aX r t] w fun e w'=>∃(r':aR) (δ:nJ),e=.returned (aX r' t)/\w'=af w δ/\aM w.heap.size (af w δ) r' t:=by
 have H:=qh h;have HS:=qh hs;clear h hs;go_enter Tryz.func6,Tryz.ntmps6;go_upto_region 1 with fail;refine QAX ?_;intro W1 aE cz de cN cY dc dX b1;have b2:av W1 (w.heap.size+1) 39 (aF cV cL):=by rw[aE.out];exact av.new nV
 obtain⟨x0,x1,x2,x3,x4,x5,x6,x7,x8,x9,wm,wk,sW,wj⟩:=b1.ax;obtain⟨y0,y1,y2,y3,y4,y5,y6,y7,y8,y9,y10,y11,y12,y13⟩:=b2.ax;have yf:=b2.free;have B2:=qh b2;have hlt2:=b2.rO;clear aE b1 b2;go_region_held3 (fun w'=>w'.cell? ⟨w.heap.size,0,none⟩=some (.int .i64 t.aD.aN.lo)/\w'.cell? ⟨w.heap.size,1,none⟩=some (.int .i64 t.aD.aN.hi)/\w'.cell? ⟨w.heap.size,2,none⟩=some (.int .i64 t.aD.cur.lo)/\w'.cell? ⟨w.heap.size,3,none⟩=some (.int .i64 t.aD.cur.hi)/\w'.cell? ⟨w.heap.size,4,none⟩=some (.slice r.aD.gA t.aD.au.length r.aD.gc)/\w'.cell? ⟨w.heap.size,5,none⟩=some (.slice r.aD.aA t.aD.ay.length r.aD.ac)/\w'.cell? ⟨w.heap.size,6,none⟩=some (.slice r.aD.wA t.aD.aQ.length r.aD.wc) /\
  w'.cell? ⟨w.heap.size,7,none⟩=some (.int .i64 t.ai.m)/\w'.cell? ⟨w.heap.size,8,none⟩=some (.slice r.ai.hA t.ai.hs.length r.ai.hc)/\w'.cell? ⟨w.heap.size,9,none⟩=some (.slice r.ai.pA t.ai.ps.length r.ai.pc)/\w'.cell? ⟨w.heap.size,10,none⟩=some (.slice r.aa.kA t.aa.kinds.length r.aa.kc)/\w'.cell? ⟨w.heap.size,11,none⟩=some (.int .i64 t.aa.floor)/\w'.cell? ⟨w.heap.size,12,none⟩=some (.slice r.aa.pA t.aa.parts.length r.aa.pc)/\w'.cell? ⟨w.heap.size,13,none⟩=some (.slice r.aa.bA t.aa.bars.length r.aa.bc))
  (refine⟨?_,?_,?_,?_,?_,?_,?_,?_,?_,?_,?_,?_,?_,?_⟩<;>go_simp)
  (first|(go_at_call 16;refine(Hw r.aD t.aD B _ H.out.1.up HS.out.1.1 HS.out.1.2.1 HS.out.1.2.2).mono ?_;rintro e w1 ⟨r1,δ1,rfl,rfl,o1⟩;have O1:=qh o1;clear o1)|(go_at_call 17;refine(Qy r.ai t.ai B _ H.out.2.1.up HS.out.2.1.1 HS.out.2.1.2).mono ?_;rintro e w1 ⟨r2,δ2,rfl,rfl,o2⟩;have O2:=qh o2;clear o2)|(go_at_call 18;refine(C0 r.aa t.aa B _ H.out.2.2.up HS.out.2.2.1 HS.out.2.2.2.1 HS.out.2.2.2.2).mono ?_;rintro e w1 ⟨r3,δ3,rfl,rfl,o3⟩;have O3:=qh o3;clear o3))
 go_wp2_with fail;have base:W1.heap.size<=W1.drew.heap.size:=nR _;refine gB (T:=39) (cs:=aF ⟨r1,r2,r3⟩ t) ak Tryz.results6 rfl ?box rfl ?_;case box=>refine av.Vl (cs:=aF cV cL) ?_ rfl _ _ _ _ _ _ _ _ _ _ _ _ _ _;exact(((show av W1.drew (w.heap.size+1) _ _ from B2.out).af δ1).af δ2).af δ3
 refine⟨⟨r1,r2,r3⟩,_,rfl,aq,?_⟩;refine QDK ?_;refine⟨?_,?_,?_⟩
 ·refine dH.mono (base:=W1.heap.size) ?_ cN.out;iterate 14 (refine dH.set ?_ hlt2 _)
  exact(O1.out.up (W:=af (af W1.drew δ1) δ2)).up (W:=af (af (af W1.drew δ1) δ2) δ3)
 ·refine eB.mono (base:=W1.heap.size) ?_ cN.out;iterate 14 (refine eB.set ?_ hlt2 _)
  exact(O2.out.mono (inferInstance:Le W1.heap.size (af W1.drew δ1)).out).up
 ·refine fC.mono (base:=W1.heap.size) ?_ cN.out;iterate 14 (refine fC.set ?_ hlt2 _)
  exact O3.out.mono (inferInstance:Le W1.heap.size (af (af W1.drew δ1) δ2)).out
end
end Go.Proofs.YtcjjlikhlmfedaaGreatDoor
