/- A part of the proof that a law of layer 12 holds, cut small by a program (names and blanks): Ht1, Ht2. -/
import Derived.Laws.ResultCell
import Derived.Test.YtpnnapeoanafdaaGreatDoorZ10
import Derived.Test.YtpnnapeoanafdaaGreatDoorZ19
set_option maxRecDepth 100000
set_option maxHeartbeats 40000000
set_option linter.unusedVariables false
set_option linter.unusedSimpArgs false
namespace Go.Proofs.YtpnnapeoanafdaaGreatDoor
open Go.RowKit
open Nat renaming le_refl → nR
open Go.Proofs.Tryz renaming prog → nH
open Go renaming World → nJ, Value → nK
section
open Hd
structure aW where
 aF:eS
 af:cx
 aa:eT
def aG(r:aW)(t:aO):Array nK:=#[.int .i64 t.aF.aP.lo,.int .i64 t.aF.aP.hi,.int .i64 t.aF.cur.lo,.int .i64 t.aF.cur.hi,.slice r.aF.gA t.aF.av.length r.aF.gc,.slice r.aF.aA t.aF.aB.length r.aF.ac,.slice r.aF.wA t.aF.aU.length r.aF.wc,
 .int .i64 t.af.m,.slice r.af.hA t.af.hs.length r.af.hc,.slice r.af.pA t.af.ps.length r.af.pc,
 .slice r.aa.kA t.aa.kinds.length r.aa.kc,.int .i64 t.aa.floor,.slice r.aa.pA t.aa.parts.length r.aa.pc,.slice r.aa.bA t.aa.bars.length r.aa.bc]
abbrev aY(r:aW)(t:aO):nK:=.agg (aG r t)
def aN(B:Nat)(w:nJ)(r:aW)(t:aO):Prop:=cr B w r.aF t.aF/\bL B w r.af t.af/\bW B w r.aa t.aa
section
variable{B:Nat}{w:nJ}{r:aW}{t:aO}
@[go_sem] theorem Xc:aN B w.drew r t↔aN B w r t:=Iff.rfl
theorem aN.up{w':nJ}(k:aN B w r t)[hg:aD B w w']:aN B w' r t:=⟨k.1.up,k.2.1.up,k.2.2.up⟩
theorem aN.wide{W:nJ}(k:aN B w r t)[aD B w W][hB:Le B W]:aN W.heap.size W r t:=⟨k.1.wide,k.2.1.wide,k.2.2.wide⟩
end
theorem aL(r:aW)(t:aO):(aG r t).all (·.oneCell')=true:=by simp[aG,Value.oneCell']
theorem aq:gi nH 39 14:=gi.mk' Tryz.underlying39 rfl nP
theorem ay.ax{w:nJ}{b:Nat}{T:TypeId}{r:aW}{t:aO}(h:ay w b T (aG r t)):w.cell? ⟨b,0,none⟩=some (.int .i64 t.aF.aP.lo)/\w.cell? ⟨b,1,none⟩=some (.int .i64 t.aF.aP.hi)/\w.cell? ⟨b,2,none⟩=some (.int .i64 t.aF.cur.lo)/\w.cell? ⟨b,3,none⟩=some (.int .i64 t.aF.cur.hi)/\w.cell? ⟨b,4,none⟩=some (.slice r.aF.gA t.aF.av.length r.aF.gc)/\w.cell? ⟨b,5,none⟩=some (.slice r.aF.aA t.aF.aB.length r.aF.ac)/\w.cell? ⟨b,6,none⟩=some (.slice r.aF.wA t.aF.aU.length r.aF.wc)/\w.cell? ⟨b,7,none⟩=some (.int .i64 t.af.m)/\w.cell? ⟨b,8,none⟩=some (.slice r.af.hA t.af.hs.length r.af.hc)/\w.cell? ⟨b,9,none⟩=some (.slice r.af.pA t.af.ps.length r.af.pc)/\w.cell? ⟨b,10,none⟩=some (.slice r.aa.kA t.aa.kinds.length r.aa.kc)/\w.cell? ⟨b,11,none⟩=some (.int .i64 t.aa.floor)/\w.cell? ⟨b,12,none⟩=some (.slice r.aa.pA t.aa.parts.length r.aa.pc)/\w.cell? ⟨b,13,none⟩=some (.slice r.aa.bA t.aa.bars.length r.aa.bc):=
 ⟨h.cell rfl,h.cell rfl,h.cell rfl,h.cell rfl,h.cell rfl,h.cell rfl,h.cell rfl,h.cell rfl,h.cell rfl,h.cell rfl,h.cell rfl,h.cell rfl,h.cell rfl,h.cell rfl⟩
theorem ep{P:Program}{W:nJ}{b:Nat}{T ty:TypeId}{cs:Array nK}{n:Nat}{fn:Func}{p u:Tmp}{R:Ending->nJ->Prop}{t:Array nK}(hT:gi P ty n)(hr:fn.results=#[.cell p ty,.tmp u])(hp:t.getD p undef=.pointer (some ⟨b,0,none⟩))(hb:ay W b T cs)(hn:cs.size=n)(h:R (.returned (.tuple #[.agg cs,t.getD u undef])) W):bodyPost P fn R .ret { tmps:=t,defers:=[] } W:=by obtain⟨⟨d,h1,h2⟩,h3⟩:=hT;subst hn;refine bodyPost_ret (v:=.tuple #[.agg cs,t.getD u undef]) ?_ rfl h;rw[results_cell_tmp hr,hp];have hl:=run_loadVar_row (P:=P) W b T ty cs (0,0) d hb h1 (by cases d<;>first|rfl|cases h2) h3;simp only[asAddr,Sem.run_pure,Result.andThen_ok,hl]
theorem abo(t:aO){a b c:Bool}(ha:An.valid t.aF=a)(hb:Me.valid t.af=b)(hc:Sa.valid t.aa=c):aE t=(a&&b&&c):=by unfold aE;rw[ha,hb,hc]
theorem sW(r:aW)(t:aO)(B:Nat)(w:nJ)(h:aN B w r t)[hB:Le B w]:Calls nH 75 #[aY r t] w fun e w'=>e=.returned (.int .i64 (cD (aE t) 120))/\∃δ,w'=ah w δ:=by
 have H:=qh h;clear h;rcases ha:An.valid t.aF with _|_;all_goals rcases hb:Me.valid t.af with _|_
 all_goals rcases hc:Sa.valid t.aa with _|_
 all_goals
  have HV:=qh (abo t ha hb hc);first|(have HA:Hid (cD (An.valid t.aF) 20=20):=by unfold Hid;rw[ha];rfl)|(have HA:Hid (cD (An.valid t.aF) 20=0):=by unfold Hid;rw[ha];rfl)
  first|(have HB:Hid (cD (Me.valid t.af) 40=40):=by unfold Hid;rw[hb];rfl)|(have HB:Hid (cD (Me.valid t.af) 40=0):=by unfold Hid;rw[hb];rfl)
  first|(have HC:Hid (cD (Sa.valid t.aa) 80=80):=by unfold Hid;rw[hc];rfl)|(have HC:Hid (cD (Sa.valid t.aa) 80=0):=by unfold Hid;rw[hc];rfl)
  clear ha hb hc;go_enter Tryz.func75,Tryz.ntmps75;go_upto_region 1 with fail;refine QAW ?_;intro W1 aH cJ dF cW di dz b1;obtain⟨x0,x1,x2,x3,x4,x5,x6,x7,x8,x9,yQ,yP,ve,yO⟩:=b1.ax;clear aH b1;go_wp2_with (first|(go_at_call 48;refine(EW r.aF t.aF B _ H.out.1.up).mono ?_;rw[HA.out];rintro e w1 ⟨rfl,δ1,rfl⟩)|(go_at_call 106;refine(GS r.af t.af B _ H.out.2.1.up).mono ?_;rw[HB.out];rintro e w1 ⟨rfl,δ2,rfl⟩)|(go_at_call 65;refine(Gd r.aa t.aa B _ H.out.2.2.up).mono ?_;rw[HC.out];rintro e w1 ⟨rfl,δ3,rfl⟩));go_ret;exact⟨by rw[HV.out];rfl,ag⟩
theorem cw(r:aW)(t:aO)(B:Nat)(w:nJ)(h:aN B w r t)[hB:Le B w]:Calls nH 39 #[aY r t] w fun e w'=>e=.returned (.int .i64 (cD (aE t) 120))/\∃δ,w'=ah w δ:=by
 have H:=qh h;clear h;rcases ha:An.valid t.aF with _|_;all_goals rcases hb:Me.valid t.af with _|_
 all_goals rcases hc:Sa.valid t.aa with _|_
 all_goals
  have HV:=qh (abo t ha hb hc);first|(have HA:Hid (cD (An.valid t.aF) 20=20):=by unfold Hid;rw[ha];rfl)|(have HA:Hid (cD (An.valid t.aF) 20=0):=by unfold Hid;rw[ha];rfl)
  first|(have HB:Hid (cD (Me.valid t.af) 40=40):=by unfold Hid;rw[hb];rfl)|(have HB:Hid (cD (Me.valid t.af) 40=0):=by unfold Hid;rw[hb];rfl)
  first|(have HC:Hid (cD (Sa.valid t.aa) 80=80):=by unfold Hid;rw[hc];rfl)|(have HC:Hid (cD (Sa.valid t.aa) 80=0):=by unfold Hid;rw[hc];rfl)
  clear ha hb hc;go_enter Tryz.func39,Tryz.ntmps39;go_upto_region 1 with fail;refine QAW ?_;intro W1 aH cJ dF cW di dz b1;obtain⟨x0,x1,x2,x3,x4,x5,x6,x7,x8,x9,yQ,yP,ve,yO⟩:=b1.ax;clear aH b1;go_wp2_with (first|(go_at_call 72;refine(jY r.aF t.aF B _ H.out.1.up).mono ?_;rw[HA.out];rintro e w1 ⟨rfl,δ1,rfl⟩)|(go_at_call 73;refine(CU r.af t.af B _ H.out.2.1.up).mono ?_;rw[HB.out];rintro e w1 ⟨rfl,δ2,rfl⟩)|(go_at_call 74;refine(xh r.aa t.aa B _ H.out.2.2.up).mono ?_;rw[HC.out];rintro e w1 ⟨rfl,δ3,rfl⟩));go_ret;exact⟨by rw[HV.out];rfl,ag⟩
end
section
open Hd
def dc:aW:=⟨⟨none,0,none,0,none,0⟩,⟨none,0,none,0⟩,⟨none,0,none,0,none,0⟩⟩
def cS:aO:=⟨⟨⟨0,0⟩,⟨0,0⟩,[],[],[]⟩,⟨0,[],[]⟩,⟨[],0,[],[]⟩⟩
theorem Np:aG dc cS=#[.int .i64 0,.int .i64 0,.int .i64 0,.int .i64 0,.slice none 0 0,.slice none 0 0,.slice none 0 0,.int .i64 0,.slice none 0 0,.slice none 0 0,.slice none 0 0,.int .i64 0,.slice none 0 0,.slice none 0 0]:=rfl
def aK(base:Nat)(w:nJ)(r:aW)(t:aO):Prop:=dR base w r.aF t.aF/\eP base w r.af t.af/\fU base w r.aa t.aa
theorem aK.is{base:Nat}{w:nJ}{r:aW}{t:aO}(h:aK base w r t):aN w.heap.size w r t:=⟨h.1.is,⟨Sl.bU h.2.1.1,Sl.bU h.2.1.2⟩,h.2.2.is⟩
def Small(t:aO):Prop:=(t.aF.av.length<=1000/\t.aF.aB.length<=1000/\t.aF.aU.length<=1000)/\(t.af.hs.length<=1000/\t.af.ps.length<=1000)/\(t.aa.kinds.length<=1000/\t.aa.parts.length<=1000/\t.aa.bars.length<=1000)
theorem abw(cs:Array nK)(hn:cs.size=14)(v0 v1 v2 v3 v4 v5 v6 v7 v8 v9 v10 v11 v12 v13:nK):((((((((((((((cs.setIfInBounds 0 v0).setIfInBounds 1 v1).setIfInBounds 2 v2).setIfInBounds 3 v3).setIfInBounds 4 v4).setIfInBounds 5 v5).setIfInBounds 6 v6).setIfInBounds 7 v7).setIfInBounds 8 v8).setIfInBounds 9 v9).setIfInBounds 10 v10).setIfInBounds 11 v11).setIfInBounds 12 v12).setIfInBounds 13 v13)=#[v0,v1,v2,v3,v4,v5,v6,v7,v8,v9,v10,v11,v12,v13]:=by
 apply Array.toList_inj.1;simp only[Array.toList_setIfInBounds];obtain⟨l⟩:=cs;match l,hn with
 |[_,_,_,_,_,_,_,_,_,_,_,_,_,_],_=>rfl
theorem ay.aaj{W:nJ}{b:Nat}{T:TypeId}{cs:Array nK}(h:ay W b T cs)(hn:cs.size=14)(v0 v1 v2 v3 v4 v5 v6 v7 v8 v9 v10 v11 v12 v13:nK):ay ((((((((((((((W.setCell ⟨b,0,none⟩ v0).setCell ⟨b,1,none⟩ v1).setCell ⟨b,2,none⟩ v2).setCell ⟨b,3,none⟩ v3).setCell ⟨b,4,none⟩ v4).setCell ⟨b,5,none⟩ v5).setCell ⟨b,6,none⟩ v6).setCell ⟨b,7,none⟩ v7).setCell ⟨b,8,none⟩ v8).setCell ⟨b,9,none⟩ v9).setCell ⟨b,10,none⟩ v10).setCell ⟨b,11,none⟩ v11).setCell ⟨b,12,none⟩ v12).setCell ⟨b,13,none⟩ v13) b T #[v0,v1,v2,v3,v4,v5,v6,v7,v8,v9,v10,v11,v12,v13]:=by have k:=((((((((((((((h.set 0 v0).set 1 v1).set 2 v2).set 3 v3).set 4 v4).set 5 v5).set 6 v6).set 7 v7).set 8 v8).set 9 v9).set 10 v10).set 11 v11).set 12 v12).set 13 v13);rw[abw cs hn] at k;exact k
theorem iV(r:aW)(t:aO)(hs:Small t)(B:Nat)(w:nJ)(h:aN B w r t)[hB:Le B w]:Calls nH 42 #[aY r t] w fun e w'=>∃(r':aW) (δ:nJ),e=.returned (aY r' t)/\w'=ah w δ/\aK w.heap.size (ah w δ) r' t:=by
 have H:=qh h;have HS:=qh hs;clear h hs;go_enter Tryz.func42,Tryz.ntmps42;go_upto_region 1 with fail;refine QAX ?_;intro W1 aH cJ dF cW di dz eL b1;have b2:ay W1 (w.heap.size+1) 39 (aG dc cS):=by rw[aH.out];exact ay.new nV
 obtain⟨x0,x1,x2,x3,x4,x5,x6,x7,x8,x9,yQ,yP,ve,yO⟩:=b1.ax;obtain⟨y0,y1,y2,y3,y4,y5,y6,y7,y8,y9,y10,y11,y12,y13⟩:=b2.ax;have yf:=b2.free;have B2:=qh b2;have hlt2:=b2.tN;clear aH b1 b2;go_region_held3 (fun w'=>w'.cell? ⟨w.heap.size,0,none⟩=some (.int .i64 t.aF.aP.lo)/\w'.cell? ⟨w.heap.size,1,none⟩=some (.int .i64 t.aF.aP.hi)/\w'.cell? ⟨w.heap.size,2,none⟩=some (.int .i64 t.aF.cur.lo)/\w'.cell? ⟨w.heap.size,3,none⟩=some (.int .i64 t.aF.cur.hi)/\w'.cell? ⟨w.heap.size,4,none⟩=some (.slice r.aF.gA t.aF.av.length r.aF.gc)/\w'.cell? ⟨w.heap.size,5,none⟩=some (.slice r.aF.aA t.aF.aB.length r.aF.ac)/\w'.cell? ⟨w.heap.size,6,none⟩=some (.slice r.aF.wA t.aF.aU.length r.aF.wc) /\
  w'.cell? ⟨w.heap.size,7,none⟩=some (.int .i64 t.af.m)/\w'.cell? ⟨w.heap.size,8,none⟩=some (.slice r.af.hA t.af.hs.length r.af.hc)/\w'.cell? ⟨w.heap.size,9,none⟩=some (.slice r.af.pA t.af.ps.length r.af.pc)/\w'.cell? ⟨w.heap.size,10,none⟩=some (.slice r.aa.kA t.aa.kinds.length r.aa.kc)/\w'.cell? ⟨w.heap.size,11,none⟩=some (.int .i64 t.aa.floor)/\w'.cell? ⟨w.heap.size,12,none⟩=some (.slice r.aa.pA t.aa.parts.length r.aa.pc)/\w'.cell? ⟨w.heap.size,13,none⟩=some (.slice r.aa.bA t.aa.bars.length r.aa.bc))
  (refine⟨?_,?_,?_,?_,?_,?_,?_,?_,?_,?_,?_,?_,?_,?_⟩<;>go_simp)
  (first|(go_at_call 82;refine(LC r.aF t.aF B _ H.out.1.up HS.out.1.1 HS.out.1.2.1 HS.out.1.2.2).mono ?_;rintro e w1 ⟨r1,δ1,rfl,rfl,o1⟩;have O1:=qh o1;clear o1)|(go_at_call 83;refine(Vh r.af t.af B _ H.out.2.1.up HS.out.2.1.1 HS.out.2.1.2).mono ?_;rintro e w1 ⟨r2,δ2,rfl,rfl,o2⟩;have O2:=qh o2;clear o2)|(go_at_call 84;refine(Gq r.aa t.aa B _ H.out.2.2.up HS.out.2.2.1 HS.out.2.2.2.1 HS.out.2.2.2.2).mono ?_;rintro e w1 ⟨r3,δ3,rfl,rfl,o3⟩;have O3:=qh o3;clear o3))
 go_wp2_with fail;have base:W1.heap.size<=W1.drew.heap.size:=nR _;refine iI (T:=39) (cs:=aG ⟨r1,r2,r3⟩ t) aq Tryz.results42 rfl ?box rfl ?_;case box=>refine ay.aaj (cs:=aG dc cS) ?_ rfl _ _ _ _ _ _ _ _ _ _ _ _ _ _;exact(((show ay W1.drew (w.heap.size+1) _ _ from B2.out).ah δ1).ah δ2).ah δ3
 refine⟨⟨r1,r2,r3⟩,_,rfl,ai,?_⟩;refine QDF ?_;refine⟨?_,?_,?_⟩
 ·refine dR.mono (base:=W1.heap.size) ?_ cW.out;iterate 14 (refine dR.set ?_ hlt2 _)
  exact(O1.out.up (W:=ah (ah W1.drew δ1) δ2)).up (W:=ah (ah (ah W1.drew δ1) δ2) δ3)
 ·refine eP.mono (base:=W1.heap.size) ?_ cW.out;iterate 14 (refine eP.set ?_ hlt2 _)
  exact(O2.out.mono (inferInstance:Le W1.heap.size (ah W1.drew δ1)).out).up
 ·refine fU.mono (base:=W1.heap.size) ?_ cW.out;iterate 14 (refine fU.set ?_ hlt2 _)
  exact O3.out.mono (inferInstance:Le W1.heap.size (ah (ah W1.drew δ1) δ2)).out
end
end Go.Proofs.YtpnnapeoanafdaaGreatDoor
