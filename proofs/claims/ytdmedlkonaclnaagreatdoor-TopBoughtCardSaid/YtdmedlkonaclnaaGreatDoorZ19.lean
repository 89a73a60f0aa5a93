/- A part of the proof that a law of layer 12 holds, cut small by a program (names and blanks): Ht1, Ht2. -/
import Derived.Laws.ResultCell
import Derived.Test.YtdmedlkonaclnaaGreatDoorZ10
import Derived.Test.YtdmedlkonaclnaaGreatDoorZ18
set_option maxRecDepth 100000
set_option maxHeartbeats 40000000
set_option linter.unusedVariables false
set_option linter.unusedSimpArgs false
namespace Go.Proofs.YtdmedlkonaclnaaGreatDoor
open Go.RowKit
open Nat renaming le_refl → nR
open Go.Proofs.Tryz renaming prog → nH
open Go renaming World → nJ, Value → nK
section
open Hd
structure aQ where
 aF:eP
 ah:cw
 aa:eR
def aE(r:aQ)(t:aW):Array nK:=#[.int .i64 t.aF.aP.lo,.int .i64 t.aF.aP.hi,.int .i64 t.aF.cur.lo,.int .i64 t.aF.cur.hi,.slice r.aF.gA t.aF.ay.length r.aF.gc,.slice r.aF.aA t.aF.aB.length r.aF.ac,.slice r.aF.wA t.aF.aU.length r.aF.wc,
 .int .i64 t.ah.m,.slice r.ah.hA t.ah.hs.length r.ah.hc,.slice r.ah.pA t.ah.ps.length r.ah.pc,
 .slice r.aa.kA t.aa.kinds.length r.aa.kc,.int .i64 t.aa.floor,.slice r.aa.pA t.aa.parts.length r.aa.pc,.slice r.aa.bA t.aa.bars.length r.aa.bc]
abbrev aO(r:aQ)(t:aW):nK:=.agg (aE r t)
def aJ(B:Nat)(w:nJ)(r:aQ)(t:aW):Prop:=cg B w r.aF t.aF/\bJ B w r.ah t.ah/\bT B w r.aa t.aa
section
variable{B:Nat}{w:nJ}{r:aQ}{t:aW}
@[go_sem] theorem VS:aJ B w.drew r t↔aJ B w r t:=Iff.rfl
theorem aJ.up{w':nJ}(k:aJ B w r t)[hg:au B w w']:aJ B w' r t:=⟨k.1.up,k.2.1.up,k.2.2.up⟩
theorem aJ.wide{W:nJ}(k:aJ B w r t)[au B w W][hB:Le B W]:aJ W.heap.size W r t:=⟨k.1.wide,k.2.1.wide,k.2.2.wide⟩
end
theorem aM(r:aQ)(t:aW):(aE r t).all (·.oneCell')=true:=by simp[aE,Value.oneCell']
theorem ai:fT nH 39 14:=fT.mk' Tryz.underlying39 rfl nP
theorem ax.az{w:nJ}{b:Nat}{T:TypeId}{r:aQ}{t:aW}(h:ax w b T (aE r t)):w.cell? ⟨b,0,none⟩=some (.int .i64 t.aF.aP.lo)/\w.cell? ⟨b,1,none⟩=some (.int .i64 t.aF.aP.hi)/\w.cell? ⟨b,2,none⟩=some (.int .i64 t.aF.cur.lo)/\w.cell? ⟨b,3,none⟩=some (.int .i64 t.aF.cur.hi)/\w.cell? ⟨b,4,none⟩=some (.slice r.aF.gA t.aF.ay.length r.aF.gc)/\w.cell? ⟨b,5,none⟩=some (.slice r.aF.aA t.aF.aB.length r.aF.ac)/\w.cell? ⟨b,6,none⟩=some (.slice r.aF.wA t.aF.aU.length r.aF.wc)/\w.cell? ⟨b,7,none⟩=some (.int .i64 t.ah.m)/\w.cell? ⟨b,8,none⟩=some (.slice r.ah.hA t.ah.hs.length r.ah.hc)/\w.cell? ⟨b,9,none⟩=some (.slice r.ah.pA t.ah.ps.length r.ah.pc)/\w.cell? ⟨b,10,none⟩=some (.slice r.aa.kA t.aa.kinds.length r.aa.kc)/\w.cell? ⟨b,11,none⟩=some (.int .i64 t.aa.floor)/\w.cell? ⟨b,12,none⟩=some (.slice r.aa.pA t.aa.parts.length r.aa.pc)/\w.cell? ⟨b,13,none⟩=some (.slice r.aa.bA t.aa.bars.length r.aa.bc):=
 ⟨h.cell rfl,h.cell rfl,h.cell rfl,h.cell rfl,h.cell rfl,h.cell rfl,h.cell rfl,h.cell rfl,h.cell rfl,h.cell rfl,h.cell rfl,h.cell rfl,h.cell rfl,h.cell rfl⟩
theorem eu{P:Program}{W:nJ}{b:Nat}{T ty:TypeId}{cs:Array nK}{n:Nat}{fn:Func}{p u:Tmp}{R:Ending->nJ->Prop}{t:Array nK}(hT:fT P ty n)(hr:fn.results=#[.cell p ty,.tmp u])(hp:t.getD p undef=.pointer (some ⟨b,0,none⟩))(hb:ax W b T cs)(hn:cs.size=n)(h:R (.returned (.tuple #[.agg cs,t.getD u undef])) W):bodyPost P fn R .ret { tmps:=t,defers:=[] } W:=by obtain⟨⟨d,h1,h2⟩,h3⟩:=hT;subst hn;refine bodyPost_ret (v:=.tuple #[.agg cs,t.getD u undef]) ?_ rfl h;rw[results_cell_tmp hr,hp];have hl:=run_loadVar_row (P:=P) W b T ty cs (0,0) d hb h1 (by cases d<;>first|rfl|cases h2) h3;simp only[asAddr,Sem.run_pure,Result.andThen_ok,hl]
theorem aak(t:aW){a b c:Bool}(ha:An.valid t.aF=a)(hb:Me.valid t.ah=b)(hc:Sa.valid t.aa=c):aG t=(a&&b&&c):=by unfold aG;rw[ha,hb,hc]
theorem sU(r:aQ)(t:aW)(B:Nat)(w:nJ)(h:aJ B w r t)[hB:Le B w]:Calls nH 42 #[aO r t] w fun e w'=>e=.returned (.int .i64 (cC (aG t) 120))/\∃δ,w'=af w δ:=by
 have H:=qh h;clear h;rcases ha:An.valid t.aF with _|_;all_goals rcases hb:Me.valid t.ah with _|_
 all_goals rcases hc:Sa.valid t.aa with _|_
 all_goals
  have HV:=qh (aak t ha hb hc);first|(have HA:Hid (cC (An.valid t.aF) 20=20):=by unfold Hid;rw[ha];rfl)|(have HA:Hid (cC (An.valid t.aF) 20=0):=by unfold Hid;rw[ha];rfl)
  first|(have HB:Hid (cC (Me.valid t.ah) 40=40):=by unfold Hid;rw[hb];rfl)|(have HB:Hid (cC (Me.valid t.ah) 40=0):=by unfold Hid;rw[hb];rfl)
  first|(have HC:Hid (cC (Sa.valid t.aa) 80=80):=by unfold Hid;rw[hc];rfl)|(have HC:Hid (cC (Sa.valid t.aa) 80=0):=by unfold Hid;rw[hc];rfl)
  clear ha hb hc;go_enter Tryz.func42,Tryz.ntmps42;go_upto_region 1 with fail;refine QAW ?_;intro W1 aH cJ dF cU dA dD b1;obtain⟨x0,x1,x2,x3,x4,x5,x6,x7,x8,x9,yA,yz,uT,yy⟩:=b1.az;clear aH b1;go_wp2_with (first|(go_at_call 47;refine(Eb r.aF t.aF B _ H.out.1.up).mono ?_;rw[HA.out];rintro e w1 ⟨rfl,δ1,rfl⟩)|(go_at_call 85;refine(FT r.ah t.ah B _ H.out.2.1.up).mono ?_;rw[HB.out];rintro e w1 ⟨rfl,δ2,rfl⟩)|(go_at_call 66;refine(Ff r.aa t.aa B _ H.out.2.2.up).mono ?_;rw[HC.out];rintro e w1 ⟨rfl,δ3,rfl⟩));go_ret;exact⟨by rw[HV.out];rfl,ag⟩
theorem ct(r:aQ)(t:aW)(B:Nat)(w:nJ)(h:aJ B w r t)[hB:Le B w]:Calls nH 9 #[aO r t] w fun e w'=>e=.returned (.int .i64 (cC (aG t) 120))/\∃δ,w'=af w δ:=by
 have H:=qh h;clear h;rcases ha:An.valid t.aF with _|_;all_goals rcases hb:Me.valid t.ah with _|_
 all_goals rcases hc:Sa.valid t.aa with _|_
 all_goals
  have HV:=qh (aak t ha hb hc);first|(have HA:Hid (cC (An.valid t.aF) 20=20):=by unfold Hid;rw[ha];rfl)|(have HA:Hid (cC (An.valid t.aF) 20=0):=by unfold Hid;rw[ha];rfl)
  first|(have HB:Hid (cC (Me.valid t.ah) 40=40):=by unfold Hid;rw[hb];rfl)|(have HB:Hid (cC (Me.valid t.ah) 40=0):=by unfold Hid;rw[hb];rfl)
  first|(have HC:Hid (cC (Sa.valid t.aa) 80=80):=by unfold Hid;rw[hc];rfl)|(have HC:Hid (cC (Sa.valid t.aa) 80=0):=by unfold Hid;rw[hc];rfl)
  clear ha hb hc;go_enter Tryz.func9,Tryz.ntmps9;go_upto_region 1 with fail;refine QAW ?_;intro W1 aH cJ dF cU dA dD b1;obtain⟨x0,x1,x2,x3,x4,x5,x6,x7,x8,x9,yA,yz,uT,yy⟩:=b1.az;clear aH b1;go_wp2_with (first|(go_at_call 35;refine(jU r.aF t.aF B _ H.out.1.up).mono ?_;rw[HA.out];rintro e w1 ⟨rfl,δ1,rfl⟩)|(go_at_call 36;refine(Co r.ah t.ah B _ H.out.2.1.up).mono ?_;rw[HB.out];rintro e w1 ⟨rfl,δ2,rfl⟩)|(go_at_call 37;refine(wT r.aa t.aa B _ H.out.2.2.up).mono ?_;rw[HC.out];rintro e w1 ⟨rfl,δ3,rfl⟩));go_ret;exact⟨by rw[HV.out];rfl,ag⟩
end
section
open Hd
def dc:aQ:=⟨⟨none,0,none,0,none,0⟩,⟨none,0,none,0⟩,⟨none,0,none,0,none,0⟩⟩
def cO:aW:=⟨⟨⟨0,0⟩,⟨0,0⟩,[],[],[]⟩,⟨0,[],[]⟩,⟨[],0,[],[]⟩⟩
theorem Mj:aE dc cO=#[.int .i64 0,.int .i64 0,.int .i64 0,.int .i64 0,.slice none 0 0,.slice none 0 0,.slice none 0 0,.int .i64 0,.slice none 0 0,.slice none 0 0,.slice none 0 0,.int .i64 0,.slice none 0 0,.slice none 0 0]:=rfl
def aK(base:Nat)(w:nJ)(r:aQ)(t:aW):Prop:=dS base w r.aF t.aF/\eN base w r.ah t.ah/\fS base w r.aa t.aa
theorem aK.is{base:Nat}{w:nJ}{r:aQ}{t:aW}(h:aK base w r t):aJ w.heap.size w r t:=⟨h.1.is,⟨Sl.bU h.2.1.1,Sl.bU h.2.1.2⟩,h.2.2.is⟩
def Small(t:aW):Prop:=(t.aF.ay.length<=1000/\t.aF.aB.length<=1000/\t.aF.aU.length<=1000)/\(t.ah.hs.length<=1000/\t.ah.ps.length<=1000)/\(t.aa.kinds.length<=1000/\t.aa.parts.length<=1000/\t.aa.bars.length<=1000)
theorem aas(cs:Array nK)(hn:cs.size=14)(v0 v1 v2 v3 v4 v5 v6 v7 v8 v9 v10 v11 v12 v13:nK):((((((((((((((cs.setIfInBounds 0 v0).setIfInBounds 1 v1).setIfInBounds 2 v2).setIfInBounds 3 v3).setIfInBounds 4 v4).setIfInBounds 5 v5).setIfInBounds 6 v6).setIfInBounds 7 v7).setIfInBounds 8 v8).setIfInBounds 9 v9).setIfInBounds 10 v10).setIfInBounds 11 v11).setIfInBounds 12 v12).setIfInBounds 13 v13)=#[v0,v1,v2,v3,v4,v5,v6,v7,v8,v9,v10,v11,v12,v13]:=by
 apply Array.toList_inj.1;simp only[Array.toList_setIfInBounds];obtain⟨l⟩:=cs;match l,hn with
 |[_,_,_,_,_,_,_,_,_,_,_,_,_,_],_=>rfl
theorem ax.Ze{W:nJ}{b:Nat}{T:TypeId}{cs:Array nK}(h:ax W b T cs)(hn:cs.size=14)(v0 v1 v2 v3 v4 v5 v6 v7 v8 v9 v10 v11 v12 v13:nK):ax ((((((((((((((W.setCell ⟨b,0,none⟩ v0).setCell ⟨b,1,none⟩ v1).setCell ⟨b,2,none⟩ v2).setCell ⟨b,3,none⟩ v3).setCell ⟨b,4,none⟩ v4).setCell ⟨b,5,none⟩ v5).setCell ⟨b,6,none⟩ v6).setCell ⟨b,7,none⟩ v7).setCell ⟨b,8,none⟩ v8).setCell ⟨b,9,none⟩ v9).setCell ⟨b,10,none⟩ v10).setCell ⟨b,11,none⟩ v11).setCell ⟨b,12,none⟩ v12).setCell ⟨b,13,none⟩ v13) b T #[v0,v1,v2,v3,v4,v5,v6,v7,v8,v9,v10,v11,v12,v13]:=by have k:=((((((((((((((h.set 0 v0).set 1 v1).set 2 v2).set 3 v3).set 4 v4).set 5 v5).set 6 v6).set 7 v7).set 8 v8).set 9 v9).set 10 v10).set 11 v11).set 12 v12).set 13 v13);rw[aas cs hn] at k;exact k
theorem iJ(r:aQ)(t:aW)(hs:Small t)(B:Nat)(w:nJ)(h:aJ B w r t)[hB:Le B w]:Calls nH 11 #[aO r t] w fun e w'=>∃(r':aQ) (δ:nJ),e=.returned (aO r' t)/\w'=af w δ/\aK w.heap.size (af w δ) r' t:=by
 have H:=qh h;have HS:=qh hs;clear h hs;go_enter Tryz.func11,Tryz.ntmps11;go_upto_region 1 with fail;refine QAX ?_;intro W1 aH cJ dF cU dA dD eI b1;have b2:ax W1 (w.heap.size+1) 39 (aE dc cO):=by rw[aH.out];exact ax.new nV
 obtain⟨x0,x1,x2,x3,x4,x5,x6,x7,x8,x9,yA,yz,uT,yy⟩:=b1.az;obtain⟨y0,y1,y2,y3,y4,y5,y6,y7,y8,y9,y10,y11,y12,y13⟩:=b2.az;have yf:=b2.free;have B2:=qh b2;have hlt2:=b2.tN;clear aH b1 b2;go_region_held3 (fun w'=>w'.cell? ⟨w.heap.size,0,none⟩=some (.int .i64 t.aF.aP.lo)/\w'.cell? ⟨w.heap.size,1,none⟩=some (.int .i64 t.aF.aP.hi)/\w'.cell? ⟨w.heap.size,2,none⟩=some (.int .i64 t.aF.cur.lo)/\w'.cell? ⟨w.heap.size,3,none⟩=some (.int .i64 t.aF.cur.hi)/\w'.cell? ⟨w.heap.size,4,none⟩=some (.slice r.aF.gA t.aF.ay.length r.aF.gc)/\w'.cell? ⟨w.heap.size,5,none⟩=some (.slice r.aF.aA t.aF.aB.length r.aF.ac)/\w'.cell? ⟨w.heap.size,6,none⟩=some (.slice r.aF.wA t.aF.aU.length r.aF.wc) /\
  w'.cell? ⟨w.heap.size,7,none⟩=some (.int .i64 t.ah.m)/\w'.cell? ⟨w.heap.size,8,none⟩=some (.slice r.ah.hA t.ah.hs.length r.ah.hc)/\w'.cell? ⟨w.heap.size,9,none⟩=some (.slice r.ah.pA t.ah.ps.length r.ah.pc)/\w'.cell? ⟨w.heap.size,10,none⟩=some (.slice r.aa.kA t.aa.kinds.length r.aa.kc)/\w'.cell? ⟨w.heap.size,11,none⟩=some (.int .i64 t.aa.floor)/\w'.cell? ⟨w.heap.size,12,none⟩=some (.slice r.aa.pA t.aa.parts.length r.aa.pc)/\w'.cell? ⟨w.heap.size,13,none⟩=some (.slice r.aa.bA t.aa.bars.length r.aa.bc))
  (refine⟨?_,?_,?_,?_,?_,?_,?_,?_,?_,?_,?_,?_,?_,?_⟩<;>go_simp)
  (first|(go_at_call 39;refine(Kw r.aF t.aF B _ H.out.1.up HS.out.1.1 HS.out.1.2.1 HS.out.1.2.2).mono ?_;rintro e w1 ⟨r1,δ1,rfl,rfl,o1⟩;have O1:=qh o1;clear o1)|(go_at_call 40;refine(TZ r.ah t.ah B _ H.out.2.1.up HS.out.2.1.1 HS.out.2.1.2).mono ?_;rintro e w1 ⟨r2,δ2,rfl,rfl,o2⟩;have O2:=qh o2;clear o2)|(go_at_call 41;refine(Fs r.aa t.aa B _ H.out.2.2.up HS.out.2.2.1 HS.out.2.2.2.1 HS.out.2.2.2.2).mono ?_;rintro e w1 ⟨r3,δ3,rfl,rfl,o3⟩;have O3:=qh o3;clear o3))
 go_wp2_with fail;have base:W1.heap.size<=W1.drew.heap.size:=nR _;refine gZ (T:=39) (cs:=aE ⟨r1,r2,r3⟩ t) ai Tryz.results11 rfl ?box rfl ?_;case box=>refine ax.Ze (cs:=aE dc cO) ?_ rfl _ _ _ _ _ _ _ _ _ _ _ _ _ _;exact(((show ax W1.drew (w.heap.size+1) _ _ from B2.out).af δ1).af δ2).af δ3
 refine⟨⟨r1,r2,r3⟩,_,rfl,aq,?_⟩;refine QDJ ?_;refine⟨?_,?_,?_⟩
 ·refine dS.mono (base:=W1.heap.size) ?_ cU.out;iterate 14 (refine dS.set ?_ hlt2 _)
  exact(O1.out.up (W:=af (af W1.drew δ1) δ2)).up (W:=af (af (af W1.drew δ1) δ2) δ3)
 ·refine eN.mono (base:=W1.heap.size) ?_ cU.out;iterate 14 (refine eN.set ?_ hlt2 _)
  exact(O2.out.mono (inferInstance:Le W1.heap.size (af W1.drew δ1)).out).up
 ·refine fS.mono (base:=W1.heap.size) ?_ cU.out;iterate 14 (refine fS.set ?_ hlt2 _)
  exact O3.out.mono (inferInstance:Le W1.heap.size (af (af W1.drew δ1) δ2)).out
end
end Go.Proofs.YtdmedlkonaclnaaGreatDoor
