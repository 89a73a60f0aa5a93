/- A part of the proof that a law of layer 12 holds, cut small by a program (names and blanks): Hk13. -/
import Derived.Test.YtpnnapeoanafdaaGreatDoorZ56
import Derived.Test.YtpnnapeoanafdaaGreatDoorZ57
set_option maxRecDepth 100000
set_option maxHeartbeats 40000000
set_option linter.unusedVariables false
set_option linter.unusedSimpArgs false
namespace Go.Proofs.YtpnnapeoanafdaaGreatDoor
open Go.RowKit
open Nat renaming le_trans → nT, lt_of_lt_of_le → nL, le_refl → nR
open Go.Proofs.Tryz renaming prog → nH
open Go renaming World → nJ, Value → nK
section
open Hd
theorem textD_c(n:Int)(hn:-1000000<n/\n<1000000)(l:aQ)(hl:Lib.itoa n=l)(w:nJ):Calls nH 34 #[.int .i64 n] w fun e w'=>e=.returned (.string (str l))/\∃δ,w'=ah w δ:=by
 by_cases h1:-10000<=n
 ·exact yU n ⟨h1,nQ⟩ l hl w
 unfold Lib.itoa at hl;rw[if_pos nQ] at hl;have h0:n<0:=nQ;obtain⟨m,hm⟩:∃m:Nat,-n=m:=⟨n.natAbs,nQ⟩;have e:n.natAbs=m:=nQ;rw[e] at hl;have hb:m<10 ^ (8+1):=by simp;omega
 obtain⟨x,hx⟩:∃x,Lib.decDigits m=x:=⟨_,rfl⟩;rw[hx] at hl;have hxl:x.length<=9:=by rw[<-hx];exact(dQ m).2.2.2.2 8 hb
 have a1:=fun(W:nJ)=>eA (P:=nH) W [45] x (by simp;omega);have a2:∀W:nJ,(Op.stringOp .add (⟨#[45]⟩:ByteArray) (str x)).run nH W=.ok (.string (str l)) W:=by intro W;rw[<-hl];exact a1 W
 have HX:=qh hx;have HB:=qh hb;have HM:=qh hm;clear hx hb e hl a1 h1;go_enter Tryz.func34,Tryz.ntmps34;go_wp2_with (go_at_call 34;refine(Mm 8 nQ m HB.out x HX.out _).mono ?_;rintro e w1 ⟨rfl,δ1,rfl⟩);go_ret;exact⟨rfl,ag⟩
theorem small_c(n:Int)(b:Bool)(hb:decide (-1000000<n/\n<1000000)=b)(w:nJ):Calls nH 21 #[.int .i64 n] w fun e w'=>e=.returned (.bool b)/\∃δ,w'=ah w δ:=by
 have HB:=qh hb;by_cases h1:-1000000<n;all_goals by_cases h2:n<1000000
 all_goals
  have HC:Hid (b=(decide (-1000000<n)&&decide (n<1000000))):=qh (by rw[<-HB.out,Bool.decide_and]);first|rw[decide_eq_true h1] at HC|rw[decide_eq_false h1] at HC
  first|rw[decide_eq_true h2] at HC|rw[decide_eq_false h2] at HC
  have d1:decide (-1000000<n)=decide (-1000000<n):=rfl;clear hb d1;go_enter Tryz.func21,Tryz.ntmps21;go_wp2;go_ret;exact⟨by rw[HC.out];first|rfl|(simp[h1,h2]),ag⟩
section
variable{P:Program}{md:Region.Mode}{ops:Array Oper}{Q:Exit->Act->nJ->Prop}{V:nJ}{oi:Oper}{v:nK}{f:Nat}{l:Array Bool}{a:Act}{w:nJ}{fn:FuncId}{args:Array nK}{R:Ending->nJ->Prop}
theorem op_cR(i:Nat)(hi:ops[i]?=some oi)(hw:Region.wanted oi (yielded ops a.tmps)=true)(hx:(execOp a.eval oi).run P w=.ok (.enter fn args) w)(hg:aD V.heap.size V w)(hl:Le V.heap.size w)(hC:Calls P fn args w R)(hR:∀e w',R e w'->∃v δ,e=.returned v/\w'=ah w δ)(h:∀v w',R (.returned v) w'->aD V.heap.size V w'->Le V.heap.size w'->wpAnyH P md ops Q (fun W=>aD V.heap.size V W) f (l.setIfInBounds i true) (a.put oi.dst v) w'):wpOp P ops Q i (fun a' w'=>aD V.heap.size V w'/\wpAnyH P md ops Q (fun W=>aD V.heap.size V W) f (l.setIfInBounds i true) a' w') a w:=by refine wpOp_rn hi hw ?_;unfold Oper.wp;rw[hx,Oper.upon_enter];refine hC.mono ?_;intro e w' k;obtain⟨v,δ,rfl,rfl⟩:=hR e w' k;exact⟨inferInstance,h _ _ k inferInstance inferInstance⟩
theorem op_c(i:Nat)(hi:ops[i]?=some oi)(hw:Region.wanted oi (yielded ops a.tmps)=true)(hx:(execOp a.eval oi).run P w=.ok (.enter fn args) w)(hg:aD V.heap.size V w)(hl:Le V.heap.size w)(hC:Calls P fn args w fun e w'=>e=.returned v/\∃δ,w'=ah w δ)(h:∀δ,aD V.heap.size V (ah w δ)->Le V.heap.size (ah w δ)->wpAnyH P md ops Q (fun W=>aD V.heap.size V W) f (l.setIfInBounds i true) (a.put oi.dst v) (ah w δ)):wpOp P ops Q i (fun a' w'=>aD V.heap.size V w'/\wpAnyH P md ops Q (fun W=>aD V.heap.size V W) f (l.setIfInBounds i true) a' w') a w:=
 op_cR i hi hw hx hg hl hC (fun e w' k=>⟨_,_,k.1,k.2.choose_spec⟩) fun v' w' k g' l'=>by obtain⟨h1,δ,rfl⟩:=k;injection h1 with h1;subst h1;exact h δ g' l'
theorem wpH_one{S:nJ->Prop}(i:Nat)(hr:Region.ready md ops l=[i])(h:wpOp P ops Q i (fun a' w'=>S w'/\wpAnyH P md ops Q S f (l.setIfInBounds i true) a' w') a w):wpAnyH P md ops Q S (f+1) l a w:=
 wpAnyH_all (rs:=[i]) hr nV fun j hj=>by obtain rfl:=List.mem_singleton.1 hj;exact h
theorem wpH_c(i:Nat)(hg:aD V.heap.size V w)(hl:Le V.heap.size w)(hC:Calls P fn args w fun e w'=>e=.returned v/\∃δ,w'=ah w δ)(h:∀δ,aD V.heap.size V (ah w δ)->Le V.heap.size (ah w δ)->wpAnyH P md ops Q (fun W=>aD V.heap.size V W) f (l.setIfInBounds i true) (a.put oi.dst v) (ah w δ))(hi:ops[i]?=some oi:=by exact rfl)(hr:Region.ready md ops l=[i]:=by kernel_rfl)(hw:Region.wanted oi (yielded ops a.tmps)=true:=by rfl)(hx:(execOp a.eval oi).run P w=.ok (.enter fn args) w:=by go_simp):wpAnyH P md ops Q (fun W=>aD V.heap.size V W) (f+1) l a w:=wpH_one i hr (op_c i hi hw hx hg hl hC h)
theorem op_a{o:Obj}(i:Nat)(hi:ops[i]?=some oi)(hw:Region.wanted oi (yielded ops a.tmps)=true)(hx:(execOp a.eval oi).run P w=.ok (.value v) (w.alloc o))(hg:aD V.heap.size V w)(hl:Le V.heap.size w)(h:aD V.heap.size V (w.alloc o)->Le V.heap.size (w.alloc o)->wpAnyH P md ops Q (fun W=>aD V.heap.size V W) f (l.setIfInBounds i true) (a.put oi.dst v) (w.alloc o)):wpOp P ops Q i (fun a' w'=>aD V.heap.size V w'/\wpAnyH P md ops Q (fun W=>aD V.heap.size V W) f (l.setIfInBounds i true) a' w') a w:=by refine wpOp_rn hi hw ?_;unfold Oper.wp;rw[hx,Oper.upon_value];exact⟨inferInstance,h inferInstance inferInstance⟩
theorem wpH_mid{r:aW}{t:aO}{g off n:Nat}{ty:TypeId}{cs':Array nK}(i:Nat)(hT:gi P ty n)(hb:ay V g 39 (aG r t))(hS:aD V.heap.size V w)(h:wpAnyH P md ops Q (fun W=>aD V.heap.size V W) f (l.setIfInBounds i true) (a.put oi.dst (.agg cs')) w)(x:Operand)(hi:ops[i]?=some oi:=by exact rfl)(hk:sB md ops l i=true:=by kernel_rfl)(hw:Region.wanted oi (yielded ops a.tmps)=true:=by rfl)(ho:oi.op=.load ty x:=by exact rfl)(hx:a.eval x=.pointer (some ⟨g,off,none⟩):=by exact rfl)(he:((aG r t).toList.drop off).take n=cs'.toList:=by exact rfl)(hn:cs'.size=n:=by exact rfl)(hQ:∀c a w,Q (.panic c) (a.put oi.dst (.agg cs')) w->Q (.panic c) a w:=by exact fun _ _ _ h=>h):wpAnyH P md ops Q (fun W=>aD V.heap.size V W) (f+1) l a w:=
 gN i _ hi hk (lG hT hw x ho hx (fun W h=>ay.eO (hg:=h) hb) he hn) hS h hQ
end
section
variable(r:aW)(t:aO)(hv:aE t=true)(B:Nat)(W:nJ)(hT:aN B W r t)[hB:Le B W]
def LstR(p:List Int × Int)(w:nJ)(e:Ending)(w':nJ):Prop:=∃(A:Option Addr) (c:Nat) (δ:nJ),e=.returned (.tuple #[.slice A p.1.length c,.int .i64 p.2])/\w'=ah w δ/\Sl aI (ah w δ).heap.size (ah w δ) A c p.1
omit hB in
theorem a_of{fn:FuncId}{args:Array nK}{c:eB}{x y:Int}(h:Calls nH fn args W fun e w'=>e=.returned (.tuple #[.int .i64 x,.int .i64 y])/\∃δ,w'=ah W δ)(e:ew t c=(x,y)):Calls nH fn args W (eC (ew t c) W):=by rw[e];exact h
include hv hT in
theorem a_order:Calls nH 28 #[cH r.af t.af] W (LstR (lP t ⟨.order,[]⟩) W):=by have p2:=(aX.1 hv).2.1;have hl:(Me.fZ t.af).length=t.af.hs.length:=Me.ji (Me.gp (Me.aC.1 p2).2.2.2.2.2);refine(uK r.af t.af p2 B W hT.2.1).mono ?_;rintro e w' ⟨A,c,δ,h1,h2,h3⟩;refine⟨A,c,δ,?_,h2,h3.out⟩;rw[h1];show _=Ending.returned (.tuple #[.slice A (Me.fZ t.af).length c,_]);rw[hl];rfl
include hv hT in
theorem a_pack:Calls nH 31 #[fu r.aa t.aa] W (LstR (lP t ⟨.pack,[]⟩) W):=by refine(UC r.aa t.aa (aX.1 hv).2.2 B W hT.2.2).mono ?_;rintro e w' ⟨A,m,c,h1,h2,h3,δ,rfl⟩;exact⟨A,c,δ,by rw[h1,h2];rfl,rfl,h3⟩
end
theorem num_pk{t:aO}(hv:aE t=true)(V:nJ){fn:FuncId}{args:Array nK}(c:eB)(hk:cg c.w≠3)(h:∀W,[aD V.heap.size V W]->[Le V.heap.size W]->Calls nH fn args W (eC (ew t c) W)):∃v e x,Hid (∀W,aD V.heap.size V W->Le V.heap.size W->Calls nH fn args W fun e' w'=>e'=.returned (.tuple #[.int .i64 v,.int .i64 e])/\∃δ,w'=ah W δ)/\Hid (∀W,Calls nH 22 #[.int .i64 v,.int .i64 e] W fun e w'=>e=.returned (.string (str x))/\∃δ,w'=ah W δ)/\Hid (fY t c=x):=
 ⟨(ew t c).1,(ew t c).2,_,qh fun W _ _=>h W,qh fun W=>abh _ _ (fun _=>by have:=L4 hv c;omega) _ rfl W,qh (if_neg hk)⟩
theorem lst_pk{t:aO}(hv:aE t=true)(V:nJ){fn:FuncId}{args:Array nK}(c:eB)(hk:cg c.w=3)(h:∀W,[aD V.heap.size V W]->[Le V.heap.size W]->Calls nH fn args W (LstR (lP t c) W)):∃v e x,Hid (∀W,aD V.heap.size V W->Le V.heap.size W->Calls nH fn args W (LstR (v,e) W))/\Hid (∀(W:nJ) (A:Option Addr) (k:Nat),Sl aI W.heap.size W A k v->Calls nH 25 #[.slice A v.length k,.int .i64 e] W fun e w'=>e=.returned (.string (str x))/\∃δ,w'=ah W δ)/\Hid (fY t c=x):=
 ⟨(lP t c).1,(lP t c).2,_,qh fun W _ _=>h W,qh fun W A k hs=>abr _ _ (EN hv c) _ rfl A k W.heap.size W hs (hB:=⟨nR _⟩),qh (if_pos hk)⟩
def litQ(y:aQ):Array nK:=#[.string ⟨#[115,97,102,101]⟩,.string ⟨#[115,116,111,114,109]⟩,.string ⟨#[110,101,101,100]⟩,.string ⟨#[108,111,115,115]⟩,.string ⟨#[111,114,100,101,114]⟩,.string ⟨#[100,111,110,101]⟩,.string ⟨#[115,97,108,116]⟩,.string ⟨#[112,97,99,107]⟩,.string (str y),.string ⟨#[98,117,121]⟩]
theorem lawAsked_c(r:aW)(t:aO)(day:Int)(B:Nat)(w:nJ)(hT:aN B w r t)[hB:Le B w][h8:Le 8 w](hL:cT w):Calls nH 6 #[aY r t,.int .i64 day] w fun e w'=>e=.returned (.bool true)/\∃δ,w'=ah w δ:=by
 have H:=qh hT;have HL:=qh hL;clear hT hL;go_enter Tryz.func6,Tryz.ntmps6;go_upto_region 1 with fail;refine QBT ?_;intro W1 aH cJ dF cW di dz eL jG;refine QDK ?_;intro X1;obtain⟨g2,mu⟩:∃g,w.heap.size=g:=⟨_,rfl⟩;rw[mu] at X1 ⊢;have ig2:Lt g2 W1:=X1.out.lt;clear aH mu;go_wp2_with (refine au aq rfl _ rfl rfl X1.out rfl ?_);refine(qv r t [] none 0 B _ H.out.up Sl.none_).mono ?_;unfold kZ;rintro e w1 ⟨b,δ1,rfl,rfl,hr⟩;cases b with
 |false=>
  clear hr
  go_wp2_with (go_at_call 11;refine(dK _ HL.out.up).mono ?_;rintro e w1 ⟨rfl,δ2,rfl⟩)
  go_ret
  exact⟨rfl,ag⟩
 |true=>
  obtain⟨Hv,hv,Qr⟩:=hr rfl
  have HV:=qh hv
  clear hr Hv Qr
  by_cases hd:¬(-1000000<day/\day<1000000)
  ·have HS:=qh fun W:nJ=>small_c day false (decide_eq_false hd) W;clear hd hv;go_wp2_with (first|(go_at_call 21;refine(HS.out _).mono ?_;rintro e w1 ⟨rfl,δ2,rfl⟩)|(go_at_call 11;refine(dK _ HL.out.up).mono ?_;rintro e w1 ⟨rfl,δ2,rfl⟩));go_ret;exact⟨rfl,ag⟩
  have hd:=Decidable.not_not.1 hd
  have HS:=qh fun W:nJ=>small_c day true (decide_eq_true hd) W
  have HDy:=qh hd
  clear hd
  go_upto_region 3 with(first|(go_at_call 21;refine(HS.out _).mono ?_;rintro e w1 ⟨rfl,δ2,rfl⟩))
  refine aM fun V hV=>?_
  have Fo:Le B V:=fI hV
  have G9:aD B w V:=gy hV
  obtain⟨su,tZ,tY,sR⟩:=EO 8 w hV
  have X2:Hid (ay V g2 39 (aG r t)):=by rw[hV.out];exact qh (ay.eO X1.out)
  have lV:Le V.heap.size V:=⟨nR _⟩
  have HTV:Hid (aN V.heap.size V r t):=qh H.out.wide
  clear hV X1
  obtain⟨p1,p2,p3⟩:=aX.1 hv
  obtain⟨v0,e0,x0,F0,N0,A0⟩:=num_pk hv V ⟨.safe,[]⟩ nU fun W=>a_of _ _ (XD r.aF t.aF V.heap.size W HTV.out.up.1) (by rw[p1];rfl)
  obtain⟨v1,e1,x1,F1,N1,A1⟩:=num_pk hv V ⟨.gr,[]⟩ nU fun W=>a_of _ _ (Xt r.aF t.aF V.heap.size W HTV.out.up.1) (Ur p1 _)
  obtain⟨v2,e2,x2,F2,N2,A2⟩:=lst_pk hv V ⟨.nD,[]⟩ nU fun W=>by exact Yb r.aF t.aF V.heap.size W HTV.out.up.1
  obtain⟨v3,e3,x3,F3,N3,A3⟩:=num_pk hv V ⟨.jl,[]⟩ nU fun W=>a_of _ _ (KK r.af t.af p2 V.heap.size W HTV.out.up.2.1) rfl
  obtain⟨v4,e4,x4,F4,N4,A4⟩:=lst_pk hv V ⟨.order,[]⟩ nU fun W=>a_order r t hv V.heap.size W HTV.out.up
  obtain⟨v5,e5,x5,aaI,N5,A5⟩:=num_pk hv V ⟨.done,[]⟩ nU fun W=>a_of _ _ (PI r.af t.af p2 V.heap.size W HTV.out.up.2.1) rfl
  obtain⟨v6,e6,x6,F6,N6,A6⟩:=num_pk hv V ⟨.fV,[]⟩ nU fun W=>a_of _ _ (QO r.aa t.aa p3 V.heap.size W HTV.out.up.2.2) rfl
  obtain⟨v7,e7,x7,F7,N7,aaJ⟩:=lst_pk hv V ⟨.pack,[]⟩ nU fun W=>a_pack r t hv V.heap.size W HTV.out.up
  obtain⟨v8,e8,x8,F8,N8,A8⟩:=num_pk hv V ⟨.early,[day]⟩ (show cg Wd.early≠3 by decide) fun W=>a_of _ _ (QS r.aa t.aa p3 day V.heap.size W HTV.out.up.2.2) rfl
  obtain⟨v9,e9,x9,F9,aaL,A9⟩:=num_pk hv V ⟨.yB,[]⟩ nU fun W=>a_of _ _ (XG r.aa t.aa p3 V.heap.size W HTV.out.up.2.2) rfl
  have HLa:Hid ((askL day).map (fY t)=[x0,x1,x2,x3,x4,x5,x6,x7,x8,x9]):=qh (by
   show[fY t ⟨.safe,[]⟩,fY t ⟨.gr,[]⟩,fY t ⟨.nD,[]⟩,fY t ⟨.jl,[]⟩,fY t ⟨.order,[]⟩,fY t ⟨.done,[]⟩,fY t ⟨.fV,[]⟩,fY t ⟨.pack,[]⟩,fY t ⟨.early,[day]⟩,fY t ⟨.yB,[]⟩]=_
   rw[A0.out,A1.out,A2.out,A3.out,A4.out,A5.out,A6.out,aaJ.out,A8.out,A9.out])
  clear hv p1 p2 p3 A0 A1 A2 A3 A4 A5 A6 aaJ A8 A9
  go_cut [5] from 19 to 80 (fun s5 wx=>∃(gw:Nat),s5=.slice (some ⟨gw,0,none⟩) 10 10/\Hid (Sl bS wx.heap.size wx (some ⟨gw,0,none⟩) 10 [x0,x1,x2,x3,x4,x5,x6,x7,x8,x9])/\aD V.heap.size V wx/\Le V.heap.size wx)
  case first=>
   refine wp_region_held (S:=fun W=>aD V.heap.size V W) nP ?_;change wpAnyH _ _ _ _ _ _ _ _ (World.drew _);refine wpH_tq 0 (.pointer (some ⟨g2,0,none⟩)) (inferInstance) ?_;refine QAC ?_;refine wpH_mid (cs':=#[.int .i64 t.aF.aP.lo,.int .i64 t.aF.aP.hi,.int .i64 t.aF.cur.lo,.int .i64 t.aF.cur.hi,.slice r.aF.gA t.aF.av.length r.aF.gc,.slice r.aF.aA t.aF.aB.length r.aF.ac,.slice r.aF.wA t.aF.aU.length r.aF.wc]) 1 XI X2.out inferInstance ?_ _;refine QAC ?_;refine wpH_tq 6 (.pointer (some ⟨g2,0,none⟩)) (inferInstance) ?_;refine QAC ?_;refine wpH_mid (cs':=#[.int .i64 t.aF.aP.lo,.int .i64 t.aF.aP.hi,.int .i64 t.aF.cur.lo,.int .i64 t.aF.cur.hi,.slice r.aF.gA t.aF.av.length r.aF.gc,.slice r.aF.aA t.aF.aB.length r.aF.ac,.slice r.aF.wA t.aF.aU.length r.aF.wc]) 7 XI X2.out inferInstance ?_ _;refine QAC ?_;refine wpH_tq 12 (.pointer (some ⟨g2,0,none⟩)) (inferInstance) ?_;refine QAC ?_;refine wpH_mid (cs':=#[.int .i64 t.aF.aP.lo,.int .i64 t.aF.aP.hi,.int .i64 t.aF.cur.lo,.int .i64 t.aF.cur.hi,.slice r.aF.gA t.aF.av.length r.aF.gc,.slice r.aF.aA t.aF.aB.length r.aF.ac,.slice r.aF.wA t.aF.aU.length r.aF.wc]) 13 XI X2.out inferInstance ?_ _;refine QAC ?_;refine wpH_tq 18 (.pointer (some ⟨g2,7,none⟩)) (inferInstance) ?_;refine QAC ?_;refine wpH_mid (cs':=#[.int .i64 t.af.m,.slice r.af.hA t.af.hs.length r.af.hc,.slice r.af.pA t.af.ps.length r.af.pc]) 19 UF X2.out inferInstance ?_ _;refine QAC ?_;refine wpH_tq 24 (.pointer (some ⟨g2,7,none⟩)) (inferInstance) ?_;refine QAC ?_;refine wpH_mid (cs':=#[.int .i64 t.af.m,.slice r.af.hA t.af.hs.length r.af.hc,.slice r.af.pA t.af.ps.length r.af.pc]) 25 UF X2.out inferInstance ?_ _;refine QAC ?_;refine wpH_tq 30 (.pointer (some ⟨g2,7,none⟩)) (inferInstance) ?_;refine QAC ?_;refine wpH_mid (cs':=#[.int .i64 t.af.m,.slice r.af.hA t.af.hs.length r.af.hc,.slice r.af.pA t.af.ps.length r.af.pc]) 31 UF X2.out inferInstance ?_ _;refine QAC ?_;refine wpH_tq 36 (.pointer (some ⟨g2,10,none⟩)) (inferInstance) ?_;refine QAC ?_;refine wpH_mid (cs':=#[.slice r.aa.kA t.aa.kinds.length r.aa.kc,.int .i64 t.aa.floor,.slice r.aa.pA t.aa.parts.length r.aa.pc,.slice r.aa.bA t.aa.bars.length r.aa.bc]) 37 QY X2.out inferInstance ?_ _;refine QAC ?_;refine wpH_tq 42 (.pointer (some ⟨g2,10,none⟩)) (inferInstance) ?_;refine QAC ?_;refine wpH_mid (cs':=#[.slice r.aa.kA t.aa.kinds.length r.aa.kc,.int .i64 t.aa.floor,.slice r.aa.pA t.aa.parts.length r.aa.pc,.slice r.aa.bA t.aa.bars.length r.aa.bc]) 43 QY X2.out inferInstance ?_ _;refine QAC ?_;refine wpH_tq 48 (.pointer (some ⟨g2,10,none⟩)) (inferInstance) ?_;refine QAC ?_;refine wpH_mid (cs':=#[.slice r.aa.kA t.aa.kinds.length r.aa.kc,.int .i64 t.aa.floor,.slice r.aa.pA t.aa.parts.length r.aa.pc,.slice r.aa.bA t.aa.bars.length r.aa.bc]) 49 QY X2.out inferInstance ?_ _;refine QAC ?_;refine wpH_tq 50 (.int .i64 day) (inferInstance) ?_;refine QAC ?_;refine wpH_tq 55 (.pointer (some ⟨g2,10,none⟩)) (inferInstance) ?_;refine QAC ?_;refine wpH_mid (cs':=#[.slice r.aa.kA t.aa.kinds.length r.aa.kc,.int .i64 t.aa.floor,.slice r.aa.pA t.aa.parts.length r.aa.pc,.slice r.aa.bA t.aa.bars.length r.aa.bc]) 56 QY X2.out inferInstance ?_ _;refine QAC ?_;have aae:aD V.heap.size V V.drew:=inferInstance;have lS:Le V.heap.size V.drew:=inferInstance;obtain⟨aav,hY⟩:∃X,V.drew=X:=⟨_,rfl⟩;rw[hY] at aae lS ⊢;clear hY;refine wpH_c 2 aae lS (F0.out _ aae lS) ?_;clear aae lS;intro δ aae lS;refine QAC ?_;generalize ah aav δ=aaw at aae lS ⊢;refine wpH_tq 3 (.int .i64 v0) (aae) ?_;refine QAC ?_;refine wpH_tq 4 (.int .i64 e0) (aae) ?_;refine QAC ?_;refine wpH_c 5 aae lS (N0.out _) ?_;clear aae lS;intro δ aae lS;refine QAC ?_;generalize ah aaw δ=aax at aae lS ⊢;refine wpH_c 8 aae lS (F1.out _ aae lS) ?_;clear aae lS;intro δ aae lS;refine QAC ?_;generalize ah aax δ=aay at aae lS ⊢;refine wpH_tq 9 (.int .i64 v1) (aae) ?_;refine QAC ?_;refine wpH_tq 10 (.int .i64 e1) (aae) ?_;refine QAC ?_;refine wpH_c 11 aae lS (N1.out _) ?_;clear aae lS;intro δ aae lS;refine QAC ?_;generalize ah aay δ=aaA at aae lS ⊢;refine wpH_one 14 nP (op_cR 14 rfl nY ?hx aae lS (F2.out _ aae lS) (fun e w' ⟨A,c,δ,h1,h2,_⟩=>⟨_,δ,h1,h2⟩) ?_);case hx=>go_simp
   clear aae lS;rintro v aaM ⟨A2,c2,δ,hv,e,hs⟩ aae lS;rw[<-e] at hs;clear e;injection hv with hv;subst hv;refine QAC ?_;refine wpH_tq 15 (.slice A2 v2.length c2) (aae) ?_;refine QAC ?_;refine wpH_tq 16 (.int .i64 e2) (aae) ?_;refine QAC ?_;refine wpH_c 17 aae lS (N2.out _ _ _ hs) ?_;clear aae lS;intro δ aae lS;refine QAC ?_;generalize ah aaM δ=ab4 at aae lS ⊢;clear hs;refine wpH_c 20 aae lS (F3.out _ aae lS) ?_;clear aae lS;intro δ aae lS;refine QAC ?_;generalize ah ab4 δ=ab8 at aae lS ⊢;refine wpH_tq 21 (.int .i64 v3) (aae) ?_;refine QAC ?_;refine wpH_tq 22 (.int .i64 e3) (aae) ?_;refine QAC ?_;refine wpH_c 23 aae lS (N3.out _) ?_;clear aae lS;intro δ aae lS;refine QAC ?_;generalize ah ab8 δ=ab9 at aae lS ⊢;refine wpH_one 26 nP (op_cR 26 rfl nY ?hx aae lS (F4.out _ aae lS) (fun e w' ⟨A,c,δ,h1,h2,_⟩=>⟨_,δ,h1,h2⟩) ?_);case hx=>go_simp
   clear aae lS;rintro v aba ⟨A4,c4,δ,hv,e,hs⟩ aae lS;rw[<-e] at hs;clear e;injection hv with hv;subst hv;refine QAC ?_;refine wpH_tq 27 (.slice A4 v4.length c4) (aae) ?_;refine QAC ?_;refine wpH_tq 28 (.int .i64 e4) (aae) ?_;refine QAC ?_;refine wpH_c 29 aae lS (N4.out _ _ _ hs) ?_;clear aae lS;intro δ aae lS;refine QAC ?_;generalize ah aba δ=Y10 at aae lS ⊢;clear hs;refine wpH_c 32 aae lS (aaI.out _ aae lS) ?_;clear aae lS;intro δ aae lS;refine QAC ?_;generalize ah Y10 δ=Y11 at aae lS ⊢;refine wpH_tq 33 (.int .i64 v5) (aae) ?_;refine QAC ?_;refine wpH_tq 34 (.int .i64 e5) (aae) ?_;refine QAC ?_;refine wpH_c 35 aae lS (N5.out _) ?_;clear aae lS;intro δ aae lS;refine QAC ?_;generalize ah Y11 δ=Y12 at aae lS ⊢;refine wpH_c 38 aae lS (F6.out _ aae lS) ?_;clear aae lS;intro δ aae lS;refine QAC ?_;generalize ah Y12 δ=Y13 at aae lS ⊢;refine wpH_tq 39 (.int .i64 v6) (aae) ?_;refine QAC ?_;refine wpH_tq 40 (.int .i64 e6) (aae) ?_;refine QAC ?_;refine wpH_c 41 aae lS (N6.out _) ?_;clear aae lS;intro δ aae lS;refine QAC ?_;generalize ah Y13 δ=Y14 at aae lS ⊢;refine wpH_one 44 nP (op_cR 44 rfl nY ?hx aae lS (F7.out _ aae lS) (fun e w' ⟨A,c,δ,h1,h2,_⟩=>⟨_,δ,h1,h2⟩) ?_);case hx=>go_simp
   clear aae lS;rintro v Y15 ⟨aaJ,c7,δ,hv,e,hs⟩ aae lS;rw[<-e] at hs;clear e;injection hv with hv;subst hv;refine QAC ?_;refine wpH_tq 45 (.slice aaJ v7.length c7) (aae) ?_;refine QAC ?_;refine wpH_tq 46 (.int .i64 e7) (aae) ?_;refine QAC ?_;refine wpH_c 47 aae lS (N7.out _ _ _ hs) ?_;clear aae lS;intro δ aae lS;refine QAC ?_;generalize ah Y15 δ=Y16 at aae lS ⊢;clear hs;refine wpH_c 51 aae lS (F8.out _ aae lS) ?_;clear aae lS;intro δ aae lS;refine QAC ?_;generalize ah Y16 δ=Y17 at aae lS ⊢;refine wpH_tq 52 (.int .i64 v8) (aae) ?_;refine QAC ?_;refine wpH_tq 53 (.int .i64 e8) (aae) ?_;refine QAC ?_;refine wpH_c 54 aae lS (N8.out _) ?_;clear aae lS;intro δ aae lS;refine QAC ?_;generalize ah Y17 δ=Y18 at aae lS ⊢;refine wpH_c 57 aae lS (F9.out _ aae lS) ?_;clear aae lS;intro δ aae lS;refine QAC ?_;generalize ah Y18 δ=Y19 at aae lS ⊢;refine wpH_tq 58 (.int .i64 v9) (aae) ?_;refine QAC ?_;refine wpH_tq 59 (.int .i64 e9) (aae) ?_;refine QAC ?_;refine wpH_c 60 aae lS (aaL.out _) ?_;clear aae lS;intro δ aae lS;refine QAC ?_;generalize ah Y19 δ=Y20 at aae lS ⊢;refine wpAnyH_all (rs:=[61]) (by first|kernel_rfl|decide +kernel) nV ?_;intro i hi;obtain rfl:=List.mem_singleton.1 hi;refine QAF ?_;refine⟨inferInstance,?_⟩;refine QAC ?_;refine wpH_tq 62 (.slice (some ⟨Y20.heap.size,0,none⟩) 10 10) (inferInstance) ?_;refine QAC ?_;refine wpAnyH_done nP ?_ _;go_wp2_with fail;go_meet;exact⟨_,rfl,qh (mK (ls:=[x0,x1,x2,x3,x4,x5,x6,x7,x8,x9]) (ay.new rfl) rfl nV),inferInstance,inferInstance⟩
  case rest=>
  obtain⟨gw,rfl,abb,u1,u2⟩:=hcut
  obtain⟨U,hU⟩:∃U,U=wc:=⟨_,rfl⟩
  subst hU
  clear F0 N0 F1 N1 F2 N2 F3 N3 F4 N4 aaI N5 F6 N6 F7 N7 F8 N8 F9 aaL
  have w1:aD w.heap.size w U:=pU (inferInstance:aD w.heap.size w V) u1
  have w2:Le w.heap.size U:=⟨nT (inferInstance:Le w.heap.size V).out u2.out⟩
  have w3:aD B w U:=⟨⟨w1.out.1,w1.out.2.1,w1.out.2.2.1,fun b hb=>w1.out.2.2.2 b (nL hb hB.out)⟩⟩
  have w4:Le B U:=⟨nT hB.out w2.out⟩
  have w5:aD 8 w U:=⟨⟨w1.out.1,w1.out.2.1,w1.out.2.2.1,fun b hb=>w1.out.2.2.2 b (nL hb h8.out)⟩⟩
  have w6:Le 8 U:=⟨nT h8.out w2.out⟩
  have w7:Le U.heap.size U:=⟨nR _⟩
  have X3:Hid (ay U g2 39 (aG r t)):=qh (ay.eO X2.out)
  have HTU:Hid (aN U.heap.size U r t):=qh H.out.wide
  obtain⟨z,hz⟩:∃z,Lib.itoa day=z:=⟨_,rfl⟩
  have hzl:z.length<=8:=by rw[<-hz];exact we 6 (by have:=HDy.out;omega)
  have TXT:=qh fun W:nJ=>textD_c day HDy.out z hz W
  have a1:∀W:nJ,(Op.stringOp .add (⟨#[101,97,114,108,121,32]⟩:ByteArray) (str z)).run nH W=.ok (.string (str (cF .early++32::z))) W:=fun W=>eA (P:=nH) W [101,97,114,108,121,32] z (by simp;omega)
  obtain⟨y,hy⟩:∃y,cF .early++32::z=y:=⟨_,rfl⟩
  rw[hy] at a1
  have HQ:Hid (askT' day=[cF .safe,cF .gr,cF .nD,cF .jl,cF .order,cF .done,cF .fV,cF .pack,y,cF .yB]):=qh (by rw[<-hy,<-hz];rfl)
  have hyl:y.length<=20:=by rw[<-hy];simp[cF];omega
  have hrun:=asked' (t:=t) HDy.out
  have HD:Hid ((dJ (bZ t) (askT' day)).1=⟨t,[],0⟩):=qh (by rw[hrun];rfl)
  have HA:Hid ((dJ (bZ t) (askT' day)).2=[x0,x1,x2,x3,x4,x5,x6,x7,x8,x9]):=qh (by rw[hrun];exact HLa.out)
  have jA:∀x∈askT' day,x.length<=1000:=by rw[HQ.out];intro x hx;simp only[List.mem_cons,List.not_mem_nil,or_false] at hx;rcases hx with rfl|rfl|rfl|rfl|rfl|rfl|rfl|rfl|rfl|rfl;all_goals first|decide|omega
  have HR:Hid (∀(W:nJ) (A:Option Addr),aD U.heap.size U W->Le U.heap.size W->Sl bS W.heap.size W A 10 (askT' day)->Calls nH 13 #[aY r t,.slice A 10 10] W (RunE 10 ⟨t,[],0⟩ [x0,x1,x2,x3,x4,x5,x6,x7,x8,x9] W)):=qh fun W A i1 i2 hs=>by have j1:aD 8 w W:=⟨⟨i1.out.1.trans w1.out.1,i1.out.2.1.trans w1.out.2.1,i1.out.2.2.1.trans w1.out.2.2.1,fun b hb=>(i1.out.2.2.2 b (nL hb w6.out)).trans (w5.out.2.2.2 b hb)⟩⟩;have j2:Le 8 W:=⟨nT w6.out i2.out⟩;exact run12_e r t (askT' day) A 10 HV.out (by rw[HQ.out];simp) jA _ _ HD.out HA.out 10 (by rw[HQ.out];rfl) W.heap.size W HTU.out.wide HL.out.up hs (hB:=⟨nR _⟩)
  clear hrun HD HA hz hy jA HLa
  go_upto_region 4 with fail
  apply share
  ·intro K3;apply share
   ·intro K2;apply share
    ·intro K1;refine wp_region_held (S:=fun W=>aD U.heap.size U W) nP ?_;change wpAnyH _ _ _ _ _ _ _ _ (World.drew _);refine gN 0 (aY r t) rfl nP (iE aq nY _ rfl rfl (fun W h=>ay.eO (hg:=h) X3.out) rfl) (inferInstance) ?_;refine QAC ?_;refine wpH_tq 1 (.int .i64 day) (inferInstance) ?_;refine QAC ?_;have aae:aD U.heap.size U U.drew:=inferInstance;have lS:Le U.heap.size U.drew:=inferInstance;generalize U.drew=abe at aae lS ⊢;refine wpAnyH_all (rs:=[2,11]) (by first|kernel_rfl|decide +kernel) nV ?_;intro i hi;rcases(Or.symm (List.mem_cons.1 hi)) with hi|rfl
     ·obtain rfl:=List.mem_singleton.1 hi;refine op_a (v:=.pointer (some ⟨abe.heap.size,0,none⟩)) (o:=.cells (aG dc cS) 39) 11 rfl nY ?hx aae lS ?_;case hx=>(go_simp<;>rfl)
      have HG:=lS.out;clear aae lS;intro aae lS;refine QAC ?_;have BX:ay (World.alloc abe (.cells (aG dc cS) 39)) abe.heap.size 39 (aG dc cS):=ay.new rfl;generalize World.alloc abe (.cells (aG dc cS) 39)=Z1 at aae lS BX ⊢;generalize abe.heap.size=g at BX HG ⊢;refine wpH_one 2 nP ?_;refine op_c 2 rfl nY ?hx aae lS (TXT.out _) ?_;case hx=>go_simp
      clear aae lS;intro δ aae lS;refine QAC ?_;replace BX:=BX.ah δ;generalize ah Z1 δ=Z at aae lS BX ⊢;refine wpH_tq 3 (.string (str y)) (aae) ?_;refine QAC ?_;revert lS;revert aae;revert HG;revert BX;revert Z;revert g;exact K1.out
     ·refine op_c 2 rfl nY ?hx aae lS (TXT.out _) ?_;case hx=>go_simp
      clear aae lS;intro δ aae lS;refine QAC ?_;generalize ah abe δ=Z1 at aae lS ⊢;refine wpH_tq 3 (.string (str y)) (aae) ?_;refine QAC ?_;refine wpAnyH_all (rs:=[4,11]) (by first|kernel_rfl|decide +kernel) nV ?_;intro i hi;rcases List.mem_cons.1 hi with rfl|hi
      ·refine op_a (v:=.slice (some ⟨Z1.heap.size,0,none⟩) 10 10) (o:=.cells (litQ y) 9) 4 rfl nY ?hx aae lS ?_;case hx=>(go_simp<;>rfl)
       clear aae lS;intro aae lS;refine QAC ?_;have LT:Sl bS (World.alloc Z1 (.cells (litQ y) 9)).heap.size (World.alloc Z1 (.cells (litQ y) 9)) (some ⟨Z1.heap.size,0,none⟩) 10 (askT' day):=by rw[HQ.out];exact mK (ls:=[cF .safe,cF .gr,cF .nD,cF .jl,cF .order,cF .done,cF .fV,cF .pack,y,cF .yB]) (ay.new rfl) rfl nV
       generalize World.alloc Z1 (.cells (litQ y) 9)=Z2 at aae lS LT ⊢;generalize Z1.heap.size=q at LT ⊢;refine wpAnyH_all (rs:=[5,11]) (by first|kernel_rfl|decide +kernel) nV ?_;intro i hi;rcases List.mem_cons.1 hi with rfl|hi
       ·refine op_cR 5 rfl nY ?hx aae lS (HR.out _ _ aae lS LT) (fun e w' ⟨_,_,_,_,_,δ,h1,h2,_⟩=>⟨_,δ,h1,h2⟩) ?_;case hx=>go_simp
        have HG0:=lS.out;clear aae lS LT;rintro v Z3 ⟨aA,ac,rN,lA,lc,δ,hv,e,OA,OT,OL⟩ aae lS;injection hv with hv;subst hv;rw[<-e] at OA OT OL;clear e;replace OA:=dA OA HG0;replace OT:=OT.mono HG0;replace OL:=dA OL HG0;clear HG0;refine QAC ?_;refine wpH_tq 6 (.tuple #[.slice aA 10 ac,aY rN t,.slice lA 0 lc,.bool true]) (aae) ?_;refine QAC ?_;refine wpH_tq 7 (.slice aA 10 ac) (aae) ?_;refine QAC ?_;refine wpH_tq 8 (aY rN t) (aae) ?_;refine QAC ?_;refine wpH_tq 9 (.slice lA 0 lc) (aae) ?_;refine QAC ?_;refine wpH_tq 10 (.bool true) (aae) ?_;refine QAC ?_;refine wpH_one 11 nP ?_;refine op_a (v:=.pointer (some ⟨Z3.heap.size,0,none⟩)) (o:=.cells (aG dc cS) 39) 11 rfl nY ?hx aae lS ?_;case hx=>(go_simp<;>rfl)
        have HG:=lS.out;clear aae lS;intro aae lS;refine QAC ?_;replace OA:=OA.alloc (.cells (aG dc cS) 39);replace OT:=OT.alloc (.cells (aG dc cS) 39);replace OL:=OL.alloc (.cells (aG dc cS) 39);have BX:ay (World.alloc Z3 (.cells (aG dc cS) 39)) Z3.heap.size 39 (aG dc cS):=ay.new rfl;generalize World.alloc Z3 (.cells (aG dc cS) 39)=Z at aae lS BX OA OT OL ⊢;generalize Z3.heap.size=g at BX HG ⊢;clear hi;revert lS;revert aae;revert OL;revert OT;revert OA;revert HG;revert BX;revert Z;revert q;revert g;revert lc;revert lA;revert rN;revert ac;revert aA;exact K3.out
       ·obtain rfl:=List.mem_singleton.1 hi;refine op_a (v:=.pointer (some ⟨Z2.heap.size,0,none⟩)) (o:=.cells (aG dc cS) 39) 11 rfl nY ?hx aae lS ?_;case hx=>(go_simp<;>rfl)
        have HG:=lS.out;clear aae lS;intro aae lS;refine QAC ?_;replace LT:=Sl.wide (W:=World.alloc Z2 (.cells (aG dc cS) 39)) LT;have BX:ay (World.alloc Z2 (.cells (aG dc cS) 39)) Z2.heap.size 39 (aG dc cS):=ay.new rfl;generalize World.alloc Z2 (.cells (aG dc cS) 39)=Z at aae lS BX LT ⊢;generalize Z2.heap.size=g at BX HG ⊢;clear hi;revert lS;revert aae;revert LT;revert HG;revert BX;revert Z;revert q;revert g;exact K2.out
      ·obtain rfl:=List.mem_singleton.1 hi;refine op_a (v:=.pointer (some ⟨Z1.heap.size,0,none⟩)) (o:=.cells (aG dc cS) 39) 11 rfl nY ?hx aae lS ?_;case hx=>(go_simp<;>rfl)
       have HG:=lS.out;clear aae lS;intro aae lS;refine QAC ?_;have BX:ay (World.alloc Z1 (.cells (aG dc cS) 39)) Z1.heap.size 39 (aG dc cS):=ay.new rfl;generalize World.alloc Z1 (.cells (aG dc cS) 39)=Z at aae lS BX ⊢;generalize Z1.heap.size=g at BX HG ⊢;exact K1.out _ _ BX HG aae lS
    intro g Z1 BX HG aae lS;refine wpH_one 4 nP ?_;refine op_a (v:=.slice (some ⟨Z1.heap.size,0,none⟩) 10 10) (o:=.cells (litQ y) 9) 4 rfl nY ?hx aae lS ?_;case hx=>(go_simp<;>rfl)
    clear aae lS;intro aae lS;refine QAC ?_;replace BX:=BX.alloc (.cells (litQ y) 9);have LT:Sl bS (World.alloc Z1 (.cells (litQ y) 9)).heap.size (World.alloc Z1 (.cells (litQ y) 9)) (some ⟨Z1.heap.size,0,none⟩) 10 (askT' day):=by rw[HQ.out];exact mK (ls:=[cF .safe,cF .gr,cF .nD,cF .jl,cF .order,cF .done,cF .fV,cF .pack,y,cF .yB]) (ay.new rfl) rfl nV
    generalize World.alloc Z1 (.cells (litQ y) 9)=Z at aae lS LT BX ⊢;generalize Z1.heap.size=q at LT ⊢;exact K2.out _ _ _ BX HG LT aae lS
   intro g q Z2 BX HG LT aae lS;refine wpH_one 5 nP ?_;refine op_cR 5 rfl nY ?hx aae lS (HR.out _ _ aae lS LT) (fun e w' ⟨_,_,_,_,_,δ,h1,h2,_⟩=>⟨_,δ,h1,h2⟩) ?_;case hx=>go_simp
   have HG0:=lS.out;clear aae lS LT;rintro v Z ⟨aA,ac,rN,lA,lc,δ,hv,e,OA,OT,OL⟩ aae lS;injection hv with hv;subst hv;replace BX:ay Z g 39 (aG dc cS):=by rw[e];exact BX.ah _
   rw[<-e] at OA OT OL;clear e;replace OA:=dA OA HG0;replace OT:=OT.mono HG0;replace OL:=dA OL HG0;clear HG0;refine QAC ?_;refine wpH_tq 6 (.tuple #[.slice aA 10 ac,aY rN t,.slice lA 0 lc,.bool true]) (aae) ?_;refine QAC ?_;refine wpH_tq 7 (.slice aA 10 ac) (aae) ?_;refine QAC ?_;refine wpH_tq 8 (aY rN t) (aae) ?_;refine QAC ?_;refine wpH_tq 9 (.slice lA 0 lc) (aae) ?_;refine QAC ?_;refine wpH_tq 10 (.bool true) (aae) ?_;refine QAC ?_;exact K3.out _ _ _ _ _ _ _ _ BX HG OA OT OL aae lS
  intro aA ac rN lA lc g q Z BX HG OA OT OL aae lS
  refine wpH_tq 12 (.slice aA 10 ac) (aae) ?_
  refine QAC ?_
  refine wpH_one 13 nP ?_
  refine QBB ?_
  refine oB aq _ _ rfl rfl rfl BX rfl rfl (aL _ _) ?_
  intro W9 C9 k9
  have g9:aD U.heap.size U W9:=cC k9 HG
  refine⟨g9,?_⟩
  refine QAC ?_
  refine wpH_tq 14 (.slice lA 0 lc) (g9) ?_
  refine QAC ?_
  refine wpH_tq 15 (.bool true) (g9) ?_
  refine QAC ?_
  refine wpAnyH_done nP ?_ _
  have l9:Le U.heap.size W9:=dB k9
  have hA:=cN OA k9 BX nU
  have hT:=OT.aV k9 BX nU
  have hL:=cN OL k9 BX nU
  clear OA OT OL k9 BX HG aae lS
  have F9:=qh C9
  have SA9:Hid (Sl bS W9.heap.size W9 aA ac [x0,x1,x2,x3,x4,x5,x6,x7,x8,x9]):=qh (sl_ow hA rfl)
  have ST9:Hid (aN W9.heap.size W9 rN t):=qh hT.is
  have SR9:Hid (aN W9.heap.size W9 r t):=qh HTU.out.wide
  have SW9:Hid (Sl bS W9.heap.size W9 (some ⟨gw,0,none⟩) 10 [x0,x1,x2,x3,x4,x5,x6,x7,x8,x9]):=qh abb.out.wide
  have abg:Hid (ay W9 g2 39 (aG r t)):=qh (ay.eO X3.out)
  have m1:aD w.heap.size w W9:=pU w1 g9
  have m2:Le w.heap.size W9:=⟨nT w2.out l9.out⟩
  have m5:aD 8 w W9:=⟨⟨m1.out.1,m1.out.2.1,m1.out.2.2.1,fun b hb=>m1.out.2.2.2 b (nL hb h8.out)⟩⟩
  have m6:Le 8 W9:=⟨nT h8.out m2.out⟩
  have m7:Le W9.heap.size W9:=⟨nR _⟩
  clear hA hT hL C9 a1 HR
  go_wp2_with (first|(refine bC aq nY _ rfl rfl (ay.eO F9.out) rfl ?_)|(refine bC aq nY _ rfl rfl (ay.eO abg.out) rfl ?_)|(go_at_call 14;refine(xU aA (some ⟨gw,0,none⟩) ac 10 [x0,x1,x2,x3,x4,x5,x6,x7,x8,x9] W9.heap.size _ SA9.out.up SW9.out.up _ _ rfl rfl).mono ?_;rintro e w1 ⟨rfl,δ9,rfl⟩)|(go_at_call 16;refine(Mp rN r t W9.heap.size _ ST9.out.up SR9.out.up).mono ?_;rintro e w1 ⟨rfl,δ9,rfl⟩)|(go_at_call 11;refine(dK _ HL.out.up).mono ?_;rintro e w1 ⟨rfl,δ9,rfl⟩))
  go_ret
  exact⟨rfl,ag⟩
end
end Go.Proofs.YtpnnapeoanafdaaGreatDoor
