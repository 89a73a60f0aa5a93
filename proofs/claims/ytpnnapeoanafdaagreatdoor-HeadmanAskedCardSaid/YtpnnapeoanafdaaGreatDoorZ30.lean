/- A part of the proof that a law of layer 12 holds, cut small by a program (names and blanks): Hq3, Hq7, Hq8, Hq9, Hq10, Hq11. -/
import Derived.Test.YtpnnapeoanafdaaGreatDoorZ29
set_option maxRecDepth 100000
set_option maxHeartbeats 40000000
set_option linter.unusedVariables false
set_option linter.unusedSimpArgs false
namespace Go.Proofs.YtpnnapeoanafdaaGreatDoor
open Go.RowKit
open Nat renaming le_trans → nT, lt_of_lt_of_le → nL, le_refl → nR, zero_le → nE
open Go.Proofs.Tryz renaming prog → nH
open Go renaming World → nJ, Value → nK
section
open Hd
theorem Xy(W:nJ):(Instr.typeAssert .nilIface 191 262 true).run nH W=.ok (.tuple #[.nilFunc,.bool false]) W:=by simp[Instr.typeAssert,Sem.run_bind,run_underlying Tryz.underlying262,Tryz.zeroValue262,Sem.run_pure,Result.andThen]
theorem XA(u:nK)(W:nJ):(Instr.typeAssert (.iface 262 u) 191 262 true).run nH W=.ok (.tuple #[u,.bool true]) W:=by simp[Instr.typeAssert,Sem.run_bind,run_underlying Tryz.underlying262,Tryz.zeroValue262,Sem.run_pure,Result.andThen]
theorem Xz(u:nK)(W:nJ):(Instr.typeAssert (.iface 264 u) 191 262 true).run nH W=.ok (.tuple #[.nilFunc,.bool false]) W:=by simp[Instr.typeAssert,Sem.run_bind,run_underlying Tryz.underlying262,Tryz.zeroValue262,Sem.run_pure,Result.andThen]
attribute[local go_sem] Xy XA Xz
theorem jM.form{w:nJ}{v:nK}{c:eB}(h:jM w v c):∃(f:Nat) (cs:Array nK),v=.func (.func f) #[] cs:=by
 obtain⟨_,_,⟨_,h⟩|⟨_,ga,A,cap,h,_⟩⟩:=h
 ·exact⟨_,_,h⟩
 ·exact⟨_,_,h⟩
theorem iD.form{w:nJ}{v:nK}{c:eB}(h:iD w v c):∃gc ga:Nat,v=.func (.func 189) #[] #[.pointer (some ⟨gc,0,none⟩),.pointer (some ⟨ga,0,none⟩)]:=by obtain⟨_,_,gc,ga,A,cap,h,_⟩:=h;exact⟨gc,ga,h⟩
theorem zD:gi nH 137 4:=gi.mk' Tryz.underlying137 rfl nP
theorem Kq:Tryz.prog.built 137 []=some #[.int .i64 0,.string ⟨#[]⟩,.nilFunc,.nilFunc]:=by kernel_rfl
theorem uL(g1 g2 g3 g4 g5:Nat):Tryz.prog.built 137 [(2,.func (.func 202) #[] #[.pointer (some ⟨g1,0,none⟩),.pointer (some ⟨g2,0,none⟩),.pointer (some ⟨g3,0,none⟩)]),(3,.func (.func 189) #[] #[.pointer (some ⟨g4,0,none⟩),.pointer (some ⟨g5,0,none⟩)])]=some #[.int .i64 0,.string ⟨#[]⟩,.func (.func 202) #[] #[.pointer (some ⟨g1,0,none⟩),.pointer (some ⟨g2,0,none⟩),.pointer (some ⟨g3,0,none⟩)],.func (.func 189) #[] #[.pointer (some ⟨g4,0,none⟩),.pointer (some ⟨g5,0,none⟩)]]:=by kernel_rfl
def rS(ws:List aQ)(w:nJ)(e:Ending)(w':nJ):Prop:=
 ∃(v1 v2:nK) (δ:nJ),e=.returned (.tuple #[.agg #[.int .i64 0,.string ⟨#[]⟩,v1,v2],.bool (Ey (dH ws))])/\w'=ah w δ/\(Ey (dH ws)=false->v1=.nilFunc/\v2=.nilFunc) /\
  ∀q s n c,dH ws=.ord q s n c->mj (fun k=>k<w.heap.size) (ah w δ) v1 q s n/\iD (ah w δ) v2 c
theorem vv{ws:List aQ}{w W:nJ}(h:Ey (dH ws)=false)(hl:∃δ,W=ah w δ):rS ws w (.returned (.tuple #[.agg #[.int .i64 0,.string ⟨#[]⟩,.nilFunc,.nilFunc],.bool false])) W:=by obtain⟨δ,rfl⟩:=hl;refine⟨_,_,δ,by rw[h],rfl,fun _=>⟨rfl,rfl⟩,fun q s n c hr=>?_⟩;rw[hr] at h;cases h
theorem JX{ws:List aQ}{w W:nJ}{q c:eB}{s:UInt8}{n:Int}{v1 v2:nK}(h:dH ws=.ord q s n c)[aD w.heap.size w W][Le w.heap.size W](h1:mj (fun k=>k<w.heap.size) W v1 q s n)(h2:iD W v2 c):rS ws w (.returned (.tuple #[.agg #[.int .i64 0,.string ⟨#[]⟩,v1,v2],.bool true])) W:=by
 refine⟨v1,v2,W,by rw[h];rfl,ai,fun hh=>?_,fun q' s' n' c' hr=>?_⟩
 ·rw[h] at hh;cases hh
 ·rw[h] at hr;injection hr with r1 r2 r3 r4;subst r1;subst r2;subst r3;subst r4;refine QDF ?_;exact⟨h1,h2⟩
theorem J4{ws:List aQ}(h0:0<ws.length)(h:nth ws 0≠fJ):Ey (dH ws)=false:=by
 cases ws with
 |nil=>cases h0
 |cons t r=>
  have:(t::r).head?≠some fJ:=fun e=>h (by injection e)
  unfold dH
  rw[if_neg this]
  cases bJ (t::r)<;>rfl
theorem J3{ws:List aQ}(h0:0<ws.length)(h:nth ws 0=fJ):dH ws=match fM eY ws with
  |some k=>if k<4 then .none else oK ws k
  |none=>.none:=by
 cases ws with
 |nil=>cases h0
 |cons t r=>
  have:(t::r).head?=some fJ:=by rw[<-h];rfl
  unfold dH
  rw[if_pos this]
  cases fM eY (t::r)<;>rfl
def Rq(o:Option eB)(s:Option UInt8)(n:Option Int)(c:Option eB):ql:=
 match o,s,n,c with
 |some q,some s,some n,some c=>if cg q.w=2/\cg c.w=1 then .ord q s n c else .none
 |_,_,_,_=>.none
theorem vH{o:Option eB}{s:Option UInt8}{n:Option Int}{c:Option eB}(h:(∀q,o=some q->cg q.w=2->False)\/s=none\/n.isSome=false\/lZ c=false):Ey (Rq o s n c)=false:=by
 cases o with
 |none=>cases s<;>cases n<;>cases c<;>rfl
 |some q=>
  cases s with
  |none=>cases n<;>cases c<;>rfl
  |some s=>
   cases n with
   |none=>cases c<;>rfl
   |some n=>
    cases c with
    |none=>rfl
    |some c=>
     unfold Rq
     simp only[]
     by_cases hh:cg q.w=2/\cg c.w=1
     ·rcases h with h|h|h|h
      ·exact(h q rfl hh.1).elim
      ·cases h
      ·cases h
      ·unfold lZ at h;simp[hh.2] at h
     ·rw[if_neg hh];rfl
theorem zP{q c:eB}{s:UInt8}{n:Int}(hq:cg q.w=2)(hc:cg c.w=1):Rq (some q) (some s) (some n) (some c)=.ord q s n c:=by unfold Rq;simp only[];rw[if_pos ⟨hq,hc⟩]
theorem Gj(ws:List aQ)(A:Option Addr)(cap:Nat)(h0:0<ws.length)(hl:∀x∈ws,x.length<=1000)(hn:ws.length<=1001)(B:Nat)(w:nJ)(hS:Sl bS B w A cap ws)[hB:Le B w][h8:Le 8 w](hL:cT w):Calls nH 131 #[.slice A ws.length cap] w (rS ws w):=by
 obtain⟨b,o,rfl,hb,e0⟩:=hS.kK h0;have HS:=qh hS;have HL:=qh hL;have qm:=qh hl;have hcap:ws.length<=cap:=hS.1;have hcx:cap<=9223372036854775807:=hS.2.1;have yN:Hid (∀W:nJ,aD B w W->Calls nH 200 #[.slice (some ⟨b,o,none⟩) ws.length cap,.string ⟨#[116,104,101,110]⟩] W fun e w'=>e=.returned (.int .i64 (wh (fM eY ws)))/\w'=W):=qh fun W i1=>SF ws _ cap h0 hn eY B W HS.out.up;have hn0:(0:Int)<(ws.length:Int):=nQ;have ib:Lt b w:=⟨nL hb hB.out⟩;have e0:w.cell? ⟨b,o,none⟩=some (.string (str (nth ws 0))):=e0;obtain⟨t0,ht0⟩:∃x,nth ws 0=x:=⟨_,rfl⟩;rw[ht0] at e0;by_cases hw:t0=fJ
 ·subst hw;have HR:Hid (dH ws=match fM eY ws with
   |some k=>if k<4 then .none else oK ws k
   |none=>.none):=qh (J3 h0 ht0)
  have f:((str fJ).toList==[119,104,101,110])=true:=by rw[cj];rfl
  have f':((str fJ).toList != [119,104,101,110])=false:=by rw[bne,f];rfl
  cases hi:fM eY ws with
  |none=>
   have HN:Hid (Ey (dH ws)=false):=by unfold Hid;rw[HR.out,hi];rfl
   rw[hi,show wh none = -1 from rfl] at yN
   clear hS hL hl h0 hb ht0 hcap HR hi
   go_enter Tryz.func131,Tryz.ntmps131
   go_wp2_with (go_at_call 200;refine(yN.out _ inferInstance).mono ?_;rintro e w1 ⟨rfl,rfl⟩)
   refine bodyPost_ret (v:=.tuple #[.agg #[.int .i64 0,.string ⟨#[]⟩,.nilFunc,.nilFunc],.bool false]) ?_ rfl (vv HN.out ag)
   simp only[results,Tryz.results131]
   go_simp
  |some k=>
   have Je:=(Aw hi).1
   rw[hi,show wh (some k)=(k:Int) from rfl] at yN
   by_cases WU:k<4
   ·have HN:Hid (Ey (dH ws)=false):=by unfold Hid;rw[HR.out,hi];simp only[if_pos WU];rfl
    have hki:(k:Int)<4:=nQ;clear hS hL hl h0 hb ht0 hcap HR hi;go_enter Tryz.func131,Tryz.ntmps131;go_wp2_with (go_at_call 200;refine(yN.out _ inferInstance).mono ?_;rintro e w1 ⟨rfl,rfl⟩);refine bodyPost_ret (v:=.tuple #[.agg #[.int .i64 0,.string ⟨#[]⟩,.nilFunc,.nilFunc],.bool false]) ?_ rfl (vv HN.out ag);simp only[results,Tryz.results131];go_simp
   ·have Zy:Hid (dH ws=oK ws k):=by unfold Hid;rw[HR.out,hi];simp only[if_neg WU]
    have hki:¬(k:Int)<4:=nQ;by_cases hke:k+1=ws.length
    ·have HN:Hid (Ey (dH ws)=false):=by unfold Hid;rw[Zy.out];unfold oK;rw[show ws.drop (k+1)=[] from List.drop_eq_nil_of_le nQ,show bJ []=none from rfl];cases bJ ((ws.take (k-2)).drop 1)<;>cases kC (nth ws (k-2))<;>cases numOf (nth ws (k-1))<;>rfl
     have hw1:IntKind.i64.wrap ((ws.length:Int)-1)=(k:Int):=by rw[IntWalk.i64_in _ nQ];omega
     clear hS hL hl h0 hb ht0 hcap HR Zy hi hke;go_enter Tryz.func131,Tryz.ntmps131;go_wp2_with (go_at_call 200;refine(yN.out _ inferInstance).mono ?_;rintro e w1 ⟨rfl,rfl⟩);refine bodyPost_ret (v:=.tuple #[.agg #[.int .i64 0,.string ⟨#[]⟩,.nilFunc,.nilFunc],.bool false]) ?_ rfl (vv HN.out ag);simp only[results,Tryz.results131];go_simp
    ·obtain⟨j,rfl⟩:∃j,k=j+2:=⟨k-2,nQ⟩;obtain⟨m,hm⟩:∃m,m=j+1:=⟨_,rfl⟩;obtain⟨p,hp⟩:∃p,p=j+3:=⟨_,rfl⟩;obtain⟨k,hk⟩:∃k,k=j+2:=⟨_,rfl⟩;rw[<-hk] at yN Zy hki Je hke WU;have hw1:IntKind.i64.wrap ((ws.length:Int)-1)=((ws.length-1:Nat):Int):=by rw[IntWalk.i64_in _ nQ];omega
     have Sj:IntKind.i64.wrap ((k:Int)-2)=(j:Int):=by rw[IntWalk.i64_in _ nQ];omega
     have hw3:IntKind.i64.wrap ((k:Int)-1)=(m:Int):=by rw[IntWalk.i64_in _ nQ];omega
     have hw4:IntKind.i64.wrap ((k:Int)+1)=(p:Int):=by rw[IntWalk.i64_in _ nQ];omega
     have hkn:((k:Int)==((ws.length-1:Nat):Int))=false:=beq_eq_false_iff_ne.2 nQ;have em:w.cell? ⟨b,o+m,none⟩=some (.string (str (nth ws m))):=by obtain⟨b',o',e,_,d⟩:=hS.kK (k:=m) nQ;injection e with e;injection e with e1 e2;subst e1;subst e2;exact d
     have es:w.cell? ⟨b,o+j,none⟩=some (.string (str (nth ws j))):=by obtain⟨b',o',e,_,d⟩:=hS.kK (k:=j) nQ;injection e with e;injection e with e1 e2;subst e1;subst e2;exact d
     obtain⟨qs,hqs⟩:∃q,(ws.take j).drop 1=q:=⟨_,rfl⟩;obtain⟨cs,hcs⟩:∃q,ws.drop p=q:=⟨_,rfl⟩;refine QEX ?_;intro A2 rz;obtain⟨A3,AH⟩:∃A3,(if cap=p then some (⟨b,o,none⟩:Addr) else some ⟨b,o+p,none⟩)=A3:=⟨_,rfl⟩;have TW:Hid (Sl bS B w A2 (cap-1) qs):=by have:=(hS.take j).drop gP 1 (by rw[List.length_take];omega);rw[<-rz,<-hqs];exact qh (by simpa [Addr.add_lit] using this)
     have HC3:Hid (Sl bS B w A3 (cap-p) cs):=by have:=hS.drop gP p nQ;rw[<-AH,<-hcs];exact qh (by simpa [Addr.add_lit] using this)
     have lq:qs.length=j-1:=by rw[<-hqs,List.length_drop,List.length_take];omega
     have lc:cs.length=ws.length-p:=by rw[<-hcs,List.length_drop]
     have qn:Hid (∀W:nJ,aD B w W->Le B W->Le 8 W->cT W->Calls nH 130 #[.slice A2 (j-1) (cap-1)] W (me (bJ qs) W)):=qh fun W i1 i2 i3 h=>by rw[<-lq];exact sH qs A2 (cap-1) nQ (fun x hx=>qm.out x (List.mem_of_mem_take (List.mem_of_mem_drop (hqs▸hx)))) nQ B W TW.out.up h
     have pF:Hid (∀W:nJ,aD B w W->Le B W->Le 8 W->cT W->Calls nH 127 #[.slice A3 (ws.length-p) (cap-p)] W (kJ (bJ cs) W)):=qh fun W i1 i2 i3 h=>by rw[<-lc];exact qW cs A3 (cap-p) nQ (fun x hx=>qm.out x (List.mem_of_mem_drop (hcs▸hx))) nQ B W HC3.out.up h
     have jh:Hid (∀W:nJ,cT W->Le 8 W->Calls nH 201 #[.string (str (nth ws m))] W (pg (numOf (nth ws m)) W)):=qh fun W h1 h2=>GH _ (qm.out _ (aR ws nQ)) W h1;unfold me at qn;unfold kJ at pF;unfold pg at jh;have Nl:Hid (dH ws=Rq (bJ qs) (kC (nth ws j)) (numOf (nth ws m)) (bJ cs)):=by unfold Hid;rw[Zy.out];unfold oK;rw[<-hqs,<-hcs,hk,hm,hp];rfl
     obtain⟨ts,hts⟩:∃x,nth ws j=x:=⟨_,rfl⟩;obtain⟨tm,Ja⟩:∃x,nth ws m=x:=⟨_,rfl⟩;rw[hts] at es Nl;rw[Ja] at em jh Nl;have z1:1<=j:=nQ;have z2:j<=cap:=nQ;have z3:j<=ws.length:=nQ;have z4:p<=ws.length:=nQ;have z5:m<ws.length:=nQ;have z6:j<ws.length:=nQ;clear hS hL hl h0 hb ht0 HR Zy hi hke hm hp hk hqs hcs lq lc hts Ja WU TW HC3;obtain⟨oq,hoq⟩:∃x,bJ qs=x:=⟨_,rfl⟩;obtain⟨oc,hoc⟩:∃x,bJ cs=x:=⟨_,rfl⟩;obtain⟨on,Sn⟩:∃x,numOf tm=x:=⟨_,rfl⟩;rw[hoq,hoc,Sn] at Nl;rw[hoq] at qn;rw[hoc] at pF;rw[Sn] at jh;have gB:Hid (∀n,on=some n->-999999<=n/\n<=999999):=qh fun n e=>by have:=(jF.1 (Sn.trans e)).2;omega
     clear hoq hoc Sn;obtain⟨b1,kS⟩:∃x,on.isSome=x:=⟨_,rfl⟩;obtain⟨b2,fX⟩:∃x,lZ oc=x:=⟨_,rfl⟩;rw[kS] at jh;rw[fX] at pF;have xP:=qh kS;have Bw:=qh fX;clear kS fX;by_cases hq:yw oq=false
     ·have HQ:=qh hq;have HN:Hid (Ey (dH ws)=false):=by unfold Hid;rw[Nl.out];refine vH (.inl fun q e hk=>?_);subst e;unfold yw at hq;simp[hk] at hq
      rw[hq] at qn;clear hq;go_enter Tryz.func131,Tryz.ntmps131;go_wp2_with (first|(go_at_call 200;refine(yN.out _ inferInstance).mono ?_;rintro e w1 ⟨rfl,rfl⟩)|(go_at_call 201;refine(jh.out _ HL.out.up inferInstance).mono ?_;rintro e w1 ⟨nv,δ2,rfl,rfl,WN⟩;have HNV:=qh WN;clear WN)|(go_at_call 127;refine(pF.out _ inferInstance inferInstance inferInstance HL.out.up).mono ?_;rintro e w1 ⟨cv,δ3,rfl,rfl,WW⟩;have HCV:=qh WW;clear WW)|(go_at_call 130;refine(qn.out _ inferInstance inferInstance inferInstance HL.out.up).mono ?_;rintro e w1 ⟨v,δ1,rfl,rfl,hv1,uc,yI⟩;obtain rfl:=hv1 trivial;clear hv1 uc yI));refine bodyPost_ret (v:=.tuple #[.agg #[.int .i64 0,.string ⟨#[]⟩,.nilFunc,.nilFunc],.bool false]) ?_ rfl (vv HN.out ag);simp only[results,Tryz.results131];go_simp
     ·obtain⟨q,rfl⟩:∃q,oq=some q:=by
       cases oq with
       |none=>exact absurd rfl hq
       |some q=>exact⟨q,rfl⟩
      have BE:yw (some q)=true:=by revert hq;cases yw (some q)<;>simp
      rw[BE] at qn;by_cases hk2:cg q.w=2
      ·have uy:=qh hk2;clear hq BE hk2;go_enter Tryz.func131,Tryz.ntmps131;go_upto_region 5 with(first|(go_at_call 200;refine(yN.out _ inferInstance).mono ?_;rintro e w1 ⟨rfl,rfl⟩)|(go_at_call 130;refine(qn.out _ inferInstance inferInstance inferInstance HL.out.up).mono ?_;rintro e w1 ⟨v,δ1,rfl,rfl,hv1,uc,yI⟩;obtain⟨u,rfl,hu⟩:=uc q rfl uy.out;obtain⟨uf,ua,rfl⟩:=hu.form;have HU:=qh hu;clear hu hv1 uc yI));refine QBT ?_;intro W1 aH cJ dF cW di dz eL jG;have O1:Hid (ay W1 w.heap.size 137 #[.int .i64 0,.string ⟨#[]⟩,.nilFunc,.nilFunc]):=by rw[aH.out];exact qh ((ay.new rfl).ah _)
       have U1:Hid (jM W1 (.func (.func uf) #[] ua) q):=by rw[aH.out];exact HU
       clear aH HU;go_upto_region 6 with fail;refine QCM ?_;intro W2 eJ a1 a2;have Fo:Le B W2:=fI eJ;have G9:aD B w W2:=gy eJ;obtain⟨su,tZ,tY,sR,tX⟩:=BH 8 w eJ;have O2:Hid (ay W2 w.heap.size 137 #[.int .i64 0,.string ⟨#[]⟩,.nilFunc,.nilFunc]):=by rw[eJ.out];exact qh (O1.out.alloc _)
       have Q2:Hid (ay W2 W1.heap.size 262 #[.func (.func uf) #[] ua]):=by rw[eJ.out];exact qh (ay.new rfl)
       have U2:Hid (jM W2 (.func (.func uf) #[] ua) q):=qh U1.out.up;have em2:W2.cell? ⟨b,o+m,none⟩=some (.string (str tm)):=(bB (inferInstance:aD w.heap.size w W2).out _ _ ib.out).trans em;have ib2:Lt b W2:=⟨nL ib.out (inferInstance:Le w.heap.size W2).out⟩;clear eJ U1 O1;go_upto_region 7 with(go_at_call 201;refine(jh.out _ HL.out.up inferInstance).mono ?_;rintro e w1 ⟨nv,δ2,rfl,rfl,WN⟩;have HNV:=qh WN;clear WN);obtain⟨gn,hgn⟩:∃g,(ah W2 δ2).heap.size=g:=⟨_,rfl⟩;rw[hgn];refine aM fun W3 bR=>?_;have a3:aD W2.heap.size W2 W3:=gy bR;have a4:Le W2.heap.size W3:=fI bR;have Ex:Le B W3:=fI bR;have He:aD B w W3:=gy bR;obtain⟨KU,KT,KS,KR,KQ⟩:=BH 8 w bR;have O3:Hid (ay W3 w.heap.size 137 #[.int .i64 0,.string ⟨#[]⟩,.nilFunc,.nilFunc]):=by rw[bR.out];exact qh ((O2.out.ah _).alloc _)
       have Q3:Hid (ay W3 W1.heap.size 262 #[.func (.func uf) #[] ua]):=by rw[bR.out];exact qh ((Q2.out.ah _).alloc _)
       have N3:Hid (ay W3 gn 3 #[.int .i64 nv]):=by rw[bR.out,<-hgn];exact qh (ay.new rfl)
       have U3:Hid (jM W3 (.func (.func uf) #[] ua) q):=qh U2.out.up;have gn1:Hid (¬gn<w.heap.size):=qh (by rw[<-hgn];have:=(inferInstance:Le w.heap.size (ah W2 δ2)).out;omega);clear bR U2 O2 Q2 hgn;go_upto_region 8 with(go_at_call 127;refine(pF.out _ inferInstance inferInstance inferInstance HL.out.up).mono ?_;rintro e w1 ⟨cv,δ3,rfl,rfl,WW⟩;have HCV:=qh WW;clear WW);refine aM fun W4 jU=>?_;have a5:aD W3.heap.size W3 W4:=gy jU;have a6:Le W3.heap.size W4:=fI jU;have Vt:Le B W4:=fI jU;have Yq:aD B w W4:=gy jU;obtain⟨Yp,Yo,Yn,aau,aat⟩:=BH 8 w jU;have C4:Hid (∀c,oc=some c->cg c.w=1->iD W4 cv c):=by rw[jU.out];exact HCV
       have O4:Hid (ay W4 w.heap.size 137 #[.int .i64 0,.string ⟨#[]⟩,.nilFunc,.nilFunc]):=qh O3.out.eO;have Q4:Hid (ay W4 W1.heap.size 262 #[.func (.func uf) #[] ua]):=qh Q3.out.eO;have N4:Hid (ay W4 gn 3 #[.int .i64 nv]):=qh N3.out.eO;have U4:Hid (jM W4 (.func (.func uf) #[] ua) q):=qh U3.out.up;have es4:W4.cell? ⟨b,o+j,none⟩=some (.string (str ts)):=(bB (inferInstance:aD w.heap.size w W4).out _ _ ib.out).trans es;have ib4:Lt b W4:=⟨nL ib.out (inferInstance:Le w.heap.size W4).out⟩;clear jU HCV U3 O3 Q3 N3;go_upto_region 9 with fail;refine aM fun W5 jT=>?_;have a7:aD W4.heap.size W4 W5:=gy jT;have a8:Le W4.heap.size W5:=fI jT;have adh:Le B W5:=fI jT;have aas:aD B w W5:=gy jT;obtain⟨aar,aaq,aap,aao,aan⟩:=BH 8 w jT;have O5:Hid (ay W5 w.heap.size 137 #[.int .i64 0,.string ⟨#[]⟩,.nilFunc,.nilFunc]):=qh O4.out.eO;have Q5:Hid (ay W5 W1.heap.size 262 #[.func (.func uf) #[] ua]):=qh Q4.out.eO;have N5:Hid (ay W5 gn 3 #[.int .i64 nv]):=qh N4.out.eO;have S5:Hid (ay W5 W4.heap.size 9 #[.string (str ts)]):=by rw[jT.out];exact qh (ay.new rfl)
       have U5:Hid (jM W5 (.func (.func uf) #[] ua) q):=qh U4.out.up;have C5:Hid (∀c,oc=some c->cg c.w=1->iD W5 cv c):=qh fun c h1 h2=>(C4.out c h1 h2).up;have gs1:Hid (¬W4.heap.size<w.heap.size):=qh (by have:=(inferInstance:Le w.heap.size W4).out;omega);clear jT C4 U4 O4 Q4 N4;obtain⟨gq,hgq⟩:∃g,W1.heap.size=g:=⟨_,rfl⟩;obtain⟨gs,T6⟩:∃g,W4.heap.size=g:=⟨_,rfl⟩;rw[hgq] at Q5 ⊢;rw[T6] at S5 gs1 ⊢;clear hgq T6;have y1:=S5.out.cell (i:=0) (v:=.string (str ts)) rfl;have j1:=S5.out.lt;cases b1 with
       |false=>
        have HN:Hid (Ey (dH ws)=false):=by unfold Hid;rw[Nl.out];exact vH (.inr (.inr (.inl xP.out)))
        go_upto_region 10 with fail
        apply wp_region_lit
        refine QBY ?_
        intro W9 C9 k9
        refine QCO ?_
        intro p1 p2
        go_wp2_with fail
        refine QEC ?_
        exact vv HN.out ⟨W9,ai⟩
       |true=>
        cases b2 with
        |false=>
         have HN:Hid (Ey (dH ws)=false):=by unfold Hid;rw[Nl.out];exact vH (.inr (.inr (.inr Bw.out)))
         go_upto_region 10 with fail
         apply wp_region_lit
         refine QBY ?_
         intro W9 C9 k9
         refine QCO ?_
         intro p1 p2
         go_wp2_with fail
         refine QEC ?_
         exact vv HN.out ⟨W9,ai⟩
        |true=>
         obtain⟨n,hn⟩:∃n,on=some n:=by
          have:=xP.out;cases on with
          |none=>cases this
          |some n=>exact⟨n,rfl⟩
         obtain⟨c,hc,K8⟩:∃c,oc=some c/\cg c.w=1:=by
          have:=Bw.out;cases oc with
          |none=>cases this
          |some c=>exact⟨c,rfl,of_decide_eq_true this⟩
         obtain rfl:nv=n:=HNV.out n hn
         have hnb:=gB.out nv hn
         have C6:=qh (C5.out c hc K8)
         obtain⟨vc,va,rfl⟩:=C6.out.form
         subst hn;subst hc
         clear HNV gB C5 xP Bw
         by_cases VB:ts=[60]
         ·subst VB;have HN:Hid (dH ws=.ord q 60 nv c):=by unfold Hid;rw[Nl.out];exact zP uy.out K8
          have HC:Hid (cg c.w=1):=qh K8;clear K8 Nl uy jh pF qn yN;have f60:((str [60]).toList==[60])=true:=by rw[cj];rfl
          have f60':((str [60]).toList != [60])=false:=by rw[bne,f60];rfl
          have f61:((str [60]).toList==[61])=false:=by rw[cj];rfl
          have f61':((str [60]).toList != [61])=true:=by rw[bne,f61];rfl
          have f62:((str [60]).toList==[62])=false:=by rw[cj];rfl
          have f62':((str [60]).toList != [62])=true:=by rw[bne,f62];rfl
          go_upto_region 11 with fail;go_wp2_with (first|(refine gC (ps:=[(2,.func (.func 202) #[] #[.pointer (some ⟨gq,0,none⟩),.pointer (some ⟨gs,0,none⟩),.pointer (some ⟨gn,0,none⟩)]),(3,.func (.func 189) #[] #[.pointer (some ⟨vc,0,none⟩),.pointer (some ⟨va,0,none⟩)])]) (cells:=#[.int .i64 0,.string ⟨#[]⟩,.func (.func 202) #[] #[.pointer (some ⟨gq,0,none⟩),.pointer (some ⟨gs,0,none⟩),.pointer (some ⟨gn,0,none⟩)],.func (.func 189) #[] #[.pointer (some ⟨vc,0,none⟩),.pointer (some ⟨va,0,none⟩)]]) rfl _ _ rfl rfl (uL gq gs gn vc va) ?_)|(refine ak (cs':=#[.int .i64 0,.string ⟨#[]⟩,.func (.func 202) #[] #[.pointer (some ⟨gq,0,none⟩),.pointer (some ⟨gs,0,none⟩),.pointer (some ⟨gn,0,none⟩)],.func (.func 189) #[] #[.pointer (some ⟨vc,0,none⟩),.pointer (some ⟨va,0,none⟩)]]) zD rfl _ _ rfl rfl rfl O5.out rfl rfl (by simp[Value.oneCell']) ?_;intro W9 C9 k9));refine QCO ?_;intro p1 p2;refine QEC ?_;refine JX HN.out ⟨nU,hnb,gq,gs,gn,_,rfl,Q5.out.vX k9 O5.out nU,U5.out.aV k9 O5.out nU nU,S5.out.vX k9 O5.out nU,gs1.out,N5.out.vX k9 O5.out nU,gn1.out⟩ (C6.out.aV k9 O5.out nU nU nU)
         by_cases VA:ts=[61]
         ·subst VA;have HN:Hid (dH ws=.ord q 61 nv c):=by unfold Hid;rw[Nl.out];exact zP uy.out K8
          have HC:Hid (cg c.w=1):=qh K8;clear K8 Nl uy jh pF qn yN;have f60:((str [61]).toList==[60])=false:=by rw[cj];rfl
          have f60':((str [61]).toList != [60])=true:=by rw[bne,f60];rfl
          have f61:((str [61]).toList==[61])=true:=by rw[cj];rfl
          have f61':((str [61]).toList != [61])=false:=by rw[bne,f61];rfl
          have f62:((str [61]).toList==[62])=false:=by rw[cj];rfl
          have f62':((str [61]).toList != [62])=true:=by rw[bne,f62];rfl
          go_upto_region 11 with fail;go_wp2_with (first|(refine gC (ps:=[(2,.func (.func 202) #[] #[.pointer (some ⟨gq,0,none⟩),.pointer (some ⟨gs,0,none⟩),.pointer (some ⟨gn,0,none⟩)]),(3,.func (.func 189) #[] #[.pointer (some ⟨vc,0,none⟩),.pointer (some ⟨va,0,none⟩)])]) (cells:=#[.int .i64 0,.string ⟨#[]⟩,.func (.func 202) #[] #[.pointer (some ⟨gq,0,none⟩),.pointer (some ⟨gs,0,none⟩),.pointer (some ⟨gn,0,none⟩)],.func (.func 189) #[] #[.pointer (some ⟨vc,0,none⟩),.pointer (some ⟨va,0,none⟩)]]) rfl _ _ rfl rfl (uL gq gs gn vc va) ?_)|(refine ak (cs':=#[.int .i64 0,.string ⟨#[]⟩,.func (.func 202) #[] #[.pointer (some ⟨gq,0,none⟩),.pointer (some ⟨gs,0,none⟩),.pointer (some ⟨gn,0,none⟩)],.func (.func 189) #[] #[.pointer (some ⟨vc,0,none⟩),.pointer (some ⟨va,0,none⟩)]]) zD rfl _ _ rfl rfl rfl O5.out rfl rfl (by simp[Value.oneCell']) ?_;intro W9 C9 k9));refine QCO ?_;intro p1 p2;refine QEC ?_;refine JX HN.out ⟨nU,hnb,gq,gs,gn,_,rfl,Q5.out.vX k9 O5.out nU,U5.out.aV k9 O5.out nU nU,S5.out.vX k9 O5.out nU,gs1.out,N5.out.vX k9 O5.out nU,gn1.out⟩ (C6.out.aV k9 O5.out nU nU nU)
         by_cases Vz:ts=[62]
         ·subst Vz;have HN:Hid (dH ws=.ord q 62 nv c):=by unfold Hid;rw[Nl.out];exact zP uy.out K8
          have HC:Hid (cg c.w=1):=qh K8;clear K8 Nl uy jh pF qn yN;have f60:((str [62]).toList==[60])=false:=by rw[cj];rfl
          have f60':((str [62]).toList != [60])=true:=by rw[bne,f60];rfl
          have f61:((str [62]).toList==[61])=false:=by rw[cj];rfl
          have f61':((str [62]).toList != [61])=true:=by rw[bne,f61];rfl
          have f62:((str [62]).toList==[62])=true:=by rw[cj];rfl
          have f62':((str [62]).toList != [62])=false:=by rw[bne,f62];rfl
          go_upto_region 11 with fail;go_wp2_with (first|(refine gC (ps:=[(2,.func (.func 202) #[] #[.pointer (some ⟨gq,0,none⟩),.pointer (some ⟨gs,0,none⟩),.pointer (some ⟨gn,0,none⟩)]),(3,.func (.func 189) #[] #[.pointer (some ⟨vc,0,none⟩),.pointer (some ⟨va,0,none⟩)])]) (cells:=#[.int .i64 0,.string ⟨#[]⟩,.func (.func 202) #[] #[.pointer (some ⟨gq,0,none⟩),.pointer (some ⟨gs,0,none⟩),.pointer (some ⟨gn,0,none⟩)],.func (.func 189) #[] #[.pointer (some ⟨vc,0,none⟩),.pointer (some ⟨va,0,none⟩)]]) rfl _ _ rfl rfl (uL gq gs gn vc va) ?_)|(refine ak (cs':=#[.int .i64 0,.string ⟨#[]⟩,.func (.func 202) #[] #[.pointer (some ⟨gq,0,none⟩),.pointer (some ⟨gs,0,none⟩),.pointer (some ⟨gn,0,none⟩)],.func (.func 189) #[] #[.pointer (some ⟨vc,0,none⟩),.pointer (some ⟨va,0,none⟩)]]) zD rfl _ _ rfl rfl rfl O5.out rfl rfl (by simp[Value.oneCell']) ?_;intro W9 C9 k9));refine QCO ?_;intro p1 p2;refine QEC ?_;refine JX HN.out ⟨nU,hnb,gq,gs,gn,_,rfl,Q5.out.vX k9 O5.out nU,U5.out.aV k9 O5.out nU nU,S5.out.vX k9 O5.out nU,gs1.out,N5.out.vX k9 O5.out nU,gn1.out⟩ (C6.out.aV k9 O5.out nU nU nU)
         have HN:Hid (Ey (dH ws)=false):=by unfold Hid;rw[Nl.out];refine vH (.inr (.inl ?_));unfold kC;rw[if_neg VB,if_neg VA,if_neg Vz]
         have f60:((str ts).toList==[60])=false:=by rw[cj];exact decide_eq_false VB
         have f60':((str ts).toList != [60])=true:=by rw[bne,f60];rfl
         have f61:((str ts).toList==[61])=false:=by rw[cj];exact decide_eq_false VA
         have f61':((str ts).toList != [61])=true:=by rw[bne,f61];rfl
         have f62:((str ts).toList==[62])=false:=by rw[cj];exact decide_eq_false Vz
         have f62':((str ts).toList != [62])=true:=by rw[bne,f62];rfl
         clear VB VA Vz K8
         go_upto_region 10 with fail
         apply wp_region_lit
         refine QBY ?_
         intro W9 C9 k9
         refine QCO ?_
         intro p1 p2
         go_wp2_with fail
         refine QEC ?_
         exact vv HN.out ⟨W9,ai⟩
      ·have sx:cg q.w=3:=by have:=of_decide_eq_true (show decide (cg q.w=2\/cg q.w=3)=true from BE);omega
       have HK3:=qh sx;have HN:Hid (Ey (dH ws)=false):=by unfold Hid;rw[Nl.out];refine vH (.inl fun q' e hk=>?_);injection e with e;subst e;exact hk2 hk
       clear hq BE hk2 sx;go_enter Tryz.func131,Tryz.ntmps131;go_wp2_with (first|(go_at_call 200;refine(yN.out _ inferInstance).mono ?_;rintro e w1 ⟨rfl,rfl⟩)|(go_at_call 201;refine(jh.out _ HL.out.up inferInstance).mono ?_;rintro e w1 ⟨nv,δ2,rfl,rfl,WN⟩;have HNV:=qh WN;clear WN)|(go_at_call 127;refine(pF.out _ inferInstance inferInstance inferInstance HL.out.up).mono ?_;rintro e w1 ⟨cv,δ3,rfl,rfl,WW⟩;have HCV:=qh WW;clear WW)|(go_at_call 130;refine(qn.out _ inferInstance inferInstance inferInstance HL.out.up).mono ?_;rintro e w1 ⟨v,δ1,rfl,rfl,hv1,uc,yI⟩;obtain rfl:=yI q rfl HK3.out;clear hv1 uc yI));refine bodyPost_ret (v:=.tuple #[.agg #[.int .i64 0,.string ⟨#[]⟩,.nilFunc,.nilFunc],.bool false]) ?_ rfl (vv HN.out ag);simp only[results,Tryz.results131];go_simp
 ·have HN:Hid (Ey (dH ws)=false):=qh (J4 h0 (by rw[ht0];exact hw));have f:((str t0).toList==[119,104,101,110])=false:=by rw[cj];exact decide_eq_false hw
  have f':((str t0).toList != [119,104,101,110])=true:=by rw[bne,f];rfl
  obtain⟨ix,ZR⟩:∃x,wh (fM eY ws)=x:=⟨_,rfl⟩;rw[ZR] at yN;clear hS hL hl h0 hb ht0 hcap hw ZR;go_enter Tryz.func131,Tryz.ntmps131;go_wp2_with (go_at_call 200;refine(yN.out _ inferInstance).mono ?_;rintro e w1 ⟨rfl,rfl⟩);refine bodyPost_ret (v:=.tuple #[.agg #[.int .i64 0,.string ⟨#[]⟩,.nilFunc,.nilFunc],.bool false]) ?_ rfl (vv HN.out ag);simp only[results,Tryz.results131];go_simp
end
section
open Hd
theorem PM(k:cO)(d:ct)(ms:List fL)(l:aQ)(hl:l.length<=1000)(hv:aE d.ax=true)(c:eB)(hr:bH l=.cmd c)(hk:cg c.w=1)(X:Nat->Prop)(B D:Nat)(w:nJ)(hX:∀b,X b->b<w.heap.size)(h8:8<=B)(hD:cq X B D w k d ms)(hL:cT w):Calls nH 76 #[.pointer (some ⟨D,0,none⟩),.string (str l)] w (mo X B D w (⟨jc d.ax c,d.az,d.given⟩,jB (gz d.ax c).isSome)):=by refine QAG ?_;intro HV HX H HL lB l8 lD ws pT I5 hw0 hwn I2;have rZ:bJ ws=some c:=(qw (by rw[<-pT];exact hr)).1;have HK:=qh hk;clear hr hk hl pT;have HT:Hid (∀(v:nK) (W:nJ),cq X B D W k d ms->iD W v c->Calls nH 129 #[.pointer (some ⟨D,0,none⟩),v] W fun e w'=>∃k':cO,e=.returned (.bool (gz d.ax c).isSome)/\cq X B D w' k' ⟨jc d.ax c,d.az,d.given⟩ ms/\Fr B [131] W w'):=qh fun v W h1 h2=>Mk k d ms HV.out c v X B D W h1 h2;refine QDP ?_;intro td Dg bb ij;rw[Dg,ij] at HT ⊢;clear hD hL hv hX;go_enter Tryz.func76,Tryz.ntmps76;go_upto_region 2 with(go_at_call 126;refine I5.out.mono ?_;rintro e w1 ⟨A,n,cap,δ1,rfl,rfl,rfl,hS⟩;have HS:=qh hS;clear hS);refine QAM ?_;intro W1 aH cJ dF cW di dz eL jG H1 oa pY lS lS8 F1;clear aH HS;have pF:Hid (Calls nH 127 #[.slice A ws.length cap] W1 (kJ (bJ ws) W1)):=qh (qW ws A cap hw0 I2.out hwn W1.heap.size W1 oa.out pY.out);unfold kJ at pF;rw[rZ,show lZ (some c)=true from decide_eq_true HK.out] at pF;clear rZ Dg ij;go_upto_region 4 with(go_at_call 127;refine pF.out.mono ?_;rintro e w1 ⟨v,δ2,rfl,rfl,hc⟩;have HC:=qh (hc c rfl HK.out);clear hc);go_wp2_with (first|(go_at_call 129;refine(HT.out v _ H1.out.up HC.out).mono ?_;rintro e w1 ⟨k',rfl,MX,hf2⟩;have H2:=qh MX;have F2:=qh hf2;clear MX hf2)|(go_at_call 128;refine(wQ bb _).mono ?_;rintro e w1 ⟨rfl,δ3,rfl⟩));go_ret;exact⟨k',ms,rfl,H2.out.up,((F1.out.trans (by have:=H1.out.le;exact Fr.gu)).trans (F2.out.mono nU)).trans (by have:=H2.out.le;exact Fr.gu)⟩
end
section
open Hd
theorem Yd(uf:Nat)(ua:Array nK)(w:nJ):(nilAhead 463 262 (.func (.func uf) #[] ua) "almadraba/headman.answer").run nH w=.ok (some false) w:=by kernel_rfl
theorem Yc(uf:Nat)(w:nJ):(nilAhead 463 264 (.func (.func uf) #[] #[]) "almadraba/headman.answer").run nH w=.ok (some false) w:=by kernel_rfl
attribute[local go_sem] Yd Yc
theorem Zd(k:cO)(d:ct)(ms:List fL)(l:aQ)(hl:l.length<=1000)(hv:aE d.ax=true)(c:eB)(hr:bH l=.cmd c)(hk:cg c.w=2)(X:Nat->Prop)(B D:Nat)(w:nJ)(hX:∀b,X b->b<w.heap.size)(h8:8<=B)(hD:cq X B D w k d ms)(hL:cT w):Calls nH 76 #[.pointer (some ⟨D,0,none⟩),.string (str l)] w (mo X B D w (d,fY d.ax c)):=by
 refine QAG ?_;intro HV HX H HL lB l8 lD ws pT I5 hw0 hwn I2;have rZ:bJ ws=some c:=(qw (by rw[<-pT];exact hr)).1;have HK:=qh hk;clear hr hk hl pT;obtain⟨an,Qq⟩:∃x,fY d.ax c=x:=⟨_,rfl⟩;have HA:Hid (∀(u:nK) (W:nJ),cq X B D W k d ms->Le 8 W->cT W->jM W u c->Calls nH 316 #[u,aY k.ax d.ax] W fun e w'=>e=.returned (.string (str an))/\∃δ,w'=ah W δ):=qh fun u W h1 i8 h2 h3=>by have iB:=h1.le;have iW:Le W.heap.size W:=⟨nR _⟩;rw[<-Qq];exact PT k.ax d.ax HV.out c u W.heap.size W h1.eF.ax.is h2 h3
 rw[Qq];clear hD hL hv hX;go_enter Tryz.func76,Tryz.ntmps76;go_upto_region 2 with(go_at_call 126;refine I5.out.mono ?_;rintro e w1 ⟨A,n,cap,δ1,rfl,rfl,rfl,hS⟩;have HS:=qh hS;clear hS);refine QAM ?_;intro W1 aH cJ dF cW di dz eL jG H1 oa pY lS lS8 F1;clear aH HS;refine QAO ?_;intro pF qn;unfold kJ at pF;unfold me at qn;rw[rZ,show lZ (some c)=false from decide_eq_false (by rw[HK.out];decide)] at pF;rw[rZ,show yw (some c)=true from decide_eq_true (by rw[HK.out];decide)] at qn;clear rZ Qq;go_upto_region 7 with(first|(go_at_call 127;refine pF.out.mono ?_;rintro e w1 ⟨v,δ2,rfl,rfl,hc⟩;clear hc)|(go_at_call 130;refine(qn.out _ inferInstance inferInstance inferInstance pY.out.up).mono ?_;rintro e w1 ⟨v2,δ3,rfl,rfl,hv1,uc,yI⟩;obtain⟨u,rfl,hu⟩:=uc c rfl HK.out;obtain⟨uf,ua,rfl⟩:=hu.form;have HU:=qh hu;clear hu hv1 uc yI));refine QDL ?_;intro W2 eJ Fo G9 su tZ tY sR tX H2 qQ F2;have U2:Hid (jM W2 (.func (.func uf) #[] ua) c):=by rw[eJ.out];exact HU
 clear eJ;have lS2:Le W2.heap.size W2:=⟨nR _⟩;have lD2:=H2.out.eF.box.lt;refine wp_region_held (S:=fun W=>aD W2.heap.size W2 W) nP ?_;change wpAnyH _ _ _ _ _ _ _ _ (World.drew _);refine wpH_tq 0 (.iface 262 (.func (.func uf) #[] ua)) (inferInstance) ?_;refine QAC ?_;refine wpH_tq 1 (.pointer (some ⟨D,0,none⟩)) (inferInstance) ?_;refine QAC ?_;refine QEQ ?_;refine QAC ?_;refine QER ?_;refine QAC ?_;refine gN 4 (aY k.ax d.ax) rfl nP (lG aq nY _ rfl rfl (fun _ h=>ay.eO (hg:=h) H2.out.eF.box) (eU k d) rfl) (inferInstance) ?_;refine QAC ?_;refine wpH_tq 5 (.func (.method "almadraba/headman.answer") #[.iface 262 (.func (.func uf) #[] ua)] #[]) (inferInstance) ?_;refine QAC ?_;refine wpH_tq 6 (.func (.method "almadraba/headman.answer") #[.iface 262 (.func (.func uf) #[] ua)] #[]) (inferInstance) ?_;refine QAC ?_;refine wpH_tq 7 (.iface 262 (.func (.func uf) #[] ua)) (inferInstance) ?_;refine QAC ?_;refine wpAnyH_all (rs:=[8]) nP nV ?_;intro i hi;obtain rfl:=List.mem_singleton.1 hi;refine QAF ?_;refine(HA.out (.func (.func uf) #[] ua) _ H2.out.up inferInstance qQ.out.up (U2.out.up)).mono ?_;rintro e w1 ⟨rfl,δ4,rfl⟩;refine⟨inferInstance,?_⟩;refine QAC ?_;refine wpH_tq 9 (.string (str an)) (inferInstance) ?_;refine QAC ?_;refine wpAnyH_done nP ?_ _;go_wp2_with fail;go_ret;exact⟨k,ms,rfl,H2.out.up,F2.out.trans (by have:=H2.out.le;exact Fr.gu)⟩
theorem V5(k:cO)(d:ct)(ms:List fL)(l:aQ)(hl:l.length<=1000)(hv:aE d.ax=true)(c:eB)(hr:bH l=.cmd c)(hk:cg c.w=3)(X:Nat->Prop)(B D:Nat)(w:nJ)(hX:∀b,X b->b<w.heap.size)(h8:8<=B)(hD:cq X B D w k d ms)(hL:cT w):Calls nH 76 #[.pointer (some ⟨D,0,none⟩),.string (str l)] w (mo X B D w (d,fY d.ax c)):=by
 refine QAG ?_;intro HV HX H HL lB l8 lD ws pT I5 hw0 hwn I2;have rZ:bJ ws=some c:=(qw (by rw[<-pT];exact hr)).1;have HK:=qh hk;clear hr hk hl pT;obtain⟨an,Qq⟩:∃x,fY d.ax c=x:=⟨_,rfl⟩;have HA:Hid (∀(u:nK) (W:nJ),cq X B D W k d ms->Le 8 W->cT W->u=.func (.func (p6 c.w)) #[] #[]->Calls nH 318 #[u,aY k.ax d.ax] W fun e w'=>e=.returned (.string (str an))/\∃δ,w'=ah W δ):=qh fun u W h1 i8 h2 h3=>by have iB:=h1.le;have iW:Le W.heap.size W:=⟨nR _⟩;rw[<-Qq];subst h3;exact RY k.ax d.ax HV.out c HK.out W.heap.size W h1.eF.ax.is h2
 rw[Qq];clear hD hL hv hX;go_enter Tryz.func76,Tryz.ntmps76;go_upto_region 2 with(go_at_call 126;refine I5.out.mono ?_;rintro e w1 ⟨A,n,cap,δ1,rfl,rfl,rfl,hS⟩;have HS:=qh hS;clear hS);refine QAM ?_;intro W1 aH cJ dF cW di dz eL jG H1 oa pY lS lS8 F1;clear aH HS;refine QAO ?_;intro pF qn;unfold kJ at pF;unfold me at qn;rw[rZ,show lZ (some c)=false from decide_eq_false (by rw[HK.out];decide)] at pF;rw[rZ,show yw (some c)=true from decide_eq_true (by rw[HK.out];decide)] at qn;clear rZ Qq;go_upto_region 7 with(first|(go_at_call 127;refine pF.out.mono ?_;rintro e w1 ⟨v,δ2,rfl,rfl,hc⟩;clear hc)|(go_at_call 130;refine(qn.out _ inferInstance inferInstance inferInstance pY.out.up).mono ?_;rintro e w1 ⟨v2,δ3,rfl,rfl,hv1,uc,yI⟩;obtain rfl:=yI c rfl HK.out;clear hv1 uc yI));refine QDL ?_;intro W2 eJ Fo G9 su tZ tY sR tX H2 qQ F2;clear eJ;have lS2:Le W2.heap.size W2:=⟨nR _⟩;have lD2:=H2.out.eF.box.lt;refine wp_region_held (S:=fun W=>aD W2.heap.size W2 W) nP ?_;change wpAnyH _ _ _ _ _ _ _ _ (World.drew _);refine wpH_tq 0 (.iface 264 (.func (.func (p6 c.w)) #[] #[])) (inferInstance) ?_;refine QAC ?_;refine wpH_tq 1 (.pointer (some ⟨D,0,none⟩)) (inferInstance) ?_;refine QAC ?_;refine QEQ ?_;refine QAC ?_;refine QER ?_;refine QAC ?_;refine gN 4 (aY k.ax d.ax) rfl nP (lG aq nY _ rfl rfl (fun _ h=>ay.eO (hg:=h) H2.out.eF.box) (eU k d) rfl) (inferInstance) ?_;refine QAC ?_;refine wpH_tq 5 (.func (.method "almadraba/headman.answer") #[.iface 264 (.func (.func (p6 c.w)) #[] #[])] #[]) (inferInstance) ?_;refine QAC ?_;refine wpH_tq 6 (.func (.method "almadraba/headman.answer") #[.iface 264 (.func (.func (p6 c.w)) #[] #[])] #[]) (inferInstance) ?_;refine QAC ?_;refine wpH_tq 7 (.iface 264 (.func (.func (p6 c.w)) #[] #[])) (inferInstance) ?_;refine QAC ?_;refine wpAnyH_all (rs:=[8]) nP nV ?_;intro i hi;obtain rfl:=List.mem_singleton.1 hi;refine QAF ?_;refine(HA.out (.func (.func (p6 c.w)) #[] #[]) _ H2.out.up inferInstance qQ.out.up (rfl)).mono ?_;rintro e w1 ⟨rfl,δ4,rfl⟩;refine⟨inferInstance,?_⟩;refine QAC ?_;refine wpH_tq 9 (.string (str an)) (inferInstance) ?_;refine QAC ?_;refine wpAnyH_done nP ?_ _;go_wp2_with fail;go_ret;exact⟨k,ms,rfl,H2.out.up,F2.out.trans (by have:=H2.out.le;exact Fr.gu)⟩
end
section
open Hd
theorem V4(k:cO)(d:ct)(ms:List fL)(l:aQ)(hl:l.length<=1000)(hv:aE d.ax=true)(hr:bH l=.none)(X:Nat->Prop)(B D:Nat)(w:nJ)(hX:∀b,X b->b<w.heap.size)(h8:8<=B)(hD:cq X B D w k d ms)(hL:cT w):Calls nH 76 #[.pointer (some ⟨D,0,none⟩),.string (str l)] w (mo X B D w (d,mC)):=by
 refine QAG ?_;intro HV HX H HL lB l8 lD ws pT I5 hw0 hwn I2;have rZ:bJ ws=none:=J2 (by rw[<-pT];exact hr);have Jf:Ey (dH ws)=false:=by rw[<-pT];show Ey (bH l)=false;rw[hr];rfl
 clear hr hl pT hD hL hv hX;go_enter Tryz.func76,Tryz.ntmps76;go_upto_region 2 with(go_at_call 126;refine I5.out.mono ?_;rintro e w1 ⟨A,n,cap,δ1,rfl,rfl,rfl,hS⟩;have HS:=qh hS;clear hS);refine QAM ?_;intro W1 aH cJ dF cW di dz eL jG H1 oa pY lS lS8 F1;clear aH HS;refine QAO ?_;intro pF qn;unfold kJ at pF;unfold me at qn;rw[rZ,show lZ none=false from rfl] at pF;rw[rZ,show yw none=false from rfl] at qn;refine QBE ?_;intro Bt;unfold rS at Bt;rw[Jf] at Bt;obtain⟨b,o,rfl,hb,e0⟩:=oa.out.kK hw0;refine QCE ?_;intro Wt hcap e0 ib A2 rz;have Cc:Hid (Sl bS W1.heap.size W1 A2 (cap-1) (ws.drop 1)):=by have:=oa.out.drop gP 1 nQ;rw[<-rz];exact qh (by simpa [Addr.add_lit] using this)
 refine QAY ?_;intro Jc hn2 VH WO VG Jm jh;unfold o9 at jh;have HDF:Hid (nth ws 0=cF .forget->∀a,cQ (ws.drop 1)=some a->a.length≠1):=qh fun hf a ha=>Ir rZ hw0 hf ha;obtain⟨t0,ht0⟩:∃x,nth ws 0=x:=⟨_,rfl⟩;rw[ht0] at e0 HDF;clear ht0 rZ Jf hb hcap;cases Qm:cQ (ws.drop 1) with
 |none=>
  rw[Qm] at jh
  clear Qm HDF
  go_upto_region 16 with(first|(go_at_call 127;refine pF.out.mono ?_;rintro e w1 ⟨v,δ2,rfl,rfl,hc⟩;clear hc)|(go_at_call 130;refine(qn.out _ inferInstance inferInstance inferInstance pY.out.up).mono ?_;rintro e w1 ⟨v2,δ3,rfl,rfl,hv1,uc,yI⟩;obtain rfl:=hv1 trivial;clear hv1 uc yI)|(go_at_call 131;refine(Bt.out _ inferInstance inferInstance inferInstance pY.out.up).mono ?_;rintro e w1 ⟨o1,o2,δ4,rfl,rfl,hz1,uq⟩;obtain⟨rfl,rfl⟩:=hz1 trivial;clear hz1 uq))
  refine QCM ?_
  intro W2 eJ a1 a2
  refine QFC ?_
  intro Fo G9 su tZ tY sR tX
  clear eJ
  refine QAZ ?_
  intro e02 ib2 qQ H2 F2
  go_upto_region 17 with(go_at_call 132;refine(jh.out _ inferInstance inferInstance inferInstance qQ.out.up).mono ?_;rintro e w1 ⟨A3,c3,δ5,rfl,rfl,AG⟩;have ux:=qh AG;clear AG)
  refine QBW ?_
  intro g hg W3 bR a3 a4
  have Ex:Le B W3:=fI bR
  have He:aD B w W3:=gy bR
  obtain⟨KU,KT,KS,KR⟩:=EO 8 w bR
  have KQ:Lt (D) W3:=nr bR
  have G3:Hid (ay W3 g 35 #[.slice A3 0 c3]):=by rw[bR.out,<-hg];exact qh (ay.new rfl)
  have I3:Hid (fN 3 aI W3.heap.size W3 A3 c3 []):=by rw[bR.out];exact qh (ux.out.wide)
  refine QBC ?_
  intro H3 F3 e03 ib3
  have ve:=G3.out.cell (i:=0) (v:=.slice A3 0 c3) rfl
  have lg:=G3.out.lt
  clear bR hg ux
  go_wp2_with fail
  go_ret
  exact⟨k,ms,rfl,H3.out.up,F3.out.trans (by have:=H3.out.le;exact Fr.gu)⟩
 |some a=>
  rw[Qm] at jh HDF
  clear Qm
  obtain⟨an,Qq⟩:∃n,a.length=n:=⟨_,rfl⟩
  have No:=qh Qq
  simp only[Option.getD_some,Qq] at jh
  by_cases hf:t0=cF .forget
  ·have ahp:((an:Int)==1)=false:=beq_eq_false_iff_ne.2 (by have:=HDF.out hf a rfl;omega);have f:((str t0).toList==[102,111,114,103,101,116])=true:=by subst hf;rw[cj];rfl
   clear hf HDF Qq;go_upto_region 16 with(first|(go_at_call 127;refine pF.out.mono ?_;rintro e w1 ⟨v,δ2,rfl,rfl,hc⟩;clear hc)|(go_at_call 130;refine(qn.out _ inferInstance inferInstance inferInstance pY.out.up).mono ?_;rintro e w1 ⟨v2,δ3,rfl,rfl,hv1,uc,yI⟩;obtain rfl:=hv1 trivial;clear hv1 uc yI)|(go_at_call 131;refine(Bt.out _ inferInstance inferInstance inferInstance pY.out.up).mono ?_;rintro e w1 ⟨o1,o2,δ4,rfl,rfl,hz1,uq⟩;obtain⟨rfl,rfl⟩:=hz1 trivial;clear hz1 uq));refine QCM ?_;intro W2 eJ a1 a2;have Vt:Le B W2:=fI eJ;have Yq:aD B w W2:=gy eJ;obtain⟨Yp,Yo,Yn,aau⟩:=EO 8 w eJ;have aat:Lt (D) W2:=nr eJ;clear eJ;refine QAZ ?_;intro e02 ib2 qQ H2 F2;go_upto_region 17 with(go_at_call 132;refine(jh.out _ inferInstance inferInstance inferInstance qQ.out.up).mono ?_;rintro e w1 ⟨A3,c3,δ5,rfl,rfl,AG⟩;have ux:=qh AG;clear AG);refine QBW ?_;intro g hg W3 bR a3 a4;have adh:Le B W3:=fI bR;have aas:aD B w W3:=gy bR;obtain⟨aar,aaq,aap,aao⟩:=EO 8 w bR;have aan:Lt (D) W3:=nr bR;refine QFH ?_;intro G3 I3;refine QBC ?_;intro H3 F3 e03 ib3;have ve:=G3.out.cell (i:=0) (v:=.slice A3 an c3) rfl;have lg:=G3.out.lt;clear bR hg ux;go_wp2_with fail;go_ret;exact⟨k,ms,rfl,H3.out.up,F3.out.trans (by have:=H3.out.le;exact Fr.gu)⟩
  ·have f:((str t0).toList==[102,111,114,103,101,116])=false:=by rw[cj];exact decide_eq_false hf
   clear hf HDF Qq;go_upto_region 16 with(first|(go_at_call 127;refine pF.out.mono ?_;rintro e w1 ⟨v,δ2,rfl,rfl,hc⟩;clear hc)|(go_at_call 130;refine(qn.out _ inferInstance inferInstance inferInstance pY.out.up).mono ?_;rintro e w1 ⟨v2,δ3,rfl,rfl,hv1,uc,yI⟩;obtain rfl:=hv1 trivial;clear hv1 uc yI)|(go_at_call 131;refine(Bt.out _ inferInstance inferInstance inferInstance pY.out.up).mono ?_;rintro e w1 ⟨o1,o2,δ4,rfl,rfl,hz1,uq⟩;obtain⟨rfl,rfl⟩:=hz1 trivial;clear hz1 uq));refine QCM ?_;intro W2 eJ a1 a2;have adg:Le B W2:=fI eJ;have adf:aD B w W2:=gy eJ;obtain⟨ade,adb,ada,ad9⟩:=EO 8 w eJ;have ad8:Lt (D) W2:=nr eJ;clear eJ;refine QAZ ?_;intro e02 ib2 qQ H2 F2;go_upto_region 17 with(go_at_call 132;refine(jh.out _ inferInstance inferInstance inferInstance qQ.out.up).mono ?_;rintro e w1 ⟨A3,c3,δ5,rfl,rfl,AG⟩;have ux:=qh AG;clear AG);refine QBW ?_;intro g hg W3 bR a3 a4;have agY:Le B W3:=fI bR;have agX:aD B w W3:=gy bR;obtain⟨agW,agV,agU,agT⟩:=EO 8 w bR;have agS:Lt (D) W3:=nr bR;refine QFH ?_;intro G3 I3;refine QBC ?_;intro H3 F3 e03 ib3;have ve:=G3.out.cell (i:=0) (v:=.slice A3 an c3) rfl;have lg:=G3.out.lt;clear bR hg ux;go_wp2_with fail;go_ret;exact⟨k,ms,rfl,H3.out.up,F3.out.trans (by have:=H3.out.le;exact Fr.gu)⟩
theorem V6(k:cO)(d:ct)(ms:List fL)(l:aQ)(hl:l.length<=1000)(hv:aE d.ax=true)(q c:eB)(s:UInt8)(n:Int)(hr:bH l=.ord q s n c)(h5:d.az.length=5)(X:Nat->Prop)(B D:Nat)(w:nJ)(hX:∀b,X b->b<w.heap.size)(h8:8<=B)(hD:cq X B D w k d ms)(hL:cT w):Calls nH 76 #[.pointer (some ⟨D,0,none⟩),.string (str l)] w (mo X B D w (d,vk)):=by
 refine QAG ?_;intro HV HX H HL lB l8 lD ws pT I5 hw0 hwn I2;have HRL:=qh hr;have hrw:dH ws=.ord q s n c:=by rw[<-pT];exact hr
 have rZ:bJ ws=none:=CJ hrw;have Jf:Ey (dH ws)=true:=by rw[hrw];rfl
 have HRW:=qh hrw;clear hr hl pT hrw hD hL hv hX;go_enter Tryz.func76,Tryz.ntmps76;go_upto_region 2 with(go_at_call 126;refine I5.out.mono ?_;rintro e w1 ⟨A,n,cap,δ1,rfl,rfl,rfl,hS⟩;have HS:=qh hS;clear hS);refine QAM ?_;intro W1 aH cJ dF cW di dz eL jG H1 oa pY lS lS8 F1;clear aH HS;refine QAO ?_;intro pF qn;unfold kJ at pF;unfold me at qn;rw[rZ,show lZ none=false from rfl] at pF;rw[rZ,show yw none=false from rfl] at qn;refine QBE ?_;intro Bt;unfold rS at Bt;rw[Jf] at Bt;have Nf:W1.cell? ⟨D,14,none⟩=some (.slice k.oA d.az.length k.oc):=H1.out.eF.box.cell rfl;clear rZ Jf;have h5i:((d.az.length:Int)==5)=true:=by simp[h5]
 clear h5;go_upto_region 9 with(first|(go_at_call 127;refine pF.out.mono ?_;rintro e w1 ⟨v,δ2,rfl,rfl,hc⟩;clear hc)|(go_at_call 130;refine(qn.out _ inferInstance inferInstance inferInstance pY.out.up).mono ?_;rintro e w1 ⟨v2,δ3,rfl,rfl,hv1,uc,yI⟩;obtain rfl:=hv1 trivial;clear hv1 uc yI)|(go_at_call 131;refine(Bt.out _ inferInstance inferInstance inferInstance pY.out.up).mono ?_;rintro e w1 ⟨o1,o2,δ4,rfl,rfl,hz1,uq⟩;obtain⟨⟨hs,hn,gq,gs,gn,u,rfl,q1,q2,q3,q4,q5,q6⟩,T8⟩:=uq q s n c HRW.out;obtain⟨gc,ga,rfl⟩:=T8.form;have HH:Hid (mj X (ah _ δ4) (.func (.func 202) #[] #[.pointer (some ⟨gq,0,none⟩),.pointer (some ⟨gs,0,none⟩),.pointer (some ⟨gn,0,none⟩)]) q s n):=qh ⟨hs,hn,gq,gs,gn,u,rfl,q1,q2,q3,fun h=>q4 (nL (HX.out _ h) (inferInstance:Le w.heap.size (ah (ah W1 δ2) δ3)).out),q5,fun h=>q6 (nL (HX.out _ h) (inferInstance:Le w.heap.size (ah (ah W1 δ2) δ3)).out)⟩;have HC:=qh T8;clear hz1 uq hs hn q1 q2 q3 q4 q5 q6 T8)|(refine ak (cs':=#[.int .i64 0,.string ⟨#[]⟩,.func (.func 202) #[] #[.pointer (some ⟨gq,0,none⟩),.pointer (some ⟨gs,0,none⟩),.pointer (some ⟨gn,0,none⟩)],.func (.func 189) #[] #[.pointer (some ⟨gc,0,none⟩),.pointer (some ⟨ga,0,none⟩)]]) vu rfl _ _ rfl rfl rfl (ay.new (T:=137) rfl) rfl rfl (by simp[Value.oneCell']) ?_;intro W2 O2 k2));refine QCF ?_;intro a1 a2 a3 a4 H2 F2 d14 lD2;clear k2 O2 HH HC;go_wp2_with (go_at_call 128;refine(wQ false _).mono ?_;rintro e w1 ⟨rfl,δ7,rfl⟩);go_ret;exact⟨k,ms,rfl,H2.out.up,F2.out.trans (by have:=H2.out.le;exact Fr.gu)⟩
end
section
open Hd
theorem PL(k:cO)(d:ct)(ms:List fL)(l:aQ)(hl:l.length<=1000)(hv:aE d.ax=true)(h5:d.az.length<=5)(x:Int)(hr:bH l=.cmd ⟨.forget,[x]⟩)(i:Nat)(hi:d.az.findIdx? (fun o=>decide ((o.num:Int)=x))=some i)(X:Nat->Prop)(B D:Nat)(w:nJ)(hX:∀b,X b->b<w.heap.size)(h8:8<=B)(hD:cq X B D w k d ms)(hL:cT w):Calls nH 76 #[.pointer (some ⟨D,0,none⟩),.string (str l)] w (mo X B D w (⟨d.ax,d.az.eraseIdx i,d.given⟩,tW)):=by
 refine QAG ?_;intro HV HX H HL lB l8 lD ws pT I5 hw0 hwn I2;have rZ:=(qw (ws:=ws) (by rw[<-pT];exact hr));refine QED ?_;intro Jf rZ YP Qm YS;clear YP hr hl pT hD hL hv hX;go_enter Tryz.func76,Tryz.ntmps76;go_upto_region 2 with(go_at_call 126;refine I5.out.mono ?_;rintro e w1 ⟨A,n,cap,δ1,rfl,rfl,rfl,hS⟩;have HS:=qh hS;clear hS);refine QAM ?_;intro W1 aH cJ dF cW di dz eL jG H1 oa pY lS lS8 F1;clear aH HS;refine QAO ?_;intro pF qn;unfold kJ at pF;unfold me at qn;rw[rZ,show lZ (some ⟨.forget,[x]⟩)=false from rfl] at pF;rw[rZ,show yw (some ⟨.forget,[x]⟩)=false from rfl] at qn;refine QBE ?_;intro Bt;unfold rS at Bt;rw[Jf] at Bt;obtain⟨b,o,rfl,hb,e0⟩:=oa.out.kK hw0;refine QCE ?_;intro Wt hcap e0 ib A2 rz;have Cc:Hid (Sl bS W1.heap.size W1 A2 (cap-1) (ws.drop 1)):=by have:=oa.out.drop gP 1 nQ;rw[<-rz];exact qh (by simpa [Addr.add_lit] using this)
 refine QAY ?_;intro Jc hn2 VH WO VG Jm jh;unfold o9 at jh;rw[Qm] at jh;refine QCT ?_;intro jh t0 ht0;rw[ht0] at e0;have f:((str t0).toList==[102,111,114,103,101,116])=true:=by rw[<-ht0,YS,cj];rfl
 clear ht0 rZ Jf hb hcap Qm YS;go_upto_region 16 with(first|(go_at_call 127;refine pF.out.mono ?_;rintro e w1 ⟨v,δ2,rfl,rfl,hc⟩;clear hc)|(go_at_call 130;refine(qn.out _ inferInstance inferInstance inferInstance pY.out.up).mono ?_;rintro e w1 ⟨v2,δ3,rfl,rfl,hv1,uc,yI⟩;obtain rfl:=hv1 trivial;clear hv1 uc yI)|(go_at_call 131;refine(Bt.out _ inferInstance inferInstance inferInstance pY.out.up).mono ?_;rintro e w1 ⟨o1,o2,δ4,rfl,rfl,hz1,uq⟩;obtain⟨rfl,rfl⟩:=hz1 trivial;clear hz1 uq));refine QCM ?_;intro W2 eJ a1 a2;refine QFC ?_;intro Fo G9 su tZ tY sR tX;clear eJ;refine QAZ ?_;intro e02 ib2 qQ H2 F2;go_upto_region 17 with(go_at_call 132;refine(jh.out _ inferInstance inferInstance inferInstance qQ.out.up).mono ?_;rintro e w1 ⟨A3,c3,δ5,rfl,rfl,AG⟩;have ux:=qh AG;clear AG);refine QBW ?_;intro g hg W3 bR a3 a4;refine QDM ?_;intro Ex He KU KT KS KR KQ G3 I3;refine QBC ?_;intro H3 F3 e03 ib3;have ve:=G3.out.cell (i:=0) (v:=.slice A3 1 c3) rfl;have lg:=G3.out.lt;clear bR hg ux;have yN:Hid (∀W:nJ,cq X B D W k d ms->ay W g 35 #[.slice A3 1 c3]->fN 3 aI W.heap.size W A3 c3 [x]->Calls nH 133 #[.slice k.oA d.az.length k.oc,.func (.func 134) #[] #[.pointer (some ⟨g,0,none⟩)]] W fun e w'=>e=.returned (.int .i64 (wh (d.az.findIdx? fun o=>decide ((o.num:Int)=x))))/\∃δ,w'=ah W δ):=qh fun W h1 h2 h3=>by
  have hx:d.az.findIdx? (fun o=>decide ((o.num:Int)=x))=ms.findIdx? fun m=>decide ((m.ord.num:Int)=x):=by rw[<-h1.map,AK]
  rw[hx];exact zR ms x g A3 c3 d.az.length h1.len (by rw[h1.len];omega) k.oA k.oc W (Sl.bU (by have:=h1.row;rw[<-h1.len] at this;exact this)) h2 h3.plain
 have Nf:W3.cell? ⟨D,14,none⟩=some (.slice k.oA d.az.length k.oc):=H3.out.eF.box.cell rfl;have hil:i<d.az.length:=(List.findIdx?_eq_some_iff_findIdx_eq.1 hi).1;rw[hi,show wh (some i)=(i:Int) from rfl] at yN;clear hi;obtain⟨og,Fq,hBg,_⟩:=H3.out.first nQ;obtain⟨kn,hkn⟩:∃n,d.az.length=n+1:=⟨d.az.length-1,nQ⟩;have Jl:=qh hkn;have HOA:=qh Fq;have HIL:=qh hil;rw[Fq,hkn] at Nf yN;have hik:i<=kn:=nQ;have hwr:IntKind.i64.wrap ((i:Int)+1)=(i:Int)+1:=IntWalk.i64_in _ nQ;have hi0:(0:Int)<=(i:Int):=nQ;have HDE:Hid (∀W:nJ,cq X B D W k d ms->Calls nH 135 #[.slice (some ⟨og,0,none⟩) (kn+1) k.oc,.int .i64 i,.int .i64 ((i:Int)+1)] W fun e w'=>e=.returned (.slice (some ⟨og,0,none⟩) kn k.oc)/\bI (fun x=>x=og) W w'/\w'.ownsRow B 137 4 (.slice (some ⟨og,0,none⟩) kn k.oc) kn ((ms.take i++ms.drop (i+1)).flatMap ja)):=qh fun W h1=>by have iB:=h1.le;exact Dq B og k.oc i kn ms W (by have:=h1.row;rw[HOA.out,Jl.out] at this;exact this) (h1.len.trans Jl.out) hik nQ
 clear Fq hkn hil h5;go_upto_region 20 with(go_at_call 133;refine(yN.out _ H3.out.up G3.out.eO I3.out.wide).mono ?_;rintro e w1 ⟨rfl,δ6,rfl⟩);refine aM fun W4 jU=>?_;have Vt:Le B W4:=fI jU;have Yq:aD B W3 W4:=gy jU;obtain⟨Yp,Yo,Yn,aau⟩:=EO 8 W3 jU;have aat:Lt (D) W4:=nr jU;have H4:Hid (cq X B D W4 k d ms):=qh H3.out.up;have F4:Hid (Fr B jL w W4):=qh (F3.out.trans (by have:=H3.out.le;exact Fr.gu));clear jU;have d14:W4.cell? ⟨D,14,none⟩=some (.slice (some ⟨og,0,none⟩) (kn+1) k.oc):=by have:=H4.out.eF.box.cell (i:=14) (v:=.slice k.oA d.az.length k.oc) rfl;rw[HOA.out,Jl.out] at this;exact this
 have lD4:=H4.out.eF.box.lt;have lE4:Hid (∀w1:nJ,bI (fun x=>x=og) W4 w1->Lt D w1/\w1.frozen? ⟨D,14,none⟩=false/\w1.cell? ⟨D,14,none⟩=some (.slice (some ⟨og,0,none⟩) (kn+1) k.oc)):=qh fun w1 hk=>by obtain⟨og',H9,hB',cs,hb⟩:=H4.out.first (by rw[Jl.out];omega);rw[HOA.out] at H9;injection H9 with H9;injection H9 with e;subst e;have b1:=H4.out.eF.box.vX hk hb nU;exact⟨b1.lt,b1.free _,by rw[<-HOA.out,<-Jl.out];exact b1.cell (i:=14) rfl⟩
 go_upto_region 21 with(go_at_call 135;refine(HDE.out _ H4.out).mono ?_;rintro e w5 ⟨rfl,WT,hr5⟩;obtain⟨lD5,fD5,cD5⟩:=lE4.out w5 WT;have K5:=qh WT;have R5:=qh hr5;clear WT hr5);obtain⟨h6,f6⟩:=H4.out.del HIL.out Jl.out HOA.out K5.out R5.out;have H6:=qh h6;have F6:=qh f6;clear h6 f6;go_wp2_with (go_at_call 128;refine(wQ true _).mono ?_;rintro e w1 ⟨rfl,δ7,rfl⟩);go_ret;exact⟨_,_,rfl,H6.out.up,(F4.out.trans F6.out).trans (by have:=H6.out.le;exact Fr.gu)⟩
theorem PK(k:cO)(d:ct)(ms:List fL)(l:aQ)(hl:l.length<=1000)(hv:aE d.ax=true)(h5:d.az.length<=5)(x:Int)(hr:bH l=.cmd ⟨.forget,[x]⟩)(hi:d.az.findIdx? (fun o=>decide ((o.num:Int)=x))=none)(X:Nat->Prop)(B D:Nat)(w:nJ)(hX:∀b,X b->b<w.heap.size)(h8:8<=B)(hD:cq X B D w k d ms)(hL:cT w):Calls nH 76 #[.pointer (some ⟨D,0,none⟩),.string (str l)] w (mo X B D w (d,vk)):=by
 refine QAG ?_;intro HV HX H HL lB l8 lD ws pT I5 hw0 hwn I2;have rZ:=(qw (ws:=ws) (by rw[<-pT];exact hr));refine QED ?_;intro Jf rZ YP Qm YS;clear YP hr hl pT hD hL hv hX;go_enter Tryz.func76,Tryz.ntmps76;go_upto_region 2 with(go_at_call 126;refine I5.out.mono ?_;rintro e w1 ⟨A,n,cap,δ1,rfl,rfl,rfl,hS⟩;have HS:=qh hS;clear hS);refine QAM ?_;intro W1 aH cJ dF cW di dz eL jG H1 oa pY lS lS8 F1;clear aH HS;refine QAO ?_;intro pF qn;unfold kJ at pF;unfold me at qn;rw[rZ,show lZ (some ⟨.forget,[x]⟩)=false from rfl] at pF;rw[rZ,show yw (some ⟨.forget,[x]⟩)=false from rfl] at qn;refine QBE ?_;intro Bt;unfold rS at Bt;rw[Jf] at Bt;obtain⟨b,o,rfl,hb,e0⟩:=oa.out.kK hw0;refine QCE ?_;intro Wt hcap e0 ib A2 rz;have Cc:Hid (Sl bS W1.heap.size W1 A2 (cap-1) (ws.drop 1)):=by have:=oa.out.drop gP 1 nQ;rw[<-rz];exact qh (by simpa [Addr.add_lit] using this)
 refine QAY ?_;intro Jc hn2 VH WO VG Jm jh;unfold o9 at jh;rw[Qm] at jh;refine QCT ?_;intro jh t0 ht0;rw[ht0] at e0;have f:((str t0).toList==[102,111,114,103,101,116])=true:=by rw[<-ht0,YS,cj];rfl
 clear ht0 rZ Jf hb hcap Qm YS;go_upto_region 16 with(first|(go_at_call 127;refine pF.out.mono ?_;rintro e w1 ⟨v,δ2,rfl,rfl,hc⟩;clear hc)|(go_at_call 130;refine(qn.out _ inferInstance inferInstance inferInstance pY.out.up).mono ?_;rintro e w1 ⟨v2,δ3,rfl,rfl,hv1,uc,yI⟩;obtain rfl:=hv1 trivial;clear hv1 uc yI)|(go_at_call 131;refine(Bt.out _ inferInstance inferInstance inferInstance pY.out.up).mono ?_;rintro e w1 ⟨o1,o2,δ4,rfl,rfl,hz1,uq⟩;obtain⟨rfl,rfl⟩:=hz1 trivial;clear hz1 uq));refine QCM ?_;intro W2 eJ a1 a2;refine QFC ?_;intro Fo G9 su tZ tY sR tX;clear eJ;refine QAZ ?_;intro e02 ib2 qQ H2 F2;go_upto_region 17 with(go_at_call 132;refine(jh.out _ inferInstance inferInstance inferInstance qQ.out.up).mono ?_;rintro e w1 ⟨A3,c3,δ5,rfl,rfl,AG⟩;have ux:=qh AG;clear AG);refine QBW ?_;intro g hg W3 bR a3 a4;refine QDM ?_;intro Ex He KU KT KS KR KQ G3 I3;refine QBC ?_;intro H3 F3 e03 ib3;have ve:=G3.out.cell (i:=0) (v:=.slice A3 1 c3) rfl;have lg:=G3.out.lt;clear bR hg ux;have yN:Hid (∀W:nJ,cq X B D W k d ms->ay W g 35 #[.slice A3 1 c3]->fN 3 aI W.heap.size W A3 c3 [x]->Calls nH 133 #[.slice k.oA d.az.length k.oc,.func (.func 134) #[] #[.pointer (some ⟨g,0,none⟩)]] W fun e w'=>e=.returned (.int .i64 (wh (d.az.findIdx? fun o=>decide ((o.num:Int)=x))))/\∃δ,w'=ah W δ):=qh fun W h1 h2 h3=>by
  have hx:d.az.findIdx? (fun o=>decide ((o.num:Int)=x))=ms.findIdx? fun m=>decide ((m.ord.num:Int)=x):=by rw[<-h1.map,AK]
  rw[hx];exact zR ms x g A3 c3 d.az.length h1.len (by rw[h1.len];omega) k.oA k.oc W (Sl.bU (by have:=h1.row;rw[<-h1.len] at this;exact this)) h2 h3.plain
 have Nf:W3.cell? ⟨D,14,none⟩=some (.slice k.oA d.az.length k.oc):=H3.out.eF.box.cell rfl;rw[hi,show wh none = -1 from rfl] at yN;clear hi;go_wp2_with (first|(go_at_call 133;refine(yN.out _ H3.out.up G3.out.eO I3.out.wide).mono ?_;rintro e w1 ⟨rfl,δ6,rfl⟩)|(go_at_call 128;refine(wQ false _).mono ?_;rintro e w1 ⟨rfl,δ7,rfl⟩));go_ret;exact⟨k,ms,rfl,H3.out.up,F3.out.trans (by have:=H3.out.le;exact Fr.gu)⟩
end
section
open Hd
theorem VW(k:cO)(d:ct)(ms:List fL)(l:aQ)(hl:l.length<=1000)(hv:aE d.ax=true)(hgv:d.given<=1000)(q c:eB)(s:UInt8)(n:Int)(hr:bH l=.ord q s n c)(h5:d.az.length<5)(X:Nat->Prop)(B D:Nat)(w:nJ)(hX:∀b,X b->b<w.heap.size)(h8:8<=B)(hD:cq X B D w k d ms)(hL:cT w):Calls nH 76 #[.pointer (some ⟨D,0,none⟩),.string (str l)] w (mo X B D w (⟨d.ax,d.az++[⟨d.given,l⟩],d.given+1⟩,tW)):=by
 refine QAG ?_;intro HV HX H HL lB l8 lD ws pT I5 hw0 hwn I2;have HRL:=qh hr;have hrw:dH ws=.ord q s n c:=by rw[<-pT];exact hr
 have rZ:bJ ws=none:=CJ hrw;have Jf:Ey (dH ws)=true:=by rw[hrw];rfl
 have HRW:=qh hrw;clear hr hl pT hrw hD hL hv hX;go_enter Tryz.func76,Tryz.ntmps76;go_upto_region 2 with(go_at_call 126;refine I5.out.mono ?_;rintro e w1 ⟨A,n,cap,δ1,rfl,rfl,rfl,hS⟩;have HS:=qh hS;clear hS);refine QAM ?_;intro W1 aH cJ dF cW di dz eL jG H1 oa pY lS lS8 F1;clear aH HS;refine QAO ?_;intro pF qn;unfold kJ at pF;unfold me at qn;rw[rZ,show lZ none=false from rfl] at pF;rw[rZ,show yw none=false from rfl] at qn;refine QBE ?_;intro Bt;unfold rS at Bt;rw[Jf] at Bt;have Nf:W1.cell? ⟨D,14,none⟩=some (.slice k.oA d.az.length k.oc):=H1.out.eF.box.cell rfl;clear rZ Jf;have h5i:((d.az.length:Int)==5)=false:=by simp;omega
 have hwr:IntKind.i64.wrap ((d.given:Int)+1)=((d.given+1:Nat):Int):=by rw[IntWalk.i64_in _ nQ];omega
 go_upto_region 9 with(first|(go_at_call 127;refine pF.out.mono ?_;rintro e w1 ⟨v,δ2,rfl,rfl,hc⟩;clear hc)|(go_at_call 130;refine(qn.out _ inferInstance inferInstance inferInstance pY.out.up).mono ?_;rintro e w1 ⟨v2,δ3,rfl,rfl,hv1,uc,yI⟩;obtain rfl:=hv1 trivial;clear hv1 uc yI)|(go_at_call 131;refine(Bt.out _ inferInstance inferInstance inferInstance pY.out.up).mono ?_;rintro e w1 ⟨o1,o2,δ4,rfl,rfl,hz1,uq⟩;obtain⟨⟨hs,hn,gq,gs,gn,u,rfl,q1,q2,q3,q4,q5,q6⟩,T8⟩:=uq q s n c HRW.out;obtain⟨gc,ga,rfl⟩:=T8.form;have HH:Hid (mj X (ah _ δ4) (.func (.func 202) #[] #[.pointer (some ⟨gq,0,none⟩),.pointer (some ⟨gs,0,none⟩),.pointer (some ⟨gn,0,none⟩)]) q s n):=qh ⟨hs,hn,gq,gs,gn,u,rfl,q1,q2,q3,fun h=>q4 (nL (HX.out _ h) (inferInstance:Le w.heap.size (ah (ah W1 δ2) δ3)).out),q5,fun h=>q6 (nL (HX.out _ h) (inferInstance:Le w.heap.size (ah (ah W1 δ2) δ3)).out)⟩;have HC:=qh T8;clear hz1 uq hs hn q1 q2 q3 q4 q5 q6 T8)|(refine ak (cs':=#[.int .i64 0,.string ⟨#[]⟩,.func (.func 202) #[] #[.pointer (some ⟨gq,0,none⟩),.pointer (some ⟨gs,0,none⟩),.pointer (some ⟨gn,0,none⟩)],.func (.func 189) #[] #[.pointer (some ⟨gc,0,none⟩),.pointer (some ⟨ga,0,none⟩)]]) vu rfl _ _ rfl rfl rfl (ay.new (T:=137) rfl) rfl rfl (by simp[Value.oneCell']) ?_;intro W2 O2 k2));refine QCF ?_;intro a1 a2 a3 a4 H2 F2 d14 lD2;have HH2:Hid (mj X W2 (.func (.func 202) #[] #[.pointer (some ⟨gq,0,none⟩),.pointer (some ⟨gs,0,none⟩),.pointer (some ⟨gn,0,none⟩)]) q s n):=qh (by
  have b1:=HH.out.up (W:=(ah (ah (ah W1 δ2) δ3) δ4).alloc (.cells #[.int .i64 0,.string ⟨#[]⟩,.nilFunc,.nilFunc] 137))
  have f:Fr 0 [137] _ W2:=Fr.eN k2 (ay.new rfl) (nE _) nV
  exact b1.fr f nU)
 have Xn:Hid (iD W2 (.func (.func 189) #[] #[.pointer (some ⟨gc,0,none⟩),.pointer (some ⟨ga,0,none⟩)]) c):=qh (by
  have b1:=HC.out.up (W:=(ah (ah (ah W1 δ2) δ3) δ4).alloc (.cells #[.int .i64 0,.string ⟨#[]⟩,.nilFunc,.nilFunc] 137))
  have f:Fr 0 [137] _ W2:=Fr.eN k2 (ay.new rfl) (nE _) nV
  exact b1.fr f nU)
 have VM:D≠(ah (ah (ah W1 δ2) δ3) δ4).heap.size:=Nat.ne_of_lt (nL H1.out.eF.box.lt.out (inferInstance:Le W1.heap.size (ah (ah (ah W1 δ2) δ3) δ4)).out);have hgB:B<=(ah (ah (ah W1 δ2) δ3) δ4).heap.size:=(inferInstance:Le B (ah (ah (ah W1 δ2) δ3) δ4)).out;have EF:(Value.slice k.oA d.az.length k.oc).ownBlock≠some (ah (ah (ah W1 δ2) δ3) δ4).heap.size:=fun e=>by have h1:=(H1.out.row.lt _ e).2;have h2:=(inferInstance:Le W1.heap.size (ah (ah (ah W1 δ2) δ3) δ4)).out;exact absurd h1 (Nat.not_lt.2 h2)
 obtain⟨g,hg⟩:∃g,(ah (ah (ah W1 δ2) δ3) δ4).heap.size=g:=⟨_,rfl⟩;rw[hg] at O2 VM hgB EF ⊢;have HOB:=qh EF;clear EF;have O2:=qh O2;have lg:=O2.out.lt;have d15:W2.cell? ⟨D,15,none⟩=some (.int .i64 (d.given:Nat)):=H2.out.eF.box.cell rfl;have fr15:=H2.out.eF.box.free 15;have z0:=O2.out.cell (i:=0) (v:=.int .i64 0) rfl;have z1:=O2.out.cell (i:=1) (v:=.string ⟨#[]⟩) rfl;have zf0:=O2.out.free 0;have zf1:=O2.out.free 1;have nD1:qP D g:=⟨VM⟩;have nD2:qP g D:=⟨VM.symm⟩;clear k2 HH HC hg;go_upto_region 14 with fail;obtain⟨m,hm⟩:∃m:fL,m=⟨⟨d.given,l⟩,gq,gs,gn,gc,ga⟩:=⟨_,rfl⟩;refine aM fun W4 jU=>?_;have HW:Hid (cq X B D W4 k ⟨d.ax,d.az,d.given+1⟩ ms/\Fr B jL W2 W4/\ay W4 g 137 (zS m)):=by
  rw[jU.out];have f1:Fr B [137] W2 ((W2.setCell ⟨g,0,none⟩ (.int .i64 (d.given:Nat))).setCell ⟨g,1,none⟩ (.string (str l))):=Fr.eN (((bI.refl (fun x=>x=g) W2).set (b:=g) rfl 0 _).set (b:=g) rfl 1 _) O2.out hgB nV;have k1:cq X B D ((W2.setCell ⟨g,0,none⟩ (.int .i64 (d.given:Nat))).setCell ⟨g,1,none⟩ (.string (str l))) k d ms:=by refine⟨⟨(H2.out.eF.box.fB VM _).fB VM _,H2.out.eF.ax.fr f1 nU,H2.out.eF.low⟩,?_,H2.out.map,fun m hm=>(H2.out.each m hm).fr f1 nU⟩;exact cZ (cZ H2.out.row HOB.out) HOB.out
  obtain⟨k2,f2⟩:=k1.adZ (d.given+1);exact qh ⟨k2,(f1.mono nU).trans f2,by rw[hm];exact((O2.out.set 0 _).set 1 _).fB VM.symm _⟩
 have HO4:Hid (wL X W4 m):=by
  have f:Fr 0 jL W2 W4:=HW.out.2.1.less (nE _);refine qh ⟨q,s,n,c,by rw[hm];exact HRL.out,?_,?_⟩
  ·rw[hm];exact HH2.out.fr f nU
  ·rw[hm];exact Xn.out.fr f nU
 have H4:Hid (cq X B D W4 k ⟨d.ax,d.az,d.given+1⟩ ms):=qh HW.out.1;have F4:Hid (Fr B jL w W4):=qh (F2.out.trans HW.out.2.1);have B4:Hid (ay W4 g 137 (zS m)):=qh HW.out.2.2;have BD:Hid (ay W4 D 131 (cE k ⟨d.ax,d.az,d.given+1⟩)):=qh H4.out.eF.box;have RO4:Hid (W4.ownsRow B 137 4 (.slice k.oA d.az.length k.oc) d.az.length (ms.flatMap ja)):=qh H4.out.row;obtain⟨W0,jR⟩:=sized H4.out.le.out;have lB4:Le B W4:=H4.out.le;have x14:W4.cell? ⟨D,14,none⟩=some (.slice k.oA d.az.length k.oc):=BD.out.cell rfl;have u0:W4.cell? ⟨g,0,none⟩=some (.int .i64 (m.ord.num:Nat)):=B4.out.cell (i:=0) rfl;have u1:W4.cell? ⟨g,1,none⟩=some (.string (str m.ord.line)):=B4.out.cell (i:=1) rfl;have u2:W4.cell? ⟨g,2,none⟩=some (Sk m):=B4.out.cell (i:=2) rfl;have u3:W4.cell? ⟨g,3,none⟩=some (T9 m):=B4.out.cell (i:=3) rfl;have lD4:=BD.out.lt;have lg4:=B4.out.lt;have HMO:Hid (m.ord=⟨d.given,l⟩):=qh (by rw[hm]);clear jU HW HH2 Xn HRW O2 hm d14 d15 fr15 z0 z1 zf0 zf1 lg lD2 VM hgB HOB nD1 nD2 F2 H2;subst jR;go_region_law (refine cU W0 slM (.tmp 73) (.tmp 75) rfl rfl (v:=.slice k.oA d.az.length k.oc) (n:=d.az.length) (xs:=ms.flatMap ja) (by first|exact RO4.out.drew.alloc _|exact RO4.out.alloc _|exact RO4.out) (by simp[Act.eval,Act.put]) (m:=1) (c:=1) (news:=ja m) (by simp[Act.eval,Act.put]) (ia rfl) rfl (Rw m) nQ nQ ?_;intro A2 c2 δ6 gK mu;have bD:=fK (b:=D) (by first|exact BD.out.drew.alloc _|exact(BD.out.alloc _).drew) (by first|exact RO4.out.drew.alloc _|exact RO4.out.alloc _|exact RO4.out) nU mu;have lD6:=bD.lt;have cD6:=bD.cell (i:=14) (v:=.slice k.oA d.az.length k.oc) rfl;have fD6:=bD.free 14);all_goals
  obtain⟨h6,f6⟩:=cq.add (D:=D) mu gK H4.out.up rfl HO4.out.up;have H6:=qh h6;have F6:=qh f6;clear h6 f6 gK mu bD lD6 cD6 fD6;go_wp2_with (go_at_call 128;refine(wQ true _).mono ?_;rintro e w1 ⟨rfl,δ7,rfl⟩);go_ret;have e:(⟨d.ax,d.az++[⟨d.given,l⟩],d.given+1⟩:ct)=⟨d.ax,d.az++[m.ord],d.given+1⟩:=by rw[HMO.out]
  refine⟨⟨k.ax,A2,c2⟩,ms++[m],rfl,?_,((F4.out.trans (by have:=H4.out.le;exact Fr.gu)).trans F6.out).trans (by have:=H6.out.le;exact Fr.gu)⟩;show cq _ _ _ _ _ (⟨d.ax,d.az++[⟨d.given,l⟩],d.given+1⟩:ct) _;rw[e];exact H6.out.up
end
end Go.Proofs.YtpnnapeoanafdaaGreatDoor
