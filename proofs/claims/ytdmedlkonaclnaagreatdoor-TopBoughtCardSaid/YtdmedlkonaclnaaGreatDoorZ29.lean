/- A part of the proof that a law of layer 12 holds, cut small by a program (names and blanks): Hq3, Hq7, Hq8, Hq9, Hq10, Hq11. -/
import Derived.Test.YtdmedlkonaclnaaGreatDoorZ28
set_option maxRecDepth 100000
set_option maxHeartbeats 40000000
set_option linter.unusedVariables false
set_option linter.unusedSimpArgs false
namespace Go.Proofs.YtdmedlkonaclnaaGreatDoor
open Go.RowKit
open Nat renaming le_trans → nT, lt_of_lt_of_le → nL, le_refl → nR, zero_le → nE
open Go.Proofs.Tryz renaming prog → nH
open Go renaming World → nJ, Value → nK
section
open Hd
theorem Wk(W:nJ):(Instr.typeAssert .nilIface 166 241 true).run nH W=.ok (.tuple #[.nilFunc,.bool false]) W:=by simp[Instr.typeAssert,Sem.run_bind,run_underlying Tryz.underlying241,Tryz.zeroValue241,Sem.run_pure,Result.andThen]
theorem Wn(u:nK)(W:nJ):(Instr.typeAssert (.iface 241 u) 166 241 true).run nH W=.ok (.tuple #[u,.bool true]) W:=by simp[Instr.typeAssert,Sem.run_bind,run_underlying Tryz.underlying241,Tryz.zeroValue241,Sem.run_pure,Result.andThen]
theorem Wm(u:nK)(W:nJ):(Instr.typeAssert (.iface 243 u) 166 241 true).run nH W=.ok (.tuple #[.nilFunc,.bool false]) W:=by simp[Instr.typeAssert,Sem.run_bind,run_underlying Tryz.underlying241,Tryz.zeroValue241,Sem.run_pure,Result.andThen]
attribute[local go_sem] Wk Wn Wm
theorem jJ.form{w:nJ}{v:nK}{c:dU}(h:jJ w v c):∃(f:Nat) (cs:Array nK),v=.func (.func f) #[] cs:=by
 obtain⟨_,_,⟨_,h⟩|⟨_,ga,A,cap,h,_⟩⟩:=h
 ·exact⟨_,_,h⟩
 ·exact⟨_,_,h⟩
theorem gW.form{w:nJ}{v:nK}{c:dU}(h:gW w v c):∃gc ga:Nat,v=.func (.func 160) #[] #[.pointer (some ⟨gc,0,none⟩),.pointer (some ⟨ga,0,none⟩)]:=by obtain⟨_,_,gc,ga,A,cap,h,_⟩:=h;exact⟨gc,ga,h⟩
theorem zm:fT nH 103 4:=fT.mk' Tryz.underlying103 rfl nP
theorem Js:Tryz.prog.built 103 []=some #[.int .i64 0,.string ⟨#[]⟩,.nilFunc,.nilFunc]:=by kernel_rfl
theorem uG(g1 g2 g3 g4 g5:Nat):Tryz.prog.built 103 [(2,.func (.func 179) #[] #[.pointer (some ⟨g1,0,none⟩),.pointer (some ⟨g2,0,none⟩),.pointer (some ⟨g3,0,none⟩)]),(3,.func (.func 160) #[] #[.pointer (some ⟨g4,0,none⟩),.pointer (some ⟨g5,0,none⟩)])]=some #[.int .i64 0,.string ⟨#[]⟩,.func (.func 179) #[] #[.pointer (some ⟨g1,0,none⟩),.pointer (some ⟨g2,0,none⟩),.pointer (some ⟨g3,0,none⟩)],.func (.func 160) #[] #[.pointer (some ⟨g4,0,none⟩),.pointer (some ⟨g5,0,none⟩)]]:=by kernel_rfl
def rL(ws:List bz)(w:nJ)(e:Ending)(w':nJ):Prop:=
 ∃(v1 v2:nK) (δ:nJ),e=.returned (.tuple #[.agg #[.int .i64 0,.string ⟨#[]⟩,v1,v2],.bool (DK (eD ws))])/\w'=af w δ/\(DK (eD ws)=false->v1=.nilFunc/\v2=.nilFunc) /\
  ∀q s n c,eD ws=.ord q s n c->lM (fun k=>k<w.heap.size) (af w δ) v1 q s n/\gW (af w δ) v2 c
theorem vj{ws:List bz}{w W:nJ}(h:DK (eD ws)=false)(hl:∃δ,W=af w δ):rL ws w (.returned (.tuple #[.agg #[.int .i64 0,.string ⟨#[]⟩,.nilFunc,.nilFunc],.bool false])) W:=by obtain⟨δ,rfl⟩:=hl;refine⟨_,_,δ,by rw[h],rfl,fun _=>⟨rfl,rfl⟩,fun q s n c hr=>?_⟩;rw[hr] at h;cases h
theorem I0{ws:List bz}{w W:nJ}{q c:dU}{s:UInt8}{n:Int}{v1 v2:nK}(h:eD ws=.ord q s n c)[au w.heap.size w W][Le w.heap.size W](h1:lM (fun k=>k<w.heap.size) W v1 q s n)(h2:gW W v2 c):rL ws w (.returned (.tuple #[.agg #[.int .i64 0,.string ⟨#[]⟩,v1,v2],.bool true])) W:=by
 refine⟨v1,v2,W,by rw[h];rfl,aq,fun hh=>?_,fun q' s' n' c' hr=>?_⟩
 ·rw[h] at hh;cases hh
 ·rw[h] at hr;injection hr with r1 r2 r3 r4;subst r1;subst r2;subst r3;subst r4;refine QDJ ?_;exact⟨h1,h2⟩
theorem I8{ws:List bz}(h0:0<ws.length)(h:nth ws 0≠lY):DK (eD ws)=false:=by
 cases ws with
 |nil=>cases h0
 |cons t r=>
  have:(t::r).head?≠some lY:=fun e=>h (by injection e)
  unfold eD
  rw[if_neg this]
  cases bM (t::r)<;>rfl
theorem I7{ws:List bz}(h0:0<ws.length)(h:nth ws 0=lY):eD ws=match jN iY ws with
  |some k=>if k<4 then .none else qv ws k
  |none=>.none:=by
 cases ws with
 |nil=>cases h0
 |cons t r=>
  have:(t::r).head?=some lY:=by rw[<-h];rfl
  unfold eD
  rw[if_pos this]
  cases jN iY (t::r)<;>rfl
def Qb(o:Option dU)(s:Option UInt8)(n:Option Int)(c:Option dU):tC:=
 match o,s,n,c with
 |some q,some s,some n,some c=>if cN q.w=2/\cN c.w=1 then .ord q s n c else .none
 |_,_,_,_=>.none
theorem vr{o:Option dU}{s:Option UInt8}{n:Option Int}{c:Option dU}(h:(∀q,o=some q->cN q.w=2->False)\/s=none\/n.isSome=false\/lH c=false):DK (Qb o s n c)=false:=by
 cases o with
 |none=>cases s<;>cases n<;>cases c<;>rfl
 |some q=>
  cases s with
  |none=>cases n<;>cases c<;>rfl
  |some s=>
   cases n with
   |none=>cases c<;>rfl
   |some n=>
    cases c with
    |none=>rfl
    |some c=>
     unfold Qb
     simp only[]
     by_cases hh:cN q.w=2/\cN c.w=1
     ·rcases h with h|h|h|h
      ·exact(h q rfl hh.1).elim
      ·cases h
      ·cases h
      ·unfold lH at h;simp[hh.2] at h
     ·rw[if_neg hh];rfl
theorem zB{q c:dU}{s:UInt8}{n:Int}(hq:cN q.w=2)(hc:cN c.w=1):Qb (some q) (some s) (some n) (some c)=.ord q s n c:=by unfold Qb;simp only[];rw[if_pos ⟨hq,hc⟩]
theorem Fj(ws:List bz)(A:Option Addr)(cap:Nat)(h0:0<ws.length)(hl:∀x∈ws,x.length<=1000)(hn:ws.length<=1001)(B:Nat)(w:nJ)(hS:Sl aX B w A cap ws)[hB:Le B w][h8:Le 8 w](hL:cT w):Calls nH 91 #[.slice A ws.length cap] w (rL ws w):=by
 obtain⟨b,o,rfl,hb,e0⟩:=hS.mh h0;have HS:=qh hS;have HL:=qh hL;have qd:=qh hl;have hcap:ws.length<=cap:=hS.1;have hcx:cap<=9223372036854775807:=hS.2.1;have yx:Hid (∀W:nJ,au B w W->Calls nH 177 #[.slice (some ⟨b,o,none⟩) ws.length cap,.string ⟨#[116,104,101,110]⟩] W fun e w'=>e=.returned (.int .i64 (vN (jN iY ws)))/\w'=W):=qh fun W i1=>Ro ws _ cap h0 hn iY B W HS.out.up;have hn0:(0:Int)<(ws.length:Int):=nQ;have ib:Lt b w:=⟨nL hb hB.out⟩;have e0:w.cell? ⟨b,o,none⟩=some (.string (str (nth ws 0))):=e0;obtain⟨t0,ht0⟩:∃x,nth ws 0=x:=⟨_,rfl⟩;rw[ht0] at e0;by_cases hw:t0=lY
 ·subst hw;have HR:Hid (eD ws=match jN iY ws with
   |some k=>if k<4 then .none else qv ws k
   |none=>.none):=qh (I7 h0 ht0)
  have f:((str lY).toList==[119,104,101,110])=true:=by rw[cF];rfl
  have f':((str lY).toList != [119,104,101,110])=false:=by rw[bne,f];rfl
  cases hi:jN iY ws with
  |none=>
   have HN:Hid (DK (eD ws)=false):=by unfold Hid;rw[HR.out,hi];rfl
   rw[hi,show vN none = -1 from rfl] at yx
   clear hS hL hl h0 hb ht0 hcap HR hi
   go_enter Tryz.func91,Tryz.ntmps91
   go_wp2_with (go_at_call 177;refine(yx.out _ inferInstance).mono ?_;rintro e w1 ⟨rfl,rfl⟩)
   refine bodyPost_ret (v:=.tuple #[.agg #[.int .i64 0,.string ⟨#[]⟩,.nilFunc,.nilFunc],.bool false]) ?_ rfl (vj HN.out ag)
   simp only[results,Tryz.results91]
   go_simp
  |some k=>
   have LR:=(JW hi).1
   rw[hi,show vN (some k)=(k:Int) from rfl] at yx
   by_cases LU:k<4
   ·have HN:Hid (DK (eD ws)=false):=by unfold Hid;rw[HR.out,hi];simp only[if_pos LU];rfl
    have hki:(k:Int)<4:=nQ;clear hS hL hl h0 hb ht0 hcap HR hi;go_enter Tryz.func91,Tryz.ntmps91;go_wp2_with (go_at_call 177;refine(yx.out _ inferInstance).mono ?_;rintro e w1 ⟨rfl,rfl⟩);refine bodyPost_ret (v:=.tuple #[.agg #[.int .i64 0,.string ⟨#[]⟩,.nilFunc,.nilFunc],.bool false]) ?_ rfl (vj HN.out ag);simp only[results,Tryz.results91];go_simp
   ·have Mf:Hid (eD ws=qv ws k):=by unfold Hid;rw[HR.out,hi];simp only[if_neg LU]
    have hki:¬(k:Int)<4:=nQ;by_cases hke:k+1=ws.length
    ·have HN:Hid (DK (eD ws)=false):=by unfold Hid;rw[Mf.out];unfold qv;rw[show ws.drop (k+1)=[] from List.drop_eq_nil_of_le nQ,show bM []=none from rfl];cases bM ((ws.take (k-2)).drop 1)<;>cases mj (nth ws (k-2))<;>cases numOf (nth ws (k-1))<;>rfl
     have hw1:IntKind.i64.wrap ((ws.length:Int)-1)=(k:Int):=by rw[IntWalk.i64_in _ nQ];omega
     clear hS hL hl h0 hb ht0 hcap HR Mf hi hke;go_enter Tryz.func91,Tryz.ntmps91;go_wp2_with (go_at_call 177;refine(yx.out _ inferInstance).mono ?_;rintro e w1 ⟨rfl,rfl⟩);refine bodyPost_ret (v:=.tuple #[.agg #[.int .i64 0,.string ⟨#[]⟩,.nilFunc,.nilFunc],.bool false]) ?_ rfl (vj HN.out ag);simp only[results,Tryz.results91];go_simp
    ·obtain⟨j,rfl⟩:∃j,k=j+2:=⟨k-2,nQ⟩;obtain⟨m,hm⟩:∃m,m=j+1:=⟨_,rfl⟩;obtain⟨p,hp⟩:∃p,p=j+3:=⟨_,rfl⟩;obtain⟨k,hk⟩:∃k,k=j+2:=⟨_,rfl⟩;rw[<-hk] at yx Mf hki LR hke LU;have hw1:IntKind.i64.wrap ((ws.length:Int)-1)=((ws.length-1:Nat):Int):=by rw[IntWalk.i64_in _ nQ];omega
     have Xn:IntKind.i64.wrap ((k:Int)-2)=(j:Int):=by rw[IntWalk.i64_in _ nQ];omega
     have hw3:IntKind.i64.wrap ((k:Int)-1)=(m:Int):=by rw[IntWalk.i64_in _ nQ];omega
     have hw4:IntKind.i64.wrap ((k:Int)+1)=(p:Int):=by rw[IntWalk.i64_in _ nQ];omega
     have hkn:((k:Int)==((ws.length-1:Nat):Int))=false:=beq_eq_false_iff_ne.2 nQ;have em:w.cell? ⟨b,o+m,none⟩=some (.string (str (nth ws m))):=by obtain⟨b',o',e,_,d⟩:=hS.mh (k:=m) nQ;injection e with e;injection e with e1 e2;subst e1;subst e2;exact d
     have es:w.cell? ⟨b,o+j,none⟩=some (.string (str (nth ws j))):=by obtain⟨b',o',e,_,d⟩:=hS.mh (k:=j) nQ;injection e with e;injection e with e1 e2;subst e1;subst e2;exact d
     obtain⟨qs,ZD⟩:∃q,(ws.take j).drop 1=q:=⟨_,rfl⟩;obtain⟨cs,hcs⟩:∃q,ws.drop p=q:=⟨_,rfl⟩;refine QFE ?_;intro A2 vU;obtain⟨A3,NQ⟩:∃A3,(if cap=p then some (⟨b,o,none⟩:Addr) else some ⟨b,o+p,none⟩)=A3:=⟨_,rfl⟩;have VW:Hid (Sl aX B w A2 (cap-1) qs):=by have:=(hS.take j).drop gD 1 (by rw[List.length_take];omega);rw[<-vU,<-ZD];exact qh (by simpa [Addr.add_lit] using this)
     have HC3:Hid (Sl aX B w A3 (cap-p) cs):=by have:=hS.drop gD p nQ;rw[<-NQ,<-hcs];exact qh (by simpa [Addr.add_lit] using this)
     have lq:qs.length=j-1:=by rw[<-ZD,List.length_drop,List.length_take];omega
     have lc:cs.length=ws.length-p:=by rw[<-hcs,List.length_drop]
     have qf:Hid (∀W:nJ,au B w W->Le B W->Le 8 W->cT W->Calls nH 90 #[.slice A2 (j-1) (cap-1)] W (lJ (bM qs) W)):=qh fun W i1 i2 i3 h=>by rw[<-lq];exact sE qs A2 (cap-1) nQ (fun x hx=>qd.out x (List.mem_of_mem_take (List.mem_of_mem_drop (ZD▸hx)))) nQ B W VW.out.up h
     have pG:Hid (∀W:nJ,au B w W->Le B W->Le 8 W->cT W->Calls nH 87 #[.slice A3 (ws.length-p) (cap-p)] W (kD (bM cs) W)):=qh fun W i1 i2 i3 h=>by rw[<-lc];exact qU cs A3 (cap-p) nQ (fun x hx=>qd.out x (List.mem_of_mem_drop (hcs▸hx))) nQ B W HC3.out.up h
     have iX:Hid (∀W:nJ,cT W->Le 8 W->Calls nH 178 #[.string (str (nth ws m))] W (pn (numOf (nth ws m)) W)):=qh fun W h1 h2=>FI _ (qd.out _ (aV ws nQ)) W h1;unfold lJ at qf;unfold kD at pG;unfold pn at iX;have Md:Hid (eD ws=Qb (bM qs) (mj (nth ws j)) (numOf (nth ws m)) (bM cs)):=by unfold Hid;rw[Mf.out];unfold qv;rw[<-ZD,<-hcs,hk,hm,hp];rfl
     obtain⟨ts,hts⟩:∃x,nth ws j=x:=⟨_,rfl⟩;obtain⟨tm,Ig⟩:∃x,nth ws m=x:=⟨_,rfl⟩;rw[hts] at es Md;rw[Ig] at em iX Md;have z1:1<=j:=nQ;have z2:j<=cap:=nQ;have z3:j<=ws.length:=nQ;have z4:p<=ws.length:=nQ;have z5:m<ws.length:=nQ;have z6:j<ws.length:=nQ;clear hS hL hl h0 hb ht0 HR Mf hi hke hm hp hk ZD hcs lq lc hts Ig LU VW HC3;obtain⟨oq,hoq⟩:∃x,bM qs=x:=⟨_,rfl⟩;obtain⟨oc,hoc⟩:∃x,bM cs=x:=⟨_,rfl⟩;obtain⟨on,QZ⟩:∃x,numOf tm=x:=⟨_,rfl⟩;rw[hoq,hoc,QZ] at Md;rw[hoq] at qf;rw[hoc] at pG;rw[QZ] at iX;have YY:Hid (∀n,on=some n->-999999<=n/\n<=999999):=qh fun n e=>by have:=(ou.1 (QZ.trans e)).2;omega
     clear hoq hoc QZ;obtain⟨b1,kL⟩:∃x,on.isSome=x:=⟨_,rfl⟩;obtain⟨b2,gM⟩:∃x,lH oc=x:=⟨_,rfl⟩;rw[kL] at iX;rw[gM] at pG;have xF:=qh kL;have Ia:=qh gM;clear kL gM;by_cases hq:xV oq=false
     ·have HQ:=qh hq;have HN:Hid (DK (eD ws)=false):=by unfold Hid;rw[Md.out];refine vr (.inl fun q e hk=>?_);subst e;unfold xV at hq;simp[hk] at hq
      rw[hq] at qf;clear hq;go_enter Tryz.func91,Tryz.ntmps91;go_wp2_with (first|(go_at_call 177;refine(yx.out _ inferInstance).mono ?_;rintro e w1 ⟨rfl,rfl⟩)|(go_at_call 178;refine(iX.out _ HL.out.up inferInstance).mono ?_;rintro e w1 ⟨nv,δ2,rfl,rfl,VE⟩;have HNV:=qh VE;clear VE)|(go_at_call 87;refine(pG.out _ inferInstance inferInstance inferInstance HL.out.up).mono ?_;rintro e w1 ⟨cv,δ3,rfl,rfl,VK⟩;have HCV:=qh VK;clear VK)|(go_at_call 90;refine(qf.out _ inferInstance inferInstance inferInstance HL.out.up).mono ?_;rintro e w1 ⟨v,δ1,rfl,rfl,hv1,vO,yl⟩;obtain rfl:=hv1 trivial;clear hv1 vO yl));refine bodyPost_ret (v:=.tuple #[.agg #[.int .i64 0,.string ⟨#[]⟩,.nilFunc,.nilFunc],.bool false]) ?_ rfl (vj HN.out ag);simp only[results,Tryz.results91];go_simp
     ·obtain⟨q,rfl⟩:∃q,oq=some q:=by
       cases oq with
       |none=>exact absurd rfl hq
       |some q=>exact⟨q,rfl⟩
      have NF:xV (some q)=true:=by revert hq;cases xV (some q)<;>simp
      rw[NF] at qf;by_cases hk2:cN q.w=2
      ·have uv:=qh hk2;clear hq NF hk2;go_enter Tryz.func91,Tryz.ntmps91;go_upto_region 5 with(first|(go_at_call 177;refine(yx.out _ inferInstance).mono ?_;rintro e w1 ⟨rfl,rfl⟩)|(go_at_call 90;refine(qf.out _ inferInstance inferInstance inferInstance HL.out.up).mono ?_;rintro e w1 ⟨v,δ1,rfl,rfl,hv1,vO,yl⟩;obtain⟨u,rfl,hu⟩:=vO q rfl uv.out;obtain⟨uf,ua,rfl⟩:=hu.form;have HU:=qh hu;clear hu hv1 vO yl));refine QEA ?_;intro W1 aH cJ dF cU dA dD eI ju;have O1:Hid (ax W1 w.heap.size 103 #[.int .i64 0,.string ⟨#[]⟩,.nilFunc,.nilFunc]):=by rw[aH.out];exact qh ((ax.new rfl).af _)
       have U1:Hid (jJ W1 (.func (.func uf) #[] ua) q):=by rw[aH.out];exact HU
       clear aH HU;go_upto_region 6 with fail;refine QCQ ?_;intro W2 eJ a1 a2;have Es:Le B W2:=fI eJ;have Gh:au B w W2:=gu eJ;obtain⟨sg,tX,tW,sM,tV⟩:=Au 8 w eJ;have O2:Hid (ax W2 w.heap.size 103 #[.int .i64 0,.string ⟨#[]⟩,.nilFunc,.nilFunc]):=by rw[eJ.out];exact qh (O1.out.alloc _)
       have Q2:Hid (ax W2 W1.heap.size 241 #[.func (.func uf) #[] ua]):=by rw[eJ.out];exact qh (ax.new rfl)
       have U2:Hid (jJ W2 (.func (.func uf) #[] ua) q):=qh U1.out.up;have em2:W2.cell? ⟨b,o+m,none⟩=some (.string (str tm)):=(aZ (inferInstance:au w.heap.size w W2).out _ _ ib.out).trans em;have ib2:Lt b W2:=⟨nL ib.out (inferInstance:Le w.heap.size W2).out⟩;clear eJ U1 O1;go_upto_region 7 with(go_at_call 178;refine(iX.out _ HL.out.up inferInstance).mono ?_;rintro e w1 ⟨nv,δ2,rfl,rfl,VE⟩;have HNV:=qh VE;clear VE);obtain⟨gn,hgn⟩:∃g,(af W2 δ2).heap.size=g:=⟨_,rfl⟩;rw[hgn];refine aL fun W3 bQ=>?_;have a3:au W2.heap.size W2 W3:=gu bQ;have a4:Le W2.heap.size W3:=fI bQ;have Bs:Le B W3:=fI bQ;have DJ:au B w W3:=gu bQ;obtain⟨Gk,Gj,Gi,JS,JR⟩:=Au 8 w bQ;have O3:Hid (ax W3 w.heap.size 103 #[.int .i64 0,.string ⟨#[]⟩,.nilFunc,.nilFunc]):=by rw[bQ.out];exact qh ((O2.out.af _).alloc _)
       have Q3:Hid (ax W3 W1.heap.size 241 #[.func (.func uf) #[] ua]):=by rw[bQ.out];exact qh ((Q2.out.af _).alloc _)
       have N3:Hid (ax W3 gn 3 #[.int .i64 nv]):=by rw[bQ.out,<-hgn];exact qh (ax.new rfl)
       have U3:Hid (jJ W3 (.func (.func uf) #[] ua) q):=qh U2.out.up;have gn1:Hid (¬gn<w.heap.size):=qh (by rw[<-hgn];have:=(inferInstance:Le w.heap.size (af W2 δ2)).out;omega);clear bQ U2 O2 Q2 hgn;go_upto_region 8 with(go_at_call 87;refine(pG.out _ inferInstance inferInstance inferInstance HL.out.up).mono ?_;rintro e w1 ⟨cv,δ3,rfl,rfl,VK⟩;have HCV:=qh VK;clear VK);refine aL fun W4 jQ=>?_;have a5:au W3.heap.size W3 W4:=gu jQ;have a6:Le W3.heap.size W4:=fI jQ;have Uf:Le B W4:=fI jQ;have Xj:au B w W4:=gu jQ;obtain⟨Xi,Xh,Zq,Zp,Zo⟩:=Au 8 w jQ;have C4:Hid (∀c,oc=some c->cN c.w=1->gW W4 cv c):=by rw[jQ.out];exact HCV
       have O4:Hid (ax W4 w.heap.size 103 #[.int .i64 0,.string ⟨#[]⟩,.nilFunc,.nilFunc]):=qh O3.out.dM;have Q4:Hid (ax W4 W1.heap.size 241 #[.func (.func uf) #[] ua]):=qh Q3.out.dM;have N4:Hid (ax W4 gn 3 #[.int .i64 nv]):=qh N3.out.dM;have U4:Hid (jJ W4 (.func (.func uf) #[] ua) q):=qh U3.out.up;have es4:W4.cell? ⟨b,o+j,none⟩=some (.string (str ts)):=(aZ (inferInstance:au w.heap.size w W4).out _ _ ib.out).trans es;have ib4:Lt b W4:=⟨nL ib.out (inferInstance:Le w.heap.size W4).out⟩;clear jQ HCV U3 O3 Q3 N3;go_upto_region 9 with fail;refine aL fun W5 sS=>?_;have a7:au W4.heap.size W4 W5:=gu sS;have a8:Le W4.heap.size W5:=fI sS;have ac5:Le B W5:=fI sS;have Zn:au B w W5:=gu sS;obtain⟨Zm,Zl,Zk,Zj,Zi⟩:=Au 8 w sS;have O5:Hid (ax W5 w.heap.size 103 #[.int .i64 0,.string ⟨#[]⟩,.nilFunc,.nilFunc]):=qh O4.out.dM;have Q5:Hid (ax W5 W1.heap.size 241 #[.func (.func uf) #[] ua]):=qh Q4.out.dM;have N5:Hid (ax W5 gn 3 #[.int .i64 nv]):=qh N4.out.dM;have S5:Hid (ax W5 W4.heap.size 9 #[.string (str ts)]):=by rw[sS.out];exact qh (ax.new rfl)
       have U5:Hid (jJ W5 (.func (.func uf) #[] ua) q):=qh U4.out.up;have C5:Hid (∀c,oc=some c->cN c.w=1->gW W5 cv c):=qh fun c h1 h2=>(C4.out c h1 h2).up;have gs1:Hid (¬W4.heap.size<w.heap.size):=qh (by have:=(inferInstance:Le w.heap.size W4).out;omega);clear sS C4 U4 O4 Q4 N4;obtain⟨gq,hgq⟩:∃g,W1.heap.size=g:=⟨_,rfl⟩;obtain⟨gs,SM⟩:∃g,W4.heap.size=g:=⟨_,rfl⟩;rw[hgq] at Q5 ⊢;rw[SM] at S5 gs1 ⊢;clear hgq SM;have y1:=S5.out.cell (i:=0) (v:=.string (str ts)) rfl;have j1:=S5.out.lt;cases b1 with
       |false=>
        have HN:Hid (DK (eD ws)=false):=by unfold Hid;rw[Md.out];exact vr (.inr (.inr (.inl xF.out)))
        go_upto_region 10 with fail
        apply wp_region_lit
        refine QBZ ?_
        intro W9 C9 k9
        refine QCS ?_
        intro p1 p2
        go_wp2_with fail
        refine QEI ?_
        exact vj HN.out ⟨W9,aq⟩
       |true=>
        cases b2 with
        |false=>
         have HN:Hid (DK (eD ws)=false):=by unfold Hid;rw[Md.out];exact vr (.inr (.inr (.inr Ia.out)))
         go_upto_region 10 with fail
         apply wp_region_lit
         refine QBZ ?_
         intro W9 C9 k9
         refine QCS ?_
         intro p1 p2
         go_wp2_with fail
         refine QEI ?_
         exact vj HN.out ⟨W9,aq⟩
        |true=>
         obtain⟨n,hn⟩:∃n,on=some n:=by
          have:=xF.out;cases on with
          |none=>cases this
          |some n=>exact⟨n,rfl⟩
         obtain⟨c,hc,J5⟩:∃c,oc=some c/\cN c.w=1:=by
          have:=Ia.out;cases oc with
          |none=>cases this
          |some c=>exact⟨c,rfl,of_decide_eq_true this⟩
         obtain rfl:nv=n:=HNV.out n hn
         have hnb:=YY.out nv hn
         have C6:=qh (C5.out c hc J5)
         obtain⟨vc,va,rfl⟩:=C6.out.form
         subst hn;subst hc
         clear HNV YY C5 xF Ia
         by_cases Uo:ts=[60]
         ·subst Uo;have HN:Hid (eD ws=.ord q 60 nv c):=by unfold Hid;rw[Md.out];exact zB uv.out J5
          have HC:Hid (cN c.w=1):=qh J5;clear J5 Md uv iX pG qf yx;have f60:((str [60]).toList==[60])=true:=by rw[cF];rfl
          have f60':((str [60]).toList != [60])=false:=by rw[bne,f60];rfl
          have f61:((str [60]).toList==[61])=false:=by rw[cF];rfl
          have f61':((str [60]).toList != [61])=true:=by rw[bne,f61];rfl
          have f62:((str [60]).toList==[62])=false:=by rw[cF];rfl
          have f62':((str [60]).toList != [62])=true:=by rw[bne,f62];rfl
          go_upto_region 11 with fail;go_wp2_with (first|(refine gv (ps:=[(2,.func (.func 179) #[] #[.pointer (some ⟨gq,0,none⟩),.pointer (some ⟨gs,0,none⟩),.pointer (some ⟨gn,0,none⟩)]),(3,.func (.func 160) #[] #[.pointer (some ⟨vc,0,none⟩),.pointer (some ⟨va,0,none⟩)])]) (cells:=#[.int .i64 0,.string ⟨#[]⟩,.func (.func 179) #[] #[.pointer (some ⟨gq,0,none⟩),.pointer (some ⟨gs,0,none⟩),.pointer (some ⟨gn,0,none⟩)],.func (.func 160) #[] #[.pointer (some ⟨vc,0,none⟩),.pointer (some ⟨va,0,none⟩)]]) rfl _ _ rfl rfl (uG gq gs gn vc va) ?_)|(refine ak (cs':=#[.int .i64 0,.string ⟨#[]⟩,.func (.func 179) #[] #[.pointer (some ⟨gq,0,none⟩),.pointer (some ⟨gs,0,none⟩),.pointer (some ⟨gn,0,none⟩)],.func (.func 160) #[] #[.pointer (some ⟨vc,0,none⟩),.pointer (some ⟨va,0,none⟩)]]) zm rfl _ _ rfl rfl rfl O5.out rfl rfl (by simp[Value.oneCell']) ?_;intro W9 C9 k9));refine QCS ?_;intro p1 p2;refine QEI ?_;refine I0 HN.out ⟨nU,hnb,gq,gs,gn,_,rfl,Q5.out.vL k9 O5.out nU,U5.out.aR k9 O5.out nU nU,S5.out.vL k9 O5.out nU,gs1.out,N5.out.vL k9 O5.out nU,gn1.out⟩ (C6.out.aR k9 O5.out nU nU nU)
         by_cases Un:ts=[61]
         ·subst Un;have HN:Hid (eD ws=.ord q 61 nv c):=by unfold Hid;rw[Md.out];exact zB uv.out J5
          have HC:Hid (cN c.w=1):=qh J5;clear J5 Md uv iX pG qf yx;have f60:((str [61]).toList==[60])=false:=by rw[cF];rfl
          have f60':((str [61]).toList != [60])=true:=by rw[bne,f60];rfl
          have f61:((str [61]).toList==[61])=true:=by rw[cF];rfl
          have f61':((str [61]).toList != [61])=false:=by rw[bne,f61];rfl
          have f62:((str [61]).toList==[62])=false:=by rw[cF];rfl
          have f62':((str [61]).toList != [62])=true:=by rw[bne,f62];rfl
          go_upto_region 11 with fail;go_wp2_with (first|(refine gv (ps:=[(2,.func (.func 179) #[] #[.pointer (some ⟨gq,0,none⟩),.pointer (some ⟨gs,0,none⟩),.pointer (some ⟨gn,0,none⟩)]),(3,.func (.func 160) #[] #[.pointer (some ⟨vc,0,none⟩),.pointer (some ⟨va,0,none⟩)])]) (cells:=#[.int .i64 0,.string ⟨#[]⟩,.func (.func 179) #[] #[.pointer (some ⟨gq,0,none⟩),.pointer (some ⟨gs,0,none⟩),.pointer (some ⟨gn,0,none⟩)],.func (.func 160) #[] #[.pointer (some ⟨vc,0,none⟩),.pointer (some ⟨va,0,none⟩)]]) rfl _ _ rfl rfl (uG gq gs gn vc va) ?_)|(refine ak (cs':=#[.int .i64 0,.string ⟨#[]⟩,.func (.func 179) #[] #[.pointer (some ⟨gq,0,none⟩),.pointer (some ⟨gs,0,none⟩),.pointer (some ⟨gn,0,none⟩)],.func (.func 160) #[] #[.pointer (some ⟨vc,0,none⟩),.pointer (some ⟨va,0,none⟩)]]) zm rfl _ _ rfl rfl rfl O5.out rfl rfl (by simp[Value.oneCell']) ?_;intro W9 C9 k9));refine QCS ?_;intro p1 p2;refine QEI ?_;refine I0 HN.out ⟨nU,hnb,gq,gs,gn,_,rfl,Q5.out.vL k9 O5.out nU,U5.out.aR k9 O5.out nU nU,S5.out.vL k9 O5.out nU,gs1.out,N5.out.vL k9 O5.out nU,gn1.out⟩ (C6.out.aR k9 O5.out nU nU nU)
         by_cases Um:ts=[62]
         ·subst Um;have HN:Hid (eD ws=.ord q 62 nv c):=by unfold Hid;rw[Md.out];exact zB uv.out J5
          have HC:Hid (cN c.w=1):=qh J5;clear J5 Md uv iX pG qf yx;have f60:((str [62]).toList==[60])=false:=by rw[cF];rfl
          have f60':((str [62]).toList != [60])=true:=by rw[bne,f60];rfl
          have f61:((str [62]).toList==[61])=false:=by rw[cF];rfl
          have f61':((str [62]).toList != [61])=true:=by rw[bne,f61];rfl
          have f62:((str [62]).toList==[62])=true:=by rw[cF];rfl
          have f62':((str [62]).toList != [62])=false:=by rw[bne,f62];rfl
          go_upto_region 11 with fail;go_wp2_with (first|(refine gv (ps:=[(2,.func (.func 179) #[] #[.pointer (some ⟨gq,0,none⟩),.pointer (some ⟨gs,0,none⟩),.pointer (some ⟨gn,0,none⟩)]),(3,.func (.func 160) #[] #[.pointer (some ⟨vc,0,none⟩),.pointer (some ⟨va,0,none⟩)])]) (cells:=#[.int .i64 0,.string ⟨#[]⟩,.func (.func 179) #[] #[.pointer (some ⟨gq,0,none⟩),.pointer (some ⟨gs,0,none⟩),.pointer (some ⟨gn,0,none⟩)],.func (.func 160) #[] #[.pointer (some ⟨vc,0,none⟩),.pointer (some ⟨va,0,none⟩)]]) rfl _ _ rfl rfl (uG gq gs gn vc va) ?_)|(refine ak (cs':=#[.int .i64 0,.string ⟨#[]⟩,.func (.func 179) #[] #[.pointer (some ⟨gq,0,none⟩),.pointer (some ⟨gs,0,none⟩),.pointer (some ⟨gn,0,none⟩)],.func (.func 160) #[] #[.pointer (some ⟨vc,0,none⟩),.pointer (some ⟨va,0,none⟩)]]) zm rfl _ _ rfl rfl rfl O5.out rfl rfl (by simp[Value.oneCell']) ?_;intro W9 C9 k9));refine QCS ?_;intro p1 p2;refine QEI ?_;refine I0 HN.out ⟨nU,hnb,gq,gs,gn,_,rfl,Q5.out.vL k9 O5.out nU,U5.out.aR k9 O5.out nU nU,S5.out.vL k9 O5.out nU,gs1.out,N5.out.vL k9 O5.out nU,gn1.out⟩ (C6.out.aR k9 O5.out nU nU nU)
         have HN:Hid (DK (eD ws)=false):=by unfold Hid;rw[Md.out];refine vr (.inr (.inl ?_));unfold mj;rw[if_neg Uo,if_neg Un,if_neg Um]
         have f60:((str ts).toList==[60])=false:=by rw[cF];exact decide_eq_false Uo
         have f60':((str ts).toList != [60])=true:=by rw[bne,f60];rfl
         have f61:((str ts).toList==[61])=false:=by rw[cF];exact decide_eq_false Un
         have f61':((str ts).toList != [61])=true:=by rw[bne,f61];rfl
         have f62:((str ts).toList==[62])=false:=by rw[cF];exact decide_eq_false Um
         have f62':((str ts).toList != [62])=true:=by rw[bne,f62];rfl
         clear Uo Un Um J5
         go_upto_region 10 with fail
         apply wp_region_lit
         refine QBZ ?_
         intro W9 C9 k9
         refine QCS ?_
         intro p1 p2
         go_wp2_with fail
         refine QEI ?_
         exact vj HN.out ⟨W9,aq⟩
      ·have si:cN q.w=3:=by have:=of_decide_eq_true (show decide (cN q.w=2\/cN q.w=3)=true from NF);omega
       have HK3:=qh si;have HN:Hid (DK (eD ws)=false):=by unfold Hid;rw[Md.out];refine vr (.inl fun q' e hk=>?_);injection e with e;subst e;exact hk2 hk
       clear hq NF hk2 si;go_enter Tryz.func91,Tryz.ntmps91;go_wp2_with (first|(go_at_call 177;refine(yx.out _ inferInstance).mono ?_;rintro e w1 ⟨rfl,rfl⟩)|(go_at_call 178;refine(iX.out _ HL.out.up inferInstance).mono ?_;rintro e w1 ⟨nv,δ2,rfl,rfl,VE⟩;have HNV:=qh VE;clear VE)|(go_at_call 87;refine(pG.out _ inferInstance inferInstance inferInstance HL.out.up).mono ?_;rintro e w1 ⟨cv,δ3,rfl,rfl,VK⟩;have HCV:=qh VK;clear VK)|(go_at_call 90;refine(qf.out _ inferInstance inferInstance inferInstance HL.out.up).mono ?_;rintro e w1 ⟨v,δ1,rfl,rfl,hv1,vO,yl⟩;obtain rfl:=yl q rfl HK3.out;clear hv1 vO yl));refine bodyPost_ret (v:=.tuple #[.agg #[.int .i64 0,.string ⟨#[]⟩,.nilFunc,.nilFunc],.bool false]) ?_ rfl (vj HN.out ag);simp only[results,Tryz.results91];go_simp
 ·have HN:Hid (DK (eD ws)=false):=qh (I8 h0 (by rw[ht0];exact hw));have f:((str t0).toList==[119,104,101,110])=false:=by rw[cF];exact decide_eq_false hw
  have f':((str t0).toList != [119,104,101,110])=true:=by rw[bne,f];rfl
  obtain⟨ix,YK⟩:∃x,vN (jN iY ws)=x:=⟨_,rfl⟩;rw[YK] at yx;clear hS hL hl h0 hb ht0 hcap hw YK;go_enter Tryz.func91,Tryz.ntmps91;go_wp2_with (go_at_call 177;refine(yx.out _ inferInstance).mono ?_;rintro e w1 ⟨rfl,rfl⟩);refine bodyPost_ret (v:=.tuple #[.agg #[.int .i64 0,.string ⟨#[]⟩,.nilFunc,.nilFunc],.bool false]) ?_ rfl (vj HN.out ag);simp only[results,Tryz.results91];go_simp
end
section
open Hd
theorem Of(k:cP)(d:cE)(ms:List fK)(l:bz)(hl:l.length<=1000)(hv:aG d.az=true)(c:dU)(hr:bK l=.cmd c)(hk:cN c.w=1)(X:Nat->Prop)(B D:Nat)(w:nJ)(hX:∀b,X b->b<w.heap.size)(h8:8<=B)(hD:bZ X B D w k d ms)(hL:cT w):Calls nH 43 #[.pointer (some ⟨D,0,none⟩),.string (str l)] w (lN X B D w (⟨iH d.az c,d.aC,d.given⟩,me (fW d.az c).isSome)):=by refine QAG ?_;intro HV HX H HL lB l8 lD ws pO Hy hw0 hwn Mb;have rU:bM ws=some c:=(qo (by rw[<-pO];exact hr)).1;have HK:=qh hk;clear hr hk hl pO;have HT:Hid (∀(v:nK) (W:nJ),bZ X B D W k d ms->gW W v c->Calls nH 89 #[.pointer (some ⟨D,0,none⟩),v] W fun e w'=>∃k':cP,e=.returned (.bool (fW d.az c).isSome)/\bZ X B D w' k' ⟨iH d.az c,d.aC,d.given⟩ ms/\Fr B [98] W w'):=qh fun v W h1 h2=>K6 k d ms HV.out c v X B D W h1 h2;refine QDR ?_;intro td Cz bb ir;rw[Cz,ir] at HT ⊢;clear hD hL hv hX;go_enter Tryz.func43,Tryz.ntmps43;go_upto_region 2 with(go_at_call 86;refine Hy.out.mono ?_;rintro e w1 ⟨A,n,cap,δ1,rfl,rfl,rfl,hS⟩;have HS:=qh hS;clear hS);refine QAM ?_;intro W1 aH cJ dF cU dA dD eI ju H1 mY rO lS lS8 F1;clear aH HS;have pG:Hid (Calls nH 87 #[.slice A ws.length cap] W1 (kD (bM ws) W1)):=qh (qU ws A cap hw0 Mb.out hwn W1.heap.size W1 mY.out rO.out);unfold kD at pG;rw[rU,show lH (some c)=true from decide_eq_true HK.out] at pG;clear rU Cz ir;go_upto_region 4 with(go_at_call 87;refine pG.out.mono ?_;rintro e w1 ⟨v,δ2,rfl,rfl,hc⟩;have HC:=qh (hc c rfl HK.out);clear hc);go_wp2_with (first|(go_at_call 89;refine(HT.out v _ H1.out.up HC.out).mono ?_;rintro e w1 ⟨k',rfl,XI,hf2⟩;have H2:=qh XI;have F2:=qh hf2;clear XI hf2)|(go_at_call 88;refine(wC bb _).mono ?_;rintro e w1 ⟨rfl,δ3,rfl⟩));go_ret;exact⟨k',ms,rfl,H2.out.up,((F1.out.trans (by have:=H1.out.le;exact Fr.gj)).trans (F2.out.mono nU)).trans (by have:=H2.out.le;exact Fr.gj)⟩
end
section
open Hd
theorem WW(uf:Nat)(ua:Array nK)(w:nJ):(nilAhead 463 241 (.func (.func uf) #[] ua) "almadraba/headman.answer").run nH w=.ok (some false) w:=by kernel_rfl
theorem WV(uf:Nat)(w:nJ):(nilAhead 463 243 (.func (.func uf) #[] #[]) "almadraba/headman.answer").run nH w=.ok (some false) w:=by kernel_rfl
attribute[local go_sem] WW WV
theorem XZ(k:cP)(d:cE)(ms:List fK)(l:bz)(hl:l.length<=1000)(hv:aG d.az=true)(c:dU)(hr:bK l=.cmd c)(hk:cN c.w=2)(X:Nat->Prop)(B D:Nat)(w:nJ)(hX:∀b,X b->b<w.heap.size)(h8:8<=B)(hD:bZ X B D w k d ms)(hL:cT w):Calls nH 43 #[.pointer (some ⟨D,0,none⟩),.string (str l)] w (lN X B D w (d,nC d.az c)):=by
 refine QAG ?_;intro HV HX H HL lB l8 lD ws pO Hy hw0 hwn Mb;have rU:bM ws=some c:=(qo (by rw[<-pO];exact hr)).1;have HK:=qh hk;clear hr hk hl pO;obtain⟨an,OZ⟩:∃x,nC d.az c=x:=⟨_,rfl⟩;have HA:Hid (∀(u:nK) (W:nJ),bZ X B D W k d ms->Le 8 W->cT W->jJ W u c->Calls nH 313 #[u,aO k.az d.az] W fun e w'=>e=.returned (.string (str an))/\∃δ,w'=af W δ):=qh fun u W h1 i8 h2 h3=>by have iB:=h1.le;have iW:Le W.heap.size W:=⟨nR _⟩;rw[<-OZ];exact Ol k.az d.az HV.out c u W.heap.size W h1.eE.az.is h2 h3
 rw[OZ];clear hD hL hv hX;go_enter Tryz.func43,Tryz.ntmps43;go_upto_region 2 with(go_at_call 86;refine Hy.out.mono ?_;rintro e w1 ⟨A,n,cap,δ1,rfl,rfl,rfl,hS⟩;have HS:=qh hS;clear hS);refine QAM ?_;intro W1 aH cJ dF cU dA dD eI ju H1 mY rO lS lS8 F1;clear aH HS;refine QAO ?_;intro pG qf;unfold kD at pG;unfold lJ at qf;rw[rU,show lH (some c)=false from decide_eq_false (by rw[HK.out];decide)] at pG;rw[rU,show xV (some c)=true from decide_eq_true (by rw[HK.out];decide)] at qf;clear rU OZ;go_upto_region 7 with(first|(go_at_call 87;refine pG.out.mono ?_;rintro e w1 ⟨v,δ2,rfl,rfl,hc⟩;clear hc)|(go_at_call 90;refine(qf.out _ inferInstance inferInstance inferInstance rO.out.up).mono ?_;rintro e w1 ⟨v2,δ3,rfl,rfl,hv1,vO,yl⟩;obtain⟨u,rfl,hu⟩:=vO c rfl HK.out;obtain⟨uf,ua,rfl⟩:=hu.form;have HU:=qh hu;clear hu hv1 vO yl));refine QDO ?_;intro W2 eJ Es Gh sg tX tW sM tV H2 qN F2;have U2:Hid (jJ W2 (.func (.func uf) #[] ua) c):=by rw[eJ.out];exact HU
 clear eJ;have lS2:Le W2.heap.size W2:=⟨nR _⟩;have lD2:=H2.out.eE.box.lt;refine wp_region_held (S:=fun W=>au W2.heap.size W2 W) nP ?_;change wpAnyH _ _ _ _ _ _ _ _ (World.drew _);refine wpH_tq 0 (.iface 241 (.func (.func uf) #[] ua)) (inferInstance) ?_;refine QAC ?_;refine wpH_tq 1 (.pointer (some ⟨D,0,none⟩)) (inferInstance) ?_;refine QAC ?_;refine QEX ?_;refine QAC ?_;refine QEY ?_;refine QAC ?_;refine dV 4 (aO k.az d.az) rfl nP (kU ai nY _ rfl rfl (fun _ h=>ax.dM (hg:=h) H2.out.eE.box) (eT k d) rfl) (inferInstance) ?_;refine QAC ?_;refine wpH_tq 5 (.func (.method "almadraba/headman.answer") #[.iface 241 (.func (.func uf) #[] ua)] #[]) (inferInstance) ?_;refine QAC ?_;refine wpH_tq 6 (.func (.method "almadraba/headman.answer") #[.iface 241 (.func (.func uf) #[] ua)] #[]) (inferInstance) ?_;refine QAC ?_;refine wpH_tq 7 (.iface 241 (.func (.func uf) #[] ua)) (inferInstance) ?_;refine QAC ?_;refine wpAnyH_all (rs:=[8]) nP nV ?_;intro i hi;obtain rfl:=List.mem_singleton.1 hi;refine QAF ?_;refine(HA.out (.func (.func uf) #[] ua) _ H2.out.up inferInstance qN.out.up (U2.out.up)).mono ?_;rintro e w1 ⟨rfl,δ4,rfl⟩;refine⟨inferInstance,?_⟩;refine QAC ?_;refine wpH_tq 9 (.string (str an)) (inferInstance) ?_;refine QAC ?_;refine wpAnyH_done nP ?_ _;go_wp2_with fail;go_ret;exact⟨k,ms,rfl,H2.out.up,F2.out.trans (by have:=H2.out.le;exact Fr.gj)⟩
theorem UQ(k:cP)(d:cE)(ms:List fK)(l:bz)(hl:l.length<=1000)(hv:aG d.az=true)(c:dU)(hr:bK l=.cmd c)(hk:cN c.w=3)(X:Nat->Prop)(B D:Nat)(w:nJ)(hX:∀b,X b->b<w.heap.size)(h8:8<=B)(hD:bZ X B D w k d ms)(hL:cT w):Calls nH 43 #[.pointer (some ⟨D,0,none⟩),.string (str l)] w (lN X B D w (d,nC d.az c)):=by
 refine QAG ?_;intro HV HX H HL lB l8 lD ws pO Hy hw0 hwn Mb;have rU:bM ws=some c:=(qo (by rw[<-pO];exact hr)).1;have HK:=qh hk;clear hr hk hl pO;obtain⟨an,OZ⟩:∃x,nC d.az c=x:=⟨_,rfl⟩;have HA:Hid (∀(u:nK) (W:nJ),bZ X B D W k d ms->Le 8 W->cT W->u=.func (.func (pV c.w)) #[] #[]->Calls nH 315 #[u,aO k.az d.az] W fun e w'=>e=.returned (.string (str an))/\∃δ,w'=af W δ):=qh fun u W h1 i8 h2 h3=>by have iB:=h1.le;have iW:Le W.heap.size W:=⟨nR _⟩;rw[<-OZ];subst h3;exact QF k.az d.az HV.out c HK.out W.heap.size W h1.eE.az.is h2
 rw[OZ];clear hD hL hv hX;go_enter Tryz.func43,Tryz.ntmps43;go_upto_region 2 with(go_at_call 86;refine Hy.out.mono ?_;rintro e w1 ⟨A,n,cap,δ1,rfl,rfl,rfl,hS⟩;have HS:=qh hS;clear hS);refine QAM ?_;intro W1 aH cJ dF cU dA dD eI ju H1 mY rO lS lS8 F1;clear aH HS;refine QAO ?_;intro pG qf;unfold kD at pG;unfold lJ at qf;rw[rU,show lH (some c)=false from decide_eq_false (by rw[HK.out];decide)] at pG;rw[rU,show xV (some c)=true from decide_eq_true (by rw[HK.out];decide)] at qf;clear rU OZ;go_upto_region 7 with(first|(go_at_call 87;refine pG.out.mono ?_;rintro e w1 ⟨v,δ2,rfl,rfl,hc⟩;clear hc)|(go_at_call 90;refine(qf.out _ inferInstance inferInstance inferInstance rO.out.up).mono ?_;rintro e w1 ⟨v2,δ3,rfl,rfl,hv1,vO,yl⟩;obtain rfl:=yl c rfl HK.out;clear hv1 vO yl));refine QDO ?_;intro W2 eJ Es Gh sg tX tW sM tV H2 qN F2;clear eJ;have lS2:Le W2.heap.size W2:=⟨nR _⟩;have lD2:=H2.out.eE.box.lt;refine wp_region_held (S:=fun W=>au W2.heap.size W2 W) nP ?_;change wpAnyH _ _ _ _ _ _ _ _ (World.drew _);refine wpH_tq 0 (.iface 243 (.func (.func (pV c.w)) #[] #[])) (inferInstance) ?_;refine QAC ?_;refine wpH_tq 1 (.pointer (some ⟨D,0,none⟩)) (inferInstance) ?_;refine QAC ?_;refine QEX ?_;refine QAC ?_;refine QEY ?_;refine QAC ?_;refine dV 4 (aO k.az d.az) rfl nP (kU ai nY _ rfl rfl (fun _ h=>ax.dM (hg:=h) H2.out.eE.box) (eT k d) rfl) (inferInstance) ?_;refine QAC ?_;refine wpH_tq 5 (.func (.method "almadraba/headman.answer") #[.iface 243 (.func (.func (pV c.w)) #[] #[])] #[]) (inferInstance) ?_;refine QAC ?_;refine wpH_tq 6 (.func (.method "almadraba/headman.answer") #[.iface 243 (.func (.func (pV c.w)) #[] #[])] #[]) (inferInstance) ?_;refine QAC ?_;refine wpH_tq 7 (.iface 243 (.func (.func (pV c.w)) #[] #[])) (inferInstance) ?_;refine QAC ?_;refine wpAnyH_all (rs:=[8]) nP nV ?_;intro i hi;obtain rfl:=List.mem_singleton.1 hi;refine QAF ?_;refine(HA.out (.func (.func (pV c.w)) #[] #[]) _ H2.out.up inferInstance qN.out.up (rfl)).mono ?_;rintro e w1 ⟨rfl,δ4,rfl⟩;refine⟨inferInstance,?_⟩;refine QAC ?_;refine wpH_tq 9 (.string (str an)) (inferInstance) ?_;refine QAC ?_;refine wpAnyH_done nP ?_ _;go_wp2_with fail;go_ret;exact⟨k,ms,rfl,H2.out.up,F2.out.trans (by have:=H2.out.le;exact Fr.gj)⟩
end
section
open Hd
theorem UP(k:cP)(d:cE)(ms:List fK)(l:bz)(hl:l.length<=1000)(hv:aG d.az=true)(hr:bK l=.none)(X:Nat->Prop)(B D:Nat)(w:nJ)(hX:∀b,X b->b<w.heap.size)(h8:8<=B)(hD:bZ X B D w k d ms)(hL:cT w):Calls nH 43 #[.pointer (some ⟨D,0,none⟩),.string (str l)] w (lN X B D w (d,yW)):=by
 refine QAG ?_;intro HV HX H HL lB l8 lD ws pO Hy hw0 hwn Mb;have rU:bM ws=none:=I6 (by rw[<-pO];exact hr);have Ij:DK (eD ws)=false:=by rw[<-pO];show DK (bK l)=false;rw[hr];rfl
 clear hr hl pO hD hL hv hX;go_enter Tryz.func43,Tryz.ntmps43;go_upto_region 2 with(go_at_call 86;refine Hy.out.mono ?_;rintro e w1 ⟨A,n,cap,δ1,rfl,rfl,rfl,hS⟩;have HS:=qh hS;clear hS);refine QAM ?_;intro W1 aH cJ dF cU dA dD eI ju H1 mY rO lS lS8 F1;clear aH HS;refine QAO ?_;intro pG qf;unfold kD at pG;unfold lJ at qf;rw[rU,show lH none=false from rfl] at pG;rw[rU,show xV none=false from rfl] at qf;refine QBF ?_;intro yb;unfold rL at yb;rw[Ij] at yb;obtain⟨b,o,rfl,hb,e0⟩:=mY.out.mh hw0;refine QCG ?_;intro Vf hcap e0 ib A2 vU;have Bv:Hid (Sl aX W1.heap.size W1 A2 (cap-1) (ws.drop 1)):=by have:=mY.out.drop gD 1 nQ;rw[<-vU];exact qh (by simpa [Addr.add_lit] using this)
 refine QAZ ?_;intro VH hn2 VG VF Us Bh iX;unfold pg at iX;have Y1:Hid (nth ws 0=cj .forget->∀a,cR (ws.drop 1)=some a->a.length≠1):=qh fun hf a ha=>GS rU hw0 hf ha;obtain⟨t0,ht0⟩:∃x,nth ws 0=x:=⟨_,rfl⟩;rw[ht0] at e0 Y1;clear ht0 rU Ij hb hcap;cases OV:cR (ws.drop 1) with
 |none=>
  rw[OV] at iX
  clear OV Y1
  go_upto_region 16 with(first|(go_at_call 87;refine pG.out.mono ?_;rintro e w1 ⟨v,δ2,rfl,rfl,hc⟩;clear hc)|(go_at_call 90;refine(qf.out _ inferInstance inferInstance inferInstance rO.out.up).mono ?_;rintro e w1 ⟨v2,δ3,rfl,rfl,hv1,vO,yl⟩;obtain rfl:=hv1 trivial;clear hv1 vO yl)|(go_at_call 91;refine(yb.out _ inferInstance inferInstance inferInstance rO.out.up).mono ?_;rintro e w1 ⟨o1,o2,δ4,rfl,rfl,hz1,uk⟩;obtain⟨rfl,rfl⟩:=hz1 trivial;clear hz1 uk))
  refine QCQ ?_
  intro W2 eJ a1 a2
  refine QFJ ?_
  intro Es Gh sg tX tW sM tV
  clear eJ
  refine QAY ?_
  intro e02 ib2 qN H2 F2
  go_upto_region 17 with(go_at_call 92;refine(iX.out _ inferInstance inferInstance inferInstance qN.out.up).mono ?_;rintro e w1 ⟨A3,c3,δ5,rfl,rfl,Ah⟩;have uu:=qh Ah;clear Ah)
  refine QBX ?_
  intro g hg W3 bQ a3 a4
  have Bs:Le B W3:=fI bQ
  have DJ:au B w W3:=gu bQ
  obtain⟨Gk,Gj,Gi,JS⟩:=CG 8 w bQ
  have JR:Lt (D) W3:=nt bQ
  have G3:Hid (ax W3 g 35 #[.slice A3 0 c3]):=by rw[bQ.out,<-hg];exact qh (ax.new rfl)
  have I3:Hid (fN 3 aI W3.heap.size W3 A3 c3 []):=by rw[bQ.out];exact qh (uu.out.wide)
  refine QBC ?_
  intro H3 F3 e03 ib3
  have uT:=G3.out.cell (i:=0) (v:=.slice A3 0 c3) rfl
  have lg:=G3.out.lt
  clear bQ hg uu
  go_wp2_with fail
  go_ret
  exact⟨k,ms,rfl,H3.out.up,F3.out.trans (by have:=H3.out.le;exact Fr.gj)⟩
 |some a=>
  rw[OV] at iX Y1
  clear OV
  obtain⟨an,OZ⟩:∃n,a.length=n:=⟨_,rfl⟩
  have Mi:=qh OZ
  simp only[Option.getD_some,OZ] at iX
  by_cases hf:t0=cj .forget
  ·have agb:((an:Int)==1)=false:=beq_eq_false_iff_ne.2 (by have:=Y1.out hf a rfl;omega);have f:((str t0).toList==[102,111,114,103,101,116])=true:=by subst hf;rw[cF];rfl
   clear hf Y1 OZ;go_upto_region 16 with(first|(go_at_call 87;refine pG.out.mono ?_;rintro e w1 ⟨v,δ2,rfl,rfl,hc⟩;clear hc)|(go_at_call 90;refine(qf.out _ inferInstance inferInstance inferInstance rO.out.up).mono ?_;rintro e w1 ⟨v2,δ3,rfl,rfl,hv1,vO,yl⟩;obtain rfl:=hv1 trivial;clear hv1 vO yl)|(go_at_call 91;refine(yb.out _ inferInstance inferInstance inferInstance rO.out.up).mono ?_;rintro e w1 ⟨o1,o2,δ4,rfl,rfl,hz1,uk⟩;obtain⟨rfl,rfl⟩:=hz1 trivial;clear hz1 uk));refine QCQ ?_;intro W2 eJ a1 a2;have Uf:Le B W2:=fI eJ;have Xj:au B w W2:=gu eJ;obtain⟨Xi,Xh,Zq,Zp⟩:=CG 8 w eJ;have Zo:Lt (D) W2:=nt eJ;clear eJ;refine QAY ?_;intro e02 ib2 qN H2 F2;go_upto_region 17 with(go_at_call 92;refine(iX.out _ inferInstance inferInstance inferInstance qN.out.up).mono ?_;rintro e w1 ⟨A3,c3,δ5,rfl,rfl,Ah⟩;have uu:=qh Ah;clear Ah);refine QBX ?_;intro g hg W3 bQ a3 a4;have ac5:Le B W3:=fI bQ;have Zn:au B w W3:=gu bQ;obtain⟨Zm,Zl,Zk,Zj⟩:=CG 8 w bQ;have Zi:Lt (D) W3:=nt bQ;refine QFO ?_;intro G3 I3;refine QBC ?_;intro H3 F3 e03 ib3;have uT:=G3.out.cell (i:=0) (v:=.slice A3 an c3) rfl;have lg:=G3.out.lt;clear bQ hg uu;go_wp2_with fail;go_ret;exact⟨k,ms,rfl,H3.out.up,F3.out.trans (by have:=H3.out.le;exact Fr.gj)⟩
  ·have f:((str t0).toList==[102,111,114,103,101,116])=false:=by rw[cF];exact decide_eq_false hf
   clear hf Y1 OZ;go_upto_region 16 with(first|(go_at_call 87;refine pG.out.mono ?_;rintro e w1 ⟨v,δ2,rfl,rfl,hc⟩;clear hc)|(go_at_call 90;refine(qf.out _ inferInstance inferInstance inferInstance rO.out.up).mono ?_;rintro e w1 ⟨v2,δ3,rfl,rfl,hv1,vO,yl⟩;obtain rfl:=hv1 trivial;clear hv1 vO yl)|(go_at_call 91;refine(yb.out _ inferInstance inferInstance inferInstance rO.out.up).mono ?_;rintro e w1 ⟨o1,o2,δ4,rfl,rfl,hz1,uk⟩;obtain⟨rfl,rfl⟩:=hz1 trivial;clear hz1 uk));refine QCQ ?_;intro W2 eJ a1 a2;have ac4:Le B W2:=fI eJ;have ac3:au B w W2:=gu eJ;obtain⟨ac2,ac1,ac0,abZ⟩:=CG 8 w eJ;have abY:Lt (D) W2:=nt eJ;clear eJ;refine QAY ?_;intro e02 ib2 qN H2 F2;go_upto_region 17 with(go_at_call 92;refine(iX.out _ inferInstance inferInstance inferInstance qN.out.up).mono ?_;rintro e w1 ⟨A3,c3,δ5,rfl,rfl,Ah⟩;have uu:=qh Ah;clear Ah);refine QBX ?_;intro g hg W3 bQ a3 a4;have afR:Le B W3:=fI bQ;have afQ:au B w W3:=gu bQ;obtain⟨afP,afO,afN,afM⟩:=CG 8 w bQ;have afL:Lt (D) W3:=nt bQ;refine QFO ?_;intro G3 I3;refine QBC ?_;intro H3 F3 e03 ib3;have uT:=G3.out.cell (i:=0) (v:=.slice A3 an c3) rfl;have lg:=G3.out.lt;clear bQ hg uu;go_wp2_with fail;go_ret;exact⟨k,ms,rfl,H3.out.up,F3.out.trans (by have:=H3.out.le;exact Fr.gj)⟩
theorem UR(k:cP)(d:cE)(ms:List fK)(l:bz)(hl:l.length<=1000)(hv:aG d.az=true)(q c:dU)(s:UInt8)(n:Int)(hr:bK l=.ord q s n c)(h5:d.aC.length=5)(X:Nat->Prop)(B D:Nat)(w:nJ)(hX:∀b,X b->b<w.heap.size)(h8:8<=B)(hD:bZ X B D w k d ms)(hL:cT w):Calls nH 43 #[.pointer (some ⟨D,0,none⟩),.string (str l)] w (lN X B D w (d,Ic)):=by
 refine QAG ?_;intro HV HX H HL lB l8 lD ws pO Hy hw0 hwn Mb;have HRL:=qh hr;have hrw:eD ws=.ord q s n c:=by rw[<-pO];exact hr
 have rU:bM ws=none:=Cb hrw;have Ij:DK (eD ws)=true:=by rw[hrw];rfl
 have HRW:=qh hrw;clear hr hl pO hrw hD hL hv hX;go_enter Tryz.func43,Tryz.ntmps43;go_upto_region 2 with(go_at_call 86;refine Hy.out.mono ?_;rintro e w1 ⟨A,n,cap,δ1,rfl,rfl,rfl,hS⟩;have HS:=qh hS;clear hS);refine QAM ?_;intro W1 aH cJ dF cU dA dD eI ju H1 mY rO lS lS8 F1;clear aH HS;refine QAO ?_;intro pG qf;unfold kD at pG;unfold lJ at qf;rw[rU,show lH none=false from rfl] at pG;rw[rU,show xV none=false from rfl] at qf;refine QBF ?_;intro yb;unfold rL at yb;rw[Ij] at yb;have L4:W1.cell? ⟨D,14,none⟩=some (.slice k.oA d.aC.length k.oc):=H1.out.eE.box.cell rfl;clear rU Ij;have h5i:((d.aC.length:Int)==5)=true:=by simp[h5]
 clear h5;go_upto_region 9 with(first|(go_at_call 87;refine pG.out.mono ?_;rintro e w1 ⟨v,δ2,rfl,rfl,hc⟩;clear hc)|(go_at_call 90;refine(qf.out _ inferInstance inferInstance inferInstance rO.out.up).mono ?_;rintro e w1 ⟨v2,δ3,rfl,rfl,hv1,vO,yl⟩;obtain rfl:=hv1 trivial;clear hv1 vO yl)|(go_at_call 91;refine(yb.out _ inferInstance inferInstance inferInstance rO.out.up).mono ?_;rintro e w1 ⟨o1,o2,δ4,rfl,rfl,hz1,uk⟩;obtain⟨⟨hs,hn,gq,gs,gn,u,rfl,q1,q2,q3,q4,q5,q6⟩,SO⟩:=uk q s n c HRW.out;obtain⟨gc,ga,rfl⟩:=SO.form;have HH:Hid (lM X (af _ δ4) (.func (.func 179) #[] #[.pointer (some ⟨gq,0,none⟩),.pointer (some ⟨gs,0,none⟩),.pointer (some ⟨gn,0,none⟩)]) q s n):=qh ⟨hs,hn,gq,gs,gn,u,rfl,q1,q2,q3,fun h=>q4 (nL (HX.out _ h) (inferInstance:Le w.heap.size (af (af W1 δ2) δ3)).out),q5,fun h=>q6 (nL (HX.out _ h) (inferInstance:Le w.heap.size (af (af W1 δ2) δ3)).out)⟩;have HC:=qh SO;clear hz1 uk hs hn q1 q2 q3 q4 q5 q6 SO)|(refine ak (cs':=#[.int .i64 0,.string ⟨#[]⟩,.func (.func 179) #[] #[.pointer (some ⟨gq,0,none⟩),.pointer (some ⟨gs,0,none⟩),.pointer (some ⟨gn,0,none⟩)],.func (.func 160) #[] #[.pointer (some ⟨gc,0,none⟩),.pointer (some ⟨ga,0,none⟩)]]) vi rfl _ _ rfl rfl rfl (ax.new (T:=103) rfl) rfl rfl (by simp[Value.oneCell']) ?_;intro W2 O2 k2));refine QCH ?_;intro a1 a2 a3 a4 H2 F2 d14 lD2;clear k2 O2 HH HC;go_wp2_with (go_at_call 88;refine(wC false _).mono ?_;rintro e w1 ⟨rfl,δ7,rfl⟩);go_ret;exact⟨k,ms,rfl,H2.out.up,F2.out.trans (by have:=H2.out.le;exact Fr.gj)⟩
end
section
open Hd
theorem Oe(k:cP)(d:cE)(ms:List fK)(l:bz)(hl:l.length<=1000)(hv:aG d.az=true)(h5:d.aC.length<=5)(x:Int)(hr:bK l=.cmd ⟨.forget,[x]⟩)(i:Nat)(hi:d.aC.findIdx? (fun o=>decide ((o.num:Int)=x))=some i)(X:Nat->Prop)(B D:Nat)(w:nJ)(hX:∀b,X b->b<w.heap.size)(h8:8<=B)(hD:bZ X B D w k d ms)(hL:cT w):Calls nH 43 #[.pointer (some ⟨D,0,none⟩),.string (str l)] w (lN X B D w (⟨d.az,d.aC.eraseIdx i,d.given⟩,iq)):=by
 refine QAG ?_;intro HV HX H HL lB l8 lD ws pO Hy hw0 hwn Mb;have rU:=(qo (ws:=ws) (by rw[<-pO];exact hr));refine QEF ?_;intro Ij rU XE OV XG;clear XE hr hl pO hD hL hv hX;go_enter Tryz.func43,Tryz.ntmps43;go_upto_region 2 with(go_at_call 86;refine Hy.out.mono ?_;rintro e w1 ⟨A,n,cap,δ1,rfl,rfl,rfl,hS⟩;have HS:=qh hS;clear hS);refine QAM ?_;intro W1 aH cJ dF cU dA dD eI ju H1 mY rO lS lS8 F1;clear aH HS;refine QAO ?_;intro pG qf;unfold kD at pG;unfold lJ at qf;rw[rU,show lH (some ⟨.forget,[x]⟩)=false from rfl] at pG;rw[rU,show xV (some ⟨.forget,[x]⟩)=false from rfl] at qf;refine QBF ?_;intro yb;unfold rL at yb;rw[Ij] at yb;obtain⟨b,o,rfl,hb,e0⟩:=mY.out.mh hw0;refine QCG ?_;intro Vf hcap e0 ib A2 vU;have Bv:Hid (Sl aX W1.heap.size W1 A2 (cap-1) (ws.drop 1)):=by have:=mY.out.drop gD 1 nQ;rw[<-vU];exact qh (by simpa [Addr.add_lit] using this)
 refine QAZ ?_;intro VH hn2 VG VF Us Bh iX;unfold pg at iX;rw[OV] at iX;refine QCX ?_;intro iX t0 ht0;rw[ht0] at e0;have f:((str t0).toList==[102,111,114,103,101,116])=true:=by rw[<-ht0,XG,cF];rfl
 clear ht0 rU Ij hb hcap OV XG;go_upto_region 16 with(first|(go_at_call 87;refine pG.out.mono ?_;rintro e w1 ⟨v,δ2,rfl,rfl,hc⟩;clear hc)|(go_at_call 90;refine(qf.out _ inferInstance inferInstance inferInstance rO.out.up).mono ?_;rintro e w1 ⟨v2,δ3,rfl,rfl,hv1,vO,yl⟩;obtain rfl:=hv1 trivial;clear hv1 vO yl)|(go_at_call 91;refine(yb.out _ inferInstance inferInstance inferInstance rO.out.up).mono ?_;rintro e w1 ⟨o1,o2,δ4,rfl,rfl,hz1,uk⟩;obtain⟨rfl,rfl⟩:=hz1 trivial;clear hz1 uk));refine QCQ ?_;intro W2 eJ a1 a2;refine QFJ ?_;intro Es Gh sg tX tW sM tV;clear eJ;refine QAY ?_;intro e02 ib2 qN H2 F2;go_upto_region 17 with(go_at_call 92;refine(iX.out _ inferInstance inferInstance inferInstance qN.out.up).mono ?_;rintro e w1 ⟨A3,c3,δ5,rfl,rfl,Ah⟩;have uu:=qh Ah;clear Ah);refine QBX ?_;intro g hg W3 bQ a3 a4;refine QDP ?_;intro Bs DJ Gk Gj Gi JS JR G3 I3;refine QBC ?_;intro H3 F3 e03 ib3;have uT:=G3.out.cell (i:=0) (v:=.slice A3 1 c3) rfl;have lg:=G3.out.lt;clear bQ hg uu;have yx:Hid (∀W:nJ,bZ X B D W k d ms->ax W g 35 #[.slice A3 1 c3]->fN 3 aI W.heap.size W A3 c3 [x]->Calls nH 93 #[.slice k.oA d.aC.length k.oc,.func (.func 94) #[] #[.pointer (some ⟨g,0,none⟩)]] W fun e w'=>e=.returned (.int .i64 (vN (d.aC.findIdx? fun o=>decide ((o.num:Int)=x))))/\∃δ,w'=af W δ):=qh fun W h1 h2 h3=>by
  have hx:d.aC.findIdx? (fun o=>decide ((o.num:Int)=x))=ms.findIdx? fun m=>decide ((m.ord.num:Int)=x):=by rw[<-h1.map,Ar]
  rw[hx];exact zC ms x g A3 c3 d.aC.length h1.len (by rw[h1.len];omega) k.oA k.oc W (Sl.bU (by have:=h1.row;rw[<-h1.len] at this;exact this)) h2 h3.plain
 have L4:W3.cell? ⟨D,14,none⟩=some (.slice k.oA d.aC.length k.oc):=H3.out.eE.box.cell rfl;have hil:i<d.aC.length:=(List.findIdx?_eq_some_iff_findIdx_eq.1 hi).1;rw[hi,show vN (some i)=(i:Int) from rfl] at yx;clear hi;obtain⟨og,Et,hBg,_⟩:=H3.out.first nQ;obtain⟨kn,hkn⟩:∃n,d.aC.length=n+1:=⟨d.aC.length-1,nQ⟩;have Mg:=qh hkn;have HOA:=qh Et;have HIL:=qh hil;rw[Et,hkn] at L4 yx;have hik:i<=kn:=nQ;have hwr:IntKind.i64.wrap ((i:Int)+1)=(i:Int)+1:=IntWalk.i64_in _ nQ;have hi0:(0:Int)<=(i:Int):=nQ;have HDE:Hid (∀W:nJ,bZ X B D W k d ms->Calls nH 95 #[.slice (some ⟨og,0,none⟩) (kn+1) k.oc,.int .i64 i,.int .i64 ((i:Int)+1)] W fun e w'=>e=.returned (.slice (some ⟨og,0,none⟩) kn k.oc)/\bH (fun x=>x=og) W w'/\w'.ownsRow B 103 4 (.slice (some ⟨og,0,none⟩) kn k.oc) kn ((ms.take i++ms.drop (i+1)).flatMap iR)):=qh fun W h1=>by have iB:=h1.le;exact CI B og k.oc i kn ms W (by have:=h1.row;rw[HOA.out,Mg.out] at this;exact this) (h1.len.trans Mg.out) hik nQ
 clear Et hkn hil h5;go_upto_region 20 with(go_at_call 93;refine(yx.out _ H3.out.up G3.out.dM I3.out.wide).mono ?_;rintro e w1 ⟨rfl,δ6,rfl⟩);refine aL fun W4 jQ=>?_;have Uf:Le B W4:=fI jQ;have Xj:au B W3 W4:=gu jQ;obtain⟨Xi,Xh,Zq,Zp⟩:=CG 8 W3 jQ;have Zo:Lt (D) W4:=nt jQ;have H4:Hid (bZ X B D W4 k d ms):=qh H3.out.up;have F4:Hid (Fr B jI w W4):=qh (F3.out.trans (by have:=H3.out.le;exact Fr.gj));clear jQ;have d14:W4.cell? ⟨D,14,none⟩=some (.slice (some ⟨og,0,none⟩) (kn+1) k.oc):=by have:=H4.out.eE.box.cell (i:=14) (v:=.slice k.oA d.aC.length k.oc) rfl;rw[HOA.out,Mg.out] at this;exact this
 have lD4:=H4.out.eE.box.lt;have lE4:Hid (∀w1:nJ,bH (fun x=>x=og) W4 w1->Lt D w1/\w1.frozen? ⟨D,14,none⟩=false/\w1.cell? ⟨D,14,none⟩=some (.slice (some ⟨og,0,none⟩) (kn+1) k.oc)):=qh fun w1 hk=>by obtain⟨og',GG,hB',cs,hb⟩:=H4.out.first (by rw[Mg.out];omega);rw[HOA.out] at GG;injection GG with GG;injection GG with e;subst e;have b1:=H4.out.eE.box.vL hk hb nU;exact⟨b1.lt,b1.free _,by rw[<-HOA.out,<-Mg.out];exact b1.cell (i:=14) rfl⟩
 go_upto_region 21 with(go_at_call 95;refine(HDE.out _ H4.out).mono ?_;rintro e w5 ⟨rfl,VI,ZC⟩;obtain⟨lD5,fD5,cD5⟩:=lE4.out w5 VI;have K5:=qh VI;have R5:=qh ZC;clear VI ZC);obtain⟨h6,f6⟩:=H4.out.del HIL.out Mg.out HOA.out K5.out R5.out;have H6:=qh h6;have F6:=qh f6;clear h6 f6;go_wp2_with (go_at_call 88;refine(wC true _).mono ?_;rintro e w1 ⟨rfl,δ7,rfl⟩);go_ret;exact⟨_,_,rfl,H6.out.up,(F4.out.trans F6.out).trans (by have:=H6.out.le;exact Fr.gj)⟩
theorem Od(k:cP)(d:cE)(ms:List fK)(l:bz)(hl:l.length<=1000)(hv:aG d.az=true)(h5:d.aC.length<=5)(x:Int)(hr:bK l=.cmd ⟨.forget,[x]⟩)(hi:d.aC.findIdx? (fun o=>decide ((o.num:Int)=x))=none)(X:Nat->Prop)(B D:Nat)(w:nJ)(hX:∀b,X b->b<w.heap.size)(h8:8<=B)(hD:bZ X B D w k d ms)(hL:cT w):Calls nH 43 #[.pointer (some ⟨D,0,none⟩),.string (str l)] w (lN X B D w (d,Ic)):=by
 refine QAG ?_;intro HV HX H HL lB l8 lD ws pO Hy hw0 hwn Mb;have rU:=(qo (ws:=ws) (by rw[<-pO];exact hr));refine QEF ?_;intro Ij rU XE OV XG;clear XE hr hl pO hD hL hv hX;go_enter Tryz.func43,Tryz.ntmps43;go_upto_region 2 with(go_at_call 86;refine Hy.out.mono ?_;rintro e w1 ⟨A,n,cap,δ1,rfl,rfl,rfl,hS⟩;have HS:=qh hS;clear hS);refine QAM ?_;intro W1 aH cJ dF cU dA dD eI ju H1 mY rO lS lS8 F1;clear aH HS;refine QAO ?_;intro pG qf;unfold kD at pG;unfold lJ at qf;rw[rU,show lH (some ⟨.forget,[x]⟩)=false from rfl] at pG;rw[rU,show xV (some ⟨.forget,[x]⟩)=false from rfl] at qf;refine QBF ?_;intro yb;unfold rL at yb;rw[Ij] at yb;obtain⟨b,o,rfl,hb,e0⟩:=mY.out.mh hw0;refine QCG ?_;intro Vf hcap e0 ib A2 vU;have Bv:Hid (Sl aX W1.heap.size W1 A2 (cap-1) (ws.drop 1)):=by have:=mY.out.drop gD 1 nQ;rw[<-vU];exact qh (by simpa [Addr.add_lit] using this)
 refine QAZ ?_;intro VH hn2 VG VF Us Bh iX;unfold pg at iX;rw[OV] at iX;refine QCX ?_;intro iX t0 ht0;rw[ht0] at e0;have f:((str t0).toList==[102,111,114,103,101,116])=true:=by rw[<-ht0,XG,cF];rfl
 clear ht0 rU Ij hb hcap OV XG;go_upto_region 16 with(first|(go_at_call 87;refine pG.out.mono ?_;rintro e w1 ⟨v,δ2,rfl,rfl,hc⟩;clear hc)|(go_at_call 90;refine(qf.out _ inferInstance inferInstance inferInstance rO.out.up).mono ?_;rintro e w1 ⟨v2,δ3,rfl,rfl,hv1,vO,yl⟩;obtain rfl:=hv1 trivial;clear hv1 vO yl)|(go_at_call 91;refine(yb.out _ inferInstance inferInstance inferInstance rO.out.up).mono ?_;rintro e w1 ⟨o1,o2,δ4,rfl,rfl,hz1,uk⟩;obtain⟨rfl,rfl⟩:=hz1 trivial;clear hz1 uk));refine QCQ ?_;intro W2 eJ a1 a2;refine QFJ ?_;intro Es Gh sg tX tW sM tV;clear eJ;refine QAY ?_;intro e02 ib2 qN H2 F2;go_upto_region 17 with(go_at_call 92;refine(iX.out _ inferInstance inferInstance inferInstance qN.out.up).mono ?_;rintro e w1 ⟨A3,c3,δ5,rfl,rfl,Ah⟩;have uu:=qh Ah;clear Ah);refine QBX ?_;intro g hg W3 bQ a3 a4;refine QDP ?_;intro Bs DJ Gk Gj Gi JS JR G3 I3;refine QBC ?_;intro H3 F3 e03 ib3;have uT:=G3.out.cell (i:=0) (v:=.slice A3 1 c3) rfl;have lg:=G3.out.lt;clear bQ hg uu;have yx:Hid (∀W:nJ,bZ X B D W k d ms->ax W g 35 #[.slice A3 1 c3]->fN 3 aI W.heap.size W A3 c3 [x]->Calls nH 93 #[.slice k.oA d.aC.length k.oc,.func (.func 94) #[] #[.pointer (some ⟨g,0,none⟩)]] W fun e w'=>e=.returned (.int .i64 (vN (d.aC.findIdx? fun o=>decide ((o.num:Int)=x))))/\∃δ,w'=af W δ):=qh fun W h1 h2 h3=>by
  have hx:d.aC.findIdx? (fun o=>decide ((o.num:Int)=x))=ms.findIdx? fun m=>decide ((m.ord.num:Int)=x):=by rw[<-h1.map,Ar]
  rw[hx];exact zC ms x g A3 c3 d.aC.length h1.len (by rw[h1.len];omega) k.oA k.oc W (Sl.bU (by have:=h1.row;rw[<-h1.len] at this;exact this)) h2 h3.plain
 have L4:W3.cell? ⟨D,14,none⟩=some (.slice k.oA d.aC.length k.oc):=H3.out.eE.box.cell rfl;rw[hi,show vN none = -1 from rfl] at yx;clear hi;go_wp2_with (first|(go_at_call 93;refine(yx.out _ H3.out.up G3.out.dM I3.out.wide).mono ?_;rintro e w1 ⟨rfl,δ6,rfl⟩)|(go_at_call 88;refine(wC false _).mono ?_;rintro e w1 ⟨rfl,δ7,rfl⟩));go_ret;exact⟨k,ms,rfl,H3.out.up,F3.out.trans (by have:=H3.out.le;exact Fr.gj)⟩
end
section
open Hd
theorem UL(k:cP)(d:cE)(ms:List fK)(l:bz)(hl:l.length<=1000)(hv:aG d.az=true)(hgv:d.given<=1000)(q c:dU)(s:UInt8)(n:Int)(hr:bK l=.ord q s n c)(h5:d.aC.length<5)(X:Nat->Prop)(B D:Nat)(w:nJ)(hX:∀b,X b->b<w.heap.size)(h8:8<=B)(hD:bZ X B D w k d ms)(hL:cT w):Calls nH 43 #[.pointer (some ⟨D,0,none⟩),.string (str l)] w (lN X B D w (⟨d.az,d.aC++[⟨d.given,l⟩],d.given+1⟩,iq)):=by
 refine QAG ?_;intro HV HX H HL lB l8 lD ws pO Hy hw0 hwn Mb;have HRL:=qh hr;have hrw:eD ws=.ord q s n c:=by rw[<-pO];exact hr
 have rU:bM ws=none:=Cb hrw;have Ij:DK (eD ws)=true:=by rw[hrw];rfl
 have HRW:=qh hrw;clear hr hl pO hrw hD hL hv hX;go_enter Tryz.func43,Tryz.ntmps43;go_upto_region 2 with(go_at_call 86;refine Hy.out.mono ?_;rintro e w1 ⟨A,n,cap,δ1,rfl,rfl,rfl,hS⟩;have HS:=qh hS;clear hS);refine QAM ?_;intro W1 aH cJ dF cU dA dD eI ju H1 mY rO lS lS8 F1;clear aH HS;refine QAO ?_;intro pG qf;unfold kD at pG;unfold lJ at qf;rw[rU,show lH none=false from rfl] at pG;rw[rU,show xV none=false from rfl] at qf;refine QBF ?_;intro yb;unfold rL at yb;rw[Ij] at yb;have L4:W1.cell? ⟨D,14,none⟩=some (.slice k.oA d.aC.length k.oc):=H1.out.eE.box.cell rfl;clear rU Ij;have h5i:((d.aC.length:Int)==5)=false:=by simp;omega
 have hwr:IntKind.i64.wrap ((d.given:Int)+1)=((d.given+1:Nat):Int):=by rw[IntWalk.i64_in _ nQ];omega
 go_upto_region 9 with(first|(go_at_call 87;refine pG.out.mono ?_;rintro e w1 ⟨v,δ2,rfl,rfl,hc⟩;clear hc)|(go_at_call 90;refine(qf.out _ inferInstance inferInstance inferInstance rO.out.up).mono ?_;rintro e w1 ⟨v2,δ3,rfl,rfl,hv1,vO,yl⟩;obtain rfl:=hv1 trivial;clear hv1 vO yl)|(go_at_call 91;refine(yb.out _ inferInstance inferInstance inferInstance rO.out.up).mono ?_;rintro e w1 ⟨o1,o2,δ4,rfl,rfl,hz1,uk⟩;obtain⟨⟨hs,hn,gq,gs,gn,u,rfl,q1,q2,q3,q4,q5,q6⟩,SO⟩:=uk q s n c HRW.out;obtain⟨gc,ga,rfl⟩:=SO.form;have HH:Hid (lM X (af _ δ4) (.func (.func 179) #[] #[.pointer (some ⟨gq,0,none⟩),.pointer (some ⟨gs,0,none⟩),.pointer (some ⟨gn,0,none⟩)]) q s n):=qh ⟨hs,hn,gq,gs,gn,u,rfl,q1,q2,q3,fun h=>q4 (nL (HX.out _ h) (inferInstance:Le w.heap.size (af (af W1 δ2) δ3)).out),q5,fun h=>q6 (nL (HX.out _ h) (inferInstance:Le w.heap.size (af (af W1 δ2) δ3)).out)⟩;have HC:=qh SO;clear hz1 uk hs hn q1 q2 q3 q4 q5 q6 SO)|(refine ak (cs':=#[.int .i64 0,.string ⟨#[]⟩,.func (.func 179) #[] #[.pointer (some ⟨gq,0,none⟩),.pointer (some ⟨gs,0,none⟩),.pointer (some ⟨gn,0,none⟩)],.func (.func 160) #[] #[.pointer (some ⟨gc,0,none⟩),.pointer (some ⟨ga,0,none⟩)]]) vi rfl _ _ rfl rfl rfl (ax.new (T:=103) rfl) rfl rfl (by simp[Value.oneCell']) ?_;intro W2 O2 k2));refine QCH ?_;intro a1 a2 a3 a4 H2 F2 d14 lD2;have HH2:Hid (lM X W2 (.func (.func 179) #[] #[.pointer (some ⟨gq,0,none⟩),.pointer (some ⟨gs,0,none⟩),.pointer (some ⟨gn,0,none⟩)]) q s n):=qh (by
  have b1:=HH.out.up (W:=(af (af (af W1 δ2) δ3) δ4).alloc (.cells #[.int .i64 0,.string ⟨#[]⟩,.nilFunc,.nilFunc] 103))
  have f:Fr 0 [103] _ W2:=Fr.eM k2 (ax.new rfl) (nE _) nV
  exact b1.fr f nU)
 have Wa:Hid (gW W2 (.func (.func 160) #[] #[.pointer (some ⟨gc,0,none⟩),.pointer (some ⟨ga,0,none⟩)]) c):=qh (by
  have b1:=HC.out.up (W:=(af (af (af W1 δ2) δ3) δ4).alloc (.cells #[.int .i64 0,.string ⟨#[]⟩,.nilFunc,.nilFunc] 103))
  have f:Fr 0 [103] _ W2:=Fr.eM k2 (ax.new rfl) (nE _) nV
  exact b1.fr f nU)
 have Uy:D≠(af (af (af W1 δ2) δ3) δ4).heap.size:=Nat.ne_of_lt (nL H1.out.eE.box.lt.out (inferInstance:Le W1.heap.size (af (af (af W1 δ2) δ3) δ4)).out);have hgB:B<=(af (af (af W1 δ2) δ3) δ4).heap.size:=(inferInstance:Le B (af (af (af W1 δ2) δ3) δ4)).out;have DQ:(Value.slice k.oA d.aC.length k.oc).ownBlock≠some (af (af (af W1 δ2) δ3) δ4).heap.size:=fun e=>by have h1:=(H1.out.row.lt _ e).2;have h2:=(inferInstance:Le W1.heap.size (af (af (af W1 δ2) δ3) δ4)).out;exact absurd h1 (Nat.not_lt.2 h2)
 obtain⟨g,hg⟩:∃g,(af (af (af W1 δ2) δ3) δ4).heap.size=g:=⟨_,rfl⟩;rw[hg] at O2 Uy hgB DQ ⊢;have HOB:=qh DQ;clear DQ;have O2:=qh O2;have lg:=O2.out.lt;have d15:W2.cell? ⟨D,15,none⟩=some (.int .i64 (d.given:Nat)):=H2.out.eE.box.cell rfl;have fr15:=H2.out.eE.box.free 15;have z0:=O2.out.cell (i:=0) (v:=.int .i64 0) rfl;have z1:=O2.out.cell (i:=1) (v:=.string ⟨#[]⟩) rfl;have zf0:=O2.out.free 0;have zf1:=O2.out.free 1;have nD1:qM D g:=⟨Uy⟩;have nD2:qM g D:=⟨Uy.symm⟩;clear k2 HH HC hg;go_upto_region 14 with fail;obtain⟨m,hm⟩:∃m:fK,m=⟨⟨d.given,l⟩,gq,gs,gn,gc,ga⟩:=⟨_,rfl⟩;refine aL fun W4 jQ=>?_;have HW:Hid (bZ X B D W4 k ⟨d.az,d.aC,d.given+1⟩ ms/\Fr B jI W2 W4/\ax W4 g 103 (zD m)):=by
  rw[jQ.out];have f1:Fr B [103] W2 ((W2.setCell ⟨g,0,none⟩ (.int .i64 (d.given:Nat))).setCell ⟨g,1,none⟩ (.string (str l))):=Fr.eM (((bH.refl (fun x=>x=g) W2).set (b:=g) rfl 0 _).set (b:=g) rfl 1 _) O2.out hgB nV;have k1:bZ X B D ((W2.setCell ⟨g,0,none⟩ (.int .i64 (d.given:Nat))).setCell ⟨g,1,none⟩ (.string (str l))) k d ms:=by refine⟨⟨(H2.out.eE.box.fD Uy _).fD Uy _,H2.out.eE.az.fr f1 nU,H2.out.eE.low⟩,?_,H2.out.map,fun m hm=>(H2.out.each m hm).fr f1 nU⟩;exact dh (dh H2.out.row HOB.out) HOB.out
  obtain⟨k2,f2⟩:=k1.acQ (d.given+1);exact qh ⟨k2,(f1.mono nU).trans f2,by rw[hm];exact((O2.out.set 0 _).set 1 _).fD Uy.symm _⟩
 have HO4:Hid (wk X W4 m):=by
  have f:Fr 0 jI W2 W4:=HW.out.2.1.less (nE _);refine qh ⟨q,s,n,c,by rw[hm];exact HRL.out,?_,?_⟩
  ·rw[hm];exact HH2.out.fr f nU
  ·rw[hm];exact Wa.out.fr f nU
 have H4:Hid (bZ X B D W4 k ⟨d.az,d.aC,d.given+1⟩ ms):=qh HW.out.1;have F4:Hid (Fr B jI w W4):=qh (F2.out.trans HW.out.2.1);have B4:Hid (ax W4 g 103 (zD m)):=qh HW.out.2.2;have BD:Hid (ax W4 D 98 (cD k ⟨d.az,d.aC,d.given+1⟩)):=qh H4.out.eE.box;have RO4:Hid (W4.ownsRow B 103 4 (.slice k.oA d.aC.length k.oc) d.aC.length (ms.flatMap iR)):=qh H4.out.row;obtain⟨W0,jO⟩:=sized H4.out.le.out;have lB4:Le B W4:=H4.out.le;have x14:W4.cell? ⟨D,14,none⟩=some (.slice k.oA d.aC.length k.oc):=BD.out.cell rfl;have u0:W4.cell? ⟨g,0,none⟩=some (.int .i64 (m.ord.num:Nat)):=B4.out.cell (i:=0) rfl;have u1:W4.cell? ⟨g,1,none⟩=some (.string (str m.ord.line)):=B4.out.cell (i:=1) rfl;have u2:W4.cell? ⟨g,2,none⟩=some (QX m):=B4.out.cell (i:=2) rfl;have u3:W4.cell? ⟨g,3,none⟩=some (SQ m):=B4.out.cell (i:=3) rfl;have lD4:=BD.out.lt;have lg4:=B4.out.lt;have HMO:Hid (m.ord=⟨d.given,l⟩):=qh (by rw[hm]);clear jQ HW HH2 Wa HRW O2 hm d14 d15 fr15 z0 z1 zf0 zf1 lg lD2 Uy hgB HOB nD1 nD2 F2 H2;subst jO;go_region_law (refine cW W0 slM (.tmp 73) (.tmp 75) rfl rfl (v:=.slice k.oA d.aC.length k.oc) (n:=d.aC.length) (xs:=ms.flatMap iR) (by first|exact RO4.out.drew.alloc _|exact RO4.out.alloc _|exact RO4.out) (by simp[Act.eval,Act.put]) (m:=1) (c:=1) (news:=iR m) (by simp[Act.eval,Act.put]) (gi rfl) rfl (Qi m) nQ nQ ?_;intro A2 c2 δ6 iE mU;have bD:=fJ (b:=D) (by first|exact BD.out.drew.alloc _|exact(BD.out.alloc _).drew) (by first|exact RO4.out.drew.alloc _|exact RO4.out.alloc _|exact RO4.out) nU mU;have lD6:=bD.lt;have cD6:=bD.cell (i:=14) (v:=.slice k.oA d.aC.length k.oc) rfl;have fD6:=bD.free 14);all_goals
  obtain⟨h6,f6⟩:=bZ.add (D:=D) mU iE H4.out.up rfl HO4.out.up;have H6:=qh h6;have F6:=qh f6;clear h6 f6 iE mU bD lD6 cD6 fD6;go_wp2_with (go_at_call 88;refine(wC true _).mono ?_;rintro e w1 ⟨rfl,δ7,rfl⟩);go_ret;have e:(⟨d.az,d.aC++[⟨d.given,l⟩],d.given+1⟩:cE)=⟨d.az,d.aC++[m.ord],d.given+1⟩:=by rw[HMO.out]
  refine⟨⟨k.az,A2,c2⟩,ms++[m],rfl,?_,((F4.out.trans (by have:=H4.out.le;exact Fr.gj)).trans F6.out).trans (by have:=H6.out.le;exact Fr.gj)⟩;show bZ _ _ _ _ _ (⟨d.az,d.aC++[⟨d.given,l⟩],d.given+1⟩:cE) _;rw[e];exact H6.out.up
end
end Go.Proofs.YtdmedlkonaclnaaGreatDoor
