/- A part of the proof that the statement HeadmanRunCardSaid holds, cut small by a program (names and blanks): Hq3, Hq7, Hq8, Hq9, Hq10, Hq11. -/
import Derived.Test.YtcjjlikhlmfedaaGreatDoorZ28
set_option maxRecDepth 100000
set_option maxHeartbeats 40000000
set_option linter.unusedVariables false
set_option linter.unusedSimpArgs false
namespace Go.Proofs.YtcjjlikhlmfedaaGreatDoor
open Go.RowKit
open Nat renaming le_trans → nT, lt_of_lt_of_le → nL, le_refl → nR, zero_le → nE
open Go.Proofs.Tryz renaming prog → nH
open Go renaming World → nJ, Value → nK
section
open Hd
theorem SQ(W:nJ):(Instr.typeAssert .nilIface 127 187 true).run nH W=.ok (.tuple #[.nilFunc,.bool false]) W:=by simp[Instr.typeAssert,Sem.run_bind,run_underlying Tryz.underlying187,Tryz.zeroValue187,Sem.run_pure,Result.andThen]
theorem SS(u:nK)(W:nJ):(Instr.typeAssert (.iface 187 u) 127 187 true).run nH W=.ok (.tuple #[u,.bool true]) W:=by simp[Instr.typeAssert,Sem.run_bind,run_underlying Tryz.underlying187,Tryz.zeroValue187,Sem.run_pure,Result.andThen]
theorem SR(u:nK)(W:nJ):(Instr.typeAssert (.iface 193 u) 127 187 true).run nH W=.ok (.tuple #[.nilFunc,.bool false]) W:=by simp[Instr.typeAssert,Sem.run_bind,run_underlying Tryz.underlying187,Tryz.zeroValue187,Sem.run_pure,Result.andThen]
attribute[local go_sem] SQ SS SR
theorem jd.form{w:nJ}{v:nK}{c:eH}(h:jd w v c):∃(f:Nat) (cs:Array nK),v=.func (.func f) #[] cs:=by
 obtain⟨_,_,⟨_,h⟩|⟨_,ga,A,cap,h,_⟩⟩:=h
 ·exact⟨_,_,h⟩
 ·exact⟨_,_,h⟩
theorem gv.form{w:nJ}{v:nK}{c:eH}(h:gv w v c):∃gc ga:Nat,v=.func (.func 108) #[] #[.pointer (some ⟨gc,0,none⟩),.pointer (some ⟨ga,0,none⟩)]:=by obtain⟨_,_,gc,ga,A,cap,h,_⟩:=h;exact⟨gc,ga,h⟩
theorem wZ:fO nH 71 4:=fO.mk' Tryz.underlying71 rfl nP
theorem Gk:Tryz.prog.built 71 []=some #[.int .i64 0,.string ⟨#[]⟩,.nilFunc,.nilFunc]:=by kernel_rfl
theorem sG(g1 g2 g3 g4 g5:Nat):Tryz.prog.built 71 [(2,.func (.func 131) #[] #[.pointer (some ⟨g1,0,none⟩),.pointer (some ⟨g2,0,none⟩),.pointer (some ⟨g3,0,none⟩)]),(3,.func (.func 108) #[] #[.pointer (some ⟨g4,0,none⟩),.pointer (some ⟨g5,0,none⟩)])]=some #[.int .i64 0,.string ⟨#[]⟩,.func (.func 131) #[] #[.pointer (some ⟨g1,0,none⟩),.pointer (some ⟨g2,0,none⟩),.pointer (some ⟨g3,0,none⟩)],.func (.func 108) #[] #[.pointer (some ⟨g4,0,none⟩),.pointer (some ⟨g5,0,none⟩)]]:=by kernel_rfl
def qd(ws:List bL)(w:nJ)(e:Ending)(w':nJ):Prop:=
 ∃(v1 v2:nK) (δ:nJ),e=.returned (.tuple #[.agg #[.int .i64 0,.string ⟨#[]⟩,v1,v2],.bool (Bv (dZ ws))])/\w'=af w δ/\(Bv (dZ ws)=false->v1=.nilFunc/\v2=.nilFunc) /\
  ∀q s n c,dZ ws=.ord q s n c->ko (fun k=>k<w.heap.size) (af w δ) v1 q s n/\gv (af w δ) v2 c
theorem tE{ws:List bL}{w W:nJ}(h:Bv (dZ ws)=false)(hl:∃δ,W=af w δ):qd ws w (.returned (.tuple #[.agg #[.int .i64 0,.string ⟨#[]⟩,.nilFunc,.nilFunc],.bool false])) W:=by obtain⟨δ,rfl⟩:=hl;refine⟨_,_,δ,by rw[h],rfl,fun _=>⟨rfl,rfl⟩,fun q s n c hr=>?_⟩;rw[hr] at h;cases h
theorem FF{ws:List bL}{w W:nJ}{q c:eH}{s:UInt8}{n:Int}{v1 v2:nK}(h:dZ ws=.ord q s n c)[aC w.heap.size w W][Le w.heap.size W](h1:ko (fun k=>k<w.heap.size) W v1 q s n)(h2:gv W v2 c):qd ws w (.returned (.tuple #[.agg #[.int .i64 0,.string ⟨#[]⟩,v1,v2],.bool true])) W:=by
 refine⟨v1,v2,W,by rw[h];rfl,aq,fun hh=>?_,fun q' s' n' c' hr=>?_⟩
 ·rw[h] at hh;cases hh
 ·rw[h] at hr;injection hr with r1 r2 r3 r4;subst r1;subst r2;subst r3;subst r4;refine QDK ?_;exact⟨h1,h2⟩
theorem FL{ws:List bL}(h0:0<ws.length)(h:nth ws 0≠kR):Bv (dZ ws)=false:=by
 cases ws with
 |nil=>cases h0
 |cons t r=>
  have:(t::r).head?≠some kR:=fun e=>h (by injection e)
  unfold dZ
  rw[if_neg this]
  cases bJ (t::r)<;>rfl
theorem FK{ws:List bL}(h0:0<ws.length)(h:nth ws 0=kR):dZ ws=match jg ij ws with
  |some k=>if k<4 then .none else oX ws k
  |none=>.none:=by
 cases ws with
 |nil=>cases h0
 |cons t r=>
  have:(t::r).head?=some kR:=by rw[<-h];rfl
  unfold dZ
  rw[if_pos this]
  cases jg ij (t::r)<;>rfl
def MQ(o:Option eH)(s:Option UInt8)(n:Option Int)(c:Option eH):vq:=
 match o,s,n,c with
 |some q,some s,some n,some c=>if cP q.w=2/\cP c.w=1 then .ord q s n c else .none
 |_,_,_,_=>.none
theorem tJ{o:Option eH}{s:Option UInt8}{n:Option Int}{c:Option eH}(h:(∀q,o=some q->cP q.w=2->False)\/s=none\/n.isSome=false\/j9 c=false):Bv (MQ o s n c)=false:=by
 cases o with
 |none=>cases s<;>cases n<;>cases c<;>rfl
 |some q=>
  cases s with
  |none=>cases n<;>cases c<;>rfl
  |some s=>
   cases n with
   |none=>cases c<;>rfl
   |some n=>
    cases c with
    |none=>rfl
    |some c=>
     unfold MQ
     simp only[]
     by_cases hh:cP q.w=2/\cP c.w=1
     ·rcases h with h|h|h|h
      ·exact(h q rfl hh.1).elim
      ·cases h
      ·cases h
      ·unfold j9 at h;simp[hh.2] at h
     ·rw[if_neg hh];rfl
theorem xq{q c:eH}{s:UInt8}{n:Int}(hq:cP q.w=2)(hc:cP c.w=1):MQ (some q) (some s) (some n) (some c)=.ord q s n c:=by unfold MQ;simp only[];rw[if_pos ⟨hq,hc⟩]
theorem CV(ws:List bL)(A:Option Addr)(cap:Nat)(h0:0<ws.length)(hl:∀x∈ws,x.length<=1000)(hn:ws.length<=1001)(B:Nat)(w:nJ)(hS:Sl cm B w A cap ws)[hB:Le B w][h8:Le 8 w](hL:cX w):Calls nH 68 #[.slice A ws.length cap] w (qd ws w):=by
 obtain⟨b,o,rfl,hb,e0⟩:=hS.lQ h0;have HS:=qh hS;have HL:=qh hL;have mG:=qh hl;have hcap:ws.length<=cap:=hS.1;have hcx:cap<=9223372036854775807:=hS.2.1;have wh:Hid (∀W:nJ,aC B w W->Calls nH 129 #[.slice (some ⟨b,o,none⟩) ws.length cap,.string ⟨#[116,104,101,110]⟩] W fun e w'=>e=.returned (.int .i64 (ud (jg ij ws)))/\w'=W):=qh fun W i1=>N8 ws _ cap h0 hn ij B W HS.out.up;have hn0:(0:Int)<(ws.length:Int):=nQ;have ib:Lt b w:=⟨nL hb hB.out⟩;have e0:w.cell? ⟨b,o,none⟩=some (.string (str (nth ws 0))):=e0;obtain⟨t0,ht0⟩:∃x,nth ws 0=x:=⟨_,rfl⟩;rw[ht0] at e0;by_cases hw:t0=kR
 ·subst hw;have HR:Hid (dZ ws=match jg ij ws with
   |some k=>if k<4 then .none else oX ws k
   |none=>.none):=qh (FK h0 ht0)
  have f:((str kR).toList==[119,104,101,110])=true:=by rw[cA];rfl
  have f':((str kR).toList != [119,104,101,110])=false:=by rw[bne,f];rfl
  cases hi:jg ij ws with
  |none=>
   have HN:Hid (Bv (dZ ws)=false):=by unfold Hid;rw[HR.out,hi];rfl
   rw[hi,show ud none = -1 from rfl] at wh
   clear hS hL hl h0 hb ht0 hcap HR hi
   go_enter Tryz.func68,Tryz.ntmps68
   go_wp2_with (go_at_call 129;refine(wh.out _ inferInstance).mono ?_;rintro e w1 ⟨rfl,rfl⟩)
   refine bodyPost_ret (v:=.tuple #[.agg #[.int .i64 0,.string ⟨#[]⟩,.nilFunc,.nilFunc],.bool false]) ?_ rfl (tE HN.out ag)
   simp only[results,Tryz.results68]
   go_simp
  |some k=>
   have Q0:=(GL hi).1
   rw[hi,show ud (some k)=(k:Int) from rfl] at wh
   by_cases Sk:k<4
   ·have HN:Hid (Bv (dZ ws)=false):=by unfold Hid;rw[HR.out,hi];simp only[if_pos Sk];rfl
    have hki:(k:Int)<4:=nQ;clear hS hL hl h0 hb ht0 hcap HR hi;go_enter Tryz.func68,Tryz.ntmps68;go_wp2_with (go_at_call 129;refine(wh.out _ inferInstance).mono ?_;rintro e w1 ⟨rfl,rfl⟩);refine bodyPost_ret (v:=.tuple #[.agg #[.int .i64 0,.string ⟨#[]⟩,.nilFunc,.nilFunc],.bool false]) ?_ rfl (tE HN.out ag);simp only[results,Tryz.results68];go_simp
   ·have PE:Hid (dZ ws=oX ws k):=by unfold Hid;rw[HR.out,hi];simp only[if_neg Sk]
    have hki:¬(k:Int)<4:=nQ;by_cases YC:k+1=ws.length
    ·have HN:Hid (Bv (dZ ws)=false):=by unfold Hid;rw[PE.out];unfold oX;rw[show ws.drop (k+1)=[] from List.drop_eq_nil_of_le nQ,show bJ []=none from rfl];cases bJ ((ws.take (k-2)).drop 1)<;>cases kD (nth ws (k-2))<;>cases numOf (nth ws (k-1))<;>rfl
     have hw1:IntKind.i64.wrap ((ws.length:Int)-1)=(k:Int):=by rw[IntWalk.i64_in _ nQ];omega
     clear hS hL hl h0 hb ht0 hcap HR PE hi YC;go_enter Tryz.func68,Tryz.ntmps68;go_wp2_with (go_at_call 129;refine(wh.out _ inferInstance).mono ?_;rintro e w1 ⟨rfl,rfl⟩);refine bodyPost_ret (v:=.tuple #[.agg #[.int .i64 0,.string ⟨#[]⟩,.nilFunc,.nilFunc],.bool false]) ?_ rfl (tE HN.out ag);simp only[results,Tryz.results68];go_simp
    ·obtain⟨j,rfl⟩:∃j,k=j+2:=⟨k-2,nQ⟩;obtain⟨m,hm⟩:∃m,m=j+1:=⟨_,rfl⟩;obtain⟨p,hp⟩:∃p,p=j+3:=⟨_,rfl⟩;obtain⟨k,hk⟩:∃k,k=j+2:=⟨_,rfl⟩;rw[<-hk] at wh PE hki Q0 YC Sk;have hw1:IntKind.i64.wrap ((ws.length:Int)-1)=((ws.length-1:Nat):Int):=by rw[IntWalk.i64_in _ nQ];omega
     have Z9:IntKind.i64.wrap ((k:Int)-2)=(j:Int):=by rw[IntWalk.i64_in _ nQ];omega
     have Z8:IntKind.i64.wrap ((k:Int)-1)=(m:Int):=by rw[IntWalk.i64_in _ nQ];omega
     have hw4:IntKind.i64.wrap ((k:Int)+1)=(p:Int):=by rw[IntWalk.i64_in _ nQ];omega
     have hkn:((k:Int)==((ws.length-1:Nat):Int))=false:=beq_eq_false_iff_ne.2 nQ;have em:w.cell? ⟨b,o+m,none⟩=some (.string (str (nth ws m))):=by obtain⟨b',o',e,_,d⟩:=hS.lQ (k:=m) nQ;injection e with e;injection e with e1 e2;subst e1;subst e2;exact d
     have es:w.cell? ⟨b,o+j,none⟩=some (.string (str (nth ws j))):=by obtain⟨b',o',e,_,d⟩:=hS.lQ (k:=j) nQ;injection e with e;injection e with e1 e2;subst e1;subst e2;exact d
     obtain⟨qs,VL⟩:∃q,(ws.take j).drop 1=q:=⟨_,rfl⟩;obtain⟨cs,hcs⟩:∃q,ws.drop p=q:=⟨_,rfl⟩;refine QFE ?_;intro A2 uo;obtain⟨A3,KW⟩:∃A3,(if cap=p then some (⟨b,o,none⟩:Addr) else some ⟨b,o+p,none⟩)=A3:=⟨_,rfl⟩;have Sy:Hid (Sl cm B w A2 (cap-1) qs):=by have:=(hS.take j).drop gK 1 (by rw[List.length_take];omega);rw[<-uo,<-VL];exact qh (by simpa [Addr.add_lit] using this)
     have HC3:Hid (Sl cm B w A3 (cap-p) cs):=by have:=hS.drop gK p nQ;rw[<-KW,<-hcs];exact qh (by simpa [Addr.add_lit] using this)
     have lq:qs.length=j-1:=by rw[<-VL,List.length_drop,List.length_take];omega
     have lc:cs.length=ws.length-p:=by rw[<-hcs,List.length_drop]
     have oL:Hid (∀W:nJ,aC B w W->Le B W->Le 8 W->cX W->Calls nH 67 #[.slice A2 (j-1) (cap-1)] W (ki (bJ qs) W)):=qh fun W i1 i2 i3 h=>by rw[<-lq];exact qE qs A2 (cap-1) nQ (fun x hx=>mG.out x (List.mem_of_mem_take (List.mem_of_mem_drop (VL▸hx)))) nQ B W Sy.out.up h
     have nx:Hid (∀W:nJ,aC B w W->Le B W->Le 8 W->cX W->Calls nH 64 #[.slice A3 (ws.length-p) (cap-p)] W (jI (bJ cs) W)):=qh fun W i1 i2 i3 h=>by rw[<-lc];exact pP cs A3 (cap-p) nQ (fun x hx=>mG.out x (List.mem_of_mem_drop (hcs▸hx))) nQ B W HC3.out.up h
     have ie:Hid (∀W:nJ,cX W->Le 8 W->Calls nH 130 #[.string (str (nth ws m))] W (nk (numOf (nth ws m)) W)):=qh fun W h1 h2=>Dm _ (mG.out _ (aS ws nQ)) W h1;unfold ki at oL;unfold jI at nx;unfold nk at ie;have Ju:Hid (dZ ws=MQ (bJ qs) (kD (nth ws j)) (numOf (nth ws m)) (bJ cs)):=by unfold Hid;rw[PE.out];unfold oX;rw[<-VL,<-hcs,hk,hm,hp];rfl
     obtain⟨ts,hts⟩:∃x,nth ws j=x:=⟨_,rfl⟩;obtain⟨tm,EO⟩:∃x,nth ws m=x:=⟨_,rfl⟩;rw[hts] at es Ju;rw[EO] at em ie Ju;have z1:1<=j:=nQ;have z2:j<=cap:=nQ;have z3:j<=ws.length:=nQ;have z4:p<=ws.length:=nQ;have z5:m<ws.length:=nQ;have z6:j<ws.length:=nQ;clear hS hL hl h0 hb ht0 HR PE hi YC hm hp hk VL hcs lq lc hts EO Sk Sy HC3;obtain⟨oq,hoq⟩:∃x,bJ qs=x:=⟨_,rfl⟩;obtain⟨oc,Yu⟩:∃x,bJ cs=x:=⟨_,rfl⟩;obtain⟨on,NH⟩:∃x,numOf tm=x:=⟨_,rfl⟩;rw[hoq,Yu,NH] at Ju;rw[hoq] at oL;rw[Yu] at nx;rw[NH] at ie;have U0:Hid (∀n,on=some n->-999999<=n/\n<=999999):=qh fun n e=>by have:=(o4.1 (NH.trans e)).2;omega
     clear hoq Yu NH;obtain⟨b1,ku⟩:∃x,on.isSome=x:=⟨_,rfl⟩;obtain⟨b2,gi⟩:∃x,j9 oc=x:=⟨_,rfl⟩;rw[ku] at ie;rw[gi] at nx;have vr:=qh ku;have EM:=qh gi;clear ku gi;by_cases hq:vL oq=false
     ·have HQ:=qh hq;have HN:Hid (Bv (dZ ws)=false):=by unfold Hid;rw[Ju.out];refine tJ (.inl fun q e hk=>?_);subst e;unfold vL at hq;simp[hk] at hq
      rw[hq] at oL;clear hq;go_enter Tryz.func68,Tryz.ntmps68;go_wp2_with (first|(go_at_call 129;refine(wh.out _ inferInstance).mono ?_;rintro e w1 ⟨rfl,rfl⟩)|(go_at_call 130;refine(ie.out _ HL.out.up inferInstance).mono ?_;rintro e w1 ⟨nv,δ2,rfl,rfl,Sf⟩;have XS:=qh Sf;clear Sf)|(go_at_call 64;refine(nx.out _ inferInstance inferInstance inferInstance HL.out.up).mono ?_;rintro e w1 ⟨cv,δ3,rfl,rfl,Sn⟩;have X8:=qh Sn;clear Sn)|(go_at_call 67;refine(oL.out _ inferInstance inferInstance inferInstance HL.out.up).mono ?_;rintro e w1 ⟨v,δ1,rfl,rfl,hv1,ue,vW⟩;obtain rfl:=hv1 trivial;clear hv1 ue vW));refine bodyPost_ret (v:=.tuple #[.agg #[.int .i64 0,.string ⟨#[]⟩,.nilFunc,.nilFunc],.bool false]) ?_ rfl (tE HN.out ag);simp only[results,Tryz.results68];go_simp
     ·obtain⟨q,rfl⟩:∃q,oq=some q:=by
       cases oq with
       |none=>exact absurd rfl hq
       |some q=>exact⟨q,rfl⟩
      have KN:vL (some q)=true:=by revert hq;cases vL (some q)<;>simp
      rw[KN] at oL;by_cases hk2:cP q.w=2
      ·have sj:=qh hk2;clear hq KN hk2;go_enter Tryz.func68,Tryz.ntmps68;go_upto_region 5 with(first|(go_at_call 129;refine(wh.out _ inferInstance).mono ?_;rintro e w1 ⟨rfl,rfl⟩)|(go_at_call 67;refine(oL.out _ inferInstance inferInstance inferInstance HL.out.up).mono ?_;rintro e w1 ⟨v,δ1,rfl,rfl,hv1,ue,vW⟩;obtain⟨u,rfl,hu⟩:=ue q rfl sj.out;obtain⟨uf,ua,rfl⟩:=hu.form;have HU:=qh hu;clear hu hv1 ue vW));refine QEH ?_;intro W1 aE cz de;obtain⟨cN,cY,dc,dX,jP⟩:=yj 8 w aE;have O1:Hid (av W1 w.heap.size 71 #[.int .i64 0,.string ⟨#[]⟩,.nilFunc,.nilFunc]):=by rw[aE.out];exact qh ((av.new rfl).af _)
       have U1:Hid (jd W1 (.func (.func uf) #[] ua) q):=by rw[aE.out];exact HU
       clear aE HU;go_upto_region 6 with fail;refine QCN ?_;intro W2 eu a1 a2;have GH:Le B W2:=fR eu;have Jc:aC B w W2:=iC eu;obtain⟨sJ,uX,uW,tZ,tY⟩:=yj 8 w eu;have O2:Hid (av W2 w.heap.size 71 #[.int .i64 0,.string ⟨#[]⟩,.nilFunc,.nilFunc]):=by rw[eu.out];exact qh (O1.out.alloc _)
       have Q2:Hid (av W2 W1.heap.size 187 #[.func (.func uf) #[] ua]):=by rw[eu.out];exact qh (av.new rfl)
       have U2:Hid (jd W2 (.func (.func uf) #[] ua) q):=qh U1.out.up;have em2:W2.cell? ⟨b,o+m,none⟩=some (.string (str tm)):=(bz (inferInstance:aC w.heap.size w W2).out _ _ ib.out).trans em;have ib2:Lt b W2:=⟨nL ib.out (inferInstance:Le w.heap.size W2).out⟩;clear eu U1 O1;go_upto_region 7 with(go_at_call 130;refine(ie.out _ HL.out.up inferInstance).mono ?_;rintro e w1 ⟨nv,δ2,rfl,rfl,Sf⟩;have XS:=qh Sf;clear Sf);obtain⟨gn,Xw⟩:∃g,(af W2 δ2).heap.size=g:=⟨_,rfl⟩;rw[Xw];refine aK fun W3 bN=>?_;have a3:aC W2.heap.size W2 W3:=iC bN;have a4:Le W2.heap.size W3:=fR bN;have DH:Le B W3:=fR bN;have GI:aC B w W3:=iC bN;obtain⟨KM,KL,KK,KJ,KI⟩:=yj 8 w bN;have O3:Hid (av W3 w.heap.size 71 #[.int .i64 0,.string ⟨#[]⟩,.nilFunc,.nilFunc]):=by rw[bN.out];exact qh ((O2.out.af _).alloc _)
       have Q3:Hid (av W3 W1.heap.size 187 #[.func (.func uf) #[] ua]):=by rw[bN.out];exact qh ((Q2.out.af _).alloc _)
       have N3:Hid (av W3 gn 3 #[.int .i64 nv]):=by rw[bN.out,<-Xw];exact qh (av.new rfl)
       have U3:Hid (jd W3 (.func (.func uf) #[] ua) q):=qh U2.out.up;have gn1:Hid (¬gn<w.heap.size):=qh (by rw[<-Xw];have:=(inferInstance:Le w.heap.size (af W2 δ2)).out;omega);clear bN U2 O2 Q2 Xw;go_upto_region 8 with(go_at_call 64;refine(nx.out _ inferInstance inferInstance inferInstance HL.out.up).mono ?_;rintro e w1 ⟨cv,δ3,rfl,rfl,Sn⟩;have X8:=qh Sn;clear Sn);refine aK fun W4 gP=>?_;have a5:aC W3.heap.size W3 W4:=iC gP;have a6:Le W3.heap.size W4:=fR gP;have TB:Le B W4:=fR gP;have Vz:aC B w W4:=iC gP;obtain⟨Vy,Vx,Vw,Vv,Vu⟩:=yj 8 w gP;have C4:Hid (∀c,oc=some c->cP c.w=1->gv W4 cv c):=by rw[gP.out];exact X8
       have O4:Hid (av W4 w.heap.size 71 #[.int .i64 0,.string ⟨#[]⟩,.nilFunc,.nilFunc]):=qh O3.out.eA;have Q4:Hid (av W4 W1.heap.size 187 #[.func (.func uf) #[] ua]):=qh Q3.out.eA;have N4:Hid (av W4 gn 3 #[.int .i64 nv]):=qh N3.out.eA;have U4:Hid (jd W4 (.func (.func uf) #[] ua) q):=qh U3.out.up;have es4:W4.cell? ⟨b,o+j,none⟩=some (.string (str ts)):=(bz (inferInstance:aC w.heap.size w W4).out _ _ ib.out).trans es;have ib4:Lt b W4:=⟨nL ib.out (inferInstance:Le w.heap.size W4).out⟩;clear gP X8 U3 O3 Q3 N3;go_upto_region 9 with fail;refine aK fun W5 GW=>?_;have a7:aC W4.heap.size W4 W5:=iC GW;have a8:Le W4.heap.size W5:=fR GW;have Yn:Le B W5:=fR GW;have Vt:aC B w W5:=iC GW;obtain⟨Vs,Vr,Vq,Vp,Vo⟩:=yj 8 w GW;have O5:Hid (av W5 w.heap.size 71 #[.int .i64 0,.string ⟨#[]⟩,.nilFunc,.nilFunc]):=qh O4.out.eA;have Q5:Hid (av W5 W1.heap.size 187 #[.func (.func uf) #[] ua]):=qh Q4.out.eA;have N5:Hid (av W5 gn 3 #[.int .i64 nv]):=qh N4.out.eA;have S5:Hid (av W5 W4.heap.size 9 #[.string (str ts)]):=by rw[GW.out];exact qh (av.new rfl)
       have U5:Hid (jd W5 (.func (.func uf) #[] ua) q):=qh U4.out.up;have C5:Hid (∀c,oc=some c->cP c.w=1->gv W5 cv c):=qh fun c h1 h2=>(C4.out c h1 h2).up;have gs1:Hid (¬W4.heap.size<w.heap.size):=qh (by have:=(inferInstance:Le w.heap.size W4).out;omega);clear GW C4 U4 O4 Q4 N4;obtain⟨gq,hgq⟩:∃g,W1.heap.size=g:=⟨_,rfl⟩;obtain⟨gs,Px⟩:∃g,W4.heap.size=g:=⟨_,rfl⟩;rw[hgq] at Q5 ⊢;rw[Px] at S5 gs1 ⊢;clear hgq Px;have y1:=S5.out.cell (i:=0) (v:=.string (str ts)) rfl;have j1:=S5.out.lt;cases b1 with
       |false=>
        have HN:Hid (Bv (dZ ws)=false):=by unfold Hid;rw[Ju.out];exact tJ (.inr (.inr (.inl vr.out)))
        go_upto_region 10 with fail
        apply wp_region_lit
        refine QBX ?_
        intro W9 C9 k9
        refine QCO ?_
        intro p1 p2
        go_wp2_with fail
        refine QEJ ?_
        exact tE HN.out ⟨W9,aq⟩
       |true=>
        cases b2 with
        |false=>
         have HN:Hid (Bv (dZ ws)=false):=by unfold Hid;rw[Ju.out];exact tJ (.inr (.inr (.inr EM.out)))
         go_upto_region 10 with fail
         apply wp_region_lit
         refine QBX ?_
         intro W9 C9 k9
         refine QCO ?_
         intro p1 p2
         go_wp2_with fail
         refine QEJ ?_
         exact tE HN.out ⟨W9,aq⟩
        |true=>
         obtain⟨n,hn⟩:∃n,on=some n:=by
          have:=vr.out;cases on with
          |none=>cases this
          |some n=>exact⟨n,rfl⟩
         obtain⟨c,hc,GU⟩:∃c,oc=some c/\cP c.w=1:=by
          have:=EM.out;cases oc with
          |none=>cases this
          |some c=>exact⟨c,rfl,of_decide_eq_true this⟩
         obtain rfl:nv=n:=XS.out n hn
         have hnb:=U0.out nv hn
         have C6:=qh (C5.out c hc GU)
         obtain⟨vc,va,rfl⟩:=C6.out.form
         subst hn;subst hc
         clear XS U0 C5 vr EM
         by_cases QT:ts=[60]
         ·subst QT;have HN:Hid (dZ ws=.ord q 60 nv c):=by unfold Hid;rw[Ju.out];exact xq sj.out GU
          have HC:Hid (cP c.w=1):=qh GU;clear GU Ju sj ie nx oL wh;have f60:((str [60]).toList==[60])=true:=by rw[cA];rfl
          have f60':((str [60]).toList != [60])=false:=by rw[bne,f60];rfl
          have f61:((str [60]).toList==[61])=false:=by rw[cA];rfl
          have f61':((str [60]).toList != [61])=true:=by rw[bne,f61];rfl
          have f62:((str [60]).toList==[62])=false:=by rw[cA];rfl
          have f62':((str [60]).toList != [62])=true:=by rw[bne,f62];rfl
          go_upto_region 11 with fail;go_wp2_with (first|(refine fu (ps:=[(2,.func (.func 131) #[] #[.pointer (some ⟨gq,0,none⟩),.pointer (some ⟨gs,0,none⟩),.pointer (some ⟨gn,0,none⟩)]),(3,.func (.func 108) #[] #[.pointer (some ⟨vc,0,none⟩),.pointer (some ⟨va,0,none⟩)])]) (cells:=#[.int .i64 0,.string ⟨#[]⟩,.func (.func 131) #[] #[.pointer (some ⟨gq,0,none⟩),.pointer (some ⟨gs,0,none⟩),.pointer (some ⟨gn,0,none⟩)],.func (.func 108) #[] #[.pointer (some ⟨vc,0,none⟩),.pointer (some ⟨va,0,none⟩)]]) rfl _ _ rfl rfl (sG gq gs gn vc va) ?_)|(refine ah (cs':=#[.int .i64 0,.string ⟨#[]⟩,.func (.func 131) #[] #[.pointer (some ⟨gq,0,none⟩),.pointer (some ⟨gs,0,none⟩),.pointer (some ⟨gn,0,none⟩)],.func (.func 108) #[] #[.pointer (some ⟨vc,0,none⟩),.pointer (some ⟨va,0,none⟩)]]) wZ rfl _ _ rfl rfl rfl O5.out rfl rfl (by simp[Value.oneCell']) ?_;intro W9 C9 k9));refine QCO ?_;intro p1 p2;refine QEJ ?_;refine FF HN.out ⟨nU,hnb,gq,gs,gn,_,rfl,Q5.out.tX k9 O5.out nU,U5.out.aO k9 O5.out nU nU,S5.out.tX k9 O5.out nU,gs1.out,N5.out.tX k9 O5.out nU,gn1.out⟩ (C6.out.aO k9 O5.out nU nU nU)
         by_cases QS:ts=[61]
         ·subst QS;have HN:Hid (dZ ws=.ord q 61 nv c):=by unfold Hid;rw[Ju.out];exact xq sj.out GU
          have HC:Hid (cP c.w=1):=qh GU;clear GU Ju sj ie nx oL wh;have f60:((str [61]).toList==[60])=false:=by rw[cA];rfl
          have f60':((str [61]).toList != [60])=true:=by rw[bne,f60];rfl
          have f61:((str [61]).toList==[61])=true:=by rw[cA];rfl
          have f61':((str [61]).toList != [61])=false:=by rw[bne,f61];rfl
          have f62:((str [61]).toList==[62])=false:=by rw[cA];rfl
          have f62':((str [61]).toList != [62])=true:=by rw[bne,f62];rfl
          go_upto_region 11 with fail;go_wp2_with (first|(refine fu (ps:=[(2,.func (.func 131) #[] #[.pointer (some ⟨gq,0,none⟩),.pointer (some ⟨gs,0,none⟩),.pointer (some ⟨gn,0,none⟩)]),(3,.func (.func 108) #[] #[.pointer (some ⟨vc,0,none⟩),.pointer (some ⟨va,0,none⟩)])]) (cells:=#[.int .i64 0,.string ⟨#[]⟩,.func (.func 131) #[] #[.pointer (some ⟨gq,0,none⟩),.pointer (some ⟨gs,0,none⟩),.pointer (some ⟨gn,0,none⟩)],.func (.func 108) #[] #[.pointer (some ⟨vc,0,none⟩),.pointer (some ⟨va,0,none⟩)]]) rfl _ _ rfl rfl (sG gq gs gn vc va) ?_)|(refine ah (cs':=#[.int .i64 0,.string ⟨#[]⟩,.func (.func 131) #[] #[.pointer (some ⟨gq,0,none⟩),.pointer (some ⟨gs,0,none⟩),.pointer (some ⟨gn,0,none⟩)],.func (.func 108) #[] #[.pointer (some ⟨vc,0,none⟩),.pointer (some ⟨va,0,none⟩)]]) wZ rfl _ _ rfl rfl rfl O5.out rfl rfl (by simp[Value.oneCell']) ?_;intro W9 C9 k9));refine QCO ?_;intro p1 p2;refine QEJ ?_;refine FF HN.out ⟨nU,hnb,gq,gs,gn,_,rfl,Q5.out.tX k9 O5.out nU,U5.out.aO k9 O5.out nU nU,S5.out.tX k9 O5.out nU,gs1.out,N5.out.tX k9 O5.out nU,gn1.out⟩ (C6.out.aO k9 O5.out nU nU nU)
         by_cases QO:ts=[62]
         ·subst QO;have HN:Hid (dZ ws=.ord q 62 nv c):=by unfold Hid;rw[Ju.out];exact xq sj.out GU
          have HC:Hid (cP c.w=1):=qh GU;clear GU Ju sj ie nx oL wh;have f60:((str [62]).toList==[60])=false:=by rw[cA];rfl
          have f60':((str [62]).toList != [60])=true:=by rw[bne,f60];rfl
          have f61:((str [62]).toList==[61])=false:=by rw[cA];rfl
          have f61':((str [62]).toList != [61])=true:=by rw[bne,f61];rfl
          have f62:((str [62]).toList==[62])=true:=by rw[cA];rfl
          have f62':((str [62]).toList != [62])=false:=by rw[bne,f62];rfl
          go_upto_region 11 with fail;go_wp2_with (first|(refine fu (ps:=[(2,.func (.func 131) #[] #[.pointer (some ⟨gq,0,none⟩),.pointer (some ⟨gs,0,none⟩),.pointer (some ⟨gn,0,none⟩)]),(3,.func (.func 108) #[] #[.pointer (some ⟨vc,0,none⟩),.pointer (some ⟨va,0,none⟩)])]) (cells:=#[.int .i64 0,.string ⟨#[]⟩,.func (.func 131) #[] #[.pointer (some ⟨gq,0,none⟩),.pointer (some ⟨gs,0,none⟩),.pointer (some ⟨gn,0,none⟩)],.func (.func 108) #[] #[.pointer (some ⟨vc,0,none⟩),.pointer (some ⟨va,0,none⟩)]]) rfl _ _ rfl rfl (sG gq gs gn vc va) ?_)|(refine ah (cs':=#[.int .i64 0,.string ⟨#[]⟩,.func (.func 131) #[] #[.pointer (some ⟨gq,0,none⟩),.pointer (some ⟨gs,0,none⟩),.pointer (some ⟨gn,0,none⟩)],.func (.func 108) #[] #[.pointer (some ⟨vc,0,none⟩),.pointer (some ⟨va,0,none⟩)]]) wZ rfl _ _ rfl rfl rfl O5.out rfl rfl (by simp[Value.oneCell']) ?_;intro W9 C9 k9));refine QCO ?_;intro p1 p2;refine QEJ ?_;refine FF HN.out ⟨nU,hnb,gq,gs,gn,_,rfl,Q5.out.tX k9 O5.out nU,U5.out.aO k9 O5.out nU nU,S5.out.tX k9 O5.out nU,gs1.out,N5.out.tX k9 O5.out nU,gn1.out⟩ (C6.out.aO k9 O5.out nU nU nU)
         have HN:Hid (Bv (dZ ws)=false):=by unfold Hid;rw[Ju.out];refine tJ (.inr (.inl ?_));unfold kD;rw[if_neg QT,if_neg QS,if_neg QO]
         have f60:((str ts).toList==[60])=false:=by rw[cA];exact decide_eq_false QT
         have f60':((str ts).toList != [60])=true:=by rw[bne,f60];rfl
         have f61:((str ts).toList==[61])=false:=by rw[cA];exact decide_eq_false QS
         have f61':((str ts).toList != [61])=true:=by rw[bne,f61];rfl
         have f62:((str ts).toList==[62])=false:=by rw[cA];exact decide_eq_false QO
         have f62':((str ts).toList != [62])=true:=by rw[bne,f62];rfl
         clear QT QS QO GU
         go_upto_region 10 with fail
         apply wp_region_lit
         refine QBX ?_
         intro W9 C9 k9
         refine QCO ?_
         intro p1 p2
         go_wp2_with fail
         refine QEJ ?_
         exact tE HN.out ⟨W9,aq⟩
      ·have qu:cP q.w=3:=by have:=of_decide_eq_true (show decide (cP q.w=2\/cP q.w=3)=true from KN);omega
       have XU:=qh qu;have HN:Hid (Bv (dZ ws)=false):=by unfold Hid;rw[Ju.out];refine tJ (.inl fun q' e hk=>?_);injection e with e;subst e;exact hk2 hk
       clear hq KN hk2 qu;go_enter Tryz.func68,Tryz.ntmps68;go_wp2_with (first|(go_at_call 129;refine(wh.out _ inferInstance).mono ?_;rintro e w1 ⟨rfl,rfl⟩)|(go_at_call 130;refine(ie.out _ HL.out.up inferInstance).mono ?_;rintro e w1 ⟨nv,δ2,rfl,rfl,Sf⟩;have XS:=qh Sf;clear Sf)|(go_at_call 64;refine(nx.out _ inferInstance inferInstance inferInstance HL.out.up).mono ?_;rintro e w1 ⟨cv,δ3,rfl,rfl,Sn⟩;have X8:=qh Sn;clear Sn)|(go_at_call 67;refine(oL.out _ inferInstance inferInstance inferInstance HL.out.up).mono ?_;rintro e w1 ⟨v,δ1,rfl,rfl,hv1,ue,vW⟩;obtain rfl:=vW q rfl XU.out;clear hv1 ue vW));refine bodyPost_ret (v:=.tuple #[.agg #[.int .i64 0,.string ⟨#[]⟩,.nilFunc,.nilFunc],.bool false]) ?_ rfl (tE HN.out ag);simp only[results,Tryz.results68];go_simp
 ·have HN:Hid (Bv (dZ ws)=false):=qh (FL h0 (by rw[ht0];exact hw));have f:((str t0).toList==[119,104,101,110])=false:=by rw[cA];exact decide_eq_false hw
  have f':((str t0).toList != [119,104,101,110])=true:=by rw[bne,f];rfl
  obtain⟨ix,UN⟩:∃x,ud (jg ij ws)=x:=⟨_,rfl⟩;rw[UN] at wh;clear hS hL hl h0 hb ht0 hcap hw UN;go_enter Tryz.func68,Tryz.ntmps68;go_wp2_with (go_at_call 129;refine(wh.out _ inferInstance).mono ?_;rintro e w1 ⟨rfl,rfl⟩);refine bodyPost_ret (v:=.tuple #[.agg #[.int .i64 0,.string ⟨#[]⟩,.nilFunc,.nilFunc],.bool false]) ?_ rfl (tE HN.out ag);simp only[results,Tryz.results68];go_simp
end
section
open Hd
theorem Li(k:cH)(d:cU)(ms:List fk)(l:bL)(hl:l.length<=1000)(hv:aG d.ax=true)(c:eH)(hr:di l=.cmd c)(hk:cP c.w=1)(X:Nat->Prop)(B D:Nat)(w:nJ)(hX:∀b,X b->b<w.heap.size)(h8:8<=B)(hD:bZ X B D w k d ms)(hL:cX w):Calls nH 25 #[.pointer (some ⟨D,0,none⟩),.string (str l)] w (kq X B D w (⟨kf d.ax c,d.aB,d.given⟩,sV (gZ d.ax c).isSome)):=by refine QAF ?_;intro HV HX H HL lB l8 lD ws oe EJ hw0 hwn Jr;have qm:bJ ws=some c:=(oS (by rw[<-oe];exact hr)).1;have HK:=qh hk;clear hr hk hl oe;have HT:Hid (∀(v:nK) (W:nJ),bZ X B D W k d ms->gv W v c->Calls nH 66 #[.pointer (some ⟨D,0,none⟩),v] W fun e w'=>∃k':cH,e=.returned (.bool (gZ d.ax c).isSome)/\bZ X B D w' k' ⟨kf d.ax c,d.aB,d.given⟩ ms/\Fr B [65] W w'):=qh fun v W h1 h2=>IC k d ms HV.out c v X B D W h1 h2;refine QDR ?_;intro td Aj bb gH;rw[Aj,gH] at HT ⊢;clear hD hL hv hX;go_enter Tryz.func25,Tryz.ntmps25;go_upto_region 2 with(go_at_call 63;refine EJ.out.mono ?_;rintro e w1 ⟨A,n,cap,δ1,rfl,rfl,rfl,hS⟩;have HS:=qh hS;clear hS);refine QAM ?_;intro W1 aE cz de cN cY dc dX jP H1 me qv lS lS8 F1;clear aE HS;have nx:Hid (Calls nH 64 #[.slice A ws.length cap] W1 (jI (bJ ws) W1)):=qh (pP ws A cap hw0 Jr.out hwn W1.heap.size W1 me.out qv.out);unfold jI at nx;rw[qm,show j9 (some c)=true from decide_eq_true HK.out] at nx;clear qm Aj gH;go_upto_region 4 with(go_at_call 64;refine nx.out.mono ?_;rintro e w1 ⟨v,δ2,rfl,rfl,hc⟩;have HC:=qh (hc c rfl HK.out);clear hc);go_wp2_with (first|(go_at_call 66;refine(HT.out v _ H1.out.up HC.out).mono ?_;rintro e w1 ⟨k',rfl,hd2,hf2⟩;have H2:=qh hd2;have F2:=qh hf2;clear hd2 hf2)|(go_at_call 65;refine(uE bb _).mono ?_;rintro e w1 ⟨rfl,δ3,rfl⟩));go_ret;exact⟨k',ms,rfl,H2.out.up,((F1.out.trans (by have:=H1.out.le;exact Fr.fK)).trans (F2.out.mono nU)).trans (by have:=H2.out.le;exact Fr.fK)⟩
end
section
open Hd
theorem Tr(uf:Nat)(ua:Array nK)(w:nJ):(nilAhead 453 187 (.func (.func uf) #[] ua) "almadraba/headman.answer").run nH w=.ok (some false) w:=by kernel_rfl
theorem Tq(uf:Nat)(w:nJ):(nilAhead 453 193 (.func (.func uf) #[] #[]) "almadraba/headman.answer").run nH w=.ok (some false) w:=by kernel_rfl
attribute[local go_sem] Tr Tq
theorem Ue(k:cH)(d:cU)(ms:List fk)(l:bL)(hl:l.length<=1000)(hv:aG d.ax=true)(c:eH)(hr:di l=.cmd c)(hk:cP c.w=2)(X:Nat->Prop)(B D:Nat)(w:nJ)(hX:∀b,X b->b<w.heap.size)(h8:8<=B)(hD:bZ X B D w k d ms)(hL:cX w):Calls nH 25 #[.pointer (some ⟨D,0,none⟩),.string (str l)] w (kq X B D w (d,nt d.ax c)):=by
 refine QAF ?_;intro HV HX H HL lB l8 lD ws oe EJ hw0 hwn Jr;have qm:bJ ws=some c:=(oS (by rw[<-oe];exact hr)).1;have HK:=qh hk;clear hr hk hl oe;obtain⟨an,LW⟩:∃x,nt d.ax c=x:=⟨_,rfl⟩;have HA:Hid (∀(u:nK) (W:nJ),bZ X B D W k d ms->Le 8 W->cX W->jd W u c->Calls nH 299 #[u,aX k.ax d.ax] W fun e w'=>e=.returned (.string (str an))/\∃δ,w'=af W δ):=qh fun u W h1 i8 h2 h3=>by have iB:=h1.le;have iW:Le W.heap.size W:=⟨nR _⟩;rw[<-LW];exact Lo k.ax d.ax HV.out c u W.heap.size W h1.dY.ax.is h2 h3
 rw[LW];clear hD hL hv hX;go_enter Tryz.func25,Tryz.ntmps25;go_upto_region 2 with(go_at_call 63;refine EJ.out.mono ?_;rintro e w1 ⟨A,n,cap,δ1,rfl,rfl,rfl,hS⟩;have HS:=qh hS;clear hS);refine QAM ?_;intro W1 aE cz de cN cY dc dX jP H1 me qv lS lS8 F1;clear aE HS;refine QAO ?_;intro nx oL;unfold jI at nx;unfold ki at oL;rw[qm,show j9 (some c)=false from decide_eq_false (by rw[HK.out];decide)] at nx;rw[qm,show vL (some c)=true from decide_eq_true (by rw[HK.out];decide)] at oL;clear qm LW;go_upto_region 7 with(first|(go_at_call 64;refine nx.out.mono ?_;rintro e w1 ⟨v,δ2,rfl,rfl,hc⟩;clear hc)|(go_at_call 67;refine(oL.out _ inferInstance inferInstance inferInstance qv.out.up).mono ?_;rintro e w1 ⟨v2,δ3,rfl,rfl,hv1,ue,vW⟩;obtain⟨u,rfl,hu⟩:=ue c rfl HK.out;obtain⟨uf,ua,rfl⟩:=hu.form;have HU:=qh hu;clear hu hv1 ue vW));refine QDO ?_;intro W2 eu GH Jc sJ uX uW tZ tY H2 pJ F2;have U2:Hid (jd W2 (.func (.func uf) #[] ua) c):=by rw[eu.out];exact HU
 clear eu;have lS2:Le W2.heap.size W2:=⟨nR _⟩;have lD2:=H2.out.dY.box.lt;refine wp_region_held (S:=fun W=>aC W2.heap.size W2 W) nP ?_;change wpAnyH _ _ _ _ _ _ _ _ (World.drew _);refine wpH_tq 0 (.iface 187 (.func (.func uf) #[] ua)) (inferInstance) ?_;refine QAI ?_;refine wpH_tq 1 (.pointer (some ⟨D,0,none⟩)) (inferInstance) ?_;refine QAI ?_;refine QEX ?_;refine QAI ?_;refine QEY ?_;refine QAI ?_;refine gJ 4 (aX k.ax d.ax) rfl nP (jV ak nY _ rfl rfl (fun _ h=>av.eA (hg:=h) H2.out.dY.box) (eo k d) rfl) (inferInstance) ?_;refine QAI ?_;refine wpH_tq 5 (.func (.method "almadraba/headman.answer") #[.iface 187 (.func (.func uf) #[] ua)] #[]) (inferInstance) ?_;refine QAI ?_;refine wpH_tq 6 (.func (.method "almadraba/headman.answer") #[.iface 187 (.func (.func uf) #[] ua)] #[]) (inferInstance) ?_;refine QAI ?_;refine wpH_tq 7 (.iface 187 (.func (.func uf) #[] ua)) (inferInstance) ?_;refine QAI ?_;refine wpAnyH_all (rs:=[8]) nP nV ?_;intro i hi;obtain rfl:=List.mem_singleton.1 hi;refine QAE ?_;refine(HA.out (.func (.func uf) #[] ua) _ H2.out.up inferInstance pJ.out.up (U2.out.up)).mono ?_;rintro e w1 ⟨rfl,δ4,rfl⟩;refine⟨inferInstance,?_⟩;refine QAI ?_;refine wpH_tq 9 (.string (str an)) (inferInstance) ?_;refine QAI ?_;refine wpAnyH_done nP ?_ _;go_wp2_with fail;go_ret;exact⟨k,ms,rfl,H2.out.up,F2.out.trans (by have:=H2.out.le;exact Fr.fK)⟩
theorem Rq(k:cH)(d:cU)(ms:List fk)(l:bL)(hl:l.length<=1000)(hv:aG d.ax=true)(c:eH)(hr:di l=.cmd c)(hk:cP c.w=3)(X:Nat->Prop)(B D:Nat)(w:nJ)(hX:∀b,X b->b<w.heap.size)(h8:8<=B)(hD:bZ X B D w k d ms)(hL:cX w):Calls nH 25 #[.pointer (some ⟨D,0,none⟩),.string (str l)] w (kq X B D w (d,nt d.ax c)):=by
 refine QAF ?_;intro HV HX H HL lB l8 lD ws oe EJ hw0 hwn Jr;have qm:bJ ws=some c:=(oS (by rw[<-oe];exact hr)).1;have HK:=qh hk;clear hr hk hl oe;obtain⟨an,LW⟩:∃x,nt d.ax c=x:=⟨_,rfl⟩;have HA:Hid (∀(u:nK) (W:nJ),bZ X B D W k d ms->Le 8 W->cX W->u=.func (.func (oz c.w)) #[] #[]->Calls nH 301 #[u,aX k.ax d.ax] W fun e w'=>e=.returned (.string (str an))/\∃δ,w'=af W δ):=qh fun u W h1 i8 h2 h3=>by have iB:=h1.le;have iW:Le W.heap.size W:=⟨nR _⟩;rw[<-LW];subst h3;exact Nq k.ax d.ax HV.out c HK.out W.heap.size W h1.dY.ax.is h2
 rw[LW];clear hD hL hv hX;go_enter Tryz.func25,Tryz.ntmps25;go_upto_region 2 with(go_at_call 63;refine EJ.out.mono ?_;rintro e w1 ⟨A,n,cap,δ1,rfl,rfl,rfl,hS⟩;have HS:=qh hS;clear hS);refine QAM ?_;intro W1 aE cz de cN cY dc dX jP H1 me qv lS lS8 F1;clear aE HS;refine QAO ?_;intro nx oL;unfold jI at nx;unfold ki at oL;rw[qm,show j9 (some c)=false from decide_eq_false (by rw[HK.out];decide)] at nx;rw[qm,show vL (some c)=true from decide_eq_true (by rw[HK.out];decide)] at oL;clear qm LW;go_upto_region 7 with(first|(go_at_call 64;refine nx.out.mono ?_;rintro e w1 ⟨v,δ2,rfl,rfl,hc⟩;clear hc)|(go_at_call 67;refine(oL.out _ inferInstance inferInstance inferInstance qv.out.up).mono ?_;rintro e w1 ⟨v2,δ3,rfl,rfl,hv1,ue,vW⟩;obtain rfl:=vW c rfl HK.out;clear hv1 ue vW));refine QDO ?_;intro W2 eu GH Jc sJ uX uW tZ tY H2 pJ F2;clear eu;have lS2:Le W2.heap.size W2:=⟨nR _⟩;have lD2:=H2.out.dY.box.lt;refine wp_region_held (S:=fun W=>aC W2.heap.size W2 W) nP ?_;change wpAnyH _ _ _ _ _ _ _ _ (World.drew _);refine wpH_tq 0 (.iface 193 (.func (.func (oz c.w)) #[] #[])) (inferInstance) ?_;refine QAI ?_;refine wpH_tq 1 (.pointer (some ⟨D,0,none⟩)) (inferInstance) ?_;refine QAI ?_;refine QEX ?_;refine QAI ?_;refine QEY ?_;refine QAI ?_;refine gJ 4 (aX k.ax d.ax) rfl nP (jV ak nY _ rfl rfl (fun _ h=>av.eA (hg:=h) H2.out.dY.box) (eo k d) rfl) (inferInstance) ?_;refine QAI ?_;refine wpH_tq 5 (.func (.method "almadraba/headman.answer") #[.iface 193 (.func (.func (oz c.w)) #[] #[])] #[]) (inferInstance) ?_;refine QAI ?_;refine wpH_tq 6 (.func (.method "almadraba/headman.answer") #[.iface 193 (.func (.func (oz c.w)) #[] #[])] #[]) (inferInstance) ?_;refine QAI ?_;refine wpH_tq 7 (.iface 193 (.func (.func (oz c.w)) #[] #[])) (inferInstance) ?_;refine QAI ?_;refine wpAnyH_all (rs:=[8]) nP nV ?_;intro i hi;obtain rfl:=List.mem_singleton.1 hi;refine QAE ?_;refine(HA.out (.func (.func (oz c.w)) #[] #[]) _ H2.out.up inferInstance pJ.out.up (rfl)).mono ?_;rintro e w1 ⟨rfl,δ4,rfl⟩;refine⟨inferInstance,?_⟩;refine QAI ?_;refine wpH_tq 9 (.string (str an)) (inferInstance) ?_;refine QAI ?_;refine wpAnyH_done nP ?_ _;go_wp2_with fail;go_ret;exact⟨k,ms,rfl,H2.out.up,F2.out.trans (by have:=H2.out.le;exact Fr.fK)⟩
end
section
open Hd
theorem Rp(k:cH)(d:cU)(ms:List fk)(l:bL)(hl:l.length<=1000)(hv:aG d.ax=true)(hr:di l=.none)(X:Nat->Prop)(B D:Nat)(w:nJ)(hX:∀b,X b->b<w.heap.size)(h8:8<=B)(hD:bZ X B D w k d ms)(hL:cX w):Calls nH 25 #[.pointer (some ⟨D,0,none⟩),.string (str l)] w (kq X B D w (d,CC)):=by
 refine QAF ?_;intro HV HX H HL lB l8 lD ws oe EJ hw0 hwn Jr;have qm:bJ ws=none:=FJ (by rw[<-oe];exact hr);have ET:Bv (dZ ws)=false:=by rw[<-oe];show Bv (di l)=false;rw[hr];rfl
 clear hr hl oe hD hL hv hX;go_enter Tryz.func25,Tryz.ntmps25;go_upto_region 2 with(go_at_call 63;refine EJ.out.mono ?_;rintro e w1 ⟨A,n,cap,δ1,rfl,rfl,rfl,hS⟩;have HS:=qh hS;clear hS);refine QAM ?_;intro W1 aE cz de cN cY dc dX jP H1 me qv lS lS8 F1;clear aE HS;refine QAO ?_;intro nx oL;unfold jI at nx;unfold ki at oL;rw[qm,show j9 none=false from rfl] at nx;rw[qm,show vL none=false from rfl] at oL;refine QBF ?_;intro yQ;unfold qd at yQ;rw[ET] at yQ;obtain⟨b,o,rfl,hb,e0⟩:=me.out.lQ hw0;refine QCE ?_;intro RJ hcap e0 ib A2 uo;have zw:Hid (Sl cm W1.heap.size W1 A2 (cap-1) (ws.drop 1)):=by have:=me.out.drop gK 1 nQ;rw[<-uo];exact qh (by simpa [Addr.add_lit] using this)
 refine QAZ ?_;intro Si hn2 Sh Sg QY EZ ie;unfold nj at ie;have U9:Hid (nth ws 0=cJ .forget->∀a,cS (ws.drop 1)=some a->a.length≠1):=qh fun hf a ha=>Ef qm hw0 hf ha;obtain⟨t0,ht0⟩:∃x,nth ws 0=x:=⟨_,rfl⟩;rw[ht0] at e0 U9;clear ht0 qm ET hb hcap;cases LR:cS (ws.drop 1) with
 |none=>
  rw[LR] at ie
  clear LR U9
  go_upto_region 16 with(first|(go_at_call 64;refine nx.out.mono ?_;rintro e w1 ⟨v,δ2,rfl,rfl,hc⟩;clear hc)|(go_at_call 67;refine(oL.out _ inferInstance inferInstance inferInstance qv.out.up).mono ?_;rintro e w1 ⟨v2,δ3,rfl,rfl,hv1,ue,vW⟩;obtain rfl:=hv1 trivial;clear hv1 ue vW)|(go_at_call 68;refine(yQ.out _ inferInstance inferInstance inferInstance qv.out.up).mono ?_;rintro e w1 ⟨o1,o2,δ4,rfl,rfl,hz1,rV⟩;obtain⟨rfl,rfl⟩:=hz1 trivial;clear hz1 rV))
  refine QCN ?_
  intro W2 eu a1 a2
  refine QFK ?_
  intro GH Jc sJ uX uW tZ tY
  clear eu
  refine QAY ?_
  intro e02 ib2 pJ H2 F2
  go_upto_region 17 with(go_at_call 69;refine(ie.out _ inferInstance inferInstance inferInstance pJ.out.up).mono ?_;rintro e w1 ⟨A3,c3,δ5,rfl,rfl,ya⟩;have si:=qh ya;clear ya)
  refine QBV ?_
  intro g hg W3 bN a3 a4
  have DH:Le B W3:=fR bN
  have GI:aC B w W3:=iC bN
  obtain⟨KM,KL,KK,KJ⟩:=He 8 w bN
  have KI:Lt (D) W3:=mb bN
  have G3:Hid (av W3 g 35 #[.slice A3 0 c3]):=by rw[bN.out,<-hg];exact qh (av.new rfl)
  have I3:Hid (fm 3 aH W3.heap.size W3 A3 c3 []):=by rw[bN.out];exact qh (si.out.wide)
  refine QBD ?_
  intro H3 F3 e03 ib3
  have sW:=G3.out.cell (i:=0) (v:=.slice A3 0 c3) rfl
  have lg:=G3.out.lt
  clear bN hg si
  go_wp2_with fail
  go_ret
  exact⟨k,ms,rfl,H3.out.up,F3.out.trans (by have:=H3.out.le;exact Fr.fK)⟩
 |some a=>
  rw[LR] at ie U9
  clear LR
  obtain⟨an,LW⟩:∃n,a.length=n:=⟨_,rfl⟩
  have Jw:=qh LW
  simp only[Option.getD_some,LW] at ie
  by_cases hf:t0=cJ .forget
  ·have ac4:((an:Int)==1)=false:=beq_eq_false_iff_ne.2 (by have:=U9.out hf a rfl;omega);have f:((str t0).toList==[102,111,114,103,101,116])=true:=by subst hf;rw[cA];rfl
   clear hf U9 LW;go_upto_region 16 with(first|(go_at_call 64;refine nx.out.mono ?_;rintro e w1 ⟨v,δ2,rfl,rfl,hc⟩;clear hc)|(go_at_call 67;refine(oL.out _ inferInstance inferInstance inferInstance qv.out.up).mono ?_;rintro e w1 ⟨v2,δ3,rfl,rfl,hv1,ue,vW⟩;obtain rfl:=hv1 trivial;clear hv1 ue vW)|(go_at_call 68;refine(yQ.out _ inferInstance inferInstance inferInstance qv.out.up).mono ?_;rintro e w1 ⟨o1,o2,δ4,rfl,rfl,hz1,rV⟩;obtain⟨rfl,rfl⟩:=hz1 trivial;clear hz1 rV));refine QCN ?_;intro W2 eu a1 a2;have TB:Le B W2:=fR eu;have Vz:aC B w W2:=iC eu;obtain⟨Vy,Vx,Vw,Vv⟩:=He 8 w eu;have Vu:Lt (D) W2:=mb eu;clear eu;refine QAY ?_;intro e02 ib2 pJ H2 F2;go_upto_region 17 with(go_at_call 69;refine(ie.out _ inferInstance inferInstance inferInstance pJ.out.up).mono ?_;rintro e w1 ⟨A3,c3,δ5,rfl,rfl,ya⟩;have si:=qh ya;clear ya);refine QBV ?_;intro g hg W3 bN a3 a4;have Yn:Le B W3:=fR bN;have Vt:aC B w W3:=iC bN;obtain⟨Vs,Vr,Vq,Vp⟩:=He 8 w bN;have Vo:Lt (D) W3:=mb bN;refine QFQ ?_;intro G3 I3;refine QBD ?_;intro H3 F3 e03 ib3;have sW:=G3.out.cell (i:=0) (v:=.slice A3 an c3) rfl;have lg:=G3.out.lt;clear bN hg si;go_wp2_with fail;go_ret;exact⟨k,ms,rfl,H3.out.up,F3.out.trans (by have:=H3.out.le;exact Fr.fK)⟩
  ·have f:((str t0).toList==[102,111,114,103,101,116])=false:=by rw[cA];exact decide_eq_false hf
   clear hf U9 LW;go_upto_region 16 with(first|(go_at_call 64;refine nx.out.mono ?_;rintro e w1 ⟨v,δ2,rfl,rfl,hc⟩;clear hc)|(go_at_call 67;refine(oL.out _ inferInstance inferInstance inferInstance qv.out.up).mono ?_;rintro e w1 ⟨v2,δ3,rfl,rfl,hv1,ue,vW⟩;obtain rfl:=hv1 trivial;clear hv1 ue vW)|(go_at_call 68;refine(yQ.out _ inferInstance inferInstance inferInstance qv.out.up).mono ?_;rintro e w1 ⟨o1,o2,δ4,rfl,rfl,hz1,rV⟩;obtain⟨rfl,rfl⟩:=hz1 trivial;clear hz1 rV));refine QCN ?_;intro W2 eu a1 a2;have Ym:Le B W2:=fR eu;have Yl:aC B w W2:=iC eu;obtain⟨Yk,Yj,Yi,Yh⟩:=He 8 w eu;have Yg:Lt (D) W2:=mb eu;clear eu;refine QAY ?_;intro e02 ib2 pJ H2 F2;go_upto_region 17 with(go_at_call 69;refine(ie.out _ inferInstance inferInstance inferInstance pJ.out.up).mono ?_;rintro e w1 ⟨A3,c3,δ5,rfl,rfl,ya⟩;have si:=qh ya;clear ya);refine QBV ?_;intro g hg W3 bN a3 a4;have abL:Le B W3:=fR bN;have abK:aC B w W3:=iC bN;obtain⟨abJ,abI,abH,abG⟩:=He 8 w bN;have abF:Lt (D) W3:=mb bN;refine QFQ ?_;intro G3 I3;refine QBD ?_;intro H3 F3 e03 ib3;have sW:=G3.out.cell (i:=0) (v:=.slice A3 an c3) rfl;have lg:=G3.out.lt;clear bN hg si;go_wp2_with fail;go_ret;exact⟨k,ms,rfl,H3.out.up,F3.out.trans (by have:=H3.out.le;exact Fr.fK)⟩
theorem Rr(k:cH)(d:cU)(ms:List fk)(l:bL)(hl:l.length<=1000)(hv:aG d.ax=true)(q c:eH)(s:UInt8)(n:Int)(hr:di l=.ord q s n c)(h5:d.aB.length=5)(X:Nat->Prop)(B D:Nat)(w:nJ)(hX:∀b,X b->b<w.heap.size)(h8:8<=B)(hD:bZ X B D w k d ms)(hL:cX w):Calls nH 25 #[.pointer (some ⟨D,0,none⟩),.string (str l)] w (kq X B D w (d,LQ)):=by
 refine QAF ?_;intro HV HX H HL lB l8 lD ws oe EJ hw0 hwn Jr;have WK:=qh hr;have hrw:dZ ws=.ord q s n c:=by rw[<-oe];exact hr
 have qm:bJ ws=none:=zS hrw;have ET:Bv (dZ ws)=true:=by rw[hrw];rfl
 have XN:=qh hrw;clear hr hl oe hrw hD hL hv hX;go_enter Tryz.func25,Tryz.ntmps25;go_upto_region 2 with(go_at_call 63;refine EJ.out.mono ?_;rintro e w1 ⟨A,n,cap,δ1,rfl,rfl,rfl,hS⟩;have HS:=qh hS;clear hS);refine QAM ?_;intro W1 aE cz de cN cY dc dX jP H1 me qv lS lS8 F1;clear aE HS;refine QAO ?_;intro nx oL;unfold jI at nx;unfold ki at oL;rw[qm,show j9 none=false from rfl] at nx;rw[qm,show vL none=false from rfl] at oL;refine QBF ?_;intro yQ;unfold qd at yQ;rw[ET] at yQ;have EW:W1.cell? ⟨D,14,none⟩=some (.slice k.oA d.aB.length k.oc):=H1.out.dY.box.cell rfl;clear qm ET;have YZ:((d.aB.length:Int)==5)=true:=by simp[h5]
 clear h5;go_upto_region 9 with(first|(go_at_call 64;refine nx.out.mono ?_;rintro e w1 ⟨v,δ2,rfl,rfl,hc⟩;clear hc)|(go_at_call 67;refine(oL.out _ inferInstance inferInstance inferInstance qv.out.up).mono ?_;rintro e w1 ⟨v2,δ3,rfl,rfl,hv1,ue,vW⟩;obtain rfl:=hv1 trivial;clear hv1 ue vW)|(go_at_call 68;refine(yQ.out _ inferInstance inferInstance inferInstance qv.out.up).mono ?_;rintro e w1 ⟨o1,o2,δ4,rfl,rfl,hz1,rV⟩;obtain⟨⟨hs,hn,gq,gs,gn,u,rfl,q1,q2,q3,q4,q5,q6⟩,Pz⟩:=rV q s n c XN.out;obtain⟨gc,ga,rfl⟩:=Pz.form;have HH:Hid (ko X (af _ δ4) (.func (.func 131) #[] #[.pointer (some ⟨gq,0,none⟩),.pointer (some ⟨gs,0,none⟩),.pointer (some ⟨gn,0,none⟩)]) q s n):=qh ⟨hs,hn,gq,gs,gn,u,rfl,q1,q2,q3,fun h=>q4 (nL (HX.out _ h) (inferInstance:Le w.heap.size (af (af W1 δ2) δ3)).out),q5,fun h=>q6 (nL (HX.out _ h) (inferInstance:Le w.heap.size (af (af W1 δ2) δ3)).out)⟩;have HC:=qh Pz;clear hz1 rV hs hn q1 q2 q3 q4 q5 q6 Pz)|(refine ah (cs':=#[.int .i64 0,.string ⟨#[]⟩,.func (.func 131) #[] #[.pointer (some ⟨gq,0,none⟩),.pointer (some ⟨gs,0,none⟩),.pointer (some ⟨gn,0,none⟩)],.func (.func 108) #[] #[.pointer (some ⟨gc,0,none⟩),.pointer (some ⟨ga,0,none⟩)]]) tD rfl _ _ rfl rfl rfl (av.new (T:=71) rfl) rfl rfl (by simp[Value.oneCell']) ?_;intro W2 O2 k2));refine QCF ?_;intro a1 a2 a3 a4 H2 F2 d14 lD2;clear k2 O2 HH HC;go_wp2_with (go_at_call 65;refine(uE false _).mono ?_;rintro e w1 ⟨rfl,δ7,rfl⟩);go_ret;exact⟨k,ms,rfl,H2.out.up,F2.out.trans (by have:=H2.out.le;exact Fr.fK)⟩
end
section
open Hd
theorem Lh(k:cH)(d:cU)(ms:List fk)(l:bL)(hl:l.length<=1000)(hv:aG d.ax=true)(h5:d.aB.length<=5)(x:Int)(hr:di l=.cmd ⟨.forget,[x]⟩)(i:Nat)(hi:d.aB.findIdx? (fun o=>decide ((o.num:Int)=x))=some i)(X:Nat->Prop)(B D:Nat)(w:nJ)(hX:∀b,X b->b<w.heap.size)(h8:8<=B)(hD:bZ X B D w k d ms)(hL:cX w):Calls nH 25 #[.pointer (some ⟨D,0,none⟩),.string (str l)] w (kq X B D w (⟨d.ax,d.aB.eraseIdx i,d.given⟩,LP)):=by
 refine QAF ?_;intro HV HX H HL lB l8 lD ws oe EJ hw0 hwn Jr;have qm:=(oS (ws:=ws) (by rw[<-oe];exact hr));refine QEG ?_;intro ET qm TU LR TV;clear TU hr hl oe hD hL hv hX;go_enter Tryz.func25,Tryz.ntmps25;go_upto_region 2 with(go_at_call 63;refine EJ.out.mono ?_;rintro e w1 ⟨A,n,cap,δ1,rfl,rfl,rfl,hS⟩;have HS:=qh hS;clear hS);refine QAM ?_;intro W1 aE cz de cN cY dc dX jP H1 me qv lS lS8 F1;clear aE HS;refine QAO ?_;intro nx oL;unfold jI at nx;unfold ki at oL;rw[qm,show j9 (some ⟨.forget,[x]⟩)=false from rfl] at nx;rw[qm,show vL (some ⟨.forget,[x]⟩)=false from rfl] at oL;refine QBF ?_;intro yQ;unfold qd at yQ;rw[ET] at yQ;obtain⟨b,o,rfl,hb,e0⟩:=me.out.lQ hw0;refine QCE ?_;intro RJ hcap e0 ib A2 uo;have zw:Hid (Sl cm W1.heap.size W1 A2 (cap-1) (ws.drop 1)):=by have:=me.out.drop gK 1 nQ;rw[<-uo];exact qh (by simpa [Addr.add_lit] using this)
 refine QAZ ?_;intro Si hn2 Sh Sg QY EZ ie;unfold nj at ie;rw[LR] at ie;refine QCU ?_;intro ie t0 ht0;rw[ht0] at e0;have f:((str t0).toList==[102,111,114,103,101,116])=true:=by rw[<-ht0,TV,cA];rfl
 clear ht0 qm ET hb hcap LR TV;go_upto_region 16 with(first|(go_at_call 64;refine nx.out.mono ?_;rintro e w1 ⟨v,δ2,rfl,rfl,hc⟩;clear hc)|(go_at_call 67;refine(oL.out _ inferInstance inferInstance inferInstance qv.out.up).mono ?_;rintro e w1 ⟨v2,δ3,rfl,rfl,hv1,ue,vW⟩;obtain rfl:=hv1 trivial;clear hv1 ue vW)|(go_at_call 68;refine(yQ.out _ inferInstance inferInstance inferInstance qv.out.up).mono ?_;rintro e w1 ⟨o1,o2,δ4,rfl,rfl,hz1,rV⟩;obtain⟨rfl,rfl⟩:=hz1 trivial;clear hz1 rV));refine QCN ?_;intro W2 eu a1 a2;refine QFK ?_;intro GH Jc sJ uX uW tZ tY;clear eu;refine QAY ?_;intro e02 ib2 pJ H2 F2;go_upto_region 17 with(go_at_call 69;refine(ie.out _ inferInstance inferInstance inferInstance pJ.out.up).mono ?_;rintro e w1 ⟨A3,c3,δ5,rfl,rfl,ya⟩;have si:=qh ya;clear ya);refine QBV ?_;intro g hg W3 bN a3 a4;refine QDP ?_;intro DH GI KM KL KK KJ KI G3 I3;refine QBD ?_;intro H3 F3 e03 ib3;have sW:=G3.out.cell (i:=0) (v:=.slice A3 1 c3) rfl;have lg:=G3.out.lt;clear bN hg si;have wh:Hid (∀W:nJ,bZ X B D W k d ms->av W g 35 #[.slice A3 1 c3]->fm 3 aH W.heap.size W A3 c3 [x]->Calls nH 70 #[.slice k.oA d.aB.length k.oc,.func (.func 71) #[] #[.pointer (some ⟨g,0,none⟩)]] W fun e w'=>e=.returned (.int .i64 (ud (d.aB.findIdx? fun o=>decide ((o.num:Int)=x))))/\∃δ,w'=af W δ):=qh fun W h1 h2 h3=>by
  have hx:d.aB.findIdx? (fun o=>decide ((o.num:Int)=x))=ms.findIdx? fun m=>decide ((m.ord.num:Int)=x):=by rw[<-h1.map,yd]
  rw[hx];exact xu ms x g A3 c3 d.aB.length h1.len (by rw[h1.len];omega) k.oA k.oc W (Sl.bW (by have:=h1.row;rw[<-h1.len] at this;exact this)) h2 h3.plain
 have EW:W3.cell? ⟨D,14,none⟩=some (.slice k.oA d.aB.length k.oc):=H3.out.dY.box.cell rfl;have hil:i<d.aB.length:=(List.findIdx?_eq_some_iff_findIdx_eq.1 hi).1;rw[hi,show ud (some i)=(i:Int) from rfl] at wh;clear hi;obtain⟨og,zq,hBg,_⟩:=H3.out.first nQ;obtain⟨kn,hkn⟩:∃n,d.aB.length=n+1:=⟨d.aB.length-1,nQ⟩;have L0:=qh hkn;have WR:=qh zq;have HIL:=qh hil;rw[zq,hkn] at EW wh;have hik:i<=kn:=nQ;have hwr:IntKind.i64.wrap ((i:Int)+1)=(i:Int)+1:=IntWalk.i64_in _ nQ;have hi0:(0:Int)<=(i:Int):=nQ;have ZT:Hid (∀W:nJ,bZ X B D W k d ms->Calls nH 72 #[.slice (some ⟨og,0,none⟩) (kn+1) k.oc,.int .i64 i,.int .i64 ((i:Int)+1)] W fun e w'=>e=.returned (.slice (some ⟨og,0,none⟩) kn k.oc)/\bw (fun x=>x=og) W w'/\w'.ownsRow B 71 4 (.slice (some ⟨og,0,none⟩) kn k.oc) kn ((ms.take i++ms.drop (i+1)).flatMap gY)):=qh fun W h1=>by have iB:=h1.le;exact Av B og k.oc i kn ms W (by have:=h1.row;rw[WR.out,L0.out] at this;exact this) (h1.len.trans L0.out) hik nQ
 clear zq hkn hil h5;go_upto_region 20 with(go_at_call 70;refine(wh.out _ H3.out.up G3.out.eA I3.out.wide).mono ?_;rintro e w1 ⟨rfl,δ6,rfl⟩);refine aK fun W4 gP=>?_;have TB:Le B W4:=fR gP;have Vz:aC B W3 W4:=iC gP;obtain⟨Vy,Vx,Vw,Vv⟩:=He 8 W3 gP;have Vu:Lt (D) W4:=mb gP;have H4:Hid (bZ X B D W4 k d ms):=qh H3.out.up;have F4:Hid (Fr B jc w W4):=qh (F3.out.trans (by have:=H3.out.le;exact Fr.fK));clear gP;have d14:W4.cell? ⟨D,14,none⟩=some (.slice (some ⟨og,0,none⟩) (kn+1) k.oc):=by have:=H4.out.dY.box.cell (i:=14) (v:=.slice k.oA d.aB.length k.oc) rfl;rw[WR.out,L0.out] at this;exact this
 have lD4:=H4.out.dY.box.lt;have lE4:Hid (∀w1:nJ,bw (fun x=>x=og) W4 w1->Lt D w1/\w1.frozen? ⟨D,14,none⟩=false/\w1.cell? ⟨D,14,none⟩=some (.slice (some ⟨og,0,none⟩) (kn+1) k.oc)):=qh fun w1 hk=>by obtain⟨og',DX,hB',cs,hb⟩:=H4.out.first (by rw[L0.out];omega);rw[WR.out] at DX;injection DX with DX;injection DX with e;subst e;have b1:=H4.out.dY.box.tX hk hb nU;exact⟨b1.lt,b1.free _,by rw[<-WR.out,<-L0.out];exact b1.cell (i:=14) rfl⟩
 go_upto_region 21 with(go_at_call 72;refine(ZT.out _ H4.out).mono ?_;rintro e w5 ⟨rfl,Sj,VK⟩;obtain⟨lD5,fD5,cD5⟩:=lE4.out w5 Sj;have K5:=qh Sj;have R5:=qh VK;clear Sj VK);obtain⟨h6,f6⟩:=H4.out.del HIL.out L0.out WR.out K5.out R5.out;have H6:=qh h6;have F6:=qh f6;clear h6 f6;go_wp2_with (go_at_call 65;refine(uE true _).mono ?_;rintro e w1 ⟨rfl,δ7,rfl⟩);go_ret;exact⟨_,_,rfl,H6.out.up,(F4.out.trans F6.out).trans (by have:=H6.out.le;exact Fr.fK)⟩
theorem Lg(k:cH)(d:cU)(ms:List fk)(l:bL)(hl:l.length<=1000)(hv:aG d.ax=true)(h5:d.aB.length<=5)(x:Int)(hr:di l=.cmd ⟨.forget,[x]⟩)(hi:d.aB.findIdx? (fun o=>decide ((o.num:Int)=x))=none)(X:Nat->Prop)(B D:Nat)(w:nJ)(hX:∀b,X b->b<w.heap.size)(h8:8<=B)(hD:bZ X B D w k d ms)(hL:cX w):Calls nH 25 #[.pointer (some ⟨D,0,none⟩),.string (str l)] w (kq X B D w (d,LQ)):=by
 refine QAF ?_;intro HV HX H HL lB l8 lD ws oe EJ hw0 hwn Jr;have qm:=(oS (ws:=ws) (by rw[<-oe];exact hr));refine QEG ?_;intro ET qm TU LR TV;clear TU hr hl oe hD hL hv hX;go_enter Tryz.func25,Tryz.ntmps25;go_upto_region 2 with(go_at_call 63;refine EJ.out.mono ?_;rintro e w1 ⟨A,n,cap,δ1,rfl,rfl,rfl,hS⟩;have HS:=qh hS;clear hS);refine QAM ?_;intro W1 aE cz de cN cY dc dX jP H1 me qv lS lS8 F1;clear aE HS;refine QAO ?_;intro nx oL;unfold jI at nx;unfold ki at oL;rw[qm,show j9 (some ⟨.forget,[x]⟩)=false from rfl] at nx;rw[qm,show vL (some ⟨.forget,[x]⟩)=false from rfl] at oL;refine QBF ?_;intro yQ;unfold qd at yQ;rw[ET] at yQ;obtain⟨b,o,rfl,hb,e0⟩:=me.out.lQ hw0;refine QCE ?_;intro RJ hcap e0 ib A2 uo;have zw:Hid (Sl cm W1.heap.size W1 A2 (cap-1) (ws.drop 1)):=by have:=me.out.drop gK 1 nQ;rw[<-uo];exact qh (by simpa [Addr.add_lit] using this)
 refine QAZ ?_;intro Si hn2 Sh Sg QY EZ ie;unfold nj at ie;rw[LR] at ie;refine QCU ?_;intro ie t0 ht0;rw[ht0] at e0;have f:((str t0).toList==[102,111,114,103,101,116])=true:=by rw[<-ht0,TV,cA];rfl
 clear ht0 qm ET hb hcap LR TV;go_upto_region 16 with(first|(go_at_call 64;refine nx.out.mono ?_;rintro e w1 ⟨v,δ2,rfl,rfl,hc⟩;clear hc)|(go_at_call 67;refine(oL.out _ inferInstance inferInstance inferInstance qv.out.up).mono ?_;rintro e w1 ⟨v2,δ3,rfl,rfl,hv1,ue,vW⟩;obtain rfl:=hv1 trivial;clear hv1 ue vW)|(go_at_call 68;refine(yQ.out _ inferInstance inferInstance inferInstance qv.out.up).mono ?_;rintro e w1 ⟨o1,o2,δ4,rfl,rfl,hz1,rV⟩;obtain⟨rfl,rfl⟩:=hz1 trivial;clear hz1 rV));refine QCN ?_;intro W2 eu a1 a2;refine QFK ?_;intro GH Jc sJ uX uW tZ tY;clear eu;refine QAY ?_;intro e02 ib2 pJ H2 F2;go_upto_region 17 with(go_at_call 69;refine(ie.out _ inferInstance inferInstance inferInstance pJ.out.up).mono ?_;rintro e w1 ⟨A3,c3,δ5,rfl,rfl,ya⟩;have si:=qh ya;clear ya);refine QBV ?_;intro g hg W3 bN a3 a4;refine QDP ?_;intro DH GI KM KL KK KJ KI G3 I3;refine QBD ?_;intro H3 F3 e03 ib3;have sW:=G3.out.cell (i:=0) (v:=.slice A3 1 c3) rfl;have lg:=G3.out.lt;clear bN hg si;have wh:Hid (∀W:nJ,bZ X B D W k d ms->av W g 35 #[.slice A3 1 c3]->fm 3 aH W.heap.size W A3 c3 [x]->Calls nH 70 #[.slice k.oA d.aB.length k.oc,.func (.func 71) #[] #[.pointer (some ⟨g,0,none⟩)]] W fun e w'=>e=.returned (.int .i64 (ud (d.aB.findIdx? fun o=>decide ((o.num:Int)=x))))/\∃δ,w'=af W δ):=qh fun W h1 h2 h3=>by
  have hx:d.aB.findIdx? (fun o=>decide ((o.num:Int)=x))=ms.findIdx? fun m=>decide ((m.ord.num:Int)=x):=by rw[<-h1.map,yd]
  rw[hx];exact xu ms x g A3 c3 d.aB.length h1.len (by rw[h1.len];omega) k.oA k.oc W (Sl.bW (by have:=h1.row;rw[<-h1.len] at this;exact this)) h2 h3.plain
 have EW:W3.cell? ⟨D,14,none⟩=some (.slice k.oA d.aB.length k.oc):=H3.out.dY.box.cell rfl;rw[hi,show ud none = -1 from rfl] at wh;clear hi;go_wp2_with (first|(go_at_call 70;refine(wh.out _ H3.out.up G3.out.eA I3.out.wide).mono ?_;rintro e w1 ⟨rfl,δ6,rfl⟩)|(go_at_call 65;refine(uE false _).mono ?_;rintro e w1 ⟨rfl,δ7,rfl⟩));go_ret;exact⟨k,ms,rfl,H3.out.up,F3.out.trans (by have:=H3.out.le;exact Fr.fK)⟩
end
section
open Hd
theorem Rl(k:cH)(d:cU)(ms:List fk)(l:bL)(hl:l.length<=1000)(hv:aG d.ax=true)(YE:d.given<=1000)(q c:eH)(s:UInt8)(n:Int)(hr:di l=.ord q s n c)(h5:d.aB.length<5)(X:Nat->Prop)(B D:Nat)(w:nJ)(hX:∀b,X b->b<w.heap.size)(h8:8<=B)(hD:bZ X B D w k d ms)(hL:cX w):Calls nH 25 #[.pointer (some ⟨D,0,none⟩),.string (str l)] w (kq X B D w (⟨d.ax,d.aB++[⟨d.given,l⟩],d.given+1⟩,LP)):=by
 refine QAF ?_;intro HV HX H HL lB l8 lD ws oe EJ hw0 hwn Jr;have WK:=qh hr;have hrw:dZ ws=.ord q s n c:=by rw[<-oe];exact hr
 have qm:bJ ws=none:=zS hrw;have ET:Bv (dZ ws)=true:=by rw[hrw];rfl
 have XN:=qh hrw;clear hr hl oe hrw hD hL hv hX;go_enter Tryz.func25,Tryz.ntmps25;go_upto_region 2 with(go_at_call 63;refine EJ.out.mono ?_;rintro e w1 ⟨A,n,cap,δ1,rfl,rfl,rfl,hS⟩;have HS:=qh hS;clear hS);refine QAM ?_;intro W1 aE cz de cN cY dc dX jP H1 me qv lS lS8 F1;clear aE HS;refine QAO ?_;intro nx oL;unfold jI at nx;unfold ki at oL;rw[qm,show j9 none=false from rfl] at nx;rw[qm,show vL none=false from rfl] at oL;refine QBF ?_;intro yQ;unfold qd at yQ;rw[ET] at yQ;have EW:W1.cell? ⟨D,14,none⟩=some (.slice k.oA d.aB.length k.oc):=H1.out.dY.box.cell rfl;clear qm ET;have YZ:((d.aB.length:Int)==5)=false:=by simp;omega
 have hwr:IntKind.i64.wrap ((d.given:Int)+1)=((d.given+1:Nat):Int):=by rw[IntWalk.i64_in _ nQ];omega
 go_upto_region 9 with(first|(go_at_call 64;refine nx.out.mono ?_;rintro e w1 ⟨v,δ2,rfl,rfl,hc⟩;clear hc)|(go_at_call 67;refine(oL.out _ inferInstance inferInstance inferInstance qv.out.up).mono ?_;rintro e w1 ⟨v2,δ3,rfl,rfl,hv1,ue,vW⟩;obtain rfl:=hv1 trivial;clear hv1 ue vW)|(go_at_call 68;refine(yQ.out _ inferInstance inferInstance inferInstance qv.out.up).mono ?_;rintro e w1 ⟨o1,o2,δ4,rfl,rfl,hz1,rV⟩;obtain⟨⟨hs,hn,gq,gs,gn,u,rfl,q1,q2,q3,q4,q5,q6⟩,Pz⟩:=rV q s n c XN.out;obtain⟨gc,ga,rfl⟩:=Pz.form;have HH:Hid (ko X (af _ δ4) (.func (.func 131) #[] #[.pointer (some ⟨gq,0,none⟩),.pointer (some ⟨gs,0,none⟩),.pointer (some ⟨gn,0,none⟩)]) q s n):=qh ⟨hs,hn,gq,gs,gn,u,rfl,q1,q2,q3,fun h=>q4 (nL (HX.out _ h) (inferInstance:Le w.heap.size (af (af W1 δ2) δ3)).out),q5,fun h=>q6 (nL (HX.out _ h) (inferInstance:Le w.heap.size (af (af W1 δ2) δ3)).out)⟩;have HC:=qh Pz;clear hz1 rV hs hn q1 q2 q3 q4 q5 q6 Pz)|(refine ah (cs':=#[.int .i64 0,.string ⟨#[]⟩,.func (.func 131) #[] #[.pointer (some ⟨gq,0,none⟩),.pointer (some ⟨gs,0,none⟩),.pointer (some ⟨gn,0,none⟩)],.func (.func 108) #[] #[.pointer (some ⟨gc,0,none⟩),.pointer (some ⟨ga,0,none⟩)]]) tD rfl _ _ rfl rfl rfl (av.new (T:=71) rfl) rfl rfl (by simp[Value.oneCell']) ?_;intro W2 O2 k2));refine QCF ?_;intro a1 a2 a3 a4 H2 F2 d14 lD2;have HH2:Hid (ko X W2 (.func (.func 131) #[] #[.pointer (some ⟨gq,0,none⟩),.pointer (some ⟨gs,0,none⟩),.pointer (some ⟨gn,0,none⟩)]) q s n):=qh (by
  have b1:=HH.out.up (W:=(af (af (af W1 δ2) δ3) δ4).alloc (.cells #[.int .i64 0,.string ⟨#[]⟩,.nilFunc,.nilFunc] 71))
  have f:Fr 0 [71] _ W2:=Fr.eG k2 (av.new rfl) (nE _) nV
  exact b1.fr f nU)
 have SI:Hid (gv W2 (.func (.func 108) #[] #[.pointer (some ⟨gc,0,none⟩),.pointer (some ⟨ga,0,none⟩)]) c):=qh (by
  have b1:=HC.out.up (W:=(af (af (af W1 δ2) δ3) δ4).alloc (.cells #[.int .i64 0,.string ⟨#[]⟩,.nilFunc,.nilFunc] 71))
  have f:Fr 0 [71] _ W2:=Fr.eG k2 (av.new rfl) (nE _) nV
  exact b1.fr f nU)
 have Ra:D≠(af (af (af W1 δ2) δ3) δ4).heap.size:=Nat.ne_of_lt (nL H1.out.dY.box.lt.out (inferInstance:Le W1.heap.size (af (af (af W1 δ2) δ3) δ4)).out);have hgB:B<=(af (af (af W1 δ2) δ3) δ4).heap.size:=(inferInstance:Le B (af (af (af W1 δ2) δ3) δ4)).out;have yX:(Value.slice k.oA d.aB.length k.oc).ownBlock≠some (af (af (af W1 δ2) δ3) δ4).heap.size:=fun e=>by have h1:=(H1.out.row.lt _ e).2;have h2:=(inferInstance:Le W1.heap.size (af (af (af W1 δ2) δ3) δ4)).out;exact absurd h1 (Nat.not_lt.2 h2)
 obtain⟨g,hg⟩:∃g,(af (af (af W1 δ2) δ3) δ4).heap.size=g:=⟨_,rfl⟩;rw[hg] at O2 Ra hgB yX ⊢;have ZF:=qh yX;clear yX;have O2:=qh O2;have lg:=O2.out.lt;have d15:W2.cell? ⟨D,15,none⟩=some (.int .i64 (d.given:Nat)):=H2.out.dY.box.cell rfl;have fr15:=H2.out.dY.box.free 15;have z0:=O2.out.cell (i:=0) (v:=.int .i64 0) rfl;have z1:=O2.out.cell (i:=1) (v:=.string ⟨#[]⟩) rfl;have zf0:=O2.out.free 0;have zf1:=O2.out.free 1;have nD1:pI D g:=⟨Ra⟩;have nD2:pI g D:=⟨Ra.symm⟩;clear k2 HH HC hg;go_upto_region 14 with fail;obtain⟨m,hm⟩:∃m:fk,m=⟨⟨d.given,l⟩,gq,gs,gn,gc,ga⟩:=⟨_,rfl⟩;refine aK fun W4 gP=>?_;have HW:Hid (bZ X B D W4 k ⟨d.ax,d.aB,d.given+1⟩ ms/\Fr B jc W2 W4/\av W4 g 71 (xw m)):=by
  rw[gP.out];have f1:Fr B [71] W2 ((W2.setCell ⟨g,0,none⟩ (.int .i64 (d.given:Nat))).setCell ⟨g,1,none⟩ (.string (str l))):=Fr.eG (((bw.refl (fun x=>x=g) W2).set (b:=g) rfl 0 _).set (b:=g) rfl 1 _) O2.out hgB nV;have k1:bZ X B D ((W2.setCell ⟨g,0,none⟩ (.int .i64 (d.given:Nat))).setCell ⟨g,1,none⟩ (.string (str l))) k d ms:=by refine⟨⟨(H2.out.dY.box.eZ Ra _).eZ Ra _,H2.out.dY.ax.fr f1 nU,H2.out.dY.low⟩,?_,H2.out.map,fun m hm=>(H2.out.each m hm).fr f1 nU⟩;exact cT (cT H2.out.row ZF.out) ZF.out
  obtain⟨k2,f2⟩:=k1.Y1 (d.given+1);exact qh ⟨k2,(f1.mono nU).trans f2,by rw[hm];exact((O2.out.set 0 _).set 1 _).eZ Ra.symm _⟩
 have XR:Hid (uA X W4 m):=by
  have f:Fr 0 jc W2 W4:=HW.out.2.1.less (nE _);refine qh ⟨q,s,n,c,by rw[hm];exact WK.out,?_,?_⟩
  ·rw[hm];exact HH2.out.fr f nU
  ·rw[hm];exact SI.out.fr f nU
 have H4:Hid (bZ X B D W4 k ⟨d.ax,d.aB,d.given+1⟩ ms):=qh HW.out.1;have F4:Hid (Fr B jc w W4):=qh (F2.out.trans HW.out.2.1);have B4:Hid (av W4 g 71 (xw m)):=qh HW.out.2.2;have BD:Hid (av W4 D 65 (bX k ⟨d.ax,d.aB,d.given+1⟩)):=qh H4.out.dY.box;have RO4:Hid (W4.ownsRow B 71 4 (.slice k.oA d.aB.length k.oc) d.aB.length (ms.flatMap gY)):=qh H4.out.row;obtain⟨W0,jh⟩:=sized H4.out.le.out;have lB4:Le B W4:=H4.out.le;have x14:W4.cell? ⟨D,14,none⟩=some (.slice k.oA d.aB.length k.oc):=BD.out.cell rfl;have u0:W4.cell? ⟨g,0,none⟩=some (.int .i64 (m.ord.num:Nat)):=B4.out.cell (i:=0) rfl;have u1:W4.cell? ⟨g,1,none⟩=some (.string (str m.ord.line)):=B4.out.cell (i:=1) rfl;have u2:W4.cell? ⟨g,2,none⟩=some (ND m):=B4.out.cell (i:=2) rfl;have u3:W4.cell? ⟨g,3,none⟩=some (PB m):=B4.out.cell (i:=3) rfl;have lD4:=BD.out.lt;have lg4:=B4.out.lt;have WY:Hid (m.ord=⟨d.given,l⟩):=qh (by rw[hm]);clear gP HW HH2 SI XN O2 hm d14 d15 fr15 z0 z1 zf0 zf1 lg lD2 Ra hgB ZF nD1 nD2 F2 H2;subst jh;go_region_law (refine cQ W0 Yb (.tmp 73) (.tmp 75) rfl rfl (v:=.slice k.oA d.aB.length k.oc) (n:=d.aB.length) (xs:=ms.flatMap gY) (by first|exact RO4.out.drew.alloc _|exact RO4.out.alloc _|exact RO4.out) (by simp[Act.eval,Act.put]) (m:=1) (c:=1) (news:=gY m) (by simp[Act.eval,Act.put]) (fZ rfl) rfl (MW m) nQ nQ ?_;intro A2 c2 δ6 gM kC;have bD:=ep (b:=D) (by first|exact BD.out.drew.alloc _|exact(BD.out.alloc _).drew) (by first|exact RO4.out.drew.alloc _|exact RO4.out.alloc _|exact RO4.out) nU kC;have lD6:=bD.lt;have cD6:=bD.cell (i:=14) (v:=.slice k.oA d.aB.length k.oc) rfl;have fD6:=bD.free 14);all_goals
  obtain⟨h6,f6⟩:=bZ.add (D:=D) kC gM H4.out.up rfl XR.out.up;have H6:=qh h6;have F6:=qh f6;clear h6 f6 gM kC bD lD6 cD6 fD6;go_wp2_with (go_at_call 65;refine(uE true _).mono ?_;rintro e w1 ⟨rfl,δ7,rfl⟩);go_ret;have e:(⟨d.ax,d.aB++[⟨d.given,l⟩],d.given+1⟩:cU)=⟨d.ax,d.aB++[m.ord],d.given+1⟩:=by rw[WY.out]
  refine⟨⟨k.ax,A2,c2⟩,ms++[m],rfl,?_,((F4.out.trans (by have:=H4.out.le;exact Fr.fK)).trans F6.out).trans (by have:=H6.out.le;exact Fr.fK)⟩;show bZ _ _ _ _ _ (⟨d.ax,d.aB++[⟨d.given,l⟩],d.given+1⟩:cU) _;rw[e];exact H6.out.up
end
end Go.Proofs.YtcjjlikhlmfedaaGreatDoor
