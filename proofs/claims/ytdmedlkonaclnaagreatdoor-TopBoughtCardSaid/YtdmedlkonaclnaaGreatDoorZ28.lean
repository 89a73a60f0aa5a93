/- A part of the proof that a law of layer 12 holds, cut small by a program (names and blanks): Hq1, Hq2, Hq4, Hq5, Hq6, Hqp, Hbs, Hq12, Hbd. -/
import Derived.Lib.SplitLaws
import Derived.Shelf.Strings.BuilderK
import Derived.WalkMore
import Derived.Test.YtdmedlkonaclnaaGreatDoorZ26
import Derived.Test.YtdmedlkonaclnaaGreatDoorZ27
set_option maxRecDepth 100000
set_option maxHeartbeats 40000000
set_option linter.unusedVariables false
set_option linter.unusedSimpArgs false
namespace Go.Proofs.YtdmedlkonaclnaaGreatDoor
open Go.RowKit
open Nat renaming le_trans → nT, lt_of_lt_of_le → nL, le_refl → nR, zero_le → nE, le_of_lt → nS
open Go.Proofs.Tryz renaming prog → nH
open Go renaming World → nJ, Value → nK
section
open Hd
theorem Ab(b:UInt8)(l:bz):Lib.index (b::l) [32]=if b=32 then 0 else if Lib.index l [32] = -1 then -1 else Lib.index l [32]+1:=by
 rw[Lib.index];by_cases h:b=32
 ·subst h;simp[List.isPrefixOf]
 ·have hp:([32]:List UInt8).isPrefixOf (b::l)=false:=by simp[List.isPrefixOf,Ne.symm h]
  simp[hp,h]
theorem ET(b:UInt8)(hb:b≠32)(l:bz):∀k,Lib.splitK [32] 0 k (b::l)=(match Lib.splitK [32] 0 k l with|[]=>[[b]]|w::ws=>(b::w)::ws)
 |0=>rfl
 |k+1=>by
  have hge:=Lib.index_ge l [32];unfold Lib.splitK;rw[Ab,if_neg hb];by_cases h:Lib.index l [32] = -1
  ·simp[h]
  ·obtain⟨j,hj⟩:∃j:Nat,Lib.index l [32]=j:=⟨(Lib.index l [32]).toNat,nQ⟩;rw[hj,if_neg (show ¬(j:Int) = -1 by omega)];have e1:(((j:Int)+1 == -1)=true)=False:=eq_false (by simp;try omega);have e2:(((j:Int) == -1)=true)=False:=eq_false (by simp;try omega);rw[if_neg (by rw[e1];exact id),if_neg (by rw[e2];exact id)];rw[show((j:Int)+1).toNat=j+1 by omega,show((j:Int)).toNat=j by omega];simp
theorem uZ:∀s:bz,Lib.splitK [32] 0 (Lib.count s [32]) s=bG s
 |[]=>by rw[Lib.count_miss (by simp[Lib.index])];rfl
 |b::l=>by
  by_cases h:b=32
  ·subst h;rw[Lib.count_cons_eq,Nat.add_comm,Lib.splitK,Ab];simp only[if_true];rw[if_neg nU];rw[show bG (32::l)=[]::bG l by rw[bG];rfl,<-uZ l];simp
  ·rw[Lib.count_cons_ne b 32 l h,ET b h,uZ l,bG,if_neg h];cases bG l<;>rfl
theorem Om(s:bz):Lib.count s [32]+1=(bG s).length:=by rw[<-uZ];have h1:=Lib.splitB_all ⟨#[32]⟩ nU 0 _ (str s) rfl;have h2:=congrArg List.length (Lib.splitB_data ⟨#[32]⟩ 0 (Lib.countB (str s) ⟨#[32]⟩) (str s));rw[List.length_map,h1] at h2;simp only[Lib.countB,jd,show(⟨#[32]⟩:ByteArray).data.toList=[32] from rfl] at h2;exact h2
theorem Tg(s:bz)(hs:s.length<=1000)(w:nJ)[h8:Le 8 w](hL:cT w):Calls nH 86 #[.string (str s),.string ⟨#[32]⟩] w fun e w'=>∃(A:Option Addr) (n c:Nat) (δ:nJ),e=.returned (.slice A n c)/\(bG s).length=n/\w'=af w δ/\fN 9 aX (af w δ).heap.size (af w δ) A c (bG s):=by
 obtain⟨m,hm⟩:=hL.lf;have h:=Tryz.strings_Split (str s) ⟨#[32]⟩ m w (by rw[mL];omega) hm nU;have hk:Lib.countB (str s) ⟨#[32]⟩=Lib.count s [32]:=by simp only[Lib.countB,jd]
 have hc:=Om s;rw[hk,hc] at h;have hd:(Lib.splitB ⟨#[32]⟩ 0 (Lib.count s [32]) (str s)).map Value.string=(bG s).flatMap aX:=by
  have h:=Lib.splitB_data ⟨#[32]⟩ 0 (Lib.count s [32]) (str s);rw[show(⟨#[32]⟩:ByteArray).data.toList=[32] from rfl,jd,uZ] at h;rw[<-h];induction Lib.splitB ⟨#[32]⟩ 0 (Lib.count s [32]) (str s) with
  |nil=>rfl
  |cons x xs ih=>
   rw[List.map_cons,List.map_cons,List.flatMap_cons,ih]
   rw[show aX x.data.toList=[.string x] by unfold aX;rw[<-yX (a:=x) rfl]]
   rfl
 rw[hd] at h;refine h.mono ?_;rintro e w1 ⟨rfl,rfl⟩;obtain⟨n,hn⟩:∃n,(bG s).length=n:=⟨_,rfl⟩;rw[hn];refine⟨_,n,n,w.alloc (.cells ((bG s).flatMap aX).toArray 9),rfl,rfl,aq,?_⟩;refine QDJ ?_;have hf:((bG s).flatMap aX).length=n:=by
  rw[<-hn];induction bG s with
  |nil=>rfl
  |cons x xs ih=>rw[List.flatMap_cons,List.length_append,ih];simp[aX];omega
 have hle:=jv s;refine fN.bU (base:=w.heap.size) (size:=1) (n:=n) ⟨by rw[hf];omega,.inr ⟨w.heap.size,n,((bG s).flatMap aX).toArray,rfl,nR _,?_,nR _,?_,?_,?_⟩⟩ hn
 ·exact ax.new rfl
 ·have:n<=1001:=nQ;exact nT this nU
 ·rw[List.size_toArray,hf];omega
 ·rw[Nat.mul_one,List.toList_toArray];exact List.take_of_length_le (Nat.le_of_eq hf)
theorem QW(x:bz):∀(ws:List bz) (i:Nat),Lib.idxFromS (ws.map str) (str x) i=(match jN x ws with|some k=>((i+k:Nat):Int)|none=>-1)
 |[],i=>rfl
 |w::ws,i=>by
  rw[List.map_cons,Lib.idxFromS,jN];by_cases h:w=x
  ·subst h;simp
  ·have h2:¬str w=str x:=fun e=>h (by have:=congrArg (fun b:ByteArray=>b.data.toList) e;simpa [jd] using this);simp only[if_neg h];rw[if_neg h2,QW x ws (i+1)];cases jN x ws with
   |none=>rfl
   |some k=>show((i+1+k:Nat):Int)=((i+(k+1):Nat):Int);omega
def vN(o:Option Nat):Int:=match o with|some k=>(k:Int)|none=>-1
theorem Ro(ws:List bz)(A:Option Addr)(cap:Nat)(h0:0<ws.length)(hn:ws.length<=1001)(x:bz)(B:Nat)(w:nJ)(hS:Sl aX B w A cap ws):Calls nH 177 #[.slice A ws.length cap,.string (str x)] w fun e w'=>e=.returned (.int .i64 (vN (jN x ws)))/\w'=w:=by
 obtain⟨b,o,rfl,_,_⟩:=hS.mh h0;have h:=Tryz.slices_Index_string b o ws.length cap (ws.map str) (str x) w (by rw[List.length_map];exact nR _) nQ (by
  intro j hj
  rw[List.length_map] at hj
  obtain⟨b',o',e,_,d⟩:=hS.mh hj
  injection e with e
  injection e with e1 e2
  subst e1;subst e2
  rw[d,List.getD_eq_getElem?_getD,List.getElem?_map,List.getElem?_eq_getElem hj,bR _ hj]
  rfl)
 rw[List.take_of_length_le (by rw[List.length_map];exact nR _)] at h;unfold Lib.idxOfS at h;rw[QW] at h;refine h.mono ?_;rintro e w1 ⟨rfl,rfl⟩;refine⟨?_,rfl⟩;unfold vN;cases jN x ws<;>simp
end
section
open Hd
structure lM(X:Nat->Prop)(w:nJ)(v:nK)(q:dU)(s:UInt8)(n:Int):Prop where
 sign:s=60\/s=61\/s=62
 num:-999999<=n/\n<=999999
 at_:∃(gq gs gn:Nat) (u:nK),v=.func (.func 179) #[] #[.pointer (some ⟨gq,0,none⟩),.pointer (some ⟨gs,0,none⟩),.pointer (some ⟨gn,0,none⟩)] /\
  ax w gq 241 #[u]/\jJ w u q/\ax w gs 9 #[.string (str [s])]/\¬X gs/\ax w gn 3 #[.int .i64 n]/\¬X gn
theorem lM.up{X:Nat->Prop}{w W:nJ}{v:nK}{q:dU}{s:UInt8}{n:Int}(h:lM X w v q s n)[hg:au w.heap.size w W][hl:Le w.heap.size W]:lM X W v q s n:=by obtain⟨h1,h2,gq,gs,gn,u,rfl,b1,c,b2,x2,b3,x3⟩:=h;exact⟨h1,h2,gq,gs,gn,u,rfl,b1.dM,c.up,b2.dM,x2,b3.dM,x3⟩
theorem nI(x n:Int):(x<n/\¬n<x/\¬x=n/\(x==n)=false)\/(x=n)\/(¬x<n/\n<x/\¬x=n/\(x==n)=false):=by
 by_cases h1:x<n
 ·exact .inl ⟨h1,nQ,nQ,beq_eq_false_iff_ne.2 nQ⟩
 ·by_cases h2:x=n
  ·exact .inr (.inl h2)
  ·exact .inr (.inr ⟨h1,nQ,h2,beq_eq_false_iff_ne.2 h2⟩)
theorem Rp(X:Nat->Prop)(r:aQ)(t:aW)(hv:aG t=true)(q:dU)(s:UInt8)(n:Int)(v:nK)(B:Nat)(w:nJ)(hT:aJ B w r t)[hB:Le B w](hH:lM X w v q s n):∃gq gs gn,v=.func (.func 179) #[] #[.pointer (some ⟨gq,0,none⟩),.pointer (some ⟨gs,0,none⟩),.pointer (some ⟨gn,0,none⟩)]/\Calls nH 179 #[aO r t,.pointer (some ⟨gq,0,none⟩),.pointer (some ⟨gs,0,none⟩),.pointer (some ⟨gn,0,none⟩)] w fun e w'=>e=.returned (.bool (cY t q s n))/\∃δ,w'=af w δ:=by
 obtain⟨hs,hn,gq,gs,gn,u,rfl,b1,⟨hk,hl,hc⟩,b2,_,b3,_⟩:=hH;refine⟨gq,gs,gn,rfl,?_⟩;have H:=qh hT;obtain⟨x,er,hx⟩:∃x e,fm t q=(x,e):=⟨_,_,rfl⟩;have HH:Hid (cY t q s n=(decide (er=0)&&BN s x n)):=qh (by unfold cY;rw[hx]);have y1:=b1.cell (i:=0) (v:=u) rfl;have y2:=b2.cell (i:=0) (v:=.string (str [s])) rfl;have y3:=b3.cell (i:=0) (v:=.int .i64 n) rfl;have i1:=b1.lt;have i2:=b2.lt;have i3:=b3.lt;rcases hc with⟨hne,rfl⟩|⟨he,ga,A,cap,rfl,c1,hS⟩
 ·have hent:=sF (.inl hk);have HQ:Hid (∀W:nJ,aJ B W r t->Le B W->Calls nH (pV q.w) #[aO r t] W (eB (fm t q) W)):=qh fun W h1 h2=>Vs q hk hne r t hv B W h1;obtain⟨fid,uK⟩:∃f,pV q.w=f:=⟨_,rfl⟩;rw[uK] at hent HQ y1;rw[hx] at HQ;unfold eB at HQ;clear hT hv hk hl hne uK hx b1 b2 b3;go_enter Tryz.func179,Tryz.ntmps179;go_upto_region 1 with fail;refine aL fun W1 aH=>?_;obtain⟨cJ,dF,cU,dA,dD⟩:=Au B w aH;refine QDN ?_;intro A1;have z1:W1.cell? ⟨gq,0,none⟩=some (.func (.func fid) #[] #[]):=by rw[aH.out];go_simp
  refine QEQ ?_;intro z2 z3 j1 j2 j3;clear aH;go_upto_region 2 with(first|(refine av ai rfl _ rfl rfl A1.out rfl ?_)|(refine(HQ.out _ H.out.up inferInstance).mono ?_;rintro e w1 ⟨rfl,δ1,rfl⟩));by_cases he:er=0
  ·subst he;rcases hs with rfl|rfl|rfl;all_goals
    first
     |(have f0:((str [60]).toList==[60])=true:=by rw[cF];rfl
       refine QFB ?_
       intro f1 f2 HS
       clear HH
       rcases nI x n with⟨g1,g2,g3,g4⟩|g1|⟨g1,g2,g3,g4⟩
       ·go_wp2_with fail
        go_ret
        exact⟨by rw[HS.out];simp[g1],ag⟩
       ·subst g1
        go_wp2_with fail
        go_ret
        exact⟨by rw[HS.out];simp,ag⟩
       ·go_wp2_with fail
        go_ret
        exact⟨by rw[HS.out];simp[g1],ag⟩)
     |(have f0:((str [61]).toList==[60])=false:=by rw[cF];rfl
       refine QFC ?_
       intro f1 f2 HS
       clear HH
       rcases nI x n with⟨g1,g2,g3,g4⟩|g1|⟨g1,g2,g3,g4⟩
       ·go_wp2_with fail
        go_ret
        exact⟨by rw[HS.out];simp[g3],ag⟩
       ·subst g1
        go_wp2_with fail
        go_ret
        exact⟨by rw[HS.out];simp,ag⟩
       ·go_wp2_with fail
        go_ret
        exact⟨by rw[HS.out];simp[g3],ag⟩)
     |(have f0:((str [62]).toList==[60])=false:=by rw[cF];rfl
       refine QFD ?_
       intro f1 f2 HS
       clear HH
       rcases nI x n with⟨g1,g2,g3,g4⟩|g1|⟨g1,g2,g3,g4⟩
       ·go_wp2_with fail
        go_ret
        exact⟨by rw[HS.out];simp[g2],ag⟩
       ·subst g1
        go_wp2_with fail
        go_ret
        exact⟨by rw[HS.out];simp,ag⟩
       ·go_wp2_with fail
        go_ret
        exact⟨by rw[HS.out];simp[g2],ag⟩)
  ·have he2:(er==0)=false:=beq_eq_false_iff_ne.2 he;have HS:Hid (cY t q s n=false):=by unfold Hid;rw[HH.out];simp[he]
   clear hs HH he;go_wp2_with fail;go_ret;exact⟨by rw[HS.out];rfl,ag⟩
 ·obtain⟨d,a⟩:=q;obtain rfl:d=.early:=he;obtain⟨dy,rfl⟩:∃y,a=[y]:=by
   match a,hl with
   |[y],_=>exact⟨y,rfl⟩
  have HQ:Hid (∀W:nJ,au w.heap.size w W->Le w.heap.size W->aJ B W r t->Le B W->Calls nH 161 #[aO r t,.pointer (some ⟨ga,0,none⟩)] W (eB (fm t ⟨.early,[dy]⟩) W)):=qh fun W i1 i2 h1 h2=>Li r t hv dy ga A cap B W h1 c1.dM (hS.wide (w':=W)).plain;rw[hx] at HQ;obtain⟨q,hq⟩:∃q,(⟨.early,[dy]⟩:dU)=q:=⟨_,rfl⟩;rw[hq] at HH ⊢;unfold eB at HQ;have iga:=c1.lt;clear hT hv hk hl hx b1 b2 b3 c1 hS hq;go_enter Tryz.func179,Tryz.ntmps179;go_upto_region 1 with fail;refine aL fun W1 aH=>?_;obtain⟨eI,ju,Es,Gh,sg⟩:=Au B w aH;refine QDN ?_;intro A1;have z1:W1.cell? ⟨gq,0,none⟩=some (.func (.func 161) #[] #[.pointer (some ⟨ga,0,none⟩)]):=by rw[aH.out];go_simp
  refine QEQ ?_;intro z2 z3 j1 j2 j3;clear aH;go_upto_region 2 with(first|(refine av ai rfl _ rfl rfl A1.out rfl ?_)|(go_at_call 161;refine(HQ.out _ inferInstance inferInstance H.out.up inferInstance).mono ?_;rintro e w1 ⟨rfl,δ1,rfl⟩));by_cases he:er=0
  ·subst he;rcases hs with rfl|rfl|rfl;all_goals
    first
     |(have f0:((str [60]).toList==[60])=true:=by rw[cF];rfl
       refine QFB ?_
       intro f1 f2 HS
       clear HH
       rcases nI x n with⟨g1,g2,g3,g4⟩|g1|⟨g1,g2,g3,g4⟩
       ·go_wp2_with fail
        go_ret
        exact⟨by rw[HS.out];simp[g1],ag⟩
       ·subst g1
        go_wp2_with fail
        go_ret
        exact⟨by rw[HS.out];simp,ag⟩
       ·go_wp2_with fail
        go_ret
        exact⟨by rw[HS.out];simp[g1],ag⟩)
     |(have f0:((str [61]).toList==[60])=false:=by rw[cF];rfl
       refine QFC ?_
       intro f1 f2 HS
       clear HH
       rcases nI x n with⟨g1,g2,g3,g4⟩|g1|⟨g1,g2,g3,g4⟩
       ·go_wp2_with fail
        go_ret
        exact⟨by rw[HS.out];simp[g3],ag⟩
       ·subst g1
        go_wp2_with fail
        go_ret
        exact⟨by rw[HS.out];simp,ag⟩
       ·go_wp2_with fail
        go_ret
        exact⟨by rw[HS.out];simp[g3],ag⟩)
     |(have f0:((str [62]).toList==[60])=false:=by rw[cF];rfl
       refine QFD ?_
       intro f1 f2 HS
       clear HH
       rcases nI x n with⟨g1,g2,g3,g4⟩|g1|⟨g1,g2,g3,g4⟩
       ·go_wp2_with fail
        go_ret
        exact⟨by rw[HS.out];simp[g2],ag⟩
       ·subst g1
        go_wp2_with fail
        go_ret
        exact⟨by rw[HS.out];simp,ag⟩
       ·go_wp2_with fail
        go_ret
        exact⟨by rw[HS.out];simp[g2],ag⟩)
  ·have he2:(er==0)=false:=beq_eq_false_iff_ne.2 he;have HS:Hid (cY t q s n=false):=by unfold Hid;rw[HH.out];simp[he]
   clear hs HH he;go_wp2_with fail;go_ret;exact⟨by rw[HS.out];rfl,ag⟩
end
section
open Hd
structure Fr(B:Nat)(L:List TypeId)(w w':nJ):Prop where
 low:Below B w w'
 row:∀(k:Nat) (T:TypeId) (cur:Array nK) (fr:Nat × Nat),T∉L->w.heap[k]?=some (Obj.cells cur T fr)->w'.heap[k]?=some (Obj.cells cur T fr)
section
variable{B:Nat}{L L':List TypeId}{w w' w'':nJ}
theorem Fr.trans(h:Fr B L w w')(k:Fr B L w' w''):Fr B L w w'':=⟨h.low.trans k.low,fun j T cur fr hT hh=>k.row j T cur fr hT (h.row j T cur fr hT hh)⟩
theorem Fr.mono(h:Fr B L w w')(hs:∀T∈L,T∈L'):Fr B L' w w':=⟨h.low,fun j T cur fr hT hh=>h.row j T cur fr (fun e=>hT (hs T e)) hh⟩
theorem Fr.gj[hg:au w.heap.size w w'][hl:Le w.heap.size w'][hB:Le B w]:Fr B L w w':=
 ⟨⟨hg.out.1,hg.out.2.1,hg.out.2.2.1,hl.out,fun b hb=>hg.out.2.2.2 b (nL hb hB.out)⟩,fun k T cur fr _ hh=>(hg.out.2.2.2 k (vS hh)).trans hh⟩
theorem Fr.eM{g:Nat}{T:TypeId}{cs:Array nK}(k:bH (fun x=>x=g) w w')(hb:ax w g T cs)(hB:B<=g)(hT:T∈L):Fr B L w w':=
 ⟨k.below (nT hB (nS hb.tN)) (fun b (e:b=g)=>by rw[e];exact hB),fun j T' cur fr hn hh=>(k.block j (vS hh) (by
  rintro rfl
  unfold ax at hb
  rw[hb] at hh
  injection hh with hh
  injection hh with _ ht
  exact hn (ht▸hT))).trans hh⟩
theorem Fr.grown{base n size:Nat}{T:TypeId}{v:nK}{xs:List nK}(hown:w.ownsRow base T size v n xs)(hg:w.grownBy w' v.ownBlock)(hB:B<=base)(hT:T∈L)[hl:Le B w]:Fr B L w w':=by
 refine⟨⟨hg.os,hg.tape,hg.output,hg.size,fun b hb=>hg.block b (nL hb hl.out) fun e=>?_⟩,fun k T' cur fr hn hh=>(hg.block k (vS hh) ?_).trans hh⟩
 ·have:=(hown.lt b e.symm).1;omega
 ·intro e;rcases hown.2 with⟨rfl,_⟩|⟨g,cap,cur',rfl,_,DS,_⟩
  ·simp[Value.ownBlock] at e
  ·have:k=g:=by simpa [Value.ownBlock] using e
   subst this;rw[hh] at DS;injection DS with DS;injection DS with _ ht;exact hn (ht▸hT)
theorem Fr.rest{b base:Nat}{cs:Array nK}(r:Rest b base w w')(hb:ax w b 180 cs)(h1:B<=b)(h2:B<=base)(h3:180∈L)(h4:5∈L):Fr B L w w':=
 ⟨r.eM.below (nT h1 (nS hb.tN)) (fun k (e:k=b\/base<=k)=>by rcases e with rfl|e<;>omega),fun k T cur fr hn hh=>r.row k T cur fr (fun e=>hn (e▸h4)) (by
  rintro rfl
  unfold ax at hb
  rw[hb] at hh
  injection hh with hh
  injection hh with _ ht
  exact hn (ht▸h3)) hh⟩
theorem Fr.Rt(f:Fr B L w w'):au B w w':=⟨⟨f.low.os,f.low.tape,f.low.output,f.low.block⟩⟩
theorem Fr.g8(f:Fr B L w w')(h8:8<=B):au 8 w w':=⟨⟨f.low.os,f.low.tape,f.low.output,fun b hb=>f.low.block b (nL hb h8)⟩⟩
theorem Fr.less(f:Fr B L w w'){B':Nat}(h:B'<=B):Fr B' L w w':=⟨⟨f.low.os,f.low.tape,f.low.output,f.low.size,fun b hb=>f.low.block b (nL hb h)⟩,f.row⟩
theorem ax.fr{b:Nat}{T:TypeId}{cs:Array nK}(h:ax w b T cs)(f:Fr B L w w')(hT:T∉L):ax w' b T cs:=f.row _ _ _ _ hT h
theorem ew{base n size:Nat}{T:TypeId}{v:nK}{xs:List nK}(h:w.ownsRow base T size v n xs)(f:Fr B L w w')(hT:T∉L):w'.ownsRow base T size v n xs:=by
 refine⟨h.1,?_⟩;rcases h.2 with h2|⟨g,cap,cur,rfl,h1,h2,h3⟩
 ·exact .inl h2
 ·exact .inr ⟨g,cap,cur,rfl,h1,f.row _ _ _ _ hT h2,h3⟩
theorem fN.fr{α:Type}{enc:α->List nK}{T:TypeId}{A:Option Addr}{c:Nat}{xs:List α}(h:fN T enc w.heap.size w A c xs)(f:Fr B L w w')(hT:T∉L):fN T enc w'.heap.size w' A c xs:=
 h.lQ f.low.size fun b cur fr _ hh=>(f.row _ _ _ _ hT hh).trans hh.symm
theorem Sl.frB{α:Type}{enc:α->List nK}{A:Option Addr}{c:Nat}{xs:List α}(h:Sl enc B w A c xs)(f:Fr B L w w'):Sl enc B w' A c xs:=by have i:=f.Rt;exact h.up
theorem lK.fr{α:Type}{enc:α->List nK}{T:TypeId}{A:Option Addr}{c:Nat}{xs:List α}(h:lK T enc B w A c xs)(f:Fr B L w w')(hT:T∉L):lK T enc B w' A c xs:=by
 rcases h with h|h
 ·exact .inl (h.frB f)
 ·exact .inr (h.fr f hT)
def Pp:List TypeId:=[23,47,149,93,95,152,74,3]
def AB:List TypeId:=Pp++[241,9,237,35]
theorem aS.fr{r:aQ}{t:aW}(h:aS B w r t)(f:Fr B L w w')(hL:∀T∈Pp,T∉L):aS B w' r t:=
 ⟨⟨h.1.1.fr f (hL _ nU),h.1.2.1.fr f (hL _ nU),h.1.2.2.fr f (hL _ nU)⟩,⟨h.2.1.1.fr f (hL _ nU),h.2.1.2.fr f (hL _ nU)⟩,⟨h.2.2.1.fr f (hL _ nU),h.2.2.2.1.fr f (hL _ nU),h.2.2.2.2.fr f (hL _ nU)⟩⟩
theorem gW.fr{v:nK}{c:dU}(h:gW w v c)(f:Fr B L w w')(hL:∀T∈AB,T∉L):gW w' v c:=by obtain⟨h1,h2,gc,ga,A,cap,rfl,b1,b2,hS⟩:=h;exact⟨h1,h2,gc,ga,A,cap,rfl,b1.fr f (hL _ nU),b2.fr f (hL _ nU),hS.fr f (hL _ nU)⟩
theorem jJ.fr{v:nK}{c:dU}(h:jJ w v c)(f:Fr B L w w')(hL:∀T∈AB,T∉L):jJ w' v c:=by
 obtain⟨h1,h2,h|⟨h3,ga,A,cap,h4,h5,h6⟩⟩:=h
 ·exact⟨h1,h2,.inl h⟩
 ·exact⟨h1,h2,.inr ⟨h3,ga,A,cap,h4,h5.fr f (hL _ nU),h6.fr f (hL _ nU)⟩⟩
theorem lM.fr{X:Nat->Prop}{v:nK}{q:dU}{s:UInt8}{n:Int}(h:lM X w v q s n)(f:Fr B L w w')(hL:∀T∈AB,T∉L):lM X w' v q s n:=by obtain⟨h1,h2,gq,gs,gn,u,rfl,b1,c,b2,x2,b3,x3⟩:=h;exact⟨h1,h2,gq,gs,gn,u,rfl,b1.fr f (hL _ nU),c.fr f hL,b2.fr f (hL _ nU),x2,b3.fr f (hL _ nU),x3⟩
theorem cT.fr(h:cT w)(f:Fr B L w w')(h8:8<=B):cT w':=by have i:=f.g8 h8;exact h.up
theorem Bi.fr{b base:Nat}{l:bz}(h:Bi b base l w)(f:Fr B L w w')(h1:180∉L)(h2:5∉L):Bi b base l w':=by obtain⟨p,v,hb,hp,hown⟩:=h;exact⟨p,v,hb.fr f h1,hp,ew hown f h2⟩
end
structure fK where
 ord:Ord
 gq:Nat
 gs:Nat
 gn:Nat
 gc:Nat
 ga:Nat
instance:Inhabited fK:=⟨⟨⟨0,[]⟩,0,0,0,0,0⟩⟩
def QX(m:fK):nK:=.func (.func 179) #[] #[.pointer (some ⟨m.gq,0,none⟩),.pointer (some ⟨m.gs,0,none⟩),.pointer (some ⟨m.gn,0,none⟩)]
def SQ(m:fK):nK:=.func (.func 160) #[] #[.pointer (some ⟨m.gc,0,none⟩),.pointer (some ⟨m.ga,0,none⟩)]
def zD(m:fK):Array nK:=#[.int .i64 (m.ord.num:Nat),.string (str m.ord.line),QX m,SQ m]
def iR(m:fK):List nK:=[.int .i64 (m.ord.num:Nat),.string (str m.ord.line),QX m,SQ m]
theorem RM(m:fK):(iR m).length=4:=rfl
theorem Qi:∀x:fK,∀u∈iR x,u.oneCell'=true:=by intro x u hu;simp[iR] at hu;rcases hu with rfl|rfl|rfl|rfl<;>rfl
theorem FC(m:fK):(zD m).all (·.oneCell')=true:=by simp[zD,QX,SQ,Value.oneCell']
theorem slM:pF nH 96 103 (.agg #[.int .i64 0,.string ⟨#[]⟩,.nilFunc,.nilFunc]) 4 40:=pF.mk Tryz.underlying96 nP rfl nQ
theorem vi:fT nH 103 4:=fT.mk' Tryz.underlying103 rfl nP
theorem Sl.WR{B:Nat}{w:nJ}{A:Option Addr}{c:Nat}{xs:List fK}(h:Sl iR B w A c xs){k:Nat}(hk:k<xs.length):∃b o,A=some ⟨b,o,none⟩/\b<B/\w.cell? ⟨b,o+k*4,none⟩=some (.int .i64 ((nth xs k).ord.num:Nat))/\w.cell? ⟨b,o+k*4+1,none⟩=some (.string (str (nth xs k).ord.line))/\w.cell? ⟨b,o+k*4+2,none⟩=some (QX (nth xs k))/\w.cell? ⟨b,o+k*4+3,none⟩=some (SQ (nth xs k)):=by obtain⟨b,o,hA,hb,hc⟩:=h.at_ (size:=4) RM hk nQ;refine⟨b,o,hA,hb,?_⟩;rw[bR _ hk];exact⟨hc 0 _ rfl,hc 1 _ rfl,hc 2 _ rfl,hc 3 _ rfl⟩
theorem As{p:fK->Bool}:∀ {os:List fK} {j:Nat},j<os.length->p (nth os j)=true->(∀m,m<j->p (nth os m)=false)->os.findIdx? p=some j
 |[],j,h,_,_=>absurd h (Nat.not_lt_zero _)
 |x::xs,0,_,h,_=>by have h:p x=true:=h;rw[List.findIdx?_cons,if_pos h]
 |x::xs,j+1,hl,h,hn=>by have h0:p x=false:=hn 0 (Nat.succ_pos _);rw[List.findIdx?_cons,if_neg (by rw[h0];decide),As (os:=xs) (j:=j) (Nat.lt_of_succ_lt_succ hl) h fun m hm=>hn (m+1) (Nat.succ_lt_succ hm)];rfl
theorem At{p:fK->Bool}:∀ {os:List fK},(∀m,m<os.length->p (nth os m)=false)->os.findIdx? p=none
 |[],_=>rfl
 |x::xs,hn=>by have h0:p x=false:=hn 0 (Nat.succ_pos _);rw[List.findIdx?_cons,if_neg (by rw[h0];decide),At (os:=xs) fun m hm=>hn (m+1) (Nat.succ_lt_succ hm)];rfl
theorem Ar(f:Ord->Bool):∀ms:List fK,(ms.map (·.ord)).findIdx? f=ms.findIdx? fun m=>f m.ord
 |[]=>rfl
 |m::ms=>by rw[List.map_cons,List.findIdx?_cons,List.findIdx?_cons,Ar f ms]
def wk(X:Nat->Prop)(w:nJ)(m:fK):Prop:=∃q s n c,bK m.ord.line=.ord q s n c/\lM X w (QX m) q s n/\gW w (SQ m) c
theorem wk.fr{X:Nat->Prop}{B:Nat}{L:List TypeId}{w w':nJ}{m:fK}(h:wk X w m)(f:Fr B L w w')(hL:∀T∈AB,T∉L):wk X w' m:=by obtain⟨q,s,n,c,hr,hh,hc⟩:=h;exact⟨q,s,n,c,hr,hh.fr f hL,hc.fr f hL⟩
structure bZ(X:Nat->Prop)(B D:Nat)(W:nJ)(k:cP)(d:cE)(ms:List fK):Prop where
 eE:A7 B D W k d
 row:W.ownsRow B 103 4 (.slice k.oA d.aC.length k.oc) d.aC.length (ms.flatMap iR)
 map:ms.map (·.ord)=d.aC
 each:∀m∈ms,wk X W m
theorem bZ.len{X:Nat->Prop}{B D:Nat}{W:nJ}{k:cP}{d:cE}{ms:List fK}(h:bZ X B D W k d ms):ms.length=d.aC.length:=by rw[<-h.map,List.length_map]
theorem bZ.qv{X:Nat->Prop}{B D:Nat}{W:nJ}{k:cP}{d:cE}{ms:List fK}(h:bZ X B D W k d ms){i:Nat}(hi:i<d.aC.length):(nth ms i).ord=nth d.aC i:=by rw[<-h.map,jC _ _ (by rw[h.len];exact hi)]
theorem bZ.fr{X:Nat->Prop}{B D:Nat}{L:List TypeId}{w w':nJ}{k:cP}{d:cE}{ms:List fK}(h:bZ X B D w k d ms)(f:Fr B L w w')(hL:∀T∈AB,T∉L)(h1:98∉L)(h2:103∉L):bZ X B D w' k d ms:=
 ⟨⟨h.eE.box.fr f h1,h.eE.az.fr f fun T hT=>hL T (List.mem_append_left _ hT),h.eE.low⟩,ew h.row f h2,h.map,fun m hm=>(h.each m hm).fr f hL⟩
theorem bZ.le{X:Nat->Prop}{B D:Nat}{W:nJ}{k:cP}{d:cE}{ms:List fK}(h:bZ X B D W k d ms):Le B W:=⟨nT h.eE.low (nS h.eE.lt)⟩
theorem bZ.up{X:Nat->Prop}{B D:Nat}{W W':nJ}{k:cP}{d:cE}{ms:List fK}(h:bZ X B D W k d ms)[hg:au W.heap.size W W'][hl:Le W.heap.size W']:bZ X B D W' k d ms:=by have i:=h.le;exact h.fr (L:=[]) Fr.gj (fun _ _=>List.not_mem_nil) List.not_mem_nil List.not_mem_nil
def jI:List TypeId:=[98,103]
end
section
open Hd
theorem Kx(w:nJ)(ty:TypeId)(g o c:Nat)(h0:∀j,j<4->(w.cell? ⟨g,o+j,none⟩).isSome=true)(f0:∀j,j<4->w.frozen? ⟨g,o+j,none⟩=false):(Builtin.clear_ #[96] ty #[.slice (some ⟨g,o,none⟩) 1 c]).run nH w=.ok (.tuple #[]) (w.setCells g o [.int .i64 0,.string ⟨#[]⟩,.nilFunc,.nilFunc]):=by
 obtain⟨i,hu,hi,hz,_⟩:=slM;have hv:∀w,(zeroValue 103).run nH w=.ok (.agg #[.int .i64 0,.string ⟨#[]⟩,.nilFunc,.nilFunc]) w:=fun w=>by kernel_rfl
 have hst:=run_storeCells_cells (P:=nH) g o [.int .i64 0,.string ⟨#[]⟩,.nilFunc,.nilFunc] 0 w (by
  intro j hj
  simpa using h0 j (by simpa using hj)) (by
  intro j hj
  simpa using f0 j (by simpa using hj)) (by intro v hv;simp at hv;(repeat' rcases hv with rfl|hv)<;>first|rfl|(subst hv;rfl))
 have hzc:(Builtin.zeroCells (Value.agg #[.int .i64 0,.string ⟨#[]⟩,.nilFunc,.nilFunc]).cells 1).toList=[.int .i64 0,.string ⟨#[]⟩,.nilFunc,.nilFunc]:=by kernel_rfl
 simp only[Nat.add_zero] at hst;simp[Builtin.clear_,run_underlying hu,hv,hzc,hst]
theorem CI(B:Nat)(g c i k:Nat)(ps:List fK)(w:nJ)[hW:Le B w](h:w.ownsRow B 103 4 (.slice (some ⟨g,0,none⟩) (k+1) c) (k+1) (ps.flatMap iR))(hl:ps.length=k+1)(hi:i<=k)(hk:k<=100):Calls nH 95 #[.slice (some ⟨g,0,none⟩) (k+1) c,.int .i64 i,.int .i64 ((i:Int)+1)] w fun e w'=>e=.returned (.slice (some ⟨g,0,none⟩) k c)/\bH (fun x=>x=g) w w'/\w'.ownsRow B 103 4 (.slice (some ⟨g,0,none⟩) k c) k ((ps.take i++ps.drop (i+1)).flatMap iR):=by
 obtain⟨cs,jh,Rg,hnc,LP,hsz,hcs⟩:=AP h;obtain⟨ti,hu,Ux,hz,hts,_⟩:=slM;have ack:c<=9223372036854775807:=LP;have hlen:(ps.flatMap iR).length=(k+1)*4:=by rw[bX iR 4 (fun _=>rfl),hl]
 obtain⟨news,hnews⟩:∃news,news=(ps.drop (i+1)).flatMap iR:=⟨_,rfl⟩;have xm:news.length=(k-i)*4:=by rw[hnews,bX iR 4 (fun _=>rfl),List.length_drop,hl];omega
 have hcell:∀j v,(ps.flatMap iR)[j]?=some v->w.cell? ⟨g,j,none⟩=some v:=fun j v hj=>by
  refine jh.cell ?_;rw[<-hcs,List.getElem?_take] at hj;split at hj
  ·simpa using hj
  ·cases hj
 have hall:∀j,j<(k+1)*4->(w.cell? ⟨g,j,none⟩).isSome=true:=fun j hj=>by
  have:j<(ps.flatMap iR).length:=by rw[hlen];exact hj
  rw[hcell j _ (List.getElem?_eq_getElem this)];rfl
 have hsplit:ps.flatMap iR=(ps.take (i+1)).flatMap iR++news:=by rw[hnews,<-List.flatMap_append,List.take_append_drop]
 have Ih:((ps.take (i+1)).flatMap iR).length=(i+1)*4:=by rw[bX iR 4 (fun _=>rfl),List.length_take,hl,Nat.min_eq_left nQ]
 obtain⟨A,hA,hsrc⟩:∃A:Addr,(if c=i+1 then some (⟨g,0,none⟩:Addr) else some ⟨g,(i+1)*4,none⟩)=some A/\Hid (∀t u,news[t]?=some u->w.drew.cell? (A.add t)=some u):=by
  by_cases hc:c=i+1
  ·refine⟨⟨g,0,none⟩,by simp[hc],fun t u hu=>?_⟩;have h0:news.length=0:=by rw[xm];omega
   rw[List.length_eq_zero_iff.1 h0] at hu;simp at hu
  ·refine⟨⟨g,(i+1)*4,none⟩,by simp[hc],fun t u hu=>?_⟩;rw[Addr.add_lit];show w.cell? _=_;refine hcell _ _ ?_;rw[hsplit,List.getElem?_append_right (by rw[Ih];omega),Ih,Nat.add_sub_cancel_left];exact hu
 have s2:Hid (∀u∈news,u.oneCell'=true):=by rw[hnews];exact ei iR Qi _
 have s3:Hid (∀t,t<news.length->(w.drew.cell? ⟨g,0+i*4+t,none⟩).isSome=true/\w.drew.frozen? ⟨g,0+i*4+t,none⟩=false):=fun t ht=>by rw[xm] at ht;exact⟨hall _ nQ,jh.free _⟩
 obtain⟨cs1,kL,hz1,ht1⟩:=ax.ql news (0+i*4) (show ax w.drew g _ cs from jh.drew) (by rw[xm,hsz];omega);obtain⟨W2,eJ⟩:∃W2,w.drew.setCells g (0+i*4) news=W2:=⟨_,rfl⟩;rw[eJ] at kL;have Rc:∀j,j<(k+1)*4->(W2.cell? ⟨g,j,none⟩).isSome=true:=fun j hj=>by
  have:j<cs1.size:=by rw[hz1,hsz];omega
  rw[kL.cell (i:=j) (Array.getElem?_eq_getElem this)];rfl
 have hcl:∀ty,(Builtin.clear_ #[96] ty #[.slice (some ⟨g,k*4,none⟩) 1 (c-k)]).run nH W2=.ok (.tuple #[]) (W2.setCells g (k*4) [.int .i64 0,.string ⟨#[]⟩,.nilFunc,.nilFunc]):=fun ty=>
  Kx W2 ty g (k*4) (c-k) (fun j hj=>Rc _ nQ) (fun j hj=>kL.free _)
 obtain⟨cs2,gM,uk,ND⟩:=ax.ql [.int .i64 0,.string ⟨#[]⟩,.nilFunc,.nilFunc] (k*4) kL (by rw[hz1,hsz];simp only[List.length_cons,List.length_nil];omega);have bQ:bH (fun x=>x=g) w (W2.setCells g (k*4) [.int .i64 0,.string ⟨#[]⟩,.nilFunc,.nilFunc]):=by rw[<-eJ];exact bH.setCells _ _ _ _ (bH.setCells _ _ _ _ ((bH.refl _ w).drew))
 have Uz:(W2.setCells g (k*4) [.int .i64 0,.string ⟨#[]⟩,.nilFunc,.nilFunc]).ownsRow B 103 4 (.slice (some ⟨g,0,none⟩) k c) k ((ps.take i++ps.drop (i+1)).flatMap iR):=by
  have e1:(ps.take i).flatMap iR=cs.toList.take (i*4):=by
   have:=congrArg (List.take (i*4)) hcs;rw[List.take_take,Nat.min_eq_left nQ] at this;rw[this];have e:ps.flatMap iR=(ps.take i).flatMap iR++(ps.drop i).flatMap iR:=by rw[<-List.flatMap_append,List.take_append_drop]
   rw[e,List.take_left' (by rw[bX iR 4 (fun _=>rfl),List.length_take,hl,Nat.min_eq_left nQ])]
  have hcl:cs.toList.length=c*4:=by rw[Array.length_toList,hsz]
  have e2:((ps.take i++ps.drop (i+1)).flatMap iR)=cs.toList.take (i*4)++news:=by rw[List.flatMap_append,e1,hnews]
  refine zx gM Rg nQ LP (by rw[uk,hz1,hsz]) ?_ ?_
  ·rw[ND,ht1,e2];have l1:(cs.toList.take (0+i*4)++news).length=k*4:=by rw[List.length_append,List.length_take,hcl,xm];omega
   rw[List.append_assoc,List.take_append_of_le_length (by rw[List.length_take,List.length_append,l1];omega),List.take_take,Nat.min_self,List.take_left' l1,Nat.zero_add]
  ·rw[e2,List.length_append,List.length_take,hcl,xm];omega
 refine QDD ?_;intro W2' HF HB HU HI HT HNL f1 f2 f3 f4 f5 f6 f7 f8 f9;clear h hl jh hcs hlen hnews hcell hall hsplit Ih kL ht1 hz1 Rc gM uk ND bQ Uz hu Ux hz hts xm eJ LP hsz;go_enter Tryz.func95,Tryz.ntmps95;go_wp2_with fail;go_region_law (refine pH rfl (.tmp 22) (.tmp 25) 96 rfl 103 ti 4 HU.out HI.out HT.out g 0 i c (by simp[Act.eval,Act.put]) A (k-i) (c-(i+1)) news (by simp[Act.eval,Act.put]) HNL.out hsrc.out s2.out nQ s3.out k nQ W2 W2'.out ?_);go_wp2;go_ret;exact⟨rfl,HB.out,HF.out⟩
end
section
open Hd
theorem aan(m:fK)(x:Int)(ga:Nat)(A:Option Addr)(cap:Nat)(w:nJ)(hA:ax w ga 35 #[.slice A 1 cap])(hS:Sl aI w.heap.size w A cap [x]):Calls nH 94 #[.agg #[.int .i64 (m.ord.num:Nat),.string (str m.ord.line),QX m,SQ m],.pointer (some ⟨ga,0,none⟩)] w fun e w'=>e=.returned (.bool (decide ((m.ord.num:Int)=x)))/\∃δ,w'=af w δ:=by
 obtain⟨bb,oo,rfl,ir,dd⟩:=hS.int (k:=0) nV;have dd:w.cell? ⟨bb,oo,none⟩=some (.int .i64 x):=dd;have ib:Lt bb w:=⟨ir⟩;have ig:=hA.lt;have y0:=hA.cell (i:=0) (v:=.slice (some ⟨bb,oo,none⟩) 1 cap) rfl;obtain⟨nm,hnm⟩:∃n,m.ord.num=n:=⟨_,rfl⟩;obtain⟨ln,jg⟩:∃n,str m.ord.line=n:=⟨_,rfl⟩;obtain⟨v2,h2⟩:∃n,QX m=n:=⟨_,rfl⟩;obtain⟨v3,h3⟩:∃n,SQ m=n:=⟨_,rfl⟩;rw[hnm,jg,h2,h3];clear hA hS ir hnm jg h2 h3;go_enter Tryz.func94,Tryz.ntmps94;go_upto_region 1 with fail;refine aL fun W1 aH=>?_;have j1:Lt w.heap.size W1:=nt aH;have b1:ax W1 w.heap.size 103 #[.int .i64 (nm:Nat),.string ln,v2,v3]:=by rw[aH.out];exact ax.new rfl
 have x0:=b1.cell (i:=0) (v:=.int .i64 (nm:Nat)) rfl;have y1:W1.cell? ⟨ga,0,none⟩=some (.slice (some ⟨bb,oo,none⟩) 1 cap):=by rw[aH.out];go_simp
 have y2:W1.cell? ⟨bb,oo,none⟩=some (.int .i64 x):=by rw[aH.out];go_simp
 have ib1:Lt bb W1:=nt aH;have ig1:Lt ga W1:=nt aH;have q1:au w.heap.size w W1:=gu aH;have q2:Le w.heap.size W1:=fI aH;clear aH b1;by_cases hx:(nm:Int)=x
 ·subst hx;refine wpRl ?_;repeat (go_big_quiet_step ((first|(fail))))
  refine QBT ?_;rintro _ ⟨δq,rfl⟩;go_wp2_with fail;go_ret;exact⟨nV,ag⟩
 ·have hx':((nm:Int)==x)=false:=beq_eq_false_iff_ne.2 hx;refine wpRl ?_;repeat (go_big_quiet_step ((first|(fail))))
  refine QBT ?_;rintro _ ⟨δq,rfl⟩;go_wp2_with fail;go_ret;exact⟨by simp[hx],ag⟩
theorem Jt(ms:List fK)(x:Int)(ga:Nat)(A0:Option Addr)(KJ:Nat)(hl:ms.length<=1000)(A:Option Addr)(c:Nat)(w:nJ)(hM:Sl iR w.heap.size w A c ms)(hA:ax w ga 35 #[.slice A0 1 KJ])(hS:Sl aI w.heap.size w A0 KJ [x]):Calls nH 93 #[.slice A ms.length c,.func (.func 94) #[] #[.pointer (some ⟨ga,0,none⟩)]] w fun e w'=>e=.returned (.int .i64 (vN (ms.findIdx? fun m=>decide ((m.ord.num:Int)=x))))/\∃δ,w'=af w δ:=by
 have HM:=qh hM;have HA:=qh hA;have HS:=qh hS;have hcc:ms.length<=c:=hM.1;clear hM hA hS;go_enter Tryz.func93,Tryz.ntmps93;go_upto_region 2 with fail;go_loopg [8] ms.length (fun gn i wr=>∃(j:Nat) (δ:nJ),j<=ms.length/\gn=ms.length-j/\i=.int .i64 j/\wr=af w δ/\Hid (∀p,p<j->decide (((nth ms p).ord.num:Int)=x)=false))
 case atStart=>exact⟨0,w,nE _,rfl,rfl,(bw w).symm,qh fun p hp=>absurd hp (Nat.not_lt_zero _)⟩
 case round=>
  obtain⟨j,δ,hj,rfl,rfl,rfl,HN⟩:=hrel;by_cases hlt:j<ms.length
  ·have hji:(j:Int)<(ms.length:Int):=nQ;have hj0:¬(j:Int)<0:=nQ;obtain⟨ob,oo,rfl,DQ,e0,e1,e2,e3⟩:=(HM.out.up (w':=af w δ)).WR hlt;have lob:Lt ob w:=⟨DQ⟩;have HF:Hid (∀W:nJ,au w.heap.size w W->Le w.heap.size W->Calls nH 94 #[.agg #[.int .i64 ((nth ms j).ord.num:Nat),.string (str (nth ms j).ord.line),QX (nth ms j),SQ (nth ms j)],.pointer (some ⟨ga,0,none⟩)] W fun e w'=>e=.returned (.bool (decide (((nth ms j).ord.num:Int)=x)))/\∃δ,w'=af W δ):=
    qh fun W i1 i2=>aan (nth ms j) x ga A0 KJ W HA.out.dM HS.out.wide
   obtain⟨bb,ir⟩:∃b,decide (((nth ms j).ord.num:Int)=x)=b:=⟨_,rfl⟩;rw[ir] at HF;have HB:=qh ir;obtain⟨nm,hnm⟩:∃n,(nth ms j).ord.num=n:=⟨_,rfl⟩;obtain⟨ln,jg⟩:∃n,str (nth ms j).ord.line=n:=⟨_,rfl⟩;obtain⟨v2,h2⟩:∃n,QX (nth ms j)=n:=⟨_,rfl⟩;obtain⟨v3,h3⟩:∃n,SQ (nth ms j)=n:=⟨_,rfl⟩;rw[hnm,jg,h2,h3] at HF;rw[hnm] at e0;rw[jg] at e1;rw[h2] at e2;rw[h3] at e3;clear ir hnm jg h2 h3 DQ;cases bb with
   |true=>
    have HX:Hid (vN (ms.findIdx? fun m=>decide ((m.ord.num:Int)=x))=(j:Int)):=qh (by rw[As hlt HB.out HN.out];rfl)
    clear HN
    go_wp2_with (go_at_call 94;refine(HF.out _ inferInstance inferInstance).mono ?_;rintro e w1 ⟨rfl,δ1,rfl⟩)
    go_ret
    exact⟨by rw[HX.out];rfl,ag⟩
   |false=>
    go_wp2_with (go_at_call 94;refine(HF.out _ inferInstance inferInstance).mono ?_;rintro e w1 ⟨rfl,δ1,rfl⟩)
    go_roundg (ms.length-(j+1))
    case measure=>omega
    case rel=>
     refine⟨j+1,_,nQ,rfl,by go_num,aq,qh fun p hp=>?_⟩;rcases Nat.lt_succ_iff_lt_or_eq.1 hp with h|rfl
     ·exact HN.out p h
     ·exact HB.out
  ·obtain rfl:j=ms.length:=by omega
   have hjn:¬((ms.length:Int)<(ms.length:Int)):=nQ;have HX:Hid (vN (ms.findIdx? fun m=>decide ((m.ord.num:Int)=x)) = -1):=qh (by rw[At HN.out];rfl);clear HN;go_wp2_with fail;go_ret;exact⟨by rw[HX.out];rfl,ag⟩
theorem zC(ms:List fK)(x:Int)(ga:Nat)(A0:Option Addr)(KJ ln:Nat)(jg:ms.length=ln)(hl:ms.length<=1000)(A:Option Addr)(c:Nat)(w:nJ)(hM:Sl iR w.heap.size w A c ms)(hA:ax w ga 35 #[.slice A0 1 KJ])(hS:Sl aI w.heap.size w A0 KJ [x]):Calls nH 93 #[.slice A ln c,.func (.func 94) #[] #[.pointer (some ⟨ga,0,none⟩)]] w fun e w'=>e=.returned (.int .i64 (vN (ms.findIdx? fun m=>decide ((m.ord.num:Int)=x))))/\∃δ,w'=af w δ:=by subst jg;exact Jt ms x ga A0 KJ hl A c w hM hA hS
theorem K6(k:cP)(d:cE)(ms:List fK)(hv:aG d.az=true)(c:dU)(v:nK)(X:Nat->Prop)(B D:Nat)(w:nJ)(hD:bZ X B D w k d ms)(hC:gW w v c):Calls nH 89 #[.pointer (some ⟨D,0,none⟩),v] w fun e w'=>∃k':cP,e=.returned (.bool (fW d.az c).isSome)/\bZ X B D w' k' ⟨iH d.az c,d.aC,d.given⟩ ms/\Fr B [98] w w':=by refine(Wh k d hv c v B D w hD.eE hC).mono ?_;rintro e w1 ⟨r',rfl,hd,hk⟩;have f:Fr B [98] w w1:=Fr.eM hk hD.eE.box hD.eE.low nV;exact⟨⟨r',k.oA,k.oc⟩,rfl,⟨hd,ew hD.row f nU,hD.map,fun m hm=>(hD.each m hm).fr f nU⟩,f⟩
end
section
open Hd
def lN(X:Nat->Prop)(B D:Nat)(w:nJ)(x:cE × bz)(e:Ending)(w':nJ):Prop:=∃(k':cP) (ms':List fK),e=.returned (.string (str x.2))/\bZ X B D w' k' x.1 ms'/\Fr B jI w w'
theorem bZ.first{X:Nat->Prop}{B D:Nat}{w:nJ}{k:cP}{d:cE}{ms:List fK}(h:bZ X B D w k d ms)(h0:0<d.aC.length):∃g,k.oA=some ⟨g,0,none⟩/\B<=g/\∃cs,ax w g 103 cs:=by
 rcases h.row.2 with⟨hv,_⟩|⟨g,cap,cur,hv,h1,h2,_⟩
 ·injection hv with _ hn _;omega
 ·injection hv with hA _ _;exact⟨g,hA,h1,cur,h2⟩
theorem bZ.acQ{X:Nat->Prop}{B D:Nat}{w:nJ}{k:cP}{d:cE}{ms:List fK}(h:bZ X B D w k d ms)(g:Nat):bZ X B D (w.setCell ⟨D,15,none⟩ (.int .i64 (g:Nat))) k ⟨d.az,d.aC,g⟩ ms/\Fr B jI w (w.setCell ⟨D,15,none⟩ (.int .i64 (g:Nat))):=by
 have f:Fr B [98] w (w.setCell ⟨D,15,none⟩ (.int .i64 (g:Nat))):=Fr.eM ((bH.refl (fun x=>x=D) w).set (b:=D) rfl 15 _) h.eE.box h.eE.low nV;refine⟨⟨⟨?_,h.eE.az.fr f nU,h.eE.low⟩,ew h.row f nU,h.map,fun m hm=>(h.each m hm).fr f nU⟩,f.mono nU⟩;have e:cD k ⟨d.az,d.aC,g⟩=(cD k d).setIfInBounds 15 (.int .i64 (g:Nat)):=by simp[cD]
 rw[e];exact h.eE.box.set 15 _
theorem bZ.del{X:Nat->Prop}{B D:Nat}{w w1:nJ}{k:cP}{d:cE}{ms:List fK}(h:bZ X B D w k d ms){i n g:Nat}(hi:i<d.aC.length)(hn:d.aC.length=n+1)(hA:k.oA=some ⟨g,0,none⟩)(kp:bH (fun x=>x=g) w w1)(row:w1.ownsRow B 103 4 (.slice (some ⟨g,0,none⟩) n k.oc) n ((ms.take i++ms.drop (i+1)).flatMap iR)):bZ X B D (w1.setCell ⟨D,14,none⟩ (.slice (some ⟨g,0,none⟩) n k.oc)) ⟨k.az,some ⟨g,0,none⟩,k.oc⟩ ⟨d.az,d.aC.eraseIdx i,d.given⟩ (ms.eraseIdx i)/\Fr B jI w (w1.setCell ⟨D,14,none⟩ (.slice (some ⟨g,0,none⟩) n k.oc)):=by
 obtain⟨g',p5,hB,cs,hb⟩:=h.first nQ;rw[hA] at p5;injection p5 with p5;injection p5 with hg;subst hg;have f1:Fr B [103] w w1:=Fr.eM kp hb hB nV;have Rq:=h.eE.box.fr f1 nU;have f2:Fr B [98] w1 (w1.setCell ⟨D,14,none⟩ (.slice (some ⟨g,0,none⟩) n k.oc)):=Fr.eM ((bH.refl (fun x=>x=D) w1).set (b:=D) rfl 14 _) Rq h.eE.low nV;have hl:(d.aC.eraseIdx i).length=n:=by rw[List.length_eraseIdx_of_lt hi,hn];rfl
 refine⟨⟨⟨?_,(h.eE.az.fr f1 nU).fr f2 nU,h.eE.low⟩,?_,?_,fun m hm=>((h.each m (List.mem_of_mem_eraseIdx hm)).fr f1 nU).fr f2 nU⟩,(f1.mono nU).trans (f2.mono nU)⟩
 ·have e:cD ⟨k.az,some ⟨g,0,none⟩,k.oc⟩ ⟨d.az,d.aC.eraseIdx i,d.given⟩=(cD k d).setIfInBounds 14 (.slice (some ⟨g,0,none⟩) n k.oc):=by simp[cD,hl]
  rw[e];exact Rq.set 14 _
 ·show World.ownsRow _ B _ 4 (.slice (some ⟨g,0,none⟩) (d.aC.eraseIdx i).length k.oc) (d.aC.eraseIdx i).length _;rw[hl,List.eraseIdx_eq_take_drop_succ];exact ew row f2 nU
 ·show(ms.eraseIdx i).map _=d.aC.eraseIdx i;rw[<-h.map,List.eraseIdx_eq_take_drop_succ,List.eraseIdx_eq_take_drop_succ,List.map_append,List.map_take,List.map_drop]
theorem wk.up{X:Nat->Prop}{w W:nJ}{m:fK}(h:wk X w m)[hg:au w.heap.size w W][hl:Le w.heap.size W]:wk X W m:=by obtain⟨q,s,n,c,hr,hh,hc⟩:=h;exact⟨q,s,n,c,hr,hh.up,hc.up⟩
theorem sized{w:nJ}{B:Nat}(h:B<=w.heap.size):∃W0:nJ,B=W0.heap.size:=⟨{ w with heap:=w.heap.extract 0 B },by simp;omega⟩
theorem bZ.add{X:Nat->Prop}{B D:Nat}{w w1:nJ}{k:cP}{d:cE}{ms:List fK}{m:fK}{A:Option Addr}{c n:Nat}(hg:w.grownBy w1 (Value.slice k.oA n k.oc).ownBlock)(row:w1.ownsRow B 103 4 (.slice A (n+1) c) (n+1) (ms.flatMap iR++iR m))(h:bZ X B D w k d ms)(hn:d.aC.length=n)(hm:wk X w m):bZ X B D (w1.setCell ⟨D,14,none⟩ (.slice A (n+1) c)) ⟨k.az,A,c⟩ ⟨d.az,d.aC++[m.ord],d.given⟩ (ms++[m])/\Fr B jI w (w1.setCell ⟨D,14,none⟩ (.slice A (n+1) c)):=by
 subst hn;have lB:=h.le;have f1:Fr B [103] w w1:=Fr.grown h.row hg (nR _) nV;have Rq:=h.eE.box.fr f1 nU;have f2:Fr B [98] w1 (w1.setCell ⟨D,14,none⟩ (.slice A (d.aC.length+1) c)):=Fr.eM ((bH.refl (fun x=>x=D) w1).set (b:=D) rfl 14 _) Rq h.eE.low nV;have hl:(d.aC++[m.ord]).length=d.aC.length+1:=nV;refine⟨⟨⟨?_,(h.eE.az.fr f1 nU).fr f2 nU,h.eE.low⟩,?_,?_,fun x hx=>?_⟩,(f1.mono nU).trans (f2.mono nU)⟩
 ·have e:cD ⟨k.az,A,c⟩ ⟨d.az,d.aC++[m.ord],d.given⟩=(cD k d).setIfInBounds 14 (.slice A (d.aC.length+1) c):=by simp[cD]
  rw[e];exact Rq.set 14 _
 ·show World.ownsRow _ B _ 4 (.slice A (d.aC++[m.ord]).length c) (d.aC++[m.ord]).length _;rw[hl,List.flatMap_append,List.flatMap_cons,List.flatMap_nil,List.append_nil];exact ew row f2 nU
 ·show(ms++[m]).map _=d.aC++[m.ord];rw[List.map_append,h.map];rfl
 ·rcases List.mem_append.1 hx with hx|hx
  ·exact((h.each x hx).fr f1 nU).fr f2 nU
  ·simp only[List.mem_singleton] at hx;subst hx;exact(hm.fr f1 nU).fr f2 nU
section
variable{P:Program}{W:nJ}{b:Nat}{T ty:TypeId}{cs cs':Array nK}{ops:Array Oper}{o:Oper}{a:Act}{n off:Nat}
theorem kU{S:nJ->Prop}(hT:fT P ty n)(hw:Region.wanted o (yielded ops a.tmps)=true)(x:Operand)(ho:o.op=.load ty x)(hx:a.eval x=.pointer (some ⟨b,off,none⟩))(hS:∀w,S w->ax w b T cs)(he:(cs.toList.drop off).take n=cs'.toList)(hn:cs'.size=n):YieldsIf P ops S o (.agg cs') a:=by obtain⟨⟨d,h1,h2⟩,h3⟩:=hT;subst hn;have:=yieldsIf_load_mid (S:=S) hw ty x ho b off hx cs'.toList d (fun w h=>(hS w h).range he) h1 h2 (by rw[h3];simp);simpa using this
end
end
section
open Hd
open Go.Shelf
theorem T8:Lays.n169 nH Tryz.sL where
 mixed:=Tryz.dG.mixed
 f169:=Tryz.dG.f169
 t0:=Tryz.dG.t0
 a0:=Tryz.dG.a0
 z0:=Tryz.dG.z0
 v0:=Tryz.dG.v0
 t3:=Tryz.dG.t3
 a3:=Tryz.dG.a3
 z3:=Tryz.dG.z3
 v3:=Tryz.dG.v3
 t9:=Tryz.dG.t9
 a9:=Tryz.dG.a9
 z9:=Tryz.dG.z9
 v9:=Tryz.dG.v9
 t37:=Tryz.dG.t37
 a37:=Tryz.dG.a37
 z37:=Tryz.dG.z37
 v37:=Tryz.dG.v37
 t70:=Tryz.dG.t70
 a70:=Tryz.dG.a70
 z70:=Tryz.dG.z70
 v70:=Tryz.dG.v70
 t72:=Tryz.dG.t72
 a72:=Tryz.dG.a72
 z72:=Tryz.dG.z72
 v72:=Tryz.dG.v72
 t127:=Tryz.dG.t127
 a127:=Tryz.dG.a127
 z127:=Tryz.dG.z127
 v127:=Tryz.dG.v127
theorem jy{w:nJ}{base base':Nat}{e:TypeId}{size n:Nat}{v:nK}{xs:List nK}(h:w.ownsRow base e size v n xs)(hb:base'<=base):w.ownsRow base' e size v n xs:=by
 refine⟨h.1,?_⟩;rcases h.2 with h2|⟨g,cap,cur,hv,hg,r⟩
 ·exact .inl h2
 ·exact .inr ⟨g,cap,cur,hv,nT hb hg,r⟩
theorem Bi.is{b base B:Nat}{l:bz}{w:nJ}(h:Bi b base l w)(h1:B<=b)(h2:B<=base):Lib.IsBuilderF 180 5 B b (Lib.byteCells l) w:=by
 obtain⟨p,v,hb,hp,hown⟩:=h;have hne:=Lib.ownBlock_ne hown hb nU;have ho:w.ownsRow B 5 1 v (Lib.byteCells l).length (Lib.byteCells l):=by rw[Lib.byteCells_length];exact jy hown h2
 refine Lib.IsBuilderF.of ?_;rcases hp with rfl|rfl
 ·exact .inl ⟨h1,v,hb,ho,hne⟩
 ·exact .inr ⟨h1,v,hb,ho,hne⟩
def Sn:List TypeId:=[180,5]
theorem OE(b base B:Nat)(l:bz)(w:nJ)(h:Bi b base l w)(h1:B<=b)(h2:B<=base)(hB:B<=w.heap.size):Calls nH 98 #[.pointer (some ⟨b,0,none⟩)] w fun e w'=>e=.returned (.string (str l))/\Fr B Sn w w':=by
 have hc:Calls nH 98 #[.pointer (some ⟨b,0,none⟩)] w fun e w'=>e=.returned (.string ⟨l.toArray⟩)/\(Lib.IsBuilderF 180 5 B b (Lib.byteCells l) w'/\Below B w w'/\Lib.OthersKept 5 (some b) w w'):=Any.Builder_String_any_k T8 Tryz.pR B b l w (h.is h1 h2) hB;refine hc.mono ?_;rintro e w' ⟨rfl,_,hb,hk⟩;refine⟨rfl,hb,fun k T cur fr hn hh=>hk k _ hh ?_ ?_⟩
 ·intro e;injection e with e;subst e;obtain⟨p,v,hb',_⟩:=h;unfold ax at hb';rw[hb'] at hh;injection hh with hh;injection hh with _ ht;exact hn (by simp[Sn,<-ht])
 ·rintro c fz e;injection e with _ ht;exact hn (by simp[Sn,ht])
theorem UW(w w2:nJ)(base:Nat)(h:w2.heap[w.heap.size]?=some (.cells #[.pointer none,.slice none 0 0] 180 (0,0))):Bi w.heap.size base [] w2:=
 ⟨none,.slice none 0 0,h,.inl rfl,World.ownsRow_nil _ _ _ _⟩
theorem Bi.box{b base:Nat}{l:bz}{w:nJ}(h:Bi b base l w):∃cs,ax w b 180 cs:=by obtain⟨p,v,hb,_⟩:=h;exact⟨_,hb⟩
theorem Fr.after{B:Nat}{L L':List TypeId}{w w1 w2:nJ}(f:Fr B L w w1)(g:Fr w.heap.size L' w1 w2)(hB:B<=w.heap.size):Fr B L w w2:=
 ⟨f.low.trans ⟨g.low.os,g.low.tape,g.low.output,g.low.size,fun b hb=>g.low.block b (nL hb hB)⟩,fun k T cur fr hT hh=>(g.low.block k (vS hh)).trans (f.row k T cur fr hT hh)⟩
structure SR(d0 d:cE)(mh:bz):Prop where
 val:aG d.az=true
 ord:gL d.aC
 num:oZ d.aC
 eq:dO d0.aC.length d0=((dO d.aC.length d).1,mh++(dO d.aC.length d).2)
 len:mh.length+20*d.aC.length<=100
theorem SR.start{d:cE}(hv:aG d.az=true)(ho:gL d.aC)(hn:oZ d.aC):SR d d []:=⟨hv,ho,hn,rfl,by have:=ho.1;simp;omega⟩
theorem SR.next{d0 d:cE}{mh:bz}(h:SR d0 d mh){j:Nat}(hf:ie d.az d.aC=some j){c:dU}(hc:yU (bK (nth d.aC j).line)=c):SR d0 ⟨iH d.az c,d.aC.eraseIdx j,d.given⟩ (mh++lZ (nth d.aC j).num (fW d.az c).isSome):=by
 have hj:=(Aq hf).1;obtain⟨m,hm⟩:∃m,d.aC.length=m+1:=⟨d.aC.length-1,nQ⟩;have hl:(d.aC.eraseIdx j).length=m:=by rw[List.length_eraseIdx_of_lt hj,hm];rfl
 refine⟨rI h.val c,qW h.ord j,mB h.num j,?_,?_⟩
 ·rw[h.eq,hm,dO,hf];simp only[hc,hl,List.append_assoc]
 ·have h1:=vg (h.num _ (aV d.aC hj)).1 (fW d.az c).isSome;have h2:=h.len;simp only[List.length_append,hl];rw[hm] at h2;omega
theorem SR.fin{d0 d:cE}{mh:bz}(h:SR d0 d mh)(hf:ie d.az d.aC=none):dO d0.aC.length d0=(d,mh):=by rw[h.eq,za hf,List.append_nil]
theorem Xq{f a b c x y z:Nat}(h:Value.func (.func f) #[] #[.pointer (some ⟨a,0,none⟩),.pointer (some ⟨b,0,none⟩),.pointer (some ⟨c,0,none⟩)]=Value.func (.func f) #[] #[.pointer (some ⟨x,0,none⟩),.pointer (some ⟨y,0,none⟩),.pointer (some ⟨z,0,none⟩)]):a=x/\b=y/\c=z:=by simp at h;exact h
theorem Ur(X:Nat->Prop)(r:aQ)(t:aW)(hv:aG t=true)(m:fK)(q:dU)(s:UInt8)(n:Int)(B:Nat)(w:nJ)(hT:aJ B w r t)[hB:Le B w](hH:lM X w (QX m) q s n):Calls nH 179 #[aO r t,.pointer (some ⟨m.gq,0,none⟩),.pointer (some ⟨m.gs,0,none⟩),.pointer (some ⟨m.gn,0,none⟩)] w fun e w'=>e=.returned (.bool (cY t q s n))/\∃δ,w'=af w δ:=by obtain⟨gq,gs,gn,hv',hc⟩:=Rp X r t hv q s n _ B w hT hH;obtain⟨rfl,rfl,rfl⟩:=Xq hv';exact hc
end
section
open Hd
theorem IG(k:cP)(d:cE)(ms:List fK)(hv:aG d.az=true)(ho:gL d.aC)(hn:oZ d.aC)(X:Nat->Prop)(B D:Nat)(w:nJ)(h8:8<=B)(hD:bZ X B D w k d ms)(hL:cT w):Calls nH 44 #[.pointer (some ⟨D,0,none⟩)] w (lN X B D w (dO d.aC.length d)):=by
 have J0:Hid (SR d d []):=qh (SR.start hv ho hn);have H:=qh hD;have HL:=qh hL;have acH:=qh hL;have lB:=hD.le;have l8:Le 8 w:=⟨nT h8 lB.out⟩;have lD:=hD.eE.box.lt;clear hD hL hv ho hn;go_enter Tryz.func44,Tryz.ntmps44;go_wp2_with fail;go_step3;go_wp2_with fail;obtain⟨bb,ir⟩:∃b,w.heap.size=b:=⟨_,rfl⟩;refine aL fun W1 aH=>?_;have cJ:Le B W1:=fI aH;have dF:au B w W1:=gu aH;obtain⟨cU,dA,dD,eI⟩:=CG 8 w aH;have ju:Lt (D) W1:=nt aH;have H1:Hid (bZ X B D W1 k d ms):=qh H.out.up;have BL1:Hid (Bi w.heap.size w.heap.size [] W1):=qh (UW w W1 _ (by rw[aH.out];exact World.alloc_heap_new w _));have F1:Hid (Fr B jI w W1):=qh Fr.gj;have rO:Hid (cT W1):=qh HL.out.up;clear aH H HL;obtain⟨b0,hb0⟩:∃b,w.heap.size=b:=⟨_,rfl⟩;have BL1:Hid (Bi bb b0 [] W1):=by rw[<-hb0,<-ir];exact BL1
 rw[ir];have SK:Hid (w.heap.size=bb/\w.heap.size=b0):=qh ⟨ir,hb0⟩;have nb1:B<=bb:=by rw[<-ir];exact lB.out
 have nb2:B<=b0:=by rw[<-hb0];exact lB.out
 clear ir hb0;go_step3;go_wp2_with fail;go_loopg [] d.aC.length (fun gn wr=>∃(k':cP) (d':cE) (ms':List fK) (mh:bz),gn=d'.aC.length/\Hid (SR d d' mh)/\Hid (bZ X B D wr k' d' ms')/\Hid (Bi bb b0 mh wr)/\Hid (Fr B jI w wr))
 case atStart=>exact⟨k,d,ms,[],rfl,J0,H1,BL1,F1⟩
 case round=>
  obtain⟨⟨kt,kA,kc⟩,d',ms',mh,rfl,J,HM,BL,FR⟩:=hrel;obtain⟨V,rfl⟩:∃V,V=wr:=⟨_,rfl⟩;have lV:=HM.out.le;have lV8:Le 8 V:=⟨nT h8 lV.out⟩;have lVD:=HM.out.eE.box.lt;have lVw:Le w.heap.size V:=⟨FR.out.low.size⟩;have lVV:Le V.heap.size V:=⟨nR _⟩;have SW:Hid (cT V):=qh (acH.out.fr FR.out h8);have L4:V.cell? ⟨D,14,none⟩=some (.slice kA d'.aC.length kc):=HM.out.eE.box.cell rfl;have HOS:Hid (Sl iR V.heap.size V kA kc ms'):=qh (Sl.bU (by have:=HM.out.row;rw[<-HM.out.len] at this;exact this));have h5:=J.out.ord.1;have Ih:=J.out.len;have HML:=qh HM.out.len;go_upto_region 3 with fail;go_loopg [11] d'.aC.length (fun gn i wq=>∃j:Nat,j<=d'.aC.length/\gn=d'.aC.length-j/\i=.int .i64 j/\au V.heap.size V wq/\Le V.heap.size wq/\Hid (∀p,p<j->ni d'.az (bK (nth d'.aC p).line)=false))
  case atStart=>exact⟨0,nE _,rfl,rfl,inferInstance,⟨nR _⟩,qh fun p hp=>absurd hp (Nat.not_lt_zero _)⟩
  case round=>
   obtain⟨j,hj,rfl,rfl,i1,i2,HN⟩:=hrel;obtain⟨U,rfl⟩:∃U,U=wr:=⟨_,rfl⟩;have lU:Le B U:=⟨nT lV.out i2.out⟩;have lU8:Le 8 U:=⟨nT lV8.out i2.out⟩;have Yx:Hid (bZ X B D U ⟨kt,kA,kc⟩ d' ms'):=qh HM.out.up;have BLU:Hid (Bi bb b0 mh U):=qh (BL.out.fr (B:=B) (L:=[]) Fr.gj List.not_mem_nil List.not_mem_nil);have FRU:Hid (Fr B jI w U):=qh (FR.out.trans Fr.gj);have lUw:Le w.heap.size U:=⟨nT lVw.out i2.out⟩;have HLU:Hid (cT U):=qh (SW.out.fr (B:=B) (L:=[]) Fr.gj h8);by_cases hlt:j<d'.aC.length
   ·have hji:(j:Int)<(d'.aC.length:Int):=nQ;have hj0:¬(j:Int)<0:=nQ;obtain⟨og,Et,hBg,_⟩:=Yx.out.first (by show 0<d'.aC.length;omega);obtain rfl:kA=some ⟨og,0,none⟩:=Et;obtain⟨ob,oo,Et,DQ,e0,e1,e2,e3⟩:=(HOS.out.up (w':=U)).WR (k:=j) (by rw[HML.out];exact hlt);injection Et with Et;injection Et with h1 h2;subst h1;subst h2;rw[Nat.zero_add] at e0 e1 e2 e3;have lob:Lt og U:=⟨nL DQ i2.out⟩;have HRD:=qh (HM.out.each _ (aV ms' (by rw[HML.out];exact hlt)));have HMO:=qh (HM.out.qv hlt);obtain⟨m,hm⟩:∃m,nth ms' j=m:=⟨_,rfl⟩;rw[hm] at e0 e1 e2 e3 HRD HMO;clear hm DQ;obtain⟨q,s,n,c,hr,hh,hc⟩:=HRD.out;have HQ:=qh hh;have HC:=qh hc;have HRL:Hid (bK (nth d'.aC j).line=.ord q s n c):=qh (by rw[<-HMO.out];exact hr);clear hr hh hc;have e2:U.cell? ⟨og,j*4+2,none⟩=some (.func (.func 179) #[] #[.pointer (some ⟨m.gq,0,none⟩),.pointer (some ⟨m.gs,0,none⟩),.pointer (some ⟨m.gn,0,none⟩)]):=e2;have e3:U.cell? ⟨og,j*4+3,none⟩=some (.func (.func 160) #[] #[.pointer (some ⟨m.gc,0,none⟩),.pointer (some ⟨m.ga,0,none⟩)]):=e3;go_upto_region 5 with(refine ak (cs':=zD m) vi rfl _ _ rfl rfl rfl (ax.new (T:=103) rfl) rfl rfl (FC m) ?_;intro W2 O2 k2);have a1:au U.heap.size U W2:=cm k2 (nR _);have a2:Le U.heap.size W2:=dB k2;have a3:au V.heap.size V W2:=cm k2 i2.out;have a4:Le V.heap.size W2:=dB k2;have a5:Le B W2:=dB k2;have a6:Le 8 W2:=dB k2;have a7:Le w.heap.size W2:=dB k2;have H2:Hid (bZ X B D W2 (⟨kt,some ⟨og,0,none⟩,kc⟩:cP) d' ms'):=qh Yx.out.up;have B2:Hid (Bi bb b0 mh W2):=qh (BLU.out.fr (B:=B) (L:=[]) Fr.gj List.not_mem_nil List.not_mem_nil);have F2:Hid (Fr B jI w W2):=qh (FRU.out.trans Fr.gj);have L2:Hid (cT W2):=qh (HLU.out.fr (B:=B) (L:=[]) Fr.gj h8);have C2:Hid (gW W2 (.func (.func 160) #[] #[.pointer (some ⟨m.gc,0,none⟩),.pointer (some ⟨m.ga,0,none⟩)]) c):=qh (HC.out.up (W:=W2));have HH:Hid (∀W:nJ,au W2.heap.size W2 W->Le W2.heap.size W->Calls nH 179 #[aO kt d'.az,.pointer (some ⟨m.gq,0,none⟩),.pointer (some ⟨m.gs,0,none⟩),.pointer (some ⟨m.gn,0,none⟩)] W fun e w'=>e=.returned (.bool (cY d'.az q s n))/\∃δ,w'=af W δ):=qh fun W x1 x2=>by have y1:Le W.heap.size W:=⟨nR _⟩;have y2:Le B W:=⟨nT a5.out x2.out⟩;exact Ur X kt d'.az J.out.val m q s n W.heap.size W (H2.out.eE.az.up (W:=W)).is ((HQ.out.up (W:=W2)).up (W:=W))
    have OS:Hid (ni d'.az (bK (nth d'.aC j).line)=cY d'.az q s n):=by unfold Hid;rw[HRL.out];rfl
    have lW2:Le W2.heap.size W2:=⟨nR _⟩;obtain⟨g,hg⟩:∃g,U.heap.size=g:=⟨_,rfl⟩;have hgo:Hid (g≠og):=qh fun e=>by have:=(Yx.out.row.lt og rfl).2;omega
    have Uy:Hid (g≠D):=qh (by have:=Yx.out.eE.lt;omega);rw[hg] at O2 ⊢;have O2:=qh O2;have lg2:=O2.out.lt;have lD2:=H2.out.eE.box.lt;clear k2 hg e0 e1 e2 e3 L4 lob;rcases XC:cY d'.az q s n with _|_
    ·rw[XC] at HH OS;clear XC;refine wp_region_held (S:=fun W=>au W2.heap.size W2 W) nP ?_;change wpAnyH _ _ _ _ _ _ _ _ (World.drew _);refine wpH_tq 0 (.pointer (some ⟨g,2,none⟩)) (inferInstance) ?_;refine QAC ?_;refine QCK ?_;refine QAC ?_;refine QEX ?_;refine QAC ?_;refine QEY ?_;refine QAC ?_;refine wpH_tq 4 (.pointer (some ⟨D,0,none⟩)) (inferInstance) ?_;refine QAC ?_;refine dV 5 (aO kt d'.az) rfl nP (kU ai nY _ rfl rfl (fun _ h=>ax.dM (hg:=h) H2.out.eE.box) (eT (⟨kt,some ⟨og,0,none⟩,kc⟩:cP) d') rfl) (inferInstance) ?_;refine QAC ?_;refine wpAnyH_all (rs:=[6]) nP nV ?_;intro i hi;obtain rfl:=List.mem_singleton.1 hi;refine QAF ?_;refine(HH.out _ inferInstance inferInstance).mono ?_;rintro e w1 ⟨rfl,δ3,rfl⟩;refine⟨inferInstance,?_⟩;refine QAC ?_;refine wpH_tq 7 (.bool true) (inferInstance) ?_;refine QAC ?_;refine wpAnyH_done nP ?_ _;go_wp2_with fail;go_roundg (d'.aC.length-(j+1))
     case measure=>omega
     case rel=>
      refine⟨j+1,nQ,rfl,by go_num,inferInstance,inferInstance,qh fun p hp=>?_⟩;rcases Nat.lt_succ_iff_lt_or_eq.1 hp with h|rfl
      ·exact HN.out p h
      ·exact OS.out
    ·rw[XC] at HH OS;clear XC;have FO:Hid (ie d'.az d'.aC=some j):=qh (xX hlt OS.out HN.out);have JN:=qh (J.out.next FO.out (c:=c) (by rw[HRL.out];rfl));have HEL:Hid ((d'.aC.eraseIdx j).length=d'.aC.length-1):=qh (List.length_eraseIdx_of_lt hlt);have hgo:=hgo.out;obtain⟨kn,hkn⟩:∃n,d'.aC.length=n+1:=⟨d'.aC.length-1,nQ⟩;have Mg:=qh hkn;have iM:=qh hlt;have hik:j<=kn:=nQ;have hwr:IntKind.i64.wrap ((j:Int)+1)=(j:Int)+1:=IntWalk.i64_in _ nQ;have HDE:Hid (∀W:nJ,bZ X B D W (⟨kt,some ⟨og,0,none⟩,kc⟩:cP) d' ms'->Calls nH 95 #[.slice (some ⟨og,0,none⟩) (kn+1) kc,.int .i64 j,.int .i64 ((j:Int)+1)] W fun e w'=>e=.returned (.slice (some ⟨og,0,none⟩) kn kc)/\bH (fun x=>x=og) W w'/\w'.ownsRow B 103 4 (.slice (some ⟨og,0,none⟩) kn kc) kn ((ms'.take j++ms'.drop (j+1)).flatMap iR)):=qh fun W h1=>by have iB:=h1.le;exact CI B og kc j kn ms' W (by have:=h1.row;rw[Mg.out] at this;exact this) (h1.len.trans Mg.out) hik nQ
     have hnm:=(J.out.num _ (aV d'.aC hlt)).1;rw[<-HMO.out] at hnm JN;obtain⟨nm,Xx⟩:∃n,m.ord.num=n:=⟨_,rfl⟩;have OR:=qh Xx;rw[Xx] at hnm JN;obtain⟨td,Cz⟩:∃x,iH d'.az c=x:=⟨_,rfl⟩;obtain⟨bd,hbd⟩:∃x,(fW d'.az c).isSome=x:=⟨_,rfl⟩;rw[Cz,hbd] at JN;have HT:Hid (∀W:nJ,bZ X B D W ⟨kt,some ⟨og,0,none⟩,kc⟩ ⟨d'.az,d'.aC.eraseIdx j,d'.given⟩ (ms'.eraseIdx j)->gW W (.func (.func 160) #[] #[.pointer (some ⟨m.gc,0,none⟩),.pointer (some ⟨m.ga,0,none⟩)]) c->Calls nH 89 #[.pointer (some ⟨D,0,none⟩),(.func (.func 160) #[] #[.pointer (some ⟨m.gc,0,none⟩),.pointer (some ⟨m.ga,0,none⟩)])] W fun e w'=>∃k'':cP,e=.returned (.bool bd)/\bZ X B D w' k'' ⟨td,d'.aC.eraseIdx j,d'.given⟩ (ms'.eraseIdx j)/\Fr B [98] W w'):=qh fun W h1 h2=>by have:=K6 ⟨kt,some ⟨og,0,none⟩,kc⟩ ⟨d'.az,d'.aC.eraseIdx j,d'.given⟩ (ms'.eraseIdx j) J.out.val c (.func (.func 160) #[] #[.pointer (some ⟨m.gc,0,none⟩),.pointer (some ⟨m.ga,0,none⟩)]) X B D W h1 h2;rw[<-Cz,<-hbd];exact this
     obtain⟨tx,gr⟩:∃t,Lib.itoa (nm:Int)=t:=⟨_,rfl⟩;have xE:=qh gr;obtain⟨yt,Xl⟩:∃t,me bd=t:=⟨_,rfl⟩;have HWD:Hid (∀W:nJ,Calls nH 88 #[.bool bd] W fun e w'=>e=.returned (.string (str yt))/\∃δ,w'=af W δ):=qh fun W=>by rw[<-Xl];exact wC bd W
     have ON:=vg hnm bd;have Ve:lZ nm bd=32::tx++[58]++yt:=by unfold lZ;rw[gr,Xl];simp
     rw[Ve] at ON JN;obtain⟨u1,hu1⟩:∃t,32::tx=t:=⟨_,rfl⟩;rw[hu1] at ON JN;obtain⟨u2,Vy⟩:∃t,u1++[58]=t:=⟨_,rfl⟩;have m1:tx.length+1=u1.length:=by rw[<-hu1];rfl
     have m2:u2.length=u1.length+1:=by rw[<-Vy];simp
     rw[Vy] at ON JN;have m3:(u2++yt).length=u2.length+yt.length:=List.length_append;refine QFP ?_;intro s1;refine QFQ ?_;intro s2;obtain⟨st,hst⟩:∃t,u2++yt=t:=⟨_,rfl⟩;have s3:∀W:nJ,(Op.stringOp .add (str u2) (str yt)).run nH W=.ok (.string (str st)) W:=fun W=>by rw[<-hst];exact gp (P:=nH) W u2 yt nQ
     rw[hst] at ON JN;clear Cz hbd gr Xl Ve hu1 Vy hst Xx HN FO hkn OS;refine wp_region_held (S:=fun W=>au W2.heap.size W2 W) nP ?_;change wpAnyH _ _ _ _ _ _ _ _ (World.drew _);refine wpH_tq 0 (.pointer (some ⟨g,2,none⟩)) (inferInstance) ?_;refine QAC ?_;refine QCK ?_;refine QAC ?_;refine QEX ?_;refine QAC ?_;refine QEY ?_;refine QAC ?_;refine wpH_tq 4 (.pointer (some ⟨D,0,none⟩)) (inferInstance) ?_;refine QAC ?_;refine dV 5 (aO kt d'.az) rfl nP (kU ai nY _ rfl rfl (fun _ h=>ax.dM (hg:=h) H2.out.eE.box) (eT (⟨kt,some ⟨og,0,none⟩,kc⟩:cP) d') rfl) (inferInstance) ?_;refine QAC ?_;refine wpAnyH_all (rs:=[6]) nP nV ?_;intro i hi;obtain rfl:=List.mem_singleton.1 hi;refine QAF ?_;refine(HH.out _ inferInstance inferInstance).mono ?_;rintro e w1 ⟨rfl,δ3,rfl⟩;refine⟨inferInstance,?_⟩;refine QAC ?_;refine wpH_tq 7 (.bool false) (inferInstance) ?_;refine QAC ?_;refine wpAnyH_done nP ?_ _;go_upto_region 6 with fail;refine aL fun W3 bQ=>?_;have Es:Le B W3:=fI bQ;have Gh:au B W2 W3:=gu bQ;have sg:Le 8 W3:=fI bQ;have tX:au 8 W2 W3:=gu bQ;have tW:Le w.heap.size W3:=fI bQ;have sM:au w.heap.size W2 W3:=gu bQ;have tV:Le W2.heap.size W3:=fI bQ;have Bs:au W2.heap.size W2 W3:=gu bQ;have DJ:Lt (D) W3:=nt bQ;have H3:Hid (bZ X B D W3 (⟨kt,some ⟨og,0,none⟩,kc⟩:cP) d' ms'):=qh H2.out.up;have B3:Hid (Bi bb b0 mh W3):=qh (B2.out.fr (B:=B) (L:=[]) Fr.gj List.not_mem_nil List.not_mem_nil);have F3:Hid (Fr B jI w W3):=qh (F2.out.trans Fr.gj);have L3:Hid (cT W3):=qh (L2.out.fr (B:=B) (L:=[]) Fr.gj h8);have C3:Hid (gW W3 (.func (.func 160) #[] #[.pointer (some ⟨m.gc,0,none⟩),.pointer (some ⟨m.ga,0,none⟩)]) c):=qh (C2.out.up (W:=W3));have O3:Hid (ax W3 g 103 (zD m)):=qh O2.out.dM;clear bQ;have d14:W3.cell? ⟨D,14,none⟩=some (.slice (some ⟨og,0,none⟩) (kn+1) kc):=by have:=H3.out.eE.box.cell (i:=14) (v:=.slice (some ⟨og,0,none⟩) d'.aC.length kc) rfl;rw[Mg.out] at this;exact this
     have lD3:=H3.out.eE.box.lt;have lE3:Hid (∀w1:nJ,bH (fun x=>x=og) W3 w1->Lt D w1/\w1.frozen? ⟨D,14,none⟩=false/\w1.cell? ⟨D,14,none⟩=some (.slice (some ⟨og,0,none⟩) (kn+1) kc)):=qh fun w1 hk=>by obtain⟨og',GG,hB',cs,hb⟩:=H3.out.first nQ;injection GG with GG;injection GG with e;subst e;have b1:=H3.out.eE.box.vL hk hb nU;exact⟨b1.lt,b1.free _,by rw[<-Mg.out];exact b1.cell (i:=14) rfl⟩
     go_upto_region 7 with(go_at_call 95;refine(HDE.out _ H3.out).mono ?_;rintro e w5 ⟨rfl,VI,ZC⟩;obtain⟨lD5,fD5,cD5⟩:=lE3.out w5 VI;have K5:=qh VI;have RW5:=qh ZC;clear VI ZC);refine aL fun W6 SP=>?_;have Q6:Hid ((bZ X B D W6 ⟨kt,some ⟨og,0,none⟩,kc⟩ ⟨d'.az,d'.aC.eraseIdx j,d'.given⟩ (ms'.eraseIdx j)/\Fr B jI W3 W6)/\ax W6 g 103 (zD m)):=by rw[SP.out];exact qh ⟨H3.out.del iM.out Mg.out rfl K5.out RW5.out,((O3.out.eM K5.out hgo).fD Uy.out _)⟩
     clear SP K5 RW5;have H6:=qh Q6.out.1.1;have O6:=qh Q6.out.2;have BL6:Hid (Bi bb b0 mh W6):=qh (B3.out.fr Q6.out.1.2 nU nU);have FR6:Hid (Fr B jI w W6):=qh (F3.out.trans Q6.out.1.2);have HL6:Hid (cT W6):=qh (L3.out.fr Q6.out.1.2 h8);have C6:Hid (gW W6 (.func (.func 160) #[] #[.pointer (some ⟨m.gc,0,none⟩),.pointer (some ⟨m.ga,0,none⟩)]) c):=qh (C3.out.fr Q6.out.1.2 nU);have lB6:Le B W6:=H6.out.le;have l86:Le 8 W6:=⟨nT h8 lB6.out⟩;have lW6:Le W6.heap.size W6:=⟨nR _⟩;have rw6:Le w.heap.size W6:=⟨FR6.out.low.size⟩;have lD6:=H6.out.eE.box.lt;have lg6:=O6.out.lt;clear Q6 H3 B3 F3 L3 C3 O3 d14 lD3 lE3 lD5 fD5 cD5;refine wp_region_held (S:=fun W=>ax W g 103 (zD m)) nP ?_;change wpAnyH _ _ _ _ _ _ _ _ (World.drew _);refine wpH_tq 0 (.pointer (some ⟨g,0,none⟩)) (O6.out.drew) ?_;refine QAC ?_;refine dV 1 (.int .i64 (nm:Nat)) rfl nP (Or.inl ⟨nY,by intro w5 h5;have e:=ax.cell h5 (i:=0) (v:=.int .i64 (m.ord.num:Nat)) rfl;rw[OR.out] at e;go_simp⟩) (O6.out.drew) ?_;refine QAC ?_;refine wpH_tq 5 (.pointer (some ⟨D,0,none⟩)) (O6.out.drew) ?_;refine QAC ?_;refine wpH_tq 6 (.pointer (some ⟨g,3,none⟩)) (O6.out.drew) ?_;refine QAC ?_;refine dV 7 ((.func (.func 160) #[] #[.pointer (some ⟨m.gc,0,none⟩),.pointer (some ⟨m.ga,0,none⟩)])) rfl nP (Or.inl ⟨nY,by intro w5 h5;have e:=ax.cell h5 (i:=3) (v:=(.func (.func 160) #[] #[.pointer (some ⟨m.gc,0,none⟩),.pointer (some ⟨m.ga,0,none⟩)])) rfl;go_simp⟩) (O6.out.drew) ?_;refine QAC ?_;refine wpAnyH_all (rs:=[2]) nP nV ?_;intro i hi;obtain rfl:=List.mem_singleton.1 hi;refine QAF ?_;refine(xe (nm:Int) tx xE.out nQ nQ _ (HL6.out.Wj.up)).mono ?_;rintro e w1 ⟨rfl,δ5,rfl⟩;refine⟨O6.out.dM,?_⟩;refine QAC ?_;refine wpH_tq 3 (.string (str u1)) (O6.out.dM) ?_;refine QAC ?_;refine wpH_tq 4 (.string (str u2)) (O6.out.dM) ?_;refine QAC ?_;refine wpAnyH_all (rs:=[8]) nP nV ?_;intro i hi;obtain rfl:=List.mem_singleton.1 hi;refine QAF ?_;refine(HT.out _ H6.out.up C6.out.up).mono ?_;rintro e w7 ⟨k7,rfl,hd7,hf7⟩;have l7:Le B W6:=H6.out.le;have FX:Hid (Fr B [98] W6 w7):=qh (Fr.gj.trans hf7);have H7:=qh hd7;clear hd7 hf7;have O7:Hid (ax w7 g 103 (zD m)):=qh (O6.out.fr FX.out nU);have B7:Hid (Bi bb b0 mh w7):=qh (BL6.out.fr FX.out nU nU);have L7:Hid (cT w7):=qh (HL6.out.fr FX.out h8);have F7:Hid (Fr B jI w w7):=qh (FR6.out.trans (FX.out.mono nU));have q7:Le 8 w7:=⟨nT h8 H7.out.le.out⟩;have r7:Le w.heap.size w7:=⟨nT rw6.out FX.out.low.size⟩;refine⟨O7.out,?_⟩;refine QAC ?_;refine wpAnyH_all (rs:=[9]) nP nV ?_;intro i hi;obtain rfl:=List.mem_singleton.1 hi;refine QAF ?_;refine(HWD.out _).mono ?_;rintro e w1 ⟨rfl,δ6,rfl⟩;refine⟨O7.out.dM,?_⟩;refine QAC ?_;refine wpH_tq 10 (.string (str st)) (O7.out.dM) ?_;refine QAC ?_;refine wpAnyH_all (rs:=[11]) nP nV ?_;intro i hi;obtain rfl:=List.mem_singleton.1 hi;refine QAF ?_;have lx:Le B (af w7 δ6):=H7.out.up.le;have BX:Bi bb b0 mh (af w7 δ6):=B7.out.fr (L:=[]) (B:=B) (by have:=H7.out.le;exact Fr.gj) List.not_mem_nil List.not_mem_nil;refine(Bk bb b0 mh (str st) st (jd _) _ BX nQ nQ (by have:=(inferInstance:Le w.heap.size (af w7 δ6)).out;rw[<-SK.out.2];exact this)).mono ?_;rintro e w8 ⟨rfl,hb8,hr8⟩;obtain⟨bcs,jh⟩:=BX.box;have FW:Fr B Sn (af w7 δ6) w8:=Fr.rest hr8 jh nQ nQ nU nU;have FW2:Fr w.heap.size Sn (af w7 δ6) w8:=Fr.rest hr8 jh (Nat.le_of_eq SK.out.1) (Nat.le_of_eq SK.out.2) nU nU;have H8:Hid (bZ X B D w8 k7 ⟨td,d'.aC.eraseIdx j,d'.given⟩ (ms'.eraseIdx j)):=qh ((H7.out.up (W':=af w7 δ6)).fr FW nU nU nU);have F8:Hid (Fr B jI w w8):=qh ((F7.out.trans (by have:=H7.out.le;exact Fr.gj)).after FW2 lB.out);have O8:ax w8 g 103 (zD m):=(ax.dM (W:=af w7 δ6) O7.out).fr FW nU;have B8:=qh hb8;clear hb8 hr8 jh FW FW2 BX;refine⟨O8,?_⟩;refine QAC ?_;refine wpAnyH_done nP ?_ _;go_wp2_with fail;go_roundg (d'.aC.length-1)
     case measure=>omega
     case rel=>exact⟨k7,⟨td,d'.aC.eraseIdx j,d'.given⟩,ms'.eraseIdx j,mh++st,HEL.out.symm,JN,H8,B8,F8⟩
   ·obtain rfl:j=d'.aC.length:=by omega
    have hjn:¬((d'.aC.length:Int)<(d'.aC.length:Int)):=nQ;have HX:Hid (dO d.aC.length d=(d',mh)):=qh (J.out.fin (xY HN.out));clear HN;go_upto_region 9 with fail;go_wp2_with (go_at_call 98;refine(OE bb b0 w.heap.size mh _ BLU.out (Nat.le_of_eq SK.out.1) (Nat.le_of_eq SK.out.2) lUw.out).mono ?_;rintro e w9 ⟨rfl,hf9⟩;have F9:=qh hf9;clear hf9);first|(rw[Exit.noGoto_ret];go_ret)|go_ret
    refine⟨⟨kt,kA,kc⟩,ms',by rw[HX.out];rfl,?_,?_⟩
    ·rw[HX.out];exact Yx.out.fr (F9.out.less lB.out) nU nU nU
    ·exact FRU.out.after F9.out lB.out
end
theorem gv{P:Program}{W:nJ}{ops:Array Oper}{rest:List Oper}{o:Oper}{a:Act}{Q:Exit->Act->nJ->Prop}(hgd:o.guard=none)(t:TypeId)(parts:Array (Nat × Operand))(ho:o.op=.build t parts){cells:Array nK}{ps:List (Nat × nK)}(hp:parts.toList.map (fun p=>(p.1,a.eval p.2))=ps)(hc:P.built t ps=some cells)(h:wpList P ops Q rest (a.put o.dst (.agg cells)) W):wpList P ops Q (o::rest) a W:=by
 have hp':(parts.map fun(i,x)=>(i,a.eval x)).toList=ps:=by rw[<-hp,Array.toList_map]
 rw[<-hp'] at hc;refine wpList_plain hgd fun _ hK=>?_;unfold Oper.wp execOp;simp only[ho,Sem.run_bind,run_build W t _ cells hc,Result.andThen_ok];exact hK _ _ h
end Go.Proofs.YtdmedlkonaclnaaGreatDoor
