/- A part of the proof that the statement HeadmanRunCardSaid holds, cut small by a program (names and blanks): Hq1, Hq2, Hq4, Hq5, Hq6, Hqp, Hbs, Hq12, Hbd. -/
import Derived.Lib.SplitLaws
import Derived.Shelf.Strings.BuilderK
import Derived.WalkMore
import Derived.Test.YtcjjlikhlmfedaaGreatDoorZ26
import Derived.Test.YtcjjlikhlmfedaaGreatDoorZ27
set_option maxRecDepth 100000
set_option maxHeartbeats 40000000
set_option linter.unusedVariables false
set_option linter.unusedSimpArgs false
namespace Go.Proofs.YtcjjlikhlmfedaaGreatDoor
open Go.RowKit
open Nat renaming le_trans → nT, lt_of_lt_of_le → nL, le_refl → nR, zero_le → nE, le_of_lt → nS
open Go.Proofs.Tryz renaming prog → nH
open Go renaming World → nJ, Value → nK
section
open Hd
theorem xT(b:UInt8)(l:bL):Lib.index (b::l) [32]=if b=32 then 0 else if Lib.index l [32] = -1 then -1 else Lib.index l [32]+1:=by
 rw[Lib.index];by_cases h:b=32
 ·subst h;simp[List.isPrefixOf]
 ·have hp:([32]:List UInt8).isPrefixOf (b::l)=false:=by simp[List.isPrefixOf,Ne.symm h]
  simp[hp,h]
theorem CH(b:UInt8)(hb:b≠32)(l:bL):∀k,Lib.splitK [32] 0 k (b::l)=(match Lib.splitK [32] 0 k l with|[]=>[[b]]|w::ws=>(b::w)::ws)
 |0=>rfl
 |k+1=>by
  have hge:=Lib.index_ge l [32];unfold Lib.splitK;rw[xT,if_neg hb];by_cases h:Lib.index l [32] = -1
  ·simp[h]
  ·obtain⟨j,hj⟩:∃j:Nat,Lib.index l [32]=j:=⟨(Lib.index l [32]).toNat,nQ⟩;rw[hj,if_neg (show ¬(j:Int) = -1 by omega)];have e1:(((j:Int)+1 == -1)=true)=False:=eq_false (by simp;try omega);have e2:(((j:Int) == -1)=true)=False:=eq_false (by simp;try omega);rw[if_neg (by rw[e1];exact id),if_neg (by rw[e2];exact id)];rw[show((j:Int)+1).toNat=j+1 by omega,show((j:Int)).toNat=j by omega];simp
theorem tf:∀s:bL,Lib.splitK [32] 0 (Lib.count s [32]) s=bE s
 |[]=>by rw[Lib.count_miss (by simp[Lib.index])];rfl
 |b::l=>by
  by_cases h:b=32
  ·subst h;rw[Lib.count_cons_eq,Nat.add_comm,Lib.splitK,xT];simp only[if_true];rw[if_neg nU];rw[show bE (32::l)=[]::bE l by rw[bE];rfl,<-tf l];simp
  ·rw[Lib.count_cons_ne b 32 l h,CH b h,tf l,bE,if_neg h];cases bE l<;>rfl
theorem Lp(s:bL):Lib.count s [32]+1=(bE s).length:=by rw[<-tf];have h1:=Lib.splitB_all ⟨#[32]⟩ nU 0 _ (str s) rfl;have h2:=congrArg List.length (Lib.splitB_data ⟨#[32]⟩ 0 (Lib.countB (str s) ⟨#[32]⟩) (str s));rw[List.length_map,h1] at h2;simp only[Lib.countB,jw,show(⟨#[32]⟩:ByteArray).data.toList=[32] from rfl] at h2;exact h2
theorem PV(s:bL)(hs:s.length<=1000)(w:nJ)[h8:Le 8 w](hL:cX w):Calls nH 63 #[.string (str s),.string ⟨#[32]⟩] w fun e w'=>∃(A:Option Addr) (n c:Nat) (δ:nJ),e=.returned (.slice A n c)/\(bE s).length=n/\w'=af w δ/\fm 9 cm (af w δ).heap.size (af w δ) A c (bE s):=by
 obtain⟨m,hm⟩:=hL.jZ;have h:=Tryz.strings_Split (str s) ⟨#[32]⟩ m w (by rw[kT];omega) hm nU;have hk:Lib.countB (str s) ⟨#[32]⟩=Lib.count s [32]:=by simp only[Lib.countB,jw]
 have hc:=Lp s;rw[hk,hc] at h;have hd:(Lib.splitB ⟨#[32]⟩ 0 (Lib.count s [32]) (str s)).map Value.string=(bE s).flatMap cm:=by
  have h:=Lib.splitB_data ⟨#[32]⟩ 0 (Lib.count s [32]) (str s);rw[show(⟨#[32]⟩:ByteArray).data.toList=[32] from rfl,jw,tf] at h;rw[<-h];induction Lib.splitB ⟨#[32]⟩ 0 (Lib.count s [32]) (str s) with
  |nil=>rfl
  |cons x xs ih=>
   rw[List.map_cons,List.map_cons,List.flatMap_cons,ih]
   rw[show cm x.data.toList=[.string x] by unfold cm;rw[<-AT (a:=x) rfl]]
   rfl
 rw[hd] at h;refine h.mono ?_;rintro e w1 ⟨rfl,rfl⟩;obtain⟨n,hn⟩:∃n,(bE s).length=n:=⟨_,rfl⟩;rw[hn];refine⟨_,n,n,w.alloc (.cells ((bE s).flatMap cm).toArray 9),rfl,rfl,aq,?_⟩;refine QDK ?_;have hf:((bE s).flatMap cm).length=n:=by
  rw[<-hn];induction bE s with
  |nil=>rfl
  |cons x xs ih=>rw[List.flatMap_cons,List.length_append,ih];simp[cm];omega
 have hle:=iQ s;refine fm.bW (base:=w.heap.size) (size:=1) (n:=n) ⟨by rw[hf];omega,.inr ⟨w.heap.size,n,((bE s).flatMap cm).toArray,rfl,nR _,?_,nR _,?_,?_,?_⟩⟩ hn
 ·exact av.new rfl
 ·have:n<=1001:=nQ;exact nT this nU
 ·rw[List.size_toArray,hf];omega
 ·rw[Nat.mul_one,List.toList_toArray];exact List.take_of_length_le (Nat.le_of_eq hf)
theorem NC(x:bL):∀(ws:List bL) (i:Nat),Lib.idxFromS (ws.map str) (str x) i=(match jg x ws with|some k=>((i+k:Nat):Int)|none=>-1)
 |[],i=>rfl
 |w::ws,i=>by
  rw[List.map_cons,Lib.idxFromS,jg];by_cases h:w=x
  ·subst h;simp
  ·have h2:¬str w=str x:=fun e=>h (by have:=congrArg (fun b:ByteArray=>b.data.toList) e;simpa [jw] using this);simp only[if_neg h];rw[if_neg h2,NC x ws (i+1)];cases jg x ws with
   |none=>rfl
   |some k=>show((i+1+k:Nat):Int)=((i+(k+1):Nat):Int);omega
def ud(o:Option Nat):Int:=match o with|some k=>(k:Int)|none=>-1
theorem N8(ws:List bL)(A:Option Addr)(cap:Nat)(h0:0<ws.length)(hn:ws.length<=1001)(x:bL)(B:Nat)(w:nJ)(hS:Sl cm B w A cap ws):Calls nH 129 #[.slice A ws.length cap,.string (str x)] w fun e w'=>e=.returned (.int .i64 (ud (jg x ws)))/\w'=w:=by
 obtain⟨b,o,rfl,_,_⟩:=hS.lQ h0;have h:=Tryz.slices_Index_string b o ws.length cap (ws.map str) (str x) w (by rw[List.length_map];exact nR _) nQ (by
  intro j hj
  rw[List.length_map] at hj
  obtain⟨b',o',e,_,d⟩:=hS.lQ hj
  injection e with e
  injection e with e1 e2
  subst e1;subst e2
  rw[d,List.getD_eq_getElem?_getD,List.getElem?_map,List.getElem?_eq_getElem hj,bV _ hj]
  rfl)
 rw[List.take_of_length_le (by rw[List.length_map];exact nR _)] at h;unfold Lib.idxOfS at h;rw[NC] at h;refine h.mono ?_;rintro e w1 ⟨rfl,rfl⟩;refine⟨?_,rfl⟩;unfold ud;cases jg x ws<;>simp
end
section
open Hd
structure ko(X:Nat->Prop)(w:nJ)(v:nK)(q:eH)(s:UInt8)(n:Int):Prop where
 sign:s=60\/s=61\/s=62
 num:-999999<=n/\n<=999999
 at_:∃(gq gs gn:Nat) (u:nK),v=.func (.func 131) #[] #[.pointer (some ⟨gq,0,none⟩),.pointer (some ⟨gs,0,none⟩),.pointer (some ⟨gn,0,none⟩)] /\
  av w gq 187 #[u]/\jd w u q/\av w gs 9 #[.string (str [s])]/\¬X gs/\av w gn 3 #[.int .i64 n]/\¬X gn
theorem ko.up{X:Nat->Prop}{w W:nJ}{v:nK}{q:eH}{s:UInt8}{n:Int}(h:ko X w v q s n)[hg:aC w.heap.size w W][hl:Le w.heap.size W]:ko X W v q s n:=by obtain⟨h1,h2,gq,gs,gn,u,rfl,b1,c,b2,x2,b3,x3⟩:=h;exact⟨h1,h2,gq,gs,gn,u,rfl,b1.eA,c.up,b2.eA,x2,b3.eA,x3⟩
theorem mz(x n:Int):(x<n/\¬n<x/\¬x=n/\(x==n)=false)\/(x=n)\/(¬x<n/\n<x/\¬x=n/\(x==n)=false):=by
 by_cases h1:x<n
 ·exact .inl ⟨h1,nQ,nQ,beq_eq_false_iff_ne.2 nQ⟩
 ·by_cases h2:x=n
  ·exact .inr (.inl h2)
  ·exact .inr (.inr ⟨h1,nQ,h2,beq_eq_false_iff_ne.2 h2⟩)
theorem N9(X:Nat->Prop)(r:aR)(t:aV)(hv:aG t=true)(q:eH)(s:UInt8)(n:Int)(v:nK)(B:Nat)(w:nJ)(hT:aI B w r t)[hB:Le B w](hH:ko X w v q s n):∃gq gs gn,v=.func (.func 131) #[] #[.pointer (some ⟨gq,0,none⟩),.pointer (some ⟨gs,0,none⟩),.pointer (some ⟨gn,0,none⟩)]/\Calls nH 131 #[aX r t,.pointer (some ⟨gq,0,none⟩),.pointer (some ⟨gs,0,none⟩),.pointer (some ⟨gn,0,none⟩)] w fun e w'=>e=.returned (.bool (fF t q s n))/\∃δ,w'=af w δ:=by
 obtain⟨hs,hn,gq,gs,gn,u,rfl,b1,⟨hk,hl,hc⟩,b2,_,b3,_⟩:=hH;refine⟨gq,gs,gn,rfl,?_⟩;have H:=qh hT;obtain⟨x,er,hx⟩:∃x e,eR t q=(x,e):=⟨_,_,rfl⟩;have HH:Hid (fF t q s n=(decide (er=0)&&zK s x n)):=qh (by unfold fF;rw[hx]);have y1:=b1.cell (i:=0) (v:=u) rfl;have y2:=b2.cell (i:=0) (v:=.string (str [s])) rfl;have y3:=b3.cell (i:=0) (v:=.int .i64 n) rfl;have i1:=b1.lt;have i2:=b2.lt;have i3:=b3.lt;rcases hc with⟨hne,rfl⟩|⟨he,ga,A,cap,rfl,c1,hS⟩
 ·have hent:=qF (.inl hk);have HQ:Hid (∀W:nJ,aI B W r t->Le B W->Calls nH (oz q.w) #[aX r t] W (dV (eR t q) W)):=qh fun W h1 h2=>RU q hk hne r t hv B W h1;obtain⟨fid,sK⟩:∃f,oz q.w=f:=⟨_,rfl⟩;rw[sK] at hent HQ y1;rw[hx] at HQ;unfold dV at HQ;clear hT hv hk hl hne sK hx b1 b2 b3;go_enter Tryz.func131,Tryz.ntmps131;go_upto_region 1 with fail;refine aK fun W1 aE=>?_;obtain⟨cz,de,cN,cY,dc⟩:=yj B w aE;refine QDN ?_;intro A1;have z1:W1.cell? ⟨gq,0,none⟩=some (.func (.func fid) #[] #[]):=by rw[aE.out];go_simp
  refine QER ?_;intro z2 z3 j1 j2 j3;clear aE;go_upto_region 2 with(first|(refine aj ak rfl _ rfl rfl A1.out rfl ?_)|(refine(HQ.out _ H.out.up inferInstance).mono ?_;rintro e w1 ⟨rfl,δ1,rfl⟩));by_cases he:er=0
  ·subst he;rcases hs with rfl|rfl|rfl;all_goals
    first
     |(have f0:((str [60]).toList==[60])=true:=by rw[cA];rfl
       refine QFB ?_
       intro f1 f2 HS
       clear HH
       rcases mz x n with⟨g1,g2,g3,g4⟩|g1|⟨g1,g2,g3,g4⟩
       ·go_wp2_with fail
        go_ret
        exact⟨by rw[HS.out];simp[g1],ag⟩
       ·subst g1
        go_wp2_with fail
        go_ret
        exact⟨by rw[HS.out];simp,ag⟩
       ·go_wp2_with fail
        go_ret
        exact⟨by rw[HS.out];simp[g1],ag⟩)
     |(have f0:((str [61]).toList==[60])=false:=by rw[cA];rfl
       refine QFC ?_
       intro f1 f2 HS
       clear HH
       rcases mz x n with⟨g1,g2,g3,g4⟩|g1|⟨g1,g2,g3,g4⟩
       ·go_wp2_with fail
        go_ret
        exact⟨by rw[HS.out];simp[g3],ag⟩
       ·subst g1
        go_wp2_with fail
        go_ret
        exact⟨by rw[HS.out];simp,ag⟩
       ·go_wp2_with fail
        go_ret
        exact⟨by rw[HS.out];simp[g3],ag⟩)
     |(have f0:((str [62]).toList==[60])=false:=by rw[cA];rfl
       refine QFD ?_
       intro f1 f2 HS
       clear HH
       rcases mz x n with⟨g1,g2,g3,g4⟩|g1|⟨g1,g2,g3,g4⟩
       ·go_wp2_with fail
        go_ret
        exact⟨by rw[HS.out];simp[g2],ag⟩
       ·subst g1
        go_wp2_with fail
        go_ret
        exact⟨by rw[HS.out];simp,ag⟩
       ·go_wp2_with fail
        go_ret
        exact⟨by rw[HS.out];simp[g2],ag⟩)
  ·have he2:(er==0)=false:=beq_eq_false_iff_ne.2 he;have HS:Hid (fF t q s n=false):=by unfold Hid;rw[HH.out];simp[he]
   clear hs HH he;go_wp2_with fail;go_ret;exact⟨by rw[HS.out];rfl,ag⟩
 ·obtain⟨d,a⟩:=q;obtain rfl:d=.early:=he;obtain⟨dy,rfl⟩:∃y,a=[y]:=by
   match a,hl with
   |[y],_=>exact⟨y,rfl⟩
  have HQ:Hid (∀W:nJ,aC w.heap.size w W->Le w.heap.size W->aI B W r t->Le B W->Calls nH 109 #[aX r t,.pointer (some ⟨ga,0,none⟩)] W (dV (eR t ⟨.early,[dy]⟩) W)):=qh fun W i1 i2 h1 h2=>IS r t hv dy ga A cap B W h1 c1.eA (hS.wide (w':=W)).plain;rw[hx] at HQ;obtain⟨q,hq⟩:∃q,(⟨.early,[dy]⟩:eH)=q:=⟨_,rfl⟩;rw[hq] at HH ⊢;unfold dV at HQ;have iga:=c1.lt;clear hT hv hk hl hx b1 b2 b3 c1 hS hq;go_enter Tryz.func131,Tryz.ntmps131;go_upto_region 1 with fail;refine aK fun W1 aE=>?_;obtain⟨dX,jP,GH,Jc,sJ⟩:=yj B w aE;refine QDN ?_;intro A1;have z1:W1.cell? ⟨gq,0,none⟩=some (.func (.func 109) #[] #[.pointer (some ⟨ga,0,none⟩)]):=by rw[aE.out];go_simp
  refine QER ?_;intro z2 z3 j1 j2 j3;clear aE;go_upto_region 2 with(first|(refine aj ak rfl _ rfl rfl A1.out rfl ?_)|(go_at_call 109;refine(HQ.out _ inferInstance inferInstance H.out.up inferInstance).mono ?_;rintro e w1 ⟨rfl,δ1,rfl⟩));by_cases he:er=0
  ·subst he;rcases hs with rfl|rfl|rfl;all_goals
    first
     |(have f0:((str [60]).toList==[60])=true:=by rw[cA];rfl
       refine QFB ?_
       intro f1 f2 HS
       clear HH
       rcases mz x n with⟨g1,g2,g3,g4⟩|g1|⟨g1,g2,g3,g4⟩
       ·go_wp2_with fail
        go_ret
        exact⟨by rw[HS.out];simp[g1],ag⟩
       ·subst g1
        go_wp2_with fail
        go_ret
        exact⟨by rw[HS.out];simp,ag⟩
       ·go_wp2_with fail
        go_ret
        exact⟨by rw[HS.out];simp[g1],ag⟩)
     |(have f0:((str [61]).toList==[60])=false:=by rw[cA];rfl
       refine QFC ?_
       intro f1 f2 HS
       clear HH
       rcases mz x n with⟨g1,g2,g3,g4⟩|g1|⟨g1,g2,g3,g4⟩
       ·go_wp2_with fail
        go_ret
        exact⟨by rw[HS.out];simp[g3],ag⟩
       ·subst g1
        go_wp2_with fail
        go_ret
        exact⟨by rw[HS.out];simp,ag⟩
       ·go_wp2_with fail
        go_ret
        exact⟨by rw[HS.out];simp[g3],ag⟩)
     |(have f0:((str [62]).toList==[60])=false:=by rw[cA];rfl
       refine QFD ?_
       intro f1 f2 HS
       clear HH
       rcases mz x n with⟨g1,g2,g3,g4⟩|g1|⟨g1,g2,g3,g4⟩
       ·go_wp2_with fail
        go_ret
        exact⟨by rw[HS.out];simp[g2],ag⟩
       ·subst g1
        go_wp2_with fail
        go_ret
        exact⟨by rw[HS.out];simp,ag⟩
       ·go_wp2_with fail
        go_ret
        exact⟨by rw[HS.out];simp[g2],ag⟩)
  ·have he2:(er==0)=false:=beq_eq_false_iff_ne.2 he;have HS:Hid (fF t q s n=false):=by unfold Hid;rw[HH.out];simp[he]
   clear hs HH he;go_wp2_with fail;go_ret;exact⟨by rw[HS.out];rfl,ag⟩
end
section
open Hd
structure Fr(B:Nat)(L:List TypeId)(w w':nJ):Prop where
 low:Below B w w'
 row:∀(k:Nat) (T:TypeId) (cur:Array nK) (fr:Nat × Nat),T∉L->w.heap[k]?=some (Obj.cells cur T fr)->w'.heap[k]?=some (Obj.cells cur T fr)
section
variable{B:Nat}{L L':List TypeId}{w w' w'':nJ}
theorem Fr.trans(h:Fr B L w w')(k:Fr B L w' w''):Fr B L w w'':=⟨h.low.trans k.low,fun j T cur fr hT hh=>k.row j T cur fr hT (h.row j T cur fr hT hh)⟩
theorem Fr.mono(h:Fr B L w w')(hs:∀T∈L,T∈L'):Fr B L' w w':=⟨h.low,fun j T cur fr hT hh=>h.row j T cur fr (fun e=>hT (hs T e)) hh⟩
theorem Fr.fK[hg:aC w.heap.size w w'][hl:Le w.heap.size w'][hB:Le B w]:Fr B L w w':=
 ⟨⟨hg.out.1,hg.out.2.1,hg.out.2.2.1,hl.out,fun b hb=>hg.out.2.2.2 b (nL hb hB.out)⟩,fun k T cur fr _ hh=>(hg.out.2.2.2 k (uk hh)).trans hh⟩
theorem Fr.eG{g:Nat}{T:TypeId}{cs:Array nK}(k:bw (fun x=>x=g) w w')(hb:av w g T cs)(hB:B<=g)(hT:T∈L):Fr B L w w':=
 ⟨k.below (nT hB (nS hb.rO)) (fun b (e:b=g)=>by rw[e];exact hB),fun j T' cur fr hn hh=>(k.block j (uk hh) (by
  rintro rfl
  unfold av at hb
  rw[hb] at hh
  injection hh with hh
  injection hh with _ ht
  exact hn (ht▸hT))).trans hh⟩
theorem Fr.grown{base n size:Nat}{T:TypeId}{v:nK}{xs:List nK}(hown:w.ownsRow base T size v n xs)(hg:w.grownBy w' v.ownBlock)(hB:B<=base)(hT:T∈L)[hl:Le B w]:Fr B L w w':=by
 refine⟨⟨hg.os,hg.tape,hg.output,hg.size,fun b hb=>hg.block b (nL hb hl.out) fun e=>?_⟩,fun k T' cur fr hn hh=>(hg.block k (uk hh) ?_).trans hh⟩
 ·have:=(hown.lt b e.symm).1;omega
 ·intro e;rcases hown.2 with⟨rfl,_⟩|⟨g,cap,cur',rfl,_,BC,_⟩
  ·simp[Value.ownBlock] at e
  ·have:k=g:=by simpa [Value.ownBlock] using e
   subst this;rw[hh] at BC;injection BC with BC;injection BC with _ ht;exact hn (ht▸hT)
theorem Fr.rest{b base:Nat}{cs:Array nK}(r:Rest b base w w')(hb:av w b 141 cs)(h1:B<=b)(h2:B<=base)(h3:141∈L)(h4:5∈L):Fr B L w w':=
 ⟨r.eG.below (nT h1 (nS hb.rO)) (fun k (e:k=b\/base<=k)=>by rcases e with rfl|e<;>omega),fun k T cur fr hn hh=>r.row k T cur fr (fun e=>hn (e▸h4)) (by
  rintro rfl
  unfold av at hb
  rw[hb] at hh
  injection hh with hh
  injection hh with _ ht
  exact hn (ht▸h3)) hh⟩
theorem Fr.Oc(f:Fr B L w w'):aC B w w':=⟨⟨f.low.os,f.low.tape,f.low.output,f.low.block⟩⟩
theorem Fr.g8(f:Fr B L w w')(h8:8<=B):aC 8 w w':=⟨⟨f.low.os,f.low.tape,f.low.output,fun b hb=>f.low.block b (nL hb h8)⟩⟩
theorem Fr.less(f:Fr B L w w'){B':Nat}(h:B'<=B):Fr B' L w w':=⟨⟨f.low.os,f.low.tape,f.low.output,f.low.size,fun b hb=>f.low.block b (nL hb h)⟩,f.row⟩
theorem av.fr{b:Nat}{T:TypeId}{cs:Array nK}(h:av w b T cs)(f:Fr B L w w')(hT:T∉L):av w' b T cs:=f.row _ _ _ _ hT h
theorem dR{base n size:Nat}{T:TypeId}{v:nK}{xs:List nK}(h:w.ownsRow base T size v n xs)(f:Fr B L w w')(hT:T∉L):w'.ownsRow base T size v n xs:=by
 refine⟨h.1,?_⟩;rcases h.2 with h2|⟨g,cap,cur,rfl,h1,h2,h3⟩
 ·exact .inl h2
 ·exact .inr ⟨g,cap,cur,rfl,h1,f.row _ _ _ _ hT h2,h3⟩
theorem fm.fr{α:Type}{enc:α->List nK}{T:TypeId}{A:Option Addr}{c:Nat}{xs:List α}(h:fm T enc w.heap.size w A c xs)(f:Fr B L w w')(hT:T∉L):fm T enc w'.heap.size w' A c xs:=
 h.pV f.low.size fun b cur fr _ hh=>(f.row _ _ _ _ hT hh).trans hh.symm
theorem Sl.frB{α:Type}{enc:α->List nK}{A:Option Addr}{c:Nat}{xs:List α}(h:Sl enc B w A c xs)(f:Fr B L w w'):Sl enc B w' A c xs:=by have i:=f.Oc;exact h.up
theorem kj.fr{α:Type}{enc:α->List nK}{T:TypeId}{A:Option Addr}{c:Nat}{xs:List α}(h:kj T enc B w A c xs)(f:Fr B L w w')(hT:T∉L):kj T enc B w' A c xs:=by
 rcases h with h|h
 ·exact .inl (h.frB f)
 ·exact .inr (h.fr f hT)
def Md:List TypeId:=[23,94,99,105,109,114,116,3]
def yw:List TypeId:=Md++[187,9,183,35]
theorem aP.fr{r:aR}{t:aV}(h:aP B w r t)(f:Fr B L w w')(hL:∀T∈Md,T∉L):aP B w' r t:=
 ⟨⟨h.1.1.fr f (hL _ nU),h.1.2.1.fr f (hL _ nU),h.1.2.2.fr f (hL _ nU)⟩,⟨h.2.1.1.fr f (hL _ nU),h.2.1.2.fr f (hL _ nU)⟩,⟨h.2.2.1.fr f (hL _ nU),h.2.2.2.1.fr f (hL _ nU),h.2.2.2.2.fr f (hL _ nU)⟩⟩
theorem gv.fr{v:nK}{c:eH}(h:gv w v c)(f:Fr B L w w')(hL:∀T∈yw,T∉L):gv w' v c:=by obtain⟨h1,h2,gc,ga,A,cap,rfl,b1,b2,hS⟩:=h;exact⟨h1,h2,gc,ga,A,cap,rfl,b1.fr f (hL _ nU),b2.fr f (hL _ nU),hS.fr f (hL _ nU)⟩
theorem jd.fr{v:nK}{c:eH}(h:jd w v c)(f:Fr B L w w')(hL:∀T∈yw,T∉L):jd w' v c:=by
 obtain⟨h1,h2,h|⟨h3,ga,A,cap,h4,h5,h6⟩⟩:=h
 ·exact⟨h1,h2,.inl h⟩
 ·exact⟨h1,h2,.inr ⟨h3,ga,A,cap,h4,h5.fr f (hL _ nU),h6.fr f (hL _ nU)⟩⟩
theorem ko.fr{X:Nat->Prop}{v:nK}{q:eH}{s:UInt8}{n:Int}(h:ko X w v q s n)(f:Fr B L w w')(hL:∀T∈yw,T∉L):ko X w' v q s n:=by obtain⟨h1,h2,gq,gs,gn,u,rfl,b1,c,b2,x2,b3,x3⟩:=h;exact⟨h1,h2,gq,gs,gn,u,rfl,b1.fr f (hL _ nU),c.fr f hL,b2.fr f (hL _ nU),x2,b3.fr f (hL _ nU),x3⟩
theorem cX.fr(h:cX w)(f:Fr B L w w')(h8:8<=B):cX w':=by have i:=f.g8 h8;exact h.up
theorem zc.fr{b base:Nat}{l:bL}(h:zc b base l w)(f:Fr B L w w')(h1:141∉L)(h2:5∉L):zc b base l w':=by obtain⟨p,v,hb,hp,hown⟩:=h;exact⟨p,v,hb.fr f h1,hp,dR hown f h2⟩
end
structure fk where
 ord:Ord
 gq:Nat
 gs:Nat
 gn:Nat
 gc:Nat
 ga:Nat
instance:Inhabited fk:=⟨⟨⟨0,[]⟩,0,0,0,0,0⟩⟩
def ND(m:fk):nK:=.func (.func 131) #[] #[.pointer (some ⟨m.gq,0,none⟩),.pointer (some ⟨m.gs,0,none⟩),.pointer (some ⟨m.gn,0,none⟩)]
def PB(m:fk):nK:=.func (.func 108) #[] #[.pointer (some ⟨m.gc,0,none⟩),.pointer (some ⟨m.ga,0,none⟩)]
def xw(m:fk):Array nK:=#[.int .i64 (m.ord.num:Nat),.string (str m.ord.line),ND m,PB m]
def gY(m:fk):List nK:=[.int .i64 (m.ord.num:Nat),.string (str m.ord.line),ND m,PB m]
theorem Ou(m:fk):(gY m).length=4:=rfl
theorem MW:∀x:fk,∀u∈gY x,u.oneCell'=true:=by intro x u hu;simp[gY] at hu;rcases hu with rfl|rfl|rfl|rfl<;>rfl
theorem Dh(m:fk):(xw m).all (·.oneCell')=true:=by simp[xw,ND,PB,Value.oneCell']
theorem Yb:nw nH 63 71 (.agg #[.int .i64 0,.string ⟨#[]⟩,.nilFunc,.nilFunc]) 4 40:=nw.mk Tryz.underlying63 nP rfl nQ
theorem tD:fO nH 71 4:=fO.mk' Tryz.underlying71 rfl nP
theorem Sl.Tm{B:Nat}{w:nJ}{A:Option Addr}{c:Nat}{xs:List fk}(h:Sl gY B w A c xs){k:Nat}(hk:k<xs.length):∃b o,A=some ⟨b,o,none⟩/\b<B/\w.cell? ⟨b,o+k*4,none⟩=some (.int .i64 ((nth xs k).ord.num:Nat))/\w.cell? ⟨b,o+k*4+1,none⟩=some (.string (str (nth xs k).ord.line))/\w.cell? ⟨b,o+k*4+2,none⟩=some (ND (nth xs k))/\w.cell? ⟨b,o+k*4+3,none⟩=some (PB (nth xs k)):=by obtain⟨b,o,hA,hb,hc⟩:=h.at_ (size:=4) Ou hk nQ;refine⟨b,o,hA,hb,?_⟩;rw[bV _ hk];exact⟨hc 0 _ rfl,hc 1 _ rfl,hc 2 _ rfl,hc 3 _ rfl⟩
theorem ye{p:fk->Bool}:∀ {os:List fk} {j:Nat},j<os.length->p (nth os j)=true->(∀m,m<j->p (nth os m)=false)->os.findIdx? p=some j
 |[],j,h,_,_=>absurd h (Nat.not_lt_zero _)
 |x::xs,0,_,h,_=>by have h:p x=true:=h;rw[List.findIdx?_cons,if_pos h]
 |x::xs,j+1,hl,h,hn=>by have h0:p x=false:=hn 0 (Nat.succ_pos _);rw[List.findIdx?_cons,if_neg (by rw[h0];decide),ye (os:=xs) (j:=j) (Nat.lt_of_succ_lt_succ hl) h fun m hm=>hn (m+1) (Nat.succ_lt_succ hm)];rfl
theorem yg{p:fk->Bool}:∀ {os:List fk},(∀m,m<os.length->p (nth os m)=false)->os.findIdx? p=none
 |[],_=>rfl
 |x::xs,hn=>by have h0:p x=false:=hn 0 (Nat.succ_pos _);rw[List.findIdx?_cons,if_neg (by rw[h0];decide),yg (os:=xs) fun m hm=>hn (m+1) (Nat.succ_lt_succ hm)];rfl
theorem yd(f:Ord->Bool):∀ms:List fk,(ms.map (·.ord)).findIdx? f=ms.findIdx? fun m=>f m.ord
 |[]=>rfl
 |m::ms=>by rw[List.map_cons,List.findIdx?_cons,List.findIdx?_cons,yd f ms]
def uA(X:Nat->Prop)(w:nJ)(m:fk):Prop:=∃q s n c,di m.ord.line=.ord q s n c/\ko X w (ND m) q s n/\gv w (PB m) c
theorem uA.fr{X:Nat->Prop}{B:Nat}{L:List TypeId}{w w':nJ}{m:fk}(h:uA X w m)(f:Fr B L w w')(hL:∀T∈yw,T∉L):uA X w' m:=by obtain⟨q,s,n,c,hr,hh,hc⟩:=h;exact⟨q,s,n,c,hr,hh.fr f hL,hc.fr f hL⟩
structure bZ(X:Nat->Prop)(B D:Nat)(W:nJ)(k:cH)(d:cU)(ms:List fk):Prop where
 dY:yT B D W k d
 row:W.ownsRow B 71 4 (.slice k.oA d.aB.length k.oc) d.aB.length (ms.flatMap gY)
 map:ms.map (·.ord)=d.aB
 each:∀m∈ms,uA X W m
theorem bZ.len{X:Nat->Prop}{B D:Nat}{W:nJ}{k:cH}{d:cU}{ms:List fk}(h:bZ X B D W k d ms):ms.length=d.aB.length:=by rw[<-h.map,List.length_map]
theorem bZ.oX{X:Nat->Prop}{B D:Nat}{W:nJ}{k:cH}{d:cU}{ms:List fk}(h:bZ X B D W k d ms){i:Nat}(hi:i<d.aB.length):(nth ms i).ord=nth d.aB i:=by rw[<-h.map,iq _ _ (by rw[h.len];exact hi)]
theorem bZ.fr{X:Nat->Prop}{B D:Nat}{L:List TypeId}{w w':nJ}{k:cH}{d:cU}{ms:List fk}(h:bZ X B D w k d ms)(f:Fr B L w w')(hL:∀T∈yw,T∉L)(h1:65∉L)(h2:71∉L):bZ X B D w' k d ms:=
 ⟨⟨h.dY.box.fr f h1,h.dY.ax.fr f fun T hT=>hL T (List.mem_append_left _ hT),h.dY.low⟩,dR h.row f h2,h.map,fun m hm=>(h.each m hm).fr f hL⟩
theorem bZ.le{X:Nat->Prop}{B D:Nat}{W:nJ}{k:cH}{d:cU}{ms:List fk}(h:bZ X B D W k d ms):Le B W:=⟨nT h.dY.low (nS h.dY.lt)⟩
theorem bZ.up{X:Nat->Prop}{B D:Nat}{W W':nJ}{k:cH}{d:cU}{ms:List fk}(h:bZ X B D W k d ms)[hg:aC W.heap.size W W'][hl:Le W.heap.size W']:bZ X B D W' k d ms:=by have i:=h.le;exact h.fr (L:=[]) Fr.fK (fun _ _=>List.not_mem_nil) List.not_mem_nil List.not_mem_nil
def jc:List TypeId:=[65,71]
end
section
open Hd
theorem Hx(w:nJ)(ty:TypeId)(g o c:Nat)(h0:∀j,j<4->(w.cell? ⟨g,o+j,none⟩).isSome=true)(f0:∀j,j<4->w.frozen? ⟨g,o+j,none⟩=false):(Builtin.clear_ #[63] ty #[.slice (some ⟨g,o,none⟩) 1 c]).run nH w=.ok (.tuple #[]) (w.setCells g o [.int .i64 0,.string ⟨#[]⟩,.nilFunc,.nilFunc]):=by
 obtain⟨i,hu,hi,hz,_⟩:=Yb;have hv:∀w,(zeroValue 71).run nH w=.ok (.agg #[.int .i64 0,.string ⟨#[]⟩,.nilFunc,.nilFunc]) w:=fun w=>by kernel_rfl
 have hst:=run_storeCells_cells (P:=nH) g o [.int .i64 0,.string ⟨#[]⟩,.nilFunc,.nilFunc] 0 w (by
  intro j hj
  simpa using h0 j (by simpa using hj)) (by
  intro j hj
  simpa using f0 j (by simpa using hj)) (by intro v hv;simp at hv;(repeat' rcases hv with rfl|hv)<;>first|rfl|(subst hv;rfl))
 have Yo:(Builtin.zeroCells (Value.agg #[.int .i64 0,.string ⟨#[]⟩,.nilFunc,.nilFunc]).cells 1).toList=[.int .i64 0,.string ⟨#[]⟩,.nilFunc,.nilFunc]:=by kernel_rfl
 simp only[Nat.add_zero] at hst;simp[Builtin.clear_,run_underlying hu,hv,Yo,hst]
theorem Av(B:Nat)(g c i k:Nat)(ps:List fk)(w:nJ)[hW:Le B w](h:w.ownsRow B 71 4 (.slice (some ⟨g,0,none⟩) (k+1) c) (k+1) (ps.flatMap gY))(hl:ps.length=k+1)(hi:i<=k)(hk:k<=100):Calls nH 72 #[.slice (some ⟨g,0,none⟩) (k+1) c,.int .i64 i,.int .i64 ((i:Int)+1)] w fun e w'=>e=.returned (.slice (some ⟨g,0,none⟩) k c)/\bw (fun x=>x=g) w w'/\w'.ownsRow B 71 4 (.slice (some ⟨g,0,none⟩) k c) k ((ps.take i++ps.drop (i+1)).flatMap gY):=by
 obtain⟨cs,iA,NU,hnc,Jg,hsz,hcs⟩:=yK h;obtain⟨ti,hu,Q8,hz,hts,_⟩:=Yb;have Yy:c<=9223372036854775807:=Jg;have hlen:(ps.flatMap gY).length=(k+1)*4:=by rw[cg gY 4 (fun _=>rfl),hl]
 obtain⟨news,hnews⟩:∃news,news=(ps.drop (i+1)).flatMap gY:=⟨_,rfl⟩;have wI:news.length=(k-i)*4:=by rw[hnews,cg gY 4 (fun _=>rfl),List.length_drop,hl];omega
 have hcell:∀j v,(ps.flatMap gY)[j]?=some v->w.cell? ⟨g,j,none⟩=some v:=fun j v hj=>by
  refine iA.cell ?_;rw[<-hcs,List.getElem?_take] at hj;split at hj
  ·simpa using hj
  ·cases hj
 have hall:∀j,j<(k+1)*4->(w.cell? ⟨g,j,none⟩).isSome=true:=fun j hj=>by
  have:j<(ps.flatMap gY).length:=by rw[hlen];exact hj
  rw[hcell j _ (List.getElem?_eq_getElem this)];rfl
 have hsplit:ps.flatMap gY=(ps.take (i+1)).flatMap gY++news:=by rw[hnews,<-List.flatMap_append,List.take_append_drop]
 have EP:((ps.take (i+1)).flatMap gY).length=(i+1)*4:=by rw[cg gY 4 (fun _=>rfl),List.length_take,hl,Nat.min_eq_left nQ]
 obtain⟨A,hA,hsrc⟩:∃A:Addr,(if c=i+1 then some (⟨g,0,none⟩:Addr) else some ⟨g,(i+1)*4,none⟩)=some A/\Hid (∀t u,news[t]?=some u->w.drew.cell? (A.add t)=some u):=by
  by_cases hc:c=i+1
  ·refine⟨⟨g,0,none⟩,by simp[hc],fun t u hu=>?_⟩;have h0:news.length=0:=by rw[wI];omega
   rw[List.length_eq_zero_iff.1 h0] at hu;simp at hu
  ·refine⟨⟨g,(i+1)*4,none⟩,by simp[hc],fun t u hu=>?_⟩;rw[Addr.add_lit];show w.cell? _=_;refine hcell _ _ ?_;rw[hsplit,List.getElem?_append_right (by rw[EP];omega),EP,Nat.add_sub_cancel_left];exact hu
 have s2:Hid (∀u∈news,u.oneCell'=true):=by rw[hnews];exact dS gY MW _
 have s3:Hid (∀t,t<news.length->(w.drew.cell? ⟨g,0+i*4+t,none⟩).isSome=true/\w.drew.frozen? ⟨g,0+i*4+t,none⟩=false):=fun t ht=>by rw[wI] at ht;exact⟨hall _ nQ,iA.free _⟩
 obtain⟨Zk,ku,hz1,ht1⟩:=av.oP news (0+i*4) (show av w.drew g _ cs from iA.drew) (by rw[wI,hsz];omega);obtain⟨W2,eu⟩:∃W2,w.drew.setCells g (0+i*4) news=W2:=⟨_,rfl⟩;rw[eu] at ku;have NP:∀j,j<(k+1)*4->(W2.cell? ⟨g,j,none⟩).isSome=true:=fun j hj=>by
  have:j<Zk.size:=by rw[hz1,hsz];omega
  rw[ku.cell (i:=j) (Array.getElem?_eq_getElem this)];rfl
 have hcl:∀ty,(Builtin.clear_ #[63] ty #[.slice (some ⟨g,k*4,none⟩) 1 (c-k)]).run nH W2=.ok (.tuple #[]) (W2.setCells g (k*4) [.int .i64 0,.string ⟨#[]⟩,.nilFunc,.nilFunc]):=fun ty=>
  Hx W2 ty g (k*4) (c-k) (fun j hj=>NP _ nQ) (fun j hj=>ku.free _)
 obtain⟨cs2,gi,rV,VF⟩:=av.oP [.int .i64 0,.string ⟨#[]⟩,.nilFunc,.nilFunc] (k*4) ku (by rw[hz1,hsz];simp only[List.length_cons,List.length_nil];omega);have bN:bw (fun x=>x=g) w (W2.setCells g (k*4) [.int .i64 0,.string ⟨#[]⟩,.nilFunc,.nilFunc]):=by rw[<-eu];exact bw.setCells _ _ _ _ (bw.setCells _ _ _ _ ((bw.refl _ w).drew))
 have Rb:(W2.setCells g (k*4) [.int .i64 0,.string ⟨#[]⟩,.nilFunc,.nilFunc]).ownsRow B 71 4 (.slice (some ⟨g,0,none⟩) k c) k ((ps.take i++ps.drop (i+1)).flatMap gY):=by
  have e1:(ps.take i).flatMap gY=cs.toList.take (i*4):=by
   have:=congrArg (List.take (i*4)) hcs;rw[List.take_take,Nat.min_eq_left nQ] at this;rw[this];have e:ps.flatMap gY=(ps.take i).flatMap gY++(ps.drop i).flatMap gY:=by rw[<-List.flatMap_append,List.take_append_drop]
   rw[e,List.take_left' (by rw[cg gY 4 (fun _=>rfl),List.length_take,hl,Nat.min_eq_left nQ])]
  have hcl:cs.toList.length=c*4:=by rw[Array.length_toList,hsz]
  have e2:((ps.take i++ps.drop (i+1)).flatMap gY)=cs.toList.take (i*4)++news:=by rw[List.flatMap_append,e1,hnews]
  refine xm gi NU nQ Jg (by rw[rV,hz1,hsz]) ?_ ?_
  ·rw[VF,ht1,e2];have l1:(cs.toList.take (0+i*4)++news).length=k*4:=by rw[List.length_append,List.length_take,hcl,wI];omega
   rw[List.append_assoc,List.take_append_of_le_length (by rw[List.length_take,List.length_append,l1];omega),List.take_take,Nat.min_self,List.take_left' l1,Nat.zero_add]
  ·rw[e2,List.length_append,List.length_take,hcl,wI];omega
 refine QDD ?_;intro W2' HF HB HU HI HT WX f1 f2 f3 f4 f5 f6 f7 f8 f9;clear h hl iA hcs hlen hnews hcell hall hsplit EP ku ht1 hz1 NP gi rV VF bN Rb hu Q8 hz hts wI eu Jg hsz;go_enter Tryz.func72,Tryz.ntmps72;go_wp2_with fail;go_region_law (refine ny rfl (.tmp 22) (.tmp 25) 63 rfl 71 ti 4 HU.out HI.out HT.out g 0 i c (by simp[Act.eval,Act.put]) A (k-i) (c-(i+1)) news (by simp[Act.eval,Act.put]) WX.out hsrc.out s2.out nQ s3.out k nQ W2 W2'.out ?_);go_wp2;go_ret;exact⟨rfl,HB.out,HF.out⟩
end
section
open Hd
theorem WA(m:fk)(x:Int)(ga:Nat)(A:Option Addr)(cap:Nat)(w:nJ)(hA:av w ga 35 #[.slice A 1 cap])(hS:Sl aH w.heap.size w A cap [x]):Calls nH 71 #[.agg #[.int .i64 (m.ord.num:Nat),.string (str m.ord.line),ND m,PB m],.pointer (some ⟨ga,0,none⟩)] w fun e w'=>e=.returned (.bool (decide ((m.ord.num:Int)=x)))/\∃δ,w'=af w δ:=by
 obtain⟨bb,oo,rfl,gH,dd⟩:=hS.int (k:=0) nV;have dd:w.cell? ⟨bb,oo,none⟩=some (.int .i64 x):=dd;have ib:Lt bb w:=⟨gH⟩;have ig:=hA.lt;have y0:=hA.cell (i:=0) (v:=.slice (some ⟨bb,oo,none⟩) 1 cap) rfl;obtain⟨nm,hnm⟩:∃n,m.ord.num=n:=⟨_,rfl⟩;obtain⟨ln,gG⟩:∃n,str m.ord.line=n:=⟨_,rfl⟩;obtain⟨v2,h2⟩:∃n,ND m=n:=⟨_,rfl⟩;obtain⟨v3,h3⟩:∃n,PB m=n:=⟨_,rfl⟩;rw[hnm,gG,h2,h3];clear hA hS gH hnm gG h2 h3;go_enter Tryz.func71,Tryz.ntmps71;go_upto_region 1 with fail;refine aK fun W1 aE=>?_;have j1:Lt w.heap.size W1:=mb aE;have b1:av W1 w.heap.size 71 #[.int .i64 (nm:Nat),.string ln,v2,v3]:=by rw[aE.out];exact av.new rfl
 have x0:=b1.cell (i:=0) (v:=.int .i64 (nm:Nat)) rfl;have y1:W1.cell? ⟨ga,0,none⟩=some (.slice (some ⟨bb,oo,none⟩) 1 cap):=by rw[aE.out];go_simp
 have y2:W1.cell? ⟨bb,oo,none⟩=some (.int .i64 x):=by rw[aE.out];go_simp
 have ib1:Lt bb W1:=mb aE;have ig1:Lt ga W1:=mb aE;have q1:aC w.heap.size w W1:=iC aE;have q2:Le w.heap.size W1:=fR aE;clear aE b1;by_cases hx:(nm:Int)=x
 ·subst hx;refine wpRl ?_;repeat (go_big_quiet_step ((first|(fail))))
  refine QBY ?_;rintro _ ⟨δq,rfl⟩;go_wp2_with fail;go_ret;exact⟨nV,ag⟩
 ·have hx':((nm:Int)==x)=false:=beq_eq_false_iff_ne.2 hx;refine wpRl ?_;repeat (go_big_quiet_step ((first|(fail))))
  refine QBY ?_;rintro _ ⟨δq,rfl⟩;go_wp2_with fail;go_ret;exact⟨by simp[hx],ag⟩
theorem Gm(ms:List fk)(x:Int)(ga:Nat)(A0:Option Addr)(Ik:Nat)(hl:ms.length<=1000)(A:Option Addr)(c:Nat)(w:nJ)(hM:Sl gY w.heap.size w A c ms)(hA:av w ga 35 #[.slice A0 1 Ik])(hS:Sl aH w.heap.size w A0 Ik [x]):Calls nH 70 #[.slice A ms.length c,.func (.func 71) #[] #[.pointer (some ⟨ga,0,none⟩)]] w fun e w'=>e=.returned (.int .i64 (ud (ms.findIdx? fun m=>decide ((m.ord.num:Int)=x))))/\∃δ,w'=af w δ:=by
 have HM:=qh hM;have HA:=qh hA;have HS:=qh hS;have hcc:ms.length<=c:=hM.1;clear hM hA hS;go_enter Tryz.func70,Tryz.ntmps70;go_upto_region 2 with fail;go_loopg [8] ms.length (fun gn i wr=>∃(j:Nat) (δ:nJ),j<=ms.length/\gn=ms.length-j/\i=.int .i64 j/\wr=af w δ/\Hid (∀p,p<j->decide (((nth ms p).ord.num:Int)=x)=false))
 case atStart=>exact⟨0,w,nE _,rfl,rfl,(aY w).symm,qh fun p hp=>absurd hp (Nat.not_lt_zero _)⟩
 case round=>
  obtain⟨j,δ,hj,rfl,rfl,rfl,HN⟩:=hrel;by_cases hlt:j<ms.length
  ·have hji:(j:Int)<(ms.length:Int):=nQ;have hj0:¬(j:Int)<0:=nQ;obtain⟨ob,oo,rfl,yX,e0,e1,e2,e3⟩:=(HM.out.up (w':=af w δ)).Tm hlt;have lob:Lt ob w:=⟨yX⟩;have HF:Hid (∀W:nJ,aC w.heap.size w W->Le w.heap.size W->Calls nH 71 #[.agg #[.int .i64 ((nth ms j).ord.num:Nat),.string (str (nth ms j).ord.line),ND (nth ms j),PB (nth ms j)],.pointer (some ⟨ga,0,none⟩)] W fun e w'=>e=.returned (.bool (decide (((nth ms j).ord.num:Int)=x)))/\∃δ,w'=af W δ):=
    qh fun W i1 i2=>WA (nth ms j) x ga A0 Ik W HA.out.eA HS.out.wide
   obtain⟨bb,gH⟩:∃b,decide (((nth ms j).ord.num:Int)=x)=b:=⟨_,rfl⟩;rw[gH] at HF;have HB:=qh gH;obtain⟨nm,hnm⟩:∃n,(nth ms j).ord.num=n:=⟨_,rfl⟩;obtain⟨ln,gG⟩:∃n,str (nth ms j).ord.line=n:=⟨_,rfl⟩;obtain⟨v2,h2⟩:∃n,ND (nth ms j)=n:=⟨_,rfl⟩;obtain⟨v3,h3⟩:∃n,PB (nth ms j)=n:=⟨_,rfl⟩;rw[hnm,gG,h2,h3] at HF;rw[hnm] at e0;rw[gG] at e1;rw[h2] at e2;rw[h3] at e3;clear gH hnm gG h2 h3 yX;cases bb with
   |true=>
    have HX:Hid (ud (ms.findIdx? fun m=>decide ((m.ord.num:Int)=x))=(j:Int)):=qh (by rw[ye hlt HB.out HN.out];rfl)
    clear HN
    go_wp2_with (go_at_call 71;refine(HF.out _ inferInstance inferInstance).mono ?_;rintro e w1 ⟨rfl,δ1,rfl⟩)
    go_ret
    exact⟨by rw[HX.out];rfl,ag⟩
   |false=>
    go_wp2_with (go_at_call 71;refine(HF.out _ inferInstance inferInstance).mono ?_;rintro e w1 ⟨rfl,δ1,rfl⟩)
    go_roundg (ms.length-(j+1))
    case measure=>omega
    case rel=>
     refine⟨j+1,_,nQ,rfl,by go_num,aq,qh fun p hp=>?_⟩;rcases Nat.lt_succ_iff_lt_or_eq.1 hp with h|rfl
     ·exact HN.out p h
     ·exact HB.out
  ·obtain rfl:j=ms.length:=by omega
   have hjn:¬((ms.length:Int)<(ms.length:Int)):=nQ;have HX:Hid (ud (ms.findIdx? fun m=>decide ((m.ord.num:Int)=x)) = -1):=qh (by rw[yg HN.out];rfl);clear HN;go_wp2_with fail;go_ret;exact⟨by rw[HX.out];rfl,ag⟩
theorem xu(ms:List fk)(x:Int)(ga:Nat)(A0:Option Addr)(Ik ln:Nat)(gG:ms.length=ln)(hl:ms.length<=1000)(A:Option Addr)(c:Nat)(w:nJ)(hM:Sl gY w.heap.size w A c ms)(hA:av w ga 35 #[.slice A0 1 Ik])(hS:Sl aH w.heap.size w A0 Ik [x]):Calls nH 70 #[.slice A ln c,.func (.func 71) #[] #[.pointer (some ⟨ga,0,none⟩)]] w fun e w'=>e=.returned (.int .i64 (ud (ms.findIdx? fun m=>decide ((m.ord.num:Int)=x))))/\∃δ,w'=af w δ:=by subst gG;exact Gm ms x ga A0 Ik hl A c w hM hA hS
theorem IC(k:cH)(d:cU)(ms:List fk)(hv:aG d.ax=true)(c:eH)(v:nK)(X:Nat->Prop)(B D:Nat)(w:nJ)(hD:bZ X B D w k d ms)(hC:gv w v c):Calls nH 66 #[.pointer (some ⟨D,0,none⟩),v] w fun e w'=>∃k':cH,e=.returned (.bool (gZ d.ax c).isSome)/\bZ X B D w' k' ⟨kf d.ax c,d.aB,d.given⟩ ms/\Fr B [65] w w':=by refine(SN k d hv c v B D w hD.dY hC).mono ?_;rintro e w1 ⟨r',rfl,hd,hk⟩;have f:Fr B [65] w w1:=Fr.eG hk hD.dY.box hD.dY.low nV;exact⟨⟨r',k.oA,k.oc⟩,rfl,⟨hd,dR hD.row f nU,hD.map,fun m hm=>(hD.each m hm).fr f nU⟩,f⟩
end
section
open Hd
def kq(X:Nat->Prop)(B D:Nat)(w:nJ)(x:cU × bL)(e:Ending)(w':nJ):Prop:=∃(k':cH) (ms':List fk),e=.returned (.string (str x.2))/\bZ X B D w' k' x.1 ms'/\Fr B jc w w'
theorem bZ.first{X:Nat->Prop}{B D:Nat}{w:nJ}{k:cH}{d:cU}{ms:List fk}(h:bZ X B D w k d ms)(h0:0<d.aB.length):∃g,k.oA=some ⟨g,0,none⟩/\B<=g/\∃cs,av w g 71 cs:=by
 rcases h.row.2 with⟨hv,_⟩|⟨g,cap,cur,hv,h1,h2,_⟩
 ·injection hv with _ hn _;omega
 ·injection hv with hA _ _;exact⟨g,hA,h1,cur,h2⟩
theorem bZ.Y1{X:Nat->Prop}{B D:Nat}{w:nJ}{k:cH}{d:cU}{ms:List fk}(h:bZ X B D w k d ms)(g:Nat):bZ X B D (w.setCell ⟨D,15,none⟩ (.int .i64 (g:Nat))) k ⟨d.ax,d.aB,g⟩ ms/\Fr B jc w (w.setCell ⟨D,15,none⟩ (.int .i64 (g:Nat))):=by
 have f:Fr B [65] w (w.setCell ⟨D,15,none⟩ (.int .i64 (g:Nat))):=Fr.eG ((bw.refl (fun x=>x=D) w).set (b:=D) rfl 15 _) h.dY.box h.dY.low nV;refine⟨⟨⟨?_,h.dY.ax.fr f nU,h.dY.low⟩,dR h.row f nU,h.map,fun m hm=>(h.each m hm).fr f nU⟩,f.mono nU⟩;have e:bX k ⟨d.ax,d.aB,g⟩=(bX k d).setIfInBounds 15 (.int .i64 (g:Nat)):=by simp[bX]
 rw[e];exact h.dY.box.set 15 _
theorem bZ.del{X:Nat->Prop}{B D:Nat}{w w1:nJ}{k:cH}{d:cU}{ms:List fk}(h:bZ X B D w k d ms){i n g:Nat}(hi:i<d.aB.length)(hn:d.aB.length=n+1)(hA:k.oA=some ⟨g,0,none⟩)(kp:bw (fun x=>x=g) w w1)(row:w1.ownsRow B 71 4 (.slice (some ⟨g,0,none⟩) n k.oc) n ((ms.take i++ms.drop (i+1)).flatMap gY)):bZ X B D (w1.setCell ⟨D,14,none⟩ (.slice (some ⟨g,0,none⟩) n k.oc)) ⟨k.ax,some ⟨g,0,none⟩,k.oc⟩ ⟨d.ax,d.aB.eraseIdx i,d.given⟩ (ms.eraseIdx i)/\Fr B jc w (w1.setCell ⟨D,14,none⟩ (.slice (some ⟨g,0,none⟩) n k.oc)):=by
 obtain⟨g',oH,hB,cs,hb⟩:=h.first nQ;rw[hA] at oH;injection oH with oH;injection oH with hg;subst hg;have f1:Fr B [71] w w1:=Fr.eG kp hb hB nV;have Wm:=h.dY.box.fr f1 nU;have f2:Fr B [65] w1 (w1.setCell ⟨D,14,none⟩ (.slice (some ⟨g,0,none⟩) n k.oc)):=Fr.eG ((bw.refl (fun x=>x=D) w1).set (b:=D) rfl 14 _) Wm h.dY.low nV;have hl:(d.aB.eraseIdx i).length=n:=by rw[List.length_eraseIdx_of_lt hi,hn];rfl
 refine⟨⟨⟨?_,(h.dY.ax.fr f1 nU).fr f2 nU,h.dY.low⟩,?_,?_,fun m hm=>((h.each m (List.mem_of_mem_eraseIdx hm)).fr f1 nU).fr f2 nU⟩,(f1.mono nU).trans (f2.mono nU)⟩
 ·have e:bX ⟨k.ax,some ⟨g,0,none⟩,k.oc⟩ ⟨d.ax,d.aB.eraseIdx i,d.given⟩=(bX k d).setIfInBounds 14 (.slice (some ⟨g,0,none⟩) n k.oc):=by simp[bX,hl]
  rw[e];exact Wm.set 14 _
 ·show World.ownsRow _ B _ 4 (.slice (some ⟨g,0,none⟩) (d.aB.eraseIdx i).length k.oc) (d.aB.eraseIdx i).length _;rw[hl,List.eraseIdx_eq_take_drop_succ];exact dR row f2 nU
 ·show(ms.eraseIdx i).map _=d.aB.eraseIdx i;rw[<-h.map,List.eraseIdx_eq_take_drop_succ,List.eraseIdx_eq_take_drop_succ,List.map_append,List.map_take,List.map_drop]
theorem uA.up{X:Nat->Prop}{w W:nJ}{m:fk}(h:uA X w m)[hg:aC w.heap.size w W][hl:Le w.heap.size W]:uA X W m:=by obtain⟨q,s,n,c,hr,hh,hc⟩:=h;exact⟨q,s,n,c,hr,hh.up,hc.up⟩
theorem sized{w:nJ}{B:Nat}(h:B<=w.heap.size):∃W0:nJ,B=W0.heap.size:=⟨{ w with heap:=w.heap.extract 0 B },by simp;omega⟩
theorem bZ.add{X:Nat->Prop}{B D:Nat}{w w1:nJ}{k:cH}{d:cU}{ms:List fk}{m:fk}{A:Option Addr}{c n:Nat}(hg:w.grownBy w1 (Value.slice k.oA n k.oc).ownBlock)(row:w1.ownsRow B 71 4 (.slice A (n+1) c) (n+1) (ms.flatMap gY++gY m))(h:bZ X B D w k d ms)(hn:d.aB.length=n)(hm:uA X w m):bZ X B D (w1.setCell ⟨D,14,none⟩ (.slice A (n+1) c)) ⟨k.ax,A,c⟩ ⟨d.ax,d.aB++[m.ord],d.given⟩ (ms++[m])/\Fr B jc w (w1.setCell ⟨D,14,none⟩ (.slice A (n+1) c)):=by
 subst hn;have lB:=h.le;have f1:Fr B [71] w w1:=Fr.grown h.row hg (nR _) nV;have Wm:=h.dY.box.fr f1 nU;have f2:Fr B [65] w1 (w1.setCell ⟨D,14,none⟩ (.slice A (d.aB.length+1) c)):=Fr.eG ((bw.refl (fun x=>x=D) w1).set (b:=D) rfl 14 _) Wm h.dY.low nV;have hl:(d.aB++[m.ord]).length=d.aB.length+1:=nV;refine⟨⟨⟨?_,(h.dY.ax.fr f1 nU).fr f2 nU,h.dY.low⟩,?_,?_,fun x hx=>?_⟩,(f1.mono nU).trans (f2.mono nU)⟩
 ·have e:bX ⟨k.ax,A,c⟩ ⟨d.ax,d.aB++[m.ord],d.given⟩=(bX k d).setIfInBounds 14 (.slice A (d.aB.length+1) c):=by simp[bX]
  rw[e];exact Wm.set 14 _
 ·show World.ownsRow _ B _ 4 (.slice A (d.aB++[m.ord]).length c) (d.aB++[m.ord]).length _;rw[hl,List.flatMap_append,List.flatMap_cons,List.flatMap_nil,List.append_nil];exact dR row f2 nU
 ·show(ms++[m]).map _=d.aB++[m.ord];rw[List.map_append,h.map];rfl
 ·rcases List.mem_append.1 hx with hx|hx
  ·exact((h.each x hx).fr f1 nU).fr f2 nU
  ·simp only[List.mem_singleton] at hx;subst hx;exact(hm.fr f1 nU).fr f2 nU
section
variable{P:Program}{W:nJ}{b:Nat}{T ty:TypeId}{cs cs':Array nK}{ops:Array Oper}{o:Oper}{a:Act}{n off:Nat}
theorem jV{S:nJ->Prop}(hT:fO P ty n)(hw:Region.wanted o (yielded ops a.tmps)=true)(x:Operand)(ho:o.op=.load ty x)(hx:a.eval x=.pointer (some ⟨b,off,none⟩))(hS:∀w,S w->av w b T cs)(he:(cs.toList.drop off).take n=cs'.toList)(hn:cs'.size=n):YieldsIf P ops S o (.agg cs') a:=by obtain⟨⟨d,h1,h2⟩,h3⟩:=hT;subst hn;have:=yieldsIf_load_mid (S:=S) hw ty x ho b off hx cs'.toList d (fun w h=>(hS w h).range he) h1 h2 (by rw[h3];simp);simpa using this
end
end
section
open Hd
open Go.Shelf
theorem QD:Lays.n169 nH Tryz.qK where
 mixed:=Tryz.dh.mixed
 f169:=Tryz.dh.f169
 t0:=Tryz.dh.t0
 a0:=Tryz.dh.a0
 z0:=Tryz.dh.z0
 v0:=Tryz.dh.v0
 t3:=Tryz.dh.t3
 a3:=Tryz.dh.a3
 z3:=Tryz.dh.z3
 v3:=Tryz.dh.v3
 t9:=Tryz.dh.t9
 a9:=Tryz.dh.a9
 z9:=Tryz.dh.z9
 v9:=Tryz.dh.v9
 t37:=Tryz.dh.t37
 a37:=Tryz.dh.a37
 z37:=Tryz.dh.z37
 v37:=Tryz.dh.v37
 t70:=Tryz.dh.t70
 a70:=Tryz.dh.a70
 z70:=Tryz.dh.z70
 v70:=Tryz.dh.v70
 t72:=Tryz.dh.t72
 a72:=Tryz.dh.a72
 z72:=Tryz.dh.z72
 v72:=Tryz.dh.v72
 t127:=Tryz.dh.t127
 a127:=Tryz.dh.a127
 z127:=Tryz.dh.z127
 v127:=Tryz.dh.v127
theorem iT{w:nJ}{base base':Nat}{e:TypeId}{size n:Nat}{v:nK}{xs:List nK}(h:w.ownsRow base e size v n xs)(hb:base'<=base):w.ownsRow base' e size v n xs:=by
 refine⟨h.1,?_⟩;rcases h.2 with h2|⟨g,cap,cur,hv,hg,r⟩
 ·exact .inl h2
 ·exact .inr ⟨g,cap,cur,hv,nT hb hg,r⟩
theorem zc.is{b base B:Nat}{l:bL}{w:nJ}(h:zc b base l w)(h1:B<=b)(h2:B<=base):Lib.IsBuilderF 141 5 B b (Lib.byteCells l) w:=by
 obtain⟨p,v,hb,hp,hown⟩:=h;have hne:=Lib.ownBlock_ne hown hb nU;have ho:w.ownsRow B 5 1 v (Lib.byteCells l).length (Lib.byteCells l):=by rw[Lib.byteCells_length];exact iT hown h2
 refine Lib.IsBuilderF.of ?_;rcases hp with rfl|rfl
 ·exact .inl ⟨h1,v,hb,ho,hne⟩
 ·exact .inr ⟨h1,v,hb,ho,hne⟩
def OX:List TypeId:=[141,5]
theorem LC(b base B:Nat)(l:bL)(w:nJ)(h:zc b base l w)(h1:B<=b)(h2:B<=base)(hB:B<=w.heap.size):Calls nH 75 #[.pointer (some ⟨b,0,none⟩)] w fun e w'=>e=.returned (.string (str l))/\Fr B OX w w':=by
 have hc:Calls nH 75 #[.pointer (some ⟨b,0,none⟩)] w fun e w'=>e=.returned (.string ⟨l.toArray⟩)/\(Lib.IsBuilderF 141 5 B b (Lib.byteCells l) w'/\Below B w w'/\Lib.OthersKept 5 (some b) w w'):=Any.Builder_String_any_k QD Tryz.ow B b l w (h.is h1 h2) hB;refine hc.mono ?_;rintro e w' ⟨rfl,_,hb,hk⟩;refine⟨rfl,hb,fun k T cur fr hn hh=>hk k _ hh ?_ ?_⟩
 ·intro e;injection e with e;subst e;obtain⟨p,v,hb',_⟩:=h;unfold av at hb';rw[hb'] at hh;injection hh with hh;injection hh with _ ht;exact hn (by simp[OX,<-ht])
 ·rintro c fz e;injection e with _ ht;exact hn (by simp[OX,ht])
theorem Rv(w w2:nJ)(base:Nat)(h:w2.heap[w.heap.size]?=some (.cells #[.pointer none,.slice none 0 0] 141 (0,0))):zc w.heap.size base [] w2:=
 ⟨none,.slice none 0 0,h,.inl rfl,World.ownsRow_nil _ _ _ _⟩
theorem zc.box{b base:Nat}{l:bL}{w:nJ}(h:zc b base l w):∃cs,av w b 141 cs:=by obtain⟨p,v,hb,_⟩:=h;exact⟨_,hb⟩
theorem Fr.after{B:Nat}{L L':List TypeId}{w w1 w2:nJ}(f:Fr B L w w1)(g:Fr w.heap.size L' w1 w2)(hB:B<=w.heap.size):Fr B L w w2:=
 ⟨f.low.trans ⟨g.low.os,g.low.tape,g.low.output,g.low.size,fun b hb=>g.low.block b (nL hb hB)⟩,fun k T cur fr hT hh=>(g.low.block k (uk hh)).trans (f.row k T cur fr hT hh)⟩
structure PC(d0 d:cU)(lQ:bL):Prop where
 val:aG d.ax=true
 ord:iM d.aB
 num:ni d.aB
 eq:ey d0.aB.length d0=((ey d.aB.length d).1,lQ++(ey d.aB.length d).2)
 len:lQ.length+20*d.aB.length<=100
theorem PC.start{d:cU}(hv:aG d.ax=true)(ho:iM d.aB)(hn:ni d.aB):PC d d []:=⟨hv,ho,hn,rfl,by have:=ho.1;simp;omega⟩
theorem PC.next{d0 d:cU}{lQ:bL}(h:PC d0 d lQ){j:Nat}(hf:ji d.ax d.aB=some j){c:eH}(hc:IE (di (nth d.aB j).line)=c):PC d0 ⟨kf d.ax c,d.aB.eraseIdx j,d.given⟩ (lQ++tB (nth d.aB j).num (gZ d.ax c).isSome):=by
 have hj:=(D8 hf).1;obtain⟨m,hm⟩:∃m,d.aB.length=m+1:=⟨d.aB.length-1,nQ⟩;have hl:(d.aB.eraseIdx j).length=m:=by rw[List.length_eraseIdx_of_lt hj,hm];rfl
 refine⟨qb h.val c,pR h.ord j,kI h.num j,?_,?_⟩
 ·rw[h.eq,hm,ey,hf];simp only[hc,hl,List.append_assoc]
 ·have h1:=tu (h.num _ (aS d.aB hj)).1 (gZ d.ax c).isSome;have h2:=h.len;simp only[List.length_append,hl];rw[hm] at h2;omega
theorem PC.fin{d0 d:cU}{lQ:bL}(h:PC d0 d lQ)(hf:ji d.ax d.aB=none):ey d0.aB.length d0=(d,lQ):=by rw[h.eq,wT hf,List.append_nil]
theorem TI{f a b c x y z:Nat}(h:Value.func (.func f) #[] #[.pointer (some ⟨a,0,none⟩),.pointer (some ⟨b,0,none⟩),.pointer (some ⟨c,0,none⟩)]=Value.func (.func f) #[] #[.pointer (some ⟨x,0,none⟩),.pointer (some ⟨y,0,none⟩),.pointer (some ⟨z,0,none⟩)]):a=x/\b=y/\c=z:=by simp at h;exact h
theorem QX(X:Nat->Prop)(r:aR)(t:aV)(hv:aG t=true)(m:fk)(q:eH)(s:UInt8)(n:Int)(B:Nat)(w:nJ)(hT:aI B w r t)[hB:Le B w](hH:ko X w (ND m) q s n):Calls nH 131 #[aX r t,.pointer (some ⟨m.gq,0,none⟩),.pointer (some ⟨m.gs,0,none⟩),.pointer (some ⟨m.gn,0,none⟩)] w fun e w'=>e=.returned (.bool (fF t q s n))/\∃δ,w'=af w δ:=by obtain⟨gq,gs,gn,hv',hc⟩:=N9 X r t hv q s n _ B w hT hH;obtain⟨rfl,rfl,rfl⟩:=TI hv';exact hc
end
section
open Hd
theorem Fp(k:cH)(d:cU)(ms:List fk)(hv:aG d.ax=true)(ho:iM d.aB)(hn:ni d.aB)(X:Nat->Prop)(B D:Nat)(w:nJ)(h8:8<=B)(hD:bZ X B D w k d ms)(hL:cX w):Calls nH 26 #[.pointer (some ⟨D,0,none⟩)] w (kq X B D w (ey d.aB.length d)):=by
 have J0:Hid (PC d d []):=qh (PC.start hv ho hn);have H:=qh hD;have HL:=qh hL;have YR:=qh hL;have lB:=hD.le;have l8:Le 8 w:=⟨nT h8 lB.out⟩;have lD:=hD.dY.box.lt;clear hD hL hv ho hn;go_enter Tryz.func26,Tryz.ntmps26;go_wp2_with fail;go_step3;go_wp2_with fail;obtain⟨bb,gH⟩:∃b,w.heap.size=b:=⟨_,rfl⟩;refine QEH ?_;intro W1 aE cz de;obtain⟨cN,cY,dc,dX⟩:=He 8 w aE;have jP:Lt (D) W1:=mb aE;have H1:Hid (bZ X B D W1 k d ms):=qh H.out.up;have BL1:Hid (zc w.heap.size w.heap.size [] W1):=qh (Rv w W1 _ (by rw[aE.out];exact World.alloc_heap_new w _));have F1:Hid (Fr B jc w W1):=qh Fr.fK;have qv:Hid (cX W1):=qh HL.out.up;clear aE H HL;obtain⟨b0,hb0⟩:∃b,w.heap.size=b:=⟨_,rfl⟩;have BL1:Hid (zc bb b0 [] W1):=by rw[<-hb0,<-gH];exact BL1
 rw[gH];have Pt:Hid (w.heap.size=bb/\w.heap.size=b0):=qh ⟨gH,hb0⟩;have nb1:B<=bb:=by rw[<-gH];exact lB.out
 have nb2:B<=b0:=by rw[<-hb0];exact lB.out
 clear gH hb0;go_step3;go_wp2_with fail;go_loopg [] d.aB.length (fun gn wr=>∃(k':cH) (d':cU) (ms':List fk) (lQ:bL),gn=d'.aB.length/\Hid (PC d d' lQ)/\Hid (bZ X B D wr k' d' ms')/\Hid (zc bb b0 lQ wr)/\Hid (Fr B jc w wr))
 case atStart=>exact⟨k,d,ms,[],rfl,J0,H1,BL1,F1⟩
 case round=>
  obtain⟨⟨kt,kA,kc⟩,d',ms',lQ,rfl,J,HM,BL,FR⟩:=hrel;obtain⟨V,rfl⟩:∃V,V=wr:=⟨_,rfl⟩;have lV:=HM.out.le;have lV8:Le 8 V:=⟨nT h8 lV.out⟩;have lVD:=HM.out.dY.box.lt;have lVw:Le w.heap.size V:=⟨FR.out.low.size⟩;have lVV:Le V.heap.size V:=⟨nR _⟩;have PF:Hid (cX V):=qh (YR.out.fr FR.out h8);have EW:V.cell? ⟨D,14,none⟩=some (.slice kA d'.aB.length kc):=HM.out.dY.box.cell rfl;have HOS:Hid (Sl gY V.heap.size V kA kc ms'):=qh (Sl.bW (by have:=HM.out.row;rw[<-HM.out.len] at this;exact this));have h5:=J.out.ord.1;have EP:=J.out.len;have WZ:=qh HM.out.len;go_upto_region 3 with fail;go_loopg [11] d'.aB.length (fun gn i wq=>∃j:Nat,j<=d'.aB.length/\gn=d'.aB.length-j/\i=.int .i64 j/\aC V.heap.size V wq/\Le V.heap.size wq/\Hid (∀p,p<j->oF d'.ax (di (nth d'.aB p).line)=false))
  case atStart=>exact⟨0,nE _,rfl,rfl,inferInstance,⟨nR _⟩,qh fun p hp=>absurd hp (Nat.not_lt_zero _)⟩
  case round=>
   obtain⟨j,hj,rfl,rfl,i1,i2,HN⟩:=hrel;obtain⟨U,rfl⟩:∃U,U=wr:=⟨_,rfl⟩;have lU:Le B U:=⟨nT lV.out i2.out⟩;have lU8:Le 8 U:=⟨nT lV8.out i2.out⟩;have UD:Hid (bZ X B D U ⟨kt,kA,kc⟩ d' ms'):=qh HM.out.up;have BLU:Hid (zc bb b0 lQ U):=qh (BL.out.fr (B:=B) (L:=[]) Fr.fK List.not_mem_nil List.not_mem_nil);have FRU:Hid (Fr B jc w U):=qh (FR.out.trans Fr.fK);have lUw:Le w.heap.size U:=⟨nT lVw.out i2.out⟩;have Xb:Hid (cX U):=qh (PF.out.fr (B:=B) (L:=[]) Fr.fK h8);by_cases hlt:j<d'.aB.length
   ·have hji:(j:Int)<(d'.aB.length:Int):=nQ;have hj0:¬(j:Int)<0:=nQ;obtain⟨og,zq,hBg,_⟩:=UD.out.first (by show 0<d'.aB.length;omega);obtain rfl:kA=some ⟨og,0,none⟩:=zq;obtain⟨ob,oo,zq,yX,e0,e1,e2,e3⟩:=(HOS.out.up (w':=U)).Tm (k:=j) (by rw[WZ.out];exact hlt);injection zq with zq;injection zq with h1 h2;subst h1;subst h2;rw[Nat.zero_add] at e0 e1 e2 e3;have lob:Lt og U:=⟨nL yX i2.out⟩;have HRD:=qh (HM.out.each _ (aS ms' (by rw[WZ.out];exact hlt)));have WY:=qh (HM.out.oX hlt);obtain⟨m,hm⟩:∃m,nth ms' j=m:=⟨_,rfl⟩;rw[hm] at e0 e1 e2 e3 HRD WY;clear hm yX;obtain⟨q,s,n,c,hr,hh,hc⟩:=HRD.out;have HQ:=qh hh;have HC:=qh hc;have WK:Hid (di (nth d'.aB j).line=.ord q s n c):=qh (by rw[<-WY.out];exact hr);clear hr hh hc;have e2:U.cell? ⟨og,j*4+2,none⟩=some (.func (.func 131) #[] #[.pointer (some ⟨m.gq,0,none⟩),.pointer (some ⟨m.gs,0,none⟩),.pointer (some ⟨m.gn,0,none⟩)]):=e2;have e3:U.cell? ⟨og,j*4+3,none⟩=some (.func (.func 108) #[] #[.pointer (some ⟨m.gc,0,none⟩),.pointer (some ⟨m.ga,0,none⟩)]):=e3;go_upto_region 5 with(refine ah (cs':=xw m) tD rfl _ _ rfl rfl rfl (av.new (T:=71) rfl) rfl rfl (Dh m) ?_;intro W2 O2 k2);have a1:aC U.heap.size U W2:=bP k2 (nR _);have a2:Le U.heap.size W2:=cK k2;have a3:aC V.heap.size V W2:=bP k2 i2.out;have a4:Le V.heap.size W2:=cK k2;have a5:Le B W2:=cK k2;have a6:Le 8 W2:=cK k2;have a7:Le w.heap.size W2:=cK k2;have H2:Hid (bZ X B D W2 (⟨kt,some ⟨og,0,none⟩,kc⟩:cH) d' ms'):=qh UD.out.up;have B2:Hid (zc bb b0 lQ W2):=qh (BLU.out.fr (B:=B) (L:=[]) Fr.fK List.not_mem_nil List.not_mem_nil);have F2:Hid (Fr B jc w W2):=qh (FRU.out.trans Fr.fK);have L2:Hid (cX W2):=qh (Xb.out.fr (B:=B) (L:=[]) Fr.fK h8);have C2:Hid (gv W2 (.func (.func 108) #[] #[.pointer (some ⟨m.gc,0,none⟩),.pointer (some ⟨m.ga,0,none⟩)]) c):=qh (HC.out.up (W:=W2));have HH:Hid (∀W:nJ,aC W2.heap.size W2 W->Le W2.heap.size W->Calls nH 131 #[aX kt d'.ax,.pointer (some ⟨m.gq,0,none⟩),.pointer (some ⟨m.gs,0,none⟩),.pointer (some ⟨m.gn,0,none⟩)] W fun e w'=>e=.returned (.bool (fF d'.ax q s n))/\∃δ,w'=af W δ):=qh fun W x1 x2=>by have y1:Le W.heap.size W:=⟨nR _⟩;have y2:Le B W:=⟨nT a5.out x2.out⟩;exact QX X kt d'.ax J.out.val m q s n W.heap.size W (H2.out.dY.ax.up (W:=W)).is ((HQ.out.up (W:=W2)).up (W:=W))
    have LM:Hid (oF d'.ax (di (nth d'.aB j).line)=fF d'.ax q s n):=by unfold Hid;rw[WK.out];rfl
    have lW2:Le W2.heap.size W2:=⟨nR _⟩;obtain⟨g,hg⟩:∃g,U.heap.size=g:=⟨_,rfl⟩;have hgo:Hid (g≠og):=qh fun e=>by have:=(UD.out.row.lt og rfl).2;omega
    have Ra:Hid (g≠D):=qh (by have:=UD.out.dY.lt;omega);rw[hg] at O2 ⊢;have O2:=qh O2;have lg2:=O2.out.lt;have lD2:=H2.out.dY.box.lt;clear k2 hg e0 e1 e2 e3 EW lob;rcases Xv:fF d'.ax q s n with _|_
    ·rw[Xv] at HH LM;clear Xv;refine wp_region_held (S:=fun W=>aC W2.heap.size W2 W) nP ?_;change wpAnyH _ _ _ _ _ _ _ _ (World.drew _);refine wpH_tq 0 (.pointer (some ⟨g,2,none⟩)) (inferInstance) ?_;refine QAI ?_;refine QCI ?_;refine QAI ?_;refine QEX ?_;refine QAI ?_;refine QEY ?_;refine QAI ?_;refine wpH_tq 4 (.pointer (some ⟨D,0,none⟩)) (inferInstance) ?_;refine QAI ?_;refine gJ 5 (aX kt d'.ax) rfl nP (jV ak nY _ rfl rfl (fun _ h=>av.eA (hg:=h) H2.out.dY.box) (eo (⟨kt,some ⟨og,0,none⟩,kc⟩:cH) d') rfl) (inferInstance) ?_;refine QAI ?_;refine wpAnyH_all (rs:=[6]) nP nV ?_;intro i hi;obtain rfl:=List.mem_singleton.1 hi;refine QAE ?_;refine(HH.out _ inferInstance inferInstance).mono ?_;rintro e w1 ⟨rfl,δ3,rfl⟩;refine⟨inferInstance,?_⟩;refine QAI ?_;refine wpH_tq 7 (.bool true) (inferInstance) ?_;refine QAI ?_;refine wpAnyH_done nP ?_ _;go_wp2_with fail;go_roundg (d'.aB.length-(j+1))
     case measure=>omega
     case rel=>
      refine⟨j+1,nQ,rfl,by go_num,inferInstance,inferInstance,qh fun p hp=>?_⟩;rcases Nat.lt_succ_iff_lt_or_eq.1 hp with h|rfl
      ·exact HN.out p h
      ·exact LM.out
    ·rw[Xv] at HH LM;clear Xv;have FO:Hid (ji d'.ax d'.aB=some j):=qh (vM hlt LM.out HN.out);have JN:=qh (J.out.next FO.out (c:=c) (by rw[WK.out];rfl));have Xh:Hid ((d'.aB.eraseIdx j).length=d'.aB.length-1):=qh (List.length_eraseIdx_of_lt hlt);have hgo:=hgo.out;obtain⟨kn,hkn⟩:∃n,d'.aB.length=n+1:=⟨d'.aB.length-1,nQ⟩;have L0:=qh hkn;have gV:=qh hlt;have hik:j<=kn:=nQ;have hwr:IntKind.i64.wrap ((j:Int)+1)=(j:Int)+1:=IntWalk.i64_in _ nQ;have ZT:Hid (∀W:nJ,bZ X B D W (⟨kt,some ⟨og,0,none⟩,kc⟩:cH) d' ms'->Calls nH 72 #[.slice (some ⟨og,0,none⟩) (kn+1) kc,.int .i64 j,.int .i64 ((j:Int)+1)] W fun e w'=>e=.returned (.slice (some ⟨og,0,none⟩) kn kc)/\bw (fun x=>x=og) W w'/\w'.ownsRow B 71 4 (.slice (some ⟨og,0,none⟩) kn kc) kn ((ms'.take j++ms'.drop (j+1)).flatMap gY)):=qh fun W h1=>by have iB:=h1.le;exact Av B og kc j kn ms' W (by have:=h1.row;rw[L0.out] at this;exact this) (h1.len.trans L0.out) hik nQ
     have hnm:=(J.out.num _ (aS d'.aB hlt)).1;rw[<-WY.out] at hnm JN;obtain⟨nm,TO⟩:∃n,m.ord.num=n:=⟨_,rfl⟩;have LL:=qh TO;rw[TO] at hnm JN;obtain⟨td,Aj⟩:∃x,kf d'.ax c=x:=⟨_,rfl⟩;obtain⟨bd,hbd⟩:∃x,(gZ d'.ax c).isSome=x:=⟨_,rfl⟩;rw[Aj,hbd] at JN;have HT:Hid (∀W:nJ,bZ X B D W ⟨kt,some ⟨og,0,none⟩,kc⟩ ⟨d'.ax,d'.aB.eraseIdx j,d'.given⟩ (ms'.eraseIdx j)->gv W (.func (.func 108) #[] #[.pointer (some ⟨m.gc,0,none⟩),.pointer (some ⟨m.ga,0,none⟩)]) c->Calls nH 66 #[.pointer (some ⟨D,0,none⟩),(.func (.func 108) #[] #[.pointer (some ⟨m.gc,0,none⟩),.pointer (some ⟨m.ga,0,none⟩)])] W fun e w'=>∃k'':cH,e=.returned (.bool bd)/\bZ X B D w' k'' ⟨td,d'.aB.eraseIdx j,d'.given⟩ (ms'.eraseIdx j)/\Fr B [65] W w'):=qh fun W h1 h2=>by have:=IC ⟨kt,some ⟨og,0,none⟩,kc⟩ ⟨d'.ax,d'.aB.eraseIdx j,d'.given⟩ (ms'.eraseIdx j) J.out.val c (.func (.func 108) #[] #[.pointer (some ⟨m.gc,0,none⟩),.pointer (some ⟨m.ga,0,none⟩)]) X B D W h1 h2;rw[<-Aj,<-hbd];exact this
     obtain⟨tx,fM⟩:∃t,Lib.itoa (nm:Int)=t:=⟨_,rfl⟩;have Js:=qh fM;obtain⟨yt,TE⟩:∃t,sV bd=t:=⟨_,rfl⟩;have HWD:Hid (∀W:nJ,Calls nH 65 #[.bool bd] W fun e w'=>e=.returned (.string (str yt))/\∃δ,w'=af W δ):=qh fun W=>by rw[<-TE];exact uE bd W
     have LJ:=tu hnm bd;have RI:tB nm bd=32::tx++[58]++yt:=by unfold tB;rw[fM,TE];simp
     rw[RI] at LJ JN;obtain⟨u1,hu1⟩:∃t,32::tx=t:=⟨_,rfl⟩;rw[hu1] at LJ JN;obtain⟨u2,Sb⟩:∃t,u1++[58]=t:=⟨_,rfl⟩;have m1:tx.length+1=u1.length:=by rw[<-hu1];rfl
     have m2:u2.length=u1.length+1:=by rw[<-Sb];simp
     rw[Sb] at LJ JN;have m3:(u2++yt).length=u2.length+yt.length:=List.length_append;refine QFR ?_;intro s1;refine QFS ?_;intro s2;obtain⟨st,hst⟩:∃t,u2++yt=t:=⟨_,rfl⟩;have s3:∀W:nJ,(Op.stringOp .add (str u2) (str yt)).run nH W=.ok (.string (str st)) W:=fun W=>by rw[<-hst];exact jy (P:=nH) W u2 yt nQ
     rw[hst] at LJ JN;clear Aj hbd fM TE RI hu1 Sb hst TO HN FO hkn LM;refine wp_region_held (S:=fun W=>aC W2.heap.size W2 W) nP ?_;change wpAnyH _ _ _ _ _ _ _ _ (World.drew _);refine wpH_tq 0 (.pointer (some ⟨g,2,none⟩)) (inferInstance) ?_;refine QAI ?_;refine QCI ?_;refine QAI ?_;refine QEX ?_;refine QAI ?_;refine QEY ?_;refine QAI ?_;refine wpH_tq 4 (.pointer (some ⟨D,0,none⟩)) (inferInstance) ?_;refine QAI ?_;refine gJ 5 (aX kt d'.ax) rfl nP (jV ak nY _ rfl rfl (fun _ h=>av.eA (hg:=h) H2.out.dY.box) (eo (⟨kt,some ⟨og,0,none⟩,kc⟩:cH) d') rfl) (inferInstance) ?_;refine QAI ?_;refine wpAnyH_all (rs:=[6]) nP nV ?_;intro i hi;obtain rfl:=List.mem_singleton.1 hi;refine QAE ?_;refine(HH.out _ inferInstance inferInstance).mono ?_;rintro e w1 ⟨rfl,δ3,rfl⟩;refine⟨inferInstance,?_⟩;refine QAI ?_;refine wpH_tq 7 (.bool false) (inferInstance) ?_;refine QAI ?_;refine wpAnyH_done nP ?_ _;go_upto_region 6 with fail;refine aK fun W3 bN=>?_;have GH:Le B W3:=fR bN;have Jc:aC B W2 W3:=iC bN;have sJ:Le 8 W3:=fR bN;have uX:aC 8 W2 W3:=iC bN;have uW:Le w.heap.size W3:=fR bN;have tZ:aC w.heap.size W2 W3:=iC bN;have tY:Le W2.heap.size W3:=fR bN;have DH:aC W2.heap.size W2 W3:=iC bN;have GI:Lt (D) W3:=mb bN;have H3:Hid (bZ X B D W3 (⟨kt,some ⟨og,0,none⟩,kc⟩:cH) d' ms'):=qh H2.out.up;have B3:Hid (zc bb b0 lQ W3):=qh (B2.out.fr (B:=B) (L:=[]) Fr.fK List.not_mem_nil List.not_mem_nil);have F3:Hid (Fr B jc w W3):=qh (F2.out.trans Fr.fK);have L3:Hid (cX W3):=qh (L2.out.fr (B:=B) (L:=[]) Fr.fK h8);have C3:Hid (gv W3 (.func (.func 108) #[] #[.pointer (some ⟨m.gc,0,none⟩),.pointer (some ⟨m.ga,0,none⟩)]) c):=qh (C2.out.up (W:=W3));have O3:Hid (av W3 g 71 (xw m)):=qh O2.out.eA;clear bN;have d14:W3.cell? ⟨D,14,none⟩=some (.slice (some ⟨og,0,none⟩) (kn+1) kc):=by have:=H3.out.dY.box.cell (i:=14) (v:=.slice (some ⟨og,0,none⟩) d'.aB.length kc) rfl;rw[L0.out] at this;exact this
     have lD3:=H3.out.dY.box.lt;have lE3:Hid (∀w1:nJ,bw (fun x=>x=og) W3 w1->Lt D w1/\w1.frozen? ⟨D,14,none⟩=false/\w1.cell? ⟨D,14,none⟩=some (.slice (some ⟨og,0,none⟩) (kn+1) kc)):=qh fun w1 hk=>by obtain⟨og',DX,hB',cs,hb⟩:=H3.out.first nQ;injection DX with DX;injection DX with e;subst e;have b1:=H3.out.dY.box.tX hk hb nU;exact⟨b1.lt,b1.free _,by rw[<-L0.out];exact b1.cell (i:=14) rfl⟩
     go_upto_region 7 with(go_at_call 72;refine(ZT.out _ H3.out).mono ?_;rintro e w5 ⟨rfl,Sj,VK⟩;obtain⟨lD5,fD5,cD5⟩:=lE3.out w5 Sj;have K5:=qh Sj;have RW5:=qh VK;clear Sj VK);refine aK fun W6 PA=>?_;have Q6:Hid ((bZ X B D W6 ⟨kt,some ⟨og,0,none⟩,kc⟩ ⟨d'.ax,d'.aB.eraseIdx j,d'.given⟩ (ms'.eraseIdx j)/\Fr B jc W3 W6)/\av W6 g 71 (xw m)):=by rw[PA.out];exact qh ⟨H3.out.del gV.out L0.out rfl K5.out RW5.out,((O3.out.eG K5.out hgo).eZ Ra.out _)⟩
     clear PA K5 RW5;have H6:=qh Q6.out.1.1;have O6:=qh Q6.out.2;have BL6:Hid (zc bb b0 lQ W6):=qh (B3.out.fr Q6.out.1.2 nU nU);have FR6:Hid (Fr B jc w W6):=qh (F3.out.trans Q6.out.1.2);have HL6:Hid (cX W6):=qh (L3.out.fr Q6.out.1.2 h8);have C6:Hid (gv W6 (.func (.func 108) #[] #[.pointer (some ⟨m.gc,0,none⟩),.pointer (some ⟨m.ga,0,none⟩)]) c):=qh (C3.out.fr Q6.out.1.2 nU);have lB6:Le B W6:=H6.out.le;have l86:Le 8 W6:=⟨nT h8 lB6.out⟩;have lW6:Le W6.heap.size W6:=⟨nR _⟩;have rw6:Le w.heap.size W6:=⟨FR6.out.low.size⟩;have lD6:=H6.out.dY.box.lt;have lg6:=O6.out.lt;clear Q6 H3 B3 F3 L3 C3 O3 d14 lD3 lE3 lD5 fD5 cD5;refine wp_region_held (S:=fun W=>av W g 71 (xw m)) nP ?_;change wpAnyH _ _ _ _ _ _ _ _ (World.drew _);refine wpH_tq 0 (.pointer (some ⟨g,0,none⟩)) (O6.out.drew) ?_;refine QAI ?_;refine gJ 1 (.int .i64 (nm:Nat)) rfl nP (Or.inl ⟨nY,by intro w5 h5;have e:=av.cell h5 (i:=0) (v:=.int .i64 (m.ord.num:Nat)) rfl;rw[LL.out] at e;go_simp⟩) (O6.out.drew) ?_;refine QAI ?_;refine wpH_tq 5 (.pointer (some ⟨D,0,none⟩)) (O6.out.drew) ?_;refine QAI ?_;refine wpH_tq 6 (.pointer (some ⟨g,3,none⟩)) (O6.out.drew) ?_;refine QAI ?_;refine gJ 7 ((.func (.func 108) #[] #[.pointer (some ⟨m.gc,0,none⟩),.pointer (some ⟨m.ga,0,none⟩)])) rfl nP (Or.inl ⟨nY,by intro w5 h5;have e:=av.cell h5 (i:=3) (v:=(.func (.func 108) #[] #[.pointer (some ⟨m.gc,0,none⟩),.pointer (some ⟨m.ga,0,none⟩)])) rfl;go_simp⟩) (O6.out.drew) ?_;refine QAI ?_;refine wpAnyH_all (rs:=[2]) nP nV ?_;intro i hi;obtain rfl:=List.mem_singleton.1 hi;refine QAE ?_;refine(uY (nm:Int) tx Js.out nQ nQ _ (HL6.out.SP.up)).mono ?_;rintro e w1 ⟨rfl,δ5,rfl⟩;refine⟨O6.out.eA,?_⟩;refine QAI ?_;refine wpH_tq 3 (.string (str u1)) (O6.out.eA) ?_;refine QAI ?_;refine wpH_tq 4 (.string (str u2)) (O6.out.eA) ?_;refine QAI ?_;refine wpAnyH_all (rs:=[8]) nP nV ?_;intro i hi;obtain rfl:=List.mem_singleton.1 hi;refine QAE ?_;refine(HT.out _ H6.out.up C6.out.up).mono ?_;rintro e w7 ⟨k7,rfl,hd7,hf7⟩;have l7:Le B W6:=H6.out.le;have FX:Hid (Fr B [65] W6 w7):=qh (Fr.fK.trans hf7);have H7:=qh hd7;clear hd7 hf7;have O7:Hid (av w7 g 71 (xw m)):=qh (O6.out.fr FX.out nU);have B7:Hid (zc bb b0 lQ w7):=qh (BL6.out.fr FX.out nU nU);have L7:Hid (cX w7):=qh (HL6.out.fr FX.out h8);have F7:Hid (Fr B jc w w7):=qh (FR6.out.trans (FX.out.mono nU));have q7:Le 8 w7:=⟨nT h8 H7.out.le.out⟩;have r7:Le w.heap.size w7:=⟨nT rw6.out FX.out.low.size⟩;refine⟨O7.out,?_⟩;refine QAI ?_;refine wpAnyH_all (rs:=[9]) nP nV ?_;intro i hi;obtain rfl:=List.mem_singleton.1 hi;refine QAE ?_;refine(HWD.out _).mono ?_;rintro e w1 ⟨rfl,δ6,rfl⟩;refine⟨O7.out.eA,?_⟩;refine QAI ?_;refine wpH_tq 10 (.string (str st)) (O7.out.eA) ?_;refine QAI ?_;refine wpAnyH_all (rs:=[11]) nP nV ?_;intro i hi;obtain rfl:=List.mem_singleton.1 hi;refine QAE ?_;have lx:Le B (af w7 δ6):=H7.out.up.le;have BX:zc bb b0 lQ (af w7 δ6):=B7.out.fr (L:=[]) (B:=B) (by have:=H7.out.le;exact Fr.fK) List.not_mem_nil List.not_mem_nil;refine(zh bb b0 lQ (str st) st (jw _) _ BX nQ nQ (by have:=(inferInstance:Le w.heap.size (af w7 δ6)).out;rw[<-Pt.out.2];exact this)).mono ?_;rintro e w8 ⟨rfl,Xz,Yt⟩;obtain⟨bcs,iA⟩:=BX.box;have FW:Fr B OX (af w7 δ6) w8:=Fr.rest Yt iA nQ nQ nU nU;have FW2:Fr w.heap.size OX (af w7 δ6) w8:=Fr.rest Yt iA (Nat.le_of_eq Pt.out.1) (Nat.le_of_eq Pt.out.2) nU nU;have H8:Hid (bZ X B D w8 k7 ⟨td,d'.aB.eraseIdx j,d'.given⟩ (ms'.eraseIdx j)):=qh ((H7.out.up (W':=af w7 δ6)).fr FW nU nU nU);have F8:Hid (Fr B jc w w8):=qh ((F7.out.trans (by have:=H7.out.le;exact Fr.fK)).after FW2 lB.out);have O8:av w8 g 71 (xw m):=(av.eA (W:=af w7 δ6) O7.out).fr FW nU;have B8:=qh Xz;clear Xz Yt iA FW FW2 BX;refine⟨O8,?_⟩;refine QAI ?_;refine wpAnyH_done nP ?_ _;go_wp2_with fail;go_roundg (d'.aB.length-1)
     case measure=>omega
     case rel=>exact⟨k7,⟨td,d'.aB.eraseIdx j,d'.given⟩,ms'.eraseIdx j,lQ++st,Xh.out.symm,JN,H8,B8,F8⟩
   ·obtain rfl:j=d'.aB.length:=by omega
    have hjn:¬((d'.aB.length:Int)<(d'.aB.length:Int)):=nQ;have HX:Hid (ey d.aB.length d=(d',lQ)):=qh (J.out.fin (vN HN.out));clear HN;go_upto_region 9 with fail;go_wp2_with (go_at_call 75;refine(LC bb b0 w.heap.size lQ _ BLU.out (Nat.le_of_eq Pt.out.1) (Nat.le_of_eq Pt.out.2) lUw.out).mono ?_;rintro e w9 ⟨rfl,hf9⟩;have F9:=qh hf9;clear hf9);first|(rw[Exit.noGoto_ret];go_ret)|go_ret
    refine⟨⟨kt,kA,kc⟩,ms',by rw[HX.out];rfl,?_,?_⟩
    ·rw[HX.out];exact UD.out.fr (F9.out.less lB.out) nU nU nU
    ·exact FRU.out.after F9.out lB.out
end
theorem fu{P:Program}{W:nJ}{ops:Array Oper}{rest:List Oper}{o:Oper}{a:Act}{Q:Exit->Act->nJ->Prop}(hgd:o.guard=none)(t:TypeId)(parts:Array (Nat × Operand))(ho:o.op=.build t parts){cells:Array nK}{ps:List (Nat × nK)}(hp:parts.toList.map (fun p=>(p.1,a.eval p.2))=ps)(hc:P.built t ps=some cells)(h:wpList P ops Q rest (a.put o.dst (.agg cells)) W):wpList P ops Q (o::rest) a W:=by
 have hp':(parts.map fun(i,x)=>(i,a.eval x)).toList=ps:=by rw[<-hp,Array.toList_map]
 rw[<-hp'] at hc;refine wpList_plain hgd fun _ hK=>?_;unfold Oper.wp execOp;simp only[ho,Sem.run_bind,run_build W t _ cells hc,Result.andThen_ok];exact hK _ _ h
end Go.Proofs.YtcjjlikhlmfedaaGreatDoor
