/- A part of the proof that a law of layer 12 holds, cut small by a program (names and blanks): Hm3, Hm4, Hm5. -/
import Derived.Outline
import Derived.Deep.DeepCutAuto
import Derived.OrdersIn
import Derived.Test.YtdmedlkonaclnaaGreatDoorZ7
set_option maxRecDepth 100000
set_option maxHeartbeats 40000000
set_option linter.unusedVariables false
set_option linter.unusedSimpArgs false
namespace Go.Proofs.YtdmedlkonaclnaaGreatDoor
open Go.RowKit
open Nat renaming lt_of_lt_of_le → nL, le_refl → nR, zero_le → nE, le_of_ble_eq_true → nG
open Go.Proofs.Tryz renaming prog → nH
open Go renaming World → nJ, Value → nK
section
open Me
section
attribute[local go_sem] Oper.semAt_some
theorem WX(r:cw)(n:Net)(h6:n.hs.length<=6)(B:Nat)(w:nJ)(hN:bJ B w r n)[hB:Le B w]:Calls nH 157 #[cI r n] w fun e w'=>e=.returned (.bool (sR n))/\∃δ,w'=af w δ:=by
 have HN:=qh hN;clear hN;refine oW Tryz.func157 rfl ?_;simp only[Tryz.ntmps157,List.size_toArray,List.length_cons,List.length_nil,Nat.reduceAdd,Nat.reduceSub,Array.replicate_succ,Array.replicate_zero,List.push_toArray,List.append_toArray,List.nil_append,List.cons_append];go_wp2_with (go_at_call 184;refine(FB n r _).mono ?_;rintro e w1 ⟨rfl,rfl⟩);refine aL fun W0 jO=>?_;obtain⟨cJ,dF,cU,dA,dD,eI⟩:=UG B w jO;have ju:Lt (w.heap.size+1+1) W0:=nt jO;have kR:W0.cell? ⟨w.heap.size+1+1,0,none⟩=some (.int .i64 n.m):=by rw[jO.out];go_simp
 have mG:W0.cell? ⟨w.heap.size+1+1,1,none⟩=some (.slice r.hA n.hs.length r.hc):=by rw[jO.out];go_simp
 have jE:W0.cell? ⟨w.heap.size+1+1,2,none⟩=some (.slice r.pA n.ps.length r.pc):=by rw[jO.out];go_simp
 have X0:ax W0 (w.heap.size+1) 4 #[.bool false]:=by rw[jO.out];exact(ax.new nV).alloc _
 have hz:W0.heap.size=w.heap.size+3:=by rw[jO.out];simp
 have HZ:=qh hz;have HX:=qh X0;have hBw:=hB.out;clear jO hz X0;refine KX n r B (w.heap.size+1+1) rfl h6 HN.out.up (by have:=HZ.out;omega) (by have:=HZ.out;omega) nZ nZ nZ
  (fun b=>b=w.heap.size+1) (by rintro b rfl;have:=HZ.out;omega)
  (fun pre W=>pre=[]/\ax W (w.heap.size+1) 4 #[.bool false]) (fun c pre W=>c=.ret/\ax W (w.heap.size+1) 4 #[.bool true])
  (by rintro pre W W' ⟨h1,h2⟩ hk;exact⟨h1,h2.eM hk (yR (by have:=HZ.out;omega))⟩) (by rintro c pre W W' ⟨h1,h2⟩ hk;exact⟨h1,h2.eM hk (yR (by have:=HZ.out;omega))⟩)
  ⟨rfl,HX.out⟩ (fun v=>{ tmps:=#[cI r n,.pointer (some ⟨w.heap.size,0,none⟩),.pointer (some ⟨w.heap.size+1,0,none⟩),.agg #[.int .i64 n.m,.slice r.hA n.hs.length r.hc,.slice r.pA n.ps.length r.pc],.func (.func 232) #[] #[.pointer (some ⟨w.heap.size+1+1,0,none⟩)],v],defers:=[] }) ?assign ?body ?done ?stop
 case assign=>intro l m v W K hK;gi_wp2;simpa using hK
 case body=>rintro l m pre x v W hpre ⟨hp,hx⟩ hl hk hs;have h1:=hx.cell (i:=0) rfl;have h2:=hx.free 0;gi_wp2;exact⟨(bH.refl _ _).set (S:=fun b=>b=w.heap.size+1) rfl _ _,rfl,hx.set 0 _⟩
 case done=>
  rintro W ⟨hp,hx⟩ hk hD;have h1:=hx.cell (i:=0) rfl;have h2:=hx.free 0;have hlt:=hx.lt;have HK:=qh hk;have HD:=qh hD;have HP:=qh hp;clear hk hD hp;go_wp2_with fail;have hx2:ax ((W.setCell ⟨w.heap.size+1,0,none⟩ (.bool false)).putObj W0.heap.size (.deferred none)) (w.heap.size+1) 4 #[.bool false]:=(hx.set 0 (.bool false)).put (by have:=HZ.out;omega) _;have h3:=hx2.cell (i:=0) rfl;have e:sR n=false:=by unfold sR;rw[HP.out];rfl
  rw[e];refine oF (v:=.bool false) ?_ ?_ ⟨rfl,fy ((HK.out.set (b:=w.heap.size+1) (.inl rfl) _ _).putObj (.inr (.inl rfl)) _) ?_⟩
  ·exact(Below.heap_setCell W ⟨w.heap.size+1,0,none⟩ _ _ (by have:=HZ.out;show W0.heap.size≠w.heap.size+1;omega)).trans HD.out
  ·simp only[results,Tryz.results157];go_simp
  ·rintro b (h|h|h)<;>(have:=HZ.out;omega)
 case stop=>
  rintro c pre W hpre ZG ⟨rfl,hx⟩ hk hD;have h1:=hx.cell (i:=0) rfl;have HK:=qh hk;have HD:=qh hD;clear hk hD;go_wp2_with fail;have hx2:ax (W.putObj W0.heap.size (.deferred none)) (w.heap.size+1) 4 #[.bool true]:=hx.put (by have:=HZ.out;omega) _;have h3:=hx2.cell (i:=0) rfl;have e:sR n=true:=by
   unfold sR;cases hl:gN n with
   |nil=>rw[hl] at hpre;exact absurd (List.prefix_nil.1 hpre) ZG
   |cons=>rfl
  rw[e];refine oF (v:=.bool true) HD.out ?_ ⟨rfl,fy (HK.out.putObj (.inr (.inl rfl)) _) ?_⟩
  ·simp only[results,Tryz.results157];go_simp
  ·rintro b (h|h|h)<;>(have:=HZ.out;omega)
end
end
section
open Me
theorem FT(r:cw)(n:Net)(B:Nat)(w:nJ)(h:bJ B w r n)[hB:Le B w]:Calls nH 85 #[cI r n] w fun e w'=>e=.returned (.int .i64 (cC (valid n) 40))/\∃δ,w'=af w δ:=by have l1:=h.1.len;have l2:=h.2.len;go_enter Tryz.func85,Tryz.ntmps85;go_wp2_with (first|(go_at_call 152;refine(wD _ _ _ _).mono ?_;rintro e w1 ⟨rfl,rfl⟩)|(go_at_call 153;go_in)|(go_at_call 155;go_in)|(go_at_call 204;refine(DL r.hA _ r.hc n.hs B _ h.1.up rfl).mono ?_;rintro e w1 ⟨⟨k,rfl,hk⟩,δ,rfl⟩)|(go_at_call 205;refine(JV r n w.heap.size _ r.pA _ r.pc n.ps B _ h.2.up rfl l1 nW nW).mono ?_;rintro e w1 ⟨⟨k2,rfl,hk2⟩,δ2,rfl⟩)|(go_at_call 157;refine(WX r n nQ B _ h.up).mono ?_;rintro e w1 ⟨rfl,δ3,rfl⟩));all_goals go_ret;refine⟨cG ?_,ag⟩;go_light;have hv:=@aD n;have hw:=@dn 1 3 n.m;grind [cC]
end
section
open Me
def gK(W:nJ)(g:Nat)(xs:List Int):Prop:=ax W g 3 (xs.map (Value.int .i64)).toArray
section
variable{W:nJ}{g:Nat}{xs:List Int}
theorem gK.cell(h:gK W g xs){k:Nat}(hk:k<xs.length):W.cell? ⟨g,k,none⟩=some (.int .i64 (nth xs k)):=
 ax.cell h (by rw[List.getElem?_toArray,List.getElem?_map,List.getElem?_eq_getElem hk,bR _ hk];rfl)
theorem gK.free(h:gK W g xs)(i:Nat):W.frozen? ⟨g,i,none⟩=false:=ax.free h i
theorem gK.lt(h:gK W g xs):Lt g W:=ax.lt h
theorem gK.set(h:gK W g xs)(k:Nat)(v:Int):gK (W.setCell ⟨g,k,none⟩ (.int .i64 v)) g (xs.set k v):=by have:=ax.set h k (.int .i64 v);unfold gK;rwa [List.map_set,<-List.setIfInBounds_toArray]
theorem gK.alloc(h:gK W g xs)(o:Obj):gK (W.alloc o) g xs:=ax.alloc h o
theorem gK.af(h:gK W g xs)(δ:nJ):gK (af W δ) g xs:=ax.af h δ
theorem gK.drew(h:gK W g xs):gK W.drew g xs:=h
theorem gK.fD(h:gK W g xs){p:Addr}(hp:g≠p.block)(u:nK):gK (W.setCell p u) g xs:=ax.fD h hp u
theorem gK.sl(h:gK W g xs)(hl:xs.length<=1000):Sl aI W.heap.size W (some ⟨g,0,none⟩) xs.length xs:=by
 refine⟨nR _,nQ,fun _=>⟨g,0,rfl,h.lt.out,fun j v hj=>?_⟩⟩;have hlen:=vG xs;have hj':j<xs.length:=by have:=(List.getElem?_eq_some_iff.1 hj).1;omega
 have:=gk aI 1 (fun _=>rfl) xs j 0 hj' nQ;rw[Nat.mul_one,Nat.add_zero] at this;rw[this] at hj;simp only[aI] at hj;simp at hj;subst hj;rw[Nat.zero_add];exact h.cell hj'
end
def Vd(n:Net)(r:cw)(w:nJ)(T:TypeId)(gF gO bp:Nat)(l:List Int)(k:Nat)(wr:nJ):Prop:=
 gK wr gF (run n (l.take k)).1/\gK wr gO (run n (l.take k)).2/\ax wr bp T #[.int .i64 n.m,.slice r.hA n.hs.length r.hc,.slice r.pA n.ps.length r.pc]/\au w.heap.size w wr/\Le w.heap.size wr
def Yk(n:Net)(r:cw)(w:nJ)(m:Nat)(T:TypeId)(l:List Int)(s5 s6:nK)(wx:nJ):Prop:=
 ∃gF gO,s5=.slice (some ⟨gF,0,none⟩) m m/\s6=.slice (some ⟨gO,0,none⟩) n.hs.length n.hs.length/\gF≠gO/\w.heap.size<gF/\w.heap.size<gO/\Vd n r w T gF gO w.heap.size l 0 wx
theorem vD(k:Nat):jW (.int .i64 0) 1 k=((List.replicate k (0:Int)).map (Value.int .i64)).toArray:=by rw[vE k undef,List.map_replicate,List.toArray_replicate]
theorem wI{n:Net}{r:cw}{w wx:nJ}{m gF gO bp:Nat}{T:TypeId}{l:List Int}(hm:n.m=(m:Int))(h1:ax wx gF 3 (jW (.int .i64 0) 1 m))(h2:ax wx gO 3 (jW (.int .i64 0) 1 n.hs.length))(h3:ax wx bp T #[.int .i64 (m:Int),.slice r.hA n.hs.length r.hc,.slice r.pA n.ps.length r.pc])(g1:au w.heap.size w wx)(g2:Le w.heap.size wx):Vd n r w T gF gO bp l 0 wx:=by
 refine⟨?_,?_,by rw[hm];exact h3,g1,g2⟩
 ·rw[vD] at h1;unfold gK;have:(run n (l.take 0)).1=List.replicate m 0:=by show List.replicate n.m.toNat 0=_;rw[hm];rfl
  rw[this];exact h1
 ·rw[vD] at h2;exact h2
theorem Tc(r:cw)(n:Net)(A:Option Addr)(c:Nat)(l:List Int)(B:Nat)(w:nJ)[hB:Le B w](hS:Sl aI B w A c l)(hN:bJ B w r n)(hm:1<=n.m/\n.m<=3)(h6:n.hs.length<=6)(h8:n.ps.length<=8)(hv:fc n.hs=true)(hpv:oH n.hs.length n.ps=true)(hl:xk n l)(OX:l.length<=6):Calls nH 236 #[cI r n,.slice A l.length c] w fun e w'=>∃(A':Option Addr) (c':Nat) (δ:nJ),e=.returned (.slice A' (times n l).length c')/\w'=af w δ/\Sl aI (af w δ).heap.size (af w δ) A' c' (times n l)/\(∀p,A'=some p->w.heap.size<=p.block):=by
 obtain⟨m,hmm⟩:∃m:Nat,n.m=m:=⟨n.m.toNat,nQ⟩;refine QDG ?_;intro ZK sQ HM eV hmk Xy HS HN HV HPV HL hlc;clear hS hN hm hv hpv hl hmm eV;go_enter Tryz.func236,Tryz.ntmps236;go_wp2_with fail;go_cut [5,6] (fun s5 s6 wx=>Yk n r w m 204 l s5 s6 wx);case first=>
  go_region;all_goals
   go_wp2_with fail;go_meet;first
    |exact⟨w.heap.size+1,w.heap.size+1+1,rfl,rfl,nQ,nQ,nQ,wI HM.out ((ax.new nV).alloc _) (ax.new nV) (((ax.new rfl).alloc _).alloc _) inferInstance inferInstance⟩
    |exact⟨w.heap.size+1+1,w.heap.size+1,rfl,rfl,nQ,nQ,nQ,wI HM.out (ax.new nV) ((ax.new nV).alloc _) (((ax.new rfl).alloc _).alloc _) inferInstance inferInstance⟩
 case rest=>
  obtain⟨gF,gO,rfl,rfl,hne,hg1,mU,hI⟩:=hcut;have AX:=qh (And.intro hne (And.intro hg1 mU));have HI:=qh hI;clear hI;go_wp2_with fail;go_loopg [26] l.length (fun g i wr=>∃k:Nat,k<=l.length/\g=l.length-k/\i=.int .i64 k/\Vd n r w 204 gF gO w.heap.size l k wr)
  case atStart=>exact⟨0,nE _,rfl,rfl,HI.out⟩
  case round=>
   clear HI;obtain⟨k,hk,rfl,rfl,hF,hO,hP,g1,g2⟩:=hrel;have p1:=hP.cell (i:=1) rfl;have p2:=hP.cell (i:=2) rfl;have ip:=hP.lt;have iF:=hF.lt;have iO:=hO.lt;by_cases hlt:k<l.length
   ·obtain⟨b,o,rfl,hb,hc⟩:=HS.out.int hlt;have NJ:b<w.heap.size:=nL hb hB.out;have YO:=(aZ g1.out b _ NJ).trans hc;have ib:Lt b wr:=⟨nL NJ g2.out⟩;have hx:=HL.out (nth l k) (aV l hlt);obtain⟨x,hh⟩:∃x:Nat,nth l k=x:=⟨(nth l k).toNat,by have:=hx.1;omega⟩;rw[hh] at YO;have xm:x<n.hs.length:=by have:=hx.2;omega
    obtain⟨bh,oh,J8,VL,d0,d1,d2,d3⟩:=HN.out.1.hole xm;have Ag:bh<w.heap.size:=nL VL hB.out;have e0:=(aZ g1.out bh _ Ag).trans d0;have e3:=(aZ g1.out bh _ Ag).trans d3;have ibh:Lt bh wr:=⟨nL Ag g2.out⟩;obtain⟨rhA,rhc,rpA,rpc⟩:=r;have J8:rhA=some ⟨bh,oh,none⟩:=J8;subst J8;have hki:(k:Int)<(l.length:Int):=nQ;have hk0:¬(k:Int)<0:=nQ;have hxi:(x:Int)<(n.hs.length:Int):=nQ;have hx0:¬(x:Int)<0:=nQ;obtain⟨lF,lO⟩:=qm n (l.take k);obtain⟨bF,bO⟩:=IZ HV.out (l.take k) (fun y hy=>HL.out y (List.mem_of_mem_take hy));have hT:(l.take k).length<=6:=by rw[List.length_take];omega
    have LQ:=xb HV.out (show isHole n (nth l k) from hx) bF bO nQ;have hrun:=zk n (l.take k) (nth l k);rw[<-bE l hlt,hh] at hrun;rw[hh] at LQ;obtain⟨F,O,hs⟩:∃F O,run n (l.take k)=(F,O):=⟨_,_,rfl⟩;rw[hs] at hF hO lF lO bF bO LQ hrun;refine QFI ?_;intro lF lO bF bO HMD KS HH;have HF:Hid (gK wr gF F):=hF;have HO:Hid (gK wr gO O):=hO;have VX:=qh hP;have LF:=qh lF;have LO:=qh lO;have BF:=qh bF;have BO:=qh bO;have HK:=qh (And.intro hk hlt);clear LQ hrun hh hF hO hP hs lF lO bF bO hx hk hlt hc d0 d1 d2 d3;go_wp2_with fail;go_loopg [9,32] m (fun g s9 s32 wr'=>∃j:Nat,j<=m/\g=m-j/\s32=.int .i64 j/\s9=.int .i64 (jL F j)/\wr'=wr)
    case atStart=>exact⟨0,nE _,rfl,rfl,rfl,rfl⟩
    case round=>
     obtain⟨j,hj,rfl,rfl,rfl,rfl⟩:=hrel;have hown:jL F j<m:=by
      rcases Nat.eq_zero_or_pos j with rfl|hj0
      ·show 0<m;omega
      ·have:=Lp (free:=F) hj0;omega
     by_cases hlt:j<m
     ·have f1:=HF.out.cell (k:=j) (by rw[LF.out];exact hlt);have f2:=HF.out.cell (k:=jL F j) (by rw[LF.out];exact hown);have hji:(j:Int)<(m:Int):=nQ;have hj0:¬(j:Int)<0:=nQ;have VC:(jL F j:Int)<(m:Int):=nQ;have Xw:¬(jL F j:Int)<0:=nQ;by_cases hc:nth F j<nth F (jL F j)
      ·have HE:=qh (show jL F (j+1)=j by unfold jL;rw[if_pos hc]);go_wp2_with fail;go_roundg (m-(j+1))
       case measure=>omega
       case rel=>exact⟨j+1,hlt,rfl,by go_num,by rw[HE.out],rfl⟩
      ·have HE:=qh (show jL F (j+1)=jL F j by rw[jL,if_neg hc]);go_wp2_with fail;go_roundg (m-(j+1))
       case measure=>omega
       case rel=>exact⟨j+1,hlt,rfl,by go_num,by rw[HE.out],rfl⟩
     ·obtain rfl:j=m:=by omega
      refine QET ?_;intro Bg f2 VC Xw q hq;rw[hq] at f2 VC Xw Bg;have hqj:q<j:=by rw[<-hq];exact hown
      clear hown;rw[hq];clear hq;go_wp2_with fail;go_region;refine QEZ ?_;intro b0 hb0 S3;clear hb0;go_wp2_with fail;go_loopg [12,61] n.ps.length (fun g s12 s61 wr'=>∃(i:Nat) (δ:nJ),i<=n.ps.length/\g=n.ps.length-i/\s61=.int .i64 i/\s12=.int .i64 (kB n.ps O x b0 i)/\wr'=af wr δ)
      case atStart=>exact⟨0,wr.drew,nE _,rfl,rfl,rfl,GU wr⟩
      case round=>
       obtain⟨i,δ,hi,rfl,rfl,rfl,rfl⟩:=hrel;by_cases hlt:i<n.ps.length
       ·obtain⟨bp,op,XS,Be,c0,c1⟩:=HN.out.2.pr hlt;have J6:bp<w.heap.size:=nL Be hB.out;have k0:=(aZ g1.out bp _ J6).trans c0;have k1:=(aZ g1.out bp _ J6).trans c1;have ibp:Lt bp wr:=⟨nL J6 g2.out⟩;have XS:rpA=some ⟨bp,op,none⟩:=XS;subst XS;have hok:=oI.1 (FH HPV.out hlt);obtain⟨a,ha⟩:∃a:Nat,(nth n.ps i).a=a:=⟨(nth n.ps i).a.toNat,nQ⟩;rw[ha] at k0;have hal:a<n.hs.length:=nQ;have z0:=HO.out.cell (k:=a) (by rw[LO.out];exact hal);have hai:(a:Int)<(n.hs.length:Int):=nQ;have ha0:¬(a:Int)<0:=nQ;have LW:(i:Int)<(n.ps.length:Int):=nQ;have hi0:¬(i:Int)<0:=nQ;by_cases jh:(nth n.ps i).b=x
        ·have XK:((nth n.ps i).b==(x:Int))=true:=by simpa using jh
         by_cases LP:kB n.ps O x b0 i<nth O a
         ·have HE:=qh (show kB n.ps O x b0 (i+1)=nth O a by
           rw[kB,if_pos jh,ha];simp only[Int.toNat_natCast];omega)
          have iM:=qh hlt;clear jh hok ha c0 c1 hlt;go_wp2_with fail;go_roundg (n.ps.length-(i+1))
          case measure=>have:=iM.out;omega
          case rel=>exact⟨i+1,_,iM.out,rfl,by go_num,by rw[HE.out],aq⟩
         ·have HE:=qh (show kB n.ps O x b0 (i+1)=kB n.ps O x b0 i by
           rw[kB,if_pos jh,ha];simp only[Int.toNat_natCast];omega)
          have iM:=qh hlt;clear jh hok ha c0 c1 hlt;go_wp2_with fail;go_roundg (n.ps.length-(i+1))
          case measure=>have:=iM.out;omega
          case rel=>exact⟨i+1,_,iM.out,rfl,by go_num,by rw[HE.out],aq⟩
        ·have XK:((nth n.ps i).b==(x:Int))=false:=by simpa using jh
         have HE:=qh (show kB n.ps O x b0 (i+1)=kB n.ps O x b0 i by rw[kB,if_neg jh]);have iM:=qh hlt;clear jh hok ha c0 c1 hlt;go_wp2_with fail;go_roundg (n.ps.length-(i+1))
         case measure=>have:=iM.out;omega
         case rel=>exact⟨i+1,_,iM.out,rfl,by go_num,by rw[HE.out],aq⟩
       ·obtain rfl:i=n.ps.length:=by omega
        have sQ:=HMD.out;have hh:=ic.1 (jl HV.out xm);unfold iP at sQ;simp only[Int.toNat_natCast,S3.out] at sQ;obtain⟨be,XM⟩:∃be,kB n.ps O x b0 n.ps.length=be:=⟨_,rfl⟩;rw[XM] at sQ;refine QEL ?_;intro SJ y1 y2 y3 y4;have z0:=HO.out.cell (k:=x) (by rw[LO.out];exact xm);have zf:=HO.out.free x;have zg:=HF.out.free q;have n1:qM gO gF:=⟨by have:=AX.out;omega⟩;have n2:qM gF gO:=⟨by have:=AX.out;omega⟩;have n3:qM gO w.heap.size:=⟨by have:=AX.out;omega⟩;have n4:oy w.heap.size gO:=⟨by have:=AX.out;omega⟩;have n5:oy w.heap.size gF:=⟨by have:=AX.out;omega⟩;clear XM sQ hh;go_upto_region 20 with fail;refine aL fun W3 bQ=>?_;have o3:gK W3 gO (O.set x (be+(nth n.hs x).hr)):=by rw[bQ.out];exact(HO.out.af _).set _ _
        have f3:gK W3 gF F:=by rw[bQ.out];exact(HF.out.af _).fD (by have:=AX.out;exact fun e=>this.1 e) _
        have b3:ax W3 w.heap.size 204 #[.int .i64 n.m,.slice (some ⟨bh,oh,none⟩) n.hs.length rhc,.slice rpA n.ps.length rpc]:=by rw[bQ.out];exact(VX.out.af _).fD (by have:=AX.out;show w.heap.size≠gO;omega) _
        have g3:au w.heap.size w W3:=gu bQ;have g4:Le w.heap.size W3:=fI bQ;have x1:=o3.cell (k:=x) (by rw[List.length_set,LO.out];exact xm);rw[qX _ (by rw[LO.out];exact xm)] at x1;have x2:=f3.cell (k:=q) (by rw[LF.out];exact hqj);have x3:=f3.free q;have x4:=f3.lt;have O3:=qh o3;have F3:=qh f3;have B3:=qh b3;clear bQ o3 f3 b3;go_wp2_with fail;go_roundg (l.length-(k+1))
        case measure=>have:=HK.out;omega
        case rel=>
         refine⟨k+1,HK.out.2,rfl,by go_num,?_,?_,B3.out.fD (by have:=AX.out;show w.heap.size≠gF;omega) _,inferInstance,inferInstance⟩
         ·rw[KS.out];show gK _ gF (F.set (own F) (iP n (F,O) x));rw[Bg.out,SJ.out];exact F3.out.set _ _
         ·rw[KS.out];show gK _ gO (O.set (x:Int).toNat (iP n (F,O) x));rw[SJ.out,Int.toNat_natCast];exact O3.out.fD (by have:=AX.out;exact fun e=>this.1 e.symm) _
   ·obtain rfl:k=l.length:=by omega
    have hlen:=kF n l;have ym:=hO.sl (by rw[(qm n _).2];omega);rw[List.take_length] at ym;have ym:Sl aI wr.heap.size wr (some ⟨gO,0,none⟩) (times n l).length (times n l):=ym;rw[hlen] at ym;have ON:=qh ym;have Yy:=qh hlen;clear ym hlen hF hO hP;go_wp2_with fail;go_ret;refine⟨some ⟨gO,0,none⟩,n.hs.length,wr,by rw[Yy.out];rfl,aq,?_,fun p hp=>by cases hp;have:=AX.out;show w.heap.size<=gO;omega⟩;rw[<-aq (w:=w) (W:=wr)];exact ON.out
end
section
open Me
theorem kI{n:Net}(h:valid n=true):(1<=n.m/\n.m<=3)/\n.hs.length<=6/\n.ps.length<=8/\fc n.hs=true/\oH n.hs.length n.ps=true:=by obtain⟨a,b,c,d,e,_⟩:=aD.1 h;exact⟨a,b,c,d,e⟩
theorem K7(r:cw)(n:Net)(A:Option Addr)(c ln:Nat)(l:List Int)(B:Nat)(w:nJ)[hB:Le B w](hS:Sl aI B w A c l)(hN:bJ B w r n)(hv:valid n=true)(hl:fP n l=true)(jg:l.length=ln):Calls nH 236 #[cI r n,.slice A ln c] w fun e w'=>∃(A':Option Addr) (c':Nat) (δ:nJ),e=.returned (.slice A' n.hs.length c')/\w'=af w δ/\Hid (Sl aI (af w δ).heap.size (af w δ) A' c' (times n l))/\Hid (∀p,A'=some p->w.heap.size<=p.block):=by subst jg;obtain⟨a,b,c',d,e⟩:=kI hv;refine(Tc r n A c l B w hS hN a b c' d e (oa hl) (by rw[jB hl];exact b)).mono ?_;rintro e w' ⟨A',c',δ,rfl,rfl,h1,h2⟩;exact⟨A',c',δ,by rw[kF],rfl,h1,h2⟩
theorem vR{n:Net}(hv:fc n.hs=true):kO 20 (kK n)/\kO 20 (DD n):=by
 constructor;all_goals
  intro j;rcases Nat.lt_or_ge j n.hs.length with h|h
  ·first|rw[tL h]|rw[FK h]
   have:=ic.1 (jl hv h);omega
  ·have e:∀xs:List Int,xs.length<=j->nth xs j=0:=fun xs hx=>by unfold nth List.getD;rw[List.getElem?_eq_none hx];rfl
   rw[e _ (by simp[kK,DD];exact h)];omega
theorem yI{n:Net}(hv:valid n=true){l:List Int}(hl:fP n l=true){rt:List Int}(hr:kO 20 rt)(k:Nat)(hk:k<=n.hs.length):-10000<=jX n.hs (times n l) rt k/\jX n.hs (times n l) rt k<=10000:=by have h6:=(kI hv).2.1;have:=QC (kI hv).2.2.2.1 (uW hv hl) hr k hk nQ;omega
theorem Qq{a b:Int}(h0:0<=a)(h1:a<=20)(h2:-100<=b)(h3:b<=100):-2000<=a*b/\a*b<=2000:=by have e1:=Int.mul_le_mul_of_nonneg_left h3 h0;have e2:=Int.mul_le_mul_of_nonneg_left h2 h0;constructor<;>omega
theorem Xa(r:cw)(n:Net)(A:Option Addr)(c ln:Nat)(l:List Int)(B:Nat)(w:nJ)[hB:Le B w](hS:Sl aI B w A c l)(hN:bJ B w r n)(hv:valid n=true)(hl:fP n l=true)(jg:l.length=ln):Calls nH 186 #[cI r n,.slice A ln c] w fun e w'=>e=.returned (.agg #[.int .i64 (kr n l (DD n)),.int .i64 (eC n l)])/\∃δ,w'=af w δ:=by
 have HS:=qh hS;have HN:=qh hN;have HV:=qh hv;have HO:=qh hl;have qd:=qh jg;have h6:=(kI hv).2.1;clear hS hN hv hl jg;go_enter Tryz.func186,Tryz.ntmps186;go_wp2_with (go_at_call 236;refine(K7 r n _ _ _ l B _ HS.out.up HN.out.up HV.out HO.out qd.out).mono ?_;rintro e w1 ⟨A',c',δ,rfl,rfl,hT,hT2⟩);refine QCD ?_;intro W1 aH cJ dF cU dA dD eI;have bx:ax W1 (w.heap.size+1) 23 #[.int .i64 0,.int .i64 0]:=by rw[aH.out];exact(ax.new nV).af _
 have bp:ax W1 w.heap.size 204 #[.int .i64 n.m,.slice r.hA n.hs.length r.hc,.slice r.pA n.ps.length r.pc]:=by rw[aH.out];exact((ax.new rfl).alloc _).af _
 have T1:Sl aI W1.heap.size W1 A' c' (times n l):=by rw[aH.out];exact hT.out
 have BX:=qh bx;have BP:=qh bp;have TT:=qh T1;have T2:Hid (∀p,A'=some p->w.heap.size+2<=p.block):=fun p hp=>by have:=hT2.out p hp;simpa using this
 clear aH hT bx bp T1 hT2;go_loopg [12] n.hs.length (fun g i wr=>∃k:Nat,k<=n.hs.length/\g=n.hs.length-k/\i=.int .i64 k/\ax wr (w.heap.size+1) 23 #[.int .i64 (jX n.hs (times n l) (DD n) k),.int .i64 (jX n.hs (times n l) (kK n) k)]/\bH (fun b=>b=w.heap.size+1) W1 wr)
 case atStart=>exact⟨0,nE _,rfl,rfl,BX.out,bH.refl _ _⟩
 case round=>
  obtain⟨k,hk,rfl,rfl,hX,hK⟩:=hrel;have bp:=BP.out.eM hK nQ;have p1:=bp.cell (i:=1) rfl;have ip:=bp.lt;have s0:=hX.cell (i:=0) rfl;have s1:=hX.cell (i:=1) rfl;have f0:=hX.free 0;have f1:=hX.free 1;have is:=hX.lt;by_cases hlt:k<n.hs.length
  ·have hkt:k<(times n l).length:=by rw[kF];exact hlt
   obtain⟨b,o,rfl,hb,hc⟩:=TT.out.int hkt;have ir:w.heap.size+2<=b:=T2.out _ rfl;have YO:=(hK.cell (o:=o+k) hb (fun e=>by have e:b=w.heap.size+1:=e;omega)).trans hc;have ib:Lt b wr:=⟨nL hb hK.size⟩;obtain⟨bh,oh,J8,VL,d0,d1,d2,d3⟩:=HN.out.1.hole hlt;have Ag:bh<w.heap.size:=nL VL hB.out;have hww:=cU.out;have e:=fun o=>(hK.cell (b:=bh) (o:=o) nQ (fun e=>by have e:bh=w.heap.size+1:=e;omega)).trans (aZ dA.out bh o Ag);have e0:=(e _).trans d0;have e1:=(e _).trans d1;have e2:=(e _).trans d2;have e3:=(e _).trans d3;have ibh:Lt bh wr:=⟨by have:=hK.size;omega⟩;obtain⟨rhA,rhc,rpA,rpc⟩:=r;have J8:rhA=some ⟨bh,oh,none⟩:=J8;subst J8;refine QEB ?_;intro hki hk0;have ht:=uW HV.out HO.out k;have hh:=ic.1 (jl (kI HV.out).2.2.2.1 hlt);have q1:0<=nth (times n l) k:=ht.1;have q2:nth (times n l) k<=74:=ht.2;have q3:0<=(nth n.hs k).fr:=hh.1;have q4:(nth n.hs k).fr<=20:=hh.2.1;obtain⟨m1,m2⟩:=Qq (a:=(nth n.hs k).lo) (b:=nth (times n l) k-(nth n.hs k).fr) nQ nQ nQ nQ;obtain⟨m3,m4⟩:=Qq (a:=(nth n.hs k).hi) (b:=nth (times n l) k-(nth n.hs k).fr) nQ nQ nQ nQ;obtain⟨b1,b2⟩:=yI HV.out HO.out (vR (kI HV.out).2.2.2.1).2 k hk;obtain⟨b3,b4⟩:=yI HV.out HO.out (vR (kI HV.out).2.2.2.1).1 k hk;have YA:=qh (show jX n.hs (times n l) (DD n) (k+1)=jX n.hs (times n l) (DD n) k+(nth n.hs k).lo*(nth (times n l) k-(nth n.hs k).fr) by rw[jX,FK hlt]);have HE2:=qh (show jX n.hs (times n l) (kK n) (k+1)=jX n.hs (times n l) (kK n) k+(nth n.hs k).hi*(nth (times n l) k-(nth n.hs k).fr) by rw[jX,tL hlt]);have n1:oy W1.heap.size wr.heap.size:=⟨hK.size⟩;have n2:qM wr.heap.size (w.heap.size+1):=⟨Nat.ne_of_gt is.out⟩;have HX:=qh hX;have HK:=qh hK;have iM:=qh hlt;clear hX hK hlt hk hc d0 d1 d2 d3 e hh ht hkt;go_wp2_with fail;go_roundg (n.hs.length-(k+1))
   case measure=>have:=iM.out;omega
   case rel=>
    refine⟨k+1,iM.out,rfl,by go_num,?_,?_⟩
    ·rw[YA.out,HE2.out];exact((HX.out.set 0 _).set 1 _).alloc _
    ·exact((HK.out.set rfl _ _).set rfl _ _).alloc _
  ·obtain rfl:k=n.hs.length:=by omega
   have HX:=qh hX;have HK:=qh hK;clear hX hK;go_wp2_with fail;refine bodyPost_ret (v:=.agg #[.int .i64 (kr n l (DD n)),.int .i64 (eC n l)]) ?_ rfl ⟨rfl,?_⟩
   ·simp only[results,Tryz.results186];go_simp;exact⟨rfl,rfl⟩
   ·exact fy ((HK.out.set rfl _ _).set rfl _ _) (by rintro b rfl;omega)
theorem PG(a b:Int)(W:nJ):(Instr.field 23 (.agg #[.int .i64 a,.int .i64 b]) 1).run nH W=.ok (.int .i64 b) W:=by kernel_rfl
theorem XB(r:cw)(n:Net)(A:Option Addr)(c ln:Nat)(l:List Int)(B:Nat)(w:nJ)[hB:Le B w](hS:Sl aI B w A c l)(hN:bJ B w r n)(hv:valid n=true)(hl:fP n l=true)(jg:l.length=ln):Calls nH 119 #[cI r n,.slice A ln c] w fun e w'=>e=.returned (.int .i64 (eC n l))/\∃δ,w'=af w δ:=by have HS:=qh hS;have HN:=qh hN;have HV:=qh hv;have HO:=qh hl;have qd:=qh jg;clear hS hN hv hl jg;have XF:=PG;go_enter Tryz.func119,Tryz.ntmps119;go_wp2_with (go_at_call 186;refine(Xa r n _ _ _ l B _ HS.out.up HN.out.up HV.out HO.out qd.out).mono ?_;rintro e w1 ⟨rfl,δ,rfl⟩);go_ret;exact⟨rfl,ag⟩
theorem Xd(r:cw)(n:Net)(A:Option Addr)(c ln:Nat)(l:List Int)(B:Nat)(w:nJ)[hB:Le B w](hS:Sl aI B w A c l)(hN:bJ B w r n)(hv:valid n=true)(hl:fP n l=true)(jg:l.length=ln):Calls nH 253 #[cI r n,.slice A ln c] w fun e w'=>e=.returned (.int .i64 (iQ n l))/\∃δ,w'=af w δ:=by
 have HS:=qh hS;have HN:=qh hN;have HV:=qh hv;have HO:=qh hl;have qd:=qh jg;have h6:=(kI hv).2.1;clear hS hN hv hl jg;go_enter Tryz.func253,Tryz.ntmps253;go_wp2_with (go_at_call 236;refine(K7 r n _ _ _ l B _ HS.out.up HN.out.up HV.out HO.out qd.out).mono ?_;rintro e w1 ⟨A',c',δ,rfl,rfl,hT,hT2⟩);refine aL fun W1 aH=>?_;obtain⟨cJ,dF,cU,dA,dD⟩:=Au B w aH;have TT:Hid (Sl aI W1.heap.size W1 A' c' (times n l)):=by rw[aH.out];exact hT.out
 clear aH hT hT2;go_loopg [5,12] n.hs.length (fun g s5 i wr=>∃k:Nat,k<=n.hs.length/\g=n.hs.length-k/\i=.int .i64 k/\s5=.int .i64 (pY (times n l) k)/\wr=W1)
 case atStart=>exact⟨0,nE _,rfl,rfl,rfl,rfl⟩
 case round=>
  obtain⟨k,hk,rfl,rfl,rfl,rfl⟩:=hrel;by_cases hlt:k<n.hs.length
  ·obtain⟨b,o,rfl,hb,hc⟩:=TT.out.int (k:=k) (by rw[kF];exact hlt);refine QEB ?_;intro hki hk0;by_cases LP:pY (times n l) k<nth (times n l) k
   ·have HE:=qh (show pY (times n l) (k+1)=nth (times n l) k by rw[pY];omega);have iM:=qh hlt;clear hlt;go_wp2_with fail;go_roundg (n.hs.length-(k+1))
    case measure=>have:=iM.out;omega
    case rel=>exact⟨k+1,iM.out,rfl,by go_num,by rw[HE.out],rfl⟩
   ·have HE:=qh (show pY (times n l) (k+1)=pY (times n l) k by rw[pY];omega);have iM:=qh hlt;clear hlt;go_wp2_with fail;go_roundg (n.hs.length-(k+1))
    case measure=>have:=iM.out;omega
    case rel=>exact⟨k+1,iM.out,rfl,by go_num,by rw[HE.out],rfl⟩
  ·obtain rfl:k=n.hs.length:=by omega
   go_wp2_with fail;go_ret;exact⟨rfl,ag⟩
end
section
open Me
def xR(b:Bool)(v0 v:nK)(k0 k:Int):Array nK:=if b=false\/k<k0 then #[v,.int .i64 k,.bool true] else #[v0,.int .i64 k0,.bool b]
theorem Xb(c:Nat)(T:TypeId)(b:Bool)(A0 A:Option Addr)(n0 c0 n1 c1:Nat)(k0 k:Int)(w:nJ)(hx:ax w c T #[.slice A0 n0 c0,.int .i64 k0,.bool b]):Calls nH 185 #[.pointer (some ⟨c,0,none⟩),.slice A n1 c1,.int .i64 k] w fun e w'=>(∃v,e=.returned v)/\ax w' c T (xR b (.slice A0 n0 c0) (.slice A n1 c1) k0 k)/\bH (fun x=>x=c) w w':=by
 have c0':=hx.cell (i:=0) rfl;have c1':=hx.cell (i:=1) rfl;have c2':=hx.cell (i:=2) rfl;have f0:=hx.free 0;have f1:=hx.free 1;have f2:=hx.free 2;have hlt:=hx.lt;have HX:=qh hx;clear hx;cases b with
 |false=>
  go_enter Tryz.func185,Tryz.ntmps185
  go_wp2
  go_end0
  exact⟨⟨_,rfl⟩,((HX.out.set 0 _).set 1 _).set 2 _,(((bH.refl _ _).set (S:=fun x=>x=c) rfl _ _).set rfl _ _).set rfl _ _⟩
 |true=>
  by_cases hk:k<k0
  ·have e:xR true (.slice A0 n0 c0) (.slice A n1 c1) k0 k=#[.slice A n1 c1,.int .i64 k,.bool true]:=by unfold xR;rw[if_pos (.inr hk)]
   rw[e];go_enter Tryz.func185,Tryz.ntmps185;go_wp2;go_end0;exact⟨⟨_,rfl⟩,((HX.out.set 0 _).set 1 _).set 2 _,(((bH.refl _ _).set (S:=fun x=>x=c) rfl _ _).set rfl _ _).set rfl _ _⟩
  ·have e:xR true (.slice A0 n0 c0) (.slice A n1 c1) k0 k=#[.slice A0 n0 c0,.int .i64 k0,.bool true]:=by unfold xR;rw[if_neg (by simp;omega)]
   rw[e];go_enter Tryz.func185,Tryz.ntmps185;go_wp2;go_end0;exact⟨⟨_,rfl⟩,HX.out,bH.refl _ _⟩
def uR(f:List Int->Int)(lo cb:Nat)(pre:List (List Int))(W:nJ):Prop:=
 ∃(b:Bool) (A:Option Addr) (m c:Nat) (k:Int),ax W cb 250 #[.slice A m c,.int .i64 k,.bool b]/\(pre=[]->b=false) /\
  (pre≠[]->b=true/\m=(least f pre).length/\k=f (least f pre)/\Sl aI W.heap.size W A c (least f pre)/\∀p,A=some p->lo<=p.block)
theorem uR.eM{f:List Int->Int}{lo cb:Nat}{pre:List (List Int)}{S:Nat->Prop}{W W':nJ}(h:uR f lo cb pre W)(k:bH S W W')(h1:¬S cb)(h2:∀b,S b->b<lo):uR f lo cb pre W':=by obtain⟨b,A,m,c,x,hb,hn,hs⟩:=h;refine⟨b,A,m,c,x,hb.eM k h1,hn,fun hp=>?_⟩;obtain⟨a1,a2,a3,a4,a5⟩:=hs hp;exact⟨a1,a2,a3,(k.sl a4 (nR _) (fun p hp hc=>by have:=h2 _ hc;have:=a5 p hp;omega)).more k.size,a5⟩
theorem uR.look{f:List Int->Int}{lo cb:Nat}{pre:List (List Int)}{W W':nJ}{x:List Int}{A1:Option Addr}{c1:Nat}{b:Bool}{A:Option Addr}{m c:Nat}{k:Int}(hn:pre=[]->b=false)(hs:pre≠[]->b=true/\m=(least f pre).length/\k=f (least f pre)/\Sl aI W.heap.size W A c (least f pre)/\∀p,A=some p->lo<=p.block)(hx:Sl aI W.heap.size W A1 c1 x)(hlo:∀p,A1=some p->lo<=p.block)(hc:cb<lo)(hk:bH (fun b=>b=cb) W W')(hb:ax W' cb 250 (xR b (.slice A m c) (.slice A1 x.length c1) k (f x))):uR f lo cb (pre++[x]) W':=by
 have up:∀ {A:Option Addr} {c:Nat} {y:List Int},Sl aI W.heap.size W A c y->(∀p,A=some p->lo<=p.block)->Sl aI W'.heap.size W' A c y:=fun h1 h2=>(hk.sl h1 (nR _) (fun p hp e=>by have:=h2 p hp;have e:p.block=cb:=e;omega)).more hk.size;by_cases hp:pre=[]
 ·subst hp;rw[hn rfl] at hb;unfold xR at hb;rw[if_pos (.inl rfl)] at hb;exact⟨true,A1,x.length,c1,f x,hb,fun h=>by simp at h,fun _=>⟨rfl,rfl,rfl,up hx hlo,hlo⟩⟩
 ·obtain⟨rfl,rfl,rfl,h4,h5⟩:=hs hp;unfold xR at hb;by_cases hl:f x<f (least f pre)
  ·rw[if_pos (.inr hl)] at hb;have e:least f (pre++[x])=x:=by rw[oO f hp,if_pos hl]
   exact⟨true,A1,x.length,c1,f x,hb,fun h=>by simp at h,fun _=>⟨rfl,by rw[e],by rw[e],by rw[e];exact up hx hlo,hlo⟩⟩
  ·rw[if_neg (by simp;omega)] at hb;have e:least f (pre++[x])=least f pre:=by rw[oO f hp,if_neg hl]
   exact⟨true,A,_,c,_,hb,fun h=>by simp at h,fun _=>⟨rfl,by rw[e],by rw[e],by rw[e];exact up h4 h5,h5⟩⟩
def L9(fid:Nat)(r:cw)(n:Net)(B:Nat)(w:nJ)(f:List Int->Int):Prop:=∀(l:List Int) (A:Option Addr) (c:Nat) (W:nJ),fP n l=true->bJ B W r n->B<=W.heap.size->Sl aI W.heap.size W A c l ->
 Calls nH fid #[cI r n,.slice A l.length c] W fun e w'=>e=.returned (.int .i64 (f l))/\∃δ,w'=af W δ
section
attribute[local go_sem] Oper.semAt_some
theorem T7(fid:Nat)(hent:∀args w,(callFunc fid args).run nH w=.ok (.enter fid args) w)(f:List Int->Int)(r:cw)(n:Net)(hv:valid n=true)(B:Nat)(w:nJ)(hN:bJ B w r n)[hB:Le B w](hf:L9 fid r n B w f):Calls nH 118 #[cI r n,.func (.func fid) #[cI r n] #[]] w fun e w'=>∃(A:Option Addr) (c:Nat) (δ:nJ),e=.returned (.tuple #[.slice A n.hs.length c,.int .i64 (f (least f (gN n)))])/\w'=af w δ/\Hid (Sl aI (af w δ).heap.size (af w δ) A c (least f (gN n))):=by
 have HN:=qh hN;have HV:=qh hv;have HF:=qh hf;have h6:=(kI hv).2.1;clear hN hv hf;refine oW Tryz.func118 rfl ?_;simp only[Tryz.ntmps118,List.size_toArray,List.length_cons,List.length_nil,Nat.reduceAdd,Nat.reduceSub,Array.replicate_succ,Array.replicate_zero,List.push_toArray,List.append_toArray,List.nil_append,List.cons_append];go_wp2_with (go_at_call 184;refine(FB n r _).mono ?_;rintro e w1 ⟨rfl,rfl⟩);refine aL fun W0 jO=>?_;obtain⟨cJ,dF,cU,dA,dD,eI⟩:=UG B w jO;have ju:Lt (w.heap.size+1+1) W0:=nt jO;have Es:Lt (w.heap.size+1+1+1) W0:=nt jO;have mG:W0.cell? ⟨w.heap.size+1+1+1,0,none⟩=some (.int .i64 n.m):=by rw[jO.out];go_simp
 have jE:W0.cell? ⟨w.heap.size+1+1+1,1,none⟩=some (.slice r.hA n.hs.length r.hc):=by rw[jO.out];go_simp
 have mR:W0.cell? ⟨w.heap.size+1+1+1,2,none⟩=some (.slice r.pA n.ps.length r.pc):=by rw[jO.out];go_simp
 have mQ:W0.cell? ⟨w.heap.size+1,0,none⟩=some (.func (.func fid) #[cI r n] #[]):=by rw[jO.out];go_simp
 have hz:W0.heap.size=w.heap.size+4:=by rw[jO.out];simp
 have HX:Hid (ax W0 (w.heap.size+1+1) 250 #[.slice none 0 0,.int .i64 0,.bool false]):=by rw[jO.out];exact(ax.new nV).alloc _
 have HN0:Hid (bJ B W0 r n):=HN.out.up;have HZ:=qh hz;have hBw:=hB.out;have HC:Hid (W0.cell? ⟨w.heap.size+1,0,none⟩=some (.func (.func fid) #[cI r n] #[])):=nZ;clear jO hz;refine KX n r B (w.heap.size+1+1+1) rfl h6 HN0.out (by have:=HZ.out;omega) (by have:=HZ.out;omega) nZ nZ nZ
  (fun b=>b=w.heap.size+1+1) (by rintro b rfl;have:=HZ.out;omega)
  (uR f (W0.heap.size+2) (w.heap.size+1+1)) (fun _ _ _=>False)
  (by intro pre W W' h hk;exact h.eM hk (yR (by have:=HZ.out;omega)) (by rintro b (h|h|h);exact h.elim;omega;omega)) (fun _ _ _ _ h _=>h)
  ⟨false,none,0,0,0,HX.out,fun _=>rfl,fun h=>absurd rfl h⟩ (fun v=>{ tmps:=#[cI r n,.func (.func fid) #[cI r n] #[],.pointer (some ⟨w.heap.size,0,none⟩),.pointer (some ⟨w.heap.size+1,0,none⟩),.slice none 0 0,.int .i64 0,.pointer (some ⟨w.heap.size+1+1,0,none⟩),v,
   .agg #[.int .i64 n.m,.slice r.hA n.hs.length r.hc,.slice r.pA n.ps.length r.pc],.func (.func 232) #[] #[.pointer (some ⟨w.heap.size+1+1+1,0,none⟩)],v,undef,undef,undef,undef,undef,undef,undef,undef,undef],defers:=[] }) ?assign ?body ?done ?stop
 case assign=>intro l m v W K hK;gi_wp2;simpa using hK
 case body=>
  rintro l m pre x v W hpre hI hl hk hs;obtain⟨A1,c1,rfl,Il,hlo1⟩:=hl;obtain⟨b,A,k0,c0,y,hb,hn,hs2⟩:=hI;have hx:fP n x=true:=tu.1 (hpre.subset nV);have cf:=(hk.cell (b:=w.heap.size+1) (o:=0) (by have:=HZ.out;omega) (by have:=HZ.out;rintro(h|h|h)<;>omega)).trans HC.out;have hNW:=hk.aF HN0.out (by have:=HZ.out;omega) (by have:=HZ.out;rintro b (h|h|h)<;>omega);have hcall:=HF.out x A1 c1 W hx hNW (by have:=hk.size;have:=HZ.out;omega) Il;have hcb:=hb.lt;have HB:=qh hb;have YX:=qh hn;have Bv:=qh hs2;have mY:=qh Il;have HLO:=qh hlo1;clear hb hn hs2 Il hlo1 hk hNW hx hpre hs;gi_wp2;refine gY hcall ?_;rintro e w1 ⟨rfl,δ,rfl⟩;gi_wp2;refine gY (Xb (w.heap.size+1+1) _ b A A1 k0 c0 _ c1 y _ _ (HB.out.af δ)) ?_;rintro e w2 ⟨⟨v',rfl⟩,gM,hk2⟩;gi_wp2;refine⟨(bH.af _ _ _).trans hk2,?_⟩;exact uR.look (W:=af W δ) YX.out (fun hp=>by
   obtain⟨a1,a2,a3,a4,a5⟩:=Bv.out hp
   exact⟨a1,a2,a3,a4.wide,a5⟩) mY.out.wide HLO.out (by have:=HZ.out;omega) hk2 gM
 case done=>
  rintro W hI hk hD;obtain⟨b,A,k0,c0,y,hb,hn,hs2⟩:=hI;obtain⟨rfl,rfl,rfl,h4,h5⟩:=hs2 (pP (aD.1 HV.out).2.2.2.2.2);have hlen:(least f (gN n)).length=n.hs.length:=jB (tu.1 (gd f (pP (aD.1 HV.out).2.2.2.2.2)));rw[hlen] at hb;have d0:=hb.cell (i:=0) rfl;have d1:=hb.cell (i:=1) rfl;have HD:=qh hD;have HK:=qh hk;have H4:=qh h4;have H5:=qh h5;clear hb hn hs2 hD hk h4 h5 hlen;go_wp2_with fail;go_region;go_wp2_with fail;obtain⟨δ,hδ⟩:=fy (w:=w) ((HK.out.drew).putObj (b:=W0.heap.size) (.inr (.inl rfl)) (.deferred none)) (by have:=HZ.out;rintro b (h|h|h)<;>omega);refine oF (v:=.tuple #[.slice A n.hs.length c0,.int .i64 (f (least f (gN n)))]) HD.out ?_ ⟨A,c0,δ,rfl,hδ,?_⟩
  ·simp only[results,Tryz.results118];go_simp
  ·rw[<-hδ];refine((((bH.refl (fun b=>b=W0.heap.size) W).drew).putObj rfl _).sl H4.out (nR _) (fun p hp e=>?_)).more ?_
   ·have:=H5.out p hp;have e:p.block=W0.heap.size:=e;omega
   ·rw[World.putObj_size];exact nR _
 case stop=>exact fun _ _ _ _ _ h=>h.elim
end
end
section
open Me
theorem FP(r:cw)(n:Net)(w:nJ):Calls nH 53 #[cI r n] w fun e w'=>e=.returned (.func (.func 119) #[cI r n] #[])/\∃δ,w'=af w δ:=by go_enter Tryz.func53,Tryz.ntmps53;go_wp2_with fail;go_ret;exact⟨rfl,ag⟩
theorem Qu(r:cw)(n:Net)(w:nJ):Calls nH 224 #[cI r n] w fun e w'=>e=.returned (.func (.func 253) #[cI r n] #[])/\∃δ,w'=af w δ:=by go_enter Tryz.func224,Tryz.ntmps224;go_wp2_with fail;go_ret;exact⟨rfl,ag⟩
theorem yV(r:cw)(n:Net)(hv:valid n=true)(B:Nat)(w:nJ):L9 119 r n B w (eC n):=fun l A c W hl hN hB hS=>by have i:Le W.heap.size W:=inferInstance;exact XB r n A c _ l W.heap.size W hS (hN.more hB) hv hl rfl
theorem IA(r:cw)(n:Net)(hv:valid n=true)(B:Nat)(w:nJ):L9 253 r n B w (iQ n):=fun l A c W hl hN hB hS=>by have i:Le W.heap.size W:=inferInstance;exact Xd r n A c _ l W.heap.size W hS (hN.more hB) hv hl rfl
theorem GO:∀args w,(callFunc 119 args).run nH w=.ok (.enter 119 args) w:=Go.Proofs.enters_of Tryz.func119 nP rfl
theorem RI:∀args w,(callFunc 253 args).run nH w=.ok (.enter 253 args) w:=Go.Proofs.enters_of Tryz.func253 nP rfl
def OU(f:List Int->Int)(n:Net)(w:nJ)(e:Ending)(w':nJ):Prop:=∃(A:Option Addr) (c:Nat) (δ:nJ),e=.returned (.tuple #[.slice A n.hs.length c,.int .i64 (f (least f (gN n))),.int .i64 0])/\w'=af w δ/\Hid (Sl aI (af w δ).heap.size (af w δ) A c (least f (gN n)))
theorem DW(mk fid:Nat)(f:List Int->Int)(aer:∀args w,(callFunc mk args).run nH w=.ok (.enter mk args) w)(hent:∀args w,(callFunc fid args).run nH w=.ok (.enter fid args) w)(r:cw)(n:Net)(hv:valid n=true)(B:Nat)(w:nJ)(hN:bJ B w r n)[hB:Le B w](hmk:∀W,Calls nH mk #[cI r n] W fun e w'=>e=.returned (.func (.func fid) #[cI r n] #[])/\∃δ,w'=af W δ)(hf:∀W,L9 fid r n B W f):Calls nH 52 #[cI r n,.func (.func mk) #[] #[]] w (OU f n w):=by
 have HN:=qh hN;have HV:=qh hv;have HE:=qh (show cC (valid n) 40=0 by rw[hv];rfl);have HM:=qh hmk;have HF:=qh hf;clear hN hv hmk hf;go_enter Tryz.func52,Tryz.ntmps52;go_wp2_with (go_at_call 85;refine(FT r n B _ HN.out.up).mono ?_;rw[HE.out];rintro e w1 ⟨rfl,δ,hw⟩;have bq:ax w1 w.heap.size 32 #[.int .i64 n.m,.slice r.hA n.hs.length r.hc,.slice r.pA n.ps.length r.pc]:=(by rw[hw];exact(ax.new rfl).af _);have e0:=bq.cell (i:=0) rfl;have e1:=bq.cell (i:=1) rfl;have e2:=bq.cell (i:=2) rfl;have ilt:=bq.lt;have g1:au B w w1:=(by rw[hw];infer_instance);have g2:Le B w1:=(by rw[hw];infer_instance);have g3:au w.heap.size w w1:=(by rw[hw];infer_instance);have g4:Le w.heap.size w1:=(by rw[hw];infer_instance);clear hw bq);go_region_held3 (fun W=>W.cell? ⟨w1.heap.size,0,none⟩=some (.int .i64 n.m)/\W.cell? ⟨w1.heap.size,1,none⟩=some (.slice r.hA n.hs.length r.hc)/\W.cell? ⟨w1.heap.size,2,none⟩=some (.slice r.pA n.ps.length r.pc))
  (refine⟨?_,?_,?_⟩<;>go_simp)
  (first|(go_at_call 118;refine(T7 fid hent f r n HV.out B _ HN.out.up (HF.out _)).mono ?_;rintro e w2 ⟨A,c,δ2,rfl,rfl,hS⟩)|(with_reducible refine(HM.out _).mono ?_;rintro e w3 ⟨rfl,δ3,rfl⟩))
 all_goals go_wp2_with fail;go_ret3;exact⟨A,c,_,rfl,aq,IQ hS.out.wide⟩
theorem JK(r:cw)(n:Net)(hv:valid n=true)(B:Nat)(w:nJ)(hN:bJ B w r n)[hB:Le B w]:Calls nH 17 #[cI r n] w fun e w'=>e=.returned (.tuple #[.int .i64 (dY n),.int .i64 0])/\∃δ,w'=af w δ:=by have HN:=qh hN;have HV:=qh hv;clear hN hv;go_enter Tryz.func17,Tryz.ntmps17;go_wp2_with (go_at_call 52;refine(DW 53 119 (eC n) (Go.Proofs.enters_of Tryz.func53 nP rfl) GO r n HV.out B _ HN.out.up (FP r n) (yV r n HV.out B)).mono ?_;rintro e w1 ⟨A,c,δ,rfl,rfl,hS⟩);go_ret2;exact⟨rfl,ag⟩
theorem Ob(r:cw)(n:Net)(hv:valid n=true)(B:Nat)(w:nJ)(hN:bJ B w r n)[hB:Le B w]:Calls nH 168 #[cI r n] w fun e w'=>e=.returned (.tuple #[.int .i64 (sZ n),.int .i64 0])/\∃δ,w'=af w δ:=by have HN:=qh hN;have HV:=qh hv;clear hN hv;go_enter Tryz.func168,Tryz.ntmps168;go_wp2_with (go_at_call 52;refine(DW 224 253 (iQ n) (Go.Proofs.enters_of Tryz.func224 nP rfl) RI r n HV.out B _ HN.out.up (Qu r n) (IA r n HV.out B)).mono ?_;rintro e w1 ⟨A,c,δ,rfl,rfl,hS⟩);go_ret2;exact⟨rfl,ag⟩
theorem uF(r:cw)(n:Net)(hv:valid n=true)(B:Nat)(w:nJ)(hN:bJ B w r n)[hB:Le B w]:Calls nH 174 #[cI r n] w fun e w'=>∃(A:Option Addr) (c:Nat) (δ:nJ),e=.returned (.tuple #[.slice A n.hs.length c,.int .i64 0])/\w'=af w δ/\Hid (Sl aI (af w δ).heap.size (af w δ) A c (gz n)):=by have HN:=qh hN;have HV:=qh hv;clear hN hv;go_enter Tryz.func174,Tryz.ntmps174;go_wp2_with (go_at_call 52;refine(DW 53 119 (eC n) (Go.Proofs.enters_of Tryz.func53 nP rfl) GO r n HV.out B _ HN.out.up (FP r n) (yV r n HV.out B)).mono ?_;rintro e w1 ⟨A,c,δ,rfl,rfl,hS⟩);go_ret2;exact⟨A,c,_,rfl,aq,IQ hS.out.wide⟩
end
section
open Me
end
section
open Me
theorem dQ{B:Nat}{w W wr:nJ}(h:au B w W)(h2:au W.heap.size W wr)[hB:Le B W]:au B w wr:=
 ⟨⟨h2.out.1.trans h.out.1,h2.out.2.1.trans h.out.2.1,h2.out.2.2.1.trans h.out.2.2.1,fun b hb=>(h2.out.2.2.2 b (nL hb hB.out)).trans (h.out.2.2.2 b hb)⟩⟩
theorem Ph{n:Net}(hv:valid n=true){l:List Int}(hl:fP n l=true):-10000<=eC n l/\eC n l<=10000:=yI hv hl (vR (kI hv).2.2.2.1).1 _ (nR _)
theorem Nv{n:Net}(hv:valid n=true):-10000<=dY n/\dY n<=10000:=Ph hv (iL (aD.1 hv).2.2.2.2.2)
end
section
open Me
def yj:Net:=⟨1,[⟨0,2,3,2⟩,⟨0,5,6,3⟩,⟨1,4,8,1⟩],[⟨0,2⟩]⟩
def exM:Net:=⟨2,[⟨0,2,3,2⟩,⟨0,5,6,3⟩,⟨1,4,8,1⟩],[⟨0,2⟩]⟩
theorem Xv(a b c d:Int)(w:nJ):Calls nH 150 #[.int .i64 a,.int .i64 b,.int .i64 c,.int .i64 d] w fun e w'=>e=.returned (.agg #[.int .i64 a,.int .i64 b,.int .i64 c,.int .i64 d])/\∃δ,w'=af w δ:=by go_enter Tryz.func150,Tryz.ntmps150;go_wp2_with fail;refine bodyPost_ret (v:=.agg #[.int .i64 a,.int .i64 b,.int .i64 c,.int .i64 d]) ?_ rfl ⟨rfl,ag⟩;simp only[results,Tryz.results150];go_simp
theorem JE(w:nJ):Calls nH 83 #[] w fun e w'=>∃(r:cw) (δ:nJ),e=.returned (.tuple #[cI r yj,cI r exM])/\w'=af w δ/\Hid (bJ (af w δ).heap.size (af w δ) r yj):=by
 go_enter Tryz.func83,Tryz.ntmps83;go_wp2_with (go_at_call 150;refine(Xv _ _ _ _ _).mono ?_;rintro e w1 ⟨rfl,δ,hw⟩;have b0:ax w1 w.heap.size 32 #[.int .i64 0,.slice none 0 0,.slice none 0 0]:=(by rw[hw];first|exact b0.af _|exact((ax.new rfl).alloc _).af _);have b1:ax w1 (w.heap.size+1) 32 #[.int .i64 0,.slice none 0 0,.slice none 0 0]:=(by rw[hw];first|exact b1.af _|exact(ax.new nV).af _);have c00:=b0.cell (i:=0) rfl;have c01:=b0.cell (i:=1) rfl;have c02:=b0.cell (i:=2) rfl;have xD:=b1.cell (i:=0) rfl;have c11:=b1.cell (i:=1) rfl;have c12:=b1.cell (i:=2) rfl;have f00:=b0.free 0;have f01:=b0.free 1;have f02:=b0.free 2;have f10:=b1.free 0;have f11:=b1.free 1;have f12:=b1.free 2;have l0:=b0.lt;have l1:=b1.lt;have g3:au w.heap.size w w1:=(by rw[hw];infer_instance);have g4:Le w.heap.size w1:=(by rw[hw];infer_instance);clear hw);have B0:=qh b0;have B1:=qh b1;clear b0 b1;refine aL fun W0 jO=>?_;have q0:ax W0 w.heap.size 32 #[.int .i64 1,.slice (some ⟨w1.heap.size,0,none⟩) 3 3,.slice (some ⟨w1.heap.size+1,0,none⟩) 1 1]:=by
  rw[jO.out];refine ax.alloc (ax.alloc ?_ _) _;refine ax.fD (ax.fD (ax.fD (ax.fD ?_ ?_ _) ?_ _) ?_ _) ?_ _
  ·exact((B0.out.set 0 _).set 1 _).set 2 _
  all_goals (show w.heap.size≠w.heap.size+1;omega)
 have q1:ax W0 (w.heap.size+1) 32 #[.int .i64 2,.slice (some ⟨w1.heap.size,0,none⟩) 3 3,.slice (some ⟨w1.heap.size+1,0,none⟩) 1 1]:=by rw[jO.out];refine ax.alloc (ax.alloc ?_ _) _;refine ax.set (cs:=#[.int .i64 1,.slice (some ⟨w1.heap.size,0,none⟩) 3 3,.slice (some ⟨w1.heap.size+1,0,none⟩) 1 1]) ?_ 0 _;refine ax.set (cs:=#[.int .i64 1,.slice (some ⟨w1.heap.size,0,none⟩) 3 3,.slice none 0 0]) ?_ 2 _;refine ax.set (cs:=#[.int .i64 1,.slice none 0 0,.slice none 0 0]) ?_ 1 _;refine ax.set (cs:=#[.int .i64 0,.slice none 0 0,.slice none 0 0]) ?_ 0 _;refine ax.fD (ax.fD (ax.fD B1.out ?_ _) ?_ _) ?_ _;all_goals (show w.heap.size+1≠w.heap.size;omega)
 have q2:ax W0 w1.heap.size 93 #[.int .i64 0,.int .i64 2,.int .i64 3,.int .i64 2,.int .i64 0,.int .i64 5,.int .i64 6,.int .i64 3,.int .i64 1,.int .i64 4,.int .i64 8,.int .i64 1]:=by rw[jO.out];exact(ax.new nV).alloc _
 have q3:ax W0 (w1.heap.size+1) 95 #[.int .i64 0,.int .i64 2]:=by rw[jO.out];exact ax.new nV
 have g1:au w.heap.size w W0:=gu jO;have g2:Le w.heap.size W0:=fI jO;have c0:=q0.cell (i:=0) rfl;have c1:=q0.cell (i:=1) rfl;have c2:=q0.cell (i:=2) rfl;have d0:=q1.cell (i:=0) rfl;have d1:=q1.cell (i:=1) rfl;have d2:=q1.cell (i:=2) rfl;have k0:=q0.free 0;have k1:=q0.free 1;have k2:=q0.free 2;have k3:=q1.free 0;have k4:=q1.free 1;have k5:=q1.free 2;have j0:=q0.lt;have j1:=q1.lt;have Q2:=qh q2;have Q3:=qh q3;have iM:=qh (show w.heap.size+1<w1.heap.size from l1.out);clear jO q2 q3 q0 q1 c00 c01 c02 xD c11 c12 f00 f01 f02 f10 f11 f12 l0 l1;go_region;all_goals
  go_wp2_with fail;refine bodyPost_ret (v:=.tuple #[cI ⟨some ⟨w1.heap.size,0,none⟩,3,some ⟨w1.heap.size+1,0,none⟩,1⟩ yj,cI ⟨some ⟨w1.heap.size,0,none⟩,3,some ⟨w1.heap.size+1,0,none⟩,1⟩ exM]) ?_ rfl ?_
  ·simp only[results,Tryz.results83];go_simp;simp[yj,exM]
  ·refine⟨⟨some ⟨w1.heap.size,0,none⟩,3,some ⟨w1.heap.size+1,0,none⟩,1⟩,_,rfl,aq,?_⟩;refine QDJ ?_;refine⟨p9 yj.hs (T:=93) (cs:=#[.int .i64 0,.int .i64 2,.int .i64 3,.int .i64 2,.int .i64 0,.int .i64 5,.int .i64 6,.int .i64 3,.int .i64 1,.int .i64 4,.int .i64 8,.int .i64 1]) ?_ (nG rfl) (nG rfl) rfl,p9 yj.ps (T:=95) (cs:=#[.int .i64 0,.int .i64 2]) ?_ (nG rfl) (nG rfl) rfl⟩
   ·refine ax.drew ?_;iterate 6 (refine ax.fD ?_ (by have:=iM.out;first|(show w1.heap.size≠w.heap.size;omega)|(show w1.heap.size≠w.heap.size+1;omega)) _)
    exact Q2.out
   ·refine ax.drew ?_;iterate 6 (refine ax.fD ?_ (by have:=iM.out;first|(show w1.heap.size+1≠w.heap.size;omega)|(show w1.heap.size+1≠w.heap.size+1;omega)) _)
    exact Q3.out
namespace Me
end Me
end
theorem pK{base b i:Nat}{w:nJ}{e:TypeId}{size n:Nat}{v u:nK}{xs:List nK}(h:w.ownsRow base e size v n xs)(hb:b<base):(w.setCell ⟨b,i,none⟩ u).ownsRow base e size v n xs:=ownsRow_setCell_below h (a:=⟨b,i,none⟩) hb u
section
open Me
theorem IS:pF nH 29 93 (.agg #[.int .i64 0,.int .i64 0,.int .i64 0,.int .i64 0]) 4 32:=pF.mk Tryz.underlying29 nP rfl nQ
theorem Dh:pF nH 30 95 (.agg #[.int .i64 0,.int .i64 0]) 2 16:=pF.mk Tryz.underlying30 nP rfl nQ
theorem qw:∀x,∀u∈bB x,u.oneCell'=true:=by intro x u hu;simp[bB] at hu;rcases hu with rfl|rfl|rfl|rfl<;>rfl
theorem Dw:∀x,∀u∈dH x,u.oneCell'=true:=by intro x u hu;simp[dH] at hu;rcases hu with rfl|rfl<;>rfl
theorem Lv:∀x,∀u∈aI x,u.oneCell'=true:=by intro x u hu;simp[aI] at hu;subst hu;rfl
def LK(n:Net)(k:Nat):Bool:=decide (40<n.hs.length)||(decide (40<n.ps.length)||decide (40<k))
def NY(n:Net)(lf:Nat):Bool:=LK n 0||(decide (lf<n.hs.length)&&decide (n.hs.length<=6))
theorem Lz(r:cw)(n:Net)(A:Option Addr)(k c:Nat)(b:Bool)(hb:LK n k=b)(hk:k<=9223372036854775807)(B:Nat)(w:nJ)(hN:bJ B w r n):Calls nH 140 #[cI r n,.slice A k c] w fun e w'=>e=.returned (.bool b)/\∃δ,w'=af w δ:=by subst hb;have l1:=hN.1.len;have l2:=hN.2.len;go_enter Tryz.func140,Tryz.ntmps140;go_wp2;all_goals go_ret;exact⟨bu (by unfold LK;rw[Bool.eq_iff_iff];simp at *;omega),ag⟩
theorem WY(r:cw)(n:Net)(lf:Nat)(hm:lf<=100)(b:Bool)(hb:NY n lf=b)(B:Nat)(w:nJ)(hN:bJ B w r n)[hB:Le B w]:Calls nH 72 #[cI r n,.int .i64 lf] w fun e w'=>e=.returned (.bool b)/\∃δ,w'=af w δ:=by
 subst hb;have l1:=hN.1.len;have l2:=hN.2.len;have HN:=qh hN;clear hN;cases hh:LK n 0 with
 |true=>
  have HH:=qh hh
  clear hh
  go_enter Tryz.func72,Tryz.ntmps72
  go_wp2_with (go_at_call 140;refine(Lz r n none 0 0 _ HH.out nQ B _ HN.out.up).mono ?_;rintro e w1 ⟨rfl,δ,rfl⟩)
  go_ret
  exact⟨bu (by unfold NY;rw[HH.out];rfl),ag⟩
 |false=>
  have HH:=qh hh
  clear hh
  go_enter Tryz.func72,Tryz.ntmps72
  go_wp2_with (go_at_call 140;refine(Lz r n none 0 0 _ HH.out nQ B _ HN.out.up).mono ?_;rintro e w1 ⟨rfl,δ,rfl⟩)
  all_goals go_ret;exact⟨bu (by unfold NY;rw[HH.out,Bool.eq_iff_iff];simp at *;omega),ag⟩
def eN(base:Nat)(w:nJ)(r:cw)(n:Net):Prop:=
 w.ownsRow base 93 4 (.slice r.hA n.hs.length r.hc) n.hs.length (n.hs.flatMap bB) /\
 w.ownsRow base 95 2 (.slice r.pA n.ps.length r.pc) n.ps.length (n.ps.flatMap dH)
section
variable{base:Nat}{w:nJ}{r:cw}{n:Net}
theorem eN.mono(h:eN base w r n){base':Nat}(hb:base'<=base):eN base' w r n:=⟨de h.1 hb,de h.2 hb⟩
theorem eN.set(h:eN base w r n){b i:Nat}(hb:b<base)(u:nK):eN base (w.setCell ⟨b,i,none⟩ u) r n:=⟨pK h.1 hb,pK h.2 hb⟩
theorem eN.alloc(h:eN base w r n)(o:Obj):eN base (w.alloc o) r n:=⟨h.1.alloc o,h.2.alloc o⟩
theorem eN.up(h:eN base w r n){W:nJ}[hg:au w.heap.size w W]:eN base W r n:=⟨bg h.1,bg h.2⟩
end
theorem qj{P:Program}(W1:nJ){W:nJ}{ops:Array Oper}{o:Oper}{a:Act}{K:Act->nJ->Prop}{Q:Exit->Act->nJ->Prop}{E:Prop}{t e:TypeId}{z:nK}{size bytes:Nat}(hT:pF P t e z size bytes)(s x:Operand)(hgd:o.guard=none)(ho:o.op=.call { callee:=.builtin .append,args:=#[s,x],argTypes:=#[t,t] }){v:nK}(hown:W.ownsRow W1.heap.size e size v 0 [])(hs:a.eval s=v){B m c:Nat}{A:Option Addr}{news:List nK}(hx:a.eval x=.slice A m c)(hr:Cells W B A news)(hl:news.length=m*size)(h1:∀u∈news,u.oneCell'=true)(h63:m<=4000000)(hbytes:bytes<=1000)[hbase:Le W1.heap.size W](h:∀A' c' δ,(ez W1.heap.size W δ).ownsRow W1.heap.size e size (.slice A' m c') m news->W.grownBy (ez W1.heap.size W δ) v.ownBlock->W.ownsRow W1.heap.size e size v 0 []->K (a.put o.dst (.slice A' m c')) (ez W1.heap.size W δ)):if Region.wanted o (yielded ops a.tmps)=true then Oper.wp P o a W K Q else E:=
 fG W1 hT s x hgd ho hown hs hx hr hl h1 h63 hbytes fun A' c' δ h2 h3=>h A' c' δ h2 h3 hown
theorem Du{w w':nJ}{base g n n' c' size size':Nat}{e e':TypeId}{v:nK}{xs xs':List nK}(h:w.ownsRow base e size v n xs)(hg:w.grownBy w' (Value.slice (some ⟨g,0,none⟩) n' c').ownBlock)(h':w.ownsRow base e' size' (.slice (some ⟨g,0,none⟩) n' c') n' xs')(hne:e≠e'):w'.ownsRow base e size v n xs:=
 h.kept hg (.inr (Dv h h' hne))
theorem vK{W W':nJ}{base e s g g':Nat}(h:W.ownsRow base e s (.slice (some ⟨g,0,none⟩) 0 0) 0 [])(YM:W.grownBy W' (Value.slice (some ⟨g',0,none⟩) 0 0).ownBlock)(hne:g≠g'):W'.ownsRow base e s (.slice (some ⟨g,0,none⟩) 0 0) 0 []:=
 h.kept YM (.inr fun he=>hne (Option.some.inj he))
theorem LC{W1:nJ}{e1 e2 s g:Nat}(hg:g=W1.heap.size):((W1.alloc (.cells #[] e1)).alloc (.cells #[] e2)).drew.ownsRow W1.heap.size e1 s (.slice (some ⟨g,0,none⟩) 0 0) 0 []:=by subst hg;exact(cB (nR _) rfl).alloc _
theorem LB{W1:nJ}{e1 e2 s g:Nat}(hg:g=W1.heap.size+1):((W1.alloc (.cells #[] e1)).alloc (.cells #[] e2)).drew.ownsRow W1.heap.size e2 s (.slice (some ⟨g,0,none⟩) 0 0) 0 []:=by have h:(W1.alloc (.cells #[] e1)).heap.size=W1.heap.size+1:=nW;exact cB (W:=W1.alloc (.cells #[] e1)) nQ nQ
theorem oN{n:Nat}:n≠n+1:=by omega
theorem EO{n:Nat}:n+1≠n:=by omega
theorem TZ(r:cw)(n:Net)(B:Nat)(w:nJ)[hB:Le B w](h:bJ B w r n)(q1:n.hs.length<=1000)(q2:n.ps.length<=1000):Calls nH 40 #[cI r n] w fun e w'=>∃(r':cw) (δ:nJ),e=.returned (cI r' n)/\w'=af w δ/\eN w.heap.size (af w δ) r' n:=by
 go_enter Tryz.func40,Tryz.ntmps40;have H:=qh h;clear h;go_upto_region 1 with fail;refine QCD ?_;intro W1 aH cJ dF cU dA dD eI;refine QDL ?_;intro mV kR mG;have jE:W1.cell? ⟨w.heap.size+1,0,none⟩=some (.int .i64 0):=by rw[aH.out];go_simp
 have mR:W1.cell? ⟨w.heap.size+1,1,none⟩=some (.slice none 0 0):=by rw[aH.out];go_simp
 have mQ:W1.cell? ⟨w.heap.size+1,2,none⟩=some (.slice none 0 0):=by rw[aH.out];go_simp
 have fw13:W1.frozen? ⟨w.heap.size+1,0,none⟩=false:=by rw[aH.out];go_simp
 have fw14:W1.frozen? ⟨w.heap.size+1,1,none⟩=false:=by rw[aH.out];go_simp
 have fw15:W1.frozen? ⟨w.heap.size+1,2,none⟩=false:=by rw[aH.out];go_simp
 clear aH;go_region_held3 (fun W=>W.cell? ⟨w.heap.size,0,none⟩=some (.int .i64 n.m)/\W.cell? ⟨w.heap.size,1,none⟩=some (.slice r.hA n.hs.length r.hc)/\W.cell? ⟨w.heap.size,2,none⟩=some (.slice r.pA n.ps.length r.pc))
  (refine⟨?_,?_,?_⟩<;>go_simp)
  (first|(refine qj W1 IS (.tmp 5) (.tmp 7) rfl rfl (v:=.slice (some ⟨_,0,none⟩) 0 0) (by first|exact cB (by go_simp;done) (by go_simp;done)|exact(cB (by go_simp;done) (by go_simp;done)).alloc _|exact vK (LC rfl) mU oN|exact vK (LB rfl) mU EO) rfl (B:=B) (A:=r.hA) (m:=n.hs.length) (c:=r.hc) (news:=n.hs.flatMap bB) rfl (H.out.up.1.2.2) (bX bB 4 (fun _=>rfl) _) (ei bB qw _) nQ nQ ?_;intro A1 c1 δ1 eF hg1 hl1;try have p2:=(by first|exact Du iE hg1 hl1 nU|exact Du (iE.alloc _) hg1 hl1 nU))|(refine qj W1 Dh (.tmp 9) (.tmp 11) rfl rfl (v:=.slice (some ⟨_,0,none⟩) 0 0) (by first|exact cB (by go_simp;done) (by go_simp;done)|exact(cB (by go_simp;done) (by go_simp;done)).alloc _|exact vK (LC rfl) hg1 oN|exact vK (LB rfl) hg1 EO) rfl (B:=B) (A:=r.pA) (m:=n.ps.length) (c:=r.pc) (news:=n.ps.flatMap dH) rfl (H.out.up.2.2.2) (bX dH 2 (fun _=>rfl) _) (ei dH Dw _) nQ nQ ?_;intro A2 c2 δ2 iE mU JY;try have p1:=(by first|exact Du eF mU JY nU|exact Du (eF.alloc _) mU JY nU)))
 all_goals try have p3:=(And.intro eF p2:eN W1.heap.size _ ⟨A1,c1,A2,c2⟩ n)
 all_goals try have p3:=(And.intro p1 iE:eN W1.heap.size _ ⟨A1,c1,A2,c2⟩ n)
 go_goals
 all_goals
  go_wp2;refine bodyPost_ret (v:=cI ⟨A1,c1,A2,c2⟩ n) ?_ rfl ?_
  ·simp only[results,Tryz.results40];go_simp
  ·refine⟨⟨A1,c1,A2,c2⟩,rfl,_,aq,?_⟩;refine QDJ ?_;refine eN.mono (base:=W1.heap.size) ?_ cU.out;iterate 3 (refine eN.set ?_ eI.out _)
   exact p3
end
end Go.Proofs.YtdmedlkonaclnaaGreatDoor
