/- A part of the proof that the statement HeadmanRunCardSaid holds, cut small by a program (names and blanks): Hm3, Hm4, Hm5. -/
import Derived.Outline
import Derived.Deep.DeepCutAuto
import Derived.OrdersIn
import Derived.Test.YtcjjlikhlmfedaaGreatDoorZ7
set_option maxRecDepth 100000
set_option maxHeartbeats 40000000
set_option linter.unusedVariables false
set_option linter.unusedSimpArgs false
namespace Go.Proofs.YtcjjlikhlmfedaaGreatDoor
open Go.RowKit
open Nat renaming lt_of_lt_of_le → nL, le_refl → nR, zero_le → nE, le_of_ble_eq_true → nG
open Go.Proofs.Tryz renaming prog → nH
open Go renaming World → nJ, Value → nK
section
open Me
section
attribute[local go_sem] Oper.semAt_some
theorem Tt(r:cw)(n:Net)(h6:n.hs.length<=6)(B:Nat)(w:nJ)(hN:bG B w r n)[hB:Le B w]:Calls nH 53 #[cD r n] w fun e w'=>e=.returned (.bool (qN n))/\∃δ,w'=af w δ:=by
 have HN:=qh hN;clear hN;refine nc Tryz.func53 rfl ?_;simp only[Tryz.ntmps53,List.size_toArray,List.length_cons,List.length_nil,Nat.reduceAdd,Nat.reduceSub,Array.replicate_succ,Array.replicate_zero,List.push_toArray,List.append_toArray,List.nil_append,List.cons_append];go_wp2_with (go_at_call 102;refine(Dg n r _).mono ?_;rintro e w1 ⟨rfl,rfl⟩);refine aK fun W0 jh=>?_;obtain⟨cz,de,cN,cY,dc,dX⟩:=Cm B w jh;have jP:Lt (w.heap.size+1+1) W0:=mb jh;have jU:W0.cell? ⟨w.heap.size+1+1,0,none⟩=some (.int .i64 n.m):=by rw[jh.out];go_simp
 have kM:W0.cell? ⟨w.heap.size+1+1,1,none⟩=some (.slice r.hA n.hs.length r.hc):=by rw[jh.out];go_simp
 have iY:W0.cell? ⟨w.heap.size+1+1,2,none⟩=some (.slice r.pA n.ps.length r.pc):=by rw[jh.out];go_simp
 have X0:av W0 (w.heap.size+1) 4 #[.bool false]:=by rw[jh.out];exact(av.new nV).alloc _
 have hz:W0.heap.size=w.heap.size+3:=by rw[jh.out];simp
 have HZ:=qh hz;have HX:=qh X0;have hBw:=hB.out;clear jh hz X0;refine Iz n r B (w.heap.size+1+1) rfl h6 HN.out.up (by have:=HZ.out;omega) (by have:=HZ.out;omega) nZ nZ nZ
  (fun b=>b=w.heap.size+1) (by rintro b rfl;have:=HZ.out;omega)
  (fun pre W=>pre=[]/\av W (w.heap.size+1) 4 #[.bool false]) (fun c pre W=>c=.ret/\av W (w.heap.size+1) 4 #[.bool true])
  (by rintro pre W W' ⟨h1,h2⟩ hk;exact⟨h1,h2.eG hk (wP (by have:=HZ.out;omega))⟩) (by rintro c pre W W' ⟨h1,h2⟩ hk;exact⟨h1,h2.eG hk (wP (by have:=HZ.out;omega))⟩)
  ⟨rfl,HX.out⟩ (fun v=>{ tmps:=#[cD r n,.pointer (some ⟨w.heap.size,0,none⟩),.pointer (some ⟨w.heap.size+1,0,none⟩),.agg #[.int .i64 n.m,.slice r.hA n.hs.length r.hc,.slice r.pA n.ps.length r.pc],.func (.func 149) #[] #[.pointer (some ⟨w.heap.size+1+1,0,none⟩)],v],defers:=[] }) ?assign ?body ?done ?stop
 case assign=>intro l m v W K hK;gi_wp2;simpa using hK
 case body=>rintro l m pre x v W hpre ⟨hp,hx⟩ hl hk hs;have h1:=hx.cell (i:=0) rfl;have h2:=hx.free 0;gi_wp2;exact⟨(bw.refl _ _).set (S:=fun b=>b=w.heap.size+1) rfl _ _,rfl,hx.set 0 _⟩
 case done=>
  rintro W ⟨hp,hx⟩ hk hD;have h1:=hx.cell (i:=0) rfl;have h2:=hx.free 0;have hlt:=hx.lt;have HK:=qh hk;have HD:=qh hD;have HP:=qh hp;clear hk hD hp;go_wp2_with fail;have hx2:av ((W.setCell ⟨w.heap.size+1,0,none⟩ (.bool false)).putObj W0.heap.size (.deferred none)) (w.heap.size+1) 4 #[.bool false]:=(hx.set 0 (.bool false)).put (by have:=HZ.out;omega) _;have h3:=hx2.cell (i:=0) rfl;have e:qN n=false:=by unfold qN;rw[HP.out];rfl
  rw[e];refine mK (v:=.bool false) ?_ ?_ ⟨rfl,eU ((HK.out.set (b:=w.heap.size+1) (.inl rfl) _ _).putObj (.inr (.inl rfl)) _) ?_⟩
  ·exact(Below.heap_setCell W ⟨w.heap.size+1,0,none⟩ _ _ (by have:=HZ.out;show W0.heap.size≠w.heap.size+1;omega)).trans HD.out
  ·simp only[results,Tryz.results53];go_simp
  ·rintro b (h|h|h)<;>(have:=HZ.out;omega)
 case stop=>
  rintro c pre W hpre VO ⟨rfl,hx⟩ hk hD;have h1:=hx.cell (i:=0) rfl;have HK:=qh hk;have HD:=qh hD;clear hk hD;go_wp2_with fail;have hx2:av (W.putObj W0.heap.size (.deferred none)) (w.heap.size+1) 4 #[.bool true]:=hx.put (by have:=HZ.out;omega) _;have h3:=hx2.cell (i:=0) rfl;have e:qN n=true:=by
   unfold qN;cases hl:gj n with
   |nil=>rw[hl] at hpre;exact absurd (List.prefix_nil.1 hpre) VO
   |cons=>rfl
  rw[e];refine mK (v:=.bool true) HD.out ?_ ⟨rfl,eU (HK.out.putObj (.inr (.inl rfl)) _) ?_⟩
  ·simp only[results,Tryz.results53];go_simp
  ·rintro b (h|h|h)<;>(have:=HZ.out;omega)
end
end
section
open Me
theorem Dv(r:cw)(n:Net)(B:Nat)(w:nJ)(h:bG B w r n)[hB:Le B w]:Calls nH 20 #[cD r n] w fun e w'=>e=.returned (.int .i64 (cE (valid n) 40))/\∃δ,w'=af w δ:=by have l1:=h.1.len;have l2:=h.2.len;go_enter Tryz.func20,Tryz.ntmps20;go_wp2_with (first|(go_at_call 48;refine(uF _ _ _ _).mono ?_;rintro e w1 ⟨rfl,rfl⟩)|(go_at_call 49;go_in)|(go_at_call 51;go_in)|(go_at_call 100;refine(Bw r.hA _ r.hc n.hs B _ h.1.up rfl).mono ?_;rintro e w1 ⟨⟨k,rfl,hk⟩,δ,rfl⟩)|(go_at_call 101;refine(GK r n w.heap.size _ r.pA _ r.pc n.ps B _ h.2.up rfl l1 nW nW).mono ?_;rintro e w1 ⟨⟨k2,rfl,hk2⟩,δ2,rfl⟩)|(go_at_call 53;refine(Tt r n nQ B _ h.up).mono ?_;rintro e w1 ⟨rfl,δ3,rfl⟩));all_goals go_ret;refine⟨cB ?_,ag⟩;go_light;have hv:=@az n;have hw:=@cZ 1 3 n.m;grind [cE]
end
section
open Me
def gd(W:nJ)(g:Nat)(xs:List Int):Prop:=av W g 3 (xs.map (Value.int .i64)).toArray
section
variable{W:nJ}{g:Nat}{xs:List Int}
theorem gd.cell(h:gd W g xs){k:Nat}(hk:k<xs.length):W.cell? ⟨g,k,none⟩=some (.int .i64 (nth xs k)):=
 av.cell h (by rw[List.getElem?_toArray,List.getElem?_map,List.getElem?_eq_getElem hk,bV _ hk];rfl)
theorem gd.free(h:gd W g xs)(i:Nat):W.frozen? ⟨g,i,none⟩=false:=av.free h i
theorem gd.lt(h:gd W g xs):Lt g W:=av.lt h
theorem gd.set(h:gd W g xs)(k:Nat)(v:Int):gd (W.setCell ⟨g,k,none⟩ (.int .i64 v)) g (xs.set k v):=by have:=av.set h k (.int .i64 v);unfold gd;rwa [List.map_set,<-List.setIfInBounds_toArray]
theorem gd.alloc(h:gd W g xs)(o:Obj):gd (W.alloc o) g xs:=av.alloc h o
theorem gd.af(h:gd W g xs)(δ:nJ):gd (af W δ) g xs:=av.af h δ
theorem gd.drew(h:gd W g xs):gd W.drew g xs:=h
theorem gd.eZ(h:gd W g xs){p:Addr}(hp:g≠p.block)(u:nK):gd (W.setCell p u) g xs:=av.eZ h hp u
theorem gd.sl(h:gd W g xs)(hl:xs.length<=1000):Sl aH W.heap.size W (some ⟨g,0,none⟩) xs.length xs:=by
 refine⟨nR _,nQ,fun _=>⟨g,0,rfl,h.lt.out,fun j v hj=>?_⟩⟩;have hlen:=tT xs;have hj':j<xs.length:=by have:=(List.getElem?_eq_some_iff.1 hj).1;omega
 have:=fL aH 1 (fun _=>rfl) xs j 0 hj' nQ;rw[Nat.mul_one,Nat.add_zero] at this;rw[this] at hj;simp only[aH] at hj;simp at hj;subst hj;rw[Nat.zero_add];exact h.cell hj'
end
def RG(n:Net)(r:cw)(w:nJ)(T:TypeId)(gF gO bp:Nat)(l:List Int)(k:Nat)(wr:nJ):Prop:=
 gd wr gF (run n (l.take k)).1/\gd wr gO (run n (l.take k)).2/\av wr bp T #[.int .i64 n.m,.slice r.hA n.hs.length r.hc,.slice r.pA n.ps.length r.pc]/\aC w.heap.size w wr/\Le w.heap.size wr
def Uq(n:Net)(r:cw)(w:nJ)(m:Nat)(T:TypeId)(l:List Int)(s5 s6:nK)(wx:nJ):Prop:=
 ∃gF gO,s5=.slice (some ⟨gF,0,none⟩) m m/\s6=.slice (some ⟨gO,0,none⟩) n.hs.length n.hs.length/\gF≠gO/\w.heap.size<gF/\w.heap.size<gO/\RG n r w T gF gO w.heap.size l 0 wx
theorem tQ(k:Nat):jo (.int .i64 0) 1 k=((List.replicate k (0:Int)).map (Value.int .i64)).toArray:=by rw[tR k undef,List.map_replicate,List.toArray_replicate]
theorem uI{n:Net}{r:cw}{w wx:nJ}{m gF gO bp:Nat}{T:TypeId}{l:List Int}(hm:n.m=(m:Int))(h1:av wx gF 3 (jo (.int .i64 0) 1 m))(h2:av wx gO 3 (jo (.int .i64 0) 1 n.hs.length))(h3:av wx bp T #[.int .i64 (m:Int),.slice r.hA n.hs.length r.hc,.slice r.pA n.ps.length r.pc])(g1:aC w.heap.size w wx)(g2:Le w.heap.size wx):RG n r w T gF gO bp l 0 wx:=by
 refine⟨?_,?_,by rw[hm];exact h3,g1,g2⟩
 ·rw[tQ] at h1;unfold gd;have:(run n (l.take 0)).1=List.replicate m 0:=by show List.replicate n.m.toNat 0=_;rw[hm];rfl
  rw[this];exact h1
 ·rw[tQ] at h2;exact h2
theorem PT(r:cw)(n:Net)(A:Option Addr)(c:Nat)(l:List Int)(B:Nat)(w:nJ)[hB:Le B w](hS:Sl aH B w A c l)(hN:bG B w r n)(hm:1<=n.m/\n.m<=3)(h6:n.hs.length<=6)(h8:n.ps.length<=8)(hv:eM n.hs=true)(Xr:mM n.hs.length n.ps=true)(hl:vb n l)(LU:l.length<=6):Calls nH 250 #[cD r n,.slice A l.length c] w fun e w'=>∃(A':Option Addr) (c':Nat) (δ:nJ),e=.returned (.slice A' (times n l).length c')/\w'=af w δ/\Sl aH (af w δ).heap.size (af w δ) A' c' (times n l)/\(∀p,A'=some p->w.heap.size<=p.block):=by
 obtain⟨m,hmm⟩:∃m:Nat,n.m=m:=⟨n.m.toNat,nQ⟩;refine QDG ?_;intro VS qM HM eV hmk TP HS HN HV WM HL hlc;clear hS hN hm hv Xr hl hmm eV;go_enter Tryz.func250,Tryz.ntmps250;go_wp2_with fail;go_cut [5,6] (fun s5 s6 wx=>Uq n r w m 112 l s5 s6 wx);case first=>
  go_region;all_goals
   go_wp2_with fail;go_meet;first
    |exact⟨w.heap.size+1,w.heap.size+1+1,rfl,rfl,nQ,nQ,nQ,uI HM.out ((av.new nV).alloc _) (av.new nV) (((av.new rfl).alloc _).alloc _) inferInstance inferInstance⟩
    |exact⟨w.heap.size+1+1,w.heap.size+1,rfl,rfl,nQ,nQ,nQ,uI HM.out (av.new nV) ((av.new nV).alloc _) (((av.new rfl).alloc _).alloc _) inferInstance inferInstance⟩
 case rest=>
  obtain⟨gF,gO,rfl,rfl,hne,hg1,kC,hI⟩:=hcut;have Ch:=qh (And.intro hne (And.intro hg1 kC));have HI:=qh hI;clear hI;go_wp2_with fail;go_loopg [26] l.length (fun g i wr=>∃k:Nat,k<=l.length/\g=l.length-k/\i=.int .i64 k/\RG n r w 112 gF gO w.heap.size l k wr)
  case atStart=>exact⟨0,nE _,rfl,rfl,HI.out⟩
  case round=>
   clear HI;obtain⟨k,hk,rfl,rfl,hF,hO,hP,g1,g2⟩:=hrel;have p1:=hP.cell (i:=1) rfl;have p2:=hP.cell (i:=2) rfl;have ip:=hP.lt;have iF:=hF.lt;have iO:=hO.lt;by_cases hlt:k<l.length
   ·obtain⟨b,o,rfl,hb,hc⟩:=HS.out.int hlt;have KR:b<w.heap.size:=nL hb hB.out;have UR:=(bz g1.out b _ KR).trans hc;have ib:Lt b wr:=⟨nL KR g2.out⟩;have hx:=HL.out (nth l k) (aS l hlt);obtain⟨x,hh⟩:∃x:Nat,nth l k=x:=⟨(nth l k).toNat,by have:=hx.1;omega⟩;rw[hh] at UR;have wI:x<n.hs.length:=by have:=hx.2;omega
    obtain⟨bh,oh,GY,So,d0,d1,d2,d3⟩:=HN.out.1.hole wI;have xY:bh<w.heap.size:=nL So hB.out;have e0:=(bz g1.out bh _ xY).trans d0;have e3:=(bz g1.out bh _ xY).trans d3;have ibh:Lt bh wr:=⟨nL xY g2.out⟩;obtain⟨rhA,rhc,rpA,rpc⟩:=r;have GY:rhA=some ⟨bh,oh,none⟩:=GY;subst GY;have hki:(k:Int)<(l.length:Int):=nQ;have hk0:¬(k:Int)<0:=nQ;have Z7:(x:Int)<(n.hs.length:Int):=nQ;have hx0:¬(x:Int)<0:=nQ;obtain⟨lF,lO⟩:=oQ n (l.take k);obtain⟨bF,bO⟩:=FE HV.out (l.take k) (fun y hy=>HL.out y (List.mem_of_mem_take hy));have hT:(l.take k).length<=6:=by rw[List.length_take];omega
    have Jh:=uU HV.out (show isHole n (nth l k) from hx) bF bO nQ;have hrun:=wY n (l.take k) (nth l k);rw[<-bu l hlt,hh] at hrun;rw[hh] at Jh;obtain⟨F,O,hs⟩:∃F O,run n (l.take k)=(F,O):=⟨_,_,rfl⟩;rw[hs] at hF hO lF lO bF bO Jh hrun;refine QFJ ?_;intro lF lO bF bO W8 Iu HH;have HF:Hid (gd wr gF F):=hF;have HO:Hid (gd wr gO O):=hO;have Sz:=qh hP;have LF:=qh lF;have LO:=qh lO;have BF:=qh bF;have BO:=qh bO;have HK:=qh (And.intro hk hlt);clear Jh hrun hh hF hO hP hs lF lO bF bO hx hk hlt hc d0 d1 d2 d3;go_wp2_with fail;go_loopg [9,32] m (fun g s9 s32 wr'=>∃j:Nat,j<=m/\g=m-j/\s32=.int .i64 j/\s9=.int .i64 (je F j)/\wr'=wr)
    case atStart=>exact⟨0,nE _,rfl,rfl,rfl,rfl⟩
    case round=>
     obtain⟨j,hj,rfl,rfl,rfl,rfl⟩:=hrel;have hown:je F j<m:=by
      rcases Nat.eq_zero_or_pos j with rfl|hj0
      ·show 0<m;omega
      ·have:=IX (free:=F) hj0;omega
     by_cases hlt:j<m
     ·have f1:=HF.out.cell (k:=j) (by rw[LF.out];exact hlt);have f2:=HF.out.cell (k:=je F j) (by rw[LF.out];exact hown);have hji:(j:Int)<(m:Int):=nQ;have hj0:¬(j:Int)<0:=nQ;have TM:(je F j:Int)<(m:Int):=nQ;have TN:¬(je F j:Int)<0:=nQ;by_cases hc:nth F j<nth F (je F j)
      ·have HE:=qh (show je F (j+1)=j by unfold je;rw[if_pos hc]);go_wp2_with fail;go_roundg (m-(j+1))
       case measure=>omega
       case rel=>exact⟨j+1,hlt,rfl,by go_num,by rw[HE.out],rfl⟩
      ·have HE:=qh (show je F (j+1)=je F j by rw[je,if_neg hc]);go_wp2_with fail;go_roundg (m-(j+1))
       case measure=>omega
       case rel=>exact⟨j+1,hlt,rfl,by go_num,by rw[HE.out],rfl⟩
     ·obtain rfl:j=m:=by omega
      refine QEU ?_;intro zb f2 TM TN q hq;rw[hq] at f2 TM TN zb;have Xq:q<j:=by rw[<-hq];exact hown
      clear hown;rw[hq];clear hq;go_wp2_with fail;go_region;refine QEZ ?_;intro b0 hb0 PL;clear hb0;go_wp2_with fail;go_loopg [12,61] n.ps.length (fun g s12 s61 wr'=>∃(i:Nat) (δ:nJ),i<=n.ps.length/\g=n.ps.length-i/\s61=.int .i64 i/\s12=.int .i64 (jG n.ps O x b0 i)/\wr'=af wr δ)
      case atStart=>exact⟨0,wr.drew,nE _,rfl,rfl,rfl,Eg wr⟩
      case round=>
       obtain⟨i,δ,hi,rfl,rfl,rfl,rfl⟩:=hrel;by_cases hlt:i<n.ps.length
       ·obtain⟨bp,op,T7,yZ,c0,c1⟩:=HN.out.2.pr hlt;have GV:bp<w.heap.size:=nL yZ hB.out;have k0:=(bz g1.out bp _ GV).trans c0;have k1:=(bz g1.out bp _ GV).trans c1;have ibp:Lt bp wr:=⟨nL GV g2.out⟩;have T7:rpA=some ⟨bp,op,none⟩:=T7;subst T7;have hok:=mN.1 (Dl WM.out hlt);obtain⟨a,ha⟩:∃a:Nat,(nth n.ps i).a=a:=⟨(nth n.ps i).a.toNat,nQ⟩;rw[ha] at k0;have hal:a<n.hs.length:=nQ;have z0:=HO.out.cell (k:=a) (by rw[LO.out];exact hal);have hai:(a:Int)<(n.hs.length:Int):=nQ;have ha0:¬(a:Int)<0:=nQ;have KP:(i:Int)<(n.ps.length:Int):=nQ;have hi0:¬(i:Int)<0:=nQ;by_cases iA:(nth n.ps i).b=x
        ·have TX:((nth n.ps i).b==(x:Int))=true:=by simpa using iA
         by_cases Jg:jG n.ps O x b0 i<nth O a
         ·have HE:=qh (show jG n.ps O x b0 (i+1)=nth O a by
           rw[jG,if_pos iA,ha];simp only[Int.toNat_natCast];omega)
          have gV:=qh hlt;clear iA hok ha c0 c1 hlt;go_wp2_with fail;go_roundg (n.ps.length-(i+1))
          case measure=>have:=gV.out;omega
          case rel=>exact⟨i+1,_,gV.out,rfl,by go_num,by rw[HE.out],aq⟩
         ·have HE:=qh (show jG n.ps O x b0 (i+1)=jG n.ps O x b0 i by
           rw[jG,if_pos iA,ha];simp only[Int.toNat_natCast];omega)
          have gV:=qh hlt;clear iA hok ha c0 c1 hlt;go_wp2_with fail;go_roundg (n.ps.length-(i+1))
          case measure=>have:=gV.out;omega
          case rel=>exact⟨i+1,_,gV.out,rfl,by go_num,by rw[HE.out],aq⟩
        ·have TX:((nth n.ps i).b==(x:Int))=false:=by simpa using iA
         have HE:=qh (show jG n.ps O x b0 (i+1)=jG n.ps O x b0 i by rw[jG,if_neg iA]);have gV:=qh hlt;clear iA hok ha c0 c1 hlt;go_wp2_with fail;go_roundg (n.ps.length-(i+1))
         case measure=>have:=gV.out;omega
         case rel=>exact⟨i+1,_,gV.out,rfl,by go_num,by rw[HE.out],aq⟩
       ·obtain rfl:i=n.ps.length:=by omega
        have qM:=W8.out;have hh:=gC.1 (iG HV.out wI);unfold gW at qM;simp only[Int.toNat_natCast,PL.out] at qM;obtain⟨be,TZ⟩:∃be,jG n.ps O x b0 n.ps.length=be:=⟨_,rfl⟩;rw[TZ] at qM;refine QEO ?_;intro Pq y1 y2 y3 y4;have z0:=HO.out.cell (k:=x) (by rw[LO.out];exact wI);have zf:=HO.out.free x;have zg:=HF.out.free q;have n1:pI gO gF:=⟨by have:=Ch.out;omega⟩;have n2:pI gF gO:=⟨by have:=Ch.out;omega⟩;have n3:pI gO w.heap.size:=⟨by have:=Ch.out;omega⟩;have n4:mw w.heap.size gO:=⟨by have:=Ch.out;omega⟩;have n5:mw w.heap.size gF:=⟨by have:=Ch.out;omega⟩;clear TZ qM hh;go_upto_region 20 with fail;refine aK fun W3 bN=>?_;have o3:gd W3 gO (O.set x (be+(nth n.hs x).hr)):=by rw[bN.out];exact(HO.out.af _).set _ _
        have f3:gd W3 gF F:=by rw[bN.out];exact(HF.out.af _).eZ (by have:=Ch.out;exact fun e=>this.1 e) _
        have b3:av W3 w.heap.size 112 #[.int .i64 n.m,.slice (some ⟨bh,oh,none⟩) n.hs.length rhc,.slice rpA n.ps.length rpc]:=by rw[bN.out];exact(Sz.out.af _).eZ (by have:=Ch.out;show w.heap.size≠gO;omega) _
        have g3:aC w.heap.size w W3:=iC bN;have g4:Le w.heap.size W3:=fR bN;have x1:=o3.cell (k:=x) (by rw[List.length_set,LO.out];exact wI);rw[pT _ (by rw[LO.out];exact wI)] at x1;have x2:=f3.cell (k:=q) (by rw[LF.out];exact Xq);have x3:=f3.free q;have x4:=f3.lt;have O3:=qh o3;have F3:=qh f3;have B3:=qh b3;clear bN o3 f3 b3;go_wp2_with fail;go_roundg (l.length-(k+1))
        case measure=>have:=HK.out;omega
        case rel=>
         refine⟨k+1,HK.out.2,rfl,by go_num,?_,?_,B3.out.eZ (by have:=Ch.out;show w.heap.size≠gF;omega) _,inferInstance,inferInstance⟩
         ·rw[Iu.out];show gd _ gF (F.set (own F) (gW n (F,O) x));rw[zb.out,Pq.out];exact F3.out.set _ _
         ·rw[Iu.out];show gd _ gO (O.set (x:Int).toNat (gW n (F,O) x));rw[Pq.out,Int.toNat_natCast];exact O3.out.eZ (by have:=Ch.out;exact fun e=>this.1 e.symm) _
   ·obtain rfl:k=l.length:=by omega
    have hlen:=jK n l;have vX:=hO.sl (by rw[(oQ n _).2];omega);rw[List.take_length] at vX;have vX:Sl aH wr.heap.size wr (some ⟨gO,0,none⟩) (times n l).length (times n l):=vX;rw[hlen] at vX;have LJ:=qh vX;have UE:=qh hlen;clear vX hlen hF hO hP;go_wp2_with fail;go_ret;refine⟨some ⟨gO,0,none⟩,n.hs.length,wr,by rw[UE.out];rfl,aq,?_,fun p hp=>by cases hp;have:=Ch.out;show w.heap.size<=gO;omega⟩;rw[<-aq (w:=w) (W:=wr)];exact LJ.out
end
section
open Me
theorem jN{n:Net}(h:valid n=true):(1<=n.m/\n.m<=3)/\n.hs.length<=6/\n.ps.length<=8/\eM n.hs=true/\mM n.hs.length n.ps=true:=by obtain⟨a,b,c,d,e,_⟩:=az.1 h;exact⟨a,b,c,d,e⟩
theorem ID(r:cw)(n:Net)(A:Option Addr)(c ln:Nat)(l:List Int)(B:Nat)(w:nJ)[hB:Le B w](hS:Sl aH B w A c l)(hN:bG B w r n)(hv:valid n=true)(hl:fA n l=true)(gG:l.length=ln):Calls nH 250 #[cD r n,.slice A ln c] w fun e w'=>∃(A':Option Addr) (c':Nat) (δ:nJ),e=.returned (.slice A' n.hs.length c')/\w'=af w δ/\Hid (Sl aH (af w δ).heap.size (af w δ) A' c' (times n l))/\Hid (∀p,A'=some p->w.heap.size<=p.block):=by subst gG;obtain⟨a,b,c',d,e⟩:=jN hv;refine(PT r n A c l B w hS hN a b c' d e (mD hl) (by rw[iV hl];exact b)).mono ?_;rintro e w' ⟨A',c',δ,rfl,rfl,h1,h2⟩;exact⟨A',c',δ,by rw[jK],rfl,h1,h2⟩
theorem uj{n:Net}(hv:eM n.hs=true):jT 20 (jQ n)/\jT 20 (Bp n):=by
 constructor;all_goals
  intro j;rcases Nat.lt_or_ge j n.hs.length with h|h
  ·first|rw[rz h]|rw[Dp h]
   have:=gC.1 (iG hv h);omega
  ·have e:∀xs:List Int,xs.length<=j->nth xs j=0:=fun xs hx=>by unfold nth List.getD;rw[List.getElem?_eq_none hx];rfl
   rw[e _ (by simp[jQ,Bp];exact h)];omega
theorem wF{n:Net}(hv:valid n=true){l:List Int}(hl:fA n l=true){rt:List Int}(hr:jT 20 rt)(k:Nat)(hk:k<=n.hs.length):-10000<=jq n.hs (times n l) rt k/\jq n.hs (times n l) rt k<=10000:=by have h6:=(jN hv).2.1;have:=Nn (jN hv).2.2.2.1 (sY hv hl) hr k hk nQ;omega
theorem M9{a b:Int}(h0:0<=a)(h1:a<=20)(h2:-100<=b)(h3:b<=100):-2000<=a*b/\a*b<=2000:=by have e1:=Int.mul_le_mul_of_nonneg_left h3 h0;have e2:=Int.mul_le_mul_of_nonneg_left h2 h0;constructor<;>omega
theorem Tv(r:cw)(n:Net)(A:Option Addr)(c ln:Nat)(l:List Int)(B:Nat)(w:nJ)[hB:Le B w](hS:Sl aH B w A c l)(hN:bG B w r n)(hv:valid n=true)(hl:fA n l=true)(gG:l.length=ln):Calls nH 249 #[cD r n,.slice A ln c] w fun e w'=>e=.returned (.agg #[.int .i64 (jE n l (Bp n)),.int .i64 (dW n l)])/\∃δ,w'=af w δ:=by
 have HS:=qh hS;have HN:=qh hN;have HV:=qh hv;have HO:=qh hl;have mG:=qh gG;have h6:=(jN hv).2.1;clear hS hN hv hl gG;go_enter Tryz.func249,Tryz.ntmps249;go_wp2_with (go_at_call 250;refine(ID r n _ _ _ l B _ HS.out.up HN.out.up HV.out HO.out mG.out).mono ?_;rintro e w1 ⟨A',c',δ,rfl,rfl,hT,XA⟩);refine aK fun W1 aE=>?_;obtain⟨cz,de,cN,cY,dc,dX⟩:=Cm B w aE;have bx:av W1 (w.heap.size+1) 23 #[.int .i64 0,.int .i64 0]:=by rw[aE.out];exact(av.new nV).af _
 have bp:av W1 w.heap.size 112 #[.int .i64 n.m,.slice r.hA n.hs.length r.hc,.slice r.pA n.ps.length r.pc]:=by rw[aE.out];exact((av.new rfl).alloc _).af _
 have T1:Sl aH W1.heap.size W1 A' c' (times n l):=by rw[aE.out];exact hT.out
 have BX:=qh bx;have BP:=qh bp;have TT:=qh T1;have T2:Hid (∀p,A'=some p->w.heap.size+2<=p.block):=fun p hp=>by have:=XA.out p hp;simpa using this
 clear aE hT bx bp T1 XA;go_loopg [12] n.hs.length (fun g i wr=>∃k:Nat,k<=n.hs.length/\g=n.hs.length-k/\i=.int .i64 k/\av wr (w.heap.size+1) 23 #[.int .i64 (jq n.hs (times n l) (Bp n) k),.int .i64 (jq n.hs (times n l) (jQ n) k)]/\bw (fun b=>b=w.heap.size+1) W1 wr)
 case atStart=>exact⟨0,nE _,rfl,rfl,BX.out,bw.refl _ _⟩
 case round=>
  obtain⟨k,hk,rfl,rfl,hX,hK⟩:=hrel;have bp:=BP.out.eG hK nQ;have p1:=bp.cell (i:=1) rfl;have ip:=bp.lt;have s0:=hX.cell (i:=0) rfl;have s1:=hX.cell (i:=1) rfl;have f0:=hX.free 0;have f1:=hX.free 1;have is:=hX.lt;by_cases hlt:k<n.hs.length
  ·have hkt:k<(times n l).length:=by rw[jK];exact hlt
   obtain⟨b,o,rfl,hb,hc⟩:=TT.out.int hkt;have gH:w.heap.size+2<=b:=T2.out _ rfl;have UR:=(hK.cell (o:=o+k) hb (fun e=>by have e:b=w.heap.size+1:=e;omega)).trans hc;have ib:Lt b wr:=⟨nL hb hK.size⟩;obtain⟨bh,oh,GY,So,d0,d1,d2,d3⟩:=HN.out.1.hole hlt;have xY:bh<w.heap.size:=nL So hB.out;have hww:=cN.out;have e:=fun o=>(hK.cell (b:=bh) (o:=o) nQ (fun e=>by have e:bh=w.heap.size+1:=e;omega)).trans (bz cY.out bh o xY);have e0:=(e _).trans d0;have e1:=(e _).trans d1;have e2:=(e _).trans d2;have e3:=(e _).trans d3;have ibh:Lt bh wr:=⟨by have:=hK.size;omega⟩;obtain⟨rhA,rhc,rpA,rpc⟩:=r;have GY:rhA=some ⟨bh,oh,none⟩:=GY;subst GY;refine QEC ?_;intro hki hk0;have ht:=sY HV.out HO.out k;have hh:=gC.1 (iG (jN HV.out).2.2.2.1 hlt);have q1:0<=nth (times n l) k:=ht.1;have q2:nth (times n l) k<=74:=ht.2;have q3:0<=(nth n.hs k).fr:=hh.1;have q4:(nth n.hs k).fr<=20:=hh.2.1;obtain⟨m1,m2⟩:=M9 (a:=(nth n.hs k).lo) (b:=nth (times n l) k-(nth n.hs k).fr) nQ nQ nQ nQ;obtain⟨m3,m4⟩:=M9 (a:=(nth n.hs k).hi) (b:=nth (times n l) k-(nth n.hs k).fr) nQ nQ nQ nQ;obtain⟨b1,b2⟩:=wF HV.out HO.out (uj (jN HV.out).2.2.2.1).2 k hk;obtain⟨b3,b4⟩:=wF HV.out HO.out (uj (jN HV.out).2.2.2.1).1 k hk;have UG:=qh (show jq n.hs (times n l) (Bp n) (k+1)=jq n.hs (times n l) (Bp n) k+(nth n.hs k).lo*(nth (times n l) k-(nth n.hs k).fr) by rw[jq,Dp hlt]);have HE2:=qh (show jq n.hs (times n l) (jQ n) (k+1)=jq n.hs (times n l) (jQ n) k+(nth n.hs k).hi*(nth (times n l) k-(nth n.hs k).fr) by rw[jq,rz hlt]);have n1:mw W1.heap.size wr.heap.size:=⟨hK.size⟩;have n2:pI wr.heap.size (w.heap.size+1):=⟨Nat.ne_of_gt is.out⟩;have HX:=qh hX;have HK:=qh hK;have gV:=qh hlt;clear hX hK hlt hk hc d0 d1 d2 d3 e hh ht hkt;go_wp2_with fail;go_roundg (n.hs.length-(k+1))
   case measure=>have:=gV.out;omega
   case rel=>
    refine⟨k+1,gV.out,rfl,by go_num,?_,?_⟩
    ·rw[UG.out,HE2.out];exact((HX.out.set 0 _).set 1 _).alloc _
    ·exact((HK.out.set rfl _ _).set rfl _ _).alloc _
  ·obtain rfl:k=n.hs.length:=by omega
   have HX:=qh hX;have HK:=qh hK;clear hX hK;go_wp2_with fail;refine bodyPost_ret (v:=.agg #[.int .i64 (jE n l (Bp n)),.int .i64 (dW n l)]) ?_ rfl ⟨rfl,?_⟩
   ·simp only[results,Tryz.results249];go_simp;exact⟨rfl,rfl⟩
   ·exact eU ((HK.out.set rfl _ _).set rfl _ _) (by rintro b rfl;omega)
theorem Mq(a b:Int)(W:nJ):(Instr.field 23 (.agg #[.int .i64 a,.int .i64 b]) 1).run nH W=.ok (.int .i64 b) W:=by kernel_rfl
theorem TS(r:cw)(n:Net)(A:Option Addr)(c ln:Nat)(l:List Int)(B:Nat)(w:nJ)[hB:Le B w](hS:Sl aH B w A c l)(hN:bG B w r n)(hv:valid n=true)(hl:fA n l=true)(gG:l.length=ln):Calls nH 218 #[cD r n,.slice A ln c] w fun e w'=>e=.returned (.int .i64 (dW n l))/\∃δ,w'=af w δ:=by have HS:=qh hS;have HN:=qh hN;have HV:=qh hv;have HO:=qh hl;have mG:=qh gG;clear hS hN hv hl gG;have YI:=Mq;go_enter Tryz.func218,Tryz.ntmps218;go_wp2_with (go_at_call 249;refine(Tv r n _ _ _ l B _ HS.out.up HN.out.up HV.out HO.out mG.out).mono ?_;rintro e w1 ⟨rfl,δ,rfl⟩);go_ret;exact⟨rfl,ag⟩
theorem Ty(r:cw)(n:Net)(A:Option Addr)(c ln:Nat)(l:List Int)(B:Nat)(w:nJ)[hB:Le B w](hS:Sl aH B w A c l)(hN:bG B w r n)(hv:valid n=true)(hl:fA n l=true)(gG:l.length=ln):Calls nH 219 #[cD r n,.slice A ln c] w fun e w'=>e=.returned (.int .i64 (gX n l))/\∃δ,w'=af w δ:=by
 have HS:=qh hS;have HN:=qh hN;have HV:=qh hv;have HO:=qh hl;have mG:=qh gG;have h6:=(jN hv).2.1;clear hS hN hv hl gG;go_enter Tryz.func219,Tryz.ntmps219;go_wp2_with (go_at_call 250;refine(ID r n _ _ _ l B _ HS.out.up HN.out.up HV.out HO.out mG.out).mono ?_;rintro e w1 ⟨A',c',δ,rfl,rfl,hT,XA⟩);refine aK fun W1 aE=>?_;obtain⟨cz,de,cN,cY,dc⟩:=yj B w aE;have TT:Hid (Sl aH W1.heap.size W1 A' c' (times n l)):=by rw[aE.out];exact hT.out
 clear aE hT XA;go_loopg [5,12] n.hs.length (fun g s5 i wr=>∃k:Nat,k<=n.hs.length/\g=n.hs.length-k/\i=.int .i64 k/\s5=.int .i64 (oD (times n l) k)/\wr=W1)
 case atStart=>exact⟨0,nE _,rfl,rfl,rfl,rfl⟩
 case round=>
  obtain⟨k,hk,rfl,rfl,rfl,rfl⟩:=hrel;by_cases hlt:k<n.hs.length
  ·obtain⟨b,o,rfl,hb,hc⟩:=TT.out.int (k:=k) (by rw[jK];exact hlt);refine QEC ?_;intro hki hk0;by_cases Jg:oD (times n l) k<nth (times n l) k
   ·have HE:=qh (show oD (times n l) (k+1)=nth (times n l) k by rw[oD];omega);have gV:=qh hlt;clear hlt;go_wp2_with fail;go_roundg (n.hs.length-(k+1))
    case measure=>have:=gV.out;omega
    case rel=>exact⟨k+1,gV.out,rfl,by go_num,by rw[HE.out],rfl⟩
   ·have HE:=qh (show oD (times n l) (k+1)=oD (times n l) k by rw[oD];omega);have gV:=qh hlt;clear hlt;go_wp2_with fail;go_roundg (n.hs.length-(k+1))
    case measure=>have:=gV.out;omega
    case rel=>exact⟨k+1,gV.out,rfl,by go_num,by rw[HE.out],rfl⟩
  ·obtain rfl:k=n.hs.length:=by omega
   go_wp2_with fail;go_ret;exact⟨rfl,ag⟩
end
section
open Me
def vH(b:Bool)(v0 v:nK)(k0 k:Int):Array nK:=if b=false\/k<k0 then #[v,.int .i64 k,.bool true] else #[v0,.int .i64 k0,.bool b]
theorem Tw(c:Nat)(T:TypeId)(b:Bool)(A0 A:Option Addr)(n0 c0 n1 c1:Nat)(k0 k:Int)(w:nJ)(hx:av w c T #[.slice A0 n0 c0,.int .i64 k0,.bool b]):Calls nH 248 #[.pointer (some ⟨c,0,none⟩),.slice A n1 c1,.int .i64 k] w fun e w'=>(∃v,e=.returned v)/\av w' c T (vH b (.slice A0 n0 c0) (.slice A n1 c1) k0 k)/\bw (fun x=>x=c) w w':=by
 have c0':=hx.cell (i:=0) rfl;have c1':=hx.cell (i:=1) rfl;have c2':=hx.cell (i:=2) rfl;have f0:=hx.free 0;have f1:=hx.free 1;have f2:=hx.free 2;have hlt:=hx.lt;have HX:=qh hx;clear hx;cases b with
 |false=>
  go_enter Tryz.func248,Tryz.ntmps248
  go_wp2
  go_end0
  exact⟨⟨_,rfl⟩,((HX.out.set 0 _).set 1 _).set 2 _,(((bw.refl _ _).set (S:=fun x=>x=c) rfl _ _).set rfl _ _).set rfl _ _⟩
 |true=>
  by_cases hk:k<k0
  ·have e:vH true (.slice A0 n0 c0) (.slice A n1 c1) k0 k=#[.slice A n1 c1,.int .i64 k,.bool true]:=by unfold vH;rw[if_pos (.inr hk)]
   rw[e];go_enter Tryz.func248,Tryz.ntmps248;go_wp2;go_end0;exact⟨⟨_,rfl⟩,((HX.out.set 0 _).set 1 _).set 2 _,(((bw.refl _ _).set (S:=fun x=>x=c) rfl _ _).set rfl _ _).set rfl _ _⟩
  ·have e:vH true (.slice A0 n0 c0) (.slice A n1 c1) k0 k=#[.slice A0 n0 c0,.int .i64 k0,.bool true]:=by unfold vH;rw[if_neg (by simp;omega)]
   rw[e];go_enter Tryz.func248,Tryz.ntmps248;go_wp2;go_end0;exact⟨⟨_,rfl⟩,HX.out,bw.refl _ _⟩
def sR(f:List Int->Int)(lo cb:Nat)(pre:List (List Int))(W:nJ):Prop:=
 ∃(b:Bool) (A:Option Addr) (m c:Nat) (k:Int),av W cb 289 #[.slice A m c,.int .i64 k,.bool b]/\(pre=[]->b=false) /\
  (pre≠[]->b=true/\m=(least f pre).length/\k=f (least f pre)/\Sl aH W.heap.size W A c (least f pre)/\∀p,A=some p->lo<=p.block)
theorem sR.eG{f:List Int->Int}{lo cb:Nat}{pre:List (List Int)}{S:Nat->Prop}{W W':nJ}(h:sR f lo cb pre W)(k:bw S W W')(h1:¬S cb)(h2:∀b,S b->b<lo):sR f lo cb pre W':=by obtain⟨b,A,m,c,x,hb,hn,hs⟩:=h;refine⟨b,A,m,c,x,hb.eG k h1,hn,fun hp=>?_⟩;obtain⟨a1,a2,a3,a4,a5⟩:=hs hp;exact⟨a1,a2,a3,(k.sl a4 (nR _) (fun p hp hc=>by have:=h2 _ hc;have:=a5 p hp;omega)).more k.size,a5⟩
theorem sR.look{f:List Int->Int}{lo cb:Nat}{pre:List (List Int)}{W W':nJ}{x:List Int}{A1:Option Addr}{c1:Nat}{b:Bool}{A:Option Addr}{m c:Nat}{k:Int}(hn:pre=[]->b=false)(hs:pre≠[]->b=true/\m=(least f pre).length/\k=f (least f pre)/\Sl aH W.heap.size W A c (least f pre)/\∀p,A=some p->lo<=p.block)(hx:Sl aH W.heap.size W A1 c1 x)(hlo:∀p,A1=some p->lo<=p.block)(hc:cb<lo)(hk:bw (fun b=>b=cb) W W')(hb:av W' cb 289 (vH b (.slice A m c) (.slice A1 x.length c1) k (f x))):sR f lo cb (pre++[x]) W':=by
 have up:∀ {A:Option Addr} {c:Nat} {y:List Int},Sl aH W.heap.size W A c y->(∀p,A=some p->lo<=p.block)->Sl aH W'.heap.size W' A c y:=fun h1 h2=>(hk.sl h1 (nR _) (fun p hp e=>by have:=h2 p hp;have e:p.block=cb:=e;omega)).more hk.size;by_cases hp:pre=[]
 ·subst hp;rw[hn rfl] at hb;unfold vH at hb;rw[if_pos (.inl rfl)] at hb;exact⟨true,A1,x.length,c1,f x,hb,fun h=>by simp at h,fun _=>⟨rfl,rfl,rfl,up hx hlo,hlo⟩⟩
 ·obtain⟨rfl,rfl,rfl,h4,h5⟩:=hs hp;unfold vH at hb;by_cases hl:f x<f (least f pre)
  ·rw[if_pos (.inr hl)] at hb;have e:least f (pre++[x])=x:=by rw[mS f hp,if_pos hl]
   exact⟨true,A1,x.length,c1,f x,hb,fun h=>by simp at h,fun _=>⟨rfl,by rw[e],by rw[e],by rw[e];exact up hx hlo,hlo⟩⟩
  ·rw[if_neg (by simp;omega)] at hb;have e:least f (pre++[x])=least f pre:=by rw[mS f hp,if_neg hl]
   exact⟨true,A,_,c,_,hb,fun h=>by simp at h,fun _=>⟨rfl,by rw[e],by rw[e],by rw[e];exact up h4 h5,h5⟩⟩
def Jp(fid:Nat)(r:cw)(n:Net)(B:Nat)(w:nJ)(f:List Int->Int):Prop:=∀(l:List Int) (A:Option Addr) (c:Nat) (W:nJ),fA n l=true->bG B W r n->B<=W.heap.size->Sl aH W.heap.size W A c l ->
 Calls nH fid #[cD r n,.slice A l.length c] W fun e w'=>e=.returned (.int .i64 (f l))/\∃δ,w'=af W δ
section
attribute[local go_sem] Oper.semAt_some
theorem QC(fid:Nat)(hent:∀args w,(callFunc fid args).run nH w=.ok (.enter fid args) w)(f:List Int->Int)(r:cw)(n:Net)(hv:valid n=true)(B:Nat)(w:nJ)(hN:bG B w r n)[hB:Le B w](hf:Jp fid r n B w f):Calls nH 217 #[cD r n,.func (.func fid) #[cD r n] #[]] w fun e w'=>∃(A:Option Addr) (c:Nat) (δ:nJ),e=.returned (.tuple #[.slice A n.hs.length c,.int .i64 (f (least f (gj n)))])/\w'=af w δ/\Hid (Sl aH (af w δ).heap.size (af w δ) A c (least f (gj n))):=by
 have HN:=qh hN;have HV:=qh hv;have HF:=qh hf;have h6:=(jN hv).2.1;clear hN hv hf;refine nc Tryz.func217 rfl ?_;simp only[Tryz.ntmps217,List.size_toArray,List.length_cons,List.length_nil,Nat.reduceAdd,Nat.reduceSub,Array.replicate_succ,Array.replicate_zero,List.push_toArray,List.append_toArray,List.nil_append,List.cons_append];go_wp2_with (go_at_call 102;refine(Dg n r _).mono ?_;rintro e w1 ⟨rfl,rfl⟩);refine aK fun W0 jh=>?_;obtain⟨cz,de,cN,cY,dc,dX⟩:=Cm B w jh;have jP:Lt (w.heap.size+1+1) W0:=mb jh;have GH:Lt (w.heap.size+1+1+1) W0:=mb jh;have kM:W0.cell? ⟨w.heap.size+1+1+1,0,none⟩=some (.int .i64 n.m):=by rw[jh.out];go_simp
 have iY:W0.cell? ⟨w.heap.size+1+1+1,1,none⟩=some (.slice r.hA n.hs.length r.hc):=by rw[jh.out];go_simp
 have lC:W0.cell? ⟨w.heap.size+1+1+1,2,none⟩=some (.slice r.pA n.ps.length r.pc):=by rw[jh.out];go_simp
 have lu:W0.cell? ⟨w.heap.size+1,0,none⟩=some (.func (.func fid) #[cD r n] #[]):=by rw[jh.out];go_simp
 have hz:W0.heap.size=w.heap.size+4:=by rw[jh.out];simp
 have HX:Hid (av W0 (w.heap.size+1+1) 289 #[.slice none 0 0,.int .i64 0,.bool false]):=by rw[jh.out];exact(av.new nV).alloc _
 have HN0:Hid (bG B W0 r n):=HN.out.up;have HZ:=qh hz;have hBw:=hB.out;have HC:Hid (W0.cell? ⟨w.heap.size+1,0,none⟩=some (.func (.func fid) #[cD r n] #[])):=nZ;clear jh hz;refine Iz n r B (w.heap.size+1+1+1) rfl h6 HN0.out (by have:=HZ.out;omega) (by have:=HZ.out;omega) nZ nZ nZ
  (fun b=>b=w.heap.size+1+1) (by rintro b rfl;have:=HZ.out;omega)
  (sR f (W0.heap.size+2) (w.heap.size+1+1)) (fun _ _ _=>False)
  (by intro pre W W' h hk;exact h.eG hk (wP (by have:=HZ.out;omega)) (by rintro b (h|h|h);exact h.elim;omega;omega)) (fun _ _ _ _ h _=>h)
  ⟨false,none,0,0,0,HX.out,fun _=>rfl,fun h=>absurd rfl h⟩ (fun v=>{ tmps:=#[cD r n,.func (.func fid) #[cD r n] #[],.pointer (some ⟨w.heap.size,0,none⟩),.pointer (some ⟨w.heap.size+1,0,none⟩),.slice none 0 0,.int .i64 0,.pointer (some ⟨w.heap.size+1+1,0,none⟩),v,
   .agg #[.int .i64 n.m,.slice r.hA n.hs.length r.hc,.slice r.pA n.ps.length r.pc],.func (.func 149) #[] #[.pointer (some ⟨w.heap.size+1+1+1,0,none⟩)],v,undef,undef,undef,undef,undef,undef,undef,undef,undef],defers:=[] }) ?assign ?body ?done ?stop
 case assign=>intro l m v W K hK;gi_wp2;simpa using hK
 case body=>
  rintro l m pre x v W hpre hI hl hk hs;obtain⟨A1,c1,rfl,EV,hlo1⟩:=hl;obtain⟨b,A,k0,c0,y,hb,hn,hs2⟩:=hI;have hx:fA n x=true:=qW.1 (hpre.subset nV);have cf:=(hk.cell (b:=w.heap.size+1) (o:=0) (by have:=HZ.out;omega) (by have:=HZ.out;rintro(h|h|h)<;>omega)).trans HC.out;have hNW:=hk.aD HN0.out (by have:=HZ.out;omega) (by have:=HZ.out;rintro b (h|h|h)<;>omega);have DV:=HF.out x A1 c1 W hx hNW (by have:=hk.size;have:=HZ.out;omega) EV;have hcb:=hb.lt;have HB:=qh hb;have UZ:=qh hn;have zw:=qh hs2;have me:=qh EV;have HLO:=qh hlo1;clear hb hn hs2 EV hlo1 hk hNW hx hpre hs;gi_wp2;refine gz DV ?_;rintro e w1 ⟨rfl,δ,rfl⟩;gi_wp2;refine gz (Tw (w.heap.size+1+1) _ b A A1 k0 c0 _ c1 y _ _ (HB.out.af δ)) ?_;rintro e w2 ⟨⟨v',rfl⟩,gi,hk2⟩;gi_wp2;refine⟨(bw.af _ _ _).trans hk2,?_⟩;exact sR.look (W:=af W δ) UZ.out (fun hp=>by
   obtain⟨a1,a2,a3,a4,a5⟩:=zw.out hp
   exact⟨a1,a2,a3,a4.wide,a5⟩) me.out.wide HLO.out (by have:=HZ.out;omega) hk2 gi
 case done=>
  rintro W hI hk hD;obtain⟨b,A,k0,c0,y,hb,hn,hs2⟩:=hI;obtain⟨rfl,rfl,rfl,h4,h5⟩:=hs2 (ou (az.1 HV.out).2.2.2.2.2);have hlen:(least f (gj n)).length=n.hs.length:=iV (qW.1 (fJ f (ou (az.1 HV.out).2.2.2.2.2)));rw[hlen] at hb;have d0:=hb.cell (i:=0) rfl;have d1:=hb.cell (i:=1) rfl;have HD:=qh hD;have HK:=qh hk;have H4:=qh h4;have H5:=qh h5;clear hb hn hs2 hD hk h4 h5 hlen;go_wp2_with fail;go_region;go_wp2_with fail;obtain⟨δ,hδ⟩:=eU (w:=w) ((HK.out.drew).putObj (b:=W0.heap.size) (.inr (.inl rfl)) (.deferred none)) (by have:=HZ.out;rintro b (h|h|h)<;>omega);refine mK (v:=.tuple #[.slice A n.hs.length c0,.int .i64 (f (least f (gj n)))]) HD.out ?_ ⟨A,c0,δ,rfl,hδ,?_⟩
  ·simp only[results,Tryz.results217];go_simp
  ·rw[<-hδ];refine((((bw.refl (fun b=>b=W0.heap.size) W).drew).putObj rfl _).sl H4.out (nR _) (fun p hp e=>?_)).more ?_
   ·have:=H5.out p hp;have e:p.block=W0.heap.size:=e;omega
   ·rw[World.putObj_size];exact nR _
 case stop=>exact fun _ _ _ _ _ h=>h.elim
end
end
section
open Me
theorem Dt(r:cw)(n:Net)(w:nJ):Calls nH 178 #[cD r n] w fun e w'=>e=.returned (.func (.func 218) #[cD r n] #[])/\∃δ,w'=af w δ:=by go_enter Tryz.func178,Tryz.ntmps178;go_wp2_with fail;go_ret;exact⟨rfl,ag⟩
theorem Nd(r:cw)(n:Net)(w:nJ):Calls nH 179 #[cD r n] w fun e w'=>e=.returned (.func (.func 219) #[cD r n] #[])/\∃δ,w'=af w δ:=by go_enter Tryz.func179,Tryz.ntmps179;go_wp2_with fail;go_ret;exact⟨rfl,ag⟩
theorem wS(r:cw)(n:Net)(hv:valid n=true)(B:Nat)(w:nJ):Jp 218 r n B w (dW n):=fun l A c W hl hN hB hS=>by have i:Le W.heap.size W:=inferInstance;exact TS r n A c _ l W.heap.size W hS (hN.more hB) hv hl rfl
theorem Fh(r:cw)(n:Net)(hv:valid n=true)(B:Nat)(w:nJ):Jp 219 r n B w (gX n):=fun l A c W hl hN hB hS=>by have i:Le W.heap.size W:=inferInstance;exact Ty r n A c _ l W.heap.size W hS (hN.more hB) hv hl rfl
theorem Eb:∀args w,(callFunc 218 args).run nH w=.ok (.enter 218 args) w:=Go.Proofs.enters_of Tryz.func218 nP rfl
theorem Oq:∀args w,(callFunc 219 args).run nH w=.ok (.enter 219 args) w:=Go.Proofs.enters_of Tryz.func219 nP rfl
def LN(f:List Int->Int)(n:Net)(w:nJ)(e:Ending)(w':nJ):Prop:=∃(A:Option Addr) (c:Nat) (δ:nJ),e=.returned (.tuple #[.slice A n.hs.length c,.int .i64 (f (least f (gj n))),.int .i64 0])/\w'=af w δ/\Hid (Sl aH (af w δ).heap.size (af w δ) A c (least f (gj n)))
theorem BH(mk fid:Nat)(f:List Int->Int)(aao:∀args w,(callFunc mk args).run nH w=.ok (.enter mk args) w)(hent:∀args w,(callFunc fid args).run nH w=.ok (.enter fid args) w)(r:cw)(n:Net)(hv:valid n=true)(B:Nat)(w:nJ)(hN:bG B w r n)[hB:Le B w](hmk:∀W,Calls nH mk #[cD r n] W fun e w'=>e=.returned (.func (.func fid) #[cD r n] #[])/\∃δ,w'=af W δ)(hf:∀W,Jp fid r n B W f):Calls nH 177 #[cD r n,.func (.func mk) #[] #[]] w (LN f n w):=by
 have HN:=qh hN;have HV:=qh hv;have HE:=qh (show cE (valid n) 40=0 by rw[hv];rfl);have HM:=qh hmk;have HF:=qh hf;clear hN hv hmk hf;go_enter Tryz.func177,Tryz.ntmps177;go_wp2_with (go_at_call 20;refine(Dv r n B _ HN.out.up).mono ?_;rw[HE.out];rintro e w1 ⟨rfl,δ,hw⟩;have bq:av w1 w.heap.size 32 #[.int .i64 n.m,.slice r.hA n.hs.length r.hc,.slice r.pA n.ps.length r.pc]:=(by rw[hw];exact(av.new rfl).af _);have e0:=bq.cell (i:=0) rfl;have e1:=bq.cell (i:=1) rfl;have e2:=bq.cell (i:=2) rfl;have ilt:=bq.lt;have g1:aC B w w1:=(by rw[hw];infer_instance);have g2:Le B w1:=(by rw[hw];infer_instance);have g3:aC w.heap.size w w1:=(by rw[hw];infer_instance);have g4:Le w.heap.size w1:=(by rw[hw];infer_instance);clear hw bq);go_region_held3 (fun W=>W.cell? ⟨w1.heap.size,0,none⟩=some (.int .i64 n.m)/\W.cell? ⟨w1.heap.size,1,none⟩=some (.slice r.hA n.hs.length r.hc)/\W.cell? ⟨w1.heap.size,2,none⟩=some (.slice r.pA n.ps.length r.pc))
  (refine⟨?_,?_,?_⟩<;>go_simp)
  (first|(go_at_call 217;refine(QC fid hent f r n HV.out B _ HN.out.up (HF.out _)).mono ?_;rintro e w2 ⟨A,c,δ2,rfl,rfl,hS⟩)|(with_reducible refine(HM.out _).mono ?_;rintro e w3 ⟨rfl,δ3,rfl⟩))
 all_goals go_wp2_with fail;go_ret3;exact⟨A,c,_,rfl,aq,Fx hS.out.wide⟩
theorem GB(r:cw)(n:Net)(hv:valid n=true)(B:Nat)(w:nJ)(hN:bG B w r n)[hB:Le B w]:Calls nH 116 #[cD r n] w fun e w'=>e=.returned (.tuple #[.int .i64 (dK n),.int .i64 0])/\∃δ,w'=af w δ:=by have HN:=qh hN;have HV:=qh hv;clear hN hv;go_enter Tryz.func116,Tryz.ntmps116;go_wp2_with (go_at_call 177;refine(BH 178 218 (dW n) (Go.Proofs.enters_of Tryz.func178 nP rfl) Eb r n HV.out B _ HN.out.up (Dt r n) (wS r n HV.out B)).mono ?_;rintro e w1 ⟨A,c,δ,rfl,rfl,hS⟩);go_ret2;exact⟨rfl,ag⟩
theorem Ld(r:cw)(n:Net)(hv:valid n=true)(B:Nat)(w:nJ)(hN:bG B w r n)[hB:Le B w]:Calls nH 118 #[cD r n] w fun e w'=>e=.returned (.tuple #[.int .i64 (qS n),.int .i64 0])/\∃δ,w'=af w δ:=by have HN:=qh hN;have HV:=qh hv;clear hN hv;go_enter Tryz.func118,Tryz.ntmps118;go_wp2_with (go_at_call 177;refine(BH 179 219 (gX n) (Go.Proofs.enters_of Tryz.func179 nP rfl) Oq r n HV.out B _ HN.out.up (Nd r n) (Fh r n HV.out B)).mono ?_;rintro e w1 ⟨A,c,δ,rfl,rfl,hS⟩);go_ret2;exact⟨rfl,ag⟩
theorem sF(r:cw)(n:Net)(hv:valid n=true)(B:Nat)(w:nJ)(hN:bG B w r n)[hB:Le B w]:Calls nH 126 #[cD r n] w fun e w'=>∃(A:Option Addr) (c:Nat) (δ:nJ),e=.returned (.tuple #[.slice A n.hs.length c,.int .i64 0])/\w'=af w δ/\Hid (Sl aH (af w δ).heap.size (af w δ) A c (fQ n)):=by have HN:=qh hN;have HV:=qh hv;clear hN hv;go_enter Tryz.func126,Tryz.ntmps126;go_wp2_with (go_at_call 177;refine(BH 178 218 (dW n) (Go.Proofs.enters_of Tryz.func178 nP rfl) Eb r n HV.out B _ HN.out.up (Dt r n) (wS r n HV.out B)).mono ?_;rintro e w1 ⟨A,c,δ,rfl,rfl,hS⟩);go_ret2;exact⟨A,c,_,rfl,aq,Fx hS.out.wide⟩
end
section
open Me
end
section
open Me
theorem wJ{B:Nat}{w W wr:nJ}(h:aC B w W)(h2:aC W.heap.size W wr)[hB:Le B W]:aC B w wr:=
 ⟨⟨h2.out.1.trans h.out.1,h2.out.2.1.trans h.out.2.1,h2.out.2.2.1.trans h.out.2.2.1,fun b hb=>(h2.out.2.2.2 b (nL hb hB.out)).trans (h.out.2.2.2 b hb)⟩⟩
theorem L8{n:Net}(hv:valid n=true){l:List Int}(hl:fA n l=true):-10000<=dW n l/\dW n l<=10000:=wF hv hl (uj (jN hv).2.2.2.1).1 _ (nR _)
theorem KE{n:Net}(hv:valid n=true):-10000<=dK n/\dK n<=10000:=L8 hv (gT (az.1 hv).2.2.2.2.2)
end
section
open Me
def vV:Net:=⟨1,[⟨0,2,3,2⟩,⟨0,5,6,3⟩,⟨1,4,8,1⟩],[⟨0,2⟩]⟩
def Y2:Net:=⟨2,[⟨0,2,3,2⟩,⟨0,5,6,3⟩,⟨1,4,8,1⟩],[⟨0,2⟩]⟩
theorem TL(a b c d:Int)(w:nJ):Calls nH 98 #[.int .i64 a,.int .i64 b,.int .i64 c,.int .i64 d] w fun e w'=>e=.returned (.agg #[.int .i64 a,.int .i64 b,.int .i64 c,.int .i64 d])/\∃δ,w'=af w δ:=by go_enter Tryz.func98,Tryz.ntmps98;go_wp2_with fail;refine bodyPost_ret (v:=.agg #[.int .i64 a,.int .i64 b,.int .i64 c,.int .i64 d]) ?_ rfl ⟨rfl,ag⟩;simp only[results,Tryz.results98];go_simp
theorem Gx(w:nJ):Calls nH 37 #[] w fun e w'=>∃(r:cw) (δ:nJ),e=.returned (.tuple #[cD r vV,cD r Y2])/\w'=af w δ/\Hid (bG (af w δ).heap.size (af w δ) r vV):=by
 go_enter Tryz.func37,Tryz.ntmps37;go_wp2_with (go_at_call 98;refine(TL _ _ _ _ _).mono ?_;rintro e w1 ⟨rfl,δ,hw⟩;have b0:av w1 w.heap.size 32 #[.int .i64 0,.slice none 0 0,.slice none 0 0]:=(by rw[hw];first|exact b0.af _|exact((av.new rfl).alloc _).af _);have b1:av w1 (w.heap.size+1) 32 #[.int .i64 0,.slice none 0 0,.slice none 0 0]:=(by rw[hw];first|exact b1.af _|exact(av.new nV).af _);have c00:=b0.cell (i:=0) rfl;have c01:=b0.cell (i:=1) rfl;have c02:=b0.cell (i:=2) rfl;have vp:=b1.cell (i:=0) rfl;have Zq:=b1.cell (i:=1) rfl;have c12:=b1.cell (i:=2) rfl;have f00:=b0.free 0;have f01:=b0.free 1;have f02:=b0.free 2;have f10:=b1.free 0;have f11:=b1.free 1;have f12:=b1.free 2;have l0:=b0.lt;have l1:=b1.lt;have g3:aC w.heap.size w w1:=(by rw[hw];infer_instance);have g4:Le w.heap.size w1:=(by rw[hw];infer_instance);clear hw);have B0:=qh b0;have B1:=qh b1;clear b0 b1;refine aK fun W0 jh=>?_;have q0:av W0 w.heap.size 32 #[.int .i64 1,.slice (some ⟨w1.heap.size,0,none⟩) 3 3,.slice (some ⟨w1.heap.size+1,0,none⟩) 1 1]:=by
  rw[jh.out];refine av.alloc (av.alloc ?_ _) _;refine av.eZ (av.eZ (av.eZ (av.eZ ?_ ?_ _) ?_ _) ?_ _) ?_ _
  ·exact((B0.out.set 0 _).set 1 _).set 2 _
  all_goals (show w.heap.size≠w.heap.size+1;omega)
 have q1:av W0 (w.heap.size+1) 32 #[.int .i64 2,.slice (some ⟨w1.heap.size,0,none⟩) 3 3,.slice (some ⟨w1.heap.size+1,0,none⟩) 1 1]:=by rw[jh.out];refine av.alloc (av.alloc ?_ _) _;refine av.set (cs:=#[.int .i64 1,.slice (some ⟨w1.heap.size,0,none⟩) 3 3,.slice (some ⟨w1.heap.size+1,0,none⟩) 1 1]) ?_ 0 _;refine av.set (cs:=#[.int .i64 1,.slice (some ⟨w1.heap.size,0,none⟩) 3 3,.slice none 0 0]) ?_ 2 _;refine av.set (cs:=#[.int .i64 1,.slice none 0 0,.slice none 0 0]) ?_ 1 _;refine av.set (cs:=#[.int .i64 0,.slice none 0 0,.slice none 0 0]) ?_ 0 _;refine av.eZ (av.eZ (av.eZ B1.out ?_ _) ?_ _) ?_ _;all_goals (show w.heap.size+1≠w.heap.size;omega)
 have q2:av W0 w1.heap.size 105 #[.int .i64 0,.int .i64 2,.int .i64 3,.int .i64 2,.int .i64 0,.int .i64 5,.int .i64 6,.int .i64 3,.int .i64 1,.int .i64 4,.int .i64 8,.int .i64 1]:=by rw[jh.out];exact(av.new nV).alloc _
 have q3:av W0 (w1.heap.size+1) 109 #[.int .i64 0,.int .i64 2]:=by rw[jh.out];exact av.new nV
 have g1:aC w.heap.size w W0:=iC jh;have g2:Le w.heap.size W0:=fR jh;have c0:=q0.cell (i:=0) rfl;have c1:=q0.cell (i:=1) rfl;have c2:=q0.cell (i:=2) rfl;have d0:=q1.cell (i:=0) rfl;have d1:=q1.cell (i:=1) rfl;have d2:=q1.cell (i:=2) rfl;have k0:=q0.free 0;have k1:=q0.free 1;have k2:=q0.free 2;have k3:=q1.free 0;have k4:=q1.free 1;have k5:=q1.free 2;have j0:=q0.lt;have j1:=q1.lt;have Q2:=qh q2;have Q3:=qh q3;have gV:=qh (show w.heap.size+1<w1.heap.size from l1.out);clear jh q2 q3 q0 q1 c00 c01 c02 vp Zq c12 f00 f01 f02 f10 f11 f12 l0 l1;go_region;all_goals
  go_wp2_with fail;refine bodyPost_ret (v:=.tuple #[cD ⟨some ⟨w1.heap.size,0,none⟩,3,some ⟨w1.heap.size+1,0,none⟩,1⟩ vV,cD ⟨some ⟨w1.heap.size,0,none⟩,3,some ⟨w1.heap.size+1,0,none⟩,1⟩ Y2]) ?_ rfl ?_
  ·simp only[results,Tryz.results37];go_simp;simp[vV,Y2]
  ·refine⟨⟨some ⟨w1.heap.size,0,none⟩,3,some ⟨w1.heap.size+1,0,none⟩,1⟩,_,rfl,aq,?_⟩;refine QDK ?_;refine⟨oK vV.hs (T:=105) (cs:=#[.int .i64 0,.int .i64 2,.int .i64 3,.int .i64 2,.int .i64 0,.int .i64 5,.int .i64 6,.int .i64 3,.int .i64 1,.int .i64 4,.int .i64 8,.int .i64 1]) ?_ (nG rfl) (nG rfl) rfl,oK vV.ps (T:=109) (cs:=#[.int .i64 0,.int .i64 2]) ?_ (nG rfl) (nG rfl) rfl⟩
   ·refine av.drew ?_;iterate 6 (refine av.eZ ?_ (by have:=gV.out;first|(show w1.heap.size≠w.heap.size;omega)|(show w1.heap.size≠w.heap.size+1;omega)) _)
    exact Q2.out
   ·refine av.drew ?_;iterate 6 (refine av.eZ ?_ (by have:=gV.out;first|(show w1.heap.size+1≠w.heap.size;omega)|(show w1.heap.size+1≠w.heap.size+1;omega)) _)
    exact Q3.out
namespace Me
end Me
end
theorem nM{base b i:Nat}{w:nJ}{e:TypeId}{size n:Nat}{v u:nK}{xs:List nK}(h:w.ownsRow base e size v n xs)(hb:b<base):(w.setCell ⟨b,i,none⟩ u).ownsRow base e size v n xs:=ownsRow_setCell_below h (a:=⟨b,i,none⟩) hb u
section
open Me
theorem Fy:nw nH 29 105 (.agg #[.int .i64 0,.int .i64 0,.int .i64 0,.int .i64 0]) 4 32:=nw.mk Tryz.underlying29 nP rfl nQ
theorem AW:nw nH 30 109 (.agg #[.int .i64 0,.int .i64 0]) 2 16:=nw.mk Tryz.underlying30 nP rfl nQ
theorem oY:∀x,∀u∈aZ x,u.oneCell'=true:=by intro x u hu;simp[aZ] at hu;rcases hu with rfl|rfl|rfl|rfl<;>rfl
theorem Bi:∀x,∀u∈dj x,u.oneCell'=true:=by intro x u hu;simp[dj] at hu;rcases hu with rfl|rfl<;>rfl
theorem I1:∀x,∀u∈aH x,u.oneCell'=true:=by intro x u hu;simp[aH] at hu;subst hu;rfl
def DQ(n:Net)(k:Nat):Bool:=decide (40<n.hs.length)||(decide (40<n.ps.length)||decide (40<k))
def G9(n:Net)(jZ:Nat):Bool:=DQ n 0||(decide (jZ<n.hs.length)&&decide (n.hs.length<=6))
theorem I7(r:cw)(n:Net)(A:Option Addr)(k c:Nat)(b:Bool)(hb:DQ n k=b)(hk:k<=9223372036854775807)(B:Nat)(w:nJ)(hN:bG B w r n):Calls nH 86 #[cD r n,.slice A k c] w fun e w'=>e=.returned (.bool b)/\∃δ,w'=af w δ:=by subst hb;have l1:=hN.1.len;have l2:=hN.2.len;go_enter Tryz.func86,Tryz.ntmps86;go_wp2;all_goals go_ret;exact⟨aW (by unfold DQ;rw[Bool.eq_iff_iff];simp at *;omega),ag⟩
theorem Tu(r:cw)(n:Net)(jZ:Nat)(hm:jZ<=100)(b:Bool)(hb:G9 n jZ=b)(B:Nat)(w:nJ)(hN:bG B w r n)[hB:Le B w]:Calls nH 32 #[cD r n,.int .i64 jZ] w fun e w'=>e=.returned (.bool b)/\∃δ,w'=af w δ:=by
 subst hb;have l1:=hN.1.len;have l2:=hN.2.len;have HN:=qh hN;clear hN;cases hh:DQ n 0 with
 |true=>
  have HH:=qh hh
  clear hh
  go_enter Tryz.func32,Tryz.ntmps32
  go_wp2_with (go_at_call 86;refine(I7 r n none 0 0 _ HH.out nQ B _ HN.out.up).mono ?_;rintro e w1 ⟨rfl,δ,rfl⟩)
  go_ret
  exact⟨aW (by unfold G9;rw[HH.out];rfl),ag⟩
 |false=>
  have HH:=qh hh
  clear hh
  go_enter Tryz.func32,Tryz.ntmps32
  go_wp2_with (go_at_call 86;refine(I7 r n none 0 0 _ HH.out nQ B _ HN.out.up).mono ?_;rintro e w1 ⟨rfl,δ,rfl⟩)
  all_goals go_ret;exact⟨aW (by unfold G9;rw[HH.out,Bool.eq_iff_iff];simp at *;omega),ag⟩
def eB(base:Nat)(w:nJ)(r:cw)(n:Net):Prop:=
 w.ownsRow base 105 4 (.slice r.hA n.hs.length r.hc) n.hs.length (n.hs.flatMap aZ) /\
 w.ownsRow base 109 2 (.slice r.pA n.ps.length r.pc) n.ps.length (n.ps.flatMap dj)
section
variable{base:Nat}{w:nJ}{r:cw}{n:Net}
theorem eB.mono(h:eB base w r n){base':Nat}(hb:base'<=base):eB base' w r n:=⟨dO h.1 hb,dO h.2 hb⟩
theorem eB.set(h:eB base w r n){b i:Nat}(hb:b<base)(u:nK):eB base (w.setCell ⟨b,i,none⟩ u) r n:=⟨nM h.1 hb,nM h.2 hb⟩
theorem eB.alloc(h:eB base w r n)(o:Obj):eB base (w.alloc o) r n:=⟨h.1.alloc o,h.2.alloc o⟩
theorem eB.up(h:eB base w r n){W:nJ}[hg:aC w.heap.size w W]:eB base W r n:=⟨aT h.1,aT h.2⟩
end
theorem oO{P:Program}(W1:nJ){W:nJ}{ops:Array Oper}{o:Oper}{a:Act}{K:Act->nJ->Prop}{Q:Exit->Act->nJ->Prop}{E:Prop}{t e:TypeId}{z:nK}{size bytes:Nat}(hT:nw P t e z size bytes)(s x:Operand)(hgd:o.guard=none)(ho:o.op=.call { callee:=.builtin .append,args:=#[s,x],argTypes:=#[t,t] }){v:nK}(hown:W.ownsRow W1.heap.size e size v 0 [])(hs:a.eval s=v){B m c:Nat}{A:Option Addr}{news:List nK}(hx:a.eval x=.slice A m c)(hr:Cells W B A news)(hl:news.length=m*size)(h1:∀u∈news,u.oneCell'=true)(h63:m<=1000000)(hbytes:bytes<=1000)[hbase:Le W1.heap.size W](h:∀A' c' δ,(dM W1.heap.size W δ).ownsRow W1.heap.size e size (.slice A' m c') m news->W.grownBy (dM W1.heap.size W δ) v.ownBlock->W.ownsRow W1.heap.size e size v 0 []->K (a.put o.dst (.slice A' m c')) (dM W1.heap.size W δ)):if Region.wanted o (yielded ops a.tmps)=true then Oper.wp P o a W K Q else E:=
 fh W1 hT s x hgd ho hown hs hx hr hl h1 h63 hbytes fun A' c' δ h2 h3=>h A' c' δ h2 h3 hown
theorem Bg{w w':nJ}{base g n n' c' size size':Nat}{e e':TypeId}{v:nK}{xs xs':List nK}(h:w.ownsRow base e size v n xs)(hg:w.grownBy w' (Value.slice (some ⟨g,0,none⟩) n' c').ownBlock)(h':w.ownsRow base e' size' (.slice (some ⟨g,0,none⟩) n' c') n' xs')(hne:e≠e'):w'.ownsRow base e size v n xs:=
 h.kept hg (.inr (Bh h h' hne))
theorem tW{W W':nJ}{base e s g g':Nat}(h:W.ownsRow base e s (.slice (some ⟨g,0,none⟩) 0 0) 0 [])(UO:W.grownBy W' (Value.slice (some ⟨g',0,none⟩) 0 0).ownBlock)(hne:g≠g'):W'.ownsRow base e s (.slice (some ⟨g,0,none⟩) 0 0) 0 []:=
 h.kept UO (.inr fun he=>hne (Option.some.inj he))
theorem Ja{W1:nJ}{e1 e2 s g:Nat}(hg:g=W1.heap.size):((W1.alloc (.cells #[] e1)).alloc (.cells #[] e2)).drew.ownsRow W1.heap.size e1 s (.slice (some ⟨g,0,none⟩) 0 0) 0 []:=by subst hg;exact(cx (nR _) rfl).alloc _
theorem I9{W1:nJ}{e1 e2 s g:Nat}(hg:g=W1.heap.size+1):((W1.alloc (.cells #[] e1)).alloc (.cells #[] e2)).drew.ownsRow W1.heap.size e2 s (.slice (some ⟨g,0,none⟩) 0 0) 0 []:=by have h:(W1.alloc (.cells #[] e1)).heap.size=W1.heap.size+1:=nW;exact cx (W:=W1.alloc (.cells #[] e1)) nQ nQ
theorem mR{n:Nat}:n≠n+1:=by omega
theorem CD{n:Nat}:n+1≠n:=by omega
theorem Qy(r:cw)(n:Net)(B:Nat)(w:nJ)[hB:Le B w](h:bG B w r n)(q1:n.hs.length<=1000)(q2:n.ps.length<=1000):Calls nH 17 #[cD r n] w fun e w'=>∃(r':cw) (δ:nJ),e=.returned (cD r' n)/\w'=af w δ/\eB w.heap.size (af w δ) r' n:=by
 go_enter Tryz.func17,Tryz.ntmps17;have H:=qh h;clear h;go_upto_region 1 with fail;refine QDA ?_;intro W1 aE cz de cN cY dc dX lH jU kM;have iY:W1.cell? ⟨w.heap.size+1,0,none⟩=some (.int .i64 0):=by rw[aE.out];go_simp
 have lC:W1.cell? ⟨w.heap.size+1,1,none⟩=some (.slice none 0 0):=by rw[aE.out];go_simp
 have lu:W1.cell? ⟨w.heap.size+1,2,none⟩=some (.slice none 0 0):=by rw[aE.out];go_simp
 have fw13:W1.frozen? ⟨w.heap.size+1,0,none⟩=false:=by rw[aE.out];go_simp
 have fw14:W1.frozen? ⟨w.heap.size+1,1,none⟩=false:=by rw[aE.out];go_simp
 have fw15:W1.frozen? ⟨w.heap.size+1,2,none⟩=false:=by rw[aE.out];go_simp
 clear aE;go_region_held3 (fun W=>W.cell? ⟨w.heap.size,0,none⟩=some (.int .i64 n.m)/\W.cell? ⟨w.heap.size,1,none⟩=some (.slice r.hA n.hs.length r.hc)/\W.cell? ⟨w.heap.size,2,none⟩=some (.slice r.pA n.ps.length r.pc))
  (refine⟨?_,?_,?_⟩<;>go_simp)
  (first|(refine oO W1 Fy (.tmp 5) (.tmp 7) rfl rfl (v:=.slice (some ⟨_,0,none⟩) 0 0) (by first|exact cx (by go_simp;done) (by go_simp;done)|exact(cx (by go_simp;done) (by go_simp;done)).alloc _|exact tW (Ja rfl) kC mR|exact tW (I9 rfl) kC CD) rfl (B:=B) (A:=r.hA) (m:=n.hs.length) (c:=r.hc) (news:=n.hs.flatMap aZ) rfl (H.out.up.1.2.2) (cg aZ 4 (fun _=>rfl) _) (dS aZ oY _) nQ nQ ?_;intro A1 c1 δ1 ei hg1 hl1;try have p2:=(by first|exact Bg gM hg1 hl1 nU|exact Bg (gM.alloc _) hg1 hl1 nU))|(refine oO W1 AW (.tmp 9) (.tmp 11) rfl rfl (v:=.slice (some ⟨_,0,none⟩) 0 0) (by first|exact cx (by go_simp;done) (by go_simp;done)|exact(cx (by go_simp;done) (by go_simp;done)).alloc _|exact tW (Ja rfl) hg1 mR|exact tW (I9 rfl) hg1 CD) rfl (B:=B) (A:=r.pA) (m:=n.ps.length) (c:=r.pc) (news:=n.ps.flatMap dj) rfl (H.out.up.2.2.2) (cg dj 2 (fun _=>rfl) _) (dS dj Bi _) nQ nQ ?_;intro A2 c2 δ2 gM kC GN;try have p1:=(by first|exact Bg ei kC GN nU|exact Bg (ei.alloc _) kC GN nU)))
 all_goals try have p3:=(And.intro ei p2:eB W1.heap.size _ ⟨A1,c1,A2,c2⟩ n)
 all_goals try have p3:=(And.intro p1 gM:eB W1.heap.size _ ⟨A1,c1,A2,c2⟩ n)
 go_goals
 all_goals
  go_wp2;refine bodyPost_ret (v:=cD ⟨A1,c1,A2,c2⟩ n) ?_ rfl ?_
  ·simp only[results,Tryz.results17];go_simp
  ·refine⟨⟨A1,c1,A2,c2⟩,rfl,_,aq,?_⟩;refine QDK ?_;refine eB.mono (base:=W1.heap.size) ?_ cN.out;iterate 3 (refine eB.set ?_ dX.out _)
   exact p3
end
end Go.Proofs.YtcjjlikhlmfedaaGreatDoor
