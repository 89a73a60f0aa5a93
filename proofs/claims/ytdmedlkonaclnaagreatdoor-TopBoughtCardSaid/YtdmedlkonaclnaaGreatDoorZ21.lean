/- A part of the proof that a law of layer 12 holds, cut small by a program (names and blanks): Hw12. -/
import Derived.Test.YtdmedlkonaclnaaGreatDoorZ20
set_option maxRecDepth 100000
set_option maxHeartbeats 40000000
set_option linter.unusedVariables false
set_option linter.unusedSimpArgs false
namespace Go.Proofs.YtdmedlkonaclnaaGreatDoor
open Go.RowKit
open Nat renaming le_trans → nT, lt_of_lt_of_le → nL, le_refl → nR, zero_le → nE, le_of_lt → nS, lt_succ_self → nA
open Go.Proofs.Tryz renaming prog → nH
open Go renaming World → nJ, Value → nK
section
open Hd
def oS(d:Nat)(hs:List Me.kE)(k:Nat):List Me.kE:=(hs.take k).eraseIdx d
theorem JP{d:Nat}{hs:List Me.kE}(hk:d<hs.length):oS d hs (d+1)=oS d hs d:=by
 have hl:(hs.take d).length=d:=by rw[List.length_take];omega
 unfold oS;rw[bE hs hk,List.eraseIdx_of_length_le (l:=hs.take d) nQ,List.eraseIdx_append_of_length_le nQ,hl,Nat.sub_self];simp
theorem JQ{d k:Nat}{hs:List Me.kE}(hk:k<hs.length)(hne:k≠d):oS d hs (k+1)=oS d hs k++[nth hs k]:=by
 unfold oS;rw[bE hs hk];rcases Nat.lt_or_ge d k with h|h
 ·rw[List.eraseIdx_append_of_lt_length (by rw[List.length_take];omega)]
 ·rw[List.eraseIdx_of_length_le (by rw[List.length_append,List.length_take];simp;omega),List.eraseIdx_of_length_le (by rw[List.length_take];omega)]
theorem NA{d k:Nat}{hs:List Me.kE}:(oS d hs k).length<=hs.length:=by unfold oS;rw[List.length_eraseIdx];split<;>(rw[List.length_take];omega)
theorem Cw{d:Nat}{hs:List Me.kE}:oS d hs hs.length=hs.take d++hs.drop (d+1):=by unfold oS;rw[List.take_length,List.eraseIdx_eq_take_drop_succ]
def qT(d:Nat)(p:Me.Pr):Me.Pr:=⟨Me.Er d p.a,Me.Er d p.b⟩
def oR(d:Nat)(ps:List Me.Pr)(k:Nat):List Me.Pr:=((ps.take k).filter fun p=>decide (p.a≠(d:Int)/\p.b≠(d:Int))).map (qT d)
theorem zX{d k:Nat}{ps:List Me.Pr}(hk:k<ps.length)(h:(nth ps k).a=(d:Int)\/(nth ps k).b=(d:Int)):oR d ps (k+1)=oR d ps k:=by
 unfold oR;rw[bE ps hk,List.filter_append];have:([nth ps k].filter fun p=>decide (p.a≠(d:Int)/\p.b≠(d:Int)))=[]:=by
  rw[List.filter_cons_of_neg,List.filter_nil];simp only[decide_eq_true_eq];rcases h with h|h
  ·exact fun hc=>hc.1 h
  ·exact fun hc=>hc.2 h
 rw[this,List.append_nil]
theorem zY{d k:Nat}{ps:List Me.Pr}(hk:k<ps.length)(ha:(nth ps k).a≠(d:Int))(hb:(nth ps k).b≠(d:Int)):oR d ps (k+1)=oR d ps k++[qT d (nth ps k)]:=by
 unfold oR;rw[bE ps hk,List.filter_append,List.map_append];have:([nth ps k].filter fun p=>decide (p.a≠(d:Int)/\p.b≠(d:Int)))=[nth ps k]:=by rw[List.filter_cons_of_pos,List.filter_nil];exact decide_eq_true ⟨ha,hb⟩
 rw[this];rfl
theorem qE{d k:Nat}{ps:List Me.Pr}:(oR d ps k).length<=ps.length:=by unfold oR;rw[List.length_map];exact nT (List.length_filter_le ..) (by rw[List.length_take];omega)
theorem zN(n:Me.Net)(d:Nat):sJ n d=⟨n.m,oS d n.hs n.hs.length,oR d n.ps n.ps.length⟩:=by rw[Cw];unfold oR;rw[List.take_length];rfl
theorem ax.dM{w W:nJ}{b:Nat}{T:TypeId}{cs:Array nK}(h:ax w b T cs)[hg:au w.heap.size w W]:ax W b T cs:=(hg.out.2.2.2 b h.tN).trans h
theorem JF{W:nJ}{n:Me.Net}{d:Nat}{hA pA:Option Addr}{hc pc:Nat}{l:List Me.kE}{m:List Me.Pr}{w:nJ}[au w.heap.size w W][Le w.heap.size W](hl:l=oS d n.hs n.hs.length)(hm:m=oR d n.ps n.ps.length)(h1:W.ownsRow w.heap.size 93 4 (.slice hA l.length hc) l.length (l.flatMap bB))(h2:W.ownsRow w.heap.size 95 2 (.slice pA m.length pc) m.length (m.flatMap dH)):∃(r':cw),Ending.returned (.agg #[.int .i64 n.m,.slice hA l.length hc,.slice pA m.length pc])=.returned (cI r' (sJ n d))/\∃(δ:nJ),W=af w δ/\eN w.heap.size (af w δ) r' (sJ n d):=by
 refine⟨⟨hA,hc,pA,pc⟩,?_,W,aq,?_⟩
 ·rw[zN,<-hl,<-hm]
 ·rw[<-aq (w:=w) (W:=W),zN,<-hl,<-hm];exact⟨h1,h2⟩
theorem MD(r:cw)(n:Me.Net)(d:Nat)(B:Nat)(w:nJ)[hB:Le B w](h:bJ B w r n)(q1:n.hs.length<=1000)(q2:n.ps.length<=1000)(hp:∀p∈n.ps,p.a<=1000/\p.b<=1000):Calls nH 201 #[cI r n,.int .i64 d] w fun e w'=>∃(r':cw) (δ:nJ),e=.returned (cI r' (sJ n d))/\w'=af w δ/\eN w.heap.size (af w δ) r' (sJ n d):=by
 obtain⟨hA,hc,pA,pc⟩:=r;have H:=qh h;have HP:=qh hp;clear hp;have l1:=h.1.len;have l2:=h.2.len;clear h;go_enter Tryz.func201,Tryz.ntmps201;go_wp2_with fail;refine QCD ?_;intro W1 aH cJ dF cU dA dD eI;have ju:Lt (w.heap.size+2) W1:=nt aH;have kR:W1.cell? ⟨w.heap.size,0,none⟩=some (.int .i64 n.m):=by rw[aH.out];go_simp
 have mG:W1.cell? ⟨w.heap.size,1,none⟩=some (.slice hA n.hs.length hc):=by rw[aH.out];go_simp
 have jE:W1.cell? ⟨w.heap.size,2,none⟩=some (.slice pA n.ps.length pc):=by rw[aH.out];go_simp
 have X1:Hid (ax W1 (w.heap.size+2) 32 #[.int .i64 n.m,.slice none 0 0,.slice none 0 0]):=by rw[aH.out];exact qh (ax.new nW)
 have Z1:Hid (ax W1 (w.heap.size+1) 32 #[.int .i64 0,.slice none 0 0,.slice none 0 0]):=by rw[aH.out];exact qh (ax.alloc (ax.new nW) _)
 clear aH;have jl1:oy w.heap.size (w.heap.size+1+1):=⟨nQ⟩;have jl2:oy (w.heap.size+1) (w.heap.size+1+1):=⟨nQ⟩;have jl3:oy w.heap.size W1.heap.size:=⟨cU.out⟩;have jl4:oy (w.heap.size+1) W1.heap.size:=⟨nS eI.out⟩;go_loopg [6] n.hs.length (fun gg i wr=>∃(k cap:Nat) (A1:Option Addr) (l:List Me.kE),k<=n.hs.length/\gg=n.hs.length-k/\i=.int .i64 k/\Hid (l=oS d n.hs k)/\l.length<=n.hs.length/\Hid (ax wr (w.heap.size+2) 32 #[.int .i64 n.m,.slice A1 l.length cap,.slice none 0 0])/\Hid (wr.ownsRow W1.heap.size 93 4 (.slice A1 l.length cap) l.length (l.flatMap bB))/\Hid (ax wr (w.heap.size+1) 32 #[.int .i64 0,.slice none 0 0,.slice none 0 0])/\au w.heap.size w wr/\au (w.heap.size+1) W1 wr/\Le W1.heap.size wr)
 case atStart=>exact⟨0,0,none,[],nE _,rfl,rfl,qh rfl,nE _,X1,qh (World.ownsRow_nil _ _ _ _),Z1,inferInstance,inferInstance,inferInstance⟩
 case round=>
  obtain⟨k,cap,A1,l,hk,rfl,rfl,HL,Ut,HX,HO,HZ,i1,i2,i3⟩:=hrel;refine QDH ?_;intro jx jz j0 j6 j7 i4 i5;have cx1:=HX.out.cell (i:=1) rfl;have fx1:=HX.out.free 1;have cn1:wr.cell? ⟨w.heap.size,1,none⟩=some (.slice hA n.hs.length hc):=by rw[aZ i2.out _ _ (nA _)];assumption
  by_cases hlt:k<n.hs.length
  ·have hki:(k:Int)<(n.hs.length:Int):=nQ;have hk0:¬(k:Int)<0:=nQ;by_cases hd:k=d
   ·have JZ:((k:Int) != (d:Int))=false:=by simp[hd]
    have HK:Hid (l=oS d n.hs (k+1)):=by unfold Hid;rw[HL.out,hd];exact(JP nQ).symm
    go_wp2_with fail;go_roundg (n.hs.length-(k+1))
    case measure=>omega
    case rel=>exact⟨k+1,cap,A1,l,nQ,rfl,by go_num,HK,Ut,HX,HO,HZ,inferInstance,inferInstance,inferInstance⟩
   ·have JZ:((k:Int) != (d:Int))=true:=by simp;omega
    have HK:Hid (l++[nth n.hs k]=oS d n.hs (k+1)):=by unfold Hid;rw[HL.out];exact(JQ hlt hd).symm
    have hlk:l.length+1<=n.hs.length+1:=nQ;obtain⟨b,o,rfl,hb,d0,d1,d2,d3⟩:=(H.out.1.up (w':=wr)).hole hlt;have ib:Lt b wr:=⟨nL hb i4.out⟩;have ib1:Lt b W1:=⟨nL hb cJ.out⟩;obtain⟨x,hx⟩:∃x,nth n.hs k=x:=⟨_,rfl⟩;rw[hx] at d0 d1 d2 d3 HK;clear hx hb;go_wp2_with fail;go_region_law (refine cW W1 IS (.tmp 23) (.tmp 29) rfl rfl (v:=.slice A1 l.length cap) (n:=l.length) (xs:=l.flatMap bB) (by first|exact HO.out.drew.alloc _|exact HO.out.alloc _|exact HO.out) (by simp[Act.eval,Act.put]) (m:=1) (c:=1) (news:=bB x) (by simp[Act.eval,Act.put]) (gi rfl) rfl (qw x) nQ nQ ?_;intro A2 c2 δ2 iE mU);all_goals
     go_wp2_with fail;go_roundg (n.hs.length-(k+1))
     case measure=>omega
     case rel=>
      have BX:ax (ez W1.heap.size (wr.alloc (Obj.cells (bB x).toArray 93)).drew δ2) (w.heap.size+2) _ _:=((HX.out.alloc _).drew).ez ju.out _;have BZ:ax (ez W1.heap.size (wr.alloc (Obj.cells (bB x).toArray 93)).drew δ2) (w.heap.size+1) _ _:=((HZ.out.alloc _).drew).ez eI.out _;refine⟨k+1,c2,A2,l++[x],nQ,rfl,by go_num,HK,?_,?_,?_,?_,inferInstance,inferInstance,inferInstance⟩
      ·rw[HK.out];exact NA
      ·rw[List.length_append];exact qh (ax.set (cs:=#[.int .i64 n.m,.slice A1 l.length cap,.slice none 0 0]) BX 1 _)
      ·rw[List.length_append,List.flatMap_append];exact qh (dh (by simpa using iE) (eZ iE BX nU))
      ·exact qh (ax.fD BZ oN _)
  ·obtain rfl:k=n.hs.length:=by omega
   have hkn:¬((n.hs.length:Int)<(n.hs.length:Int)):=nQ;have cn2:wr.cell? ⟨w.heap.size,2,none⟩=some (.slice pA n.ps.length pc):=by rw[aZ i2.out _ _ (nA _)];assumption
   have HX0:=HX;have HO0:=HO;have HZ0:=HZ;clear HX HO HZ cx1 fx1;go_wp2_with fail;go_loopg [7] n.ps.length (fun gg i wq=>∃(k cap2:Nat) (A2:Option Addr) (m:List Me.Pr),k<=n.ps.length/\gg=n.ps.length-k/\i=.int .i64 k/\Hid (m=oR d n.ps k)/\m.length<=n.ps.length/\Hid (ax wq (w.heap.size+2) 32 #[.int .i64 n.m,.slice A1 l.length cap,.slice A2 m.length cap2])/\Hid (wq.ownsRow W1.heap.size 93 4 (.slice A1 l.length cap) l.length (l.flatMap bB))/\Hid (wq.ownsRow W1.heap.size 95 2 (.slice A2 m.length cap2) m.length (m.flatMap dH))/\Hid (ax wq (w.heap.size+1) 32 #[.int .i64 0,.slice none 0 0,.slice none 0 0])/\au w.heap.size w wq/\au (w.heap.size+1) W1 wq/\Le W1.heap.size wq)
   case atStart=>exact⟨0,0,none,[],nE _,rfl,rfl,qh rfl,nE _,HX0,HO0,qh (World.ownsRow_nil _ _ _ _),HZ0,i1,i2,i3⟩
   case round=>
    clear HX0 HO0 HZ0 jx jz j0 j6 j7 i4 i5 cn1 cn2 i1 i2 i3 hk hlt hkn;obtain⟨k,cap2,A2,m,hk,rfl,rfl,qN,hml,HX,HO,HM,HZ,i1,i2,i3⟩:=hrel;refine QDH ?_;intro jx jz j0 j6 j7 i4 i5;have cn2:wr.cell? ⟨w.heap.size,2,none⟩=some (.slice pA n.ps.length pc):=by rw[aZ i2.out _ _ (nA _)];assumption
    have cx2:=HX.out.cell (i:=2) rfl;have fx2:=HX.out.free 2;by_cases hlt:k<n.ps.length
    ·have hki:(k:Int)<(n.ps.length:Int):=nQ;have hk0:¬(k:Int)<0:=nQ;have hmk:m.length+1<=2000:=nQ;have jn1:oy wr.heap.size wr.heap.size:=⟨nR _⟩;have jn2:oy w.heap.size wr.heap.size:=⟨j6.out⟩;have jn3:oy (w.heap.size+1) wr.heap.size:=⟨j7.out⟩;obtain⟨b,o,rfl,hb,d0,d1⟩:=(H.out.2.up (w':=wr)).pr hlt;have ib:Lt b wr:=⟨nL hb i4.out⟩;have ib1:Lt b W1:=⟨nL hb cJ.out⟩;have hpx:=HP.out _ (aV n.ps hlt);have OQ:=qh (@zX d k n.ps hlt);have OR:=qh (@zY d k n.ps hlt);obtain⟨x,hx⟩:∃x,nth n.ps k=x:=⟨_,rfl⟩;rw[hx] at d0 d1 hpx OQ OR;clear hx hb;by_cases ha:x.a=(d:Int)
     ·have ha':(x.a==(d:Int))=true:=by simp[ha]
      have HK:=qh (OQ.out (.inl ha));clear OQ OR;go_wp2_with fail;go_roundg (n.ps.length-(k+1))
      case measure=>omega
      case rel=>exact⟨k+1,cap2,A2,m,nQ,rfl,by go_num,by unfold Hid;rw[HK.out];exact qN.out,hml,qh (ax.dM HX.out),qh (bg HO.out),qh (bg HM.out),qh (ax.dM HZ.out),inferInstance,inferInstance,inferInstance⟩
     by_cases hb:x.b=(d:Int)
     ·have ha':(x.a==(d:Int))=false:=by simp[ha]
      have hb':(x.b==(d:Int))=true:=by simp[hb]
      have HK:=qh (OQ.out (.inr hb));clear OQ OR;go_wp2_with fail;go_roundg (n.ps.length-(k+1))
      case measure=>omega
      case rel=>exact⟨k+1,cap2,A2,m,nQ,rfl,by go_num,by unfold Hid;rw[HK.out];exact qN.out,hml,qh (ax.dM HX.out),qh (bg HO.out),qh (bg HM.out),qh (ax.dM HZ.out),inferInstance,inferInstance,inferInstance⟩
     have HK:Hid (m++[qT d x]=oR d n.ps (k+1)):=by unfold Hid;rw[OR.out ha hb,qN.out]
     have ha':(x.a==(d:Int))=false:=by simp[ha]
     have hb':(x.b==(d:Int))=false:=by simp[hb]
     clear OQ OR ha hb;by_cases Gx:(d:Int)<x.a
     ·by_cases hgb:(d:Int)<x.b
      ·have HE:Hid (dH (qT d x)=[.int .i64 (x.a-1),.int .i64 (x.b-1)]):=by unfold Hid dH qT Me.Er;rw[if_pos Gx,if_pos hgb]
       go_wp2_with (at_builtin;(refine cq W1 Dh (.tmp 71) (.tmp 73) rfl rfl (bg HM.out) rfl rfl nW rfl (by simp[Value.oneCell']) nQ nQ ?_);intro A3 c3 δ3 mq rj);go_roundg (n.ps.length-(k+1))
       case measure=>omega
       case rel=>
        refine⟨k+1,c3,A3,m++[qT d x],nQ,rfl,by go_num,HK,?_,?_,?_,?_,?_,inferInstance,inferInstance,inferInstance⟩
        ·rw[HK.out];exact qE
        ·rw[List.length_append];exact qh (ax.set (cs:=#[.int .i64 n.m,.slice A1 l.length cap,.slice A2 m.length cap2]) (ax.ez (ax.alloc (ax.dM HX.out) _) ju.out δ3) 2 _)
        ·exact qh (dh (bV ((bg HO.out).alloc _) ((bg HM.out).alloc _) nU rj) (eZ (bV ((bg HO.out).alloc _) ((bg HM.out).alloc _) nU rj) (ax.ez (ax.alloc (ax.dM HX.out) _) ju.out δ3) nU))
        ·rw[List.length_append,List.flatMap_append,List.flatMap_singleton,HE.out];exact qh (dh (by simpa using mq) (eZ mq (ax.ez (ax.alloc (ax.dM HX.out) _) ju.out δ3) nU))
        ·exact qh (ax.fD (ax.ez (ax.alloc (ax.dM HZ.out) _) eI.out δ3) oN _)
      ·have HE:Hid (dH (qT d x)=[.int .i64 (x.a-1),.int .i64 (x.b)]):=by unfold Hid dH qT Me.Er;rw[if_pos Gx,if_neg hgb]
       go_wp2_with (at_builtin;(refine cq W1 Dh (.tmp 71) (.tmp 73) rfl rfl (bg HM.out) rfl rfl nW rfl (by simp[Value.oneCell']) nQ nQ ?_);intro A3 c3 δ3 mq rj);go_roundg (n.ps.length-(k+1))
       case measure=>omega
       case rel=>
        refine⟨k+1,c3,A3,m++[qT d x],nQ,rfl,by go_num,HK,?_,?_,?_,?_,?_,inferInstance,inferInstance,inferInstance⟩
        ·rw[HK.out];exact qE
        ·rw[List.length_append];exact qh (ax.set (cs:=#[.int .i64 n.m,.slice A1 l.length cap,.slice A2 m.length cap2]) (ax.ez (ax.alloc (ax.dM HX.out) _) ju.out δ3) 2 _)
        ·exact qh (dh (bV ((bg HO.out).alloc _) ((bg HM.out).alloc _) nU rj) (eZ (bV ((bg HO.out).alloc _) ((bg HM.out).alloc _) nU rj) (ax.ez (ax.alloc (ax.dM HX.out) _) ju.out δ3) nU))
        ·rw[List.length_append,List.flatMap_append,List.flatMap_singleton,HE.out];exact qh (dh (by simpa using mq) (eZ mq (ax.ez (ax.alloc (ax.dM HX.out) _) ju.out δ3) nU))
        ·exact qh (ax.fD (ax.ez (ax.alloc (ax.dM HZ.out) _) eI.out δ3) oN _)
     ·by_cases hgb:(d:Int)<x.b
      ·have HE:Hid (dH (qT d x)=[.int .i64 (x.a),.int .i64 (x.b-1)]):=by unfold Hid dH qT Me.Er;rw[if_neg Gx,if_pos hgb]
       go_wp2_with (at_builtin;(refine cq W1 Dh (.tmp 71) (.tmp 73) rfl rfl (bg HM.out) rfl rfl nW rfl (by simp[Value.oneCell']) nQ nQ ?_);intro A3 c3 δ3 mq rj);go_roundg (n.ps.length-(k+1))
       case measure=>omega
       case rel=>
        refine⟨k+1,c3,A3,m++[qT d x],nQ,rfl,by go_num,HK,?_,?_,?_,?_,?_,inferInstance,inferInstance,inferInstance⟩
        ·rw[HK.out];exact qE
        ·rw[List.length_append];exact qh (ax.set (cs:=#[.int .i64 n.m,.slice A1 l.length cap,.slice A2 m.length cap2]) (ax.ez (ax.alloc (ax.dM HX.out) _) ju.out δ3) 2 _)
        ·exact qh (dh (bV ((bg HO.out).alloc _) ((bg HM.out).alloc _) nU rj) (eZ (bV ((bg HO.out).alloc _) ((bg HM.out).alloc _) nU rj) (ax.ez (ax.alloc (ax.dM HX.out) _) ju.out δ3) nU))
        ·rw[List.length_append,List.flatMap_append,List.flatMap_singleton,HE.out];exact qh (dh (by simpa using mq) (eZ mq (ax.ez (ax.alloc (ax.dM HX.out) _) ju.out δ3) nU))
        ·exact qh (ax.fD (ax.ez (ax.alloc (ax.dM HZ.out) _) eI.out δ3) oN _)
      ·have HE:Hid (dH (qT d x)=[.int .i64 (x.a),.int .i64 (x.b)]):=by unfold Hid dH qT Me.Er;rw[if_neg Gx,if_neg hgb]
       go_wp2_with (at_builtin;(refine cq W1 Dh (.tmp 71) (.tmp 73) rfl rfl (bg HM.out) rfl rfl nW rfl (by simp[Value.oneCell']) nQ nQ ?_);intro A3 c3 δ3 mq rj);go_roundg (n.ps.length-(k+1))
       case measure=>omega
       case rel=>
        refine⟨k+1,c3,A3,m++[qT d x],nQ,rfl,by go_num,HK,?_,?_,?_,?_,?_,inferInstance,inferInstance,inferInstance⟩
        ·rw[HK.out];exact qE
        ·rw[List.length_append];exact qh (ax.set (cs:=#[.int .i64 n.m,.slice A1 l.length cap,.slice A2 m.length cap2]) (ax.ez (ax.alloc (ax.dM HX.out) _) ju.out δ3) 2 _)
        ·exact qh (dh (bV ((bg HO.out).alloc _) ((bg HM.out).alloc _) nU rj) (eZ (bV ((bg HO.out).alloc _) ((bg HM.out).alloc _) nU rj) (ax.ez (ax.alloc (ax.dM HX.out) _) ju.out δ3) nU))
        ·rw[List.length_append,List.flatMap_append,List.flatMap_singleton,HE.out];exact qh (dh (by simpa using mq) (eZ mq (ax.ez (ax.alloc (ax.dM HX.out) _) ju.out δ3) nU))
        ·exact qh (ax.fD (ax.ez (ax.alloc (ax.dM HZ.out) _) eI.out δ3) oN _)
    ·obtain rfl:k=n.ps.length:=by omega
     have hkn:¬((n.ps.length:Int)<(n.ps.length:Int)):=nQ;have cx0:=HX.out.cell (i:=0) rfl;have cx1:=HX.out.cell (i:=1) rfl;have fz0:=HZ.out.free 0;have fz1:=HZ.out.free 1;have fz2:=HZ.out.free 2;have cz0:=HZ.out.cell (i:=0) rfl;have cz1:=HZ.out.cell (i:=1) rfl;have cz2:=HZ.out.cell (i:=2) rfl;go_wp2_with fail;refine bodyPost_ret (v:=.agg #[.int .i64 n.m,.slice A1 l.length cap,.slice A2 m.length cap2]) ?_ rfl ?_
     ·simp only[results,Tryz.results201];go_simp
     ·apply JF (w:=w) HL.out qN.out
      ·iterate 3 (refine dh ?_ (eZ HO.out HZ.out nU))
       exact de HO.out cU.out
      ·iterate 3 (refine dh ?_ (eZ HM.out HZ.out nU))
       exact de HM.out cU.out
end
end Go.Proofs.YtdmedlkonaclnaaGreatDoor
