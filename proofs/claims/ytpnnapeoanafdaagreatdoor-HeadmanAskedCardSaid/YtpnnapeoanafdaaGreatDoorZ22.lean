/- A part of the proof that a law of layer 12 holds, cut small by a program (names and blanks): Hw12. -/
import Derived.Test.YtpnnapeoanafdaaGreatDoorZ21
set_option maxRecDepth 100000
set_option maxHeartbeats 40000000
set_option linter.unusedVariables false
set_option linter.unusedSimpArgs false
namespace Go.Proofs.YtpnnapeoanafdaaGreatDoor
open Go.RowKit
open Nat renaming le_trans → nT, lt_of_lt_of_le → nL, le_refl → nR, zero_le → nE, le_of_lt → nS, lt_succ_self → nA
open Go.Proofs.Tryz renaming prog → nH
open Go renaming World → nJ, Value → nK
section
open Hd
def oV(d:Nat)(hs:List Me.kr)(k:Nat):List Me.kr:=(hs.take k).eraseIdx d
theorem KM{d:Nat}{hs:List Me.kr}(hk:d<hs.length):oV d hs (d+1)=oV d hs d:=by
 have hl:(hs.take d).length=d:=by rw[List.length_take];omega
 unfold oV;rw[bz hs hk,List.eraseIdx_of_length_le (l:=hs.take d) nQ,List.eraseIdx_append_of_length_le nQ,hl,Nat.sub_self];simp
theorem KN{d k:Nat}{hs:List Me.kr}(hk:k<hs.length)(hne:k≠d):oV d hs (k+1)=oV d hs k++[nth hs k]:=by
 unfold oV;rw[bz hs hk];rcases Nat.lt_or_ge d k with h|h
 ·rw[List.eraseIdx_append_of_lt_length (by rw[List.length_take];omega)]
 ·rw[List.eraseIdx_of_length_le (by rw[List.length_append,List.length_take];simp;omega),List.eraseIdx_of_length_le (by rw[List.length_take];omega)]
theorem Pf{d k:Nat}{hs:List Me.kr}:(oV d hs k).length<=hs.length:=by unfold oV;rw[List.length_eraseIdx];split<;>(rw[List.length_take];omega)
theorem Dd{d:Nat}{hs:List Me.kr}:oV d hs hs.length=hs.take d++hs.drop (d+1):=by unfold oV;rw[List.take_length,List.eraseIdx_eq_take_drop_succ]
def qU(d:Nat)(p:Me.Pr):Me.Pr:=⟨Me.qV d p.a,Me.qV d p.b⟩
def oU(d:Nat)(ps:List Me.Pr)(k:Nat):List Me.Pr:=((ps.take k).filter fun p=>decide (p.a≠(d:Int)/\p.b≠(d:Int))).map (qU d)
theorem Aq{d k:Nat}{ps:List Me.Pr}(hk:k<ps.length)(h:(nth ps k).a=(d:Int)\/(nth ps k).b=(d:Int)):oU d ps (k+1)=oU d ps k:=by
 unfold oU;rw[bz ps hk,List.filter_append];have:([nth ps k].filter fun p=>decide (p.a≠(d:Int)/\p.b≠(d:Int)))=[]:=by
  rw[List.filter_cons_of_neg,List.filter_nil];simp only[decide_eq_true_eq];rcases h with h|h
  ·exact fun hc=>hc.1 h
  ·exact fun hc=>hc.2 h
 rw[this,List.append_nil]
theorem Ar{d k:Nat}{ps:List Me.Pr}(hk:k<ps.length)(ha:(nth ps k).a≠(d:Int))(hb:(nth ps k).b≠(d:Int)):oU d ps (k+1)=oU d ps k++[qU d (nth ps k)]:=by
 unfold oU;rw[bz ps hk,List.filter_append,List.map_append];have:([nth ps k].filter fun p=>decide (p.a≠(d:Int)/\p.b≠(d:Int)))=[nth ps k]:=by rw[List.filter_cons_of_pos,List.filter_nil];exact decide_eq_true ⟨ha,hb⟩
 rw[this];rfl
theorem qG{d k:Nat}{ps:List Me.Pr}:(oU d ps k).length<=ps.length:=by unfold oU;rw[List.length_map];exact nT (List.length_filter_le ..) (by rw[List.length_take];omega)
theorem Ac(n:Me.Net)(d:Nat):nM n d=⟨n.m,oV d n.hs n.hs.length,oU d n.ps n.ps.length⟩:=by rw[Dd];unfold oU;rw[List.take_length];rfl
theorem ay.eO{w W:nJ}{b:Nat}{T:TypeId}{cs:Array nK}(h:ay w b T cs)[hg:aD w.heap.size w W]:ay W b T cs:=(hg.out.2.2.2 b h.tN).trans h
theorem KE{W:nJ}{n:Me.Net}{d:Nat}{hA pA:Option Addr}{hc pc:Nat}{l:List Me.kr}{m:List Me.Pr}{w:nJ}[aD w.heap.size w W][Le w.heap.size W](hl:l=oV d n.hs n.hs.length)(hm:m=oU d n.ps n.ps.length)(h1:W.ownsRow w.heap.size 150 4 (.slice hA l.length hc) l.length (l.flatMap bE))(h2:W.ownsRow w.heap.size 152 2 (.slice pA m.length pc) m.length (m.flatMap dG)):∃(r':cx),Ending.returned (.agg #[.int .i64 n.m,.slice hA l.length hc,.slice pA m.length pc])=.returned (cH r' (nM n d))/\∃(δ:nJ),W=ah w δ/\eP w.heap.size (ah w δ) r' (nM n d):=by
 refine⟨⟨hA,hc,pA,pc⟩,?_,W,ai,?_⟩
 ·rw[Ac,<-hl,<-hm]
 ·rw[<-ai (w:=w) (W:=W),Ac,<-hl,<-hm];exact⟨h1,h2⟩
theorem NP(r:cx)(n:Me.Net)(d:Nat)(B:Nat)(w:nJ)[hB:Le B w](h:bL B w r n)(q1:n.hs.length<=1000)(q2:n.ps.length<=1000)(hp:∀p∈n.ps,p.a<=1000/\p.b<=1000):Calls nH 227 #[cH r n,.int .i64 d] w fun e w'=>∃(r':cx) (δ:nJ),e=.returned (cH r' (nM n d))/\w'=ah w δ/\eP w.heap.size (ah w δ) r' (nM n d):=by
 obtain⟨hA,hc,pA,pc⟩:=r;have H:=qh h;have HP:=qh hp;clear hp;have l1:=h.1.len;have l2:=h.2.len;clear h;go_enter Tryz.func227,Tryz.ntmps227;go_wp2_with fail;refine QCC ?_;intro W1 aH cJ dF cW di dz eL;have jG:Lt (w.heap.size+2) W1:=nr aH;have lC:W1.cell? ⟨w.heap.size,0,none⟩=some (.int .i64 n.m):=by rw[aH.out];go_simp
 have mQ:W1.cell? ⟨w.heap.size,1,none⟩=some (.slice hA n.hs.length hc):=by rw[aH.out];go_simp
 have jI:W1.cell? ⟨w.heap.size,2,none⟩=some (.slice pA n.ps.length pc):=by rw[aH.out];go_simp
 have X1:Hid (ay W1 (w.heap.size+2) 32 #[.int .i64 n.m,.slice none 0 0,.slice none 0 0]):=by rw[aH.out];exact qh (ay.new nW)
 have Z1:Hid (ay W1 (w.heap.size+1) 32 #[.int .i64 0,.slice none 0 0,.slice none 0 0]):=by rw[aH.out];exact qh (ay.alloc (ay.new nW) _)
 clear aH;have jl1:oE w.heap.size (w.heap.size+1+1):=⟨nQ⟩;have jl2:oE (w.heap.size+1) (w.heap.size+1+1):=⟨nQ⟩;have jl3:oE w.heap.size W1.heap.size:=⟨cW.out⟩;have jl4:oE (w.heap.size+1) W1.heap.size:=⟨nS eL.out⟩;go_loopg [6] n.hs.length (fun gg i wr=>∃(k cap:Nat) (A1:Option Addr) (l:List Me.kr),k<=n.hs.length/\gg=n.hs.length-k/\i=.int .i64 k/\Hid (l=oV d n.hs k)/\l.length<=n.hs.length/\Hid (ay wr (w.heap.size+2) 32 #[.int .i64 n.m,.slice A1 l.length cap,.slice none 0 0])/\Hid (wr.ownsRow W1.heap.size 150 4 (.slice A1 l.length cap) l.length (l.flatMap bE))/\Hid (ay wr (w.heap.size+1) 32 #[.int .i64 0,.slice none 0 0,.slice none 0 0])/\aD w.heap.size w wr/\aD (w.heap.size+1) W1 wr/\Le W1.heap.size wr)
 case atStart=>exact⟨0,0,none,[],nE _,rfl,rfl,qh rfl,nE _,X1,qh (World.ownsRow_nil _ _ _ _),Z1,inferInstance,inferInstance,inferInstance⟩
 case round=>
  obtain⟨k,cap,A1,l,hk,rfl,rfl,HL,VI,HX,HO,HZ,i1,i2,i3⟩:=hrel;refine QDD ?_;intro jx jz j0 j6 j7 i4 i5;have cx1:=HX.out.cell (i:=1) rfl;have fx1:=HX.out.free 1;have cn1:wr.cell? ⟨w.heap.size,1,none⟩=some (.slice hA n.hs.length hc):=by rw[bB i2.out _ _ (nA _)];assumption
  by_cases hlt:k<n.hs.length
  ·have hki:(k:Int)<(n.hs.length:Int):=nQ;have hk0:¬(k:Int)<0:=nQ;by_cases hd:k=d
   ·have Ht:((k:Int) != (d:Int))=false:=by simp[hd]
    have HK:Hid (l=oV d n.hs (k+1)):=by unfold Hid;rw[HL.out,hd];exact(KM nQ).symm
    go_wp2_with fail;go_roundg (n.hs.length-(k+1))
    case measure=>omega
    case rel=>exact⟨k+1,cap,A1,l,nQ,rfl,by go_num,HK,VI,HX,HO,HZ,inferInstance,inferInstance,inferInstance⟩
   ·have Ht:((k:Int) != (d:Int))=true:=by simp;omega
    have HK:Hid (l++[nth n.hs k]=oV d n.hs (k+1)):=by unfold Hid;rw[HL.out];exact(KN hlt hd).symm
    have hlk:l.length+1<=n.hs.length+1:=nQ;obtain⟨b,o,rfl,hb,d0,d1,d2,d3⟩:=(H.out.1.up (w':=wr)).hole hlt;have ib:Lt b wr:=⟨nL hb i4.out⟩;have ib1:Lt b W1:=⟨nL hb cJ.out⟩;obtain⟨x,hx⟩:∃x,nth n.hs k=x:=⟨_,rfl⟩;rw[hx] at d0 d1 d2 d3 HK;clear hx hb;go_wp2_with fail;go_region_law (refine cU W1 JO (.tmp 23) (.tmp 29) rfl rfl (v:=.slice A1 l.length cap) (n:=l.length) (xs:=l.flatMap bE) (by first|exact HO.out.drew.alloc _|exact HO.out.alloc _|exact HO.out) (by simp[Act.eval,Act.put]) (m:=1) (c:=1) (news:=bE x) (by simp[Act.eval,Act.put]) (ia rfl) rfl (qA x) nQ nQ ?_;intro A2 c2 δ2 gK mu);all_goals
     go_wp2_with fail;go_roundg (n.hs.length-(k+1))
     case measure=>omega
     case rel=>
      have BX:ay (ez W1.heap.size (wr.alloc (Obj.cells (bE x).toArray 150)).drew δ2) (w.heap.size+2) _ _:=((HX.out.alloc _).drew).ez jG.out _;have BZ:ay (ez W1.heap.size (wr.alloc (Obj.cells (bE x).toArray 150)).drew δ2) (w.heap.size+1) _ _:=((HZ.out.alloc _).drew).ez eL.out _;refine⟨k+1,c2,A2,l++[x],nQ,rfl,by go_num,HK,?_,?_,?_,?_,inferInstance,inferInstance,inferInstance⟩
      ·rw[HK.out];exact Pf
      ·rw[List.length_append];exact qh (ay.set (cs:=#[.int .i64 n.m,.slice A1 l.length cap,.slice none 0 0]) BX 1 _)
      ·rw[List.length_append,List.flatMap_append];exact qh (cZ (by simpa using gK) (fc gK BX nU))
      ·exact qh (ay.fB BZ oP _)
  ·obtain rfl:k=n.hs.length:=by omega
   have hkn:¬((n.hs.length:Int)<(n.hs.length:Int)):=nQ;have cn2:wr.cell? ⟨w.heap.size,2,none⟩=some (.slice pA n.ps.length pc):=by rw[bB i2.out _ _ (nA _)];assumption
   have HX0:=HX;have HO0:=HO;have HZ0:=HZ;clear HX HO HZ cx1 fx1;go_wp2_with fail;go_loopg [7] n.ps.length (fun gg i wq=>∃(k cap2:Nat) (A2:Option Addr) (m:List Me.Pr),k<=n.ps.length/\gg=n.ps.length-k/\i=.int .i64 k/\Hid (m=oU d n.ps k)/\m.length<=n.ps.length/\Hid (ay wq (w.heap.size+2) 32 #[.int .i64 n.m,.slice A1 l.length cap,.slice A2 m.length cap2])/\Hid (wq.ownsRow W1.heap.size 150 4 (.slice A1 l.length cap) l.length (l.flatMap bE))/\Hid (wq.ownsRow W1.heap.size 152 2 (.slice A2 m.length cap2) m.length (m.flatMap dG))/\Hid (ay wq (w.heap.size+1) 32 #[.int .i64 0,.slice none 0 0,.slice none 0 0])/\aD w.heap.size w wq/\aD (w.heap.size+1) W1 wq/\Le W1.heap.size wq)
   case atStart=>exact⟨0,0,none,[],nE _,rfl,rfl,qh rfl,nE _,HX0,HO0,qh (World.ownsRow_nil _ _ _ _),HZ0,i1,i2,i3⟩
   case round=>
    clear HX0 HO0 HZ0 jx jz j0 j6 j7 i4 i5 cn1 cn2 i1 i2 i3 hk hlt hkn;obtain⟨k,cap2,A2,m,hk,rfl,rfl,qQ,hml,HX,HO,HM,HZ,i1,i2,i3⟩:=hrel;refine QDD ?_;intro jx jz j0 j6 j7 i4 i5;have cn2:wr.cell? ⟨w.heap.size,2,none⟩=some (.slice pA n.ps.length pc):=by rw[bB i2.out _ _ (nA _)];assumption
    have cx2:=HX.out.cell (i:=2) rfl;have fx2:=HX.out.free 2;by_cases hlt:k<n.ps.length
    ·have hki:(k:Int)<(n.ps.length:Int):=nQ;have hk0:¬(k:Int)<0:=nQ;have hmk:m.length+1<=2000:=nQ;have jn1:oE wr.heap.size wr.heap.size:=⟨nR _⟩;have jn2:oE w.heap.size wr.heap.size:=⟨j6.out⟩;have jn3:oE (w.heap.size+1) wr.heap.size:=⟨j7.out⟩;obtain⟨b,o,rfl,hb,d0,d1⟩:=(H.out.2.up (w':=wr)).pr hlt;have ib:Lt b wr:=⟨nL hb i4.out⟩;have ib1:Lt b W1:=⟨nL hb cJ.out⟩;have hpx:=HP.out _ (aR n.ps hlt);have Qf:=qh (@Aq d k n.ps hlt);have Qg:=qh (@Ar d k n.ps hlt);obtain⟨x,hx⟩:∃x,nth n.ps k=x:=⟨_,rfl⟩;rw[hx] at d0 d1 hpx Qf Qg;clear hx hb;by_cases ha:x.a=(d:Int)
     ·have ha':(x.a==(d:Int))=true:=by simp[ha]
      have HK:=qh (Qf.out (.inl ha));clear Qf Qg;go_wp2_with fail;go_roundg (n.ps.length-(k+1))
      case measure=>omega
      case rel=>exact⟨k+1,cap2,A2,m,nQ,rfl,by go_num,by unfold Hid;rw[HK.out];exact qQ.out,hml,qh (ay.eO HX.out),qh (bu HO.out),qh (bu HM.out),qh (ay.eO HZ.out),inferInstance,inferInstance,inferInstance⟩
     by_cases hb:x.b=(d:Int)
     ·have ha':(x.a==(d:Int))=false:=by simp[ha]
      have hb':(x.b==(d:Int))=true:=by simp[hb]
      have HK:=qh (Qf.out (.inr hb));clear Qf Qg;go_wp2_with fail;go_roundg (n.ps.length-(k+1))
      case measure=>omega
      case rel=>exact⟨k+1,cap2,A2,m,nQ,rfl,by go_num,by unfold Hid;rw[HK.out];exact qQ.out,hml,qh (ay.eO HX.out),qh (bu HO.out),qh (bu HM.out),qh (ay.eO HZ.out),inferInstance,inferInstance,inferInstance⟩
     have HK:Hid (m++[qU d x]=oU d n.ps (k+1)):=by unfold Hid;rw[Qg.out ha hb,qQ.out]
     have ha':(x.a==(d:Int))=false:=by simp[ha]
     have hb':(x.b==(d:Int))=false:=by simp[hb]
     clear Qf Qg ha hb;by_cases Hu:(d:Int)<x.a
     ·by_cases hgb:(d:Int)<x.b
      ·have HE:Hid (dG (qU d x)=[.int .i64 (x.a-1),.int .i64 (x.b-1)]):=by unfold Hid dG qU Me.qV;rw[if_pos Hu,if_pos hgb]
       go_wp2_with (at_builtin;(refine bP W1 DS (.tmp 71) (.tmp 73) rfl rfl (bu HM.out) rfl rfl nW rfl (by simp[Value.oneCell']) nQ nQ ?_);intro A3 c3 δ3 lK uO);go_roundg (n.ps.length-(k+1))
       case measure=>omega
       case rel=>
        refine⟨k+1,c3,A3,m++[qU d x],nQ,rfl,by go_num,HK,?_,?_,?_,?_,?_,inferInstance,inferInstance,inferInstance⟩
        ·rw[HK.out];exact qG
        ·rw[List.length_append];exact qh (ay.set (cs:=#[.int .i64 n.m,.slice A1 l.length cap,.slice A2 m.length cap2]) (ay.ez (ay.alloc (ay.eO HX.out) _) jG.out δ3) 2 _)
        ·exact qh (cZ (bX ((bu HO.out).alloc _) ((bu HM.out).alloc _) nU uO) (fc (bX ((bu HO.out).alloc _) ((bu HM.out).alloc _) nU uO) (ay.ez (ay.alloc (ay.eO HX.out) _) jG.out δ3) nU))
        ·rw[List.length_append,List.flatMap_append,List.flatMap_singleton,HE.out];exact qh (cZ (by simpa using lK) (fc lK (ay.ez (ay.alloc (ay.eO HX.out) _) jG.out δ3) nU))
        ·exact qh (ay.fB (ay.ez (ay.alloc (ay.eO HZ.out) _) eL.out δ3) oP _)
      ·have HE:Hid (dG (qU d x)=[.int .i64 (x.a-1),.int .i64 (x.b)]):=by unfold Hid dG qU Me.qV;rw[if_pos Hu,if_neg hgb]
       go_wp2_with (at_builtin;(refine bP W1 DS (.tmp 71) (.tmp 73) rfl rfl (bu HM.out) rfl rfl nW rfl (by simp[Value.oneCell']) nQ nQ ?_);intro A3 c3 δ3 lK uO);go_roundg (n.ps.length-(k+1))
       case measure=>omega
       case rel=>
        refine⟨k+1,c3,A3,m++[qU d x],nQ,rfl,by go_num,HK,?_,?_,?_,?_,?_,inferInstance,inferInstance,inferInstance⟩
        ·rw[HK.out];exact qG
        ·rw[List.length_append];exact qh (ay.set (cs:=#[.int .i64 n.m,.slice A1 l.length cap,.slice A2 m.length cap2]) (ay.ez (ay.alloc (ay.eO HX.out) _) jG.out δ3) 2 _)
        ·exact qh (cZ (bX ((bu HO.out).alloc _) ((bu HM.out).alloc _) nU uO) (fc (bX ((bu HO.out).alloc _) ((bu HM.out).alloc _) nU uO) (ay.ez (ay.alloc (ay.eO HX.out) _) jG.out δ3) nU))
        ·rw[List.length_append,List.flatMap_append,List.flatMap_singleton,HE.out];exact qh (cZ (by simpa using lK) (fc lK (ay.ez (ay.alloc (ay.eO HX.out) _) jG.out δ3) nU))
        ·exact qh (ay.fB (ay.ez (ay.alloc (ay.eO HZ.out) _) eL.out δ3) oP _)
     ·by_cases hgb:(d:Int)<x.b
      ·have HE:Hid (dG (qU d x)=[.int .i64 (x.a),.int .i64 (x.b-1)]):=by unfold Hid dG qU Me.qV;rw[if_neg Hu,if_pos hgb]
       go_wp2_with (at_builtin;(refine bP W1 DS (.tmp 71) (.tmp 73) rfl rfl (bu HM.out) rfl rfl nW rfl (by simp[Value.oneCell']) nQ nQ ?_);intro A3 c3 δ3 lK uO);go_roundg (n.ps.length-(k+1))
       case measure=>omega
       case rel=>
        refine⟨k+1,c3,A3,m++[qU d x],nQ,rfl,by go_num,HK,?_,?_,?_,?_,?_,inferInstance,inferInstance,inferInstance⟩
        ·rw[HK.out];exact qG
        ·rw[List.length_append];exact qh (ay.set (cs:=#[.int .i64 n.m,.slice A1 l.length cap,.slice A2 m.length cap2]) (ay.ez (ay.alloc (ay.eO HX.out) _) jG.out δ3) 2 _)
        ·exact qh (cZ (bX ((bu HO.out).alloc _) ((bu HM.out).alloc _) nU uO) (fc (bX ((bu HO.out).alloc _) ((bu HM.out).alloc _) nU uO) (ay.ez (ay.alloc (ay.eO HX.out) _) jG.out δ3) nU))
        ·rw[List.length_append,List.flatMap_append,List.flatMap_singleton,HE.out];exact qh (cZ (by simpa using lK) (fc lK (ay.ez (ay.alloc (ay.eO HX.out) _) jG.out δ3) nU))
        ·exact qh (ay.fB (ay.ez (ay.alloc (ay.eO HZ.out) _) eL.out δ3) oP _)
      ·have HE:Hid (dG (qU d x)=[.int .i64 (x.a),.int .i64 (x.b)]):=by unfold Hid dG qU Me.qV;rw[if_neg Hu,if_neg hgb]
       go_wp2_with (at_builtin;(refine bP W1 DS (.tmp 71) (.tmp 73) rfl rfl (bu HM.out) rfl rfl nW rfl (by simp[Value.oneCell']) nQ nQ ?_);intro A3 c3 δ3 lK uO);go_roundg (n.ps.length-(k+1))
       case measure=>omega
       case rel=>
        refine⟨k+1,c3,A3,m++[qU d x],nQ,rfl,by go_num,HK,?_,?_,?_,?_,?_,inferInstance,inferInstance,inferInstance⟩
        ·rw[HK.out];exact qG
        ·rw[List.length_append];exact qh (ay.set (cs:=#[.int .i64 n.m,.slice A1 l.length cap,.slice A2 m.length cap2]) (ay.ez (ay.alloc (ay.eO HX.out) _) jG.out δ3) 2 _)
        ·exact qh (cZ (bX ((bu HO.out).alloc _) ((bu HM.out).alloc _) nU uO) (fc (bX ((bu HO.out).alloc _) ((bu HM.out).alloc _) nU uO) (ay.ez (ay.alloc (ay.eO HX.out) _) jG.out δ3) nU))
        ·rw[List.length_append,List.flatMap_append,List.flatMap_singleton,HE.out];exact qh (cZ (by simpa using lK) (fc lK (ay.ez (ay.alloc (ay.eO HX.out) _) jG.out δ3) nU))
        ·exact qh (ay.fB (ay.ez (ay.alloc (ay.eO HZ.out) _) eL.out δ3) oP _)
    ·obtain rfl:k=n.ps.length:=by omega
     have hkn:¬((n.ps.length:Int)<(n.ps.length:Int)):=nQ;have cx0:=HX.out.cell (i:=0) rfl;have cx1:=HX.out.cell (i:=1) rfl;have fz0:=HZ.out.free 0;have fz1:=HZ.out.free 1;have fz2:=HZ.out.free 2;have cz0:=HZ.out.cell (i:=0) rfl;have cz1:=HZ.out.cell (i:=1) rfl;have cz2:=HZ.out.cell (i:=2) rfl;go_wp2_with fail;refine bodyPost_ret (v:=.agg #[.int .i64 n.m,.slice A1 l.length cap,.slice A2 m.length cap2]) ?_ rfl ?_
     ·simp only[results,Tryz.results227];go_simp
     ·apply KE (w:=w) HL.out qQ.out
      ·iterate 3 (refine cZ ?_ (fc HO.out HZ.out nU))
       exact dA HO.out cW.out
      ·iterate 3 (refine cZ ?_ (fc HM.out HZ.out nU))
       exact dA HM.out cW.out
end
end Go.Proofs.YtpnnapeoanafdaaGreatDoor
