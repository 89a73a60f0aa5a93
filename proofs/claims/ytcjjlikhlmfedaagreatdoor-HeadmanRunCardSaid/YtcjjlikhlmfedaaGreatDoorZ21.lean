/- A part of the proof that the statement HeadmanRunCardSaid holds, cut small by a program (names and blanks): Hw12. -/
import Derived.Test.YtcjjlikhlmfedaaGreatDoorZ20
set_option maxRecDepth 100000
set_option maxHeartbeats 40000000
set_option linter.unusedVariables false
set_option linter.unusedSimpArgs false
namespace Go.Proofs.YtcjjlikhlmfedaaGreatDoor
open Go.RowKit
open Nat renaming le_trans → nT, lt_of_lt_of_le → nL, le_refl → nR, zero_le → nE, le_of_lt → nS, lt_succ_self → nA
open Go.Proofs.Tryz renaming prog → nH
open Go renaming World → nJ, Value → nK
section
open Hd
def mW(d:Nat)(hs:List Me.jJ)(k:Nat):List Me.jJ:=(hs.take k).eraseIdx d
theorem GF{d:Nat}{hs:List Me.jJ}(hk:d<hs.length):mW d hs (d+1)=mW d hs d:=by
 have hl:(hs.take d).length=d:=by rw[List.length_take];omega
 unfold mW;rw[bu hs hk,List.eraseIdx_of_length_le (l:=hs.take d) nQ,List.eraseIdx_append_of_length_le nQ,hl,Nat.sub_self];simp
theorem GG{d k:Nat}{hs:List Me.jJ}(hk:k<hs.length)(hne:k≠d):mW d hs (k+1)=mW d hs k++[nth hs k]:=by
 unfold mW;rw[bu hs hk];rcases Nat.lt_or_ge d k with h|h
 ·rw[List.eraseIdx_append_of_lt_length (by rw[List.length_take];omega)]
 ·rw[List.eraseIdx_of_length_le (by rw[List.length_append,List.length_take];simp;omega),List.eraseIdx_of_length_le (by rw[List.length_take];omega)]
theorem KH{d k:Nat}{hs:List Me.jJ}:(mW d hs k).length<=hs.length:=by unfold mW;rw[List.length_eraseIdx];split<;>(rw[List.length_take];omega)
theorem Ah{d:Nat}{hs:List Me.jJ}:mW d hs hs.length=hs.take d++hs.drop (d+1):=by unfold mW;rw[List.take_length,List.eraseIdx_eq_take_drop_succ]
def pO(d:Nat)(p:Me.Pr):Me.Pr:=⟨Me.Ck d p.a,Me.Ck d p.b⟩
def mV(d:Nat)(ps:List Me.Pr)(k:Nat):List Me.Pr:=((ps.take k).filter fun p=>decide (p.a≠(d:Int)/\p.b≠(d:Int))).map (pO d)
theorem xP{d k:Nat}{ps:List Me.Pr}(hk:k<ps.length)(h:(nth ps k).a=(d:Int)\/(nth ps k).b=(d:Int)):mV d ps (k+1)=mV d ps k:=by
 unfold mV;rw[bu ps hk,List.filter_append];have:([nth ps k].filter fun p=>decide (p.a≠(d:Int)/\p.b≠(d:Int)))=[]:=by
  rw[List.filter_cons_of_neg,List.filter_nil];simp only[decide_eq_true_eq];rcases h with h|h
  ·exact fun hc=>hc.1 h
  ·exact fun hc=>hc.2 h
 rw[this,List.append_nil]
theorem xQ{d k:Nat}{ps:List Me.Pr}(hk:k<ps.length)(ha:(nth ps k).a≠(d:Int))(hb:(nth ps k).b≠(d:Int)):mV d ps (k+1)=mV d ps k++[pO d (nth ps k)]:=by
 unfold mV;rw[bu ps hk,List.filter_append,List.map_append];have:([nth ps k].filter fun p=>decide (p.a≠(d:Int)/\p.b≠(d:Int)))=[nth ps k]:=by rw[List.filter_cons_of_pos,List.filter_nil];exact decide_eq_true ⟨ha,hb⟩
 rw[this];rfl
theorem o9{d k:Nat}{ps:List Me.Pr}:(mV d ps k).length<=ps.length:=by unfold mV;rw[List.length_map];exact nT (List.length_filter_le ..) (by rw[List.length_take];omega)
theorem xG(n:Me.Net)(d:Nat):qJ n d=⟨n.m,mW d n.hs n.hs.length,mV d n.ps n.ps.length⟩:=by rw[Ah];unfold mV;rw[List.take_length];rfl
theorem av.eA{w W:nJ}{b:Nat}{T:TypeId}{cs:Array nK}(h:av w b T cs)[hg:aC w.heap.size w W]:av W b T cs:=(hg.out.2.2.2 b h.rO).trans h
theorem Gy{W:nJ}{n:Me.Net}{d:Nat}{hA pA:Option Addr}{hc pc:Nat}{l:List Me.jJ}{m:List Me.Pr}{w:nJ}[aC w.heap.size w W][Le w.heap.size W](hl:l=mW d n.hs n.hs.length)(hm:m=mV d n.ps n.ps.length)(h1:W.ownsRow w.heap.size 105 4 (.slice hA l.length hc) l.length (l.flatMap aZ))(h2:W.ownsRow w.heap.size 109 2 (.slice pA m.length pc) m.length (m.flatMap dj)):∃(r':cw),Ending.returned (.agg #[.int .i64 n.m,.slice hA l.length hc,.slice pA m.length pc])=.returned (cD r' (qJ n d))/\∃(δ:nJ),W=af w δ/\eB w.heap.size (af w δ) r' (qJ n d):=by
 refine⟨⟨hA,hc,pA,pc⟩,?_,W,aq,?_⟩
 ·rw[xG,<-hl,<-hm]
 ·rw[<-aq (w:=w) (W:=W),xG,<-hl,<-hm];exact⟨h1,h2⟩
theorem JQ(r:cw)(n:Me.Net)(d:Nat)(B:Nat)(w:nJ)[hB:Le B w](h:bG B w r n)(q1:n.hs.length<=1000)(q2:n.ps.length<=1000)(hp:∀p∈n.ps,p.a<=1000/\p.b<=1000):Calls nH 139 #[cD r n,.int .i64 d] w fun e w'=>∃(r':cw) (δ:nJ),e=.returned (cD r' (qJ n d))/\w'=af w δ/\eB w.heap.size (af w δ) r' (qJ n d):=by
 obtain⟨hA,hc,pA,pc⟩:=r;have H:=qh h;have HP:=qh hp;clear hp;have l1:=h.1.len;have l2:=h.2.len;clear h;go_enter Tryz.func139,Tryz.ntmps139;go_wp2_with fail;refine aK fun W1 aE=>?_;obtain⟨cz,de,cN,cY,dc,dX⟩:=Cm B w aE;have jP:Lt (w.heap.size+2) W1:=mb aE;have jU:W1.cell? ⟨w.heap.size,0,none⟩=some (.int .i64 n.m):=by rw[aE.out];go_simp
 have kM:W1.cell? ⟨w.heap.size,1,none⟩=some (.slice hA n.hs.length hc):=by rw[aE.out];go_simp
 have iY:W1.cell? ⟨w.heap.size,2,none⟩=some (.slice pA n.ps.length pc):=by rw[aE.out];go_simp
 have X1:Hid (av W1 (w.heap.size+2) 32 #[.int .i64 n.m,.slice none 0 0,.slice none 0 0]):=by rw[aE.out];exact qh (av.new nW)
 have Z1:Hid (av W1 (w.heap.size+1) 32 #[.int .i64 0,.slice none 0 0,.slice none 0 0]):=by rw[aE.out];exact qh (av.alloc (av.new nW) _)
 clear aE;have jl1:mw w.heap.size (w.heap.size+1+1):=⟨nQ⟩;have jl2:mw (w.heap.size+1) (w.heap.size+1+1):=⟨nQ⟩;have jl3:mw w.heap.size W1.heap.size:=⟨cN.out⟩;have jl4:mw (w.heap.size+1) W1.heap.size:=⟨nS dX.out⟩;go_loopg [6] n.hs.length (fun gg i wr=>∃(k cap:Nat) (A1:Option Addr) (l:List Me.jJ),k<=n.hs.length/\gg=n.hs.length-k/\i=.int .i64 k/\Hid (l=mW d n.hs k)/\l.length<=n.hs.length/\Hid (av wr (w.heap.size+2) 32 #[.int .i64 n.m,.slice A1 l.length cap,.slice none 0 0])/\Hid (wr.ownsRow W1.heap.size 105 4 (.slice A1 l.length cap) l.length (l.flatMap aZ))/\Hid (av wr (w.heap.size+1) 32 #[.int .i64 0,.slice none 0 0,.slice none 0 0])/\aC w.heap.size w wr/\aC (w.heap.size+1) W1 wr/\Le W1.heap.size wr)
 case atStart=>exact⟨0,0,none,[],nE _,rfl,rfl,qh rfl,nE _,X1,qh (World.ownsRow_nil _ _ _ _),Z1,inferInstance,inferInstance,inferInstance⟩
 case round=>
  obtain⟨k,cap,A1,l,hk,rfl,rfl,HL,QZ,HX,HO,HZ,i1,i2,i3⟩:=hrel;refine QDH ?_;intro jx jz j0 j6 j7 i4 i5;have Zi:=HX.out.cell (i:=1) rfl;have fx1:=HX.out.free 1;have Zl:wr.cell? ⟨w.heap.size,1,none⟩=some (.slice hA n.hs.length hc):=by rw[bz i2.out _ _ (nA _)];assumption
  by_cases hlt:k<n.hs.length
  ·have hki:(k:Int)<(n.hs.length:Int):=nQ;have hk0:¬(k:Int)<0:=nQ;by_cases hd:k=d
   ·have GO:((k:Int) != (d:Int))=false:=by simp[hd]
    have HK:Hid (l=mW d n.hs (k+1)):=by unfold Hid;rw[HL.out,hd];exact(GF nQ).symm
    go_wp2_with fail;go_roundg (n.hs.length-(k+1))
    case measure=>omega
    case rel=>exact⟨k+1,cap,A1,l,nQ,rfl,by go_num,HK,QZ,HX,HO,HZ,inferInstance,inferInstance,inferInstance⟩
   ·have GO:((k:Int) != (d:Int))=true:=by simp;omega
    have HK:Hid (l++[nth n.hs k]=mW d n.hs (k+1)):=by unfold Hid;rw[HL.out];exact(GG hlt hd).symm
    have hlk:l.length+1<=n.hs.length+1:=nQ;obtain⟨b,o,rfl,hb,d0,d1,d2,d3⟩:=(H.out.1.up (w':=wr)).hole hlt;have ib:Lt b wr:=⟨nL hb i4.out⟩;have ib1:Lt b W1:=⟨nL hb cz.out⟩;obtain⟨x,hx⟩:∃x,nth n.hs k=x:=⟨_,rfl⟩;rw[hx] at d0 d1 d2 d3 HK;clear hx hb;go_wp2_with fail;go_region_law (refine cQ W1 Fy (.tmp 23) (.tmp 29) rfl rfl (v:=.slice A1 l.length cap) (n:=l.length) (xs:=l.flatMap aZ) (by first|exact HO.out.drew.alloc _|exact HO.out.alloc _|exact HO.out) (by simp[Act.eval,Act.put]) (m:=1) (c:=1) (news:=aZ x) (by simp[Act.eval,Act.put]) (fZ rfl) rfl (oY x) nQ nQ ?_;intro A2 c2 δ2 gM kC);all_goals
     go_wp2_with fail;go_roundg (n.hs.length-(k+1))
     case measure=>omega
     case rel=>
      have BX:av (dM W1.heap.size (wr.alloc (Obj.cells (aZ x).toArray 105)).drew δ2) (w.heap.size+2) _ _:=((HX.out.alloc _).drew).dM jP.out _;have BZ:av (dM W1.heap.size (wr.alloc (Obj.cells (aZ x).toArray 105)).drew δ2) (w.heap.size+1) _ _:=((HZ.out.alloc _).drew).dM dX.out _;refine⟨k+1,c2,A2,l++[x],nQ,rfl,by go_num,HK,?_,?_,?_,?_,inferInstance,inferInstance,inferInstance⟩
      ·rw[HK.out];exact KH
      ·rw[List.length_append];exact qh (av.set (cs:=#[.int .i64 n.m,.slice A1 l.length cap,.slice none 0 0]) BX 1 _)
      ·rw[List.length_append,List.flatMap_append];exact qh (cT (by simpa using gM) (eL gM BX nU))
      ·exact qh (av.eZ BZ mR _)
  ·obtain rfl:k=n.hs.length:=by omega
   have hkn:¬((n.hs.length:Int)<(n.hs.length:Int)):=nQ;have cn2:wr.cell? ⟨w.heap.size,2,none⟩=some (.slice pA n.ps.length pc):=by rw[bz i2.out _ _ (nA _)];assumption
   have Zu:=HX;have HO0:=HO;have HZ0:=HZ;clear HX HO HZ Zi fx1;go_wp2_with fail;go_loopg [7] n.ps.length (fun gg i wq=>∃(k cap2:Nat) (A2:Option Addr) (m:List Me.Pr),k<=n.ps.length/\gg=n.ps.length-k/\i=.int .i64 k/\Hid (m=mV d n.ps k)/\m.length<=n.ps.length/\Hid (av wq (w.heap.size+2) 32 #[.int .i64 n.m,.slice A1 l.length cap,.slice A2 m.length cap2])/\Hid (wq.ownsRow W1.heap.size 105 4 (.slice A1 l.length cap) l.length (l.flatMap aZ))/\Hid (wq.ownsRow W1.heap.size 109 2 (.slice A2 m.length cap2) m.length (m.flatMap dj))/\Hid (av wq (w.heap.size+1) 32 #[.int .i64 0,.slice none 0 0,.slice none 0 0])/\aC w.heap.size w wq/\aC (w.heap.size+1) W1 wq/\Le W1.heap.size wq)
   case atStart=>exact⟨0,0,none,[],nE _,rfl,rfl,qh rfl,nE _,Zu,HO0,qh (World.ownsRow_nil _ _ _ _),HZ0,i1,i2,i3⟩
   case round=>
    clear Zu HO0 HZ0 jx jz j0 j6 j7 i4 i5 Zl cn2 i1 i2 i3 hk hlt hkn;obtain⟨k,cap2,A2,m,hk,rfl,rfl,pJ,hml,HX,HO,HM,HZ,i1,i2,i3⟩:=hrel;refine QDH ?_;intro jx jz j0 j6 j7 i4 i5;have cn2:wr.cell? ⟨w.heap.size,2,none⟩=some (.slice pA n.ps.length pc):=by rw[bz i2.out _ _ (nA _)];assumption
    have cx2:=HX.out.cell (i:=2) rfl;have fx2:=HX.out.free 2;by_cases hlt:k<n.ps.length
    ·have hki:(k:Int)<(n.ps.length:Int):=nQ;have hk0:¬(k:Int)<0:=nQ;have hmk:m.length+1<=2000:=nQ;have jn1:mw wr.heap.size wr.heap.size:=⟨nR _⟩;have jn2:mw w.heap.size wr.heap.size:=⟨j6.out⟩;have jn3:mw (w.heap.size+1) wr.heap.size:=⟨j7.out⟩;obtain⟨b,o,rfl,hb,d0,d1⟩:=(H.out.2.up (w':=wr)).pr hlt;have ib:Lt b wr:=⟨nL hb i4.out⟩;have ib1:Lt b W1:=⟨nL hb cz.out⟩;have hpx:=HP.out _ (aS n.ps hlt);have LK:=qh (@xP d k n.ps hlt);have LL:=qh (@xQ d k n.ps hlt);obtain⟨x,hx⟩:∃x,nth n.ps k=x:=⟨_,rfl⟩;rw[hx] at d0 d1 hpx LK LL;clear hx hb;by_cases ha:x.a=(d:Int)
     ·have Wc:(x.a==(d:Int))=true:=by simp[ha]
      have HK:=qh (LK.out (.inl ha));clear LK LL;go_wp2_with fail;go_roundg (n.ps.length-(k+1))
      case measure=>omega
      case rel=>exact⟨k+1,cap2,A2,m,nQ,rfl,by go_num,by unfold Hid;rw[HK.out];exact pJ.out,hml,qh (av.eA HX.out),qh (aT HO.out),qh (aT HM.out),qh (av.eA HZ.out),inferInstance,inferInstance,inferInstance⟩
     by_cases hb:x.b=(d:Int)
     ·have Wc:(x.a==(d:Int))=false:=by simp[ha]
      have hb':(x.b==(d:Int))=true:=by simp[hb]
      have HK:=qh (LK.out (.inr hb));clear LK LL;go_wp2_with fail;go_roundg (n.ps.length-(k+1))
      case measure=>omega
      case rel=>exact⟨k+1,cap2,A2,m,nQ,rfl,by go_num,by unfold Hid;rw[HK.out];exact pJ.out,hml,qh (av.eA HX.out),qh (aT HO.out),qh (aT HM.out),qh (av.eA HZ.out),inferInstance,inferInstance,inferInstance⟩
     have HK:Hid (m++[pO d x]=mV d n.ps (k+1)):=by unfold Hid;rw[LL.out ha hb,pJ.out]
     have Wc:(x.a==(d:Int))=false:=by simp[ha]
     have hb':(x.b==(d:Int))=false:=by simp[hb]
     clear LK LL ha hb;by_cases KQ:(d:Int)<x.a
     ·by_cases hgb:(d:Int)<x.b
      ·have HE:Hid (dj (pO d x)=[.int .i64 (x.a-1),.int .i64 (x.b-1)]):=by unfold Hid dj pO Me.Ck;rw[if_pos KQ,if_pos hgb]
       go_wp2_with (at_builtin;(refine bK W1 AW (.tmp 71) (.tmp 73) rfl rfl (aT HM.out) rfl rfl nW rfl (by simp[Value.oneCell']) nQ nQ ?_);intro A3 c3 δ3 jB qj);go_roundg (n.ps.length-(k+1))
       case measure=>omega
       case rel=>
        refine⟨k+1,c3,A3,m++[pO d x],nQ,rfl,by go_num,HK,?_,?_,?_,?_,?_,inferInstance,inferInstance,inferInstance⟩
        ·rw[HK.out];exact o9
        ·rw[List.length_append];exact qh (av.set (cs:=#[.int .i64 n.m,.slice A1 l.length cap,.slice A2 m.length cap2]) (av.dM (av.alloc (av.eA HX.out) _) jP.out δ3) 2 _)
        ·exact qh (cT (bC ((aT HO.out).alloc _) ((aT HM.out).alloc _) nU qj) (eL (bC ((aT HO.out).alloc _) ((aT HM.out).alloc _) nU qj) (av.dM (av.alloc (av.eA HX.out) _) jP.out δ3) nU))
        ·rw[List.length_append,List.flatMap_append,List.flatMap_singleton,HE.out];exact qh (cT (by simpa using jB) (eL jB (av.dM (av.alloc (av.eA HX.out) _) jP.out δ3) nU))
        ·exact qh (av.eZ (av.dM (av.alloc (av.eA HZ.out) _) dX.out δ3) mR _)
      ·have HE:Hid (dj (pO d x)=[.int .i64 (x.a-1),.int .i64 (x.b)]):=by unfold Hid dj pO Me.Ck;rw[if_pos KQ,if_neg hgb]
       go_wp2_with (at_builtin;(refine bK W1 AW (.tmp 71) (.tmp 73) rfl rfl (aT HM.out) rfl rfl nW rfl (by simp[Value.oneCell']) nQ nQ ?_);intro A3 c3 δ3 jB qj);go_roundg (n.ps.length-(k+1))
       case measure=>omega
       case rel=>
        refine⟨k+1,c3,A3,m++[pO d x],nQ,rfl,by go_num,HK,?_,?_,?_,?_,?_,inferInstance,inferInstance,inferInstance⟩
        ·rw[HK.out];exact o9
        ·rw[List.length_append];exact qh (av.set (cs:=#[.int .i64 n.m,.slice A1 l.length cap,.slice A2 m.length cap2]) (av.dM (av.alloc (av.eA HX.out) _) jP.out δ3) 2 _)
        ·exact qh (cT (bC ((aT HO.out).alloc _) ((aT HM.out).alloc _) nU qj) (eL (bC ((aT HO.out).alloc _) ((aT HM.out).alloc _) nU qj) (av.dM (av.alloc (av.eA HX.out) _) jP.out δ3) nU))
        ·rw[List.length_append,List.flatMap_append,List.flatMap_singleton,HE.out];exact qh (cT (by simpa using jB) (eL jB (av.dM (av.alloc (av.eA HX.out) _) jP.out δ3) nU))
        ·exact qh (av.eZ (av.dM (av.alloc (av.eA HZ.out) _) dX.out δ3) mR _)
     ·by_cases hgb:(d:Int)<x.b
      ·have HE:Hid (dj (pO d x)=[.int .i64 (x.a),.int .i64 (x.b-1)]):=by unfold Hid dj pO Me.Ck;rw[if_neg KQ,if_pos hgb]
       go_wp2_with (at_builtin;(refine bK W1 AW (.tmp 71) (.tmp 73) rfl rfl (aT HM.out) rfl rfl nW rfl (by simp[Value.oneCell']) nQ nQ ?_);intro A3 c3 δ3 jB qj);go_roundg (n.ps.length-(k+1))
       case measure=>omega
       case rel=>
        refine⟨k+1,c3,A3,m++[pO d x],nQ,rfl,by go_num,HK,?_,?_,?_,?_,?_,inferInstance,inferInstance,inferInstance⟩
        ·rw[HK.out];exact o9
        ·rw[List.length_append];exact qh (av.set (cs:=#[.int .i64 n.m,.slice A1 l.length cap,.slice A2 m.length cap2]) (av.dM (av.alloc (av.eA HX.out) _) jP.out δ3) 2 _)
        ·exact qh (cT (bC ((aT HO.out).alloc _) ((aT HM.out).alloc _) nU qj) (eL (bC ((aT HO.out).alloc _) ((aT HM.out).alloc _) nU qj) (av.dM (av.alloc (av.eA HX.out) _) jP.out δ3) nU))
        ·rw[List.length_append,List.flatMap_append,List.flatMap_singleton,HE.out];exact qh (cT (by simpa using jB) (eL jB (av.dM (av.alloc (av.eA HX.out) _) jP.out δ3) nU))
        ·exact qh (av.eZ (av.dM (av.alloc (av.eA HZ.out) _) dX.out δ3) mR _)
      ·have HE:Hid (dj (pO d x)=[.int .i64 (x.a),.int .i64 (x.b)]):=by unfold Hid dj pO Me.Ck;rw[if_neg KQ,if_neg hgb]
       go_wp2_with (at_builtin;(refine bK W1 AW (.tmp 71) (.tmp 73) rfl rfl (aT HM.out) rfl rfl nW rfl (by simp[Value.oneCell']) nQ nQ ?_);intro A3 c3 δ3 jB qj);go_roundg (n.ps.length-(k+1))
       case measure=>omega
       case rel=>
        refine⟨k+1,c3,A3,m++[pO d x],nQ,rfl,by go_num,HK,?_,?_,?_,?_,?_,inferInstance,inferInstance,inferInstance⟩
        ·rw[HK.out];exact o9
        ·rw[List.length_append];exact qh (av.set (cs:=#[.int .i64 n.m,.slice A1 l.length cap,.slice A2 m.length cap2]) (av.dM (av.alloc (av.eA HX.out) _) jP.out δ3) 2 _)
        ·exact qh (cT (bC ((aT HO.out).alloc _) ((aT HM.out).alloc _) nU qj) (eL (bC ((aT HO.out).alloc _) ((aT HM.out).alloc _) nU qj) (av.dM (av.alloc (av.eA HX.out) _) jP.out δ3) nU))
        ·rw[List.length_append,List.flatMap_append,List.flatMap_singleton,HE.out];exact qh (cT (by simpa using jB) (eL jB (av.dM (av.alloc (av.eA HX.out) _) jP.out δ3) nU))
        ·exact qh (av.eZ (av.dM (av.alloc (av.eA HZ.out) _) dX.out δ3) mR _)
    ·obtain rfl:k=n.ps.length:=by omega
     have hkn:¬((n.ps.length:Int)<(n.ps.length:Int)):=nQ;have cx0:=HX.out.cell (i:=0) rfl;have Zi:=HX.out.cell (i:=1) rfl;have fz0:=HZ.out.free 0;have fz1:=HZ.out.free 1;have fz2:=HZ.out.free 2;have cz0:=HZ.out.cell (i:=0) rfl;have cz1:=HZ.out.cell (i:=1) rfl;have cz2:=HZ.out.cell (i:=2) rfl;go_wp2_with fail;refine bodyPost_ret (v:=.agg #[.int .i64 n.m,.slice A1 l.length cap,.slice A2 m.length cap2]) ?_ rfl ?_
     ·simp only[results,Tryz.results139];go_simp
     ·apply Gy (w:=w) HL.out pJ.out
      ·iterate 3 (refine cT ?_ (eL HO.out HZ.out nU))
       exact dO HO.out cN.out
      ·iterate 3 (refine cT ?_ (eL HM.out HZ.out nU))
       exact dO HM.out cN.out
end
end Go.Proofs.YtcjjlikhlmfedaaGreatDoor
