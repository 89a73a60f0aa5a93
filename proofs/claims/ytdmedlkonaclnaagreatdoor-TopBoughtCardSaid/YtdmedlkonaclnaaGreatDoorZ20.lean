/- A part of the proof that a law of layer 12 holds, cut small by a program (names and blanks): Hw7, Hw8, Hw9, Hw10, Hw11. -/
import Derived.Test.YtdmedlkonaclnaaGreatDoorZ12
import Derived.Test.YtdmedlkonaclnaaGreatDoorZ19
set_option maxRecDepth 100000
set_option maxHeartbeats 40000000
set_option linter.unusedVariables false
set_option linter.unusedSimpArgs false
namespace Go.Proofs.YtdmedlkonaclnaaGreatDoor
open Go.RowKit
open Nat renaming le_trans → nT, lt_of_lt_of_le → nL, le_refl → nR, zero_le → nE
open Go.Proofs.Tryz renaming prog → nH
open Go renaming World → nJ, Value → nK
section
open Hd
def sj(o:Option dU):Nat:=match o with|none=>0|some c=>cN c.w
theorem ek.shape{B:Nat}{w:nJ}{v:nK}{o:Option dU}(h:ek B w v o):∃(s:ByteArray) (A:Option Addr) (n cap:Nat),v=.agg #[.int .i64 (sj o:Nat),.string s,.slice A n cap]:=by
 cases o with
 |none=>exact⟨_,_,_,_,h⟩
 |some c=>obtain⟨A,cap,h1,h2⟩:=h;exact⟨_,_,_,_,h1⟩
def mF(B:Nat)(w:nJ)(v:nK):tC->Prop
 |.none=>v=.agg #[.int .i64 0,.int .i64 0,.string ⟨#[]⟩,.slice none 0 0,.int .i64 0,.string ⟨#[]⟩,.slice none 0 0,.string ⟨#[]⟩,.int .i64 0]
 |.cmd c=>∃A cap,v=.agg #[.int .i64 (cN c.w:Nat),.int .i64 (cN c.w:Nat),.string (str (cj c.w)),.slice A c.a.length cap,.int .i64 0,.string ⟨#[]⟩,.slice none 0 0,.string ⟨#[]⟩,.int .i64 0]/\fN 3 aI B w A cap c.a
 |.ord q s n c=>∃A cap A' cap',v=.agg #[.int .i64 4,.int .i64 (cN q.w:Nat),.string (str (cj q.w)),.slice A q.a.length cap,.int .i64 (cN c.w:Nat),.string (str (cj c.w)),.slice A' c.a.length cap',.string (str [s]),.int .i64 n]/\fN 3 aI B w A cap q.a/\fN 3 aI B w A' cap' c.a
def fR(x:tC)(w:nJ)(e:Ending)(w':nJ):Prop:=∃v δ,e=.returned v/\w'=af w δ/\mF (af w δ).heap.size (af w δ) v x
theorem cK:fT nH 68 9:=fT.mk' Tryz.underlying68 rfl nP
def BE(o:Option Nat):Int:=match o with|none=>-1|some k=>k
theorem Gu(t x:bz):∀xs:List bz,jN t (xs++[x])=(match jN t xs with|some j=>some j|none=>if x=t then some xs.length else none)
 |[]=>by simp only[List.nil_append,jN];split<;>simp
 |y::xs=>by
  rw[List.cons_append,jN,jN,Gu t x xs];by_cases h:y=t
  ·rw[if_pos h,if_pos h]
  ·rw[if_neg h,if_neg h];cases jN t xs with
   |some j=>rfl
   |none=>simp only[Option.map_none];split<;>simp
def Ez(ws:List bz):tC:=(jN iY ws).elim .none fun k=>if k<4 then .none else qv ws k
theorem I2{l:bz}(hw:(bG l).head?=some lY):bK l=Ez (bG l):=by unfold bK eD Ez;rw[if_pos hw];cases jN iY (bG l)<;>rfl
theorem mC{x:tC}{w w':nJ}(h:x=.none)(hl:∃δ,w'=af w δ):fR x w (.returned (.agg #[.int .i64 0,.int .i64 0,.string ⟨#[]⟩,.slice none 0 0,.int .i64 0,.string ⟨#[]⟩,.slice none 0 0,.string ⟨#[]⟩,.int .i64 0])) w':=by subst h;obtain⟨δ,rfl⟩:=hl;exact⟨_,δ,rfl,rfl,rfl⟩
theorem ek.more{B B':Nat}{w:nJ}{v:nK}{o:Option dU}(h:ek B w v o)(hB:B<=B'):ek B' w v o:=by
 cases o with
 |none=>exact h
 |some c=>obtain⟨A,cap,h1,h2⟩:=h;exact⟨A,cap,h1,h2.lQ hB fun _ _ _ _ _=>rfl⟩
def En(w w1:nJ)(x1 x2:List bz)(t:bz)(s7:nK)(wx:nJ):Prop:=∃(g:Nat) (s1:ByteArray) (A1:Option Addr) (n1 p1:Nat) (s2:ByteArray) (A2:Option Addr) (n2 p2:Nat),
 s7=.pointer (some ⟨g,0,none⟩)/\Hid (ax wx g 68 #[.int .i64 4,.int .i64 (sj (bM x1):Nat),.string s1,.slice A1 n1 p1,.int .i64 (sj (bM x2):Nat),.string s2,.slice A2 n2 p2,.string (str t),.int .i64 0]) /\
 Hid (ek wx.heap.size wx (.agg #[.int .i64 (sj (bM x1):Nat),.string s1,.slice A1 n1 p1]) (bM x1))/\Hid (ek wx.heap.size wx (.agg #[.int .i64 (sj (bM x2):Nat),.string s2,.slice A2 n2 p2]) (bM x2)) /\
 Hid (w1.heap.size<=g)/\au w1.heap.size w1 wx/\Le w1.heap.size wx
theorem TG{w w1 W:nJ}{x1 x2:List bz}{t:bz}{s1 s2:ByteArray}{A1 A2:Option Addr}{n1 p1 n2 p2:Nat}(h1:ek W.heap.size W (.agg #[.int .i64 (sj (bM x1):Nat),.string s1,.slice A1 n1 p1]) (bM x1))(h2:ek W.heap.size W (.agg #[.int .i64 (sj (bM x2):Nat),.string s2,.slice A2 n2 p2]) (bM x2))[au w1.heap.size w1 W][hL:Le w1.heap.size W]:En w w1 x1 x2 t (.pointer (some ⟨W.heap.size,0,none⟩)) (W.alloc (.cells #[.int .i64 4,.int .i64 (sj (bM x1):Nat),.string s1,.slice A1 n1 p1,.int .i64 (sj (bM x2):Nat),.string s2,.slice A2 n2 p2,.string (str t),.int .i64 0] 68)):=
 ⟨_,s1,A1,n1,p1,s2,A2,n2,p2,rfl,ax.new rfl,h1.wide,h2.wide,hL.out,inferInstance,inferInstance⟩
structure Em(w1:nJ)(B g:Nat)(v1 v2:nK)(o1 o2:Option dU)(cs:Array nK)(W:nJ):Prop where
 box:ax W g 68 cs
 fst:ek B W v1 o1
 snd:ek B W v2 o2
 low:w1.heap.size<=g
 gj:au w1.heap.size w1 W
 le:Le w1.heap.size W
 top:B<=W.heap.size
theorem Em.step{w1 W:nJ}{B g:Nat}{v1 v2:nK}{o1 o2:Option dU}{cs:Array nK}(h:Em w1 B g v1 v2 o1 o2 cs W)(i:Nat)(u:nK):Em w1 B g v1 v2 o1 o2 (cs.setIfInBounds i u) (W.setCell ⟨g,i,none⟩ u):=by have iN:oy w1.heap.size g:=⟨h.low⟩;have i1:=h.gj;have i2:=h.le;exact⟨h.box.set i u,h.fst.ep h.box nU,h.snd.ep h.box nU,h.low,inferInstance,inferInstance,by simpa using h.top⟩
theorem Em.put{w w1 W:nJ}{B g:Nat}{x1 x2:List bz}{t:bz}{s1 s2:ByteArray}{A1 A2:Option Addr}{n1 p1 n2 p2:Nat}{cs:Array nK}(h:Em w1 B g (.agg #[.int .i64 (sj (bM x1):Nat),.string s1,.slice A1 n1 p1]) (.agg #[.int .i64 (sj (bM x2):Nat),.string s2,.slice A2 n2 p2]) (bM x1) (bM x2) cs W)(hcs:cs=#[.int .i64 4,.int .i64 (sj (bM x1):Nat),.string s1,.slice A1 n1 p1,.int .i64 (sj (bM x2):Nat),.string s2,.slice A2 n2 p2,.string (str t),.int .i64 0]):En w w1 x1 x2 t (.pointer (some ⟨g,0,none⟩)) W:=by subst hcs;exact⟨g,s1,A1,n1,p1,s2,A2,n2,p2,rfl,h.box,h.fst.more h.top,h.snd.more h.top,h.low,h.gj,h.le⟩
theorem Fl(ws:List bz)(A:Option Addr)(ln c:Nat)(hn:ws.length=ln)(hl:∀t∈ws,t.length<=1048576)(h1k:ws.length<=1048577)(B:Nat)(w:nJ)(hS:Sl aX B w A c ws)[hB:Le B w]:Calls nH 62 #[.slice A ln c] w (tT (bM ws) w):=by subst hn;exact zo ws A c hl h1k B w hS
theorem fN.aR{α:Type}{enc:α->List nK}{T T':TypeId}{B g:Nat}{w w':nJ}{A:Option Addr}{c:Nat}{xs:List α}{cs:Array nK}(h:fN T enc B w A c xs)(k:bH (fun x=>x=g) w w')(hb:ax w g T' cs)(hne:T'≠T)(hB:B<=w.heap.size):fN T enc w'.heap.size w' A c xs:=
 h.lQ (nT hB k.size) fun b cur fr hb' hh=>k.block b (nL hb' hB) (by
  rintro rfl
  unfold ax at hb
  rw[hb] at hh
  injection hh with hh
  injection hh with _ ht
  exact hne ht)
def MV(q c:Option dU)(s:Option UInt8)(n:Option Int):tC:=
 match q,s,n,c with
 |some q,some s,some n,some c=>if cN q.w=2/\cN c.w=1 then .ord q s n c else .none
 |_,_,_,_=>.none
theorem WO{q c:Option dU}{s:Option UInt8}:MV q c s none=.none:=by cases q<;>cases s<;>rfl
theorem WM{q c:Option dU}{n:Option Int}:MV q c none n=.none:=by cases q<;>rfl
theorem WN{q c:Option dU}{s:Option UInt8}{n:Option Int}(h:sj q≠2):MV q c s n=.none:=by
 cases q with
 |none=>rfl
 |some q=>
  cases s with
  |none=>rfl
  |some s=>cases n with
   |none=>rfl
   |some n=>cases c with
    |none=>rfl
    |some c=>exact if_neg fun hc=>h hc.1
theorem WQ{q c:Option dU}{s:Option UInt8}{n:Option Int}(h:sj c≠1):MV q c s n=.none:=by
 cases c with
 |none=>cases q<;>cases s<;>cases n<;>rfl
 |some c=>
  cases q with
  |none=>rfl
  |some q=>
   cases s with
   |none=>rfl
   |some s=>cases n with
    |none=>rfl
    |some n=>exact if_neg fun hc=>h hc.2
theorem Gg{o:Option dU}(h:sj o≠0):∃c,o=some c:=by
 cases o with
 |none=>exact absurd rfl h
 |some c=>exact⟨c,rfl⟩
theorem Mt{t:bz}(h:mj t=none):t≠[60]/\t≠[61]/\t≠[62]:=by
 unfold mj at h;by_cases h1:t=[60]
 ·rw[if_pos h1] at h;cases h
 ·rw[if_neg h1] at h;by_cases h2:t=[61]
  ·rw[if_pos h2] at h;cases h
  ·rw[if_neg h2] at h;by_cases h3:t=[62]
   ·rw[if_pos h3] at h;cases h
   ·exact⟨h1,h2,h3⟩
theorem BM{t:bz}{s:UInt8}(h:mj t=some s):t=[s]/\(s=60\/s=61\/s=62):=by
 unfold mj at h;split at h
 ·injection h with h;subst h;exact⟨nZ,.inl rfl⟩
 ·split at h
  ·injection h with h;subst h;exact⟨nZ,.inr (.inl rfl)⟩
  ·split at h
   ·injection h with h;subst h;exact⟨nZ,.inr (.inr rfl)⟩
   ·cases h
theorem MC(l:bz)(hl:l.length<=1048576)(hw:(bG l).head?=some lY)(w:nJ):Calls nH 27 #[.string (str l)] w (fR (bK l) w):=by
 have hlen:=(jv l).1;have hmem:=(jv l).2;have hR:=I2 hw;obtain⟨x,hx⟩:∃x,bK l=x:=⟨_,rfl⟩;rw[hx] at hR ⊢;clear hx;obtain⟨ws,pO⟩:∃ws,bG l=ws:=⟨_,rfl⟩;have HWS:=qh pO;rw[pO] at hlen hmem hw hR;have HR:=qh hR;have HM:Hid (∀t∈ws,t.length<=1048576):=qh fun t ht=>by have:=hmem t ht;omega
 have hpos:0<ws.length:=by cases ws with
  |nil=>cases hw
  |cons t r=>simp
 have hpi:(0:Int)<(ws.length:Int):=nQ;have HW0:Hid (nth ws 0=lY):=by
  cases ws with
  |nil=>cases hw
  |cons t r=>injection hw
 have hl1:ws.length<=1048577:=nQ;have f1:((str lY).toList==[119,104,101,110])=true:=by rw[cF];rfl
 clear pO hmem hlen hw hR;go_enter Tryz.func27,Tryz.ntmps27;go_wp2_with (go_at_call 61;refine(wP l hl _).mono ?_;rw[HWS.out];rintro e w1 ⟨A,c,rfl,hs,δ1,hw1⟩;obtain⟨b,o,rfl,hb,d0⟩:=hs.mh hpos;rw[HW0.out] at d0;simp only[Nat.add_zero] at d0;have HS:=qh hs;have z1:ax w1 w.heap.size 68 #[.int .i64 0,.int .i64 0,.string ⟨#[]⟩,.slice none 0 0,.int .i64 0,.string ⟨#[]⟩,.slice none 0 0,.string ⟨#[]⟩,.int .i64 0]:=(by rw[hw1];exact(ax.new rfl).af _);have g3:au w.heap.size w w1:=(by rw[hw1];infer_instance);have g4:Le w.heap.size w1:=(by rw[hw1];infer_instance);have ib:Lt b w1:=⟨hb⟩;have hcl:=hs.len;clear hw1 hs hb);have Z1:=qh z1;have iz:=z1.lt;clear z1;go_loopg [5,6] ws.length (fun gg th i wr=>∃(k:Nat) (δ:nJ),k<=ws.length/\gg=ws.length-k/\i=.int .i64 k/\th=.int .i64 (BE (jN iY (ws.take k)))/\wr=af w1 δ)
 case atStart=>exact⟨0,w1,nE _,rfl,rfl,rfl,(bw w1).symm⟩
 case round=>
  obtain⟨k,δ,hk,rfl,rfl,rfl,rfl⟩:=hrel;by_cases hlt:k<ws.length
  ·have hki:(k:Int)<(ws.length:Int):=nQ;have hk0:¬(k:Int)<0:=nQ;obtain⟨b2,o2,vU,gM,dk⟩:=HS.out.mh hlt;injection vU with vU;injection vU with NQ XT;subst NQ XT;have HT:Hid (jN iY (ws.take (k+1))=match jN iY (ws.take k) with|some j=>some j|none=>if nth ws k=iY then some k else none):=by unfold Hid;rw[bE ws hlt,Gu,List.length_take,Nat.min_eq_left hk]
   have ft:((str (nth ws k)).toList==[116,104,101,110])=decide (nth ws k=iY):=cF _ _;obtain⟨u,hu⟩:∃u,nth ws k=u:=⟨_,rfl⟩;rw[hu] at HT ft dk;clear gM hu;rcases hi:jN iY (ws.take k) with _|j
   ·rw[hi] at HT;by_cases YG:u=iY
    ·have Io:Hid (jN iY (ws.take (k+1))=some k):=qh (HT.out.trans (if_pos YG));rw[decide_eq_true YG] at ft;have e1:BE none = -1:=rfl;clear hi YG HT;go_wp2_with fail;go_roundg (ws.length-(k+1))
     case measure=>omega
     case rel=>exact⟨k+1,_,hlt,rfl,by go_num,by rw[Io.out];rfl,aq⟩
    ·have Io:Hid (jN iY (ws.take (k+1))=none):=qh (HT.out.trans (if_neg YG));rw[decide_eq_false YG] at ft;have e1:BE none = -1:=rfl;clear hi YG HT;go_wp2_with fail;go_roundg (ws.length-(k+1))
     case measure=>omega
     case rel=>exact⟨k+1,_,hlt,rfl,by go_num,by rw[Io.out];rfl,aq⟩
   ·rw[hi] at HT;have Io:Hid (jN iY (ws.take (k+1))=some j):=HT;have e1:BE (some j)=(j:Int):=rfl;have ej:¬(j:Int)<0:=nQ;obtain⟨q,hq⟩:∃q,decide (u=iY)=q:=⟨_,rfl⟩;rw[hq] at ft;clear hi HT hq;cases q;all_goals
     go_wp2_with fail;go_roundg (ws.length-(k+1))
     case measure=>omega
     case rel=>exact⟨k+1,_,hlt,rfl,by go_num,by rw[Io.out];rfl,aq⟩
  ·obtain rfl:k=ws.length:=by omega
   rw[List.take_length];rcases hi:jN iY ws with _|k
   ·have HN:Hid (x=.none):=by unfold Hid;rw[HR.out];unfold Ez;rw[hi];rfl
    have e1:BE none = -1:=rfl;clear hi;go_wp2_with (refine ak cK rfl _ _ rfl rfl rfl (Z1.out.af _) rfl rfl (by simp[Value.oneCell']) ?_;intro W2 gM hk2);refine gZ cK Tryz.results27 rfl gM rfl (mC HN.out (fy (w:=w) hk2 (by rintro b rfl;exact nR _)))
   ·have e1:BE (some k)=(k:Int):=rfl;have LR:=(JW hi).1;by_cases h4:k<4
    ·have HN:Hid (x=.none):=by unfold Hid;rw[HR.out];unfold Ez;rw[hi];exact if_pos h4
     clear hi;have h4i:(k:Int)<4:=nQ;go_wp2_with (refine ak cK rfl _ _ rfl rfl rfl (Z1.out.af _) rfl rfl (by simp[Value.oneCell']) ?_;intro W2 gM hk2);refine gZ cK Tryz.results27 rfl gM rfl (mC HN.out (fy (w:=w) hk2 (by rintro b rfl;exact nR _)))
    ·have HX:Hid (x=qv ws k):=by unfold Hid;rw[HR.out];unfold Ez;rw[hi];exact if_neg h4
     clear hi;obtain⟨m,hm⟩:∃m,k=m+2:=⟨k-2,nQ⟩;obtain⟨u,hu⟩:∃u,u=k+1:=⟨_,rfl⟩;obtain⟨v,hv⟩:∃v,v=m+1:=⟨_,rfl⟩;have h4i:¬((k:Int)<4):=nQ;have hcc:ws.length<=c:=HS.out.1;have hw1:IntKind.i64.wrap ((k:Int)-2)=(m:Int):=by rw[IntWalk.i64_in _ nQ];omega
     have Xn:IntKind.i64.wrap ((k:Int)+1)=(u:Int):=by rw[IntWalk.i64_in _ nQ];omega
     have hw3:IntKind.i64.wrap ((k:Int)-1)=(v:Int):=by rw[IntWalk.i64_in _ nQ];omega
     have hmc:(m:Int)<=(c:Int):=nQ;have sQ:(1:Int)<=(m:Int):=nQ;have hml:(m:Int)<(ws.length:Int):=nQ;have hvl:(v:Int)<(ws.length:Int):=nQ;have hul:(u:Int)<=(ws.length:Int):=nQ;have Af:¬c=1:=nQ;have hku:(k:Int)<1048577:=nQ;have hK:=qh (And.intro hm (And.intro hu hv));have mY:Hid (Sl aX w1.heap.size w1 (some ⟨b,o+1,none⟩) (c-1) ((ws.take m).drop 1)):=by have:=(HS.out.take m).drop gD 1 (by rw[List.length_take];omega);rw[if_neg Af] at this;exact qh (by simpa [Addr.add_lit] using this)
     obtain⟨A2,vU⟩:∃A2,(if c=u then some (⟨b,o,none⟩:Addr) else some ⟨b,o+u,none⟩)=A2:=⟨_,rfl⟩;have Bv:Hid (Sl aX w1.heap.size w1 A2 (c-u) (ws.drop u)):=by have:=HS.out.drop gD u nQ;rw[<-vU];exact qh (by simpa [Addr.add_lit] using this)
     obtain⟨b3,o3,NQ,Ri,dm⟩:=HS.out.mh (k:=m) nQ;injection NQ with NQ;injection NQ with XT hA5;subst XT hA5;obtain⟨b3,o3,NQ,Ri,dv⟩:=HS.out.mh (k:=v) nQ;injection NQ with NQ;injection NQ with XT hA5;subst XT hA5;have rO:Hid (((ws.take m).drop 1).length=m-1):=qh (by rw[List.length_drop,List.length_take];omega);have qN:Hid ((ws.drop u).length=ws.length-u):=qh (by rw[List.length_drop]);have xF:Hid (((ws.take m).drop 1).length<=1048577):=qh (by rw[rO.out];omega);have Ia:Hid ((ws.drop u).length<=1048577):=qh (by rw[qN.out];omega);have HM1:Hid (∀t∈(ws.take m).drop 1,t.length<=1048576):=qh fun t ht=>HM.out t (List.mem_of_mem_take (List.mem_of_mem_drop ht));have HM2:Hid (∀t∈ws.drop u,t.length<=1048576):=qh fun t ht=>HM.out t (List.mem_of_mem_drop ht);obtain⟨x1,hx1⟩:∃x1,(ws.take m).drop 1=x1:=⟨_,rfl⟩;obtain⟨x2,hx2⟩:∃x2,ws.drop u=x2:=⟨_,rfl⟩;rw[hx1] at mY rO xF HM1;rw[hx2] at Bv qN Ia HM2;have HXX:=qh (And.intro hx1 hx2);clear hm hu hv LR h4 hx1 hx2;go_wp2_with fail;have iNe:∀ {W:nJ} [Lt b W],qM b W.heap.size:=fun {W} [h:Lt b W]=>⟨Nat.ne_of_lt h.out⟩;go_cut [7] from 41 to 56 (fun s7 wx=>En w w1 x1 x2 (nth ws m) s7 wx);case first=>
      go_region_held3 (fun w'=>w'.cell? ⟨b,o+m,none⟩=some (.string (str (nth ws m)))) (go_simp)
       (first|(go_at_call 62;(with_reducible refine Calls.mono (Fl x1 _ _ _ rO.out HM1.out xF.out w1.heap.size _ mY.out.up) ?_);rintro e w2 ⟨v1,δ2,rfl,rfl,h1⟩;obtain⟨s1,A1,n1,p1,rfl⟩:=h1.shape;have Pa:=qh h1;clear h1)|(go_at_call 62;(with_reducible refine Calls.mono (Fl x2 _ _ _ qN.out HM2.out Ia.out w1.heap.size _ Bv.out.up) ?_);rintro e w2 ⟨v2,δ3,rfl,rfl,h2⟩;obtain⟨s2,A3,n2,p2,rfl⟩:=h2.shape;have OI:=qh h2;clear h2))
      all_goals go_wp2_with fail;go_meet
      ·(with_reducible refine TG ?_ ?_)
       ·exact Pa.out.wide
       ·exact OI.out.wide
      ·have q0:Em w1 (af ((af (af w1 δ).drew δ2).alloc (.cells #[.int .i64 0,.int .i64 0,.string ⟨#[]⟩,.slice none 0 0,.int .i64 0,.string ⟨#[]⟩,.slice none 0 0,.string ⟨#[]⟩,.int .i64 0] 68)) δ3).heap.size (af (af w1 δ).drew δ2).heap.size (.agg #[.int .i64 (sj (bM x1):Nat),.string s1,.slice A1 n1 p1]) (.agg #[.int .i64 (sj (bM x2):Nat),.string s2,.slice A3 n2 p2]) (bM x1) (bM x2) #[.int .i64 0,.int .i64 0,.string ⟨#[]⟩,.slice none 0 0,.int .i64 0,.string ⟨#[]⟩,.slice none 0 0,.string ⟨#[]⟩,.int .i64 0] (af ((af (af w1 δ).drew δ2).alloc (.cells #[.int .i64 0,.int .i64 0,.string ⟨#[]⟩,.slice none 0 0,.int .i64 0,.string ⟨#[]⟩,.slice none 0 0,.string ⟨#[]⟩,.int .i64 0] 68)) δ3):=⟨(ax.new rfl).af _,Pa.out.wide,OI.out.wide,(inferInstance:oy w1.heap.size (af (af w1 δ).drew δ2).heap.size).out,inferInstance,inferInstance,nR _⟩;exact Em.put (((((((((q0.step 0 _).step 1 _).step 2 _).step 3 _).step 4 _).step 5 _).step 6 _).step 7 _).step 8 _) rfl
      ·have q0:Em w1 (af (af ((af w1 δ).alloc (.cells #[.int .i64 0,.int .i64 0,.string ⟨#[]⟩,.slice none 0 0,.int .i64 0,.string ⟨#[]⟩,.slice none 0 0,.string ⟨#[]⟩,.int .i64 0] 68)).drew δ2) δ3).heap.size (af w1 δ).heap.size (.agg #[.int .i64 (sj (bM x1):Nat),.string s1,.slice A1 n1 p1]) (.agg #[.int .i64 (sj (bM x2):Nat),.string s2,.slice A3 n2 p2]) (bM x1) (bM x2) #[.int .i64 0,.int .i64 0,.string ⟨#[]⟩,.slice none 0 0,.int .i64 0,.string ⟨#[]⟩,.slice none 0 0,.string ⟨#[]⟩,.int .i64 0] (af (af ((af w1 δ).alloc (.cells #[.int .i64 0,.int .i64 0,.string ⟨#[]⟩,.slice none 0 0,.int .i64 0,.string ⟨#[]⟩,.slice none 0 0,.string ⟨#[]⟩,.int .i64 0] 68)).drew δ2) δ3):=⟨((ax.drew (ax.new rfl)).af _).af _,Pa.out.wide,OI.out.wide,(inferInstance:oy w1.heap.size (af w1 δ).heap.size).out,inferInstance,inferInstance,nR _⟩;exact Em.put (((((((((q0.step 0 _).step 1 _).step 2 _).step 3 _).step 4 _).step 5 _).step 6 _).step 7 _).step 8 _) rfl
     obtain⟨g,s1,A1,n1,p1,s2,A3,n2,p2,rfl,AY,Pa,OI,HG,i1,i2⟩:=hcut;have hcell:∀b' o',b'<w1.heap.size->wc.cell? ⟨b',o',none⟩=w1.cell? ⟨b',o',none⟩:=aZ i1.out;have ibc:Lt b wc:=⟨nL ib.out i2.out⟩;have dvc:=(hcell b (o+v) ib.out).trans dv;have Zc:Hid (ax wc w.heap.size 68 #[.int .i64 0,.int .i64 0,.string ⟨#[]⟩,.slice none 0 0,.int .i64 0,.string ⟨#[]⟩,.slice none 0 0,.string ⟨#[]⟩,.int .i64 0]):=qh ((i1.out.2.2.2 _ iz.out).trans Z1.out);have k0:=AY.out.cell (i:=0) rfl;have k1:=AY.out.cell (i:=1) rfl;have k4:=AY.out.cell (i:=4) rfl;have k7:=AY.out.cell (i:=7) rfl;have k8:=AY.out.cell (i:=8) rfl;have f8:=AY.out.free 8;have ig:=AY.out.lt;have hne:w.heap.size≠g:=by have:=HG.out;have:=iz.out;omega
     have HO:Hid (x=MV (bM x1) (bM x2) (mj (nth ws m)) (numOf (nth ws v))):=by unfold Hid;obtain⟨e1,e2,e3⟩:=hK.out;rw[HX.out,<-HXX.out.1,<-HXX.out.2,e2,e3,e1];rfl
     have SW:Hid ((nth ws v).length<=1048576):=qh (HM.out _ (aV ws nQ));have gw:au w.heap.size w wc:=dQ g3 i1;have gl:Le w.heap.size wc:=⟨nT g4.out i2.out⟩;have iLN:oy w.heap.size g:=⟨nT g4.out HG.out⟩;clear hcell HX HS mY Bv HM1 HM2 HXX hK;obtain⟨tm,Ig⟩:∃tm,nth ws m=tm:=⟨_,rfl⟩;obtain⟨tv,htv⟩:∃tv,nth ws v=tv:=⟨_,rfl⟩;rw[Ig] at HO k7 AY;rw[htv] at HO SW dvc;obtain⟨q1,hq1⟩:∃q1,bM x1=q1:=⟨_,rfl⟩;obtain⟨q2,NF⟩:∃q2,bM x2=q2:=⟨_,rfl⟩;rw[hq1] at HO Pa AY k1;rw[NF] at HO OI AY k4;have fs1:((str tm).toList==[60])=decide (tm=[60]):=cF _ _;have fs2:((str tm).toList==[61])=decide (tm=[61]):=cF _ _;have fs3:((str tm).toList==[62])=decide (tm=[62]):=cF _ _;clear Ig htv hq1 NF dm dv;rcases hn:numOf tv with _|n
     ·have iX:Hid (Ql (numOf tv)=0/\(numOf tv).isSome=false):=by unfold Hid;rw[hn];exact⟨rfl,rfl⟩
      have HN:Hid (x=.none):=by unfold Hid;rw[HO.out,hn];exact WO
      clear hn fs1 fs2 fs3;go_upto_region 15 with(go_at_call 63;refine(ia tv SW.out _).mono ?_;rintro e w4 ⟨rfl,δ4,rfl⟩;rw[iX.out.1,iX.out.2]);go_upto_region 16 with fail;go_upto_region 17 with fail;go_wp2_with (refine ak cK rfl _ _ rfl rfl rfl (ax.fD (Zc.out.af _) hne _) rfl rfl (by simp[Value.oneCell']) ?_;intro W2 gM hk2);refine gZ cK Tryz.results27 rfl gM rfl (mC HN.out (fy (w:=w) hk2 (by rintro b rfl;exact nR _)))
     ·have iX:Hid (Ql (numOf tv)=n/\(numOf tv).isSome=true):=by unfold Hid;rw[hn];exact⟨rfl,rfl⟩
      have yw:Hid (x=MV q1 q2 (mj tm) (some n)):=by unfold Hid;rw[HO.out,hn]
      clear hn HO;by_cases hq:sj q1=2
      ·have hqi:((sj q1:Int) != 2)=false:=by simp;omega
       by_cases hc:sj q2=1
       ·have hci:((sj q2:Int) != 1)=false:=by simp;omega
        rcases hs:mj tm with _|s
        ·have HN:Hid (x=.none):=by unfold Hid;rw[yw.out,hs];exact WM
         obtain⟨n1',n2',n3'⟩:=Mt hs;rw[decide_eq_false n1'] at fs1;rw[decide_eq_false n2'] at fs2;rw[decide_eq_false n3'] at fs3;clear hs hq hc n1' n2' n3';go_upto_region 15 with(go_at_call 63;refine(ia tv SW.out _).mono ?_;rintro e w4 ⟨rfl,δ4,rfl⟩;rw[iX.out.1,iX.out.2]);go_upto_region 16 with fail;go_upto_region 17 with fail;go_wp2_with (refine ak cK rfl _ _ rfl rfl rfl (ax.fD (Zc.out.af _) hne _) rfl rfl (by simp[Value.oneCell']) ?_;intro W2 gM hk2);refine gZ cK Tryz.results27 rfl gM rfl (mC HN.out (fy (w:=w) hk2 (by rintro b rfl;exact nR _)))
        ·obtain⟨Ig,hs3⟩:=BM hs;obtain⟨c1,rfl⟩:=Gg (o:=q1) nQ;obtain⟨c2,rfl⟩:=Gg (o:=q2) nQ;have HF:Hid (x=.ord c1 s n c2):=by unfold Hid;rw[yw.out,hs];exact if_pos ⟨hq,hc⟩
         have Yr:=qh Ig;clear hs hq hc Ig yw;have fin:∀W2 δ4,ax W2 w.heap.size 68 #[.int .i64 4,.int .i64 (sj (some c1):Nat),.string s1,.slice A1 n1 p1,.int .i64 (sj (some c2):Nat),.string s2,.slice A3 n2 p2,.string (str tm),.int .i64 n]->bH (fun b=>b=w.heap.size) ((af wc δ4).setCell ⟨g,8,none⟩ (.int .i64 n)) W2 ->
           fR x w (.returned (.agg #[.int .i64 4,.int .i64 (sj (some c1):Nat),.string s1,.slice A1 n1 p1,.int .i64 (sj (some c2):Nat),.string s2,.slice A3 n2 p2,.string (str tm),.int .i64 n])) W2:=by
          intro W2 δ4 gM hk2
          obtain⟨B1,C1,e1,t1⟩:=Pa.out
          obtain⟨B2,C2,e2,t2⟩:=OI.out
          have jh:=AY.out.af δ4
          have hz:=ax.fD (p:=⟨g,8,none⟩) (Zc.out.af δ4) hne (.int .i64 n)
          have l8:wc.heap.size<=((af wc δ4).setCell ⟨g,8,none⟩ (.int .i64 n)).heap.size:=(inferInstance:Le wc.heap.size _).out
          have t1':=((t1.up (w':=af wc δ4)).ep (i:=8) (u:=.int .i64 n) jh nU).aR hk2 hz nU l8
          have t2':=((t2.up (w':=af wc δ4)).ep (i:=8) (u:=.int .i64 n) jh nU).aR hk2 hz nU l8
          obtain⟨δ,rfl⟩:=fy (w:=w) hk2 (by rintro b rfl;exact nR _)
          injection e1 with e1
          injection e2 with e2
          have e1:=congrArg Array.toList e1
          have e2:=congrArg Array.toList e2
          simp only[List.cons.injEq,Value.string.injEq,Value.slice.injEq,and_true] at e1 e2
          obtain⟨a1,a2,a3,a4,a5⟩:=e1
          obtain⟨d1,d2,d3,d4,d5⟩:=e2
          rw[HF.out]
          refine⟨_,δ,rfl,rfl,B1,C1,B2,C2,?_,t1',t2'⟩
          rw[a1,a2,a3,a4,a5,d1,d2,d3,d4,d5,Yr.out]
         rcases hs3 with rfl|rfl|rfl
         ·rw[decide_eq_true Yr.out] at fs1;clear fs2 fs3;go_upto_region 15 with(go_at_call 63;refine(ia tv SW.out _).mono ?_;rintro e w4 ⟨rfl,δ4,rfl⟩;rw[iX.out.1,iX.out.2]);go_upto_region 16 with fail;go_upto_region 18 with fail;go_wp2_with (first|(refine av (cs:=#[.int .i64 4,.int .i64 (sj (some c1):Nat),.string s1,.slice A1 n1 p1,.int .i64 (sj (some c2):Nat),.string s2,.slice A3 n2 p2,.string (str tm),.int .i64 n]) cK rfl _ rfl rfl ((AY.out.af _).set 8 _) rfl ?_)|(refine ak cK rfl _ _ rfl rfl rfl (ax.fD (Zc.out.af _) hne _) rfl rfl (by simp[Value.oneCell']) ?_;intro W2 gM hk2));refine gZ cK Tryz.results27 rfl gM rfl ?_;exact fin _ _ gM hk2
         ·rw[decide_eq_false (by rw[Yr.out];decide)] at fs1;rw[decide_eq_true Yr.out] at fs2;clear fs3;go_upto_region 15 with(go_at_call 63;refine(ia tv SW.out _).mono ?_;rintro e w4 ⟨rfl,δ4,rfl⟩;rw[iX.out.1,iX.out.2]);go_upto_region 16 with fail;go_upto_region 18 with fail;go_wp2_with (first|(refine av (cs:=#[.int .i64 4,.int .i64 (sj (some c1):Nat),.string s1,.slice A1 n1 p1,.int .i64 (sj (some c2):Nat),.string s2,.slice A3 n2 p2,.string (str tm),.int .i64 n]) cK rfl _ rfl rfl ((AY.out.af _).set 8 _) rfl ?_)|(refine ak cK rfl _ _ rfl rfl rfl (ax.fD (Zc.out.af _) hne _) rfl rfl (by simp[Value.oneCell']) ?_;intro W2 gM hk2));refine gZ cK Tryz.results27 rfl gM rfl ?_;exact fin _ _ gM hk2
         ·rw[decide_eq_false (by rw[Yr.out];decide)] at fs1;rw[decide_eq_false (by rw[Yr.out];decide)] at fs2;rw[decide_eq_true Yr.out] at fs3;go_upto_region 15 with(go_at_call 63;refine(ia tv SW.out _).mono ?_;rintro e w4 ⟨rfl,δ4,rfl⟩;rw[iX.out.1,iX.out.2]);go_upto_region 16 with fail;go_upto_region 18 with fail;go_wp2_with (first|(refine av (cs:=#[.int .i64 4,.int .i64 (sj (some c1):Nat),.string s1,.slice A1 n1 p1,.int .i64 (sj (some c2):Nat),.string s2,.slice A3 n2 p2,.string (str tm),.int .i64 n]) cK rfl _ rfl rfl ((AY.out.af _).set 8 _) rfl ?_)|(refine ak cK rfl _ _ rfl rfl rfl (ax.fD (Zc.out.af _) hne _) rfl rfl (by simp[Value.oneCell']) ?_;intro W2 gM hk2));refine gZ cK Tryz.results27 rfl gM rfl ?_;exact fin _ _ gM hk2
       ·have hci:((sj q2:Int) != 1)=true:=by simp;omega
        have HN:Hid (x=.none):=by unfold Hid;rw[yw.out];exact WQ hc
        clear hq hc fs1 fs2 fs3;go_upto_region 15 with(go_at_call 63;refine(ia tv SW.out _).mono ?_;rintro e w4 ⟨rfl,δ4,rfl⟩;rw[iX.out.1,iX.out.2]);go_upto_region 16 with fail;go_upto_region 17 with fail;go_wp2_with (refine ak cK rfl _ _ rfl rfl rfl (ax.fD (Zc.out.af _) hne _) rfl rfl (by simp[Value.oneCell']) ?_;intro W2 gM hk2);refine gZ cK Tryz.results27 rfl gM rfl (mC HN.out (fy (w:=w) hk2 (by rintro b rfl;exact nR _)))
      ·have hqi:((sj q1:Int) != 2)=true:=by simp;omega
       have HN:Hid (x=.none):=by unfold Hid;rw[yw.out];exact WN hq
       clear hq fs1 fs2 fs3;go_upto_region 15 with(go_at_call 63;refine(ia tv SW.out _).mono ?_;rintro e w4 ⟨rfl,δ4,rfl⟩;rw[iX.out.1,iX.out.2]);go_upto_region 16 with fail;go_upto_region 17 with fail;go_wp2_with (refine ak cK rfl _ _ rfl rfl rfl (ax.fD (Zc.out.af _) hne _) rfl rfl (by simp[Value.oneCell']) ?_;intro W2 gM hk2);refine gZ cK Tryz.results27 rfl gM rfl (mC HN.out (fy (w:=w) hk2 (by rintro b rfl;exact nR _)))
theorem QI{x:tC}{w w':nJ}{c:dU}{A:Option Addr}{n cap:Nat}{s:ByteArray}(h:x=.cmd c)(hl:∃δ,w'=af w δ)(hW:ek w'.heap.size w' (.agg #[.int .i64 (cN c.w:Nat),.string s,.slice A n cap]) (some c)):fR x w (.returned (.agg #[.int .i64 (cN c.w:Nat),.int .i64 (cN c.w:Nat),.string s,.slice A n cap,.int .i64 0,.string ⟨#[]⟩,.slice none 0 0,.string ⟨#[]⟩,.int .i64 0])) w':=by subst h;obtain⟨δ,rfl⟩:=hl;obtain⟨B1,C1,e1,t1⟩:=hW;injection e1 with e1;have e1:=congrArg Array.toList e1;simp only[List.cons.injEq,Value.string.injEq,Value.slice.injEq,and_true] at e1;obtain⟨_,a2,a3,a4,a5⟩:=e1;exact⟨_,δ,rfl,rfl,B1,C1,by rw[a2,a3,a4,a5],t1⟩
theorem I5(l:bz)(hl:l.length<=1048576)(hw:¬(bG l).head?=some lY)(w:nJ):Calls nH 27 #[.string (str l)] w (fR (bK l) w):=by
 have hlen:=(jv l).1;have hmem:=(jv l).2;have hR:bK l=match bM (bG l) with|some c=>.cmd c|none=>.none:=by unfold bK eD;rw[if_neg hw];cases bM (bG l)<;>rfl
 obtain⟨x,hx⟩:∃x,bK l=x:=⟨_,rfl⟩;rw[hx] at hR ⊢;clear hx;have hne:=oC l;obtain⟨ws,pO⟩:∃ws,bG l=ws:=⟨_,rfl⟩;have HWS:=qh pO;rw[pO] at hlen hmem hw hR hne;have HM:Hid (∀t∈ws,t.length<=1048576):=qh fun t ht=>by have:=hmem t ht;omega
 have hpos:0<ws.length:=List.length_pos_iff.2 hne;have hpi:(0:Int)<(ws.length:Int):=nQ;have hl1:ws.length<=1048577:=nQ;have f1:((str (nth ws 0)).toList==[119,104,101,110])=false:=by
  rw[cF,decide_eq_false];intro e;cases ws with
  |nil=>exact hne rfl
  |cons t r=>exact hw (congrArg some e)
 obtain⟨t0,ht0⟩:∃t0,nth ws 0=t0:=⟨_,rfl⟩;have HT0:=qh ht0;rw[ht0] at f1;have iNe:∀ {W:nJ} {b:Nat} [Lt b W],qM b W.heap.size:=fun {W b} [h:Lt b W]=>⟨Nat.ne_of_lt h.out⟩;rcases hc:bM ws with _|c
 ·have HN:Hid (x=.none):=by unfold Hid;rw[hR,hc]
  have HC:=qh hc;clear pO hmem hlen hw hR hne ht0 hc;go_enter Tryz.func27,Tryz.ntmps27;go_upto_region 4 with(first|(go_at_call 61;refine(wP l hl _).mono ?_;rw[HWS.out];rintro e w1 ⟨A,c,rfl,hs,δ1,hw1⟩;obtain⟨b,o,rfl,hb,d0⟩:=hs.mh hpos;rw[HT0.out] at d0;simp only[Nat.add_zero] at d0;have HS:=qh hs;have z1:ax w1 w.heap.size 68 #[.int .i64 0,.int .i64 0,.string ⟨#[]⟩,.slice none 0 0,.int .i64 0,.string ⟨#[]⟩,.slice none 0 0,.string ⟨#[]⟩,.int .i64 0]:=(by rw[hw1];exact(ax.new rfl).af _);have g3:au w.heap.size w w1:=(by rw[hw1];infer_instance);have g4:Le w.heap.size w1:=(by rw[hw1];infer_instance);have ib:Lt b w1:=⟨hb⟩;have Z1:=qh z1;have iz:=z1.lt;clear hw1 hs hb z1)|(go_at_call 62;refine(zo ws _ _ HM.out hl1 w1.heap.size _ HS.out.up).mono ?_;rw[HC.out];rintro e w2 ⟨v1,δ2,rfl,rfl,h1⟩;obtain rfl:v1=.agg #[.int .i64 0,.string ⟨#[]⟩,.slice none 0 0]:=h1));go_wp2_with (refine ak cK rfl _ _ rfl rfl rfl ((Z1.out.af _).alloc _) rfl rfl (by simp[Value.oneCell']) ?_;intro W2 gM hk2);refine gZ cK Tryz.results27 rfl gM rfl (mC HN.out (fy (w:=w) hk2 (by rintro b rfl;exact nR _)))
 ·have HN:Hid (x=.cmd c):=by unfold Hid;rw[hR,hc]
  have HC:=qh hc;clear pO hmem hlen hw hR hne ht0 hc;go_enter Tryz.func27,Tryz.ntmps27;go_upto_region 4 with(first|(go_at_call 61;refine(wP l hl _).mono ?_;rw[HWS.out];rintro e w1 ⟨A,cc,rfl,hs,δ1,hw1⟩;obtain⟨b,o,rfl,hb,d0⟩:=hs.mh hpos;rw[HT0.out] at d0;simp only[Nat.add_zero] at d0;have HS:=qh hs;have z1:ax w1 w.heap.size 68 #[.int .i64 0,.int .i64 0,.string ⟨#[]⟩,.slice none 0 0,.int .i64 0,.string ⟨#[]⟩,.slice none 0 0,.string ⟨#[]⟩,.int .i64 0]:=(by rw[hw1];exact(ax.new rfl).af _);have g3:au w.heap.size w w1:=(by rw[hw1];infer_instance);have g4:Le w.heap.size w1:=(by rw[hw1];infer_instance);have ib:Lt b w1:=⟨hb⟩;have Z1:=qh z1;have iz:=z1.lt;clear hw1 hs hb z1)|(go_at_call 62;refine(zo ws _ _ HM.out hl1 w1.heap.size _ HS.out.up).mono ?_;rw[HC.out];rintro e w2 ⟨v1,δ2,rfl,rfl,h1⟩;obtain⟨s1,A1,n1,p1,rfl⟩:=h1.shape;have Pa:=qh h1;clear h1));go_wp2_with (refine ak cK rfl _ _ rfl rfl rfl ((Z1.out.af _).alloc _) rfl rfl (by simp[Value.oneCell']) ?_;intro W2 gM hk2);refine gZ cK Tryz.results27 rfl gM rfl ?_;refine QI HN.out (fy (w:=w) hk2 (by rintro b rfl;exact nR _)) ?_;obtain⟨B1,C1,e1,t1⟩:=Pa.out;exact⟨B1,C1,e1,(t1.up (w':=World.alloc _ _)).aR hk2 ((Z1.out.af _).alloc _) nU (inferInstance:Le _ _).out⟩
theorem Fp(l:bz)(hl:l.length<=1048576)(w:nJ):Calls nH 27 #[.string (str l)] w (fR (bK l) w):=by
 by_cases hw:(bG l).head?=some lY
 ·exact MC l hl hw w
 ·exact I5 l hl hw w
theorem ke(l:bz)(hl:l.length<=1000)(w:nJ):Calls nH 27 #[.string (str l)] w (fR (bK l) w):=Fp l nQ w
end
section
open Hd
theorem PR(b:Bool)(w:nJ):Calls nH 143 #[.bool b] w fun e w'=>e=.returned (.string (str (me b)))/\∃δ,w'=af w δ:=by cases b;all_goals go_enter Tryz.func143,Tryz.ntmps143;go_wp2;go_ret;exact⟨rfl,ag⟩
theorem Ce(e:Int)(x:bz)(w:nJ):Calls nH 144 #[.int .i64 e,.string (str x)] w fun e' w'=>e'=.returned (.string (str (nj e x)))/\∃δ,w'=af w δ:=by
 by_cases h0:e=0
 ·subst h0;go_enter Tryz.func144,Tryz.ntmps144;go_wp2;go_ret;exact⟨rfl,ag⟩
 ·by_cases h3:e=3
  ·subst h3;go_enter Tryz.func144,Tryz.ntmps144;go_wp2;go_ret;exact⟨rfl,ag⟩
  ·have e0:(e==0)=false:=by simp[h0]
   have e3:(e==3)=false:=by simp[h3]
   have HT:Hid (nj e x=IC):=by unfold Hid nj;rw[if_neg h0,if_neg h3]
   clear h0 h3;go_enter Tryz.func144,Tryz.ntmps144;go_wp2;go_ret;exact⟨by rw[HT.out];rfl,ag⟩
def eB(p:Int × Int)(w:nJ)(e:Ending)(w':nJ):Prop:=e=.returned (.tuple #[.int .i64 p.1,.int .i64 p.2])/\∃δ,w'=af w δ
theorem Fb{n:An.Net}(hv:An.valid n=true):An.xJ n=pZ (decide (An.jT n (bW n) 0=0)) (decide (An.jT n (gV n) 0=0)):=by unfold An.xJ M9;rw[hv];rfl
theorem sW{f g:Nat->Bool}:∀m k,(∀j,k<=j->j<k+m->f j=g j)->bP f m k=bP g m k
 |0,_,_=>rfl
 |m+1,k,h=>by unfold bP;rw[h k (nR _) nQ,sW m (k+1) fun j h1 h2=>h j nQ nQ]
theorem Ex{n:An.Net}(hv:An.valid n=true):bP (mP n) 21 0=bP (ri n) 21 0:=sW _ _ fun j _ h2=>by unfold mP ri;rw[decide_eq_decide];exact An.Cf (wF hv nQ)
theorem EP{t:aW}(hv:An.valid t.aF=true)(a:List Int):fm t ⟨.gy,a⟩=(ud (An.valid t.aF) (bP (mP t.aF) 21 0),ue (An.valid t.aF) (bP (mP t.aF) 21 0)):=by
 rw[Ex hv,hv];show(if An.wN t.aF=21 then ((0:Int),(3:Int)) else ((An.wN t.aF:Int),0))=_;unfold ud ue An.wN;by_cases h:bP (ri t.aF) 21 0=21
 ·simp[h]
 ·simp[h]
theorem St(r:aQ)(t:aW)(hv:aG t=true)(a:List Int)(A:Option Addr)(cap:Nat)(B:Nat)(w:nJ)(hT:aJ B w r t)[hB:Le B w]:Calls nH 60 #[aO r t,.agg #[.int .i64 2,.string (str (cj .safe)),.slice A a.length cap]] w (eB (fm t ⟨.safe,a⟩) w):=by
 obtain⟨v1,v2,v3⟩:=cr.1 hv;refine QCC ?_;intro V1 V2 V3 H;obtain⟨f0,f1,f2,f3,f4,f5,f6,f7,f8,f9,f10,f11,f12,f13,f14,f15,f16,f17,f18,f19⟩:=cS (cj .safe) (some .safe) (dI.2 rfl);simp only[Option.some.injEq,reduceCtorEq,decide_false,decide_true] at f0 f1 f2 f3 f4 f5 f6 f7 f8 f9 f10 f11 f12 f13 f14 f15 f16 f17 f18 f19;obtain⟨tx,gr⟩:∃tx,cj .safe=tx:=⟨_,rfl⟩;rw[gr] at f0 f1 f2 f3 f4 f5 f6 f7 f8 f9 f10 f11 f12 f13 f14 f15 f16 f17 f18 f19 ⊢;have HE:Hid (fm t ⟨.safe,a⟩=(An.xJ t.aF,cC (An.valid t.aF) 20)):=by unfold Hid;rw[Fb v1,v1];rfl
 clear hv v1 v2 v3 hT gr;go_enter Tryz.func60,Tryz.ntmps60;go_upto_region 1 with fail;refine QAX ?_;intro W1 aH cJ dF cU dA dD eI b1;refine QCB ?_;intro b2;obtain⟨x0,x1,x2,x3,x4,x5,x6,x7,x8,x9,yA,yz,uT,yy⟩:=b1.az;refine QDY ?_;intro y1 y2;clear aH b1 b2;go_wp2_with (go_at_call 121;refine(Tz r.aF t.aF B _ H.out.1.up).mono ?_;rintro e w1 ⟨rfl,δ1,rfl⟩);go_ret2;exact⟨by rw[HE.out];rfl,ag⟩
theorem Su(r:aQ)(t:aW)(hv:aG t=true)(a:List Int)(A:Option Addr)(cap:Nat)(B:Nat)(w:nJ)(hT:aJ B w r t)[hB:Le B w]:Calls nH 60 #[aO r t,.agg #[.int .i64 2,.string (str (cj .kr)),.slice A a.length cap]] w (eB (fm t ⟨.kr,a⟩) w):=by obtain⟨v1,v2,v3⟩:=cr.1 hv;refine QCC ?_;intro V1 V2 V3 H;obtain⟨f0,f1,f2,f3,f4,f5,f6,f7,f8,f9,f10,f11,f12,f13,f14,f15,f16,f17,f18,f19⟩:=cS (cj .kr) (some .kr) (dI.2 rfl);simp only[Option.some.injEq,reduceCtorEq,decide_false,decide_true] at f0 f1 f2 f3 f4 f5 f6 f7 f8 f9 f10 f11 f12 f13 f14 f15 f16 f17 f18 f19;obtain⟨tx,gr⟩:∃tx,cj .kr=tx:=⟨_,rfl⟩;rw[gr] at f0 f1 f2 f3 f4 f5 f6 f7 f8 f9 f10 f11 f12 f13 f14 f15 f16 f17 f18 f19 ⊢;have HE:Hid (fm t ⟨.kr,a⟩=(Me.dY t.ah,0)):=rfl;clear hv v1 v2 v3 hT gr;go_enter Tryz.func60,Tryz.ntmps60;go_upto_region 1 with fail;refine QAX ?_;intro W1 aH cJ dF cU dA dD eI b1;refine QCB ?_;intro b2;obtain⟨x0,x1,x2,x3,x4,x5,x6,x7,x8,x9,yA,yz,uT,yy⟩:=b1.az;refine QDY ?_;intro y1 y2;clear aH b1 b2;go_wp2_with (go_at_call 123;refine(Jb r.ah t.ah V2.out B _ H.out.2.1.up).mono ?_;rintro e w1 ⟨rfl,δ1,rfl⟩);go_ret2;exact⟨by rw[HE.out];rfl,ag⟩
theorem Sv(r:aQ)(t:aW)(hv:aG t=true)(a:List Int)(A:Option Addr)(cap:Nat)(B:Nat)(w:nJ)(hT:aJ B w r t)[hB:Le B w]:Calls nH 60 #[aO r t,.agg #[.int .i64 2,.string (str (cj .done)),.slice A a.length cap]] w (eB (fm t ⟨.done,a⟩) w):=by obtain⟨v1,v2,v3⟩:=cr.1 hv;refine QCC ?_;intro V1 V2 V3 H;obtain⟨f0,f1,f2,f3,f4,f5,f6,f7,f8,f9,f10,f11,f12,f13,f14,f15,f16,f17,f18,f19⟩:=cS (cj .done) (some .done) (dI.2 rfl);simp only[Option.some.injEq,reduceCtorEq,decide_false,decide_true] at f0 f1 f2 f3 f4 f5 f6 f7 f8 f9 f10 f11 f12 f13 f14 f15 f16 f17 f18 f19;obtain⟨tx,gr⟩:∃tx,cj .done=tx:=⟨_,rfl⟩;rw[gr] at f0 f1 f2 f3 f4 f5 f6 f7 f8 f9 f10 f11 f12 f13 f14 f15 f16 f17 f18 f19 ⊢;have HE:Hid (fm t ⟨.done,a⟩=(Me.sZ t.ah,0)):=rfl;clear hv v1 v2 v3 hT gr;go_enter Tryz.func60,Tryz.ntmps60;go_upto_region 1 with fail;refine QAX ?_;intro W1 aH cJ dF cU dA dD eI b1;refine QCB ?_;intro b2;obtain⟨x0,x1,x2,x3,x4,x5,x6,x7,x8,x9,yA,yz,uT,yy⟩:=b1.az;refine QDY ?_;intro y1 y2;clear aH b1 b2;go_wp2_with (go_at_call 124;refine(MH r.ah t.ah V2.out B _ H.out.2.1.up).mono ?_;rintro e w1 ⟨rfl,δ1,rfl⟩);go_ret2;exact⟨by rw[HE.out];rfl,ag⟩
theorem Ss(r:aQ)(t:aW)(hv:aG t=true)(a:List Int)(A:Option Addr)(cap:Nat)(B:Nat)(w:nJ)(hT:aJ B w r t)[hB:Le B w]:Calls nH 60 #[aO r t,.agg #[.int .i64 2,.string (str (cj .fU)),.slice A a.length cap]] w (eB (fm t ⟨.fU,a⟩) w):=by obtain⟨v1,v2,v3⟩:=cr.1 hv;refine QCC ?_;intro V1 V2 V3 H;obtain⟨f0,f1,f2,f3,f4,f5,f6,f7,f8,f9,f10,f11,f12,f13,f14,f15,f16,f17,f18,f19⟩:=cS (cj .fU) (some .fU) (dI.2 rfl);simp only[Option.some.injEq,reduceCtorEq,decide_false,decide_true] at f0 f1 f2 f3 f4 f5 f6 f7 f8 f9 f10 f11 f12 f13 f14 f15 f16 f17 f18 f19;obtain⟨tx,gr⟩:∃tx,cj .fU=tx:=⟨_,rfl⟩;rw[gr] at f0 f1 f2 f3 f4 f5 f6 f7 f8 f9 f10 f11 f12 f13 f14 f15 f16 f17 f18 f19 ⊢;have HE:Hid (fm t ⟨.fU,a⟩=pI t.aa):=rfl;clear hv v1 v2 v3 hT gr;go_enter Tryz.func60,Tryz.ntmps60;go_upto_region 1 with fail;refine QAX ?_;intro W1 aH cJ dF cU dA dD eI b1;refine QCB ?_;intro b2;obtain⟨x0,x1,x2,x3,x4,x5,x6,x7,x8,x9,yA,yz,uT,yy⟩:=b1.az;refine QDY ?_;intro y1 y2;clear aH b1 b2;go_wp2_with (go_at_call 125;refine(MG r.aa t.aa V3.out B _ H.out.2.2.up).mono ?_;rintro e w1 ⟨rfl,δ1,rfl⟩);go_ret2;exact⟨by rw[HE.out];rfl,ag⟩
theorem U6(r:aQ)(t:aW)(hv:aG t=true)(a:List Int)(A:Option Addr)(cap:Nat)(B:Nat)(w:nJ)(hT:aJ B w r t)[hB:Le B w]:Calls nH 60 #[aO r t,.agg #[.int .i64 2,.string (str (cj .yu)),.slice A a.length cap]] w (eB (fm t ⟨.yu,a⟩) w):=by obtain⟨v1,v2,v3⟩:=cr.1 hv;refine QCC ?_;intro V1 V2 V3 H;obtain⟨f0,f1,f2,f3,f4,f5,f6,f7,f8,f9,f10,f11,f12,f13,f14,f15,f16,f17,f18,f19⟩:=cS (cj .yu) (some .yu) (dI.2 rfl);simp only[Option.some.injEq,reduceCtorEq,decide_false,decide_true] at f0 f1 f2 f3 f4 f5 f6 f7 f8 f9 f10 f11 f12 f13 f14 f15 f16 f17 f18 f19;obtain⟨tx,gr⟩:∃tx,cj .yu=tx:=⟨_,rfl⟩;rw[gr] at f0 f1 f2 f3 f4 f5 f6 f7 f8 f9 f10 f11 f12 f13 f14 f15 f16 f17 f18 f19 ⊢;have HE:Hid (fm t ⟨.yu,a⟩=(Sa.rJ t.aa,Sa.tY t.aa)):=rfl;clear hv v1 v2 v3 hT gr;go_enter Tryz.func60,Tryz.ntmps60;go_upto_region 1 with fail;refine QAX ?_;intro W1 aH cJ dF cU dA dD eI b1;refine QCB ?_;intro b2;obtain⟨x0,x1,x2,x3,x4,x5,x6,x7,x8,x9,yA,yz,uT,yy⟩:=b1.az;refine QDY ?_;intro y1 y2;clear aH b1 b2;go_wp2_with (go_at_call 127;refine(WA r.aa t.aa V3.out B _ H.out.2.2.up).mono ?_;rintro e w1 ⟨rfl,δ1,rfl⟩);go_ret2;exact⟨by rw[HE.out];rfl,ag⟩
theorem OF(r:aQ)(t:aW)(hv:aG t=true)(a:List Int)(A:Option Addr)(cap:Nat)(B:Nat)(w:nJ)(hT:aJ B w r t)[hB:Le B w]:Calls nH 60 #[aO r t,.agg #[.int .i64 2,.string (str (cj .gy)),.slice A a.length cap]] w (eB (fm t ⟨.gy,a⟩) w):=by obtain⟨v1,v2,v3⟩:=cr.1 hv;refine QCC ?_;intro V1 V2 V3 H;obtain⟨f0,f1,f2,f3,f4,f5,f6,f7,f8,f9,f10,f11,f12,f13,f14,f15,f16,f17,f18,f19⟩:=cS (cj .gy) (some .gy) (dI.2 rfl);simp only[Option.some.injEq,reduceCtorEq,decide_false,decide_true] at f0 f1 f2 f3 f4 f5 f6 f7 f8 f9 f10 f11 f12 f13 f14 f15 f16 f17 f18 f19;obtain⟨tx,gr⟩:∃tx,cj .gy=tx:=⟨_,rfl⟩;rw[gr] at f0 f1 f2 f3 f4 f5 f6 f7 f8 f9 f10 f11 f12 f13 f14 f15 f16 f17 f18 f19 ⊢;have HE:Hid (fm t ⟨.gy,a⟩=(ud (An.valid t.aF) (bP (mP t.aF) 21 0),ue (An.valid t.aF) (bP (mP t.aF) 21 0))):=EP v1 a;clear hv v1 v2 v3 hT gr;go_enter Tryz.func60,Tryz.ntmps60;go_upto_region 1 with fail;refine QAX ?_;intro W1 aH cJ dF cU dA dD eI b1;refine QCB ?_;intro b2;obtain⟨x0,x1,x2,x3,x4,x5,x6,x7,x8,x9,yA,yz,uT,yy⟩:=b1.az;refine QDY ?_;intro y1 y2;clear aH b1 b2;go_wp2_with (go_at_call 122;refine(Tx r.aF t.aF B _ H.out.1.up).mono ?_;rintro e w1 ⟨rfl,δ1,rfl⟩);go_ret2;exact⟨by rw[HE.out];rfl,ag⟩
theorem OG(r:aQ)(t:aW)(hv:aG t=true)(a:List Int)(d:Int)(ha:a=[d])(A:Option Addr)(cap:Nat)(B:Nat)(w:nJ)(hT:aJ B w r t)[hB:Le B w](hS:Sl aI B w A cap a):Calls nH 60 #[aO r t,.agg #[.int .i64 2,.string (str (cj .early)),.slice A a.length cap]] w (eB (fm t ⟨.early,a⟩) w):=by
 obtain⟨v1,v2,v3⟩:=cr.1 hv;refine QCC ?_;intro V1 V2 V3 H;obtain⟨f0,f1,f2,f3,f4,f5,f6,f7,f8,f9,f10,f11,f12,f13,f14,f15,f16,f17,f18,f19⟩:=cS (cj .early) (some .early) (dI.2 rfl);simp only[Option.some.injEq,reduceCtorEq,decide_false,decide_true] at f0 f1 f2 f3 f4 f5 f6 f7 f8 f9 f10 f11 f12 f13 f14 f15 f16 f17 f18 f19;obtain⟨tx,gr⟩:∃tx,cj .early=tx:=⟨_,rfl⟩;rw[gr] at f0 f1 f2 f3 f4 f5 f6 f7 f8 f9 f10 f11 f12 f13 f14 f15 f16 f17 f18 f19 ⊢;have HE:Hid (fm t ⟨.early,a⟩=jP t.aa d):=by unfold Hid;subst ha;rfl
 obtain⟨bb,oo,rfl,ir,dd⟩:=hS.int (k:=0) (by rw[ha];simp);have ib:Lt bb w:=⟨nL ir hB.out⟩;have d0:w.cell? ⟨bb,oo,none⟩=some (.int .i64 d):=by rw[ha] at dd;simpa [nth] using dd
 have hl1:(0:Int)<(a.length:Int):=by rw[ha];simp
 have HLA:Hid (a.length=1):=by unfold Hid;rw[ha];rfl
 clear dd hS ha ir hv v1 v2 v3 hT gr;go_enter Tryz.func60,Tryz.ntmps60;go_upto_region 1 with fail;refine QAX ?_;intro W1 aH cJ dF cU dA dD eI b1;have b2:ax W1 (w.heap.size+1) 66 #[.int .i64 2,.string (str tx),.slice (some ⟨bb,oo,none⟩) a.length cap]:=by rw[aH.out];exact ax.new nV
 obtain⟨x0,x1,x2,x3,x4,x5,x6,x7,x8,x9,yA,yz,uT,yy⟩:=b1.az;refine QDY ?_;intro y1 y2;have XW1:=aH;have ib1:Lt bb W1:=nt aH;clear aH b1 b2;have d1:W1.cell? ⟨bb,oo,none⟩=some (.int .i64 d):=by rw[XW1.out];go_simp
 clear XW1;go_wp2_with fail;refine wpRl ?_;repeat (go_big_quiet_step ((first|(go_at_call 126;exact Calls.bN (PU r.aa t.aa V3.out d B _ H.out.2.2.up)))))
 refine QBT ?_;rintro _ ⟨δq,rfl⟩;go_wp2_with fail;go_ret2;exact⟨by rw[HE.out];rfl,ag⟩
end
section
open Hd
theorem Ft(r:aQ)(t:aW)(hv:aG t=true)(c:dU)(hk:cN c.w=2)(hl:c.a.length=tq c.w)(v:nK)(B:Nat)(w:nJ)(hT:aJ B w r t)[hB:Le B w](hV:ek B w v (some c)):Calls nH 60 #[aO r t,v] w (eB (fm t c) w):=by
 obtain⟨A,cap,rfl,hS⟩:=hV;obtain⟨d,a⟩:=c;cases d with
 |safe=>exact St r t hv a A cap B w hT
 |gy=>exact OF r t hv a A cap B w hT
 |kr=>exact Su r t hv a A cap B w hT
 |done=>exact Sv r t hv a A cap B w hT
 |fU=>exact Ss r t hv a A cap B w hT
 |yu=>exact U6 r t hv a A cap B w hT
 |early=>
  obtain⟨x,rfl⟩:∃x,a=[x]:=by
   match a,hl with
   |[x],_=>exact⟨x,rfl⟩
  exact OG r t hv [x] x rfl A cap B w hT hS.plain
 |_=>simp[cN] at hk
def mI(p:List Int × Int)(w:nJ)(e:Ending)(w':nJ):Prop:=∃(A:Option Addr) (n c:Nat) (δ:nJ),e=.returned (.tuple #[.slice A n c,.int .i64 p.2])/\n=p.1.length/\w'=af w δ/\Sl aI (af w δ).heap.size (af w δ) A c p.1
theorem QA(r:aQ)(t:aW)(hv:aG t=true)(a:List Int)(A:Option Addr)(cap:Nat)(B:Nat)(w:nJ)(hT:aJ B w r t)[hB:Le B w]:Calls nH 145 #[aO r t,.agg #[.int .i64 3,.string (str (cj .nw)),.slice A a.length cap]] w (mI (qY t ⟨.nw,a⟩) w):=by obtain⟨v1,v2,v3⟩:=cr.1 hv;refine QCC ?_;intro V1 V2 V3 H;obtain⟨f0,f1,f2,f3,f4,f5,f6,f7,f8,f9,f10,f11,f12,f13,f14,f15,f16,f17,f18,f19⟩:=cS (cj .nw) (some .nw) (dI.2 rfl);simp only[Option.some.injEq,reduceCtorEq,decide_false,decide_true] at f0 f1 f2 f3 f4 f5 f6 f7 f8 f9 f10 f11 f12 f13 f14 f15 f16 f17 f18 f19;obtain⟨tx,gr⟩:∃tx,cj .nw=tx:=⟨_,rfl⟩;rw[gr] at f0 f1 f2 f3 f4 f5 f6 f7 f8 f9 f10 f11 f12 f13 f14 f15 f16 f17 f18 f19 ⊢;clear hv v1 v2 v3 hT gr;go_enter Tryz.func145,Tryz.ntmps145;go_upto_region 1 with fail;refine QAX ?_;intro W1 aH cJ dF cU dA dD eI b1;refine QEM ?_;intro b2;obtain⟨x0,x1,x2,x3,x4,x5,x6,x7,x8,x9,yA,yz,uT,yy⟩:=b1.az;have y1:=b2.cell (i:=1) rfl;clear aH b1 b2;go_wp2_with (go_at_call 202;refine(TA r.aF t.aF B _ H.out.1.up).mono ?_;rintro e w1 ⟨A1,c1,δ1,rfl,rfl,hs⟩;have HS:=qh hs;clear hs);go_ret2;refine⟨A1,_,c1,_,rfl,rfl,aq,?_⟩;refine QDJ ?_;exact HS.out
theorem Np(r:aQ)(t:aW)(hv:aG t=true)(a:List Int)(A:Option Addr)(cap:Nat)(B:Nat)(w:nJ)(hT:aJ B w r t)[hB:Le B w]:Calls nH 145 #[aO r t,.agg #[.int .i64 3,.string (str (cj .order)),.slice A a.length cap]] w (mI (qY t ⟨.order,a⟩) w):=by obtain⟨v1,v2,v3⟩:=cr.1 hv;refine QCC ?_;intro V1 V2 V3 H;obtain⟨f0,f1,f2,f3,f4,f5,f6,f7,f8,f9,f10,f11,f12,f13,f14,f15,f16,f17,f18,f19⟩:=cS (cj .order) (some .order) (dI.2 rfl);simp only[Option.some.injEq,reduceCtorEq,decide_false,decide_true] at f0 f1 f2 f3 f4 f5 f6 f7 f8 f9 f10 f11 f12 f13 f14 f15 f16 f17 f18 f19;obtain⟨tx,gr⟩:∃tx,cj .order=tx:=⟨_,rfl⟩;rw[gr] at f0 f1 f2 f3 f4 f5 f6 f7 f8 f9 f10 f11 f12 f13 f14 f15 f16 f17 f18 f19 ⊢;clear hv v1 v2 v3 hT gr;go_enter Tryz.func145,Tryz.ntmps145;go_upto_region 1 with fail;refine QAX ?_;intro W1 aH cJ dF cU dA dD eI b1;refine QEM ?_;intro b2;obtain⟨x0,x1,x2,x3,x4,x5,x6,x7,x8,x9,yA,yz,uT,yy⟩:=b1.az;have y1:=b2.cell (i:=1) rfl;clear aH b1 b2;go_wp2_with (go_at_call 200;refine(zq r.ah t.ah V2.out B _ H.out.2.1.up).mono ?_;rintro e w1 ⟨A1,c1,δ1,rfl,rfl,HS⟩);go_ret2;refine⟨A1,_,c1,_,rfl,(Me.jB (Me.iL (p4 V2.out))).symm,aq,?_⟩;refine QDJ ?_;exact HS.out
theorem Qz(r:aQ)(t:aW)(hv:aG t=true)(a:List Int)(A:Option Addr)(cap:Nat)(B:Nat)(w:nJ)(hT:aJ B w r t)[hB:Le B w]:Calls nH 145 #[aO r t,.agg #[.int .i64 3,.string (str (cj .pack)),.slice A a.length cap]] w (mI (qY t ⟨.pack,a⟩) w):=by obtain⟨v1,v2,v3⟩:=cr.1 hv;refine QCC ?_;intro V1 V2 V3 H;obtain⟨f0,f1,f2,f3,f4,f5,f6,f7,f8,f9,f10,f11,f12,f13,f14,f15,f16,f17,f18,f19⟩:=cS (cj .pack) (some .pack) (dI.2 rfl);simp only[Option.some.injEq,reduceCtorEq,decide_false,decide_true] at f0 f1 f2 f3 f4 f5 f6 f7 f8 f9 f10 f11 f12 f13 f14 f15 f16 f17 f18 f19;obtain⟨tx,gr⟩:∃tx,cj .pack=tx:=⟨_,rfl⟩;rw[gr] at f0 f1 f2 f3 f4 f5 f6 f7 f8 f9 f10 f11 f12 f13 f14 f15 f16 f17 f18 f19 ⊢;clear hv v1 v2 v3 hT gr;go_enter Tryz.func145,Tryz.ntmps145;go_upto_region 1 with fail;refine QAX ?_;intro W1 aH cJ dF cU dA dD eI b1;refine QEM ?_;intro b2;obtain⟨x0,x1,x2,x3,x4,x5,x6,x7,x8,x9,yA,yz,uT,yy⟩:=b1.az;have y1:=b2.cell (i:=1) rfl;clear aH b1 b2;go_wp2_with (go_at_call 29;refine(Dn r.aa t.aa V3.out B _ H.out.2.2.up).mono ?_;rintro e w1 ⟨A1,m1,c1,δ1,rfl,hm,hs,rfl⟩;have HS:=qh hs;have HM:=qh hm;clear hs hm);go_ret2;refine⟨A1,_,c1,_,rfl,HM.out,aq,?_⟩;refine QDJ ?_;exact HS.out
theorem MF(r:aQ)(t:aW)(hv:aG t=true)(c:dU)(hk:cN c.w=3)(v:nK)(B:Nat)(w:nJ)(hT:aJ B w r t)[hB:Le B w](hV:ek B w v (some c)):Calls nH 145 #[aO r t,v] w (mI (qY t c) w):=by
 obtain⟨A,cap,rfl,hS⟩:=hV;obtain⟨d,a⟩:=c;cases d with
 |nw=>exact QA r t hv a A cap B w hT
 |order=>exact Np r t hv a A cap B w hT
 |pack=>exact Qz r t hv a A cap B w hT
 |_=>simp[cN] at hk
end
section
open Hd
theorem uH{t:bz}{q c:dU}{s:UInt8}{n:Int}(h:bK t=.ord q s n c):cN q.w=2/\q.a.length=tq q.w/\cN c.w=1/\c.a.length=tq c.w/\(s=60\/s=61\/s=62):=by obtain⟨k,h1,h2,h3,h4,h5,h6,h7,h8⟩:=tJ h;exact⟨h8.1,(mS h4).1,h8.2,(mS h7).1,(BM h5).2⟩
theorem vl(r:aQ)(t:aW)(hv:aG t=true)(q c:dU)(s:UInt8)(n:Int)(hk:cN q.w=2)(hl:q.a.length=tq q.w)(hs:s=60\/s=61\/s=62)(v:nK)(B:Nat)(w:nJ)(hT:aJ B w r t)[hB:Le B w](hV:mF B w v (.ord q s n c)):Calls nH 26 #[aO r t,v] w fun e w'=>e=.returned (.bool (cY t q s n))/\∃δ,w'=af w δ:=by
 obtain⟨A,cap,A',cap',rfl,Il,hS2⟩:=hV;have HV:=qh hv;have HK:=qh hk;have HL:=qh hl;have H:=qh hT;have mY:=qh Il;have HH:Hid (cY t q s n=(decide ((fm t q).2=0)&&BN s (fm t q).1 n)):=rfl;have HA:Hid (∀W:nJ,au B w W->Le B W->Calls nH 60 #[aO r t,.agg #[.int .i64 (cN q.w:Nat),.string (str (cj q.w)),.slice A q.a.length cap]] W (eB (fm t q) W)):=qh fun W i1 i2=>Ft r t hv q hk hl _ B W hT.up ⟨A,cap,rfl,Il.up⟩;obtain⟨x,e,hx⟩:∃x e,fm t q=(x,e):=⟨_,_,rfl⟩;rw[hx] at HH HA;obtain⟨kd,JZ⟩:∃kd,cN q.w=kd:=⟨_,rfl⟩;obtain⟨kc,hkc⟩:∃kc,cN c.w=kc:=⟨_,rfl⟩;obtain⟨tx,gr⟩:∃tx,cj q.w=tx:=⟨_,rfl⟩;obtain⟨tc,htc⟩:∃tc,cj c.w=tc:=⟨_,rfl⟩;rw[JZ,gr] at HA;rw[JZ,gr,hkc,htc];have f1:((str [s]).toList==[60])=decide (([s]:bz)=[60]):=cF _ _;have f2:((str [s]).toList==[61])=decide (([s]:bz)=[61]):=cF _ _;clear hv hk hl hT Il hS2 hx JZ hkc gr htc;go_enter Tryz.func26,Tryz.ntmps26;go_upto_region 1 with fail;refine QCD ?_;intro W1 aH cJ dF cU dA dD eI;have b1:Hid (ax W1 w.heap.size 39 (aE r t)):=by rw[aH.out];exact(ax.new rfl).alloc _
 have b2:ax W1 (w.heap.size+1) 68 #[.int .i64 4,.int .i64 kd,.string (str tx),.slice A q.a.length cap,.int .i64 kc,.string (str tc),.slice A' c.a.length cap',.string (str [s]),.int .i64 n]:=by rw[aH.out];exact ax.new nV
 refine QDY ?_;intro y1 y2;have y3:=b2.cell (i:=3) rfl;have y7:=b2.cell (i:=7) rfl;have y8:=b2.cell (i:=8) rfl;clear aH b2;go_upto_region 2 with(first|(refine av ai rfl _ rfl rfl b1.out rfl ?_)|(go_at_call 60;refine(HA.out _ inferInstance inferInstance).mono ?_;rintro e w1 ⟨rfl,δ1,rfl⟩));by_cases he:e=0
 ·subst he;rcases hs with rfl|rfl|rfl
  ·have HF:Hid (cY t q 60 n=decide (x<n)):=by unfold Hid;rw[HH.out];rfl
   rw[show decide (([60]:bz)=[60])=true from rfl] at f1;clear f2 HH;go_wp2;go_ret;exact⟨bu HF.out.symm,ag⟩
  ·have HF:Hid (cY t q 61 n=decide (x=n)):=by unfold Hid;rw[HH.out];rfl
   rw[show decide (([61]:bz)=[60])=false from by decide] at f1;rw[show decide (([61]:bz)=[61])=true from rfl] at f2;clear HH;go_wp2;go_ret;exact⟨bu (by rw[HF.out];(first|rfl|simp)),ag⟩
  ·have HF:Hid (cY t q 62 n=decide (n<x)):=by unfold Hid;rw[HH.out];rfl
   rw[show decide (([62]:bz)=[60])=false from by decide] at f1;rw[show decide (([62]:bz)=[61])=false from by decide] at f2;clear HH;go_wp2;go_ret;exact⟨bu (by rw[HF.out]),ag⟩
 ·have HF:Hid (cY t q s n=false):=by unfold Hid;rw[HH.out];simp[he]
  have hen:(e != 0)=true:=by simpa using he
  clear HH he;go_wp2;go_ret;exact⟨bu HF.out.symm,ag⟩
end
section
open Hd
def lW(o:Ord):List nK:=[.int .i64 (o.num:Nat),.string (str o.line)]
theorem sY(o:Ord):(lW o).length=2:=rfl
theorem vw:∀x:Ord,∀u∈lW x,u.oneCell'=true:=by intro x u hu;simp[lW] at hu;rcases hu with rfl|rfl<;>rfl
theorem Y8:pF nH 80 226 (.agg #[.int .i64 0,.string ⟨#[]⟩]) 2 24:=pF.mk Tryz.underlying80 nP rfl nQ
theorem Sl.order{B:Nat}{w:nJ}{A:Option Addr}{c:Nat}{xs:List Ord}(h:Sl lW B w A c xs){k:Nat}(hk:k<xs.length):∃b o,A=some ⟨b,o,none⟩/\b<B/\w.cell? ⟨b,o+k*2,none⟩=some (.int .i64 ((nth xs k).num:Nat))/\w.cell? ⟨b,o+k*2+1,none⟩=some (.string (str (nth xs k).line)):=by obtain⟨b,o,hA,hb,hc⟩:=h.at_ (size:=2) sY hk nQ;rw[bR _ hk];exact⟨b,o,hA,hb,hc 0 _ rfl,hc 1 _ rfl⟩
end
end Go.Proofs.YtdmedlkonaclnaaGreatDoor
