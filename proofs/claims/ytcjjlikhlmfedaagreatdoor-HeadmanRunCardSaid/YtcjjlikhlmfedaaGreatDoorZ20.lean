/- A part of the proof that the statement HeadmanRunCardSaid holds, cut small by a program (names and blanks): Hw7, Hw8, Hw9, Hw10, Hw11. -/
import Derived.Test.YtcjjlikhlmfedaaGreatDoorZ12
import Derived.Test.YtcjjlikhlmfedaaGreatDoorZ19
set_option maxRecDepth 100000
set_option maxHeartbeats 40000000
set_option linter.unusedVariables false
set_option linter.unusedSimpArgs false
namespace Go.Proofs.YtcjjlikhlmfedaaGreatDoor
open Go.RowKit
open Nat renaming le_trans → nT, lt_of_lt_of_le → nL, le_refl → nR, zero_le → nE
open Go.Proofs.Tryz renaming prog → nH
open Go renaming World → nJ, Value → nK
section
open Hd
def qx(o:Option eH):Nat:=match o with|none=>0|some c=>cP c.w
theorem dL.shape{B:Nat}{w:nJ}{v:nK}{o:Option eH}(h:dL B w v o):∃(s:ByteArray) (A:Option Addr) (n cap:Nat),v=.agg #[.int .i64 (qx o:Nat),.string s,.slice A n cap]:=by
 cases o with
 |none=>exact⟨_,_,_,_,h⟩
 |some c=>obtain⟨A,cap,h1,h2⟩:=h;exact⟨_,_,_,_,h1⟩
def Is(B:Nat)(w:nJ)(v:nK):vq->Prop
 |.none=>v=.agg #[.int .i64 0,.int .i64 0,.string ⟨#[]⟩,.slice none 0 0,.int .i64 0,.string ⟨#[]⟩,.slice none 0 0,.string ⟨#[]⟩,.int .i64 0]
 |.cmd c=>∃A cap,v=.agg #[.int .i64 (cP c.w:Nat),.int .i64 (cP c.w:Nat),.string (str (cJ c.w)),.slice A c.a.length cap,.int .i64 0,.string ⟨#[]⟩,.slice none 0 0,.string ⟨#[]⟩,.int .i64 0]/\fm 3 aH B w A cap c.a
 |.ord q s n c=>∃A cap A' cap',v=.agg #[.int .i64 4,.int .i64 (cP q.w:Nat),.string (str (cJ q.w)),.slice A q.a.length cap,.int .i64 (cP c.w:Nat),.string (str (cJ c.w)),.slice A' c.a.length cap',.string (str [s]),.int .i64 n]/\fm 3 aH B w A cap q.a/\fm 3 aH B w A' cap' c.a
def pF(x:vq)(w:nJ)(e:Ending)(w':nJ):Prop:=∃v δ,e=.returned v/\w'=af w δ/\Is (af w δ).heap.size (af w δ) v x
theorem cR:fO nH 161 9:=fO.mk' Tryz.underlying161 rfl nP
def zE(o:Option Nat):Int:=match o with|none=>-1|some k=>k
theorem DO(t x:bL):∀xs:List bL,jg t (xs++[x])=(match jg t xs with|some j=>some j|none=>if x=t then some xs.length else none)
 |[]=>by simp only[List.nil_append,jg];split<;>simp
 |y::xs=>by
  rw[List.cons_append,jg,jg,DO t x xs];by_cases h:y=t
  ·rw[if_pos h,if_pos h]
  ·rw[if_neg h,if_neg h];cases jg t xs with
   |some j=>rfl
   |none=>simp only[Option.map_none];split<;>simp
def Cr(ws:List bL):vq:=(jg ij ws).elim .none fun k=>if k<4 then .none else oX ws k
theorem FH{l:bL}(hw:(bE l).head?=some kR):di l=Cr (bE l):=by unfold di dZ Cr;rw[if_pos hw];cases jg ij (bE l)<;>rfl
theorem kJ{x:vq}{w w':nJ}(h:x=.none)(hl:∃δ,w'=af w δ):pF x w (.returned (.agg #[.int .i64 0,.int .i64 0,.string ⟨#[]⟩,.slice none 0 0,.int .i64 0,.string ⟨#[]⟩,.slice none 0 0,.string ⟨#[]⟩,.int .i64 0])) w':=by subst h;obtain⟨δ,rfl⟩:=hl;exact⟨_,δ,rfl,rfl,rfl⟩
theorem dL.more{B B':Nat}{w:nJ}{v:nK}{o:Option eH}(h:dL B w v o)(hB:B<=B'):dL B' w v o:=by
 cases o with
 |none=>exact h
 |some c=>obtain⟨A,cap,h1,h2⟩:=h;exact⟨A,cap,h1,h2.pV hB fun _ _ _ _ _=>rfl⟩
def Cf(w w1:nJ)(x1 x2:List bL)(t:bL)(s7:nK)(wx:nJ):Prop:=∃(g:Nat) (s1:ByteArray) (A1:Option Addr) (n1 p1:Nat) (s2:ByteArray) (A2:Option Addr) (n2 p2:Nat),
 s7=.pointer (some ⟨g,0,none⟩)/\Hid (av wx g 161 #[.int .i64 4,.int .i64 (qx (bJ x1):Nat),.string s1,.slice A1 n1 p1,.int .i64 (qx (bJ x2):Nat),.string s2,.slice A2 n2 p2,.string (str t),.int .i64 0]) /\
 Hid (dL wx.heap.size wx (.agg #[.int .i64 (qx (bJ x1):Nat),.string s1,.slice A1 n1 p1]) (bJ x1))/\Hid (dL wx.heap.size wx (.agg #[.int .i64 (qx (bJ x2):Nat),.string s2,.slice A2 n2 p2]) (bJ x2)) /\
 Hid (w1.heap.size<=g)/\aC w1.heap.size w1 wx/\Le w1.heap.size wx
theorem Qi{w w1 W:nJ}{x1 x2:List bL}{t:bL}{s1 s2:ByteArray}{A1 A2:Option Addr}{n1 p1 n2 p2:Nat}(h1:dL W.heap.size W (.agg #[.int .i64 (qx (bJ x1):Nat),.string s1,.slice A1 n1 p1]) (bJ x1))(h2:dL W.heap.size W (.agg #[.int .i64 (qx (bJ x2):Nat),.string s2,.slice A2 n2 p2]) (bJ x2))[aC w1.heap.size w1 W][hL:Le w1.heap.size W]:Cf w w1 x1 x2 t (.pointer (some ⟨W.heap.size,0,none⟩)) (W.alloc (.cells #[.int .i64 4,.int .i64 (qx (bJ x1):Nat),.string s1,.slice A1 n1 p1,.int .i64 (qx (bJ x2):Nat),.string s2,.slice A2 n2 p2,.string (str t),.int .i64 0] 161)):=
 ⟨_,s1,A1,n1,p1,s2,A2,n2,p2,rfl,av.new rfl,h1.wide,h2.wide,hL.out,inferInstance,inferInstance⟩
structure Ce(w1:nJ)(B g:Nat)(v1 v2:nK)(o1 o2:Option eH)(cs:Array nK)(W:nJ):Prop where
 box:av W g 161 cs
 fst:dL B W v1 o1
 snd:dL B W v2 o2
 low:w1.heap.size<=g
 fK:aC w1.heap.size w1 W
 le:Le w1.heap.size W
 top:B<=W.heap.size
theorem Ce.step{w1 W:nJ}{B g:Nat}{v1 v2:nK}{o1 o2:Option eH}{cs:Array nK}(h:Ce w1 B g v1 v2 o1 o2 cs W)(i:Nat)(u:nK):Ce w1 B g v1 v2 o1 o2 (cs.setIfInBounds i u) (W.setCell ⟨g,i,none⟩ u):=by have iN:mw w1.heap.size g:=⟨h.low⟩;have i1:=h.fK;have i2:=h.le;exact⟨h.box.set i u,h.fst.dP h.box nU,h.snd.dP h.box nU,h.low,inferInstance,inferInstance,by simpa using h.top⟩
theorem Ce.put{w w1 W:nJ}{B g:Nat}{x1 x2:List bL}{t:bL}{s1 s2:ByteArray}{A1 A2:Option Addr}{n1 p1 n2 p2:Nat}{cs:Array nK}(h:Ce w1 B g (.agg #[.int .i64 (qx (bJ x1):Nat),.string s1,.slice A1 n1 p1]) (.agg #[.int .i64 (qx (bJ x2):Nat),.string s2,.slice A2 n2 p2]) (bJ x1) (bJ x2) cs W)(hcs:cs=#[.int .i64 4,.int .i64 (qx (bJ x1):Nat),.string s1,.slice A1 n1 p1,.int .i64 (qx (bJ x2):Nat),.string s2,.slice A2 n2 p2,.string (str t),.int .i64 0]):Cf w w1 x1 x2 t (.pointer (some ⟨g,0,none⟩)) W:=by subst hcs;exact⟨g,s1,A1,n1,p1,s2,A2,n2,p2,rfl,h.box,h.fst.more h.top,h.snd.more h.top,h.low,h.fK,h.le⟩
theorem CX(ws:List bL)(A:Option Addr)(ln c:Nat)(hn:ws.length=ln)(hl:∀t∈ws,t.length<=1000)(h1k:ws.length<=1001)(B:Nat)(w:nJ)(hS:Sl cm B w A c ws)[hB:Le B w]:Calls nH 135 #[.slice A ln c] w (rJ (bJ ws) w):=by subst hn;exact xb ws A c hl h1k B w hS
theorem fm.aO{α:Type}{enc:α->List nK}{T T':TypeId}{B g:Nat}{w w':nJ}{A:Option Addr}{c:Nat}{xs:List α}{cs:Array nK}(h:fm T enc B w A c xs)(k:bw (fun x=>x=g) w w')(hb:av w g T' cs)(hne:T'≠T)(hB:B<=w.heap.size):fm T enc w'.heap.size w' A c xs:=
 h.pV (nT hB k.size) fun b cur fr hb' hh=>k.block b (nL hb' hB) (by
  rintro rfl
  unfold av at hb
  rw[hb] at hh
  injection hh with hh
  injection hh with _ ht
  exact hne ht)
def J8(q c:Option eH)(s:Option UInt8)(n:Option Int):vq:=
 match q,s,n,c with
 |some q,some s,some n,some c=>if cP q.w=2/\cP c.w=1 then .ord q s n c else .none
 |_,_,_,_=>.none
theorem Tk{q c:Option eH}{s:Option UInt8}:J8 q c s none=.none:=by cases q<;>cases s<;>rfl
theorem Ti{q c:Option eH}{n:Option Int}:J8 q c none n=.none:=by cases q<;>rfl
theorem Tj{q c:Option eH}{s:Option UInt8}{n:Option Int}(h:qx q≠2):J8 q c s n=.none:=by
 cases q with
 |none=>rfl
 |some q=>
  cases s with
  |none=>rfl
  |some s=>cases n with
   |none=>rfl
   |some n=>cases c with
    |none=>rfl
    |some c=>exact if_neg fun hc=>h hc.1
theorem Tl{q c:Option eH}{s:Option UInt8}{n:Option Int}(h:qx c≠1):J8 q c s n=.none:=by
 cases c with
 |none=>cases q<;>cases s<;>cases n<;>rfl
 |some c=>
  cases q with
  |none=>rfl
  |some q=>
   cases s with
   |none=>rfl
   |some s=>cases n with
    |none=>rfl
    |some n=>exact if_neg fun hc=>h hc.2
theorem DG{o:Option eH}(h:qx o≠0):∃c,o=some c:=by
 cases o with
 |none=>exact absurd rfl h
 |some c=>exact⟨c,rfl⟩
theorem JH{t:bL}(h:kD t=none):t≠[60]/\t≠[61]/\t≠[62]:=by
 unfold kD at h;by_cases h1:t=[60]
 ·rw[if_pos h1] at h;cases h
 ·rw[if_neg h1] at h;by_cases h2:t=[61]
  ·rw[if_pos h2] at h;cases h
  ·rw[if_neg h2] at h;by_cases h3:t=[62]
   ·rw[if_pos h3] at h;cases h
   ·exact⟨h1,h2,h3⟩
theorem zJ{t:bL}{s:UInt8}(h:kD t=some s):t=[s]/\(s=60\/s=61\/s=62):=by
 unfold kD at h;split at h
 ·injection h with h;subst h;exact⟨nZ,.inl rfl⟩
 ·split at h
  ·injection h with h;subst h;exact⟨nZ,.inr (.inl rfl)⟩
  ·split at h
   ·injection h with h;subst h;exact⟨nZ,.inr (.inr rfl)⟩
   ·cases h
theorem JO(l:bL)(hl:l.length<=1000)(hw:(bE l).head?=some kR)(w:nJ):Calls nH 88 #[.string (str l)] w (pF (di l) w):=by
 have hlen:=(iQ l).1;have hmem:=(iQ l).2;have hR:=FH hw;obtain⟨x,hx⟩:∃x,di l=x:=⟨_,rfl⟩;rw[hx] at hR ⊢;clear hx;obtain⟨ws,oe⟩:∃ws,bE l=ws:=⟨_,rfl⟩;have XH:=qh oe;rw[oe] at hlen hmem hw hR;have HR:=qh hR;have HM:Hid (∀t∈ws,t.length<=1000):=qh fun t ht=>by have:=hmem t ht;omega
 have hpos:0<ws.length:=by cases ws with
  |nil=>cases hw
  |cons t r=>simp
 have hpi:(0:Int)<(ws.length:Int):=nQ;have HW0:Hid (nth ws 0=kR):=by
  cases ws with
  |nil=>cases hw
  |cons t r=>injection hw
 have hl1:ws.length<=1001:=nQ;have f1:((str kR).toList==[119,104,101,110])=true:=by rw[cA];rfl
 clear oe hmem hlen hw hR;go_enter Tryz.func88,Tryz.ntmps88;go_wp2_with (go_at_call 134;refine(xe l hl _).mono ?_;rw[XH.out];rintro e w1 ⟨A,c,rfl,hs,δ1,hw1⟩;obtain⟨b,o,rfl,hb,d0⟩:=hs.lQ hpos;rw[HW0.out] at d0;simp only[Nat.add_zero] at d0;have HS:=qh hs;have z1:av w1 w.heap.size 161 #[.int .i64 0,.int .i64 0,.string ⟨#[]⟩,.slice none 0 0,.int .i64 0,.string ⟨#[]⟩,.slice none 0 0,.string ⟨#[]⟩,.int .i64 0]:=(by rw[hw1];exact(av.new rfl).af _);have g3:aC w.heap.size w w1:=(by rw[hw1];infer_instance);have g4:Le w.heap.size w1:=(by rw[hw1];infer_instance);have ib:Lt b w1:=⟨hb⟩;have hcl:=hs.len;clear hw1 hs hb);have Z1:=qh z1;have iz:=z1.lt;clear z1;go_loopg [5,6] ws.length (fun gg th i wr=>∃(k:Nat) (δ:nJ),k<=ws.length/\gg=ws.length-k/\i=.int .i64 k/\th=.int .i64 (zE (jg ij (ws.take k)))/\wr=af w1 δ)
 case atStart=>exact⟨0,w1,nE _,rfl,rfl,rfl,(aY w1).symm⟩
 case round=>
  obtain⟨k,δ,hk,rfl,rfl,rfl,rfl⟩:=hrel;by_cases hlt:k<ws.length
  ·have hki:(k:Int)<(ws.length:Int):=nQ;have hk0:¬(k:Int)<0:=nQ;obtain⟨b2,o2,uo,gi,dk⟩:=HS.out.lQ hlt;injection uo with uo;injection uo with KW T8;subst KW T8;have HT:Hid (jg ij (ws.take (k+1))=match jg ij (ws.take k) with|some j=>some j|none=>if nth ws k=ij then some k else none):=by unfold Hid;rw[bu ws hlt,DO,List.length_take,Nat.min_eq_left hk]
   have ft:((str (nth ws k)).toList==[116,104,101,110])=decide (nth ws k=ij):=cA _ _;obtain⟨u,hu⟩:∃u,nth ws k=u:=⟨_,rfl⟩;rw[hu] at HT ft dk;clear gi hu;rcases hi:jg ij (ws.take k) with _|j
   ·rw[hi] at HT;by_cases UL:u=ij
    ·have Jt:Hid (jg ij (ws.take (k+1))=some k):=qh (HT.out.trans (if_pos UL));rw[decide_eq_true UL] at ft;have e1:zE none = -1:=rfl;clear hi UL HT;go_wp2_with fail;go_roundg (ws.length-(k+1))
     case measure=>omega
     case rel=>exact⟨k+1,_,hlt,rfl,by go_num,by rw[Jt.out];rfl,aq⟩
    ·have Jt:Hid (jg ij (ws.take (k+1))=none):=qh (HT.out.trans (if_neg UL));rw[decide_eq_false UL] at ft;have e1:zE none = -1:=rfl;clear hi UL HT;go_wp2_with fail;go_roundg (ws.length-(k+1))
     case measure=>omega
     case rel=>exact⟨k+1,_,hlt,rfl,by go_num,by rw[Jt.out];rfl,aq⟩
   ·rw[hi] at HT;have Jt:Hid (jg ij (ws.take (k+1))=some j):=HT;have e1:zE (some j)=(j:Int):=rfl;have ej:¬(j:Int)<0:=nQ;obtain⟨q,hq⟩:∃q,decide (u=ij)=q:=⟨_,rfl⟩;rw[hq] at ft;clear hi HT hq;cases q;all_goals
     go_wp2_with fail;go_roundg (ws.length-(k+1))
     case measure=>omega
     case rel=>exact⟨k+1,_,hlt,rfl,by go_num,by rw[Jt.out];rfl,aq⟩
  ·obtain rfl:k=ws.length:=by omega
   rw[List.take_length];rcases hi:jg ij ws with _|k
   ·have HN:Hid (x=.none):=by unfold Hid;rw[HR.out];unfold Cr;rw[hi];rfl
    have e1:zE none = -1:=rfl;clear hi;go_wp2_with (refine ah cR rfl _ _ rfl rfl rfl (Z1.out.af _) rfl rfl (by simp[Value.oneCell']) ?_;intro W2 gi hk2);refine gB cR Tryz.results88 rfl gi rfl (kJ HN.out (eU (w:=w) hk2 (by rintro b rfl;exact nR _)))
   ·have e1:zE (some k)=(k:Int):=rfl;have Q0:=(GL hi).1;by_cases h4:k<4
    ·have HN:Hid (x=.none):=by unfold Hid;rw[HR.out];unfold Cr;rw[hi];exact if_pos h4
     clear hi;have h4i:(k:Int)<4:=nQ;go_wp2_with (refine ah cR rfl _ _ rfl rfl rfl (Z1.out.af _) rfl rfl (by simp[Value.oneCell']) ?_;intro W2 gi hk2);refine gB cR Tryz.results88 rfl gi rfl (kJ HN.out (eU (w:=w) hk2 (by rintro b rfl;exact nR _)))
    ·have HX:Hid (x=oX ws k):=by unfold Hid;rw[HR.out];unfold Cr;rw[hi];exact if_neg h4
     clear hi;obtain⟨m,hm⟩:∃m,k=m+2:=⟨k-2,nQ⟩;obtain⟨u,hu⟩:∃u,u=k+1:=⟨_,rfl⟩;obtain⟨v,hv⟩:∃v,v=m+1:=⟨_,rfl⟩;have h4i:¬((k:Int)<4):=nQ;have hcc:ws.length<=c:=HS.out.1;have hw1:IntKind.i64.wrap ((k:Int)-2)=(m:Int):=by rw[IntWalk.i64_in _ nQ];omega
     have Z9:IntKind.i64.wrap ((k:Int)+1)=(u:Int):=by rw[IntWalk.i64_in _ nQ];omega
     have Z8:IntKind.i64.wrap ((k:Int)-1)=(v:Int):=by rw[IntWalk.i64_in _ nQ];omega
     have hmc:(m:Int)<=(c:Int):=nQ;have qM:(1:Int)<=(m:Int):=nQ;have hml:(m:Int)<(ws.length:Int):=nQ;have hvl:(v:Int)<(ws.length:Int):=nQ;have hul:(u:Int)<=(ws.length:Int):=nQ;have xX:¬c=1:=nQ;have Xt:(k:Int)<2000:=nQ;have hK:=qh (And.intro hm (And.intro hu hv));have me:Hid (Sl cm w1.heap.size w1 (some ⟨b,o+1,none⟩) (c-1) ((ws.take m).drop 1)):=by have:=(HS.out.take m).drop gK 1 (by rw[List.length_take];omega);rw[if_neg xX] at this;exact qh (by simpa [Addr.add_lit] using this)
     obtain⟨A2,uo⟩:∃A2,(if c=u then some (⟨b,o,none⟩:Addr) else some ⟨b,o+u,none⟩)=A2:=⟨_,rfl⟩;have zw:Hid (Sl cm w1.heap.size w1 A2 (c-u) (ws.drop u)):=by have:=HS.out.drop gK u nQ;rw[<-uo];exact qh (by simpa [Addr.add_lit] using this)
     obtain⟨b3,o3,KW,NW,dm⟩:=HS.out.lQ (k:=m) nQ;injection KW with KW;injection KW with T8 YY;subst T8 YY;obtain⟨b3,o3,KW,NW,dv⟩:=HS.out.lQ (k:=v) nQ;injection KW with KW;injection KW with T8 YY;subst T8 YY;have qv:Hid (((ws.take m).drop 1).length=m-1):=qh (by rw[List.length_drop,List.length_take];omega);have pJ:Hid ((ws.drop u).length=ws.length-u):=qh (by rw[List.length_drop]);have vr:Hid (((ws.take m).drop 1).length<=1001):=qh (by rw[qv.out];omega);have EM:Hid ((ws.drop u).length<=1001):=qh (by rw[pJ.out];omega);have ZK:Hid (∀t∈(ws.take m).drop 1,t.length<=1000):=qh fun t ht=>HM.out t (List.mem_of_mem_take (List.mem_of_mem_drop ht));have ZJ:Hid (∀t∈ws.drop u,t.length<=1000):=qh fun t ht=>HM.out t (List.mem_of_mem_drop ht);obtain⟨x1,hx1⟩:∃x1,(ws.take m).drop 1=x1:=⟨_,rfl⟩;obtain⟨x2,hx2⟩:∃x2,ws.drop u=x2:=⟨_,rfl⟩;rw[hx1] at me qv vr ZK;rw[hx2] at zw pJ EM ZJ;have Zs:=qh (And.intro hx1 hx2);clear hm hu hv Q0 h4 hx1 hx2;go_wp2_with fail;have iNe:∀ {W:nJ} [Lt b W],pI b W.heap.size:=fun {W} [h:Lt b W]=>⟨Nat.ne_of_lt h.out⟩;go_cut [7] from 41 to 56 (fun s7 wx=>Cf w w1 x1 x2 (nth ws m) s7 wx);case first=>
      go_region_held3 (fun w'=>w'.cell? ⟨b,o+m,none⟩=some (.string (str (nth ws m)))) (go_simp)
       (first|(go_at_call 135;(with_reducible refine Calls.mono (CX x1 _ _ _ qv.out ZK.out vr.out w1.heap.size _ me.out.up) ?_);rintro e w2 ⟨v1,δ2,rfl,rfl,h1⟩;obtain⟨s1,A1,n1,p1,rfl⟩:=h1.shape;have LY:=qh h1;clear h1)|(go_at_call 135;(with_reducible refine Calls.mono (CX x2 _ _ _ pJ.out ZJ.out EM.out w1.heap.size _ zw.out.up) ?_);rintro e w2 ⟨v2,δ3,rfl,rfl,h2⟩;obtain⟨s2,A3,n2,p2,rfl⟩:=h2.shape;have LI:=qh h2;clear h2))
      all_goals go_wp2_with fail;go_meet
      ·(with_reducible refine Qi ?_ ?_)
       ·exact LY.out.wide
       ·exact LI.out.wide
      ·have q0:Ce w1 (af ((af (af w1 δ).drew δ2).alloc (.cells #[.int .i64 0,.int .i64 0,.string ⟨#[]⟩,.slice none 0 0,.int .i64 0,.string ⟨#[]⟩,.slice none 0 0,.string ⟨#[]⟩,.int .i64 0] 161)) δ3).heap.size (af (af w1 δ).drew δ2).heap.size (.agg #[.int .i64 (qx (bJ x1):Nat),.string s1,.slice A1 n1 p1]) (.agg #[.int .i64 (qx (bJ x2):Nat),.string s2,.slice A3 n2 p2]) (bJ x1) (bJ x2) #[.int .i64 0,.int .i64 0,.string ⟨#[]⟩,.slice none 0 0,.int .i64 0,.string ⟨#[]⟩,.slice none 0 0,.string ⟨#[]⟩,.int .i64 0] (af ((af (af w1 δ).drew δ2).alloc (.cells #[.int .i64 0,.int .i64 0,.string ⟨#[]⟩,.slice none 0 0,.int .i64 0,.string ⟨#[]⟩,.slice none 0 0,.string ⟨#[]⟩,.int .i64 0] 161)) δ3):=⟨(av.new rfl).af _,LY.out.wide,LI.out.wide,(inferInstance:mw w1.heap.size (af (af w1 δ).drew δ2).heap.size).out,inferInstance,inferInstance,nR _⟩;exact Ce.put (((((((((q0.step 0 _).step 1 _).step 2 _).step 3 _).step 4 _).step 5 _).step 6 _).step 7 _).step 8 _) rfl
      ·have q0:Ce w1 (af (af ((af w1 δ).alloc (.cells #[.int .i64 0,.int .i64 0,.string ⟨#[]⟩,.slice none 0 0,.int .i64 0,.string ⟨#[]⟩,.slice none 0 0,.string ⟨#[]⟩,.int .i64 0] 161)).drew δ2) δ3).heap.size (af w1 δ).heap.size (.agg #[.int .i64 (qx (bJ x1):Nat),.string s1,.slice A1 n1 p1]) (.agg #[.int .i64 (qx (bJ x2):Nat),.string s2,.slice A3 n2 p2]) (bJ x1) (bJ x2) #[.int .i64 0,.int .i64 0,.string ⟨#[]⟩,.slice none 0 0,.int .i64 0,.string ⟨#[]⟩,.slice none 0 0,.string ⟨#[]⟩,.int .i64 0] (af (af ((af w1 δ).alloc (.cells #[.int .i64 0,.int .i64 0,.string ⟨#[]⟩,.slice none 0 0,.int .i64 0,.string ⟨#[]⟩,.slice none 0 0,.string ⟨#[]⟩,.int .i64 0] 161)).drew δ2) δ3):=⟨((av.drew (av.new rfl)).af _).af _,LY.out.wide,LI.out.wide,(inferInstance:mw w1.heap.size (af w1 δ).heap.size).out,inferInstance,inferInstance,nR _⟩;exact Ce.put (((((((((q0.step 0 _).step 1 _).step 2 _).step 3 _).step 4 _).step 5 _).step 6 _).step 7 _).step 8 _) rfl
     obtain⟨g,s1,A1,n1,p1,s2,A3,n2,p2,rfl,yR,LY,LI,HG,i1,i2⟩:=hcut;have hcell:∀b' o',b'<w1.heap.size->wc.cell? ⟨b',o',none⟩=w1.cell? ⟨b',o',none⟩:=bz i1.out;have ibc:Lt b wc:=⟨nL ib.out i2.out⟩;have dvc:=(hcell b (o+v) ib.out).trans dv;have Zc:Hid (av wc w.heap.size 161 #[.int .i64 0,.int .i64 0,.string ⟨#[]⟩,.slice none 0 0,.int .i64 0,.string ⟨#[]⟩,.slice none 0 0,.string ⟨#[]⟩,.int .i64 0]):=qh ((i1.out.2.2.2 _ iz.out).trans Z1.out);have k0:=yR.out.cell (i:=0) rfl;have k1:=yR.out.cell (i:=1) rfl;have k4:=yR.out.cell (i:=4) rfl;have k7:=yR.out.cell (i:=7) rfl;have k8:=yR.out.cell (i:=8) rfl;have f8:=yR.out.free 8;have ig:=yR.out.lt;have hne:w.heap.size≠g:=by have:=HG.out;have:=iz.out;omega
     have HO:Hid (x=J8 (bJ x1) (bJ x2) (kD (nth ws m)) (numOf (nth ws v))):=by unfold Hid;obtain⟨e1,e2,e3⟩:=hK.out;rw[HX.out,<-Zs.out.1,<-Zs.out.2,e2,e3,e1];rfl
     have PF:Hid ((nth ws v).length<=1000):=qh (HM.out _ (aS ws nQ));have gw:aC w.heap.size w wc:=wJ g3 i1;have gl:Le w.heap.size wc:=⟨nT g4.out i2.out⟩;have iLN:mw w.heap.size g:=⟨nT g4.out HG.out⟩;clear hcell HX HS me zw ZK ZJ Zs hK;obtain⟨tm,EO⟩:∃tm,nth ws m=tm:=⟨_,rfl⟩;obtain⟨tv,htv⟩:∃tv,nth ws v=tv:=⟨_,rfl⟩;rw[EO] at HO k7 yR;rw[htv] at HO PF dvc;obtain⟨q1,hq1⟩:∃q1,bJ x1=q1:=⟨_,rfl⟩;obtain⟨q2,KN⟩:∃q2,bJ x2=q2:=⟨_,rfl⟩;rw[hq1] at HO LY yR k1;rw[KN] at HO LI yR k4;have fs1:((str tm).toList==[60])=decide (tm=[60]):=cA _ _;have fs2:((str tm).toList==[61])=decide (tm=[61]):=cA _ _;have fs3:((str tm).toList==[62])=decide (tm=[62]):=cA _ _;clear EO htv hq1 KN dm dv;rcases hn:numOf tv with _|n
     ·have ie:Hid (MZ (numOf tv)=0/\(numOf tv).isSome=false):=by unfold Hid;rw[hn];exact⟨rfl,rfl⟩
      have HN:Hid (x=.none):=by unfold Hid;rw[HO.out,hn];exact Tk
      clear hn fs1 fs2 fs3;go_upto_region 15 with(go_at_call 136;refine(iR tv PF.out _).mono ?_;rintro e w4 ⟨rfl,δ4,rfl⟩;rw[ie.out.1,ie.out.2]);go_upto_region 16 with fail;go_upto_region 17 with fail;go_wp2_with (refine ah cR rfl _ _ rfl rfl rfl (av.eZ (Zc.out.af _) hne _) rfl rfl (by simp[Value.oneCell']) ?_;intro W2 gi hk2);refine gB cR Tryz.results88 rfl gi rfl (kJ HN.out (eU (w:=w) hk2 (by rintro b rfl;exact nR _)))
     ·have ie:Hid (MZ (numOf tv)=n/\(numOf tv).isSome=true):=by unfold Hid;rw[hn];exact⟨rfl,rfl⟩
      have wg:Hid (x=J8 q1 q2 (kD tm) (some n)):=by unfold Hid;rw[HO.out,hn]
      clear hn HO;by_cases hq:qx q1=2
      ·have hqi:((qx q1:Int) != 2)=false:=by simp;omega
       by_cases hc:qx q2=1
       ·have hci:((qx q2:Int) != 1)=false:=by simp;omega
        rcases hs:kD tm with _|s
        ·have HN:Hid (x=.none):=by unfold Hid;rw[wg.out,hs];exact Ti
         obtain⟨n1',n2',n3'⟩:=JH hs;rw[decide_eq_false n1'] at fs1;rw[decide_eq_false n2'] at fs2;rw[decide_eq_false n3'] at fs3;clear hs hq hc n1' n2' n3';go_upto_region 15 with(go_at_call 136;refine(iR tv PF.out _).mono ?_;rintro e w4 ⟨rfl,δ4,rfl⟩;rw[ie.out.1,ie.out.2]);go_upto_region 16 with fail;go_upto_region 17 with fail;go_wp2_with (refine ah cR rfl _ _ rfl rfl rfl (av.eZ (Zc.out.af _) hne _) rfl rfl (by simp[Value.oneCell']) ?_;intro W2 gi hk2);refine gB cR Tryz.results88 rfl gi rfl (kJ HN.out (eU (w:=w) hk2 (by rintro b rfl;exact nR _)))
        ·obtain⟨EO,hs3⟩:=zJ hs;obtain⟨c1,rfl⟩:=DG (o:=q1) nQ;obtain⟨c2,rfl⟩:=DG (o:=q2) nQ;have HF:Hid (x=.ord c1 s n c2):=by unfold Hid;rw[wg.out,hs];exact if_pos ⟨hq,hc⟩
         have Ux:=qh EO;clear hs hq hc EO wg;have fin:∀W2 δ4,av W2 w.heap.size 161 #[.int .i64 4,.int .i64 (qx (some c1):Nat),.string s1,.slice A1 n1 p1,.int .i64 (qx (some c2):Nat),.string s2,.slice A3 n2 p2,.string (str tm),.int .i64 n]->bw (fun b=>b=w.heap.size) ((af wc δ4).setCell ⟨g,8,none⟩ (.int .i64 n)) W2 ->
           pF x w (.returned (.agg #[.int .i64 4,.int .i64 (qx (some c1):Nat),.string s1,.slice A1 n1 p1,.int .i64 (qx (some c2):Nat),.string s2,.slice A3 n2 p2,.string (str tm),.int .i64 n])) W2:=by
          intro W2 δ4 gi hk2
          obtain⟨B1,C1,e1,t1⟩:=LY.out
          obtain⟨B2,C2,e2,t2⟩:=LI.out
          have iA:=yR.out.af δ4
          have hz:=av.eZ (p:=⟨g,8,none⟩) (Zc.out.af δ4) hne (.int .i64 n)
          have l8:wc.heap.size<=((af wc δ4).setCell ⟨g,8,none⟩ (.int .i64 n)).heap.size:=(inferInstance:Le wc.heap.size _).out
          have t1':=((t1.up (w':=af wc δ4)).dP (i:=8) (u:=.int .i64 n) iA nU).aO hk2 hz nU l8
          have t2':=((t2.up (w':=af wc δ4)).dP (i:=8) (u:=.int .i64 n) iA nU).aO hk2 hz nU l8
          obtain⟨δ,rfl⟩:=eU (w:=w) hk2 (by rintro b rfl;exact nR _)
          injection e1 with e1
          injection e2 with e2
          have e1:=congrArg Array.toList e1
          have e2:=congrArg Array.toList e2
          simp only[List.cons.injEq,Value.string.injEq,Value.slice.injEq,and_true] at e1 e2
          obtain⟨a1,a2,a3,a4,a5⟩:=e1
          obtain⟨d1,d2,d3,d4,d5⟩:=e2
          rw[HF.out]
          refine⟨_,δ,rfl,rfl,B1,C1,B2,C2,?_,t1',t2'⟩
          rw[a1,a2,a3,a4,a5,d1,d2,d3,d4,d5,Ux.out]
         rcases hs3 with rfl|rfl|rfl
         ·rw[decide_eq_true Ux.out] at fs1;clear fs2 fs3;go_upto_region 15 with(go_at_call 136;refine(iR tv PF.out _).mono ?_;rintro e w4 ⟨rfl,δ4,rfl⟩;rw[ie.out.1,ie.out.2]);go_upto_region 16 with fail;go_upto_region 18 with fail;go_wp2_with (first|(refine aj (cs:=#[.int .i64 4,.int .i64 (qx (some c1):Nat),.string s1,.slice A1 n1 p1,.int .i64 (qx (some c2):Nat),.string s2,.slice A3 n2 p2,.string (str tm),.int .i64 n]) cR rfl _ rfl rfl ((yR.out.af _).set 8 _) rfl ?_)|(refine ah cR rfl _ _ rfl rfl rfl (av.eZ (Zc.out.af _) hne _) rfl rfl (by simp[Value.oneCell']) ?_;intro W2 gi hk2));refine gB cR Tryz.results88 rfl gi rfl ?_;exact fin _ _ gi hk2
         ·rw[decide_eq_false (by rw[Ux.out];decide)] at fs1;rw[decide_eq_true Ux.out] at fs2;clear fs3;go_upto_region 15 with(go_at_call 136;refine(iR tv PF.out _).mono ?_;rintro e w4 ⟨rfl,δ4,rfl⟩;rw[ie.out.1,ie.out.2]);go_upto_region 16 with fail;go_upto_region 18 with fail;go_wp2_with (first|(refine aj (cs:=#[.int .i64 4,.int .i64 (qx (some c1):Nat),.string s1,.slice A1 n1 p1,.int .i64 (qx (some c2):Nat),.string s2,.slice A3 n2 p2,.string (str tm),.int .i64 n]) cR rfl _ rfl rfl ((yR.out.af _).set 8 _) rfl ?_)|(refine ah cR rfl _ _ rfl rfl rfl (av.eZ (Zc.out.af _) hne _) rfl rfl (by simp[Value.oneCell']) ?_;intro W2 gi hk2));refine gB cR Tryz.results88 rfl gi rfl ?_;exact fin _ _ gi hk2
         ·rw[decide_eq_false (by rw[Ux.out];decide)] at fs1;rw[decide_eq_false (by rw[Ux.out];decide)] at fs2;rw[decide_eq_true Ux.out] at fs3;go_upto_region 15 with(go_at_call 136;refine(iR tv PF.out _).mono ?_;rintro e w4 ⟨rfl,δ4,rfl⟩;rw[ie.out.1,ie.out.2]);go_upto_region 16 with fail;go_upto_region 18 with fail;go_wp2_with (first|(refine aj (cs:=#[.int .i64 4,.int .i64 (qx (some c1):Nat),.string s1,.slice A1 n1 p1,.int .i64 (qx (some c2):Nat),.string s2,.slice A3 n2 p2,.string (str tm),.int .i64 n]) cR rfl _ rfl rfl ((yR.out.af _).set 8 _) rfl ?_)|(refine ah cR rfl _ _ rfl rfl rfl (av.eZ (Zc.out.af _) hne _) rfl rfl (by simp[Value.oneCell']) ?_;intro W2 gi hk2));refine gB cR Tryz.results88 rfl gi rfl ?_;exact fin _ _ gi hk2
       ·have hci:((qx q2:Int) != 1)=true:=by simp;omega
        have HN:Hid (x=.none):=by unfold Hid;rw[wg.out];exact Tl hc
        clear hq hc fs1 fs2 fs3;go_upto_region 15 with(go_at_call 136;refine(iR tv PF.out _).mono ?_;rintro e w4 ⟨rfl,δ4,rfl⟩;rw[ie.out.1,ie.out.2]);go_upto_region 16 with fail;go_upto_region 17 with fail;go_wp2_with (refine ah cR rfl _ _ rfl rfl rfl (av.eZ (Zc.out.af _) hne _) rfl rfl (by simp[Value.oneCell']) ?_;intro W2 gi hk2);refine gB cR Tryz.results88 rfl gi rfl (kJ HN.out (eU (w:=w) hk2 (by rintro b rfl;exact nR _)))
      ·have hqi:((qx q1:Int) != 2)=true:=by simp;omega
       have HN:Hid (x=.none):=by unfold Hid;rw[wg.out];exact Tj hq
       clear hq fs1 fs2 fs3;go_upto_region 15 with(go_at_call 136;refine(iR tv PF.out _).mono ?_;rintro e w4 ⟨rfl,δ4,rfl⟩;rw[ie.out.1,ie.out.2]);go_upto_region 16 with fail;go_upto_region 17 with fail;go_wp2_with (refine ah cR rfl _ _ rfl rfl rfl (av.eZ (Zc.out.af _) hne _) rfl rfl (by simp[Value.oneCell']) ?_;intro W2 gi hk2);refine gB cR Tryz.results88 rfl gi rfl (kJ HN.out (eU (w:=w) hk2 (by rintro b rfl;exact nR _)))
theorem Ns{x:vq}{w w':nJ}{c:eH}{A:Option Addr}{n cap:Nat}{s:ByteArray}(h:x=.cmd c)(hl:∃δ,w'=af w δ)(hW:dL w'.heap.size w' (.agg #[.int .i64 (cP c.w:Nat),.string s,.slice A n cap]) (some c)):pF x w (.returned (.agg #[.int .i64 (cP c.w:Nat),.int .i64 (cP c.w:Nat),.string s,.slice A n cap,.int .i64 0,.string ⟨#[]⟩,.slice none 0 0,.string ⟨#[]⟩,.int .i64 0])) w':=by subst h;obtain⟨δ,rfl⟩:=hl;obtain⟨B1,C1,e1,t1⟩:=hW;injection e1 with e1;have e1:=congrArg Array.toList e1;simp only[List.cons.injEq,Value.string.injEq,Value.slice.injEq,and_true] at e1;obtain⟨_,a2,a3,a4,a5⟩:=e1;exact⟨_,δ,rfl,rfl,B1,C1,by rw[a2,a3,a4,a5],t1⟩
theorem FI(l:bL)(hl:l.length<=1000)(hw:¬(bE l).head?=some kR)(w:nJ):Calls nH 88 #[.string (str l)] w (pF (di l) w):=by
 have hlen:=(iQ l).1;have hmem:=(iQ l).2;have hR:di l=match bJ (bE l) with|some c=>.cmd c|none=>.none:=by unfold di dZ;rw[if_neg hw];cases bJ (bE l)<;>rfl
 obtain⟨x,hx⟩:∃x,di l=x:=⟨_,rfl⟩;rw[hx] at hR ⊢;clear hx;have hne:=mH l;obtain⟨ws,oe⟩:∃ws,bE l=ws:=⟨_,rfl⟩;have XH:=qh oe;rw[oe] at hlen hmem hw hR hne;have HM:Hid (∀t∈ws,t.length<=1000):=qh fun t ht=>by have:=hmem t ht;omega
 have hpos:0<ws.length:=List.length_pos_iff.2 hne;have hpi:(0:Int)<(ws.length:Int):=nQ;have hl1:ws.length<=1001:=nQ;have f1:((str (nth ws 0)).toList==[119,104,101,110])=false:=by
  rw[cA,decide_eq_false];intro e;cases ws with
  |nil=>exact hne rfl
  |cons t r=>exact hw (congrArg some e)
 obtain⟨t0,ht0⟩:∃t0,nth ws 0=t0:=⟨_,rfl⟩;have HT0:=qh ht0;rw[ht0] at f1;have iNe:∀ {W:nJ} {b:Nat} [Lt b W],pI b W.heap.size:=fun {W b} [h:Lt b W]=>⟨Nat.ne_of_lt h.out⟩;rcases hc:bJ ws with _|c
 ·have HN:Hid (x=.none):=by unfold Hid;rw[hR,hc]
  have HC:=qh hc;clear oe hmem hlen hw hR hne ht0 hc;go_enter Tryz.func88,Tryz.ntmps88;go_upto_region 4 with(first|(go_at_call 134;refine(xe l hl _).mono ?_;rw[XH.out];rintro e w1 ⟨A,c,rfl,hs,δ1,hw1⟩;obtain⟨b,o,rfl,hb,d0⟩:=hs.lQ hpos;rw[HT0.out] at d0;simp only[Nat.add_zero] at d0;have HS:=qh hs;have z1:av w1 w.heap.size 161 #[.int .i64 0,.int .i64 0,.string ⟨#[]⟩,.slice none 0 0,.int .i64 0,.string ⟨#[]⟩,.slice none 0 0,.string ⟨#[]⟩,.int .i64 0]:=(by rw[hw1];exact(av.new rfl).af _);have g3:aC w.heap.size w w1:=(by rw[hw1];infer_instance);have g4:Le w.heap.size w1:=(by rw[hw1];infer_instance);have ib:Lt b w1:=⟨hb⟩;have Z1:=qh z1;have iz:=z1.lt;clear hw1 hs hb z1)|(go_at_call 135;refine(xb ws _ _ HM.out hl1 w1.heap.size _ HS.out.up).mono ?_;rw[HC.out];rintro e w2 ⟨v1,δ2,rfl,rfl,h1⟩;obtain rfl:v1=.agg #[.int .i64 0,.string ⟨#[]⟩,.slice none 0 0]:=h1));go_wp2_with (refine ah cR rfl _ _ rfl rfl rfl ((Z1.out.af _).alloc _) rfl rfl (by simp[Value.oneCell']) ?_;intro W2 gi hk2);refine gB cR Tryz.results88 rfl gi rfl (kJ HN.out (eU (w:=w) hk2 (by rintro b rfl;exact nR _)))
 ·have HN:Hid (x=.cmd c):=by unfold Hid;rw[hR,hc]
  have HC:=qh hc;clear oe hmem hlen hw hR hne ht0 hc;go_enter Tryz.func88,Tryz.ntmps88;go_upto_region 4 with(first|(go_at_call 134;refine(xe l hl _).mono ?_;rw[XH.out];rintro e w1 ⟨A,cc,rfl,hs,δ1,hw1⟩;obtain⟨b,o,rfl,hb,d0⟩:=hs.lQ hpos;rw[HT0.out] at d0;simp only[Nat.add_zero] at d0;have HS:=qh hs;have z1:av w1 w.heap.size 161 #[.int .i64 0,.int .i64 0,.string ⟨#[]⟩,.slice none 0 0,.int .i64 0,.string ⟨#[]⟩,.slice none 0 0,.string ⟨#[]⟩,.int .i64 0]:=(by rw[hw1];exact(av.new rfl).af _);have g3:aC w.heap.size w w1:=(by rw[hw1];infer_instance);have g4:Le w.heap.size w1:=(by rw[hw1];infer_instance);have ib:Lt b w1:=⟨hb⟩;have Z1:=qh z1;have iz:=z1.lt;clear hw1 hs hb z1)|(go_at_call 135;refine(xb ws _ _ HM.out hl1 w1.heap.size _ HS.out.up).mono ?_;rw[HC.out];rintro e w2 ⟨v1,δ2,rfl,rfl,h1⟩;obtain⟨s1,A1,n1,p1,rfl⟩:=h1.shape;have LY:=qh h1;clear h1));go_wp2_with (refine ah cR rfl _ _ rfl rfl rfl ((Z1.out.af _).alloc _) rfl rfl (by simp[Value.oneCell']) ?_;intro W2 gi hk2);refine gB cR Tryz.results88 rfl gi rfl ?_;refine Ns HN.out (eU (w:=w) hk2 (by rintro b rfl;exact nR _)) ?_;obtain⟨B1,C1,e1,t1⟩:=LY.out;exact⟨B1,C1,e1,(t1.up (w':=World.alloc _ _)).aO hk2 ((Z1.out.af _).alloc _) nU (inferInstance:Le _ _).out⟩
theorem nD(l:bL)(hl:l.length<=1000)(w:nJ):Calls nH 88 #[.string (str l)] w (pF (di l) w):=by
 by_cases hw:(bE l).head?=some kR
 ·exact JO l hl hw w
 ·exact FI l hl hw w
end
section
open Hd
theorem Mx(b:Bool)(w:nJ):Calls nH 90 #[.bool b] w fun e w'=>e=.returned (.string (str (sV b)))/\∃δ,w'=af w δ:=by cases b;all_goals go_enter Tryz.func90,Tryz.ntmps90;go_wp2;go_ret;exact⟨rfl,ag⟩
theorem zU(e:Int)(x:bL)(w:nJ):Calls nH 92 #[.int .i64 e,.string (str x)] w fun e' w'=>e'=.returned (.string (str (lT e x)))/\∃δ,w'=af w δ:=by
 by_cases h0:e=0
 ·subst h0;go_enter Tryz.func92,Tryz.ntmps92;go_wp2;go_ret;exact⟨rfl,ag⟩
 ·by_cases h3:e=3
  ·subst h3;go_enter Tryz.func92,Tryz.ntmps92;go_wp2;go_ret;exact⟨rfl,ag⟩
  ·have e0:(e==0)=false:=by simp[h0]
   have e3:(e==3)=false:=by simp[h3]
   have HT:Hid (lT e x=Fj):=by unfold Hid lT;rw[if_neg h0,if_neg h3]
   clear h0 h3;go_enter Tryz.func92,Tryz.ntmps92;go_wp2;go_ret;exact⟨by rw[HT.out];rfl,ag⟩
def dV(p:Int × Int)(w:nJ)(e:Ending)(w':nJ):Prop:=e=.returned (.tuple #[.int .i64 p.1,.int .i64 p.2])/\∃δ,w'=af w δ
theorem CP{n:An.Net}(hv:An.valid n=true):An.vw n=oE (decide (An.jl n (bT n) 0=0)) (decide (An.jl n (gu n) 0=0)):=by unfold An.vw Kj;rw[hv];rfl
theorem qP{f g:Nat->Bool}:∀m k,(∀j,k<=j->j<k+m->f j=g j)->bM f m k=bM g m k
 |0,_,_=>rfl
 |m+1,k,h=>by unfold bM;rw[h k (nR _) nQ,qP m (k+1) fun j h1 h2=>h j nQ nQ]
theorem Cp{n:An.Net}(hv:An.valid n=true):bM (lf n) 21 0=bM (pX n) 21 0:=qP _ _ fun j _ h2=>by unfold lf pX;rw[decide_eq_decide];exact An.zV (uG hv nQ)
theorem CE{t:aV}(hv:An.valid t.aD=true)(a:List Int):eR t ⟨.fP,a⟩=(rQ (An.valid t.aD) (bM (lf t.aD) 21 0),rR (An.valid t.aD) (bM (lf t.aD) 21 0)):=by
 rw[Cp hv,hv];show(if An.wN t.aD=21 then ((0:Int),(3:Int)) else ((An.wN t.aD:Int),0))=_;unfold rQ rR An.wN;by_cases h:bM (pX t.aD) 21 0=21
 ·simp[h]
 ·simp[h]
theorem Pb(r:aR)(t:aV)(hv:aG t=true)(a:List Int)(A:Option Addr)(cap:Nat)(B:Nat)(w:nJ)(hT:aI B w r t)[hB:Le B w]:Calls nH 91 #[aX r t,.agg #[.int .i64 2,.string (str (cJ .safe)),.slice A a.length cap]] w (dV (eR t ⟨.safe,a⟩) w):=by
 obtain⟨v1,v2,v3⟩:=cq.1 hv;refine QCC ?_;intro V1 V2 V3 H;obtain⟨f0,f1,f2,f3,f4,f5,f6,f7,f8,f9,f10,f11,f12,f13,f14,f15,f16,f17,f18,f19⟩:=cM (cJ .safe) (some .safe) (dn.2 rfl);simp only[Option.some.injEq,reduceCtorEq,decide_false,decide_true] at f0 f1 f2 f3 f4 f5 f6 f7 f8 f9 f10 f11 f12 f13 f14 f15 f16 f17 f18 f19;obtain⟨tx,fM⟩:∃tx,cJ .safe=tx:=⟨_,rfl⟩;rw[fM] at f0 f1 f2 f3 f4 f5 f6 f7 f8 f9 f10 f11 f12 f13 f14 f15 f16 f17 f18 f19 ⊢;have HE:Hid (eR t ⟨.safe,a⟩=(An.vw t.aD,cE (An.valid t.aD) 20)):=by unfold Hid;rw[CP v1,v1];rfl
 clear hv v1 v2 v3 hT fM;go_enter Tryz.func91,Tryz.ntmps91;go_upto_region 1 with fail;refine QAX ?_;intro W1 aE cz de cN cY dc dX b1;refine QCB ?_;intro b2;obtain⟨x0,x1,x2,x3,x4,x5,x6,x7,x8,x9,wm,wk,sW,wj⟩:=b1.ax;refine QDZ ?_;intro y1 y2;clear aE b1 b2;go_wp2_with (go_at_call 140;refine(Qc r.aD t.aD B _ H.out.1.up).mono ?_;rintro e w1 ⟨rfl,δ1,rfl⟩);go_ret2;exact⟨by rw[HE.out];rfl,ag⟩
theorem Pc(r:aR)(t:aV)(hv:aG t=true)(a:List Int)(A:Option Addr)(cap:Nat)(B:Nat)(w:nJ)(hT:aI B w r t)[hB:Le B w]:Calls nH 91 #[aX r t,.agg #[.int .i64 2,.string (str (cJ .jE)),.slice A a.length cap]] w (dV (eR t ⟨.jE,a⟩) w):=by obtain⟨v1,v2,v3⟩:=cq.1 hv;refine QCC ?_;intro V1 V2 V3 H;obtain⟨f0,f1,f2,f3,f4,f5,f6,f7,f8,f9,f10,f11,f12,f13,f14,f15,f16,f17,f18,f19⟩:=cM (cJ .jE) (some .jE) (dn.2 rfl);simp only[Option.some.injEq,reduceCtorEq,decide_false,decide_true] at f0 f1 f2 f3 f4 f5 f6 f7 f8 f9 f10 f11 f12 f13 f14 f15 f16 f17 f18 f19;obtain⟨tx,fM⟩:∃tx,cJ .jE=tx:=⟨_,rfl⟩;rw[fM] at f0 f1 f2 f3 f4 f5 f6 f7 f8 f9 f10 f11 f12 f13 f14 f15 f16 f17 f18 f19 ⊢;have HE:Hid (eR t ⟨.jE,a⟩=(Me.dK t.ai,0)):=rfl;clear hv v1 v2 v3 hT fM;go_enter Tryz.func91,Tryz.ntmps91;go_upto_region 1 with fail;refine QAX ?_;intro W1 aE cz de cN cY dc dX b1;refine QCB ?_;intro b2;obtain⟨x0,x1,x2,x3,x4,x5,x6,x7,x8,x9,wm,wk,sW,wj⟩:=b1.ax;refine QDZ ?_;intro y1 y2;clear aE b1 b2;go_wp2_with (go_at_call 142;refine(FP r.ai t.ai V2.out B _ H.out.2.1.up).mono ?_;rintro e w1 ⟨rfl,δ1,rfl⟩);go_ret2;exact⟨by rw[HE.out];rfl,ag⟩
theorem Pd(r:aR)(t:aV)(hv:aG t=true)(a:List Int)(A:Option Addr)(cap:Nat)(B:Nat)(w:nJ)(hT:aI B w r t)[hB:Le B w]:Calls nH 91 #[aX r t,.agg #[.int .i64 2,.string (str (cJ .done)),.slice A a.length cap]] w (dV (eR t ⟨.done,a⟩) w):=by obtain⟨v1,v2,v3⟩:=cq.1 hv;refine QCC ?_;intro V1 V2 V3 H;obtain⟨f0,f1,f2,f3,f4,f5,f6,f7,f8,f9,f10,f11,f12,f13,f14,f15,f16,f17,f18,f19⟩:=cM (cJ .done) (some .done) (dn.2 rfl);simp only[Option.some.injEq,reduceCtorEq,decide_false,decide_true] at f0 f1 f2 f3 f4 f5 f6 f7 f8 f9 f10 f11 f12 f13 f14 f15 f16 f17 f18 f19;obtain⟨tx,fM⟩:∃tx,cJ .done=tx:=⟨_,rfl⟩;rw[fM] at f0 f1 f2 f3 f4 f5 f6 f7 f8 f9 f10 f11 f12 f13 f14 f15 f16 f17 f18 f19 ⊢;have HE:Hid (eR t ⟨.done,a⟩=(Me.qS t.ai,0)):=rfl;clear hv v1 v2 v3 hT fM;go_enter Tryz.func91,Tryz.ntmps91;go_upto_region 1 with fail;refine QAX ?_;intro W1 aE cz de cN cY dc dX b1;refine QCB ?_;intro b2;obtain⟨x0,x1,x2,x3,x4,x5,x6,x7,x8,x9,wm,wk,sW,wj⟩:=b1.ax;refine QDZ ?_;intro y1 y2;clear aE b1 b2;go_wp2_with (go_at_call 143;refine(JU r.ai t.ai V2.out B _ H.out.2.1.up).mono ?_;rintro e w1 ⟨rfl,δ1,rfl⟩);go_ret2;exact⟨by rw[HE.out];rfl,ag⟩
theorem Pa(r:aR)(t:aV)(hv:aG t=true)(a:List Int)(A:Option Addr)(cap:Nat)(B:Nat)(w:nJ)(hT:aI B w r t)[hB:Le B w]:Calls nH 91 #[aX r t,.agg #[.int .i64 2,.string (str (cJ .fD)),.slice A a.length cap]] w (dV (eR t ⟨.fD,a⟩) w):=by obtain⟨v1,v2,v3⟩:=cq.1 hv;refine QCC ?_;intro V1 V2 V3 H;obtain⟨f0,f1,f2,f3,f4,f5,f6,f7,f8,f9,f10,f11,f12,f13,f14,f15,f16,f17,f18,f19⟩:=cM (cJ .fD) (some .fD) (dn.2 rfl);simp only[Option.some.injEq,reduceCtorEq,decide_false,decide_true] at f0 f1 f2 f3 f4 f5 f6 f7 f8 f9 f10 f11 f12 f13 f14 f15 f16 f17 f18 f19;obtain⟨tx,fM⟩:∃tx,cJ .fD=tx:=⟨_,rfl⟩;rw[fM] at f0 f1 f2 f3 f4 f5 f6 f7 f8 f9 f10 f11 f12 f13 f14 f15 f16 f17 f18 f19 ⊢;have HE:Hid (eR t ⟨.fD,a⟩=nC t.aa):=rfl;clear hv v1 v2 v3 hT fM;go_enter Tryz.func91,Tryz.ntmps91;go_upto_region 1 with fail;refine QAX ?_;intro W1 aE cz de cN cY dc dX b1;refine QCB ?_;intro b2;obtain⟨x0,x1,x2,x3,x4,x5,x6,x7,x8,x9,wm,wk,sW,wj⟩:=b1.ax;refine QDZ ?_;intro y1 y2;clear aE b1 b2;go_wp2_with (go_at_call 144;refine(JT r.aa t.aa V3.out B _ H.out.2.2.up).mono ?_;rintro e w1 ⟨rfl,δ1,rfl⟩);go_ret2;exact⟨by rw[HE.out];rfl,ag⟩
theorem Rz(r:aR)(t:aV)(hv:aG t=true)(a:List Int)(A:Option Addr)(cap:Nat)(B:Nat)(w:nJ)(hT:aI B w r t)[hB:Le B w]:Calls nH 91 #[aX r t,.agg #[.int .i64 2,.string (str (cJ .we)),.slice A a.length cap]] w (dV (eR t ⟨.we,a⟩) w):=by obtain⟨v1,v2,v3⟩:=cq.1 hv;refine QCC ?_;intro V1 V2 V3 H;obtain⟨f0,f1,f2,f3,f4,f5,f6,f7,f8,f9,f10,f11,f12,f13,f14,f15,f16,f17,f18,f19⟩:=cM (cJ .we) (some .we) (dn.2 rfl);simp only[Option.some.injEq,reduceCtorEq,decide_false,decide_true] at f0 f1 f2 f3 f4 f5 f6 f7 f8 f9 f10 f11 f12 f13 f14 f15 f16 f17 f18 f19;obtain⟨tx,fM⟩:∃tx,cJ .we=tx:=⟨_,rfl⟩;rw[fM] at f0 f1 f2 f3 f4 f5 f6 f7 f8 f9 f10 f11 f12 f13 f14 f15 f16 f17 f18 f19 ⊢;have HE:Hid (eR t ⟨.we,a⟩=(Sa.qc t.aa,Sa.rP t.aa)):=rfl;clear hv v1 v2 v3 hT fM;go_enter Tryz.func91,Tryz.ntmps91;go_upto_region 1 with fail;refine QAX ?_;intro W1 aE cz de cN cY dc dX b1;refine QCB ?_;intro b2;obtain⟨x0,x1,x2,x3,x4,x5,x6,x7,x8,x9,wm,wk,sW,wj⟩:=b1.ax;refine QDZ ?_;intro y1 y2;clear aE b1 b2;go_wp2_with (go_at_call 146;refine(S8 r.aa t.aa V3.out B _ H.out.2.2.up).mono ?_;rintro e w1 ⟨rfl,δ1,rfl⟩);go_ret2;exact⟨by rw[HE.out];rfl,ag⟩
theorem LD(r:aR)(t:aV)(hv:aG t=true)(a:List Int)(A:Option Addr)(cap:Nat)(B:Nat)(w:nJ)(hT:aI B w r t)[hB:Le B w]:Calls nH 91 #[aX r t,.agg #[.int .i64 2,.string (str (cJ .fP)),.slice A a.length cap]] w (dV (eR t ⟨.fP,a⟩) w):=by obtain⟨v1,v2,v3⟩:=cq.1 hv;refine QCC ?_;intro V1 V2 V3 H;obtain⟨f0,f1,f2,f3,f4,f5,f6,f7,f8,f9,f10,f11,f12,f13,f14,f15,f16,f17,f18,f19⟩:=cM (cJ .fP) (some .fP) (dn.2 rfl);simp only[Option.some.injEq,reduceCtorEq,decide_false,decide_true] at f0 f1 f2 f3 f4 f5 f6 f7 f8 f9 f10 f11 f12 f13 f14 f15 f16 f17 f18 f19;obtain⟨tx,fM⟩:∃tx,cJ .fP=tx:=⟨_,rfl⟩;rw[fM] at f0 f1 f2 f3 f4 f5 f6 f7 f8 f9 f10 f11 f12 f13 f14 f15 f16 f17 f18 f19 ⊢;have HE:Hid (eR t ⟨.fP,a⟩=(rQ (An.valid t.aD) (bM (lf t.aD) 21 0),rR (An.valid t.aD) (bM (lf t.aD) 21 0))):=CE v1 a;clear hv v1 v2 v3 hT fM;go_enter Tryz.func91,Tryz.ntmps91;go_upto_region 1 with fail;refine QAX ?_;intro W1 aE cz de cN cY dc dX b1;refine QCB ?_;intro b2;obtain⟨x0,x1,x2,x3,x4,x5,x6,x7,x8,x9,wm,wk,sW,wj⟩:=b1.ax;refine QDZ ?_;intro y1 y2;clear aE b1 b2;go_wp2_with (go_at_call 141;refine(Qa r.aD t.aD B _ H.out.1.up).mono ?_;rintro e w1 ⟨rfl,δ1,rfl⟩);go_ret2;exact⟨by rw[HE.out];rfl,ag⟩
theorem LG(r:aR)(t:aV)(hv:aG t=true)(a:List Int)(d:Int)(ha:a=[d])(A:Option Addr)(cap:Nat)(B:Nat)(w:nJ)(hT:aI B w r t)[hB:Le B w](hS:Sl aH B w A cap a):Calls nH 91 #[aX r t,.agg #[.int .i64 2,.string (str (cJ .early)),.slice A a.length cap]] w (dV (eR t ⟨.early,a⟩) w):=by
 obtain⟨v1,v2,v3⟩:=cq.1 hv;refine QCC ?_;intro V1 V2 V3 H;obtain⟨f0,f1,f2,f3,f4,f5,f6,f7,f8,f9,f10,f11,f12,f13,f14,f15,f16,f17,f18,f19⟩:=cM (cJ .early) (some .early) (dn.2 rfl);simp only[Option.some.injEq,reduceCtorEq,decide_false,decide_true] at f0 f1 f2 f3 f4 f5 f6 f7 f8 f9 f10 f11 f12 f13 f14 f15 f16 f17 f18 f19;obtain⟨tx,fM⟩:∃tx,cJ .early=tx:=⟨_,rfl⟩;rw[fM] at f0 f1 f2 f3 f4 f5 f6 f7 f8 f9 f10 f11 f12 f13 f14 f15 f16 f17 f18 f19 ⊢;have HE:Hid (eR t ⟨.early,a⟩=jj t.aa d):=by unfold Hid;subst ha;rfl
 obtain⟨bb,oo,rfl,gH,dd⟩:=hS.int (k:=0) (by rw[ha];simp);have ib:Lt bb w:=⟨nL gH hB.out⟩;have d0:w.cell? ⟨bb,oo,none⟩=some (.int .i64 d):=by rw[ha] at dd;simpa [nth] using dd
 have hl1:(0:Int)<(a.length:Int):=by rw[ha];simp
 have U7:Hid (a.length=1):=by unfold Hid;rw[ha];rfl
 clear dd hS ha gH hv v1 v2 v3 hT fM;go_enter Tryz.func91,Tryz.ntmps91;go_upto_region 1 with fail;refine QAX ?_;intro W1 aE cz de cN cY dc dX b1;have b2:av W1 (w.heap.size+1) 159 #[.int .i64 2,.string (str tx),.slice (some ⟨bb,oo,none⟩) a.length cap]:=by rw[aE.out];exact av.new nV
 obtain⟨x0,x1,x2,x3,x4,x5,x6,x7,x8,x9,wm,wk,sW,wj⟩:=b1.ax;refine QDZ ?_;intro y1 y2;have XW1:=aE;have ib1:Lt bb W1:=mb aE;clear aE b1 b2;have d1:W1.cell? ⟨bb,oo,none⟩=some (.int .i64 d):=by rw[XW1.out];go_simp
 clear XW1;go_wp2_with fail;refine wpRl ?_;repeat (go_big_quiet_step ((first|(go_at_call 145;exact Calls.bU (MD r.aa t.aa V3.out d B _ H.out.2.2.up)))))
 refine QBY ?_;rintro _ ⟨δq,rfl⟩;go_wp2_with fail;go_ret2;exact⟨by rw[HE.out];rfl,ag⟩
end
section
open Hd
theorem C7(r:aR)(t:aV)(hv:aG t=true)(c:eH)(hk:cP c.w=2)(hl:c.a.length=rZ c.w)(v:nK)(B:Nat)(w:nJ)(hT:aI B w r t)[hB:Le B w](hV:dL B w v (some c)):Calls nH 91 #[aX r t,v] w (dV (eR t c) w):=by
 obtain⟨A,cap,rfl,hS⟩:=hV;obtain⟨d,a⟩:=c;cases d with
 |safe=>exact Pb r t hv a A cap B w hT
 |fP=>exact LD r t hv a A cap B w hT
 |jE=>exact Pc r t hv a A cap B w hT
 |done=>exact Pd r t hv a A cap B w hT
 |fD=>exact Pa r t hv a A cap B w hT
 |we=>exact Rz r t hv a A cap B w hT
 |early=>
  obtain⟨x,rfl⟩:∃x,a=[x]:=by
   match a,hl with
   |[x],_=>exact⟨x,rfl⟩
  exact LG r t hv [x] x rfl A cap B w hT hS.plain
 |_=>simp[cP] at hk
def kO(p:List Int × Int)(w:nJ)(e:Ending)(w':nJ):Prop:=∃(A:Option Addr) (n c:Nat) (δ:nJ),e=.returned (.tuple #[.slice A n c,.int .i64 p.2])/\n=p.1.length/\w'=af w δ/\Sl aH (af w δ).heap.size (af w δ) A c p.1
theorem Nk(r:aR)(t:aV)(hv:aG t=true)(a:List Int)(A:Option Addr)(cap:Nat)(B:Nat)(w:nJ)(hT:aI B w r t)[hB:Le B w]:Calls nH 94 #[aX r t,.agg #[.int .i64 3,.string (str (cJ .mj)),.slice A a.length cap]] w (kO (pU t ⟨.mj,a⟩) w):=by obtain⟨v1,v2,v3⟩:=cq.1 hv;refine QCC ?_;intro V1 V2 V3 H;obtain⟨f0,f1,f2,f3,f4,f5,f6,f7,f8,f9,f10,f11,f12,f13,f14,f15,f16,f17,f18,f19⟩:=cM (cJ .mj) (some .mj) (dn.2 rfl);simp only[Option.some.injEq,reduceCtorEq,decide_false,decide_true] at f0 f1 f2 f3 f4 f5 f6 f7 f8 f9 f10 f11 f12 f13 f14 f15 f16 f17 f18 f19;obtain⟨tx,fM⟩:∃tx,cJ .mj=tx:=⟨_,rfl⟩;rw[fM] at f0 f1 f2 f3 f4 f5 f6 f7 f8 f9 f10 f11 f12 f13 f14 f15 f16 f17 f18 f19 ⊢;clear hv v1 v2 v3 hT fM;go_enter Tryz.func94,Tryz.ntmps94;go_upto_region 1 with fail;refine QAX ?_;intro W1 aE cz de cN cY dc dX b1;refine QEM ?_;intro b2;obtain⟨x0,x1,x2,x3,x4,x5,x6,x7,x8,x9,wm,wk,sW,wj⟩:=b1.ax;have y1:=b2.cell (i:=1) rfl;clear aE b1 b2;go_wp2_with (go_at_call 147;refine(Qe r.aD t.aD B _ H.out.1.up).mono ?_;rintro e w1 ⟨A1,c1,δ1,rfl,rfl,hs⟩;have HS:=qh hs;clear hs);go_ret2;refine⟨A1,_,c1,_,rfl,rfl,aq,?_⟩;refine QDK ?_;exact HS.out
theorem Ky(r:aR)(t:aV)(hv:aG t=true)(a:List Int)(A:Option Addr)(cap:Nat)(B:Nat)(w:nJ)(hT:aI B w r t)[hB:Le B w]:Calls nH 94 #[aX r t,.agg #[.int .i64 3,.string (str (cJ .order)),.slice A a.length cap]] w (kO (pU t ⟨.order,a⟩) w):=by obtain⟨v1,v2,v3⟩:=cq.1 hv;refine QCC ?_;intro V1 V2 V3 H;obtain⟨f0,f1,f2,f3,f4,f5,f6,f7,f8,f9,f10,f11,f12,f13,f14,f15,f16,f17,f18,f19⟩:=cM (cJ .order) (some .order) (dn.2 rfl);simp only[Option.some.injEq,reduceCtorEq,decide_false,decide_true] at f0 f1 f2 f3 f4 f5 f6 f7 f8 f9 f10 f11 f12 f13 f14 f15 f16 f17 f18 f19;obtain⟨tx,fM⟩:∃tx,cJ .order=tx:=⟨_,rfl⟩;rw[fM] at f0 f1 f2 f3 f4 f5 f6 f7 f8 f9 f10 f11 f12 f13 f14 f15 f16 f17 f18 f19 ⊢;clear hv v1 v2 v3 hT fM;go_enter Tryz.func94,Tryz.ntmps94;go_upto_region 1 with fail;refine QAX ?_;intro W1 aE cz de cN cY dc dX b1;refine QEM ?_;intro b2;obtain⟨x0,x1,x2,x3,x4,x5,x6,x7,x8,x9,wm,wk,sW,wj⟩:=b1.ax;have y1:=b2.cell (i:=1) rfl;clear aE b1 b2;go_wp2_with (go_at_call 138;refine(xg r.ai t.ai V2.out B _ H.out.2.1.up).mono ?_;rintro e w1 ⟨A1,c1,δ1,rfl,rfl,HS⟩);go_ret2;refine⟨A1,_,c1,_,rfl,(Me.iV (Me.gT (oG V2.out))).symm,aq,?_⟩;refine QDK ?_;exact HS.out
theorem Nj(r:aR)(t:aV)(hv:aG t=true)(a:List Int)(A:Option Addr)(cap:Nat)(B:Nat)(w:nJ)(hT:aI B w r t)[hB:Le B w]:Calls nH 94 #[aX r t,.agg #[.int .i64 3,.string (str (cJ .pack)),.slice A a.length cap]] w (kO (pU t ⟨.pack,a⟩) w):=by obtain⟨v1,v2,v3⟩:=cq.1 hv;refine QCC ?_;intro V1 V2 V3 H;obtain⟨f0,f1,f2,f3,f4,f5,f6,f7,f8,f9,f10,f11,f12,f13,f14,f15,f16,f17,f18,f19⟩:=cM (cJ .pack) (some .pack) (dn.2 rfl);simp only[Option.some.injEq,reduceCtorEq,decide_false,decide_true] at f0 f1 f2 f3 f4 f5 f6 f7 f8 f9 f10 f11 f12 f13 f14 f15 f16 f17 f18 f19;obtain⟨tx,fM⟩:∃tx,cJ .pack=tx:=⟨_,rfl⟩;rw[fM] at f0 f1 f2 f3 f4 f5 f6 f7 f8 f9 f10 f11 f12 f13 f14 f15 f16 f17 f18 f19 ⊢;clear hv v1 v2 v3 hT fM;go_enter Tryz.func94,Tryz.ntmps94;go_upto_region 1 with fail;refine QAX ?_;intro W1 aE cz de cN cY dc dX b1;refine QEM ?_;intro b2;obtain⟨x0,x1,x2,x3,x4,x5,x6,x7,x8,x9,wm,wk,sW,wj⟩:=b1.ax;have y1:=b2.cell (i:=1) rfl;clear aE b1 b2;go_wp2_with (go_at_call 148;refine(Ba r.aa t.aa V3.out B _ H.out.2.2.up).mono ?_;rintro e w1 ⟨A1,m1,c1,δ1,rfl,hm,hs,rfl⟩;have HS:=qh hs;have HM:=qh hm;clear hs hm);go_ret2;refine⟨A1,_,c1,_,rfl,HM.out,aq,?_⟩;refine QDK ?_;exact HS.out
theorem JS(r:aR)(t:aV)(hv:aG t=true)(c:eH)(hk:cP c.w=3)(v:nK)(B:Nat)(w:nJ)(hT:aI B w r t)[hB:Le B w](hV:dL B w v (some c)):Calls nH 94 #[aX r t,v] w (kO (pU t c) w):=by
 obtain⟨A,cap,rfl,hS⟩:=hV;obtain⟨d,a⟩:=c;cases d with
 |mj=>exact Nk r t hv a A cap B w hT
 |order=>exact Ky r t hv a A cap B w hT
 |pack=>exact Nj r t hv a A cap B w hT
 |_=>simp[cP] at hk
end
section
open Hd
theorem Gl{t:bL}{q c:eH}{s:UInt8}{n:Int}(h:di t=.ord q s n c):cP q.w=2/\q.a.length=rZ q.w/\cP c.w=1/\c.a.length=rZ c.w/\(s=60\/s=61\/s=62):=by obtain⟨k,h1,h2,h3,h4,h5,h6,h7,h8⟩:=J7 h;exact⟨h8.1,(yA h4).1,h8.2,(yA h7).1,(zJ h5).2⟩
theorem MB(r:aR)(t:aV)(hv:aG t=true)(q c:eH)(s:UInt8)(n:Int)(hk:cP q.w=2)(hl:q.a.length=rZ q.w)(hs:s=60\/s=61\/s=62)(v:nK)(B:Nat)(w:nJ)(hT:aI B w r t)[hB:Le B w](hV:Is B w v (.ord q s n c)):Calls nH 97 #[aX r t,v] w fun e w'=>e=.returned (.bool (fF t q s n))/\∃δ,w'=af w δ:=by
 obtain⟨A,cap,A',cap',rfl,EV,hS2⟩:=hV;have HV:=qh hv;have HK:=qh hk;have HL:=qh hl;have H:=qh hT;have me:=qh EV;have HH:Hid (fF t q s n=(decide ((eR t q).2=0)&&zK s (eR t q).1 n)):=rfl;have HA:Hid (∀W:nJ,aC B w W->Le B W->Calls nH 91 #[aX r t,.agg #[.int .i64 (cP q.w:Nat),.string (str (cJ q.w)),.slice A q.a.length cap]] W (dV (eR t q) W)):=qh fun W i1 i2=>C7 r t hv q hk hl _ B W hT.up ⟨A,cap,rfl,EV.up⟩;obtain⟨x,e,hx⟩:∃x e,eR t q=(x,e):=⟨_,_,rfl⟩;rw[hx] at HH HA;obtain⟨kd,GO⟩:∃kd,cP q.w=kd:=⟨_,rfl⟩;obtain⟨kc,hkc⟩:∃kc,cP c.w=kc:=⟨_,rfl⟩;obtain⟨tx,fM⟩:∃tx,cJ q.w=tx:=⟨_,rfl⟩;obtain⟨tc,htc⟩:∃tc,cJ c.w=tc:=⟨_,rfl⟩;rw[GO,fM] at HA;rw[GO,fM,hkc,htc];have f1:((str [s]).toList==[60])=decide (([s]:bL)=[60]):=cA _ _;have f2:((str [s]).toList==[61])=decide (([s]:bL)=[61]):=cA _ _;clear hv hk hl hT EV hS2 hx GO hkc fM htc;go_enter Tryz.func97,Tryz.ntmps97;go_upto_region 1 with fail;refine aK fun W1 aE=>?_;obtain⟨cz,de,cN,cY,dc,dX⟩:=Cm B w aE;have b1:Hid (av W1 w.heap.size 39 (aF r t)):=by rw[aE.out];exact(av.new rfl).alloc _
 have b2:av W1 (w.heap.size+1) 161 #[.int .i64 4,.int .i64 kd,.string (str tx),.slice A q.a.length cap,.int .i64 kc,.string (str tc),.slice A' c.a.length cap',.string (str [s]),.int .i64 n]:=by rw[aE.out];exact av.new nV
 refine QDZ ?_;intro y1 y2;have y3:=b2.cell (i:=3) rfl;have y7:=b2.cell (i:=7) rfl;have y8:=b2.cell (i:=8) rfl;clear aE b2;go_upto_region 2 with(first|(refine aj ak rfl _ rfl rfl b1.out rfl ?_)|(go_at_call 91;refine(HA.out _ inferInstance inferInstance).mono ?_;rintro e w1 ⟨rfl,δ1,rfl⟩));by_cases he:e=0
 ·subst he;rcases hs with rfl|rfl|rfl
  ·have HF:Hid (fF t q 60 n=decide (x<n)):=by unfold Hid;rw[HH.out];rfl
   rw[show decide (([60]:bL)=[60])=true from rfl] at f1;clear f2 HH;go_wp2;go_ret;exact⟨aW HF.out.symm,ag⟩
  ·have HF:Hid (fF t q 61 n=decide (x=n)):=by unfold Hid;rw[HH.out];rfl
   rw[show decide (([61]:bL)=[60])=false from by decide] at f1;rw[show decide (([61]:bL)=[61])=true from rfl] at f2;clear HH;go_wp2;go_ret;exact⟨aW (by rw[HF.out];(first|rfl|simp)),ag⟩
  ·have HF:Hid (fF t q 62 n=decide (n<x)):=by unfold Hid;rw[HH.out];rfl
   rw[show decide (([62]:bL)=[60])=false from by decide] at f1;rw[show decide (([62]:bL)=[61])=false from by decide] at f2;clear HH;go_wp2;go_ret;exact⟨aW (by rw[HF.out]),ag⟩
 ·have HF:Hid (fF t q s n=false):=by unfold Hid;rw[HH.out];simp[he]
  have Xx:(e != 0)=true:=by simpa using he
  clear HH he;go_wp2;go_ret;exact⟨aW HF.out.symm,ag⟩
end
section
open Hd
def kz(o:Ord):List nK:=[.int .i64 (o.num:Nat),.string (str o.line)]
theorem qR(o:Ord):(kz o).length=2:=rfl
theorem tL:∀x:Ord,∀u∈kz x,u.oneCell'=true:=by intro x u hu;simp[kz] at hu;rcases hu with rfl|rfl<;>rfl
theorem Vg:nw nH 51 73 (.agg #[.int .i64 0,.string ⟨#[]⟩]) 2 24:=nw.mk Tryz.underlying51 nP rfl nQ
theorem Sl.order{B:Nat}{w:nJ}{A:Option Addr}{c:Nat}{xs:List Ord}(h:Sl kz B w A c xs){k:Nat}(hk:k<xs.length):∃b o,A=some ⟨b,o,none⟩/\b<B/\w.cell? ⟨b,o+k*2,none⟩=some (.int .i64 ((nth xs k).num:Nat))/\w.cell? ⟨b,o+k*2+1,none⟩=some (.string (str (nth xs k).line)):=by obtain⟨b,o,hA,hb,hc⟩:=h.at_ (size:=2) qR hk nQ;rw[bV _ hk];exact⟨b,o,hA,hb,hc 0 _ rfl,hc 1 _ rfl⟩
end
end Go.Proofs.YtcjjlikhlmfedaaGreatDoor
