/- A part of the proof that a law of layer 12 holds, cut small by a program (names and blanks): Hw7, Hw8, Hw9, Hw10, Hw11. -/
import Derived.Test.YtpnnapeoanafdaaGreatDoorZ12
import Derived.Test.YtpnnapeoanafdaaGreatDoorZ15
import Derived.Test.YtpnnapeoanafdaaGreatDoorZ20
set_option maxRecDepth 100000
set_option maxHeartbeats 40000000
set_option linter.unusedVariables false
set_option linter.unusedSimpArgs false
namespace Go.Proofs.YtpnnapeoanafdaaGreatDoor
open Go.RowKit
open Nat renaming le_trans → nT, lt_of_lt_of_le → nL, le_refl → nR, zero_le → nE
open Go.Proofs.Tryz renaming prog → nH
open Go renaming World → nJ, Value → nK
section
open Hd
def sy(o:Option eB):Nat:=match o with|none=>0|some c=>cg c.w
theorem dZ.shape{B:Nat}{w:nJ}{v:nK}{o:Option eB}(h:dZ B w v o):∃(s:ByteArray) (A:Option Addr) (n cap:Nat),v=.agg #[.int .i64 (sy o:Nat),.string s,.slice A n cap]:=by
 cases o with
 |none=>exact⟨_,_,_,_,h⟩
 |some c=>obtain⟨A,cap,h1,h2⟩:=h;exact⟨_,_,_,_,h1⟩
def Bs(B:Nat)(w:nJ)(v:nK):ql->Prop
 |.none=>v=.agg #[.int .i64 0,.int .i64 0,.string ⟨#[]⟩,.slice none 0 0,.int .i64 0,.string ⟨#[]⟩,.slice none 0 0,.string ⟨#[]⟩,.int .i64 0]
 |.cmd c=>∃A cap,v=.agg #[.int .i64 (cg c.w:Nat),.int .i64 (cg c.w:Nat),.string (str (cF c.w)),.slice A c.a.length cap,.int .i64 0,.string ⟨#[]⟩,.slice none 0 0,.string ⟨#[]⟩,.int .i64 0]/\fN 3 aI B w A cap c.a
 |.ord q s n c=>∃A cap A' cap',v=.agg #[.int .i64 4,.int .i64 (cg q.w:Nat),.string (str (cF q.w)),.slice A q.a.length cap,.int .i64 (cg c.w:Nat),.string (str (cF c.w)),.slice A' c.a.length cap',.string (str [s]),.int .i64 n]/\fN 3 aI B w A cap q.a/\fN 3 aI B w A' cap' c.a
def kq(x:ql)(w:nJ)(e:Ending)(w':nJ):Prop:=∃v δ,e=.returned v/\w'=ah w δ/\Bs (ah w δ).heap.size (ah w δ) v x
theorem cV:gi nH 55 9:=gi.mk' Tryz.underlying55 rfl nP
def Cm(o:Option Nat):Int:=match o with|none=>-1|some k=>k
theorem Hp(t x:aQ):∀xs:List aQ,fM t (xs++[x])=(match fM t xs with|some j=>some j|none=>if x=t then some xs.length else none)
 |[]=>by simp only[List.nil_append,fM];split<;>simp
 |y::xs=>by
  rw[List.cons_append,fM,fM,Hp t x xs];by_cases h:y=t
  ·rw[if_pos h,if_pos h]
  ·rw[if_neg h,if_neg h];cases fM t xs with
   |some j=>rfl
   |none=>simp only[Option.map_none];split<;>simp
def Fy(ws:List aQ):ql:=(fM eY ws).elim .none fun k=>if k<4 then .none else oK ws k
theorem JZ{l:aQ}(hw:(aS l).head?=some fJ):bH l=Fy (aS l):=by unfold bH dH Fy;rw[if_pos hw];cases fM eY (aS l)<;>rfl
theorem mL{x:ql}{w w':nJ}(h:x=.none)(hl:∃δ,w'=ah w δ):kq x w (.returned (.agg #[.int .i64 0,.int .i64 0,.string ⟨#[]⟩,.slice none 0 0,.int .i64 0,.string ⟨#[]⟩,.slice none 0 0,.string ⟨#[]⟩,.int .i64 0])) w':=by subst h;obtain⟨δ,rfl⟩:=hl;exact⟨_,δ,rfl,rfl,rfl⟩
theorem dZ.more{B B':Nat}{w:nJ}{v:nK}{o:Option eB}(h:dZ B w v o)(hB:B<=B'):dZ B' w v o:=by
 cases o with
 |none=>exact h
 |some c=>obtain⟨A,cap,h1,h2⟩:=h;exact⟨A,cap,h1,h2.ri hB fun _ _ _ _ _=>rfl⟩
def Fj(w w1:nJ)(x1 x2:List aQ)(t:aQ)(s7:nK)(wx:nJ):Prop:=∃(g:Nat) (s1:ByteArray) (A1:Option Addr) (n1 p1:Nat) (s2:ByteArray) (A2:Option Addr) (n2 p2:Nat),
 s7=.pointer (some ⟨g,0,none⟩)/\Hid (ay wx g 55 #[.int .i64 4,.int .i64 (sy (bJ x1):Nat),.string s1,.slice A1 n1 p1,.int .i64 (sy (bJ x2):Nat),.string s2,.slice A2 n2 p2,.string (str t),.int .i64 0]) /\
 Hid (dZ wx.heap.size wx (.agg #[.int .i64 (sy (bJ x1):Nat),.string s1,.slice A1 n1 p1]) (bJ x1))/\Hid (dZ wx.heap.size wx (.agg #[.int .i64 (sy (bJ x2):Nat),.string s2,.slice A2 n2 p2]) (bJ x2)) /\
 Hid (w1.heap.size<=g)/\aD w1.heap.size w1 wx/\Le w1.heap.size wx
theorem UQ{w w1 W:nJ}{x1 x2:List aQ}{t:aQ}{s1 s2:ByteArray}{A1 A2:Option Addr}{n1 p1 n2 p2:Nat}(h1:dZ W.heap.size W (.agg #[.int .i64 (sy (bJ x1):Nat),.string s1,.slice A1 n1 p1]) (bJ x1))(h2:dZ W.heap.size W (.agg #[.int .i64 (sy (bJ x2):Nat),.string s2,.slice A2 n2 p2]) (bJ x2))[aD w1.heap.size w1 W][hL:Le w1.heap.size W]:Fj w w1 x1 x2 t (.pointer (some ⟨W.heap.size,0,none⟩)) (W.alloc (.cells #[.int .i64 4,.int .i64 (sy (bJ x1):Nat),.string s1,.slice A1 n1 p1,.int .i64 (sy (bJ x2):Nat),.string s2,.slice A2 n2 p2,.string (str t),.int .i64 0] 55)):=
 ⟨_,s1,A1,n1,p1,s2,A2,n2,p2,rfl,ay.new rfl,h1.wide,h2.wide,hL.out,inferInstance,inferInstance⟩
structure Fi(w1:nJ)(B g:Nat)(v1 v2:nK)(o1 o2:Option eB)(cs:Array nK)(W:nJ):Prop where
 box:ay W g 55 cs
 fst:dZ B W v1 o1
 snd:dZ B W v2 o2
 low:w1.heap.size<=g
 gu:aD w1.heap.size w1 W
 le:Le w1.heap.size W
 top:B<=W.heap.size
theorem Fi.step{w1 W:nJ}{B g:Nat}{v1 v2:nK}{o1 o2:Option eB}{cs:Array nK}(h:Fi w1 B g v1 v2 o1 o2 cs W)(i:Nat)(u:nK):Fi w1 B g v1 v2 o1 o2 (cs.setIfInBounds i u) (W.setCell ⟨g,i,none⟩ u):=by have iN:oE w1.heap.size g:=⟨h.low⟩;have i1:=h.gu;have i2:=h.le;exact⟨h.box.set i u,h.fst.eo h.box nU,h.snd.eo h.box nU,h.low,inferInstance,inferInstance,by simpa using h.top⟩
theorem Fi.put{w w1 W:nJ}{B g:Nat}{x1 x2:List aQ}{t:aQ}{s1 s2:ByteArray}{A1 A2:Option Addr}{n1 p1 n2 p2:Nat}{cs:Array nK}(h:Fi w1 B g (.agg #[.int .i64 (sy (bJ x1):Nat),.string s1,.slice A1 n1 p1]) (.agg #[.int .i64 (sy (bJ x2):Nat),.string s2,.slice A2 n2 p2]) (bJ x1) (bJ x2) cs W)(hcs:cs=#[.int .i64 4,.int .i64 (sy (bJ x1):Nat),.string s1,.slice A1 n1 p1,.int .i64 (sy (bJ x2):Nat),.string s2,.slice A2 n2 p2,.string (str t),.int .i64 0]):Fj w w1 x1 x2 t (.pointer (some ⟨g,0,none⟩)) W:=by subst hcs;exact⟨g,s1,A1,n1,p1,s2,A2,n2,p2,rfl,h.box,h.fst.more h.top,h.snd.more h.top,h.low,h.gu,h.le⟩
theorem Gl(ws:List aQ)(A:Option Addr)(ln c:Nat)(hn:ws.length=ln)(hl:∀t∈ws,t.length<=1000)(h1k:ws.length<=1001)(B:Nat)(w:nJ)(hS:Sl bS B w A c ws)[hB:Le B w]:Calls nH 47 #[.slice A ln c] w (tU (bJ ws) w):=by subst hn;exact zF ws A c hl h1k B w hS
theorem fN.aV{α:Type}{enc:α->List nK}{T T':TypeId}{B g:Nat}{w w':nJ}{A:Option Addr}{c:Nat}{xs:List α}{cs:Array nK}(h:fN T enc B w A c xs)(k:bI (fun x=>x=g) w w')(hb:ay w g T' cs)(hne:T'≠T)(hB:B<=w.heap.size):fN T enc w'.heap.size w' A c xs:=
 h.ri (nT hB k.size) fun b cur fr hb' hh=>k.block b (nL hb' hB) (by
  rintro rfl
  unfold ay at hb
  rw[hb] at hh
  injection hh with hh
  injection hh with _ ht
  exact hne ht)
def Oj(q c:Option eB)(s:Option UInt8)(n:Option Int):ql:=
 match q,s,n,c with
 |some q,some s,some n,some c=>if cg q.w=2/\cg c.w=1 then .ord q s n c else .none
 |_,_,_,_=>.none
theorem XZ{q c:Option eB}{s:Option UInt8}:Oj q c s none=.none:=by cases q<;>cases s<;>rfl
theorem XX{q c:Option eB}{n:Option Int}:Oj q c none n=.none:=by cases q<;>rfl
theorem XY{q c:Option eB}{s:Option UInt8}{n:Option Int}(h:sy q≠2):Oj q c s n=.none:=by
 cases q with
 |none=>rfl
 |some q=>
  cases s with
  |none=>rfl
  |some s=>cases n with
   |none=>rfl
   |some n=>cases c with
    |none=>rfl
    |some c=>exact if_neg fun hc=>h hc.1
theorem X6{q c:Option eB}{s:Option UInt8}{n:Option Int}(h:sy c≠1):Oj q c s n=.none:=by
 cases c with
 |none=>cases q<;>cases s<;>cases n<;>rfl
 |some c=>
  cases q with
  |none=>rfl
  |some q=>
   cases s with
   |none=>rfl
   |some s=>cases n with
    |none=>rfl
    |some n=>exact if_neg fun hc=>h hc.2
theorem G8{o:Option eB}(h:sy o≠0):∃c,o=some c:=by
 cases o with
 |none=>exact absurd rfl h
 |some c=>exact⟨c,rfl⟩
theorem NC{t:aQ}(h:kC t=none):t≠[60]/\t≠[61]/\t≠[62]:=by
 unfold kC at h;by_cases h1:t=[60]
 ·rw[if_pos h1] at h;cases h
 ·rw[if_neg h1] at h;by_cases h2:t=[61]
  ·rw[if_pos h2] at h;cases h
  ·rw[if_neg h2] at h;by_cases h3:t=[62]
   ·rw[if_pos h3] at h;cases h
   ·exact⟨h1,h2,h3⟩
theorem Cv{t:aQ}{s:UInt8}(h:kC t=some s):t=[s]/\(s=60\/s=61\/s=62):=by
 unfold kC at h;split at h
 ·injection h with h;subst h;exact⟨nZ,.inl rfl⟩
 ·split at h
  ·injection h with h;subst h;exact⟨nZ,.inr (.inl rfl)⟩
  ·split at h
   ·injection h with h;subst h;exact⟨nZ,.inr (.inr rfl)⟩
   ·cases h
theorem NO(l:aQ)(hl:l.length<=1000)(hw:(aS l).head?=some fJ)(w:nJ):Calls nH 20 #[.string (str l)] w (kq (bH l) w):=by
 have hlen:=(gR l).1;have hmem:=(gR l).2;have hR:=JZ hw;obtain⟨x,hx⟩:∃x,bH l=x:=⟨_,rfl⟩;rw[hx] at hR ⊢;clear hx;obtain⟨ws,pT⟩:∃ws,aS l=ws:=⟨_,rfl⟩;have HWS:=qh pT;rw[pT] at hlen hmem hw hR;have HR:=qh hR;have HM:Hid (∀t∈ws,t.length<=1000):=qh fun t ht=>by have:=hmem t ht;omega
 have hpos:0<ws.length:=by cases ws with
  |nil=>cases hw
  |cons t r=>simp
 have hpi:(0:Int)<(ws.length:Int):=nQ;have HW0:Hid (nth ws 0=fJ):=by
  cases ws with
  |nil=>cases hw
  |cons t r=>injection hw
 have hl1:ws.length<=1001:=nQ;have f1:((str fJ).toList==[119,104,101,110])=true:=by rw[cj];rfl
 clear pT hmem hlen hw hR;go_enter Tryz.func20,Tryz.ntmps20;go_wp2_with (go_at_call 37;refine(vz l hl _).mono ?_;rw[HWS.out];rintro e w1 ⟨A,c,rfl,hs,δ1,hw1⟩;obtain⟨b,o,rfl,hb,d0⟩:=hs.kK hpos;rw[HW0.out] at d0;simp only[Nat.add_zero] at d0;have HS:=qh hs;have z1:ay w1 w.heap.size 55 #[.int .i64 0,.int .i64 0,.string ⟨#[]⟩,.slice none 0 0,.int .i64 0,.string ⟨#[]⟩,.slice none 0 0,.string ⟨#[]⟩,.int .i64 0]:=(by rw[hw1];exact(ay.new rfl).ah _);have g3:aD w.heap.size w w1:=(by rw[hw1];infer_instance);have g4:Le w.heap.size w1:=(by rw[hw1];infer_instance);have ib:Lt b w1:=⟨hb⟩;have hcl:=hs.len;clear hw1 hs hb);have Z1:=qh z1;have iz:=z1.lt;clear z1;go_loopg [5,6] ws.length (fun gg th i wr=>∃(k:Nat) (δ:nJ),k<=ws.length/\gg=ws.length-k/\i=.int .i64 k/\th=.int .i64 (Cm (fM eY (ws.take k)))/\wr=ah w1 δ)
 case atStart=>exact⟨0,w1,nE _,rfl,rfl,rfl,(bw w1).symm⟩
 case round=>
  obtain⟨k,δ,hk,rfl,rfl,rfl,rfl⟩:=hrel;by_cases hlt:k<ws.length
  ·have hki:(k:Int)<(ws.length:Int):=nQ;have hk0:¬(k:Int)<0:=nQ;obtain⟨b2,o2,rz,fX,dk⟩:=HS.out.kK hlt;injection rz with rz;injection rz with AH Y5;subst AH Y5;have HT:Hid (fM eY (ws.take (k+1))=match fM eY (ws.take k) with|some j=>some j|none=>if nth ws k=eY then some k else none):=by unfold Hid;rw[bz ws hlt,Hp,List.length_take,Nat.min_eq_left hk]
   have ft:((str (nth ws k)).toList==[116,104,101,110])=decide (nth ws k=eY):=cj _ _;obtain⟨u,hu⟩:∃u,nth ws k=u:=⟨_,rfl⟩;rw[hu] at HT ft dk;clear fX hu;rcases hi:fM eY (ws.take k) with _|j
   ·rw[hi] at HT;by_cases ZO:u=eY
    ·have Fs:Hid (fM eY (ws.take (k+1))=some k):=qh (HT.out.trans (if_pos ZO));rw[decide_eq_true ZO] at ft;have e1:Cm none = -1:=rfl;clear hi ZO HT;go_wp2_with fail;go_roundg (ws.length-(k+1))
     case measure=>omega
     case rel=>exact⟨k+1,_,hlt,rfl,by go_num,by rw[Fs.out];rfl,ai⟩
    ·have Fs:Hid (fM eY (ws.take (k+1))=none):=qh (HT.out.trans (if_neg ZO));rw[decide_eq_false ZO] at ft;have e1:Cm none = -1:=rfl;clear hi ZO HT;go_wp2_with fail;go_roundg (ws.length-(k+1))
     case measure=>omega
     case rel=>exact⟨k+1,_,hlt,rfl,by go_num,by rw[Fs.out];rfl,ai⟩
   ·rw[hi] at HT;have Fs:Hid (fM eY (ws.take (k+1))=some j):=HT;have e1:Cm (some j)=(j:Int):=rfl;have ej:¬(j:Int)<0:=nQ;obtain⟨q,hq⟩:∃q,decide (u=eY)=q:=⟨_,rfl⟩;rw[hq] at ft;clear hi HT hq;cases q;all_goals
     go_wp2_with fail;go_roundg (ws.length-(k+1))
     case measure=>omega
     case rel=>exact⟨k+1,_,hlt,rfl,by go_num,by rw[Fs.out];rfl,ai⟩
  ·obtain rfl:k=ws.length:=by omega
   rw[List.take_length];rcases hi:fM eY ws with _|k
   ·have HN:Hid (x=.none):=by unfold Hid;rw[HR.out];unfold Fy;rw[hi];rfl
    have e1:Cm none = -1:=rfl;clear hi;go_wp2_with (refine ak cV rfl _ _ rfl rfl rfl (Z1.out.ah _) rfl rfl (by simp[Value.oneCell']) ?_;intro W2 fX hk2);refine iI cV Tryz.results20 rfl fX rfl (mL HN.out (fo (w:=w) hk2 (by rintro b rfl;exact nR _)))
   ·have e1:Cm (some k)=(k:Int):=rfl;have Je:=(Aw hi).1;by_cases h4:k<4
    ·have HN:Hid (x=.none):=by unfold Hid;rw[HR.out];unfold Fy;rw[hi];exact if_pos h4
     clear hi;have h4i:(k:Int)<4:=nQ;go_wp2_with (refine ak cV rfl _ _ rfl rfl rfl (Z1.out.ah _) rfl rfl (by simp[Value.oneCell']) ?_;intro W2 fX hk2);refine iI cV Tryz.results20 rfl fX rfl (mL HN.out (fo (w:=w) hk2 (by rintro b rfl;exact nR _)))
    ·have HX:Hid (x=oK ws k):=by unfold Hid;rw[HR.out];unfold Fy;rw[hi];exact if_neg h4
     clear hi;obtain⟨m,hm⟩:∃m,k=m+2:=⟨k-2,nQ⟩;obtain⟨u,hu⟩:∃u,u=k+1:=⟨_,rfl⟩;obtain⟨v,hv⟩:∃v,v=m+1:=⟨_,rfl⟩;have h4i:¬((k:Int)<4):=nQ;have hcc:ws.length<=c:=HS.out.1;have hw1:IntKind.i64.wrap ((k:Int)-2)=(m:Int):=by rw[IntWalk.i64_in _ nQ];omega
     have Sj:IntKind.i64.wrap ((k:Int)+1)=(u:Int):=by rw[IntWalk.i64_in _ nQ];omega
     have hw3:IntKind.i64.wrap ((k:Int)-1)=(v:Int):=by rw[IntWalk.i64_in _ nQ];omega
     have hmc:(m:Int)<=(c:Int):=nQ;have sw:(1:Int)<=(m:Int):=nQ;have hml:(m:Int)<(ws.length:Int):=nQ;have hvl:(v:Int)<(ws.length:Int):=nQ;have hul:(u:Int)<=(ws.length:Int):=nQ;have AE:¬c=1:=nQ;have hku:(k:Int)<2000:=nQ;have hK:=qh (And.intro hm (And.intro hu hv));have oa:Hid (Sl bS w1.heap.size w1 (some ⟨b,o+1,none⟩) (c-1) ((ws.take m).drop 1)):=by have:=(HS.out.take m).drop gP 1 (by rw[List.length_take];omega);rw[if_neg AE] at this;exact qh (by simpa [Addr.add_lit] using this)
     obtain⟨A2,rz⟩:∃A2,(if c=u then some (⟨b,o,none⟩:Addr) else some ⟨b,o+u,none⟩)=A2:=⟨_,rfl⟩;have Cc:Hid (Sl bS w1.heap.size w1 A2 (c-u) (ws.drop u)):=by have:=HS.out.drop gP u nQ;rw[<-rz];exact qh (by simpa [Addr.add_lit] using this)
     obtain⟨b3,o3,AH,SA,dm⟩:=HS.out.kK (k:=m) nQ;injection AH with AH;injection AH with Y5 hA5;subst Y5 hA5;obtain⟨b3,o3,AH,SA,dv⟩:=HS.out.kK (k:=v) nQ;injection AH with AH;injection AH with Y5 hA5;subst Y5 hA5;have pY:Hid (((ws.take m).drop 1).length=m-1):=qh (by rw[List.length_drop,List.length_take];omega);have qQ:Hid ((ws.drop u).length=ws.length-u):=qh (by rw[List.length_drop]);have xP:Hid (((ws.take m).drop 1).length<=1001):=qh (by rw[pY.out];omega);have Bw:Hid ((ws.drop u).length<=1001):=qh (by rw[qQ.out];omega);have HM1:Hid (∀t∈(ws.take m).drop 1,t.length<=1000):=qh fun t ht=>HM.out t (List.mem_of_mem_take (List.mem_of_mem_drop ht));have HM2:Hid (∀t∈ws.drop u,t.length<=1000):=qh fun t ht=>HM.out t (List.mem_of_mem_drop ht);obtain⟨x1,hx1⟩:∃x1,(ws.take m).drop 1=x1:=⟨_,rfl⟩;obtain⟨x2,hx2⟩:∃x2,ws.drop u=x2:=⟨_,rfl⟩;rw[hx1] at oa pY xP HM1;rw[hx2] at Cc qQ Bw HM2;have HXX:=qh (And.intro hx1 hx2);clear hm hu hv Je h4 hx1 hx2;go_wp2_with fail;have iNe:∀ {W:nJ} [Lt b W],qP b W.heap.size:=fun {W} [h:Lt b W]=>⟨Nat.ne_of_lt h.out⟩;go_cut [7] from 41 to 56 (fun s7 wx=>Fj w w1 x1 x2 (nth ws m) s7 wx);case first=>
      go_region_held3 (fun w'=>w'.cell? ⟨b,o+m,none⟩=some (.string (str (nth ws m)))) (go_simp)
       (first|(go_at_call 47;(with_reducible refine Calls.mono (Gl x1 _ _ _ pY.out HM1.out xP.out w1.heap.size _ oa.out.up) ?_);rintro e w2 ⟨v1,δ2,rfl,rfl,h1⟩;obtain⟨s1,A1,n1,p1,rfl⟩:=h1.shape;have Qs:=qh h1;clear h1)|(go_at_call 47;(with_reducible refine Calls.mono (Gl x2 _ _ _ qQ.out HM2.out Bw.out w1.heap.size _ Cc.out.up) ?_);rintro e w2 ⟨v2,δ3,rfl,rfl,h2⟩;obtain⟨s2,A3,n2,p2,rfl⟩:=h2.shape;have Qd:=qh h2;clear h2))
      all_goals go_wp2_with fail;go_meet
      ·(with_reducible refine UQ ?_ ?_)
       ·exact Qs.out.wide
       ·exact Qd.out.wide
      ·have q0:Fi w1 (ah ((ah (ah w1 δ).drew δ2).alloc (.cells #[.int .i64 0,.int .i64 0,.string ⟨#[]⟩,.slice none 0 0,.int .i64 0,.string ⟨#[]⟩,.slice none 0 0,.string ⟨#[]⟩,.int .i64 0] 55)) δ3).heap.size (ah (ah w1 δ).drew δ2).heap.size (.agg #[.int .i64 (sy (bJ x1):Nat),.string s1,.slice A1 n1 p1]) (.agg #[.int .i64 (sy (bJ x2):Nat),.string s2,.slice A3 n2 p2]) (bJ x1) (bJ x2) #[.int .i64 0,.int .i64 0,.string ⟨#[]⟩,.slice none 0 0,.int .i64 0,.string ⟨#[]⟩,.slice none 0 0,.string ⟨#[]⟩,.int .i64 0] (ah ((ah (ah w1 δ).drew δ2).alloc (.cells #[.int .i64 0,.int .i64 0,.string ⟨#[]⟩,.slice none 0 0,.int .i64 0,.string ⟨#[]⟩,.slice none 0 0,.string ⟨#[]⟩,.int .i64 0] 55)) δ3):=⟨(ay.new rfl).ah _,Qs.out.wide,Qd.out.wide,(inferInstance:oE w1.heap.size (ah (ah w1 δ).drew δ2).heap.size).out,inferInstance,inferInstance,nR _⟩;exact Fi.put (((((((((q0.step 0 _).step 1 _).step 2 _).step 3 _).step 4 _).step 5 _).step 6 _).step 7 _).step 8 _) rfl
      ·have q0:Fi w1 (ah (ah ((ah w1 δ).alloc (.cells #[.int .i64 0,.int .i64 0,.string ⟨#[]⟩,.slice none 0 0,.int .i64 0,.string ⟨#[]⟩,.slice none 0 0,.string ⟨#[]⟩,.int .i64 0] 55)).drew δ2) δ3).heap.size (ah w1 δ).heap.size (.agg #[.int .i64 (sy (bJ x1):Nat),.string s1,.slice A1 n1 p1]) (.agg #[.int .i64 (sy (bJ x2):Nat),.string s2,.slice A3 n2 p2]) (bJ x1) (bJ x2) #[.int .i64 0,.int .i64 0,.string ⟨#[]⟩,.slice none 0 0,.int .i64 0,.string ⟨#[]⟩,.slice none 0 0,.string ⟨#[]⟩,.int .i64 0] (ah (ah ((ah w1 δ).alloc (.cells #[.int .i64 0,.int .i64 0,.string ⟨#[]⟩,.slice none 0 0,.int .i64 0,.string ⟨#[]⟩,.slice none 0 0,.string ⟨#[]⟩,.int .i64 0] 55)).drew δ2) δ3):=⟨((ay.drew (ay.new rfl)).ah _).ah _,Qs.out.wide,Qd.out.wide,(inferInstance:oE w1.heap.size (ah w1 δ).heap.size).out,inferInstance,inferInstance,nR _⟩;exact Fi.put (((((((((q0.step 0 _).step 1 _).step 2 _).step 3 _).step 4 _).step 5 _).step 6 _).step 7 _).step 8 _) rfl
     obtain⟨g,s1,A1,n1,p1,s2,A3,n2,p2,rfl,Bv,Qs,Qd,HG,i1,i2⟩:=hcut;have hcell:∀b' o',b'<w1.heap.size->wc.cell? ⟨b',o',none⟩=w1.cell? ⟨b',o',none⟩:=bB i1.out;have ibc:Lt b wc:=⟨nL ib.out i2.out⟩;have dvc:=(hcell b (o+v) ib.out).trans dv;have Zc:Hid (ay wc w.heap.size 55 #[.int .i64 0,.int .i64 0,.string ⟨#[]⟩,.slice none 0 0,.int .i64 0,.string ⟨#[]⟩,.slice none 0 0,.string ⟨#[]⟩,.int .i64 0]):=qh ((i1.out.2.2.2 _ iz.out).trans Z1.out);have k0:=Bv.out.cell (i:=0) rfl;have k1:=Bv.out.cell (i:=1) rfl;have k4:=Bv.out.cell (i:=4) rfl;have k7:=Bv.out.cell (i:=7) rfl;have k8:=Bv.out.cell (i:=8) rfl;have f8:=Bv.out.free 8;have ig:=Bv.out.lt;have hne:w.heap.size≠g:=by have:=HG.out;have:=iz.out;omega
     have HO:Hid (x=Oj (bJ x1) (bJ x2) (kC (nth ws m)) (numOf (nth ws v))):=by unfold Hid;obtain⟨e1,e2,e3⟩:=hK.out;rw[HX.out,<-HXX.out.1,<-HXX.out.2,e2,e3,e1];rfl
     have Ud:Hid ((nth ws v).length<=1000):=qh (HM.out _ (aR ws nQ));have gw:aD w.heap.size w wc:=pU g3 i1;have gl:Le w.heap.size wc:=⟨nT g4.out i2.out⟩;have iLN:oE w.heap.size g:=⟨nT g4.out HG.out⟩;clear hcell HX HS oa Cc HM1 HM2 HXX hK;obtain⟨tm,Ja⟩:∃tm,nth ws m=tm:=⟨_,rfl⟩;obtain⟨tv,htv⟩:∃tv,nth ws v=tv:=⟨_,rfl⟩;rw[Ja] at HO k7 Bv;rw[htv] at HO Ud dvc;obtain⟨q1,hq1⟩:∃q1,bJ x1=q1:=⟨_,rfl⟩;obtain⟨q2,BE⟩:∃q2,bJ x2=q2:=⟨_,rfl⟩;rw[hq1] at HO Qs Bv k1;rw[BE] at HO Qd Bv k4;have fs1:((str tm).toList==[60])=decide (tm=[60]):=cj _ _;have fs2:((str tm).toList==[61])=decide (tm=[61]):=cj _ _;have fs3:((str tm).toList==[62])=decide (tm=[62]):=cj _ _;clear Ja htv hq1 BE dm dv;rcases hn:numOf tv with _|n
     ·have jh:Hid (Rz (numOf tv)=0/\(numOf tv).isSome=false):=by unfold Hid;rw[hn];exact⟨rfl,rfl⟩
      have HN:Hid (x=.none):=by unfold Hid;rw[HO.out,hn];exact XZ
      clear hn fs1 fs2 fs3;go_upto_region 15 with(go_at_call 36;refine(gS tv Ud.out _).mono ?_;rintro e w4 ⟨rfl,δ4,rfl⟩;rw[jh.out.1,jh.out.2]);go_upto_region 16 with fail;go_upto_region 17 with fail;go_wp2_with (refine ak cV rfl _ _ rfl rfl rfl (ay.fB (Zc.out.ah _) hne _) rfl rfl (by simp[Value.oneCell']) ?_;intro W2 fX hk2);refine iI cV Tryz.results20 rfl fX rfl (mL HN.out (fo (w:=w) hk2 (by rintro b rfl;exact nR _)))
     ·have jh:Hid (Rz (numOf tv)=n/\(numOf tv).isSome=true):=by unfold Hid;rw[hn];exact⟨rfl,rfl⟩
      have xO:Hid (x=Oj q1 q2 (kC tm) (some n)):=by unfold Hid;rw[HO.out,hn]
      clear hn HO;by_cases hq:sy q1=2
      ·have hqi:((sy q1:Int) != 2)=false:=by simp;omega
       by_cases hc:sy q2=1
       ·have hci:((sy q2:Int) != 1)=false:=by simp;omega
        rcases hs:kC tm with _|s
        ·have HN:Hid (x=.none):=by unfold Hid;rw[xO.out,hs];exact XX
         obtain⟨n1',n2',n3'⟩:=NC hs;rw[decide_eq_false n1'] at fs1;rw[decide_eq_false n2'] at fs2;rw[decide_eq_false n3'] at fs3;clear hs hq hc n1' n2' n3';go_upto_region 15 with(go_at_call 36;refine(gS tv Ud.out _).mono ?_;rintro e w4 ⟨rfl,δ4,rfl⟩;rw[jh.out.1,jh.out.2]);go_upto_region 16 with fail;go_upto_region 17 with fail;go_wp2_with (refine ak cV rfl _ _ rfl rfl rfl (ay.fB (Zc.out.ah _) hne _) rfl rfl (by simp[Value.oneCell']) ?_;intro W2 fX hk2);refine iI cV Tryz.results20 rfl fX rfl (mL HN.out (fo (w:=w) hk2 (by rintro b rfl;exact nR _)))
        ·obtain⟨Ja,hs3⟩:=Cv hs;obtain⟨c1,rfl⟩:=G8 (o:=q1) nQ;obtain⟨c2,rfl⟩:=G8 (o:=q2) nQ;have HF:Hid (x=.ord c1 s n c2):=by unfold Hid;rw[xO.out,hs];exact if_pos ⟨hq,hc⟩
         have Zw:=qh Ja;clear hs hq hc Ja xO;have fin:∀W2 δ4,ay W2 w.heap.size 55 #[.int .i64 4,.int .i64 (sy (some c1):Nat),.string s1,.slice A1 n1 p1,.int .i64 (sy (some c2):Nat),.string s2,.slice A3 n2 p2,.string (str tm),.int .i64 n]->bI (fun b=>b=w.heap.size) ((ah wc δ4).setCell ⟨g,8,none⟩ (.int .i64 n)) W2 ->
           kq x w (.returned (.agg #[.int .i64 4,.int .i64 (sy (some c1):Nat),.string s1,.slice A1 n1 p1,.int .i64 (sy (some c2):Nat),.string s2,.slice A3 n2 p2,.string (str tm),.int .i64 n])) W2:=by
          intro W2 δ4 fX hk2
          obtain⟨B1,C1,e1,t1⟩:=Qs.out
          obtain⟨B2,C2,e2,t2⟩:=Qd.out
          have jm:=Bv.out.ah δ4
          have hz:=ay.fB (p:=⟨g,8,none⟩) (Zc.out.ah δ4) hne (.int .i64 n)
          have l8:wc.heap.size<=((ah wc δ4).setCell ⟨g,8,none⟩ (.int .i64 n)).heap.size:=(inferInstance:Le wc.heap.size _).out
          have t1':=((t1.up (w':=ah wc δ4)).eo (i:=8) (u:=.int .i64 n) jm nU).aV hk2 hz nU l8
          have t2':=((t2.up (w':=ah wc δ4)).eo (i:=8) (u:=.int .i64 n) jm nU).aV hk2 hz nU l8
          obtain⟨δ,rfl⟩:=fo (w:=w) hk2 (by rintro b rfl;exact nR _)
          injection e1 with e1
          injection e2 with e2
          have e1:=congrArg Array.toList e1
          have e2:=congrArg Array.toList e2
          simp only[List.cons.injEq,Value.string.injEq,Value.slice.injEq,and_true] at e1 e2
          obtain⟨a1,a2,a3,a4,a5⟩:=e1
          obtain⟨d1,d2,d3,d4,d5⟩:=e2
          rw[HF.out]
          refine⟨_,δ,rfl,rfl,B1,C1,B2,C2,?_,t1',t2'⟩
          rw[a1,a2,a3,a4,a5,d1,d2,d3,d4,d5,Zw.out]
         rcases hs3 with rfl|rfl|rfl
         ·rw[decide_eq_true Zw.out] at fs1;clear fs2 fs3;go_upto_region 15 with(go_at_call 36;refine(gS tv Ud.out _).mono ?_;rintro e w4 ⟨rfl,δ4,rfl⟩;rw[jh.out.1,jh.out.2]);go_upto_region 16 with fail;go_upto_region 18 with fail;go_wp2_with (first|(refine au (cs:=#[.int .i64 4,.int .i64 (sy (some c1):Nat),.string s1,.slice A1 n1 p1,.int .i64 (sy (some c2):Nat),.string s2,.slice A3 n2 p2,.string (str tm),.int .i64 n]) cV rfl _ rfl rfl ((Bv.out.ah _).set 8 _) rfl ?_)|(refine ak cV rfl _ _ rfl rfl rfl (ay.fB (Zc.out.ah _) hne _) rfl rfl (by simp[Value.oneCell']) ?_;intro W2 fX hk2));refine iI cV Tryz.results20 rfl fX rfl ?_;exact fin _ _ fX hk2
         ·rw[decide_eq_false (by rw[Zw.out];decide)] at fs1;rw[decide_eq_true Zw.out] at fs2;clear fs3;go_upto_region 15 with(go_at_call 36;refine(gS tv Ud.out _).mono ?_;rintro e w4 ⟨rfl,δ4,rfl⟩;rw[jh.out.1,jh.out.2]);go_upto_region 16 with fail;go_upto_region 18 with fail;go_wp2_with (first|(refine au (cs:=#[.int .i64 4,.int .i64 (sy (some c1):Nat),.string s1,.slice A1 n1 p1,.int .i64 (sy (some c2):Nat),.string s2,.slice A3 n2 p2,.string (str tm),.int .i64 n]) cV rfl _ rfl rfl ((Bv.out.ah _).set 8 _) rfl ?_)|(refine ak cV rfl _ _ rfl rfl rfl (ay.fB (Zc.out.ah _) hne _) rfl rfl (by simp[Value.oneCell']) ?_;intro W2 fX hk2));refine iI cV Tryz.results20 rfl fX rfl ?_;exact fin _ _ fX hk2
         ·rw[decide_eq_false (by rw[Zw.out];decide)] at fs1;rw[decide_eq_false (by rw[Zw.out];decide)] at fs2;rw[decide_eq_true Zw.out] at fs3;go_upto_region 15 with(go_at_call 36;refine(gS tv Ud.out _).mono ?_;rintro e w4 ⟨rfl,δ4,rfl⟩;rw[jh.out.1,jh.out.2]);go_upto_region 16 with fail;go_upto_region 18 with fail;go_wp2_with (first|(refine au (cs:=#[.int .i64 4,.int .i64 (sy (some c1):Nat),.string s1,.slice A1 n1 p1,.int .i64 (sy (some c2):Nat),.string s2,.slice A3 n2 p2,.string (str tm),.int .i64 n]) cV rfl _ rfl rfl ((Bv.out.ah _).set 8 _) rfl ?_)|(refine ak cV rfl _ _ rfl rfl rfl (ay.fB (Zc.out.ah _) hne _) rfl rfl (by simp[Value.oneCell']) ?_;intro W2 fX hk2));refine iI cV Tryz.results20 rfl fX rfl ?_;exact fin _ _ fX hk2
       ·have hci:((sy q2:Int) != 1)=true:=by simp;omega
        have HN:Hid (x=.none):=by unfold Hid;rw[xO.out];exact X6 hc
        clear hq hc fs1 fs2 fs3;go_upto_region 15 with(go_at_call 36;refine(gS tv Ud.out _).mono ?_;rintro e w4 ⟨rfl,δ4,rfl⟩;rw[jh.out.1,jh.out.2]);go_upto_region 16 with fail;go_upto_region 17 with fail;go_wp2_with (refine ak cV rfl _ _ rfl rfl rfl (ay.fB (Zc.out.ah _) hne _) rfl rfl (by simp[Value.oneCell']) ?_;intro W2 fX hk2);refine iI cV Tryz.results20 rfl fX rfl (mL HN.out (fo (w:=w) hk2 (by rintro b rfl;exact nR _)))
      ·have hqi:((sy q1:Int) != 2)=true:=by simp;omega
       have HN:Hid (x=.none):=by unfold Hid;rw[xO.out];exact XY hq
       clear hq fs1 fs2 fs3;go_upto_region 15 with(go_at_call 36;refine(gS tv Ud.out _).mono ?_;rintro e w4 ⟨rfl,δ4,rfl⟩;rw[jh.out.1,jh.out.2]);go_upto_region 16 with fail;go_upto_region 17 with fail;go_wp2_with (refine ak cV rfl _ _ rfl rfl rfl (ay.fB (Zc.out.ah _) hne _) rfl rfl (by simp[Value.oneCell']) ?_;intro W2 fX hk2);refine iI cV Tryz.results20 rfl fX rfl (mL HN.out (fo (w:=w) hk2 (by rintro b rfl;exact nR _)))
theorem R8{x:ql}{w w':nJ}{c:eB}{A:Option Addr}{n cap:Nat}{s:ByteArray}(h:x=.cmd c)(hl:∃δ,w'=ah w δ)(hW:dZ w'.heap.size w' (.agg #[.int .i64 (cg c.w:Nat),.string s,.slice A n cap]) (some c)):kq x w (.returned (.agg #[.int .i64 (cg c.w:Nat),.int .i64 (cg c.w:Nat),.string s,.slice A n cap,.int .i64 0,.string ⟨#[]⟩,.slice none 0 0,.string ⟨#[]⟩,.int .i64 0])) w':=by subst h;obtain⟨δ,rfl⟩:=hl;obtain⟨B1,C1,e1,t1⟩:=hW;injection e1 with e1;have e1:=congrArg Array.toList e1;simp only[List.cons.injEq,Value.string.injEq,Value.slice.injEq,and_true] at e1;obtain⟨_,a2,a3,a4,a5⟩:=e1;exact⟨_,δ,rfl,rfl,B1,C1,by rw[a2,a3,a4,a5],t1⟩
theorem J1(l:aQ)(hl:l.length<=1000)(hw:¬(aS l).head?=some fJ)(w:nJ):Calls nH 20 #[.string (str l)] w (kq (bH l) w):=by
 have hlen:=(gR l).1;have hmem:=(gR l).2;have hR:bH l=match bJ (aS l) with|some c=>.cmd c|none=>.none:=by unfold bH dH;rw[if_neg hw];cases bJ (aS l)<;>rfl
 obtain⟨x,hx⟩:∃x,bH l=x:=⟨_,rfl⟩;rw[hx] at hR ⊢;clear hx;have hne:=gQ l;obtain⟨ws,pT⟩:∃ws,aS l=ws:=⟨_,rfl⟩;have HWS:=qh pT;rw[pT] at hlen hmem hw hR hne;have HM:Hid (∀t∈ws,t.length<=1000):=qh fun t ht=>by have:=hmem t ht;omega
 have hpos:0<ws.length:=List.length_pos_iff.2 hne;have hpi:(0:Int)<(ws.length:Int):=nQ;have hl1:ws.length<=1001:=nQ;have f1:((str (nth ws 0)).toList==[119,104,101,110])=false:=by
  rw[cj,decide_eq_false];intro e;cases ws with
  |nil=>exact hne rfl
  |cons t r=>exact hw (congrArg some e)
 obtain⟨t0,ht0⟩:∃t0,nth ws 0=t0:=⟨_,rfl⟩;have HT0:=qh ht0;rw[ht0] at f1;have iNe:∀ {W:nJ} {b:Nat} [Lt b W],qP b W.heap.size:=fun {W b} [h:Lt b W]=>⟨Nat.ne_of_lt h.out⟩;rcases hc:bJ ws with _|c
 ·have HN:Hid (x=.none):=by unfold Hid;rw[hR,hc]
  have HC:=qh hc;clear pT hmem hlen hw hR hne ht0 hc;go_enter Tryz.func20,Tryz.ntmps20;go_upto_region 4 with(first|(go_at_call 37;refine(vz l hl _).mono ?_;rw[HWS.out];rintro e w1 ⟨A,c,rfl,hs,δ1,hw1⟩;obtain⟨b,o,rfl,hb,d0⟩:=hs.kK hpos;rw[HT0.out] at d0;simp only[Nat.add_zero] at d0;have HS:=qh hs;have z1:ay w1 w.heap.size 55 #[.int .i64 0,.int .i64 0,.string ⟨#[]⟩,.slice none 0 0,.int .i64 0,.string ⟨#[]⟩,.slice none 0 0,.string ⟨#[]⟩,.int .i64 0]:=(by rw[hw1];exact(ay.new rfl).ah _);have g3:aD w.heap.size w w1:=(by rw[hw1];infer_instance);have g4:Le w.heap.size w1:=(by rw[hw1];infer_instance);have ib:Lt b w1:=⟨hb⟩;have Z1:=qh z1;have iz:=z1.lt;clear hw1 hs hb z1)|(go_at_call 47;refine(zF ws _ _ HM.out hl1 w1.heap.size _ HS.out.up).mono ?_;rw[HC.out];rintro e w2 ⟨v1,δ2,rfl,rfl,h1⟩;obtain rfl:v1=.agg #[.int .i64 0,.string ⟨#[]⟩,.slice none 0 0]:=h1));go_wp2_with (refine ak cV rfl _ _ rfl rfl rfl ((Z1.out.ah _).alloc _) rfl rfl (by simp[Value.oneCell']) ?_;intro W2 fX hk2);refine iI cV Tryz.results20 rfl fX rfl (mL HN.out (fo (w:=w) hk2 (by rintro b rfl;exact nR _)))
 ·have HN:Hid (x=.cmd c):=by unfold Hid;rw[hR,hc]
  have HC:=qh hc;clear pT hmem hlen hw hR hne ht0 hc;go_enter Tryz.func20,Tryz.ntmps20;go_upto_region 4 with(first|(go_at_call 37;refine(vz l hl _).mono ?_;rw[HWS.out];rintro e w1 ⟨A,cc,rfl,hs,δ1,hw1⟩;obtain⟨b,o,rfl,hb,d0⟩:=hs.kK hpos;rw[HT0.out] at d0;simp only[Nat.add_zero] at d0;have HS:=qh hs;have z1:ay w1 w.heap.size 55 #[.int .i64 0,.int .i64 0,.string ⟨#[]⟩,.slice none 0 0,.int .i64 0,.string ⟨#[]⟩,.slice none 0 0,.string ⟨#[]⟩,.int .i64 0]:=(by rw[hw1];exact(ay.new rfl).ah _);have g3:aD w.heap.size w w1:=(by rw[hw1];infer_instance);have g4:Le w.heap.size w1:=(by rw[hw1];infer_instance);have ib:Lt b w1:=⟨hb⟩;have Z1:=qh z1;have iz:=z1.lt;clear hw1 hs hb z1)|(go_at_call 47;refine(zF ws _ _ HM.out hl1 w1.heap.size _ HS.out.up).mono ?_;rw[HC.out];rintro e w2 ⟨v1,δ2,rfl,rfl,h1⟩;obtain⟨s1,A1,n1,p1,rfl⟩:=h1.shape;have Qs:=qh h1;clear h1));go_wp2_with (refine ak cV rfl _ _ rfl rfl rfl ((Z1.out.ah _).alloc _) rfl rfl (by simp[Value.oneCell']) ?_;intro W2 fX hk2);refine iI cV Tryz.results20 rfl fX rfl ?_;refine R8 HN.out (fo (w:=w) hk2 (by rintro b rfl;exact nR _)) ?_;obtain⟨B1,C1,e1,t1⟩:=Qs.out;exact⟨B1,C1,e1,(t1.up (w':=World.alloc _ _)).aV hk2 ((Z1.out.ah _).alloc _) nU (inferInstance:Le _ _).out⟩
theorem kz(l:aQ)(hl:l.length<=1000)(w:nJ):Calls nH 20 #[.string (str l)] w (kq (bH l) w):=by
 by_cases hw:(aS l).head?=some fJ
 ·exact NO l hl hw w
 ·exact J1 l hl hw w
end
section
open Hd
theorem Q9(b:Bool)(w:nJ):Calls nH 180 #[.bool b] w fun e w'=>e=.returned (.string (str (jB b)))/\∃δ,w'=ah w δ:=by cases b;all_goals go_enter Tryz.func180,Tryz.ntmps180;go_wp2;go_ret;exact⟨rfl,ag⟩
theorem CL(e:Int)(x:aQ)(w:nJ):Calls nH 181 #[.int .i64 e,.string (str x)] w fun e' w'=>e'=.returned (.string (str (mB e x)))/\∃δ,w'=ah w δ:=by
 by_cases h0:e=0
 ·subst h0;go_enter Tryz.func181,Tryz.ntmps181;go_wp2;go_ret;exact⟨rfl,ag⟩
 ·by_cases h3:e=3
  ·subst h3;go_enter Tryz.func181,Tryz.ntmps181;go_wp2;go_ret;exact⟨rfl,ag⟩
  ·have e0:(e==0)=false:=by simp[h0]
   have e3:(e==3)=false:=by simp[h3]
   have HT:Hid (mB e x=Jz):=by unfold Hid mB;rw[if_neg h0,if_neg h3]
   clear h0 h3;go_enter Tryz.func181,Tryz.ntmps181;go_wp2;go_ret;exact⟨by rw[HT.out];rfl,ag⟩
def eC(p:Int × Int)(w:nJ)(e:Ending)(w':nJ):Prop:=e=.returned (.tuple #[.int .i64 p.1,.int .i64 p.2])/\∃δ,w'=ah w δ
theorem Ga{n:An.Net}(hv:An.valid n=true):An.xV n=qa (decide (An.jW n (bY n) 0=0)) (decide (An.jW n (iC n) 0=0)):=by unfold An.xV Ow;rw[hv];rfl
theorem tf{f g:Nat->Bool}:∀m k,(∀j,k<=j->j<k+m->f j=g j)->bQ f m k=bQ g m k
 |0,_,_=>rfl
 |m+1,k,h=>by unfold bQ;rw[h k (nR _) nQ,tf m (k+1) fun j h1 h2=>h j nQ nQ]
theorem Fw{n:An.Net}(hv:An.valid n=true):bQ (ni n) 21 0=bQ (ry n) 21 0:=tf _ _ fun j _ h2=>by unfold ni ry;rw[decide_eq_decide];exact An.CM (wS hv nQ)
theorem FL{t:aO}(hv:An.valid t.aF=true)(a:List Int):ew t ⟨.gr,a⟩=(ug (An.valid t.aF) (bQ (ni t.aF) 21 0),uh (An.valid t.aF) (bQ (ni t.aF) 21 0)):=by
 rw[Fw hv,hv];show(if An.wN t.aF=21 then ((0:Int),(3:Int)) else ((An.wN t.aF:Int),0))=_;unfold ug uh An.wN;by_cases h:bQ (ry t.aF) 21 0=21
 ·simp[h]
 ·simp[h]
theorem TH(r:aW)(t:aO)(hv:aE t=true)(a:List Int)(A:Option Addr)(cap:Nat)(B:Nat)(w:nJ)(hT:aN B w r t)[hB:Le B w]:Calls nH 46 #[aY r t,.agg #[.int .i64 2,.string (str (cF .safe)),.slice A a.length cap]] w (eC (ew t ⟨.safe,a⟩) w):=by
 obtain⟨v1,v2,v3⟩:=aX.1 hv;refine QCB ?_;intro V1 V2 V3 H;obtain⟨f0,f1,f2,f3,f4,f5,f6,f7,f8,f9,f10,f11,f12,f13,f14,f15,f16,f17,f18,f19⟩:=cL (cF .safe) (some .safe) (dn.2 rfl);simp only[Option.some.injEq,reduceCtorEq,decide_false,decide_true] at f0 f1 f2 f3 f4 f5 f6 f7 f8 f9 f10 f11 f12 f13 f14 f15 f16 f17 f18 f19;obtain⟨tx,fW⟩:∃tx,cF .safe=tx:=⟨_,rfl⟩;rw[fW] at f0 f1 f2 f3 f4 f5 f6 f7 f8 f9 f10 f11 f12 f13 f14 f15 f16 f17 f18 f19 ⊢;have HE:Hid (ew t ⟨.safe,a⟩=(An.xV t.aF,cD (An.valid t.aF) 20)):=by unfold Hid;rw[Ga v1,v1];rfl
 clear hv v1 v2 v3 hT fW;go_enter Tryz.func46,Tryz.ntmps46;go_upto_region 1 with fail;refine QAX ?_;intro W1 aH cJ dF cW di dz eL b1;refine QCA ?_;intro b2;obtain⟨x0,x1,x2,x3,x4,x5,x6,x7,x8,x9,yQ,yP,ve,yO⟩:=b1.ax;refine QDW ?_;intro y1 y2;clear aH b1 b2;go_wp2_with (go_at_call 86;refine(UL r.aF t.aF B _ H.out.1.up).mono ?_;rintro e w1 ⟨rfl,δ1,rfl⟩);go_ret2;exact⟨by rw[HE.out];rfl,ag⟩
theorem TI(r:aW)(t:aO)(hv:aE t=true)(a:List Int)(A:Option Addr)(cap:Nat)(B:Nat)(w:nJ)(hT:aN B w r t)[hB:Le B w]:Calls nH 46 #[aY r t,.agg #[.int .i64 2,.string (str (cF .jl)),.slice A a.length cap]] w (eC (ew t ⟨.jl,a⟩) w):=by obtain⟨v1,v2,v3⟩:=aX.1 hv;refine QCB ?_;intro V1 V2 V3 H;obtain⟨f0,f1,f2,f3,f4,f5,f6,f7,f8,f9,f10,f11,f12,f13,f14,f15,f16,f17,f18,f19⟩:=cL (cF .jl) (some .jl) (dn.2 rfl);simp only[Option.some.injEq,reduceCtorEq,decide_false,decide_true] at f0 f1 f2 f3 f4 f5 f6 f7 f8 f9 f10 f11 f12 f13 f14 f15 f16 f17 f18 f19;obtain⟨tx,fW⟩:∃tx,cF .jl=tx:=⟨_,rfl⟩;rw[fW] at f0 f1 f2 f3 f4 f5 f6 f7 f8 f9 f10 f11 f12 f13 f14 f15 f16 f17 f18 f19 ⊢;have HE:Hid (ew t ⟨.jl,a⟩=(Me.cR t.af,0)):=rfl;clear hv v1 v2 v3 hT fW;go_enter Tryz.func46,Tryz.ntmps46;go_upto_region 1 with fail;refine QAX ?_;intro W1 aH cJ dF cW di dz eL b1;refine QCA ?_;intro b2;obtain⟨x0,x1,x2,x3,x4,x5,x6,x7,x8,x9,yQ,yP,ve,yO⟩:=b1.ax;refine QDW ?_;intro y1 y2;clear aH b1 b2;go_wp2_with (go_at_call 88;refine(J7 r.af t.af V2.out B _ H.out.2.1.up).mono ?_;rintro e w1 ⟨rfl,δ1,rfl⟩);go_ret2;exact⟨by rw[HE.out];rfl,ag⟩
theorem TJ(r:aW)(t:aO)(hv:aE t=true)(a:List Int)(A:Option Addr)(cap:Nat)(B:Nat)(w:nJ)(hT:aN B w r t)[hB:Le B w]:Calls nH 46 #[aY r t,.agg #[.int .i64 2,.string (str (cF .done)),.slice A a.length cap]] w (eC (ew t ⟨.done,a⟩) w):=by obtain⟨v1,v2,v3⟩:=aX.1 hv;refine QCB ?_;intro V1 V2 V3 H;obtain⟨f0,f1,f2,f3,f4,f5,f6,f7,f8,f9,f10,f11,f12,f13,f14,f15,f16,f17,f18,f19⟩:=cL (cF .done) (some .done) (dn.2 rfl);simp only[Option.some.injEq,reduceCtorEq,decide_false,decide_true] at f0 f1 f2 f3 f4 f5 f6 f7 f8 f9 f10 f11 f12 f13 f14 f15 f16 f17 f18 f19;obtain⟨tx,fW⟩:∃tx,cF .done=tx:=⟨_,rfl⟩;rw[fW] at f0 f1 f2 f3 f4 f5 f6 f7 f8 f9 f10 f11 f12 f13 f14 f15 f16 f17 f18 f19 ⊢;have HE:Hid (ew t ⟨.done,a⟩=(Me.mE t.af,0)):=rfl;clear hv v1 v2 v3 hT fW;go_enter Tryz.func46,Tryz.ntmps46;go_upto_region 1 with fail;refine QAX ?_;intro W1 aH cJ dF cW di dz eL b1;refine QCA ?_;intro b2;obtain⟨x0,x1,x2,x3,x4,x5,x6,x7,x8,x9,yQ,yP,ve,yO⟩:=b1.ax;refine QDW ?_;intro y1 y2;clear aH b1 b2;go_wp2_with (go_at_call 89;refine(NU r.af t.af V2.out B _ H.out.2.1.up).mono ?_;rintro e w1 ⟨rfl,δ1,rfl⟩);go_ret2;exact⟨by rw[HE.out];rfl,ag⟩
theorem TG(r:aW)(t:aO)(hv:aE t=true)(a:List Int)(A:Option Addr)(cap:Nat)(B:Nat)(w:nJ)(hT:aN B w r t)[hB:Le B w]:Calls nH 46 #[aY r t,.agg #[.int .i64 2,.string (str (cF .fV)),.slice A a.length cap]] w (eC (ew t ⟨.fV,a⟩) w):=by obtain⟨v1,v2,v3⟩:=aX.1 hv;refine QCB ?_;intro V1 V2 V3 H;obtain⟨f0,f1,f2,f3,f4,f5,f6,f7,f8,f9,f10,f11,f12,f13,f14,f15,f16,f17,f18,f19⟩:=cL (cF .fV) (some .fV) (dn.2 rfl);simp only[Option.some.injEq,reduceCtorEq,decide_false,decide_true] at f0 f1 f2 f3 f4 f5 f6 f7 f8 f9 f10 f11 f12 f13 f14 f15 f16 f17 f18 f19;obtain⟨tx,fW⟩:∃tx,cF .fV=tx:=⟨_,rfl⟩;rw[fW] at f0 f1 f2 f3 f4 f5 f6 f7 f8 f9 f10 f11 f12 f13 f14 f15 f16 f17 f18 f19 ⊢;have HE:Hid (ew t ⟨.fV,a⟩=pH t.aa):=rfl;clear hv v1 v2 v3 hT fW;go_enter Tryz.func46,Tryz.ntmps46;go_upto_region 1 with fail;refine QAX ?_;intro W1 aH cJ dF cW di dz eL b1;refine QCA ?_;intro b2;obtain⟨x0,x1,x2,x3,x4,x5,x6,x7,x8,x9,yQ,yP,ve,yO⟩:=b1.ax;refine QDW ?_;intro y1 y2;clear aH b1 b2;go_wp2_with (go_at_call 90;refine(NS r.aa t.aa V3.out B _ H.out.2.2.up).mono ?_;rintro e w1 ⟨rfl,δ1,rfl⟩);go_ret2;exact⟨by rw[HE.out];rfl,ag⟩
theorem Wk(r:aW)(t:aO)(hv:aE t=true)(a:List Int)(A:Option Addr)(cap:Nat)(B:Nat)(w:nJ)(hT:aN B w r t)[hB:Le B w]:Calls nH 46 #[aY r t,.agg #[.int .i64 2,.string (str (cF .yB)),.slice A a.length cap]] w (eC (ew t ⟨.yB,a⟩) w):=by obtain⟨v1,v2,v3⟩:=aX.1 hv;refine QCB ?_;intro V1 V2 V3 H;obtain⟨f0,f1,f2,f3,f4,f5,f6,f7,f8,f9,f10,f11,f12,f13,f14,f15,f16,f17,f18,f19⟩:=cL (cF .yB) (some .yB) (dn.2 rfl);simp only[Option.some.injEq,reduceCtorEq,decide_false,decide_true] at f0 f1 f2 f3 f4 f5 f6 f7 f8 f9 f10 f11 f12 f13 f14 f15 f16 f17 f18 f19;obtain⟨tx,fW⟩:∃tx,cF .yB=tx:=⟨_,rfl⟩;rw[fW] at f0 f1 f2 f3 f4 f5 f6 f7 f8 f9 f10 f11 f12 f13 f14 f15 f16 f17 f18 f19 ⊢;have HE:Hid (ew t ⟨.yB,a⟩=(Sa.rQ t.aa,Sa.ud t.aa)):=rfl;clear hv v1 v2 v3 hT fW;go_enter Tryz.func46,Tryz.ntmps46;go_upto_region 1 with fail;refine QAX ?_;intro W1 aH cJ dF cW di dz eL b1;refine QCA ?_;intro b2;obtain⟨x0,x1,x2,x3,x4,x5,x6,x7,x8,x9,yQ,yP,ve,yO⟩:=b1.ax;refine QDW ?_;intro y1 y2;clear aH b1 b2;go_wp2_with (go_at_call 92;refine(XN r.aa t.aa V3.out B _ H.out.2.2.up).mono ?_;rintro e w1 ⟨rfl,δ1,rfl⟩);go_ret2;exact⟨by rw[HE.out];rfl,ag⟩
theorem Qa(r:aW)(t:aO)(hv:aE t=true)(a:List Int)(A:Option Addr)(cap:Nat)(B:Nat)(w:nJ)(hT:aN B w r t)[hB:Le B w]:Calls nH 46 #[aY r t,.agg #[.int .i64 2,.string (str (cF .gr)),.slice A a.length cap]] w (eC (ew t ⟨.gr,a⟩) w):=by obtain⟨v1,v2,v3⟩:=aX.1 hv;refine QCB ?_;intro V1 V2 V3 H;obtain⟨f0,f1,f2,f3,f4,f5,f6,f7,f8,f9,f10,f11,f12,f13,f14,f15,f16,f17,f18,f19⟩:=cL (cF .gr) (some .gr) (dn.2 rfl);simp only[Option.some.injEq,reduceCtorEq,decide_false,decide_true] at f0 f1 f2 f3 f4 f5 f6 f7 f8 f9 f10 f11 f12 f13 f14 f15 f16 f17 f18 f19;obtain⟨tx,fW⟩:∃tx,cF .gr=tx:=⟨_,rfl⟩;rw[fW] at f0 f1 f2 f3 f4 f5 f6 f7 f8 f9 f10 f11 f12 f13 f14 f15 f16 f17 f18 f19 ⊢;have HE:Hid (ew t ⟨.gr,a⟩=(ug (An.valid t.aF) (bQ (ni t.aF) 21 0),uh (An.valid t.aF) (bQ (ni t.aF) 21 0))):=FL v1 a;clear hv v1 v2 v3 hT fW;go_enter Tryz.func46,Tryz.ntmps46;go_upto_region 1 with fail;refine QAX ?_;intro W1 aH cJ dF cW di dz eL b1;refine QCA ?_;intro b2;obtain⟨x0,x1,x2,x3,x4,x5,x6,x7,x8,x9,yQ,yP,ve,yO⟩:=b1.ax;refine QDW ?_;intro y1 y2;clear aH b1 b2;go_wp2_with (go_at_call 87;refine(UJ r.aF t.aF B _ H.out.1.up).mono ?_;rintro e w1 ⟨rfl,δ1,rfl⟩);go_ret2;exact⟨by rw[HE.out];rfl,ag⟩
theorem Qb(r:aW)(t:aO)(hv:aE t=true)(a:List Int)(d:Int)(ha:a=[d])(A:Option Addr)(cap:Nat)(B:Nat)(w:nJ)(hT:aN B w r t)[hB:Le B w](hS:Sl aI B w A cap a):Calls nH 46 #[aY r t,.agg #[.int .i64 2,.string (str (cF .early)),.slice A a.length cap]] w (eC (ew t ⟨.early,a⟩) w):=by
 obtain⟨v1,v2,v3⟩:=aX.1 hv;refine QCB ?_;intro V1 V2 V3 H;obtain⟨f0,f1,f2,f3,f4,f5,f6,f7,f8,f9,f10,f11,f12,f13,f14,f15,f16,f17,f18,f19⟩:=cL (cF .early) (some .early) (dn.2 rfl);simp only[Option.some.injEq,reduceCtorEq,decide_false,decide_true] at f0 f1 f2 f3 f4 f5 f6 f7 f8 f9 f10 f11 f12 f13 f14 f15 f16 f17 f18 f19;obtain⟨tx,fW⟩:∃tx,cF .early=tx:=⟨_,rfl⟩;rw[fW] at f0 f1 f2 f3 f4 f5 f6 f7 f8 f9 f10 f11 f12 f13 f14 f15 f16 f17 f18 f19 ⊢;have HE:Hid (ew t ⟨.early,a⟩=jS t.aa d):=by unfold Hid;subst ha;rfl
 obtain⟨bb,oo,rfl,ij,dd⟩:=hS.int (k:=0) (by rw[ha];simp);have ib:Lt bb w:=⟨nL ij hB.out⟩;have d0:w.cell? ⟨bb,oo,none⟩=some (.int .i64 d):=by rw[ha] at dd;simpa [nth] using dd
 have hl1:(0:Int)<(a.length:Int):=by rw[ha];simp
 have HLA:Hid (a.length=1):=by unfold Hid;rw[ha];rfl
 clear dd hS ha ij hv v1 v2 v3 hT fW;go_enter Tryz.func46,Tryz.ntmps46;go_upto_region 1 with fail;refine QAX ?_;intro W1 aH cJ dF cW di dz eL b1;have b2:ay W1 (w.heap.size+1) 53 #[.int .i64 2,.string (str tx),.slice (some ⟨bb,oo,none⟩) a.length cap]:=by rw[aH.out];exact ay.new nV
 obtain⟨x0,x1,x2,x3,x4,x5,x6,x7,x8,x9,yQ,yP,ve,yO⟩:=b1.ax;refine QDW ?_;intro y1 y2;have XW1:=aH;have ib1:Lt bb W1:=nr aH;clear aH b1 b2;have d1:W1.cell? ⟨bb,oo,none⟩=some (.int .i64 d):=by rw[XW1.out];go_simp
 clear XW1;go_wp2_with fail;refine wpRl ?_;repeat (go_big_quiet_step ((first|(go_at_call 91;exact Calls.bV (Rc r.aa t.aa V3.out d B _ H.out.2.2.up)))))
 refine QBU ?_;rintro _ ⟨δq,rfl⟩;go_wp2_with fail;go_ret2;exact⟨by rw[HE.out];rfl,ag⟩
end
section
open Hd
theorem Gr(r:aW)(t:aO)(hv:aE t=true)(c:eB)(hk:cg c.w=2)(hl:c.a.length=tS c.w)(v:nK)(B:Nat)(w:nJ)(hT:aN B w r t)[hB:Le B w](hV:dZ B w v (some c)):Calls nH 46 #[aY r t,v] w (eC (ew t c) w):=by
 obtain⟨A,cap,rfl,hS⟩:=hV;obtain⟨d,a⟩:=c;cases d with
 |safe=>exact TH r t hv a A cap B w hT
 |gr=>exact Qa r t hv a A cap B w hT
 |jl=>exact TI r t hv a A cap B w hT
 |done=>exact TJ r t hv a A cap B w hT
 |fV=>exact TG r t hv a A cap B w hT
 |yB=>exact Wk r t hv a A cap B w hT
 |early=>
  obtain⟨x,rfl⟩:∃x,a=[x]:=by
   match a,hl with
   |[x],_=>exact⟨x,rfl⟩
  exact Qb r t hv [x] x rfl A cap B w hT hS.plain
 |_=>simp[cg] at hk
def mS(p:List Int × Int)(w:nJ)(e:Ending)(w':nJ):Prop:=∃(A:Option Addr) (n c:Nat) (δ:nJ),e=.returned (.tuple #[.slice A n c,.int .i64 p.2])/\n=p.1.length/\w'=ah w δ/\Sl aI (ah w δ).heap.size (ah w δ) A c p.1
theorem RQ(r:aW)(t:aO)(hv:aE t=true)(a:List Int)(A:Option Addr)(cap:Nat)(B:Nat)(w:nJ)(hT:aN B w r t)[hB:Le B w]:Calls nH 182 #[aY r t,.agg #[.int .i64 3,.string (str (cF .nD)),.slice A a.length cap]] w (mS (lP t ⟨.nD,a⟩) w):=by obtain⟨v1,v2,v3⟩:=aX.1 hv;refine QCB ?_;intro V1 V2 V3 H;obtain⟨f0,f1,f2,f3,f4,f5,f6,f7,f8,f9,f10,f11,f12,f13,f14,f15,f16,f17,f18,f19⟩:=cL (cF .nD) (some .nD) (dn.2 rfl);simp only[Option.some.injEq,reduceCtorEq,decide_false,decide_true] at f0 f1 f2 f3 f4 f5 f6 f7 f8 f9 f10 f11 f12 f13 f14 f15 f16 f17 f18 f19;obtain⟨tx,fW⟩:∃tx,cF .nD=tx:=⟨_,rfl⟩;rw[fW] at f0 f1 f2 f3 f4 f5 f6 f7 f8 f9 f10 f11 f12 f13 f14 f15 f16 f17 f18 f19 ⊢;clear hv v1 v2 v3 hT fW;go_enter Tryz.func182,Tryz.ntmps182;go_upto_region 1 with fail;refine QAX ?_;intro W1 aH cJ dF cW di dz eL b1;refine QEI ?_;intro b2;obtain⟨x0,x1,x2,x3,x4,x5,x6,x7,x8,x9,yQ,yP,ve,yO⟩:=b1.ax;have y1:=b2.cell (i:=1) rfl;clear aH b1 b2;go_wp2_with (go_at_call 228;refine(UM r.aF t.aF B _ H.out.1.up).mono ?_;rintro e w1 ⟨A1,c1,δ1,rfl,rfl,hs⟩;have HS:=qh hs;clear hs);go_ret2;refine⟨A1,_,c1,_,rfl,rfl,ai,?_⟩;refine QDF ?_;exact HS.out
theorem OQ(r:aW)(t:aO)(hv:aE t=true)(a:List Int)(A:Option Addr)(cap:Nat)(B:Nat)(w:nJ)(hT:aN B w r t)[hB:Le B w]:Calls nH 182 #[aY r t,.agg #[.int .i64 3,.string (str (cF .order)),.slice A a.length cap]] w (mS (lP t ⟨.order,a⟩) w):=by obtain⟨v1,v2,v3⟩:=aX.1 hv;refine QCB ?_;intro V1 V2 V3 H;obtain⟨f0,f1,f2,f3,f4,f5,f6,f7,f8,f9,f10,f11,f12,f13,f14,f15,f16,f17,f18,f19⟩:=cL (cF .order) (some .order) (dn.2 rfl);simp only[Option.some.injEq,reduceCtorEq,decide_false,decide_true] at f0 f1 f2 f3 f4 f5 f6 f7 f8 f9 f10 f11 f12 f13 f14 f15 f16 f17 f18 f19;obtain⟨tx,fW⟩:∃tx,cF .order=tx:=⟨_,rfl⟩;rw[fW] at f0 f1 f2 f3 f4 f5 f6 f7 f8 f9 f10 f11 f12 f13 f14 f15 f16 f17 f18 f19 ⊢;clear hv v1 v2 v3 hT fW;go_enter Tryz.func182,Tryz.ntmps182;go_upto_region 1 with fail;refine QAX ?_;intro W1 aH cJ dF cW di dz eL b1;refine QEI ?_;intro b2;obtain⟨x0,x1,x2,x3,x4,x5,x6,x7,x8,x9,yQ,yP,ve,yO⟩:=b1.ax;have y1:=b2.cell (i:=1) rfl;clear aH b1 b2;go_wp2_with (go_at_call 226;refine(zG r.af t.af V2.out B _ H.out.2.1.up).mono ?_;rintro e w1 ⟨A1,c1,δ1,rfl,rfl,HS⟩);go_ret2;refine⟨A1,_,c1,_,rfl,(Me.ji (Me.gp (qc V2.out))).symm,ai,?_⟩;refine QDF ?_;exact HS.out
theorem RP(r:aW)(t:aO)(hv:aE t=true)(a:List Int)(A:Option Addr)(cap:Nat)(B:Nat)(w:nJ)(hT:aN B w r t)[hB:Le B w]:Calls nH 182 #[aY r t,.agg #[.int .i64 3,.string (str (cF .pack)),.slice A a.length cap]] w (mS (lP t ⟨.pack,a⟩) w):=by obtain⟨v1,v2,v3⟩:=aX.1 hv;refine QCB ?_;intro V1 V2 V3 H;obtain⟨f0,f1,f2,f3,f4,f5,f6,f7,f8,f9,f10,f11,f12,f13,f14,f15,f16,f17,f18,f19⟩:=cL (cF .pack) (some .pack) (dn.2 rfl);simp only[Option.some.injEq,reduceCtorEq,decide_false,decide_true] at f0 f1 f2 f3 f4 f5 f6 f7 f8 f9 f10 f11 f12 f13 f14 f15 f16 f17 f18 f19;obtain⟨tx,fW⟩:∃tx,cF .pack=tx:=⟨_,rfl⟩;rw[fW] at f0 f1 f2 f3 f4 f5 f6 f7 f8 f9 f10 f11 f12 f13 f14 f15 f16 f17 f18 f19 ⊢;clear hv v1 v2 v3 hT fW;go_enter Tryz.func182,Tryz.ntmps182;go_upto_region 1 with fail;refine QAX ?_;intro W1 aH cJ dF cW di dz eL b1;refine QEI ?_;intro b2;obtain⟨x0,x1,x2,x3,x4,x5,x6,x7,x8,x9,yQ,yP,ve,yO⟩:=b1.ax;have y1:=b2.cell (i:=1) rfl;clear aH b1 b2;go_wp2_with (go_at_call 152;refine(DX r.aa t.aa V3.out B _ H.out.2.2.up).mono ?_;rintro e w1 ⟨A1,m1,c1,δ1,rfl,hm,hs,rfl⟩;have HS:=qh hs;have HM:=qh hm;clear hs hm);go_ret2;refine⟨A1,_,c1,_,rfl,HM.out,ai,?_⟩;refine QDF ?_;exact HS.out
theorem NR(r:aW)(t:aO)(hv:aE t=true)(c:eB)(hk:cg c.w=3)(v:nK)(B:Nat)(w:nJ)(hT:aN B w r t)[hB:Le B w](hV:dZ B w v (some c)):Calls nH 182 #[aY r t,v] w (mS (lP t c) w):=by
 obtain⟨A,cap,rfl,hS⟩:=hV;obtain⟨d,a⟩:=c;cases d with
 |nD=>exact RQ r t hv a A cap B w hT
 |order=>exact OQ r t hv a A cap B w hT
 |pack=>exact RP r t hv a A cap B w hT
 |_=>simp[cg] at hk
end
section
open Hd
theorem zQ{t:aQ}{q c:eB}{s:UInt8}{n:Int}(h:bH t=.ord q s n c):cg q.w=2/\q.a.length=tS q.w/\cg c.w=1/\c.a.length=tS c.w/\(s=60\/s=61\/s=62):=by obtain⟨k,h1,h2,h3,h4,h5,h6,h7,h8⟩:=Oi h;exact⟨h8.1,(AW h4).1,h8.2,(AW h7).1,(Cv h5).2⟩
theorem Gp(r:aW)(t:aO)(hv:aE t=true)(q c:eB)(s:UInt8)(n:Int)(hk:cg q.w=2)(hl:q.a.length=tS q.w)(hs:s=60\/s=61\/s=62)(v:nK)(B:Nat)(w:nJ)(hT:aN B w r t)[hB:Le B w](hV:Bs B w v (.ord q s n c)):Calls nH 19 #[aY r t,v] w fun e w'=>e=.returned (.bool (fR t q s n))/\∃δ,w'=ah w δ:=by
 obtain⟨A,cap,A',cap',rfl,Ji,hS2⟩:=hV;have HV:=qh hv;have HK:=qh hk;have HL:=qh hl;have H:=qh hT;have oa:=qh Ji;have HH:Hid (fR t q s n=(decide ((ew t q).2=0)&&Cw s (ew t q).1 n)):=rfl;have HA:Hid (∀W:nJ,aD B w W->Le B W->Calls nH 46 #[aY r t,.agg #[.int .i64 (cg q.w:Nat),.string (str (cF q.w)),.slice A q.a.length cap]] W (eC (ew t q) W)):=qh fun W i1 i2=>Gr r t hv q hk hl _ B W hT.up ⟨A,cap,rfl,Ji.up⟩;obtain⟨x,e,hx⟩:∃x e,ew t q=(x,e):=⟨_,_,rfl⟩;rw[hx] at HH HA;obtain⟨kd,Ht⟩:∃kd,cg q.w=kd:=⟨_,rfl⟩;obtain⟨kc,hkc⟩:∃kc,cg c.w=kc:=⟨_,rfl⟩;obtain⟨tx,fW⟩:∃tx,cF q.w=tx:=⟨_,rfl⟩;obtain⟨tc,htc⟩:∃tc,cF c.w=tc:=⟨_,rfl⟩;rw[Ht,fW] at HA;rw[Ht,fW,hkc,htc];have f1:((str [s]).toList==[60])=decide (([s]:aQ)=[60]):=cj _ _;have f2:((str [s]).toList==[61])=decide (([s]:aQ)=[61]):=cj _ _;clear hv hk hl hT Ji hS2 hx Ht hkc fW htc;go_enter Tryz.func19,Tryz.ntmps19;go_upto_region 1 with fail;refine QCC ?_;intro W1 aH cJ dF cW di dz eL;have b1:Hid (ay W1 w.heap.size 39 (aG r t)):=by rw[aH.out];exact(ay.new rfl).alloc _
 have b2:ay W1 (w.heap.size+1) 55 #[.int .i64 4,.int .i64 kd,.string (str tx),.slice A q.a.length cap,.int .i64 kc,.string (str tc),.slice A' c.a.length cap',.string (str [s]),.int .i64 n]:=by rw[aH.out];exact ay.new nV
 refine QDW ?_;intro y1 y2;have y3:=b2.cell (i:=3) rfl;have y7:=b2.cell (i:=7) rfl;have y8:=b2.cell (i:=8) rfl;clear aH b2;go_upto_region 2 with(first|(refine au aq rfl _ rfl rfl b1.out rfl ?_)|(go_at_call 46;refine(HA.out _ inferInstance inferInstance).mono ?_;rintro e w1 ⟨rfl,δ1,rfl⟩));by_cases he:e=0
 ·subst he;rcases hs with rfl|rfl|rfl
  ·have HF:Hid (fR t q 60 n=decide (x<n)):=by unfold Hid;rw[HH.out];rfl
   rw[show decide (([60]:aQ)=[60])=true from rfl] at f1;clear f2 HH;go_wp2;go_ret;exact⟨bg HF.out.symm,ag⟩
  ·have HF:Hid (fR t q 61 n=decide (x=n)):=by unfold Hid;rw[HH.out];rfl
   rw[show decide (([61]:aQ)=[60])=false from by decide] at f1;rw[show decide (([61]:aQ)=[61])=true from rfl] at f2;clear HH;go_wp2;go_ret;exact⟨bg (by rw[HF.out];(first|rfl|simp)),ag⟩
  ·have HF:Hid (fR t q 62 n=decide (n<x)):=by unfold Hid;rw[HH.out];rfl
   rw[show decide (([62]:aQ)=[60])=false from by decide] at f1;rw[show decide (([62]:aQ)=[61])=false from by decide] at f2;clear HH;go_wp2;go_ret;exact⟨bg (by rw[HF.out]),ag⟩
 ·have HF:Hid (fR t q s n=false):=by unfold Hid;rw[HH.out];simp[he]
  have hen:(e != 0)=true:=by simpa using he
  clear HH he;go_wp2;go_ret;exact⟨bg HF.out.symm,ag⟩
end
section
open Hd
def mw(o:Ord):List nK:=[.int .i64 (o.num:Nat),.string (str o.line)]
theorem tj(o:Ord):(mw o).length=2:=rfl
theorem vJ:∀x:Ord,∀u∈mw x,u.oneCell'=true:=by intro x u hu;simp[mw] at hu;rcases hu with rfl|rfl<;>rfl
theorem slO:pE nH 123 252 (.agg #[.int .i64 0,.string ⟨#[]⟩]) 2 24:=pE.mk Tryz.underlying123 nP rfl nQ
theorem Sl.order{B:Nat}{w:nJ}{A:Option Addr}{c:Nat}{xs:List Ord}(h:Sl mw B w A c xs){k:Nat}(hk:k<xs.length):∃b o,A=some ⟨b,o,none⟩/\b<B/\w.cell? ⟨b,o+k*2,none⟩=some (.int .i64 ((nth xs k).num:Nat))/\w.cell? ⟨b,o+k*2+1,none⟩=some (.string (str (nth xs k).line)):=by obtain⟨b,o,hA,hb,hc⟩:=h.at_ (size:=2) tj hk nQ;rw[bN _ hk];exact⟨b,o,hA,hb,hc 0 _ rfl,hc 1 _ rfl⟩
end
end Go.Proofs.YtpnnapeoanafdaaGreatDoor
