/- A part of the proof that the statement HeadmanRunCardSaid holds, cut small by a program (names and blanks): Hp14, Hp15, Hp16. -/
import Derived.Test.YtcjjlikhlmfedaaGreatDoorZ25
set_option maxRecDepth 100000
set_option maxHeartbeats 40000000
set_option linter.unusedVariables false
set_option linter.unusedSimpArgs false
namespace Go.Proofs.YtcjjlikhlmfedaaGreatDoor
open Go.RowKit
open Nat renaming le_trans → nT, lt_of_lt_of_le → nL, le_refl → nR, zero_le → nE
open Go.Proofs.Tryz renaming prog → nH
open Go renaming World → nJ, Value → nK
section
open Hd
def oz:Wd->Nat
 |.safe=>111
 |.fP=>113
 |.jE=>115
 |.done=>117
 |.fD=>119
 |.we=>121
 |.mj=>123
 |.order=>125
 |_=>127
def jd(w:nJ)(v:nK)(c:eH):Prop:=cP c.w=2/\c.a.length=rZ c.w /\
 ((c.w≠.early/\v=.func (.func (oz c.w)) #[] #[])\/(c.w=.early/\∃(ga:Nat) (A:Option Addr) (cap:Nat),v=.func (.func 109) #[] #[.pointer (some ⟨ga,0,none⟩)]/\av w ga 35 #[.slice A 1 cap]/\fm 3 aH w.heap.size w A cap c.a))
theorem jd.up{w W:nJ}{v:nK}{c:eH}(h:jd w v c)[hg:aC w.heap.size w W][hl:Le w.heap.size W]:jd W v c:=by
 obtain⟨h1,h2,h|⟨h3,ga,A,cap,h4,h5,h6⟩⟩:=h
 ·exact⟨h1,h2,.inl h⟩
 ·exact⟨h1,h2,.inr ⟨h3,ga,A,cap,h4,h5.eA,h6.wide⟩⟩
theorem jd.aO{w W:nJ}{v:nK}{c:eH}{g:Nat}{T:TypeId}{cs:Array nK}(h:jd w v c)(k:bw (fun x=>x=g) w W)(hb:av w g T cs)(t2:T≠35)(t3:T≠3):jd W v c:=by
 obtain⟨h1,h2,h|⟨h3,ga,A,cap,h4,h5,h6⟩⟩:=h
 ·exact⟨h1,h2,.inl h⟩
 ·exact⟨h1,h2,.inr ⟨h3,ga,A,cap,h4,h5.tX k hb t2,h6.aO k hb t3 (nR _)⟩⟩
theorem RU(c:eH)(hk:cP c.w=2)(hne:c.w≠.early)(r:aR)(t:aV)(hv:aG t=true)(B:Nat)(w:nJ)(hT:aI B w r t)[hB:Le B w]:Calls nH (oz c.w) #[aX r t] w (dV (eR t c) w):=by
 obtain⟨d,a⟩:=c;cases d with
 |safe=>exact Ta r t hv a B w hT
 |fP=>exact Qg r t hv a B w hT
 |jE=>exact Te r t hv a B w hT
 |done=>exact Tf r t hv a B w hT
 |fD=>exact S9 r t hv a B w hT
 |we=>exact Vk r t hv a B w hT
 |early=>exact absurd rfl hne
 |aN=>exact absurd hk (by show ¬cP .aN=2;decide)
 |current=>exact absurd hk (by show ¬cP .current=2;decide)
 |fU=>exact absurd hk (by show ¬cP .fU=2;decide)
 |ai=>exact absurd hk (by show ¬cP .ai=2;decide)
 |lM=>exact absurd hk (by show ¬cP .lM=2;decide)
 |dU=>exact absurd hk (by show ¬cP .dU=2;decide)
 |eK=>exact absurd hk (by show ¬cP .eK=2;decide)
 |part=>exact absurd hk (by show ¬cP .part=2;decide)
 |fo=>exact absurd hk (by show ¬cP .fo=2;decide)
 |mj=>exact absurd hk (by show ¬cP .mj=2;decide)
 |order=>exact absurd hk (by show ¬cP .order=2;decide)
 |pack=>exact absurd hk (by show ¬cP .pack=2;decide)
 |forget=>exact absurd hk (by show ¬cP .forget=2;decide)
theorem Vj(c:eH)(hk:cP c.w=3)(r:aR)(t:aV)(hv:aG t=true)(B:Nat)(w:nJ)(hT:aI B w r t)[hB:Le B w]:Calls nH (oz c.w) #[aX r t] w (kO (pU t c) w):=by
 obtain⟨d,a⟩:=c;cases d with
 |mj=>exact Tc r t hv a B w hT
 |order=>exact Qh r t hv a B w hT
 |pack=>exact Tb r t hv a B w hT
 |safe=>exact absurd hk (by show ¬cP .safe=3;decide)
 |fP=>exact absurd hk (by show ¬cP .fP=3;decide)
 |jE=>exact absurd hk (by show ¬cP .jE=3;decide)
 |done=>exact absurd hk (by show ¬cP .done=3;decide)
 |fD=>exact absurd hk (by show ¬cP .fD=3;decide)
 |we=>exact absurd hk (by show ¬cP .we=3;decide)
 |early=>exact absurd hk (by show ¬cP .early=3;decide)
 |aN=>exact absurd hk (by show ¬cP .aN=3;decide)
 |current=>exact absurd hk (by show ¬cP .current=3;decide)
 |fU=>exact absurd hk (by show ¬cP .fU=3;decide)
 |ai=>exact absurd hk (by show ¬cP .ai=3;decide)
 |lM=>exact absurd hk (by show ¬cP .lM=3;decide)
 |dU=>exact absurd hk (by show ¬cP .dU=3;decide)
 |eK=>exact absurd hk (by show ¬cP .eK=3;decide)
 |part=>exact absurd hk (by show ¬cP .part=3;decide)
 |fo=>exact absurd hk (by show ¬cP .fo=3;decide)
 |forget=>exact absurd hk (by show ¬cP .forget=3;decide)
theorem qF{d:Wd}(h:cP d=2\/cP d=3):∀args w,(callFunc (oz d) args).run nH w=.ok (.enter (oz d) args) w:=by cases d<;>first|exact absurd h nU|(intro args w;simp[oz,go_sem];done)
theorem RC{t:aV}{c:eH}(h:cP c.w=2):nt t c=lT (eR t c).2 (Lib.itoa (eR t c).1):=by unfold nt;rw[if_neg nQ]
theorem Lo(r:aR)(t:aV)(hv:aG t=true)(c:eH)(v:nK)(B:Nat)(w:nJ)(hT:aI B w r t)[hB:Le B w][h8:Le 8 w](hL:cX w)(hC:jd w v c):Calls nH 299 #[v,aX r t] w fun e w'=>e=.returned (.string (str (nt t c)))/\∃δ,w'=af w δ:=by
 obtain⟨hk,hl,hc⟩:=hC;have H:=qh hT;have HL:=qh hL;have Jw:=qh (RC (t:=t) hk);have HB:=qh (Iq hv c);rcases hc with⟨hne,rfl⟩|⟨he,ga,A,cap,rfl,b1,hS⟩
 ·have hent:=qF (.inl hk);have HQ:Hid (∀W:nJ,aI B W r t->Le B W->Calls nH (oz c.w) #[aX r t] W (dV (eR t c) W)):=qh fun W h1 h2=>RU c hk hne r t hv B W h1;obtain⟨fid,sK⟩:∃f,oz c.w=f:=⟨_,rfl⟩;rw[sK] at hent HQ ⊢;obtain⟨x,er,hx⟩:∃x e,eR t c=(x,e):=⟨_,_,rfl⟩;rw[hx] at HQ Jw HB;obtain⟨tx,fM⟩:∃s,Lib.itoa x=s:=⟨_,rfl⟩;simp only[fM] at Jw;have Js:=qh fM;have ku:-9223372036854775808<=x/\x<=9223372036854775807:=by have:=HB.out;simp only[] at this;omega
  unfold dV at HQ;clear hT hL hv hk hl hne sK hx fM HB;go_enter Tryz.func299,Tryz.ntmps299;go_upto_region 1 with fail;refine QEH ?_;intro W1 aE cz de;obtain⟨cN,cY,dc,dX,jP⟩:=yj 8 w aE;refine QDN ?_;intro A1;clear aE;go_wp2_with (first|(refine aj ak rfl _ rfl rfl A1.out rfl ?_)|(go_at_call 74;refine(uY x tx Js.out ku.1 ku.2 _ HL.out.SP.up).mono ?_;rintro e w1 ⟨rfl,δ2,rfl⟩)|(go_at_call 300;refine(AQ er tx _).mono ?_;rintro e w1 ⟨rfl,δ3,rfl⟩)|(refine(HQ.out _ H.out.up inferInstance).mono ?_;rintro e w1 ⟨rfl,δ1,rfl⟩));go_ret;exact⟨by rw[Jw.out];rfl,ag⟩
 ·obtain⟨d,a⟩:=c;obtain rfl:d=.early:=he;obtain⟨dy,rfl⟩:∃y,a=[y]:=by
   match a,hl with
   |[y],_=>exact⟨y,rfl⟩
  have HQ:Hid (∀W:nJ,aC w.heap.size w W->Le w.heap.size W->aI B W r t->Le B W->Calls nH 109 #[aX r t,.pointer (some ⟨ga,0,none⟩)] W (dV (eR t ⟨.early,[dy]⟩) W)):=qh fun W i1 i2 h1 h2=>IS r t hv dy ga A cap B W h1 b1.eA (hS.wide (w':=W)).plain;obtain⟨x,er,hx⟩:∃x e,eR t ⟨.early,[dy]⟩=(x,e):=⟨_,_,rfl⟩;rw[hx] at HQ Jw HB;obtain⟨tx,fM⟩:∃s,Lib.itoa x=s:=⟨_,rfl⟩;simp only[fM] at Jw;have Js:=qh fM;have ku:-9223372036854775808<=x/\x<=9223372036854775807:=by have:=HB.out;simp only[] at this;omega
  unfold dV at HQ;clear hT hL hv hk hl hx fM HB b1 hS;go_enter Tryz.func299,Tryz.ntmps299;go_upto_region 1 with fail;refine aK fun W1 aE=>?_;have GH:Le B W1:=fR aE;have Jc:aC B w W1:=iC aE;obtain⟨sJ,uX,uW,tZ,tY⟩:=yj 8 w aE;refine QDN ?_;intro A1;clear aE;go_wp2_with (first|(refine aj ak rfl _ rfl rfl A1.out rfl ?_)|(go_at_call 74;refine(uY x tx Js.out ku.1 ku.2 _ HL.out.SP.up).mono ?_;rintro e w1 ⟨rfl,δ2,rfl⟩)|(go_at_call 300;refine(AQ er tx _).mono ?_;rintro e w1 ⟨rfl,δ3,rfl⟩)|(go_at_call 109;refine(HQ.out _ inferInstance inferInstance H.out.up inferInstance).mono ?_;rintro e w1 ⟨rfl,δ1,rfl⟩));go_ret;exact⟨by rw[Jw.out];rfl,ag⟩
end
section
open Hd
theorem RD{t:aV}{c:eH}(h:cP c.w=3):nt t c=lT (pU t c).2 (o6 (pU t c).1):=by unfold nt;rw[if_pos h]
theorem Bu:∀l:List Int,Lib.join (l.map Lib.itoa) [32]=iu l
 |[]=>rfl
 |[x]=>by simp[Lib.join,iu,List.intercalate]
 |x::y::r=>by have:=Bu (y::r);simp only[List.map_cons,Lib.join,List.intercalate,List.intersperse] at this ⊢;unfold iu;rw[<-this];simp
theorem TA(l:List Int)(hf:PM l)(h0:0<l.length)(A:Option Addr)(cap ln:Nat)(hn:l.length=ln)(B:Nat)(w:nJ)(hS:Sl cm B w A cap (l.map Lib.itoa))[hB:Le B w]:Calls nH 302 #[.slice A ln cap,.string ⟨#[32]⟩] w fun e w'=>e=.returned (.string (str (iu l)))/\∃δ,w'=af w δ:=by
 subst hn;obtain⟨b,o,rfl,hb,_⟩:=hS.lQ (k:=0) (by rw[List.length_map];exact h0);have hlen:(iu l).length<=1000:=nT (by have:=rC (l:=l) hf.2;have:=hf.1;omega) (by decide:18<=1000);have hd:((l.map fun x=>str (Lib.itoa x)).map (·.data.toList))=l.map Lib.itoa:=by rw[List.map_map];exact List.map_congr_left fun x _=>by simp[str]
 have h:=Tryz.strings_Join b o cap (l.map fun x=>str (Lib.itoa x)) ⟨#[32]⟩ w (by
   intro j x hj
   rw[List.getElem?_map] at hj
   obtain⟨y,hy,rfl⟩:=Option.map_eq_some_iff.1 hj
   have hjl:j<l.length:=(List.getElem?_eq_some_iff.1 hy).1
   obtain⟨b',o',e,_,d⟩:=hS.lQ (k:=j) (by rw[List.length_map];exact hjl)
   injection e with e
   injection e with e1 e2
   subst e1;subst e2
   rw[d,iq _ _ hjl]
   rw[bV _ hjl,(List.getElem?_eq_some_iff.1 hy).2]) (nL hb hB.out) (by rw[List.length_map];have:=hf.1;omega) (by rw[List.length_map];have:=hS.1;rwa [List.length_map] at this)
  (by rw[hd,show(⟨#[32]⟩:ByteArray).data.toList=[32] from rfl,Bu];omega)
 rw[List.length_map,hd,show(⟨#[32]⟩:ByteArray).data.toList=[32] from rfl,Bu] at h;refine h.mono ?_;rintro e w1 ⟨rfl,hb⟩;exact⟨rfl,tV hb⟩
theorem Nq(r:aR)(t:aV)(hv:aG t=true)(c:eH)(hk:cP c.w=3)(B:Nat)(w:nJ)(hT:aI B w r t)[hB:Le B w][h8:Le 8 w](hL:cX w):Calls nH 301 #[.func (.func (oz c.w)) #[] #[],aX r t] w fun e w'=>e=.returned (.string (str (nt t c)))/\∃δ,w'=af w δ:=by
 have H:=qh hT;have HL:=qh hL;have Jw:=qh (RD (t:=t) hk);have HF:=qh (BK hv c);have hent:=qF (.inr hk);have HQ:Hid (∀W:nJ,aI B W r t->Le B W->Calls nH (oz c.w) #[aX r t] W (kO (pU t c) W)):=qh fun W h1 h2=>Vj c hk r t hv B W h1;obtain⟨fid,sK⟩:∃f,oz c.w=f:=⟨_,rfl⟩;rw[sK] at hent HQ ⊢;obtain⟨l,er,hx⟩:∃x e,pU t c=(x,e):=⟨_,_,rfl⟩;rw[hx] at HQ Jw HF;simp only[] at Jw HF;have h6:=HF.out.1;unfold kO at HQ;clear hT hL hv hk sK hx;go_enter Tryz.func301,Tryz.ntmps301;go_upto_region 1 with fail;refine QEH ?_;intro W1 aE cz de;obtain⟨cN,cY,dc,dX,jP⟩:=yj 8 w aE;refine QDN ?_;intro A1;clear aE;by_cases h0:l.length=0
 ·have gV:Hid (o6 l=sZ):=qh (by unfold o6;rw[if_pos (List.length_eq_zero_iff.1 h0)]);have h0b:((l.length:Int)==0)=true:=by simp[h0]
  have h0i:(l.length:Int)=0:=nQ;rw[gV.out] at Jw;obtain⟨ll,QZ⟩:∃n,l.length=n:=⟨_,rfl⟩;rw[QZ] at h0b h0i;have SC:=qh QZ;clear h0 QZ h6;go_wp2_with (first|(refine aj ak rfl _ rfl rfl A1.out rfl ?_)|(go_at_call 300;refine(AQ er sZ _).mono ?_;rintro e w1 ⟨rfl,δ3,rfl⟩)|(refine(HQ.out _ H.out.up inferInstance).mono ?_;rintro e w1 ⟨A2,n2,c2,δ1,rfl,hn,rfl,_⟩;obtain rfl:n2=ll:=hn.trans SC.out));go_ret;exact⟨by rw[Jw.out];rfl,ag⟩
 ·have gV:Hid (o6 l=iu l):=qh (by unfold o6;rw[if_neg (fun e=>h0 (by rw[e];rfl))]);have h0b:((l.length:Int)==0)=false:=beq_eq_false_iff_ne.2 nQ;have h0i:¬(l.length:Int)=0:=nQ;have h0n:0<l.length:=nQ;rw[gV.out] at Jw;clear h0;go_upto_region 6 with(first|(refine aj ak rfl _ rfl rfl A1.out rfl ?_)|(refine(HQ.out _ H.out.up inferInstance).mono ?_;rintro e w1 ⟨A2,n2,c2,δ1,rfl,rfl,rfl,hs⟩;have HS:=qh hs;clear hs));refine aK fun W2 eu=>?_;have a1:aC w.heap.size w W2:=iC eu;have a2:Le w.heap.size W2:=fR eu;have a3:aC 8 w W2:=iC eu;have a4:Le 8 W2:=fR eu;have zw:Hid (Sl aH W2.heap.size W2 A2 c2 l):=by rw[eu.out];exact HS
  clear eu HS;go_loopg [7,23] l.length (fun gn s7 s23 wr=>∃(j:Nat) (Ao:Option Addr) (co:Nat),j<=l.length/\gn=l.length-j/\s7=.slice Ao j co/\s23=.int .i64 j/\Hid (wr.ownsRow W2.heap.size 9 1 (.slice Ao j co) j (((l.map Lib.itoa).take j).flatMap cm))/\aC W2.heap.size W2 wr/\Le W2.heap.size wr)
  case atStart=>exact⟨0,none,0,nE _,rfl,rfl,rfl,qh (World.ownsRow_nil _ _ _ _),inferInstance,⟨nR _⟩⟩
  case round=>
   obtain⟨j,Ao,co,hj,rfl,rfl,rfl,HO,i1,i2⟩:=hrel;have b1:aC 8 w wr:=⟨⟨i1.out.1.trans a3.out.1,i1.out.2.1.trans a3.out.2.1,i1.out.2.2.1.trans a3.out.2.2.1,fun b hb=>(i1.out.2.2.2 b (nL hb a4.out)).trans (a3.out.2.2.2 b hb)⟩⟩;have b2:Le 8 wr:=⟨nT a4.out i2.out⟩;by_cases hlt:j<l.length
   ·have hji:(j:Int)<(l.length:Int):=nQ;have hj0:¬(j:Int)<0:=nQ;obtain⟨sb,so,rfl,ER,e0⟩:=(zw.out.up (w':=wr)).int hlt;have isb:Lt sb wr:=⟨nL ER i2.out⟩;have TF:=HF.out.2 _ (aS l hlt);have HK:Hid (((l.map Lib.itoa).take (j+1)).flatMap cm=((l.map Lib.itoa).take j).flatMap cm++[.string (str (Lib.itoa (nth l j)))]):=by unfold Hid;rw[bu _ (by rw[List.length_map];exact hlt),List.flatMap_append,iq _ _ hlt];rfl
    obtain⟨x,hx⟩:∃x,nth l j=x:=⟨_,rfl⟩;rw[hx] at e0 TF HK;obtain⟨tx,fM⟩:∃s,Lib.itoa x=s:=⟨_,rfl⟩;rw[fM] at HK;have Js:=qh fM;have ku:-9223372036854775808<=x/\x<=9223372036854775807:=nQ;clear ER hx fM TF;go_wp2_with (first|(go_at_call 74;refine(uY x tx Js.out ku.1 ku.2 _ HL.out.SP.up).mono ?_;rintro e w1 ⟨rfl,δ2,rfl⟩)|(at_builtin;(refine bK W2 RS (.tmp 27) (.tmp 30) rfl rfl (aT HO.out) rfl rfl nW rfl (by simp[Value.oneCell']) nQ nQ ?_);intro A3 c3 δ3 jB qj));go_roundg (l.length-(j+1))
    case measure=>omega
    case rel=>refine⟨j+1,A3,c3,nQ,rfl,rfl,by go_num,?_,inferInstance,inferInstance⟩;rw[HK.out];exact qh jB
   ·obtain rfl:j=l.length:=by omega
    have hjn:¬((l.length:Int)<(l.length:Int)):=nQ;have wg:Hid (Sl cm wr.heap.size wr Ao co (l.map Lib.itoa)):=by
     have:=HO.out;rw[List.take_of_length_le (by rw[List.length_map];exact nR _)] at this;have h2:wr.ownsRow W2.heap.size 9 1 (.slice Ao (l.map Lib.itoa).length co) (l.map Lib.itoa).length ((l.map Lib.itoa).flatMap cm):=by rw[List.length_map];exact this
     exact qh (Sl.bW h2)
    have c1:aC w.heap.size w wr:=⟨⟨i1.out.1.trans a1.out.1,i1.out.2.1.trans a1.out.2.1,i1.out.2.2.1.trans a1.out.2.2.1,fun b hb=>(i1.out.2.2.2 b (nL hb a2.out)).trans (a1.out.2.2.2 b hb)⟩⟩;have c2:Le w.heap.size wr:=⟨nT a2.out i2.out⟩;have lr:Le wr.heap.size wr:=⟨nR _⟩;clear HO;go_wp2_with (first|(go_at_call 302;refine(TA l HF.out h0n Ao co _ rfl wr.heap.size _ wg.out).mono ?_;rintro e w1 ⟨rfl,δ3,rfl⟩)|(go_at_call 300;refine(AQ er (iu l) _).mono ?_;rintro e w1 ⟨rfl,δ4,rfl⟩));go_ret;exact⟨by rw[Jw.out];rfl,ag⟩
end
section
open Hd
def vL(o:Option eH):Bool:=match o with|some c=>decide (cP c.w=2\/cP c.w=3)|none=>false
def ki(o:Option eH)(w:nJ)(e:Ending)(w':nJ):Prop:=
 ∃(v:nK) (δ:nJ),e=.returned (.tuple #[v,.bool (vL o)])/\w'=af w δ/\(vL o=false->v=.nilIface) /\
  (∀c,o=some c->cP c.w=2->∃u,v=.iface 187 u/\jd (af w δ) u c)/\(∀c,o=some c->cP c.w=3->v=.iface 193 (.func (.func (oz c.w)) #[] #[]))
theorem CT{o:Option eH}{w W:nJ}(h:vL o=false)(hl:∃δ,W=af w δ):ki o w (.returned (.tuple #[.nilIface,.bool false])) W:=by
 obtain⟨δ,rfl⟩:=hl;refine⟨_,δ,by rw[h],rfl,fun _=>rfl,fun c hc hk=>?_,fun c hc hk=>?_⟩
 ·subst hc;unfold vL at h;simp[hk] at h
 ·subst hc;unfold vL at h;simp[hk] at h
theorem Mr{o:Option eH}{c:eH}{u:nK}{w W:nJ}(h:o=some c)(hk:cP c.w=2)[aC w.heap.size w W][Le w.heap.size W](hu:jd W u c):ki o w (.returned (.tuple #[.iface 187 u,.bool true])) W:=by
 subst h;have hq:vL (some c)=true:=by simp[vL,hk]
 refine⟨_,W,by rw[hq],aq,fun h=>(by rw[hq] at h;cases h),fun c' hc hk'=>?_,fun c' hc hk'=>?_⟩
 ·injection hc with hc;subst hc;exact⟨u,rfl,by rw[<-aq (w:=w)];exact hu⟩
 ·injection hc with hc;subst hc;omega
theorem S0{o:Option eH}{c:eH}{w W:nJ}(h:o=some c)(hk:cP c.w=3)(hl:∃δ,W=af w δ):ki o w (.returned (.tuple #[.iface 193 (.func (.func (oz c.w)) #[] #[]),.bool true])) W:=by
 subst h;obtain⟨δ,rfl⟩:=hl;have hq:vL (some c)=true:=by simp[vL,hk]
 refine⟨_,δ,by rw[hq],rfl,fun h=>(by rw[hq] at h;cases h),fun c' hc hk'=>?_,fun c' hc hk'=>?_⟩
 ·injection hc with hc;subst hc;omega
 ·injection hc with hc;subst hc;rfl
theorem qE(ws:List bL)(A:Option Addr)(cap:Nat)(h0:0<ws.length)(hl:∀x∈ws,x.length<=1000)(hn:ws.length<=1001)(B:Nat)(w:nJ)(hS:Sl cm B w A cap ws)[hB:Le B w][h8:Le 8 w](hL:cX w):Calls nH 67 #[.slice A ws.length cap] w (ki (bJ ws) w):=by
 obtain⟨b,o,rfl,hb,e0⟩:=hS.lQ h0;have HS:=qh hS;have HL:=qh hL;have mG:=qh hl;have hcap:ws.length<=cap:=hS.1;refine QFE ?_;intro A2 uo;have zw:Hid (Sl cm B w A2 (cap-1) (ws.drop 1)):=by have:=hS.drop gK 1 nQ;rw[<-uo];exact qh (by simpa [Addr.add_lit] using this)
 refine QBQ ?_;intro Si hn2 Sh Sg QY HD SG X7 ie;unfold nj at ie;have PK:=qh (Em h0);obtain⟨wd,TG⟩:∃x,mh (nth ws 0)=x:=⟨_,rfl⟩;have F:=cM (nth ws 0) wd TG;obtain⟨t0,ht0⟩:∃x,nth ws 0=x:=⟨_,rfl⟩;rw[ht0] at e0 F;rw[TG] at PK;have ib:Lt b w:=⟨nL hb hB.out⟩;have e0:w.cell? ⟨b,o,none⟩=some (.string (str t0)):=e0;clear hS hL hl h0 hb TG ht0 hcap;obtain⟨f0,f1,f2,f3,f4,f5,f6,f7,f8,f9,f10,f11,f12,f13,f14,f15,f16,f17,f18,f19⟩:=F;cases ho:cS (ws.drop 1) with
 |none=>
  have HN:Hid (vL (bJ ws)=false):=by unfold Hid;rw[PK.out,ho];cases wd<;>rfl
  rw[ho] at ie
  clear ho f0 f1 f2 f3 f4 f5 f6 f7 f8 f9 f10 f11 f12 f13 f14 f15 f16 f17 f18 f19
  go_enter Tryz.func67,Tryz.ntmps67
  go_wp2_with (go_at_call 69;refine(ie.out _ inferInstance inferInstance inferInstance HL.out.up).mono ?_;rintro e w1 ⟨A3,c3,δ2,rfl,rfl,_⟩)
  go_ret2
  exact CT HN.out ag
 |some a=>
  rw[ho] at ie
  have Pp:Hid (bJ ws=wd.bind fun d=>if a.length=rZ d then some ⟨d,a⟩ else none):=by unfold Hid;rw[PK.out,ho];rfl
  clear ho PK
  by_cases KT:a.length=0
  ·obtain rfl:a=[]:=List.length_eq_zero_iff.1 KT;clear KT;rcases wd with _|d
   ·simp only[reduceCtorEq,decide_false] at f0 f1 f2 f3 f4 f5 f6 f7 f8 f9 f10 f11 f12 f13 f14 f15 f16 f17 f18 f19;have HN:Hid (vL (bJ ws)=false):=by unfold Hid;rw[Pp.out];rfl
    clear Pp;go_enter Tryz.func67,Tryz.ntmps67;go_wp2_with (go_at_call 69;refine(ie.out _ inferInstance inferInstance inferInstance HL.out.up).mono ?_;rintro e w1 ⟨A3,c3,δ2,rfl,rfl,_⟩);go_ret2;exact CT HN.out ag
   ·cases d;all_goals
     simp only[Option.some.injEq,reduceCtorEq,decide_false,decide_true] at f0 f1 f2 f3 f4 f5 f6 f7 f8 f9 f10 f11 f12 f13 f14 f15 f16 f17 f18 f19;go_enter Tryz.func67,Tryz.ntmps67;go_wp2_with (go_at_call 69;refine(ie.out _ inferInstance inferInstance inferInstance HL.out.up).mono ?_;rintro e w1 ⟨A3,c3,δ2,rfl,rfl,_⟩);go_ret2;first
      |exact Mr (Pp.out.trans rfl) rfl ⟨rfl,rfl,.inl ⟨nU,rfl⟩⟩
      |exact S0 (Pp.out.trans rfl) rfl ag
      |exact CT (by rw[Pp.out];rfl) ag
  ·have VN:(0:Int)<(a.length:Int):=nQ;have QV:0<a.length:=nQ;clear f0 f1 f2 f3 f4 f5 f6 f7 f8 f9 f10 f11 f12 f13 f14 f16 f17 f18 f19;by_cases he:wd=some .early
   ·rw[decide_eq_true he] at f15;by_cases UT:a.length=1
    ·obtain⟨x,rfl⟩:∃x,a=[x]:=by
      match a,UT with
      |[x],_=>exact⟨x,rfl⟩
     have HC:Hid (bJ ws=some ⟨.early,[x]⟩):=by unfold Hid;rw[Pp.out,he];rfl
     clear UT he Pp KT VN QV;go_enter Tryz.func67,Tryz.ntmps67;go_wp2_with (go_at_call 69;refine(ie.out _ inferInstance inferInstance inferInstance HL.out.up).mono ?_;rintro e w1 ⟨A3,c3,δ2,rfl,rfl,ya⟩;have si:=qh ya;clear ya);go_ret2;exact Mr HC.out rfl ⟨rfl,rfl,.inr ⟨rfl,_,A3,c3,rfl,av.new rfl,si.out.wide⟩⟩
    ·have HN:Hid (vL (bJ ws)=false):=by unfold Hid;rw[Pp.out,he];show vL (if a.length=rZ .early then some ⟨.early,a⟩ else none)=false;rw[if_neg (show ¬a.length=rZ .early from UT)];rfl
     have acD:((a.length:Int)==1)=false:=beq_eq_false_iff_ne.2 nQ;have acC:(a.length==1)=false:=beq_eq_false_iff_ne.2 UT;clear UT he Pp KT;go_enter Tryz.func67,Tryz.ntmps67;go_wp2_with (go_at_call 69;refine(ie.out _ inferInstance inferInstance inferInstance HL.out.up).mono ?_;rintro e w1 ⟨A3,c3,δ2,rfl,rfl,_⟩);go_ret2;exact CT HN.out ag
   ·rw[decide_eq_false he] at f15;have HN:Hid (vL (bJ ws)=false):=by
     unfold Hid;rw[Pp.out];cases wd with
     |none=>rfl
     |some d=>
      show vL (if a.length=rZ d then some ⟨d,a⟩ else none)=false
      by_cases hd:a.length=rZ d
      ·rw[if_pos hd];cases d<;>first|rfl|exact absurd hd KT|exact absurd rfl he
      ·rw[if_neg hd];rfl
    clear he Pp KT;go_enter Tryz.func67,Tryz.ntmps67;go_wp2_with (go_at_call 69;refine(ie.out _ inferInstance inferInstance inferInstance HL.out.up).mono ?_;rintro e w1 ⟨A3,c3,δ2,rfl,rfl,_⟩);go_ret2;exact CT HN.out ag
end
end Go.Proofs.YtcjjlikhlmfedaaGreatDoor
