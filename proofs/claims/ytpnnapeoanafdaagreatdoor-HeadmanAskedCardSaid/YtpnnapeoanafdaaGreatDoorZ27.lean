/- A part of the proof that a law of layer 12 holds, cut small by a program (names and blanks): Hp14, Hp15, Hp16. -/
import Derived.Test.YtpnnapeoanafdaaGreatDoorZ26
set_option maxRecDepth 100000
set_option maxHeartbeats 40000000
set_option linter.unusedVariables false
set_option linter.unusedSimpArgs false
namespace Go.Proofs.YtpnnapeoanafdaaGreatDoor
open Go.RowKit
open Nat renaming le_trans → nT, lt_of_lt_of_le → nL, le_refl → nR, zero_le → nE
open Go.Proofs.Tryz renaming prog → nH
open Go renaming World → nJ, Value → nK
section
open Hd
def p6:Wd->Nat
 |.safe=>191
 |.gr=>192
 |.jl=>193
 |.done=>194
 |.fV=>195
 |.yB=>196
 |.nD=>197
 |.order=>198
 |_=>199
def jM(w:nJ)(v:nK)(c:eB):Prop:=cg c.w=2/\c.a.length=tS c.w /\
 ((c.w≠.early/\v=.func (.func (p6 c.w)) #[] #[])\/(c.w=.early/\∃(ga:Nat) (A:Option Addr) (cap:Nat),v=.func (.func 190) #[] #[.pointer (some ⟨ga,0,none⟩)]/\ay w ga 35 #[.slice A 1 cap]/\fN 3 aI w.heap.size w A cap c.a))
theorem jM.up{w W:nJ}{v:nK}{c:eB}(h:jM w v c)[hg:aD w.heap.size w W][hl:Le w.heap.size W]:jM W v c:=by
 obtain⟨h1,h2,h|⟨h3,ga,A,cap,h4,h5,h6⟩⟩:=h
 ·exact⟨h1,h2,.inl h⟩
 ·exact⟨h1,h2,.inr ⟨h3,ga,A,cap,h4,h5.eO,h6.wide⟩⟩
theorem jM.aV{w W:nJ}{v:nK}{c:eB}{g:Nat}{T:TypeId}{cs:Array nK}(h:jM w v c)(k:bI (fun x=>x=g) w W)(hb:ay w g T cs)(t2:T≠35)(t3:T≠3):jM W v c:=by
 obtain⟨h1,h2,h|⟨h3,ga,A,cap,h4,h5,h6⟩⟩:=h
 ·exact⟨h1,h2,.inl h⟩
 ·exact⟨h1,h2,.inr ⟨h3,ga,A,cap,h4,h5.vX k hb t2,h6.aV k hb t3 (nR _)⟩⟩
theorem WC(c:eB)(hk:cg c.w=2)(hne:c.w≠.early)(r:aW)(t:aO)(hv:aE t=true)(B:Nat)(w:nJ)(hT:aN B w r t)[hB:Le B w]:Calls nH (p6 c.w) #[aY r t] w (eC (ew t c) w):=by
 obtain⟨d,a⟩:=c;cases d with
 |safe=>exact XP r t hv a B w hT
 |gr=>exact UO r t hv a B w hT
 |jl=>exact XS r t hv a B w hT
 |done=>exact XT r t hv a B w hT
 |fV=>exact XO r t hv a B w hT
 |yB=>exact aai r t hv a B w hT
 |early=>exact absurd rfl hne
 |aP=>exact absurd hk (by show ¬cg .aP=2;decide)
 |current=>exact absurd hk (by show ¬cg .current=2;decide)
 |gJ=>exact absurd hk (by show ¬cg .gJ=2;decide)
 |af=>exact absurd hk (by show ¬cg .af=2;decide)
 |mV=>exact absurd hk (by show ¬cg .mV=2;decide)
 |dY=>exact absurd hk (by show ¬cg .dY=2;decide)
 |eE=>exact absurd hk (by show ¬cg .eE=2;decide)
 |part=>exact absurd hk (by show ¬cg .part=2;decide)
 |fG=>exact absurd hk (by show ¬cg .fG=2;decide)
 |nD=>exact absurd hk (by show ¬cg .nD=2;decide)
 |order=>exact absurd hk (by show ¬cg .order=2;decide)
 |pack=>exact absurd hk (by show ¬cg .pack=2;decide)
 |forget=>exact absurd hk (by show ¬cg .forget=2;decide)
theorem aah(c:eB)(hk:cg c.w=3)(r:aW)(t:aO)(hv:aE t=true)(B:Nat)(w:nJ)(hT:aN B w r t)[hB:Le B w]:Calls nH (p6 c.w) #[aY r t] w (mS (lP t c) w):=by
 obtain⟨d,a⟩:=c;cases d with
 |nD=>exact XR r t hv a B w hT
 |order=>exact UP r t hv a B w hT
 |pack=>exact XQ r t hv a B w hT
 |safe=>exact absurd hk (by show ¬cg .safe=3;decide)
 |gr=>exact absurd hk (by show ¬cg .gr=3;decide)
 |jl=>exact absurd hk (by show ¬cg .jl=3;decide)
 |done=>exact absurd hk (by show ¬cg .done=3;decide)
 |fV=>exact absurd hk (by show ¬cg .fV=3;decide)
 |yB=>exact absurd hk (by show ¬cg .yB=3;decide)
 |early=>exact absurd hk (by show ¬cg .early=3;decide)
 |aP=>exact absurd hk (by show ¬cg .aP=3;decide)
 |current=>exact absurd hk (by show ¬cg .current=3;decide)
 |gJ=>exact absurd hk (by show ¬cg .gJ=3;decide)
 |af=>exact absurd hk (by show ¬cg .af=3;decide)
 |mV=>exact absurd hk (by show ¬cg .mV=3;decide)
 |dY=>exact absurd hk (by show ¬cg .dY=3;decide)
 |eE=>exact absurd hk (by show ¬cg .eE=3;decide)
 |part=>exact absurd hk (by show ¬cg .part=3;decide)
 |fG=>exact absurd hk (by show ¬cg .fG=3;decide)
 |forget=>exact absurd hk (by show ¬cg .forget=3;decide)
theorem sI{d:Wd}(h:cg d=2\/cg d=3):∀args w,(callFunc (p6 d) args).run nH w=.ok (.enter (p6 d) args) w:=by cases d<;>first|exact absurd h nU|(intro args w;simp[p6,go_sem];done)
theorem Wn{t:aO}{c:eB}(h:cg c.w=2):fY t c=mB (ew t c).2 (Lib.itoa (ew t c).1):=by unfold fY;rw[if_neg nQ]
theorem PT(r:aW)(t:aO)(hv:aE t=true)(c:eB)(v:nK)(B:Nat)(w:nJ)(hT:aN B w r t)[hB:Le B w][h8:Le 8 w](hL:cT w)(hC:jM w v c):Calls nH 316 #[v,aY r t] w fun e w'=>e=.returned (.string (str (fY t c)))/\∃δ,w'=ah w δ:=by
 obtain⟨hk,hl,hc⟩:=hC;have H:=qh hT;have HL:=qh hL;have No:=qh (Wn (t:=t) hk);have HB:=qh (L4 hv c);rcases hc with⟨hne,rfl⟩|⟨he,ga,A,cap,rfl,b1,hS⟩
 ·have hent:=sI (.inl hk);have HQ:Hid (∀W:nJ,aN B W r t->Le B W->Calls nH (p6 c.w) #[aY r t] W (eC (ew t c) W)):=qh fun W h1 h2=>WC c hk hne r t hv B W h1;obtain⟨fid,uP⟩:∃f,p6 c.w=f:=⟨_,rfl⟩;rw[uP] at hent HQ ⊢;obtain⟨x,er,hx⟩:∃x e,ew t c=(x,e):=⟨_,_,rfl⟩;rw[hx] at HQ No HB;obtain⟨tx,fW⟩:∃s,Lib.itoa x=s:=⟨_,rfl⟩;simp only[fW] at No;have Nk:=qh fW;have kS:-9223372036854775808<=x/\x<=9223372036854775807:=by have:=HB.out;simp only[] at this;omega
  unfold eC at HQ;clear hT hL hv hk hl hne uP hx fW HB;go_enter Tryz.func316,Tryz.ntmps316;go_upto_region 1 with fail;refine QBT ?_;intro W1 aH cJ dF cW di dz eL jG;refine QDJ ?_;intro A1;clear aH;go_wp2_with (first|(refine au aq rfl _ rfl rfl A1.out rfl ?_)|(go_at_call 137;refine(xA x tx Nk.out kS.1 kS.2 _ HL.out.Xx.up).mono ?_;rintro e w1 ⟨rfl,δ2,rfl⟩)|(go_at_call 317;refine(DM er tx _).mono ?_;rintro e w1 ⟨rfl,δ3,rfl⟩)|(refine(HQ.out _ H.out.up inferInstance).mono ?_;rintro e w1 ⟨rfl,δ1,rfl⟩));go_ret;exact⟨by rw[No.out];rfl,ag⟩
 ·obtain⟨d,a⟩:=c;obtain rfl:d=.early:=he;obtain⟨dy,rfl⟩:∃y,a=[y]:=by
   match a,hl with
   |[y],_=>exact⟨y,rfl⟩
  have HQ:Hid (∀W:nJ,aD w.heap.size w W->Le w.heap.size W->aN B W r t->Le B W->Calls nH 190 #[aY r t,.pointer (some ⟨ga,0,none⟩)] W (eC (ew t ⟨.early,[dy]⟩) W)):=qh fun W i1 i2 h1 h2=>Mx r t hv dy ga A cap B W h1 b1.eO (hS.wide (w':=W)).plain;obtain⟨x,er,hx⟩:∃x e,ew t ⟨.early,[dy]⟩=(x,e):=⟨_,_,rfl⟩;rw[hx] at HQ No HB;obtain⟨tx,fW⟩:∃s,Lib.itoa x=s:=⟨_,rfl⟩;simp only[fW] at No;have Nk:=qh fW;have kS:-9223372036854775808<=x/\x<=9223372036854775807:=by have:=HB.out;simp only[] at this;omega
  unfold eC at HQ;clear hT hL hv hk hl hx fW HB b1 hS;go_enter Tryz.func316,Tryz.ntmps316;go_upto_region 1 with fail;refine aM fun W1 aH=>?_;have Fo:Le B W1:=fI aH;have G9:aD B w W1:=gy aH;obtain⟨su,tZ,tY,sR,tX⟩:=BH 8 w aH;refine QDJ ?_;intro A1;clear aH;go_wp2_with (first|(refine au aq rfl _ rfl rfl A1.out rfl ?_)|(go_at_call 137;refine(xA x tx Nk.out kS.1 kS.2 _ HL.out.Xx.up).mono ?_;rintro e w1 ⟨rfl,δ2,rfl⟩)|(go_at_call 317;refine(DM er tx _).mono ?_;rintro e w1 ⟨rfl,δ3,rfl⟩)|(go_at_call 190;refine(HQ.out _ inferInstance inferInstance H.out.up inferInstance).mono ?_;rintro e w1 ⟨rfl,δ1,rfl⟩));go_ret;exact⟨by rw[No.out];rfl,ag⟩
end
section
open Hd
theorem Wo{t:aO}{c:eB}(h:cg c.w=3):fY t c=mB (lP t c).2 (pP (lP t c).1):=by unfold fY;rw[if_pos h]
theorem Ew:∀l:List Int,Lib.join (l.map Lib.itoa) [32]=gI l
 |[]=>rfl
 |[x]=>by simp[Lib.join,gI,List.intercalate]
 |x::y::r=>by have:=Ew (y::r);simp only[List.map_cons,Lib.join,List.intercalate,List.intersperse] at this ⊢;unfold gI;rw[<-this];simp
theorem Ym(l:List Int)(hf:Uk l)(h0:0<l.length)(A:Option Addr)(cap ln:Nat)(hn:l.length=ln)(B:Nat)(w:nJ)(hS:Sl bS B w A cap (l.map Lib.itoa))[hB:Le B w]:Calls nH 319 #[.slice A ln cap,.string ⟨#[32]⟩] w fun e w'=>e=.returned (.string (str (gI l)))/\∃δ,w'=ah w δ:=by
 subst hn;obtain⟨b,o,rfl,hb,_⟩:=hS.kK (k:=0) (by rw[List.length_map];exact h0);have hlen:(gI l).length<=1000:=nT (by have:=tO (l:=l) hf.2;have:=hf.1;omega) (by decide:18<=1000);have hd:((l.map fun x=>str (Lib.itoa x)).map (·.data.toList))=l.map Lib.itoa:=by rw[List.map_map];exact List.map_congr_left fun x _=>by simp[str]
 have h:=Tryz.strings_Join b o cap (l.map fun x=>str (Lib.itoa x)) ⟨#[32]⟩ w (by
   intro j x hj
   rw[List.getElem?_map] at hj
   obtain⟨y,hy,rfl⟩:=Option.map_eq_some_iff.1 hj
   have hjl:j<l.length:=(List.getElem?_eq_some_iff.1 hy).1
   obtain⟨b',o',e,_,d⟩:=hS.kK (k:=j) (by rw[List.length_map];exact hjl)
   injection e with e
   injection e with e1 e2
   subst e1;subst e2
   rw[d,iK _ _ hjl]
   rw[bN _ hjl,(List.getElem?_eq_some_iff.1 hy).2]) (nL hb hB.out) (by rw[List.length_map];have:=hf.1;omega) (by rw[List.length_map];have:=hS.1;rwa [List.length_map] at this)
  (by rw[hd,show(⟨#[32]⟩:ByteArray).data.toList=[32] from rfl,Ew];omega)
 rw[List.length_map,hd,show(⟨#[32]⟩:ByteArray).data.toList=[32] from rfl,Ew] at h;refine h.mono ?_;rintro e w1 ⟨rfl,hb⟩;exact⟨rfl,vV hb⟩
theorem RY(r:aW)(t:aO)(hv:aE t=true)(c:eB)(hk:cg c.w=3)(B:Nat)(w:nJ)(hT:aN B w r t)[hB:Le B w][h8:Le 8 w](hL:cT w):Calls nH 318 #[.func (.func (p6 c.w)) #[] #[],aY r t] w fun e w'=>e=.returned (.string (str (fY t c)))/\∃δ,w'=ah w δ:=by
 have H:=qh hT;have HL:=qh hL;have No:=qh (Wo (t:=t) hk);have HF:=qh (EN hv c);have hent:=sI (.inr hk);have HQ:Hid (∀W:nJ,aN B W r t->Le B W->Calls nH (p6 c.w) #[aY r t] W (mS (lP t c) W)):=qh fun W h1 h2=>aah c hk r t hv B W h1;obtain⟨fid,uP⟩:∃f,p6 c.w=f:=⟨_,rfl⟩;rw[uP] at hent HQ ⊢;obtain⟨l,er,hx⟩:∃x e,lP t c=(x,e):=⟨_,_,rfl⟩;rw[hx] at HQ No HF;simp only[] at No HF;have h6:=HF.out.1;unfold mS at HQ;clear hT hL hv hk uP hx;go_enter Tryz.func318,Tryz.ntmps318;go_upto_region 1 with fail;refine QBT ?_;intro W1 aH cJ dF cW di dz eL jG;refine QDJ ?_;intro A1;clear aH;by_cases h0:l.length=0
 ·have iZ:Hid (pP l=vj):=qh (by unfold pP;rw[if_pos (List.length_eq_zero_iff.1 h0)]);have h0b:((l.length:Int)==0)=true:=by simp[h0]
  have h0i:(l.length:Int)=0:=nQ;rw[iZ.out] at No;obtain⟨ll,VI⟩:∃n,l.length=n:=⟨_,rfl⟩;rw[VI] at h0b h0i;have Xh:=qh VI;clear h0 VI h6;go_wp2_with (first|(refine au aq rfl _ rfl rfl A1.out rfl ?_)|(go_at_call 317;refine(DM er vj _).mono ?_;rintro e w1 ⟨rfl,δ3,rfl⟩)|(refine(HQ.out _ H.out.up inferInstance).mono ?_;rintro e w1 ⟨A2,n2,c2,δ1,rfl,hn,rfl,_⟩;obtain rfl:n2=ll:=hn.trans Xh.out));go_ret;exact⟨by rw[No.out];rfl,ag⟩
 ·have iZ:Hid (pP l=gI l):=qh (by unfold pP;rw[if_neg (fun e=>h0 (by rw[e];rfl))]);have h0b:((l.length:Int)==0)=false:=beq_eq_false_iff_ne.2 nQ;have h0i:¬(l.length:Int)=0:=nQ;have h0n:0<l.length:=nQ;rw[iZ.out] at No;clear h0;go_upto_region 6 with(first|(refine au aq rfl _ rfl rfl A1.out rfl ?_)|(refine(HQ.out _ H.out.up inferInstance).mono ?_;rintro e w1 ⟨A2,n2,c2,δ1,rfl,rfl,rfl,hs⟩;have HS:=qh hs;clear hs));refine aM fun W2 eJ=>?_;have a1:aD w.heap.size w W2:=gy eJ;have a2:Le w.heap.size W2:=fI eJ;have a3:aD 8 w W2:=gy eJ;have a4:Le 8 W2:=fI eJ;have Cc:Hid (Sl aI W2.heap.size W2 A2 c2 l):=by rw[eJ.out];exact HS
  clear eJ HS;go_loopg [7,23] l.length (fun gn s7 s23 wr=>∃(j:Nat) (Ao:Option Addr) (co:Nat),j<=l.length/\gn=l.length-j/\s7=.slice Ao j co/\s23=.int .i64 j/\Hid (wr.ownsRow W2.heap.size 9 1 (.slice Ao j co) j (((l.map Lib.itoa).take j).flatMap bS))/\aD W2.heap.size W2 wr/\Le W2.heap.size wr)
  case atStart=>exact⟨0,none,0,nE _,rfl,rfl,rfl,qh (World.ownsRow_nil _ _ _ _),inferInstance,⟨nR _⟩⟩
  case round=>
   obtain⟨j,Ao,co,hj,rfl,rfl,rfl,HO,i1,i2⟩:=hrel;have b1:aD 8 w wr:=⟨⟨i1.out.1.trans a3.out.1,i1.out.2.1.trans a3.out.2.1,i1.out.2.2.1.trans a3.out.2.2.1,fun b hb=>(i1.out.2.2.2 b (nL hb a4.out)).trans (a3.out.2.2.2 b hb)⟩⟩;have b2:Le 8 wr:=⟨nT a4.out i2.out⟩;by_cases hlt:j<l.length
   ·have hji:(j:Int)<(l.length:Int):=nQ;have hj0:¬(j:Int)<0:=nQ;obtain⟨sb,so,rfl,EE,e0⟩:=(Cc.out.up (w':=wr)).int hlt;have isb:Lt sb wr:=⟨nL EE i2.out⟩;have Yu:=HF.out.2 _ (aR l hlt);have HK:Hid (((l.map Lib.itoa).take (j+1)).flatMap bS=((l.map Lib.itoa).take j).flatMap bS++[.string (str (Lib.itoa (nth l j)))]):=by unfold Hid;rw[bz _ (by rw[List.length_map];exact hlt),List.flatMap_append,iK _ _ hlt];rfl
    obtain⟨x,hx⟩:∃x,nth l j=x:=⟨_,rfl⟩;rw[hx] at e0 Yu HK;obtain⟨tx,fW⟩:∃s,Lib.itoa x=s:=⟨_,rfl⟩;rw[fW] at HK;have Nk:=qh fW;have kS:-9223372036854775808<=x/\x<=9223372036854775807:=nQ;clear EE hx fW Yu;go_wp2_with (first|(go_at_call 137;refine(xA x tx Nk.out kS.1 kS.2 _ HL.out.Xx.up).mono ?_;rintro e w1 ⟨rfl,δ2,rfl⟩)|(at_builtin;(refine bP W2 Ut (.tmp 27) (.tmp 30) rfl rfl (bu HO.out) rfl rfl nW rfl (by simp[Value.oneCell']) nQ nQ ?_);intro A3 c3 δ3 lK uO));go_roundg (l.length-(j+1))
    case measure=>omega
    case rel=>refine⟨j+1,A3,c3,nQ,rfl,rfl,by go_num,?_,inferInstance,inferInstance⟩;rw[HK.out];exact qh lK
   ·obtain rfl:j=l.length:=by omega
    have hjn:¬((l.length:Int)<(l.length:Int)):=nQ;have xO:Hid (Sl bS wr.heap.size wr Ao co (l.map Lib.itoa)):=by
     have:=HO.out;rw[List.take_of_length_le (by rw[List.length_map];exact nR _)] at this;have h2:wr.ownsRow W2.heap.size 9 1 (.slice Ao (l.map Lib.itoa).length co) (l.map Lib.itoa).length ((l.map Lib.itoa).flatMap bS):=by rw[List.length_map];exact this
     exact qh (Sl.bU h2)
    have c1:aD w.heap.size w wr:=⟨⟨i1.out.1.trans a1.out.1,i1.out.2.1.trans a1.out.2.1,i1.out.2.2.1.trans a1.out.2.2.1,fun b hb=>(i1.out.2.2.2 b (nL hb a2.out)).trans (a1.out.2.2.2 b hb)⟩⟩;have c2:Le w.heap.size wr:=⟨nT a2.out i2.out⟩;have lr:Le wr.heap.size wr:=⟨nR _⟩;clear HO;go_wp2_with (first|(go_at_call 319;refine(Ym l HF.out h0n Ao co _ rfl wr.heap.size _ xO.out).mono ?_;rintro e w1 ⟨rfl,δ3,rfl⟩)|(go_at_call 317;refine(DM er (gI l) _).mono ?_;rintro e w1 ⟨rfl,δ4,rfl⟩));go_ret;exact⟨by rw[No.out];rfl,ag⟩
end
section
open Hd
def yw(o:Option eB):Bool:=match o with|some c=>decide (cg c.w=2\/cg c.w=3)|none=>false
def me(o:Option eB)(w:nJ)(e:Ending)(w':nJ):Prop:=
 ∃(v:nK) (δ:nJ),e=.returned (.tuple #[v,.bool (yw o)])/\w'=ah w δ/\(yw o=false->v=.nilIface) /\
  (∀c,o=some c->cg c.w=2->∃u,v=.iface 262 u/\jM (ah w δ) u c)/\(∀c,o=some c->cg c.w=3->v=.iface 264 (.func (.func (p6 c.w)) #[] #[]))
theorem Gg{o:Option eB}{w W:nJ}(h:yw o=false)(hl:∃δ,W=ah w δ):me o w (.returned (.tuple #[.nilIface,.bool false])) W:=by
 obtain⟨δ,rfl⟩:=hl;refine⟨_,δ,by rw[h],rfl,fun _=>rfl,fun c hc hk=>?_,fun c hc hk=>?_⟩
 ·subst hc;unfold yw at h;simp[hk] at h
 ·subst hc;unfold yw at h;simp[hk] at h
theorem QX{o:Option eB}{c:eB}{u:nK}{w W:nJ}(h:o=some c)(hk:cg c.w=2)[aD w.heap.size w W][Le w.heap.size W](hu:jM W u c):me o w (.returned (.tuple #[.iface 262 u,.bool true])) W:=by
 subst h;have hq:yw (some c)=true:=by simp[yw,hk]
 refine⟨_,W,by rw[hq],ai,fun h=>(by rw[hq] at h;cases h),fun c' hc hk'=>?_,fun c' hc hk'=>?_⟩
 ·injection hc with hc;subst hc;exact⟨u,rfl,by rw[<-ai (w:=w)];exact hu⟩
 ·injection hc with hc;subst hc;omega
theorem XH{o:Option eB}{c:eB}{w W:nJ}(h:o=some c)(hk:cg c.w=3)(hl:∃δ,W=ah w δ):me o w (.returned (.tuple #[.iface 264 (.func (.func (p6 c.w)) #[] #[]),.bool true])) W:=by
 subst h;obtain⟨δ,rfl⟩:=hl;have hq:yw (some c)=true:=by simp[yw,hk]
 refine⟨_,δ,by rw[hq],rfl,fun h=>(by rw[hq] at h;cases h),fun c' hc hk'=>?_,fun c' hc hk'=>?_⟩
 ·injection hc with hc;subst hc;omega
 ·injection hc with hc;subst hc;rfl
theorem sH(ws:List aQ)(A:Option Addr)(cap:Nat)(h0:0<ws.length)(hl:∀x∈ws,x.length<=1000)(hn:ws.length<=1001)(B:Nat)(w:nJ)(hS:Sl bS B w A cap ws)[hB:Le B w][h8:Le 8 w](hL:cT w):Calls nH 130 #[.slice A ws.length cap] w (me (bJ ws) w):=by
 obtain⟨b,o,rfl,hb,e0⟩:=hS.kK h0;have HS:=qh hS;have HL:=qh hL;have qm:=qh hl;have hcap:ws.length<=cap:=hS.1;refine QEX ?_;intro A2 rz;have Cc:Hid (Sl bS B w A2 (cap-1) (ws.drop 1)):=by have:=hS.drop gP 1 nQ;rw[<-rz];exact qh (by simpa [Addr.add_lit] using this)
 refine QBP ?_;intro Jc hn2 VH WO VG HD Xl HDN jh;unfold o9 at jh;have Ui:=qh (IE h0);obtain⟨wd,Yv⟩:∃x,jO (nth ws 0)=x:=⟨_,rfl⟩;have F:=cL (nth ws 0) wd Yv;obtain⟨t0,ht0⟩:∃x,nth ws 0=x:=⟨_,rfl⟩;rw[ht0] at e0 F;rw[Yv] at Ui;have ib:Lt b w:=⟨nL hb hB.out⟩;have e0:w.cell? ⟨b,o,none⟩=some (.string (str t0)):=e0;clear hS hL hl h0 hb Yv ht0 hcap;obtain⟨f0,f1,f2,f3,f4,f5,f6,f7,f8,f9,f10,f11,f12,f13,f14,f15,f16,f17,f18,f19⟩:=F;cases ho:cQ (ws.drop 1) with
 |none=>
  have HN:Hid (yw (bJ ws)=false):=by unfold Hid;rw[Ui.out,ho];cases wd<;>rfl
  rw[ho] at jh
  clear ho f0 f1 f2 f3 f4 f5 f6 f7 f8 f9 f10 f11 f12 f13 f14 f15 f16 f17 f18 f19
  go_enter Tryz.func130,Tryz.ntmps130
  go_wp2_with (go_at_call 132;refine(jh.out _ inferInstance inferInstance inferInstance HL.out.up).mono ?_;rintro e w1 ⟨A3,c3,δ2,rfl,rfl,_⟩)
  go_ret2
  exact Gg HN.out ag
 |some a=>
  rw[ho] at jh
  have TY:Hid (bJ ws=wd.bind fun d=>if a.length=tS d then some ⟨d,a⟩ else none):=by unfold Hid;rw[Ui.out,ho];rfl
  clear ho Ui
  by_cases Po:a.length=0
  ·obtain rfl:a=[]:=List.length_eq_zero_iff.1 Po;clear Po;rcases wd with _|d
   ·simp only[reduceCtorEq,decide_false] at f0 f1 f2 f3 f4 f5 f6 f7 f8 f9 f10 f11 f12 f13 f14 f15 f16 f17 f18 f19;have HN:Hid (yw (bJ ws)=false):=by unfold Hid;rw[TY.out];rfl
    clear TY;go_enter Tryz.func130,Tryz.ntmps130;go_wp2_with (go_at_call 132;refine(jh.out _ inferInstance inferInstance inferInstance HL.out.up).mono ?_;rintro e w1 ⟨A3,c3,δ2,rfl,rfl,_⟩);go_ret2;exact Gg HN.out ag
   ·cases d;all_goals
     simp only[Option.some.injEq,reduceCtorEq,decide_false,decide_true] at f0 f1 f2 f3 f4 f5 f6 f7 f8 f9 f10 f11 f12 f13 f14 f15 f16 f17 f18 f19;go_enter Tryz.func130,Tryz.ntmps130;go_wp2_with (go_at_call 132;refine(jh.out _ inferInstance inferInstance inferInstance HL.out.up).mono ?_;rintro e w1 ⟨A3,c3,δ2,rfl,rfl,_⟩);go_ret2;first
      |exact QX (TY.out.trans rfl) rfl ⟨rfl,rfl,.inl ⟨nU,rfl⟩⟩
      |exact XH (TY.out.trans rfl) rfl ag
      |exact Gg (by rw[TY.out];rfl) ag
  ·have hp1:(0:Int)<(a.length:Int):=nQ;have VC:0<a.length:=nQ;clear f0 f1 f2 f3 f4 f5 f6 f7 f8 f9 f10 f11 f12 f13 f14 f16 f17 f18 f19;by_cases he:wd=some .early
   ·rw[decide_eq_true he] at f15;by_cases ZY:a.length=1
    ·obtain⟨x,rfl⟩:∃x,a=[x]:=by
      match a,ZY with
      |[x],_=>exact⟨x,rfl⟩
     have HC:Hid (bJ ws=some ⟨.early,[x]⟩):=by unfold Hid;rw[TY.out,he];rfl
     clear ZY he TY Po hp1 VC;go_enter Tryz.func130,Tryz.ntmps130;go_wp2_with (go_at_call 132;refine(jh.out _ inferInstance inferInstance inferInstance HL.out.up).mono ?_;rintro e w1 ⟨A3,c3,δ2,rfl,rfl,AG⟩;have ux:=qh AG;clear AG);go_ret2;exact QX HC.out rfl ⟨rfl,rfl,.inr ⟨rfl,_,A3,c3,rfl,ay.new rfl,ux.out.wide⟩⟩
    ·have HN:Hid (yw (bJ ws)=false):=by unfold Hid;rw[TY.out,he];show yw (if a.length=tS .early then some ⟨.early,a⟩ else none)=false;rw[if_neg (show ¬a.length=tS .early from ZY)];rfl
     have ahU:((a.length:Int)==1)=false:=beq_eq_false_iff_ne.2 nQ;have ahT:(a.length==1)=false:=beq_eq_false_iff_ne.2 ZY;clear ZY he TY Po;go_enter Tryz.func130,Tryz.ntmps130;go_wp2_with (go_at_call 132;refine(jh.out _ inferInstance inferInstance inferInstance HL.out.up).mono ?_;rintro e w1 ⟨A3,c3,δ2,rfl,rfl,_⟩);go_ret2;exact Gg HN.out ag
   ·rw[decide_eq_false he] at f15;have HN:Hid (yw (bJ ws)=false):=by
     unfold Hid;rw[TY.out];cases wd with
     |none=>rfl
     |some d=>
      show yw (if a.length=tS d then some ⟨d,a⟩ else none)=false
      by_cases hd:a.length=tS d
      ·rw[if_pos hd];cases d<;>first|rfl|exact absurd hd Po|exact absurd rfl he
      ·rw[if_neg hd];rfl
    clear he TY Po;go_enter Tryz.func130,Tryz.ntmps130;go_wp2_with (go_at_call 132;refine(jh.out _ inferInstance inferInstance inferInstance HL.out.up).mono ?_;rintro e w1 ⟨A3,c3,δ2,rfl,rfl,_⟩);go_ret2;exact Gg HN.out ag
end
end Go.Proofs.YtpnnapeoanafdaaGreatDoor
