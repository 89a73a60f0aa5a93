/- A part of the proof that a law of layer 12 holds, cut small by a program (names and blanks): Hp14, Hp15, Hp16. -/
import Derived.Test.YtdmedlkonaclnaaGreatDoorZ25
set_option maxRecDepth 100000
set_option maxHeartbeats 40000000
set_option linter.unusedVariables false
set_option linter.unusedSimpArgs false
namespace Go.Proofs.YtdmedlkonaclnaaGreatDoor
open Go.RowKit
open Nat renaming le_trans → nT, lt_of_lt_of_le → nL, le_refl → nR, zero_le → nE
open Go.Proofs.Tryz renaming prog → nH
open Go renaming World → nJ, Value → nK
section
open Hd
def pV:Wd->Nat
 |.safe=>163
 |.gy=>164
 |.kr=>166
 |.done=>167
 |.fU=>169
 |.yu=>170
 |.nw=>171
 |.order=>173
 |_=>175
def jJ(w:nJ)(v:nK)(c:dU):Prop:=cN c.w=2/\c.a.length=tq c.w /\
 ((c.w≠.early/\v=.func (.func (pV c.w)) #[] #[])\/(c.w=.early/\∃(ga:Nat) (A:Option Addr) (cap:Nat),v=.func (.func 161) #[] #[.pointer (some ⟨ga,0,none⟩)]/\ax w ga 35 #[.slice A 1 cap]/\fN 3 aI w.heap.size w A cap c.a))
theorem jJ.up{w W:nJ}{v:nK}{c:dU}(h:jJ w v c)[hg:au w.heap.size w W][hl:Le w.heap.size W]:jJ W v c:=by
 obtain⟨h1,h2,h|⟨h3,ga,A,cap,h4,h5,h6⟩⟩:=h
 ·exact⟨h1,h2,.inl h⟩
 ·exact⟨h1,h2,.inr ⟨h3,ga,A,cap,h4,h5.dM,h6.wide⟩⟩
theorem jJ.aR{w W:nJ}{v:nK}{c:dU}{g:Nat}{T:TypeId}{cs:Array nK}(h:jJ w v c)(k:bH (fun x=>x=g) w W)(hb:ax w g T cs)(t2:T≠35)(t3:T≠3):jJ W v c:=by
 obtain⟨h1,h2,h|⟨h3,ga,A,cap,h4,h5,h6⟩⟩:=h
 ·exact⟨h1,h2,.inl h⟩
 ·exact⟨h1,h2,.inr ⟨h3,ga,A,cap,h4,h5.vL k hb t2,h6.aR k hb t3 (nR _)⟩⟩
theorem Vs(c:dU)(hk:cN c.w=2)(hne:c.w≠.early)(r:aQ)(t:aW)(hv:aG t=true)(B:Nat)(w:nJ)(hT:aJ B w r t)[hB:Le B w]:Calls nH (pV c.w) #[aO r t] w (eB (fm t c) w):=by
 obtain⟨d,a⟩:=c;cases d with
 |safe=>exact WC r t hv a B w hT
 |gy=>exact TD r t hv a B w hT
 |kr=>exact WG r t hv a B w hT
 |done=>exact WH r t hv a B w hT
 |fU=>exact WB r t hv a B w hT
 |yu=>exact Zd r t hv a B w hT
 |early=>exact absurd rfl hne
 |aP=>exact absurd hk (by show ¬cN .aP=2;decide)
 |current=>exact absurd hk (by show ¬cN .current=2;decide)
 |gE=>exact absurd hk (by show ¬cN .gE=2;decide)
 |ah=>exact absurd hk (by show ¬cN .ah=2;decide)
 |ng=>exact absurd hk (by show ¬cN .ng=2;decide)
 |ey=>exact absurd hk (by show ¬cN .ey=2;decide)
 |eX=>exact absurd hk (by show ¬cN .eX=2;decide)
 |part=>exact absurd hk (by show ¬cN .part=2;decide)
 |fM=>exact absurd hk (by show ¬cN .fM=2;decide)
 |nw=>exact absurd hk (by show ¬cN .nw=2;decide)
 |order=>exact absurd hk (by show ¬cN .order=2;decide)
 |pack=>exact absurd hk (by show ¬cN .pack=2;decide)
 |forget=>exact absurd hk (by show ¬cN .forget=2;decide)
theorem Zb(c:dU)(hk:cN c.w=3)(r:aQ)(t:aW)(hv:aG t=true)(B:Nat)(w:nJ)(hT:aJ B w r t)[hB:Le B w]:Calls nH (pV c.w) #[aO r t] w (mI (qY t c) w):=by
 obtain⟨d,a⟩:=c;cases d with
 |nw=>exact WE r t hv a B w hT
 |order=>exact TE r t hv a B w hT
 |pack=>exact WD r t hv a B w hT
 |safe=>exact absurd hk (by show ¬cN .safe=3;decide)
 |gy=>exact absurd hk (by show ¬cN .gy=3;decide)
 |kr=>exact absurd hk (by show ¬cN .kr=3;decide)
 |done=>exact absurd hk (by show ¬cN .done=3;decide)
 |fU=>exact absurd hk (by show ¬cN .fU=3;decide)
 |yu=>exact absurd hk (by show ¬cN .yu=3;decide)
 |early=>exact absurd hk (by show ¬cN .early=3;decide)
 |aP=>exact absurd hk (by show ¬cN .aP=3;decide)
 |current=>exact absurd hk (by show ¬cN .current=3;decide)
 |gE=>exact absurd hk (by show ¬cN .gE=3;decide)
 |ah=>exact absurd hk (by show ¬cN .ah=3;decide)
 |ng=>exact absurd hk (by show ¬cN .ng=3;decide)
 |ey=>exact absurd hk (by show ¬cN .ey=3;decide)
 |eX=>exact absurd hk (by show ¬cN .eX=3;decide)
 |part=>exact absurd hk (by show ¬cN .part=3;decide)
 |fM=>exact absurd hk (by show ¬cN .fM=3;decide)
 |forget=>exact absurd hk (by show ¬cN .forget=3;decide)
theorem sF{d:Wd}(h:cN d=2\/cN d=3):∀args w,(callFunc (pV d) args).run nH w=.ok (.enter (pV d) args) w:=by cases d<;>first|exact absurd h nU|(intro args w;simp[pV,go_sem];done)
theorem U9{t:aW}{c:dU}(h:cN c.w=2):nC t c=nj (fm t c).2 (Lib.itoa (fm t c).1):=by unfold nC;rw[if_neg nQ]
theorem Ol(r:aQ)(t:aW)(hv:aG t=true)(c:dU)(v:nK)(B:Nat)(w:nJ)(hT:aJ B w r t)[hB:Le B w][h8:Le 8 w](hL:cT w)(hC:jJ w v c):Calls nH 313 #[v,aO r t] w fun e w'=>e=.returned (.string (str (nC t c)))/\∃δ,w'=af w δ:=by
 obtain⟨hk,hl,hc⟩:=hC;have H:=qh hT;have HL:=qh hL;have Mi:=qh (U9 (t:=t) hk);have HB:=qh (KO hv c);rcases hc with⟨hne,rfl⟩|⟨he,ga,A,cap,rfl,b1,hS⟩
 ·have hent:=sF (.inl hk);have HQ:Hid (∀W:nJ,aJ B W r t->Le B W->Calls nH (pV c.w) #[aO r t] W (eB (fm t c) W)):=qh fun W h1 h2=>Vs c hk hne r t hv B W h1;obtain⟨fid,uK⟩:∃f,pV c.w=f:=⟨_,rfl⟩;rw[uK] at hent HQ ⊢;obtain⟨x,er,hx⟩:∃x e,fm t c=(x,e):=⟨_,_,rfl⟩;rw[hx] at HQ Mi HB;obtain⟨tx,gr⟩:∃s,Lib.itoa x=s:=⟨_,rfl⟩;simp only[gr] at Mi;have xE:=qh gr;have kL:-9223372036854775808<=x/\x<=9223372036854775807:=by have:=HB.out;simp only[] at this;omega
  unfold eB at HQ;clear hT hL hv hk hl hne uK hx gr HB;go_enter Tryz.func313,Tryz.ntmps313;go_upto_region 1 with fail;refine QEA ?_;intro W1 aH cJ dF cU dA dD eI ju;refine QDN ?_;intro A1;clear aH;go_wp2_with (first|(refine av ai rfl _ rfl rfl A1.out rfl ?_)|(go_at_call 97;refine(xe x tx xE.out kL.1 kL.2 _ HL.out.Wj.up).mono ?_;rintro e w1 ⟨rfl,δ2,rfl⟩)|(go_at_call 314;refine(Db er tx _).mono ?_;rintro e w1 ⟨rfl,δ3,rfl⟩)|(refine(HQ.out _ H.out.up inferInstance).mono ?_;rintro e w1 ⟨rfl,δ1,rfl⟩));go_ret;exact⟨by rw[Mi.out];rfl,ag⟩
 ·obtain⟨d,a⟩:=c;obtain rfl:d=.early:=he;obtain⟨dy,rfl⟩:∃y,a=[y]:=by
   match a,hl with
   |[y],_=>exact⟨y,rfl⟩
  have HQ:Hid (∀W:nJ,au w.heap.size w W->Le w.heap.size W->aJ B W r t->Le B W->Calls nH 161 #[aO r t,.pointer (some ⟨ga,0,none⟩)] W (eB (fm t ⟨.early,[dy]⟩) W)):=qh fun W i1 i2 h1 h2=>Li r t hv dy ga A cap B W h1 b1.dM (hS.wide (w':=W)).plain;obtain⟨x,er,hx⟩:∃x e,fm t ⟨.early,[dy]⟩=(x,e):=⟨_,_,rfl⟩;rw[hx] at HQ Mi HB;obtain⟨tx,gr⟩:∃s,Lib.itoa x=s:=⟨_,rfl⟩;simp only[gr] at Mi;have xE:=qh gr;have kL:-9223372036854775808<=x/\x<=9223372036854775807:=by have:=HB.out;simp only[] at this;omega
  unfold eB at HQ;clear hT hL hv hk hl hx gr HB b1 hS;go_enter Tryz.func313,Tryz.ntmps313;go_upto_region 1 with fail;refine aL fun W1 aH=>?_;have Es:Le B W1:=fI aH;have Gh:au B w W1:=gu aH;obtain⟨sg,tX,tW,sM,tV⟩:=Au 8 w aH;refine QDN ?_;intro A1;clear aH;go_wp2_with (first|(refine av ai rfl _ rfl rfl A1.out rfl ?_)|(go_at_call 97;refine(xe x tx xE.out kL.1 kL.2 _ HL.out.Wj.up).mono ?_;rintro e w1 ⟨rfl,δ2,rfl⟩)|(go_at_call 314;refine(Db er tx _).mono ?_;rintro e w1 ⟨rfl,δ3,rfl⟩)|(go_at_call 161;refine(HQ.out _ inferInstance inferInstance H.out.up inferInstance).mono ?_;rintro e w1 ⟨rfl,δ1,rfl⟩));go_ret;exact⟨by rw[Mi.out];rfl,ag⟩
end
section
open Hd
theorem Va{t:aW}{c:dU}(h:cN c.w=3):nC t c=nj (qY t c).2 (qz (qY t c).1):=by unfold nC;rw[if_pos h]
theorem DI:∀l:List Int,Lib.join (l.map Lib.itoa) [32]=je l
 |[]=>rfl
 |[x]=>by simp[Lib.join,je,List.intercalate]
 |x::y::r=>by have:=DI (y::r);simp only[List.map_cons,Lib.join,List.intercalate,List.intersperse] at this ⊢;unfold je;rw[<-this];simp
theorem Xg(l:List Int)(hf:S4 l)(h0:0<l.length)(A:Option Addr)(cap ln:Nat)(hn:l.length=ln)(B:Nat)(w:nJ)(hS:Sl aX B w A cap (l.map Lib.itoa))[hB:Le B w]:Calls nH 316 #[.slice A ln cap,.string ⟨#[32]⟩] w fun e w'=>e=.returned (.string (str (je l)))/\∃δ,w'=af w δ:=by
 subst hn;obtain⟨b,o,rfl,hb,_⟩:=hS.mh (k:=0) (by rw[List.length_map];exact h0);have hlen:(je l).length<=1000:=nT (by have:=tO (l:=l) hf.2;have:=hf.1;omega) (by decide:18<=1000);have hd:((l.map fun x=>str (Lib.itoa x)).map (·.data.toList))=l.map Lib.itoa:=by rw[List.map_map];exact List.map_congr_left fun x _=>by simp[str]
 have h:=Tryz.strings_Join b o cap (l.map fun x=>str (Lib.itoa x)) ⟨#[32]⟩ w (by
   intro j x hj
   rw[List.getElem?_map] at hj
   obtain⟨y,hy,rfl⟩:=Option.map_eq_some_iff.1 hj
   have hjl:j<l.length:=(List.getElem?_eq_some_iff.1 hy).1
   obtain⟨b',o',e,_,d⟩:=hS.mh (k:=j) (by rw[List.length_map];exact hjl)
   injection e with e
   injection e with e1 e2
   subst e1;subst e2
   rw[d,jC _ _ hjl]
   rw[bR _ hjl,(List.getElem?_eq_some_iff.1 hy).2]) (nL hb hB.out) (by rw[List.length_map];have:=hf.1;omega) (by rw[List.length_map];have:=hS.1;rwa [List.length_map] at this)
  (by rw[hd,show(⟨#[32]⟩:ByteArray).data.toList=[32] from rfl,DI];omega)
 rw[List.length_map,hd,show(⟨#[32]⟩:ByteArray).data.toList=[32] from rfl,DI] at h;refine h.mono ?_;rintro e w1 ⟨rfl,hb⟩;exact⟨rfl,vI hb⟩
theorem QF(r:aQ)(t:aW)(hv:aG t=true)(c:dU)(hk:cN c.w=3)(B:Nat)(w:nJ)(hT:aJ B w r t)[hB:Le B w][h8:Le 8 w](hL:cT w):Calls nH 315 #[.func (.func (pV c.w)) #[] #[],aO r t] w fun e w'=>e=.returned (.string (str (nC t c)))/\∃δ,w'=af w δ:=by
 have H:=qh hT;have HL:=qh hL;have Mi:=qh (Va (t:=t) hk);have HF:=qh (DZ hv c);have hent:=sF (.inr hk);have HQ:Hid (∀W:nJ,aJ B W r t->Le B W->Calls nH (pV c.w) #[aO r t] W (mI (qY t c) W)):=qh fun W h1 h2=>Zb c hk r t hv B W h1;obtain⟨fid,uK⟩:∃f,pV c.w=f:=⟨_,rfl⟩;rw[uK] at hent HQ ⊢;obtain⟨l,er,hx⟩:∃x e,qY t c=(x,e):=⟨_,_,rfl⟩;rw[hx] at HQ Mi HF;simp only[] at Mi HF;have h6:=HF.out.1;unfold mI at HQ;clear hT hL hv hk uK hx;go_enter Tryz.func315,Tryz.ntmps315;go_upto_region 1 with fail;refine QEA ?_;intro W1 aH cJ dF cU dA dD eI ju;refine QDN ?_;intro A1;clear aH;by_cases h0:l.length=0
 ·have iM:Hid (qz l=uX):=qh (by unfold qz;rw[if_pos (List.length_eq_zero_iff.1 h0)]);have h0b:((l.length:Int)==0)=true:=by simp[h0]
  have h0i:(l.length:Int)=0:=nQ;rw[iM.out] at Mi;obtain⟨ll,Ut⟩:∃n,l.length=n:=⟨_,rfl⟩;rw[Ut] at h0b h0i;have V4:=qh Ut;clear h0 Ut h6;go_wp2_with (first|(refine av ai rfl _ rfl rfl A1.out rfl ?_)|(go_at_call 314;refine(Db er uX _).mono ?_;rintro e w1 ⟨rfl,δ3,rfl⟩)|(refine(HQ.out _ H.out.up inferInstance).mono ?_;rintro e w1 ⟨A2,n2,c2,δ1,rfl,hn,rfl,_⟩;obtain rfl:n2=ll:=hn.trans V4.out));go_ret;exact⟨by rw[Mi.out];rfl,ag⟩
 ·have iM:Hid (qz l=je l):=qh (by unfold qz;rw[if_neg (fun e=>h0 (by rw[e];rfl))]);have h0b:((l.length:Int)==0)=false:=beq_eq_false_iff_ne.2 nQ;have h0i:¬(l.length:Int)=0:=nQ;have h0n:0<l.length:=nQ;rw[iM.out] at Mi;clear h0;go_upto_region 6 with(first|(refine av ai rfl _ rfl rfl A1.out rfl ?_)|(refine(HQ.out _ H.out.up inferInstance).mono ?_;rintro e w1 ⟨A2,n2,c2,δ1,rfl,rfl,rfl,hs⟩;have HS:=qh hs;clear hs));refine aL fun W2 eJ=>?_;have a1:au w.heap.size w W2:=gu eJ;have a2:Le w.heap.size W2:=fI eJ;have a3:au 8 w W2:=gu eJ;have a4:Le 8 W2:=fI eJ;have Bv:Hid (Sl aI W2.heap.size W2 A2 c2 l):=by rw[eJ.out];exact HS
  clear eJ HS;go_loopg [7,23] l.length (fun gn s7 s23 wr=>∃(j:Nat) (Ao:Option Addr) (co:Nat),j<=l.length/\gn=l.length-j/\s7=.slice Ao j co/\s23=.int .i64 j/\Hid (wr.ownsRow W2.heap.size 9 1 (.slice Ao j co) j (((l.map Lib.itoa).take j).flatMap aX))/\au W2.heap.size W2 wr/\Le W2.heap.size wr)
  case atStart=>exact⟨0,none,0,nE _,rfl,rfl,rfl,qh (World.ownsRow_nil _ _ _ _),inferInstance,⟨nR _⟩⟩
  case round=>
   obtain⟨j,Ao,co,hj,rfl,rfl,rfl,HO,i1,i2⟩:=hrel;have b1:au 8 w wr:=⟨⟨i1.out.1.trans a3.out.1,i1.out.2.1.trans a3.out.2.1,i1.out.2.2.1.trans a3.out.2.2.1,fun b hb=>(i1.out.2.2.2 b (nL hb a4.out)).trans (a3.out.2.2.2 b hb)⟩⟩;have b2:Le 8 wr:=⟨nT a4.out i2.out⟩;by_cases hlt:j<l.length
   ·have hji:(j:Int)<(l.length:Int):=nQ;have hj0:¬(j:Int)<0:=nQ;obtain⟨sb,so,rfl,xj,e0⟩:=(Bv.out.up (w':=wr)).int hlt;have isb:Lt sb wr:=⟨nL xj i2.out⟩;have Ui:=HF.out.2 _ (aV l hlt);have HK:Hid (((l.map Lib.itoa).take (j+1)).flatMap aX=((l.map Lib.itoa).take j).flatMap aX++[.string (str (Lib.itoa (nth l j)))]):=by unfold Hid;rw[bE _ (by rw[List.length_map];exact hlt),List.flatMap_append,jC _ _ hlt];rfl
    obtain⟨x,hx⟩:∃x,nth l j=x:=⟨_,rfl⟩;rw[hx] at e0 Ui HK;obtain⟨tx,gr⟩:∃s,Lib.itoa x=s:=⟨_,rfl⟩;rw[gr] at HK;have xE:=qh gr;have kL:-9223372036854775808<=x/\x<=9223372036854775807:=nQ;clear xj hx gr Ui;go_wp2_with (first|(go_at_call 97;refine(xe x tx xE.out kL.1 kL.2 _ HL.out.Wj.up).mono ?_;rintro e w1 ⟨rfl,δ2,rfl⟩)|(at_builtin;(refine cq W2 YE (.tmp 27) (.tmp 30) rfl rfl (bg HO.out) rfl rfl nW rfl (by simp[Value.oneCell']) nQ nQ ?_);intro A3 c3 δ3 mq rj));go_roundg (l.length-(j+1))
    case measure=>omega
    case rel=>refine⟨j+1,A3,c3,nQ,rfl,rfl,by go_num,?_,inferInstance,inferInstance⟩;rw[HK.out];exact qh mq
   ·obtain rfl:j=l.length:=by omega
    have hjn:¬((l.length:Int)<(l.length:Int)):=nQ;have yw:Hid (Sl aX wr.heap.size wr Ao co (l.map Lib.itoa)):=by
     have:=HO.out;rw[List.take_of_length_le (by rw[List.length_map];exact nR _)] at this;have h2:wr.ownsRow W2.heap.size 9 1 (.slice Ao (l.map Lib.itoa).length co) (l.map Lib.itoa).length ((l.map Lib.itoa).flatMap aX):=by rw[List.length_map];exact this
     exact qh (Sl.bU h2)
    have c1:au w.heap.size w wr:=⟨⟨i1.out.1.trans a1.out.1,i1.out.2.1.trans a1.out.2.1,i1.out.2.2.1.trans a1.out.2.2.1,fun b hb=>(i1.out.2.2.2 b (nL hb a2.out)).trans (a1.out.2.2.2 b hb)⟩⟩;have c2:Le w.heap.size wr:=⟨nT a2.out i2.out⟩;have lr:Le wr.heap.size wr:=⟨nR _⟩;clear HO;go_wp2_with (first|(go_at_call 316;refine(Xg l HF.out h0n Ao co _ rfl wr.heap.size _ yw.out).mono ?_;rintro e w1 ⟨rfl,δ3,rfl⟩)|(go_at_call 314;refine(Db er (je l) _).mono ?_;rintro e w1 ⟨rfl,δ4,rfl⟩));go_ret;exact⟨by rw[Mi.out];rfl,ag⟩
end
section
open Hd
def xV(o:Option dU):Bool:=match o with|some c=>decide (cN c.w=2\/cN c.w=3)|none=>false
def lJ(o:Option dU)(w:nJ)(e:Ending)(w':nJ):Prop:=
 ∃(v:nK) (δ:nJ),e=.returned (.tuple #[v,.bool (xV o)])/\w'=af w δ/\(xV o=false->v=.nilIface) /\
  (∀c,o=some c->cN c.w=2->∃u,v=.iface 241 u/\jJ (af w δ) u c)/\(∀c,o=some c->cN c.w=3->v=.iface 243 (.func (.func (pV c.w)) #[] #[]))
theorem Fg{o:Option dU}{w W:nJ}(h:xV o=false)(hl:∃δ,W=af w δ):lJ o w (.returned (.tuple #[.nilIface,.bool false])) W:=by
 obtain⟨δ,rfl⟩:=hl;refine⟨_,δ,by rw[h],rfl,fun _=>rfl,fun c hc hk=>?_,fun c hc hk=>?_⟩
 ·subst hc;unfold xV at h;simp[hk] at h
 ·subst hc;unfold xV at h;simp[hk] at h
theorem PJ{o:Option dU}{c:dU}{u:nK}{w W:nJ}(h:o=some c)(hk:cN c.w=2)[au w.heap.size w W][Le w.heap.size W](hu:jJ W u c):lJ o w (.returned (.tuple #[.iface 241 u,.bool true])) W:=by
 subst h;have hq:xV (some c)=true:=by simp[xV,hk]
 refine⟨_,W,by rw[hq],aq,fun h=>(by rw[hq] at h;cases h),fun c' hc hk'=>?_,fun c' hc hk'=>?_⟩
 ·injection hc with hc;subst hc;exact⟨u,rfl,by rw[<-aq (w:=w)];exact hu⟩
 ·injection hc with hc;subst hc;omega
theorem Wv{o:Option dU}{c:dU}{w W:nJ}(h:o=some c)(hk:cN c.w=3)(hl:∃δ,W=af w δ):lJ o w (.returned (.tuple #[.iface 243 (.func (.func (pV c.w)) #[] #[]),.bool true])) W:=by
 subst h;obtain⟨δ,rfl⟩:=hl;have hq:xV (some c)=true:=by simp[xV,hk]
 refine⟨_,δ,by rw[hq],rfl,fun h=>(by rw[hq] at h;cases h),fun c' hc hk'=>?_,fun c' hc hk'=>?_⟩
 ·injection hc with hc;subst hc;omega
 ·injection hc with hc;subst hc;rfl
theorem sE(ws:List bz)(A:Option Addr)(cap:Nat)(h0:0<ws.length)(hl:∀x∈ws,x.length<=1000)(hn:ws.length<=1001)(B:Nat)(w:nJ)(hS:Sl aX B w A cap ws)[hB:Le B w][h8:Le 8 w](hL:cT w):Calls nH 90 #[.slice A ws.length cap] w (lJ (bM ws) w):=by
 obtain⟨b,o,rfl,hb,e0⟩:=hS.mh h0;have HS:=qh hS;have HL:=qh hL;have qd:=qh hl;have hcap:ws.length<=cap:=hS.1;refine QFE ?_;intro A2 vU;have Bv:Hid (Sl aX B w A2 (cap-1) (ws.drop 1)):=by have:=hS.drop gD 1 nQ;rw[<-vU];exact qh (by simpa [Addr.add_lit] using this)
 refine QBR ?_;intro VH hn2 VG VF Us HD V8 HDN iX;unfold pg at iX;have S0:=qh (G4 h0);obtain⟨wd,Xm⟩:∃x,nu (nth ws 0)=x:=⟨_,rfl⟩;have F:=cS (nth ws 0) wd Xm;obtain⟨t0,ht0⟩:∃x,nth ws 0=x:=⟨_,rfl⟩;rw[ht0] at e0 F;rw[Xm] at S0;have ib:Lt b w:=⟨nL hb hB.out⟩;have e0:w.cell? ⟨b,o,none⟩=some (.string (str t0)):=e0;clear hS hL hl h0 hb Xm ht0 hcap;obtain⟨f0,f1,f2,f3,f4,f5,f6,f7,f8,f9,f10,f11,f12,f13,f14,f15,f16,f17,f18,f19⟩:=F;cases ho:cR (ws.drop 1) with
 |none=>
  have HN:Hid (xV (bM ws)=false):=by unfold Hid;rw[S0.out,ho];cases wd<;>rfl
  rw[ho] at iX
  clear ho f0 f1 f2 f3 f4 f5 f6 f7 f8 f9 f10 f11 f12 f13 f14 f15 f16 f17 f18 f19
  go_enter Tryz.func90,Tryz.ntmps90
  go_wp2_with (go_at_call 92;refine(iX.out _ inferInstance inferInstance inferInstance HL.out.up).mono ?_;rintro e w1 ⟨A3,c3,δ2,rfl,rfl,_⟩)
  go_ret2
  exact Fg HN.out ag
 |some a=>
  rw[ho] at iX
  have SI:Hid (bM ws=wd.bind fun d=>if a.length=tq d then some ⟨d,a⟩ else none):=by unfold Hid;rw[S0.out,ho];rfl
  clear ho S0
  by_cases NN:a.length=0
  ·obtain rfl:a=[]:=List.length_eq_zero_iff.1 NN;clear NN;rcases wd with _|d
   ·simp only[reduceCtorEq,decide_false] at f0 f1 f2 f3 f4 f5 f6 f7 f8 f9 f10 f11 f12 f13 f14 f15 f16 f17 f18 f19;have HN:Hid (xV (bM ws)=false):=by unfold Hid;rw[SI.out];rfl
    clear SI;go_enter Tryz.func90,Tryz.ntmps90;go_wp2_with (go_at_call 92;refine(iX.out _ inferInstance inferInstance inferInstance HL.out.up).mono ?_;rintro e w1 ⟨A3,c3,δ2,rfl,rfl,_⟩);go_ret2;exact Fg HN.out ag
   ·cases d;all_goals
     simp only[Option.some.injEq,reduceCtorEq,decide_false,decide_true] at f0 f1 f2 f3 f4 f5 f6 f7 f8 f9 f10 f11 f12 f13 f14 f15 f16 f17 f18 f19;go_enter Tryz.func90,Tryz.ntmps90;go_wp2_with (go_at_call 92;refine(iX.out _ inferInstance inferInstance inferInstance HL.out.up).mono ?_;rintro e w1 ⟨A3,c3,δ2,rfl,rfl,_⟩);go_ret2;first
      |exact PJ (SI.out.trans rfl) rfl ⟨rfl,rfl,.inl ⟨nU,rfl⟩⟩
      |exact Wv (SI.out.trans rfl) rfl ag
      |exact Fg (by rw[SI.out];rfl) ag
  ·have ZF:(0:Int)<(a.length:Int):=nQ;have Ii:0<a.length:=nQ;clear f0 f1 f2 f3 f4 f5 f6 f7 f8 f9 f10 f11 f12 f13 f14 f16 f17 f18 f19;by_cases he:wd=some .early
   ·rw[decide_eq_true he] at f15;by_cases YR:a.length=1
    ·obtain⟨x,rfl⟩:∃x,a=[x]:=by
      match a,YR with
      |[x],_=>exact⟨x,rfl⟩
     have HC:Hid (bM ws=some ⟨.early,[x]⟩):=by unfold Hid;rw[SI.out,he];rfl
     clear YR he SI NN ZF Ii;go_enter Tryz.func90,Tryz.ntmps90;go_wp2_with (go_at_call 92;refine(iX.out _ inferInstance inferInstance inferInstance HL.out.up).mono ?_;rintro e w1 ⟨A3,c3,δ2,rfl,rfl,Ah⟩;have uu:=qh Ah;clear Ah);go_ret2;exact PJ HC.out rfl ⟨rfl,rfl,.inr ⟨rfl,_,A3,c3,rfl,ax.new rfl,uu.out.wide⟩⟩
    ·have HN:Hid (xV (bM ws)=false):=by unfold Hid;rw[SI.out,he];show xV (if a.length=tq .early then some ⟨.early,a⟩ else none)=false;rw[if_neg (show ¬a.length=tq .early from YR)];rfl
     have agG:((a.length:Int)==1)=false:=beq_eq_false_iff_ne.2 nQ;have agF:(a.length==1)=false:=beq_eq_false_iff_ne.2 YR;clear YR he SI NN;go_enter Tryz.func90,Tryz.ntmps90;go_wp2_with (go_at_call 92;refine(iX.out _ inferInstance inferInstance inferInstance HL.out.up).mono ?_;rintro e w1 ⟨A3,c3,δ2,rfl,rfl,_⟩);go_ret2;exact Fg HN.out ag
   ·rw[decide_eq_false he] at f15;have HN:Hid (xV (bM ws)=false):=by
     unfold Hid;rw[SI.out];cases wd with
     |none=>rfl
     |some d=>
      show xV (if a.length=tq d then some ⟨d,a⟩ else none)=false
      by_cases hd:a.length=tq d
      ·rw[if_pos hd];cases d<;>first|rfl|exact absurd hd NN|exact absurd rfl he
      ·rw[if_neg hd];rfl
    clear he SI NN;go_enter Tryz.func90,Tryz.ntmps90;go_wp2_with (go_at_call 92;refine(iX.out _ inferInstance inferInstance inferInstance HL.out.up).mono ?_;rintro e w1 ⟨A3,c3,δ2,rfl,rfl,_⟩);go_ret2;exact Fg HN.out ag
end
end Go.Proofs.YtdmedlkonaclnaaGreatDoor
