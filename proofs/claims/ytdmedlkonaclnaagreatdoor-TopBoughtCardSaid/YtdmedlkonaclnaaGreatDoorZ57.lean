/- A part of the proof that a law of layer 12 holds, cut small by a program (names and blanks): Tb1, Tb2, Tb4, Tb3. -/
import Derived.Test.YtdmedlkonaclnaaGreatDoorZ37
import Derived.Test.YtdmedlkonaclnaaGreatDoorZ38
import Derived.Test.YtdmedlkonaclnaaGreatDoorZ41
import Derived.Test.YtdmedlkonaclnaaGreatDoorZ42
import Derived.Test.YtdmedlkonaclnaaGreatDoorZ56
set_option maxRecDepth 100000
set_option maxHeartbeats 40000000
set_option linter.unusedVariables false
set_option linter.unusedSimpArgs false
namespace Go.Proofs.YtdmedlkonaclnaaGreatDoor
open Go.RowKit
open Nat renaming le_trans → nT, lt_of_lt_of_le → nL, le_refl → nR, zero_le → nE
open Go.Proofs.Tryz renaming prog → nH
open Go renaming World → nJ, Value → nK
section
open Hd
def aaC(x:bz)(a:List Int)(k:Nat):bz:=x++(a.take k).flatMap fun y=>32::Lib.itoa y
theorem aaV(x:bz)(a:List Int):aaC x a 0=x:=by simp[aaC]
theorem aaW(x:bz)(a:List Int){k:Nat}(h:k<a.length):aaC x a (k+1)=aaC x a k++32::Lib.itoa (nth a k):=by unfold aaC;rw[List.take_succ_eq_append_getElem h,List.flatMap_append,<-List.append_assoc,nth,List.getD_eq_getElem?_getD,List.getElem?_eq_getElem h];simp
theorem aaM{x:bz}{a:List Int}(h:∀y∈a,-1000000<y/\y<1000000):∀k,(aaC x a k).length<=x.length+9*k:=by
 intro k;induction k with
 |zero=>rw[aaV];omega
 |succ k ih=>
  by_cases hk:k<a.length
  ·rw[aaW x a hk,List.length_append,List.length_cons];have hb:=h (nth a k) (aV a hk);have:=sN (n:=nth a k) 6 nQ;omega
  ·have e:aaC x a (k+1)=aaC x a k:=by unfold aaC;rw[List.take_of_length_le nQ,List.take_of_length_le nQ]
   rw[e];omega
theorem aaX(c:dU):aaC (cj c.w) c.a c.a.length=uh c:=by rw[<-LH];rfl
theorem aaU(x:bz)(hx:x.length<=1000)(a:List Int)(ha:a.length<=4)(hb:∀y∈a,-1000000<y/\y<1000000)(z:bz)(hz:aaC x a a.length=z)(A:Option Addr)(cap:Nat)(B:Nat)(w:nJ)(hS:Sl aI B w A cap a)[hB:Le B w]:Calls nH 31 #[.string (str x),.slice A a.length cap] w fun e w'=>e=.returned (.string (str z))/\∃δ,w'=af w δ:=by
 have HS:=qh hS;have HB:=qh hb;have HZ:=qh hz;clear hS hb hz;go_enter Tryz.func31,Tryz.ntmps31;go_wp2_with fail;go_loopg [0,5] a.length (fun gn s0 s5 wr=>∃(k:Nat) (y:bz) (δ:nJ),k<=a.length/\gn=a.length-k/\s0=.string (str y)/\s5=.int .i64 k/\wr=af w δ/\Hid (y=aaC x a k))
 case atStart=>exact⟨0,_,_,nE _,rfl,rfl,rfl,aq,qh (aaV x a).symm⟩
 case round=>
  obtain⟨k,y,δ,hk,rfl,rfl,rfl,rfl,HY⟩:=hrel;by_cases LR:k<a.length
  ·have LW:(k:Int)<(a.length:Int):=nQ;have hi0:¬(k:Int)<0:=nQ;obtain⟨b,o,rfl,ir,e0⟩:=HS.out.int (k:=k) LR;have ib:Lt b w:=⟨nL ir hB.out⟩;have hnb:=HB.out _ (aV a LR);obtain⟨m,hm⟩:∃m,nth a k=m:=⟨_,rfl⟩;obtain⟨u,hu⟩:∃u,Lib.itoa m=u:=⟨_,rfl⟩;rw[hm] at e0 hnb;have hul:u.length<=8:=by rw[<-hu];exact sN 6 nQ
   have hyl:y.length<=2000:=by rw[HY.out];have:=aaM (x:=x) HB.out k;omega
   have hT:Hid (∀W':nJ,Calls nH 46 #[.int .i64 m] W' fun e w'=>e=.returned (.string (str u))/\∃δ,w'=af W' δ):=qh fun W'=>Fo m ⟨nQ,nQ⟩ u hu W';have b1:∀W:nJ,(Op.stringOp .add (⟨#[32]⟩:ByteArray) (str u)).run nH W=.ok (.string (str (32::u))) W:=fun W=>gp (P:=nH) W [32] u (by simp;omega);have b2:=fun(W:nJ)=>gp (P:=nH) W y (32::u) (by simp;omega);obtain⟨v,hv⟩:∃v,y++32::u=v:=⟨_,rfl⟩;rw[hv] at b2;have HV:Hid (v=aaC x a (k+1)):=qh (by rw[aaW x a LR,hm,hu,<-HY.out,hv]);clear ir hm hu hnb hv;go_wp2_with (go_at_call 46;refine(hT.out _).mono ?_;rintro e w1 ⟨rfl,δ5,rfl⟩);go_roundg (a.length-(k+1))
   case measure=>omega
   case rel=>exact⟨k+1,v,_,LR,rfl,rfl,by go_num,aq,HV⟩
  ·obtain rfl:k=a.length:=by omega
   have LW:¬(a.length:Int)<(a.length:Int):=nQ;have HE:Hid (str y=str z):=qh (by rw[HY.out,HZ.out]);go_wp2_with fail;go_ret;exact⟨by first|rfl|(rw[HE.out];rfl),ag⟩
theorem abf(n e:Int)(hn:e=0->-1000000<=n/\n<=1000000)(x:bz)(hx:nj e (Lib.itoa n)=x)(w:nJ):Calls nH 15 #[.int .i64 n,.int .i64 e] w fun e' w'=>e'=.returned (.string (str x))/\∃δ,w'=af w δ:=by
 by_cases h0:e=0
 ·subst h0;have HB:=qh (hn rfl);have h1:¬n < -1000000:=by have:=HB.out;omega
  have h2:¬(1000000:Int)<n:=by have:=HB.out;omega
  have HX:Hid (Lib.itoa n=x):=qh hx;clear hn hx;go_enter Tryz.func15,Tryz.ntmps15;go_wp2_with (go_at_call 46;refine(Fo n HB.out _ HX.out _).mono ?_;rintro e w1 ⟨rfl,δ1,rfl⟩);go_ret;exact⟨rfl,ag⟩
 ·by_cases h3:e=3
  ·subst h3;have HX:Hid (Y5=x):=qh hx;clear hn hx;go_enter Tryz.func15,Tryz.ntmps15;go_wp2;go_ret;exact⟨by rw[<-HX.out];rfl,ag⟩
  ·have e0:(e==0)=false:=by simp[h0]
   have e3:(e==3)=false:=by simp[h3]
   have HX:Hid (IC=x):=by unfold Hid;rw[<-hx];unfold nj;rw[if_neg h0,if_neg h3]
   clear h0 h3 hn hx;go_enter Tryz.func15,Tryz.ntmps15;go_wp2;go_ret;exact⟨by rw[<-HX.out];rfl,ag⟩
end
section
open Hd
def aar:List bz:=[acX,acW,acX]
def aax:List bz:=[ad4,ad3,[52,48]]
theorem ab8:(dJ (bY gH) aar).2=aax:=by decide +kernel
theorem abi:(dJ (bY gH) aar).1.aC=[]:=by decide +kernel
theorem abn:kQ gH aar=((aax,[]),(dJ (bY gH) aar).1.az,0):=by have UC:¬30<aar.length:=nU;unfold kQ;rw[if_neg (by rw[RH];decide),if_neg UC,ab8,abi];rfl
theorem aav(w:nJ)[h8:Le 8 w](hL:cT w):Calls nH 10 #[] w fun e w'=>e=.returned (.bool true)/\∃δ,w'=af w δ:=by
 have HL:=qh hL;have HEX:Hid (∀(r:aQ) (g B:Nat) (W:nJ),aJ B W r gH->Le B W->Le 8 W->cT W->Sl aX B W (some ⟨g,0,none⟩) 3 aar->Calls nH 14 #[aO r gH,.slice (some ⟨g,0,none⟩) 3 3] W (rK gH aar W)):=qh fun r g B W h1 h2 h3 h4 h5=>
  XP r gH aar (some ⟨g,0,none⟩) 3 nU B W h1 h4 h5
 unfold rK at HEX;rw[abn] at HEX;obtain⟨tt,htt⟩:∃x,(dJ (bY gH) aar).1.az=x:=⟨_,rfl⟩;rw[htt] at HEX;clear hL htt;go_enter Tryz.func10,Tryz.ntmps10;go_wp2_with (go_at_call 38;refine(DH _).mono ?_;rintro e w1 ⟨rE,δ1,rfl,rfl,hE⟩;have HE:=qh hE;clear hE);refine gm fun X hX=>?_;have x0:au w.heap.size w X:=by rw[<-hX];infer_instance
 have x1:Le w.heap.size X:=by rw[<-hX];infer_instance
 have x2:Hid (aJ X.heap.size X rE gH):=by rw[<-hX];exact qh HE.out.wide
 have x3:Hid (Sl aX X.heap.size X (some ⟨(af w δ1).heap.size,0,none⟩) 3 aar):=by rw[<-hX];exact qh (fE (ls:=aar) (ax.new rfl) rfl nU)
 have x5:au 8 w X:=by rw[<-hX];infer_instance
 clear hX;have x4:Le 8 X:=⟨nT h8.out x1.out⟩;have x6:Le X.heap.size X:=⟨nR _⟩;refine(HEX.out rE _ X.heap.size X x2.out x6 x4 HL.out.up x3.out).mono ?_;rintro e w1 ⟨aA,ac,rT,lA,lc,δ2,rfl,rfl,ha,hT,hl⟩;have ab1:=qh ha;clear ha hT hl;go_upto_region 2 with(refine ak (cs':=aE rT tt) ai rfl _ _ rfl rfl rfl (ax.new (T:=39) rfl) rfl rfl (aM _ _) ?_;intro W3 T3 k3);have n1:au w.heap.size w W3:=cm k3 (inferInstance:Le w.heap.size (af X δ2)).out;have n2:Le w.heap.size W3:=dB k3;have q1:au (af X δ2).heap.size (af X δ2) W3:=cm k3 (nR _);have q2:Le (af X δ2).heap.size W3:=dB k3;have A3:Hid (Sl aX W3.heap.size W3 aA ac aax):=qh ab1.out.wide;have lw:Le W3.heap.size W3:=⟨nR _⟩;clear q1 q2 ab1 k3 T3;go_wp2_with fail;refine gm fun Z hZ=>?_;have u1:Hid (Sl aX Z.heap.size Z aA ac aax):=by rw[<-hZ];exact qh A3.out.wide
 have u2:Hid (Sl aX Z.heap.size Z (some ⟨W3.heap.size,0,none⟩) 3 aax):=by rw[<-hZ];exact qh (fE (ls:=aax) (ax.new rfl) rfl nU)
 have u4:au w.heap.size w Z:=by rw[<-hZ];infer_instance
 have u5:Le w.heap.size Z:=by rw[<-hZ];infer_instance
 clear hZ;have u6:Le Z.heap.size Z:=⟨nR _⟩;refine(jk aA _ ac _ aax Z.heap.size Z u1.out u2.out _ _ rfl rfl).mono ?_;rintro e w1 ⟨rfl,δ4,rfl⟩;go_wp2_with fail;go_ret;exact⟨rfl,ag⟩
end
theorem abg(r:eR)(h:Sa.aN)(s:Int)(B:Nat)(w:nJ)[hB:Le B w](hH:bT B w r h)(q1:h.kinds.length<=1000)(q2:h.parts.length<=1000)(q3:h.bars.length<=1000):Calls nH 32 #[fA r h,.int .i64 s] w fun e w'=>∃(r':eR) (δ:nJ),e=.returned (fA r' (Sa.eG h s))/\w'=af w δ/\fS w.heap.size (af w δ) r' (Sa.eG h s):=by
 have H:=qh hH;obtain⟨kA,kc,pA,pc,bA,bc⟩:=r;clear hH;go_enter Tryz.func32,Tryz.ntmps32;go_upto_region 2 with(go_at_call 41;refine(Fs ⟨kA,kc,pA,pc,bA,bc⟩ h B _ H.out.up q1 q2 q3).mono ?_;rintro e w1 ⟨⟨Ue,Ud,pA',pc',bA',bc'⟩,δ,rfl,hw,hown⟩;rw[<-hw] at hown;have HO:=qh (hown.mono (base':=w.heap.size) (by simp;omega));have b4:ax w1 (w.heap.size+1) 37 #[.slice none 0 0,.int .i64 0,.slice none 0 0,.slice none 0 0]:=(by rw[hw];exact(ax.new nV).af _);have g3:au w.heap.size w w1:=(by rw[hw];infer_instance);have g4:Le w.heap.size w1:=(by rw[hw];infer_instance);clear hw hown);refine aL fun W2 eJ=>?_;have cJ:Le w.heap.size W2:=fI eJ;have dF:au w.heap.size w W2:=gu eJ;have cU:Lt (w1.heap.size) W2:=nt eJ;have B5:Hid (ax W2 w1.heap.size 37 #[.slice Ue h.kinds.length Ud,.int .i64 h.floor,.slice pA' h.parts.length pc',.slice bA' h.bars.length bc']):=by rw[eJ.out];exact ax.new rfl
 have B4:Hid (ax W2 (w.heap.size+1) 37 #[.slice none 0 0,.int .i64 0,.slice none 0 0,.slice none 0 0]):=by rw[eJ.out];exact b4.alloc _
 have yw:Hid (fS w.heap.size W2 ⟨Ue,Ud,pA',pc',bA',bc'⟩ h):=by rw[eJ.out];exact HO.out.alloc _
 have l4:=B4.out.lt;have l5:=B5.out.lt;have c53:=B5.out.cell (i:=3) rfl;have ZI:w.heap.size+1≠w1.heap.size:=by have:=b4.tN;omega
 clear eJ HO b4;go_upto_region 3 with(at_builtin;(refine cq w wo (.tmp 9) (.tmp 11) rfl rfl yw.out.2.2 rfl rfl nW rfl (by simp[Value.oneCell']) nQ nQ ?_);intro A' c' δ' hown' hg;have d5:=fJ (B5.out.alloc _) (yw.out.2.2.alloc _) nU hg;have d4:=fJ (B4.out.alloc _) (yw.out.2.2.alloc _) nU hg;have ok:=bV (yw.out.1.alloc _) (yw.out.2.2.alloc _) nU hg;have op:=bV (yw.out.2.1.alloc _) (yw.out.2.2.alloc _) nU hg;have D5:=qh d5;have D4:=qh d4;have OK:=qh ok;have OP:=qh op;have OB:=qh hown';have e0:=d5.cell (i:=0) rfl;have e1:=d5.cell (i:=1) rfl;have e2:=d5.cell (i:=2) rfl;have e3:=d5.cell (i:=3) rfl;have f3:=d5.free 3;have i5:=d5.lt;clear d5 d4 ok op hown' hg);refine aL fun W3 bQ=>?_;have dA:Le w.heap.size W3:=fI bQ;have dD:au w.heap.size w W3:=gu bQ;have eI:Lt (w1.heap.size) W3:=nt bQ;have E5:Hid (ax W3 w1.heap.size 37 #[.slice Ue h.kinds.length Ud,.int .i64 h.floor,.slice pA' h.parts.length pc',.slice A' (h.bars.length+1) c']):=by rw[bQ.out];exact D5.out.set 3 _
 have E4:Hid (ax W3 (w.heap.size+1) 37 #[.slice none 0 0,.int .i64 0,.slice none 0 0,.slice none 0 0]):=by rw[bQ.out];exact ax.fD D4.out ZI _
 have OK3:Hid (W3.ownsRow w.heap.size 152 2 (.slice Ue h.kinds.length Ud) h.kinds.length (h.kinds.flatMap rB)):=by rw[bQ.out];exact dh OK.out (eZ OK.out D5.out nU)
 have OP3:Hid (W3.ownsRow w.heap.size 74 2 (.slice pA' h.parts.length pc') h.parts.length (h.parts.flatMap jD)):=by rw[bQ.out];exact dh OP.out (eZ OP.out D5.out nU)
 have OB3:Hid (W3.ownsRow w.heap.size 3 1 (.slice A' (h.bars.length+1) c') (h.bars.length+1) (h.bars.flatMap aI++[.int .i64 s])):=by rw[bQ.out];exact dh OB.out (eZ OB.out D5.out nU)
 have g40:=E4.out.free 0;have g41:=E4.out.free 1;have g42:=E4.out.free 2;have g43:=E4.out.free 3;have l4':=E4.out.lt;have x40:=E4.out.cell (i:=0) rfl;have x41:=E4.out.cell (i:=1) rfl;have x42:=E4.out.cell (i:=2) rfl;have x43:=E4.out.cell (i:=3) rfl;have x50:=E5.out.cell (i:=0) rfl;have x51:=E5.out.cell (i:=1) rfl;have x52:=E5.out.cell (i:=2) rfl;have x53:=E5.out.cell (i:=3) rfl;clear bQ D5 D4 OK OP OB;go_wp2_with fail;refine bodyPost_ret (v:=fA ⟨Ue,Ud,pA',pc',A',c'⟩ (Sa.eG h s)) ?_ rfl ?_
 ·simp only[results,Tryz.results32];go_simp;simp[Sa.eG]
 ·refine⟨⟨Ue,Ud,pA',pc',A',c'⟩,_,rfl,aq,?_⟩;refine QDJ ?_;refine⟨?_,?_,?_⟩
  ·iterate 4 (refine dh ?_ (eZ OK3.out E4.out nU))
   exact OK3.out
  ·iterate 4 (refine dh ?_ (eZ OP3.out E4.out nU))
   exact OP3.out
  ·rw[show(Sa.eG h s).bars.length=h.bars.length+1 by simp[Sa.eG],show(Sa.eG h s).bars.flatMap aI=h.bars.flatMap aI++[.int .i64 s] by simp[Sa.eG,aI]];iterate 4 (refine dh ?_ (eZ OB3.out E4.out nU))
   exact OB3.out
section
open Hd
theorem abd{t:aW}{ls a:List bz}{n:Nat}{d:cE}{w w' X:nJ}{e:Ending}(hv:aG t=true)(hl:ls.length<=30)(hd:dJ (bY t) ls=(d,a))(hn:a.length=n)(h:AU t ls w e w')[hX:Le X.heap.size w]:∃v,e=.returned v/\(au w.heap.size w w'/\Le w.heap.size w')/\RR X.heap.size n a d (.int .i64 0) v w':=by
 subst hn;have hr:kQ t ls=((a,d.aC.map (·.line)),d.az,0):=by unfold kQ;rw[if_neg (by rw[hv];decide),if_neg nQ,hd]
 unfold AU at h;rw[hr] at h;obtain⟨aA,ac,r',lA,lc,δ,rfl,rfl,h1,h2,h3⟩:=h;simp only[List.length_map] at h3 ⊢;exact⟨_,rfl,⟨inferInstance,inferInstance⟩,_,_,_,rfl,⟨_,_,rfl,de h1 hX.out⟩,⟨_,rfl,h2.mono hX.out⟩,⟨_,_,rfl,de h3 hX.out⟩⟩
def preB(r:aQ)(t:aW)(sz pk pp:Int)(g4:Nat):Nat->nK->nJ->Prop
 |0,v,_=>v=aO r t
 |1,v,W=>∃r',v=aO r' t/\aJ W.heap.size W r' t
 |2,v,_=>v=.string (str (aao sz))
 |3,v,_=>v=.pointer (some ⟨g4,0,none⟩)
 |4,v,_=>v=.int .i64 pk
 |5,v,_=>v=.pointer (some ⟨g4,1,none⟩)
 |6,v,_=>v=.int .i64 pp
 |7,v,W=>∃A,v=.slice A 2 2/\Sl aI W.heap.size W A 2 [pk,pp]
 |8,v,_=>v=.string (str (uh ⟨.part,[pk,pp]⟩))
 |_,v,W=>∃A,v=.slice A 3 3/\Sl aX W.heap.size W A 3 (aap sz ⟨pk,pp⟩)
theorem aaS(sz:Int):aaC [119,104,101,110,32,98,117,121,32,62,32,48,32,116,104,101,110,32,98,97,114,114,101,108] [sz] 1=aao sz:=by simp[aaC,aao,aaz,zZ,lY,iY,cj]
theorem aaZ{sz:Int}{p:Sa.Part}(hs:0<=sz/\sz<=99)(hp:Vc ⟨.part,[p.kind,p.bC]⟩):∀x∈aap sz p,x.length<=1000:=by
 intro x hx;simp only[aap,List.mem_cons,List.not_mem_nil,or_false] at hx;rcases hx with rfl|rfl|rfl
 ·rw[<-aaS sz];have:=aaM (x:=[119,104,101,110,32,98,117,121,32,62,32,48,32,116,104,101,110,32,98,97,114,114,101,108]) (a:=[sz]) (fun y hy=>by rw[List.mem_singleton.1 hy];omega) 1;simp at this ⊢;omega
 ·rw[<-aaX];have:=aaM (x:=cj .part) (a:=[p.kind,p.bC]) hp.2 2;simp[cj] at this ⊢;omega
 ·decide
theorem aba(sz pk pp:Int):(#[.string (str (aao sz)),.string (str (uh ⟨.part,[pk,pp]⟩)),.string ⟨#[115,97,108,116]⟩]:Array nK).toList=(aap sz ⟨pk,pp⟩).flatMap aX:=by show _=[Value.string (str (aao sz)),.string (str (uh ⟨.part,[pk,pp]⟩)),.string (str (uh ⟨.fU,[]⟩))];rfl
theorem ab0(r:aQ)(t:aW)(p:Sa.Part)(B:Nat)(w:nJ)(hT:aJ B w r t)[hB:Le B w][h8:Le 8 w](hL:cT w):Calls nH 7 #[aO r t,.agg #[.int .i64 p.kind,.int .i64 p.bC]] w fun e w'=>e=.returned (.bool true)/\∃δ,w'=af w δ:=by
 have H:=qh hT;have HL:=qh hL;clear hT hL;obtain⟨pk,pp⟩:=p;go_enter Tryz.func7,Tryz.ntmps7;go_upto_region 1 with fail;obtain⟨g4,J2⟩:∃g,w.heap.size+1=g:=⟨_,rfl⟩;refine aL fun X hX=>?_;have cJ:Le B X:=fI hX;have dF:au B w X:=gu hX;obtain⟨cU,dA,dD,eI,ju⟩:=Au 8 w hX;have X2:Hid (ax X w.heap.size 39 (aE r t)):=by rw[hX.out];exact qh ((ax.new rfl).alloc _)
 have P2:Hid (ax X g4 74 #[.int .i64 pk,.int .i64 pp]):=by rw[hX.out,<-J2];exact qh (ax.new nV)
 obtain⟨g3,rj⟩:∃g,w.heap.size=g:=⟨_,rfl⟩;rw[rj] at X2 J2 ⊢;rw[J2];have ig3:Lt g3 X:=X2.out.lt;have ig4:Lt g4 X:=P2.out.lt;clear hX rj J2;go_wp2_with (refine av ai rfl _ rfl rfl X2.out rfl ?_);refine(QM r t [] none 0 B _ H.out.up Sl.none_).mono ?_;unfold Ep;rintro e w1 ⟨b,δ1,rfl,rfl,hf⟩;cases b with
 |true=>
  clear hf
  go_wp2_with (go_at_call 10;refine(aav _ HL.out.up).mono ?_;rintro e w1 ⟨rfl,δ2,rfl⟩)
  go_ret
  exact⟨rfl,ag⟩
 |false=>
 clear hf;rcases hv:aG t with _|_
 ·have HV:=qh (show cC (aG t) 120=120 by rw[hv];rfl);clear hv;go_wp2_with (first|(refine aT ai nY _ rfl rfl (ax.dM X2.out) rfl ?_)|(go_at_call 9;refine(ct r t B _ H.out.up).mono ?_;rw[HV.out];rintro e w1 ⟨rfl,δ2,rfl⟩)|(go_at_call 10;refine(aav _ HL.out.up).mono ?_;rintro e w1 ⟨rfl,δ2,rfl⟩));go_ret;exact⟨rfl,ag⟩
 have HVE:=qh (show cC (aG t) 120=0 by rw[hv];rfl);have HV:=qh hv;have mW:=qh (iD hv);clear hv;go_wp2_with (first|(refine aT ai nY _ rfl rfl (ax.dM X2.out) rfl ?_)|(go_at_call 9;refine(ct r t B _ H.out.up).mono ?_;rw[HVE.out];rintro e w1 ⟨rfl,δ2,rfl⟩));refine(iJ r t mW.out B _ H.out.up).mono ?_;rintro e Y ⟨rc,δ3,rfl,hY,hc⟩;rw[<-hY] at hc;have y1:au w.heap.size w Y:=by rw[hY];infer_instance
 have y2:Le w.heap.size Y:=by rw[hY];infer_instance
 have y3:au X.heap.size X Y:=by rw[hY];infer_instance
 have y4:Le X.heap.size Y:=by rw[hY];infer_instance
 have aa1:Hid (aK X.heap.size Y rc t):=qh (hc.mono (inferInstance:Le X.heap.size (af (af X δ1) δ2)).out);clear hY hc;obtain⟨g5,XD⟩:∃g,Y.heap.size=g:=⟨_,rfl⟩;go_upto_region 4 with(refine jR (cs':=aE rc t) ai rfl _ _ rfl (by rw[XD];rfl) rfl rfl rfl (aM _ _) ?_);refine aL fun W1 aH=>?_;have a1:au w.heap.size w W1:=gu aH;have a2:Le w.heap.size W1:=fI aH;have a3:au X.heap.size X W1:=gu aH;have a4:Le X.heap.size W1:=fI aH;have B5:Hid (ax W1 g5 39 (aE rc t)):=by rw[aH.out];exact qh (ax.new XD.symm)
 have O5:Hid (aK X.heap.size W1 rc t):=by rw[aH.out];exact qh (aa1.out.alloc _)
 have aa4:Hid (X.heap.size<=g5):=qh (by rw[<-XD];exact y4.out);clear aH aa1 y1 y2 y3 y4 XD;have lPa:t.aa.parts.length<=1000:=mW.out.2.2.2.1;have abX:=B5.out.az.2.2.2.2.2.2.2.2.2.2.2.2.1;have free5:=B5.out.free 12;have ig5:Lt g5 W1:=B5.out.lt;have P1:Hid (ax W1 g4 74 #[.int .i64 pk,.int .i64 pp]):=qh (ax.dM P2.out);have pc0:=P1.out.cell (i:=0) (v:=.int .i64 pk) rfl;have pc1:=P1.out.cell (i:=1) (v:=.int .i64 pp) rfl;have ig4w:Lt g4 W1:=P1.out.lt;go_upto_region 5 with(at_builtin;(refine jK X Th (.tmp 29) (.tmp 31) rfl rfl (v:=.slice rc.aa.pA t.aa.parts.length rc.aa.pc) (n:=t.aa.parts.length) (xs:=t.aa.parts.flatMap jD) (aK.Lo (O5.out.alloc _)) rfl (B:=W1.heap.size+1) (A:=some ⟨W1.heap.size,0,none⟩) (m:=1) (c:=1) (news:=jD ⟨pk,pp⟩) rfl (gi rfl) rfl (vu ⟨pk,pp⟩) nQ nQ ?_);intro A2 c2 δ4 iE mU;have O6:=qh (aK.Jj (O5.out.alloc _) mU iE);have C6:=qh (fJ (b:=g5) (T:=39) (cs:=aE rc t) (B5.out.alloc _) (aK.Lo (O5.out.alloc _)) nU mU);have C6c:=C6.out.az.2.2.2.2.2.2.2.2.2.2.2.2.1;have C6f:=C6.out.free 12;have C6l:=C6.out.lt);obtain⟨aa5,hWa⟩:∃W,ez X.heap.size (W1.alloc (.cells #[.int .i64 pk,.int .i64 pp] 74)) δ4=W:=⟨_,rfl⟩;rw[hWa] at O6 C6 C6l ⊢;have b1:au X.heap.size X aa5:=by rw[<-hWa];infer_instance
 have b2:Le X.heap.size aa5:=by rw[<-hWa];infer_instance
 clear hWa iE mU C6c C6f O5 B5 abX free5 ig5 P1 pc0 pc1 ig4w a1 a2 a3 a4;refine aL fun W2 eJ=>?_;have iLX:oy X.heap.size g5:=⟨aa4.out⟩;have iLB:oy B X.heap.size:=⟨(inferInstance:Le B X).out⟩;have c1':au X.heap.size X W2:=by rw[eJ.out];infer_instance
 have c2':Le X.heap.size W2:=by rw[eJ.out];infer_instance
 obtain⟨ro,hro⟩:∃x:aQ,(⟨rc.aF,rc.ah,⟨rc.aa.kA,rc.aa.kc,A2,c2,rc.aa.bA,rc.aa.bc⟩⟩)=x:=⟨_,rfl⟩;have aa6:Hid (ax W2 g5 39 (aE ro (aaj t ⟨pk,pp⟩))):=by rw[eJ.out,<-hro];unfold aaj;rw[EJ];exact qh (C6.out.set 12 _)
 have O7:Hid (aK X.heap.size W2 ro (aaj t ⟨pk,pp⟩)):=by rw[eJ.out,<-hro];exact qh (O6.out.ep C6.out nU _)
 clear eJ C6 O6 hro b1 b2;have gS:=c1';have lS:=c2';have k1:au w.heap.size w W2:=dQ (inferInstance:au w.heap.size w X) gS;have k2:Le w.heap.size W2:=⟨nT (inferInstance:Le w.heap.size X).out lS.out⟩;have k3:au B w W2:=⟨⟨k1.out.1,k1.out.2.1,k1.out.2.2.1,fun b hb=>k1.out.2.2.2 b (nL hb hB.out)⟩⟩;have k4:Le B W2:=⟨nT hB.out k2.out⟩;have k5:au 8 w W2:=⟨⟨k1.out.1,k1.out.2.1,k1.out.2.2.1,fun b hb=>k1.out.2.2.2 b (nL hb h8.out)⟩⟩;have k6:Le 8 W2:=⟨nT h8.out k2.out⟩;have k7:Le W2.heap.size W2:=⟨nR _⟩;have aa7:Hid (ax W2 g3 39 (aE r t)):=qh (ax.dM X2.out);have aa8:Hid (ax W2 g4 74 #[.int .i64 pk,.int .i64 pp]):=qh (ax.dM P2.out);obtain⟨tw,hto⟩:∃x,aaj t ⟨pk,pp⟩=x:=⟨_,rfl⟩;have HTO:=qh hto;rw[hto] at aa6 O7;have aaa:Hid (aJ W2.heap.size W2 ro tw):=qh O7.out.is;have IT7:Hid (aJ W2.heap.size W2 r t):=qh H.out.wide;clear hto gS lS iLX iLB X2 P2 C6l;go_wp2_with (refine av ai rfl _ rfl rfl aa6.out rfl ?_);refine(QM ro tw [] none 0 W2.heap.size _ aaa.out.up Sl.none_).mono ?_;unfold Ep;rintro e w1 ⟨b,δ5,rfl,rfl,hf⟩;cases b with
 |true=>
  clear hf
  go_wp2_with (go_at_call 10;refine(aav _ HL.out.up).mono ?_;rintro e w1 ⟨rfl,δ2,rfl⟩)
  go_ret
  exact⟨rfl,ag⟩
 |false=>
 clear hf;rcases lI:aG tw with _|_
 ·have HVo:=qh (show cC (aG tw) 120=120 by rw[lI];rfl);clear lI;go_wp2_with (first|(refine aT ai nY _ rfl rfl (ax.dM aa6.out) rfl ?_)|(go_at_call 9;refine(ct ro tw W2.heap.size _ aaa.out.up).mono ?_;rw[HVo.out];rintro e w1 ⟨rfl,δ6,rfl⟩)|(go_at_call 10;refine(aav _ HL.out.up).mono ?_;rintro e w1 ⟨rfl,δ2,rfl⟩));go_ret;exact⟨rfl,ag⟩
 have abq:=qh (show cC (aG tw) 120=0 by rw[lI];rfl);have HVo:=qh lI;have qg:=qh (cr.1 HV.out).2.2;have HH2:=qh (cr.1 lI).2.2;clear lI;rcases Decidable.em (Sa.bL t.aa=[]) with hp|hp
 ·have HPk:Hid ((kH t.aa).2=3):=qh (by unfold kH;rw[if_pos hp]);clear hp;go_wp2_with (first|(refine aT ai nY _ rfl rfl (ax.dM aa6.out) rfl ?_)|(go_at_call 9;refine(ct ro tw W2.heap.size _ aaa.out.up).mono ?_;rw[abq.out];rintro e w1 ⟨rfl,δ6,rfl⟩)|(refine cz PK rfl _ rfl rfl (ax.dM aa7.out) (cs':=#[.slice r.aa.kA t.aa.kinds.length r.aa.kc,.int .i64 t.aa.floor,.slice r.aa.pA t.aa.parts.length r.aa.pc,.slice r.aa.bA t.aa.bars.length r.aa.bc]) rfl rfl ?_)|(go_at_call 29;refine(Dn r.aa t.aa qg.out W2.heap.size _ IT7.out.2.2.up).mono ?_;unfold Sz;rintro e w1 ⟨kA,km,kc,δ7,rfl,hm,hs,rfl⟩;rw[HPk.out];clear hm hs)|(go_at_call 10;refine(aav _ HL.out.up).mono ?_;rintro e w1 ⟨rfl,δ2,rfl⟩));go_ret;exact⟨rfl,ag⟩
 have HPk:Hid ((kH t.aa).2=0):=qh (by unfold kH;rw[if_neg hp]);have HPN:=qh hp;obtain⟨sz,hsz⟩:∃x,Sa.rJ tw.aa=x:=⟨_,rfl⟩;obtain⟨be,XM⟩:∃x,Sa.tY tw.aa=x:=⟨_,rfl⟩;have hbd:=aaY HH2.out;rw[hsz] at hbd;have Ri:be=0\/be=2\/be=3:=by
  rw[<-XM];unfold Sa.tY;split
  ·exact .inl rfl
  ·split
   ·exact .inr (.inl rfl)
   ·split
    ·exact .inr (.inr rfl)
    ·exact .inl rfl
 have HBU:Hid (∀W,au W2.heap.size W2 W->Le W2.heap.size W->Calls nH 30 #[fA ro.aa tw.aa] W fun e w'=>e=.returned (.tuple #[.int .i64 sz,.int .i64 be])/\∃δ,w'=af W δ):=qh fun W i1 i2=>by have:=Wu ro.aa tw.aa HH2.out W2.heap.size W aaa.out.2.2.up;unfold Vn at this;rw[hsz,XM] at this;exact this
 have HSZ:=qh hsz;have SJ:=qh XM;have hz0:¬sz<0:=nQ;have hz9:¬(99:Int)<sz:=nQ;clear hp hsz XM;go_upto_region 11 with(first|(refine aT ai nY _ rfl rfl (ax.dM aa6.out) rfl ?_)|(go_at_call 9;refine(ct ro tw W2.heap.size _ aaa.out.up).mono ?_;rw[abq.out];rintro e w1 ⟨rfl,δ6,rfl⟩)|(refine cz PK rfl _ rfl rfl (ax.dM aa7.out) (cs':=#[.slice r.aa.kA t.aa.kinds.length r.aa.kc,.int .i64 t.aa.floor,.slice r.aa.pA t.aa.parts.length r.aa.pc,.slice r.aa.bA t.aa.bars.length r.aa.bc]) rfl rfl ?_)|(refine cz PK rfl _ rfl rfl (ax.dM aa6.out) (cs':=#[.slice ro.aa.kA tw.aa.kinds.length ro.aa.kc,.int .i64 tw.aa.floor,.slice ro.aa.pA tw.aa.parts.length ro.aa.pc,.slice ro.aa.bA tw.aa.bars.length ro.aa.bc]) rfl rfl ?_)|(go_at_call 29;refine(Dn r.aa t.aa qg.out W2.heap.size _ IT7.out.2.2.up).mono ?_;unfold Sz;rintro e w1 ⟨kA,km,kc,δ7,rfl,hm,hs,rfl⟩;rw[HPk.out];clear hm hs)|(go_at_call 30;refine(HBU.out _ inferInstance inferInstance).mono ?_;rintro e w1 ⟨rfl,δ8,rfl⟩));refine aL fun W3 bQ=>?_;have d1:au W2.heap.size W2 W3:=gu bQ;have d2:Le W2.heap.size W3:=fI bQ;have d3:au w.heap.size w W3:=gu bQ;have d4:Le w.heap.size W3:=fI bQ;clear bQ HBU abq;go_cut [75] from 58 to 74 (fun s75 wx=>s75=.bool false/\W3=wx);case first=>rcases Ri with rfl|rfl|rfl;all_goals go_wp2_with fail;go_meet;exact⟨by rw[decide_eq_false (show ¬sz<0 by omega),decide_eq_false (show ¬(99:Int)<sz by omega)];rfl,rfl⟩
 case rest=>
 obtain⟨rfl,rfl⟩:=hcut;go_wp2_with fail;refine gm fun U hU=>?_;have slU:Sl aI U.heap.size U (some ⟨W3.heap.size,0,none⟩) 1 [sz]:=by rw[<-hU];exact p9 [sz] (ax.new rfl) (nR _) nV rfl
 have u1:au W2.heap.size W2 U:=by rw[<-hU];infer_instance
 have u2:Le W2.heap.size U:=by rw[<-hU];infer_instance
 have u3:au w.heap.size w U:=by rw[<-hU];infer_instance
 have u4:Le w.heap.size U:=by rw[<-hU];infer_instance
 clear hU;refine(aaU [119,104,101,110,32,98,117,121,32,62,32,48,32,116,104,101,110,32,98,97,114,114,101,108] nU [sz] nV (fun y hy=>by rw[List.mem_singleton.1 hy];omega) (aao sz) (aaS sz) _ 1 U.heap.size U slU (hB:=⟨nR _⟩)).mono ?_;rintro e w1 ⟨rfl,δ9,rfl⟩;clear slU;go_upto_region 14 with fail;refine aL fun W4 jQ=>?_;have f1:au W2.heap.size W2 W4:=gu jQ;have f2:Le W2.heap.size W4:=fI jQ;have f3:au w.heap.size w W4:=gu jQ;have f4:Le w.heap.size W4:=fI jQ;clear jQ u1 u2 u3 u4 d1 d2 d3 d4;have X8:Hid (ax W4 g3 39 (aE r t)):=qh (ax.dM aa7.out);have aac:Hid (ax W4 g5 39 (aE ro tw)):=qh (ax.dM aa6.out);have aad:Hid (ax W4 g4 74 #[.int .i64 pk,.int .i64 pp]):=qh (ax.dM aa8.out);have O8:Hid (aK X.heap.size W4 ro tw):=qh O7.out.up;have IT8:Hid (aJ W4.heap.size W4 r t):=qh IT7.out.wide;clear aa7 aa6 aa8 O7 IT7 aaa;have HPW:=qh (aaE (t:=t) (p:=⟨pk,pp⟩) (by rw[HTO.out];exact HVo.out));obtain⟨D1,Rq⟩:∃d,dJ (bY t) (aap sz ⟨pk,pp⟩)=d:=⟨_,rfl⟩;obtain⟨⟨td,od,nd⟩,al⟩:=D1;have hal:=sD (aap sz ⟨pk,pp⟩) (bY t);rw[Rq] at hal;replace hal:al.length=3:=hal;have HAL:=qh hal;have Bh:=qh Rq;have HSB:=qh hbd;clear Rq hal;have HR:Hid (∀(W:nJ) (r':aQ) (A:Option Addr),au W4.heap.size W4 W->Le W4.heap.size W->au 8 w W->Le 8 W->aJ W.heap.size W r' t->Sl aX W.heap.size W A 3 (aap sz ⟨pk,pp⟩)->Calls nH 14 #[aO r' t,.slice A 3 3] W (AU t (aap sz ⟨pk,pp⟩) W)):=
  qh fun W r' A _ _ _ _ ht hs=>L0 r' t (aap sz ⟨pk,pp⟩) A 3 HV.out (by show 3<=30;omega) (aaZ HSB.out HPW.out) W.heap.size W ht HL.out.up hs (hB:=⟨nR _⟩)
 refine C0 10 W4 (preB r t sz pk pp g4) (F:=_) (n:=3) (a:=al) (d:=⟨td,od,nd⟩) (z:=.int .i64 0) (fun vs=>by simp only[OH.jH,Act.put,List.getElem_toArray,List.getElem_cons_succ,List.getElem_cons_zero,List.setIfInBounds_toArray,List.set_cons_zero,List.set_cons_succ,Nat.reduceAdd];rfl) ⟨inferInstance,inferInstance⟩ ?hU ?hpre ?hcall ?hend (.tmp 12) (.tmp 92) ai ⟨rfl,rfl⟩ ⟨rfl,rfl⟩ ⟨rfl,rfl⟩ ⟨rfl,rfl⟩ ⟨rfl,rfl⟩ ⟨rfl,rfl⟩ ⟨rfl,rfl⟩ ⟨rfl,rfl⟩ ⟨rfl,rfl⟩ ⟨rfl,rfl⟩ ?r1 ?r2 ?r6 ?r7 ?r8 nP;case hU=>
  intro i v W W' hi h g l;match i,hi with
  |0,_=>exact h
  |1,_=>obtain⟨r',e,k⟩:=h;exact⟨r',e,k.wide⟩
  |2,_=>exact h
  |3,_=>exact h
  |4,_=>exact h
  |5,_=>exact h
  |6,_=>exact h
  |7,_=>obtain⟨A,e,k⟩:=h;exact⟨A,e,k.wide⟩
  |8,_=>exact h
  |9,_=>obtain⟨A,e,k⟩:=h;exact⟨A,e,k.wide⟩
 case hpre=>
  intro put i hi vs W hd gS lS;have aaf:=ax.dM (hg:=gS) aad.out;have pc0:=aaf.cell (i:=0) (v:=.int .i64 pk) rfl;have pc1:=aaf.cell (i:=1) (v:=.int .i64 pp) rfl;have ig4w:Lt g4 W:=aaf.lt;match i,hi with
  |0,_=>exact Ll put rfl (cV (S:=fun W=>au W4.heap.size W4 W) ai nY _ rfl rfl (fun W h=>ax.dM (hg:=h) X8.out) rfl) gS rfl
  |1,_=>
   have h0:vs 0=aO r t:=hd 0 nP nU
   refine zv put rfl rfl nW (iJ r t mW.out W.heap.size W IT8.out.wide (hB:=⟨nR _⟩)) ?_
   rintro e w' ⟨r',δ,rfl,rfl,hc⟩
   exact⟨_,rfl,⟨inferInstance,inferInstance⟩,r',rfl,hc.is⟩
  |2,_=>exact qq (w':=W) put rfl rfl nW ⟨inferInstance,inferInstance⟩ rfl
  |3,_=>exact qq (w':=W) put rfl rfl nW ⟨inferInstance,inferInstance⟩ rfl
  |4,_=>
   have h3:vs 3=.pointer (some ⟨g4,0,none⟩):=hd 3 nP nU
   exact qq (w':=W) (v:=.int .i64 pk) put rfl rfl nW ⟨inferInstance,inferInstance⟩ rfl
  |5,_=>exact qq (w':=W) put rfl rfl nW ⟨inferInstance,inferInstance⟩ rfl
  |6,_=>
   have h5:vs 5=.pointer (some ⟨g4,1,none⟩):=hd 5 nP nU
   exact qq (w':=W) (v:=.int .i64 pp) put rfl rfl nW ⟨inferInstance,inferInstance⟩ rfl
  |7,_=>
   have h4:vs 4=.int .i64 pk:=hd 4 nP nU
   have h6:vs 6=.int .i64 pp:=hd 6 nP nU
   exact qq (v:=.slice (some ⟨W.heap.size,0,none⟩) 2 2) (w':=W.alloc (.cells #[.int .i64 pk,.int .i64 pp] 3)) put rfl rfl (by go_simp<;>rfl) ⟨inferInstance,inferInstance⟩ ⟨_,rfl,p9 [pk,pp] (ax.new rfl) (nR _) nV rfl⟩
  |8,_=>
   obtain⟨A,h7,hs⟩:=hd 7 nP nU
   refine zv put rfl rfl (by go_simp<;>rfl) (aaU [112,97,114,116] nU [pk,pp] nV HPW.out.2 (uh ⟨.part,[pk,pp]⟩) (aaX ⟨.part,[pk,pp]⟩) A 2 W.heap.size W hs (hB:=⟨nR _⟩)) ?_
   rintro e w' ⟨rfl,δ,rfl⟩
   exact⟨_,rfl,⟨inferInstance,inferInstance⟩,rfl⟩
  |9,_=>
   have h2:vs 2=.string (str (aao sz)):=hd 2 nP nU
   have h8':vs 8=.string (str (uh ⟨.part,[pk,pp]⟩)):=hd 8 nP nU
   exact qq (v:=.slice (some ⟨W.heap.size,0,none⟩) 3 3) (w':=W.alloc (.cells #[.string (str (aao sz)),.string (str (uh ⟨.part,[pk,pp]⟩)),.string ⟨#[115,97,108,116]⟩] 9)) put rfl rfl (by go_simp<;>rfl) ⟨inferInstance,inferInstance⟩ ⟨_,rfl,fE (ls:=aap sz ⟨pk,pp⟩) (ax.new rfl) (aba sz pk pp) (by show 3<=1000;omega)⟩
 case hcall=>intro put vs W hd gS lS;obtain⟨r',h1,ht⟩:=hd 1 nP nU;obtain⟨A,h9,hs⟩:=hd 9 nP nU;have k1:au w.heap.size w W:=dQ (inferInstance:au w.heap.size w W4) gS;have k2:Le w.heap.size W:=⟨nT (inferInstance:Le w.heap.size W4).out lS.out⟩;refine QBI ?_;intro k3 k4 k5 k6;have k7:Le W.heap.size W:=⟨nR _⟩;exact zv put rfl rfl nW (HR.out W r' A gS lS k5 k6 ht hs) fun e w' h=>abd HV.out (by show 3<=30;omega) Bh.out HAL.out h
 case r1=>intro vs W;go_simp
 case r2=>intro vs W v1 v2 v3 h;exact⟨nW,nW,nW,nW⟩
 case r6=>intro vs W;go_simp;rfl
 case r7=>intro vs W;exact⟨nW,nW,nW⟩
 case r8=>exact⟨rfl,fun vs=>⟨rfl,rfl⟩⟩
 case hend=>
  intro vs W5 aA ac rN lA lc ga e6 e7 e9 eA gS lS hA hT hL C9 hgb;replace e6:vs 16=.pointer (some ⟨ga,0,none⟩):=e6;replace e7:vs 17=.slice aA 3 ac:=e7;replace e9:vs 19=.slice lA od.length lc:=e9;replace eA:vs 20=.int .i64 0:=eA;simp only[e6,e7,e9,eA];have E5:=qh C9;have OA5:=qh hA;have OT5:=qh hT;have OL5:=qh hL;have C5:Hid (ax W5 g5 39 (aE ro tw)):=qh (ax.dM (hg:=gS) aac.out);have O9:Hid (aK X.heap.size W5 ro tw):=qh O8.out.up;have HG5:Hid (g5≠ga/\g5<W4.heap.size/\w.heap.size<=g5):=qh (by have h1:=aac.out.tN;have h2:=aa4.out;have h3:=(inferInstance:Le w.heap.size X).out;exact⟨nQ,h1,nQ⟩);clear hA hT hL C9 hgb X8 aac aad O8 IT8 HR HPW aa4;have k1:au w.heap.size w W5:=dQ (inferInstance:au w.heap.size w W4) gS;have k2:Le w.heap.size W5:=⟨nT (inferInstance:Le w.heap.size W4).out lS.out⟩;have k3:au B w W5:=⟨⟨k1.out.1,k1.out.2.1,k1.out.2.2.1,fun b hb=>k1.out.2.2.2 b (nL hb hB.out)⟩⟩;have k4:Le B W5:=⟨nT hB.out k2.out⟩;have k5:au 8 w W5:=⟨⟨k1.out.1,k1.out.2.1,k1.out.2.2.1,fun b hb=>k1.out.2.2.2 b (nL hb h8.out)⟩⟩;have k6:Le 8 W5:=⟨nT h8.out k2.out⟩;have k7:Le W5.heap.size W5:=⟨nR _⟩;obtain⟨l0,l1,l2,rfl⟩:∃a b c,al=[a,b,c]:=by
   match al,HAL.out with
   |[a,b,c],_=>exact⟨a,b,c,rfl⟩
  have HSV:Hid (aG (aaj t ⟨pk,pp⟩)=true):=qh (by rw[HTO.out];exact HVo.out);by_cases hy:be=0/\0<sz
  ·obtain⟨hy1,hz⟩:=hy;have hb:=ab9 HPN.out HSV.out (by rw[HTO.out,SJ.out];exact hy1) (by rw[HTO.out,HSZ.out];exact hz);have hne:=ab2 HSV.out (by rw[HTO.out,SJ.out];exact hy1) (by rw[HTO.out,HSZ.out];exact hz);have hmv:=zM HH2.out (by rw[SJ.out];exact hy1) (by rw[HSZ.out];exact hz);rw[HTO.out,HSZ.out] at hb hne;rw[HSZ.out] at hmv;rw[Bh.out] at hb;injection hb with q1 q2;injection q1 with q3 q4 q5;injection q2 with q6 q7;injection q7 with q8 q9;injection q9 with wu _;have hvb:aG (aaD tw sz)=true:=cr.2 ⟨(cr.1 HVo.out).1,(cr.1 HVo.out).2.1,hmv⟩;have hsr:pI (Sa.eG tw.aa sz)=((pI (Sa.eG tw.aa sz)).1,0):=by unfold pI;rw[if_neg hne]
   have hx2:l2=Lib.itoa (pI (Sa.eG tw.aa sz)).1:=by rw[wu];show nj (pI (Sa.eG tw.aa sz)).2 (Lib.itoa (pI (Sa.eG tw.aa sz)).1)=_;rw[hsr];rfl
   have CD:-1500<=(pI (Sa.eG tw.aa sz)).1/\(pI (Sa.eG tw.aa sz)).1<=10000:=KO hvb ⟨.fU,[]⟩;obtain⟨aag,hsn⟩:∃x,(pI (Sa.eG tw.aa sz)).1=x:=⟨_,rfl⟩;rw[hsn] at hsr hx2 CD;have Yt:=qh hsr;have HVB:=qh hmv;have abv:=qh fun W:nJ=>abf aag 0 (fun _=>by omega) l2 (by rw[hx2];rfl) W;have rR:=iD HVo.out;subst hy1 q3 q4 q6 q8;obtain⟨tb,htb⟩:∃x,aaD tw sz=x:=⟨_,rfl⟩;have HTB:=qh htb;rw[htb] at OT5 E5;have SA5:Hid (Sl aX W5.heap.size W5 aA ac [iq,iq++lZ 0 true,l2]):=qh (sy OA5.out rfl);obtain⟨sb,so,hA1,xj,e0⟩:=SA5.out.mh (k:=0) nV;have isb:Lt sb W5:=⟨xj⟩;subst hA1;replace e0:W5.cell? ⟨sb,so,none⟩=some (.string ⟨#[111,107]⟩):=e0;clear q5 wu hsr hx2 CD hsn hne hmv htb xj;have HMO:=qh fun(W:nJ) (_:au W5.heap.size W5 W) (_:Le W5.heap.size W)=>abg ro.aa tw.aa sz W5.heap.size W (by exact(O9.out.is.2.2.up)) rR.2.2.1 rR.2.2.2.1 rR.2.2.2.2;go_upto_region 19 with(first|(refine cz PK rfl _ rfl rfl (ax.dM C5.out) (cs':=#[.slice ro.aa.kA tw.aa.kinds.length ro.aa.kc,.int .i64 tw.aa.floor,.slice ro.aa.pA tw.aa.parts.length ro.aa.pc,.slice ro.aa.bA tw.aa.bars.length ro.aa.bc]) rfl rfl ?_)|(go_at_call 32;refine(HMO.out _ inferInstance inferInstance).mono ?_;rintro e w1 ⟨rm,tF,rfl,rfl,hm⟩;have HM:=qh hm;clear hm)|(refine mZ PK rfl _ _ rfl rfl rfl (C5.out.af _) rfl (nR _) (by simp[Value.oneCell']) (Ya:=aE ⟨ro.aF,ro.ah,rm⟩ tb) (by rw[<-HTB.out];rfl) ?_;intro W6 C6 k6));have n1:au w.heap.size w W6:=cm k6 HG5.out.2.2;have n2:Le w.heap.size W6:=dB k6;have n5:au 8 w W6:=⟨⟨n1.out.1,n1.out.2.1,n1.out.2.2.1,fun b hb=>n1.out.2.2.2 b (nL hb h8.out)⟩⟩;have n6:Le 8 W6:=⟨nT h8.out n2.out⟩;have n7:Le W6.heap.size W6:=⟨nR _⟩;have aai:=C5.out.af tF;have lX5:X.heap.size<=W5.heap.size:=by have h1:=c2'.out;have h2:=f2.out;have h3:=lS.out;omega
   have OTB:aK X.heap.size (af W5 tF) ⟨ro.aF,ro.ah,rm⟩ tb:=by rw[<-HTB.out];exact⟨O9.out.up.1,O9.out.up.2.1,HM.out.mono lX5⟩
   have OT6:Hid (aJ W6.heap.size W6 ⟨ro.aF,ro.ah,rm⟩ tb):=qh (OTB.aR k6 aai nU).is;have OR6:Hid (aJ W6.heap.size W6 rN tb):=qh ((OT5.out.up (W:=af W5 tF)).aR k6 aai nU).is;have E6:Hid (ax W6 ga 39 (aE rN tb)):=qh ((E5.out.af tF).eM k6 (fun e=>HG5.out.1 e.symm));have SA6:Hid (Sl aX W6.heap.size W6 (some ⟨sb,so,none⟩) ac [iq,iq++lZ 0 true,l2]):=qh (sy (cH (bg (W:=af W5 tF) OA5.out) k6 aai nU) rfl);have HH6:Hid (bT W6.heap.size W6 rm (Sa.eG tw.aa sz)):=by have:=OT6.out.2.2;rw[<-HTB.out] at this;exact qh this
   have C6':=qh C6;clear aai OTB C6 k6 HM HMO E5 OA5 OT5 OL5 C5 O9 HG5 lX5 isb e0 SA5;obtain⟨b1,o1,hA1,kL,f1⟩:=SA6.out.mh (k:=1) nV;injection hA1 with hA1;injection hA1 with vU NQ;subst vU NQ;obtain⟨b2,o2,hA1,gM,f2'⟩:=SA6.out.mh (k:=2) nV;injection hA1 with hA1;injection hA1 with vU NQ;subst vU NQ;have isb:Lt sb W6:=⟨kL⟩;have hs1:str (nth [iq,iq++lZ 0 true,l2] 1)=⟨#[111,107,32,48,58,111,107]⟩:=by show str (iq++lZ 0 true)=_;rw[show iq++lZ 0 true=[111,107,32,48,58,111,107] by decide +kernel];rfl
   rw[hs1] at f1;clear hs1;replace f2':W6.cell? ⟨sb,so+2,none⟩=some (.string (str l2)):=f2';clear kL gM gS lS;go_upto_region 20 with(first|(refine cz PK rfl _ rfl rfl (ax.dM C6'.out) (cs':=#[.slice rm.kA (Sa.eG tw.aa sz).kinds.length rm.kc,.int .i64 (Sa.eG tw.aa sz).floor,.slice rm.pA (Sa.eG tw.aa sz).parts.length rm.pc,.slice rm.bA (Sa.eG tw.aa sz).bars.length rm.bc]) (by rw[<-HTB.out];rfl) rfl ?_)|(go_at_call 18;refine(PB rm (Sa.eG tw.aa sz) HVB.out W6.heap.size _ HH6.out.up).mono ?_;rw[Yt.out];rintro e w1 ⟨rfl,δ11,rfl⟩));obtain⟨Z8,GD⟩:∃Z,af W6 δ11=Z:=⟨_,rfl⟩;have z1:au W6.heap.size W6 Z8:=by rw[<-GD];infer_instance
   have z2:Le W6.heap.size Z8:=by rw[<-GD];infer_instance
   have z3:au w.heap.size w Z8:=by rw[<-GD];infer_instance
   have z4:Le w.heap.size Z8:=by rw[<-GD];infer_instance
   have z5:au 8 w Z8:=by rw[<-GD];infer_instance
   have z6:Le 8 Z8:=by rw[<-GD];infer_instance
   rw[GD];clear GD;have g1:=(aZ z1.out _ _ isb.out).trans f1;have g2:=(aZ z1.out _ _ isb.out).trans f2';have isz:Lt sb Z8:=⟨nL isb.out z2.out⟩;clear f1 f2' isb;have HXE:Hid (∀w',(∃δ',w'=af Z8 δ')->ax w' ga 39 (aE rN tb)):=qh fun w' hw'=>by obtain⟨δ',rfl⟩:=hw';exact(ax.dM (W:=Z8) E6.out).af _
   have HXF:Hid (∀w',(∃δ',w'=af Z8 δ')->ax w' g5 39 (aE ⟨ro.aF,ro.ah,rm⟩ tb)):=qh fun w' hw'=>by obtain⟨δ',rfl⟩:=hw';exact(ax.dM (W:=Z8) C6'.out).af _
   refine wpRl ?_;repeat (first|go_big_quiet_skip|(refine uc ai nY _ rfl rfl HXE.out rfl ?_;simp only[Act.put,List.setIfInBounds_toArray,List.set_cons_zero,List.set_cons_succ])|(refine uc ai nY _ rfl rfl HXF.out rfl ?_;simp only[Act.put,List.setIfInBounds_toArray,List.set_cons_zero,List.set_cons_succ])|(go_big_quiet_step ((first|(go_at_call 15;exact Calls.bN (abv.out _))|(go_at_call 19;exact Calls.bN (yC rN ⟨ro.aF,ro.ah,rm⟩ tb W6.heap.size _ OR6.out.up OT6.out.up))|(go_at_call 10;exact Calls.bN (aav _ HL.out.up))))))
   refine QBT ?_;rintro _ ⟨δq,rfl⟩;go_wp2_with fail;go_ret;exact⟨rfl,ag⟩
  ·have hb:=abe HPN.out HSV.out (fun h=>hy ⟨by rw[<-SJ.out,<-HTO.out];exact h.1,by rw[<-HSZ.out,<-HTO.out];exact h.2⟩);rw[HTO.out,HSZ.out,Bh.out] at hb;injection hb with q1 q2;injection q1 with q3 q4 q5;injection q2 with q6 q7;injection q7 with q8 q9;injection q9 with wu _;obtain⟨pr,hpr⟩:∃x,pI tw.aa=x:=⟨_,rfl⟩;obtain⟨aag,se⟩:=pr;have CD:-1500<=(pI tw.aa).1/\(pI tw.aa).1<=10000:=KO HVo.out ⟨.fU,[]⟩;have hx2:nj se (Lib.itoa aag)=l2:=by rw[wu];show _=nj (pI tw.aa).2 (Lib.itoa (pI tw.aa).1);rw[hpr]
   rw[hpr] at CD;replace CD:-1500<=aag/\aag<=10000:=CD;have Yt:=qh hpr;have abv:=qh fun W:nJ=>abf aag se (fun _=>by omega) l2 hx2 W;subst q3 q4 q6 q8;have SA5:Hid (Sl aX W5.heap.size W5 aA ac [iq,iq,l2]):=qh (sy OA5.out rfl);have SL5:Hid (Sl aX W5.heap.size W5 lA lc [aao sz]):=qh (sy OL5.out rfl);have ST5:Hid (aJ W5.heap.size W5 rN td):=qh OT5.out.is;have IO5:Hid (aJ W5.heap.size W5 ro td):=qh O9.out.is;clear OA5 OL5 OT5 O9 HG5 q5 wu hx2 hpr HTO Bh;obtain⟨sb,so,hA1,xj,e0⟩:=SA5.out.mh (k:=0) nV;subst hA1;have isb:Lt sb W5:=⟨xj⟩;replace e0:W5.cell? ⟨sb,so,none⟩=some (.string ⟨#[111,107]⟩):=e0;obtain⟨b1,o1,hA1,kL,e1⟩:=SA5.out.mh (k:=1) nV;injection hA1 with hA1;injection hA1 with vU NQ;subst vU NQ;obtain⟨b2,o2,hA1,gM,e2⟩:=SA5.out.mh (k:=2) nV;injection hA1 with hA1;injection hA1 with vU NQ;subst vU NQ;replace e1:W5.cell? ⟨sb,so+1,none⟩=some (.string ⟨#[111,107]⟩):=e1;replace e2:W5.cell? ⟨sb,so+2,none⟩=some (.string (str l2)):=e2;clear xj kL gM gS lS;go_upto_region 17 with fail;go_cut [113] from 108 to 112 (fun s113 wx=>s113=.bool false/\W5=wx);case first=>
    rcases Ri with rfl|rfl|rfl
    ·have hzz:¬0<sz:=fun h=>hy ⟨rfl,h⟩;have hzd:decide (0<sz)=false:=decide_eq_false hzz;go_wp2_with fail;go_meet;exact⟨by first|rfl|(rw[decide_eq_false (show ¬0<sz from fun h=>hy ⟨rfl,h⟩)];done)|(simp only[decide_eq_false (show ¬0<sz from fun h=>hy ⟨rfl,h⟩)]),rfl⟩
    all_goals go_wp2_with fail;go_meet;exact⟨rfl,rfl⟩
   case rest=>
   obtain⟨rfl,rfl⟩:=hcut;have HLE:Hid (∀W,au W5.heap.size W5 W->Le W5.heap.size W->Calls nH 18 #[fA ro.aa td.aa] W fun e w'=>e=.returned (.tuple #[.int .i64 aag,.int .i64 se])/\∃δ,w'=af W δ):=qh fun W i1 i2=>by have:=PB ro.aa td.aa HH2.out W5.heap.size W IO5.out.2.2.up;rw[Yt.out] at this;exact this
   have HOR:Hid (∀W,au W5.heap.size W5 W->Le W5.heap.size W->Calls nH 10 #[] W fun e w'=>e=.returned (.bool true)/\∃δ,w'=af W δ):=qh fun W gS lS=>by have n1:au w.heap.size w W:=dQ (inferInstance:au w.heap.size w W5) gS;have n2:Le w.heap.size W:=⟨nT (inferInstance:Le w.heap.size W5).out lS.out⟩;have n3:au B w W:=⟨⟨n1.out.1,n1.out.2.1,n1.out.2.2.1,fun b hb=>n1.out.2.2.2 b (nL hb hB.out)⟩⟩;have n4:Le B W:=⟨nT hB.out n2.out⟩;have n5:au 8 w W:=⟨⟨n1.out.1,n1.out.2.1,n1.out.2.2.1,fun b hb=>n1.out.2.2.2 b (nL hb h8.out)⟩⟩;have n6:Le 8 W:=⟨nT h8.out n2.out⟩;have n7:Le W.heap.size W:=⟨nR _⟩;exact aav W HL.out.up
   go_upto_region 21 with fail;refine wp_region_held (S:=fun W=>au W5.heap.size W5 W) nP ?_;change wpAnyH _ _ _ _ _ _ _ _ (World.drew _);refine wpH_tq 0 (.slice (some ⟨sb,so,none⟩) 3 ac) (inferInstance) ?_;refine QAC ?_;refine wpH_tq 1 (.pointer (some ⟨sb,so+1,none⟩)) (inferInstance) ?_;refine QAC ?_;refine dV 2 (.string ⟨#[111,107]⟩) rfl nP (Or.inl ⟨nY,by intro w5 h5;have e5:=(aZ h5.out sb (so+1) isb.out).trans e1;go_simp⟩) (inferInstance) ?_;refine QAC ?_;refine wpH_tq 3 (.bool true) (inferInstance) ?_;refine QAC ?_;refine wpH_tq 4 (.bool true) (inferInstance) ?_;refine QAC ?_;refine wpH_tq 5 (.slice (some ⟨sb,so,none⟩) 3 ac) (inferInstance) ?_;refine QAC ?_;refine wpH_tq 6 (.pointer (some ⟨sb,so+2,none⟩)) (inferInstance) ?_;refine QAC ?_;refine dV 7 (.string (str l2)) rfl nP (Or.inl ⟨nY,by intro w5 h5;have e5:=(aZ h5.out sb (so+2) isb.out).trans e2;go_simp⟩) (inferInstance) ?_;refine QAC ?_;refine wpH_tq 8 (.pointer (some ⟨g5,10,none⟩)) (inferInstance) ?_;refine QAC ?_;refine dV 9 (.agg #[.slice ro.aa.kA td.aa.kinds.length ro.aa.kc,.int .i64 td.aa.floor,.slice ro.aa.pA td.aa.parts.length ro.aa.pc,.slice ro.aa.bA td.aa.bars.length ro.aa.bc]) rfl nP (kU PK nY _ rfl rfl (fun W h=>ax.dM (hg:=h) C5.out) rfl rfl) (inferInstance) ?_;refine QAC ?_;have gS:au W5.heap.size W5 W5.drew:=inferInstance;have lS:Le W5.heap.size W5.drew:=inferInstance;generalize W5.drew=Z0 at gS lS ⊢;refine fL 10 (by first|kernel_rfl|decide +kernel) ?_;refine Qg 10 rfl nY ?hx gS lS (HLE.out _ gS lS) ?_;case hx=>go_simp
   clear gS lS;intro δ gS lS;refine QAC ?_;generalize af Z0 δ=Z1 at gS lS ⊢;refine wpH_tq 11 (.int .i64 aag) (gS) ?_;refine QAC ?_;refine wpH_tq 12 (.int .i64 se) (gS) ?_;refine QAC ?_;refine fL 13 (by first|kernel_rfl|decide +kernel) ?_;refine Qg 13 rfl nY ?hx gS lS (abv.out _) ?_;case hx=>go_simp
   clear gS lS;intro δ gS lS;refine QAC ?_;generalize af Z1 δ=Z2 at gS lS ⊢;refine wpH_tq 14 (.bool true) (gS) ?_;refine QAC ?_;refine wpH_tq 15 (.bool true) (gS) ?_;refine QAC ?_;refine wpH_tq 16 (.bool true) (gS) ?_;refine QAC ?_;refine wpH_tq 17 (.slice lA 1 lc) (gS) ?_;refine QAC ?_;refine wpH_tq 18 (.string (str (aao sz))) (gS) ?_;refine QAC ?_;refine fL 19 (by first|kernel_rfl|decide +kernel) ?_;refine M8 (v:=.slice (some ⟨Z2.heap.size,0,none⟩) 1 1) (o:=.cells #[.string (str (aao sz))] 9) 19 rfl nY ?hx gS lS ?_;case hx=>(go_simp<;>rfl)
   clear gS lS;intro gS lS;refine QAC ?_;have LT:Sl aX (World.alloc Z2 (.cells #[.string (str (aao sz))] 9)).heap.size (World.alloc Z2 (.cells #[.string (str (aao sz))] 9)) (some ⟨Z2.heap.size,0,none⟩) 1 [aao sz]:=fE (ls:=[aao sz]) (ax.new rfl) rfl nV;generalize World.alloc Z2 (.cells #[.string (str (aao sz))] 9)=Z3 at gS lS LT ⊢;have SLZ:Sl aX Z3.heap.size Z3 lA lc [aao sz]:=SL5.out.wide;refine fL 20 (by first|kernel_rfl|decide +kernel) ?_;refine Qg 20 rfl nY ?hx gS lS (jk lA _ lc 1 [aao sz] Z3.heap.size Z3 SLZ LT 1 1 rfl rfl (hB:=⟨nR _⟩)) ?_;case hx=>go_simp
   clear gS lS LT SLZ;intro δ gS lS;refine QAC ?_;generalize af Z3 δ=Z4 at gS lS ⊢;refine wpH_tq 21 (.bool true) (gS) ?_;refine QAC ?_;refine wpH_tq 22 (.bool true) (gS) ?_;refine QAC ?_;refine dV 23 (aO rN td) rfl nP (cV ai nY _ rfl rfl (fun W h=>ax.dM (hg:=h) E5.out) rfl) (gS) ?_;refine QAC ?_;refine dV 24 (aO ro td) rfl nP (cV ai nY _ rfl rfl (fun W h=>ax.dM (hg:=h) C5.out) rfl) (gS) ?_;refine QAC ?_;refine fL 25 (by first|kernel_rfl|decide +kernel) ?_;refine Qg 25 rfl nY ?hx gS lS (yC rN ro td W5.heap.size Z4 ST5.out.up IO5.out.up) ?_;case hx=>go_simp
   clear gS lS;intro δ gS lS;refine QAC ?_;generalize af Z4 δ=Z5 at gS lS ⊢;refine wpH_tq 26 (.bool true) (gS) ?_;refine QAC ?_;refine wpH_tq 27 (.bool true) (gS) ?_;refine QAC ?_;refine fL 28 (by first|kernel_rfl|decide +kernel) ?_;refine Qg 28 rfl nY ?hx gS lS (HOR.out _ gS lS) ?_;case hx=>go_simp
   clear gS lS;intro δ gS lS;refine QAC ?_;generalize af Z5 δ=Z6 at gS lS ⊢;refine wpH_tq 29 (.bool true) (gS) ?_;refine QAC ?_;refine wpH_tq 30 (.bool true) (gS) ?_;refine QAC ?_;refine wpAnyH_done nP ?_ _;have n1:au w.heap.size w Z6:=dQ (inferInstance:au w.heap.size w W5) gS;have n2:Le w.heap.size Z6:=⟨nT (inferInstance:Le w.heap.size W5).out lS.out⟩;have n3:au B w Z6:=⟨⟨n1.out.1,n1.out.2.1,n1.out.2.2.1,fun b hb=>n1.out.2.2.2 b (nL hb hB.out)⟩⟩;have n4:Le B Z6:=⟨nT hB.out n2.out⟩;have n5:au 8 w Z6:=⟨⟨n1.out.1,n1.out.2.1,n1.out.2.2.1,fun b hb=>n1.out.2.2.2 b (nL hb h8.out)⟩⟩;have n6:Le 8 Z6:=⟨nT h8.out n2.out⟩;have n7:Le Z6.heap.size Z6:=⟨nR _⟩;go_wp2_with fail;go_ret;exact⟨rfl,ag⟩
end
end Go.Proofs.YtdmedlkonaclnaaGreatDoor
