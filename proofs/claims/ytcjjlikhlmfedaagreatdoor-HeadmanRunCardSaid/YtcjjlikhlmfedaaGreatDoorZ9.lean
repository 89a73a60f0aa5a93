/- A part of the proof that the statement HeadmanRunCardSaid holds, cut small by a program (names and blanks): Hm6, Hm7, Hm8. -/
import Derived.Deep.RegionWith
import Derived.Test.YtcjjlikhlmfedaaGreatDoorZ8
set_option maxRecDepth 100000
set_option maxHeartbeats 40000000
set_option linter.unusedVariables false
set_option linter.unusedSimpArgs false
namespace Go.Proofs.YtcjjlikhlmfedaaGreatDoor
open Go.RowKit
open Nat renaming le_trans → nT, lt_of_lt_of_le → nL, le_refl → nR, zero_le → nE, lt_succ_self → nA
open Go.Proofs.Tryz renaming prog → nH
open Go renaming World → nJ, Value → nK
section
open Me
def vE(n:Net)(m:Nat)(f:List Int)(j:Nat):List (List Int):=(List.range j).flatMap fun(i:Nat)=>if may n f (i:Int)=true then aB n m (f++[(i:Int)]) else[]
theorem xp{n:Net}{m:Nat}{f:List Int}{j:Nat}:vE n m f (j+1)=vE n m f j++(if may n f (j:Int)=true then aB n m (f++[(j:Int)]) else[]):=by simp[vE,List.range_succ]
theorem De{n:Net}(h6:n.hs.length<=6)(k:Nat)(l:List Int):(aB n k l).length<=6 ^ k:=by
 induction k generalizing l with
 |zero=>simp[aB]
 |succ k ih=>
  have key:∀j,(vE n k l j).length<=j*6 ^ k:=by
   intro j;induction j with
   |zero=>simp[vE]
   |succ j ihj=>
    rw[xp,List.length_append,Nat.succ_mul]
    have:=ih (l++[(j:Int)])
    split<;>simp<;>omega
  have h1:=key n.hs.length
  have:n.hs.length*6 ^ k<=6*6 ^ k:=Nat.mul_le_mul_right _ h6
  rw[Nat.pow_succ,Nat.mul_comm]
  exact nT h1 this
def ov(w:nJ)(L:List (List Int))(e:Ending)(w':nJ):Prop:=∃(A:Option Addr) (c:Nat) (δ:nJ),e=.returned (.slice A L.length c)/\w'=af w δ/\uD 3 aH (af w δ) A c L
theorem J6(r:cw)(n:Net)(f:List Int)(A:Option Addr)(c:Nat)(B:Nat)(w:nJ)[hB:Le B w](h:bG B w r n)(hf:fm 3 aH w.heap.size w A c f)(hl:f.length=n.hs.length):Calls nH 61 #[cD r n,.slice A f.length c] w (ov w (aB n 0 f)):=by
 have hE:((f.length:Int)==(n.hs.length:Int))=true:=by simp;omega
 have l1:=hf.plain.len;clear hl;go_enter Tryz.func61,Tryz.ntmps61;go_wp2_with fail;go_ret;have hsub:fm 3 aH ((w.alloc (.cells #[.int .i64 n.m,.slice r.hA n.hs.length r.hc,.slice r.pA n.ps.length r.pc] 32)).alloc (.cells #[.slice A f.length c] 35)).heap.size ((w.alloc (.cells #[.int .i64 n.m,.slice r.hA n.hs.length r.hc,.slice r.pA n.ps.length r.pc] 32)).alloc (.cells #[.slice A f.length c] 35)) A c f:=hf.wide;refine⟨some ⟨w.heap.size+1,0,none⟩,1,_,rfl,aq,?_⟩;rw[<-aq (w:=w) (W:=(w.alloc (.cells #[.int .i64 n.m,.slice r.hA n.hs.length r.hc,.slice r.pA n.ps.length r.pc] 32)).alloc (.cells #[.slice A f.length c] 35))];exact⟨nR _,nQ,[.slice A f.length c],mF nW nW,ic.one hsub⟩
def Ut(n:Net)(m:Nat):Prop:=∀(r:cw) (f:List Int) (A:Option Addr) (c:Nat) (B:Nat) (w:nJ),Le B w->bG B w r n->fm 3 aH w.heap.size w A c f->f.length+m=n.hs.length->∀ln:Nat,f.length=ln ->
 Calls nH 61 #[cD r n,.slice A ln c] w (ov w (aB n m f))
theorem J4(n:Net)(m:Nat)(h6:n.hs.length<=6)(IH:Ut n m):Ut n (m+1):=by
 intro r f A c B w hB h hf hfl ln gG;subst gG;have l1:=hf.plain.len;have l2:=h.1.len;have hne:((f.length:Int)==(n.hs.length:Int))=false:=by simp;omega
 have hF:=qh (show aB n (m+1) f=vE n m f n.hs.length from rfl);have TJ:6 ^ m<=7776:=by have:6 ^ m<=6 ^ 5:=Nat.pow_le_pow_right nQ nQ;omega
 have YH:f.length<=6:=nQ;have AM:=qh hfl;have RN:=qh IH;have H:=qh h;clear hfl IH h;go_enter Tryz.func61,Tryz.ntmps61;go_wp2_with fail;refine QAV ?_;intro W1 aE cz de cN cY dc rX lH jU;have g1:bG B W1 r n:=H.out.up;have g2:fm 3 aH W1.heap.size W1 A c f:=hf.wide;have G1:=qh g1;have G2:=qh g2;clear g1 g2 hf;go_loopw [5,6] (fun o g wr=>∃(k c':Nat) (A':Option Addr) (cs:List nK) (L:List (List Int)),k<=n.hs.length/\g=.int .i64 k/\Hid (L=vE n m f k)/\L.length<=k*6 ^ m/\o=.slice A' L.length c'/\wr.ownsRow W1.heap.size 35 1 (.slice A' L.length c') L.length cs/\ic 3 aH wr cs L/\aC W1.heap.size W1 wr/\Le W1.heap.size wr) (fun _ g _=>(n.hs.length-(intOf g).toNat))
 case atStart=>exact⟨0,0,none,[],[],nE _,rfl,by simp[vE,Hid],nV,rfl,World.ownsRow_nil _ _ _ _,ic.nil,inferInstance,inferInstance⟩
 case round=>
  obtain⟨k,c',A',cs,L,hk,rfl,hL,Wk,rfl,hown,hsub,i1,i2⟩:=hrel;refine QBN ?_;intro hcell i3;refine QBJ ?_;intro i5 i6 i7 HO HS;clear hown hsub;by_cases hlt':k<n.hs.length
  ·have hki:(k:Int)<(n.hs.length:Int):=nQ;have hbd:k*6 ^ m<=50000:=by have:=Nat.mul_le_mul (show k<=6 by omega) TJ;omega
   have Q9:=De h6 m (f++[(k:Int)]);have hsc:=qh (xp (n:=n) (m:=m) (f:=f) (j:=k));by_cases hm:may n f (k:Int)=true
   ·have HM:=qh hm;clear hm;go_wp2_with (go_at_call 105;refine(MA r n _ _ _ _ f _ HM.out W1.heap.size _ G2.out.up.plain (G1.out.more cz.out).up rfl).mono ?_;rintro e w1 ⟨rfl,δm,rfl⟩);go_goals
    go_region_held3 (fun W=>W.cell? ⟨w.heap.size,0,none⟩=some (.int .i64 n.m)/\W.cell? ⟨w.heap.size,1,none⟩=some (.slice r.hA n.hs.length r.hc)/\W.cell? ⟨w.heap.size,2,none⟩=some (.slice r.pA n.ps.length r.pc))
     (refine⟨?_,?_,?_⟩<;>go_simp)
     (first|(refine fh wr uC (.tmp 28) (.tmp 29) rfl rfl (v:=.slice (some ⟨_,0,none⟩) 0 0) (by first|exact cx nW nW|exact(cx nW nW).alloc _) rfl (B:=W1.heap.size) (A:=A) (m:=f.length) (c:=c) (news:=f.flatMap aH) rfl (G2.out.up.plain.2.2) (cg aH 1 (fun _=>rfl) f) (dS aH I1 f) nQ nQ ?_;intro A1 c1 δ1 ei hg1)|((refine cQ wr uC (.tmp 30) (.tmp 32) rfl rfl (v:=.slice A1 f.length c1) (n:=f.length) (xs:=f.flatMap aH) (by first|exact ei|exact ei.alloc _ ) rfl (m:=1) (c:=1) (news:=[.int .i64 (k:Int)]) rfl (mF (by first|(go_simp;done)|(refine hg1.cell nW (by simp[Value.ownBlock]))) (nA _)) rfl (by simp[Value.oneCell']) nQ nQ ?_);intro A2 c2 δ2 gM kC)|(go_at_call 61;refine(RN.out r (f++[(k:Int)]) A2 c2 B _ inferInstance G1.out.up (fm.bW (by rw[List.flatMap_append];exact gM) nV) (by have:=AM.out;simp;omega) (f.length+1) nV).mono ?_;rintro e w1 ⟨A3,c3,δ3,rfl,rfl,hq1,KN,Sr,NS,hs3⟩)|(refine cQ W1 PX (.tmp 26) (.tmp 34) rfl rfl (v:=.slice A' L.length c') (n:=L.length) (xs:=cs) (aT HO.out) rfl (A:=A3) (m:=(aB n m (f++[(k:Int)])).length) (c:=c3) (news:=Sr) rfl NS (by have:=hs3.1;omega) hs3.Bj nQ nQ ?_;intro A4 c4 δ4 Gg GQ))
    all_goals
     go_wp2_with fail;go_roundw
     case rel=>
      refine⟨k+1,c4,A4,cs++Sr,L++aB n m (f++[(k:Int)]),nQ,by go_num,?_,?_,by rw[List.length_append],by rw[List.length_append];exact Gg,(HS.out.up.append hs3).grown (aT HO.out) GQ nU,inferInstance,inferInstance⟩
      ·unfold Hid;rw[hsc.out,HM.out,<-hL.out];simp
      ·rw[List.length_append,Nat.succ_mul];omega
     case measure=>simp[intOf];omega
   ·rw[Bool.not_eq_true] at hm;have HM:=qh hm;clear hm;go_wp2_with (go_at_call 105;refine(MA r n _ _ _ _ f _ HM.out W1.heap.size _ G2.out.up.plain (G1.out.more cz.out).up rfl).mono ?_;rintro e w1 ⟨rfl,δm,rfl⟩);go_roundw
    case rel=>refine⟨k+1,c',A',cs,L,nQ,by go_num,?_,by rw[Nat.succ_mul];omega,rfl,aT HO.out,HS.out.up,inferInstance,inferInstance⟩;unfold Hid;rw[hsc.out,HM.out,<-hL.out];simp
    case measure=>simp[intOf];omega
  ·obtain rfl:k=n.hs.length:=by omega
   have HF:=qh (show aB n (m+1) f=L by rw[hF.out,hL.out]);go_wp2_with fail;go_ret;rw[HF.out];refine QBI ?_;intro i8 i9;refine⟨A',c',wr,rfl,aq,?_⟩;rw[<-aq (w:=w) (W:=wr)];exact uD.bW HO.out HS.out rfl
theorem MO(n:Net)(h6:n.hs.length<=6)(m:Nat):Ut n m:=by
 induction m with
 |zero=>
  intro r f A c B w hB h hf hl ln gG
  subst gG
  exact J6 r n f A c B w h hf nQ
 |succ m ih=>exact J4 n m h6 ih
theorem ru(r:cw)(n:Net)(B:Nat)(w:nJ)[hB:Le B w](h:bG B w r n)(h6:n.hs.length<=6):Calls nH 61 #[cD r n,.slice none 0 0] w (ov w (gj n)):=
 MO n h6 n.hs.length r [] none 0 B w hB h fm.none_ nV 0 rfl
end
section
open Me
theorem Fe(n low high:Int)(b:Bool)(hb:fj low high n=b)(w:nJ):Calls nH 59 #[.int .i64 n,.int .i64 low,.int .i64 high] w fun e w'=>e=.returned (.bool b)/\w=w':=by subst hb;exact oN n low high w
theorem Ab(r:cw)(n:Net)(B:Nat)(w:nJ)(h:bG B w r n)[hB:Le B w]:Calls nH 23 #[cD r n] w fun e w'=>e=.returned (.int .i64 (cE (valid n) 40))/\∃δ,w'=af w δ:=by
 have l1:=h.1.len;have l2:=h.2.len;by_cases hd:(1<=n.m/\n.m<=3)/\n.hs.length<=6/\n.ps.length<=8
 ·obtain⟨hm,h6,h8⟩:=hd;have hi1:fj 1 3 n.m=true:=cZ.2 hm;have HI:=qh hi1;have H:=qh h;have HM:=qh hm;have g6:¬(6:Int)<(n.hs.length:Int):=nQ;have g8:¬(8:Int)<(n.ps.length:Int):=nQ;clear h hi1 hm;go_enter Tryz.func23,Tryz.ntmps23;go_wp2_with (go_at_call 59;refine(Fe _ _ _ _ HI.out _).mono ?_;rintro e w1 ⟨rfl,rfl⟩);go_loopw [3] (fun i wr=>∃(k:Nat) (δ:nJ),k<=n.hs.length/\i=.int .i64 k/\Hid ((n.hs.take k).all mP=true)/\wr=af (w.alloc (.cells #[.int .i64 n.m,.slice r.hA n.hs.length r.hc,.slice r.pA n.ps.length r.pc] 32)) δ) (fun i _=>n.hs.length-(intOf i).toNat)
  case atStart=>exact⟨0,_,nE _,rfl,by simp[Hid],(aY _).symm⟩
  case round=>
   obtain⟨k,δ,hk,rfl,hn,rfl⟩:=hrel;by_cases hlt:k<n.hs.length
   ·obtain⟨b',o,hA,hb,hc0,xX,Ji,NS⟩:=H.out.1.hole hlt;have hb':Lt b' w:=⟨nL hb hB.out⟩;refine QEC ?_;intro hki hk0;have hx:=qh (aS n.hs hlt);have ht:=qh (bu n.hs hlt);rw[hA];obtain⟨x,VC⟩:∃x,x=nth n.hs k:=⟨_,rfl⟩;rw[<-VC] at hc0 xX Ji NS ht hx;clear VC;obtain⟨fr,lo,hi,hr⟩:=x;simp only at hc0 xX Ji NS;by_cases he:mP ⟨fr,lo,hi,hr⟩=true
    ·obtain⟨e1,e2,e3,e4,e5,e6,e7⟩:=gC.1 he;simp only at e1 e2 e3 e4 e5 e6 e7;have E1:=qh (show fj 0 20 fr=true from cZ.2 ⟨e1,e2⟩);have E2:=qh (show fj 0 20 hi=true from cZ.2 ⟨nQ,e5⟩);have E3:=qh (show fj 0 hi lo=true from cZ.2 ⟨e3,e4⟩);have E4:=qh (show fj 1 9 hr=true from cZ.2 ⟨e6,e7⟩);have HE:=qh he;clear e1 e2 e3 e4 e5 e6 e7 he;go_wp2_with (go_at_call 59;refine(oN _ _ _ _).mono ?_;(first|rw[E1.out]|rw[E2.out]|rw[E3.out]|rw[E4.out]);rintro e w1 ⟨rfl,rfl⟩);go_roundw
     case rel=>refine⟨k+1,_,nQ,by go_num,?_,aq⟩;refine QCS ?_;simp[HE.out]
     case measure=>simp[intOf];omega
    ·rw[Bool.not_eq_true] at he;have hv:valid n=false:=by
      have:eM n.hs=false:=by rw[eM,List.all_eq_false];exact⟨_,hx.out,by simp[he]⟩
      simp[valid,this]
     have HV:=qh hv;clear hv;go_wp2_with (go_at_call 59;refine(oN _ _ _ _).mono ?_;rintro e w1 ⟨rfl,rfl⟩);all_goals first
      |(go_ret;exact⟨cB (by rw[HV.out];rfl),ag⟩)
      |(exfalso;simp[fj,mP] at *;omega)
   ·obtain rfl:k=n.hs.length:=by omega
    have hok:=hn.out;rw[List.take_length] at hok;have HO:=qh hok;clear hok;go_wp2_with fail;go_loopw [5] (fun i wr=>∃(j:Nat) (δ:nJ),j<=n.ps.length/\i=.int .i64 j/\Hid ((n.ps.take j).all (zn n.hs.length)=true)/\wr=af (w.alloc (.cells #[.int .i64 n.m,.slice r.hA n.hs.length r.hc,.slice r.pA n.ps.length r.pc] 32)) δ) (fun i _=>n.ps.length-(intOf i).toNat)
    case atStart=>exact⟨0,_,nE _,rfl,by simp[Hid],rfl⟩
    case round=>
     clear hn;obtain⟨j,δ,hj,rfl,hn,rfl⟩:=hrel;by_cases hlt:j<n.ps.length
     ·obtain⟨b',o,hA,hb,hc0,xX⟩:=H.out.2.pr hlt;obtain⟨rhA,rhc,rpA,rpc⟩:=r;simp only at hA;subst hA;have hb':Lt b' w:=⟨nL hb hB.out⟩;have hji:(j:Int)<(n.ps.length:Int):=nQ;have hj0:¬(j:Int)<0:=nQ;have hx:=qh (aS n.ps hlt);have ht:=qh (bu n.ps hlt);obtain⟨x,VC⟩:∃x,x=nth n.ps j:=⟨_,rfl⟩;rw[<-VC] at hc0 xX ht hx;clear VC;obtain⟨a,b⟩:=x;simp only at hc0 xX;by_cases h1:fj 0 ((n.hs.length:Int)-1) a=true
      ·by_cases h2:fj 0 ((n.hs.length:Int)-1) b=true
       ·have P1:=qh h1;have P2:=qh h2;have HE:=qh (show zn n.hs.length ⟨a,b⟩=true by rw[cZ] at h1 h2;rw[mN];simp only;omega);clear h1 h2;go_wp2_with fail;refine wpRl ?_;repeat (go_big_quiet_step ((first|(go_at_call 60;(first|with_reducible exact Calls.bU (oU ⟨rhA,rhc,some ⟨b',o,none⟩,rpc⟩ n a _ P1.out B _ H.out.up)|with_reducible exact Calls.bU (oU ⟨rhA,rhc,some ⟨b',o,none⟩,rpc⟩ n b _ P2.out B _ H.out.up))))))
        refine QBY ?_;rintro _ ⟨δq,rfl⟩;go_wp2_with fail;go_roundw
        case rel=>refine⟨j+1,_,nQ,by go_num,?_,aq⟩;refine QCS ?_;simp[HE.out]
        case measure=>simp[intOf];omega
       ·rw[Bool.not_eq_true] at h2;have P1:=qh h1;have P2:=qh h2;have HV:=qh (show valid n=false by
         have:mM n.hs.length n.ps=false:=by
          rw[mM,List.all_eq_false]
          refine⟨_,hx.out,?_⟩
          rw[mN]
          intro hc
          rw[<-Bool.not_eq_true,cZ] at h2
          simp only at hc
          omega
         simp[valid,this])
        clear h1 h2;go_wp2_with fail;refine wpRl ?_;repeat (go_big_quiet_step ((first|(go_at_call 60;(first|with_reducible exact Calls.bU (oU ⟨rhA,rhc,some ⟨b',o,none⟩,rpc⟩ n a _ P1.out B _ H.out.up)|with_reducible exact Calls.bU (oU ⟨rhA,rhc,some ⟨b',o,none⟩,rpc⟩ n b _ P2.out B _ H.out.up))))))
        refine QBY ?_;rintro _ ⟨δq,rfl⟩;go_wp2_with fail;go_ret;exact⟨cB (by rw[HV.out];rfl),ag⟩
      ·rw[Bool.not_eq_true] at h1;have P1:=qh h1;have HV:=qh (show valid n=false by
        have:mM n.hs.length n.ps=false:=by
         rw[mM,List.all_eq_false]
         refine⟨_,hx.out,?_⟩
         rw[mN]
         intro hc
         rw[<-Bool.not_eq_true,cZ] at h1
         simp only at hc
         omega
        simp[valid,this])
       clear h1;go_wp2_with fail;refine wpRl ?_;repeat (go_big_quiet_step ((first|(go_at_call 60;exact Calls.bU (oU ⟨rhA,rhc,some ⟨b',o,none⟩,rpc⟩ n a _ P1.out B _ H.out.up)))))
       refine QBY ?_;rintro _ ⟨δq,rfl⟩;go_wp2_with fail;go_ret;exact⟨cB (by rw[HV.out];rfl),ag⟩
     ·obtain rfl:j=n.ps.length:=by omega
      have hok:=hn.out;rw[List.take_length] at hok;have HP:=qh hok;clear hok;have ke:valid n=qN n:=by have h1:eM n.hs=true:=HO.out;have h2:mM n.hs.length n.ps=true:=HP.out;have:=HM.out;simp[valid,h1,h2,h6,h8,this]
      have HV:=qh ke;clear ke;by_cases hz:(gj n).length=0
      ·have hz':(((gj n).length:Int)==0)=true:=by simp[hz]
       have HZ:=qh (show qN n=false by simp[qN,List.eq_nil_of_length_eq_zero hz]);clear hz;go_wp2_with (go_at_call 61;refine(ru r n B _ H.out.up h6).mono ?_;rintro e w1 ⟨A1,c1,δ1,rfl,rfl,hs1⟩);go_ret;exact⟨cB (by rw[HV.out,HZ.out];rfl),ag⟩
      ·have hz':(((gj n).length:Int)==0)=false:=by simpa using hz
       have HZ:=qh (show qN n=true by simp only[qN,Bool.not_eq_true',List.isEmpty_eq_false_iff];intro hc;exact hz (by rw[hc];rfl));clear hz;go_wp2_with (go_at_call 61;refine(ru r n B _ H.out.up h6).mono ?_;rintro e w1 ⟨A1,c1,δ1,rfl,rfl,hs1⟩);go_ret;exact⟨cB (by rw[HV.out,HZ.out];rfl),ag⟩
 ·have hv:valid n=false:=by rw[<-Bool.not_eq_true,az];intro hc;exact hd ⟨hc.1,hc.2.1,hc.2.2.1⟩
  have HV:=qh hv;have H:=qh h;clear hv h;go_enter Tryz.func23,Tryz.ntmps23;go_wp2_with (go_at_call 59;refine(oN _ _ _ _).mono ?_;rintro e w1 ⟨rfl,rfl⟩);all_goals first
   |(go_ret;exact⟨cB (by rw[HV.out];rfl),ag⟩)
   |(exfalso;simp[fj] at *;omega)
end
section
open Me
theorem sE(r:cw)(n:Net)(hv:valid n=true)(B:Nat)(w:nJ)(h:bG B w r n)[hB:Le B w]:Calls nH 23 #[cD r n] w fun e w'=>e=.returned (.int .i64 0)/\∃δ,w'=af w δ:=by have:=Ab r n B w h;rwa [show cE (valid n) 40=0 by rw[hv];rfl] at this
theorem Nl{n:Net}(hv:eM n.hs=true){l:List Int}(hl:fA n l=true)(k:Nat)(hk:k<=n.hs.length):0<=jq n.hs (times n l) (jQ n) k:=by
 induction k with
 |zero=>exact Int.le_refl _
 |succ k ih=>
  have i1:=ih nQ
  have a:=AR hv hl (j:=k) nQ
  have b:=gC.1 (iG hv (k:=k) nQ)
  unfold jq
  rw[rz nQ]
  have:=Int.mul_nonneg (a:=(nth n.hs k).hi) (b:=nth (times n l) k-(nth n.hs k).fr) nQ nQ
  omega
theorem L6{n:Net}(hv:eM n.hs=true){l:List Int}(hl:fA n l=true):0<=dW n l:=Nl hv hl _ (nR _)
theorem oG{n:Net}(hv:valid n=true):qN n=true:=(az.1 hv).2.2.2.2.2
theorem KD{n:Net}(hv:valid n=true):0<=dK n/\dK n<=10000:=
 ⟨L6 (jN hv).2.2.2.1 (gT (oG hv)),(KE hv).2⟩
theorem KG{n:Net}(hv:valid n=true){l:List Int}(hl:fA n l=true):0<=gX n l/\gX n l<=74:=
 ⟨(I8 _).1,(Dw _).2 ⟨nQ,fun j _=>(sY hv hl j).2⟩⟩
theorem Oy{n:Net}(hv:valid n=true):0<=qS n/\qS n<=74:=
 KG hv (qW.1 (fJ _ (ou (oG hv))))
end
section
open Me
theorem FN(r:cw)(n:Net)(A:Option Addr)(c:Nat)(l:List Int)(B:Nat)(w:nJ)[hB:Le B w](hS:Sl aH B w A c l)(hN:bG B w r n)(hm:1<=n.m/\n.m<=3)(h6:n.hs.length<=6)(h8:n.ps.length<=8)(hv:eM n.hs=true)(Xr:mM n.hs.length n.ps=true)(hl:vb n l)(LU:l.length<=6):Calls nH 235 #[cD r n,.slice A l.length c] w fun e w'=>∃(A':Option Addr) (c':Nat) (δ:nJ),e=.returned (.slice A' (times n l).length c')/\w'=af w δ/\Hid (Sl aH (af w δ).heap.size (af w δ) A' c' (times n l)):=by
 obtain⟨m,hmm⟩:∃m:Nat,n.m=m:=⟨n.m.toNat,nQ⟩;refine QDG ?_;intro VS qM HM eV hmk TP HS HN HV WM HL hlc;clear hS hN hm hv Xr hl hmm eV;go_enter Tryz.func235,Tryz.ntmps235;go_wp2_with fail;go_loopg [7] l.length (fun g i wr=>∃k:Nat,k<=l.length/\g=l.length-k/\i=.int .i64 k/\RG n r w 32 (w.heap.size+1+1) (w.heap.size+1) w.heap.size l k wr)
 case atStart=>exact⟨0,nE _,rfl,rfl,uI HM.out (av.new nV) ((av.new nV).alloc _) (((av.new rfl).alloc _).alloc _) inferInstance inferInstance⟩
 case round=>
  obtain⟨k,hk,rfl,rfl,hF,hO,hP,g1,g2⟩:=hrel;have p1:=hP.cell (i:=1) rfl;have p2:=hP.cell (i:=2) rfl;have ip:=hP.lt;have iF:=hF.lt;have iO:=hO.lt;by_cases hlt:k<l.length
  ·obtain⟨b,o,rfl,hb,hc⟩:=HS.out.int hlt;have KR:b<w.heap.size:=nL hb hB.out;have UR:=(bz g1.out b _ KR).trans hc;have ib:Lt b wr:=⟨nL KR g2.out⟩;have hx:=HL.out (nth l k) (aS l hlt);obtain⟨x,hh⟩:∃x:Nat,nth l k=x:=⟨(nth l k).toNat,by have:=hx.1;omega⟩;rw[hh] at UR;have HC:=qh (show w.cell? ⟨b,o+k,none⟩=some (.int .i64 x) by rw[<-hh];exact hc);have wI:x<n.hs.length:=by have:=hx.2;omega
   obtain⟨bh,oh,GY,So,d0,d1,d2,d3⟩:=HN.out.1.hole wI;have xY:bh<w.heap.size:=nL So hB.out;have e0:=(bz g1.out bh _ xY).trans d0;have e1:=(bz g1.out bh _ xY).trans d1;have e2:=(bz g1.out bh _ xY).trans d2;have e3:=(bz g1.out bh _ xY).trans d3;have ibh:Lt bh wr:=⟨nL xY g2.out⟩;obtain⟨rhA,rhc,rpA,rpc⟩:=r;have GY:rhA=some ⟨bh,oh,none⟩:=GY;subst GY;have hki:(k:Int)<(l.length:Int):=nQ;have hk0:¬(k:Int)<0:=nQ;have Z7:(x:Int)<(n.hs.length:Int):=nQ;have hx0:¬(x:Int)<0:=nQ;obtain⟨lF,lO⟩:=oQ n (l.take k);obtain⟨bF,bO⟩:=FE HV.out (l.take k) (fun y hy=>HL.out y (List.mem_of_mem_take hy));have hT:(l.take k).length<=6:=by rw[List.length_take];omega
   have Jh:=uU HV.out (show isHole n (nth l k) from hx) bF bO nQ;have hrun:=wY n (l.take k) (nth l k);rw[<-bu l hlt,hh] at hrun;rw[hh] at Jh;obtain⟨F,O,hs⟩:∃F O,run n (l.take k)=(F,O):=⟨_,_,rfl⟩;rw[hs] at hF hO lF lO bF bO Jh hrun;refine QFJ ?_;intro lF lO bF bO W8 Iu HH;have HF:Hid (gd wr (w.heap.size+1+1) F):=hF;have HO:Hid (gd wr (w.heap.size+1) O):=hO;have Sz:=qh hP;have LF:=qh lF;have LO:=qh lO;have BF:=qh bF;have BO:=qh bO;have HK:=qh (And.intro hk hlt);clear Jh hrun hh hF hO hP hs lF lO bF bO hx hk hlt hc d0 d1 d2 d3;go_wp2_with fail;go_loopg [8,9] m (fun g s8 s9 wr'=>∃(j:Nat) (δ:nJ),j<=m/\g=m-j/\s9=.int .i64 j/\s8=.int .i64 (je F j)/\wr'=af wr δ)
   case atStart=>exact⟨0,wr,nE _,rfl,rfl,rfl,(aY wr).symm⟩
   case round=>
    obtain⟨j,δ,hj,rfl,rfl,rfl,rfl⟩:=hrel;have hown:je F j<m:=by
     rcases Nat.eq_zero_or_pos j with rfl|hj0
     ·show 0<m;omega
     ·have:=IX (free:=F) hj0;omega
    by_cases hlt:j<m
    ·have f1:=HF.out.cell (k:=j) (by rw[LF.out];exact hlt);have f2:=HF.out.cell (k:=je F j) (by rw[LF.out];exact hown);have hji:(j:Int)<(m:Int):=nQ;have hj0:¬(j:Int)<0:=nQ;have TM:(je F j:Int)<(m:Int):=nQ;have TN:¬(je F j:Int)<0:=nQ;by_cases hc:nth F j<nth F (je F j)
     ·have HE:=qh (show je F (j+1)=j by unfold je;rw[if_pos hc]);go_wp2_with fail;refine wpRl ?_;repeat (go_big_quiet_step ((first|(fail))))
      refine QBY ?_;rintro _ ⟨δq,rfl⟩;go_wp2_with fail;go_roundg (m-(j+1))
      case measure=>omega
      case rel=>exact⟨j+1,_,hlt,rfl,by go_num,by rw[HE.out],aq⟩
     ·have HE:=qh (show je F (j+1)=je F j by rw[je,if_neg hc]);go_wp2_with fail;refine wpRl ?_;repeat (go_big_quiet_step ((first|(fail))))
      refine QBY ?_;rintro _ ⟨δq,rfl⟩;go_wp2_with fail;go_roundg (m-(j+1))
      case measure=>omega
      case rel=>exact⟨j+1,_,hlt,rfl,by go_num,by rw[HE.out],aq⟩
    ·obtain rfl:j=m:=by omega
     refine QEU ?_;intro zb f2 TM TN q hq;rw[hq] at f2 TM TN zb;have Xq:q<j:=by rw[<-hq];exact hown
     clear hown;rw[hq];clear hq;go_wp2_with fail;go_region_held3 (fun W=>W.cell? ⟨w.heap.size,1,none⟩=some (.slice (some ⟨bh,oh,none⟩) n.hs.length rhc)/\W.cell? ⟨b,o+k,none⟩=some (.int .i64 x)/\W.cell? ⟨bh,oh+x*4,none⟩=some (.int .i64 (nth n.hs x).fr)/\W.cell? ⟨bh,oh+x*4+1,none⟩=some (.int .i64 (nth n.hs x).lo)/\W.cell? ⟨bh,oh+x*4+2,none⟩=some (.int .i64 (nth n.hs x).hi)/\W.cell? ⟨bh,oh+x*4+3,none⟩=some (.int .i64 (nth n.hs x).hr))
      (refine⟨?_,?_,?_,?_,?_,?_⟩<;>go_simp)
      (fail)
     obtain⟨bx,iA⟩:∃bx,Hid (bx=(af wr δ).heap.size):=⟨_,rfl⟩;rw[<-iA.out];go_wp2_with fail;refine aK fun W2 eu=>?_;have i1:Le w.heap.size W2:=fR eu;have i2:aC w.heap.size w W2:=iC eu;have i3:bx<W2.heap.size:=by rw[eu.out,iA.out];go_simp
     have i4:wr.heap.size<=bx:=by rw[iA.out];exact iH wr δ
     have o2:gd W2 (w.heap.size+1) O:=by rw[eu.out];exact((HO.out.af δ).alloc _).drew
     have f2':gd W2 (w.heap.size+1+1) F:=by rw[eu.out];exact((HF.out.af δ).alloc _).drew
     have b2:av W2 w.heap.size 32 #[.int .i64 n.m,.slice (some ⟨bh,oh,none⟩) n.hs.length rhc,.slice rpA n.ps.length rpc]:=by rw[eu.out];exact(Sz.out.af δ).alloc _
     have x2:av W2 bx 105 #[.int .i64 (nth n.hs x).fr,.int .i64 (nth n.hs x).lo,.int .i64 (nth n.hs x).hi,.int .i64 (nth n.hs x).hr]:=by rw[eu.out];exact av.new (w:=af wr δ) iA.out
     have G2:=qh (And.intro i3 (And.intro i4 iF.out));clear eu iA i3 i4 UR e0 e1 e2 e3 p1 p2 ip iF iO ib ibh f2 HF HO Sz;have p1:=b2.cell (i:=1) rfl;have p2:=b2.cell (i:=2) rfl;have ip:=b2.lt;have iF:=f2'.lt;have iO:=o2.lt;have UR:=(bz i2.out b (o+k) KR).trans HC.out;have ib:Lt b W2:=⟨nL KR i1.out⟩;have ibx:=x2.lt;have z1:=x2.cell (i:=0) rfl;have z3:=x2.cell (i:=3) rfl;have fq:=f2'.cell (k:=q) (by rw[LF.out];exact Xq);have O2:=qh o2;have F2:=qh f2';have B2:=qh b2;have X2:=qh x2;clear o2 f2' b2 x2;refine wpRl ?_;repeat (go_big_quiet_step ((first|(fail))))
     refine QBY ?_;rintro _ ⟨δq,rfl⟩;refine QEZ ?_;intro b0 hb0 PL;clear hb0;go_wp2_with fail;go_loopg [11,12] n.ps.length (fun g s11 s12 wr'=>∃(i:Nat) (δ:nJ),i<=n.ps.length/\g=n.ps.length-i/\s12=.int .i64 i/\s11=.int .i64 (jG n.ps O x b0 i)/\wr'=af W2 δ)
     case atStart=>exact⟨0,_,nE _,rfl,rfl,rfl,rfl⟩
     case round=>
      obtain⟨i,δ,hi,rfl,rfl,rfl,rfl⟩:=hrel;by_cases hlt:i<n.ps.length
      ·obtain⟨bp,op,T7,yZ,c0,c1⟩:=HN.out.2.pr hlt;have GV:bp<w.heap.size:=nL yZ hB.out;have k0:=(bz i2.out bp _ GV).trans c0;have k1:=(bz i2.out bp _ GV).trans c1;have ibp:Lt bp W2:=⟨nL GV i1.out⟩;have T7:rpA=some ⟨bp,op,none⟩:=T7;subst T7;have hok:=mN.1 (Dl WM.out hlt);obtain⟨a,ha⟩:∃a:Nat,(nth n.ps i).a=a:=⟨(nth n.ps i).a.toNat,nQ⟩;rw[ha] at k0;have hal:a<n.hs.length:=nQ;have z0:=O2.out.cell (k:=a) (by rw[LO.out];exact hal);have hai:(a:Int)<(n.hs.length:Int):=nQ;have ha0:¬(a:Int)<0:=nQ;have KP:(i:Int)<(n.ps.length:Int):=nQ;have hi0:¬(i:Int)<0:=nQ;by_cases iA:(nth n.ps i).b=x
       ·have TX:((nth n.ps i).b==(x:Int))=true:=by simpa using iA
        by_cases Jg:jG n.ps O x b0 i<nth O a
        ·have HE:=qh (show jG n.ps O x b0 (i+1)=nth O a by
          rw[jG,if_pos iA,ha];simp only[Int.toNat_natCast];omega)
         have gV:=qh hlt;clear iA hok ha c0 c1 hlt;go_wp2_with fail;refine wpRl ?_;repeat (go_big_quiet_step ((first|(fail))))
         refine QBY ?_;rintro _ ⟨RQ,rfl⟩;go_wp2_with fail;go_roundg (n.ps.length-(i+1))
         case measure=>have:=gV.out;omega
         case rel=>exact⟨i+1,_,gV.out,rfl,by go_num,by rw[HE.out],aq⟩
        ·have HE:=qh (show jG n.ps O x b0 (i+1)=jG n.ps O x b0 i by
          rw[jG,if_pos iA,ha];simp only[Int.toNat_natCast];omega)
         have gV:=qh hlt;clear iA hok ha c0 c1 hlt;go_wp2_with fail;refine wpRl ?_;repeat (go_big_quiet_step ((first|(fail))))
         refine QBY ?_;rintro _ ⟨RQ,rfl⟩;go_wp2_with fail;go_roundg (n.ps.length-(i+1))
         case measure=>have:=gV.out;omega
         case rel=>exact⟨i+1,_,gV.out,rfl,by go_num,by rw[HE.out],aq⟩
       ·have TX:((nth n.ps i).b==(x:Int))=false:=by simpa using iA
        have HE:=qh (show jG n.ps O x b0 (i+1)=jG n.ps O x b0 i by rw[jG,if_neg iA]);have gV:=qh hlt;clear iA hok ha c0 c1 hlt;go_wp2_with fail;refine wpRl ?_;repeat (go_big_quiet_step ((first|(fail))))
        refine QBY ?_;rintro _ ⟨RQ,rfl⟩;go_wp2_with fail;go_roundg (n.ps.length-(i+1))
        case measure=>have:=gV.out;omega
        case rel=>exact⟨i+1,_,gV.out,rfl,by go_num,by rw[HE.out],aq⟩
      ·obtain rfl:i=n.ps.length:=by omega
       have qM:=W8.out;have hh:=gC.1 (iG HV.out wI);unfold gW at qM;simp only[Int.toNat_natCast,PL.out] at qM;obtain⟨be,TZ⟩:∃be,jG n.ps O x b0 n.ps.length=be:=⟨_,rfl⟩;rw[TZ] at qM;refine QEO ?_;intro Pq y1 y2 y3 y4;have z0:=O2.out.cell (k:=x) (by rw[LO.out];exact wI);have zf:=O2.out.free x;have zg:=F2.out.free q;clear TZ qM hh;have gb:w.heap.size+1+1<bx:=nL G2.out.2.2 G2.out.2.1;have n1:pI (w.heap.size+1) b:=⟨nQ⟩;have n2:pI b (w.heap.size+1):=⟨nQ⟩;have n3:pI (w.heap.size+1) bx:=⟨nQ⟩;have n4:pI bx (w.heap.size+1):=⟨nQ⟩;have n5:pI (w.heap.size+1+1) bx:=⟨nQ⟩;have n6:pI bx (w.heap.size+1+1):=⟨nQ⟩;have n7:mw w.heap.size bx:=⟨nQ⟩;go_wp2_with fail;go_region_held3 (fun W=>W.cell? ⟨b,o+k,none⟩=some (.int .i64 x)/\W.cell? ⟨bx,3,none⟩=some (.int .i64 (nth n.hs x).hr))
        (refine⟨?_,?_⟩<;>go_simp)
        (fail)
       go_upto_region 20 with fail;refine aK fun W3 bN=>?_;have hwr:IntKind.i64.wrap (be+(nth n.hs x).hr)=be+(nth n.hs x).hr:=by simp only[IntKind.wrap,IntKind.bits,IntKind.signed];simp;omega
       have o3:gd W3 (w.heap.size+1) (O.set x (be+(nth n.hs x).hr)):=by rw[bN.out];rw[hwr];exact((O2.out.af _).set _ _).drew
       have f3:gd W3 (w.heap.size+1+1) F:=by rw[bN.out];exact((F2.out.af _).eZ (by show w.heap.size+1+1≠w.heap.size+1;omega) _).drew
       have b3:av W3 w.heap.size 32 #[.int .i64 n.m,.slice (some ⟨bh,oh,none⟩) n.hs.length rhc,.slice rpA n.ps.length rpc]:=by rw[bN.out];exact(B2.out.af _).eZ (by show w.heap.size≠w.heap.size+1;omega) _
       have e3:av W3 bx 105 #[.int .i64 (nth n.hs x).fr,.int .i64 (nth n.hs x).lo,.int .i64 (nth n.hs x).hi,.int .i64 (nth n.hs x).hr]:=by rw[bN.out];exact(X2.out.af _).eZ (by show bx≠w.heap.size+1;omega) _
       have g3:aC w.heap.size w W3:=iC bN;have g4:Le w.heap.size W3:=fR bN;have x2:=f3.cell (k:=q) (by rw[LF.out];exact Xq);have x3:=f3.free q;have x4:=f3.lt;have x5:=e3.cell (i:=3) rfl;have x6:=e3.lt;have O3:=qh o3;have F3:=qh f3;have B3:=qh b3;clear bN o3 f3 b3 e3;go_wp2_with fail;go_roundg (l.length-(k+1))
       case measure=>have:=HK.out;omega
       case rel=>
        refine⟨k+1,HK.out.2,rfl,by go_num,?_,?_,B3.out.eZ (by show w.heap.size≠w.heap.size+1+1;omega) _,inferInstance,inferInstance⟩
        ·rw[Iu.out];show gd _ (w.heap.size+1+1) (F.set (own F) (gW n (F,O) x));rw[zb.out,Pq.out];exact F3.out.set _ _
        ·rw[Iu.out];show gd _ (w.heap.size+1) (O.set (x:Int).toNat (gW n (F,O) x));rw[Pq.out,Int.toNat_natCast];exact O3.out.eZ (by show w.heap.size+1≠w.heap.size+1+1;omega) _
  ·obtain rfl:k=l.length:=by omega
   have hlen:=jK n l;have vX:=hO.sl (by rw[(oQ n _).2];omega);rw[List.take_length] at vX;have vX:Sl aH wr.heap.size wr (some ⟨w.heap.size+1,0,none⟩) (times n l).length (times n l):=vX;rw[hlen] at vX;have LJ:=qh vX;have UE:=qh hlen;clear vX hlen hF hO hP;go_wp2_with fail;go_ret;refine⟨some ⟨w.heap.size+1,0,none⟩,n.hs.length,wr,by rw[UE.out];rfl,aq,?_⟩;rw[<-aq (w:=w) (W:=wr)];exact LJ.out
end
section
open Me
theorem MC(r:cw)(n:Net)(B:Nat)(w:nJ)[hB:Le B w](hN:bG B w r n)(h6:n.hs.length<=1000):Calls nH 267 #[cD r n] w fun e w'=>∃(A':Option Addr) (c':Nat) (δ:nJ),e=.returned (.slice A' n.hs.length c')/\w'=af w δ/\Hid (Sl aH (af w δ).heap.size (af w δ) A' c' (jQ n)):=by
 have HN:=qh hN;clear hN;go_enter Tryz.func267,Tryz.ntmps267;go_wp2_with fail;refine QAV ?_;intro W1 aE cz de cN cY dc rX lH jU;have G1:=qh (HN.out.up:bG B W1 r n);clear aE;go_loopg [3,4] n.hs.length (fun g s3 s4 wr=>∃(k c':Nat) (A':Option Addr),k<=n.hs.length/\g=n.hs.length-k/\s4=.int .i64 k/\s3=.slice A' k c'/\wr.ownsRow W1.heap.size 3 1 (.slice A' k c') k (((jQ n).take k).flatMap aH)/\aC W1.heap.size W1 wr/\Le W1.heap.size wr)
 case atStart=>exact⟨0,0,none,nE _,rfl,rfl,rfl,by simpa using World.ownsRow_nil _ _ _ _,inferInstance,inferInstance⟩
 case round=>
  obtain⟨k,c',A',hk,rfl,rfl,rfl,hown,i1,i2⟩:=hrel;have q1:=(bz i1.out w.heap.size 1 dc.out).trans lH;have i3:Lt w.heap.size wr:=⟨nL dc.out i2.out⟩;have HO:=qh hown;clear hown;by_cases hlt:k<n.hs.length
  ·obtain⟨b,o,hA,hb,d0,d1,d2,d3⟩:=G1.out.1.hole hlt;obtain⟨rhA,rhc,rpA,rpc⟩:=r;have hA:rhA=some ⟨b,o,none⟩:=hA;subst hA;have KR:b<W1.heap.size:=nL hb cz.out;have e1:=(bz i1.out b (o+k*4+1) KR).trans d1;have e2:=(bz i1.out b (o+k*4+2) KR).trans d2;have ib:Lt b wr:=⟨nL KR i2.out⟩;refine QEC ?_;intro hki hk0;have HT:=qh (show(jQ n).take (k+1)=(jQ n).take k++[(nth n.hs k).hi] by rw[bu _ (by simp[jQ];exact hlt),rz hlt]);have gV:=qh hlt;clear d0 d1 d2 d3 hlt;go_wp2_with (at_builtin;(refine dA W1 uC (.tmp 12) (.tmp 20) rfl rfl HO.out rfl rfl nW rfl (by simp[Value.oneCell']) nQ nQ ?_);intro A2 c2 δ2 Am);go_roundg (n.hs.length-(k+1))
   case measure=>have:=gV.out;omega
   case rel=>refine⟨k+1,c2,A2,gV.out,rfl,by go_num,rfl,?_,inferInstance,inferInstance⟩;rw[HT.out,List.flatMap_append];simpa [aH] using Am
  ·obtain rfl:k=n.hs.length:=by omega
   go_wp2_with fail;go_ret;have ho:=HO.out;rw[List.take_of_length_le (by simp[jQ])] at ho;have i8:aC w.heap.size w wr:=wJ cY i1;have i9:Le w.heap.size wr:=⟨nT cN.out i2.out⟩;refine⟨A',c',wr,rfl,aq,?_⟩;rw[<-aq (w:=w) (W:=wr)];have hl:(jQ n).length=n.hs.length:=by simp[jQ]
   rw[<-hl] at ho;exact Sl.bW ho
theorem CY(r:cw)(n:Net)(A:Option Addr)(c ln:Nat)(l:List Int)(B:Nat)(w:nJ)[hB:Le B w](hS:Sl aH B w A c l)(hN:bG B w r n)(hv:valid n=true)(hl:fA n l=true)(gG:l.length=ln):Calls nH 235 #[cD r n,.slice A ln c] w fun e w'=>∃(A':Option Addr) (c':Nat) (δ:nJ),e=.returned (.slice A' n.hs.length c')/\w'=af w δ/\Hid (Sl aH (af w δ).heap.size (af w δ) A' c' (times n l)):=by subst gG;obtain⟨a,b,c',d,e⟩:=jN hv;have:=FN r n A c l B w hS hN a b c' d e (mD hl) (by rw[iV hl];exact b);rwa [jK] at this
theorem JR(r:cw)(n:Net)(A:Option Addr)(c ln:Nat)(l:List Int)(A2:Option Addr)(c2 ln2:Nat)(tr:List Int)(B:Nat)(w:nJ)[hB:Le B w](hS:Sl aH B w A c l)(hT:Sl aH B w A2 c2 tr)(hN:bG B w r n)(hv:valid n=true)(hl:fA n l=true)(gG:l.length=ln)(Xp:tr.length=n.hs.length)(YB:tr.length=ln2)(htb:jT 20 tr):Calls nH 266 #[cD r n,.slice A ln c,.slice A2 ln2 c2] w fun e w'=>e=.returned (.int .i64 (jE n l tr))/\∃δ,w'=af w δ:=by
 have HS:=qh hS;have HT:=qh hT;have HN:=qh hN;have HV:=qh hv;have HO:=qh hl;have HTB:=qh htb;have h6:=(jN hv).2.1;have GN:ln2=n.hs.length:=nQ;subst GN;have mG:=qh gG;have WI:=qh Xp;clear hS hN hT hv hl htb gG Xp YB;go_enter Tryz.func266,Tryz.ntmps266;go_wp2_with (go_at_call 235;refine(CY r n A c _ l B _ HS.out.up HN.out.up HV.out HO.out mG.out).mono ?_;rintro e w1 ⟨A',c',δ,rfl,rfl,hT⟩);refine QAV ?_;intro W1 aE cz de cN cY dc rX lH jU;have T1:Sl aH W1.heap.size W1 A' c' (times n l):=by rw[aE.out];exact hT.out
 have T2:Sl aH B W1 A2 c2 tr:=HT.out.up;have N1:bG B W1 r n:=HN.out.up;have RH:=qh T1;have Jt:=qh T2;have SA:=qh N1;clear aE hT T1 T2 N1;go_loopg [8,9] n.hs.length (fun g s8 s9 wr=>∃(k:Nat) (δ:nJ),k<=n.hs.length/\g=n.hs.length-k/\s9=.int .i64 k/\s8=.int .i64 (jq n.hs (times n l) tr k)/\wr=af W1 δ)
 case atStart=>exact⟨0,W1,nE _,rfl,rfl,rfl,(aY W1).symm⟩
 case round=>
  obtain⟨k,δ,hk,rfl,rfl,rfl,rfl⟩:=hrel;by_cases hlt:k<n.hs.length
  ·obtain⟨b,o,rfl,hb,hc⟩:=RH.out.int (k:=k) (by rw[jK];exact hlt);have ib:Lt b W1:=⟨hb⟩;obtain⟨b2,o2,rfl,gi,Ji⟩:=Jt.out.int (k:=k) (by rw[WI.out];exact hlt);have ib2:Lt b2 W1:=⟨nL gi cz.out⟩;obtain⟨bh,oh,GY,So,d0,d1,d2,d3⟩:=SA.out.1.hole hlt;have ibh:Lt bh W1:=⟨nL So cz.out⟩;obtain⟨rhA,rhc,rpA,rpc⟩:=r;have GY:rhA=some ⟨bh,oh,none⟩:=GY;subst GY;refine QEC ?_;intro hki hk0;have ht:=sY HV.out HO.out k;have hh:=gC.1 (iG (jN HV.out).2.2.2.1 hlt);have htk:=HTB.out k;have q1:0<=nth (times n l) k:=ht.1;have q2:nth (times n l) k<=74:=ht.2;have q3:0<=(nth n.hs k).fr:=hh.1;have q4:(nth n.hs k).fr<=20:=hh.2.1;obtain⟨m1,m2⟩:=M9 (a:=nth tr k) (b:=nth (times n l) k-(nth n.hs k).fr) htk.1 htk.2 nQ nQ;obtain⟨b3,b4⟩:=wF HV.out HO.out HTB.out k hk;have HE:=qh (show jq n.hs (times n l) tr (k+1)=jq n.hs (times n l) tr k+nth tr k*(nth (times n l) k-(nth n.hs k).fr) from rfl);have gV:=qh hlt;clear hlt hk hb gi So ht hh htk d1 d2 d3;go_wp2_with fail;refine wpRl ?_;repeat (go_big_quiet_step ((first|(fail))))
   refine QBY ?_;rintro _ ⟨δq,rfl⟩;go_wp2_with fail;go_roundg (n.hs.length-(k+1))
   case measure=>have:=gV.out;omega
   case rel=>exact⟨k+1,_,gV.out,rfl,by go_num,by rw[HE.out],aq⟩
  ·obtain rfl:k=n.hs.length:=by omega
   go_wp2_with fail;go_ret;exact⟨rfl,ag⟩
theorem uO(r:cw)(n:Net)(A:Option Addr)(c ln:Nat)(l:List Int)(B:Nat)(w:nJ)[hB:Le B w](hS:Sl aH B w A c l)(hN:bG B w r n)(hv:valid n=true)(hl:fA n l=true)(gG:l.length=ln):Calls nH 198 #[cD r n,.slice A ln c] w fun e w'=>e=.returned (.int .i64 (gX n l))/\∃δ,w'=af w δ:=by
 have HS:=qh hS;have HN:=qh hN;have HV:=qh hv;have HO:=qh hl;have h6:=(jN hv).2.1;have mG:=qh gG;clear hS hN hv hl gG;go_enter Tryz.func198,Tryz.ntmps198;go_wp2_with (go_at_call 235;refine(CY r n A c _ l B _ HS.out.up HN.out.up HV.out HO.out mG.out).mono ?_;rintro e w1 ⟨A',c',δ,rfl,rfl,hT⟩);refine aK fun W1 aE=>?_;obtain⟨cz,de,cN,cY,dc⟩:=yj B w aE;have T1:Sl aH W1.heap.size W1 A' c' (times n l):=by rw[aE.out];exact hT.out
 have RH:=qh T1;clear aE hT T1;go_loopg [6,7] n.hs.length (fun g s8 s9 wr=>∃(k:Nat) (δ:nJ),k<=n.hs.length/\g=n.hs.length-k/\s9=.int .i64 k/\s8=.int .i64 (oD (times n l) k)/\wr=af W1 δ)
 case atStart=>exact⟨0,W1,nE _,rfl,rfl,rfl,(aY W1).symm⟩
 case round=>
  obtain⟨k,δ,hk,rfl,rfl,rfl,rfl⟩:=hrel;by_cases hlt:k<n.hs.length
  ·obtain⟨b,o,rfl,hb,hc⟩:=RH.out.int (k:=k) (by rw[jK];exact hlt);have ib:Lt b W1:=⟨hb⟩;refine QEC ?_;intro hki hk0;have gV:=qh hlt;clear hlt;by_cases Jg:oD (times n l) k<nth (times n l) k
   ·have HE:=qh (show oD (times n l) (k+1)=nth (times n l) k by rw[oD];omega);go_wp2_with fail;go_roundg (n.hs.length-(k+1))
    case measure=>have:=gV.out;omega
    case rel=>exact⟨k+1,_,gV.out,rfl,by go_num,by rw[HE.out],aq⟩
   ·have HE:=qh (show oD (times n l) (k+1)=oD (times n l) k by rw[oD];omega);go_wp2_with fail;go_roundg (n.hs.length-(k+1))
    case measure=>have:=gV.out;omega
    case rel=>exact⟨k+1,_,gV.out,rfl,by go_num,by rw[HE.out],aq⟩
  ·obtain rfl:k=n.hs.length:=by omega
   go_wp2_with fail;go_ret;exact⟨rfl,ag⟩
theorem kE(r:cw)(n:Net)(A:Option Addr)(c ln:Nat)(l:List Int)(B:Nat)(w:nJ)[hB:Le B w](hS:Sl aH B w A c l)(hN:bG B w r n)(hv:valid n=true)(hl:fA n l=true)(gG:l.length=ln):Calls nH 231 #[cD r n,.slice A ln c] w fun e w'=>e=.returned (.int .i64 (dW n l))/\∃δ,w'=af w δ:=by
 have HS:=qh hS;have HN:=qh hN;have HV:=qh hv;have HO:=qh hl;have h6:=(jN hv).2.1;have mG:=qh gG;have HHI:=qh (uj (jN hv).2.2.2.1).1;clear hS hN hv hl gG;go_enter Tryz.func231,Tryz.ntmps231;go_wp2_with fail;go_region_held3 (fun W=>W.cell? ⟨w.heap.size,0,none⟩=some (.int .i64 n.m)/\W.cell? ⟨w.heap.size,1,none⟩=some (.slice r.hA n.hs.length r.hc)/\W.cell? ⟨w.heap.size,2,none⟩=some (.slice r.pA n.ps.length r.pc))
  (refine⟨?_,?_,?_⟩<;>go_simp)
  (first|(go_at_call 267;refine(MC r n B _ HN.out.up nQ).mono ?_;rintro e w1 ⟨A1,c1,δ1,rfl,rfl,hH⟩)|(go_at_call 266;refine(JR r n A c _ l A1 c1 _ (jQ n) _ _ HS.out.wide hH.out.wide HN.out.wide HV.out HO.out mG.out (by simp[jQ]) (by simp[jQ]) HHI.out).mono ?_;rintro e w1 ⟨rfl,δ2,rfl⟩))
 all_goals go_wp2_with fail;go_ret;exact⟨rfl,ag⟩
end
namespace Me
theorem Uk{α:Type}(f:α->Int)(b:α)(xs:List α)(h:f (wK f b xs)=f b):wK f b xs=b:=by
 induction xs generalizing b with
 |nil=>rfl
 |cons x xs ih=>
  unfold wK at h ⊢
  split
  ·rename_i hlt;rw[if_pos hlt] at h;have:=(yJ f x xs).1;omega
  ·rename_i hlt;rw[if_neg hlt] at h;exact ih b h
def sameAs{α:Type}(f:α->Int)(v:Int)(xs:List α):List α:=xs.filter fun x=>decide (f x=v)
theorem OV{α:Type}(f:α->Int)(b:α)(xs:List α):∃ys,sameAs f (f (wK f b xs)) (b::xs)=wK f b xs::ys:=by
 unfold sameAs;induction xs generalizing b with
 |nil=>exact⟨[],by simp[wK]⟩
 |cons x xs ih=>
  unfold wK
  by_cases hlt:f x<f b
  ·rw[if_pos hlt];obtain⟨ys,hys⟩:=ih x;have:=(yJ f x xs).1;refine⟨ys,?_⟩;rw[List.filter_cons_of_neg (by simp;omega)];exact hys
  ·rw[if_neg hlt];have h1:=(yJ f b xs).1;by_cases he:f (wK f b xs)=f b
   ·have hb:=Uk f b xs he;rw[hb,List.filter_cons_of_pos nV];exact⟨_,rfl⟩
   ·obtain⟨ys,hys⟩:=ih b;rw[List.filter_cons_of_neg (by simp;omega)] at hys;refine⟨ys,?_⟩;rw[List.filter_cons_of_neg (by simp;omega),List.filter_cons_of_neg (by simp;omega)];exact hys
def rY(n:Net):List (List Int):=sameAs (dW n) (dK n) (gj n)
theorem LA{n:Net}(h:qN n=true):∃ys,rY n=fQ n::ys:=by
 unfold rY dK fQ;have hne:=ou h;cases ho:gj n with
 |nil=>exact absurd ho hne
 |cons x xs=>exact OV (dW n) x xs
end Me
section
open Me
namespace Me
def mo{α:Type}[Inhabited α](f:α->Int)(v:Int)(xs:List α):Nat->Int
 |0=>v
 |k+1=>min (mo f v xs k) (f (nth xs k))
theorem Qv{α:Type}[Inhabited α]{f:α->Int}{v:Int}{xs:List α}(k:Nat):mo f v xs k<=v/\(∀j,j<k->mo f v xs k<=f (nth xs j))/\(mo f v xs k=v\/∃j,j<k/\mo f v xs k=f (nth xs j)):=by
 induction k with
 |zero=>exact⟨Int.le_refl _,fun j hj=>absurd hj (Nat.not_lt_zero _),.inl rfl⟩
 |succ k ih=>
  obtain⟨i1,i2,i3⟩:=ih
  show min _ _<=v/\(∀j,j<k+1->min _ _<=_)/\(min _ _=v\/∃j,j<k+1/\min _ _=_)
  refine⟨nQ,fun j hj=>?_,?_⟩
  ·rcases Nat.lt_or_ge j k with h|h
   ·have:=i2 j h;omega
   ·obtain rfl:j=k:=by omega
    omega
  ·by_cases h:f (nth xs k)<mo f v xs k
   ·exact .inr ⟨k,nA _,nQ⟩
   ·rcases i3 with h3|⟨j,hj,h3⟩
    ·exact .inl nQ
    ·exact .inr ⟨j,nQ,nQ⟩
theorem Qx{α:Type}[Inhabited α]{xs:List α}{x:α}(h:x∈xs):∃k,k<xs.length/\nth xs k=x:=by obtain⟨i,hi,rfl⟩:=List.getElem_of_mem h;exact⟨i,hi,by simp[nth,hi]⟩
theorem Du{α:Type}[Inhabited α]{f:α->Int}{xs:List α}(hne:xs≠[]):mo f (f (nth xs 0)) xs xs.length=f (least f xs):=by
 obtain⟨i1,i2,i3⟩:=Qv (f:=f) (v:=f (nth xs 0)) (xs:=xs) xs.length;have h0:0<xs.length:=List.length_pos_iff.2 hne;obtain⟨k,hk,he⟩:=Qx (fJ f hne);have a1:=i2 k hk;rw[he] at a1;have a2:∃j,j<xs.length/\mo f (f (nth xs 0)) xs xs.length=f (nth xs j):=by
  rcases i3 with h|h
  ·exact⟨0,h0,h⟩
  ·exact h
 obtain⟨j,hj,h3⟩:=a2;have:=least_le f (aS xs hj);omega
theorem Io{n:Net}{k:Nat}(hk:k<(gj n).length):sameAs (dW n) (dK n) ((gj n).take (k+1))=sameAs (dW n) (dK n) ((gj n).take k)++(if dW n (nth (gj n) k)=dK n then[nth (gj n) k] else[]):=by
 rw[bu _ hk];unfold sameAs;rw[List.filter_append];congr 1;by_cases h:dW n (nth (gj n) k)=dK n
 ·rw[if_pos h,List.filter_cons_of_pos (by simpa using h)];rfl
 ·rw[if_neg h,List.filter_cons_of_neg (by simpa using h)];rfl
theorem Jo{n:Net}{k:Nat}(hk:k<(gj n).length):fA n (nth (gj n) k)=true/\(nth (gj n) k).length=n.hs.length:=by have h:=qW.1 (aS _ hk);exact⟨h,iV h⟩
theorem yM{n:Net}(hv:valid n=true):0<(gj n).length/\(gj n).length<=50000:=by refine⟨List.length_pos_iff.2 (ou (oG hv)),?_⟩;have h6:=(jN hv).2.1;have:=De h6 n.hs.length [];have h2:6 ^ n.hs.length<=6 ^ 6:=Nat.pow_le_pow_right nQ h6;unfold gj;omega
end Me
theorem uD.nth{T:TypeId}{w:nJ}{A:Option Addr}{c:Nat}{xss:List (List Int)}(h:uD T aH w A c xss){k m:Nat}(hk:k<xss.length)(hm:(nth xss k).length=m):∃b o A' c',A=some ⟨b,o,none⟩/\b<w.heap.size/\w.cell? ⟨b,o+k,none⟩=some (.slice A' m c')/\fm T aH w.heap.size w A' c' (nth xss k):=by
 have e:Go.Proofs.YtcjjlikhlmfedaaGreatDoor.nth xss k=xss[k]:=by simp[Go.Proofs.YtcjjlikhlmfedaaGreatDoor.nth,hk]
 obtain⟨b,o,A',c',h1,h2,h3,h4⟩:=h.at_ hk;rw[<-e] at h3 h4;exact⟨b,o,A',c',h1,h2,by rw[<-hm];exact h3,h4⟩
theorem IQ(r:cw)(n:Net)(hv:valid n=true)(B:Nat)(w:nJ)[hB:Le B w](hN:bG B w r n):Calls nH 193 #[cD r n] w (ov w (rY n)):=by
 have h6:=(jN hv).2.1;obtain⟨l0,l1⟩:=yM hv;have HN:=qh hN;have HV:=qh hv;have H6:=qh h6;have UF:=qh (Du (f:=dW n) (ou (oG hv)));clear hN hv h6;obtain⟨L,hL⟩:∃L,gj n=L:=⟨_,rfl⟩;have HL:=qh hL;rw[hL] at l0 l1;clear hL;go_enter Tryz.func193,Tryz.ntmps193;go_wp2_with (go_at_call 61;refine(ru r n B _ HN.out.up H6.out).mono ?_;rw[HL.out];rintro e w1 ⟨A,c,δ,rfl,rfl,hS⟩);refine QAV ?_;intro W1 aE cz de cN cY dc rX lH jU;have S1:Hid (uD 3 aH W1 A c L):=by rw[aE.out];exact hS
 have N1:=qh (HN.out.up:bG B W1 r n);clear aE hS;have Xm:∀k,k<L.length->fA n (nth L k)=true/\(nth L k).length=n.hs.length:=by rw[<-HL.out];exact fun k hk=>Jo hk
 have HA:=qh Xm;clear Xm;obtain⟨b,o,A0,c0,rfl,hb,hc,hs0⟩:=S1.out.nth l0 (HA.out 0 l0).2;rw[Nat.add_zero] at hc;have ib:Lt b W1:=⟨hb⟩;have H0:=qh hs0.plain;clear hs0;have hl0:(0:Int)<(L.length:Int):=nQ;refine wpRl ?_;repeat (go_big_quiet_step ((first|(go_at_call 231;exact Calls.bU (kE r n A0 c0 _ (nth L 0) _ _ H0.out.up N1.out.wide.up HV.out (HA.out 0 l0).1 (HA.out 0 l0).2)))))
 refine QBY ?_;rintro _ ⟨δq,rfl⟩;obtain⟨v,hv0⟩:∃v,dW n (nth L 0)=v:=⟨_,rfl⟩;rw[hv0];have UF:Hid (mo (dW n) v L L.length=dK n):=by have:=UF.out;rw[HL.out,hv0] at this;exact this.trans (by unfold dK fQ;rw[HL.out])
 clear hv0;go_wp2_with fail;go_loopg [4,5] L.length (fun g s4 s5 wr=>∃(k:Nat) (δ:nJ),k<=L.length/\g=L.length-k/\s5=.int .i64 k/\s4=.int .i64 (mo (dW n) v L k)/\wr=af W1 δ)
 case atStart=>exact⟨0,_,nE _,rfl,rfl,rfl,rfl⟩
 case round=>
  obtain⟨k,δ,hk,rfl,rfl,rfl,rfl⟩:=hrel;by_cases hlt:k<L.length
  ·obtain⟨b',o',Ak,ck,oH,hbk,GU,QN⟩:=S1.out.nth hlt (HA.out k hlt).2;obtain⟨rfl,rfl⟩:b=b'/\o=o':=by simpa using oH
   have HK:=qh QN.plain;have hki:(k:Int)<(L.length:Int):=nQ;have hk0:¬(k:Int)<0:=nQ;have gV:=qh hlt;clear hlt hk QN hbk hc;by_cases hmn:dW n (nth L k)<mo (dW n) v L k
   ·have HE:=qh (show mo (dW n) v L (k+1)=dW n (nth L k) by rw[mo];omega);go_wp2_with fail;refine wpRl ?_;repeat (go_big_quiet_step ((first|(go_at_call 231;exact Calls.bU (kE r n Ak ck _ (nth L k) _ _ HK.out.up N1.out.wide.up HV.out (HA.out k gV.out).1 (HA.out k gV.out).2)))))
    refine QBY ?_;rintro _ ⟨RQ,rfl⟩;go_wp2_with fail;go_roundg (L.length-(k+1))
    case measure=>have:=gV.out;omega
    case rel=>exact⟨k+1,_,gV.out,rfl,by go_num,by rw[HE.out],aq⟩
   ·have HE:=qh (show mo (dW n) v L (k+1)=mo (dW n) v L k by rw[mo];omega);go_wp2_with fail;refine wpRl ?_;repeat (go_big_quiet_step ((first|(go_at_call 231;exact Calls.bU (kE r n Ak ck _ (nth L k) _ _ HK.out.up N1.out.wide.up HV.out (HA.out k gV.out).1 (HA.out k gV.out).2)))))
    refine QBY ?_;rintro _ ⟨RQ,rfl⟩;go_wp2_with fail;go_roundg (L.length-(k+1))
    case measure=>have:=gV.out;omega
    case rel=>exact⟨k+1,_,gV.out,rfl,by go_num,by rw[HE.out],aq⟩
  ·obtain rfl:k=L.length:=by omega
   rw[UF.out];refine aK fun W2 eu=>?_;obtain⟨Jc,sJ,uX,uW⟩:=He B W1 eu;have tZ:Lt (w.heap.size) W2:=mb eu;have tY:Lt (b) W2:=mb eu;have vm:W2.cell? ⟨w.heap.size,0,none⟩=some (.int .i64 n.m):=by rw[eu.out];go_simp
   have yz:W2.cell? ⟨w.heap.size,1,none⟩=some (.slice r.hA n.hs.length r.hc):=by rw[eu.out];go_simp
   have Hu:W2.cell? ⟨w.heap.size,2,none⟩=some (.slice r.pA n.ps.length r.pc):=by rw[eu.out];go_simp
   have S2:Hid (uD 3 aH W2 (some ⟨b,o,none⟩) c L):=by rw[eu.out];exact S1.out.up
   have N2:=qh (N1.out.up:bG B W2 r n);have j1:aC w.heap.size w W2:=wJ cY (inferInstance:aC W1.heap.size W1 W2);have j2:Le w.heap.size W2:=⟨nT cN.out (inferInstance:Le W1.heap.size W2).out⟩;clear eu S1 N1 H0 hc;go_wp2_with fail;go_loopg [6,7] L.length (fun g s6 s7 wr=>∃(k c':Nat) (A':Option Addr) (cs:List nK),k<=L.length/\g=L.length-k/\s7=.int .i64 k/\s6=.slice A' (sameAs (dW n) (dK n) (L.take k)).length c' /\
    wr.ownsRow W2.heap.size 35 1 (.slice A' (sameAs (dW n) (dK n) (L.take k)).length c') (sameAs (dW n) (dK n) (L.take k)).length cs/\Hid (ic 3 aH W2 cs (sameAs (dW n) (dK n) (L.take k)))/\aC W2.heap.size W2 wr/\Le W2.heap.size wr)
   case atStart=>exact⟨0,0,none,[],nE _,rfl,rfl,rfl,World.ownsRow_nil _ _ _ _,ic.nil,inferInstance,inferInstance⟩
   case round=>
    obtain⟨k,c',A',cs,hk,rfl,rfl,rfl,hown,hsub,i1,i2⟩:=hrel;have hle:(sameAs (dW n) (dK n) (L.take k)).length<=50000:=by refine nT (List.length_filter_le _ _) ?_;rw[List.length_take];omega
    obtain⟨R,hR⟩:∃R,sameAs (dW n) (dK n) (L.take k)=R:=⟨_,rfl⟩;rw[hR] at hown hsub hle ⊢;have HR:=qh hR;have HO:=qh hown;have QM:w.heap.size<W2.heap.size:=(inferInstance:Lt w.heap.size W2).out;have q0:wr.cell? ⟨w.heap.size,0,none⟩=some (.int .i64 n.m):=(bz i1.out w.heap.size 0 QM).trans nZ;have q1:wr.cell? ⟨w.heap.size,1,none⟩=some (.slice r.hA n.hs.length r.hc):=(bz i1.out w.heap.size 1 QM).trans nZ;have q2:wr.cell? ⟨w.heap.size,2,none⟩=some (.slice r.pA n.ps.length r.pc):=(bz i1.out w.heap.size 2 QM).trans nZ;have iw:Lt w.heap.size wr:=⟨nL QM i2.out⟩;clear hown hR;by_cases hlt:k<L.length
    ·obtain⟨b',o',Ak,ck,oH,hbk,GU,QN⟩:=S2.out.nth hlt (HA.out k hlt).2;obtain⟨rfl,rfl⟩:b=b'/\o=o':=by simpa using oH
     have acv:=(bz i1.out b _ hbk).trans GU;have ibr:Lt b wr:=⟨nL hbk i2.out⟩;have HSK:=qh QN;have HK:=qh ((QN.plain.up (hg:=i1)).more i2.out);have HN3:=qh ((N2.out.wide:bG W2.heap.size W2 r n).up (hg:=i1));have HN4:=qh (HN3.out.more i2.out);have hki:(k:Int)<(L.length:Int):=nQ;have hk0:¬(k:Int)<0:=nQ;have gV:=qh hlt;have hsn:sameAs (dW n) (dK n) (L.take (k+1))=R++(if dW n (nth L k)=dK n then[nth L k] else[]):=by have:=Io (n:=n) (k:=k) (by rw[HL.out];exact hlt);rw[HL.out] at this;rw[this,HR.out]
     have Pm:=qh hsn;clear hlt hk QN hbk hsn;by_cases hE:dW n (nth L k)=dK n
     ·have hEb:(dW n (nth L k)==dK n)=true:=by simpa using hE
      have Uy:=qh (show sameAs (dW n) (dK n) (L.take (k+1))=R++[nth L k] by rw[Pm.out,if_pos hE]);clear hE;go_wp2_with fail;refine wpRl ?_;repeat (go_big_quiet_step ((first|(go_at_call 231;exact Calls.bU (kE r n Ak ck _ (nth L k) _ _ HK.out.up HN4.out.up HV.out (HA.out k gV.out).1 (HA.out k gV.out).2)))))
      refine QBY ?_;rintro _ ⟨RQ,rfl⟩;go_wp2_with (at_builtin;(refine dA W2 PX (.tmp 43) (.tmp 48) rfl rfl (jX _ HO.out) rfl rfl nW rfl (by simp[Value.oneCell']) nQ nQ ?_);intro A2 c2 δ2 Am);go_roundg (L.length-(k+1))
      case measure=>have:=gV.out;omega
      case rel=>
       refine⟨k+1,c2,A2,cs++[.slice Ak n.hs.length ck],gV.out,rfl,by go_num,?_,?_,?_,inferInstance,inferInstance⟩
       ·rw[Uy.out,List.length_append];rfl
       ·rw[Uy.out,List.length_append];exact Am
       ·rw[Uy.out];have h1:=ic.one HSK.out;rw[(HA.out k gV.out).2] at h1;exact hsub.out.append h1
     ·have hEb:(dW n (nth L k)==dK n)=false:=by simpa using hE
      have Uy:=qh (show sameAs (dW n) (dK n) (L.take (k+1))=R by rw[Pm.out,if_neg hE,List.append_nil]);clear hE;go_wp2_with fail;refine wpRl ?_;repeat (go_big_quiet_step ((first|(go_at_call 231;exact Calls.bU (kE r n Ak ck _ (nth L k) _ _ HK.out.up HN4.out.up HV.out (HA.out k gV.out).1 (HA.out k gV.out).2)))))
      refine QBY ?_;rintro _ ⟨RQ,rfl⟩;go_wp2_with fail;go_roundg (L.length-(k+1))
      case measure=>have:=gV.out;omega
      case rel=>exact⟨k+1,c',A',cs,gV.out,rfl,by go_num,by rw[Uy.out],by rw[Uy.out];exact jX _ HO.out,by rw[Uy.out];exact hsub,inferInstance,inferInstance⟩
    ·obtain rfl:k=L.length:=by omega
     have HB:=qh (show rY n=R by unfold rY;rw[HL.out,<-HR.out,List.take_length]);go_wp2_with fail;go_ret;rw[HB.out];have i8:aC w.heap.size w wr:=wJ j1 i1;have i9:Le w.heap.size wr:=⟨nT j2.out i2.out⟩;refine⟨A',c',wr,rfl,aq,?_⟩;rw[<-aq (w:=w) (W:=wr)];exact uD.bW HO.out (hsub.out.up (hg:=i1) (hs:=i2)) rfl
end
section
open Me
theorem EA{n:Net}(hv:valid n=true):0<(rY n).length/\(rY n).length<=50000/\nth (rY n) 0=fQ n:=by obtain⟨ys,h⟩:=LA (oG hv);refine⟨by rw[h];simp,nT (List.length_filter_le _ _) (yM hv).2,by rw[h];rfl⟩
theorem FQ(r:cw)(n:Net)(hv:valid n=true)(B:Nat)(w:nJ)(hN:bG B w r n)[hB:Le B w]:Calls nH 197 #[cD r n] w fun e w'=>e=.returned (.int .i64 (dK n))/\∃δ,w'=af w δ:=by
 have HN:=qh hN;have HV:=qh hv;obtain⟨l0,l1,l2⟩:=EA hv;have HB:=qh (gT (oG hv));have L4:=qh (iV (gT (oG hv)));have pJ:=qh l2;have mG:=qh (show dK n=dW n (fQ n) from rfl);have hl0:(0:Int)<((rY n).length:Int):=nQ;clear hN hv l2;go_enter Tryz.func197,Tryz.ntmps197;go_wp2_with fail;go_region_with
  (first|(go_at_call 193;refine(IQ r n HV.out B _ HN.out.up).mono ?_;rintro e w1 ⟨A1,c1,δ1,rfl,rfl,hS⟩;obtain⟨b,o,A0,c0,rfl,hb,hc,hs0⟩:=hS.nth l0 (by rw[pJ.out,L4.out]);rw[Nat.add_zero] at hc;have ib:=Lt.mk hb;rw[pJ.out] at hs0;have H0:=qh hs0.plain;clear hs0 hb)|(go_at_call 231;refine(kE r n A0 c0 _ (fQ n) _ _ H0.out.up HN.out.wide.up HV.out HB.out L4.out).mono ?_;rintro e w1 ⟨rfl,δ2,rfl⟩))
 all_goals go_wp2_with fail;go_ret;rw[mG.out];exact⟨rfl,ag⟩
theorem FP(r:cw)(n:Net)(hv:valid n=true)(B:Nat)(w:nJ)(hN:bG B w r n)[hB:Le B w]:Calls nH 142 #[cD r n] w fun e w'=>e=.returned (.tuple #[.int .i64 (dK n),.int .i64 0])/\∃δ,w'=af w δ:=by have HN:=qh hN;have HV:=qh hv;clear hN hv;go_enter Tryz.func142,Tryz.ntmps142;go_wp2_with (first|(go_at_call 23;refine(sE r n HV.out B _ HN.out.up).mono ?_;rintro e w1 ⟨rfl,δ,rfl⟩)|(go_at_call 197;refine(FQ r n HV.out B _ HN.out.up).mono ?_;rintro e w1 ⟨rfl,δ2,rfl⟩));go_ret2;exact⟨rfl,ag⟩
theorem xg(r:cw)(n:Net)(hv:valid n=true)(B:Nat)(w:nJ)(hN:bG B w r n)[hB:Le B w]:Calls nH 138 #[cD r n] w fun e w'=>∃(A:Option Addr) (c:Nat) (δ:nJ),e=.returned (.tuple #[.slice A n.hs.length c,.int .i64 0])/\w'=af w δ/\Hid (Sl aH (af w δ).heap.size (af w δ) A c (fQ n)):=by have HN:=qh hN;have HV:=qh hv;obtain⟨l0,l1,l2⟩:=EA hv;have L4:=qh (iV (gT (oG hv)));have pJ:=qh l2;have hl0:(0:Int)<((rY n).length:Int):=nQ;clear hN hv l2;go_enter Tryz.func138,Tryz.ntmps138;go_wp2_with (first|(go_at_call 23;refine(sE r n HV.out B _ HN.out.up).mono ?_;rintro e w1 ⟨rfl,δ,rfl⟩)|(go_at_call 193;refine(IQ r n HV.out B _ HN.out.up).mono ?_;rintro e w1 ⟨A1,c1,δ1,rfl,rfl,hS⟩;obtain⟨b,o,A0,c0,rfl,hb,hc,hs0⟩:=hS.nth l0 (by rw[pJ.out,L4.out]);rw[Nat.add_zero] at hc;have ib:=Lt.mk hb;rw[pJ.out] at hs0;have H0:=qh hs0.plain;clear hs0 hb));go_ret2;refine⟨A0,c0,_,rfl,aq,?_⟩;refine QDK ?_;exact H0
end
section
open Me
theorem JU(r:cw)(n:Net)(hv:valid n=true)(B:Nat)(w:nJ)(hN:bG B w r n)[hB:Le B w]:Calls nH 143 #[cD r n] w fun e w'=>e=.returned (.tuple #[.int .i64 (qS n),.int .i64 0])/\∃δ,w'=af w δ:=by
 have h6:=(jN hv).2.1;obtain⟨l0,l1⟩:=yM hv;have HN:=qh hN;have HV:=qh hv;have H6:=qh h6;have UF:=qh (Du (f:=gX n) (ou (oG hv)));clear hN hv h6;obtain⟨L,hL⟩:∃L,gj n=L:=⟨_,rfl⟩;have HL:=qh hL;rw[hL] at l0 l1;clear hL;go_enter Tryz.func143,Tryz.ntmps143;go_wp2_with (first|(go_at_call 23;refine(sE r n HV.out B _ HN.out.up).mono ?_;rintro e w1 ⟨rfl,δ,rfl⟩)|(go_at_call 61;refine(ru r n B _ HN.out.up H6.out).mono ?_;rw[HL.out];rintro e w1 ⟨A,c,δ,rfl,rfl,hS⟩));refine QAV ?_;intro W1 aE cz de cN cY dc rX lH jU;have S1:Hid (uD 3 aH W1 A c L):=by rw[aE.out];exact hS
 have N1:=qh (HN.out.up:bG B W1 r n);clear aE hS;have Xm:∀k,k<L.length->fA n (nth L k)=true/\(nth L k).length=n.hs.length:=by rw[<-HL.out];exact fun k hk=>Jo hk
 have HA:=qh Xm;clear Xm;obtain⟨b,o,A0,c0,rfl,hb,hc,hs0⟩:=S1.out.nth l0 (HA.out 0 l0).2;rw[Nat.add_zero] at hc;have ib:Lt b W1:=⟨hb⟩;have H0:=qh hs0.plain;clear hs0;have hl0:(0:Int)<(L.length:Int):=nQ;refine wpRl ?_;repeat (go_big_quiet_step ((first|(go_at_call 198;exact Calls.bU (uO r n A0 c0 _ (nth L 0) _ _ H0.out.up N1.out.wide.up HV.out (HA.out 0 l0).1 (HA.out 0 l0).2)))))
 refine QBY ?_;rintro _ ⟨δq,rfl⟩;obtain⟨v,hv0⟩:∃v,gX n (nth L 0)=v:=⟨_,rfl⟩;rw[hv0];have UF:Hid (mo (gX n) v L L.length=qS n):=by have:=UF.out;rw[HL.out,hv0] at this;exact this.trans (by unfold qS;rw[HL.out])
 clear hv0;go_wp2_with fail;go_loopg [6,7] L.length (fun g s4 s5 wr=>∃(k:Nat) (δ:nJ),k<=L.length/\g=L.length-k/\s5=.int .i64 k/\s4=.int .i64 (mo (gX n) v L k)/\wr=af W1 δ)
 case atStart=>exact⟨0,_,nE _,rfl,rfl,rfl,rfl⟩
 case round=>
  obtain⟨k,δ,hk,rfl,rfl,rfl,rfl⟩:=hrel;by_cases hlt:k<L.length
  ·obtain⟨b',o',Ak,ck,oH,hbk,GU,QN⟩:=S1.out.nth hlt (HA.out k hlt).2;obtain⟨rfl,rfl⟩:b=b'/\o=o':=by simpa using oH
   have HK:=qh QN.plain;have hki:(k:Int)<(L.length:Int):=nQ;have hk0:¬(k:Int)<0:=nQ;have gV:=qh hlt;clear hlt hk QN hbk hc;by_cases hmn:gX n (nth L k)<mo (gX n) v L k
   ·have HE:=qh (show mo (gX n) v L (k+1)=gX n (nth L k) by rw[mo];omega);go_wp2_with fail;refine wpRl ?_;repeat (go_big_quiet_step ((first|(go_at_call 198;exact Calls.bU (uO r n Ak ck _ (nth L k) _ _ HK.out.up N1.out.wide.up HV.out (HA.out k gV.out).1 (HA.out k gV.out).2)))))
    refine QBY ?_;rintro _ ⟨RQ,rfl⟩;go_wp2_with fail;go_roundg (L.length-(k+1))
    case measure=>have:=gV.out;omega
    case rel=>exact⟨k+1,_,gV.out,rfl,by go_num,by rw[HE.out],aq⟩
   ·have HE:=qh (show mo (gX n) v L (k+1)=mo (gX n) v L k by rw[mo];omega);go_wp2_with fail;refine wpRl ?_;repeat (go_big_quiet_step ((first|(go_at_call 198;exact Calls.bU (uO r n Ak ck _ (nth L k) _ _ HK.out.up N1.out.wide.up HV.out (HA.out k gV.out).1 (HA.out k gV.out).2)))))
    refine QBY ?_;rintro _ ⟨RQ,rfl⟩;go_wp2_with fail;go_roundg (L.length-(k+1))
    case measure=>have:=gV.out;omega
    case rel=>exact⟨k+1,_,gV.out,rfl,by go_num,by rw[HE.out],aq⟩
  ·obtain rfl:k=L.length:=by omega
   rw[UF.out];go_wp2_with fail;go_ret2;exact⟨rfl,ag⟩
end
section
open Me
theorem Qs(r r':cw)(n:Net)(B:Nat)(w:nJ)[hB:Le B w](h:bG B w r n)(h':bG B w r' n):Calls nH 29 #[cD r n,cD r' n] w fun e w'=>e=.returned (.bool true)/\∃δ,w'=af w δ:=by
 have l1:=h.1.len;have l2:=h.2.len;go_enter Tryz.func29,Tryz.ntmps29;go_upto_region 3 with fail;refine QDA ?_;intro W1 aE cz de cN cY dc dX lH jU kM;have iY:W1.cell? ⟨w.heap.size+1,0,none⟩=some (.int .i64 n.m):=by rw[aE.out];go_simp
 have lC:W1.cell? ⟨w.heap.size+1,1,none⟩=some (.slice r'.hA n.hs.length r'.hc):=by rw[aE.out];go_simp
 have lu:W1.cell? ⟨w.heap.size+1,2,none⟩=some (.slice r'.pA n.ps.length r'.pc):=by rw[aE.out];go_simp
 have s1:bG B W1 r n:=h.up;have s2:bG B W1 r' n:=h'.up;have S1:=qh s1;have S2:=qh s2;clear aE s1 s2 h h';go_wp2_with fail;go_loopw [5] (fun i wr=>∃(k:Nat) (δ:nJ),k<=n.hs.length/\i=.int .i64 k/\wr=af W1 δ) (fun i _=>n.hs.length-(intOf i).toNat)
 case atStart=>exact⟨0,W1,nE _,rfl,(aY W1).symm⟩
 case round=>
  obtain⟨k,δ,hk,rfl,rfl⟩:=hrel;by_cases hlt:k<n.hs.length
  ·obtain⟨b,o,hA,hb,d0,d1,d2,d3⟩:=S1.out.1.hole hlt;obtain⟨b',o',oH,hb',d0',d1',d2',d3'⟩:=S2.out.1.hole hlt;refine QCW ?_;intro ib ib';refine QEC ?_;intro hki hk0;rw[hA] at jU;rw[oH] at lC;clear hA oH;go_wp2_with fail;refine wpRl ?_;repeat (go_big_quiet_step ((first|(fail))))
   refine QBY ?_;rintro _ ⟨δq,rfl⟩;go_wp2_with fail;go_roundw
   case rel=>exact⟨k+1,_,nQ,by go_num,aq⟩
   case measure=>simp[intOf];omega
  ·obtain rfl:k=n.hs.length:=by omega
   go_wp2_with fail;go_loopw [6] (fun i wr=>∃(k:Nat) (δ:nJ),k<=n.ps.length/\i=.int .i64 k/\wr=af W1 δ) (fun i _=>n.ps.length-(intOf i).toNat)
   case atStart=>exact⟨0,δ,nE _,rfl,rfl⟩
   case round=>
    clear hk hlt;obtain⟨k,δ,hk,rfl,rfl⟩:=hrel;by_cases hlt:k<n.ps.length
    ·obtain⟨b,o,hA,hb,d0,d1⟩:=S1.out.2.pr hlt;obtain⟨b',o',oH,hb',d0',d1'⟩:=S2.out.2.pr hlt;refine QCW ?_;intro ib ib';have hki:(k:Int)<(n.ps.length:Int):=nQ;have hk0:¬(k:Int)<0:=nQ;rw[hA] at kM;rw[oH] at lu;clear hA oH;go_wp2_with fail;refine wpRl ?_;repeat (go_big_quiet_step ((first|(fail))))
     refine QBY ?_;rintro _ ⟨δq,rfl⟩;go_wp2_with fail;go_roundw
     case rel=>exact⟨k+1,_,nQ,by go_num,aq⟩
     case measure=>simp[intOf];omega
    ·obtain rfl:k=n.ps.length:=by omega
     go_wp2_with fail;go_ret;exact⟨rfl,ag⟩
end
end Go.Proofs.YtcjjlikhlmfedaaGreatDoor
