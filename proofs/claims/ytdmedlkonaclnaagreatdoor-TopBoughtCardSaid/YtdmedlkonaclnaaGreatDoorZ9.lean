/- A part of the proof that a law of layer 12 holds, cut small by a program (names and blanks): Hm6, Hm7, Hm8. -/
import Derived.Deep.RegionWith
import Derived.Test.YtdmedlkonaclnaaGreatDoorZ8
set_option maxRecDepth 100000
set_option maxHeartbeats 40000000
set_option linter.unusedVariables false
set_option linter.unusedSimpArgs false
namespace Go.Proofs.YtdmedlkonaclnaaGreatDoor
open Go.RowKit
open Nat renaming le_trans → nT, lt_of_lt_of_le → nL, le_refl → nR, zero_le → nE, lt_succ_self → nA
open Go.Proofs.Tryz renaming prog → nH
open Go renaming World → nJ, Value → nK
section
open Me
def xO(n:Net)(m:Nat)(f:List Int)(j:Nat):List (List Int):=(List.range j).flatMap fun(i:Nat)=>if may n f (i:Int)=true then aC n m (f++[(i:Int)]) else[]
theorem zA{n:Net}{m:Nat}{f:List Int}{j:Nat}:xO n m f (j+1)=xO n m f j++(if may n f (j:Int)=true then aC n m (f++[(j:Int)]) else[]):=by simp[xO,List.range_succ]
theorem Fz{n:Net}(h6:n.hs.length<=6)(k:Nat)(l:List Int):(aC n k l).length<=6 ^ k:=by
 induction k generalizing l with
 |zero=>simp[aC]
 |succ k ih=>
  have key:∀j,(xO n k l j).length<=j*6 ^ k:=by
   intro j;induction j with
   |zero=>simp[xO]
   |succ j ihj=>
    rw[zA,List.length_append,Nat.succ_mul]
    have:=ih (l++[(j:Int)])
    split<;>simp<;>omega
  have h1:=key n.hs.length
  have:n.hs.length*6 ^ k<=6*6 ^ k:=Nat.mul_le_mul_right _ h6
  rw[Nat.pow_succ,Nat.mul_comm]
  exact nT h1 this
def pQ(w:nJ)(L:List (List Int))(e:Ending)(w':nJ):Prop:=∃(A:Option Addr) (c:Nat) (δ:nJ),e=.returned (.slice A L.length c)/\w'=af w δ/\wv 3 aI (af w δ) A c L
theorem MU(r:cw)(n:Net)(f:List Int)(A:Option Addr)(c:Nat)(B:Nat)(w:nJ)[hB:Le B w](h:bJ B w r n)(hf:fN 3 aI w.heap.size w A c f)(hl:f.length=n.hs.length):Calls nH 80 #[cI r n,.slice A f.length c] w (pQ w (aC n 0 f)):=by
 have hE:((f.length:Int)==(n.hs.length:Int))=true:=by simp;omega
 have l1:=hf.plain.len;clear hl;go_enter Tryz.func80,Tryz.ntmps80;go_wp2_with fail;go_ret;have hsub:fN 3 aI ((w.alloc (.cells #[.int .i64 n.m,.slice r.hA n.hs.length r.hc,.slice r.pA n.ps.length r.pc] 32)).alloc (.cells #[.slice A f.length c] 35)).heap.size ((w.alloc (.cells #[.int .i64 n.m,.slice r.hA n.hs.length r.hc,.slice r.pA n.ps.length r.pc] 32)).alloc (.cells #[.slice A f.length c] 35)) A c f:=hf.wide;refine⟨some ⟨w.heap.size+1,0,none⟩,1,_,rfl,aq,?_⟩;rw[<-aq (w:=w) (W:=(w.alloc (.cells #[.int .i64 n.m,.slice r.hA n.hs.length r.hc,.slice r.pA n.ps.length r.pc] 32)).alloc (.cells #[.slice A f.length c] 35))];exact⟨nR _,nQ,[.slice A f.length c],ox nW nW,iV.one hsub⟩
def Yn(n:Net)(m:Nat):Prop:=∀(r:cw) (f:List Int) (A:Option Addr) (c:Nat) (B:Nat) (w:nJ),Le B w->bJ B w r n->fN 3 aI w.heap.size w A c f->f.length+m=n.hs.length->∀ln:Nat,f.length=ln ->
 Calls nH 80 #[cI r n,.slice A ln c] w (pQ w (aC n m f))
theorem MS(n:Net)(m:Nat)(h6:n.hs.length<=6)(IH:Yn n m):Yn n (m+1):=by
 intro r f A c B w hB h hf hfl ln jg;subst jg;have l1:=hf.plain.len;have l2:=h.1.len;have hne:((f.length:Int)==(n.hs.length:Int))=false:=by simp;omega
 have hF:=qh (show aC n (m+1) f=xO n m f n.hs.length from rfl);have Xt:6 ^ m<=7776:=by have:6 ^ m<=6 ^ 5:=Nat.pow_le_pow_right nQ nQ;omega
 have acw:f.length<=6:=nQ;have CY:=qh hfl;have Vk:=qh IH;have H:=qh h;clear hfl IH h;go_enter Tryz.func80,Tryz.ntmps80;go_wp2_with fail;refine QAV ?_;intro W1 aH cJ dF cU dA dD um mV kR;have g1:bJ B W1 r n:=H.out.up;have g2:fN 3 aI W1.heap.size W1 A c f:=hf.wide;have G1:=qh g1;have G2:=qh g2;clear g1 g2 hf;go_loopw [5,6] (fun o g wr=>∃(k c':Nat) (A':Option Addr) (cs:List nK) (L:List (List Int)),k<=n.hs.length/\g=.int .i64 k/\Hid (L=xO n m f k)/\L.length<=k*6 ^ m/\o=.slice A' L.length c'/\wr.ownsRow W1.heap.size 35 1 (.slice A' L.length c') L.length cs/\iV 3 aI wr cs L/\au W1.heap.size W1 wr/\Le W1.heap.size wr) (fun _ g _=>(n.hs.length-(intOf g).toNat))
 case atStart=>exact⟨0,0,none,[],[],nE _,rfl,by simp[xO,Hid],nV,rfl,World.ownsRow_nil _ _ _ _,iV.nil,inferInstance,inferInstance⟩
 case round=>
  obtain⟨k,c',A',cs,L,hk,rfl,hL,hLl,rfl,hown,hsub,i1,i2⟩:=hrel;refine QBO ?_;intro hcell i3;refine QBK ?_;intro i5 i6 i7 HO HS;clear hown hsub;by_cases hlt':k<n.hs.length
  ·have hki:(k:Int)<(n.hs.length:Int):=nQ;have hbd:k*6 ^ m<=50000:=by have:=Nat.mul_le_mul (show k<=6 by omega) Xt;omega
   have NI:=Fz h6 m (f++[(k:Int)]);have hsc:=qh (zA (n:=n) (m:=m) (f:=f) (j:=k));by_cases hm:may n f (k:Int)=true
   ·have HM:=qh hm;clear hm;go_wp2_with (go_at_call 149;refine(PS r n _ _ _ _ f _ HM.out W1.heap.size _ G2.out.up.plain (G1.out.more cJ.out).up rfl).mono ?_;rintro e w1 ⟨rfl,δm,rfl⟩);go_goals
    go_region_held3 (fun W=>W.cell? ⟨w.heap.size,0,none⟩=some (.int .i64 n.m)/\W.cell? ⟨w.heap.size,1,none⟩=some (.slice r.hA n.hs.length r.hc)/\W.cell? ⟨w.heap.size,2,none⟩=some (.slice r.pA n.ps.length r.pc))
     (refine⟨?_,?_,?_⟩<;>go_simp)
     (first|(refine fG wr wo (.tmp 28) (.tmp 29) rfl rfl (v:=.slice (some ⟨_,0,none⟩) 0 0) (by first|exact cB nW nW|exact(cB nW nW).alloc _) rfl (B:=W1.heap.size) (A:=A) (m:=f.length) (c:=c) (news:=f.flatMap aI) rfl (G2.out.up.plain.2.2) (bX aI 1 (fun _=>rfl) f) (ei aI Lv f) nQ nQ ?_;intro A1 c1 δ1 eF hg1)|((refine cW wr wo (.tmp 30) (.tmp 32) rfl rfl (v:=.slice A1 f.length c1) (n:=f.length) (xs:=f.flatMap aI) (by first|exact eF|exact eF.alloc _ ) rfl (m:=1) (c:=1) (news:=[.int .i64 (k:Int)]) rfl (ox (by first|(go_simp;done)|(refine hg1.cell nW (by simp[Value.ownBlock]))) (nA _)) rfl (by simp[Value.oneCell']) nQ nQ ?_);intro A2 c2 δ2 iE mU)|(go_at_call 80;refine(Vk.out r (f++[(k:Int)]) A2 c2 B _ inferInstance G1.out.up (fN.bU (by rw[List.flatMap_append];exact iE) nV) (by have:=CY.out;simp;omega) (f.length+1) nV).mono ?_;rintro e w1 ⟨A3,c3,δ3,rfl,rfl,hq1,NF,VP,Rf,hs3⟩)|(refine cW W1 Ti (.tmp 26) (.tmp 34) rfl rfl (v:=.slice A' L.length c') (n:=L.length) (xs:=cs) (bg HO.out) rfl (A:=A3) (m:=(aC n m (f++[(k:Int)])).length) (c:=c3) (news:=VP) rfl Rf (by have:=hs3.1;omega) hs3.Dx nQ nQ ?_;intro A4 c4 δ4 Jo J2))
    all_goals
     go_wp2_with fail;go_roundw
     case rel=>
      refine⟨k+1,c4,A4,cs++VP,L++aC n m (f++[(k:Int)]),nQ,by go_num,?_,?_,by rw[List.length_append],by rw[List.length_append];exact Jo,(HS.out.up.append hs3).grown (bg HO.out) J2 nU,inferInstance,inferInstance⟩
      ·unfold Hid;rw[hsc.out,HM.out,<-hL.out];simp
      ·rw[List.length_append,Nat.succ_mul];omega
     case measure=>simp[intOf];omega
   ·rw[Bool.not_eq_true] at hm;have HM:=qh hm;clear hm;go_wp2_with (go_at_call 149;refine(PS r n _ _ _ _ f _ HM.out W1.heap.size _ G2.out.up.plain (G1.out.more cJ.out).up rfl).mono ?_;rintro e w1 ⟨rfl,δm,rfl⟩);go_roundw
    case rel=>refine⟨k+1,c',A',cs,L,nQ,by go_num,?_,by rw[Nat.succ_mul];omega,rfl,bg HO.out,HS.out.up,inferInstance,inferInstance⟩;unfold Hid;rw[hsc.out,HM.out,<-hL.out];simp
    case measure=>simp[intOf];omega
  ·obtain rfl:k=n.hs.length:=by omega
   have HF:=qh (show aC n (m+1) f=L by rw[hF.out,hL.out]);go_wp2_with fail;go_ret;rw[HF.out];refine QBJ ?_;intro i8 i9;refine⟨A',c',wr,rfl,aq,?_⟩;rw[<-aq (w:=w) (W:=wr)];exact wv.bU HO.out HS.out rfl
theorem P9(n:Net)(h6:n.hs.length<=6)(m:Nat):Yn n m:=by
 induction m with
 |zero=>
  intro r f A c B w hB h hf hl ln jg
  subst jg
  exact MU r n f A c B w h hf nQ
 |succ m ih=>exact MS n m h6 ih
theorem tI(r:cw)(n:Net)(B:Nat)(w:nJ)[hB:Le B w](h:bJ B w r n)(h6:n.hs.length<=6):Calls nH 80 #[cI r n,.slice none 0 0] w (pQ w (gN n)):=
 P9 n h6 n.hs.length r [] none 0 B w hB h fN.none_ nV 0 rfl
end
section
open Me
theorem Iv(n low high:Int)(b:Bool)(hb:fH low high n=b)(w:nJ):Calls nH 78 #[.int .i64 n,.int .i64 low,.int .i64 high] w fun e w'=>e=.returned (.bool b)/\w=w':=by subst hb;exact qi n low high w
theorem Co(r:cw)(n:Net)(B:Nat)(w:nJ)(h:bJ B w r n)[hB:Le B w]:Calls nH 36 #[cI r n] w fun e w'=>e=.returned (.int .i64 (cC (valid n) 40))/\∃δ,w'=af w δ:=by
 have l1:=h.1.len;have l2:=h.2.len;by_cases hd:(1<=n.m/\n.m<=3)/\n.hs.length<=6/\n.ps.length<=8
 ·obtain⟨hm,h6,h8⟩:=hd;have hi1:fH 1 3 n.m=true:=dn.2 hm;have HI:=qh hi1;have H:=qh h;have HM:=qh hm;have g6:¬(6:Int)<(n.hs.length:Int):=nQ;have g8:¬(8:Int)<(n.ps.length:Int):=nQ;clear h hi1 hm;go_enter Tryz.func36,Tryz.ntmps36;go_wp2_with (go_at_call 78;refine(Iv _ _ _ _ HI.out _).mono ?_;rintro e w1 ⟨rfl,rfl⟩);go_loopw [3] (fun i wr=>∃(k:Nat) (δ:nJ),k<=n.hs.length/\i=.int .i64 k/\Hid ((n.hs.take k).all oK=true)/\wr=af (w.alloc (.cells #[.int .i64 n.m,.slice r.hA n.hs.length r.hc,.slice r.pA n.ps.length r.pc] 32)) δ) (fun i _=>n.hs.length-(intOf i).toNat)
  case atStart=>exact⟨0,_,nE _,rfl,by simp[Hid],(bw _).symm⟩
  case round=>
   obtain⟨k,δ,hk,rfl,hn,rfl⟩:=hrel;by_cases hlt:k<n.hs.length
   ·obtain⟨b',o,hA,hb,hc0,Af,LX,Rf⟩:=H.out.1.hole hlt;have hb':Lt b' w:=⟨nL hb hB.out⟩;refine QEB ?_;intro hki hk0;have hx:=qh (aV n.hs hlt);have ht:=qh (bE n.hs hlt);rw[hA];obtain⟨x,Zt⟩:∃x,x=nth n.hs k:=⟨_,rfl⟩;rw[<-Zt] at hc0 Af LX Rf ht hx;clear Zt;obtain⟨fr,lo,hi,hr⟩:=x;simp only at hc0 Af LX Rf;by_cases he:oK ⟨fr,lo,hi,hr⟩=true
    ·obtain⟨e1,e2,e3,e4,e5,e6,e7⟩:=ic.1 he;simp only at e1 e2 e3 e4 e5 e6 e7;have E1:=qh (show fH 0 20 fr=true from dn.2 ⟨e1,e2⟩);have E2:=qh (show fH 0 20 hi=true from dn.2 ⟨nQ,e5⟩);have E3:=qh (show fH 0 hi lo=true from dn.2 ⟨e3,e4⟩);have E4:=qh (show fH 1 9 hr=true from dn.2 ⟨e6,e7⟩);have HE:=qh he;clear e1 e2 e3 e4 e5 e6 e7 he;go_wp2_with (go_at_call 78;refine(qi _ _ _ _).mono ?_;(first|rw[E1.out]|rw[E2.out]|rw[E3.out]|rw[E4.out]);rintro e w1 ⟨rfl,rfl⟩);go_roundw
     case rel=>refine⟨k+1,_,nQ,by go_num,?_,aq⟩;refine QCV ?_;simp[HE.out]
     case measure=>simp[intOf];omega
    ·rw[Bool.not_eq_true] at he;have hv:valid n=false:=by
      have:fc n.hs=false:=by rw[fc,List.all_eq_false];exact⟨_,hx.out,by simp[he]⟩
      simp[valid,this]
     have HV:=qh hv;clear hv;go_wp2_with (go_at_call 78;refine(qi _ _ _ _).mono ?_;rintro e w1 ⟨rfl,rfl⟩);all_goals first
      |(go_ret;exact⟨cG (by rw[HV.out];rfl),ag⟩)
      |(exfalso;simp[fH,oK] at *;omega)
   ·obtain rfl:k=n.hs.length:=by omega
    have hok:=hn.out;rw[List.take_length] at hok;have HO:=qh hok;clear hok;go_wp2_with fail;go_loopw [5] (fun i wr=>∃(j:Nat) (δ:nJ),j<=n.ps.length/\i=.int .i64 j/\Hid ((n.ps.take j).all (Bq n.hs.length)=true)/\wr=af (w.alloc (.cells #[.int .i64 n.m,.slice r.hA n.hs.length r.hc,.slice r.pA n.ps.length r.pc] 32)) δ) (fun i _=>n.ps.length-(intOf i).toNat)
    case atStart=>exact⟨0,_,nE _,rfl,by simp[Hid],rfl⟩
    case round=>
     clear hn;obtain⟨j,δ,hj,rfl,hn,rfl⟩:=hrel;by_cases hlt:j<n.ps.length
     ·obtain⟨b',o,hA,hb,hc0,Af⟩:=H.out.2.pr hlt;obtain⟨rhA,rhc,rpA,rpc⟩:=r;simp only at hA;subst hA;have hb':Lt b' w:=⟨nL hb hB.out⟩;have hji:(j:Int)<(n.ps.length:Int):=nQ;have hj0:¬(j:Int)<0:=nQ;have hx:=qh (aV n.ps hlt);have ht:=qh (bE n.ps hlt);obtain⟨x,Zt⟩:∃x,x=nth n.ps j:=⟨_,rfl⟩;rw[<-Zt] at hc0 Af ht hx;clear Zt;obtain⟨a,b⟩:=x;simp only at hc0 Af;by_cases h1:fH 0 ((n.hs.length:Int)-1) a=true
      ·by_cases h2:fH 0 ((n.hs.length:Int)-1) b=true
       ·have P1:=qh h1;have P2:=qh h2;have HE:=qh (show Bq n.hs.length ⟨a,b⟩=true by rw[dn] at h1 h2;rw[oI];simp only;omega);clear h1 h2;go_wp2_with fail;refine wpRl ?_;repeat (go_big_quiet_step ((first|(go_at_call 79;(first|with_reducible exact Calls.bN (qp ⟨rhA,rhc,some ⟨b',o,none⟩,rpc⟩ n a _ P1.out B _ H.out.up)|with_reducible exact Calls.bN (qp ⟨rhA,rhc,some ⟨b',o,none⟩,rpc⟩ n b _ P2.out B _ H.out.up))))))
        refine QBT ?_;rintro _ ⟨δq,rfl⟩;go_wp2_with fail;go_roundw
        case rel=>refine⟨j+1,_,nQ,by go_num,?_,aq⟩;refine QCV ?_;simp[HE.out]
        case measure=>simp[intOf];omega
       ·rw[Bool.not_eq_true] at h2;have P1:=qh h1;have P2:=qh h2;have HV:=qh (show valid n=false by
         have:oH n.hs.length n.ps=false:=by
          rw[oH,List.all_eq_false]
          refine⟨_,hx.out,?_⟩
          rw[oI]
          intro hc
          rw[<-Bool.not_eq_true,dn] at h2
          simp only at hc
          omega
         simp[valid,this])
        clear h1 h2;go_wp2_with fail;refine wpRl ?_;repeat (go_big_quiet_step ((first|(go_at_call 79;(first|with_reducible exact Calls.bN (qp ⟨rhA,rhc,some ⟨b',o,none⟩,rpc⟩ n a _ P1.out B _ H.out.up)|with_reducible exact Calls.bN (qp ⟨rhA,rhc,some ⟨b',o,none⟩,rpc⟩ n b _ P2.out B _ H.out.up))))))
        refine QBT ?_;rintro _ ⟨δq,rfl⟩;go_wp2_with fail;go_ret;exact⟨cG (by rw[HV.out];rfl),ag⟩
      ·rw[Bool.not_eq_true] at h1;have P1:=qh h1;have HV:=qh (show valid n=false by
        have:oH n.hs.length n.ps=false:=by
         rw[oH,List.all_eq_false]
         refine⟨_,hx.out,?_⟩
         rw[oI]
         intro hc
         rw[<-Bool.not_eq_true,dn] at h1
         simp only at hc
         omega
        simp[valid,this])
       clear h1;go_wp2_with fail;refine wpRl ?_;repeat (go_big_quiet_step ((first|(go_at_call 79;exact Calls.bN (qp ⟨rhA,rhc,some ⟨b',o,none⟩,rpc⟩ n a _ P1.out B _ H.out.up)))))
       refine QBT ?_;rintro _ ⟨δq,rfl⟩;go_wp2_with fail;go_ret;exact⟨cG (by rw[HV.out];rfl),ag⟩
     ·obtain rfl:j=n.ps.length:=by omega
      have hok:=hn.out;rw[List.take_length] at hok;have HP:=qh hok;clear hok;have lI:valid n=sR n:=by have h1:fc n.hs=true:=HO.out;have h2:oH n.hs.length n.ps=true:=HP.out;have:=HM.out;simp[valid,h1,h2,h6,h8,this]
      have HV:=qh lI;clear lI;by_cases hz:(gN n).length=0
      ·have hz':(((gN n).length:Int)==0)=true:=by simp[hz]
       have HZ:=qh (show sR n=false by simp[sR,List.eq_nil_of_length_eq_zero hz]);clear hz;go_wp2_with (go_at_call 80;refine(tI r n B _ H.out.up h6).mono ?_;rintro e w1 ⟨A1,c1,δ1,rfl,rfl,hs1⟩);go_ret;exact⟨cG (by rw[HV.out,HZ.out];rfl),ag⟩
      ·have hz':(((gN n).length:Int)==0)=false:=by simpa using hz
       have HZ:=qh (show sR n=true by simp only[sR,Bool.not_eq_true',List.isEmpty_eq_false_iff];intro hc;exact hz (by rw[hc];rfl));clear hz;go_wp2_with (go_at_call 80;refine(tI r n B _ H.out.up h6).mono ?_;rintro e w1 ⟨A1,c1,δ1,rfl,rfl,hs1⟩);go_ret;exact⟨cG (by rw[HV.out,HZ.out];rfl),ag⟩
 ·have hv:valid n=false:=by rw[<-Bool.not_eq_true,aD];intro hc;exact hd ⟨hc.1,hc.2.1,hc.2.2.1⟩
  have HV:=qh hv;have H:=qh h;clear hv h;go_enter Tryz.func36,Tryz.ntmps36;go_wp2_with (go_at_call 78;refine(qi _ _ _ _).mono ?_;rintro e w1 ⟨rfl,rfl⟩);all_goals first
   |(go_ret;exact⟨cG (by rw[HV.out];rfl),ag⟩)
   |(exfalso;simp[fH] at *;omega)
end
section
open Me
theorem uE(r:cw)(n:Net)(hv:valid n=true)(B:Nat)(w:nJ)(h:bJ B w r n)[hB:Le B w]:Calls nH 36 #[cI r n] w fun e w'=>e=.returned (.int .i64 0)/\∃δ,w'=af w δ:=by have:=Co r n B w h;rwa [show cC (valid n) 40=0 by rw[hv];rfl] at this
theorem QB{n:Net}(hv:fc n.hs=true){l:List Int}(hl:fP n l=true)(k:Nat)(hk:k<=n.hs.length):0<=jX n.hs (times n l) (kK n) k:=by
 induction k with
 |zero=>exact Int.le_refl _
 |succ k ih=>
  have i1:=ih nQ
  have a:=Dc hv hl (j:=k) nQ
  have b:=ic.1 (jl hv (k:=k) nQ)
  unfold jX
  rw[tL nQ]
  have:=Int.mul_nonneg (a:=(nth n.hs k).hi) (b:=nth (times n l) k-(nth n.hs k).fr) nQ nQ
  omega
theorem Pg{n:Net}(hv:fc n.hs=true){l:List Int}(hl:fP n l=true):0<=eC n l:=QB hv hl _ (nR _)
theorem p4{n:Net}(hv:valid n=true):sR n=true:=(aD.1 hv).2.2.2.2.2
theorem Nu{n:Net}(hv:valid n=true):0<=dY n/\dY n<=10000:=
 ⟨Pg (kI hv).2.2.2.1 (iL (p4 hv)),(Nv hv).2⟩
theorem Nx{n:Net}(hv:valid n=true){l:List Int}(hl:fP n l=true):0<=iQ n l/\iQ n l<=74:=
 ⟨(LA _).1,(FU _).2 ⟨nQ,fun j _=>(uW hv hl j).2⟩⟩
theorem RQ{n:Net}(hv:valid n=true):0<=sZ n/\sZ n<=74:=
 Nx hv (tu.1 (gd _ (pP (p4 hv))))
end
section
open Me
theorem Ja(r:cw)(n:Net)(A:Option Addr)(c:Nat)(l:List Int)(B:Nat)(w:nJ)[hB:Le B w](hS:Sl aI B w A c l)(hN:bJ B w r n)(hm:1<=n.m/\n.m<=3)(h6:n.hs.length<=6)(h8:n.ps.length<=8)(hv:fc n.hs=true)(hpv:oH n.hs.length n.ps=true)(hl:xk n l)(OX:l.length<=6):Calls nH 242 #[cI r n,.slice A l.length c] w fun e w'=>∃(A':Option Addr) (c':Nat) (δ:nJ),e=.returned (.slice A' (times n l).length c')/\w'=af w δ/\Hid (Sl aI (af w δ).heap.size (af w δ) A' c' (times n l)):=by
 obtain⟨m,hmm⟩:∃m:Nat,n.m=m:=⟨n.m.toNat,nQ⟩;refine QDG ?_;intro ZK sQ HM eV hmk Xy HS HN HV HPV HL hlc;clear hS hN hm hv hpv hl hmm eV;go_enter Tryz.func242,Tryz.ntmps242;go_wp2_with fail;go_loopg [7] l.length (fun g i wr=>∃k:Nat,k<=l.length/\g=l.length-k/\i=.int .i64 k/\Vd n r w 32 (w.heap.size+1+1) (w.heap.size+1) w.heap.size l k wr)
 case atStart=>exact⟨0,nE _,rfl,rfl,wI HM.out (ax.new nV) ((ax.new nV).alloc _) (((ax.new rfl).alloc _).alloc _) inferInstance inferInstance⟩
 case round=>
  obtain⟨k,hk,rfl,rfl,hF,hO,hP,g1,g2⟩:=hrel;have p1:=hP.cell (i:=1) rfl;have p2:=hP.cell (i:=2) rfl;have ip:=hP.lt;have iF:=hF.lt;have iO:=hO.lt;by_cases hlt:k<l.length
  ·obtain⟨b,o,rfl,hb,hc⟩:=HS.out.int hlt;have NJ:b<w.heap.size:=nL hb hB.out;have YO:=(aZ g1.out b _ NJ).trans hc;have ib:Lt b wr:=⟨nL NJ g2.out⟩;have hx:=HL.out (nth l k) (aV l hlt);obtain⟨x,hh⟩:∃x:Nat,nth l k=x:=⟨(nth l k).toNat,by have:=hx.1;omega⟩;rw[hh] at YO;have HC:=qh (show w.cell? ⟨b,o+k,none⟩=some (.int .i64 x) by rw[<-hh];exact hc);have xm:x<n.hs.length:=by have:=hx.2;omega
   obtain⟨bh,oh,J8,VL,d0,d1,d2,d3⟩:=HN.out.1.hole xm;have Ag:bh<w.heap.size:=nL VL hB.out;have e0:=(aZ g1.out bh _ Ag).trans d0;have e1:=(aZ g1.out bh _ Ag).trans d1;have e2:=(aZ g1.out bh _ Ag).trans d2;have e3:=(aZ g1.out bh _ Ag).trans d3;have ibh:Lt bh wr:=⟨nL Ag g2.out⟩;obtain⟨rhA,rhc,rpA,rpc⟩:=r;have J8:rhA=some ⟨bh,oh,none⟩:=J8;subst J8;have hki:(k:Int)<(l.length:Int):=nQ;have hk0:¬(k:Int)<0:=nQ;have hxi:(x:Int)<(n.hs.length:Int):=nQ;have hx0:¬(x:Int)<0:=nQ;obtain⟨lF,lO⟩:=qm n (l.take k);obtain⟨bF,bO⟩:=IZ HV.out (l.take k) (fun y hy=>HL.out y (List.mem_of_mem_take hy));have hT:(l.take k).length<=6:=by rw[List.length_take];omega
   have LQ:=xb HV.out (show isHole n (nth l k) from hx) bF bO nQ;have hrun:=zk n (l.take k) (nth l k);rw[<-bE l hlt,hh] at hrun;rw[hh] at LQ;obtain⟨F,O,hs⟩:∃F O,run n (l.take k)=(F,O):=⟨_,_,rfl⟩;rw[hs] at hF hO lF lO bF bO LQ hrun;refine QFI ?_;intro lF lO bF bO HMD KS HH;have HF:Hid (gK wr (w.heap.size+1+1) F):=hF;have HO:Hid (gK wr (w.heap.size+1) O):=hO;have VX:=qh hP;have LF:=qh lF;have LO:=qh lO;have BF:=qh bF;have BO:=qh bO;have HK:=qh (And.intro hk hlt);clear LQ hrun hh hF hO hP hs lF lO bF bO hx hk hlt hc d0 d1 d2 d3;go_wp2_with fail;go_loopg [8,9] m (fun g s8 s9 wr'=>∃(j:Nat) (δ:nJ),j<=m/\g=m-j/\s9=.int .i64 j/\s8=.int .i64 (jL F j)/\wr'=af wr δ)
   case atStart=>exact⟨0,wr,nE _,rfl,rfl,rfl,(bw wr).symm⟩
   case round=>
    obtain⟨j,δ,hj,rfl,rfl,rfl,rfl⟩:=hrel;have hown:jL F j<m:=by
     rcases Nat.eq_zero_or_pos j with rfl|hj0
     ·show 0<m;omega
     ·have:=Lp (free:=F) hj0;omega
    by_cases hlt:j<m
    ·have f1:=HF.out.cell (k:=j) (by rw[LF.out];exact hlt);have f2:=HF.out.cell (k:=jL F j) (by rw[LF.out];exact hown);have hji:(j:Int)<(m:Int):=nQ;have hj0:¬(j:Int)<0:=nQ;have VC:(jL F j:Int)<(m:Int):=nQ;have Xw:¬(jL F j:Int)<0:=nQ;by_cases hc:nth F j<nth F (jL F j)
     ·have HE:=qh (show jL F (j+1)=j by unfold jL;rw[if_pos hc]);go_wp2_with fail;refine wpRl ?_;repeat (go_big_quiet_step ((first|(fail))))
      refine QBT ?_;rintro _ ⟨δq,rfl⟩;go_wp2_with fail;go_roundg (m-(j+1))
      case measure=>omega
      case rel=>exact⟨j+1,_,hlt,rfl,by go_num,by rw[HE.out],aq⟩
     ·have HE:=qh (show jL F (j+1)=jL F j by rw[jL,if_neg hc]);go_wp2_with fail;refine wpRl ?_;repeat (go_big_quiet_step ((first|(fail))))
      refine QBT ?_;rintro _ ⟨δq,rfl⟩;go_wp2_with fail;go_roundg (m-(j+1))
      case measure=>omega
      case rel=>exact⟨j+1,_,hlt,rfl,by go_num,by rw[HE.out],aq⟩
    ·obtain rfl:j=m:=by omega
     refine QET ?_;intro Bg f2 VC Xw q hq;rw[hq] at f2 VC Xw Bg;have hqj:q<j:=by rw[<-hq];exact hown
     clear hown;rw[hq];clear hq;go_wp2_with fail;go_region_held3 (fun W=>W.cell? ⟨w.heap.size,1,none⟩=some (.slice (some ⟨bh,oh,none⟩) n.hs.length rhc)/\W.cell? ⟨b,o+k,none⟩=some (.int .i64 x)/\W.cell? ⟨bh,oh+x*4,none⟩=some (.int .i64 (nth n.hs x).fr)/\W.cell? ⟨bh,oh+x*4+1,none⟩=some (.int .i64 (nth n.hs x).lo)/\W.cell? ⟨bh,oh+x*4+2,none⟩=some (.int .i64 (nth n.hs x).hi)/\W.cell? ⟨bh,oh+x*4+3,none⟩=some (.int .i64 (nth n.hs x).hr))
      (refine⟨?_,?_,?_,?_,?_,?_⟩<;>go_simp)
      (fail)
     obtain⟨bx,jh⟩:∃bx,Hid (bx=(af wr δ).heap.size):=⟨_,rfl⟩;rw[<-jh.out];go_wp2_with fail;refine aL fun W2 eJ=>?_;have i1:Le w.heap.size W2:=fI eJ;have i2:au w.heap.size w W2:=gu eJ;have i3:bx<W2.heap.size:=by rw[eJ.out,jh.out];go_simp
     have i4:wr.heap.size<=bx:=by rw[jh.out];exact jm wr δ
     have o2:gK W2 (w.heap.size+1) O:=by rw[eJ.out];exact((HO.out.af δ).alloc _).drew
     have f2':gK W2 (w.heap.size+1+1) F:=by rw[eJ.out];exact((HF.out.af δ).alloc _).drew
     have b2:ax W2 w.heap.size 32 #[.int .i64 n.m,.slice (some ⟨bh,oh,none⟩) n.hs.length rhc,.slice rpA n.ps.length rpc]:=by rw[eJ.out];exact(VX.out.af δ).alloc _
     have x2:ax W2 bx 93 #[.int .i64 (nth n.hs x).fr,.int .i64 (nth n.hs x).lo,.int .i64 (nth n.hs x).hi,.int .i64 (nth n.hs x).hr]:=by rw[eJ.out];exact ax.new (w:=af wr δ) jh.out
     have G2:=qh (And.intro i3 (And.intro i4 iF.out));clear eJ jh i3 i4 YO e0 e1 e2 e3 p1 p2 ip iF iO ib ibh f2 HF HO VX;have p1:=b2.cell (i:=1) rfl;have p2:=b2.cell (i:=2) rfl;have ip:=b2.lt;have iF:=f2'.lt;have iO:=o2.lt;have YO:=(aZ i2.out b (o+k) NJ).trans HC.out;have ib:Lt b W2:=⟨nL NJ i1.out⟩;have ibx:=x2.lt;have z1:=x2.cell (i:=0) rfl;have z3:=x2.cell (i:=3) rfl;have fq:=f2'.cell (k:=q) (by rw[LF.out];exact hqj);have O2:=qh o2;have F2:=qh f2';have B2:=qh b2;have X2:=qh x2;clear o2 f2' b2 x2;refine wpRl ?_;repeat (go_big_quiet_step ((first|(fail))))
     refine QBT ?_;rintro _ ⟨δq,rfl⟩;refine QEZ ?_;intro b0 hb0 S3;clear hb0;go_wp2_with fail;go_loopg [11,12] n.ps.length (fun g s11 s12 wr'=>∃(i:Nat) (δ:nJ),i<=n.ps.length/\g=n.ps.length-i/\s12=.int .i64 i/\s11=.int .i64 (kB n.ps O x b0 i)/\wr'=af W2 δ)
     case atStart=>exact⟨0,_,nE _,rfl,rfl,rfl,rfl⟩
     case round=>
      obtain⟨i,δ,hi,rfl,rfl,rfl,rfl⟩:=hrel;by_cases hlt:i<n.ps.length
      ·obtain⟨bp,op,XS,Be,c0,c1⟩:=HN.out.2.pr hlt;have J6:bp<w.heap.size:=nL Be hB.out;have k0:=(aZ i2.out bp _ J6).trans c0;have k1:=(aZ i2.out bp _ J6).trans c1;have ibp:Lt bp W2:=⟨nL J6 i1.out⟩;have XS:rpA=some ⟨bp,op,none⟩:=XS;subst XS;have hok:=oI.1 (FH HPV.out hlt);obtain⟨a,ha⟩:∃a:Nat,(nth n.ps i).a=a:=⟨(nth n.ps i).a.toNat,nQ⟩;rw[ha] at k0;have hal:a<n.hs.length:=nQ;have z0:=O2.out.cell (k:=a) (by rw[LO.out];exact hal);have hai:(a:Int)<(n.hs.length:Int):=nQ;have ha0:¬(a:Int)<0:=nQ;have LW:(i:Int)<(n.ps.length:Int):=nQ;have hi0:¬(i:Int)<0:=nQ;by_cases jh:(nth n.ps i).b=x
       ·have XK:((nth n.ps i).b==(x:Int))=true:=by simpa using jh
        by_cases LP:kB n.ps O x b0 i<nth O a
        ·have HE:=qh (show kB n.ps O x b0 (i+1)=nth O a by
          rw[kB,if_pos jh,ha];simp only[Int.toNat_natCast];omega)
         have iM:=qh hlt;clear jh hok ha c0 c1 hlt;go_wp2_with fail;refine wpRl ?_;repeat (go_big_quiet_step ((first|(fail))))
         refine QBT ?_;rintro _ ⟨Vo,rfl⟩;go_wp2_with fail;go_roundg (n.ps.length-(i+1))
         case measure=>have:=iM.out;omega
         case rel=>exact⟨i+1,_,iM.out,rfl,by go_num,by rw[HE.out],aq⟩
        ·have HE:=qh (show kB n.ps O x b0 (i+1)=kB n.ps O x b0 i by
          rw[kB,if_pos jh,ha];simp only[Int.toNat_natCast];omega)
         have iM:=qh hlt;clear jh hok ha c0 c1 hlt;go_wp2_with fail;refine wpRl ?_;repeat (go_big_quiet_step ((first|(fail))))
         refine QBT ?_;rintro _ ⟨Vo,rfl⟩;go_wp2_with fail;go_roundg (n.ps.length-(i+1))
         case measure=>have:=iM.out;omega
         case rel=>exact⟨i+1,_,iM.out,rfl,by go_num,by rw[HE.out],aq⟩
       ·have XK:((nth n.ps i).b==(x:Int))=false:=by simpa using jh
        have HE:=qh (show kB n.ps O x b0 (i+1)=kB n.ps O x b0 i by rw[kB,if_neg jh]);have iM:=qh hlt;clear jh hok ha c0 c1 hlt;go_wp2_with fail;refine wpRl ?_;repeat (go_big_quiet_step ((first|(fail))))
        refine QBT ?_;rintro _ ⟨Vo,rfl⟩;go_wp2_with fail;go_roundg (n.ps.length-(i+1))
        case measure=>have:=iM.out;omega
        case rel=>exact⟨i+1,_,iM.out,rfl,by go_num,by rw[HE.out],aq⟩
      ·obtain rfl:i=n.ps.length:=by omega
       have sQ:=HMD.out;have hh:=ic.1 (jl HV.out xm);unfold iP at sQ;simp only[Int.toNat_natCast,S3.out] at sQ;obtain⟨be,XM⟩:∃be,kB n.ps O x b0 n.ps.length=be:=⟨_,rfl⟩;rw[XM] at sQ;refine QEL ?_;intro SJ y1 y2 y3 y4;have z0:=O2.out.cell (k:=x) (by rw[LO.out];exact xm);have zf:=O2.out.free x;have zg:=F2.out.free q;clear XM sQ hh;have gb:w.heap.size+1+1<bx:=nL G2.out.2.2 G2.out.2.1;have n1:qM (w.heap.size+1) b:=⟨nQ⟩;have n2:qM b (w.heap.size+1):=⟨nQ⟩;have n3:qM (w.heap.size+1) bx:=⟨nQ⟩;have n4:qM bx (w.heap.size+1):=⟨nQ⟩;have n5:qM (w.heap.size+1+1) bx:=⟨nQ⟩;have n6:qM bx (w.heap.size+1+1):=⟨nQ⟩;have n7:oy w.heap.size bx:=⟨nQ⟩;go_wp2_with fail;go_region_held3 (fun W=>W.cell? ⟨b,o+k,none⟩=some (.int .i64 x)/\W.cell? ⟨bx,3,none⟩=some (.int .i64 (nth n.hs x).hr))
        (refine⟨?_,?_⟩<;>go_simp)
        (fail)
       go_upto_region 20 with fail;refine aL fun W3 bQ=>?_;have hwr:IntKind.i64.wrap (be+(nth n.hs x).hr)=be+(nth n.hs x).hr:=by simp only[IntKind.wrap,IntKind.bits,IntKind.signed];simp;omega
       have o3:gK W3 (w.heap.size+1) (O.set x (be+(nth n.hs x).hr)):=by rw[bQ.out];rw[hwr];exact((O2.out.af _).set _ _).drew
       have f3:gK W3 (w.heap.size+1+1) F:=by rw[bQ.out];exact((F2.out.af _).fD (by show w.heap.size+1+1≠w.heap.size+1;omega) _).drew
       have b3:ax W3 w.heap.size 32 #[.int .i64 n.m,.slice (some ⟨bh,oh,none⟩) n.hs.length rhc,.slice rpA n.ps.length rpc]:=by rw[bQ.out];exact(B2.out.af _).fD (by show w.heap.size≠w.heap.size+1;omega) _
       have e3:ax W3 bx 93 #[.int .i64 (nth n.hs x).fr,.int .i64 (nth n.hs x).lo,.int .i64 (nth n.hs x).hi,.int .i64 (nth n.hs x).hr]:=by rw[bQ.out];exact(X2.out.af _).fD (by show bx≠w.heap.size+1;omega) _
       have g3:au w.heap.size w W3:=gu bQ;have g4:Le w.heap.size W3:=fI bQ;have x2:=f3.cell (k:=q) (by rw[LF.out];exact hqj);have x3:=f3.free q;have x4:=f3.lt;have x5:=e3.cell (i:=3) rfl;have x6:=e3.lt;have O3:=qh o3;have F3:=qh f3;have B3:=qh b3;clear bQ o3 f3 b3 e3;go_wp2_with fail;go_roundg (l.length-(k+1))
       case measure=>have:=HK.out;omega
       case rel=>
        refine⟨k+1,HK.out.2,rfl,by go_num,?_,?_,B3.out.fD (by show w.heap.size≠w.heap.size+1+1;omega) _,inferInstance,inferInstance⟩
        ·rw[KS.out];show gK _ (w.heap.size+1+1) (F.set (own F) (iP n (F,O) x));rw[Bg.out,SJ.out];exact F3.out.set _ _
        ·rw[KS.out];show gK _ (w.heap.size+1) (O.set (x:Int).toNat (iP n (F,O) x));rw[SJ.out,Int.toNat_natCast];exact O3.out.fD (by show w.heap.size+1≠w.heap.size+1+1;omega) _
  ·obtain rfl:k=l.length:=by omega
   have hlen:=kF n l;have ym:=hO.sl (by rw[(qm n _).2];omega);rw[List.take_length] at ym;have ym:Sl aI wr.heap.size wr (some ⟨w.heap.size+1,0,none⟩) (times n l).length (times n l):=ym;rw[hlen] at ym;have ON:=qh ym;have Yy:=qh hlen;clear ym hlen hF hO hP;go_wp2_with fail;go_ret;refine⟨some ⟨w.heap.size+1,0,none⟩,n.hs.length,wr,by rw[Yy.out];rfl,aq,?_⟩;rw[<-aq (w:=w) (W:=wr)];exact ON.out
end
section
open Me
theorem PT(r:cw)(n:Net)(B:Nat)(w:nJ)[hB:Le B w](hN:bJ B w r n)(h6:n.hs.length<=1000):Calls nH 267 #[cI r n] w fun e w'=>∃(A':Option Addr) (c':Nat) (δ:nJ),e=.returned (.slice A' n.hs.length c')/\w'=af w δ/\Hid (Sl aI (af w δ).heap.size (af w δ) A' c' (kK n)):=by
 have HN:=qh hN;clear hN;go_enter Tryz.func267,Tryz.ntmps267;go_wp2_with fail;refine QAV ?_;intro W1 aH cJ dF cU dA dD um mV kR;have G1:=qh (HN.out.up:bJ B W1 r n);clear aH;go_loopg [3,4] n.hs.length (fun g s3 s4 wr=>∃(k c':Nat) (A':Option Addr),k<=n.hs.length/\g=n.hs.length-k/\s4=.int .i64 k/\s3=.slice A' k c'/\wr.ownsRow W1.heap.size 3 1 (.slice A' k c') k (((kK n).take k).flatMap aI)/\au W1.heap.size W1 wr/\Le W1.heap.size wr)
 case atStart=>exact⟨0,0,none,nE _,rfl,rfl,rfl,by simpa using World.ownsRow_nil _ _ _ _,inferInstance,inferInstance⟩
 case round=>
  obtain⟨k,c',A',hk,rfl,rfl,rfl,hown,i1,i2⟩:=hrel;have q1:=(aZ i1.out w.heap.size 1 dD.out).trans mV;have i3:Lt w.heap.size wr:=⟨nL dD.out i2.out⟩;have HO:=qh hown;clear hown;by_cases hlt:k<n.hs.length
  ·obtain⟨b,o,hA,hb,d0,d1,d2,d3⟩:=G1.out.1.hole hlt;obtain⟨rhA,rhc,rpA,rpc⟩:=r;have hA:rhA=some ⟨b,o,none⟩:=hA;subst hA;have NJ:b<W1.heap.size:=nL hb cJ.out;have e1:=(aZ i1.out b (o+k*4+1) NJ).trans d1;have e2:=(aZ i1.out b (o+k*4+2) NJ).trans d2;have ib:Lt b wr:=⟨nL NJ i2.out⟩;refine QEB ?_;intro hki hk0;have HT:=qh (show(kK n).take (k+1)=(kK n).take k++[(nth n.hs k).hi] by rw[bE _ (by simp[kK];exact hlt),tL hlt]);have iM:=qh hlt;clear d0 d1 d2 d3 hlt;go_wp2_with (at_builtin;(refine dL W1 wo (.tmp 12) (.tmp 20) rfl rfl HO.out rfl rfl nW rfl (by simp[Value.oneCell']) nQ nQ ?_);intro A2 c2 δ2 CA);go_roundg (n.hs.length-(k+1))
   case measure=>have:=iM.out;omega
   case rel=>refine⟨k+1,c2,A2,iM.out,rfl,by go_num,rfl,?_,inferInstance,inferInstance⟩;rw[HT.out,List.flatMap_append];simpa [aI] using CA
  ·obtain rfl:k=n.hs.length:=by omega
   go_wp2_with fail;go_ret;have ho:=HO.out;rw[List.take_of_length_le (by simp[kK])] at ho;have i8:au w.heap.size w wr:=dQ dA i1;have i9:Le w.heap.size wr:=⟨nT cU.out i2.out⟩;refine⟨A',c',wr,rfl,aq,?_⟩;rw[<-aq (w:=w) (W:=wr)];have hl:(kK n).length=n.hs.length:=by simp[kK]
   rw[<-hl] at ho;exact Sl.bU ho
theorem Fm(r:cw)(n:Net)(A:Option Addr)(c ln:Nat)(l:List Int)(B:Nat)(w:nJ)[hB:Le B w](hS:Sl aI B w A c l)(hN:bJ B w r n)(hv:valid n=true)(hl:fP n l=true)(jg:l.length=ln):Calls nH 242 #[cI r n,.slice A ln c] w fun e w'=>∃(A':Option Addr) (c':Nat) (δ:nJ),e=.returned (.slice A' n.hs.length c')/\w'=af w δ/\Hid (Sl aI (af w δ).heap.size (af w δ) A' c' (times n l)):=by subst jg;obtain⟨a,b,c',d,e⟩:=kI hv;have:=Ja r n A c l B w hS hN a b c' d e (oa hl) (by rw[jB hl];exact b);rwa [kF] at this
theorem ME(r:cw)(n:Net)(A:Option Addr)(c ln:Nat)(l:List Int)(A2:Option Addr)(c2 ln2:Nat)(tr:List Int)(B:Nat)(w:nJ)[hB:Le B w](hS:Sl aI B w A c l)(hT:Sl aI B w A2 c2 tr)(hN:bJ B w r n)(hv:valid n=true)(hl:fP n l=true)(jg:l.length=ln)(htr:tr.length=n.hs.length)(aco:tr.length=ln2)(htb:kO 20 tr):Calls nH 266 #[cI r n,.slice A ln c,.slice A2 ln2 c2] w fun e w'=>e=.returned (.int .i64 (kr n l tr))/\∃δ,w'=af w δ:=by
 have HS:=qh hS;have HT:=qh hT;have HN:=qh hN;have HV:=qh hv;have HO:=qh hl;have HTB:=qh htb;have h6:=(kI hv).2.1;have JY:ln2=n.hs.length:=nQ;subst JY;have qd:=qh jg;have HTR:=qh htr;clear hS hN hT hv hl htb jg htr aco;go_enter Tryz.func266,Tryz.ntmps266;go_wp2_with (go_at_call 242;refine(Fm r n A c _ l B _ HS.out.up HN.out.up HV.out HO.out qd.out).mono ?_;rintro e w1 ⟨A',c',δ,rfl,rfl,hT⟩);refine QAV ?_;intro W1 aH cJ dF cU dA dD um mV kR;have T1:Sl aI W1.heap.size W1 A' c' (times n l):=by rw[aH.out];exact hT.out
 have T2:Sl aI B W1 A2 c2 tr:=HT.out.up;have N1:bJ B W1 r n:=HN.out.up;have HT1:=qh T1;have Io:=qh T2;have VY:=qh N1;clear aH hT T1 T2 N1;go_loopg [8,9] n.hs.length (fun g s8 s9 wr=>∃(k:Nat) (δ:nJ),k<=n.hs.length/\g=n.hs.length-k/\s9=.int .i64 k/\s8=.int .i64 (jX n.hs (times n l) tr k)/\wr=af W1 δ)
 case atStart=>exact⟨0,W1,nE _,rfl,rfl,rfl,(bw W1).symm⟩
 case round=>
  obtain⟨k,δ,hk,rfl,rfl,rfl,rfl⟩:=hrel;by_cases hlt:k<n.hs.length
  ·obtain⟨b,o,rfl,hb,hc⟩:=HT1.out.int (k:=k) (by rw[kF];exact hlt);have ib:Lt b W1:=⟨hb⟩;obtain⟨b2,o2,rfl,gM,LX⟩:=Io.out.int (k:=k) (by rw[HTR.out];exact hlt);have ib2:Lt b2 W1:=⟨nL gM cJ.out⟩;obtain⟨bh,oh,J8,VL,d0,d1,d2,d3⟩:=VY.out.1.hole hlt;have ibh:Lt bh W1:=⟨nL VL cJ.out⟩;obtain⟨rhA,rhc,rpA,rpc⟩:=r;have J8:rhA=some ⟨bh,oh,none⟩:=J8;subst J8;refine QEB ?_;intro hki hk0;have ht:=uW HV.out HO.out k;have hh:=ic.1 (jl (kI HV.out).2.2.2.1 hlt);have htk:=HTB.out k;have q1:0<=nth (times n l) k:=ht.1;have q2:nth (times n l) k<=74:=ht.2;have q3:0<=(nth n.hs k).fr:=hh.1;have q4:(nth n.hs k).fr<=20:=hh.2.1;obtain⟨m1,m2⟩:=Qq (a:=nth tr k) (b:=nth (times n l) k-(nth n.hs k).fr) htk.1 htk.2 nQ nQ;obtain⟨b3,b4⟩:=yI HV.out HO.out HTB.out k hk;have HE:=qh (show jX n.hs (times n l) tr (k+1)=jX n.hs (times n l) tr k+nth tr k*(nth (times n l) k-(nth n.hs k).fr) from rfl);have iM:=qh hlt;clear hlt hk hb gM VL ht hh htk d1 d2 d3;go_wp2_with fail;refine wpRl ?_;repeat (go_big_quiet_step ((first|(fail))))
   refine QBT ?_;rintro _ ⟨δq,rfl⟩;go_wp2_with fail;go_roundg (n.hs.length-(k+1))
   case measure=>have:=iM.out;omega
   case rel=>exact⟨k+1,_,iM.out,rfl,by go_num,by rw[HE.out],aq⟩
  ·obtain rfl:k=n.hs.length:=by omega
   go_wp2_with fail;go_ret;exact⟨rfl,ag⟩
theorem wS(r:cw)(n:Net)(A:Option Addr)(c ln:Nat)(l:List Int)(B:Nat)(w:nJ)[hB:Le B w](hS:Sl aI B w A c l)(hN:bJ B w r n)(hv:valid n=true)(hl:fP n l=true)(jg:l.length=ln):Calls nH 191 #[cI r n,.slice A ln c] w fun e w'=>e=.returned (.int .i64 (iQ n l))/\∃δ,w'=af w δ:=by
 have HS:=qh hS;have HN:=qh hN;have HV:=qh hv;have HO:=qh hl;have h6:=(kI hv).2.1;have qd:=qh jg;clear hS hN hv hl jg;go_enter Tryz.func191,Tryz.ntmps191;go_wp2_with (go_at_call 242;refine(Fm r n A c _ l B _ HS.out.up HN.out.up HV.out HO.out qd.out).mono ?_;rintro e w1 ⟨A',c',δ,rfl,rfl,hT⟩);refine aL fun W1 aH=>?_;obtain⟨cJ,dF,cU,dA,dD⟩:=Au B w aH;have T1:Sl aI W1.heap.size W1 A' c' (times n l):=by rw[aH.out];exact hT.out
 have HT1:=qh T1;clear aH hT T1;go_loopg [6,7] n.hs.length (fun g s8 s9 wr=>∃(k:Nat) (δ:nJ),k<=n.hs.length/\g=n.hs.length-k/\s9=.int .i64 k/\s8=.int .i64 (pY (times n l) k)/\wr=af W1 δ)
 case atStart=>exact⟨0,W1,nE _,rfl,rfl,rfl,(bw W1).symm⟩
 case round=>
  obtain⟨k,δ,hk,rfl,rfl,rfl,rfl⟩:=hrel;by_cases hlt:k<n.hs.length
  ·obtain⟨b,o,rfl,hb,hc⟩:=HT1.out.int (k:=k) (by rw[kF];exact hlt);have ib:Lt b W1:=⟨hb⟩;refine QEB ?_;intro hki hk0;have iM:=qh hlt;clear hlt;by_cases LP:pY (times n l) k<nth (times n l) k
   ·have HE:=qh (show pY (times n l) (k+1)=nth (times n l) k by rw[pY];omega);go_wp2_with fail;go_roundg (n.hs.length-(k+1))
    case measure=>have:=iM.out;omega
    case rel=>exact⟨k+1,_,iM.out,rfl,by go_num,by rw[HE.out],aq⟩
   ·have HE:=qh (show pY (times n l) (k+1)=pY (times n l) k by rw[pY];omega);go_wp2_with fail;go_roundg (n.hs.length-(k+1))
    case measure=>have:=iM.out;omega
    case rel=>exact⟨k+1,_,iM.out,rfl,by go_num,by rw[HE.out],aq⟩
  ·obtain rfl:k=n.hs.length:=by omega
   go_wp2_with fail;go_ret;exact⟨rfl,ag⟩
theorem mo(r:cw)(n:Net)(A:Option Addr)(c ln:Nat)(l:List Int)(B:Nat)(w:nJ)[hB:Le B w](hS:Sl aI B w A c l)(hN:bJ B w r n)(hv:valid n=true)(hl:fP n l=true)(jg:l.length=ln):Calls nH 240 #[cI r n,.slice A ln c] w fun e w'=>e=.returned (.int .i64 (eC n l))/\∃δ,w'=af w δ:=by
 have HS:=qh hS;have HN:=qh hN;have HV:=qh hv;have HO:=qh hl;have h6:=(kI hv).2.1;have qd:=qh jg;have HHI:=qh (vR (kI hv).2.2.2.1).1;clear hS hN hv hl jg;go_enter Tryz.func240,Tryz.ntmps240;go_wp2_with fail;go_region_held3 (fun W=>W.cell? ⟨w.heap.size,0,none⟩=some (.int .i64 n.m)/\W.cell? ⟨w.heap.size,1,none⟩=some (.slice r.hA n.hs.length r.hc)/\W.cell? ⟨w.heap.size,2,none⟩=some (.slice r.pA n.ps.length r.pc))
  (refine⟨?_,?_,?_⟩<;>go_simp)
  (first|(go_at_call 267;refine(PT r n B _ HN.out.up nQ).mono ?_;rintro e w1 ⟨A1,c1,δ1,rfl,rfl,hH⟩)|(go_at_call 266;refine(ME r n A c _ l A1 c1 _ (kK n) _ _ HS.out.wide hH.out.wide HN.out.wide HV.out HO.out qd.out (by simp[kK]) (by simp[kK]) HHI.out).mono ?_;rintro e w1 ⟨rfl,δ2,rfl⟩))
 all_goals go_wp2_with fail;go_ret;exact⟨rfl,ag⟩
end
namespace Me
theorem Ye{α:Type}(f:α->Int)(b:α)(xs:List α)(h:f (yN f b xs)=f b):yN f b xs=b:=by
 induction xs generalizing b with
 |nil=>rfl
 |cons x xs ih=>
  unfold yN at h ⊢
  split
  ·rename_i hlt;rw[if_pos hlt] at h;have:=(AO f x xs).1;omega
  ·rename_i hlt;rw[if_neg hlt] at h;exact ih b h
def sameAs{α:Type}(f:α->Int)(v:Int)(xs:List α):List α:=xs.filter fun x=>decide (f x=v)
theorem Sm{α:Type}(f:α->Int)(b:α)(xs:List α):∃ys,sameAs f (f (yN f b xs)) (b::xs)=yN f b xs::ys:=by
 unfold sameAs;induction xs generalizing b with
 |nil=>exact⟨[],by simp[yN]⟩
 |cons x xs ih=>
  unfold yN
  by_cases hlt:f x<f b
  ·rw[if_pos hlt];obtain⟨ys,hys⟩:=ih x;have:=(AO f x xs).1;refine⟨ys,?_⟩;rw[List.filter_cons_of_neg (by simp;omega)];exact hys
  ·rw[if_neg hlt];have h1:=(AO f b xs).1;by_cases he:f (yN f b xs)=f b
   ·have hb:=Ye f b xs he;rw[hb,List.filter_cons_of_pos nV];exact⟨_,rfl⟩
   ·obtain⟨ys,hys⟩:=ih b;rw[List.filter_cons_of_neg (by simp;omega)] at hys;refine⟨ys,?_⟩;rw[List.filter_cons_of_neg (by simp;omega),List.filter_cons_of_neg (by simp;omega)];exact hys
def uq(n:Net):List (List Int):=sameAs (eC n) (dY n) (gN n)
theorem OC{n:Net}(h:sR n=true):∃ys,uq n=gz n::ys:=by
 unfold uq dY gz;have hne:=pP h;cases ho:gN n with
 |nil=>exact absurd ho hne
 |cons x xs=>exact Sm (eC n) x xs
end Me
section
open Me
namespace Me
def nx{α:Type}[Inhabited α](f:α->Int)(v:Int)(xs:List α):Nat->Int
 |0=>v
 |k+1=>min (nx f v xs k) (f (nth xs k))
theorem TW{α:Type}[Inhabited α]{f:α->Int}{v:Int}{xs:List α}(k:Nat):nx f v xs k<=v/\(∀j,j<k->nx f v xs k<=f (nth xs j))/\(nx f v xs k=v\/∃j,j<k/\nx f v xs k=f (nth xs j)):=by
 induction k with
 |zero=>exact⟨Int.le_refl _,fun j hj=>absurd hj (Nat.not_lt_zero _),.inl rfl⟩
 |succ k ih=>
  obtain⟨i1,i2,i3⟩:=ih
  show min _ _<=v/\(∀j,j<k+1->min _ _<=_)/\(min _ _=v\/∃j,j<k+1/\min _ _=_)
  refine⟨nQ,fun j hj=>?_,?_⟩
  ·rcases Nat.lt_or_ge j k with h|h
   ·have:=i2 j h;omega
   ·obtain rfl:j=k:=by omega
    omega
  ·by_cases h:f (nth xs k)<nx f v xs k
   ·exact .inr ⟨k,nA _,nQ⟩
   ·rcases i3 with h3|⟨j,hj,h3⟩
    ·exact .inl nQ
    ·exact .inr ⟨j,nQ,nQ⟩
theorem TY{α:Type}[Inhabited α]{xs:List α}{x:α}(h:x∈xs):∃k,k<xs.length/\nth xs k=x:=by obtain⟨i,hi,rfl⟩:=List.getElem_of_mem h;exact⟨i,hi,by simp[nth,hi]⟩
theorem FQ{α:Type}[Inhabited α]{f:α->Int}{xs:List α}(hne:xs≠[]):nx f (f (nth xs 0)) xs xs.length=f (least f xs):=by
 obtain⟨i1,i2,i3⟩:=TW (f:=f) (v:=f (nth xs 0)) (xs:=xs) xs.length;have h0:0<xs.length:=List.length_pos_iff.2 hne;obtain⟨k,hk,he⟩:=TY (gd f hne);have a1:=i2 k hk;rw[he] at a1;have a2:∃j,j<xs.length/\nx f (f (nth xs 0)) xs xs.length=f (nth xs j):=by
  rcases i3 with h|h
  ·exact⟨0,h0,h⟩
  ·exact h
 obtain⟨j,hj,h3⟩:=a2;have:=least_le f (aV xs hj);omega
theorem KM{n:Net}{k:Nat}(hk:k<(gN n).length):sameAs (eC n) (dY n) ((gN n).take (k+1))=sameAs (eC n) (dY n) ((gN n).take k)++(if eC n (nth (gN n) k)=dY n then[nth (gN n) k] else[]):=by
 rw[bE _ hk];unfold sameAs;rw[List.filter_append];congr 1;by_cases h:eC n (nth (gN n) k)=dY n
 ·rw[if_pos h,List.filter_cons_of_pos (by simpa using h)];rfl
 ·rw[if_neg h,List.filter_cons_of_neg (by simpa using h)];rfl
theorem L8{n:Net}{k:Nat}(hk:k<(gN n).length):fP n (nth (gN n) k)=true/\(nth (gN n) k).length=n.hs.length:=by have h:=tu.1 (aV _ hk);exact⟨h,jB h⟩
theorem AR{n:Net}(hv:valid n=true):0<(gN n).length/\(gN n).length<=50000:=by refine⟨List.length_pos_iff.2 (pP (p4 hv)),?_⟩;have h6:=(kI hv).2.1;have:=Fz h6 n.hs.length [];have h2:6 ^ n.hs.length<=6 ^ 6:=Nat.pow_le_pow_right nQ h6;unfold gN;omega
end Me
theorem wv.nth{T:TypeId}{w:nJ}{A:Option Addr}{c:Nat}{xss:List (List Int)}(h:wv T aI w A c xss){k m:Nat}(hk:k<xss.length)(hm:(nth xss k).length=m):∃b o A' c',A=some ⟨b,o,none⟩/\b<w.heap.size/\w.cell? ⟨b,o+k,none⟩=some (.slice A' m c')/\fN T aI w.heap.size w A' c' (nth xss k):=by
 have e:Go.Proofs.YtdmedlkonaclnaaGreatDoor.nth xss k=xss[k]:=by simp[Go.Proofs.YtdmedlkonaclnaaGreatDoor.nth,hk]
 obtain⟨b,o,A',c',h1,h2,h3,h4⟩:=h.at_ hk;rw[<-e] at h3 h4;exact⟨b,o,A',c',h1,h2,by rw[<-hm];exact h3,h4⟩
theorem Lh(r:cw)(n:Net)(hv:valid n=true)(B:Nat)(w:nJ)[hB:Le B w](hN:bJ B w r n):Calls nH 241 #[cI r n] w (pQ w (uq n)):=by
 have h6:=(kI hv).2.1;obtain⟨l0,l1⟩:=AR hv;have HN:=qh hN;have HV:=qh hv;have H6:=qh h6;have Yz:=qh (FQ (f:=eC n) (pP (p4 hv)));clear hN hv h6;obtain⟨L,hL⟩:∃L,gN n=L:=⟨_,rfl⟩;have HL:=qh hL;rw[hL] at l0 l1;clear hL;go_enter Tryz.func241,Tryz.ntmps241;go_wp2_with (go_at_call 80;refine(tI r n B _ HN.out.up H6.out).mono ?_;rw[HL.out];rintro e w1 ⟨A,c,δ,rfl,rfl,hS⟩);refine QAV ?_;intro W1 aH cJ dF cU dA dD um mV kR;have S1:Hid (wv 3 aI W1 A c L):=by rw[aH.out];exact hS
 have N1:=qh (HN.out.up:bJ B W1 r n);clear aH hS;have HAT:∀k,k<L.length->fP n (nth L k)=true/\(nth L k).length=n.hs.length:=by rw[<-HL.out];exact fun k hk=>L8 hk
 have HA:=qh HAT;clear HAT;obtain⟨b,o,A0,c0,rfl,hb,hc,hs0⟩:=S1.out.nth l0 (HA.out 0 l0).2;rw[Nat.add_zero] at hc;have ib:Lt b W1:=⟨hb⟩;have H0:=qh hs0.plain;clear hs0;have hl0:(0:Int)<(L.length:Int):=nQ;refine wpRl ?_;repeat (go_big_quiet_step ((first|(go_at_call 240;exact Calls.bN (mo r n A0 c0 _ (nth L 0) _ _ H0.out.up N1.out.wide.up HV.out (HA.out 0 l0).1 (HA.out 0 l0).2)))))
 refine QBT ?_;rintro _ ⟨δq,rfl⟩;obtain⟨v,hv0⟩:∃v,eC n (nth L 0)=v:=⟨_,rfl⟩;rw[hv0];have Yz:Hid (nx (eC n) v L L.length=dY n):=by have:=Yz.out;rw[HL.out,hv0] at this;exact this.trans (by unfold dY gz;rw[HL.out])
 clear hv0;go_wp2_with fail;go_loopg [4,5] L.length (fun g s4 s5 wr=>∃(k:Nat) (δ:nJ),k<=L.length/\g=L.length-k/\s5=.int .i64 k/\s4=.int .i64 (nx (eC n) v L k)/\wr=af W1 δ)
 case atStart=>exact⟨0,_,nE _,rfl,rfl,rfl,rfl⟩
 case round=>
  obtain⟨k,δ,hk,rfl,rfl,rfl,rfl⟩:=hrel;by_cases hlt:k<L.length
  ·obtain⟨b',o',Ak,ck,p5,hbk,J5,Ul⟩:=S1.out.nth hlt (HA.out k hlt).2;obtain⟨rfl,rfl⟩:b=b'/\o=o':=by simpa using p5
   have HK:=qh Ul.plain;have hki:(k:Int)<(L.length:Int):=nQ;have hk0:¬(k:Int)<0:=nQ;have iM:=qh hlt;clear hlt hk Ul hbk hc;by_cases hmn:eC n (nth L k)<nx (eC n) v L k
   ·have HE:=qh (show nx (eC n) v L (k+1)=eC n (nth L k) by rw[nx];omega);go_wp2_with fail;refine wpRl ?_;repeat (go_big_quiet_step ((first|(go_at_call 240;exact Calls.bN (mo r n Ak ck _ (nth L k) _ _ HK.out.up N1.out.wide.up HV.out (HA.out k iM.out).1 (HA.out k iM.out).2)))))
    refine QBT ?_;rintro _ ⟨Vo,rfl⟩;go_wp2_with fail;go_roundg (L.length-(k+1))
    case measure=>have:=iM.out;omega
    case rel=>exact⟨k+1,_,iM.out,rfl,by go_num,by rw[HE.out],aq⟩
   ·have HE:=qh (show nx (eC n) v L (k+1)=nx (eC n) v L k by rw[nx];omega);go_wp2_with fail;refine wpRl ?_;repeat (go_big_quiet_step ((first|(go_at_call 240;exact Calls.bN (mo r n Ak ck _ (nth L k) _ _ HK.out.up N1.out.wide.up HV.out (HA.out k iM.out).1 (HA.out k iM.out).2)))))
    refine QBT ?_;rintro _ ⟨Vo,rfl⟩;go_wp2_with fail;go_roundg (L.length-(k+1))
    case measure=>have:=iM.out;omega
    case rel=>exact⟨k+1,_,iM.out,rfl,by go_num,by rw[HE.out],aq⟩
  ·obtain rfl:k=L.length:=by omega
   rw[Yz.out];refine aL fun W2 eJ=>?_;obtain⟨Gh,sg,tX,tW⟩:=CG B W1 eJ;have sM:Lt (w.heap.size) W2:=nt eJ;have tV:Lt (b) W2:=nt eJ;have xA:W2.cell? ⟨w.heap.size,0,none⟩=some (.int .i64 n.m):=by rw[eJ.out];go_simp
   have AF:W2.cell? ⟨w.heap.size,1,none⟩=some (.slice r.hA n.hs.length r.hc):=by rw[eJ.out];go_simp
   have Ku:W2.cell? ⟨w.heap.size,2,none⟩=some (.slice r.pA n.ps.length r.pc):=by rw[eJ.out];go_simp
   have S2:Hid (wv 3 aI W2 (some ⟨b,o,none⟩) c L):=by rw[eJ.out];exact S1.out.up
   have N2:=qh (N1.out.up:bJ B W2 r n);have j1:au w.heap.size w W2:=dQ dA (inferInstance:au W1.heap.size W1 W2);have j2:Le w.heap.size W2:=⟨nT cU.out (inferInstance:Le W1.heap.size W2).out⟩;clear eJ S1 N1 H0 hc;go_wp2_with fail;go_loopg [6,7] L.length (fun g s6 s7 wr=>∃(k c':Nat) (A':Option Addr) (cs:List nK),k<=L.length/\g=L.length-k/\s7=.int .i64 k/\s6=.slice A' (sameAs (eC n) (dY n) (L.take k)).length c' /\
    wr.ownsRow W2.heap.size 35 1 (.slice A' (sameAs (eC n) (dY n) (L.take k)).length c') (sameAs (eC n) (dY n) (L.take k)).length cs/\Hid (iV 3 aI W2 cs (sameAs (eC n) (dY n) (L.take k)))/\au W2.heap.size W2 wr/\Le W2.heap.size wr)
   case atStart=>exact⟨0,0,none,[],nE _,rfl,rfl,rfl,World.ownsRow_nil _ _ _ _,iV.nil,inferInstance,inferInstance⟩
   case round=>
    obtain⟨k,c',A',cs,hk,rfl,rfl,rfl,hown,hsub,i1,i2⟩:=hrel;have hle:(sameAs (eC n) (dY n) (L.take k)).length<=50000:=by refine nT (List.length_filter_le _ _) ?_;rw[List.length_take];omega
    obtain⟨R,hR⟩:∃R,sameAs (eC n) (dY n) (L.take k)=R:=⟨_,rfl⟩;rw[hR] at hown hsub hle ⊢;have HR:=qh hR;have HO:=qh hown;have Uk:w.heap.size<W2.heap.size:=(inferInstance:Lt w.heap.size W2).out;have q0:wr.cell? ⟨w.heap.size,0,none⟩=some (.int .i64 n.m):=(aZ i1.out w.heap.size 0 Uk).trans nZ;have q1:wr.cell? ⟨w.heap.size,1,none⟩=some (.slice r.hA n.hs.length r.hc):=(aZ i1.out w.heap.size 1 Uk).trans nZ;have q2:wr.cell? ⟨w.heap.size,2,none⟩=some (.slice r.pA n.ps.length r.pc):=(aZ i1.out w.heap.size 2 Uk).trans nZ;have iw:Lt w.heap.size wr:=⟨nL Uk i2.out⟩;clear hown hR;by_cases hlt:k<L.length
    ·obtain⟨b',o',Ak,ck,p5,hbk,J5,Ul⟩:=S2.out.nth hlt (HA.out k hlt).2;obtain⟨rfl,rfl⟩:b=b'/\o=o':=by simpa using p5
     have agA:=(aZ i1.out b _ hbk).trans J5;have ibr:Lt b wr:=⟨nL hbk i2.out⟩;have HSK:=qh Ul;have HK:=qh ((Ul.plain.up (hg:=i1)).more i2.out);have HN3:=qh ((N2.out.wide:bJ W2.heap.size W2 r n).up (hg:=i1));have HN4:=qh (HN3.out.more i2.out);have hki:(k:Int)<(L.length:Int):=nQ;have hk0:¬(k:Int)<0:=nQ;have iM:=qh hlt;have hsn:sameAs (eC n) (dY n) (L.take (k+1))=R++(if eC n (nth L k)=dY n then[nth L k] else[]):=by have:=KM (n:=n) (k:=k) (by rw[HL.out];exact hlt);rw[HL.out] at this;rw[this,HR.out]
     have SF:=qh hsn;clear hlt hk Ul hbk hsn;by_cases hE:eC n (nth L k)=dY n
     ·have hEb:(eC n (nth L k)==dY n)=true:=by simpa using hE
      have Yt:=qh (show sameAs (eC n) (dY n) (L.take (k+1))=R++[nth L k] by rw[SF.out,if_pos hE]);clear hE;go_wp2_with fail;refine wpRl ?_;repeat (go_big_quiet_step ((first|(go_at_call 240;exact Calls.bN (mo r n Ak ck _ (nth L k) _ _ HK.out.up HN4.out.up HV.out (HA.out k iM.out).1 (HA.out k iM.out).2)))))
      refine QBT ?_;rintro _ ⟨Vo,rfl⟩;go_wp2_with (at_builtin;(refine dL W2 Ti (.tmp 43) (.tmp 48) rfl rfl (kY _ HO.out) rfl rfl nW rfl (by simp[Value.oneCell']) nQ nQ ?_);intro A2 c2 δ2 CA);go_roundg (L.length-(k+1))
      case measure=>have:=iM.out;omega
      case rel=>
       refine⟨k+1,c2,A2,cs++[.slice Ak n.hs.length ck],iM.out,rfl,by go_num,?_,?_,?_,inferInstance,inferInstance⟩
       ·rw[Yt.out,List.length_append];rfl
       ·rw[Yt.out,List.length_append];exact CA
       ·rw[Yt.out];have h1:=iV.one HSK.out;rw[(HA.out k iM.out).2] at h1;exact hsub.out.append h1
     ·have hEb:(eC n (nth L k)==dY n)=false:=by simpa using hE
      have Yt:=qh (show sameAs (eC n) (dY n) (L.take (k+1))=R by rw[SF.out,if_neg hE,List.append_nil]);clear hE;go_wp2_with fail;refine wpRl ?_;repeat (go_big_quiet_step ((first|(go_at_call 240;exact Calls.bN (mo r n Ak ck _ (nth L k) _ _ HK.out.up HN4.out.up HV.out (HA.out k iM.out).1 (HA.out k iM.out).2)))))
      refine QBT ?_;rintro _ ⟨Vo,rfl⟩;go_wp2_with fail;go_roundg (L.length-(k+1))
      case measure=>have:=iM.out;omega
      case rel=>exact⟨k+1,c',A',cs,iM.out,rfl,by go_num,by rw[Yt.out],by rw[Yt.out];exact kY _ HO.out,by rw[Yt.out];exact hsub,inferInstance,inferInstance⟩
    ·obtain rfl:k=L.length:=by omega
     have HB:=qh (show uq n=R by unfold uq;rw[HL.out,<-HR.out,List.take_length]);go_wp2_with fail;go_ret;rw[HB.out];have i8:au w.heap.size w wr:=dQ j1 i1;have i9:Le w.heap.size wr:=⟨nT j2.out i2.out⟩;refine⟨A',c',wr,rfl,aq,?_⟩;rw[<-aq (w:=w) (W:=wr)];exact wv.bU HO.out (hsub.out.up (hg:=i1) (hs:=i2)) rfl
end
section
open Me
theorem Ho{n:Net}(hv:valid n=true):0<(uq n).length/\(uq n).length<=50000/\nth (uq n) 0=gz n:=by obtain⟨ys,h⟩:=OC (p4 hv);refine⟨by rw[h];simp,nT (List.length_filter_le _ _) (AR hv).2,by rw[h];rfl⟩
theorem Jc(r:cw)(n:Net)(hv:valid n=true)(B:Nat)(w:nJ)(hN:bJ B w r n)[hB:Le B w]:Calls nH 190 #[cI r n] w fun e w'=>e=.returned (.int .i64 (dY n))/\∃δ,w'=af w δ:=by
 have HN:=qh hN;have HV:=qh hv;obtain⟨l0,l1,l2⟩:=Ho hv;have HB:=qh (iL (p4 hv));have Pe:=qh (jB (iL (p4 hv)));have qN:=qh l2;have qd:=qh (show dY n=eC n (gz n) from rfl);have hl0:(0:Int)<((uq n).length:Int):=nQ;clear hN hv l2;go_enter Tryz.func190,Tryz.ntmps190;go_wp2_with fail;go_region_with
  (first|(go_at_call 241;refine(Lh r n HV.out B _ HN.out.up).mono ?_;rintro e w1 ⟨A1,c1,δ1,rfl,rfl,hS⟩;obtain⟨b,o,A0,c0,rfl,hb,hc,hs0⟩:=hS.nth l0 (by rw[qN.out,Pe.out]);rw[Nat.add_zero] at hc;have ib:=Lt.mk hb;rw[qN.out] at hs0;have H0:=qh hs0.plain;clear hs0 hb)|(go_at_call 240;refine(mo r n A0 c0 _ (gz n) _ _ H0.out.up HN.out.wide.up HV.out HB.out Pe.out).mono ?_;rintro e w1 ⟨rfl,δ2,rfl⟩))
 all_goals go_wp2_with fail;go_ret;rw[qd.out];exact⟨rfl,ag⟩
theorem Jb(r:cw)(n:Net)(hv:valid n=true)(B:Nat)(w:nJ)(hN:bJ B w r n)[hB:Le B w]:Calls nH 123 #[cI r n] w fun e w'=>e=.returned (.tuple #[.int .i64 (dY n),.int .i64 0])/\∃δ,w'=af w δ:=by have HN:=qh hN;have HV:=qh hv;clear hN hv;go_enter Tryz.func123,Tryz.ntmps123;go_wp2_with (first|(go_at_call 36;refine(uE r n HV.out B _ HN.out.up).mono ?_;rintro e w1 ⟨rfl,δ,rfl⟩)|(go_at_call 190;refine(Jc r n HV.out B _ HN.out.up).mono ?_;rintro e w1 ⟨rfl,δ2,rfl⟩));go_ret2;exact⟨rfl,ag⟩
theorem zq(r:cw)(n:Net)(hv:valid n=true)(B:Nat)(w:nJ)(hN:bJ B w r n)[hB:Le B w]:Calls nH 200 #[cI r n] w fun e w'=>∃(A:Option Addr) (c:Nat) (δ:nJ),e=.returned (.tuple #[.slice A n.hs.length c,.int .i64 0])/\w'=af w δ/\Hid (Sl aI (af w δ).heap.size (af w δ) A c (gz n)):=by have HN:=qh hN;have HV:=qh hv;obtain⟨l0,l1,l2⟩:=Ho hv;have Pe:=qh (jB (iL (p4 hv)));have qN:=qh l2;have hl0:(0:Int)<((uq n).length:Int):=nQ;clear hN hv l2;go_enter Tryz.func200,Tryz.ntmps200;go_wp2_with (first|(go_at_call 36;refine(uE r n HV.out B _ HN.out.up).mono ?_;rintro e w1 ⟨rfl,δ,rfl⟩)|(go_at_call 241;refine(Lh r n HV.out B _ HN.out.up).mono ?_;rintro e w1 ⟨A1,c1,δ1,rfl,rfl,hS⟩;obtain⟨b,o,A0,c0,rfl,hb,hc,hs0⟩:=hS.nth l0 (by rw[qN.out,Pe.out]);rw[Nat.add_zero] at hc;have ib:=Lt.mk hb;rw[qN.out] at hs0;have H0:=qh hs0.plain;clear hs0 hb));go_ret2;refine⟨A0,c0,_,rfl,aq,?_⟩;refine QDJ ?_;exact H0
end
section
open Me
theorem MH(r:cw)(n:Net)(hv:valid n=true)(B:Nat)(w:nJ)(hN:bJ B w r n)[hB:Le B w]:Calls nH 124 #[cI r n] w fun e w'=>e=.returned (.tuple #[.int .i64 (sZ n),.int .i64 0])/\∃δ,w'=af w δ:=by
 have h6:=(kI hv).2.1;obtain⟨l0,l1⟩:=AR hv;have HN:=qh hN;have HV:=qh hv;have H6:=qh h6;have Yz:=qh (FQ (f:=iQ n) (pP (p4 hv)));clear hN hv h6;obtain⟨L,hL⟩:∃L,gN n=L:=⟨_,rfl⟩;have HL:=qh hL;rw[hL] at l0 l1;clear hL;go_enter Tryz.func124,Tryz.ntmps124;go_wp2_with (first|(go_at_call 36;refine(uE r n HV.out B _ HN.out.up).mono ?_;rintro e w1 ⟨rfl,δ,rfl⟩)|(go_at_call 80;refine(tI r n B _ HN.out.up H6.out).mono ?_;rw[HL.out];rintro e w1 ⟨A,c,δ,rfl,rfl,hS⟩));refine QAV ?_;intro W1 aH cJ dF cU dA dD um mV kR;have S1:Hid (wv 3 aI W1 A c L):=by rw[aH.out];exact hS
 have N1:=qh (HN.out.up:bJ B W1 r n);clear aH hS;have HAT:∀k,k<L.length->fP n (nth L k)=true/\(nth L k).length=n.hs.length:=by rw[<-HL.out];exact fun k hk=>L8 hk
 have HA:=qh HAT;clear HAT;obtain⟨b,o,A0,c0,rfl,hb,hc,hs0⟩:=S1.out.nth l0 (HA.out 0 l0).2;rw[Nat.add_zero] at hc;have ib:Lt b W1:=⟨hb⟩;have H0:=qh hs0.plain;clear hs0;have hl0:(0:Int)<(L.length:Int):=nQ;refine wpRl ?_;repeat (go_big_quiet_step ((first|(go_at_call 191;exact Calls.bN (wS r n A0 c0 _ (nth L 0) _ _ H0.out.up N1.out.wide.up HV.out (HA.out 0 l0).1 (HA.out 0 l0).2)))))
 refine QBT ?_;rintro _ ⟨δq,rfl⟩;obtain⟨v,hv0⟩:∃v,iQ n (nth L 0)=v:=⟨_,rfl⟩;rw[hv0];have Yz:Hid (nx (iQ n) v L L.length=sZ n):=by have:=Yz.out;rw[HL.out,hv0] at this;exact this.trans (by unfold sZ;rw[HL.out])
 clear hv0;go_wp2_with fail;go_loopg [6,7] L.length (fun g s4 s5 wr=>∃(k:Nat) (δ:nJ),k<=L.length/\g=L.length-k/\s5=.int .i64 k/\s4=.int .i64 (nx (iQ n) v L k)/\wr=af W1 δ)
 case atStart=>exact⟨0,_,nE _,rfl,rfl,rfl,rfl⟩
 case round=>
  obtain⟨k,δ,hk,rfl,rfl,rfl,rfl⟩:=hrel;by_cases hlt:k<L.length
  ·obtain⟨b',o',Ak,ck,p5,hbk,J5,Ul⟩:=S1.out.nth hlt (HA.out k hlt).2;obtain⟨rfl,rfl⟩:b=b'/\o=o':=by simpa using p5
   have HK:=qh Ul.plain;have hki:(k:Int)<(L.length:Int):=nQ;have hk0:¬(k:Int)<0:=nQ;have iM:=qh hlt;clear hlt hk Ul hbk hc;by_cases hmn:iQ n (nth L k)<nx (iQ n) v L k
   ·have HE:=qh (show nx (iQ n) v L (k+1)=iQ n (nth L k) by rw[nx];omega);go_wp2_with fail;refine wpRl ?_;repeat (go_big_quiet_step ((first|(go_at_call 191;exact Calls.bN (wS r n Ak ck _ (nth L k) _ _ HK.out.up N1.out.wide.up HV.out (HA.out k iM.out).1 (HA.out k iM.out).2)))))
    refine QBT ?_;rintro _ ⟨Vo,rfl⟩;go_wp2_with fail;go_roundg (L.length-(k+1))
    case measure=>have:=iM.out;omega
    case rel=>exact⟨k+1,_,iM.out,rfl,by go_num,by rw[HE.out],aq⟩
   ·have HE:=qh (show nx (iQ n) v L (k+1)=nx (iQ n) v L k by rw[nx];omega);go_wp2_with fail;refine wpRl ?_;repeat (go_big_quiet_step ((first|(go_at_call 191;exact Calls.bN (wS r n Ak ck _ (nth L k) _ _ HK.out.up N1.out.wide.up HV.out (HA.out k iM.out).1 (HA.out k iM.out).2)))))
    refine QBT ?_;rintro _ ⟨Vo,rfl⟩;go_wp2_with fail;go_roundg (L.length-(k+1))
    case measure=>have:=iM.out;omega
    case rel=>exact⟨k+1,_,iM.out,rfl,by go_num,by rw[HE.out],aq⟩
  ·obtain rfl:k=L.length:=by omega
   rw[Yz.out];go_wp2_with fail;go_ret2;exact⟨rfl,ag⟩
end
section
open Me
theorem TR(r r':cw)(n:Net)(B:Nat)(w:nJ)[hB:Le B w](h:bJ B w r n)(h':bJ B w r' n):Calls nH 58 #[cI r n,cI r' n] w fun e w'=>e=.returned (.bool true)/\∃δ,w'=af w δ:=by
 have l1:=h.1.len;have l2:=h.2.len;go_enter Tryz.func58,Tryz.ntmps58;go_upto_region 3 with fail;refine QCD ?_;intro W1 aH cJ dF cU dA dD eI;refine QDL ?_;intro mV kR mG;have jE:W1.cell? ⟨w.heap.size+1,0,none⟩=some (.int .i64 n.m):=by rw[aH.out];go_simp
 have mR:W1.cell? ⟨w.heap.size+1,1,none⟩=some (.slice r'.hA n.hs.length r'.hc):=by rw[aH.out];go_simp
 have mQ:W1.cell? ⟨w.heap.size+1,2,none⟩=some (.slice r'.pA n.ps.length r'.pc):=by rw[aH.out];go_simp
 have s1:bJ B W1 r n:=h.up;have s2:bJ B W1 r' n:=h'.up;have S1:=qh s1;have S2:=qh s2;clear aH s1 s2 h h';go_wp2_with fail;go_loopw [5] (fun i wr=>∃(k:Nat) (δ:nJ),k<=n.hs.length/\i=.int .i64 k/\wr=af W1 δ) (fun i _=>n.hs.length-(intOf i).toNat)
 case atStart=>exact⟨0,W1,nE _,rfl,(bw W1).symm⟩
 case round=>
  obtain⟨k,δ,hk,rfl,rfl⟩:=hrel;by_cases hlt:k<n.hs.length
  ·obtain⟨b,o,hA,hb,d0,d1,d2,d3⟩:=S1.out.1.hole hlt;obtain⟨b',o',p5,hb',d0',d1',d2',d3'⟩:=S2.out.1.hole hlt;refine QCY ?_;intro ib ib';refine QEB ?_;intro hki hk0;rw[hA] at kR;rw[p5] at mR;clear hA p5;go_wp2_with fail;refine wpRl ?_;repeat (go_big_quiet_step ((first|(fail))))
   refine QBT ?_;rintro _ ⟨δq,rfl⟩;go_wp2_with fail;go_roundw
   case rel=>exact⟨k+1,_,nQ,by go_num,aq⟩
   case measure=>simp[intOf];omega
  ·obtain rfl:k=n.hs.length:=by omega
   go_wp2_with fail;go_loopw [6] (fun i wr=>∃(k:Nat) (δ:nJ),k<=n.ps.length/\i=.int .i64 k/\wr=af W1 δ) (fun i _=>n.ps.length-(intOf i).toNat)
   case atStart=>exact⟨0,δ,nE _,rfl,rfl⟩
   case round=>
    clear hk hlt;obtain⟨k,δ,hk,rfl,rfl⟩:=hrel;by_cases hlt:k<n.ps.length
    ·obtain⟨b,o,hA,hb,d0,d1⟩:=S1.out.2.pr hlt;obtain⟨b',o',p5,hb',d0',d1'⟩:=S2.out.2.pr hlt;refine QCY ?_;intro ib ib';have hki:(k:Int)<(n.ps.length:Int):=nQ;have hk0:¬(k:Int)<0:=nQ;rw[hA] at mG;rw[p5] at mQ;clear hA p5;go_wp2_with fail;refine wpRl ?_;repeat (go_big_quiet_step ((first|(fail))))
     refine QBT ?_;rintro _ ⟨δq,rfl⟩;go_wp2_with fail;go_roundw
     case rel=>exact⟨k+1,_,nQ,by go_num,aq⟩
     case measure=>simp[intOf];omega
    ·obtain rfl:k=n.ps.length:=by omega
     go_wp2_with fail;go_ret;exact⟨rfl,ag⟩
end
end Go.Proofs.YtdmedlkonaclnaaGreatDoor
