/- A part of the proof that a law of layer 12 holds, cut small by a program (names and blanks): Hk5. -/
import Derived.Test.YtpnnapeoanafdaaGreatDoorZ37
import Derived.Test.YtpnnapeoanafdaaGreatDoorZ38
set_option maxRecDepth 100000
set_option maxHeartbeats 40000000
set_option linter.unusedVariables false
set_option linter.unusedSimpArgs false
namespace Go.Proofs.YtpnnapeoanafdaaGreatDoor
open Go.RowKit
open Nat renaming le_trans → nT, lt_of_lt_of_le → nL, le_refl → nR, zero_le → nE
open Go.Proofs.Tryz renaming prog → nH
open Go renaming World → nJ
section
open Hd
theorem Pb(r:aW)(t:aO)(A:Option Addr)(c:Nat)(ls:List aQ)(B:Nat)(w:nJ)(hT:aN B w r t)(hS:Sl bS B w A c ls)[hB:Le B w][h8:Le 8 w](hL:cT w):Calls nH 5 #[aY r t,.slice A ls.length c] w fun e w'=>e=.returned (.bool true)/\∃δ,w'=ah w δ:=by
 have H:=qh hT;have HS:=qh hS;have HL:=qh hL;clear hT hS hL;go_enter Tryz.func5,Tryz.ntmps5;go_upto_region 1 with fail;refine QBT ?_;intro W1 aH cJ dF cW di dz eL jG;refine QDK ?_;intro X1;clear aH;go_wp2_with (refine au aq rfl _ rfl rfl X1.out rfl ?_);refine(qv r t ls A c B _ H.out.up HS.out.up).mono ?_;unfold kZ;rintro e w1 ⟨b,δ1,rfl,rfl,hr⟩;cases b with
 |false=>
  clear hr
  go_wp2_with (go_at_call 11;refine(dK _ HL.out.up).mono ?_;rintro e w1 ⟨rfl,δ2,rfl⟩)
  go_ret
  exact⟨rfl,ag⟩
 |true=>
  obtain⟨Hv,hv,Qr⟩:=hr rfl
  have hx:∀x∈ls,x.length<=1000:=fun x hx=>nT (Hv.2.2 x hx) nU
  obtain⟨ho1,ho2,ZP⟩:=once hv Qr hx
  have hal:=Gf ls (bZ t)
  obtain⟨d,hd⟩:∃d,(dJ (bZ t) ls).1=d:=⟨_,rfl⟩
  obtain⟨a,ha⟩:∃a,(dJ (bZ t) ls).2=a:=⟨_,rfl⟩
  have Yx:=CE ls (d:=bZ t) hv
  have Ql:=(zC ls (d:=bZ t) sJ).1
  rw[hd] at ho2 ZP Yx Ql
  rw[ha] at ho1 ho2 hal
  have HR:Hid (∀W:nJ,aD B w W->Le B W->Le 8 W->aD 8 w W->Calls nH 13 #[aY r t,.slice A ls.length c] W (Bp ls.length d a W)):=qh fun W i1 i2 i3 i4=>vt r t ls A c hv Qr hx d a hd ha _ rfl B W H.out.up HL.out.up HS.out.up
  have HX:=qh hx
  have Ft:=qh ho1
  have xO:=qh ho2
  have HO3:=qh ZP
  have Xo:=qh hal
  have HVD:=qh Yx
  have VF:(d.az.length:Int)<=5:=nQ
  have Y6:(ls.length:Int)<=30:=nQ
  have HD:=qh Ql
  clear hr Hv hv hx ho1 ho2 ZP hal hd ha Yx Ql
  go_upto_region 4 with(first|(refine au aq rfl _ rfl rfl (X1.out.ah _) rfl ?_)|(go_at_call 13;refine(HR.out _ inferInstance inferInstance inferInstance inferInstance).mono ?_;unfold Bp;rintro e w1 ⟨aA,ac,rN,lA,lc,δ5,rfl,rfl,oA,oT,oL⟩;have OA:=qh oA;have OT:=qh oT;have OL:=qh oL;clear oA oT oL)|(refine iS (cs':=aG rN d.ax) aq rfl _ _ rfl rfl rfl rfl rfl (aL _ _) ?_))
  obtain⟨g,hg⟩:∃g,(ah (ah W1 δ1) δ5).heap.size=g:=⟨_,rfl⟩
  refine aM fun W5 jT=>?_
  have Fo:Le B W5:=fI jT
  have G9:aD B w W5:=gy jT
  obtain⟨su,tZ,tY,sR⟩:=EO 8 w jT
  have E5:Hid (ay W5 g 39 (aG rN d.ax)):=by rw[jT.out];exact qh (ay.new hg.symm)
  have SA5:Hid (Sl bS W5.heap.size W5 aA ac a):=by rw[jT.out];exact qh (uH (OA.out.alloc _) Xo.out)
  have ST5:Hid (aN W5.heap.size W5 rN d.ax):=by rw[jT.out];exact qh (OT.out.alloc _).is
  have SL5:Hid (Sl bS W5.heap.size W5 lA lc (d.az.map (·.line))):=by rw[jT.out];exact qh (uH (OL.out.alloc _) nV)
  clear jT OA OT OL
  have lw:Le W5.heap.size W5:=⟨nR _⟩
  rw[hg]
  clear hg
  go_wp2_with fail
  go_loopg [9,10,11] ls.length (fun gn s9 s10 s11 wr=>∃(j gv gg:Nat) (δ:nJ),j<=ls.length/\gv<=j/\gg<=200*j/\gn=ls.length-j/\s9=.int .i64 gv/\s10=.int .i64 gg/\s11=.int .i64 j/\wr=ah W5 δ/\Hid (gv+gW (ls.drop j) (a.drop j)=gW ls a/\gg+kT (ls.drop j) (a.drop j)=kT ls a))
  case atStart=>exact⟨0,0,0,W5,nE _,nR _,nR _,rfl,rfl,rfl,rfl,ai,qh ⟨Nat.zero_add _,Nat.zero_add _⟩⟩
  case round=>
   obtain⟨j,gv,gg,δ2,hj,hgv,hgg,rfl,rfl,rfl,rfl,rfl,HT⟩:=hrel;by_cases hlt:j<ls.length
   ·have hji:(j:Int)<(ls.length:Int):=nQ;have hj0:¬(j:Int)<0:=nQ;obtain⟨sb,so,rfl,EE,e0⟩:=(HS.out.up (w':=W5)).kK hlt;have isb:Lt sb W5:=⟨nL EE (inferInstance:Le B W5).out⟩;obtain⟨ab,ao,rfl,hab,e1⟩:=SA5.out.kK (k:=j) (by rw[Xo.out];exact hlt);have iab:Lt ab W5:=⟨hab⟩;have hl:=HX.out _ (aR ls hlt);have hla:=Ft.out _ (aR a (k:=j) (by rw[Xo.out];exact hlt));have hta:=aaa hlt (show j<a.length by rw[Xo.out];exact hlt);obtain⟨lj,Jd⟩:∃x,nth ls j=x:=⟨_,rfl⟩;obtain⟨aj,haj⟩:∃x,nth a j=x:=⟨_,rfl⟩;rw[Jd] at e0 hl hta;rw[haj] at e1 hla hta;have TS:=qh hta;have hcl:=Wc aj;obtain⟨cn,hcn⟩:∃n,fS aj=n:=⟨_,rfl⟩;have HC:=qh fun(W:nJ)=>V9 aj (nT hla nU) cn hcn W;rw[hcn] at hcl TS;have ahN:cn<=100:=nT hcl hla;have ahs:¬(100:Int)<(aj.length:Int):=nQ;obtain⟨bb,ij⟩:∃b,wI aj tW=b:=⟨_,rfl⟩;have HB:=qh fun(W:nJ)=>TD aj tW (nT hla nU) bb ij W;have Fl:=qh ij;clear EE hab Jd haj hta hcl hcn ij;by_cases h4:lY (bH lj)=4
    ·have HK:=qh fun(W:nJ)=>ng lj hl 4 h4 W;have Wr:=qh (Jw h4 Fl.out);clear h4;cases bb with
     |true=>
      have HN:Hid (gv+1+gW (ls.drop (j+1)) (a.drop (j+1))=gW ls a/\gg+cn+kT (ls.drop (j+1)) (a.drop (j+1))=kT ls a):=qh (by
       have h1:=TS.out
       have h2:=Wr.out
       have h3:=HT.out
       rw[h1.1,h1.2,h2.1,h2.2] at h3
       try simp only[Bool.toNat_true,Bool.toNat_false] at h3
       omega)
      clear TS HT Fl
      go_wp2_with (first|(go_at_call 12;refine(HK.out _).mono ?_;rintro e w1 ⟨rfl,δ3,rfl⟩)|(go_at_call 17;refine(HB.out _).mono ?_;rintro e w1 ⟨rfl,δ4,rfl⟩)|(go_at_call 18;refine(HC.out _).mono ?_;rintro e w1 ⟨rfl,δ5',rfl⟩))
      go_roundg (ls.length-(j+1))
      case measure=>omega
      case rel=>exact⟨j+1,gv+1,gg+cn,_,nQ,nQ,nQ,rfl,by go_num,by go_num,by go_num,ai,HN⟩
     |false=>
      have HN:Hid (gv+0+gW (ls.drop (j+1)) (a.drop (j+1))=gW ls a/\gg+cn+kT (ls.drop (j+1)) (a.drop (j+1))=kT ls a):=qh (by
       have h1:=TS.out
       have h2:=Wr.out
       have h3:=HT.out
       rw[h1.1,h1.2,h2.1,h2.2] at h3
       try simp only[Bool.toNat_true,Bool.toNat_false] at h3
       omega)
      clear TS HT Fl
      go_wp2_with (first|(go_at_call 12;refine(HK.out _).mono ?_;rintro e w1 ⟨rfl,δ3,rfl⟩)|(go_at_call 17;refine(HB.out _).mono ?_;rintro e w1 ⟨rfl,δ4,rfl⟩)|(go_at_call 18;refine(HC.out _).mono ?_;rintro e w1 ⟨rfl,δ5',rfl⟩))
      go_roundg (ls.length-(j+1))
      case measure=>omega
      case rel=>exact⟨j+1,gv+0,gg+cn,_,nQ,nQ,nQ,rfl,by go_num,by go_num,by go_num,ai,HN⟩
    by_cases h5:lY (bH lj)=5
    ·have HK:=qh fun(W:nJ)=>ng lj hl 5 h5 W;have Wr:=qh (DP h5 Fl.out);clear h4 h5;cases bb with
     |true=>
      have HN:Hid (gv+0+gW (ls.drop (j+1)) (a.drop (j+1))=gW ls a/\gg+(1+cn)+kT (ls.drop (j+1)) (a.drop (j+1))=kT ls a):=qh (by
       have h1:=TS.out
       have h2:=Wr.out
       have h3:=HT.out
       rw[h1.1,h1.2,h2.1,h2.2] at h3
       try simp only[Bool.toNat_true,Bool.toNat_false] at h3
       omega)
      clear TS HT Fl
      go_wp2_with (first|(go_at_call 12;refine(HK.out _).mono ?_;rintro e w1 ⟨rfl,δ3,rfl⟩)|(go_at_call 17;refine(HB.out _).mono ?_;rintro e w1 ⟨rfl,δ4,rfl⟩)|(go_at_call 18;refine(HC.out _).mono ?_;rintro e w1 ⟨rfl,δ5',rfl⟩))
      go_roundg (ls.length-(j+1))
      case measure=>omega
      case rel=>exact⟨j+1,gv+0,gg+(1+cn),_,nQ,nQ,nQ,rfl,by go_num,by go_num,by go_num,ai,HN⟩
     |false=>
      have HN:Hid (gv+0+gW (ls.drop (j+1)) (a.drop (j+1))=gW ls a/\gg+cn+kT (ls.drop (j+1)) (a.drop (j+1))=kT ls a):=qh (by
       have h1:=TS.out
       have h2:=Wr.out
       have h3:=HT.out
       rw[h1.1,h1.2,h2.1,h2.2] at h3
       try simp only[Bool.toNat_true,Bool.toNat_false] at h3
       omega)
      clear TS HT Fl
      go_wp2_with (first|(go_at_call 12;refine(HK.out _).mono ?_;rintro e w1 ⟨rfl,δ3,rfl⟩)|(go_at_call 17;refine(HB.out _).mono ?_;rintro e w1 ⟨rfl,δ4,rfl⟩)|(go_at_call 18;refine(HC.out _).mono ?_;rintro e w1 ⟨rfl,δ5',rfl⟩))
      go_roundg (ls.length-(j+1))
      case measure=>omega
      case rel=>exact⟨j+1,gv+0,gg+cn,_,nQ,nQ,nQ,rfl,by go_num,by go_num,by go_num,ai,HN⟩
    have Wr:=qh (FJ (a:=aj) h4 h5);obtain⟨kn,hkn⟩:∃n,lY (bH lj)=n:=⟨_,rfl⟩;have HK:=qh fun(W:nJ)=>ng lj hl kn hkn W;rw[hkn] at h4 h5;have k4:(kn==4)=false:=by simpa using h4
    have k5:(kn==5)=false:=by simpa using h5
    have k4d:decide (kn=4)=false:=decide_eq_false h4;have k5d:decide (kn=5)=false:=decide_eq_false h5;clear hkn;have HN:Hid (gv+0+gW (ls.drop (j+1)) (a.drop (j+1))=gW ls a/\gg+cn+kT (ls.drop (j+1)) (a.drop (j+1))=kT ls a):=qh (by
     have h1:=TS.out
     have h2:=Wr.out
     have h3:=HT.out
     rw[h1.1,h1.2,h2.1,h2.2] at h3
     try simp only[Bool.toNat_true,Bool.toNat_false] at h3
     omega)
    clear TS HT Fl;go_wp2_with (first|(go_at_call 12;refine(HK.out _).mono ?_;rintro e w1 ⟨rfl,δ3,rfl⟩)|(go_at_call 17;refine(HB.out _).mono ?_;rintro e w1 ⟨rfl,δ4,rfl⟩)|(go_at_call 18;refine(HC.out _).mono ?_;rintro e w1 ⟨rfl,δ5',rfl⟩));go_roundg (ls.length-(j+1))
    case measure=>omega
    case rel=>exact⟨j+1,gv+0,gg+cn,_,nQ,nQ,nQ,rfl,by go_num,by go_num,by go_num,ai,HN⟩
   ·obtain rfl:j=ls.length:=by omega
    have HG:Hid (gv=gg+d.az.length):=qh (by
     have h1:=Nt (a:=a) (nR ls.length)
     have h2:=HT.out
     have h3:=xO.out
     rw[h1.1,h1.2] at h2
     omega)
    clear HT;go_wp2_with fail;go_loopg [12] d.az.length (fun gn s12 wr=>∃(i:Nat) (δ:nJ),i<=d.az.length/\gn=d.az.length-i/\s12=.int .i64 i/\wr=ah W5 δ)
    case atStart=>exact⟨0,_,nE _,rfl,rfl,ai⟩
    case round=>
     obtain⟨i,δ7,hi,rfl,rfl,rfl⟩:=hrel;by_cases hilt:i<d.az.length
     ·have Jg:(i:Int)<(d.az.length:Int):=nQ;have hi0:¬(i:Int)<0:=nQ;obtain⟨kb,ko,rfl,hkb,e0⟩:=SL5.out.kK (k:=i) (by simpa using hilt);have ikb:Lt kb W5:=⟨hkb⟩;rw[iK _ _ hilt] at e0;obtain⟨hx,q,sg,n,cc,hr,hh⟩:=HO3.out _ (aR d.az hilt);obtain⟨x,WJ⟩:∃x,(nth d.az i).line=x:=⟨_,rfl⟩;rw[WJ] at e0 hx hr;have hp:=zQ hr;have HQ:=qh (show cg q.w=2/\q.a.length=tS q.w/\(sg=60\/sg=61\/sg=62) from⟨hp.1,hp.2.1,hp.2.2.2.2⟩);have HH:=qh hh;have HK:=qh fun(W:nJ)=>ng x hx 4 (by rw[hr];rfl) W;have HRd:Hid (∀W:nJ,Calls nH 20 #[.string (str x)] W (kq (.ord q sg n cc) W)):=qh fun W=>hr▸kz x hx W;clear WJ hp hr hh hx;go_wp2_with fail;refine wp_region_held (S:=fun W=>aD W5.heap.size W5 W) nP ?_;change wpAnyH _ _ _ _ _ _ _ _ (World.drew _);refine wpH_tq 0 (.slice (some ⟨kb,ko,none⟩) d.az.length lc) (inferInstance) ?_;refine QAC ?_;refine wpH_tq 1 (.int .i64 i) (inferInstance) ?_;refine QAC ?_;refine wpH_tq 2 (.pointer (some ⟨kb,ko+i,none⟩)) (inferInstance) ?_;refine QAC ?_;refine gN 3 (.string (str x)) rfl nP (Or.inl ⟨nY,by intro w5 h5;have e5:=(bB h5.out kb (ko+i) hkb).trans e0;go_simp⟩) (inferInstance) ?_;refine QAC ?_;refine wpAnyH_all (rs:=[4]) (by first|kernel_rfl|decide +kernel) nV ?_;intro i hi;obtain rfl:=List.mem_singleton.1 hi;refine QAF ?_;refine(HK.out _).mono ?_;rintro e w1 ⟨rfl,δ3,rfl⟩;refine⟨inferInstance,?_⟩;refine QAC ?_;refine wpH_tq 5 (.bool false) (inferInstance) ?_;refine QAC ?_;refine wpH_tq 6 (.bool false) (inferInstance) ?_;refine QAC ?_;refine gN 7 (aY rN d.ax) rfl nP (iE aq nY _ rfl rfl (fun W h=>ay.eO (hg:=h) E5.out) rfl) (inferInstance) ?_;refine QAC ?_;refine wpH_tq 8 (.slice (some ⟨kb,ko,none⟩) d.az.length lc) (inferInstance) ?_;refine QAC ?_;refine wpH_tq 9 (.int .i64 i) (inferInstance) ?_;refine QAC ?_;refine wpH_tq 10 (.pointer (some ⟨kb,ko+i,none⟩)) (inferInstance) ?_;refine QAC ?_;refine gN 11 (.string (str x)) rfl nP (Or.inl ⟨nY,by intro w5 h5;have e5:=(bB h5.out kb (ko+i) hkb).trans e0;go_simp⟩) (inferInstance) ?_;refine QAC ?_;refine wpAnyH_all (rs:=[12]) (by first|kernel_rfl|decide +kernel) nV ?_;intro i hi;obtain rfl:=List.mem_singleton.1 hi;refine QAF ?_;refine(HRd.out _).mono ?_;unfold kq;rintro e w1 ⟨v,δ4,rfl,rfl,hv⟩;have HVL:=qh hv;clear hv;refine⟨inferInstance,?_⟩;refine QAC ?_;refine wpAnyH_all (rs:=[13]) (by first|kernel_rfl|decide +kernel) nV ?_;intro i hi;obtain rfl:=List.mem_singleton.1 hi;refine QAF ?_;refine(Gp rN d.ax HVD.out q cc sg n HQ.out.1 HQ.out.2.1 HQ.out.2.2 v _ _ (ST5.out.wide) HVL.out (hB:=⟨nR _⟩)).mono ?_;rw[HH.out];rintro e w1 ⟨rfl,δ6,rfl⟩;refine⟨inferInstance,?_⟩;refine QAC ?_;refine wpH_tq 14 (.bool false) (inferInstance) ?_;refine QAC ?_;refine wpAnyH_done nP ?_ _;go_wp2_with fail;go_roundg (d.az.length-(i+1))
      case measure=>omega
      case rel=>exact⟨i+1,_,nQ,rfl,by go_num,ai⟩
     ·obtain rfl:i=d.az.length:=by omega
      have hgi:(gv:Int)=(gg:Int)+(d.az.length:Int):=by have:=HG.out;omega
      go_wp2_with (go_at_call 11;refine(dK _ HL.out.up).mono ?_;rintro e w1 ⟨rfl,δ2,rfl⟩);go_ret;exact⟨rfl,ag⟩
end
end Go.Proofs.YtpnnapeoanafdaaGreatDoor
