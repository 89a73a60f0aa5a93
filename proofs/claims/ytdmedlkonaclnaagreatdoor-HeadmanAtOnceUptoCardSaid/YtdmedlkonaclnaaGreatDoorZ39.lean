/- A part of the proof that a law of layer 12 holds, cut small by a program (names and blanks): Hk15. -/
import Derived.Test.YtdmedlkonaclnaaGreatDoorZ20
import Derived.Test.YtdmedlkonaclnaaGreatDoorZ38
set_option maxRecDepth 100000
set_option maxHeartbeats 40000000
set_option linter.unusedVariables false
set_option linter.unusedSimpArgs false
namespace Go.Proofs.YtdmedlkonaclnaaGreatDoor
open Go.RowKit
open Nat renaming zero_le → nE
open Go.Proofs.Tryz renaming prog → nH
open Go renaming World → nJ, Value → nK
section
open Hd
theorem QH{B:Nat}{w:nJ}{v:nK}{q c:dU}{s:UInt8}{n:Int}(h:mF B w v (.ord q s n c)):∃a1 a2 a3 a4 A' cap' a7 a8,v=.agg #[a1,a2,a3,a4,.int .i64 (cN c.w:Nat),.string (str (cj c.w)),.slice A' c.a.length cap',a7,a8]/\Sl aI B w A' cap' c.a:=by obtain⟨A,cap,A',cap',h1,_,h3⟩:=h;exact⟨_,_,_,_,A',cap',_,_,h1,h3.plain⟩
theorem PD(a b c d e f g i j:nK)(W:nJ):(Instr.field 68 (.agg #[a,b,c,d,e,f,g,i,j]) 2).run nH W=.ok (.agg #[e,f,g]) W:=by kernel_rfl
theorem My(b x c:nK)(W:nJ):(Instr.field 66 (.agg #[b,x,c]) 1).run nH W=.ok x W:=by kernel_rfl
theorem Mz(b x c:nK)(W:nJ):(Instr.field 66 (.agg #[b,x,c]) 2).run nH W=.ok c W:=by kernel_rfl
theorem Cy(l:bz)(hl:l.length<=1000)(q c:dU)(s:UInt8)(n:Int)(hr:bK l=.ord q s n c)(x:bz)(hx:uh c=x)(w:nJ):Calls nH 23 #[.string (str l)] w fun e w'=>e=.returned (.string (str x))/\∃δ,w'=af w δ:=by
 have SU:Hid (∀W:nJ,Calls nH 27 #[.string (str l)] W (fR (.ord q s n c) W)):=qh fun W=>hr▸ke l hl W;obtain⟨_,_,_,_,_,_,_,h7,_⟩:=tJ hr;have HB:=qh (mS h7).2;have h4:c.a.length<=4:=by rw[(mS h7).1];exact Hr c.w
 have HX:=qh hx;have ae5:=PD;have hword:=My;have aee:=Mz;clear h7 hr hx hl;go_enter Tryz.func23,Tryz.ntmps23;go_wp2_with fail;refine(SU.out _).mono ?_;unfold fR;rintro e w1 ⟨v,δ1,rfl,rfl,hv⟩;obtain⟨a1,a2,a3,a4,A,cap,a7,a8,rfl,hS⟩:=QH hv;have HS:=qh hS;clear hv hS;go_upto_region 2 with fail;obtain⟨g,hg⟩:∃g,(af w δ1).heap.size=g:=⟨_,rfl⟩;refine aL fun W hW=>?_;have cJ:au w.heap.size w W:=gu hW;have dF:Le w.heap.size W:=fI hW;have mY:Hid (Sl aI W.heap.size W A cap c.a):=by rw[hW.out];exact qh HS.out.wide
 have BX:ax W g 66 #[.int .i64 1,.string (str (cj c.w)),.slice A c.a.length cap]:=by rw[hW.out];exact ax.new hg.symm
 have ig:Lt g W:=BX.lt;have x1:W.cell? ⟨g,1,none⟩=some (.string (str (cj c.w))):=BX.cell rfl;have x2:W.cell? ⟨g,2,none⟩=some (.slice A c.a.length cap):=BX.cell rfl;rw[hg];clear hW hg HS BX;go_wp2_with fail;go_loopg [4,5] c.a.length (fun gn s2 s3 wr=>∃(k:Nat) (y:bz) (δ:nJ),k<=c.a.length/\gn=c.a.length-k/\s2=.string (str y)/\s3=.int .i64 k/\wr=af W δ/\Hid (y=xh c k))
 case atStart=>exact⟨0,_,_,nE _,rfl,rfl,rfl,aq,qh (Gp c).symm⟩
 case round=>
  obtain⟨k,y,δ,hk,rfl,rfl,rfl,rfl,HY⟩:=hrel;by_cases LR:k<c.a.length
  ·have LW:(k:Int)<(c.a.length:Int):=nQ;have hi0:¬(k:Int)<0:=nQ;obtain⟨b,o,rfl,hb,e0⟩:=mY.out.int (k:=k) LR;have ib:Lt b W:=⟨hb⟩;have hnb:=HB.out _ (aV c.a LR);obtain⟨m,hm⟩:∃m,nth c.a k=m:=⟨_,rfl⟩;obtain⟨z,hz⟩:∃z,Lib.itoa m=z:=⟨_,rfl⟩;have hzl:z.length<=8:=by rw[<-hz];exact sN 6 (by rw[hm] at hnb;omega)
   have hyl:y.length<=60:=by rw[HY.out];have:=LG HB.out k;omega
   rw[hm] at e0 hnb;have hT:Hid (∀W':nJ,Calls nH 46 #[.int .i64 m] W' fun e w'=>e=.returned (.string (str z))/\∃δ,w'=af W' δ):=qh fun W'=>Fo m ⟨nQ,nQ⟩ z hz W';have b1:∀W:nJ,(Op.stringOp .add (⟨#[32]⟩:ByteArray) (str z)).run nH W=.ok (.string (str (32::z))) W:=fun W=>gp (P:=nH) W [32] z (by simp;omega);have b2:=fun(W:nJ)=>gp (P:=nH) W y (32::z) (by simp;omega);obtain⟨u,hu⟩:∃u,y++32::z=u:=⟨_,rfl⟩;rw[hu] at b2;have HU:Hid (u=xh c (k+1)):=qh (by rw[Gq c LR,hm,hz,<-HY.out,hu]);clear hb hm hz hu hnb;go_wp2_with (go_at_call 46;refine(hT.out _).mono ?_;rintro e w1 ⟨rfl,δ5,rfl⟩);go_roundg (c.a.length-(k+1))
   case measure=>omega
   case rel=>exact⟨k+1,u,_,LR,rfl,rfl,by go_num,aq,HU⟩
  ·obtain rfl:k=c.a.length:=by omega
   have LW:¬(c.a.length:Int)<(c.a.length:Int):=nQ;have HE:Hid (str y=str x):=qh (by rw[HY.out,LH,HX.out]);go_wp2_with fail;go_ret;exact⟨by first|rfl|(rw[HE.out];rfl),ag⟩
end
end Go.Proofs.YtdmedlkonaclnaaGreatDoor
