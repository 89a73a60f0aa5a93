/- A part of the proof that a law of layer 12 holds, cut small by a program (names and blanks): Hk1. -/
import Derived.Test.YtpnnapeoanafdaaGreatDoorZ34
set_option maxRecDepth 100000
set_option maxHeartbeats 40000000
set_option linter.unusedVariables false
set_option linter.unusedSimpArgs false
namespace Go.Proofs.YtpnnapeoanafdaaGreatDoor
open Go.RowKit
open Go.Proofs.Tryz renaming prog → nH
open Go renaming World → nJ, Value → nK
section
open Hd
def kZ(t:aO)(ls:List aQ)(w:nJ)(e:Ending)(w':nJ):Prop:=∃(b:Bool) (δ:nJ),e=.returned (.bool b)/\w'=ah w δ/\(b=true->I8 t ls/\aE t=true/\ls.length<=30)
theorem zE{t:aO}{ls:List aQ}{w W:nJ}(h:∃δ,W=ah w δ):kZ t ls w (.returned (.bool false)) W:=by obtain⟨δ,rfl⟩:=h;exact⟨false,δ,rfl,rfl,fun h=>by cases h⟩
theorem NN{t:aO}{ls:List aQ}{w W:nJ}(h:∃δ,W=ah w δ)(ho:I8 t ls/\aE t=true/\ls.length<=30):kZ t ls w (.returned (.bool true)) W:=by obtain⟨δ,rfl⟩:=h;exact⟨true,δ,rfl,rfl,fun _=>ho⟩
theorem qv(r:aW)(t:aO)(ls:List aQ)(A:Option Addr)(c:Nat)(B:Nat)(w:nJ)(hT:aN B w r t)(hS:Sl bS B w A c ls)[hB:Le B w]:Calls nH 10 #[aY r t,.slice A ls.length c] w (kZ t ls w):=by
 have H:=qh hT;have HS:=qh hS;clear hT hS;go_enter Tryz.func10,Tryz.ntmps10;go_upto_region 1 with fail;refine aM fun W1 aH=>?_;obtain⟨cJ,dF,cW,di,dz⟩:=BH B w aH;refine QDK ?_;intro X1;clear aH;go_wp2_with (refine au aq rfl _ rfl rfl X1.out rfl ?_);refine(Sc r t ls A c B _ H.out.up HS.out.up).mono ?_;rintro e w1 ⟨b,δ1,rfl,rfl,hf⟩;cases b with
 |true=>
  clear hf
  go_wp2_with fail
  go_ret
  exact zE ag
 |false=>
  have Qe:=qh (hf rfl)
  clear hf
  rcases hv:aE t with _|_
  ·have HV:=qh (show cD (aE t) 120=120 by rw[hv];rfl);clear hv;go_wp2_with (first|(refine bC aq nY _ rfl rfl (ay.eO X1.out) rfl ?_)|(go_at_call 39;refine(cw r t B _ H.out.up).mono ?_;rw[HV.out];rintro e w1 ⟨rfl,δ2,rfl⟩));go_ret;exact zE ag
  ·have Nj:=qh hv;have HV:=qh (show cD (aE t) 120=0 by rw[hv];rfl);clear hv;by_cases hl:ls.length<=30
   ·have WR:(ls.length:Int)<=30:=nQ;go_wp2_with (first|(refine bC aq nY _ rfl rfl (ay.eO X1.out) rfl ?_)|(go_at_call 39;refine(cw r t B _ H.out.up).mono ?_;rw[HV.out];rintro e w1 ⟨rfl,δ2,rfl⟩));go_ret;exact NN ag ⟨Qe.out,Nj.out,hl⟩
   ·have WR:¬(ls.length:Int)<=30:=nQ;have hld:decide ((ls.length:Int)<=30)=false:=decide_eq_false WR;go_wp2_with (first|(refine bC aq nY _ rfl rfl (ay.eO X1.out) rfl ?_)|(go_at_call 39;refine(cw r t B _ H.out.up).mono ?_;rw[HV.out];rintro e w1 ⟨rfl,δ2,rfl⟩));go_ret;exact zE ag
theorem KJ{B:Nat}{w:nJ}{v:nK}{x:ql}(h:Bs B w v x):∃a b c d e f g i,v=.agg #[.int .i64 (lY x),a,b,c,d,e,f,g,i]:=by
 cases x with
 |none=>exact⟨_,_,_,_,_,_,_,_,h⟩
 |cmd c=>obtain⟨A,cap,h1,_⟩:=h;exact⟨_,_,_,_,_,_,_,_,h1⟩
 |ord q s n c=>obtain⟨A,cap,A',cap',h1,_⟩:=h;exact⟨_,_,_,_,_,_,_,_,h1⟩
theorem QU(a b c d e f g i:nK)(n:Int)(W:nJ):(Instr.field 55 (.agg #[.int .i64 n,a,b,c,d,e,f,g,i]) 0).run nH W=.ok (.int .i64 n) W:=by kernel_rfl
theorem ng(l:aQ)(hl:l.length<=1000)(k:Int)(hk:lY (bH l)=k)(w:nJ):Calls nH 12 #[.string (str l)] w fun e w'=>e=.returned (.int .i64 k)/\∃δ,w'=ah w δ:=by subst hk;have YR:=QU;go_enter Tryz.func12,Tryz.ntmps12;go_wp2_with fail;refine(kz l hl _).mono ?_;unfold kq;rintro e w1 ⟨v,δ,rfl,rfl,hv⟩;obtain⟨a,b,c,d,f,g,i,j,rfl⟩:=KJ hv;clear hv;go_wp2_with fail;go_ret;exact⟨rfl,ag⟩
theorem TD(s x:aQ)(hs:s.length<=100000)(b:Bool)(hb:wI s x=b)(w:nJ):Calls nH 17 #[.string (str s),.string (str x)] w fun e w'=>e=.returned (.bool b)/\∃δ,w'=ah w δ:=by
 subst hb;by_cases hle:x.length<=s.length
 ·have WR:(x.length:Int)<=(s.length:Int):=nQ;have hto:=fun(w:nJ) t k h=>Xv (P:=nH) w t k s x.length (s.take x.length) h hle rfl;obtain⟨y,hy⟩:∃y,s.take x.length=y:=⟨_,rfl⟩;rw[hy] at hto;have HT:=qh hto;have HB:Hid (wI s x=decide (y=x)):=qh (by unfold wI;rw[hy];simp[hle]);have hq:=Uq y x;clear hto hy;have hto:=HT.out;rw[HB.out];clear HB HT;go_enter Tryz.func17,Tryz.ntmps17;by_cases h:y=x
  ·subst h;go_wp2_with fail;go_ret;exact⟨nV,ag⟩
  ·rw[decide_eq_false h] at hq ⊢;go_wp2_with fail;go_ret;exact⟨rfl,ag⟩
 ·have WR:¬(x.length:Int)<=(s.length:Int):=nQ;have HB:Hid (wI s x=false):=qh (by unfold wI;simp[hle]);rw[HB.out];go_enter Tryz.func17,Tryz.ntmps17;go_wp2_with fail;go_ret;exact⟨rfl,ag⟩
end
end Go.Proofs.YtpnnapeoanafdaaGreatDoor
