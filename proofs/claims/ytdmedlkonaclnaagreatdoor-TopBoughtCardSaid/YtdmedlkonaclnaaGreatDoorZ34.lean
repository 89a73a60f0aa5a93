/- A part of the proof that a law of layer 12 holds, cut small by a program (names and blanks): Hk1. -/
import Derived.Test.YtdmedlkonaclnaaGreatDoorZ33
set_option maxRecDepth 100000
set_option maxHeartbeats 40000000
set_option linter.unusedVariables false
set_option linter.unusedSimpArgs false
namespace Go.Proofs.YtdmedlkonaclnaaGreatDoor
open Go.RowKit
open Go.Proofs.Tryz renaming prog → nH
open Go renaming World → nJ, Value → nK
section
open Hd
def kP(t:aW)(ls:List bz)(w:nJ)(e:Ending)(w':nJ):Prop:=∃(b:Bool) (δ:nJ),e=.returned (.bool b)/\w'=af w δ/\(b=true->Ib t ls/\aG t=true/\ls.length<=30)
theorem zn{t:aW}{ls:List bz}{w W:nJ}(h:∃δ,W=af w δ):kP t ls w (.returned (.bool false)) W:=by obtain⟨δ,rfl⟩:=h;exact⟨false,δ,rfl,rfl,fun h=>by cases h⟩
theorem MB{t:aW}{ls:List bz}{w W:nJ}(h:∃δ,W=af w δ)(ho:Ib t ls/\aG t=true/\ls.length<=30):kP t ls w (.returned (.bool true)) W:=by obtain⟨δ,rfl⟩:=h;exact⟨true,δ,rfl,rfl,fun _=>ho⟩
theorem qn(r:aQ)(t:aW)(ls:List bz)(A:Option Addr)(c:Nat)(B:Nat)(w:nJ)(hT:aJ B w r t)(hS:Sl aX B w A c ls)[hB:Le B w]:Calls nH 22 #[aO r t,.slice A ls.length c] w (kP t ls w):=by
 have H:=qh hT;have HS:=qh hS;clear hT hS;go_enter Tryz.func22,Tryz.ntmps22;go_upto_region 1 with fail;refine aL fun W1 aH=>?_;obtain⟨cJ,dF,cU,dA,dD⟩:=Au B w aH;have X1:Hid (ax W1 w.heap.size 39 (aE r t)):=by rw[aH.out];exact qh (ax.new rfl)
 clear aH;go_wp2_with (refine av ai rfl _ rfl rfl X1.out rfl ?_);refine(QM r t ls A c B _ H.out.up HS.out.up).mono ?_;rintro e w1 ⟨b,δ1,rfl,rfl,hf⟩;cases b with
 |true=>
  clear hf
  go_wp2_with fail
  go_ret
  exact zn ag
 |false=>
  have OO:=qh (hf rfl)
  clear hf
  rcases hv:aG t with _|_
  ·have HV:=qh (show cC (aG t) 120=120 by rw[hv];rfl);clear hv;go_wp2_with (first|(refine aT ai nY _ rfl rfl (ax.dM X1.out) rfl ?_)|(go_at_call 9;refine(ct r t B _ H.out.up).mono ?_;rw[HV.out];rintro e w1 ⟨rfl,δ2,rfl⟩));go_ret;exact zn ag
  ·have Mc:=qh hv;have HV:=qh (show cC (aG t) 120=0 by rw[hv];rfl);clear hv;by_cases hl:ls.length<=30
   ·have YI:(ls.length:Int)<=30:=nQ;go_wp2_with (first|(refine aT ai nY _ rfl rfl (ax.dM X1.out) rfl ?_)|(go_at_call 9;refine(ct r t B _ H.out.up).mono ?_;rw[HV.out];rintro e w1 ⟨rfl,δ2,rfl⟩));go_ret;exact MB ag ⟨OO.out,Mc.out,hl⟩
   ·have YI:¬(ls.length:Int)<=30:=nQ;have hld:decide ((ls.length:Int)<=30)=false:=decide_eq_false YI;go_wp2_with (first|(refine aT ai nY _ rfl rfl (ax.dM X1.out) rfl ?_)|(go_at_call 9;refine(ct r t B _ H.out.up).mono ?_;rw[HV.out];rintro e w1 ⟨rfl,δ2,rfl⟩));go_ret;exact zn ag
theorem JJ{B:Nat}{w:nJ}{v:nK}{x:tC}(h:mF B w v x):∃a b c d e f g i,v=.agg #[.int .i64 (lG x),a,b,c,d,e,f,g,i]:=by
 cases x with
 |none=>exact⟨_,_,_,_,_,_,_,_,h⟩
 |cmd c=>obtain⟨A,cap,h1,_⟩:=h;exact⟨_,_,_,_,_,_,_,_,h1⟩
 |ord q s n c=>obtain⟨A,cap,A',cap',h1,_⟩:=h;exact⟨_,_,_,_,_,_,_,_,h1⟩
theorem PF(a b c d e f g i:nK)(n:Int)(W:nJ):(Instr.field 68 (.agg #[.int .i64 n,a,b,c,d,e,f,g,i]) 0).run nH W=.ok (.int .i64 n) W:=by kernel_rfl
theorem qD(l:bz)(hl:l.length<=1048576)(k:Int)(hk:lG (bK l)=k)(w:nJ):Calls nH 21 #[.string (str l)] w fun e w'=>e=.returned (.int .i64 k)/\∃δ,w'=af w δ:=by subst hk;have XF:=PF;go_enter Tryz.func21,Tryz.ntmps21;go_wp2_with fail;refine(Fp l hl _).mono ?_;unfold fR;rintro e w1 ⟨v,δ,rfl,rfl,hv⟩;obtain⟨a,b,c,d,f,g,i,j,rfl⟩:=JJ hv;clear hv;go_wp2_with fail;go_ret;exact⟨rfl,ag⟩
theorem zW(l:bz)(hl:l.length<=1000)(k:Int)(hk:lG (bK l)=k)(w:nJ):Calls nH 21 #[.string (str l)] w fun e w'=>e=.returned (.int .i64 k)/\∃δ,w'=af w δ:=qD l nQ k hk w
end
end Go.Proofs.YtdmedlkonaclnaaGreatDoor
