/- HeadmanAsked returns true for every input and leaves its arguments as they were. Condition: seven variables of the library start as its text lays them (card). -/
import Derived.Test.YtpnnapeoanafdaaGreatDoorTie
import Derived.Test.YtpnnapeoanafdaaGreatDoorCards
import Derived.SevenTiedAt
import Derived.Carry
import Derived.Test.YtpnnapeoanafdaaGreatDoorZ40
import Derived.Test.YtpnnapeoanafdaaGreatDoorZ58
set_option maxRecDepth 100000
set_option maxHeartbeats 40000000
set_option linter.unusedVariables false
set_option linter.unusedSimpArgs false
namespace Go.Proofs.YtpnnapeoanafdaaGreatDoor
open Go.RowKit
end Go.Proofs.YtpnnapeoanafdaaGreatDoor
namespace Go.Proofs.YtpnnapeoanafdaaGreatDoor.headmanAskedDone
open Go.ChangeShapes Go.WideShapes Go.ChangeAt Go.RowKit
open Hd
theorem lifted(os:Os)(started:os.Started)(H:Type)(enc:TypeId × Value->H):ReturnsInHanded {} Tryz.checked os 6 .any (fun w args=>(Rows.headmanAskedSpec.pre enc Tryz.prog Tryz.f6 [] false w args/\laidMetH Tryz.prog lW w)/\sizedMet enc Tryz.prog Tryz.f6 (OpenSpec.ofChange Rows.headmanAskedSpec) false w args) (Rows.headmanAskedSpec.post enc Tryz.prog Tryz.f6 false true false false):=by
 refine gL (C:=Tryz.checked) (X:=fun w _=>laidMetH Tryz.prog lW w) (fun _ _ _ hh h=>h.of_heap hh) own started (by kernel_rfl) Tryz.func6
  (ChangeSpec.witness_shaped (enc:=enc) (C:=Tryz.checked) (os:=os) (X:=fun w _=>laidMetH Tryz.prog lW w) false (World.laidAll Tryz.prog os lW) #[.agg #[.int .i64 0,.int .i64 0,.int .i64 0,.int .i64 0,.slice none 0 0,.slice none 0 0,.slice none 0 0,.int .i64 0,.slice none 0 0,.slice none 0 0,.slice none 0 0,.int .i64 0,.slice none 0 0,.slice none 0 0],.int .i64 0] 8 (World.laidAll_os _ _ _) (World.shaped_of_ZipB (by kernel_rfl) (by kernel_rfl)) (by kernel_rfl) (by kernel_rfl) (by kernel_rfl) (zi os _)) ?_
 intro W base args ds gs before sU hW _ hL hsh;have hval:∀(j:Nat) t v,Tryz.f6.params[j]?=some t->args[j]?=some v->Value.okWide Tryz.prog W .any base t v:=sU;have YX:=hW;obtain⟨p,q,SH,hV,rfl,hfz,hnd⟩:=hW;have hA:DataW.TrodAll enc Tryz.prog W 0 (fun _=>true) true Tryz.f6.params.toList args.toList ds p:=SH;rw[Tryz.params6] at hA hval;obtain⟨v0,vs0,d0,ds0,p0,q0,hargs,rfl,rfl,h0,r0⟩:=trodAll_cons hA;obtain⟨v1,vs1,d1,ds1,p1,q1,rfl,rfl,rfl,h1,r1⟩:=trodAll_cons r0;obtain⟨rfl,rfl,rfl⟩:=trodAll_nil r1;obtain rfl:args=#[v0,v1]:=by cases args;simp_all
 obtain⟨rfl,rfl⟩:=trodVars_none hV;have k0:=h0;have lt0:∀x∈p0,x.block<W.heap.size:=by obtain⟨m,hm⟩:=k0;exact DataW.trod_lt m _ _ _ hm
 obtain⟨r100,t100,rfl,N0⟩:=tK (hval 0 39 v0 rfl rfl) k0;have k1:=h1;have lt1:∀x∈p1,x.block<W.heap.size:=by obtain⟨m,hm⟩:=k1;exact DataW.trod_lt m _ _ _ hm
 obtain⟨a1,rfl,_,_,_⟩:=open_int Tryz.underlying3 (hval 1 3 v1 rfl rfl) k1;obtain⟨hT,Yz⟩:=pQ hL hsh;have h8:Le 8 W:=⟨Yz⟩;have hWW:Le W.heap.size W:=⟨Nat.le_refl _⟩;clear SH sU;refine(lawAsked_c r100 t100 a1 W.heap.size W N0 hT).mono fun e W' ⟨he,δ,hδ⟩=>?_;subst he;have bel:Below W.heap.size W W':=by rw[hδ];exact eI W δ
 exact⟨_,rfl,_,_,_,[],_,[],YX,trodAll_mk1 (shut_bool Tryz.underlying4 _),(trodAll_cons_mk (Below.trod laidOut (by kernel_rfl) (of_decide_eq_true (by kernel_rfl)) k0 bel lt0) (trodAll_cons_mk (Below.trod laidOut (by kernel_rfl) (of_decide_eq_true (by kernel_rfl)) k1 bel lt1) trodAll_mk0)),rfl,bel.frame _,fun h=>by cases h⟩
theorem j1:(Rows.headmanAskedRow.inPlace==Tryz.pinned.checked.prog.inPlace 6)=true:=by kernel_rfl
theorem j2:(Rows.headmanAskedRow.unfollowed==Tryz.pinned.checked.prog.unfollowed 6)=true:=by kernel_rfl
theorem j3:(Rows.headmanAskedRow.recurses==Tryz.pinned.checked.prog.recurses 6)=true:=by kernel_rfl
theorem j4:(Rows.headmanAskedRow.named==Tryz.pinned.checked.prog.varsNamed 6)=true:=by kernel_rfl
theorem closed:joinedFacts Tryz.pinned.checked.prog 6 Tryz.f6 Rows.headmanAskedSpec Rows.headmanAskedRow=true:=by unfold joinedFacts;rw[j1,j2,j3,j4];kernel_rfl
theorem over:Rows.headmanAskedRow.holds Tryz.pinned (OpenSpec.ofChange Rows.headmanAskedSpec):=
 OpenClaim.holds_of_wide 6 Tryz.f6 rfl rfl rfl rfl rfl rfl rfl ⟨rfl,rfl,rfl,rfl,rfl⟩ rfl rfl rfl rfl rfl (by kernel_rfl) Tryz.func6 closed
  (of_decide_eq_true (by kernel_rfl)) (by unfold Func.isWrapper;first|(rw[if_pos (by decide +kernel)];kernel_rfl)|(rw[if_neg (by decide +kernel)];exact⟨rfl,rfl⟩))
  (fun os started H enc _=>lifted os started H enc)
theorem m1:Rows.headmanAskedRow.wfByText (OpenSpec.ofChange Rows.headmanAskedSpec)=true:=by kernel_rfl
theorem m2:Tryz.pinned.checked.prog.mainIs=some (true,"feb794b36c9bb9b832ccbb6f33d8b113086c31e674a799c6ae85503cb71ddb55".toList):=by kernel_rfl
theorem m3:true=Tryz.pinned.checked.prog.looks []:=by kernel_rfl
theorem m4:false=Rows.headmanAskedRow.goesBy Tryz.pinned.checked.prog:=by kernel_rfl
theorem m5:Tryz.prog.funcNamed "almadraba/almadrabalaw12.HeadmanAsked" = some 6:=by kernel_rfl
theorem m6:([39,3].all fun u=>!Tryz.prog.wantsStandIn u)=true:=by kernel_rfl
theorem headmanAsked_holds:Rows.HeadmanAskedCardSaid:=
 Claim7.holds_tied_plain_at .later [] [.data,.data,.data,.data,.sentinel,.sentinel,.pinned] true (true,"feb794b36c9bb9b832ccbb6f33d8b113086c31e674a799c6ae85503cb71ddb55") true
  over (fun _ h=>by cases h) m1 (fun _ h=>by cases h) headmanAsked_row_tie rfl ⟨rfl,rfl⟩ m2 rfl
  (fun f fn hf hfn=>by
   obtain rfl:f=6:=Option.some.inj (m5.symm.trans hf) |>.symm
   obtain rfl:fn=Tryz.f6:=(Option.some.inj (Tryz.func6.symm.trans hfn)).symm
   exact⟨m3,fun j t ht=>by
    rw[Tryz.params6] at ht
    have hm:t∈[39,3]:=by simpa using Array.mem_of_getElem? ht
    exact(show Tryz.prog.wantsStandIn t=false by simpa using List.all_eq_true.1 m6 t hm)⟩)
  m4
#print axioms headmanAsked_holds
end Go.Proofs.YtpnnapeoanafdaaGreatDoor.headmanAskedDone
namespace Go.Proofs.YtpnnapeoanafdaaGreatDoor
end Go.Proofs.YtpnnapeoanafdaaGreatDoor
