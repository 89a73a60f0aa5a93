/- HeadmanRun: for every input the law returns true, and every argument reads behind the call as before. Condition: seven variables of Go's library start as its text lays them (tied by the card). -/
import Derived.Test.YtcjjlikhlmfedaaGreatDoorTie
import Derived.Test.YtcjjlikhlmfedaaGreatDoorCards
import Derived.SevenTiedAt
import Derived.Carry
import Derived.Test.YtcjjlikhlmfedaaGreatDoorZ32
import Derived.Test.YtcjjlikhlmfedaaGreatDoorZ33
set_option maxRecDepth 100000
set_option maxHeartbeats 40000000
set_option linter.unusedVariables false
set_option linter.unusedSimpArgs false
namespace Go.Proofs.YtcjjlikhlmfedaaGreatDoor
open Go.RowKit
end Go.Proofs.YtcjjlikhlmfedaaGreatDoor
namespace Go.Proofs.YtcjjlikhlmfedaaGreatDoor.headmanRunDone
open Go.ChangeShapes Go.WideShapes Go.ChangeAt Go.RowKit
open Hd
theorem lifted(os:Os)(started:os.Started)(H:Type)(enc:TypeId × Value->H):ReturnsInHanded {} Tryz.checked os 3 .any (fun w args=>(Rows.headmanRunSpec.pre enc Tryz.prog Tryz.f3 [] false w args/\laidMetH Tryz.prog xM w)/\sizedMet enc Tryz.prog Tryz.f3 (OpenSpec.ofChange Rows.headmanRunSpec) false w args) (Rows.headmanRunSpec.post enc Tryz.prog Tryz.f3 false true false false):=by
 refine rL (C:=Tryz.checked) (X:=fun w _=>laidMetH Tryz.prog xM w) (fun _ _ _ hh h=>h.of_heap hh) own started (by kernel_rfl) Tryz.func3
  (ChangeSpec.witness_shaped (enc:=enc) (C:=Tryz.checked) (os:=os) (X:=fun w _=>laidMetH Tryz.prog xM w) false (World.laidAll Tryz.prog os xM) #[.agg #[.int .i64 0,.int .i64 0,.int .i64 0,.int .i64 0,.slice none 0 0,.slice none 0 0,.slice none 0 0,.int .i64 0,.slice none 0 0,.slice none 0 0,.slice none 0 0,.int .i64 0,.slice none 0 0,.slice none 0 0],.slice none 0 0] 8 (World.laidAll_os _ _ _) (World.shaped_of_ZipB (by kernel_rfl) (by kernel_rfl)) (by kernel_rfl) (by kernel_rfl) (by kernel_rfl) (RF os _)) ?_
 intro W base args ds gs before R8 hW _ hL hsh;have hval:∀(j:Nat) t v,Tryz.f3.params[j]?=some t->args[j]?=some v->Value.okWide Tryz.prog W .any base t v:=R8;have hW':=hW;obtain⟨p,q,hA0,hV,rfl,hfz,hnd⟩:=hW;have hA:DataW.TrodAll enc Tryz.prog W 0 (fun _=>true) true Tryz.f3.params.toList args.toList ds p:=hA0;rw[Tryz.params3] at hA hval;obtain⟨v0,vs0,d0,ds0,p0,q0,hargs,rfl,rfl,h0,r0⟩:=trodAll_cons hA;obtain⟨v1,vs1,d1,ds1,p1,q1,rfl,rfl,rfl,h1,r1⟩:=trodAll_cons r0;obtain⟨rfl,rfl,rfl⟩:=trodAll_nil r1;obtain rfl:args=#[v0,v1]:=by cases args;simp_all
 obtain⟨rfl,rfl⟩:=trodVars_none hV;have k0:=h0;have lt0:∀x∈p0,x.block<W.heap.size:=by obtain⟨m,hm⟩:=k0;exact DataW.trod_lt m _ _ _ hm
 obtain⟨r100,t100,rfl,N0⟩:=Kb (hval 0 39 v0 rfl rfl) k0;have k1:=h1;have lt1:∀x∈p1,x.block<W.heap.size:=by obtain⟨m,hm⟩:=k1;exact DataW.trod_lt m _ _ _ hm
 obtain⟨A1,c1,l1,rfl,N1⟩:=Ka (hval 1 40 v1 rfl rfl) k1;obtain⟨hT,hs8⟩:=Dy hL hsh;have h8:Le 8 W:=⟨hs8⟩;have hWW:Le W.heap.size W:=⟨Nat.le_refl _⟩;clear hA0 R8;refine(GD r100 t100 A1 c1 l1 W.heap.size W N0 N1 hT).mono fun e W' ⟨he,δ,hδ⟩=>?_;subst he;have bel:Below W.heap.size W W':=by rw[hδ];exact fc W δ
 exact⟨_,rfl,_,_,_,[],_,[],hW',trodAll_mk1 (shut_bool Tryz.underlying4 _),(trodAll_cons_mk (Below.trod laidOut (by kernel_rfl) (of_decide_eq_true (by kernel_rfl)) k0 bel lt0) (trodAll_cons_mk (Below.trod laidOut (by kernel_rfl) (of_decide_eq_true (by kernel_rfl)) k1 bel lt1) trodAll_mk0)),rfl,bel.frame _,fun h=>by cases h⟩
theorem j1:(Rows.headmanRunRow.inPlace==Tryz.pinned.checked.prog.inPlace 3)=true:=by kernel_rfl
theorem j2:(Rows.headmanRunRow.unfollowed==Tryz.pinned.checked.prog.unfollowed 3)=true:=by kernel_rfl
theorem j3:(Rows.headmanRunRow.recurses==Tryz.pinned.checked.prog.recurses 3)=true:=by kernel_rfl
theorem j4:(Rows.headmanRunRow.named==Tryz.pinned.checked.prog.varsNamed 3)=true:=by kernel_rfl
theorem closed:joinedFacts Tryz.pinned.checked.prog 3 Tryz.f3 Rows.headmanRunSpec Rows.headmanRunRow=true:=by unfold joinedFacts;rw[j1,j2,j3,j4];kernel_rfl
theorem over:Rows.headmanRunRow.holds Tryz.pinned (OpenSpec.ofChange Rows.headmanRunSpec):=
 OpenClaim.holds_of_wide 3 Tryz.f3 rfl rfl rfl rfl rfl rfl rfl ⟨rfl,rfl,rfl,rfl,rfl⟩ rfl rfl rfl rfl rfl (by kernel_rfl) Tryz.func3 closed
  (of_decide_eq_true (by kernel_rfl)) (by unfold Func.isWrapper;first|(rw[if_pos (by decide +kernel)];kernel_rfl)|(rw[if_neg (by decide +kernel)];exact⟨rfl,rfl⟩))
  (fun os started H enc _=>lifted os started H enc)
theorem headmanRun_holds:Rows.HeadmanRunCardSaid:=
 Claim7.holds_tied_plain_at .later [] [.data,.data,.data,.data,.sentinel,.sentinel,.pinned] true (true,"075148fe45683faf4f2c64e63d9931dc4be8b7e512a84ee4d015d2b754fc1468") true
  over (fun _ h=>by cases h) (by kernel_rfl) (fun _ h=>by cases h) headmanRun_row_tie rfl ⟨rfl,rfl⟩ (by kernel_rfl) rfl
  (fun f fn hf hfn=>by
   obtain rfl:f=3:=Option.some.inj ((show Tryz.prog.funcNamed "almadraba/almadrabalaw12.HeadmanRun" = some 3 by kernel_rfl).symm.trans hf) |>.symm
   obtain rfl:fn=Tryz.f3:=(Option.some.inj (Tryz.func3.symm.trans hfn)).symm
   exact⟨by kernel_rfl,fun j t ht=>by
    rw[Tryz.params3] at ht
    have hm:t∈[39,40]:=by simpa using Array.mem_of_getElem? ht
    have hall:([39,40].all fun u=>!Tryz.prog.wantsStandIn u)=true:=by kernel_rfl
    exact(show Tryz.prog.wantsStandIn t=false by simpa using List.all_eq_true.1 hall t hm)⟩)
  (by kernel_rfl)
#print axioms headmanRun_holds
end Go.Proofs.YtcjjlikhlmfedaaGreatDoor.headmanRunDone
namespace Go.Proofs.YtcjjlikhlmfedaaGreatDoor
end Go.Proofs.YtcjjlikhlmfedaaGreatDoor
