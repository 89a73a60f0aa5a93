/- TopBought: for every input the law returns true, and every argument reads behind the call as before. Condition: seven variables of Go's library start as its text lays them (tied by the card). -/
import Derived.Test.YtdmedlkonaclnaaGreatDoorTie
import Derived.Test.YtdmedlkonaclnaaGreatDoorCards
import Derived.SevenTiedAt
import Derived.Carry
import Derived.Test.YtdmedlkonaclnaaGreatDoorZ57
import Derived.Test.YtdmedlkonaclnaaGreatDoorZ58
set_option maxRecDepth 100000
set_option maxHeartbeats 40000000
set_option linter.unusedVariables false
set_option linter.unusedSimpArgs false
namespace Go.Proofs.YtdmedlkonaclnaaGreatDoor
open Go.RowKit
end Go.Proofs.YtdmedlkonaclnaaGreatDoor
namespace Go.Proofs.YtdmedlkonaclnaaGreatDoor.topBoughtDone
open Go.ChangeShapes Go.WideShapes Go.ChangeAt Go.RowKit
open Hd
theorem lifted(os:Os)(started:os.Started)(H:Type)(enc:TypeId × Value->H):ReturnsInHanded {} Tryz.checked os 7 .any (fun w args=>(Rows.topBoughtSpec.pre enc Tryz.prog Tryz.f7 [] false w args/\laidMetH Tryz.prog vJ w)/\sizedMet enc Tryz.prog Tryz.f7 (OpenSpec.ofChange Rows.topBoughtSpec) false w args) (Rows.topBoughtSpec.post enc Tryz.prog Tryz.f7 false true false false):=by
 refine ab6 (C:=Tryz.checked) (X:=fun w _=>laidMetH Tryz.prog vJ w) (fun _ _ _ hh h=>h.of_heap hh) own started (by kernel_rfl) Tryz.func7
  (ChangeSpec.witness_shaped (enc:=enc) (C:=Tryz.checked) (os:=os) (X:=fun w _=>laidMetH Tryz.prog vJ w) false (World.laidAll Tryz.prog os vJ) #[.agg #[.int .i64 0,.int .i64 0,.int .i64 0,.int .i64 0,.slice none 0 0,.slice none 0 0,.slice none 0 0,.int .i64 0,.slice none 0 0,.slice none 0 0,.slice none 0 0,.int .i64 0,.slice none 0 0,.slice none 0 0],.agg #[.int .i64 0,.int .i64 0]] 8 (World.laidAll_os _ _ _) (World.shaped_of_ZipB (by kernel_rfl) (by kernel_rfl)) (by kernel_rfl) (by kernel_rfl) (by kernel_rfl) (Eh os _)) ?_
 intro W base args ds gs before xW hW _ hL hsh;have hval:∀(j:Nat) t v,Tryz.f7.params[j]?=some t->args[j]?=some v->Value.okWide Tryz.prog W .any base t v:=xW;have VM:=hW;obtain⟨p,q,VN,hV,rfl,hfz,hnd⟩:=hW;have hA:DataW.TrodAll enc Tryz.prog W 0 (fun _=>true) true Tryz.f7.params.toList args.toList ds p:=VN;rw[Tryz.params7] at hA hval;obtain⟨v0,vs0,d0,ds0,p0,q0,hargs,rfl,rfl,h0,r0⟩:=trodAll_cons hA;obtain⟨v1,vs1,d1,ds1,p1,q1,rfl,rfl,rfl,h1,r1⟩:=trodAll_cons r0;obtain⟨rfl,rfl,rfl⟩:=trodAll_nil r1;obtain rfl:args=#[v0,v1]:=by cases args;simp_all
 obtain⟨rfl,rfl⟩:=trodVars_none hV;have k0:=h0;have lt0:∀x∈p0,x.block<W.heap.size:=by obtain⟨m,hm⟩:=k0;exact DataW.trod_lt m _ _ _ hm
 obtain⟨r100,t100,rfl,N0⟩:=wW (hval 0 39 v0 rfl rfl) k0;have k1:=h1;have lt1:∀x∈p1,x.block<W.heap.size:=by obtain⟨m,hm⟩:=k1;exact DataW.trod_lt m _ _ _ hm
 obtain⟨a1,b1,rfl⟩:=ab7 (hval 1 74 v1 rfl rfl) k1;obtain⟨hT,ZB⟩:=sK hL hsh;have h8:Le 8 W:=⟨ZB⟩;have hWW:Le W.heap.size W:=⟨Nat.le_refl _⟩;clear VN xW;refine(ab0 r100 t100 ⟨a1,b1⟩ W.heap.size W N0 hT).mono fun e W' ⟨he,δ,hδ⟩=>?_;subst he;have bel:Below W.heap.size W W':=by rw[hδ];exact eS W δ
 exact⟨_,rfl,_,_,_,[],_,[],VM,trodAll_mk1 (shut_bool Tryz.underlying4 _),(trodAll_cons_mk (Below.trod laidOut (by kernel_rfl) (of_decide_eq_true (by kernel_rfl)) k0 bel lt0) (trodAll_cons_mk (Below.trod laidOut (by kernel_rfl) (of_decide_eq_true (by kernel_rfl)) k1 bel lt1) trodAll_mk0)),rfl,bel.frame _,fun h=>by cases h⟩
theorem j1:(Rows.topBoughtRow.inPlace==Tryz.pinned.checked.prog.inPlace 7)=true:=by kernel_rfl
theorem j2:(Rows.topBoughtRow.unfollowed==Tryz.pinned.checked.prog.unfollowed 7)=true:=by kernel_rfl
theorem j3:(Rows.topBoughtRow.recurses==Tryz.pinned.checked.prog.recurses 7)=true:=by kernel_rfl
theorem j4:(Rows.topBoughtRow.named==Tryz.pinned.checked.prog.varsNamed 7)=true:=by kernel_rfl
theorem closed:joinedFacts Tryz.pinned.checked.prog 7 Tryz.f7 Rows.topBoughtSpec Rows.topBoughtRow=true:=by unfold joinedFacts;rw[j1,j2,j3,j4];kernel_rfl
theorem over:Rows.topBoughtRow.holds Tryz.pinned (OpenSpec.ofChange Rows.topBoughtSpec):=
 OpenClaim.holds_of_wide 7 Tryz.f7 rfl rfl rfl rfl rfl rfl rfl ⟨rfl,rfl,rfl,rfl,rfl⟩ rfl rfl rfl rfl rfl (by kernel_rfl) Tryz.func7 closed
  (of_decide_eq_true (by kernel_rfl)) (by unfold Func.isWrapper;first|(rw[if_pos (by decide +kernel)];kernel_rfl)|(rw[if_neg (by decide +kernel)];exact⟨rfl,rfl⟩))
  (fun os started H enc _=>lifted os started H enc)
theorem m1:Rows.topBoughtRow.wfByText (OpenSpec.ofChange Rows.topBoughtSpec)=true:=by kernel_rfl
theorem m2:Tryz.pinned.checked.prog.mainIs=some (true,"ef5e96bebb614ba120923d8dc0fa37978fc061b3d9ed06084c34179698472157".toList):=by kernel_rfl
theorem m3:true=Tryz.pinned.checked.prog.looks []:=by kernel_rfl
theorem m4:false=Rows.topBoughtRow.goesBy Tryz.pinned.checked.prog:=by kernel_rfl
theorem m5:Tryz.prog.funcNamed "almadraba/almadrabatop.TopBought" = some 7:=by kernel_rfl
theorem m6:([39,74].all fun u=>!Tryz.prog.wantsStandIn u)=true:=by kernel_rfl
theorem topBought_holds:Rows.TopBoughtCardSaid:=
 Claim7.holds_tied_plain_at .later [] [.data,.data,.data,.data,.sentinel,.sentinel,.pinned] true (true,"ef5e96bebb614ba120923d8dc0fa37978fc061b3d9ed06084c34179698472157") true
  over (fun _ h=>by cases h) m1 (fun _ h=>by cases h) topBought_row_tie rfl ⟨rfl,rfl⟩ m2 rfl
  (fun f fn hf hfn=>by
   obtain rfl:f=7:=Option.some.inj (m5.symm.trans hf) |>.symm
   obtain rfl:fn=Tryz.f7:=(Option.some.inj (Tryz.func7.symm.trans hfn)).symm
   exact⟨m3,fun j t ht=>by
    rw[Tryz.params7] at ht
    have hm:t∈[39,74]:=by simpa using Array.mem_of_getElem? ht
    exact(show Tryz.prog.wantsStandIn t=false by simpa using List.all_eq_true.1 m6 t hm)⟩)
  m4
#print axioms topBought_holds
end Go.Proofs.YtdmedlkonaclnaaGreatDoor.topBoughtDone
namespace Go.Proofs.YtdmedlkonaclnaaGreatDoor
end Go.Proofs.YtdmedlkonaclnaaGreatDoor
