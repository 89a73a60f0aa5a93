/- HeadmanWaits: for every input of at most 1048576 values and letters the law returns true, and every argument reads behind the call as before. Condition: seven variables of Go's library start as its text lays them (tied by the card). -/
import Derived.Test.YtdmedlkonaclnaaGreatDoorTie
import Derived.Test.YtdmedlkonaclnaaGreatDoorCards
import Derived.SevenTiedAt
import Derived.Carry
import Derived.Test.YtdmedlkonaclnaaGreatDoorZ47
import Derived.Test.YtdmedlkonaclnaaGreatDoorZ53
set_option maxRecDepth 100000
set_option maxHeartbeats 40000000
set_option linter.unusedVariables false
set_option linter.unusedSimpArgs false
namespace Go.Proofs.YtdmedlkonaclnaaGreatDoor
open Go.RowKit
end Go.Proofs.YtdmedlkonaclnaaGreatDoor
namespace Go.Proofs.YtdmedlkonaclnaaGreatDoor.headmanWaitsDone
open Go.ChangeShapes Go.WideShapes Go.ChangeAt Go.RowKit
open Hd
theorem lifted(os:Os)(started:os.Started)(H:Type)(enc:TypeId × Value->H)(F0:Stop.Interp):ReturnsInHanded {} Tryz.checked os 6 .any ((Rows.OpenSpec.upto Rows.headmanWaitsSpec).preRow enc Tryz.prog Tryz.f6 [] false vJ) (((Rows.OpenSpec.upto Rows.headmanWaitsSpec).at F0).post enc Tryz.prog Tryz.f6 false true false false):=by
 refine returnsInHanded_of_row (C:=Tryz.checked) (s:=Rows.OpenSpec.upto Rows.headmanWaitsSpec) own started (by kernel_rfl) Tryz.func6
  (qP (enc:=enc) (C:=Tryz.checked) (os:=os) (World.laidAll Tryz.prog os vJ) #[.agg #[.int .i64 0,.int .i64 0,.int .i64 0,.int .i64 0,.slice none 0 0,.slice none 0 0,.slice none 0 0,.int .i64 0,.slice none 0 0,.slice none 0 0,.slice none 0 0,.int .i64 0,.slice none 0 0,.slice none 0 0],.string ⟨#[]⟩,.slice none 0 0] (World.laidAll_os _ _ _) (World.shaped_of_ZipB (by kernel_rfl) (by kernel_rfl)) (by kernel_rfl) (zl 8 (by kernel_rfl) (by kernel_rfl) (Eh os _))) ?_
 intro W base args ds gs before xW hW _ GB _ hL hsh _;have rR:Rows.uptoSmall H (ds++gs)=true:=GB _ rfl;have hval:∀(j:Nat) t v,Tryz.f6.params[j]?=some t->args[j]?=some v->Value.okWide Tryz.prog W .any base t v:=xW;have VM:=hW;obtain⟨p,q,VN,hV,rfl,hfz,hnd⟩:=hW;have hA:DataW.TrodAll enc Tryz.prog W 0 (fun _=>true) true Tryz.f6.params.toList args.toList ds p:=VN;rw[Tryz.params6] at hA hval;obtain⟨v0,vs0,d0,ds0,p0,q0,hargs,rfl,rfl,h0,r0⟩:=trodAll_cons hA;obtain⟨v1,vs1,d1,ds1,p1,q1,rfl,rfl,rfl,h1,r1⟩:=trodAll_cons r0;obtain⟨v2,vs2,d2,ds2,p2,q2,rfl,rfl,rfl,h2,r2⟩:=trodAll_cons r1;obtain⟨rfl,rfl,rfl⟩:=trodAll_nil r2;obtain rfl:args=#[v0,v1,v2]:=by cases args;simp_all
 obtain⟨rfl,rfl⟩:=trodVars_none hV;have k0:=h0;have lt0:∀x∈p0,x.block<W.heap.size:=by obtain⟨m,hm⟩:=k0;exact DataW.trod_lt m _ _ _ hm
 obtain⟨r100,t100,rfl,N0⟩:=wW (hval 0 39 v0 rfl rfl) k0;have k1:=h1;have lt1:∀x∈p1,x.block<W.heap.size:=by obtain⟨m,hm⟩:=k1;exact DataW.trod_lt m _ _ _ hm
 obtain⟨t1,rfl,rfl⟩:=wX (hval 1 9 v1 rfl rfl) k1;have z1:t1.length<=1048576:=zc rR (by simp);have k2:=h2;have lt2:∀x∈p2,x.block<W.heap.size:=by obtain⟨m,hm⟩:=k2;exact DataW.trod_lt m _ _ _ hm
 obtain⟨A2,c2,l2,rfl,N2⟩:=Ck (hval 2 48 v2 rfl rfl) k2;obtain⟨hT,ZB⟩:=sK hL hsh;have h8:Le 8 W:=⟨ZB⟩;have hWW:Le W.heap.size W:=⟨Nat.le_refl _⟩;clear VN xW;refine(JM r100 t100 t1 z1 A2 c2 l2 W.heap.size W N0 N2 hT).mono fun e W' ⟨he,δ,hδ⟩=>?_;subst he;have bel:Below W.heap.size W W':=by rw[hδ];exact eS W δ
 exact⟨_,rfl,_,_,_,[],_,[],VM,trodAll_mk1 (shut_bool Tryz.underlying4 _),(trodAll_cons_mk (Below.trod laidOut (by kernel_rfl) (of_decide_eq_true (by kernel_rfl)) k0 bel lt0) (trodAll_cons_mk (Below.trod laidOut (by kernel_rfl) (of_decide_eq_true (by kernel_rfl)) k1 bel lt1) (trodAll_cons_mk (Below.trod laidOut (by kernel_rfl) (of_decide_eq_true (by kernel_rfl)) k2 bel lt2) trodAll_mk0))),rfl,bel.frame _,fun h=>by cases h⟩
theorem j1:(Rows.headmanWaitsUptoRow.inPlace==Tryz.pinned.checked.prog.inPlace 6)=true:=by kernel_rfl
theorem j2:(Rows.headmanWaitsUptoRow.unfollowed==Tryz.pinned.checked.prog.unfollowed 6)=true:=by kernel_rfl
theorem j3:(Rows.headmanWaitsUptoRow.recurses==Tryz.pinned.checked.prog.recurses 6)=true:=by kernel_rfl
theorem j4:(Rows.headmanWaitsUptoRow.named==Tryz.pinned.checked.prog.varsNamed 6)=true:=by kernel_rfl
theorem closed:joinedFacts Tryz.pinned.checked.prog 6 Tryz.f6 (Rows.OpenSpec.upto Rows.headmanWaitsSpec).bare Rows.headmanWaitsUptoRow=true:=by unfold joinedFacts;rw[j1,j2,j3,j4];kernel_rfl
theorem over:Rows.headmanWaitsUptoRow.holds Tryz.pinned (Rows.OpenSpec.upto Rows.headmanWaitsSpec):=
 OpenClaim.holds_of_cond 6 Tryz.f6 rfl rfl rfl rfl rfl rfl rfl ⟨rfl,rfl,rfl,rfl,rfl⟩ rfl rfl rfl rfl rfl (by kernel_rfl) Tryz.func6 closed
  (of_decide_eq_true (by kernel_rfl)) (by unfold Func.isWrapper;first|(rw[if_pos (by decide +kernel)];kernel_rfl)|(rw[if_neg (by decide +kernel)];exact⟨rfl,rfl⟩))
  (fun os started H enc _ F0=>by rw[OpenClaim.pre_eq_preRow];exact lifted os started H enc F0)
theorem m1:Rows.headmanWaitsUptoRow.wfByText (Rows.OpenSpec.upto Rows.headmanWaitsSpec)=true:=by kernel_rfl
theorem m2:Tryz.pinned.checked.prog.mainIs=some (true,"ef5e96bebb614ba120923d8dc0fa37978fc061b3d9ed06084c34179698472157".toList):=by kernel_rfl
theorem m3:true=Tryz.pinned.checked.prog.looks []:=by kernel_rfl
theorem m4:false=Rows.headmanWaitsUptoRow.goesBy Tryz.pinned.checked.prog:=by kernel_rfl
theorem m5:Tryz.prog.funcNamed "almadraba/almadrabalaw12.HeadmanWaits" = some 6:=by kernel_rfl
theorem m6:([39,9,48].all fun u=>!Tryz.prog.wantsStandIn u)=true:=by kernel_rfl
theorem headmanWaits_holds:Rows.HeadmanWaitsUptoCardSaid:=
 Claim7.holds_tied_plain_at .later [] [.data,.data,.data,.data,.sentinel,.sentinel,.pinned] true (true,"ef5e96bebb614ba120923d8dc0fa37978fc061b3d9ed06084c34179698472157") true
  over (fun _ h=>by cases h) m1 (fun _ h=>by cases h) headmanWaitsUpto_row_tie rfl ⟨rfl,rfl⟩ m2 rfl
  (fun f fn hf hfn=>by
   obtain rfl:f=6:=Option.some.inj (m5.symm.trans hf) |>.symm
   obtain rfl:fn=Tryz.f6:=(Option.some.inj (Tryz.func6.symm.trans hfn)).symm
   exact⟨m3,fun j t ht=>by
    rw[Tryz.params6] at ht
    have hm:t∈[39,9,48]:=by simpa using Array.mem_of_getElem? ht
    exact(show Tryz.prog.wantsStandIn t=false by simpa using List.all_eq_true.1 m6 t hm)⟩)
  m4
#print axioms headmanWaits_holds
end Go.Proofs.YtdmedlkonaclnaaGreatDoor.headmanWaitsDone
namespace Go.Proofs.YtdmedlkonaclnaaGreatDoor
end Go.Proofs.YtdmedlkonaclnaaGreatDoor
