/- A part of the proof that a law of layer 12 holds, cut small by a program (names and blanks): Hm2, Hm3, Hm4. -/
import Derived.Outline
import Derived.Deep.DeepCutAuto
import Derived.OrdersIn
import Derived.Test.YtpnnapeoanafdaaGreatDoorZ7
set_option maxRecDepth 100000
set_option maxHeartbeats 40000000
set_option linter.unusedVariables false
set_option linter.unusedSimpArgs false
namespace Go.Proofs.YtpnnapeoanafdaaGreatDoor
open Go.RowKit
open Nat renaming le_trans → nT, lt_of_lt_of_le → nL, le_refl → nR, zero_le → nE
open Go.Proofs.Tryz renaming prog → nH
open Go renaming World → nJ, Value → nK
section
open Me
theorem bI.aF{S:Nat->Prop}{A B:nJ}{B0:Nat}{r:cx}{n:Net}(h:bI S A B)(hN:bL B0 A r n)(hB:B0<=A.heap.size)(hs:∀b,S b->B0<=b):bL B0 B r n:=⟨h.Uw hN.1 hB hs,h.Uw hN.2 hB hs⟩
def tV(S:Nat->Prop)(L:List (List Int))(pre:List (List Int))(J Jx:List (List Int)->nJ->Prop)(W:nJ)(b:Bool)(W':nJ):Prop:=
 bI S W W'/\(b=true->J (pre++L) W')/\(b=false->∃q,q <+: L/\q≠[]/\Jx (pre++q) W')
def zj(P:Program)(lo:Nat)(S:Nat->Prop)(L:List (List Int))(l:Nat)(J Jx:List (List Int)->nJ->Prop):Prop:=
 ∀(m:Nat) (pre:List (List Int)) (x:List Int) (v:nK) (W:nJ),pre++[x] <+: L->J pre W->I1 lo v x W ->
  YieldAt Fence.wide m P l #[v] W fun e W'=>∃b,e=.returned (.bool b)/\tV S [x] pre J Jx W b W'
structure Env(B bp by_ bm l:Nat)(r:cx)(n:Net)(W:nJ):Prop where
 aF:bL B W r n
 le:B<=W.heap.size
 p0:W.cell? ⟨bp,0,none⟩=some (.int .i64 n.m)
 p1:W.cell? ⟨bp,1,none⟩=some (.slice r.hA n.hs.length r.hc)
 p2:W.cell? ⟨bp,2,none⟩=some (.slice r.pA n.ps.length r.pc)
 y:W.cell? ⟨by_,0,none⟩=some (.func (.yield l) #[] #[])
 m:W.cell? ⟨bm,0,none⟩=some (.func (.func 220) #[] #[.pointer (some ⟨bp,0,none⟩),.pointer (some ⟨by_,0,none⟩),.pointer (some ⟨bm,0,none⟩)])
 lp:bp<W.heap.size
 ly:by_<W.heap.size
 lm:bm<W.heap.size
theorem Env.eN{S:Nat->Prop}{B bp by_ bm l:Nat}{r:cx}{n:Net}{W W':nJ}(h:Env B bp by_ bm l r n W)(k:bI S W W')(hs:∀b,S b->B<=b/\b≠bp/\b≠by_/\b≠bm):Env B bp by_ bm l r n W':=
 ⟨k.aF h.aF h.le (fun b hb=>(hs b hb).1),nT h.le k.size,(k.cell h.lp (fun hc=>(hs _ hc).2.1 rfl)).trans h.p0,(k.cell h.lp (fun hc=>(hs _ hc).2.1 rfl)).trans h.p1,(k.cell h.lp (fun hc=>(hs _ hc).2.1 rfl)).trans h.p2,
  (k.cell h.ly (fun hc=>(hs _ hc).2.2.1 rfl)).trans h.y,(k.cell h.lm (fun hc=>(hs _ hc).2.2.2 rfl)).trans h.m,nL h.lp k.size,nL h.ly k.size,nL h.lm k.size⟩
section
attribute[local go_sem] Oper.semAt_some
theorem Vc(n:Net)(r:cx)(B bp by_ bm lo:Nat)(S:Nat->Prop)(L:List (List Int))(lp:Nat)(J Jx:List (List Int)->nJ->Prop)(hY:zj nH lo S L lp J Jx)(l:List Int)(v:nK)(pre:List (List Int))(W:nJ)(hE:Env B bp by_ bm lp r n W)(hl:I1 lo v l W)(hn:l.length=n.hs.length)(hL:pre++az n 0 l <+: L)(hJ:J pre W):Calls nH 220 #[v,.pointer (some ⟨bp,0,none⟩),.pointer (some ⟨by_,0,none⟩),.pointer (some ⟨bm,0,none⟩)] W fun e W'=>∃b,e=.returned (.bool b)/\tV S (az n 0 l) pre J Jx W b W':=by
 refine(callsIn_wide (n:=3)).1 ?_;obtain⟨fn,tmps,assign,body,hy,hR⟩:=hY 2 pre l v W hL hJ hl;obtain⟨A,c,rfl,hS,hlo⟩:=hl;have e1:=hE.p1;have e2:=hE.y;have h0:((l.length:Int)==(n.hs.length:Int))=true:=by simp[hn]
 have VI:=hS.len;clear hn;refine callsIn_of_wp Tryz.func220 rfl trivial ?_ rfl;simp only[Tryz.ntmps220,List.size_toArray,List.length_cons,List.length_nil,Nat.reduceAdd,Nat.reduceSub,Array.replicate_succ,Array.replicate_zero,List.push_toArray,List.append_toArray,List.nil_append,List.cons_append];gi_wp2_with (refine hR.mono ?_;clear hR;rintro e W2 ⟨b,rfl,hP⟩);go_ret;exact⟨b,rfl,hP⟩
end
def p7(n:Net)(k:Nat)(l:List Int)(i:Nat):List (List Int):=(List.range i).flatMap fun(i:Nat)=>if may n l (i:Int)=true then az n k (l++[(i:Int)]) else[]
theorem Gy(n:Net)(k:Nat)(l:List Int)(i:Nat):p7 n k l (i+1)=p7 n k l i++if may n l (i:Int)=true then az n k (l++[(i:Int)]) else[]:=by unfold p7;rw[List.range_succ,List.flatMap_append];simp
theorem Ko(n:Net)(k:Nat)(l:List Int){i:Nat}(h:i<=n.hs.length):p7 n k l i <+: az n (k+1) l:=by obtain⟨m,hm⟩:∃m,n.hs.length=i+m:=⟨n.hs.length-i,nQ⟩;unfold az p7;rw[hm,List.range_add,List.flatMap_append];exact List.prefix_append _ _
theorem Vd(n:Net)(r:cx)(B bp by_ bm lo:Nat)(S:Nat->Prop)(hS:∀b,S b->B<=b/\b≠bp/\b≠by_/\b≠bm/\b<lo)(L:List (List Int))(lp:Nat)(J Jx:List (List Int)->nJ->Prop)(Lb:DF J)(xD:DF Jx)(hY:zj nH lo S L lp J Jx)(h6:n.hs.length<=6):∀(k:Nat) (l:List Int) (v:nK) (pre:List (List Int)) (W:nJ),Env B bp by_ bm lp r n W->lo<=W.heap.size->I1 lo v l W->l.length+k=n.hs.length->pre++az n k l <+: L->J pre W->Calls nH 220 #[v,.pointer (some ⟨bp,0,none⟩),.pointer (some ⟨by_,0,none⟩),.pointer (some ⟨bm,0,none⟩)] W fun e W'=>∃b,e=.returned (.bool b)/\tV S (az n k l) pre J Jx W b W':=by
 intro k;induction k with
 |zero=>intro l v pre W hE _ hl hn hL hJ;exact Vc n r B bp by_ bm lo S L lp J Jx hY l v pre W hE hl (by simpa using hn) hL hJ
 |succ k IH=>
  intro l v pre W hE adx hl hn hL hJ
  obtain⟨A,c,rfl,Jh,hlo⟩:=hl
  have e1:=hE.p1
  have h0:((l.length:Int)==(n.hs.length:Int))=false:=by simp;omega
  have VI:=Jh.len
  have hkc:l.length<=c:=Jh.1
  have Ww:=qh IH
  have HE:=qh hE
  have HS:=qh hS
  have HJ:=qh Lb
  have HL:=qh hL
  have HLo:=qh hlo
  have Xe:=qh Jh
  have HN:=qh hn
  have HJ0:=qh hJ
  clear IH hE hS Lb hL hlo Jh hn hJ hY
  go_enter Tryz.func220,Tryz.ntmps220
  go_wp2_with fail
  go_loopw [21] (fun i wr=>∃j:Nat,j<=n.hs.length/\i=.int .i64 j/\Hid (J (pre++p7 n k l j) wr)/\bI S W wr) (fun i _=>n.hs.length-(intOf i).toNat)
  case atStart=>exact⟨0,nE _,rfl,by unfold Hid p7;simpa using HJ0.out,bI.refl _ _⟩
  case round=>
   obtain⟨j,hj,rfl,hJr,hK⟩:=hrel;have E1:=HE.out.eN hK (fun b hb=>⟨(HS.out b hb).1,(HS.out b hb).2.1,(HS.out b hb).2.2.1,(HS.out b hb).2.2.2.1⟩);have p0:=E1.p0;have p1:=E1.p1;have p2:=E1.p2;have pm:=E1.m;have i1:Lt bp wr:=⟨E1.lp⟩;have i2:Lt bm wr:=⟨E1.lm⟩;have i3:Le B wr:=⟨E1.le⟩;have i4:Lt by_ wr:=⟨E1.ly⟩;have S1:Sl aI wr.heap.size wr A c l:=(hK.sl Xe.out (nR _) (fun p hp hc=>by have:=(HS.out _ hc).2.2.2.2;have:=HLo.out p hp;omega)).more hK.size;have ZH:=qh E1;clear E1;by_cases hlt:j<n.hs.length
   ·have Hr:=qh (Gy n k l j);have hpre:=qh (Ko n k l hlt);by_cases h1:ke l (j:Int)=true
    ·have HM:=qh (show may n l (j:Int)=false by unfold may;rw[h1];rfl);have HI:=qh h1;clear h1;go_wp2_with (go_at_call 221;refine(rK _ _ _ l _ _ HI.out wr.heap.size _ S1 rfl).mono ?_;rintro e w1 ⟨rfl,rfl⟩);go_roundw
     case rel=>refine⟨j+1,hlt,by go_num,?_,hK⟩;unfold Hid;rw[Hr.out,HM.out];simpa using hJr.out
     case measure=>simp[intOf];omega
    ·rw[Bool.not_eq_true] at h1;have HI:=qh h1;by_cases h2:Q7 n.ps l (j:Int)=true
     ·have HM:=qh (show may n l (j:Int)=true by unfold may;rw[h1,h2];rfl);have HR:=qh h2;clear h1 h2;have hcI:(l.length:Int)<=(c:Int):=nQ;have hl0:(0:Int)<=(l.length:Int):=nQ;have Pk:l.length<=6:=by have:=HN.out;omega
      have aaT:lo<=wr.heap.size:=nT adx hK.size;have aaK:Hid ((pre++p7 n k l j)++az n k (l++[(j:Int)]) <+: L):=by refine List.IsPrefix.trans ?_ HL.out;rw[List.append_assoc];refine(List.prefix_append_right_inj _).2 ?_;have:=Hr.out;rw[HM.out,if_pos rfl] at this;rw[<-this];exact hpre.out
      go_wp2_with (first|(go_at_call 221;refine(rK _ _ _ l _ _ HI.out wr.heap.size _ S1 rfl).mono ?_;rintro e w1 ⟨rfl,rfl⟩)|(go_at_call 222;refine(Ms r n _ _ _ _ l _ HR.out wr.heap.size _ S1 (ZH.out.aF.more ZH.out.le) rfl).mono ?_;rintro e w1 ⟨rfl,δ,rfl⟩));go_goals
      go_region_held3 (fun W=>W.cell? ⟨bm,0,none⟩=some (.func (.func 220) #[] #[.pointer (some ⟨bp,0,none⟩),.pointer (some ⟨by_,0,none⟩),.pointer (some ⟨bm,0,none⟩)]))
       (go_simp)
       (first|(refine fQ wO (.tmp 40) (.tmp 42) rfl rfl A l.length (l.flatMap aI) rfl S1.WD (vT l) (Sl.holds S1.up) _ 1 1 [.int .i64 (j:Int)] rfl nQ rfl (Sv nW) (by simp[Value.oneCell']) nQ nQ ?_;intro A1 c1 δ1 eG)|(go_at_call 220;refine(Ww.out (l++[(j:Int)]) _ (pre++p7 n k l j) _ (ZH.out.eN (S:=fun _=>False) (bI.dI fj) (fun _ h=>h.elim)) (nT aaT (vU _ _)) (OX eG (nT aaT (vU _ _))) (by have:=HN.out;simp;omega) aaK.out (HJ.out _ _ _ hJr.out fj)).mono ?_;rintro e w1 ⟨b,rfl,hP⟩;have hbm:w1.cell? ⟨bm,0,none⟩=some (.func (.func 220) #[] #[.pointer (some ⟨bp,0,none⟩),.pointer (some ⟨by_,0,none⟩),.pointer (some ⟨bm,0,none⟩)]):=(hP.1.cell (b:=bm) (o:=0) nW (fun hc=>(HS.out bm hc).2.2.2.1 rfl)).trans nW))
      cases b
      ·go_wp2_with fail;go_ret;obtain⟨q,hq,T0,hx⟩:=hP.2.2 rfl;refine⟨false,rfl,hK.trans ((bI.dI (A:=wr) fj).trans hP.1),(fun h=>by cases h),fun _=>⟨p7 n k l j++q,?_,by simp[T0],by rw[<-List.append_assoc];exact hx⟩⟩;refine List.IsPrefix.trans ?_ hpre.out;rw[Hr.out,HM.out,if_pos rfl];exact(List.prefix_append_right_inj _).2 hq
      ·go_wp2_with fail;go_roundw
       case rel=>refine⟨j+1,hlt,by go_num,?_,hK.trans ((bI.dI (A:=wr) fj).trans hP.1)⟩;unfold Hid;rw[Hr.out,HM.out,if_pos rfl,<-List.append_assoc];exact hP.2.1 rfl
       case measure=>simp[intOf];omega
     ·rw[Bool.not_eq_true] at h2;have HM:=qh (show may n l (j:Int)=false by unfold may;rw[h2];simp);have HR:=qh h2;clear h1 h2;go_wp2_with (first|(go_at_call 221;refine(rK _ _ _ l _ _ HI.out wr.heap.size _ S1 rfl).mono ?_;rintro e w1 ⟨rfl,rfl⟩)|(go_at_call 222;refine(Ms r n _ _ _ _ l _ HR.out wr.heap.size _ S1 (ZH.out.aF.more ZH.out.le) rfl).mono ?_;rintro e w1 ⟨rfl,δ,rfl⟩));go_roundw
      case rel=>refine⟨j+1,hlt,by go_num,?_,hK.trans (bI.ah _ _ _)⟩;unfold Hid;rw[Hr.out,HM.out];simpa using HJ.out _ _ _ hJr.out (eI _ _)
      case measure=>simp[intOf];omega
   ·obtain rfl:j=n.hs.length:=by omega
    go_wp2_with fail;go_ret;refine⟨true,rfl,hK,fun _=>hJr.out,fun h=>by cases h⟩
end
section
open Me
open Go.Shelf
theorem Og(n:Net)(r:cx)(B bp:Nat)(S:Nat->Prop)(L:List (List Int))(lp:Nat)(J Jx:List (List Int)->nJ->Prop)(Lb:DF J)(xD:DF Jx)(W:nJ)(hY:zj nH W.heap.size S L lp J Jx)(hS:∀b,S b->B<=b/\b≠bp/\b<W.heap.size)(h6:n.hs.length<=6)(hN:bL B W r n)(hB:B<=W.heap.size)(BG:bp<W.heap.size)(c0:W.cell? ⟨bp,0,none⟩=some (.int .i64 n.m))(c1:W.cell? ⟨bp,1,none⟩=some (.slice r.hA n.hs.length r.hc))(c2:W.cell? ⟨bp,2,none⟩=some (.slice r.pA n.ps.length r.pc))(hL:gH n <+: L)(hJ:J [] W):Calls nH 219 #[.func (.yield lp) #[] #[],.pointer (some ⟨bp,0,none⟩)] W fun e W'=>∃v b,e=.returned v/\tV S (gH n) [] J Jx W b W':=by
 have i1:Lt bp W:=⟨BG⟩;have HN:=qh hN;have HS:=qh hS;have HL:=qh hL;have HJ:=qh hJ;have HY:=qh hY;have L9:=qh Lb;have TX:=qh xD;have i2:Le B W:=⟨hB⟩;clear hN hS hL hJ hY Lb xD;go_enter Tryz.func219,Tryz.ntmps219;go_wp2_with fail;refine(Vd n r B bp W.heap.size (W.heap.size+1) W.heap.size S (fun b hb=>⟨(HS.out b hb).1,(HS.out b hb).2.1,by have:=(HS.out b hb).2.2;omega,by have:=(HS.out b hb).2.2;omega,(HS.out b hb).2.2⟩) L lp J Jx L9.out TX.out HY.out h6 n.hs.length [] _ [] _ ?e ?lo ⟨none,0,rfl,Sl.none_,fun p hp=>by cases hp⟩ nV (show[]++az n n.hs.length [] <+: L from HL.out) ?j).mono ?post;case e=>exact⟨HN.out.up,vU _ _,nW,nW,nW,nW,nW,nW,nW,nW⟩
 case lo=>exact vU _ _
 case j=>exact L9.out _ _ _ HJ.out fj
 case post=>rintro e W' ⟨b,rfl,hP⟩;go_wp2_with fail;go_end0;exact⟨_,b,rfl,(bI.dI (A:=W) fj).trans hP.1,hP.2.1,hP.2.2⟩
theorem Gz(n:Net)(r:cx)(w:nJ):Calls nH 169 #[cH r n] w fun e w'=>e=.returned (.func (.func 219) #[] #[.pointer (some ⟨w.heap.size,0,none⟩)])/\w'=w.alloc (.cells #[.int .i64 n.m,.slice r.hA n.hs.length r.hc,.slice r.pA n.ps.length r.pc] 171):=by go_enter Tryz.func169,Tryz.ntmps169;go_wp2_with fail;go_ret;exact⟨rfl,rfl⟩
theorem Mc(n:Net)(r:cx)(B bp:Nat){g:Operand}{p:Tmp}{assign body:Code}{Q:Exit->Act->nJ->Prop}{a:Act}{w:nJ}(hg:a.eval g=.func (.func 219) #[] #[.pointer (some ⟨bp,0,none⟩)])(h6:n.hs.length<=6)(hN:bL B w r n)(hB:B<=w.heap.size)(BG:bp<w.heap.size)(c0:w.cell? ⟨bp,0,none⟩=some (.int .i64 n.m))(c1:w.cell? ⟨bp,1,none⟩=some (.slice r.hA n.hs.length r.hc))(c2:w.cell? ⟨bp,2,none⟩=some (.slice r.pA n.ps.length r.pc))(S:Nat->Prop)(hS:∀b,S b->B<=b/\b≠bp/\b<w.heap.size)(I:List (List Int)->nJ->Prop)(Ix:Code->List (List Int)->nJ->Prop)(hI:∀pre W W',I pre W->bI (BJ (fun _=>False) w.heap.size) W W'->I pre W')(hIx:∀c pre W W',Ix c pre W->bI (BJ (fun _=>False) w.heap.size) W W'->Ix c pre W')(h0:I [] w)(a₁:nK->Act)(hassign:∀(l m:Nat) (v:nK) (W:nJ) (K:Act->nJ->Prop),K (a₁ v) W->assign.wpIn (Fence.wide.inRound l) m nH (Exit.then K (fun _ _ _=>False)) { tmps:=(#[p].zip #[v]).foldl (fun t (p,v)=>t.setIfInBounds p v) a.tmps,defers:=[] } W)(hbody:∀(l m:Nat) (pre:List (List Int)) (x:List Int) (v:nK) (W:nJ),pre++[x] <+: gH n->I pre W->I1 (w.heap.size+2) v x W->bI (BJ S w.heap.size) w W->w.heap.size+2<=W.heap.size->body.wpIn (Fence.wide.inRound l) m nH (Rm S I Ix (pre++[x]) W) (a₁ v) W)(hdone:∀W,I (gH n) W->bI (BJ S w.heap.size) w W->W.heap[w.heap.size]?=some (.deferred (some []))->Q .normal { a with defers:={ target:=.collected w.heap.size,args:=#[] }::a.defers } W)(hstop:∀c pre W,pre <+: gH n->pre≠[]->Ix c pre W->bI (BJ S w.heap.size) w W->W.heap[w.heap.size]?=some (.deferred (some []))->c.wp nH Q { a with defers:={ target:=.collected w.heap.size,args:=#[] }::a.defers } W):(Code.rangeFunc g #[p] assign body).wp nH Q a w:=by
 refine(wpIn_wide (n:=3)).1 (wpIn_rangeFunc ?_);intro fn _;rw[show Fence.wide.round=none from rfl];obtain⟨rec,ru⟩:∃rec:LoopState->Option Code->Loop,rec=fun st pe=>{ state:=st,pending:=pe,fn,tmps:=a.tmps,params:=#[p],assign,body,defers:=w.heap.size }:=⟨_,rfl⟩;refine QFD ?_;intro D hD W1 aH hs1;have Y2:W1.heap[D+1]?=some (.loop (rec .ready none)):=by rw[<-aH,hD];have:=World.alloc_heap_new (w.alloc (.deferred (some []))) (.loop (rec .ready none));rwa [World.size_alloc] at this
 have hK1:W1.heap[D]?=some (.deferred (some [])):=by rw[<-aH,hD];exact(Below.heap_alloc _ _ _ nV).trans (World.alloc_heap_new w _)
 have hw1:Below w.heap.size w W1:=by rw[<-aH];exact((Below.refl _ w).alloc (nR _) _).alloc nV _
 rw[<-hD] at hS hI hIx hbody hdone hstop;have hT:∀b,BJ S D b->B<=b/\b≠bp/\b<W1.heap.size:=by
  rintro b (h|rfl|rfl)
  ·have:=hS b h;exact⟨this.1,this.2.1,nQ⟩
  ·exact⟨nQ,nQ,nQ⟩
  ·exact⟨nQ,nQ,nQ⟩
 have stay:∀ {k:Nat} {o:Obj} {W W':nJ},W.heap[k]?=some o->Below W.heap.size W W'->W'.heap[k]?=some o:=fun h hb=>(hb.block _ (Array.getElem?_eq_some_iff.1 h).1).trans h;obtain⟨J,hJ⟩:∃J:List (List Int)->nJ->Prop,J=fun pre W=>I pre W/\W.heap[D+1]?=some (.loop (rec .ready none))/\W.heap[D]?=some (.deferred (some []))/\bI (BJ S D) w W/\D+2<=W.heap.size:=⟨_,rfl⟩;obtain⟨Jx,Y3⟩:∃J:List (List Int)->nJ->Prop,J=fun pre W=>∃c,Ix c pre W/\W.heap[D+1]?=some (.loop (rec .done (some c)))/\W.heap[D]?=some (.deferred (some []))/\bI (BJ S D) w W/\D+2<=W.heap.size:=⟨_,rfl⟩;have Lb:DF J:=by subst hJ;rintro pre W W' ⟨k1,k2,k3,k4,k5⟩ hb;exact⟨hI _ _ _ k1 (.dI hb),stay k2 hb,stay k3 hb,k4.trans (.dI hb),nT k5 hb.size⟩
 have xD:DF Jx:=by subst Y3;rintro pre W W' ⟨c,k1,k2,k3,k4,k5⟩ hb;exact⟨c,hIx _ _ _ _ k1 (.dI hb),stay k2 hb,stay k3 hb,k4.trans (.dI hb),nT k5 hb.size⟩
 have hY:zj nH W1.heap.size (BJ S D) (gH n) (D+1) J Jx:=by
  subst hJ Y3;rintro m pre x v W hpre ⟨k1,k2,k3,k4,k5⟩ hl;rw[hs1] at hl;have hy:=run_yield (P:=nH) (args:=#[v]) k2 (by rw[ru];rfl);rw[ru] at hy;refine⟨fn,_,assign,body,hy,roundIn_of_wpIn trivial (hassign _ m v W _ ?_)⟩;refine⟨_,run_beginRound k2 (by rw[ru]),?_⟩;have hlt:D+1<W.heap.size:=nQ;have Pp:BJ (fun _=>False) D (D+1):=.inr (.inr rfl);have hTS:∀b,BJ (fun _=>False) D b->BJ S D b:=by rintro b (h|h);exact h.elim;exact .inr h
  have hkb:bI (BJ (fun _=>False) D) W (W.putObj (D+1) (.loop { rec .ready none with state:=.busy })):=(bI.refl _ _).putObj Pp _;refine QCY ?_;intro Fp hk2;refine wpIn_mono (hbody _ m pre x v _ hpre (hI _ _ _ k1 hkb) (hl.eN hkb (by rintro b (h|h|h);exact h.elim;omega;omega)) (k4.trans (hkb.mono hTS)) (by rw[World.putObj_size];exact k5)) ?_;have fin:∀(jump:Option Code) (W3:nJ),bI S (W.putObj (D+1) (.loop { rec .ready none with state:=.busy })) W3 ->
    (Instr.endRound (D+1) jump).run nH W3=.ok (.bool jump.isNone) (W3.putObj (D+1) (.loop (rec (if jump.isNone then .ready else .done) jump))) /\
    (W3.putObj (D+1) (.loop (rec (if jump.isNone then .ready else .done) jump))).heap[D+1]?=some (.loop (rec (if jump.isNone then .ready else .done) jump)) /\
    (W3.putObj (D+1) (.loop (rec (if jump.isNone then .ready else .done) jump))).heap[D]?=some (.deferred (some [])) /\
    bI (BJ (fun _=>False) D) W3 (W3.putObj (D+1) (.loop (rec (if jump.isNone then .ready else .done) jump)))/\bI (BJ S D) W (W3.putObj (D+1) (.loop (rec (if jump.isNone then .ready else .done) jump)))/\D+2<=(W3.putObj (D+1) (.loop (rec (if jump.isNone then .ready else .done) jump))).heap.size:=fun jump W3 sx=>by
   have hz:D+2<=W3.heap.size:=by have:=sx.size;rw[World.putObj_size] at this;omega
   have WS:=(sx.block (D+1) (by rw[World.putObj_size];omega) (fun hc=>by have:=hS _ hc;omega)).trans Fp
   have WU:=(sx.block D (by rw[World.putObj_size];omega) (fun hc=>by have:=hS _ hc;omega)).trans hk2
   have hrun:=run_endRound (P:=nH) jump WS
   have hend:bI (BJ (fun _=>False) D) W3 (W3.putObj (D+1) (.loop (rec (if jump.isNone then .ready else .done) jump))):=(bI.refl _ _).putObj Pp _
   refine⟨?_,World.putObj_heap_same nQ,(World.putObj_heap_other nQ).trans WU,hend,((hkb.mono hTS).trans (sx.mono fun b h=>.inl h)).trans (hend.mono hTS),by rw[World.putObj_size];exact hz⟩
   rw[ru] at hrun ⊢
   exact hrun
  rintro e a3 W3 hp;cases e with
  |normal=>
   obtain⟨sx,KY⟩:=hp
   obtain⟨hr,f1,f2,f3,f4,f5⟩:=fin none W3 sx
   refine⟨_,_,hr,true,rfl,f4,fun _=>?_,fun h=>by cases h⟩
   exact⟨hI _ _ _ KY f3,f1,f2,k4.trans f4,f5⟩
  |ret=>
   obtain⟨sx,KY⟩:=hp
   obtain⟨hr,f1,f2,f3,f4,f5⟩:=fin (some .ret) W3 sx
   refine⟨_,_,hr,false,rfl,f4,(fun h=>by cases h),fun _=>?_⟩
   exact⟨[x],List.prefix_refl _,nV,.ret,hIx _ _ _ _ KY f3,f1,f2,k4.trans f4,f5⟩
  |exit id=>
   obtain⟨sx,KY⟩:=hp
   obtain⟨hr,f1,f2,f3,f4,f5⟩:=fin (some (.exit id)) W3 sx
   refine⟨_,_,hr,false,rfl,f4,(fun h=>by cases h),fun _=>?_⟩
   exact⟨[x],List.prefix_refl _,nV,.exit id,hIx _ _ _ _ KY f3,f1,f2,k4.trans f4,f5⟩
  |goto t=>
   obtain⟨sx,KY⟩:=hp
   obtain⟨hr,f1,f2,f3,f4,f5⟩:=fin (some (.goto t)) W3 sx
   refine⟨_,_,hr,false,rfl,f4,(fun h=>by cases h),fun _=>?_⟩
   exact⟨[x],List.prefix_refl _,nV,.goto t,hIx _ _ _ _ KY f3,f1,f2,k4.trans f4,f5⟩
  |panic ch=>exact hp.elim
  |outgrown=>exact hp.elim
 have g1:Le w.heap.size W1:=⟨hw1.size⟩;have g2:aD w.heap.size w W1:=⟨Same.of hw1⟩;have hc:=fun o=>hw1.cell (p:=⟨bp,o,none⟩) BG;have YD:=Og n r B bp (BJ S D) (gH n) (D+1) J Jx Lb xD W1 hY hT h6 ((bI.dI hw1).aF (S:=fun _=>False) hN hB (fun _ h=>h.elim)) (by have:=hw1.size;omega) (by have:=hw1.size;omega) ((hc 0).trans c0) ((hc 1).trans c1) ((hc 2).trans c2) (List.prefix_refl _)
  (by subst hJ;exact⟨hI _ _ _ h0 (.dI hw1),Y2,hK1,.dI hw1,nQ⟩)
 refine⟨D+1,[{ target:=.collected w.heap.size,args:=#[] }],W1,{ target:=.fn (.func 219) #[.pointer (some ⟨bp,0,none⟩)],args:=#[.func (.yield (D+1)) #[] #[]] },W1,219,
  #[.func (.yield (D+1)) #[] #[]]++#[.pointer (some ⟨bp,0,none⟩)],W1,?_,?_,fun _ _=>trivial,?_,fun h=>(by simp[Fence.wide] at h),?_⟩
 ·rw[<-aH,ru,hD];exact run_enterLoop_outer _ _ _ _ _
 ·simp only[resolve,hg];simp[go_sem]
 ·simp[invoke,go_sem,enters_of Tryz.func219 nP rfl]
 ·refine callsIn_wide.2 (YD.mono ?_);rintro e W2 ⟨v,b,rfl,hK,ht,hf⟩;cases b with
  |true=>
   have:=ht rfl
   subst hJ
   obtain⟨k1,k2,k3,k4,k5⟩:=this
   have Pp:BJ (fun _=>False) D (D+1):=.inr (.inr rfl)
   have YY:BJ S D (D+1):=.inr (.inr rfl)
   refine⟨none,_,by have:=run_endLoop (P:=nH) k2 (by rw[ru];simp);rw[ru] at this;exact this,?_⟩
   rw[<-hD]
   exact hdone _ (hI _ _ _ k1 ((bI.refl _ _).putObj Pp _)) (k4.putObj YY _) ((World.putObj_heap_other nQ).trans k3)
  |false=>
   obtain⟨q,hq,T0,hx⟩:=hf rfl
   subst Y3
   obtain⟨c,k1,k2,k3,k4,k5⟩:=hx
   have Pp:BJ (fun _=>False) D (D+1):=.inr (.inr rfl)
   have YY:BJ S D (D+1):=.inr (.inr rfl)
   refine⟨some c,_,by have:=run_endLoop (P:=nH) k2 (by rw[ru];simp);rw[ru] at this;exact this,?_⟩
   rw[<-hD]
   exact wpIn_wide.2 (hstop c q _ hq T0 (hIx _ _ _ _ k1 ((bI.refl _ _).putObj Pp _)) (k4.putObj YY _) ((World.putObj_heap_other nQ).trans k3))
end
section
open Me
section
attribute[local go_sem] Oper.semAt_some
theorem Ye(r:cx)(n:Net)(h6:n.hs.length<=6)(B:Nat)(w:nJ)(hN:bL B w r n)[hB:Le B w]:Calls nH 168 #[cH r n] w fun e w'=>e=.returned (.bool (qd n))/\∃δ,w'=ah w δ:=by
 have HN:=qh hN;clear hN;refine o5 Tryz.func168 rfl ?_;simp only[Tryz.ntmps168,List.size_toArray,List.length_cons,List.length_nil,Nat.reduceAdd,Nat.reduceSub,Array.replicate_succ,Array.replicate_zero,List.push_toArray,List.append_toArray,List.nil_append,List.cons_append];go_wp2_with (go_at_call 169;refine(Gz n r _).mono ?_;rintro e w1 ⟨rfl,rfl⟩);refine aM fun W0 jR=>?_;obtain⟨cJ,dF,cW,di,dz,eL⟩:=VS B w jR;have jG:Lt (w.heap.size+1+1) W0:=nr jR;have lC:W0.cell? ⟨w.heap.size+1+1,0,none⟩=some (.int .i64 n.m):=by rw[jR.out];go_simp
 have mQ:W0.cell? ⟨w.heap.size+1+1,1,none⟩=some (.slice r.hA n.hs.length r.hc):=by rw[jR.out];go_simp
 have jI:W0.cell? ⟨w.heap.size+1+1,2,none⟩=some (.slice r.pA n.ps.length r.pc):=by rw[jR.out];go_simp
 have X0:ay W0 (w.heap.size+1) 4 #[.bool false]:=by rw[jR.out];exact(ay.new nV).alloc _
 have hz:W0.heap.size=w.heap.size+3:=by rw[jR.out];simp
 have HZ:=qh hz;have HX:=qh X0;have hBw:=hB.out;clear jR hz X0;refine Mc n r B (w.heap.size+1+1) rfl h6 HN.out.up (by have:=HZ.out;omega) (by have:=HZ.out;omega) nZ nZ nZ
  (fun b=>b=w.heap.size+1) (by rintro b rfl;have:=HZ.out;omega)
  (fun pre W=>pre=[]/\ay W (w.heap.size+1) 4 #[.bool false]) (fun c pre W=>c=.ret/\ay W (w.heap.size+1) 4 #[.bool true])
  (by rintro pre W W' ⟨h1,h2⟩ hk;exact⟨h1,h2.eN hk (zn (by have:=HZ.out;omega))⟩) (by rintro c pre W W' ⟨h1,h2⟩ hk;exact⟨h1,h2.eN hk (zn (by have:=HZ.out;omega))⟩)
  ⟨rfl,HX.out⟩ (fun v=>{ tmps:=#[cH r n,.pointer (some ⟨w.heap.size,0,none⟩),.pointer (some ⟨w.heap.size+1,0,none⟩),.agg #[.int .i64 n.m,.slice r.hA n.hs.length r.hc,.slice r.pA n.ps.length r.pc],.func (.func 219) #[] #[.pointer (some ⟨w.heap.size+1+1,0,none⟩)],v],defers:=[] }) ?assign ?body ?done ?stop
 case assign=>intro l m v W K hK;gi_wp2;simpa using hK
 case body=>rintro l m pre x v W hpre ⟨hp,hx⟩ hl hk hs;have h1:=hx.cell (i:=0) rfl;have h2:=hx.free 0;gi_wp2;exact⟨(bI.refl _ _).set (S:=fun b=>b=w.heap.size+1) rfl _ _,rfl,hx.set 0 _⟩
 case done=>
  rintro W ⟨hp,hx⟩ hk hD;have h1:=hx.cell (i:=0) rfl;have h2:=hx.free 0;have hlt:=hx.lt;have HK:=qh hk;have HD:=qh hD;have HP:=qh hp;clear hk hD hp;go_wp2_with fail;have hx2:ay ((W.setCell ⟨w.heap.size+1,0,none⟩ (.bool false)).putObj W0.heap.size (.deferred none)) (w.heap.size+1) 4 #[.bool false]:=(hx.set 0 (.bool false)).put (by have:=HZ.out;omega) _;have h3:=hx2.cell (i:=0) rfl;have e:qd n=false:=by unfold qd;rw[HP.out];rfl
  rw[e];refine oJ (v:=.bool false) ?_ ?_ ⟨rfl,fo ((HK.out.set (b:=w.heap.size+1) (.inl rfl) _ _).putObj (.inr (.inl rfl)) _) ?_⟩
  ·exact(Below.heap_setCell W ⟨w.heap.size+1,0,none⟩ _ _ (by have:=HZ.out;show W0.heap.size≠w.heap.size+1;omega)).trans HD.out
  ·simp only[results,Tryz.results168];go_simp
  ·rintro b (h|h|h)<;>(have:=HZ.out;omega)
 case stop=>
  rintro c pre W hpre hp0 ⟨rfl,hx⟩ hk hD;have h1:=hx.cell (i:=0) rfl;have HK:=qh hk;have HD:=qh hD;clear hk hD;go_wp2_with fail;have hx2:ay (W.putObj W0.heap.size (.deferred none)) (w.heap.size+1) 4 #[.bool true]:=hx.put (by have:=HZ.out;omega) _;have h3:=hx2.cell (i:=0) rfl;have e:qd n=true:=by
   unfold qd;cases hl:gH n with
   |nil=>rw[hl] at hpre;exact absurd (List.prefix_nil.1 hpre) hp0
   |cons=>rfl
  rw[e];refine oJ (v:=.bool true) HD.out ?_ ⟨rfl,fo (HK.out.putObj (.inr (.inl rfl)) _) ?_⟩
  ·simp only[results,Tryz.results168];go_simp
  ·rintro b (h|h|h)<;>(have:=HZ.out;omega)
end
end
section
open Me
theorem GS(r:cx)(n:Net)(B:Nat)(w:nJ)(h:bL B w r n)[hB:Le B w]:Calls nH 106 #[cH r n] w fun e w'=>e=.returned (.int .i64 (cD (valid n) 40))/\∃δ,w'=ah w δ:=by have l1:=h.1.len;have l2:=h.2.len;go_enter Tryz.func106,Tryz.ntmps106;go_wp2_with (first|(go_at_call 163;refine(wR _ _ _ _).mono ?_;rintro e w1 ⟨rfl,rfl⟩)|(go_at_call 164;go_in)|(go_at_call 166;go_in)|(go_at_call 217;refine(Ez r.hA _ r.hc n.hs B _ h.1.up rfl).mono ?_;rintro e w1 ⟨⟨k,rfl,hk⟩,δ,rfl⟩)|(go_at_call 218;refine(KW r n w.heap.size _ r.pA _ r.pc n.ps B _ h.2.up rfl l1 nW nW).mono ?_;rintro e w1 ⟨⟨k2,rfl,hk2⟩,δ2,rfl⟩)|(go_at_call 168;refine(Ye r n nQ B _ h.up).mono ?_;rintro e w1 ⟨rfl,δ3,rfl⟩));all_goals go_ret;refine⟨cG ?_,ag⟩;go_light;have hv:=@aC n;have hw:=@cX 1 3 n.m;grind [cD]
end
section
open Me
def ic(W:nJ)(g:Nat)(xs:List Int):Prop:=ay W g 3 (xs.map (Value.int .i64)).toArray
section
variable{W:nJ}{g:Nat}{xs:List Int}
theorem ic.cell(h:ic W g xs){k:Nat}(hk:k<xs.length):W.cell? ⟨g,k,none⟩=some (.int .i64 (nth xs k)):=
 ay.cell h (by rw[List.getElem?_toArray,List.getElem?_map,List.getElem?_eq_getElem hk,bN _ hk];rfl)
theorem ic.free(h:ic W g xs)(i:Nat):W.frozen? ⟨g,i,none⟩=false:=ay.free h i
theorem ic.lt(h:ic W g xs):Lt g W:=ay.lt h
theorem ic.set(h:ic W g xs)(k:Nat)(v:Int):ic (W.setCell ⟨g,k,none⟩ (.int .i64 v)) g (xs.set k v):=by have:=ay.set h k (.int .i64 v);unfold ic;rwa [List.map_set,<-List.setIfInBounds_toArray]
theorem ic.alloc(h:ic W g xs)(o:Obj):ic (W.alloc o) g xs:=ay.alloc h o
theorem ic.ah(h:ic W g xs)(δ:nJ):ic (ah W δ) g xs:=ay.ah h δ
theorem ic.drew(h:ic W g xs):ic W.drew g xs:=h
theorem ic.fB(h:ic W g xs){p:Addr}(hp:g≠p.block)(u:nK):ic (W.setCell p u) g xs:=ay.fB h hp u
theorem ic.sl(h:ic W g xs)(hl:xs.length<=1000):Sl aI W.heap.size W (some ⟨g,0,none⟩) xs.length xs:=by
 refine⟨nR _,nQ,fun _=>⟨g,0,rfl,h.lt.out,fun j v hj=>?_⟩⟩;have hlen:=vT xs;have hj':j<xs.length:=by have:=(List.getElem?_eq_some_iff.1 hj).1;omega
 have:=gx aI 1 (fun _=>rfl) xs j 0 hj' nQ;rw[Nat.mul_one,Nat.add_zero] at this;rw[this] at hj;simp only[aI] at hj;simp at hj;subst hj;rw[Nat.zero_add];exact h.cell hj'
end
def Wq(n:Net)(r:cx)(w:nJ)(T:TypeId)(gF gO bp:Nat)(l:List Int)(k:Nat)(wr:nJ):Prop:=
 ic wr gF (run n (l.take k)).1/\ic wr gO (run n (l.take k)).2/\ay wr bp T #[.int .i64 n.m,.slice r.hA n.hs.length r.hc,.slice r.pA n.ps.length r.pc]/\aD w.heap.size w wr/\Le w.heap.size wr
def Zp(n:Net)(r:cx)(w:nJ)(m:Nat)(T:TypeId)(l:List Int)(s5 s6:nK)(wx:nJ):Prop:=
 ∃gF gO,s5=.slice (some ⟨gF,0,none⟩) m m/\s6=.slice (some ⟨gO,0,none⟩) n.hs.length n.hs.length/\gF≠gO/\w.heap.size<gF/\w.heap.size<gO/\Wq n r w T gF gO w.heap.size l 0 wx
theorem vP(k:Nat):j9 (.int .i64 0) 1 k=((List.replicate k (0:Int)).map (Value.int .i64)).toArray:=by rw[vQ k undef,List.map_replicate,List.toArray_replicate]
theorem wU{n:Net}{r:cx}{w wx:nJ}{m gF gO bp:Nat}{T:TypeId}{l:List Int}(hm:n.m=(m:Int))(h1:ay wx gF 3 (j9 (.int .i64 0) 1 m))(h2:ay wx gO 3 (j9 (.int .i64 0) 1 n.hs.length))(h3:ay wx bp T #[.int .i64 (m:Int),.slice r.hA n.hs.length r.hc,.slice r.pA n.ps.length r.pc])(g1:aD w.heap.size w wx)(g2:Le w.heap.size wx):Wq n r w T gF gO bp l 0 wx:=by
 refine⟨?_,?_,by rw[hm];exact h3,g1,g2⟩
 ·rw[vP] at h1;unfold ic;have:(run n (l.take 0)).1=List.replicate m 0:=by show List.replicate n.m.toNat 0=_;rw[hm];rfl
  rw[this];exact h1
 ·rw[vP] at h2;exact h2
theorem Up(r:cx)(n:Net)(A:Option Addr)(c:Nat)(l:List Int)(B:Nat)(w:nJ)[hB:Le B w](hS:Sl aI B w A c l)(hN:bL B w r n)(hm:1<=n.m/\n.m<=3)(h6:n.hs.length<=6)(h8:n.ps.length<=8)(hv:dj n.hs=true)(hpv:j8 n.hs.length n.ps=true)(hl:qb n l)(Pk:l.length<=6):Calls nH 172 #[cH r n,.slice A l.length c] w fun e w'=>∃(A':Option Addr) (c':Nat) (δ:nJ),e=.returned (.slice A' (times n l).length c')/\w'=ah w δ/\Sl aI (ah w δ).heap.size (ah w δ) A' c' (times n l)/\(∀p,A'=some p->w.heap.size<=p.block):=by
 obtain⟨m,hmm⟩:∃m:Nat,n.m=m:=⟨n.m.toNat,nQ⟩;refine QDC ?_;intro WQ sw HM eV hmk YH HS HN HV HPV HL hlc;clear hS hN hm hv hpv hl hmm eV;go_enter Tryz.func172,Tryz.ntmps172;go_wp2_with fail;go_cut [5,6] (fun s5 s6 wx=>Zp n r w m 171 l s5 s6 wx);case first=>
  go_region;all_goals
   go_wp2_with fail;go_meet;first
    |exact⟨w.heap.size+1,w.heap.size+1+1,rfl,rfl,nQ,nQ,nQ,wU HM.out ((ay.new nV).alloc _) (ay.new nV) (((ay.new rfl).alloc _).alloc _) inferInstance inferInstance⟩
    |exact⟨w.heap.size+1+1,w.heap.size+1,rfl,rfl,nQ,nQ,nQ,wU HM.out (ay.new nV) ((ay.new nV).alloc _) (((ay.new rfl).alloc _).alloc _) inferInstance inferInstance⟩
 case rest=>
  obtain⟨gF,gO,rfl,rfl,hne,hg1,mu,hI⟩:=hcut;have Bu:=qh (And.intro hne (And.intro hg1 mu));have HI:=qh hI;clear hI;go_wp2_with fail;go_loopg [26] l.length (fun g i wr=>∃k:Nat,k<=l.length/\g=l.length-k/\i=.int .i64 k/\Wq n r w 171 gF gO w.heap.size l k wr)
  case atStart=>exact⟨0,nE _,rfl,rfl,HI.out⟩
  case round=>
   clear HI;obtain⟨k,hk,rfl,rfl,hF,hO,hP,g1,g2⟩:=hrel;have p1:=hP.cell (i:=1) rfl;have p2:=hP.cell (i:=2) rfl;have ip:=hP.lt;have iF:=hF.lt;have iO:=hO.lt;by_cases hlt:k<l.length
   ·obtain⟨b,o,rfl,hb,hc⟩:=HS.out.int hlt;have Pm:b<w.heap.size:=nL hb hB.out;have ZV:=(bB g1.out b _ Pm).trans hc;have ib:Lt b wr:=⟨nL Pm g2.out⟩;have hx:=HL.out (nth l k) (aR l hlt);obtain⟨x,hh⟩:∃x:Nat,nth l k=x:=⟨(nth l k).toNat,by have:=hx.1;omega⟩;rw[hh] at ZV;have zb:x<n.hs.length:=by have:=hx.2;omega
    obtain⟨bh,oh,Lc,WX,d0,d1,d2,d3⟩:=HN.out.1.hole zb;have AF:bh<w.heap.size:=nL WX hB.out;have e0:=(bB g1.out bh _ AF).trans d0;have e3:=(bB g1.out bh _ AF).trans d3;have ibh:Lt bh wr:=⟨nL AF g2.out⟩;obtain⟨rhA,rhc,rpA,rpc⟩:=r;have Lc:rhA=some ⟨bh,oh,none⟩:=Lc;subst Lc;have hki:(k:Int)<(l.length:Int):=nQ;have hk0:¬(k:Int)<0:=nQ;have hxi:(x:Int)<(n.hs.length:Int):=nQ;have hx0:¬(x:Int)<0:=nQ;obtain⟨lF,lO⟩:=jX n (l.take k);obtain⟨bF,bO⟩:=JW HV.out (l.take k) (fun y hy=>HL.out y (List.mem_of_mem_take hy));have hT:(l.take k).length<=6:=by rw[List.length_take];omega
    have MW:=xx HV.out (show isHole n (nth l k) from hx) bF bO nQ;have hrun:=oG n (l.take k) (nth l k);rw[<-bz l hlt,hh] at hrun;rw[hh] at MW;obtain⟨F,O,hs⟩:∃F O,run n (l.take k)=(F,O):=⟨_,_,rfl⟩;rw[hs] at hF hO lF lO bF bO MW hrun;refine QFB ?_;intro lF lO bF bO HMD L8 HH;have HF:Hid (ic wr gF F):=hF;have HO:Hid (ic wr gO O):=hO;have Xf:=qh hP;have LF:=qh lF;have LO:=qh lO;have BF:=qh bF;have BO:=qh bO;have HK:=qh (And.intro hk hlt);clear MW hrun hh hF hO hP hs lF lO bF bO hx hk hlt hc d0 d1 d2 d3;go_wp2_with fail;go_loopg [9,32] m (fun g s9 s32 wr'=>∃j:Nat,j<=m/\g=m-j/\s32=.int .i64 j/\s9=.int .i64 (jq F j)/\wr'=wr)
    case atStart=>exact⟨0,nE _,rfl,rfl,rfl,rfl⟩
    case round=>
     obtain⟨j,hj,rfl,rfl,rfl,rfl⟩:=hrel;have hown:jq F j<m:=by
      rcases Nat.eq_zero_or_pos j with rfl|hj0
      ·show 0<m;omega
      ·have:=Ec (free:=F) hj0;omega
     by_cases hlt:j<m
     ·have f1:=HF.out.cell (k:=j) (by rw[LF.out];exact hlt);have f2:=HF.out.cell (k:=jq F j) (by rw[LF.out];exact hown);have hji:(j:Int)<(m:Int):=nQ;have hj0:¬(j:Int)<0:=nQ;have VF:(jq F j:Int)<(m:Int):=nQ;have YF:¬(jq F j:Int)<0:=nQ;by_cases hc:nth F j<nth F (jq F j)
      ·have HE:=qh (show jq F (j+1)=j by unfold jq;rw[if_pos hc]);go_wp2_with fail;go_roundg (m-(j+1))
       case measure=>omega
       case rel=>exact⟨j+1,hlt,rfl,by go_num,by rw[HE.out],rfl⟩
      ·have HE:=qh (show jq F (j+1)=jq F j by rw[jq,if_neg hc]);go_wp2_with fail;go_roundg (m-(j+1))
       case measure=>omega
       case rel=>exact⟨j+1,hlt,rfl,by go_num,by rw[HE.out],rfl⟩
     ·obtain rfl:j=m:=by omega
      refine QEO ?_;intro BK f2 VF YF q hq;rw[hq] at f2 VF YF BK;have hqj:q<j:=by rw[<-hq];exact hown
      clear hown;rw[hq];clear hq;go_wp2_with fail;go_region;refine QES ?_;intro b0 hb0 Uj;clear hb0;go_wp2_with fail;go_loopg [12,61] n.ps.length (fun g s12 s61 wr'=>∃(i:Nat) (δ:nJ),i<=n.ps.length/\g=n.ps.length-i/\s61=.int .i64 i/\s12=.int .i64 (kH n.ps O x b0 i)/\wr'=ah wr δ)
      case atStart=>exact⟨0,wr.drew,nE _,rfl,rfl,rfl,Iu wr⟩
      case round=>
       obtain⟨i,δ,hi,rfl,rfl,rfl,rfl⟩:=hrel;by_cases hlt:i<n.ps.length
       ·obtain⟨bp,op,Y4,BG,c0,c1⟩:=HN.out.2.pr hlt;have K9:bp<w.heap.size:=nL BG hB.out;have k0:=(bB g1.out bp _ K9).trans c0;have k1:=(bB g1.out bp _ K9).trans c1;have ibp:Lt bp wr:=⟨nL K9 g2.out⟩;have Y4:rpA=some ⟨bp,op,none⟩:=Y4;subst Y4;have hok:=jr.1 (GG HPV.out hlt);obtain⟨a,ha⟩:∃a:Nat,(nth n.ps i).a=a:=⟨(nth n.ps i).a.toNat,nQ⟩;rw[ha] at k0;have hal:a<n.hs.length:=nQ;have z0:=HO.out.cell (k:=a) (by rw[LO.out];exact hal);have hai:(a:Int)<(n.hs.length:Int):=nQ;have ha0:¬(a:Int)<0:=nQ;have Jg:(i:Int)<(n.ps.length:Int):=nQ;have hi0:¬(i:Int)<0:=nQ;by_cases jm:(nth n.ps i).b=x
        ·have YU:((nth n.ps i).b==(x:Int))=true:=by simpa using jm
         by_cases MV:kH n.ps O x b0 i<nth O a
         ·have HE:=qh (show kH n.ps O x b0 (i+1)=nth O a by
           rw[kH,if_pos jm,ha];simp only[Int.toNat_natCast];omega)
          have iZ:=qh hlt;clear jm hok ha c0 c1 hlt;go_wp2_with fail;go_roundg (n.ps.length-(i+1))
          case measure=>have:=iZ.out;omega
          case rel=>exact⟨i+1,_,iZ.out,rfl,by go_num,by rw[HE.out],ai⟩
         ·have HE:=qh (show kH n.ps O x b0 (i+1)=kH n.ps O x b0 i by
           rw[kH,if_pos jm,ha];simp only[Int.toNat_natCast];omega)
          have iZ:=qh hlt;clear jm hok ha c0 c1 hlt;go_wp2_with fail;go_roundg (n.ps.length-(i+1))
          case measure=>have:=iZ.out;omega
          case rel=>exact⟨i+1,_,iZ.out,rfl,by go_num,by rw[HE.out],ai⟩
        ·have YU:((nth n.ps i).b==(x:Int))=false:=by simpa using jm
         have HE:=qh (show kH n.ps O x b0 (i+1)=kH n.ps O x b0 i by rw[kH,if_neg jm]);have iZ:=qh hlt;clear jm hok ha c0 c1 hlt;go_wp2_with fail;go_roundg (n.ps.length-(i+1))
         case measure=>have:=iZ.out;omega
         case rel=>exact⟨i+1,_,iZ.out,rfl,by go_num,by rw[HE.out],ai⟩
       ·obtain rfl:i=n.ps.length:=by omega
        have sw:=HMD.out;have hh:=dV.1 (eD HV.out zb);unfold fF at sw;simp only[Int.toNat_natCast,Uj.out] at sw;obtain⟨be,YW⟩:∃be,kH n.ps O x b0 n.ps.length=be:=⟨_,rfl⟩;rw[YW] at sw;refine QEH ?_;intro TZ y1 y2 y3 y4;have z0:=HO.out.cell (k:=x) (by rw[LO.out];exact zb);have zf:=HO.out.free x;have zg:=HF.out.free q;have n1:qP gO gF:=⟨by have:=Bu.out;omega⟩;have n2:qP gF gO:=⟨by have:=Bu.out;omega⟩;have n3:qP gO w.heap.size:=⟨by have:=Bu.out;omega⟩;have n4:oE w.heap.size gO:=⟨by have:=Bu.out;omega⟩;have n5:oE w.heap.size gF:=⟨by have:=Bu.out;omega⟩;clear YW sw hh;go_upto_region 20 with fail;refine aM fun W3 bR=>?_;have o3:ic W3 gO (O.set x (be+(nth n.hs x).hr)):=by rw[bR.out];exact(HO.out.ah _).set _ _
        have f3:ic W3 gF F:=by rw[bR.out];exact(HF.out.ah _).fB (by have:=Bu.out;exact fun e=>this.1 e) _
        have b3:ay W3 w.heap.size 171 #[.int .i64 n.m,.slice (some ⟨bh,oh,none⟩) n.hs.length rhc,.slice rpA n.ps.length rpc]:=by rw[bR.out];exact(Xf.out.ah _).fB (by have:=Bu.out;show w.heap.size≠gO;omega) _
        have g3:aD w.heap.size w W3:=gy bR;have g4:Le w.heap.size W3:=fI bR;have x1:=o3.cell (k:=x) (by rw[List.length_set,LO.out];exact zb);rw[iJ _ (by rw[LO.out];exact zb)] at x1;have x2:=f3.cell (k:=q) (by rw[LF.out];exact hqj);have x3:=f3.free q;have x4:=f3.lt;have O3:=qh o3;have F3:=qh f3;have B3:=qh b3;clear bR o3 f3 b3;go_wp2_with fail;go_roundg (l.length-(k+1))
        case measure=>have:=HK.out;omega
        case rel=>
         refine⟨k+1,HK.out.2,rfl,by go_num,?_,?_,B3.out.fB (by have:=Bu.out;show w.heap.size≠gF;omega) _,inferInstance,inferInstance⟩
         ·rw[L8.out];show ic _ gF (F.set (own F) (fF n (F,O) x));rw[BK.out,TZ.out];exact F3.out.set _ _
         ·rw[L8.out];show ic _ gO (O.set (x:Int).toNat (fF n (F,O) x));rw[TZ.out,Int.toNat_natCast];exact O3.out.fB (by have:=Bu.out;exact fun e=>this.1 e.symm) _
   ·obtain rfl:k=l.length:=by omega
    have hlen:=kL n l;have yJ:=hO.sl (by rw[(jX n _).2];omega);rw[List.take_length] at yJ;have yJ:Sl aI wr.heap.size wr (some ⟨gO,0,none⟩) (times n l).length (times n l):=yJ;rw[hlen] at yJ;have Jk:=qh yJ;have ZE:=qh hlen;clear yJ hlen hF hO hP;go_wp2_with fail;go_ret;refine⟨some ⟨gO,0,none⟩,n.hs.length,wr,by rw[ZE.out];rfl,ai,?_,fun p hp=>by cases hp;have:=Bu.out;show w.heap.size<=gO;omega⟩;rw[<-ai (w:=w) (W:=wr)];exact Jk.out
end
section
open Me
theorem kO{n:Net}(h:valid n=true):(1<=n.m/\n.m<=3)/\n.hs.length<=6/\n.ps.length<=8/\dj n.hs=true/\j8 n.hs.length n.ps=true:=by obtain⟨a,b,c,d,e,_⟩:=aC.1 h;exact⟨a,b,c,d,e⟩
theorem Ml(r:cx)(n:Net)(A:Option Addr)(c ln:Nat)(l:List Int)(B:Nat)(w:nJ)[hB:Le B w](hS:Sl aI B w A c l)(hN:bL B w r n)(hv:valid n=true)(hl:eu n l=true)(jA:l.length=ln):Calls nH 172 #[cH r n,.slice A ln c] w fun e w'=>∃(A':Option Addr) (c':Nat) (δ:nJ),e=.returned (.slice A' n.hs.length c')/\w'=ah w δ/\Hid (Sl aI (ah w δ).heap.size (ah w δ) A' c' (times n l))/\Hid (∀p,A'=some p->w.heap.size<=p.block):=by subst jA;obtain⟨a,b,c',d,e⟩:=kO hv;refine(Up r n A c l B w hS hN a b c' d e (jE hl) (by rw[ji hl];exact b)).mono ?_;rintro e w' ⟨A',c',δ,rfl,rfl,h1,h2⟩;exact⟨A',c',δ,by rw[kL],rfl,h1,h2⟩
theorem wm{n:Net}(hv:dj n.hs=true):kY 20 (gT n)/\kY 20 (Ep n):=by
 constructor;all_goals
  intro j;rcases Nat.lt_or_ge j n.hs.length with h|h
  ·first|rw[iX h]|rw[GL h]
   have:=dV.1 (eD hv h);omega
  ·have e:∀xs:List Int,xs.length<=j->nth xs j=0:=fun xs hx=>by unfold nth List.getD;rw[List.getElem?_eq_none hx];rfl
   rw[e _ (by simp[gT,Ep];exact h)];omega
theorem yX{n:Net}(hv:valid n=true){l:List Int}(hl:eu n l=true){rt:List Int}(hr:kY 20 rt)(k:Nat)(hk:k<=n.hs.length):-10000<=fP n.hs (times n l) rt k/\fP n.hs (times n l) rt k<=10000:=by have h6:=(kO hv).2.1;have:=RT (kO hv).2.2.2.1 (vi hv hl) hr k hk nQ;omega
theorem RE{a b:Int}(h0:0<=a)(h1:a<=20)(h2:-100<=b)(h3:b<=100):-2000<=a*b/\a*b<=2000:=by have e1:=Int.mul_le_mul_of_nonneg_left h3 h0;have e2:=Int.mul_le_mul_of_nonneg_left h2 h0;constructor<;>omega
theorem Yg(r:cx)(n:Net)(A:Option Addr)(c ln:Nat)(l:List Int)(B:Nat)(w:nJ)[hB:Le B w](hS:Sl aI B w A c l)(hN:bL B w r n)(hv:valid n=true)(hl:eu n l=true)(jA:l.length=ln):Calls nH 171 #[cH r n,.slice A ln c] w fun e w'=>e=.returned (.agg #[.int .i64 (jl n l (Ep n)),.int .i64 (dM n l)])/\∃δ,w'=ah w δ:=by
 have HS:=qh hS;have HN:=qh hN;have HV:=qh hv;have HO:=qh hl;have qm:=qh jA;have h6:=(kO hv).2.1;clear hS hN hv hl jA;go_enter Tryz.func171,Tryz.ntmps171;go_wp2_with (go_at_call 172;refine(Ml r n _ _ _ l B _ HS.out.up HN.out.up HV.out HO.out qm.out).mono ?_;rintro e w1 ⟨A',c',δ,rfl,rfl,hT,hT2⟩);refine QCC ?_;intro W1 aH cJ dF cW di dz eL;have bx:ay W1 (w.heap.size+1) 23 #[.int .i64 0,.int .i64 0]:=by rw[aH.out];exact(ay.new nV).ah _
 have bp:ay W1 w.heap.size 171 #[.int .i64 n.m,.slice r.hA n.hs.length r.hc,.slice r.pA n.ps.length r.pc]:=by rw[aH.out];exact((ay.new rfl).alloc _).ah _
 have T1:Sl aI W1.heap.size W1 A' c' (times n l):=by rw[aH.out];exact hT.out
 have BX:=qh bx;have BP:=qh bp;have TT:=qh T1;have T2:Hid (∀p,A'=some p->w.heap.size+2<=p.block):=fun p hp=>by have:=hT2.out p hp;simpa using this
 clear aH hT bx bp T1 hT2;go_loopg [12] n.hs.length (fun g i wr=>∃k:Nat,k<=n.hs.length/\g=n.hs.length-k/\i=.int .i64 k/\ay wr (w.heap.size+1) 23 #[.int .i64 (fP n.hs (times n l) (Ep n) k),.int .i64 (fP n.hs (times n l) (gT n) k)]/\bI (fun b=>b=w.heap.size+1) W1 wr)
 case atStart=>exact⟨0,nE _,rfl,rfl,BX.out,bI.refl _ _⟩
 case round=>
  obtain⟨k,hk,rfl,rfl,hX,hK⟩:=hrel;have bp:=BP.out.eN hK nQ;have p1:=bp.cell (i:=1) rfl;have ip:=bp.lt;have s0:=hX.cell (i:=0) rfl;have s1:=hX.cell (i:=1) rfl;have f0:=hX.free 0;have f1:=hX.free 1;have is:=hX.lt;by_cases hlt:k<n.hs.length
  ·have hkt:k<(times n l).length:=by rw[kL];exact hlt
   obtain⟨b,o,rfl,hb,hc⟩:=TT.out.int hkt;have ij:w.heap.size+2<=b:=T2.out _ rfl;have ZV:=(hK.cell (o:=o+k) hb (fun e=>by have e:b=w.heap.size+1:=e;omega)).trans hc;have ib:Lt b wr:=⟨nL hb hK.size⟩;obtain⟨bh,oh,Lc,WX,d0,d1,d2,d3⟩:=HN.out.1.hole hlt;have AF:bh<w.heap.size:=nL WX hB.out;have hww:=cW.out;have e:=fun o=>(hK.cell (b:=bh) (o:=o) nQ (fun e=>by have e:bh=w.heap.size+1:=e;omega)).trans (bB di.out bh o AF);have e0:=(e _).trans d0;have e1:=(e _).trans d1;have e2:=(e _).trans d2;have e3:=(e _).trans d3;have ibh:Lt bh wr:=⟨by have:=hK.size;omega⟩;obtain⟨rhA,rhc,rpA,rpc⟩:=r;have Lc:rhA=some ⟨bh,oh,none⟩:=Lc;subst Lc;refine QDY ?_;intro hki hk0;have ht:=vi HV.out HO.out k;have hh:=dV.1 (eD (kO HV.out).2.2.2.1 hlt);have q1:0<=nth (times n l) k:=ht.1;have q2:nth (times n l) k<=74:=ht.2;have q3:0<=(nth n.hs k).fr:=hh.1;have q4:(nth n.hs k).fr<=20:=hh.2.1;obtain⟨m1,m2⟩:=RE (a:=(nth n.hs k).lo) (b:=nth (times n l) k-(nth n.hs k).fr) nQ nQ nQ nQ;obtain⟨m3,m4⟩:=RE (a:=(nth n.hs k).hi) (b:=nth (times n l) k-(nth n.hs k).fr) nQ nQ nQ nQ;obtain⟨b1,b2⟩:=yX HV.out HO.out (wm (kO HV.out).2.2.2.1).2 k hk;obtain⟨b3,b4⟩:=yX HV.out HO.out (wm (kO HV.out).2.2.2.1).1 k hk;have ZH:=qh (show fP n.hs (times n l) (Ep n) (k+1)=fP n.hs (times n l) (Ep n) k+(nth n.hs k).lo*(nth (times n l) k-(nth n.hs k).fr) by rw[fP,GL hlt]);have ZG:=qh (show fP n.hs (times n l) (gT n) (k+1)=fP n.hs (times n l) (gT n) k+(nth n.hs k).hi*(nth (times n l) k-(nth n.hs k).fr) by rw[fP,iX hlt]);have n1:oE W1.heap.size wr.heap.size:=⟨hK.size⟩;have n2:qP wr.heap.size (w.heap.size+1):=⟨Nat.ne_of_gt is.out⟩;have HX:=qh hX;have HK:=qh hK;have iZ:=qh hlt;clear hX hK hlt hk hc d0 d1 d2 d3 e hh ht hkt;go_wp2_with fail;go_roundg (n.hs.length-(k+1))
   case measure=>have:=iZ.out;omega
   case rel=>
    refine⟨k+1,iZ.out,rfl,by go_num,?_,?_⟩
    ·rw[ZH.out,ZG.out];exact((HX.out.set 0 _).set 1 _).alloc _
    ·exact((HK.out.set rfl _ _).set rfl _ _).alloc _
  ·obtain rfl:k=n.hs.length:=by omega
   have HX:=qh hX;have HK:=qh hK;clear hX hK;go_wp2_with fail;refine bodyPost_ret (v:=.agg #[.int .i64 (jl n l (Ep n)),.int .i64 (dM n l)]) ?_ rfl ⟨rfl,?_⟩
   ·simp only[results,Tryz.results171];go_simp;exact⟨rfl,rfl⟩
   ·exact fo ((HK.out.set rfl _ _).set rfl _ _) (by rintro b rfl;omega)
theorem QV(a b:Int)(W:nJ):(Instr.field 23 (.agg #[.int .i64 a,.int .i64 b]) 1).run nH W=.ok (.int .i64 b) W:=by kernel_rfl
theorem YM(r:cx)(n:Net)(A:Option Addr)(c ln:Nat)(l:List Int)(B:Nat)(w:nJ)[hB:Le B w](hS:Sl aI B w A c l)(hN:bL B w r n)(hv:valid n=true)(hl:eu n l=true)(jA:l.length=ln):Calls nH 108 #[cH r n,.slice A ln c] w fun e w'=>e=.returned (.int .i64 (dM n l))/\∃δ,w'=ah w δ:=by have HS:=qh hS;have HN:=qh hN;have HV:=qh hv;have HO:=qh hl;have qm:=qh jA;clear hS hN hv hl jA;have YR:=QV;go_enter Tryz.func108,Tryz.ntmps108;go_wp2_with (go_at_call 171;refine(Yg r n _ _ _ l B _ HS.out.up HN.out.up HV.out HO.out qm.out).mono ?_;rintro e w1 ⟨rfl,δ,rfl⟩);go_ret;exact⟨rfl,ag⟩
theorem Yj(r:cx)(n:Net)(A:Option Addr)(c ln:Nat)(l:List Int)(B:Nat)(w:nJ)[hB:Le B w](hS:Sl aI B w A c l)(hN:bL B w r n)(hv:valid n=true)(hl:eu n l=true)(jA:l.length=ln):Calls nH 109 #[cH r n,.slice A ln c] w fun e w'=>e=.returned (.int .i64 (eZ n l))/\∃δ,w'=ah w δ:=by
 have HS:=qh hS;have HN:=qh hN;have HV:=qh hv;have HO:=qh hl;have qm:=qh jA;have h6:=(kO hv).2.1;clear hS hN hv hl jA;go_enter Tryz.func109,Tryz.ntmps109;go_wp2_with (go_at_call 172;refine(Ml r n _ _ _ l B _ HS.out.up HN.out.up HV.out HO.out qm.out).mono ?_;rintro e w1 ⟨A',c',δ,rfl,rfl,hT,hT2⟩);refine aM fun W1 aH=>?_;obtain⟨cJ,dF,cW,di,dz⟩:=BH B w aH;have TT:Hid (Sl aI W1.heap.size W1 A' c' (times n l)):=by rw[aH.out];exact hT.out
 clear aH hT hT2;go_loopg [5,12] n.hs.length (fun g s5 i wr=>∃k:Nat,k<=n.hs.length/\g=n.hs.length-k/\i=.int .i64 k/\s5=.int .i64 (ou (times n l) k)/\wr=W1)
 case atStart=>exact⟨0,nE _,rfl,rfl,rfl,rfl⟩
 case round=>
  obtain⟨k,hk,rfl,rfl,rfl,rfl⟩:=hrel;by_cases hlt:k<n.hs.length
  ·obtain⟨b,o,rfl,hb,hc⟩:=TT.out.int (k:=k) (by rw[kL];exact hlt);refine QDY ?_;intro hki hk0;by_cases MV:ou (times n l) k<nth (times n l) k
   ·have HE:=qh (show ou (times n l) (k+1)=nth (times n l) k by rw[ou];omega);have iZ:=qh hlt;clear hlt;go_wp2_with fail;go_roundg (n.hs.length-(k+1))
    case measure=>have:=iZ.out;omega
    case rel=>exact⟨k+1,iZ.out,rfl,by go_num,by rw[HE.out],rfl⟩
   ·have HE:=qh (show ou (times n l) (k+1)=ou (times n l) k by rw[ou];omega);have iZ:=qh hlt;clear hlt;go_wp2_with fail;go_roundg (n.hs.length-(k+1))
    case measure=>have:=iZ.out;omega
    case rel=>exact⟨k+1,iZ.out,rfl,by go_num,by rw[HE.out],rfl⟩
  ·obtain rfl:k=n.hs.length:=by omega
   go_wp2_with fail;go_ret;exact⟨rfl,ag⟩
end
section
open Me
def ym(b:Bool)(v0 v:nK)(k0 k:Int):Array nK:=if b=false\/k<k0 then #[v,.int .i64 k,.bool true] else #[v0,.int .i64 k0,.bool b]
theorem Yh(c:Nat)(T:TypeId)(b:Bool)(A0 A:Option Addr)(n0 c0 n1 c1:Nat)(k0 k:Int)(w:nJ)(hx:ay w c T #[.slice A0 n0 c0,.int .i64 k0,.bool b]):Calls nH 170 #[.pointer (some ⟨c,0,none⟩),.slice A n1 c1,.int .i64 k] w fun e w'=>(∃v,e=.returned v)/\ay w' c T (ym b (.slice A0 n0 c0) (.slice A n1 c1) k0 k)/\bI (fun x=>x=c) w w':=by
 have c0':=hx.cell (i:=0) rfl;have c1':=hx.cell (i:=1) rfl;have c2':=hx.cell (i:=2) rfl;have f0:=hx.free 0;have f1:=hx.free 1;have f2:=hx.free 2;have hlt:=hx.lt;have HX:=qh hx;clear hx;cases b with
 |false=>
  go_enter Tryz.func170,Tryz.ntmps170
  go_wp2
  go_end0
  exact⟨⟨_,rfl⟩,((HX.out.set 0 _).set 1 _).set 2 _,(((bI.refl _ _).set (S:=fun x=>x=c) rfl _ _).set rfl _ _).set rfl _ _⟩
 |true=>
  by_cases hk:k<k0
  ·have e:ym true (.slice A0 n0 c0) (.slice A n1 c1) k0 k=#[.slice A n1 c1,.int .i64 k,.bool true]:=by unfold ym;rw[if_pos (.inr hk)]
   rw[e];go_enter Tryz.func170,Tryz.ntmps170;go_wp2;go_end0;exact⟨⟨_,rfl⟩,((HX.out.set 0 _).set 1 _).set 2 _,(((bI.refl _ _).set (S:=fun x=>x=c) rfl _ _).set rfl _ _).set rfl _ _⟩
  ·have e:ym true (.slice A0 n0 c0) (.slice A n1 c1) k0 k=#[.slice A0 n0 c0,.int .i64 k0,.bool true]:=by unfold ym;rw[if_neg (by simp;omega)]
   rw[e];go_enter Tryz.func170,Tryz.ntmps170;go_wp2;go_end0;exact⟨⟨_,rfl⟩,HX.out,bI.refl _ _⟩
def uW(f:List Int->Int)(lo cb:Nat)(pre:List (List Int))(W:nJ):Prop:=
 ∃(b:Bool) (A:Option Addr) (m c:Nat) (k:Int),ay W cb 235 #[.slice A m c,.int .i64 k,.bool b]/\(pre=[]->b=false) /\
  (pre≠[]->b=true/\m=(least f pre).length/\k=f (least f pre)/\Sl aI W.heap.size W A c (least f pre)/\∀p,A=some p->lo<=p.block)
theorem uW.eN{f:List Int->Int}{lo cb:Nat}{pre:List (List Int)}{S:Nat->Prop}{W W':nJ}(h:uW f lo cb pre W)(k:bI S W W')(h1:¬S cb)(h2:∀b,S b->b<lo):uW f lo cb pre W':=by obtain⟨b,A,m,c,x,hb,hn,hs⟩:=h;refine⟨b,A,m,c,x,hb.eN k h1,hn,fun hp=>?_⟩;obtain⟨a1,a2,a3,a4,a5⟩:=hs hp;exact⟨a1,a2,a3,(k.sl a4 (nR _) (fun p hp hc=>by have:=h2 _ hc;have:=a5 p hp;omega)).more k.size,a5⟩
theorem uW.look{f:List Int->Int}{lo cb:Nat}{pre:List (List Int)}{W W':nJ}{x:List Int}{A1:Option Addr}{c1:Nat}{b:Bool}{A:Option Addr}{m c:Nat}{k:Int}(hn:pre=[]->b=false)(hs:pre≠[]->b=true/\m=(least f pre).length/\k=f (least f pre)/\Sl aI W.heap.size W A c (least f pre)/\∀p,A=some p->lo<=p.block)(hx:Sl aI W.heap.size W A1 c1 x)(hlo:∀p,A1=some p->lo<=p.block)(hc:cb<lo)(hk:bI (fun b=>b=cb) W W')(hb:ay W' cb 235 (ym b (.slice A m c) (.slice A1 x.length c1) k (f x))):uW f lo cb (pre++[x]) W':=by
 have up:∀ {A:Option Addr} {c:Nat} {y:List Int},Sl aI W.heap.size W A c y->(∀p,A=some p->lo<=p.block)->Sl aI W'.heap.size W' A c y:=fun h1 h2=>(hk.sl h1 (nR _) (fun p hp e=>by have:=h2 p hp;have e:p.block=cb:=e;omega)).more hk.size;by_cases hp:pre=[]
 ·subst hp;rw[hn rfl] at hb;unfold ym at hb;rw[if_pos (.inl rfl)] at hb;exact⟨true,A1,x.length,c1,f x,hb,fun h=>by simp at h,fun _=>⟨rfl,rfl,rfl,up hx hlo,hlo⟩⟩
 ·obtain⟨rfl,rfl,rfl,h4,h5⟩:=hs hp;unfold ym at hb;by_cases hl:f x<f (least f pre)
  ·rw[if_pos (.inr hl)] at hb;have e:least f (pre++[x])=x:=by rw[oQ f hp,if_pos hl]
   exact⟨true,A1,x.length,c1,f x,hb,fun h=>by simp at h,fun _=>⟨rfl,by rw[e],by rw[e],by rw[e];exact up hx hlo,hlo⟩⟩
  ·rw[if_neg (by simp;omega)] at hb;have e:least f (pre++[x])=least f pre:=by rw[oQ f hp,if_neg hl]
   exact⟨true,A,_,c,_,hb,fun h=>by simp at h,fun _=>⟨rfl,by rw[e],by rw[e],by rw[e];exact up h4 h5,h5⟩⟩
def Nh(fid:Nat)(r:cx)(n:Net)(B:Nat)(w:nJ)(f:List Int->Int):Prop:=∀(l:List Int) (A:Option Addr) (c:Nat) (W:nJ),eu n l=true->bL B W r n->B<=W.heap.size->Sl aI W.heap.size W A c l ->
 Calls nH fid #[cH r n,.slice A l.length c] W fun e w'=>e=.returned (.int .i64 (f l))/\∃δ,w'=ah W δ
section
attribute[local go_sem] Oper.semAt_some
theorem Vl(fid:Nat)(hent:∀args w,(callFunc fid args).run nH w=.ok (.enter fid args) w)(f:List Int->Int)(r:cx)(n:Net)(hv:valid n=true)(B:Nat)(w:nJ)(hN:bL B w r n)[hB:Le B w](hf:Nh fid r n B w f):Calls nH 107 #[cH r n,.func (.func fid) #[cH r n] #[]] w fun e w'=>∃(A:Option Addr) (c:Nat) (δ:nJ),e=.returned (.tuple #[.slice A n.hs.length c,.int .i64 (f (least f (gH n)))])/\w'=ah w δ/\Hid (Sl aI (ah w δ).heap.size (ah w δ) A c (least f (gH n))):=by
 have HN:=qh hN;have HV:=qh hv;have HF:=qh hf;have h6:=(kO hv).2.1;clear hN hv hf;refine o5 Tryz.func107 rfl ?_;simp only[Tryz.ntmps107,List.size_toArray,List.length_cons,List.length_nil,Nat.reduceAdd,Nat.reduceSub,Array.replicate_succ,Array.replicate_zero,List.push_toArray,List.append_toArray,List.nil_append,List.cons_append];go_wp2_with (go_at_call 169;refine(Gz n r _).mono ?_;rintro e w1 ⟨rfl,rfl⟩);refine aM fun W0 jR=>?_;obtain⟨cJ,dF,cW,di,dz,eL⟩:=VS B w jR;have jG:Lt (w.heap.size+1+1) W0:=nr jR;have Fo:Lt (w.heap.size+1+1+1) W0:=nr jR;have mQ:W0.cell? ⟨w.heap.size+1+1+1,0,none⟩=some (.int .i64 n.m):=by rw[jR.out];go_simp
 have jI:W0.cell? ⟨w.heap.size+1+1+1,1,none⟩=some (.slice r.hA n.hs.length r.hc):=by rw[jR.out];go_simp
 have nk:W0.cell? ⟨w.heap.size+1+1+1,2,none⟩=some (.slice r.pA n.ps.length r.pc):=by rw[jR.out];go_simp
 have nj:W0.cell? ⟨w.heap.size+1,0,none⟩=some (.func (.func fid) #[cH r n] #[]):=by rw[jR.out];go_simp
 have hz:W0.heap.size=w.heap.size+4:=by rw[jR.out];simp
 have HX:Hid (ay W0 (w.heap.size+1+1) 235 #[.slice none 0 0,.int .i64 0,.bool false]):=by rw[jR.out];exact(ay.new nV).alloc _
 have HN0:Hid (bL B W0 r n):=HN.out.up;have HZ:=qh hz;have hBw:=hB.out;have HC:Hid (W0.cell? ⟨w.heap.size+1,0,none⟩=some (.func (.func fid) #[cH r n] #[])):=nZ;clear jR hz;refine Mc n r B (w.heap.size+1+1+1) rfl h6 HN0.out (by have:=HZ.out;omega) (by have:=HZ.out;omega) nZ nZ nZ
  (fun b=>b=w.heap.size+1+1) (by rintro b rfl;have:=HZ.out;omega)
  (uW f (W0.heap.size+2) (w.heap.size+1+1)) (fun _ _ _=>False)
  (by intro pre W W' h hk;exact h.eN hk (zn (by have:=HZ.out;omega)) (by rintro b (h|h|h);exact h.elim;omega;omega)) (fun _ _ _ _ h _=>h)
  ⟨false,none,0,0,0,HX.out,fun _=>rfl,fun h=>absurd rfl h⟩ (fun v=>{ tmps:=#[cH r n,.func (.func fid) #[cH r n] #[],.pointer (some ⟨w.heap.size,0,none⟩),.pointer (some ⟨w.heap.size+1,0,none⟩),.slice none 0 0,.int .i64 0,.pointer (some ⟨w.heap.size+1+1,0,none⟩),v,
   .agg #[.int .i64 n.m,.slice r.hA n.hs.length r.hc,.slice r.pA n.ps.length r.pc],.func (.func 219) #[] #[.pointer (some ⟨w.heap.size+1+1+1,0,none⟩)],v,undef,undef,undef,undef,undef,undef,undef,undef,undef],defers:=[] }) ?assign ?body ?done ?stop
 case assign=>intro l m v W K hK;gi_wp2;simpa using hK
 case body=>
  rintro l m pre x v W hpre hI hl hk hs;obtain⟨A1,c1,rfl,Ji,hlo1⟩:=hl;obtain⟨b,A,k0,c0,y,hb,hn,hs2⟩:=hI;have hx:eu n x=true:=ki.1 (hpre.subset nV);have cf:=(hk.cell (b:=w.heap.size+1) (o:=0) (by have:=HZ.out;omega) (by have:=HZ.out;rintro(h|h|h)<;>omega)).trans HC.out;have hNW:=hk.aF HN0.out (by have:=HZ.out;omega) (by have:=HZ.out;rintro b (h|h|h)<;>omega);have Hy:=HF.out x A1 c1 W hx hNW (by have:=hk.size;have:=HZ.out;omega) Ji;have hcb:=hb.lt;have HB:=qh hb;have Z9:=qh hn;have Cc:=qh hs2;have oa:=qh Ji;have HLO:=qh hlo1;clear hb hn hs2 Ji hlo1 hk hNW hx hpre hs;gi_wp2;refine iH Hy ?_;rintro e w1 ⟨rfl,δ,rfl⟩;gi_wp2;refine iH (Yh (w.heap.size+1+1) _ b A A1 k0 c0 _ c1 y _ _ (HB.out.ah δ)) ?_;rintro e w2 ⟨⟨v',rfl⟩,fX,hk2⟩;gi_wp2;refine⟨(bI.ah _ _ _).trans hk2,?_⟩;exact uW.look (W:=ah W δ) Z9.out (fun hp=>by
   obtain⟨a1,a2,a3,a4,a5⟩:=Cc.out hp
   exact⟨a1,a2,a3,a4.wide,a5⟩) oa.out.wide HLO.out (by have:=HZ.out;omega) hk2 fX
 case done=>
  rintro W hI hk hD;obtain⟨b,A,k0,c0,y,hb,hn,hs2⟩:=hI;obtain⟨rfl,rfl,rfl,h4,h5⟩:=hs2 (mP (aC.1 HV.out).2.2.2.2.2);have hlen:(least f (gH n)).length=n.hs.length:=ji (ki.1 (fC f (mP (aC.1 HV.out).2.2.2.2.2)));rw[hlen] at hb;have d0:=hb.cell (i:=0) rfl;have d1:=hb.cell (i:=1) rfl;have HD:=qh hD;have HK:=qh hk;have H4:=qh h4;have H5:=qh h5;clear hb hn hs2 hD hk h4 h5 hlen;go_wp2_with fail;go_region;go_wp2_with fail;obtain⟨δ,hδ⟩:=fo (w:=w) ((HK.out.drew).putObj (b:=W0.heap.size) (.inr (.inl rfl)) (.deferred none)) (by have:=HZ.out;rintro b (h|h|h)<;>omega);refine oJ (v:=.tuple #[.slice A n.hs.length c0,.int .i64 (f (least f (gH n)))]) HD.out ?_ ⟨A,c0,δ,rfl,hδ,?_⟩
  ·simp only[results,Tryz.results107];go_simp
  ·rw[<-hδ];refine((((bI.refl (fun b=>b=W0.heap.size) W).drew).putObj rfl _).sl H4.out (nR _) (fun p hp e=>?_)).more ?_
   ·have:=H5.out p hp;have e:p.block=W0.heap.size:=e;omega
   ·rw[World.putObj_size];exact nR _
 case stop=>exact fun _ _ _ _ _ h=>h.elim
end
end
section
open Me
theorem GP(r:cx)(n:Net)(w:nJ):Calls nH 57 #[cH r n] w fun e w'=>e=.returned (.func (.func 108) #[cH r n] #[])/\∃δ,w'=ah w δ:=by go_enter Tryz.func57,Tryz.ntmps57;go_wp2_with fail;go_ret;exact⟨rfl,ag⟩
theorem RI(r:cx)(n:Net)(w:nJ):Calls nH 58 #[cH r n] w fun e w'=>e=.returned (.func (.func 109) #[cH r n] #[])/\∃δ,w'=ah w δ:=by go_enter Tryz.func58,Tryz.ntmps58;go_wp2_with fail;go_ret;exact⟨rfl,ag⟩
theorem zu(r:cx)(n:Net)(hv:valid n=true)(B:Nat)(w:nJ):Nh 108 r n B w (dM n):=fun l A c W hl hN hB hS=>by have i:Le W.heap.size W:=inferInstance;exact YM r n A c _ l W.heap.size W hS (hN.more hB) hv hl rfl
theorem Jv(r:cx)(n:Net)(hv:valid n=true)(B:Nat)(w:nJ):Nh 109 r n B w (eZ n):=fun l A c W hl hN hB hS=>by have i:Le W.heap.size W:=inferInstance;exact Yj r n A c _ l W.heap.size W hS (hN.more hB) hv hl rfl
theorem Im:∀args w,(callFunc 108 args).run nH w=.ok (.enter 108 args) w:=Go.Proofs.enters_of Tryz.func108 nP rfl
theorem S0:∀args w,(callFunc 109 args).run nH w=.ok (.enter 109 args) w:=Go.Proofs.enters_of Tryz.func109 nP rfl
def Qi(f:List Int->Int)(n:Net)(w:nJ)(e:Ending)(w':nJ):Prop:=∃(A:Option Addr) (c:Nat) (δ:nJ),e=.returned (.tuple #[.slice A n.hs.length c,.int .i64 (f (least f (gH n))),.int .i64 0])/\w'=ah w δ/\Hid (Sl aI (ah w δ).heap.size (ah w δ) A c (least f (gH n)))
theorem EK(mk fid:Nat)(f:List Int->Int)(aft:∀args w,(callFunc mk args).run nH w=.ok (.enter mk args) w)(hent:∀args w,(callFunc fid args).run nH w=.ok (.enter fid args) w)(r:cx)(n:Net)(hv:valid n=true)(B:Nat)(w:nJ)(hN:bL B w r n)[hB:Le B w](hmk:∀W,Calls nH mk #[cH r n] W fun e w'=>e=.returned (.func (.func fid) #[cH r n] #[])/\∃δ,w'=ah W δ)(hf:∀W,Nh fid r n B W f):Calls nH 56 #[cH r n,.func (.func mk) #[] #[]] w (Qi f n w):=by
 have HN:=qh hN;have HV:=qh hv;have HE:=qh (show cD (valid n) 40=0 by rw[hv];rfl);have HM:=qh hmk;have HF:=qh hf;clear hN hv hmk hf;go_enter Tryz.func56,Tryz.ntmps56;go_wp2_with (go_at_call 106;refine(GS r n B _ HN.out.up).mono ?_;rw[HE.out];rintro e w1 ⟨rfl,δ,hw⟩;have bq:ay w1 w.heap.size 32 #[.int .i64 n.m,.slice r.hA n.hs.length r.hc,.slice r.pA n.ps.length r.pc]:=(by rw[hw];exact(ay.new rfl).ah _);have e0:=bq.cell (i:=0) rfl;have e1:=bq.cell (i:=1) rfl;have e2:=bq.cell (i:=2) rfl;have ilt:=bq.lt;have g1:aD B w w1:=(by rw[hw];infer_instance);have g2:Le B w1:=(by rw[hw];infer_instance);have g3:aD w.heap.size w w1:=(by rw[hw];infer_instance);have g4:Le w.heap.size w1:=(by rw[hw];infer_instance);clear hw bq);go_region_held3 (fun W=>W.cell? ⟨w1.heap.size,0,none⟩=some (.int .i64 n.m)/\W.cell? ⟨w1.heap.size,1,none⟩=some (.slice r.hA n.hs.length r.hc)/\W.cell? ⟨w1.heap.size,2,none⟩=some (.slice r.pA n.ps.length r.pc))
  (refine⟨?_,?_,?_⟩<;>go_simp)
  (first|(go_at_call 107;refine(Vl fid hent f r n HV.out B _ HN.out.up (HF.out _)).mono ?_;rintro e w2 ⟨A,c,δ2,rfl,rfl,hS⟩)|(with_reducible refine(HM.out _).mono ?_;rintro e w3 ⟨rfl,δ3,rfl⟩))
 all_goals go_wp2_with fail;go_ret3;exact⟨A,c,_,rfl,ai,JM hS.out.wide⟩
theorem KK(r:cx)(n:Net)(hv:valid n=true)(B:Nat)(w:nJ)(hN:bL B w r n)[hB:Le B w]:Calls nH 27 #[cH r n] w fun e w'=>e=.returned (.tuple #[.int .i64 (cR n),.int .i64 0])/\∃δ,w'=ah w δ:=by have HN:=qh hN;have HV:=qh hv;clear hN hv;go_enter Tryz.func27,Tryz.ntmps27;go_wp2_with (go_at_call 56;refine(EK 57 108 (dM n) (Go.Proofs.enters_of Tryz.func57 nP rfl) Im r n HV.out B _ HN.out.up (GP r n) (zu r n HV.out B)).mono ?_;rintro e w1 ⟨A,c,δ,rfl,rfl,hS⟩);go_ret2;exact⟨rfl,ag⟩
theorem PI(r:cx)(n:Net)(hv:valid n=true)(B:Nat)(w:nJ)(hN:bL B w r n)[hB:Le B w]:Calls nH 29 #[cH r n] w fun e w'=>e=.returned (.tuple #[.int .i64 (mE n),.int .i64 0])/\∃δ,w'=ah w δ:=by have HN:=qh hN;have HV:=qh hv;clear hN hv;go_enter Tryz.func29,Tryz.ntmps29;go_wp2_with (go_at_call 56;refine(EK 58 109 (eZ n) (Go.Proofs.enters_of Tryz.func58 nP rfl) S0 r n HV.out B _ HN.out.up (RI r n) (Jv r n HV.out B)).mono ?_;rintro e w1 ⟨A,c,δ,rfl,rfl,hS⟩);go_ret2;exact⟨rfl,ag⟩
theorem uK(r:cx)(n:Net)(hv:valid n=true)(B:Nat)(w:nJ)(hN:bL B w r n)[hB:Le B w]:Calls nH 28 #[cH r n] w fun e w'=>∃(A:Option Addr) (c:Nat) (δ:nJ),e=.returned (.tuple #[.slice A n.hs.length c,.int .i64 0])/\w'=ah w δ/\Hid (Sl aI (ah w δ).heap.size (ah w δ) A c (fZ n)):=by have HN:=qh hN;have HV:=qh hv;clear hN hv;go_enter Tryz.func28,Tryz.ntmps28;go_wp2_with (go_at_call 56;refine(EK 57 108 (dM n) (Go.Proofs.enters_of Tryz.func57 nP rfl) Im r n HV.out B _ HN.out.up (GP r n) (zu r n HV.out B)).mono ?_;rintro e w1 ⟨A,c,δ,rfl,rfl,hS⟩);go_ret2;exact⟨A,c,_,rfl,ai,JM hS.out.wide⟩
end
end Go.Proofs.YtpnnapeoanafdaaGreatDoor
