/- A part of the proof that the statement HeadmanRunCardSaid holds, cut small by a program (names and blanks): Htd, Hdk. -/
import Derived.Test.YtcjjlikhlmfedaaGreatDoorZ21
set_option maxRecDepth 100000
set_option maxHeartbeats 40000000
set_option linter.unusedVariables false
set_option linter.unusedSimpArgs false
namespace Go.Proofs.YtcjjlikhlmfedaaGreatDoor
open Go.RowKit
open Nat renaming le_trans → nT, lt_of_lt_of_le → nL
open Go.Proofs.Tryz renaming prog → nH
open Go renaming World → nJ, Value → nK
section
open Hd
theorem ct{w w':nJ}{base n size b:Nat}{e T:TypeId}{v:nK}{xs:List nK}{cs:Array nK}(h:w.ownsRow base e size v n xs)(k:bw (fun x=>x=b) w w')(hb:av w b T cs)(hne:T≠e):w'.ownsRow base e size v n xs:=by
 have hx:=eL h hb hne;refine⟨h.1,?_⟩;rcases h.2 with h2|⟨g,cap,cur,rfl,h1,h2,h3⟩
 ·exact .inl h2
 ·refine .inr ⟨g,cap,cur,rfl,h1,?_,h3⟩;rw[k.block g ?_ ?_]
  ·exact h2
  ·rcases Nat.lt_or_ge g w.heap.size with hlt|hge
   ·exact hlt
   ·rw[Array.getElem?_eq_none hge] at h2;cases h2
  ·rintro rfl;exact hx rfl
theorem bP{B b:Nat}{w W W':nJ}(k:bw (fun x=>x=b) W W')(hb:B<=b)[hg:aC B w W][hB:Le B W]:aC B w W':=
 ⟨⟨k.os.trans hg.out.1,k.tape.trans hg.out.2.1,k.output.trans hg.out.2.2.1,fun j hj=>(k.block j (nL hj hB.out) (fun e:j=b=>absurd (e▸hj) (Nat.not_lt.2 hb))).trans (hg.out.2.2.2 j hj)⟩⟩
theorem cK{S:Nat->Prop}{B:Nat}{W W':nJ}(k:bw S W W')[hB:Le B W]:Le B W':=⟨nT hB.out k.size⟩
theorem bI{P:Program}{W:nJ}{b:Nat}{T ty:TypeId}{cs:Array nK}{ops:Array Oper}{rest:List Oper}{o:Oper}{a:Act}{Q:Exit->Act->nJ->Prop}{n:Nat}(hT:fO P ty n)(hw:Region.wanted o (yielded ops a.tmps)=true)(x:Operand)(ho:o.op=.load ty x)(hx:a.eval x=.pointer (some ⟨b,0,none⟩))(hb:av W b T cs)(hn:cs.size=n)(h:wpList P ops Q rest (a.put o.dst (.agg cs)) W):wpList P ops Q (o::rest) a W:=by obtain⟨⟨d,h1,h2⟩,h3⟩:=hT;subst hn;refine wpList_step fun K hK=>?_;rw[if_pos hw];exact wp_load_row ty x ho b hx T cs (0,0) d hb h1 (by cases d<;>first|rfl|cases h2) h3 (hK _ _ h)
def yS(T:TypeId):Prop:=(T≠23/\T≠94/\T≠99)/\(T≠105/\T≠109)/\(T≠114/\T≠116/\T≠3)
instance(T:TypeId):Decidable (yS T):=by unfold yS;infer_instance
section
variable{base:Nat}{w:nJ}{r:aR}{t:aV}
theorem aM.aO{w':nJ}{b:Nat}{T:TypeId}{cs:Array nK}(h:aM base w r t)(k:bw (fun x=>x=b) w w')(hb:av w b T cs)(hne:yS T):aM base w' r t:=
 ⟨⟨ct h.1.1 k hb hne.1.1,ct h.1.2.1 k hb hne.1.2.1,ct h.1.2.2 k hb hne.1.2.2⟩,⟨ct h.2.1.1 k hb hne.2.1.1,ct h.2.1.2 k hb hne.2.1.2⟩,⟨ct h.2.2.1 k hb hne.2.2.1,ct h.2.2.2.1 k hb hne.2.2.2.1,ct h.2.2.2.2 k hb hne.2.2.2.2⟩⟩
theorem aM.dP{b i:Nat}{T:TypeId}{cs:Array nK}(h:aM base w r t)(hb:av w b T cs)(hne:yS T)(u:nK):aM base (w.setCell ⟨b,i,none⟩ u) r t:=h.aO ((bw.refl (fun x=>x=b) w).set (b:=b) rfl i u) hb hne
theorem aM.up{W:nJ}(h:aM base w r t)[hg:aC w.heap.size w W]:aM base W r t:=⟨h.1.up,h.2.1.up,h.2.2.up⟩
theorem aM.mono(h:aM base w r t){base':Nat}(hb:base'<=base):aM base' w r t:=⟨h.1.mono hb,h.2.1.mono hb,h.2.2.mono hb⟩
theorem aM.alloc(h:aM base w r t)(o:Obj):aM base (w.alloc o) r t:=⟨h.1.alloc o,h.2.1.alloc o,h.2.2.alloc o⟩
theorem aM.drew(h:aM base w r t):aM base w.drew r t:=h
end
theorem aM.Gc{base:Nat}{w w':nJ}{r:aR}{t:aV}{A':Option Addr}{c':Nat}{x:Me.jJ}(h:aM base w r t)(hg:w.grownBy w' (Value.slice r.ai.hA t.ai.hs.length r.ai.hc).ownBlock)(ho:w'.ownsRow base 105 4 (.slice A' (t.ai.hs.length+1) c') (t.ai.hs.length+1) (t.ai.hs.flatMap aZ++aZ x)):aM base w' ⟨r.aD,⟨A',c',r.ai.pA,r.ai.pc⟩,r.aa⟩ ⟨t.aD,⟨t.ai.m,t.ai.hs++[x],t.ai.ps⟩,t.aa⟩:=by refine⟨⟨bC h.1.1 h.2.1.1 nU hg,bC h.1.2.1 h.2.1.1 nU hg,bC h.1.2.2 h.2.1.1 nU hg⟩,⟨?_,bC h.2.1.2 h.2.1.1 nU hg⟩,⟨bC h.2.2.1 h.2.1.1 nU hg,bC h.2.2.2.1 h.2.1.1 nU hg,bC h.2.2.2.2 h.2.1.1 nU hg⟩⟩;refine QDF ?_;simpa using ho
theorem Cy{r:aR}{t:aV}{A':Option Addr}{c':Nat}{x:Me.jJ}:aF ⟨r.aD,⟨A',c',r.ai.pA,r.ai.pc⟩,r.aa⟩ ⟨t.aD,⟨t.ai.m,t.ai.hs++[x],t.ai.ps⟩,t.aa⟩=(aF r t).setIfInBounds 8 (.slice A' (t.ai.hs.length+1) c'):=by simp[aF]
theorem aM.Ga{base:Nat}{w w':nJ}{r:aR}{t:aV}{A':Option Addr}{c':Nat}{x:Me.Pr}(h:aM base w r t)(hg:w.grownBy w' (Value.slice r.ai.pA t.ai.ps.length r.ai.pc).ownBlock)(ho:w'.ownsRow base 109 2 (.slice A' (t.ai.ps.length+1) c') (t.ai.ps.length+1) (t.ai.ps.flatMap dj++dj x)):aM base w' ⟨r.aD,⟨r.ai.hA,r.ai.hc,A',c'⟩,r.aa⟩ ⟨t.aD,⟨t.ai.m,t.ai.hs,t.ai.ps++[x]⟩,t.aa⟩:=by refine⟨⟨bC h.1.1 h.2.1.2 nU hg,bC h.1.2.1 h.2.1.2 nU hg,bC h.1.2.2 h.2.1.2 nU hg⟩,⟨bC h.2.1.1 h.2.1.2 nU hg,?_⟩,⟨bC h.2.2.1 h.2.1.2 nU hg,bC h.2.2.2.1 h.2.1.2 nU hg,bC h.2.2.2.2 h.2.1.2 nU hg⟩⟩;refine QDF ?_;simpa using ho
theorem Cw{r:aR}{t:aV}{A':Option Addr}{c':Nat}{x:Me.Pr}:aF ⟨r.aD,⟨r.ai.hA,r.ai.hc,A',c'⟩,r.aa⟩ ⟨t.aD,⟨t.ai.m,t.ai.hs,t.ai.ps++[x]⟩,t.aa⟩=(aF r t).setIfInBounds 9 (.slice A' (t.ai.ps.length+1) c'):=by simp[aF]
theorem aM.Gb{base:Nat}{w w':nJ}{r:aR}{t:aV}{A':Option Addr}{c':Nat}{x:Sa.Part}(h:aM base w r t)(hg:w.grownBy w' (Value.slice r.aa.pA t.aa.parts.length r.aa.pc).ownBlock)(ho:w'.ownsRow base 116 2 (.slice A' (t.aa.parts.length+1) c') (t.aa.parts.length+1) (t.aa.parts.flatMap iX++iX x)):aM base w' ⟨r.aD,r.ai,⟨r.aa.kA,r.aa.kc,A',c',r.aa.bA,r.aa.bc⟩⟩ ⟨t.aD,t.ai,⟨t.aa.kinds,t.aa.floor,t.aa.parts++[x],t.aa.bars⟩⟩:=by refine⟨⟨bC h.1.1 h.2.2.2.1 nU hg,bC h.1.2.1 h.2.2.2.1 nU hg,bC h.1.2.2 h.2.2.2.1 nU hg⟩,⟨bC h.2.1.1 h.2.2.2.1 nU hg,bC h.2.1.2 h.2.2.2.1 nU hg⟩,⟨bC h.2.2.1 h.2.2.2.1 nU hg,?_,bC h.2.2.2.2 h.2.2.2.1 nU hg⟩⟩;refine QDF ?_;simpa using ho
theorem Cx{r:aR}{t:aV}{A':Option Addr}{c':Nat}{x:Sa.Part}:aF ⟨r.aD,r.ai,⟨r.aa.kA,r.aa.kc,A',c',r.aa.bA,r.aa.bc⟩⟩ ⟨t.aD,t.ai,⟨t.aa.kinds,t.aa.floor,t.aa.parts++[x],t.aa.bars⟩⟩=(aF r t).setIfInBounds 12 (.slice A' (t.aa.parts.length+1) c'):=by simp[aF]
theorem aM.Gd{base:Nat}{w w':nJ}{r:aR}{t:aV}{A':Option Addr}{c':Nat}{x:Int}(h:aM base w r t)(hg:w.grownBy w' (Value.slice r.aa.bA t.aa.bars.length r.aa.bc).ownBlock)(ho:w'.ownsRow base 3 1 (.slice A' (t.aa.bars.length+1) c') (t.aa.bars.length+1) (t.aa.bars.flatMap aH++aH x)):aM base w' ⟨r.aD,r.ai,⟨r.aa.kA,r.aa.kc,r.aa.pA,r.aa.pc,A',c'⟩⟩ ⟨t.aD,t.ai,⟨t.aa.kinds,t.aa.floor,t.aa.parts,t.aa.bars++[x]⟩⟩:=by refine⟨⟨bC h.1.1 h.2.2.2.2 nU hg,bC h.1.2.1 h.2.2.2.2 nU hg,bC h.1.2.2 h.2.2.2.2 nU hg⟩,⟨bC h.2.1.1 h.2.2.2.2 nU hg,bC h.2.1.2 h.2.2.2.2 nU hg⟩,⟨bC h.2.2.1 h.2.2.2.2 nU hg,bC h.2.2.2.1 h.2.2.2.2 nU hg,?_⟩⟩;refine QDF ?_;simpa using ho
theorem Cz{r:aR}{t:aV}{A':Option Addr}{c':Nat}{x:Int}:aF ⟨r.aD,r.ai,⟨r.aa.kA,r.aa.kc,r.aa.pA,r.aa.pc,A',c'⟩⟩ ⟨t.aD,t.ai,⟨t.aa.kinds,t.aa.floor,t.aa.parts,t.aa.bars++[x]⟩⟩=(aF r t).setIfInBounds 13 (.slice A' (t.aa.bars.length+1) c'):=by simp[aF]
theorem aM.IY{base:Nat}{w:nJ}{r:aR}{t:aV}(h:aM base w r t):w.ownsRow base 105 4 (.slice r.ai.hA t.ai.hs.length r.ai.hc) t.ai.hs.length (t.ai.hs.flatMap aZ):=h.2.1.1
theorem aM.IV{base:Nat}{w:nJ}{r:aR}{t:aV}(h:aM base w r t):w.ownsRow base 109 2 (.slice r.ai.pA t.ai.ps.length r.ai.pc) t.ai.ps.length (t.ai.ps.flatMap dj):=h.2.1.2
theorem aM.IW{base:Nat}{w:nJ}{r:aR}{t:aV}(h:aM base w r t):w.ownsRow base 116 2 (.slice r.aa.pA t.aa.parts.length r.aa.pc) t.aa.parts.length (t.aa.parts.flatMap iX):=h.2.2.2.1
theorem aM.IZ{base:Nat}{w:nJ}{r:aR}{t:aV}(h:aM base w r t):w.ownsRow base 3 1 (.slice r.aa.bA t.aa.bars.length r.aa.bc) t.aa.bars.length (t.aa.bars.flatMap aH):=h.2.2.2.2
theorem zD{r:aR}{t:aV}{i:Nat}{x:An.ze}:aF r ⟨⟨t.aD.aN,t.aD.cur,t.aD.au,t.aD.ay.set i x,t.aD.aQ⟩,t.ai,t.aa⟩=aF r t:=by simp[aF]
theorem gL{t:aV}(hv:aG t=true):Small t:=by obtain⟨v1,v2,v3⟩:=cq.1 hv;have a:=An.az.1 v1;have b:=Me.az.1 v2;have c:=Sa.az.1 v3;unfold Small;refine⟨⟨nQ,nQ,?_⟩,⟨nQ,nQ⟩,⟨nQ,nQ,nQ⟩⟩;have:=a.2.2.2.2.1;omega
theorem IU{w:nJ}{base n size g c:Nat}{e:TypeId}{xs:List nK}(h:w.ownsRow base e size (.slice (some ⟨g,0,none⟩) n c) n xs):∃cs,av w g e cs:=by
 rcases h.2 with⟨hv,_⟩|⟨g',cap',cur,hv,h1,h2,_⟩
 ·cases hv
 ·injection hv with hA _ hc;injection hA with hA;injection hA with hg;subst hg;exact⟨cur,h2⟩
theorem aM.Fz{base g:Nat}{w w':nJ}{r:aR}{t:aV}{l:List An.ze}(h:aM base w r t)(hA:r.aD.aA=some ⟨g,0,none⟩)(k:bw (fun x=>x=g) w w')(ho:w'.ownsRow base 94 2 (.slice (some ⟨g,0,none⟩) l.length r.aD.ac) l.length (l.flatMap cG)):aM base w' r ⟨⟨t.aD.aN,t.aD.cur,t.aD.au,l,t.aD.aQ⟩,t.ai,t.aa⟩:=by have hx:=h.1.2.1;rw[hA] at hx;obtain⟨cs,hb⟩:=IU hx;refine⟨⟨ct h.1.1 k hb nU,?_,ct h.1.2.2 k hb nU⟩,⟨ct h.2.1.1 k hb nU,ct h.2.1.2 k hb nU⟩,⟨ct h.2.2.1 k hb nU,ct h.2.2.2.1 k hb nU,ct h.2.2.2.2 k hb nU⟩⟩;show w'.ownsRow _ _ _ (.slice r.aD.aA _ _) _ _;rw[hA];exact ho
theorem vo{t:aV}{c:eH}(h:jF t c=none):gZ t c=none:=by unfold gZ;rw[h]
def cC(r:aR)(t:aV)(w:nJ)(r':aR)(t':aV)(W:nJ):Prop:=(r'=r/\t'=t)\/aM w.heap.size W r' t'
def fS(r:aR)(t:aV)(c:eH)(w:nJ)(e:Ending)(w':nJ):Prop:=
 ∃(r':aR) (δ:nJ),e=.returned (.tuple #[aX r' (kf t c),.bool (gZ t c).isSome])/\w'=af w δ/\cC r t w r' (kf t c) (af w δ)
theorem mZ{r:aR}{t:aV}{c:eH}{w W:nJ}(h:gZ t c=none)(hl:∃δ,W=af w δ):fS r t c w (.returned (.tuple #[aX r t,.bool false])) W:=by
 obtain⟨δ,rfl⟩:=hl;have hd:kf t c=t:=by unfold kf;rw[h];rfl
 exact⟨r,δ,by rw[hd,h];rfl,rfl,.inl ⟨rfl,hd⟩⟩
theorem mq{r r':aR}{t o:aV}{c:eH}{w W:nJ}(h:gZ t c=some o)[aC w.heap.size w W][Le w.heap.size W](ho:aM w.heap.size W r' o):fS r t c w (.returned (.tuple #[aX r' o,.bool true])) W:=by
 have hd:kf t c=o:=by unfold kf;rw[h];rfl
 refine⟨r',W,by rw[hd,h];rfl,aq,.inr ?_⟩;rw[<-aq (w:=w),hd];exact ho
theorem qa{t o:aV}{c:eH}(h:jF t c=some o):gZ t c=if aG o=true then some o else none:=by unfold gZ;rw[h]
end
section
open Hd
theorem av.oP{g:Nat}{T:TypeId}(vs:List nK):∀ {w:nJ} {cs:Array nK} (o:Nat),av w g T cs->o+vs.length<=cs.size->∃cs',av (w.setCells g o vs) g T cs'/\cs'.size=cs.size/\cs'.toList=cs.toList.take o++vs++cs.toList.drop (o+vs.length):=by
 induction vs with
 |nil=>intro w cs o h _;exact⟨cs,h,rfl,nV⟩
 |cons v vs ih=>
  intro w cs o h hl
  simp only[List.length_cons] at hl
  obtain⟨cs',h1,h2,h3⟩:=ih (o+1) (h.set o v) (by rw[Array.size_setIfInBounds];omega)
  refine⟨cs',h1,by rw[h2,Array.size_setIfInBounds],?_⟩
  rw[h3,Array.toList_setIfInBounds]
  have ho:o<cs.toList.length:=by rw[Array.length_toList];omega
  rw[List.take_set,List.drop_set_of_lt nQ,List.length_cons,show o+1+vs.length=o+(vs.length+1) by omega]
  have e:cs.toList.take (o+1)=cs.toList.take o++[cs.toList[o]]:=by rw[List.take_succ_eq_append_getElem ho]
  have hm:min o cs.size=o:=by rw[Array.length_toList] at ho;omega
  rw[e,List.set_append_right _ _ (by rw[List.length_take];omega)]
  simp[hm]
theorem bw.setCells{g:Nat}(vs:List nK):∀(A B:nJ) (o:Nat),bw (fun x=>x=g) A B->bw (fun x=>x=g) A (B.setCells g o vs):=by
 induction vs with
 |nil=>intro A B o h;exact h
 |cons v vs ih=>intro A B o h;exact ih _ _ _ (h.set (b:=g) rfl o v)
section
variable{P:Program}{W:nJ}{b o:Nat}{T ty:TypeId}{cs cs' Ug:Array nK}{ops:Array Oper}{rest:List Oper}{op:Oper}{a:Act}{Q:Exit->Act->nJ->Prop}{n:Nat}
theorem av.range(hb:av W b T cs)(he:(cs.toList.drop o).take n=cs'.toList):W.rangeAt b o cs'.toList:=fun j v hj=>by
 refine hb.cell ?_;rw[<-he,List.getElem?_take] at hj;split at hj
 ·rw[List.getElem?_drop] at hj;rw[<-Array.getElem?_toList];exact hj
 ·cases hj
theorem bY(hT:fO P ty n)(hgd:op.guard=none)(x:Operand)(ho:op.op=.load ty x)(hx:a.eval x=.pointer (some ⟨b,o,none⟩))(hb:av W b T cs)(he:(cs.toList.drop o).take n=cs'.toList)(hn:cs'.size=n)(h:wpList P ops Q rest (a.put op.dst (.agg cs')) W):wpList P ops Q (op::rest) a W:=by obtain⟨⟨d,h1,h2⟩,h3⟩:=hT;subst hn;exact wpList_load_mid hgd ty x ho b o hx cs'.toList d (hb.range he) h1 h2 (by rw[h3];simp) (by simpa using h)
theorem lJ(hT:fO P ty n)(hgd:op.guard=none)(x y:Operand)(ho:op.op=.store ty x y)(hx:a.eval x=.pointer (some ⟨b,o,none⟩))(hy:a.eval y=.agg cs')(hb:av W b T cs)(hn:cs'.size=n)(hl:o+n<=cs.size)(h1:cs'.all (·.oneCell')=true)(he:cs.toList.take o++cs'.toList++cs.toList.drop (o+n)=Ug.toList)(h:∀W',av W' b T Ug->bw (fun x=>x=b) W W'->wpList P ops Q rest (a.put op.dst undef) W'):wpList P ops Q (op::rest) a W:=by
 obtain⟨_,h3⟩:=hT;subst hn;refine wpList_store_mid hgd ty x y ho b o cs' hx hy ?_ h3 h1 ?_
 ·intro j hj;have hj':o+j<cs.size:=nQ;exact⟨by rw[hb.cell (i:=o+j) (v:=cs[o+j]) (by rw[Array.getElem?_eq_getElem hj'])];rfl,hb.free _⟩
 ·obtain⟨c3,k1,k2,k3⟩:=av.oP cs'.toList o hb (by simpa using hl);have:c3=Ug:=Array.toList_inj.1 (by rw[k3,<-he];simp);subst this;exact h _ k1 (bw.setCells _ _ _ _ (bw.refl _ _))
end
section
variable{P:Program}{W:nJ}{b:Nat}{T ty:TypeId}{cs cs':Array nK}{ops:Array Oper}{o:Oper}{a:Act}{n:Nat}
theorem gx{S:nJ->Prop}(hT:fO P ty n)(hw:Region.wanted o (yielded ops a.tmps)=true)(x:Operand)(ho:o.op=.load ty x)(hx:a.eval x=.pointer (some ⟨b,0,none⟩))(hS:∀w,S w->av w b T cs)(hn:cs.size=n):YieldsIf P ops S o (.agg cs) a:=by obtain⟨⟨d,h1,h2⟩,h3⟩:=hT;subst hn;refine yieldsIf_load_mid hw ty x ho b 0 hx cs.toList d (fun w h=>(hS w h).range (n:=cs.size) ?_) h1 h2 (by rw[h3];simp);rw[List.drop_zero,List.take_of_length_le nV]
theorem kF{K:Act->nJ->Prop}{Q:Exit->Act->nJ->Prop}(hT:fO P ty n)(x y:Operand)(ho:o.op=.store ty x y)(hx:a.eval x=.pointer (some ⟨b,0,none⟩))(hy:a.eval y=.agg cs')(hb:av W b T cs)(hn:cs.size=n)(hn':cs'.size=n)(h1:cs'.all (·.oneCell')=true)(h:∀W',av W' b T cs'->bw (fun x=>x=b) W W'->K (a.put o.dst undef) W'):o.wp P a W K Q:=by obtain⟨_,h3⟩:=hT;subst hn;exact wp_store_row ty x y ho b cs' hx hy T cs hb (by rw[hn'];exact h3) hn'.symm h1 (h _ (hb.setRow cs') (bw.setRow _ _ _))
end
theorem cC.from_{r r':aR}{t t':aV}{w w1 W:nJ}(h:cC r t w1 r' t' W)(hl:w.heap.size<=w1.heap.size):cC r t w r' t' W:=h.imp id fun o=>o.mono hl
theorem yF{W W':nJ}{B b:Nat}{xs:List nK}{ob:Option Nat}(h:Cells W B (some ⟨b,0,none⟩) xs)(hlt:b<W.heap.size)(hg:W.grownBy W' ob)(hne:ob≠some b):Cells W' B (some ⟨b,0,none⟩) xs:=fun hx=>by obtain⟨b',o,e,hb,hc⟩:=h hx;injection e with e;injection e with e1 e2;subst e1;exact⟨_,o,by rw[e2],hb,fun j v hj=>(World.cell?_of_block (a:=⟨_,_,none⟩) (hg.block _ hlt (fun e'=>hne e'.symm))).trans (hc j v hj)⟩
theorem No{W2 W':nJ}{e T g:Nat}{arr:Array nK}{ob:Option Nat}(hg':g=W2.heap.size+1)(hg:((W2.alloc (.cells #[] e)).alloc (.cells arr T)).drew.grownBy W' ob)(hne:ob≠some g):Cells W' (g+1) (some ⟨g,0,none⟩) arr.toList:=by have h1:(W2.alloc (.cells #[] e)).heap.size=W2.heap.size+1:=nW;have h2:((W2.alloc (.cells #[] e)).alloc (.cells arr T)).heap.size=W2.heap.size+1+1:=nW;have h3:Cells ((W2.alloc (.cells #[] e)).alloc (.cells arr T)).drew (g+1) (some ⟨g,0,none⟩) arr.toList:=fZ (W:=W2.alloc (.cells #[] e)) nQ;exact yF h3 (by show g<((W2.alloc (.cells #[] e)).alloc (.cells arr T)).heap.size;omega) hg hne
theorem Kz{W2 W':nJ}{e T g:Nat}{arr:Array nK}{ob:Option Nat}(hg':g=W2.heap.size)(hg:((W2.alloc (.cells arr T)).alloc (.cells #[] e)).drew.grownBy W' ob)(hne:ob≠some g):Cells W' (g+1) (some ⟨g,0,none⟩) arr.toList:=by
 have h1:(W2.alloc (.cells arr T)).heap.size=W2.heap.size+1:=nW;have h2:((W2.alloc (.cells arr T)).alloc (.cells #[] e)).heap.size=W2.heap.size+1+1:=nW;have h3:Cells ((W2.alloc (.cells arr T)).alloc (.cells #[] e)).drew (g+1) (some ⟨g,0,none⟩) arr.toList:=fun hx=>by
  obtain⟨b',o,e',hb,hc⟩:=fZ (W:=W2) (arr:=arr) (T:=T) (g:=g) nQ hx;injection e' with e';injection e' with e1 e2;subst e1;exact⟨_,o,by rw[e2],hb,fun j v hj=>by
   have hx:=hc j v hj
   have hlt:g<(W2.alloc (.cells arr T)).heap.size:=nQ
   show((W2.alloc (.cells arr T)).alloc (.cells #[] e)).cell? _=_
   rw[World.cell?_alloc_past _ _ _ hlt]
   exact hx⟩
 exact yF h3 (by show g<((W2.alloc (.cells arr T)).alloc (.cells #[] e)).heap.size;omega) hg hne
structure cH where
 ax:aR
 oA:Option Addr
 oc:Nat
def bX(k:cH)(d:cU):Array nK:=#[.int .i64 d.ax.aD.aN.lo,.int .i64 d.ax.aD.aN.hi,.int .i64 d.ax.aD.cur.lo,.int .i64 d.ax.aD.cur.hi,
 .slice k.ax.aD.gA d.ax.aD.au.length k.ax.aD.gc,.slice k.ax.aD.aA d.ax.aD.ay.length k.ax.aD.ac,.slice k.ax.aD.wA d.ax.aD.aQ.length k.ax.aD.wc,
 .int .i64 d.ax.ai.m,.slice k.ax.ai.hA d.ax.ai.hs.length k.ax.ai.hc,.slice k.ax.ai.pA d.ax.ai.ps.length k.ax.ai.pc,
 .slice k.ax.aa.kA d.ax.aa.kinds.length k.ax.aa.kc,.int .i64 d.ax.aa.floor,.slice k.ax.aa.pA d.ax.aa.parts.length k.ax.aa.pc,.slice k.ax.aa.bA d.ax.aa.bars.length k.ax.aa.bc,
 .slice k.oA d.aB.length k.oc,.int .i64 (d.given:Nat)]
abbrev gr(k:cH)(d:cU):nK:=.agg (bX k d)
theorem bQ:fO nH 53 16:=fO.mk' Tryz.underlying53 rfl nP
theorem rowWords:fO nH 159 3:=fO.mk' Tryz.underlying159 rfl nP
theorem cO(k:cH)(d:cU):(bX k d).all (·.oneCell')=true:=by simp[bX,Value.oneCell']
theorem eo(k:cH)(d:cU):((bX k d).toList.drop 0).take 14=(aF k.ax d.ax).toList:=rfl
theorem yp(k:cH)(d:cU)(r:aR)(t:aV):(bX k d).toList.take 0++(aF r t).toList++(bX k d).toList.drop (0+14)=(bX ⟨r,k.oA,k.oc⟩ ⟨t,d.aB,d.given⟩).toList:=rfl
theorem yq(k:cH)(d:cU):0+14<=(bX k d).size:=by show 0+14<=16;decide
def kQ:cU:=⟨cL,[],0⟩
def kP:cH:=⟨cV,none,0⟩
abbrev dG(w:nJ)(A:Option Addr)(c:Nat)(os:List Ord):Prop:=fm 73 kz w.heap.size w A c os
theorem MM{W:nJ}{base c:Nat}{A:Option Addr}{os:List Ord}{o:Ord}(h:W.ownsRow base 73 2 (.slice A (os.length+1) c) (os.length+1) (os.flatMap kz++kz o)):dG W A c (os++[o]):=by refine fm.bW (base:=base) (size:=2) (n:=os.length+1) ?_ nV;rw[List.flatMap_append];simpa using h
theorem Hp{k:cH}{d:cU}{A:Option Addr}{c:Nat}{o:Ord}:bX ⟨k.ax,A,c⟩ ⟨d.ax,d.aB++[o],d.given⟩=(bX k d).setIfInBounds 14 (.slice A (d.aB.length+1) c):=by simp[bX]
theorem sN{p:Ord->Bool}:∀ {os:List Ord} {j:Nat},j<os.length->p (nth os j)=true->(∀m,m<j->p (nth os m)=false)->os.findIdx? p=some j
 |[],j,h,_,_=>absurd h (Nat.not_lt_zero _)
 |x::xs,0,_,h,_=>by have h:p x=true:=h;rw[List.findIdx?_cons,if_pos h]
 |x::xs,j+1,hl,h,hn=>by have h0:p x=false:=hn 0 (Nat.succ_pos _);rw[List.findIdx?_cons,if_neg (by rw[h0];decide),sN (os:=xs) (j:=j) (Nat.lt_of_succ_lt_succ hl) h fun m hm=>hn (m+1) (Nat.succ_lt_succ hm)];rfl
theorem sO{p:Ord->Bool}:∀ {os:List Ord},(∀m,m<os.length->p (nth os m)=false)->os.findIdx? p=none
 |[],_=>rfl
 |x::xs,hn=>by have h0:p x=false:=hn 0 (Nat.succ_pos _);rw[List.findIdx?_cons,if_neg (by rw[h0];decide),sO (os:=xs) fun m hm=>hn (m+1) (Nat.succ_lt_succ hm)];rfl
section
variable{w W W':nJ}{r r':aR}{t t':aV}{B:Nat}
theorem cC.aO{b:Nat}{T:TypeId}{cs:Array nK}(h:cC r t w r' t' W)(k:bw (fun x=>x=b) W W')(hb:av W b T cs)(hne:yS T):cC r t w r' t' W':=
 h.imp id fun o=>o.aO k hb hne
theorem cC.up(h:cC r t w r' t' W)[hg:aC W.heap.size W W']:cC r t w r' t' W':=h.imp id fun o=>o.up
theorem cC.Wz(h:cC r t w r' t' W):cC r t w r' t' W.drew:=h
theorem cC.refl:cC r t w r t W:=.inl ⟨rfl,rfl⟩
theorem cC.is(h:cC r t w r' t' W)(hT:aI B w r t)[hg:aC B w W][hB:Le B W]:aI W.heap.size W r' t':=by
 rcases h with⟨rfl,rfl⟩|h
 ·exact hT.wide
 ·exact h.is
theorem cC.trans{r'':aR}{t'':aV}(h:cC r t w r' t' W)(k:cC r' t' W r'' t'' W')(hl:w.heap.size<=W.heap.size)[hg:aC W.heap.size W W']:cC r t w r'' t'' W':=by
 rcases k with⟨rfl,rfl⟩|k
 ·exact h.up
 ·exact .inr (k.mono hl)
end
theorem o7{l:bL}{c:eH}(h:di l=.cmd c):WG c:=by
 unfold di dZ at h;split at h
 ·split at h
  ·split at h
   ·cases h
   ·unfold oX at h;split at h
    ·split at h<;>cases h
    ·cases h
  ·cases h
 ·split at h
  ·injection h with h;subst h;rename_i hc;exact yA hc
  ·cases h
def eF(k:cH)(d:cU)(w:nJ)(x:cU × bL)(e:Ending)(w':nJ):Prop:=
 ∃(k':cH) (δ:nJ),e=.returned (.tuple #[gr k' x.1,.string (str x.2)])/\w'=af w δ/\cC k.ax d.ax w k'.ax x.1.ax (af w δ)/\dG (af w δ) k'.oA k'.oc x.1.aB
theorem iK{k k':cH}{d d':cU}{w W:nJ}{x:cU × bL}{s:ByteArray}[aC w.heap.size w W][Le w.heap.size W](hx:x.1=d')(hs:s=str x.2)(hT:cC k.ax d.ax w k'.ax d'.ax W)(hO:dG W k'.oA k'.oc d'.aB):eF k d w x (.returned (.tuple #[gr k' d',.string s])) W:=by
 subst hx;subst hs;refine⟨k',W,rfl,aq,?_,?_⟩
 ·rw[<-aq (w:=w)];exact hT
 ·rw[<-aq (w:=w)];exact hO
theorem vA(os:List Ord)(i:Nat)(hi:i<os.length)(h5:os.length<=1000)(A:Option Addr)(c:Nat)(B:Nat)(w:nJ)(hS:Sl kz B w A c os)[hB:Le B w]:Calls nH 96 #[.slice A os.length c,.int .i64 i] w fun e w'=>∃A' c' δ,e=.returned (.slice A' (os.eraseIdx i).length c')/\w'=af w δ/\dG (af w δ) A' c' (os.eraseIdx i):=by
 obtain⟨b,o,rfl,hb,_⟩:=hS.order hi;have HS:=qh hS;have hcc:os.length<=c:=hS.1;obtain⟨u,hu⟩:∃u,u=i+1:=⟨_,rfl⟩;have hw1:IntKind.i64.wrap ((i:Int)+1)=(u:Int):=by rw[IntWalk.i64_in _ nQ];omega
 have hui:(u:Int)<=(os.length:Int):=nQ;have hic:(i:Int)<=(c:Int):=nQ;obtain⟨A2,uo⟩:∃A2,(if c=u then some (⟨b,o,none⟩:Addr) else some ⟨b,o+u*2,none⟩)=A2:=⟨_,rfl⟩;have me:Hid (Sl kz B w (some ⟨b,o,none⟩) c (os.take i)):=qh (hS.take i);have zw:Hid (Sl kz B w A2 (c-u) (os.drop u)):=by have:=hS.drop qR u nQ;rw[<-uo];exact qh (by simpa [Addr.add_lit] using this)
 have qv:Hid ((os.take i).length=i):=qh (by rw[List.length_take];omega);have pJ:Hid ((os.drop u).length=os.length-u):=qh (by rw[List.length_drop]);have HE:Hid (os.eraseIdx i=os.take i++os.drop u):=qh (by rw[hu,List.eraseIdx_eq_take_drop_succ]);have SA:Hid (((os.take i).flatMap kz).length=i*2):=qh (by rw[cg kz 2 qR,qv.out]);have Ci:Hid (((os.drop u).flatMap kz).length=(os.length-u)*2):=qh (by rw[cg kz 2 qR,pJ.out]);have hi1:i<=1000:=nQ;have hi2:i+(os.length-u)<=1000:=nQ;clear hS hu hb;go_enter Tryz.func96,Tryz.ntmps96;go_upto_region 1 with fail;go_region_held3 (fun _=>True) (trivial)
  (first|(refine fh w Vg (.tmp 5) (.tmp 8) rfl rfl (v:=.slice (some ⟨_,0,none⟩) 0 0) (by first|exact cx nW nW|exact(cx nW nW).alloc _) rfl (B:=B) (A:=some ⟨b,o,none⟩) (m:=i) (c:=c) (news:=(os.take i).flatMap kz) rfl (me.out.up.2.2) SA.out (dS kz tL _) nQ nQ ?_;intro A1 c1 δ1 ei hg1)|(refine cQ w Vg (.tmp 9) (.tmp 13) rfl rfl (v:=.slice A1 i c1) (n:=i) (xs:=(os.take i).flatMap kz) (by first|exact ei|exact ei.alloc _) rfl (B:=B) (A:=A2) (m:=os.length-u) (c:=c-u) (news:=(os.drop u).flatMap kz) rfl (zw.out.up.2.2) Ci.out (dS kz tL _) nQ nQ ?_;intro A3 c3 δ3 jB qj))
 all_goals
  go_wp2_with fail;go_ret;refine⟨A3,c3,_,?_,aq,?_⟩
  ·rw[HE.out,List.length_append,qv.out,pJ.out];rfl
  ·rw[<-aq (w:=w),HE.out];refine fm.bW (base:=w.heap.size) (size:=2) (n:=i+(os.length-u)) ?_ (by rw[List.length_append,qv.out,pJ.out]);rw[List.flatMap_append];exact jB
end
end Go.Proofs.YtcjjlikhlmfedaaGreatDoor
