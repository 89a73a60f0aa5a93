/- A part of the proof that a law of layer 12 holds, cut small by a program (names and blanks): Htd, Hdk. -/
import Derived.Test.YtdmedlkonaclnaaGreatDoorZ21
set_option maxRecDepth 100000
set_option maxHeartbeats 40000000
set_option linter.unusedVariables false
set_option linter.unusedSimpArgs false
namespace Go.Proofs.YtdmedlkonaclnaaGreatDoor
open Go.RowKit
open Nat renaming le_trans → nT, lt_of_lt_of_le → nL
open Go.Proofs.Tryz renaming prog → nH
open Go renaming World → nJ, Value → nK
section
open Hd
theorem cH{w w':nJ}{base n size b:Nat}{e T:TypeId}{v:nK}{xs:List nK}{cs:Array nK}(h:w.ownsRow base e size v n xs)(k:bH (fun x=>x=b) w w')(hb:ax w b T cs)(hne:T≠e):w'.ownsRow base e size v n xs:=by
 have hx:=eZ h hb hne;refine⟨h.1,?_⟩;rcases h.2 with h2|⟨g,cap,cur,rfl,h1,h2,h3⟩
 ·exact .inl h2
 ·refine .inr ⟨g,cap,cur,rfl,h1,?_,h3⟩;rw[k.block g ?_ ?_]
  ·exact h2
  ·rcases Nat.lt_or_ge g w.heap.size with hlt|hge
   ·exact hlt
   ·rw[Array.getElem?_eq_none hge] at h2;cases h2
  ·rintro rfl;exact hx rfl
theorem cm{B b:Nat}{w W W':nJ}(k:bH (fun x=>x=b) W W')(hb:B<=b)[hg:au B w W][hB:Le B W]:au B w W':=
 ⟨⟨k.os.trans hg.out.1,k.tape.trans hg.out.2.1,k.output.trans hg.out.2.2.1,fun j hj=>(k.block j (nL hj hB.out) (fun e:j=b=>absurd (e▸hj) (Nat.not_lt.2 hb))).trans (hg.out.2.2.2 j hj)⟩⟩
theorem dB{S:Nat->Prop}{B:Nat}{W W':nJ}(k:bH S W W')[hB:Le B W]:Le B W':=⟨nT hB.out k.size⟩
theorem aT{P:Program}{W:nJ}{b:Nat}{T ty:TypeId}{cs:Array nK}{ops:Array Oper}{rest:List Oper}{o:Oper}{a:Act}{Q:Exit->Act->nJ->Prop}{n:Nat}(hT:fT P ty n)(hw:Region.wanted o (yielded ops a.tmps)=true)(x:Operand)(ho:o.op=.load ty x)(hx:a.eval x=.pointer (some ⟨b,0,none⟩))(hb:ax W b T cs)(hn:cs.size=n)(h:wpList P ops Q rest (a.put o.dst (.agg cs)) W):wpList P ops Q (o::rest) a W:=by obtain⟨⟨d,h1,h2⟩,h3⟩:=hT;subst hn;refine wpList_step fun K hK=>?_;rw[if_pos hw];exact wp_load_row ty x ho b hx T cs (0,0) d hb h1 (by cases d<;>first|rfl|cases h2) h3 (hK _ _ h)
def AZ(T:TypeId):Prop:=(T≠23/\T≠47/\T≠149)/\(T≠93/\T≠95)/\(T≠152/\T≠74/\T≠3)
instance(T:TypeId):Decidable (AZ T):=by unfold AZ;infer_instance
section
variable{base:Nat}{w:nJ}{r:aQ}{t:aW}
theorem aK.aR{w':nJ}{b:Nat}{T:TypeId}{cs:Array nK}(h:aK base w r t)(k:bH (fun x=>x=b) w w')(hb:ax w b T cs)(hne:AZ T):aK base w' r t:=
 ⟨⟨cH h.1.1 k hb hne.1.1,cH h.1.2.1 k hb hne.1.2.1,cH h.1.2.2 k hb hne.1.2.2⟩,⟨cH h.2.1.1 k hb hne.2.1.1,cH h.2.1.2 k hb hne.2.1.2⟩,⟨cH h.2.2.1 k hb hne.2.2.1,cH h.2.2.2.1 k hb hne.2.2.2.1,cH h.2.2.2.2 k hb hne.2.2.2.2⟩⟩
theorem aK.ep{b i:Nat}{T:TypeId}{cs:Array nK}(h:aK base w r t)(hb:ax w b T cs)(hne:AZ T)(u:nK):aK base (w.setCell ⟨b,i,none⟩ u) r t:=h.aR ((bH.refl (fun x=>x=b) w).set (b:=b) rfl i u) hb hne
theorem aK.up{W:nJ}(h:aK base w r t)[hg:au w.heap.size w W]:aK base W r t:=⟨h.1.up,h.2.1.up,h.2.2.up⟩
theorem aK.mono(h:aK base w r t){base':Nat}(hb:base'<=base):aK base' w r t:=⟨h.1.mono hb,h.2.1.mono hb,h.2.2.mono hb⟩
theorem aK.alloc(h:aK base w r t)(o:Obj):aK base (w.alloc o) r t:=⟨h.1.alloc o,h.2.1.alloc o,h.2.2.alloc o⟩
theorem aK.drew(h:aK base w r t):aK base w.drew r t:=h
end
theorem aK.Jk{base:Nat}{w w':nJ}{r:aQ}{t:aW}{A':Option Addr}{c':Nat}{x:Me.kE}(h:aK base w r t)(hg:w.grownBy w' (Value.slice r.ah.hA t.ah.hs.length r.ah.hc).ownBlock)(ho:w'.ownsRow base 93 4 (.slice A' (t.ah.hs.length+1) c') (t.ah.hs.length+1) (t.ah.hs.flatMap bB++bB x)):aK base w' ⟨r.aF,⟨A',c',r.ah.pA,r.ah.pc⟩,r.aa⟩ ⟨t.aF,⟨t.ah.m,t.ah.hs++[x],t.ah.ps⟩,t.aa⟩:=by refine⟨⟨bV h.1.1 h.2.1.1 nU hg,bV h.1.2.1 h.2.1.1 nU hg,bV h.1.2.2 h.2.1.1 nU hg⟩,⟨?_,bV h.2.1.2 h.2.1.1 nU hg⟩,⟨bV h.2.2.1 h.2.1.1 nU hg,bV h.2.2.2.1 h.2.1.1 nU hg,bV h.2.2.2.2 h.2.1.1 nU hg⟩⟩;refine QDF ?_;simpa using ho
theorem EK{r:aQ}{t:aW}{A':Option Addr}{c':Nat}{x:Me.kE}:aE ⟨r.aF,⟨A',c',r.ah.pA,r.ah.pc⟩,r.aa⟩ ⟨t.aF,⟨t.ah.m,t.ah.hs++[x],t.ah.ps⟩,t.aa⟩=(aE r t).setIfInBounds 8 (.slice A' (t.ah.hs.length+1) c'):=by simp[aE]
theorem aK.Ji{base:Nat}{w w':nJ}{r:aQ}{t:aW}{A':Option Addr}{c':Nat}{x:Me.Pr}(h:aK base w r t)(hg:w.grownBy w' (Value.slice r.ah.pA t.ah.ps.length r.ah.pc).ownBlock)(ho:w'.ownsRow base 95 2 (.slice A' (t.ah.ps.length+1) c') (t.ah.ps.length+1) (t.ah.ps.flatMap dH++dH x)):aK base w' ⟨r.aF,⟨r.ah.hA,r.ah.hc,A',c'⟩,r.aa⟩ ⟨t.aF,⟨t.ah.m,t.ah.hs,t.ah.ps++[x]⟩,t.aa⟩:=by refine⟨⟨bV h.1.1 h.2.1.2 nU hg,bV h.1.2.1 h.2.1.2 nU hg,bV h.1.2.2 h.2.1.2 nU hg⟩,⟨bV h.2.1.1 h.2.1.2 nU hg,?_⟩,⟨bV h.2.2.1 h.2.1.2 nU hg,bV h.2.2.2.1 h.2.1.2 nU hg,bV h.2.2.2.2 h.2.1.2 nU hg⟩⟩;refine QDF ?_;simpa using ho
theorem EI{r:aQ}{t:aW}{A':Option Addr}{c':Nat}{x:Me.Pr}:aE ⟨r.aF,⟨r.ah.hA,r.ah.hc,A',c'⟩,r.aa⟩ ⟨t.aF,⟨t.ah.m,t.ah.hs,t.ah.ps++[x]⟩,t.aa⟩=(aE r t).setIfInBounds 9 (.slice A' (t.ah.ps.length+1) c'):=by simp[aE]
theorem aK.Jj{base:Nat}{w w':nJ}{r:aQ}{t:aW}{A':Option Addr}{c':Nat}{x:Sa.Part}(h:aK base w r t)(hg:w.grownBy w' (Value.slice r.aa.pA t.aa.parts.length r.aa.pc).ownBlock)(ho:w'.ownsRow base 74 2 (.slice A' (t.aa.parts.length+1) c') (t.aa.parts.length+1) (t.aa.parts.flatMap jD++jD x)):aK base w' ⟨r.aF,r.ah,⟨r.aa.kA,r.aa.kc,A',c',r.aa.bA,r.aa.bc⟩⟩ ⟨t.aF,t.ah,⟨t.aa.kinds,t.aa.floor,t.aa.parts++[x],t.aa.bars⟩⟩:=by refine⟨⟨bV h.1.1 h.2.2.2.1 nU hg,bV h.1.2.1 h.2.2.2.1 nU hg,bV h.1.2.2 h.2.2.2.1 nU hg⟩,⟨bV h.2.1.1 h.2.2.2.1 nU hg,bV h.2.1.2 h.2.2.2.1 nU hg⟩,⟨bV h.2.2.1 h.2.2.2.1 nU hg,?_,bV h.2.2.2.2 h.2.2.2.1 nU hg⟩⟩;refine QDF ?_;simpa using ho
theorem EJ{r:aQ}{t:aW}{A':Option Addr}{c':Nat}{x:Sa.Part}:aE ⟨r.aF,r.ah,⟨r.aa.kA,r.aa.kc,A',c',r.aa.bA,r.aa.bc⟩⟩ ⟨t.aF,t.ah,⟨t.aa.kinds,t.aa.floor,t.aa.parts++[x],t.aa.bars⟩⟩=(aE r t).setIfInBounds 12 (.slice A' (t.aa.parts.length+1) c'):=by simp[aE]
theorem aK.Jl{base:Nat}{w w':nJ}{r:aQ}{t:aW}{A':Option Addr}{c':Nat}{x:Int}(h:aK base w r t)(hg:w.grownBy w' (Value.slice r.aa.bA t.aa.bars.length r.aa.bc).ownBlock)(ho:w'.ownsRow base 3 1 (.slice A' (t.aa.bars.length+1) c') (t.aa.bars.length+1) (t.aa.bars.flatMap aI++aI x)):aK base w' ⟨r.aF,r.ah,⟨r.aa.kA,r.aa.kc,r.aa.pA,r.aa.pc,A',c'⟩⟩ ⟨t.aF,t.ah,⟨t.aa.kinds,t.aa.floor,t.aa.parts,t.aa.bars++[x]⟩⟩:=by refine⟨⟨bV h.1.1 h.2.2.2.2 nU hg,bV h.1.2.1 h.2.2.2.2 nU hg,bV h.1.2.2 h.2.2.2.2 nU hg⟩,⟨bV h.2.1.1 h.2.2.2.2 nU hg,bV h.2.1.2 h.2.2.2.2 nU hg⟩,⟨bV h.2.2.1 h.2.2.2.2 nU hg,bV h.2.2.2.1 h.2.2.2.2 nU hg,?_⟩⟩;refine QDF ?_;simpa using ho
theorem EL{r:aQ}{t:aW}{A':Option Addr}{c':Nat}{x:Int}:aE ⟨r.aF,r.ah,⟨r.aa.kA,r.aa.kc,r.aa.pA,r.aa.pc,A',c'⟩⟩ ⟨t.aF,t.ah,⟨t.aa.kinds,t.aa.floor,t.aa.parts,t.aa.bars++[x]⟩⟩=(aE r t).setIfInBounds 13 (.slice A' (t.aa.bars.length+1) c'):=by simp[aE]
theorem aK.Lq{base:Nat}{w:nJ}{r:aQ}{t:aW}(h:aK base w r t):w.ownsRow base 93 4 (.slice r.ah.hA t.ah.hs.length r.ah.hc) t.ah.hs.length (t.ah.hs.flatMap bB):=h.2.1.1
theorem aK.Ln{base:Nat}{w:nJ}{r:aQ}{t:aW}(h:aK base w r t):w.ownsRow base 95 2 (.slice r.ah.pA t.ah.ps.length r.ah.pc) t.ah.ps.length (t.ah.ps.flatMap dH):=h.2.1.2
theorem aK.Lo{base:Nat}{w:nJ}{r:aQ}{t:aW}(h:aK base w r t):w.ownsRow base 74 2 (.slice r.aa.pA t.aa.parts.length r.aa.pc) t.aa.parts.length (t.aa.parts.flatMap jD):=h.2.2.2.1
theorem aK.Lr{base:Nat}{w:nJ}{r:aQ}{t:aW}(h:aK base w r t):w.ownsRow base 3 1 (.slice r.aa.bA t.aa.bars.length r.aa.bc) t.aa.bars.length (t.aa.bars.flatMap aI):=h.2.2.2.2
theorem BC{r:aQ}{t:aW}{i:Nat}{x:An.Bj}:aE r ⟨⟨t.aF.aP,t.aF.cur,t.aF.ay,t.aF.aB.set i x,t.aF.aU⟩,t.ah,t.aa⟩=aE r t:=by simp[aE]
theorem iD{t:aW}(hv:aG t=true):Small t:=by obtain⟨v1,v2,v3⟩:=cr.1 hv;have a:=An.aD.1 v1;have b:=Me.aD.1 v2;have c:=Sa.aD.1 v3;unfold Small;refine⟨⟨nQ,nQ,?_⟩,⟨nQ,nQ⟩,⟨nQ,nQ,nQ⟩⟩;have:=a.2.2.2.2.1;omega
theorem Lm{w:nJ}{base n size g c:Nat}{e:TypeId}{xs:List nK}(h:w.ownsRow base e size (.slice (some ⟨g,0,none⟩) n c) n xs):∃cs,ax w g e cs:=by
 rcases h.2 with⟨hv,_⟩|⟨g',cap',cur,hv,h1,h2,_⟩
 ·cases hv
 ·injection hv with hA _ hc;injection hA with hA;injection hA with hg;subst hg;exact⟨cur,h2⟩
theorem aK.IU{base g:Nat}{w w':nJ}{r:aQ}{t:aW}{l:List An.Bj}(h:aK base w r t)(hA:r.aF.aA=some ⟨g,0,none⟩)(k:bH (fun x=>x=g) w w')(ho:w'.ownsRow base 47 2 (.slice (some ⟨g,0,none⟩) l.length r.aF.ac) l.length (l.flatMap cM)):aK base w' r ⟨⟨t.aF.aP,t.aF.cur,t.aF.ay,l,t.aF.aU⟩,t.ah,t.aa⟩:=by have hx:=h.1.2.1;rw[hA] at hx;obtain⟨cs,hb⟩:=Lm hx;refine⟨⟨cH h.1.1 k hb nU,?_,cH h.1.2.2 k hb nU⟩,⟨cH h.2.1.1 k hb nU,cH h.2.1.2 k hb nU⟩,⟨cH h.2.2.1 k hb nU,cH h.2.2.2.1 k hb nU,cH h.2.2.2.2 k hb nU⟩⟩;show w'.ownsRow _ _ _ (.slice r.aF.aA _ _) _ _;rw[hA];exact ho
theorem xC{t:aW}{c:dU}(h:kz t c=none):fW t c=none:=by unfold fW;rw[h]
def cZ(r:aQ)(t:aW)(w:nJ)(r':aQ)(t':aW)(W:nJ):Prop:=(r'=r/\t'=t)\/aK w.heap.size W r' t'
def gC(r:aQ)(t:aW)(c:dU)(w:nJ)(e:Ending)(w':nJ):Prop:=
 ∃(r':aQ) (δ:nJ),e=.returned (.tuple #[aO r' (iH t c),.bool (fW t c).isSome])/\w'=af w δ/\cZ r t w r' (iH t c) (af w δ)
theorem oV{r:aQ}{t:aW}{c:dU}{w W:nJ}(h:fW t c=none)(hl:∃δ,W=af w δ):gC r t c w (.returned (.tuple #[aO r t,.bool false])) W:=by
 obtain⟨δ,rfl⟩:=hl;have hd:iH t c=t:=by unfold iH;rw[h];rfl
 exact⟨r,δ,by rw[hd,h];rfl,rfl,.inl ⟨rfl,hd⟩⟩
theorem ny{r r':aQ}{t o:aW}{c:dU}{w W:nJ}(h:fW t c=some o)[au w.heap.size w W][Le w.heap.size W](ho:aK w.heap.size W r' o):gC r t c w (.returned (.tuple #[aO r' o,.bool true])) W:=by
 have hd:iH t c=o:=by unfold iH;rw[h];rfl
 refine⟨r',W,by rw[hd,h];rfl,aq,.inr ?_⟩;rw[<-aq (w:=w),hd];exact ho
theorem rG{t o:aW}{c:dU}(h:kz t c=some o):fW t c=if aG o=true then some o else none:=by unfold fW;rw[h]
end
section
open Hd
theorem ax.ql{g:Nat}{T:TypeId}(vs:List nK):∀ {w:nJ} {cs:Array nK} (o:Nat),ax w g T cs->o+vs.length<=cs.size->∃cs',ax (w.setCells g o vs) g T cs'/\cs'.size=cs.size/\cs'.toList=cs.toList.take o++vs++cs.toList.drop (o+vs.length):=by
 induction vs with
 |nil=>intro w cs o h _;exact⟨cs,h,rfl,nV⟩
 |cons v vs ih=>
  intro w cs o h hl
  simp only[List.length_cons] at hl
  obtain⟨cs',h1,h2,h3⟩:=ih (o+1) (h.set o v) (by rw[Array.size_setIfInBounds];omega)
  refine⟨cs',h1,by rw[h2,Array.size_setIfInBounds],?_⟩
  rw[h3,Array.toList_setIfInBounds]
  have ho:o<cs.toList.length:=by rw[Array.length_toList];omega
  rw[List.take_set,List.drop_set_of_lt nQ,List.length_cons,show o+1+vs.length=o+(vs.length+1) by omega]
  have e:cs.toList.take (o+1)=cs.toList.take o++[cs.toList[o]]:=by rw[List.take_succ_eq_append_getElem ho]
  have hm:min o cs.size=o:=by rw[Array.length_toList] at ho;omega
  rw[e,List.set_append_right _ _ (by rw[List.length_take];omega)]
  simp[hm]
theorem bH.setCells{g:Nat}(vs:List nK):∀(A B:nJ) (o:Nat),bH (fun x=>x=g) A B->bH (fun x=>x=g) A (B.setCells g o vs):=by
 induction vs with
 |nil=>intro A B o h;exact h
 |cons v vs ih=>intro A B o h;exact ih _ _ _ (h.set (b:=g) rfl o v)
section
variable{P:Program}{W:nJ}{b o:Nat}{T ty:TypeId}{cs cs' Ya:Array nK}{ops:Array Oper}{rest:List Oper}{op:Oper}{a:Act}{Q:Exit->Act->nJ->Prop}{n:Nat}
theorem ax.range(hb:ax W b T cs)(he:(cs.toList.drop o).take n=cs'.toList):W.rangeAt b o cs'.toList:=fun j v hj=>by
 refine hb.cell ?_;rw[<-he,List.getElem?_take] at hj;split at hj
 ·rw[List.getElem?_drop] at hj;rw[<-Array.getElem?_toList];exact hj
 ·cases hj
theorem cz(hT:fT P ty n)(hgd:op.guard=none)(x:Operand)(ho:op.op=.load ty x)(hx:a.eval x=.pointer (some ⟨b,o,none⟩))(hb:ax W b T cs)(he:(cs.toList.drop o).take n=cs'.toList)(hn:cs'.size=n)(h:wpList P ops Q rest (a.put op.dst (.agg cs')) W):wpList P ops Q (op::rest) a W:=by obtain⟨⟨d,h1,h2⟩,h3⟩:=hT;subst hn;exact wpList_load_mid hgd ty x ho b o hx cs'.toList d (hb.range he) h1 h2 (by rw[h3];simp) (by simpa using h)
theorem mZ(hT:fT P ty n)(hgd:op.guard=none)(x y:Operand)(ho:op.op=.store ty x y)(hx:a.eval x=.pointer (some ⟨b,o,none⟩))(hy:a.eval y=.agg cs')(hb:ax W b T cs)(hn:cs'.size=n)(hl:o+n<=cs.size)(h1:cs'.all (·.oneCell')=true)(he:cs.toList.take o++cs'.toList++cs.toList.drop (o+n)=Ya.toList)(h:∀W',ax W' b T Ya->bH (fun x=>x=b) W W'->wpList P ops Q rest (a.put op.dst undef) W'):wpList P ops Q (op::rest) a W:=by
 obtain⟨_,h3⟩:=hT;subst hn;refine wpList_store_mid hgd ty x y ho b o cs' hx hy ?_ h3 h1 ?_
 ·intro j hj;have hj':o+j<cs.size:=nQ;exact⟨by rw[hb.cell (i:=o+j) (v:=cs[o+j]) (by rw[Array.getElem?_eq_getElem hj'])];rfl,hb.free _⟩
 ·obtain⟨c3,k1,k2,k3⟩:=ax.ql cs'.toList o hb (by simpa using hl);have:c3=Ya:=Array.toList_inj.1 (by rw[k3,<-he];simp);subst this;exact h _ k1 (bH.setCells _ _ _ _ (bH.refl _ _))
end
section
variable{P:Program}{W:nJ}{b:Nat}{T ty:TypeId}{cs cs':Array nK}{ops:Array Oper}{o:Oper}{a:Act}{n:Nat}
theorem cV{S:nJ->Prop}(hT:fT P ty n)(hw:Region.wanted o (yielded ops a.tmps)=true)(x:Operand)(ho:o.op=.load ty x)(hx:a.eval x=.pointer (some ⟨b,0,none⟩))(hS:∀w,S w->ax w b T cs)(hn:cs.size=n):YieldsIf P ops S o (.agg cs) a:=by obtain⟨⟨d,h1,h2⟩,h3⟩:=hT;subst hn;refine yieldsIf_load_mid hw ty x ho b 0 hx cs.toList d (fun w h=>(hS w h).range (n:=cs.size) ?_) h1 h2 (by rw[h3];simp);rw[List.drop_zero,List.take_of_length_le nV]
theorem mu{K:Act->nJ->Prop}{Q:Exit->Act->nJ->Prop}(hT:fT P ty n)(x y:Operand)(ho:o.op=.store ty x y)(hx:a.eval x=.pointer (some ⟨b,0,none⟩))(hy:a.eval y=.agg cs')(hb:ax W b T cs)(hn:cs.size=n)(hn':cs'.size=n)(h1:cs'.all (·.oneCell')=true)(h:∀W',ax W' b T cs'->bH (fun x=>x=b) W W'->K (a.put o.dst undef) W'):o.wp P a W K Q:=by obtain⟨_,h3⟩:=hT;subst hn;exact wp_store_row ty x y ho b cs' hx hy T cs hb (by rw[hn'];exact h3) hn'.symm h1 (h _ (hb.setRow cs') (bH.setRow _ _ _))
end
theorem cZ.from_{r r':aQ}{t t':aW}{w w1 W:nJ}(h:cZ r t w1 r' t' W)(hl:w.heap.size<=w1.heap.size):cZ r t w r' t' W:=h.imp id fun o=>o.mono hl
theorem AK{W W':nJ}{B b:Nat}{xs:List nK}{ob:Option Nat}(h:Cells W B (some ⟨b,0,none⟩) xs)(hlt:b<W.heap.size)(hg:W.grownBy W' ob)(hne:ob≠some b):Cells W' B (some ⟨b,0,none⟩) xs:=fun hx=>by obtain⟨b',o,e,hb,hc⟩:=h hx;injection e with e;injection e with e1 e2;subst e1;exact⟨_,o,by rw[e2],hb,fun j v hj=>(World.cell?_of_block (a:=⟨_,_,none⟩) (hg.block _ hlt (fun e'=>hne e'.symm))).trans (hc j v hj)⟩
theorem QD{W2 W':nJ}{e T g:Nat}{arr:Array nK}{ob:Option Nat}(hg':g=W2.heap.size+1)(hg:((W2.alloc (.cells #[] e)).alloc (.cells arr T)).drew.grownBy W' ob)(hne:ob≠some g):Cells W' (g+1) (some ⟨g,0,none⟩) arr.toList:=by have h1:(W2.alloc (.cells #[] e)).heap.size=W2.heap.size+1:=nW;have h2:((W2.alloc (.cells #[] e)).alloc (.cells arr T)).heap.size=W2.heap.size+1+1:=nW;have h3:Cells ((W2.alloc (.cells #[] e)).alloc (.cells arr T)).drew (g+1) (some ⟨g,0,none⟩) arr.toList:=gi (W:=W2.alloc (.cells #[] e)) nQ;exact AK h3 (by show g<((W2.alloc (.cells #[] e)).alloc (.cells arr T)).heap.size;omega) hg hne
theorem Nq{W2 W':nJ}{e T g:Nat}{arr:Array nK}{ob:Option Nat}(hg':g=W2.heap.size)(hg:((W2.alloc (.cells arr T)).alloc (.cells #[] e)).drew.grownBy W' ob)(hne:ob≠some g):Cells W' (g+1) (some ⟨g,0,none⟩) arr.toList:=by
 have h1:(W2.alloc (.cells arr T)).heap.size=W2.heap.size+1:=nW;have h2:((W2.alloc (.cells arr T)).alloc (.cells #[] e)).heap.size=W2.heap.size+1+1:=nW;have h3:Cells ((W2.alloc (.cells arr T)).alloc (.cells #[] e)).drew (g+1) (some ⟨g,0,none⟩) arr.toList:=fun hx=>by
  obtain⟨b',o,e',hb,hc⟩:=gi (W:=W2) (arr:=arr) (T:=T) (g:=g) nQ hx;injection e' with e';injection e' with e1 e2;subst e1;exact⟨_,o,by rw[e2],hb,fun j v hj=>by
   have hx:=hc j v hj
   have hlt:g<(W2.alloc (.cells arr T)).heap.size:=nQ
   show((W2.alloc (.cells arr T)).alloc (.cells #[] e)).cell? _=_
   rw[World.cell?_alloc_past _ _ _ hlt]
   exact hx⟩
 exact AK h3 (by show g<((W2.alloc (.cells arr T)).alloc (.cells #[] e)).heap.size;omega) hg hne
structure cP where
 az:aQ
 oA:Option Addr
 oc:Nat
def cD(k:cP)(d:cE):Array nK:=#[.int .i64 d.az.aF.aP.lo,.int .i64 d.az.aF.aP.hi,.int .i64 d.az.aF.cur.lo,.int .i64 d.az.aF.cur.hi,
 .slice k.az.aF.gA d.az.aF.ay.length k.az.aF.gc,.slice k.az.aF.aA d.az.aF.aB.length k.az.aF.ac,.slice k.az.aF.wA d.az.aF.aU.length k.az.aF.wc,
 .int .i64 d.az.ah.m,.slice k.az.ah.hA d.az.ah.hs.length k.az.ah.hc,.slice k.az.ah.pA d.az.ah.ps.length k.az.ah.pc,
 .slice k.az.aa.kA d.az.aa.kinds.length k.az.aa.kc,.int .i64 d.az.aa.floor,.slice k.az.aa.pA d.az.aa.parts.length k.az.aa.pc,.slice k.az.aa.bA d.az.aa.bars.length k.az.aa.bc,
 .slice k.oA d.aC.length k.oc,.int .i64 (d.given:Nat)]
abbrev jf(k:cP)(d:cE):nK:=.agg (cD k d)
theorem cx:fT nH 82 16:=fT.mk' Tryz.underlying82 rfl nP
theorem rowWords:fT nH 66 3:=fT.mk' Tryz.underlying66 rfl nP
theorem dP(k:cP)(d:cE):(cD k d).all (·.oneCell')=true:=by simp[cD,Value.oneCell']
theorem eT(k:cP)(d:cE):((cD k d).toList.drop 0).take 14=(aE k.az d.az).toList:=rfl
theorem Az(k:cP)(d:cE)(r:aQ)(t:aW):(cD k d).toList.take 0++(aE r t).toList++(cD k d).toList.drop (0+14)=(cD ⟨r,k.oA,k.oc⟩ ⟨t,d.aC,d.given⟩).toList:=rfl
theorem AA(k:cP)(d:cE):0+14<=(cD k d).size:=by show 0+14<=16;decide
def mK:cE:=⟨cO,[],0⟩
def mJ:cP:=⟨dc,none,0⟩
abbrev dZ(w:nJ)(A:Option Addr)(c:Nat)(os:List Ord):Prop:=fN 226 lW w.heap.size w A c os
theorem P7{W:nJ}{base c:Nat}{A:Option Addr}{os:List Ord}{o:Ord}(h:W.ownsRow base 226 2 (.slice A (os.length+1) c) (os.length+1) (os.flatMap lW++lW o)):dZ W A c (os++[o]):=by refine fN.bU (base:=base) (size:=2) (n:=os.length+1) ?_ nV;rw[List.flatMap_append];simpa using h
theorem Ko{k:cP}{d:cE}{A:Option Addr}{c:Nat}{o:Ord}:cD ⟨k.az,A,c⟩ ⟨d.az,d.aC++[o],d.given⟩=(cD k d).setIfInBounds 14 (.slice A (d.aC.length+1) c):=by simp[cD]
theorem uN{p:Ord->Bool}:∀ {os:List Ord} {j:Nat},j<os.length->p (nth os j)=true->(∀m,m<j->p (nth os m)=false)->os.findIdx? p=some j
 |[],j,h,_,_=>absurd h (Nat.not_lt_zero _)
 |x::xs,0,_,h,_=>by have h:p x=true:=h;rw[List.findIdx?_cons,if_pos h]
 |x::xs,j+1,hl,h,hn=>by have h0:p x=false:=hn 0 (Nat.succ_pos _);rw[List.findIdx?_cons,if_neg (by rw[h0];decide),uN (os:=xs) (j:=j) (Nat.lt_of_succ_lt_succ hl) h fun m hm=>hn (m+1) (Nat.succ_lt_succ hm)];rfl
theorem uO{p:Ord->Bool}:∀ {os:List Ord},(∀m,m<os.length->p (nth os m)=false)->os.findIdx? p=none
 |[],_=>rfl
 |x::xs,hn=>by have h0:p x=false:=hn 0 (Nat.succ_pos _);rw[List.findIdx?_cons,if_neg (by rw[h0];decide),uO (os:=xs) fun m hm=>hn (m+1) (Nat.succ_lt_succ hm)];rfl
section
variable{w W W':nJ}{r r':aQ}{t t':aW}{B:Nat}
theorem cZ.aR{b:Nat}{T:TypeId}{cs:Array nK}(h:cZ r t w r' t' W)(k:bH (fun x=>x=b) W W')(hb:ax W b T cs)(hne:AZ T):cZ r t w r' t' W':=
 h.imp id fun o=>o.aR k hb hne
theorem cZ.up(h:cZ r t w r' t' W)[hg:au W.heap.size W W']:cZ r t w r' t' W':=h.imp id fun o=>o.up
theorem cZ.aam(h:cZ r t w r' t' W):cZ r t w r' t' W.drew:=h
theorem cZ.refl:cZ r t w r t W:=.inl ⟨rfl,rfl⟩
theorem cZ.is(h:cZ r t w r' t' W)(hT:aJ B w r t)[hg:au B w W][hB:Le B W]:aJ W.heap.size W r' t':=by
 rcases h with⟨rfl,rfl⟩|h
 ·exact hT.wide
 ·exact h.is
theorem cZ.trans{r'':aQ}{t'':aW}(h:cZ r t w r' t' W)(k:cZ r' t' W r'' t'' W')(hl:w.heap.size<=W.heap.size)[hg:au W.heap.size W W']:cZ r t w r'' t'' W':=by
 rcases k with⟨rfl,rfl⟩|k
 ·exact h.up
 ·exact .inr (k.mono hl)
end
theorem qB{l:bz}{c:dU}(h:bK l=.cmd c):Vc c:=by
 unfold bK eD at h;split at h
 ·split at h
  ·split at h
   ·cases h
   ·unfold qv at h;split at h
    ·split at h<;>cases h
    ·cases h
  ·cases h
 ·split at h
  ·injection h with h;subst h;rename_i hc;exact mS hc
  ·cases h
def fh(k:cP)(d:cE)(w:nJ)(x:cE × bz)(e:Ending)(w':nJ):Prop:=
 ∃(k':cP) (δ:nJ),e=.returned (.tuple #[jf k' x.1,.string (str x.2)])/\w'=af w δ/\cZ k.az d.az w k'.az x.1.az (af w δ)/\dZ (af w δ) k'.oA k'.oc x.1.aC
theorem jq{k k':cP}{d d':cE}{w W:nJ}{x:cE × bz}{s:ByteArray}[au w.heap.size w W][Le w.heap.size W](hx:x.1=d')(hs:s=str x.2)(hT:cZ k.az d.az w k'.az d'.az W)(hO:dZ W k'.oA k'.oc d'.aC):fh k d w x (.returned (.tuple #[jf k' d',.string s])) W:=by
 subst hx;subst hs;refine⟨k',W,rfl,aq,?_,?_⟩
 ·rw[<-aq (w:=w)];exact hT
 ·rw[<-aq (w:=w)];exact hO
theorem xL(os:List Ord)(i:Nat)(hi:i<os.length)(h5:os.length<=1000)(A:Option Addr)(c:Nat)(B:Nat)(w:nJ)(hS:Sl lW B w A c os)[hB:Le B w]:Calls nH 147 #[.slice A os.length c,.int .i64 i] w fun e w'=>∃A' c' δ,e=.returned (.slice A' (os.eraseIdx i).length c')/\w'=af w δ/\dZ (af w δ) A' c' (os.eraseIdx i):=by
 obtain⟨b,o,rfl,hb,_⟩:=hS.order hi;have HS:=qh hS;have hcc:os.length<=c:=hS.1;obtain⟨u,hu⟩:∃u,u=i+1:=⟨_,rfl⟩;have hw1:IntKind.i64.wrap ((i:Int)+1)=(u:Int):=by rw[IntWalk.i64_in _ nQ];omega
 have hui:(u:Int)<=(os.length:Int):=nQ;have hic:(i:Int)<=(c:Int):=nQ;obtain⟨A2,vU⟩:∃A2,(if c=u then some (⟨b,o,none⟩:Addr) else some ⟨b,o+u*2,none⟩)=A2:=⟨_,rfl⟩;have mY:Hid (Sl lW B w (some ⟨b,o,none⟩) c (os.take i)):=qh (hS.take i);have Bv:Hid (Sl lW B w A2 (c-u) (os.drop u)):=by have:=hS.drop sY u nQ;rw[<-vU];exact qh (by simpa [Addr.add_lit] using this)
 have rO:Hid ((os.take i).length=i):=qh (by rw[List.length_take];omega);have qN:Hid ((os.drop u).length=os.length-u):=qh (by rw[List.length_drop]);have HE:Hid (os.eraseIdx i=os.take i++os.drop u):=qh (by rw[hu,List.eraseIdx_eq_take_drop_succ]);have VY:Hid (((os.take i).flatMap lW).length=i*2):=qh (by rw[bX lW 2 sY,rO.out]);have Eo:Hid (((os.drop u).flatMap lW).length=(os.length-u)*2):=qh (by rw[bX lW 2 sY,qN.out]);have hi1:i<=1000:=nQ;have hi2:i+(os.length-u)<=1000:=nQ;clear hS hu hb;go_enter Tryz.func147,Tryz.ntmps147;go_upto_region 1 with fail;go_region_held3 (fun _=>True) (trivial)
  (first|(refine fG w Y8 (.tmp 5) (.tmp 8) rfl rfl (v:=.slice (some ⟨_,0,none⟩) 0 0) (by first|exact cB nW nW|exact(cB nW nW).alloc _) rfl (B:=B) (A:=some ⟨b,o,none⟩) (m:=i) (c:=c) (news:=(os.take i).flatMap lW) rfl (mY.out.up.2.2) VY.out (ei lW vw _) nQ nQ ?_;intro A1 c1 δ1 eF hg1)|(refine cW w Y8 (.tmp 9) (.tmp 13) rfl rfl (v:=.slice A1 i c1) (n:=i) (xs:=(os.take i).flatMap lW) (by first|exact eF|exact eF.alloc _) rfl (B:=B) (A:=A2) (m:=os.length-u) (c:=c-u) (news:=(os.drop u).flatMap lW) rfl (Bv.out.up.2.2) Eo.out (ei lW vw _) nQ nQ ?_;intro A3 c3 δ3 mq rj))
 all_goals
  go_wp2_with fail;go_ret;refine⟨A3,c3,_,?_,aq,?_⟩
  ·rw[HE.out,List.length_append,rO.out,qN.out];rfl
  ·rw[<-aq (w:=w),HE.out];refine fN.bU (base:=w.heap.size) (size:=2) (n:=i+(os.length-u)) ?_ (by rw[List.length_append,rO.out,qN.out]);rw[List.flatMap_append];exact mq
end
end Go.Proofs.YtdmedlkonaclnaaGreatDoor
