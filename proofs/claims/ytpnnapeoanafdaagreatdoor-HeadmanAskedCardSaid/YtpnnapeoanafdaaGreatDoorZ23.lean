/- A part of the proof that a law of layer 12 holds, cut small by a program (names and blanks): Htd, Hdk. -/
import Derived.Test.YtpnnapeoanafdaaGreatDoorZ22
set_option maxRecDepth 100000
set_option maxHeartbeats 40000000
set_option linter.unusedVariables false
set_option linter.unusedSimpArgs false
namespace Go.Proofs.YtpnnapeoanafdaaGreatDoor
open Go.RowKit
open Nat renaming le_trans → nT, lt_of_lt_of_le → nL
open Go.Proofs.Tryz renaming prog → nH
open Go renaming World → nJ, Value → nK
section
open Hd
theorem cN{w w':nJ}{base n size b:Nat}{e T:TypeId}{v:nK}{xs:List nK}{cs:Array nK}(h:w.ownsRow base e size v n xs)(k:bI (fun x=>x=b) w w')(hb:ay w b T cs)(hne:T≠e):w'.ownsRow base e size v n xs:=by
 have hx:=fc h hb hne;refine⟨h.1,?_⟩;rcases h.2 with h2|⟨g,cap,cur,rfl,h1,h2,h3⟩
 ·exact .inl h2
 ·refine .inr ⟨g,cap,cur,rfl,h1,?_,h3⟩;rw[k.block g ?_ ?_]
  ·exact h2
  ·rcases Nat.lt_or_ge g w.heap.size with hlt|hge
   ·exact hlt
   ·rw[Array.getElem?_eq_none hge] at h2;cases h2
  ·rintro rfl;exact hx rfl
theorem cC{B b:Nat}{w W W':nJ}(k:bI (fun x=>x=b) W W')(hb:B<=b)[hg:aD B w W][hB:Le B W]:aD B w W':=
 ⟨⟨k.os.trans hg.out.1,k.tape.trans hg.out.2.1,k.output.trans hg.out.2.2.1,fun j hj=>(k.block j (nL hj hB.out) (fun e:j=b=>absurd (e▸hj) (Nat.not_lt.2 hb))).trans (hg.out.2.2.2 j hj)⟩⟩
theorem dB{S:Nat->Prop}{B:Nat}{W W':nJ}(k:bI S W W')[hB:Le B W]:Le B W':=⟨nT hB.out k.size⟩
theorem bC{P:Program}{W:nJ}{b:Nat}{T ty:TypeId}{cs:Array nK}{ops:Array Oper}{rest:List Oper}{o:Oper}{a:Act}{Q:Exit->Act->nJ->Prop}{n:Nat}(hT:gi P ty n)(hw:Region.wanted o (yielded ops a.tmps)=true)(x:Operand)(ho:o.op=.load ty x)(hx:a.eval x=.pointer (some ⟨b,0,none⟩))(hb:ay W b T cs)(hn:cs.size=n)(h:wpList P ops Q rest (a.put o.dst (.agg cs)) W):wpList P ops Q (o::rest) a W:=by obtain⟨⟨d,h1,h2⟩,h3⟩:=hT;subst hn;refine wpList_step fun K hK=>?_;rw[if_pos hw];exact wp_load_row ty x ho b hx T cs (0,0) d hb h1 (by cases d<;>first|rfl|cases h2) h3 (hK _ _ h)
def Bx(T:TypeId):Prop:=(T≠23/\T≠102/\T≠148)/\(T≠150/\T≠152)/\(T≠155/\T≠157/\T≠3)
instance(T:TypeId):Decidable (Bx T):=by unfold Bx;infer_instance
section
variable{base:Nat}{w:nJ}{r:aW}{t:aO}
theorem aK.aV{w':nJ}{b:Nat}{T:TypeId}{cs:Array nK}(h:aK base w r t)(k:bI (fun x=>x=b) w w')(hb:ay w b T cs)(hne:Bx T):aK base w' r t:=
 ⟨⟨cN h.1.1 k hb hne.1.1,cN h.1.2.1 k hb hne.1.2.1,cN h.1.2.2 k hb hne.1.2.2⟩,⟨cN h.2.1.1 k hb hne.2.1.1,cN h.2.1.2 k hb hne.2.1.2⟩,⟨cN h.2.2.1 k hb hne.2.2.1,cN h.2.2.2.1 k hb hne.2.2.2.1,cN h.2.2.2.2 k hb hne.2.2.2.2⟩⟩
theorem aK.eo{b i:Nat}{T:TypeId}{cs:Array nK}(h:aK base w r t)(hb:ay w b T cs)(hne:Bx T)(u:nK):aK base (w.setCell ⟨b,i,none⟩ u) r t:=h.aV ((bI.refl (fun x=>x=b) w).set (b:=b) rfl i u) hb hne
theorem aK.up{W:nJ}(h:aK base w r t)[hg:aD w.heap.size w W]:aK base W r t:=⟨h.1.up,h.2.1.up,h.2.2.up⟩
theorem aK.mono(h:aK base w r t){base':Nat}(hb:base'<=base):aK base' w r t:=⟨h.1.mono hb,h.2.1.mono hb,h.2.2.mono hb⟩
theorem aK.alloc(h:aK base w r t)(o:Obj):aK base (w.alloc o) r t:=⟨h.1.alloc o,h.2.1.alloc o,h.2.2.alloc o⟩
theorem aK.drew(h:aK base w r t):aK base w.drew r t:=h
end
theorem aK.Kh{base:Nat}{w w':nJ}{r:aW}{t:aO}{A':Option Addr}{c':Nat}{x:Me.kr}(h:aK base w r t)(hg:w.grownBy w' (Value.slice r.af.hA t.af.hs.length r.af.hc).ownBlock)(ho:w'.ownsRow base 150 4 (.slice A' (t.af.hs.length+1) c') (t.af.hs.length+1) (t.af.hs.flatMap bE++bE x)):aK base w' ⟨r.aF,⟨A',c',r.af.pA,r.af.pc⟩,r.aa⟩ ⟨t.aF,⟨t.af.m,t.af.hs++[x],t.af.ps⟩,t.aa⟩:=by refine⟨⟨bX h.1.1 h.2.1.1 nU hg,bX h.1.2.1 h.2.1.1 nU hg,bX h.1.2.2 h.2.1.1 nU hg⟩,⟨?_,bX h.2.1.2 h.2.1.1 nU hg⟩,⟨bX h.2.2.1 h.2.1.1 nU hg,bX h.2.2.2.1 h.2.1.1 nU hg,bX h.2.2.2.2 h.2.1.1 nU hg⟩⟩;refine QDB ?_;simpa using ho
theorem FF{r:aW}{t:aO}{A':Option Addr}{c':Nat}{x:Me.kr}:aG ⟨r.aF,⟨A',c',r.af.pA,r.af.pc⟩,r.aa⟩ ⟨t.aF,⟨t.af.m,t.af.hs++[x],t.af.ps⟩,t.aa⟩=(aG r t).setIfInBounds 8 (.slice A' (t.af.hs.length+1) c'):=by simp[aG]
theorem aK.Kf{base:Nat}{w w':nJ}{r:aW}{t:aO}{A':Option Addr}{c':Nat}{x:Me.Pr}(h:aK base w r t)(hg:w.grownBy w' (Value.slice r.af.pA t.af.ps.length r.af.pc).ownBlock)(ho:w'.ownsRow base 152 2 (.slice A' (t.af.ps.length+1) c') (t.af.ps.length+1) (t.af.ps.flatMap dG++dG x)):aK base w' ⟨r.aF,⟨r.af.hA,r.af.hc,A',c'⟩,r.aa⟩ ⟨t.aF,⟨t.af.m,t.af.hs,t.af.ps++[x]⟩,t.aa⟩:=by refine⟨⟨bX h.1.1 h.2.1.2 nU hg,bX h.1.2.1 h.2.1.2 nU hg,bX h.1.2.2 h.2.1.2 nU hg⟩,⟨bX h.2.1.1 h.2.1.2 nU hg,?_⟩,⟨bX h.2.2.1 h.2.1.2 nU hg,bX h.2.2.2.1 h.2.1.2 nU hg,bX h.2.2.2.2 h.2.1.2 nU hg⟩⟩;refine QDB ?_;simpa using ho
theorem FD{r:aW}{t:aO}{A':Option Addr}{c':Nat}{x:Me.Pr}:aG ⟨r.aF,⟨r.af.hA,r.af.hc,A',c'⟩,r.aa⟩ ⟨t.aF,⟨t.af.m,t.af.hs,t.af.ps++[x]⟩,t.aa⟩=(aG r t).setIfInBounds 9 (.slice A' (t.af.ps.length+1) c'):=by simp[aG]
theorem aK.Kg{base:Nat}{w w':nJ}{r:aW}{t:aO}{A':Option Addr}{c':Nat}{x:Sa.Part}(h:aK base w r t)(hg:w.grownBy w' (Value.slice r.aa.pA t.aa.parts.length r.aa.pc).ownBlock)(ho:w'.ownsRow base 157 2 (.slice A' (t.aa.parts.length+1) c') (t.aa.parts.length+1) (t.aa.parts.flatMap jH++jH x)):aK base w' ⟨r.aF,r.af,⟨r.aa.kA,r.aa.kc,A',c',r.aa.bA,r.aa.bc⟩⟩ ⟨t.aF,t.af,⟨t.aa.kinds,t.aa.floor,t.aa.parts++[x],t.aa.bars⟩⟩:=by refine⟨⟨bX h.1.1 h.2.2.2.1 nU hg,bX h.1.2.1 h.2.2.2.1 nU hg,bX h.1.2.2 h.2.2.2.1 nU hg⟩,⟨bX h.2.1.1 h.2.2.2.1 nU hg,bX h.2.1.2 h.2.2.2.1 nU hg⟩,⟨bX h.2.2.1 h.2.2.2.1 nU hg,?_,bX h.2.2.2.2 h.2.2.2.1 nU hg⟩⟩;refine QDB ?_;simpa using ho
theorem FE{r:aW}{t:aO}{A':Option Addr}{c':Nat}{x:Sa.Part}:aG ⟨r.aF,r.af,⟨r.aa.kA,r.aa.kc,A',c',r.aa.bA,r.aa.bc⟩⟩ ⟨t.aF,t.af,⟨t.aa.kinds,t.aa.floor,t.aa.parts++[x],t.aa.bars⟩⟩=(aG r t).setIfInBounds 12 (.slice A' (t.aa.parts.length+1) c'):=by simp[aG]
theorem aK.Ki{base:Nat}{w w':nJ}{r:aW}{t:aO}{A':Option Addr}{c':Nat}{x:Int}(h:aK base w r t)(hg:w.grownBy w' (Value.slice r.aa.bA t.aa.bars.length r.aa.bc).ownBlock)(ho:w'.ownsRow base 3 1 (.slice A' (t.aa.bars.length+1) c') (t.aa.bars.length+1) (t.aa.bars.flatMap aI++aI x)):aK base w' ⟨r.aF,r.af,⟨r.aa.kA,r.aa.kc,r.aa.pA,r.aa.pc,A',c'⟩⟩ ⟨t.aF,t.af,⟨t.aa.kinds,t.aa.floor,t.aa.parts,t.aa.bars++[x]⟩⟩:=by refine⟨⟨bX h.1.1 h.2.2.2.2 nU hg,bX h.1.2.1 h.2.2.2.2 nU hg,bX h.1.2.2 h.2.2.2.2 nU hg⟩,⟨bX h.2.1.1 h.2.2.2.2 nU hg,bX h.2.1.2 h.2.2.2.2 nU hg⟩,⟨bX h.2.2.1 h.2.2.2.2 nU hg,bX h.2.2.2.1 h.2.2.2.2 nU hg,?_⟩⟩;refine QDB ?_;simpa using ho
theorem FG{r:aW}{t:aO}{A':Option Addr}{c':Nat}{x:Int}:aG ⟨r.aF,r.af,⟨r.aa.kA,r.aa.kc,r.aa.pA,r.aa.pc,A',c'⟩⟩ ⟨t.aF,t.af,⟨t.aa.kinds,t.aa.floor,t.aa.parts,t.aa.bars++[x]⟩⟩=(aG r t).setIfInBounds 13 (.slice A' (t.aa.bars.length+1) c'):=by simp[aG]
theorem aK.MC{base:Nat}{w:nJ}{r:aW}{t:aO}(h:aK base w r t):w.ownsRow base 150 4 (.slice r.af.hA t.af.hs.length r.af.hc) t.af.hs.length (t.af.hs.flatMap bE):=h.2.1.1
theorem aK.MA{base:Nat}{w:nJ}{r:aW}{t:aO}(h:aK base w r t):w.ownsRow base 152 2 (.slice r.af.pA t.af.ps.length r.af.pc) t.af.ps.length (t.af.ps.flatMap dG):=h.2.1.2
theorem aK.MB{base:Nat}{w:nJ}{r:aW}{t:aO}(h:aK base w r t):w.ownsRow base 157 2 (.slice r.aa.pA t.aa.parts.length r.aa.pc) t.aa.parts.length (t.aa.parts.flatMap jH):=h.2.2.2.1
theorem aK.MD{base:Nat}{w:nJ}{r:aW}{t:aO}(h:aK base w r t):w.ownsRow base 3 1 (.slice r.aa.bA t.aa.bars.length r.aa.bc) t.aa.bars.length (t.aa.bars.flatMap aI):=h.2.2.2.2
theorem Ck{r:aW}{t:aO}{i:Nat}{x:An.BN}:aG r ⟨⟨t.aF.aP,t.aF.cur,t.aF.av,t.aF.aB.set i x,t.aF.aU⟩,t.af,t.aa⟩=aG r t:=by simp[aG]
theorem iQ{t:aO}(hv:aE t=true):Small t:=by obtain⟨v1,v2,v3⟩:=aX.1 hv;have a:=An.aC.1 v1;have b:=Me.aC.1 v2;have c:=Sa.aC.1 v3;unfold Small;refine⟨⟨nQ,nQ,?_⟩,⟨nQ,nQ⟩,⟨nQ,nQ,nQ⟩⟩;have:=a.2.2.2.2.1;omega
theorem Mz{w:nJ}{base n size g c:Nat}{e:TypeId}{xs:List nK}(h:w.ownsRow base e size (.slice (some ⟨g,0,none⟩) n c) n xs):∃cs,ay w g e cs:=by
 rcases h.2 with⟨hv,_⟩|⟨g',cap',cur,hv,h1,h2,_⟩
 ·cases hv
 ·injection hv with hA _ hc;injection hA with hA;injection hA with hg;subst hg;exact⟨cur,h2⟩
theorem aK.JQ{base g:Nat}{w w':nJ}{r:aW}{t:aO}{l:List An.BN}(h:aK base w r t)(hA:r.aF.aA=some ⟨g,0,none⟩)(k:bI (fun x=>x=g) w w')(ho:w'.ownsRow base 102 2 (.slice (some ⟨g,0,none⟩) l.length r.aF.ac) l.length (l.flatMap cM)):aK base w' r ⟨⟨t.aF.aP,t.aF.cur,t.aF.av,l,t.aF.aU⟩,t.af,t.aa⟩:=by have hx:=h.1.2.1;rw[hA] at hx;obtain⟨cs,hb⟩:=Mz hx;refine⟨⟨cN h.1.1 k hb nU,?_,cN h.1.2.2 k hb nU⟩,⟨cN h.2.1.1 k hb nU,cN h.2.1.2 k hb nU⟩,⟨cN h.2.2.1 k hb nU,cN h.2.2.2.1 k hb nU,cN h.2.2.2.2 k hb nU⟩⟩;show w'.ownsRow _ _ _ (.slice r.aF.aA _ _) _ _;rw[hA];exact ho
theorem xM{t:aO}{c:eB}(h:jd t c=none):gz t c=none:=by unfold gz;rw[h]
def cY(r:aW)(t:aO)(w:nJ)(r':aW)(t':aO)(W:nJ):Prop:=(r'=r/\t'=t)\/aK w.heap.size W r' t'
def gM(r:aW)(t:aO)(c:eB)(w:nJ)(e:Ending)(w':nJ):Prop:=
 ∃(r':aW) (δ:nJ),e=.returned (.tuple #[aY r' (jc t c),.bool (gz t c).isSome])/\w'=ah w δ/\cY r t w r' (jc t c) (ah w δ)
theorem o4{r:aW}{t:aO}{c:eB}{w W:nJ}(h:gz t c=none)(hl:∃δ,W=ah w δ):gM r t c w (.returned (.tuple #[aY r t,.bool false])) W:=by
 obtain⟨δ,rfl⟩:=hl;have hd:jc t c=t:=by unfold jc;rw[h];rfl
 exact⟨r,δ,by rw[hd,h];rfl,rfl,.inl ⟨rfl,hd⟩⟩
theorem ov{r r':aW}{t o:aO}{c:eB}{w W:nJ}(h:gz t c=some o)[aD w.heap.size w W][Le w.heap.size W](ho:aK w.heap.size W r' o):gM r t c w (.returned (.tuple #[aY r' o,.bool true])) W:=by
 have hd:jc t c=o:=by unfold jc;rw[h];rfl
 refine⟨r',W,by rw[hd,h];rfl,ai,.inr ?_⟩;rw[<-ai (w:=w),hd];exact ho
theorem rO{t o:aO}{c:eB}(h:jd t c=some o):gz t c=if aE o=true then some o else none:=by unfold gz;rw[h]
end
section
open Hd
theorem ay.qu{g:Nat}{T:TypeId}(vs:List nK):∀ {w:nJ} {cs:Array nK} (o:Nat),ay w g T cs->o+vs.length<=cs.size->∃cs',ay (w.setCells g o vs) g T cs'/\cs'.size=cs.size/\cs'.toList=cs.toList.take o++vs++cs.toList.drop (o+vs.length):=by
 induction vs with
 |nil=>intro w cs o h _;exact⟨cs,h,rfl,nV⟩
 |cons v vs ih=>
  intro w cs o h hl
  simp only[List.length_cons] at hl
  obtain⟨cs',h1,h2,h3⟩:=ih (o+1) (h.set o v) (by rw[Array.size_setIfInBounds];omega)
  refine⟨cs',h1,by rw[h2,Array.size_setIfInBounds],?_⟩
  rw[h3,Array.toList_setIfInBounds]
  have ho:o<cs.toList.length:=by rw[Array.length_toList];omega
  rw[List.take_set,List.drop_set_of_lt nQ,List.length_cons,show o+1+vs.length=o+(vs.length+1) by omega]
  have e:cs.toList.take (o+1)=cs.toList.take o++[cs.toList[o]]:=by rw[List.take_succ_eq_append_getElem ho]
  have hm:min o cs.size=o:=by rw[Array.length_toList] at ho;omega
  rw[e,List.set_append_right _ _ (by rw[List.length_take];omega)]
  simp[hm]
theorem bI.setCells{g:Nat}(vs:List nK):∀(A B:nJ) (o:Nat),bI (fun x=>x=g) A B->bI (fun x=>x=g) A (B.setCells g o vs):=by
 induction vs with
 |nil=>intro A B o h;exact h
 |cons v vs ih=>intro A B o h;exact ih _ _ _ (h.set (b:=g) rfl o v)
section
variable{P:Program}{W:nJ}{b o:Nat}{T ty:TypeId}{cs cs' Zg:Array nK}{ops:Array Oper}{rest:List Oper}{op:Oper}{a:Act}{Q:Exit->Act->nJ->Prop}{n:Nat}
theorem ay.range(hb:ay W b T cs)(he:(cs.toList.drop o).take n=cs'.toList):W.rangeAt b o cs'.toList:=fun j v hj=>by
 refine hb.cell ?_;rw[<-he,List.getElem?_take] at hj;split at hj
 ·rw[List.getElem?_drop] at hj;rw[<-Array.getElem?_toList];exact hj
 ·cases hj
theorem cA(hT:gi P ty n)(hgd:op.guard=none)(x:Operand)(ho:op.op=.load ty x)(hx:a.eval x=.pointer (some ⟨b,o,none⟩))(hb:ay W b T cs)(he:(cs.toList.drop o).take n=cs'.toList)(hn:cs'.size=n)(h:wpList P ops Q rest (a.put op.dst (.agg cs')) W):wpList P ops Q (op::rest) a W:=by obtain⟨⟨d,h1,h2⟩,h3⟩:=hT;subst hn;exact wpList_load_mid hgd ty x ho b o hx cs'.toList d (hb.range he) h1 h2 (by rw[h3];simp) (by simpa using h)
theorem nw(hT:gi P ty n)(hgd:op.guard=none)(x y:Operand)(ho:op.op=.store ty x y)(hx:a.eval x=.pointer (some ⟨b,o,none⟩))(hy:a.eval y=.agg cs')(hb:ay W b T cs)(hn:cs'.size=n)(hl:o+n<=cs.size)(h1:cs'.all (·.oneCell')=true)(he:cs.toList.take o++cs'.toList++cs.toList.drop (o+n)=Zg.toList)(h:∀W',ay W' b T Zg->bI (fun x=>x=b) W W'->wpList P ops Q rest (a.put op.dst undef) W'):wpList P ops Q (op::rest) a W:=by
 obtain⟨_,h3⟩:=hT;subst hn;refine wpList_store_mid hgd ty x y ho b o cs' hx hy ?_ h3 h1 ?_
 ·intro j hj;have hj':o+j<cs.size:=nQ;exact⟨by rw[hb.cell (i:=o+j) (v:=cs[o+j]) (by rw[Array.getElem?_eq_getElem hj'])];rfl,hb.free _⟩
 ·obtain⟨c3,k1,k2,k3⟩:=ay.qu cs'.toList o hb (by simpa using hl);have:c3=Zg:=Array.toList_inj.1 (by rw[k3,<-he];simp);subst this;exact h _ k1 (bI.setCells _ _ _ _ (bI.refl _ _))
end
section
variable{P:Program}{W:nJ}{b:Nat}{T ty:TypeId}{cs cs':Array nK}{ops:Array Oper}{o:Oper}{a:Act}{n:Nat}
theorem iE{S:nJ->Prop}(hT:gi P ty n)(hw:Region.wanted o (yielded ops a.tmps)=true)(x:Operand)(ho:o.op=.load ty x)(hx:a.eval x=.pointer (some ⟨b,0,none⟩))(hS:∀w,S w->ay w b T cs)(hn:cs.size=n):YieldsIf P ops S o (.agg cs) a:=by obtain⟨⟨d,h1,h2⟩,h3⟩:=hT;subst hn;refine yieldsIf_load_mid hw ty x ho b 0 hx cs.toList d (fun w h=>(hS w h).range (n:=cs.size) ?_) h1 h2 (by rw[h3];simp);rw[List.drop_zero,List.take_of_length_le nV]
theorem oB{K:Act->nJ->Prop}{Q:Exit->Act->nJ->Prop}(hT:gi P ty n)(x y:Operand)(ho:o.op=.store ty x y)(hx:a.eval x=.pointer (some ⟨b,0,none⟩))(hy:a.eval y=.agg cs')(hb:ay W b T cs)(hn:cs.size=n)(hn':cs'.size=n)(h1:cs'.all (·.oneCell')=true)(h:∀W',ay W' b T cs'->bI (fun x=>x=b) W W'->K (a.put o.dst undef) W'):o.wp P a W K Q:=by obtain⟨_,h3⟩:=hT;subst hn;exact wp_store_row ty x y ho b cs' hx hy T cs hb (by rw[hn'];exact h3) hn'.symm h1 (h _ (hb.setRow cs') (bI.setRow _ _ _))
end
theorem cY.from_{r r':aW}{t t':aO}{w w1 W:nJ}(h:cY r t w1 r' t' W)(hl:w.heap.size<=w1.heap.size):cY r t w r' t' W:=h.imp id fun o=>o.mono hl
theorem Bb{W W':nJ}{B b:Nat}{xs:List nK}{ob:Option Nat}(h:Cells W B (some ⟨b,0,none⟩) xs)(hlt:b<W.heap.size)(hg:W.grownBy W' ob)(hne:ob≠some b):Cells W' B (some ⟨b,0,none⟩) xs:=fun hx=>by obtain⟨b',o,e,hb,hc⟩:=h hx;injection e with e;injection e with e1 e2;subst e1;exact⟨_,o,by rw[e2],hb,fun j v hj=>(World.cell?_of_block (a:=⟨_,_,none⟩) (hg.block _ hlt (fun e'=>hne e'.symm))).trans (hc j v hj)⟩
theorem RU{W2 W':nJ}{e T g:Nat}{arr:Array nK}{ob:Option Nat}(hg':g=W2.heap.size+1)(hg:((W2.alloc (.cells #[] e)).alloc (.cells arr T)).drew.grownBy W' ob)(hne:ob≠some g):Cells W' (g+1) (some ⟨g,0,none⟩) arr.toList:=by have h1:(W2.alloc (.cells #[] e)).heap.size=W2.heap.size+1:=nW;have h2:((W2.alloc (.cells #[] e)).alloc (.cells arr T)).heap.size=W2.heap.size+1+1:=nW;have h3:Cells ((W2.alloc (.cells #[] e)).alloc (.cells arr T)).drew (g+1) (some ⟨g,0,none⟩) arr.toList:=ia (W:=W2.alloc (.cells #[] e)) nQ;exact Bb h3 (by show g<((W2.alloc (.cells #[] e)).alloc (.cells arr T)).heap.size;omega) hg hne
theorem OU{W2 W':nJ}{e T g:Nat}{arr:Array nK}{ob:Option Nat}(hg':g=W2.heap.size)(hg:((W2.alloc (.cells arr T)).alloc (.cells #[] e)).drew.grownBy W' ob)(hne:ob≠some g):Cells W' (g+1) (some ⟨g,0,none⟩) arr.toList:=by
 have h1:(W2.alloc (.cells arr T)).heap.size=W2.heap.size+1:=nW;have h2:((W2.alloc (.cells arr T)).alloc (.cells #[] e)).heap.size=W2.heap.size+1+1:=nW;have h3:Cells ((W2.alloc (.cells arr T)).alloc (.cells #[] e)).drew (g+1) (some ⟨g,0,none⟩) arr.toList:=fun hx=>by
  obtain⟨b',o,e',hb,hc⟩:=ia (W:=W2) (arr:=arr) (T:=T) (g:=g) nQ hx;injection e' with e';injection e' with e1 e2;subst e1;exact⟨_,o,by rw[e2],hb,fun j v hj=>by
   have hx:=hc j v hj
   have hlt:g<(W2.alloc (.cells arr T)).heap.size:=nQ
   show((W2.alloc (.cells arr T)).alloc (.cells #[] e)).cell? _=_
   rw[World.cell?_alloc_past _ _ _ hlt]
   exact hx⟩
 exact Bb h3 (by show g<((W2.alloc (.cells arr T)).alloc (.cells #[] e)).heap.size;omega) hg hne
structure cO where
 ax:aW
 oA:Option Addr
 oc:Nat
def cE(k:cO)(d:ct):Array nK:=#[.int .i64 d.ax.aF.aP.lo,.int .i64 d.ax.aF.aP.hi,.int .i64 d.ax.aF.cur.lo,.int .i64 d.ax.aF.cur.hi,
 .slice k.ax.aF.gA d.ax.aF.av.length k.ax.aF.gc,.slice k.ax.aF.aA d.ax.aF.aB.length k.ax.aF.ac,.slice k.ax.aF.wA d.ax.aF.aU.length k.ax.aF.wc,
 .int .i64 d.ax.af.m,.slice k.ax.af.hA d.ax.af.hs.length k.ax.af.hc,.slice k.ax.af.pA d.ax.af.ps.length k.ax.af.pc,
 .slice k.ax.aa.kA d.ax.aa.kinds.length k.ax.aa.kc,.int .i64 d.ax.aa.floor,.slice k.ax.aa.pA d.ax.aa.parts.length k.ax.aa.pc,.slice k.ax.aa.bA d.ax.aa.bars.length k.ax.aa.bc,
 .slice k.oA d.az.length k.oc,.int .i64 (d.given:Nat)]
abbrev jk(k:cO)(d:ct):nK:=.agg (cE k d)
theorem cz:gi nH 125 16:=gi.mk' Tryz.underlying125 rfl nP
theorem rowWords:gi nH 53 3:=gi.mk' Tryz.underlying53 rfl nP
theorem dO(k:cO)(d:ct):(cE k d).all (·.oneCell')=true:=by simp[cE,Value.oneCell']
theorem eU(k:cO)(d:ct):((cE k d).toList.drop 0).take 14=(aG k.ax d.ax).toList:=rfl
theorem AQ(k:cO)(d:ct)(r:aW)(t:aO):(cE k d).toList.take 0++(aG r t).toList++(cE k d).toList.drop (0+14)=(cE ⟨r,k.oA,k.oc⟩ ⟨t,d.az,d.given⟩).toList:=rfl
theorem AR(k:cO)(d:ct):0+14<=(cE k d).size:=by show 0+14<=16;decide
def mU:ct:=⟨cS,[],0⟩
def mT:cO:=⟨dc,none,0⟩
abbrev dW(w:nJ)(A:Option Addr)(c:Nat)(os:List Ord):Prop:=fN 252 mw w.heap.size w A c os
theorem Rn{W:nJ}{base c:Nat}{A:Option Addr}{os:List Ord}{o:Ord}(h:W.ownsRow base 252 2 (.slice A (os.length+1) c) (os.length+1) (os.flatMap mw++mw o)):dW W A c (os++[o]):=by refine fN.bU (base:=base) (size:=2) (n:=os.length+1) ?_ nV;rw[List.flatMap_append];simpa using h
theorem Lv{k:cO}{d:ct}{A:Option Addr}{c:Nat}{o:Ord}:cE ⟨k.ax,A,c⟩ ⟨d.ax,d.az++[o],d.given⟩=(cE k d).setIfInBounds 14 (.slice A (d.az.length+1) c):=by simp[cE]
theorem uS{p:Ord->Bool}:∀ {os:List Ord} {j:Nat},j<os.length->p (nth os j)=true->(∀m,m<j->p (nth os m)=false)->os.findIdx? p=some j
 |[],j,h,_,_=>absurd h (Nat.not_lt_zero _)
 |x::xs,0,_,h,_=>by have h:p x=true:=h;rw[List.findIdx?_cons,if_pos h]
 |x::xs,j+1,hl,h,hn=>by have h0:p x=false:=hn 0 (Nat.succ_pos _);rw[List.findIdx?_cons,if_neg (by rw[h0];decide),uS (os:=xs) (j:=j) (Nat.lt_of_succ_lt_succ hl) h fun m hm=>hn (m+1) (Nat.succ_lt_succ hm)];rfl
theorem uT{p:Ord->Bool}:∀ {os:List Ord},(∀m,m<os.length->p (nth os m)=false)->os.findIdx? p=none
 |[],_=>rfl
 |x::xs,hn=>by have h0:p x=false:=hn 0 (Nat.succ_pos _);rw[List.findIdx?_cons,if_neg (by rw[h0];decide),uT (os:=xs) fun m hm=>hn (m+1) (Nat.succ_lt_succ hm)];rfl
section
variable{w W W':nJ}{r r':aW}{t t':aO}{B:Nat}
theorem cY.aV{b:Nat}{T:TypeId}{cs:Array nK}(h:cY r t w r' t' W)(k:bI (fun x=>x=b) W W')(hb:ay W b T cs)(hne:Bx T):cY r t w r' t' W':=
 h.imp id fun o=>o.aV k hb hne
theorem cY.up(h:cY r t w r' t' W)[hg:aD W.heap.size W W']:cY r t w r' t' W':=h.imp id fun o=>o.up
theorem cY.abp(h:cY r t w r' t' W):cY r t w r' t' W.drew:=h
theorem cY.refl:cY r t w r t W:=.inl ⟨rfl,rfl⟩
theorem cY.is(h:cY r t w r' t' W)(hT:aN B w r t)[hg:aD B w W][hB:Le B W]:aN W.heap.size W r' t':=by
 rcases h with⟨rfl,rfl⟩|h
 ·exact hT.wide
 ·exact h.is
theorem cY.trans{r'':aW}{t'':aO}(h:cY r t w r' t' W)(k:cY r' t' W r'' t'' W')(hl:w.heap.size<=W.heap.size)[hg:aD W.heap.size W W']:cY r t w r'' t'' W':=by
 rcases k with⟨rfl,rfl⟩|k
 ·exact h.up
 ·exact .inr (k.mono hl)
end
theorem qE{l:aQ}{c:eB}(h:bH l=.cmd c):aby c:=by
 unfold bH dH at h;split at h
 ·split at h
  ·split at h
   ·cases h
   ·unfold oK at h;split at h
    ·split at h<;>cases h
    ·cases h
  ·cases h
 ·split at h
  ·injection h with h;subst h;rename_i hc;exact AW hc
  ·cases h
def fh(k:cO)(d:ct)(w:nJ)(x:ct × aQ)(e:Ending)(w':nJ):Prop:=
 ∃(k':cO) (δ:nJ),e=.returned (.tuple #[jk k' x.1,.string (str x.2)])/\w'=ah w δ/\cY k.ax d.ax w k'.ax x.1.ax (ah w δ)/\dW (ah w δ) k'.oA k'.oc x.1.az
theorem jv{k k':cO}{d d':ct}{w W:nJ}{x:ct × aQ}{s:ByteArray}[aD w.heap.size w W][Le w.heap.size W](hx:x.1=d')(hs:s=str x.2)(hT:cY k.ax d.ax w k'.ax d'.ax W)(hO:dW W k'.oA k'.oc d'.az):fh k d w x (.returned (.tuple #[jk k' d',.string s])) W:=by
 subst hx;subst hs;refine⟨k',W,rfl,ai,?_,?_⟩
 ·rw[<-ai (w:=w)];exact hT
 ·rw[<-ai (w:=w)];exact hO
theorem xY(os:List Ord)(i:Nat)(hi:i<os.length)(h5:os.length<=1000)(A:Option Addr)(c:Nat)(B:Nat)(w:nJ)(hS:Sl mw B w A c os)[hB:Le B w]:Calls nH 184 #[.slice A os.length c,.int .i64 i] w fun e w'=>∃A' c' δ,e=.returned (.slice A' (os.eraseIdx i).length c')/\w'=ah w δ/\dW (ah w δ) A' c' (os.eraseIdx i):=by
 obtain⟨b,o,rfl,hb,_⟩:=hS.order hi;have HS:=qh hS;have hcc:os.length<=c:=hS.1;obtain⟨u,hu⟩:∃u,u=i+1:=⟨_,rfl⟩;have hw1:IntKind.i64.wrap ((i:Int)+1)=(u:Int):=by rw[IntWalk.i64_in _ nQ];omega
 have hui:(u:Int)<=(os.length:Int):=nQ;have hic:(i:Int)<=(c:Int):=nQ;obtain⟨A2,rz⟩:∃A2,(if c=u then some (⟨b,o,none⟩:Addr) else some ⟨b,o+u*2,none⟩)=A2:=⟨_,rfl⟩;have oa:Hid (Sl mw B w (some ⟨b,o,none⟩) c (os.take i)):=qh (hS.take i);have Cc:Hid (Sl mw B w A2 (c-u) (os.drop u)):=by have:=hS.drop tj u nQ;rw[<-rz];exact qh (by simpa [Addr.add_lit] using this)
 have pY:Hid ((os.take i).length=i):=qh (by rw[List.length_take];omega);have qQ:Hid ((os.drop u).length=os.length-u):=qh (by rw[List.length_drop]);have HE:Hid (os.eraseIdx i=os.take i++os.drop u):=qh (by rw[hu,List.eraseIdx_eq_take_drop_succ]);have Qt:Hid (((os.take i).flatMap mw).length=i*2):=qh (by rw[cm mw 2 tj,pY.out]);have Fk:Hid (((os.drop u).flatMap mw).length=(os.length-u)*2):=qh (by rw[cm mw 2 tj,qQ.out]);have hi1:i<=1000:=nQ;have hi2:i+(os.length-u)<=1000:=nQ;clear hS hu hb;go_enter Tryz.func184,Tryz.ntmps184;go_upto_region 1 with fail;go_region_held3 (fun _=>True) (trivial)
  (first|(refine fE w slO (.tmp 5) (.tmp 8) rfl rfl (v:=.slice (some ⟨_,0,none⟩) 0 0) (by first|exact cB nW nW|exact(cB nW nW).alloc _) rfl (B:=B) (A:=some ⟨b,o,none⟩) (m:=i) (c:=c) (news:=(os.take i).flatMap mw) rfl (oa.out.up.2.2) Qt.out (dX mw vJ _) nQ nQ ?_;intro A1 c1 δ1 eG hg1)|(refine cU w slO (.tmp 9) (.tmp 13) rfl rfl (v:=.slice A1 i c1) (n:=i) (xs:=(os.take i).flatMap mw) (by first|exact eG|exact eG.alloc _) rfl (B:=B) (A:=A2) (m:=os.length-u) (c:=c-u) (news:=(os.drop u).flatMap mw) rfl (Cc.out.up.2.2) Fk.out (dX mw vJ _) nQ nQ ?_;intro A3 c3 δ3 lK uO))
 all_goals
  go_wp2_with fail;go_ret;refine⟨A3,c3,_,?_,ai,?_⟩
  ·rw[HE.out,List.length_append,pY.out,qQ.out];rfl
  ·rw[<-ai (w:=w),HE.out];refine fN.bU (base:=w.heap.size) (size:=2) (n:=i+(os.length-u)) ?_ (by rw[List.length_append,pY.out,qQ.out]);rw[List.flatMap_append];exact lK
end
end Go.Proofs.YtpnnapeoanafdaaGreatDoor
