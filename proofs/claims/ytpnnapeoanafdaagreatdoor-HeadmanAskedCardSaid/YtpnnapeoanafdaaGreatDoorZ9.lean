/- A part of the proof that a law of layer 12 holds, cut small by a program (names and blanks): Hm5, Hm6, Hm7. -/
import Derived.Test.YtpnnapeoanafdaaGreatDoorZ8
set_option maxRecDepth 100000
set_option maxHeartbeats 40000000
set_option linter.unusedVariables false
set_option linter.unusedSimpArgs false
namespace Go.Proofs.YtpnnapeoanafdaaGreatDoor
open Go.RowKit
open Nat renaming le_trans → nT, lt_of_lt_of_le → nL, le_refl → nR, zero_le → nE, lt_succ_self → nA, le_of_ble_eq_true → nG
open Go.Proofs.Tryz renaming prog → nH
open Go renaming World → nJ, Value → nK
section
open Me
end
section
open Me
theorem pU{B:Nat}{w W wr:nJ}(h:aD B w W)(h2:aD W.heap.size W wr)[hB:Le B W]:aD B w wr:=
 ⟨⟨h2.out.1.trans h.out.1,h2.out.2.1.trans h.out.2.1,h2.out.2.2.1.trans h.out.2.2.1,fun b hb=>(h2.out.2.2.2 b (nL hb hB.out)).trans (h.out.2.2.2 b hb)⟩⟩
theorem Qy{n:Net}(hv:valid n=true){l:List Int}(hl:eu n l=true):-10000<=dM n l/\dM n l<=10000:=yX hv hl (wm (kO hv).2.2.2.1).1 _ (nR _)
theorem O0{n:Net}(hv:valid n=true):-10000<=cR n/\cR n<=10000:=Qy hv (gp (aC.1 hv).2.2.2.2.2)
end
section
open Me
def yH:Net:=⟨1,[⟨0,2,3,2⟩,⟨0,5,6,3⟩,⟨1,4,8,1⟩],[⟨0,2⟩]⟩
def exM:Net:=⟨2,[⟨0,2,3,2⟩,⟨0,5,6,3⟩,⟨1,4,8,1⟩],[⟨0,2⟩]⟩
theorem YE(a b c d:Int)(w:nJ):Calls nH 146 #[.int .i64 a,.int .i64 b,.int .i64 c,.int .i64 d] w fun e w'=>e=.returned (.agg #[.int .i64 a,.int .i64 b,.int .i64 c,.int .i64 d])/\∃δ,w'=ah w δ:=by go_enter Tryz.func146,Tryz.ntmps146;go_wp2_with fail;refine bodyPost_ret (v:=.agg #[.int .i64 a,.int .i64 b,.int .i64 c,.int .i64 d]) ?_ rfl ⟨rfl,ag⟩;simp only[results,Tryz.results146];go_simp
theorem KC(w:nJ):Calls nH 80 #[] w fun e w'=>∃(r:cx) (δ:nJ),e=.returned (.tuple #[cH r yH,cH r exM])/\w'=ah w δ/\Hid (bL (ah w δ).heap.size (ah w δ) r yH):=by
 go_enter Tryz.func80,Tryz.ntmps80;go_wp2_with (go_at_call 146;refine(YE _ _ _ _ _).mono ?_;rintro e w1 ⟨rfl,δ,hw⟩;have b0:ay w1 w.heap.size 32 #[.int .i64 0,.slice none 0 0,.slice none 0 0]:=(by rw[hw];first|exact b0.ah _|exact((ay.new rfl).alloc _).ah _);have b1:ay w1 (w.heap.size+1) 32 #[.int .i64 0,.slice none 0 0,.slice none 0 0]:=(by rw[hw];first|exact b1.ah _|exact(ay.new nV).ah _);have c00:=b0.cell (i:=0) rfl;have c01:=b0.cell (i:=1) rfl;have c02:=b0.cell (i:=2) rfl;have xN:=b1.cell (i:=0) rfl;have c11:=b1.cell (i:=1) rfl;have c12:=b1.cell (i:=2) rfl;have f00:=b0.free 0;have f01:=b0.free 1;have f02:=b0.free 2;have f10:=b1.free 0;have f11:=b1.free 1;have f12:=b1.free 2;have l0:=b0.lt;have l1:=b1.lt;have g3:aD w.heap.size w w1:=(by rw[hw];infer_instance);have g4:Le w.heap.size w1:=(by rw[hw];infer_instance);clear hw);have B0:=qh b0;have B1:=qh b1;clear b0 b1;refine aM fun W0 jR=>?_;have q0:ay W0 w.heap.size 32 #[.int .i64 1,.slice (some ⟨w1.heap.size,0,none⟩) 3 3,.slice (some ⟨w1.heap.size+1,0,none⟩) 1 1]:=by
  rw[jR.out];refine ay.alloc (ay.alloc ?_ _) _;refine ay.fB (ay.fB (ay.fB (ay.fB ?_ ?_ _) ?_ _) ?_ _) ?_ _
  ·exact((B0.out.set 0 _).set 1 _).set 2 _
  all_goals (show w.heap.size≠w.heap.size+1;omega)
 have q1:ay W0 (w.heap.size+1) 32 #[.int .i64 2,.slice (some ⟨w1.heap.size,0,none⟩) 3 3,.slice (some ⟨w1.heap.size+1,0,none⟩) 1 1]:=by rw[jR.out];refine ay.alloc (ay.alloc ?_ _) _;refine ay.set (cs:=#[.int .i64 1,.slice (some ⟨w1.heap.size,0,none⟩) 3 3,.slice (some ⟨w1.heap.size+1,0,none⟩) 1 1]) ?_ 0 _;refine ay.set (cs:=#[.int .i64 1,.slice (some ⟨w1.heap.size,0,none⟩) 3 3,.slice none 0 0]) ?_ 2 _;refine ay.set (cs:=#[.int .i64 1,.slice none 0 0,.slice none 0 0]) ?_ 1 _;refine ay.set (cs:=#[.int .i64 0,.slice none 0 0,.slice none 0 0]) ?_ 0 _;refine ay.fB (ay.fB (ay.fB B1.out ?_ _) ?_ _) ?_ _;all_goals (show w.heap.size+1≠w.heap.size;omega)
 have q2:ay W0 w1.heap.size 150 #[.int .i64 0,.int .i64 2,.int .i64 3,.int .i64 2,.int .i64 0,.int .i64 5,.int .i64 6,.int .i64 3,.int .i64 1,.int .i64 4,.int .i64 8,.int .i64 1]:=by rw[jR.out];exact(ay.new nV).alloc _
 have q3:ay W0 (w1.heap.size+1) 152 #[.int .i64 0,.int .i64 2]:=by rw[jR.out];exact ay.new nV
 have g1:aD w.heap.size w W0:=gy jR;have g2:Le w.heap.size W0:=fI jR;have c0:=q0.cell (i:=0) rfl;have c1:=q0.cell (i:=1) rfl;have c2:=q0.cell (i:=2) rfl;have d0:=q1.cell (i:=0) rfl;have d1:=q1.cell (i:=1) rfl;have d2:=q1.cell (i:=2) rfl;have k0:=q0.free 0;have k1:=q0.free 1;have k2:=q0.free 2;have k3:=q1.free 0;have k4:=q1.free 1;have k5:=q1.free 2;have j0:=q0.lt;have j1:=q1.lt;have Q2:=qh q2;have Q3:=qh q3;have iZ:=qh (show w.heap.size+1<w1.heap.size from l1.out);clear jR q2 q3 q0 q1 c00 c01 c02 xN c11 c12 f00 f01 f02 f10 f11 f12 l0 l1;go_region;all_goals
  go_wp2_with fail;refine bodyPost_ret (v:=.tuple #[cH ⟨some ⟨w1.heap.size,0,none⟩,3,some ⟨w1.heap.size+1,0,none⟩,1⟩ yH,cH ⟨some ⟨w1.heap.size,0,none⟩,3,some ⟨w1.heap.size+1,0,none⟩,1⟩ exM]) ?_ rfl ?_
  ·simp only[results,Tryz.results80];go_simp;simp[yH,exM]
  ·refine⟨⟨some ⟨w1.heap.size,0,none⟩,3,some ⟨w1.heap.size+1,0,none⟩,1⟩,_,rfl,ai,?_⟩;refine QDF ?_;refine⟨qj yH.hs (T:=150) (cs:=#[.int .i64 0,.int .i64 2,.int .i64 3,.int .i64 2,.int .i64 0,.int .i64 5,.int .i64 6,.int .i64 3,.int .i64 1,.int .i64 4,.int .i64 8,.int .i64 1]) ?_ (nG rfl) (nG rfl) rfl,qj yH.ps (T:=152) (cs:=#[.int .i64 0,.int .i64 2]) ?_ (nG rfl) (nG rfl) rfl⟩
   ·refine ay.drew ?_;iterate 6 (refine ay.fB ?_ (by have:=iZ.out;first|(show w1.heap.size≠w.heap.size;omega)|(show w1.heap.size≠w.heap.size+1;omega)) _)
    exact Q2.out
   ·refine ay.drew ?_;iterate 6 (refine ay.fB ?_ (by have:=iZ.out;first|(show w1.heap.size+1≠w.heap.size;omega)|(show w1.heap.size+1≠w.heap.size+1;omega)) _)
    exact Q3.out
namespace Me
end Me
end
theorem pJ{base b i:Nat}{w:nJ}{e:TypeId}{size n:Nat}{v u:nK}{xs:List nK}(h:w.ownsRow base e size v n xs)(hb:b<base):(w.setCell ⟨b,i,none⟩ u).ownsRow base e size v n xs:=ownsRow_setCell_below h (a:=⟨b,i,none⟩) hb u
section
open Me
theorem JO:pE nH 29 150 (.agg #[.int .i64 0,.int .i64 0,.int .i64 0,.int .i64 0]) 4 32:=pE.mk Tryz.underlying29 nP rfl nQ
theorem DS:pE nH 30 152 (.agg #[.int .i64 0,.int .i64 0]) 2 16:=pE.mk Tryz.underlying30 nP rfl nQ
theorem qA:∀x,∀u∈bE x,u.oneCell'=true:=by intro x u hu;simp[bE] at hu;rcases hu with rfl|rfl|rfl|rfl<;>rfl
theorem Ed:∀x,∀u∈dG x,u.oneCell'=true:=by intro x u hu;simp[dG] at hu;rcases hu with rfl|rfl<;>rfl
theorem MG:∀x,∀u∈aI x,u.oneCell'=true:=by intro x u hu;simp[aI] at hu;subst hu;rfl
def MS(n:Net)(k:Nat):Bool:=decide (40<n.hs.length)||(decide (40<n.ps.length)||decide (40<k))
def PB(n:Net)(lN:Nat):Bool:=MS n 0||(decide (lN<n.hs.length)&&decide (n.hs.length<=6))
theorem MK(r:cx)(n:Net)(A:Option Addr)(k c:Nat)(b:Bool)(hb:MS n k=b)(hk:k<=9223372036854775807)(B:Nat)(w:nJ)(hN:bL B w r n):Calls nH 177 #[cH r n,.slice A k c] w fun e w'=>e=.returned (.bool b)/\∃δ,w'=ah w δ:=by subst hb;have l1:=hN.1.len;have l2:=hN.2.len;go_enter Tryz.func177,Tryz.ntmps177;go_wp2;all_goals go_ret;exact⟨bg (by unfold MS;rw[Bool.eq_iff_iff];simp at *;omega),ag⟩
theorem Yf(r:cx)(n:Net)(lN:Nat)(hm:lN<=100)(b:Bool)(hb:PB n lN=b)(B:Nat)(w:nJ)(hN:bL B w r n)[hB:Le B w]:Calls nH 116 #[cH r n,.int .i64 lN] w fun e w'=>e=.returned (.bool b)/\∃δ,w'=ah w δ:=by
 subst hb;have l1:=hN.1.len;have l2:=hN.2.len;have HN:=qh hN;clear hN;cases hh:MS n 0 with
 |true=>
  have HH:=qh hh
  clear hh
  go_enter Tryz.func116,Tryz.ntmps116
  go_wp2_with (go_at_call 177;refine(MK r n none 0 0 _ HH.out nQ B _ HN.out.up).mono ?_;rintro e w1 ⟨rfl,δ,rfl⟩)
  go_ret
  exact⟨bg (by unfold PB;rw[HH.out];rfl),ag⟩
 |false=>
  have HH:=qh hh
  clear hh
  go_enter Tryz.func116,Tryz.ntmps116
  go_wp2_with (go_at_call 177;refine(MK r n none 0 0 _ HH.out nQ B _ HN.out.up).mono ?_;rintro e w1 ⟨rfl,δ,rfl⟩)
  all_goals go_ret;exact⟨bg (by unfold PB;rw[HH.out,Bool.eq_iff_iff];simp at *;omega),ag⟩
def eP(base:Nat)(w:nJ)(r:cx)(n:Net):Prop:=
 w.ownsRow base 150 4 (.slice r.hA n.hs.length r.hc) n.hs.length (n.hs.flatMap bE) /\
 w.ownsRow base 152 2 (.slice r.pA n.ps.length r.pc) n.ps.length (n.ps.flatMap dG)
section
variable{base:Nat}{w:nJ}{r:cx}{n:Net}
theorem eP.mono(h:eP base w r n){base':Nat}(hb:base'<=base):eP base' w r n:=⟨dA h.1 hb,dA h.2 hb⟩
theorem eP.set(h:eP base w r n){b i:Nat}(hb:b<base)(u:nK):eP base (w.setCell ⟨b,i,none⟩ u) r n:=⟨pJ h.1 hb,pJ h.2 hb⟩
theorem eP.alloc(h:eP base w r n)(o:Obj):eP base (w.alloc o) r n:=⟨h.1.alloc o,h.2.alloc o⟩
theorem eP.up(h:eP base w r n){W:nJ}[hg:aD w.heap.size w W]:eP base W r n:=⟨bu h.1,bu h.2⟩
end
theorem qq{P:Program}(W1:nJ){W:nJ}{ops:Array Oper}{o:Oper}{a:Act}{K:Act->nJ->Prop}{Q:Exit->Act->nJ->Prop}{E:Prop}{t e:TypeId}{z:nK}{size bytes:Nat}(hT:pE P t e z size bytes)(s x:Operand)(hgd:o.guard=none)(ho:o.op=.call { callee:=.builtin .append,args:=#[s,x],argTypes:=#[t,t] }){v:nK}(hown:W.ownsRow W1.heap.size e size v 0 [])(hs:a.eval s=v){B m c:Nat}{A:Option Addr}{news:List nK}(hx:a.eval x=.slice A m c)(hr:Cells W B A news)(hl:news.length=m*size)(h1:∀u∈news,u.oneCell'=true)(h63:m<=1000000)(hbytes:bytes<=1000)[hbase:Le W1.heap.size W](h:∀A' c' δ,(ez W1.heap.size W δ).ownsRow W1.heap.size e size (.slice A' m c') m news->W.grownBy (ez W1.heap.size W δ) v.ownBlock->W.ownsRow W1.heap.size e size v 0 []->K (a.put o.dst (.slice A' m c')) (ez W1.heap.size W δ)):if Region.wanted o (yielded ops a.tmps)=true then Oper.wp P o a W K Q else E:=
 fE W1 hT s x hgd ho hown hs hx hr hl h1 h63 hbytes fun A' c' δ h2 h3=>h A' c' δ h2 h3 hown
theorem Ea{w w':nJ}{base g n n' c' size size':Nat}{e e':TypeId}{v:nK}{xs xs':List nK}(h:w.ownsRow base e size v n xs)(hg:w.grownBy w' (Value.slice (some ⟨g,0,none⟩) n' c').ownBlock)(h':w.ownsRow base e' size' (.slice (some ⟨g,0,none⟩) n' c') n' xs')(hne:e≠e'):w'.ownsRow base e size v n xs:=
 h.kept hg (.inr (Eb h h' hne))
theorem vW{W W':nJ}{base e s g g':Nat}(h:W.ownsRow base e s (.slice (some ⟨g,0,none⟩) 0 0) 0 [])(ZS:W.grownBy W' (Value.slice (some ⟨g',0,none⟩) 0 0).ownBlock)(hne:g≠g'):W'.ownsRow base e s (.slice (some ⟨g,0,none⟩) 0 0) 0 []:=
 h.kept ZS (.inr fun he=>hne (Option.some.inj he))
theorem MN{W1:nJ}{e1 e2 s g:Nat}(hg:g=W1.heap.size):((W1.alloc (.cells #[] e1)).alloc (.cells #[] e2)).drew.ownsRow W1.heap.size e1 s (.slice (some ⟨g,0,none⟩) 0 0) 0 []:=by subst hg;exact(cB (nR _) rfl).alloc _
theorem MM{W1:nJ}{e1 e2 s g:Nat}(hg:g=W1.heap.size+1):((W1.alloc (.cells #[] e1)).alloc (.cells #[] e2)).drew.ownsRow W1.heap.size e2 s (.slice (some ⟨g,0,none⟩) 0 0) 0 []:=by have h:(W1.alloc (.cells #[] e1)).heap.size=W1.heap.size+1:=nW;exact cB (W:=W1.alloc (.cells #[] e1)) nQ nQ
theorem oP{n:Nat}:n≠n+1:=by omega
theorem FK{n:Nat}:n+1≠n:=by omega
theorem Vh(r:cx)(n:Net)(B:Nat)(w:nJ)[hB:Le B w](h:bL B w r n)(q1:n.hs.length<=1000)(q2:n.ps.length<=1000):Calls nH 83 #[cH r n] w fun e w'=>∃(r':cx) (δ:nJ),e=.returned (cH r' n)/\w'=ah w δ/\eP w.heap.size (ah w δ) r' n:=by
 go_enter Tryz.func83,Tryz.ntmps83;have H:=qh h;clear h;go_upto_region 1 with fail;refine QCC ?_;intro W1 aH cJ dF cW di dz eL;refine QDH ?_;intro nt lC mQ;have jI:W1.cell? ⟨w.heap.size+1,0,none⟩=some (.int .i64 0):=by rw[aH.out];go_simp
 have nk:W1.cell? ⟨w.heap.size+1,1,none⟩=some (.slice none 0 0):=by rw[aH.out];go_simp
 have nj:W1.cell? ⟨w.heap.size+1,2,none⟩=some (.slice none 0 0):=by rw[aH.out];go_simp
 have fw13:W1.frozen? ⟨w.heap.size+1,0,none⟩=false:=by rw[aH.out];go_simp
 have fw14:W1.frozen? ⟨w.heap.size+1,1,none⟩=false:=by rw[aH.out];go_simp
 have fw15:W1.frozen? ⟨w.heap.size+1,2,none⟩=false:=by rw[aH.out];go_simp
 clear aH;go_region_held3 (fun W=>W.cell? ⟨w.heap.size,0,none⟩=some (.int .i64 n.m)/\W.cell? ⟨w.heap.size,1,none⟩=some (.slice r.hA n.hs.length r.hc)/\W.cell? ⟨w.heap.size,2,none⟩=some (.slice r.pA n.ps.length r.pc))
  (refine⟨?_,?_,?_⟩<;>go_simp)
  (first|(refine qq W1 JO (.tmp 5) (.tmp 7) rfl rfl (v:=.slice (some ⟨_,0,none⟩) 0 0) (by first|exact cB (by go_simp;done) (by go_simp;done)|exact(cB (by go_simp;done) (by go_simp;done)).alloc _|exact vW (MN rfl) mu oP|exact vW (MM rfl) mu FK) rfl (B:=B) (A:=r.hA) (m:=n.hs.length) (c:=r.hc) (news:=n.hs.flatMap bE) rfl (H.out.up.1.2.2) (cm bE 4 (fun _=>rfl) _) (dX bE qA _) nQ nQ ?_;intro A1 c1 δ1 eG hg1 hl1;try have p2:=(by first|exact Ea gK hg1 hl1 nU|exact Ea (gK.alloc _) hg1 hl1 nU))|(refine qq W1 DS (.tmp 9) (.tmp 11) rfl rfl (v:=.slice (some ⟨_,0,none⟩) 0 0) (by first|exact cB (by go_simp;done) (by go_simp;done)|exact(cB (by go_simp;done) (by go_simp;done)).alloc _|exact vW (MN rfl) hg1 oP|exact vW (MM rfl) hg1 FK) rfl (B:=B) (A:=r.pA) (m:=n.ps.length) (c:=r.pc) (news:=n.ps.flatMap dG) rfl (H.out.up.2.2.2) (cm dG 2 (fun _=>rfl) _) (dX dG Ed _) nQ nQ ?_;intro A2 c2 δ2 gK mu Fp;try have p1:=(by first|exact Ea eG mu Fp nU|exact Ea (eG.alloc _) mu Fp nU)))
 all_goals try have p3:=(And.intro eG p2:eP W1.heap.size _ ⟨A1,c1,A2,c2⟩ n)
 all_goals try have p3:=(And.intro p1 gK:eP W1.heap.size _ ⟨A1,c1,A2,c2⟩ n)
 go_goals
 all_goals
  go_wp2;refine bodyPost_ret (v:=cH ⟨A1,c1,A2,c2⟩ n) ?_ rfl ?_
  ·simp only[results,Tryz.results83];go_simp
  ·refine⟨⟨A1,c1,A2,c2⟩,rfl,_,ai,?_⟩;refine QDF ?_;refine eP.mono (base:=W1.heap.size) ?_ cW.out;iterate 3 (refine eP.set ?_ eL.out _)
   exact p3
end
section
open Me
def yd(n:Net)(m:Nat)(f:List Int)(j:Nat):List (List Int):=(List.range j).flatMap fun(i:Nat)=>if may n f (i:Int)=true then az n m (f++[(i:Int)]) else[]
theorem zN{n:Net}{m:Nat}{f:List Int}{j:Nat}:yd n m f (j+1)=yd n m f j++(if may n f (j:Int)=true then az n m (f++[(j:Int)]) else[]):=by simp[yd,List.range_succ]
theorem Gx{n:Net}(h6:n.hs.length<=6)(k:Nat)(l:List Int):(az n k l).length<=6 ^ k:=by
 induction k generalizing l with
 |zero=>simp[az]
 |succ k ih=>
  have key:∀j,(yd n k l j).length<=j*6 ^ k:=by
   intro j;induction j with
   |zero=>simp[yd]
   |succ j ihj=>
    rw[zN,List.length_append,Nat.succ_mul]
    have:=ih (l++[(j:Int)])
    split<;>simp<;>omega
  have h1:=key n.hs.length
  have:n.hs.length*6 ^ k<=6*6 ^ k:=Nat.mul_le_mul_right _ h6
  rw[Nat.pow_succ,Nat.mul_comm]
  exact nT h1 this
def pX(w:nJ)(L:List (List Int))(e:Ending)(w':nJ):Prop:=∃(A:Option Addr) (c:Nat) (δ:nJ),e=.returned (.slice A L.length c)/\w'=ah w δ/\wP 3 aI (ah w δ) A c L
theorem Oh(r:cx)(n:Net)(f:List Int)(A:Option Addr)(c:Nat)(B:Nat)(w:nJ)[hB:Le B w](h:bL B w r n)(hf:fN 3 aI w.heap.size w A c f)(hl:f.length=n.hs.length):Calls nH 124 #[cH r n,.slice A f.length c] w (pX w (az n 0 f)):=by
 have hE:((f.length:Int)==(n.hs.length:Int))=true:=by simp;omega
 have l1:=hf.plain.len;clear hl;go_enter Tryz.func124,Tryz.ntmps124;go_wp2_with fail;go_ret;have hsub:fN 3 aI ((w.alloc (.cells #[.int .i64 n.m,.slice r.hA n.hs.length r.hc,.slice r.pA n.ps.length r.pc] 32)).alloc (.cells #[.slice A f.length c] 35)).heap.size ((w.alloc (.cells #[.int .i64 n.m,.slice r.hA n.hs.length r.hc,.slice r.pA n.ps.length r.pc] 32)).alloc (.cells #[.slice A f.length c] 35)) A c f:=hf.wide;refine⟨some ⟨w.heap.size+1,0,none⟩,1,_,rfl,ai,?_⟩;rw[<-ai (w:=w) (W:=(w.alloc (.cells #[.int .i64 n.m,.slice r.hA n.hs.length r.hc,.slice r.pA n.ps.length r.pc] 32)).alloc (.cells #[.slice A f.length c] 35))];exact⟨nR _,nQ,[.slice A f.length c],oD nW nW,jg.one hsub⟩
def Zs(n:Net)(m:Nat):Prop:=∀(r:cx) (f:List Int) (A:Option Addr) (c:Nat) (B:Nat) (w:nJ),Le B w->bL B w r n->fN 3 aI w.heap.size w A c f->f.length+m=n.hs.length->∀ln:Nat,f.length=ln ->
 Calls nH 124 #[cH r n,.slice A ln c] w (pX w (az n m f))
theorem Of(n:Net)(m:Nat)(h6:n.hs.length<=6)(IH:Zs n m):Zs n (m+1):=by
 intro r f A c B w hB h hf hfl ln jA;subst jA;have l1:=hf.plain.len;have l2:=h.1.len;have hne:((f.length:Int)==(n.hs.length:Int))=false:=by simp;omega
 have hF:=qh (show az n (m+1) f=yd n m f n.hs.length from rfl);have YB:6 ^ m<=7776:=by have:6 ^ m<=6 ^ 5:=Nat.pow_le_pow_right nQ nQ;omega
 have adG:f.length<=6:=nQ;have DG:=qh hfl;have Ww:=qh IH;have H:=qh h;clear hfl IH h;go_enter Tryz.func124,Tryz.ntmps124;go_wp2_with fail;refine QAV ?_;intro W1 aH cJ dF cW di dz uu nt lC;have g1:bL B W1 r n:=H.out.up;have g2:fN 3 aI W1.heap.size W1 A c f:=hf.wide;have G1:=qh g1;have G2:=qh g2;clear g1 g2 hf;go_loopw [5,6] (fun o g wr=>∃(k c':Nat) (A':Option Addr) (cs:List nK) (L:List (List Int)),k<=n.hs.length/\g=.int .i64 k/\Hid (L=yd n m f k)/\L.length<=k*6 ^ m/\o=.slice A' L.length c'/\wr.ownsRow W1.heap.size 35 1 (.slice A' L.length c') L.length cs/\jg 3 aI wr cs L/\aD W1.heap.size W1 wr/\Le W1.heap.size wr) (fun _ g _=>(n.hs.length-(intOf g).toNat))
 case atStart=>exact⟨0,0,none,[],[],nE _,rfl,by simp[yd,Hid],nV,rfl,World.ownsRow_nil _ _ _ _,jg.nil,inferInstance,inferInstance⟩
 case round=>
  obtain⟨k,c',A',cs,L,hk,rfl,hL,hLl,rfl,hown,hsub,i1,i2⟩:=hrel;refine QBM ?_;intro hcell i3;refine QBI ?_;intro i5 i6 i7 HO HS;clear hown hsub;by_cases hlt':k<n.hs.length
  ·have hki:(k:Int)<(n.hs.length:Int):=nQ;have hbd:k*6 ^ m<=50000:=by have:=Nat.mul_le_mul (show k<=6 by omega) YB;omega
   have VL:=Gx h6 m (f++[(k:Int)]);have hsc:=qh (zN (n:=n) (m:=m) (f:=f) (j:=k));by_cases hm:may n f (k:Int)=true
   ·have HM:=qh hm;clear hm;go_wp2_with (go_at_call 186;refine(Ra r n _ _ _ _ f _ HM.out W1.heap.size _ G2.out.up.plain (G1.out.more cJ.out).up rfl).mono ?_;rintro e w1 ⟨rfl,δm,rfl⟩);go_goals
    go_region_held3 (fun W=>W.cell? ⟨w.heap.size,0,none⟩=some (.int .i64 n.m)/\W.cell? ⟨w.heap.size,1,none⟩=some (.slice r.hA n.hs.length r.hc)/\W.cell? ⟨w.heap.size,2,none⟩=some (.slice r.pA n.ps.length r.pc))
     (refine⟨?_,?_,?_⟩<;>go_simp)
     (first|(refine fE wr wO (.tmp 28) (.tmp 29) rfl rfl (v:=.slice (some ⟨_,0,none⟩) 0 0) (by first|exact cB nW nW|exact(cB nW nW).alloc _) rfl (B:=W1.heap.size) (A:=A) (m:=f.length) (c:=c) (news:=f.flatMap aI) rfl (G2.out.up.plain.2.2) (cm aI 1 (fun _=>rfl) f) (dX aI MG f) nQ nQ ?_;intro A1 c1 δ1 eG hg1)|((refine cU wr wO (.tmp 30) (.tmp 32) rfl rfl (v:=.slice A1 f.length c1) (n:=f.length) (xs:=f.flatMap aI) (by first|exact eG|exact eG.alloc _ ) rfl (m:=1) (c:=1) (news:=[.int .i64 (k:Int)]) rfl (oD (by first|(go_simp;done)|(refine hg1.cell nW (by simp[Value.ownBlock]))) (nA _)) rfl (by simp[Value.oneCell']) nQ nQ ?_);intro A2 c2 δ2 gK mu)|(go_at_call 124;refine(Ww.out r (f++[(k:Int)]) A2 c2 B _ inferInstance G1.out.up (fN.bU (by rw[List.flatMap_append];exact gK) nV) (by have:=DG.out;simp;omega) (f.length+1) nV).mono ?_;rintro e w1 ⟨A3,c3,δ3,rfl,rfl,hq1,BE,W8,Qn,hs3⟩)|(refine cU W1 Uv (.tmp 26) (.tmp 34) rfl rfl (v:=.slice A' L.length c') (n:=L.length) (xs:=cs) (bu HO.out) rfl (A:=A3) (m:=(az n m (f++[(k:Int)])).length) (c:=c3) (news:=W8) rfl Qn (by have:=hs3.1;omega) hs3.Ee nQ nQ ?_;intro A4 c4 δ4 Kl KZ))
    all_goals
     go_wp2_with fail;go_roundw
     case rel=>
      refine⟨k+1,c4,A4,cs++W8,L++az n m (f++[(k:Int)]),nQ,by go_num,?_,?_,by rw[List.length_append],by rw[List.length_append];exact Kl,(HS.out.up.append hs3).grown (bu HO.out) KZ nU,inferInstance,inferInstance⟩
      ·unfold Hid;rw[hsc.out,HM.out,<-hL.out];simp
      ·rw[List.length_append,Nat.succ_mul];omega
     case measure=>simp[intOf];omega
   ·rw[Bool.not_eq_true] at hm;have HM:=qh hm;clear hm;go_wp2_with (go_at_call 186;refine(Ra r n _ _ _ _ f _ HM.out W1.heap.size _ G2.out.up.plain (G1.out.more cJ.out).up rfl).mono ?_;rintro e w1 ⟨rfl,δm,rfl⟩);go_roundw
    case rel=>refine⟨k+1,c',A',cs,L,nQ,by go_num,?_,by rw[Nat.succ_mul];omega,rfl,bu HO.out,HS.out.up,inferInstance,inferInstance⟩;unfold Hid;rw[hsc.out,HM.out,<-hL.out];simp
    case measure=>simp[intOf];omega
  ·obtain rfl:k=n.hs.length:=by omega
   have HF:=qh (show az n (m+1) f=L by rw[hF.out,hL.out]);go_wp2_with fail;go_ret;rw[HF.out];refine QBH ?_;intro i8 i9;refine⟨A',c',wr,rfl,ai,?_⟩;rw[<-ai (w:=w) (W:=wr)];exact wP.bU HO.out HS.out rfl
theorem Rp(n:Net)(h6:n.hs.length<=6)(m:Nat):Zs n m:=by
 induction m with
 |zero=>
  intro r f A c B w hB h hf hl ln jA
  subst jA
  exact Oh r n f A c B w h hf nQ
 |succ m ih=>exact Of n m h6 ih
theorem tI(r:cx)(n:Net)(B:Nat)(w:nJ)[hB:Le B w](h:bL B w r n)(h6:n.hs.length<=6):Calls nH 124 #[cH r n,.slice none 0 0] w (pX w (gH n)):=
 Rp n h6 n.hs.length r [] none 0 B w hB h fN.none_ nV 0 rfl
end
section
open Me
theorem Js(n low high:Int)(b:Bool)(hb:fH low high n=b)(w:nJ):Calls nH 122 #[.int .i64 n,.int .i64 low,.int .i64 high] w fun e w'=>e=.returned (.bool b)/\w=w':=by subst hb;exact qp n low high w
theorem CU(r:cx)(n:Net)(B:Nat)(w:nJ)(h:bL B w r n)[hB:Le B w]:Calls nH 73 #[cH r n] w fun e w'=>e=.returned (.int .i64 (cD (valid n) 40))/\∃δ,w'=ah w δ:=by
 have l1:=h.1.len;have l2:=h.2.len;by_cases hd:(1<=n.m/\n.m<=3)/\n.hs.length<=6/\n.ps.length<=8
 ·obtain⟨hm,h6,h8⟩:=hd;have hi1:fH 1 3 n.m=true:=cX.2 hm;have HI:=qh hi1;have H:=qh h;have HM:=qh hm;have g6:¬(6:Int)<(n.hs.length:Int):=nQ;have g8:¬(8:Int)<(n.ps.length:Int):=nQ;clear h hi1 hm;go_enter Tryz.func73,Tryz.ntmps73;go_wp2_with (go_at_call 122;refine(Js _ _ _ _ HI.out _).mono ?_;rintro e w1 ⟨rfl,rfl⟩);go_loopw [3] (fun i wr=>∃(k:Nat) (δ:nJ),k<=n.hs.length/\i=.int .i64 k/\Hid ((n.hs.take k).all oO=true)/\wr=ah (w.alloc (.cells #[.int .i64 n.m,.slice r.hA n.hs.length r.hc,.slice r.pA n.ps.length r.pc] 32)) δ) (fun i _=>n.hs.length-(intOf i).toNat)
  case atStart=>exact⟨0,_,nE _,rfl,by simp[Hid],(bw _).symm⟩
  case round=>
   obtain⟨k,δ,hk,rfl,hn,rfl⟩:=hrel;by_cases hlt:k<n.hs.length
   ·obtain⟨b',o,hA,hb,hc0,AE,MY,Qn⟩:=H.out.1.hole hlt;have hb':Lt b' w:=⟨nL hb hB.out⟩;refine QDY ?_;intro hki hk0;have hx:=qh (aR n.hs hlt);have ht:=qh (bz n.hs hlt);rw[hA];obtain⟨x,WJ⟩:∃x,x=nth n.hs k:=⟨_,rfl⟩;rw[<-WJ] at hc0 AE MY Qn ht hx;clear WJ;obtain⟨fr,lo,hi,hr⟩:=x;simp only at hc0 AE MY Qn;by_cases he:oO ⟨fr,lo,hi,hr⟩=true
    ·obtain⟨e1,e2,e3,e4,e5,e6,e7⟩:=dV.1 he;simp only at e1 e2 e3 e4 e5 e6 e7;have E1:=qh (show fH 0 20 fr=true from cX.2 ⟨e1,e2⟩);have E2:=qh (show fH 0 20 hi=true from cX.2 ⟨nQ,e5⟩);have E3:=qh (show fH 0 hi lo=true from cX.2 ⟨e3,e4⟩);have E4:=qh (show fH 1 9 hr=true from cX.2 ⟨e6,e7⟩);have HE:=qh he;clear e1 e2 e3 e4 e5 e6 e7 he;go_wp2_with (go_at_call 122;refine(qp _ _ _ _).mono ?_;(first|rw[E1.out]|rw[E2.out]|rw[E3.out]|rw[E4.out]);rintro e w1 ⟨rfl,rfl⟩);go_roundw
     case rel=>refine⟨k+1,_,nQ,by go_num,?_,ai⟩;refine QCR ?_;simp[HE.out]
     case measure=>simp[intOf];omega
    ·rw[Bool.not_eq_true] at he;have hv:valid n=false:=by
      have:dj n.hs=false:=by rw[dj,List.all_eq_false];exact⟨_,hx.out,by simp[he]⟩
      simp[valid,this]
     have HV:=qh hv;clear hv;go_wp2_with (go_at_call 122;refine(qp _ _ _ _).mono ?_;rintro e w1 ⟨rfl,rfl⟩);all_goals first
      |(go_ret;exact⟨cG (by rw[HV.out];rfl),ag⟩)
      |(exfalso;simp[fH,oO] at *;omega)
   ·obtain rfl:k=n.hs.length:=by omega
    have hok:=hn.out;rw[List.take_length] at hok;have HO:=qh hok;clear hok;go_wp2_with fail;go_loopw [5] (fun i wr=>∃(j:Nat) (δ:nJ),j<=n.ps.length/\i=.int .i64 j/\Hid ((n.ps.take j).all (BY n.hs.length)=true)/\wr=ah (w.alloc (.cells #[.int .i64 n.m,.slice r.hA n.hs.length r.hc,.slice r.pA n.ps.length r.pc] 32)) δ) (fun i _=>n.ps.length-(intOf i).toNat)
    case atStart=>exact⟨0,_,nE _,rfl,by simp[Hid],rfl⟩
    case round=>
     clear hn;obtain⟨j,δ,hj,rfl,hn,rfl⟩:=hrel;by_cases hlt:j<n.ps.length
     ·obtain⟨b',o,hA,hb,hc0,AE⟩:=H.out.2.pr hlt;obtain⟨rhA,rhc,rpA,rpc⟩:=r;simp only at hA;subst hA;have hb':Lt b' w:=⟨nL hb hB.out⟩;have hji:(j:Int)<(n.ps.length:Int):=nQ;have hj0:¬(j:Int)<0:=nQ;have hx:=qh (aR n.ps hlt);have ht:=qh (bz n.ps hlt);obtain⟨x,WJ⟩:∃x,x=nth n.ps j:=⟨_,rfl⟩;rw[<-WJ] at hc0 AE ht hx;clear WJ;obtain⟨a,b⟩:=x;simp only at hc0 AE;by_cases h1:fH 0 ((n.hs.length:Int)-1) a=true
      ·by_cases h2:fH 0 ((n.hs.length:Int)-1) b=true
       ·have P1:=qh h1;have P2:=qh h2;have HE:=qh (show BY n.hs.length ⟨a,b⟩=true by rw[cX] at h1 h2;rw[jr];simp only;omega);clear h1 h2;go_wp2_with fail;refine wpRl ?_;repeat (go_big_quiet_step ((first|(go_at_call 123;(first|with_reducible exact Calls.bV (qx ⟨rhA,rhc,some ⟨b',o,none⟩,rpc⟩ n a _ P1.out B _ H.out.up)|with_reducible exact Calls.bV (qx ⟨rhA,rhc,some ⟨b',o,none⟩,rpc⟩ n b _ P2.out B _ H.out.up))))))
        refine QBU ?_;rintro _ ⟨δq,rfl⟩;go_wp2_with fail;go_roundw
        case rel=>refine⟨j+1,_,nQ,by go_num,?_,ai⟩;refine QCR ?_;simp[HE.out]
        case measure=>simp[intOf];omega
       ·rw[Bool.not_eq_true] at h2;have P1:=qh h1;have P2:=qh h2;have HV:=qh (show valid n=false by
         have:j8 n.hs.length n.ps=false:=by
          rw[j8,List.all_eq_false]
          refine⟨_,hx.out,?_⟩
          rw[jr]
          intro hc
          rw[<-Bool.not_eq_true,cX] at h2
          simp only at hc
          omega
         simp[valid,this])
        clear h1 h2;go_wp2_with fail;refine wpRl ?_;repeat (go_big_quiet_step ((first|(go_at_call 123;(first|with_reducible exact Calls.bV (qx ⟨rhA,rhc,some ⟨b',o,none⟩,rpc⟩ n a _ P1.out B _ H.out.up)|with_reducible exact Calls.bV (qx ⟨rhA,rhc,some ⟨b',o,none⟩,rpc⟩ n b _ P2.out B _ H.out.up))))))
        refine QBU ?_;rintro _ ⟨δq,rfl⟩;go_wp2_with fail;go_ret;exact⟨cG (by rw[HV.out];rfl),ag⟩
      ·rw[Bool.not_eq_true] at h1;have P1:=qh h1;have HV:=qh (show valid n=false by
        have:j8 n.hs.length n.ps=false:=by
         rw[j8,List.all_eq_false]
         refine⟨_,hx.out,?_⟩
         rw[jr]
         intro hc
         rw[<-Bool.not_eq_true,cX] at h1
         simp only at hc
         omega
        simp[valid,this])
       clear h1;go_wp2_with fail;refine wpRl ?_;repeat (go_big_quiet_step ((first|(go_at_call 123;exact Calls.bV (qx ⟨rhA,rhc,some ⟨b',o,none⟩,rpc⟩ n a _ P1.out B _ H.out.up)))))
       refine QBU ?_;rintro _ ⟨δq,rfl⟩;go_wp2_with fail;go_ret;exact⟨cG (by rw[HV.out];rfl),ag⟩
     ·obtain rfl:j=n.ps.length:=by omega
      have hok:=hn.out;rw[List.take_length] at hok;have HP:=qh hok;clear hok;have mb:valid n=qd n:=by have h1:dj n.hs=true:=HO.out;have h2:j8 n.hs.length n.ps=true:=HP.out;have:=HM.out;simp[valid,h1,h2,h6,h8,this]
      have HV:=qh mb;clear mb;by_cases hz:(gH n).length=0
      ·have hz':(((gH n).length:Int)==0)=true:=by simp[hz]
       have HZ:=qh (show qd n=false by simp[qd,List.eq_nil_of_length_eq_zero hz]);clear hz;go_wp2_with (go_at_call 124;refine(tI r n B _ H.out.up h6).mono ?_;rintro e w1 ⟨A1,c1,δ1,rfl,rfl,hs1⟩);go_ret;exact⟨cG (by rw[HV.out,HZ.out];rfl),ag⟩
      ·have hz':(((gH n).length:Int)==0)=false:=by simpa using hz
       have HZ:=qh (show qd n=true by simp only[qd,Bool.not_eq_true',List.isEmpty_eq_false_iff];intro hc;exact hz (by rw[hc];rfl));clear hz;go_wp2_with (go_at_call 124;refine(tI r n B _ H.out.up h6).mono ?_;rintro e w1 ⟨A1,c1,δ1,rfl,rfl,hs1⟩);go_ret;exact⟨cG (by rw[HV.out,HZ.out];rfl),ag⟩
 ·have hv:valid n=false:=by rw[<-Bool.not_eq_true,aC];intro hc;exact hd ⟨hc.1,hc.2.1,hc.2.2.1⟩
  have HV:=qh hv;have H:=qh h;clear hv h;go_enter Tryz.func73,Tryz.ntmps73;go_wp2_with (go_at_call 122;refine(qp _ _ _ _).mono ?_;rintro e w1 ⟨rfl,rfl⟩);all_goals first
   |(go_ret;exact⟨cG (by rw[HV.out];rfl),ag⟩)
   |(exfalso;simp[fH] at *;omega)
end
section
open Me
theorem uJ(r:cx)(n:Net)(hv:valid n=true)(B:Nat)(w:nJ)(h:bL B w r n)[hB:Le B w]:Calls nH 73 #[cH r n] w fun e w'=>e=.returned (.int .i64 0)/\∃δ,w'=ah w δ:=by have:=CU r n B w h;rwa [show cD (valid n) 40=0 by rw[hv];rfl] at this
theorem RR{n:Net}(hv:dj n.hs=true){l:List Int}(hl:eu n l=true)(k:Nat)(hk:k<=n.hs.length):0<=fP n.hs (times n l) (gT n) k:=by
 induction k with
 |zero=>exact Int.le_refl _
 |succ k ih=>
  have i1:=ih nQ
  have a:=vh hv hl (j:=k) nQ
  have b:=dV.1 (eD hv (k:=k) nQ)
  unfold fP
  rw[iX nQ]
  have:=Int.mul_nonneg (a:=(nth n.hs k).hi) (b:=nth (times n l) k-(nth n.hs k).fr) nQ nQ
  omega
theorem Qx{n:Net}(hv:dj n.hs=true){l:List Int}(hl:eu n l=true):0<=dM n l:=RR hv hl _ (nR _)
theorem qc{n:Net}(hv:valid n=true):qd n=true:=(aC.1 hv).2.2.2.2.2
theorem Db{n:Net}(hv:valid n=true):0<=cR n/\cR n<=10000:=
 ⟨Qx (kO hv).2.2.2.1 (gp (qc hv)),(O0 hv).2⟩
theorem Pd{n:Net}(hv:valid n=true){l:List Int}(hl:eu n l=true):0<=eZ n l/\eZ n l<=74:=
 ⟨(Em _).1,(yj _).2 ⟨nQ,fun j _=>(vi hv hl j).2⟩⟩
theorem S9{n:Net}(hv:valid n=true):0<=mE n/\mE n<=74:=
 Pd hv (ki.1 (fC _ (mP (qc hv))))
end
section
open Me
theorem J6(r:cx)(n:Net)(A:Option Addr)(c:Nat)(l:List Int)(B:Nat)(w:nJ)[hB:Le B w](hS:Sl aI B w A c l)(hN:bL B w r n)(hm:1<=n.m/\n.m<=3)(h6:n.hs.length<=6)(h8:n.ps.length<=8)(hv:dj n.hs=true)(hpv:j8 n.hs.length n.ps=true)(hl:qb n l)(Pk:l.length<=6):Calls nH 210 #[cH r n,.slice A l.length c] w fun e w'=>∃(A':Option Addr) (c':Nat) (δ:nJ),e=.returned (.slice A' (times n l).length c')/\w'=ah w δ/\Hid (Sl aI (ah w δ).heap.size (ah w δ) A' c' (times n l)):=by
 obtain⟨m,hmm⟩:∃m:Nat,n.m=m:=⟨n.m.toNat,nQ⟩;refine QDC ?_;intro WQ sw HM eV hmk YH HS HN HV HPV HL hlc;clear hS hN hm hv hpv hl hmm eV;go_enter Tryz.func210,Tryz.ntmps210;go_wp2_with fail;go_loopg [7] l.length (fun g i wr=>∃k:Nat,k<=l.length/\g=l.length-k/\i=.int .i64 k/\Wq n r w 32 (w.heap.size+1+1) (w.heap.size+1) w.heap.size l k wr)
 case atStart=>exact⟨0,nE _,rfl,rfl,wU HM.out (ay.new nV) ((ay.new nV).alloc _) (((ay.new rfl).alloc _).alloc _) inferInstance inferInstance⟩
 case round=>
  obtain⟨k,hk,rfl,rfl,hF,hO,hP,g1,g2⟩:=hrel;have p1:=hP.cell (i:=1) rfl;have p2:=hP.cell (i:=2) rfl;have ip:=hP.lt;have iF:=hF.lt;have iO:=hO.lt;by_cases hlt:k<l.length
  ·obtain⟨b,o,rfl,hb,hc⟩:=HS.out.int hlt;have Pm:b<w.heap.size:=nL hb hB.out;have ZV:=(bB g1.out b _ Pm).trans hc;have ib:Lt b wr:=⟨nL Pm g2.out⟩;have hx:=HL.out (nth l k) (aR l hlt);obtain⟨x,hh⟩:∃x:Nat,nth l k=x:=⟨(nth l k).toNat,by have:=hx.1;omega⟩;rw[hh] at ZV;have HC:=qh (show w.cell? ⟨b,o+k,none⟩=some (.int .i64 x) by rw[<-hh];exact hc);have zb:x<n.hs.length:=by have:=hx.2;omega
   obtain⟨bh,oh,Lc,WX,d0,d1,d2,d3⟩:=HN.out.1.hole zb;have AF:bh<w.heap.size:=nL WX hB.out;have e0:=(bB g1.out bh _ AF).trans d0;have e1:=(bB g1.out bh _ AF).trans d1;have e2:=(bB g1.out bh _ AF).trans d2;have e3:=(bB g1.out bh _ AF).trans d3;have ibh:Lt bh wr:=⟨nL AF g2.out⟩;obtain⟨rhA,rhc,rpA,rpc⟩:=r;have Lc:rhA=some ⟨bh,oh,none⟩:=Lc;subst Lc;have hki:(k:Int)<(l.length:Int):=nQ;have hk0:¬(k:Int)<0:=nQ;have hxi:(x:Int)<(n.hs.length:Int):=nQ;have hx0:¬(x:Int)<0:=nQ;obtain⟨lF,lO⟩:=jX n (l.take k);obtain⟨bF,bO⟩:=JW HV.out (l.take k) (fun y hy=>HL.out y (List.mem_of_mem_take hy));have hT:(l.take k).length<=6:=by rw[List.length_take];omega
   have MW:=xx HV.out (show isHole n (nth l k) from hx) bF bO nQ;have hrun:=oG n (l.take k) (nth l k);rw[<-bz l hlt,hh] at hrun;rw[hh] at MW;obtain⟨F,O,hs⟩:∃F O,run n (l.take k)=(F,O):=⟨_,_,rfl⟩;rw[hs] at hF hO lF lO bF bO MW hrun;refine QFB ?_;intro lF lO bF bO HMD L8 HH;have HF:Hid (ic wr (w.heap.size+1+1) F):=hF;have HO:Hid (ic wr (w.heap.size+1) O):=hO;have Xf:=qh hP;have LF:=qh lF;have LO:=qh lO;have BF:=qh bF;have BO:=qh bO;have HK:=qh (And.intro hk hlt);clear MW hrun hh hF hO hP hs lF lO bF bO hx hk hlt hc d0 d1 d2 d3;go_wp2_with fail;go_loopg [8,9] m (fun g s8 s9 wr'=>∃(j:Nat) (δ:nJ),j<=m/\g=m-j/\s9=.int .i64 j/\s8=.int .i64 (jq F j)/\wr'=ah wr δ)
   case atStart=>exact⟨0,wr,nE _,rfl,rfl,rfl,(bw wr).symm⟩
   case round=>
    obtain⟨j,δ,hj,rfl,rfl,rfl,rfl⟩:=hrel;have hown:jq F j<m:=by
     rcases Nat.eq_zero_or_pos j with rfl|hj0
     ·show 0<m;omega
     ·have:=Ec (free:=F) hj0;omega
    by_cases hlt:j<m
    ·have f1:=HF.out.cell (k:=j) (by rw[LF.out];exact hlt);have f2:=HF.out.cell (k:=jq F j) (by rw[LF.out];exact hown);have hji:(j:Int)<(m:Int):=nQ;have hj0:¬(j:Int)<0:=nQ;have VF:(jq F j:Int)<(m:Int):=nQ;have YF:¬(jq F j:Int)<0:=nQ;by_cases hc:nth F j<nth F (jq F j)
     ·have HE:=qh (show jq F (j+1)=j by unfold jq;rw[if_pos hc]);go_wp2_with fail;refine wpRl ?_;repeat (go_big_quiet_step ((first|(fail))))
      refine QBU ?_;rintro _ ⟨δq,rfl⟩;go_wp2_with fail;go_roundg (m-(j+1))
      case measure=>omega
      case rel=>exact⟨j+1,_,hlt,rfl,by go_num,by rw[HE.out],ai⟩
     ·have HE:=qh (show jq F (j+1)=jq F j by rw[jq,if_neg hc]);go_wp2_with fail;refine wpRl ?_;repeat (go_big_quiet_step ((first|(fail))))
      refine QBU ?_;rintro _ ⟨δq,rfl⟩;go_wp2_with fail;go_roundg (m-(j+1))
      case measure=>omega
      case rel=>exact⟨j+1,_,hlt,rfl,by go_num,by rw[HE.out],ai⟩
    ·obtain rfl:j=m:=by omega
     refine QEO ?_;intro BK f2 VF YF q hq;rw[hq] at f2 VF YF BK;have hqj:q<j:=by rw[<-hq];exact hown
     clear hown;rw[hq];clear hq;go_wp2_with fail;go_region_held3 (fun W=>W.cell? ⟨w.heap.size,1,none⟩=some (.slice (some ⟨bh,oh,none⟩) n.hs.length rhc)/\W.cell? ⟨b,o+k,none⟩=some (.int .i64 x)/\W.cell? ⟨bh,oh+x*4,none⟩=some (.int .i64 (nth n.hs x).fr)/\W.cell? ⟨bh,oh+x*4+1,none⟩=some (.int .i64 (nth n.hs x).lo)/\W.cell? ⟨bh,oh+x*4+2,none⟩=some (.int .i64 (nth n.hs x).hi)/\W.cell? ⟨bh,oh+x*4+3,none⟩=some (.int .i64 (nth n.hs x).hr))
      (refine⟨?_,?_,?_,?_,?_,?_⟩<;>go_simp)
      (fail)
     obtain⟨bx,jm⟩:∃bx,Hid (bx=(ah wr δ).heap.size):=⟨_,rfl⟩;rw[<-jm.out];go_wp2_with fail;refine aM fun W2 eJ=>?_;have i1:Le w.heap.size W2:=fI eJ;have i2:aD w.heap.size w W2:=gy eJ;have i3:bx<W2.heap.size:=by rw[eJ.out,jm.out];go_simp
     have i4:wr.heap.size<=bx:=by rw[jm.out];exact js wr δ
     have o2:ic W2 (w.heap.size+1) O:=by rw[eJ.out];exact((HO.out.ah δ).alloc _).drew
     have f2':ic W2 (w.heap.size+1+1) F:=by rw[eJ.out];exact((HF.out.ah δ).alloc _).drew
     have b2:ay W2 w.heap.size 32 #[.int .i64 n.m,.slice (some ⟨bh,oh,none⟩) n.hs.length rhc,.slice rpA n.ps.length rpc]:=by rw[eJ.out];exact(Xf.out.ah δ).alloc _
     have x2:ay W2 bx 150 #[.int .i64 (nth n.hs x).fr,.int .i64 (nth n.hs x).lo,.int .i64 (nth n.hs x).hi,.int .i64 (nth n.hs x).hr]:=by rw[eJ.out];exact ay.new (w:=ah wr δ) jm.out
     have G2:=qh (And.intro i3 (And.intro i4 iF.out));clear eJ jm i3 i4 ZV e0 e1 e2 e3 p1 p2 ip iF iO ib ibh f2 HF HO Xf;have p1:=b2.cell (i:=1) rfl;have p2:=b2.cell (i:=2) rfl;have ip:=b2.lt;have iF:=f2'.lt;have iO:=o2.lt;have ZV:=(bB i2.out b (o+k) Pm).trans HC.out;have ib:Lt b W2:=⟨nL Pm i1.out⟩;have ibx:=x2.lt;have z1:=x2.cell (i:=0) rfl;have z3:=x2.cell (i:=3) rfl;have fq:=f2'.cell (k:=q) (by rw[LF.out];exact hqj);have O2:=qh o2;have F2:=qh f2';have B2:=qh b2;have X2:=qh x2;clear o2 f2' b2 x2;refine wpRl ?_;repeat (go_big_quiet_step ((first|(fail))))
     refine QBU ?_;rintro _ ⟨δq,rfl⟩;refine QES ?_;intro b0 hb0 Uj;clear hb0;go_wp2_with fail;go_loopg [11,12] n.ps.length (fun g s11 s12 wr'=>∃(i:Nat) (δ:nJ),i<=n.ps.length/\g=n.ps.length-i/\s12=.int .i64 i/\s11=.int .i64 (kH n.ps O x b0 i)/\wr'=ah W2 δ)
     case atStart=>exact⟨0,_,nE _,rfl,rfl,rfl,rfl⟩
     case round=>
      obtain⟨i,δ,hi,rfl,rfl,rfl,rfl⟩:=hrel;by_cases hlt:i<n.ps.length
      ·obtain⟨bp,op,Y4,BG,c0,c1⟩:=HN.out.2.pr hlt;have K9:bp<w.heap.size:=nL BG hB.out;have k0:=(bB i2.out bp _ K9).trans c0;have k1:=(bB i2.out bp _ K9).trans c1;have ibp:Lt bp W2:=⟨nL K9 i1.out⟩;have Y4:rpA=some ⟨bp,op,none⟩:=Y4;subst Y4;have hok:=jr.1 (GG HPV.out hlt);obtain⟨a,ha⟩:∃a:Nat,(nth n.ps i).a=a:=⟨(nth n.ps i).a.toNat,nQ⟩;rw[ha] at k0;have hal:a<n.hs.length:=nQ;have z0:=O2.out.cell (k:=a) (by rw[LO.out];exact hal);have hai:(a:Int)<(n.hs.length:Int):=nQ;have ha0:¬(a:Int)<0:=nQ;have Jg:(i:Int)<(n.ps.length:Int):=nQ;have hi0:¬(i:Int)<0:=nQ;by_cases jm:(nth n.ps i).b=x
       ·have YU:((nth n.ps i).b==(x:Int))=true:=by simpa using jm
        by_cases MV:kH n.ps O x b0 i<nth O a
        ·have HE:=qh (show kH n.ps O x b0 (i+1)=nth O a by
          rw[kH,if_pos jm,ha];simp only[Int.toNat_natCast];omega)
         have iZ:=qh hlt;clear jm hok ha c0 c1 hlt;go_wp2_with fail;refine wpRl ?_;repeat (go_big_quiet_step ((first|(fail))))
         refine QBU ?_;rintro _ ⟨Wz,rfl⟩;go_wp2_with fail;go_roundg (n.ps.length-(i+1))
         case measure=>have:=iZ.out;omega
         case rel=>exact⟨i+1,_,iZ.out,rfl,by go_num,by rw[HE.out],ai⟩
        ·have HE:=qh (show kH n.ps O x b0 (i+1)=kH n.ps O x b0 i by
          rw[kH,if_pos jm,ha];simp only[Int.toNat_natCast];omega)
         have iZ:=qh hlt;clear jm hok ha c0 c1 hlt;go_wp2_with fail;refine wpRl ?_;repeat (go_big_quiet_step ((first|(fail))))
         refine QBU ?_;rintro _ ⟨Wz,rfl⟩;go_wp2_with fail;go_roundg (n.ps.length-(i+1))
         case measure=>have:=iZ.out;omega
         case rel=>exact⟨i+1,_,iZ.out,rfl,by go_num,by rw[HE.out],ai⟩
       ·have YU:((nth n.ps i).b==(x:Int))=false:=by simpa using jm
        have HE:=qh (show kH n.ps O x b0 (i+1)=kH n.ps O x b0 i by rw[kH,if_neg jm]);have iZ:=qh hlt;clear jm hok ha c0 c1 hlt;go_wp2_with fail;refine wpRl ?_;repeat (go_big_quiet_step ((first|(fail))))
        refine QBU ?_;rintro _ ⟨Wz,rfl⟩;go_wp2_with fail;go_roundg (n.ps.length-(i+1))
        case measure=>have:=iZ.out;omega
        case rel=>exact⟨i+1,_,iZ.out,rfl,by go_num,by rw[HE.out],ai⟩
      ·obtain rfl:i=n.ps.length:=by omega
       have sw:=HMD.out;have hh:=dV.1 (eD HV.out zb);unfold fF at sw;simp only[Int.toNat_natCast,Uj.out] at sw;obtain⟨be,YW⟩:∃be,kH n.ps O x b0 n.ps.length=be:=⟨_,rfl⟩;rw[YW] at sw;refine QEH ?_;intro TZ y1 y2 y3 y4;have z0:=O2.out.cell (k:=x) (by rw[LO.out];exact zb);have zf:=O2.out.free x;have zg:=F2.out.free q;clear YW sw hh;have gb:w.heap.size+1+1<bx:=nL G2.out.2.2 G2.out.2.1;have n1:qP (w.heap.size+1) b:=⟨nQ⟩;have n2:qP b (w.heap.size+1):=⟨nQ⟩;have n3:qP (w.heap.size+1) bx:=⟨nQ⟩;have n4:qP bx (w.heap.size+1):=⟨nQ⟩;have n5:qP (w.heap.size+1+1) bx:=⟨nQ⟩;have n6:qP bx (w.heap.size+1+1):=⟨nQ⟩;have n7:oE w.heap.size bx:=⟨nQ⟩;go_wp2_with fail;go_region_held3 (fun W=>W.cell? ⟨b,o+k,none⟩=some (.int .i64 x)/\W.cell? ⟨bx,3,none⟩=some (.int .i64 (nth n.hs x).hr))
        (refine⟨?_,?_⟩<;>go_simp)
        (fail)
       go_upto_region 20 with fail;refine aM fun W3 bR=>?_;have hwr:IntKind.i64.wrap (be+(nth n.hs x).hr)=be+(nth n.hs x).hr:=by simp only[IntKind.wrap,IntKind.bits,IntKind.signed];simp;omega
       have o3:ic W3 (w.heap.size+1) (O.set x (be+(nth n.hs x).hr)):=by rw[bR.out];rw[hwr];exact((O2.out.ah _).set _ _).drew
       have f3:ic W3 (w.heap.size+1+1) F:=by rw[bR.out];exact((F2.out.ah _).fB (by show w.heap.size+1+1≠w.heap.size+1;omega) _).drew
       have b3:ay W3 w.heap.size 32 #[.int .i64 n.m,.slice (some ⟨bh,oh,none⟩) n.hs.length rhc,.slice rpA n.ps.length rpc]:=by rw[bR.out];exact(B2.out.ah _).fB (by show w.heap.size≠w.heap.size+1;omega) _
       have e3:ay W3 bx 150 #[.int .i64 (nth n.hs x).fr,.int .i64 (nth n.hs x).lo,.int .i64 (nth n.hs x).hi,.int .i64 (nth n.hs x).hr]:=by rw[bR.out];exact(X2.out.ah _).fB (by show bx≠w.heap.size+1;omega) _
       have g3:aD w.heap.size w W3:=gy bR;have g4:Le w.heap.size W3:=fI bR;have x2:=f3.cell (k:=q) (by rw[LF.out];exact hqj);have x3:=f3.free q;have x4:=f3.lt;have x5:=e3.cell (i:=3) rfl;have x6:=e3.lt;have O3:=qh o3;have F3:=qh f3;have B3:=qh b3;clear bR o3 f3 b3 e3;go_wp2_with fail;go_roundg (l.length-(k+1))
       case measure=>have:=HK.out;omega
       case rel=>
        refine⟨k+1,HK.out.2,rfl,by go_num,?_,?_,B3.out.fB (by show w.heap.size≠w.heap.size+1+1;omega) _,inferInstance,inferInstance⟩
        ·rw[L8.out];show ic _ (w.heap.size+1+1) (F.set (own F) (fF n (F,O) x));rw[BK.out,TZ.out];exact F3.out.set _ _
        ·rw[L8.out];show ic _ (w.heap.size+1) (O.set (x:Int).toNat (fF n (F,O) x));rw[TZ.out,Int.toNat_natCast];exact O3.out.fB (by show w.heap.size+1≠w.heap.size+1+1;omega) _
  ·obtain rfl:k=l.length:=by omega
   have hlen:=kL n l;have yJ:=hO.sl (by rw[(jX n _).2];omega);rw[List.take_length] at yJ;have yJ:Sl aI wr.heap.size wr (some ⟨w.heap.size+1,0,none⟩) (times n l).length (times n l):=yJ;rw[hlen] at yJ;have Jk:=qh yJ;have ZE:=qh hlen;clear yJ hlen hF hO hP;go_wp2_with fail;go_ret;refine⟨some ⟨w.heap.size+1,0,none⟩,n.hs.length,wr,by rw[ZE.out];rfl,ai,?_⟩;rw[<-ai (w:=w) (W:=wr)];exact Jk.out
end
section
open Me
theorem Rb(r:cx)(n:Net)(B:Nat)(w:nJ)[hB:Le B w](hN:bL B w r n)(h6:n.hs.length<=1000):Calls nH 254 #[cH r n] w fun e w'=>∃(A':Option Addr) (c':Nat) (δ:nJ),e=.returned (.slice A' n.hs.length c')/\w'=ah w δ/\Hid (Sl aI (ah w δ).heap.size (ah w δ) A' c' (gT n)):=by
 have HN:=qh hN;clear hN;go_enter Tryz.func254,Tryz.ntmps254;go_wp2_with fail;refine QAV ?_;intro W1 aH cJ dF cW di dz uu nt lC;have G1:=qh (HN.out.up:bL B W1 r n);clear aH;go_loopg [3,4] n.hs.length (fun g s3 s4 wr=>∃(k c':Nat) (A':Option Addr),k<=n.hs.length/\g=n.hs.length-k/\s4=.int .i64 k/\s3=.slice A' k c'/\wr.ownsRow W1.heap.size 3 1 (.slice A' k c') k (((gT n).take k).flatMap aI)/\aD W1.heap.size W1 wr/\Le W1.heap.size wr)
 case atStart=>exact⟨0,0,none,nE _,rfl,rfl,rfl,by simpa using World.ownsRow_nil _ _ _ _,inferInstance,inferInstance⟩
 case round=>
  obtain⟨k,c',A',hk,rfl,rfl,rfl,hown,i1,i2⟩:=hrel;have q1:=(bB i1.out w.heap.size 1 dz.out).trans nt;have i3:Lt w.heap.size wr:=⟨nL dz.out i2.out⟩;have HO:=qh hown;clear hown;by_cases hlt:k<n.hs.length
  ·obtain⟨b,o,hA,hb,d0,d1,d2,d3⟩:=G1.out.1.hole hlt;obtain⟨rhA,rhc,rpA,rpc⟩:=r;have hA:rhA=some ⟨b,o,none⟩:=hA;subst hA;have Pm:b<W1.heap.size:=nL hb cJ.out;have e1:=(bB i1.out b (o+k*4+1) Pm).trans d1;have e2:=(bB i1.out b (o+k*4+2) Pm).trans d2;have ib:Lt b wr:=⟨nL Pm i2.out⟩;refine QDY ?_;intro hki hk0;have HT:=qh (show(gT n).take (k+1)=(gT n).take k++[(nth n.hs k).hi] by rw[bz _ (by simp[gT];exact hlt),iX hlt]);have iZ:=qh hlt;clear d0 d1 d2 d3 hlt;go_wp2_with (at_builtin;(refine dL W1 wO (.tmp 12) (.tmp 20) rfl rfl HO.out rfl rfl nW rfl (by simp[Value.oneCell']) nQ nQ ?_);intro A2 c2 δ2 Dh);go_roundg (n.hs.length-(k+1))
   case measure=>have:=iZ.out;omega
   case rel=>refine⟨k+1,c2,A2,iZ.out,rfl,by go_num,rfl,?_,inferInstance,inferInstance⟩;rw[HT.out,List.flatMap_append];simpa [aI] using Dh
  ·obtain rfl:k=n.hs.length:=by omega
   go_wp2_with fail;go_ret;have ho:=HO.out;rw[List.take_of_length_le (by simp[gT])] at ho;have i8:aD w.heap.size w wr:=pU di i1;have i9:Le w.heap.size wr:=⟨nT cW.out i2.out⟩;refine⟨A',c',wr,rfl,ai,?_⟩;rw[<-ai (w:=w) (W:=wr)];have hl:(gT n).length=n.hs.length:=by simp[gT]
   rw[<-hl] at ho;exact Sl.bU ho
theorem Gm(r:cx)(n:Net)(A:Option Addr)(c ln:Nat)(l:List Int)(B:Nat)(w:nJ)[hB:Le B w](hS:Sl aI B w A c l)(hN:bL B w r n)(hv:valid n=true)(hl:eu n l=true)(jA:l.length=ln):Calls nH 210 #[cH r n,.slice A ln c] w fun e w'=>∃(A':Option Addr) (c':Nat) (δ:nJ),e=.returned (.slice A' n.hs.length c')/\w'=ah w δ/\Hid (Sl aI (ah w δ).heap.size (ah w δ) A' c' (times n l)):=by subst jA;obtain⟨a,b,c',d,e⟩:=kO hv;have:=J6 r n A c l B w hS hN a b c' d e (jE hl) (by rw[ji hl];exact b);rwa [kL] at this
theorem NQ(r:cx)(n:Net)(A:Option Addr)(c ln:Nat)(l:List Int)(A2:Option Addr)(c2 ln2:Nat)(tr:List Int)(B:Nat)(w:nJ)[hB:Le B w](hS:Sl aI B w A c l)(hT:Sl aI B w A2 c2 tr)(hN:bL B w r n)(hv:valid n=true)(hl:eu n l=true)(jA:l.length=ln)(htr:tr.length=n.hs.length)(ady:tr.length=ln2)(htb:kY 20 tr):Calls nH 253 #[cH r n,.slice A ln c,.slice A2 ln2 c2] w fun e w'=>e=.returned (.int .i64 (jl n l tr))/\∃δ,w'=ah w δ:=by
 have HS:=qh hS;have HT:=qh hT;have HN:=qh hN;have HV:=qh hv;have HO:=qh hl;have HTB:=qh htb;have h6:=(kO hv).2.1;have Fp:ln2=n.hs.length:=nQ;subst Fp;have qm:=qh jA;have HTR:=qh htr;clear hS hN hT hv hl htb jA htr ady;go_enter Tryz.func253,Tryz.ntmps253;go_wp2_with (go_at_call 210;refine(Gm r n A c _ l B _ HS.out.up HN.out.up HV.out HO.out qm.out).mono ?_;rintro e w1 ⟨A',c',δ,rfl,rfl,hT⟩);refine QAV ?_;intro W1 aH cJ dF cW di dz uu nt lC;have T1:Sl aI W1.heap.size W1 A' c' (times n l):=by rw[aH.out];exact hT.out
 have T2:Sl aI B W1 A2 c2 tr:=HT.out.up;have N1:bL B W1 r n:=HN.out.up;have HT1:=qh T1;have Fs:=qh T2;have Qt:=qh N1;clear aH hT T1 T2 N1;go_loopg [8,9] n.hs.length (fun g s8 s9 wr=>∃(k:Nat) (δ:nJ),k<=n.hs.length/\g=n.hs.length-k/\s9=.int .i64 k/\s8=.int .i64 (fP n.hs (times n l) tr k)/\wr=ah W1 δ)
 case atStart=>exact⟨0,W1,nE _,rfl,rfl,rfl,(bw W1).symm⟩
 case round=>
  obtain⟨k,δ,hk,rfl,rfl,rfl,rfl⟩:=hrel;by_cases hlt:k<n.hs.length
  ·obtain⟨b,o,rfl,hb,hc⟩:=HT1.out.int (k:=k) (by rw[kL];exact hlt);have ib:Lt b W1:=⟨hb⟩;obtain⟨b2,o2,rfl,fX,MY⟩:=Fs.out.int (k:=k) (by rw[HTR.out];exact hlt);have ib2:Lt b2 W1:=⟨nL fX cJ.out⟩;obtain⟨bh,oh,Lc,WX,d0,d1,d2,d3⟩:=Qt.out.1.hole hlt;have ibh:Lt bh W1:=⟨nL WX cJ.out⟩;obtain⟨rhA,rhc,rpA,rpc⟩:=r;have Lc:rhA=some ⟨bh,oh,none⟩:=Lc;subst Lc;refine QDY ?_;intro hki hk0;have ht:=vi HV.out HO.out k;have hh:=dV.1 (eD (kO HV.out).2.2.2.1 hlt);have htk:=HTB.out k;have q1:0<=nth (times n l) k:=ht.1;have q2:nth (times n l) k<=74:=ht.2;have q3:0<=(nth n.hs k).fr:=hh.1;have q4:(nth n.hs k).fr<=20:=hh.2.1;obtain⟨m1,m2⟩:=RE (a:=nth tr k) (b:=nth (times n l) k-(nth n.hs k).fr) htk.1 htk.2 nQ nQ;obtain⟨b3,b4⟩:=yX HV.out HO.out HTB.out k hk;have HE:=qh (show fP n.hs (times n l) tr (k+1)=fP n.hs (times n l) tr k+nth tr k*(nth (times n l) k-(nth n.hs k).fr) from rfl);have iZ:=qh hlt;clear hlt hk hb fX WX ht hh htk d1 d2 d3;go_wp2_with fail;refine wpRl ?_;repeat (go_big_quiet_step ((first|(fail))))
   refine QBU ?_;rintro _ ⟨δq,rfl⟩;go_wp2_with fail;go_roundg (n.hs.length-(k+1))
   case measure=>have:=iZ.out;omega
   case rel=>exact⟨k+1,_,iZ.out,rfl,by go_num,by rw[HE.out],ai⟩
  ·obtain rfl:k=n.hs.length:=by omega
   go_wp2_with fail;go_ret;exact⟨rfl,ag⟩
theorem xg(r:cx)(n:Net)(A:Option Addr)(c ln:Nat)(l:List Int)(B:Nat)(w:nJ)[hB:Le B w](hS:Sl aI B w A c l)(hN:bL B w r n)(hv:valid n=true)(hl:eu n l=true)(jA:l.length=ln):Calls nH 151 #[cH r n,.slice A ln c] w fun e w'=>e=.returned (.int .i64 (eZ n l))/\∃δ,w'=ah w δ:=by
 have HS:=qh hS;have HN:=qh hN;have HV:=qh hv;have HO:=qh hl;have h6:=(kO hv).2.1;have qm:=qh jA;clear hS hN hv hl jA;go_enter Tryz.func151,Tryz.ntmps151;go_wp2_with (go_at_call 210;refine(Gm r n A c _ l B _ HS.out.up HN.out.up HV.out HO.out qm.out).mono ?_;rintro e w1 ⟨A',c',δ,rfl,rfl,hT⟩);refine aM fun W1 aH=>?_;obtain⟨cJ,dF,cW,di,dz⟩:=BH B w aH;have T1:Sl aI W1.heap.size W1 A' c' (times n l):=by rw[aH.out];exact hT.out
 have HT1:=qh T1;clear aH hT T1;go_loopg [6,7] n.hs.length (fun g s8 s9 wr=>∃(k:Nat) (δ:nJ),k<=n.hs.length/\g=n.hs.length-k/\s9=.int .i64 k/\s8=.int .i64 (ou (times n l) k)/\wr=ah W1 δ)
 case atStart=>exact⟨0,W1,nE _,rfl,rfl,rfl,(bw W1).symm⟩
 case round=>
  obtain⟨k,δ,hk,rfl,rfl,rfl,rfl⟩:=hrel;by_cases hlt:k<n.hs.length
  ·obtain⟨b,o,rfl,hb,hc⟩:=HT1.out.int (k:=k) (by rw[kL];exact hlt);have ib:Lt b W1:=⟨hb⟩;refine QDY ?_;intro hki hk0;have iZ:=qh hlt;clear hlt;by_cases MV:ou (times n l) k<nth (times n l) k
   ·have HE:=qh (show ou (times n l) (k+1)=nth (times n l) k by rw[ou];omega);go_wp2_with fail;go_roundg (n.hs.length-(k+1))
    case measure=>have:=iZ.out;omega
    case rel=>exact⟨k+1,_,iZ.out,rfl,by go_num,by rw[HE.out],ai⟩
   ·have HE:=qh (show ou (times n l) (k+1)=ou (times n l) k by rw[ou];omega);go_wp2_with fail;go_roundg (n.hs.length-(k+1))
    case measure=>have:=iZ.out;omega
    case rel=>exact⟨k+1,_,iZ.out,rfl,by go_num,by rw[HE.out],ai⟩
  ·obtain rfl:k=n.hs.length:=by omega
   go_wp2_with fail;go_ret;exact⟨rfl,ag⟩
theorem mF(r:cx)(n:Net)(A:Option Addr)(c ln:Nat)(l:List Int)(B:Nat)(w:nJ)[hB:Le B w](hS:Sl aI B w A c l)(hN:bL B w r n)(hv:valid n=true)(hl:eu n l=true)(jA:l.length=ln):Calls nH 208 #[cH r n,.slice A ln c] w fun e w'=>e=.returned (.int .i64 (dM n l))/\∃δ,w'=ah w δ:=by
 have HS:=qh hS;have HN:=qh hN;have HV:=qh hv;have HO:=qh hl;have h6:=(kO hv).2.1;have qm:=qh jA;have HHI:=qh (wm (kO hv).2.2.2.1).1;clear hS hN hv hl jA;go_enter Tryz.func208,Tryz.ntmps208;go_wp2_with fail;go_region_held3 (fun W=>W.cell? ⟨w.heap.size,0,none⟩=some (.int .i64 n.m)/\W.cell? ⟨w.heap.size,1,none⟩=some (.slice r.hA n.hs.length r.hc)/\W.cell? ⟨w.heap.size,2,none⟩=some (.slice r.pA n.ps.length r.pc))
  (refine⟨?_,?_,?_⟩<;>go_simp)
  (first|(go_at_call 254;refine(Rb r n B _ HN.out.up nQ).mono ?_;rintro e w1 ⟨A1,c1,δ1,rfl,rfl,hH⟩)|(go_at_call 253;refine(NQ r n A c _ l A1 c1 _ (gT n) _ _ HS.out.wide hH.out.wide HN.out.wide HV.out HO.out qm.out (by simp[gT]) (by simp[gT]) HHI.out).mono ?_;rintro e w1 ⟨rfl,δ2,rfl⟩))
 all_goals go_wp2_with fail;go_ret;exact⟨rfl,ag⟩
end
namespace Me
theorem Zj{α:Type}(f:α->Int)(b:α)(xs:List α)(h:f (ze f b xs)=f b):ze f b xs=b:=by
 induction xs generalizing b with
 |nil=>rfl
 |cons x xs ih=>
  unfold ze at h ⊢
  split
  ·rename_i hlt;rw[if_pos hlt] at h;have:=(Bf f x xs).1;omega
  ·rename_i hlt;rw[if_neg hlt] at h;exact ih b h
def sameAs{α:Type}(f:α->Int)(v:Int)(xs:List α):List α:=xs.filter fun x=>decide (f x=v)
theorem Ty{α:Type}(f:α->Int)(b:α)(xs:List α):∃ys,sameAs f (f (ze f b xs)) (b::xs)=ze f b xs::ys:=by
 unfold sameAs;induction xs generalizing b with
 |nil=>exact⟨[],by simp[ze]⟩
 |cons x xs ih=>
  unfold ze
  by_cases hlt:f x<f b
  ·rw[if_pos hlt];obtain⟨ys,hys⟩:=ih x;have:=(Bf f x xs).1;refine⟨ys,?_⟩;rw[List.filter_cons_of_neg (by simp;omega)];exact hys
  ·rw[if_neg hlt];have h1:=(Bf f b xs).1;by_cases he:f (ze f b xs)=f b
   ·have hb:=Zj f b xs he;rw[hb,List.filter_cons_of_pos nV];exact⟨_,rfl⟩
   ·obtain⟨ys,hys⟩:=ih b;rw[List.filter_cons_of_neg (by simp;omega)] at hys;refine⟨ys,?_⟩;rw[List.filter_cons_of_neg (by simp;omega),List.filter_cons_of_neg (by simp;omega)];exact hys
def uv(n:Net):List (List Int):=sameAs (dM n) (cR n) (gH n)
theorem P7{n:Net}(h:qd n=true):∃ys,uv n=fZ n::ys:=by
 unfold uv cR fZ;have hne:=mP h;cases ho:gH n with
 |nil=>exact absurd ho hne
 |cons x xs=>exact Ty (dM n) x xs
end Me
section
open Me
namespace Me
def oe{α:Type}[Inhabited α](f:α->Int)(v:Int)(xs:List α):Nat->Int
 |0=>v
 |k+1=>min (oe f v xs k) (f (nth xs k))
theorem Ve{α:Type}[Inhabited α]{f:α->Int}{v:Int}{xs:List α}(k:Nat):oe f v xs k<=v/\(∀j,j<k->oe f v xs k<=f (nth xs j))/\(oe f v xs k=v\/∃j,j<k/\oe f v xs k=f (nth xs j)):=by
 induction k with
 |zero=>exact⟨Int.le_refl _,fun j hj=>absurd hj (Nat.not_lt_zero _),.inl rfl⟩
 |succ k ih=>
  obtain⟨i1,i2,i3⟩:=ih
  show min _ _<=v/\(∀j,j<k+1->min _ _<=_)/\(min _ _=v\/∃j,j<k+1/\min _ _=_)
  refine⟨nQ,fun j hj=>?_,?_⟩
  ·rcases Nat.lt_or_ge j k with h|h
   ·have:=i2 j h;omega
   ·obtain rfl:j=k:=by omega
    omega
  ·by_cases h:f (nth xs k)<oe f v xs k
   ·exact .inr ⟨k,nA _,nQ⟩
   ·rcases i3 with h3|⟨j,hj,h3⟩
    ·exact .inl nQ
    ·exact .inr ⟨j,nQ,nQ⟩
theorem Vg{α:Type}[Inhabited α]{xs:List α}{x:α}(h:x∈xs):∃k,k<xs.length/\nth xs k=x:=by obtain⟨i,hi,rfl⟩:=List.getElem_of_mem h;exact⟨i,hi,by simp[nth,hi]⟩
theorem GQ{α:Type}[Inhabited α]{f:α->Int}{xs:List α}(hne:xs≠[]):oe f (f (nth xs 0)) xs xs.length=f (least f xs):=by
 obtain⟨i1,i2,i3⟩:=Ve (f:=f) (v:=f (nth xs 0)) (xs:=xs) xs.length;have h0:0<xs.length:=List.length_pos_iff.2 hne;obtain⟨k,hk,he⟩:=Vg (fC f hne);have a1:=i2 k hk;rw[he] at a1;have a2:∃j,j<xs.length/\oe f (f (nth xs 0)) xs xs.length=f (nth xs j):=by
  rcases i3 with h|h
  ·exact⟨0,h0,h⟩
  ·exact h
 obtain⟨j,hj,h3⟩:=a2;have:=least_le f (aR xs hj);omega
theorem LZ{n:Net}{k:Nat}(hk:k<(gH n).length):sameAs (dM n) (cR n) ((gH n).take (k+1))=sameAs (dM n) (cR n) ((gH n).take k)++(if dM n (nth (gH n) k)=cR n then[nth (gH n) k] else[]):=by
 rw[bz _ hk];unfold sameAs;rw[List.filter_append];congr 1;by_cases h:dM n (nth (gH n) k)=cR n
 ·rw[if_pos h,List.filter_cons_of_pos (by simpa using h)];rfl
 ·rw[if_neg h,List.filter_cons_of_neg (by simpa using h)];rfl
theorem Ng{n:Net}{k:Nat}(hk:k<(gH n).length):eu n (nth (gH n) k)=true/\(nth (gH n) k).length=n.hs.length:=by have h:=ki.1 (aR _ hk);exact⟨h,ji h⟩
theorem Bk{n:Net}(hv:valid n=true):0<(gH n).length/\(gH n).length<=50000:=by refine⟨List.length_pos_iff.2 (mP (qc hv)),?_⟩;have h6:=(kO hv).2.1;have:=Gx h6 n.hs.length [];have h2:6 ^ n.hs.length<=6 ^ 6:=Nat.pow_le_pow_right nQ h6;unfold gH;omega
end Me
theorem wP.nth{T:TypeId}{w:nJ}{A:Option Addr}{c:Nat}{xss:List (List Int)}(h:wP T aI w A c xss){k m:Nat}(hk:k<xss.length)(hm:(nth xss k).length=m):∃b o A' c',A=some ⟨b,o,none⟩/\b<w.heap.size/\w.cell? ⟨b,o+k,none⟩=some (.slice A' m c')/\fN T aI w.heap.size w A' c' (nth xss k):=by
 have e:Go.Proofs.YtpnnapeoanafdaaGreatDoor.nth xss k=xss[k]:=by simp[Go.Proofs.YtpnnapeoanafdaaGreatDoor.nth,hk]
 obtain⟨b,o,A',c',h1,h2,h3,h4⟩:=h.at_ hk;rw[<-e] at h3 h4;exact⟨b,o,A',c',h1,h2,by rw[<-hm];exact h3,h4⟩
theorem Mw(r:cx)(n:Net)(hv:valid n=true)(B:Nat)(w:nJ)[hB:Le B w](hN:bL B w r n):Calls nH 209 #[cH r n] w (pX w (uv n)):=by
 have h6:=(kO hv).2.1;obtain⟨l0,l1⟩:=Bk hv;have HN:=qh hN;have HV:=qh hv;have H6:=qh h6;have ZF:=qh (GQ (f:=dM n) (mP (qc hv)));clear hN hv h6;obtain⟨L,hL⟩:∃L,gH n=L:=⟨_,rfl⟩;have HL:=qh hL;rw[hL] at l0 l1;clear hL;go_enter Tryz.func209,Tryz.ntmps209;go_wp2_with (go_at_call 124;refine(tI r n B _ HN.out.up H6.out).mono ?_;rw[HL.out];rintro e w1 ⟨A,c,δ,rfl,rfl,hS⟩);refine QAV ?_;intro W1 aH cJ dF cW di dz uu nt lC;have S1:Hid (wP 3 aI W1 A c L):=by rw[aH.out];exact hS
 have N1:=qh (HN.out.up:bL B W1 r n);clear aH hS;have HAT:∀k,k<L.length->eu n (nth L k)=true/\(nth L k).length=n.hs.length:=by rw[<-HL.out];exact fun k hk=>Ng hk
 have HA:=qh HAT;clear HAT;obtain⟨b,o,A0,c0,rfl,hb,hc,hs0⟩:=S1.out.nth l0 (HA.out 0 l0).2;rw[Nat.add_zero] at hc;have ib:Lt b W1:=⟨hb⟩;have H0:=qh hs0.plain;clear hs0;have hl0:(0:Int)<(L.length:Int):=nQ;refine wpRl ?_;repeat (go_big_quiet_step ((first|(go_at_call 208;exact Calls.bV (mF r n A0 c0 _ (nth L 0) _ _ H0.out.up N1.out.wide.up HV.out (HA.out 0 l0).1 (HA.out 0 l0).2)))))
 refine QBU ?_;rintro _ ⟨δq,rfl⟩;obtain⟨v,hv0⟩:∃v,dM n (nth L 0)=v:=⟨_,rfl⟩;rw[hv0];have ZF:Hid (oe (dM n) v L L.length=cR n):=by have:=ZF.out;rw[HL.out,hv0] at this;exact this.trans (by unfold cR fZ;rw[HL.out])
 clear hv0;go_wp2_with fail;go_loopg [4,5] L.length (fun g s4 s5 wr=>∃(k:Nat) (δ:nJ),k<=L.length/\g=L.length-k/\s5=.int .i64 k/\s4=.int .i64 (oe (dM n) v L k)/\wr=ah W1 δ)
 case atStart=>exact⟨0,_,nE _,rfl,rfl,rfl,rfl⟩
 case round=>
  obtain⟨k,δ,hk,rfl,rfl,rfl,rfl⟩:=hrel;by_cases hlt:k<L.length
  ·obtain⟨b',o',Ak,ck,qf,hbk,K8,Vy⟩:=S1.out.nth hlt (HA.out k hlt).2;obtain⟨rfl,rfl⟩:b=b'/\o=o':=by simpa using qf
   have HK:=qh Vy.plain;have hki:(k:Int)<(L.length:Int):=nQ;have hk0:¬(k:Int)<0:=nQ;have iZ:=qh hlt;clear hlt hk Vy hbk hc;by_cases hmn:dM n (nth L k)<oe (dM n) v L k
   ·have HE:=qh (show oe (dM n) v L (k+1)=dM n (nth L k) by rw[oe];omega);go_wp2_with fail;refine wpRl ?_;repeat (go_big_quiet_step ((first|(go_at_call 208;exact Calls.bV (mF r n Ak ck _ (nth L k) _ _ HK.out.up N1.out.wide.up HV.out (HA.out k iZ.out).1 (HA.out k iZ.out).2)))))
    refine QBU ?_;rintro _ ⟨Wz,rfl⟩;go_wp2_with fail;go_roundg (L.length-(k+1))
    case measure=>have:=iZ.out;omega
    case rel=>exact⟨k+1,_,iZ.out,rfl,by go_num,by rw[HE.out],ai⟩
   ·have HE:=qh (show oe (dM n) v L (k+1)=oe (dM n) v L k by rw[oe];omega);go_wp2_with fail;refine wpRl ?_;repeat (go_big_quiet_step ((first|(go_at_call 208;exact Calls.bV (mF r n Ak ck _ (nth L k) _ _ HK.out.up N1.out.wide.up HV.out (HA.out k iZ.out).1 (HA.out k iZ.out).2)))))
    refine QBU ?_;rintro _ ⟨Wz,rfl⟩;go_wp2_with fail;go_roundg (L.length-(k+1))
    case measure=>have:=iZ.out;omega
    case rel=>exact⟨k+1,_,iZ.out,rfl,by go_num,by rw[HE.out],ai⟩
  ·obtain rfl:k=L.length:=by omega
   rw[ZF.out];refine aM fun W2 eJ=>?_;obtain⟨G9,su,tZ,tY⟩:=EO B W1 eJ;have sR:Lt (w.heap.size) W2:=nr eJ;have tX:Lt (b) W2:=nr eJ;have xK:W2.cell? ⟨w.heap.size,0,none⟩=some (.int .i64 n.m):=by rw[eJ.out];go_simp
   have AV:W2.cell? ⟨w.heap.size,1,none⟩=some (.slice r.hA n.hs.length r.hc):=by rw[eJ.out];go_simp
   have LA:W2.cell? ⟨w.heap.size,2,none⟩=some (.slice r.pA n.ps.length r.pc):=by rw[eJ.out];go_simp
   have S2:Hid (wP 3 aI W2 (some ⟨b,o,none⟩) c L):=by rw[eJ.out];exact S1.out.up
   have N2:=qh (N1.out.up:bL B W2 r n);have j1:aD w.heap.size w W2:=pU di (inferInstance:aD W1.heap.size W1 W2);have j2:Le w.heap.size W2:=⟨nT cW.out (inferInstance:Le W1.heap.size W2).out⟩;clear eJ S1 N1 H0 hc;go_wp2_with fail;go_loopg [6,7] L.length (fun g s6 s7 wr=>∃(k c':Nat) (A':Option Addr) (cs:List nK),k<=L.length/\g=L.length-k/\s7=.int .i64 k/\s6=.slice A' (sameAs (dM n) (cR n) (L.take k)).length c' /\
    wr.ownsRow W2.heap.size 35 1 (.slice A' (sameAs (dM n) (cR n) (L.take k)).length c') (sameAs (dM n) (cR n) (L.take k)).length cs/\Hid (jg 3 aI W2 cs (sameAs (dM n) (cR n) (L.take k)))/\aD W2.heap.size W2 wr/\Le W2.heap.size wr)
   case atStart=>exact⟨0,0,none,[],nE _,rfl,rfl,rfl,World.ownsRow_nil _ _ _ _,jg.nil,inferInstance,inferInstance⟩
   case round=>
    obtain⟨k,c',A',cs,hk,rfl,rfl,rfl,hown,hsub,i1,i2⟩:=hrel;have hle:(sameAs (dM n) (cR n) (L.take k)).length<=50000:=by refine nT (List.length_filter_le _ _) ?_;rw[List.length_take];omega
    obtain⟨R,hR⟩:∃R,sameAs (dM n) (cR n) (L.take k)=R:=⟨_,rfl⟩;rw[hR] at hown hsub hle ⊢;have HR:=qh hR;have HO:=qh hown;have Qj:w.heap.size<W2.heap.size:=(inferInstance:Lt w.heap.size W2).out;have q0:wr.cell? ⟨w.heap.size,0,none⟩=some (.int .i64 n.m):=(bB i1.out w.heap.size 0 Qj).trans nZ;have q1:wr.cell? ⟨w.heap.size,1,none⟩=some (.slice r.hA n.hs.length r.hc):=(bB i1.out w.heap.size 1 Qj).trans nZ;have q2:wr.cell? ⟨w.heap.size,2,none⟩=some (.slice r.pA n.ps.length r.pc):=(bB i1.out w.heap.size 2 Qj).trans nZ;have iw:Lt w.heap.size wr:=⟨nL Qj i2.out⟩;clear hown hR;by_cases hlt:k<L.length
    ·obtain⟨b',o',Ak,ck,qf,hbk,K8,Vy⟩:=S2.out.nth hlt (HA.out k hlt).2;obtain⟨rfl,rfl⟩:b=b'/\o=o':=by simpa using qf
     have ahO:=(bB i1.out b _ hbk).trans K8;have ibr:Lt b wr:=⟨nL hbk i2.out⟩;have HSK:=qh Vy;have HK:=qh ((Vy.plain.up (hg:=i1)).more i2.out);have ZC:=qh ((N2.out.wide:bL W2.heap.size W2 r n).up (hg:=i1));have HN4:=qh (ZC.out.more i2.out);have hki:(k:Int)<(L.length:Int):=nQ;have hk0:¬(k:Int)<0:=nQ;have iZ:=qh hlt;have hsn:sameAs (dM n) (cR n) (L.take (k+1))=R++(if dM n (nth L k)=cR n then[nth L k] else[]):=by have:=LZ (n:=n) (k:=k) (by rw[HL.out];exact hlt);rw[HL.out] at this;rw[this,HR.out]
     have TU:=qh hsn;clear hlt hk Vy hbk hsn;by_cases hE:dM n (nth L k)=cR n
     ·have hEb:(dM n (nth L k)==cR n)=true:=by simpa using hE
      have Zx:=qh (show sameAs (dM n) (cR n) (L.take (k+1))=R++[nth L k] by rw[TU.out,if_pos hE]);clear hE;go_wp2_with fail;refine wpRl ?_;repeat (go_big_quiet_step ((first|(go_at_call 208;exact Calls.bV (mF r n Ak ck _ (nth L k) _ _ HK.out.up HN4.out.up HV.out (HA.out k iZ.out).1 (HA.out k iZ.out).2)))))
      refine QBU ?_;rintro _ ⟨Wz,rfl⟩;go_wp2_with (at_builtin;(refine dL W2 Uv (.tmp 43) (.tmp 48) rfl rfl (lJ _ HO.out) rfl rfl nW rfl (by simp[Value.oneCell']) nQ nQ ?_);intro A2 c2 δ2 Dh);go_roundg (L.length-(k+1))
      case measure=>have:=iZ.out;omega
      case rel=>
       refine⟨k+1,c2,A2,cs++[.slice Ak n.hs.length ck],iZ.out,rfl,by go_num,?_,?_,?_,inferInstance,inferInstance⟩
       ·rw[Zx.out,List.length_append];rfl
       ·rw[Zx.out,List.length_append];exact Dh
       ·rw[Zx.out];have h1:=jg.one HSK.out;rw[(HA.out k iZ.out).2] at h1;exact hsub.out.append h1
     ·have hEb:(dM n (nth L k)==cR n)=false:=by simpa using hE
      have Zx:=qh (show sameAs (dM n) (cR n) (L.take (k+1))=R by rw[TU.out,if_neg hE,List.append_nil]);clear hE;go_wp2_with fail;refine wpRl ?_;repeat (go_big_quiet_step ((first|(go_at_call 208;exact Calls.bV (mF r n Ak ck _ (nth L k) _ _ HK.out.up HN4.out.up HV.out (HA.out k iZ.out).1 (HA.out k iZ.out).2)))))
      refine QBU ?_;rintro _ ⟨Wz,rfl⟩;go_wp2_with fail;go_roundg (L.length-(k+1))
      case measure=>have:=iZ.out;omega
      case rel=>exact⟨k+1,c',A',cs,iZ.out,rfl,by go_num,by rw[Zx.out],by rw[Zx.out];exact lJ _ HO.out,by rw[Zx.out];exact hsub,inferInstance,inferInstance⟩
    ·obtain rfl:k=L.length:=by omega
     have HB:=qh (show uv n=R by unfold uv;rw[HL.out,<-HR.out,List.take_length]);go_wp2_with fail;go_ret;rw[HB.out];have i8:aD w.heap.size w wr:=pU j1 i1;have i9:Le w.heap.size wr:=⟨nT j2.out i2.out⟩;refine⟨A',c',wr,rfl,ai,?_⟩;rw[<-ai (w:=w) (W:=wr)];exact wP.bU HO.out (hsub.out.up (hg:=i1) (hs:=i2)) rfl
end
end Go.Proofs.YtpnnapeoanafdaaGreatDoor
