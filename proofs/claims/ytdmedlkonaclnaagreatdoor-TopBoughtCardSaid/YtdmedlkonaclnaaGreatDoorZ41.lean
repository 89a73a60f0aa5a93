/- A part of the proof that a law of layer 12 holds, cut small by a program (names and blanks): Hk17. -/
import Derived.Test.YtdmedlkonaclnaaGreatDoorZ36
import Derived.Test.YtdmedlkonaclnaaGreatDoorZ40
set_option maxRecDepth 100000
set_option maxHeartbeats 40000000
set_option linter.unusedVariables false
set_option linter.unusedSimpArgs false
namespace Go.Proofs.YtdmedlkonaclnaaGreatDoor
open Go.RowKit
open Nat renaming le_trans → nT
open Go renaming World → nJ, Value → nK
section
open Hd
open OH
section
variable{b n:Nat}{a:List bz}{d:cE}{v z:nK}{W W':nJ}
def RA(b n:Nat)(a:List bz)(v:nK)(W:nJ):Prop:=∃(A:Option Addr) (c:Nat),v=.slice A n c/\W.ownsRow b 9 1 (.slice A n c) n (a.flatMap aX)
def RT(b:Nat)(t:aW)(v:nK)(W:nJ):Prop:=∃r,v=aO r t/\aK b W r t
def RL(b:Nat)(d:cE)(v:nK)(W:nJ):Prop:=∃(A:Option Addr) (c:Nat),v=.slice A d.aC.length c/\W.ownsRow b 9 1 (.slice A d.aC.length c) d.aC.length ((d.aC.map (·.line)).flatMap aX)
def RR(b n:Nat)(a:List bz)(d:cE)(z v:nK)(W:nJ):Prop:=∃v1 v2 v3,v=.tuple #[v1,v2,v3,z]/\RA b n a v1 W/\RT b d.az v2 W/\RL b d v3 W
def RB(b:Nat)(v:nK)(W:nJ):Prop:=∃g cs,v=.pointer (some ⟨g,0,none⟩)/\b<=g/\ax W g 39 cs/\cs.size=14
def RS(b:Nat)(u v:nK)(W:nJ):Prop:=∃g cs,u=.pointer (some ⟨g,0,none⟩)/\v=.agg cs/\b<=g/\ax W g 39 cs
def RG(b js j:Nat)(W W':nJ):Prop:=(j≠js->au W.heap.size W W'/\Le W.heap.size W')/\(j=js->∃g cs cs',b<=g/\ax W g 39 cs/\ax W' g 39 cs'/\cs'.size=14/\bH (fun x=>x=g) W W')
variable{js j:Nat}(h:RG b js j W W')
include h
theorem P4{base m s:Nat}{u:nK}{xs:List nK}{e:TypeId}(ho:W.ownsRow base e s u m xs)(hne:39≠e):W'.ownsRow base e s u m xs:=by
 by_cases hj:j=js
 ·obtain⟨g,cs,cs',h1,h2,_,_,k⟩:=h.2 hj;exact cH ho k h2 hne
 ·obtain⟨i1,i2⟩:=h.1 hj;exact bg ho
theorem RA.lQ(k:RA b n a v W):RA b n a v W':=by obtain⟨A,c,e,o⟩:=k;exact⟨A,c,e,P4 h o nU⟩
theorem RL.lQ(k:RL b d v W):RL b d v W':=by obtain⟨A,c,e,o⟩:=k;exact⟨A,c,e,P4 h o nU⟩
theorem RT.lQ{t:aW}(k:RT b t v W):RT b t v W':=by
 obtain⟨r,e,o⟩:=k;by_cases hj:j=js
 ·obtain⟨g,cs,cs',h1,h2,_,_,k⟩:=h.2 hj;exact⟨r,e,o.aR k h2 nU⟩
 ·obtain⟨i1,i2⟩:=h.1 hj;exact⟨r,e,o.up⟩
theorem RR.lQ(k:RR b n a d z v W):RR b n a d z v W':=by obtain⟨v1,v2,v3,e,k1,k2,k3⟩:=k;exact⟨v1,v2,v3,e,k1.lQ h,k2.lQ h,k3.lQ h⟩
theorem RB.lQ(k:RB b v W):RB b v W':=by
 obtain⟨g,cs,e,hb,hx,hs⟩:=k;by_cases hj:j=js
 ·obtain⟨g',cs1,cs2,h1,h2,h3,h4,k⟩:=h.2 hj;by_cases hg:g=g'
  ·subst hg;exact⟨g,cs2,e,hb,h3,h4⟩
  ·exact⟨g,cs,e,hb,hx.eM k hg,hs⟩
 ·obtain⟨i1,i2⟩:=h.1 hj;exact⟨g,cs,e,hb,ax.dM hx,hs⟩
end
def RV(b n c:Nat)(a:List bz)(d:cE)(z:nK)(U:Nat->nK->nJ->Prop)(i:Nat)(vs:Nat->nK)(W:nJ):Prop:=
 if i<c then U i (vs i) W else match i-c with
  |0=>RR b n a d z (vs i) W|1=>RR b n a d z (vs i) W|2=>RA b n a (vs i) W|3=>RT b d.az (vs i) W|4=>RL b d (vs i) W|5=>vs i=z
  |6=>RB b (vs i) W|7=>RA b n a (vs i) W|8=>RS b (vs (c+6)) (vs (c+3)) W|9=>RL b d (vs i) W|10=>vs i=z|_=>True
section
variable{P:Program}{ops:Array Oper}{Q:Exit->Act->nJ->Prop}
theorem RV.at_{b n c:Nat}{a:List bz}{d:cE}{z:nK}{U:Nat->nK->nJ->Prop}{vs:Nat->nK}{W:nJ}(k:Nat):RV b n c a d z U (c+k) vs W=(match k with
  |0=>RR b n a d z (vs (c+k)) W|1=>RR b n a d z (vs (c+k)) W|2=>RA b n a (vs (c+k)) W|3=>RT b d.az (vs (c+k)) W|4=>RL b d (vs (c+k)) W|5=>vs (c+k)=z
  |6=>RB b (vs (c+k)) W|7=>RA b n a (vs (c+k)) W|8=>RS b (vs (c+6)) (vs (c+3)) W|9=>RL b d (vs (c+k)) W|10=>vs (c+k)=z|_=>True):=by unfold RV;rw[if_neg nQ,Nat.add_sub_cancel_left]
section
variable{F:(Nat->nK)->Act}{i:Nat}{oi:Oper}{v:nK}{vs:Nat->nK}{w w':nJ}{U:Nat->nK->nJ->Prop}(put:∀i oi vs v,ops[i]?=some oi->(F vs).put oi.dst v=F (uV vs i v))(hi:ops[i]?=some oi)
include put hi
theorem Ll{S:nJ->Prop}(hy:YieldsIf P ops S oi v (F vs))(hS:S w)(hU:U i v w):wpOp P ops Q i (fun a' w'=>(au w.heap.size w w'/\Le w.heap.size w')/\∃v,a'=F (uV vs i v)/\U i v w') (F vs) w:=
 hy.wpOp hi hS ⟨⟨inferInstance,inferInstance⟩,v,put i oi vs v hi,hU⟩
theorem qq(hg:oi.guard=none)(hx:(execOp (F vs).eval oi).run P w=.ok (.value v) w')(hG:au w.heap.size w w'/\Le w.heap.size w')(hU:U i v w'):wpOp P ops Q i (fun a' w'=>(au w.heap.size w w'/\Le w.heap.size w')/\∃v,a'=F (uV vs i v)/\U i v w') (F vs) w:=by refine Df hi hg ?_;unfold Oper.wp;rw[hx,Oper.upon_value];exact⟨hG,v,put i oi vs v hi,hU⟩
theorem zv{fn:FuncId}{args:Array nK}{R:Ending->nJ->Prop}{K:nK->nJ->Prop}(hg:oi.guard=none)(hx:(execOp (F vs).eval oi).run P w=.ok (.enter fn args) w)(hC:Calls P fn args w R)(hR:∀e w',R e w'->∃v,e=.returned v/\(au w.heap.size w w'/\Le w.heap.size w')/\K v w'):wpOp P ops Q i (fun a' w'=>(au w.heap.size w w'/\Le w.heap.size w')/\∃v,a'=F (uV vs i v)/\K v w') (F vs) w:=by refine Df hi hg ?_;unfold Oper.wp;rw[hx,Oper.upon_enter];refine hC.mono fun e w' hr=>?_;obtain⟨v,rfl,hG,hK⟩:=hR e w' hr;exact⟨hG,v,put i oi vs v hi,hK⟩
end
theorem wh.to{n:Nat}{d:cE}{a:List bz}{w w' X:nJ}{e:Ending}(h:wh n d a w e w')[hX:Le X.heap.size w]:∃v,e=.returned v/\(au w.heap.size w w'/\Le w.heap.size w')/\RR X.heap.size n a d (.bool true) v w':=by obtain⟨aA,ac,r',lA,lc,δ,rfl,rfl,h1,h2,h3⟩:=h;exact⟨_,rfl,⟨inferInstance,inferInstance⟩,_,_,_,rfl,⟨_,_,rfl,de h1 hX.out⟩,⟨_,rfl,h2.mono hX.out⟩,⟨_,_,rfl,de h3 hX.out⟩⟩
theorem C0{id:Nat}{a0:Act}{w:nJ}{n:Nat}{a:List bz}{d:cE}{z:nK}{F:(Nat->nK)->Act}(c:Nat)(X:nJ)(U:Nat->nK->nJ->Prop)(hF:∀vs,jH ops.toList vs 0 a0=F vs)(hw:au X.heap.size X w/\Le X.heap.size w)(hU:∀i v W W',i<c->U i v W->au W.heap.size W W'->Le W.heap.size W'->U i v W')(hpre:(∀i oi vs v,ops[i]?=some oi->(F vs).put oi.dst v=F (uV vs i v))->∀i,i<c->∀vs w,(∀e,pz ops i e=true->e<c->U e (vs e) w)->au X.heap.size X w->Le X.heap.size w->wpOp P ops Q i (fun a' w'=>(au w.heap.size w w'/\Le w.heap.size w')/\∃v,a'=F (uV vs i v)/\U i v w') (F vs) w)(hcall:(∀i oi vs v,ops[i]?=some oi->(F vs).put oi.dst v=F (uV vs i v))->∀vs w,(∀e,pz ops c e=true->e<c->U e (vs e) w)->au X.heap.size X w->Le X.heap.size w->wpOp P ops Q c (fun a' w'=>(au w.heap.size w w'/\Le w.heap.size w')/\∃v,a'=F (uV vs c v)/\RR X.heap.size n a d z v w') (F vs) w)(hend:∀vs W A c' rN lA lc g,vs (c+6)=.pointer (some ⟨g,0,none⟩)->vs (c+7)=.slice A n c'->vs (c+9)=.slice lA d.aC.length lc->vs (c+10)=z->au X.heap.size X W->Le X.heap.size W->W.ownsRow X.heap.size 9 1 (.slice A n c') n (a.flatMap aX)->aK X.heap.size W rN d.az->W.ownsRow X.heap.size 9 1 (.slice lA d.aC.length lc) d.aC.length ((d.aC.map (·.line)).flatMap aX)->ax W g 39 (aE rN d.az)->X.heap.size<=g->Q .normal (F vs) W){o1 o2 o3 o4 o5 o6 o7 o8 o9 oA:Oper}(x8 y8:Operand)(rT:fT P 39 14)(i1:ops[c+1]?=some o1/\o1.guard=none)(i2:ops[c+2]?=some o2/\o2.guard=none)(i3:ops[c+3]?=some o3/\o3.guard=none)(i4:ops[c+4]?=some o4/\o4.guard=none)(i5:ops[c+5]?=some o5/\o5.guard=none)(i6:ops[c+6]?=some o6/\o6.guard=none)(i7:ops[c+7]?=some o7/\o7.guard=none)(i8:ops[c+8]?=some o8/\o8.guard=none)(i9:ops[c+9]?=some o9/\o9.guard=none)(iA:ops[c+10]?=some oA/\oA.guard=none)(r1:∀vs w,(execOp (F vs).eval o1).run P w=.ok (.value (vs c)) w)(r2:∀vs w v1 v2 v3,vs (c+1)=.tuple #[v1,v2,v3,z]->(execOp (F vs).eval o2).run P w=.ok (.value v1) w/\(execOp (F vs).eval o3).run P w=.ok (.value v2) w/\(execOp (F vs).eval o4).run P w=.ok (.value v3) w/\(execOp (F vs).eval o5).run P w=.ok (.value z) w)(r6:∀vs w,(execOp (F vs).eval o6).run P w=.ok (.value (.pointer (some ⟨w.heap.size,0,none⟩))) (w.alloc (.cells (aE dc cO) 39)))(r7:∀vs w,(execOp (F vs).eval o7).run P w=.ok (.value (vs (c+2))) w/\(execOp (F vs).eval o9).run P w=.ok (.value (vs (c+4))) w/\(execOp (F vs).eval oA).run P w=.ok (.value (vs (c+5))) w)(r8:o8.op=.store 39 x8 y8/\∀vs,(F vs).eval x8=vs (c+6)/\(F vs).eval y8=vs (c+3))(hds:(pz ops (c+1) c&&pz ops (c+2) (c+1)&&pz ops (c+3) (c+1)&&pz ops (c+4) (c+1)&&pz ops (c+5) (c+1)&&pz ops (c+7) (c+2)&&pz ops (c+8) (c+6)&&pz ops (c+8) (c+3)&&pz ops (c+9) (c+4)&&pz ops (c+10) (c+5))=true)(hm:P.follows .mixedOrders=true:=by kernel_rfl)(hf:Kf ops=true:=by kernel_rfl)(hn:decide (yp ops.toList).Nodup=true:=by kernel_rfl)(hb:L6 ops c (c+6)=true:=by kernel_rfl)(ha:Sw ops c=true:=by kernel_rfl)(hsz:ops.size=c+11:=by kernel_rfl):(Code.region id ops true).wp P Q a0 w:=by
 have hn:=of_decide_eq_true hn;simp only[Bool.and_eq_true] at hds;obtain⟨⟨⟨⟨⟨⟨⟨⟨⟨e1,e2⟩,e3⟩,e4⟩,e5⟩,e7⟩,e8⟩,e8'⟩,e9⟩,eA⟩:=hds;have refl:∀W:nJ,au W.heap.size W W/\Le W.heap.size W:=fun W=>⟨inferInstance,inferInstance⟩;have grow:∀ {j:Nat} {W W':nJ},j≠c+8->au W.heap.size W W'/\Le W.heap.size W'->RG X.heap.size (c+8) j W W':=fun hj h=>⟨fun _=>h,fun e=>absurd e hj⟩;have tail:∀ {i k:Nat} {vs:Nat->nK} {v:nK} {w w':nJ} {oi:Oper},i=c+k->k≠8->ops[i]?=some oi/\oi.guard=none->(execOp (F vs).eval oi).run P w=.ok (.value v) w'->(au X.heap.size X w/\Le X.heap.size w)->(au w.heap.size w w'/\Le w.heap.size w')->RV X.heap.size n c a d z U i (uV vs i v) w' ->
   wpOp P ops Q i (fun a' w'=>(au X.heap.size X w'/\Le X.heap.size w')/\RG X.heap.size (c+8) i w w'/\∃v,a'=F (uV vs i v)/\RV X.heap.size n c a d z U i (uV vs i v) w') (F vs) w:=
  fun {i k vs v w w' oi} hik hk hi hx hS hG hV=>by obtain⟨g1,g2⟩:=hG;obtain⟨s1,s2⟩:=hS;exact Wo (S:=fun W=>au X.heap.size X W/\Le X.heap.size W) (T:=RG X.heap.size (c+8)) (V:=RV X.heap.size n c a d z U) hn hF hi.1 hi.2 hx ⟨dQ s1 g1,⟨nT s2.out g2.out⟩⟩ (grow nQ ⟨g1,g2⟩) hV
 refine S7 (S:=fun W=>au X.heap.size X W/\Le X.heap.size W) hm hf c (c+6) hb ha F hF (RV X.heap.size n c a d z U) (RG X.heap.size (c+8)) ?_ ?_ ?_ ?_ ?_ nQ
 ·intro i j vs v W hij hdj hv;rcases Nat.lt_or_ge i c with hi|hi
  ·unfold RV at hv ⊢;rw[if_pos hi] at hv ⊢;rw[wG hij];exact hv
  ·obtain⟨k,rfl⟩:=Nat.exists_eq_add_of_le hi;rw[RV.at_] at hv ⊢;rw[wG hij];by_cases h8:k=8
   ·subst h8;have h6:c+6≠j:=by rintro rfl;rw[e8] at hdj;cases hdj
    have h3:c+3≠j:=by rintro rfl;rw[e8'] at hdj;cases hdj
    show RS _ (uV vs j v (c+6)) (uV vs j v (c+3)) W;rw[wG h6,wG h3];exact hv
   ·split at hv;all_goals first|exact hv|exact absurd rfl h8
 ·intro i j vs W W' hij hj hic hT hv;rcases Nat.lt_or_ge i c with hi|hi
  ·unfold RV at hv ⊢;rw[if_pos hi] at hv ⊢;have hj8:j≠c+8:=by rcases hic hi with h|h<;>omega
   obtain⟨g1,g2⟩:=hT.1 hj8;exact hU i _ W W' hi hv g1 g2
  ·obtain⟨k,rfl⟩:=Nat.exists_eq_add_of_le hi;rw[RV.at_] at hv ⊢;by_cases h8:k=8
   ·subst h8;obtain⟨g1,g2⟩:=hT.1 (Ne.symm hij);obtain⟨g,cs,q1,q2,q3,q4⟩:=hv;exact⟨g,cs,q1,q2,q3,ax.dM q4⟩
   ·split at hv;all_goals first|exact hv.lQ hT|exact hv|trivial|exact absurd rfl h8
 ·obtain⟨g1,g2⟩:=hw;exact⟨inferInstance,inferInstance⟩
 ·intro i vs w hi hd hS;obtain⟨s1,s2⟩:=hS;rcases Nat.lt_or_ge i c with hic|hic
  ·refine wpOp_mono ?_ (hpre (fun _ _ _ _ h=>Lj hn hF h) i hic vs w (fun e he XH=>by have:=hd e he (fun _=>by omega);unfold RV at this;rwa [if_pos XH] at this) s1 s2);rintro a' w' ⟨⟨g1,g2⟩,v,rfl,hv⟩;refine⟨⟨dQ s1 g1,⟨nT s2.out g2.out⟩⟩,grow nQ ⟨g1,g2⟩,v,rfl,?_⟩;unfold RV;rw[if_pos hic,oz];exact hv
  ·obtain⟨k,rfl⟩:=Nat.exists_eq_add_of_le hic;have dep:∀m,pz ops (c+k) (c+m)=true->RV X.heap.size n c a d z U (c+m) vs w:=fun m hm=>hd _ hm (fun h=>by omega);have hk:k<11:=nQ;match k,hk with
   |0,_=>
    refine wpOp_mono ?_ (hcall (fun _ _ _ _ h=>Lj hn hF h) vs w (fun e he XH=>by have:=hd e he (fun _=>by omega);unfold RV at this;rwa [if_pos XH] at this) s1 s2)
    rintro a' w' ⟨⟨g1,g2⟩,v,rfl,hv⟩
    refine⟨⟨dQ s1 g1,⟨nT s2.out g2.out⟩⟩,grow nQ ⟨g1,g2⟩,v,rfl,?_⟩
    rw[RV.at_,oz];exact hv
   |1,_=>
    have:=dep 0 e1
    rw[RV.at_] at this
    refine tail rfl nU i1 (r1 vs w) ⟨s1,s2⟩ (refl w) ?_
    rw[RV.at_,oz];exact this
   |2,_=>
    have:=dep 1 e2
    rw[RV.at_] at this
    obtain⟨v1,v2,v3,hv,k1,k2,k3⟩:=this
    refine tail rfl nU i2 (r2 vs w v1 v2 v3 hv).1 ⟨s1,s2⟩ (refl w) ?_
    rw[RV.at_,oz];exact k1
   |3,_=>
    have:=dep 1 e3
    rw[RV.at_] at this
    obtain⟨v1,v2,v3,hv,k1,k2,k3⟩:=this
    refine tail rfl nU i3 (r2 vs w v1 v2 v3 hv).2.1 ⟨s1,s2⟩ (refl w) ?_
    rw[RV.at_,oz];exact k2
   |4,_=>
    have:=dep 1 e4
    rw[RV.at_] at this
    obtain⟨v1,v2,v3,hv,k1,k2,k3⟩:=this
    refine tail rfl nU i4 (r2 vs w v1 v2 v3 hv).2.2.1 ⟨s1,s2⟩ (refl w) ?_
    rw[RV.at_,oz];exact k3
   |5,_=>
    have:=dep 1 e5
    rw[RV.at_] at this
    obtain⟨v1,v2,v3,hv,k1,k2,k3⟩:=this
    refine tail rfl nU i5 (r2 vs w v1 v2 v3 hv).2.2.2 ⟨s1,s2⟩ (refl w) ?_
    rw[RV.at_,oz]
    exact rfl
   |6,_=>
    refine tail rfl nU i6 (r6 vs w) ⟨s1,s2⟩ ⟨inferInstance,inferInstance⟩ ?_
    rw[RV.at_,oz]
    exact⟨_,_,rfl,s2.out,ax.new rfl,rfl⟩
   |7,_=>
    have:=dep 2 e7
    rw[RV.at_] at this
    refine tail rfl nU i7 (r7 vs w).1 ⟨s1,s2⟩ (refl w) ?_
    rw[RV.at_,oz];exact this
   |8,_=>
    have h6:=dep 6 e8
    have h3:=dep 3 e8'
    rw[RV.at_] at h6 h3
    obtain⟨g,cs,q1,q2,q3,q4⟩:=h6
    obtain⟨r,q5,q6⟩:=h3
    obtain⟨ho,hev⟩:=r8
    refine Df i8.1 i8.2 (mu rT x8 y8 ho ((hev vs).1.trans q1) ((hev vs).2.trans q5) q3 q4 rfl (aM _ _) ?_)
    intro W' VM hk
    refine⟨⟨cm hk q2,dB hk⟩,⟨fun h=>absurd rfl h,fun _=>⟨g,cs,_,q2,q3,VM,rfl,hk⟩⟩,undef,Lj hn hF i8.1,?_⟩
    rw[RV.at_]
    show RS _ (uV vs (c+8) undef (c+6)) (uV vs (c+8) undef (c+3)) W'
    rw[wG nQ,wG nQ]
    exact⟨g,_,q1,q5,q2,VM⟩
   |9,_=>
    have:=dep 4 e9
    rw[RV.at_] at this
    refine tail rfl nU i9 (r7 vs w).2.1 ⟨s1,s2⟩ (refl w) ?_
    rw[RV.at_,oz];exact this
   |10,_=>
    have:=dep 5 eA
    rw[RV.at_] at this
    refine tail rfl nU iA (r7 vs w).2.2 ⟨s1,s2⟩ (refl w) ?_
    rw[RV.at_,oz];exact this
 ·intro vs W hall hS;have get:∀m,m<11->RV X.heap.size n c a d z U (c+m) vs W:=fun m hm=>hall _ nQ nQ;have h3:=get 3 nQ;have h6:=get 6 nQ;have h7:=get 7 nQ;have h8:=get 8 nQ;have h9:=get 9 nQ;have hA:=get 10 nQ;rw[RV.at_] at h3 h6 h7 h8 h9 hA;obtain⟨rN,q1,q2⟩:=h3;obtain⟨g,cs,q3,q4,q5,q6⟩:=h8;obtain⟨A,c',q7,q8⟩:=h7;obtain⟨lA,lc,q9,wu⟩:=h9;rw[q1] at q4;injection q4 with q4;subst q4;exact hend vs W A c' rN lA lc g q3 q7 q9 hA hS.1 hS.2 q8 q2 wu q6 q5
end
end
end Go.Proofs.YtdmedlkonaclnaaGreatDoor
