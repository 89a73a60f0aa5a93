/- A part of the proof that the statement HeadmanRunCardSaid holds, cut small by a program (names and blanks): Hp7, Hp8, Hp9, Hp10, Hp11, Hp12, Hp13. -/
import Derived.Lib.SliceRun
import Derived.Test.YtcjjlikhlmfedaaGreatDoorZ24
set_option maxRecDepth 100000
set_option maxHeartbeats 40000000
set_option linter.unusedVariables false
set_option linter.unusedSimpArgs false
namespace Go.Proofs.YtcjjlikhlmfedaaGreatDoor
open Go.RowKit
open Nat renaming le_trans → nT, lt_of_lt_of_le → nL, le_refl → nR, zero_le → nE, le_of_lt → nS, le_succ → nF
open Go.Proofs.Tryz renaming prog → nH
open Go renaming World → nJ, Value → nK
section
open Hd
section
variable{w:nJ}{g:Nat}{T:TypeId}{cs:Array nK}
theorem yK{base n c size:Nat}{xs:List nK}(h:w.ownsRow base T size (.slice (some ⟨g,0,none⟩) n c) n xs):∃cs,av w g T cs/\base<=g/\n<=c/\c<=maxLen/\cs.size=c*size/\cs.toList.take (n*size)=xs:=by
 rcases h.2 with⟨hv,_⟩|⟨g',cap',cur,hv,h1,h2,h3,h4,h5,h6⟩
 ·cases hv
 ·injection hv with hA _ hc;injection hA with hA;injection hA with hg;subst hg hc;exact⟨cur,h2,h1,h3,h4,h5,h6⟩
theorem xm{base n c size:Nat}{xs:List nK}(h:av w g T cs)(h1:base<=g)(h2:n<=c)(h3:c<=maxLen)(h4:cs.size=c*size)(h5:cs.toList.take (n*size)=xs)(h6:xs.length=n*size):w.ownsRow base T size (.slice (some ⟨g,0,none⟩) n c) n xs:=
 ⟨h6,.inr ⟨g,c,cs,rfl,h1,h,h2,h3,h4,h5⟩⟩
theorem qV{b:Nat}(vs:List nK):∀ {w:nJ} {o:Nat},b<=g->Below b w (w.setCells g o vs):=by
 induction vs with
 |nil=>intro w o h;exact Below.refl _ _
 |cons v vs ih=>intro w o h;exact(Below.setCell (Below.refl _ w) (p:=⟨g,o,none⟩) h v).trans (ih h)
end
theorem ny{P:Program}{ops:Array Oper}{o:Oper}{a:Act}{w:nJ}{K:Act->nJ->Prop}{Q:Exit->Act->nJ->Prop}{E:Prop}(hg:o.guard=none)(s x:Operand)(t:TypeId)(hop:o.op=Op.call { callee:=Callee.builtin Builtin.append,args:=#[s,x],argTypes:=#[t,t] })(e:TypeId)(i:TypeInfo)(size:Nat)(h1:P.underlying t=some (.slice e))(h2:P.info? e=some i)(h4:i.size=size)(b off n cap:Nat)(hs:a.eval s=.slice (some ⟨b,off,none⟩) n cap)(ad:Addr)(m c:Nat)(news:List nK)(hx:a.eval x=.slice (some ad) m c)(hn:news.length=m*size)(hc:∀j u,news[j]?=some u->w.cell? (ad.add j)=some u)(h1c:∀u∈news,u.oneCell'=true)(hroom:n+m<=cap)(hspare:∀j,j<news.length->(w.cell? ⟨b,off+n*size+j,none⟩).isSome=true/\w.frozen? ⟨b,off+n*size+j,none⟩=false)(r:Nat)(hr:n+m=r)(W':nJ)(hW:w.setCells b (off+n*size) news=W')(hK:K (a.put o.dst (.slice (some ⟨b,off,none⟩) r cap)) W'):if Region.wanted o (yielded ops a.tmps)=true then Oper.wp P o a w K Q else E:=by subst hr hW;exact step_append_room hg s x t hop e i size h1 h2 h4 b off n cap hs ad m c news hx hn hc h1c hroom hspare hK
theorem Hy(w:nJ)(ty:TypeId)(g o c:Nat)(h0:∀j,j<4->(w.cell? ⟨g,o+j,none⟩).isSome=true)(f0:∀j,j<4->w.frozen? ⟨g,o+j,none⟩=false):(Builtin.clear_ #[29] ty #[.slice (some ⟨g,o,none⟩) 1 c]).run nH w=.ok (.tuple #[]) (w.setCells g o [.int .i64 0,.int .i64 0,.int .i64 0,.int .i64 0]):=by
 obtain⟨i,hu,hi,hz,_⟩:=Fy;have hv:∀w,(zeroValue 105).run nH w=.ok (.agg #[.int .i64 0,.int .i64 0,.int .i64 0,.int .i64 0]) w:=fun w=>by kernel_rfl
 have hst:=run_storeCells_cells (P:=nH) g o [.int .i64 0,.int .i64 0,.int .i64 0,.int .i64 0] 0 w (by
  intro j hj
  simpa using h0 j (by simpa using hj)) (by
  intro j hj
  simpa using f0 j (by simpa using hj)) (by intro v hv;simp at hv;(repeat' rcases hv with rfl|hv)<;>first|rfl|(subst hv;rfl))
 have Yo:(Builtin.zeroCells (Value.agg #[.int .i64 0,.int .i64 0,.int .i64 0,.int .i64 0]).cells 1).toList=[.int .i64 0,.int .i64 0,.int .i64 0,.int .i64 0]:=by kernel_rfl
 simp only[Nat.add_zero] at hst;simp[Builtin.clear_,run_underlying hu,hv,Yo,hst]
theorem Ll(W1:nJ)(g c i k:Nat)(ps:List Me.jJ)(w:nJ)[hW:Le W1.heap.size w](h:w.ownsRow W1.heap.size 105 4 (.slice (some ⟨g,0,none⟩) (k+1) c) (k+1) (ps.flatMap aZ))(hl:ps.length=k+1)(hi:i<=k)(hk:k<=100):Calls nH 213 #[.slice (some ⟨g,0,none⟩) (k+1) c,.int .i64 i,.int .i64 ((i:Int)+1)] w fun e w'=>e=.returned (.slice (some ⟨g,0,none⟩) k c)/\∃δ,w'=dM W1.heap.size w δ/\w'.ownsRow W1.heap.size 105 4 (.slice (some ⟨g,0,none⟩) k c) k ((ps.take i++ps.drop (i+1)).flatMap aZ):=by
 obtain⟨cs,iA,NU,hnc,Jg,hsz,hcs⟩:=yK h;obtain⟨ti,hu,Q8,hz,hts,_⟩:=Fy;have Yy:c<=9223372036854775807:=Jg;have hlen:(ps.flatMap aZ).length=(k+1)*4:=by rw[cg aZ 4 (fun _=>rfl),hl]
 obtain⟨news,hnews⟩:∃news,news=(ps.drop (i+1)).flatMap aZ:=⟨_,rfl⟩;have wI:news.length=(k-i)*4:=by rw[hnews,cg aZ 4 (fun _=>rfl),List.length_drop,hl];omega
 have hcell:∀j v,(ps.flatMap aZ)[j]?=some v->w.cell? ⟨g,j,none⟩=some v:=fun j v hj=>by
  refine iA.cell ?_;rw[<-hcs,List.getElem?_take] at hj;split at hj
  ·simpa using hj
  ·cases hj
 have hall:∀j,j<(k+1)*4->(w.cell? ⟨g,j,none⟩).isSome=true:=fun j hj=>by
  have:j<(ps.flatMap aZ).length:=by rw[hlen];exact hj
  rw[hcell j _ (List.getElem?_eq_getElem this)];rfl
 have hsplit:ps.flatMap aZ=(ps.take (i+1)).flatMap aZ++news:=by rw[hnews,<-List.flatMap_append,List.take_append_drop]
 have EP:((ps.take (i+1)).flatMap aZ).length=(i+1)*4:=by rw[cg aZ 4 (fun _=>rfl),List.length_take,hl,Nat.min_eq_left nQ]
 obtain⟨A,hA,hsrc⟩:∃A:Addr,(if c=i+1 then some (⟨g,0,none⟩:Addr) else some ⟨g,(i+1)*4,none⟩)=some A/\Hid (∀t u,news[t]?=some u->w.drew.cell? (A.add t)=some u):=by
  by_cases hc:c=i+1
  ·refine⟨⟨g,0,none⟩,by simp[hc],fun t u hu=>?_⟩;have h0:news.length=0:=by rw[wI];omega
   rw[List.length_eq_zero_iff.1 h0] at hu;simp at hu
  ·refine⟨⟨g,(i+1)*4,none⟩,by simp[hc],fun t u hu=>?_⟩;rw[Addr.add_lit];show w.cell? _=_;refine hcell _ _ ?_;rw[hsplit,List.getElem?_append_right (by rw[EP];omega),EP,Nat.add_sub_cancel_left];exact hu
 have s2:Hid (∀u∈news,u.oneCell'=true):=by rw[hnews];exact dS aZ oY _
 have s3:Hid (∀t,t<news.length->(w.drew.cell? ⟨g,0+i*4+t,none⟩).isSome=true/\w.drew.frozen? ⟨g,0+i*4+t,none⟩=false):=fun t ht=>by rw[wI] at ht;exact⟨hall _ nQ,iA.free _⟩
 obtain⟨Zk,ku,hz1,ht1⟩:=av.oP news (0+i*4) (show av w.drew g _ cs from iA.drew) (by rw[wI,hsz];omega);obtain⟨W2,eu⟩:∃W2,w.drew.setCells g (0+i*4) news=W2:=⟨_,rfl⟩;rw[eu] at ku;have NP:∀j,j<(k+1)*4->(W2.cell? ⟨g,j,none⟩).isSome=true:=fun j hj=>by
  have:j<Zk.size:=by rw[hz1,hsz];omega
  rw[ku.cell (i:=j) (Array.getElem?_eq_getElem this)];rfl
 have hcl:∀ty,(Builtin.clear_ #[29] ty #[.slice (some ⟨g,k*4,none⟩) 1 (c-k)]).run nH W2=.ok (.tuple #[]) (W2.setCells g (k*4) [.int .i64 0,.int .i64 0,.int .i64 0,.int .i64 0]):=fun ty=>
  Hy W2 ty g (k*4) (c-k) (fun j hj=>NP _ nQ) (fun j hj=>ku.free _)
 obtain⟨cs2,gi,rV,VF⟩:=av.oP [.int .i64 0,.int .i64 0,.int .i64 0,.int .i64 0] (k*4) ku (by rw[hz1,hsz];simp only[List.length_cons,List.length_nil];omega);have bN:Below W1.heap.size w (W2.setCells g (k*4) [.int .i64 0,.int .i64 0,.int .i64 0,.int .i64 0]):=by rw[<-eu];exact((Below.drew (Below.refl _ w)).trans (qV news NU)).trans (qV _ NU)
 have Rb:(W2.setCells g (k*4) [.int .i64 0,.int .i64 0,.int .i64 0,.int .i64 0]).ownsRow W1.heap.size 105 4 (.slice (some ⟨g,0,none⟩) k c) k ((ps.take i++ps.drop (i+1)).flatMap aZ):=by
  have e1:(ps.take i).flatMap aZ=cs.toList.take (i*4):=by
   have:=congrArg (List.take (i*4)) hcs;rw[List.take_take,Nat.min_eq_left nQ] at this;rw[this];have e:ps.flatMap aZ=(ps.take i).flatMap aZ++(ps.drop i).flatMap aZ:=by rw[<-List.flatMap_append,List.take_append_drop]
   rw[e,List.take_left' (by rw[cg aZ 4 (fun _=>rfl),List.length_take,hl,Nat.min_eq_left nQ])]
  have hcl:cs.toList.length=c*4:=by rw[Array.length_toList,hsz]
  have e2:((ps.take i++ps.drop (i+1)).flatMap aZ)=cs.toList.take (i*4)++news:=by rw[List.flatMap_append,e1,hnews]
  refine xm gi NU nQ Jg (by rw[rV,hz1,hsz]) ?_ ?_
  ·rw[VF,ht1,e2];have l1:(cs.toList.take (0+i*4)++news).length=k*4:=by rw[List.length_append,List.length_take,hcl,wI];omega
   rw[List.append_assoc,List.take_append_of_le_length (by rw[List.length_take,List.length_append,l1];omega),List.take_take,Nat.min_self,List.take_left' l1,Nat.zero_add]
  ·rw[e2,List.length_append,List.length_take,hcl,wI];omega
 refine QDD ?_;intro W2' HF HB HU HI HT WX f1 f2 f3 f4 f5 f6 f7 f8 f9;clear h hl iA hcs hlen hnews hcell hall hsplit EP ku ht1 hz1 NP gi rV VF bN Rb hu Q8 hz hts wI eu Jg hsz;go_enter Tryz.func213,Tryz.ntmps213;go_wp2_with fail;go_region_law (refine ny rfl (.tmp 22) (.tmp 25) 29 rfl 105 ti 4 HU.out HI.out HT.out g 0 i c (by simp[Act.eval,Act.put]) A (k-i) (c-(i+1)) news (by simp[Act.eval,Act.put]) WX.out hsrc.out s2.out nQ s3.out k nQ W2 W2'.out ?_);go_wp2;go_ret;exact⟨rfl,_,(wH HB.out).symm,HF.out⟩
theorem Lr(A:Option Addr)(c:Nat)(xs:List An.Sp)(ln:Nat)(hn:xs.length=ln)(B:Nat)(w:nJ)[hB:Le B w](h:Sl fX B w A c xs)(q:ln<=1000):Calls nH 76 #[.slice A ln c] w fun e w'=>∃(A':Option Addr) (c':Nat) (δ:nJ),e=.returned (.slice A' ln c')/\w'=af w δ/\(af w δ).ownsRow w.heap.size 23 2 (.slice A' ln c') ln (xs.flatMap fX):=by
 subst hn;have H:=qh h;clear h;have Tg:∀(w:nJ) (a:Option Addr) (n c n' c':Nat),(binOp .eql 24 (.slice a n c) (.slice none n' c')).run nH w=.ok (.bool a.isNone) w:=fun w a n c n' c'=>Lib.run_eql_slice_nil w _ _ a n c n' c' Tryz.underlying24;cases A with
 |none=>
  have hx:xs=[]:=by
   have h2:=H.out.2.2;by_cases hx:xs=[]
   ·exact hx
   ·obtain⟨_,_,he,_⟩:=h2 (by
     obtain⟨y,ys,rfl⟩:=List.exists_cons_of_ne_nil hx
     simp[fX])
    cases he
  subst hx
  go_enter Tryz.func76,Tryz.ntmps76
  go_wp2_with fail
  go_ret
  exact⟨none,0,_,rfl,aq,World.ownsRow_nil _ _ _ _⟩
 |some ad=>
  go_enter Tryz.func76,Tryz.ntmps76
  go_wp2_with (at_builtin;(refine bR w Vf (.tmp 5) (.tmp 6) rfl rfl (v:=.slice (some ⟨_,0,none⟩) 0 0) (cx nW nW) rfl (B:=B) (A:=some ad) (m:=xs.length) (c:=c) (news:=xs.flatMap fX) rfl (H.out.up.2.2) (cg fX 2 (fun _=>rfl) _) (dS fX MV _) nQ nQ ?_);intro A1 c1 δ1 ei hg1)
  go_ret
  refine⟨A1,c1,_,rfl,aq,?_⟩
  refine QDK ?_
  exact ei
theorem Lq(A:Option Addr)(c:Nat)(xs:List An.EX)(ln:Nat)(hn:xs.length=ln)(B:Nat)(w:nJ)[hB:Le B w](h:Sl eY B w A c xs)(q:ln<=1000):Calls nH 78 #[.slice A ln c] w fun e w'=>∃(A':Option Addr) (c':Nat) (δ:nJ),e=.returned (.slice A' ln c')/\w'=af w δ/\(af w δ).ownsRow w.heap.size 99 5 (.slice A' ln c') ln (xs.flatMap eY):=by
 subst hn;have H:=qh h;clear h;have Tg:∀(w:nJ) (a:Option Addr) (n c n' c':Nat),(binOp .eql 26 (.slice a n c) (.slice none n' c')).run nH w=.ok (.bool a.isNone) w:=fun w a n c n' c'=>Lib.run_eql_slice_nil w _ _ a n c n' c' Tryz.underlying26;cases A with
 |none=>
  have hx:xs=[]:=by
   have h2:=H.out.2.2;by_cases hx:xs=[]
   ·exact hx
   ·obtain⟨_,_,he,_⟩:=h2 (by
     obtain⟨y,ys,rfl⟩:=List.exists_cons_of_ne_nil hx
     simp[eY])
    cases he
  subst hx
  go_enter Tryz.func78,Tryz.ntmps78
  go_wp2_with fail
  go_ret
  exact⟨none,0,_,rfl,aq,World.ownsRow_nil _ _ _ _⟩
 |some ad=>
  go_enter Tryz.func78,Tryz.ntmps78
  go_wp2_with (at_builtin;(refine bR w Ve (.tmp 5) (.tmp 6) rfl rfl (v:=.slice (some ⟨_,0,none⟩) 0 0) (cx nW nW) rfl (B:=B) (A:=some ad) (m:=xs.length) (c:=c) (news:=xs.flatMap eY) rfl (H.out.up.2.2) (cg eY 5 (fun _=>rfl) _) (dS eY I0 _) nQ nQ ?_);intro A1 c1 δ1 ei hg1)
  go_ret
  refine⟨A1,c1,_,rfl,aq,?_⟩
  refine QDK ?_
  exact ei
theorem En(A:Option Addr)(c:Nat)(xs:List Me.jJ)(ln:Nat)(hn:xs.length=ln)(B:Nat)(w:nJ)[hB:Le B w](h:Sl aZ B w A c xs)(q:ln<=1000):Calls nH 79 #[.slice A ln c] w fun e w'=>∃(A':Option Addr) (c':Nat) (δ:nJ),e=.returned (.slice A' ln c')/\w'=af w δ/\(af w δ).ownsRow w.heap.size 105 4 (.slice A' ln c') ln (xs.flatMap aZ):=by
 subst hn;have H:=qh h;clear h;have Tg:∀(w:nJ) (a:Option Addr) (n c n' c':Nat),(binOp .eql 29 (.slice a n c) (.slice none n' c')).run nH w=.ok (.bool a.isNone) w:=fun w a n c n' c'=>Lib.run_eql_slice_nil w _ _ a n c n' c' Tryz.underlying29;cases A with
 |none=>
  have hx:xs=[]:=by
   have h2:=H.out.2.2;by_cases hx:xs=[]
   ·exact hx
   ·obtain⟨_,_,he,_⟩:=h2 (by
     obtain⟨y,ys,rfl⟩:=List.exists_cons_of_ne_nil hx
     simp[aZ])
    cases he
  subst hx
  go_enter Tryz.func79,Tryz.ntmps79
  go_wp2_with fail
  go_ret
  exact⟨none,0,_,rfl,aq,World.ownsRow_nil _ _ _ _⟩
 |some ad=>
  go_enter Tryz.func79,Tryz.ntmps79
  go_wp2_with (at_builtin;(refine bR w Fy (.tmp 5) (.tmp 6) rfl rfl (v:=.slice (some ⟨_,0,none⟩) 0 0) (cx nW nW) rfl (B:=B) (A:=some ad) (m:=xs.length) (c:=c) (news:=xs.flatMap aZ) rfl (H.out.up.2.2) (cg aZ 4 (fun _=>rfl) _) (dS aZ oY _) nQ nQ ?_);intro A1 c1 δ1 ei hg1)
  go_ret
  refine⟨A1,c1,_,rfl,aq,?_⟩
  refine QDK ?_
  exact ei
theorem OI(A:Option Addr)(c:Nat)(xs:List Me.Pr)(ln:Nat)(hn:xs.length=ln)(B:Nat)(w:nJ)[hB:Le B w](h:Sl dj B w A c xs)(q:ln<=1000):Calls nH 80 #[.slice A ln c] w fun e w'=>∃(A':Option Addr) (c':Nat) (δ:nJ),e=.returned (.slice A' ln c')/\w'=af w δ/\(af w δ).ownsRow w.heap.size 109 2 (.slice A' ln c') ln (xs.flatMap dj):=by
 subst hn;have H:=qh h;clear h;have Tg:∀(w:nJ) (a:Option Addr) (n c n' c':Nat),(binOp .eql 30 (.slice a n c) (.slice none n' c')).run nH w=.ok (.bool a.isNone) w:=fun w a n c n' c'=>Lib.run_eql_slice_nil w _ _ a n c n' c' Tryz.underlying30;cases A with
 |none=>
  have hx:xs=[]:=by
   have h2:=H.out.2.2;by_cases hx:xs=[]
   ·exact hx
   ·obtain⟨_,_,he,_⟩:=h2 (by
     obtain⟨y,ys,rfl⟩:=List.exists_cons_of_ne_nil hx
     simp[dj])
    cases he
  subst hx
  go_enter Tryz.func80,Tryz.ntmps80
  go_wp2_with fail
  go_ret
  exact⟨none,0,_,rfl,aq,World.ownsRow_nil _ _ _ _⟩
 |some ad=>
  go_enter Tryz.func80,Tryz.ntmps80
  go_wp2_with (at_builtin;(refine bR w AW (.tmp 5) (.tmp 6) rfl rfl (v:=.slice (some ⟨_,0,none⟩) 0 0) (cx nW nW) rfl (B:=B) (A:=some ad) (m:=xs.length) (c:=c) (news:=xs.flatMap dj) rfl (H.out.up.2.2) (cg dj 2 (fun _=>rfl) _) (dS dj Bi _) nQ nQ ?_);intro A1 c1 δ1 ei hg1)
  go_ret
  refine⟨A1,c1,_,rfl,aq,?_⟩
  refine QDK ?_
  exact ei
theorem Lu(A:Option Addr)(c:Nat)(xs:List Sa.Kind)(ln:Nat)(hn:xs.length=ln)(B:Nat)(w:nJ)[hB:Le B w](h:Sl p6 B w A c xs)(q:ln<=1000):Calls nH 81 #[.slice A ln c] w fun e w'=>∃(A':Option Addr) (c':Nat) (δ:nJ),e=.returned (.slice A' ln c')/\w'=af w δ/\(af w δ).ownsRow w.heap.size 114 2 (.slice A' ln c') ln (xs.flatMap p6):=by
 subst hn;have H:=qh h;clear h;have Tg:∀(w:nJ) (a:Option Addr) (n c n' c':Nat),(binOp .eql 33 (.slice a n c) (.slice none n' c')).run nH w=.ok (.bool a.isNone) w:=fun w a n c n' c'=>Lib.run_eql_slice_nil w _ _ a n c n' c' Tryz.underlying33;cases A with
 |none=>
  have hx:xs=[]:=by
   have h2:=H.out.2.2;by_cases hx:xs=[]
   ·exact hx
   ·obtain⟨_,_,he,_⟩:=h2 (by
     obtain⟨y,ys,rfl⟩:=List.exists_cons_of_ne_nil hx
     simp[p6])
    cases he
  subst hx
  go_enter Tryz.func81,Tryz.ntmps81
  go_wp2_with fail
  go_ret
  exact⟨none,0,_,rfl,aq,World.ownsRow_nil _ _ _ _⟩
 |some ad=>
  go_enter Tryz.func81,Tryz.ntmps81
  go_wp2_with (at_builtin;(refine bR w Vh (.tmp 5) (.tmp 6) rfl rfl (v:=.slice (some ⟨_,0,none⟩) 0 0) (cx nW nW) rfl (B:=B) (A:=some ad) (m:=xs.length) (c:=c) (news:=xs.flatMap p6) rfl (H.out.up.2.2) (cg p6 2 (fun _=>rfl) _) (dS p6 Dj _) nQ nQ ?_);intro A1 c1 δ1 ei hg1)
  go_ret
  refine⟨A1,c1,_,rfl,aq,?_⟩
  refine QDK ?_
  exact ei
theorem Ls(A:Option Addr)(c:Nat)(xs:List Sa.Part)(ln:Nat)(hn:xs.length=ln)(B:Nat)(w:nJ)[hB:Le B w](h:Sl iX B w A c xs)(q:ln<=1000):Calls nH 82 #[.slice A ln c] w fun e w'=>∃(A':Option Addr) (c':Nat) (δ:nJ),e=.returned (.slice A' ln c')/\w'=af w δ/\(af w δ).ownsRow w.heap.size 116 2 (.slice A' ln c') ln (xs.flatMap iX):=by
 subst hn;have H:=qh h;clear h;have Tg:∀(w:nJ) (a:Option Addr) (n c n' c':Nat),(binOp .eql 34 (.slice a n c) (.slice none n' c')).run nH w=.ok (.bool a.isNone) w:=fun w a n c n' c'=>Lib.run_eql_slice_nil w _ _ a n c n' c' Tryz.underlying34;cases A with
 |none=>
  have hx:xs=[]:=by
   have h2:=H.out.2.2;by_cases hx:xs=[]
   ·exact hx
   ·obtain⟨_,_,he,_⟩:=h2 (by
     obtain⟨y,ys,rfl⟩:=List.exists_cons_of_ne_nil hx
     simp[iX])
    cases he
  subst hx
  go_enter Tryz.func82,Tryz.ntmps82
  go_wp2_with fail
  go_ret
  exact⟨none,0,_,rfl,aq,World.ownsRow_nil _ _ _ _⟩
 |some ad=>
  go_enter Tryz.func82,Tryz.ntmps82
  go_wp2_with (at_builtin;(refine bR w PW (.tmp 5) (.tmp 6) rfl rfl (v:=.slice (some ⟨_,0,none⟩) 0 0) (cx nW nW) rfl (B:=B) (A:=some ad) (m:=xs.length) (c:=c) (news:=xs.flatMap iX) rfl (H.out.up.2.2) (cg iX 2 (fun _=>rfl) _) (dS iX tK _) nQ nQ ?_);intro A1 c1 δ1 ei hg1)
  go_ret
  refine⟨A1,c1,_,rfl,aq,?_⟩
  refine QDK ?_
  exact ei
theorem OJ(A:Option Addr)(c:Nat)(xs:List Int)(ln:Nat)(hn:xs.length=ln)(B:Nat)(w:nJ)[hB:Le B w](h:Sl aH B w A c xs)(q:ln<=1000):Calls nH 83 #[.slice A ln c] w fun e w'=>∃(A':Option Addr) (c':Nat) (δ:nJ),e=.returned (.slice A' ln c')/\w'=af w δ/\(af w δ).ownsRow w.heap.size 3 1 (.slice A' ln c') ln (xs.flatMap aH):=by
 subst hn;have H:=qh h;clear h;have Tg:∀(w:nJ) (a:Option Addr) (n c n' c':Nat),(binOp .eql 35 (.slice a n c) (.slice none n' c')).run nH w=.ok (.bool a.isNone) w:=fun w a n c n' c'=>Lib.run_eql_slice_nil w _ _ a n c n' c' Tryz.underlying35;cases A with
 |none=>
  have hx:xs=[]:=by
   have h2:=H.out.2.2;by_cases hx:xs=[]
   ·exact hx
   ·obtain⟨_,_,he,_⟩:=h2 (by
     obtain⟨y,ys,rfl⟩:=List.exists_cons_of_ne_nil hx
     simp[aH])
    cases he
  subst hx
  go_enter Tryz.func83,Tryz.ntmps83
  go_wp2_with fail
  go_ret
  exact⟨none,0,_,rfl,aq,World.ownsRow_nil _ _ _ _⟩
 |some ad=>
  go_enter Tryz.func83,Tryz.ntmps83
  go_wp2_with (at_builtin;(refine bR w uC (.tmp 5) (.tmp 6) rfl rfl (v:=.slice (some ⟨_,0,none⟩) 0 0) (cx nW nW) rfl (B:=B) (A:=some ad) (m:=xs.length) (c:=c) (news:=xs.flatMap aH) rfl (H.out.up.2.2) (cg aH 1 (fun _=>rfl) _) (dS aH tM _) nQ nQ ?_);intro A1 c1 δ1 ei hg1)
  go_ret
  refine⟨A1,c1,_,rfl,aq,?_⟩
  refine QDK ?_
  exact ei
end
section
open Hd
theorem aP.P4{B:Nat}{w:nJ}{r:aR}{t:aV}{hA pA:Option Addr}{hc pc:Nat}{hs:List Me.jJ}{ps:List Me.Pr}(h:aP B w r t)(h1:fm 105 aZ w.heap.size w hA hc hs)(h2:fm 109 dj w.heap.size w pA pc ps):aP B w ⟨r.aD,⟨hA,hc,pA,pc⟩,r.aa⟩ ⟨t.aD,⟨t.ai.m,hs,ps⟩,t.aa⟩:=⟨h.1,⟨.inr h1,.inr h2⟩,h.2.2⟩
theorem index_one{P:Program}{t e:TypeId}{n:Nat}(W:nJ)(hu:P.underlying t=some (.array n e))(Rc:(isAgg e).run P W=.ok false W)(hsz:(sizeOf e).run P W=.ok 1 W)(cs:Array nK)(k:IntKind)(j:Nat)(hj:j<n)(v:nK)(hv:cs[j]?=some v):(Instr.index t (.agg cs) (.int k (j:Int))).run P W=.ok v W:=by have hj':(j:Int)<(n:Int):=nQ;simp[Instr.index,run_underlying hu,asIntOf,hj,hsz,Rc,part,hv,go_sem]
theorem Lf(r:aR)(t:aV)(hv:aG t=true)(a:List Int)(v2:nK)(B:Nat)(w:nJ)(hT:aP B w r t)[hB:Le B w]:Calls nH 165 #[aX r t,v2] w (kr B t ⟨.eK,a⟩ w):=by
 have lI:=qh (gL hv);have H:=qh hT;obtain⟨V1,V2,V3⟩:=cq.1 hv;have V2:=qh V2;have HE:Hid (jF t ⟨.eK,a⟩=if t.ai.hs.length=0 then none else some ⟨t.aD,qJ t.ai (nth (Me.fQ t.ai) 0).toNat,t.aa⟩):=rfl;have lw:Le w.heap.size w:=⟨nR _⟩;clear V1 V3 hv hT;go_enter Tryz.func165,Tryz.ntmps165;go_upto_region 1 with fail;refine QDU ?_;intro W1 aE cz de cN cY dc dX A1 R1 M1;clear aE;have v7:=A1.out.ax.2.2.2.2.2.2.2.1;have v8:=A1.out.ax.2.2.2.2.2.2.2.2.1;have v9:=A1.out.ax.2.2.2.2.2.2.2.2.2.1;by_cases hx:t.ai.hs.length=0
 ·have HN:Hid (jF t ⟨.eK,a⟩=none):=qh (by rw[HE.out,if_pos hx]);have hx1:(t.ai.hs.length:Int)=0:=nQ;have hx2:((t.ai.hs.length:Int)==0)=true:=by simp[hx]
  clear hx;go_upto_region 3 with(go_at_call 126;refine(sF r.ai t.ai V2.out W1.heap.size _ M1.out.is.2.1.up).mono ?_;rintro e w1 ⟨lA,lc,δo,rfl,rfl,Sw⟩);go_wp2_with (first|(refine aj ak rfl _ rfl rfl (A1.out.af _) rfl ?_)|(refine ah ak rfl _ _ rfl rfl rfl (R1.out.af _) rfl rfl (aJ _ _) ?_;intro W9 C9 k9));refine QAR ?_;intro p1 p2;refine dQ ak Tryz.results165 rfl C9 rfl ?_;exact Oz HN.out ((M1.out.up (W:=af W1 δo)).aO k9 (R1.out.af _) nU (Nat.le_succ_of_le hB.out) (inferInstance:Le B (af W1 δo)).out)
 ·have hlt:=Jn V2.out hx;refine QCZ ?_;intro HE ho hol h0;obtain⟨d,hd⟩:∃d:Nat,nth (Me.fQ t.ai) 0=(d:Int):=⟨(nth (Me.fQ t.ai) 0).toNat,by have:=h0.1;omega⟩;rw[hd,Int.toNat_natCast] at HE hlt;have h6:=(Me.az.1 V2.out).2.1;have Sz:Hid (∀p∈t.ai.ps,0<=p.a/\p.a<=1000/\0<=p.b/\p.b<=1000):=qh fun p hp=>by have hk:=Me.mN.1 (List.all_eq_true.1 (Me.az.1 V2.out).2.2.2.2.1 p hp);omega
  obtain⟨k,hk⟩:∃k,t.ai.hs.length=k+1:=⟨t.ai.hs.length-1,nQ⟩;have HK:=qh hk;have Sm:k<=100:=nQ;have hdk:d<=k:=nQ;have HX:Hid (0<(Me.fQ t.ai).length):=qh (by rw[hol,hk];exact Nat.succ_pos _);have hx1:¬(t.ai.hs.length:Int)=0:=nQ;have hx2:((t.ai.hs.length:Int)==0)=false:=by rw[hk];simp;omega
  have hx3:0<t.ai.hs.length:=by rw[hk];omega
  have hx4:(0:Int)<(t.ai.hs.length:Int):=by rw[hk];omega
  have hwr:IntKind.i64.wrap ((d:Int)+1)=(d:Int)+1:=by rw[IntWalk.i64_in _ nQ]
  clear hx hlt ho hol h0 h6 hk;go_upto_region 4 with(go_at_call 126;refine(sF r.ai t.ai V2.out W1.heap.size _ M1.out.is.2.1.up).mono ?_;rintro e w1 ⟨lA,lc,δo,rfl,rfl,Sw⟩);obtain⟨lb,lo,rfl,hlb,dl⟩:=Sw.out.int (k:=0) HX.out;have dl':(af W1 δo).cell? ⟨lb,lo,none⟩=some (.int .i64 (d:Int)):=by rw[<-hd];exact dl
  have ilb:Lt lb (af W1 δo):=⟨hlb⟩;clear dl hlb Sw hd;go_upto_region 5 with fail;have A2:Hid (av (af W1 δo) w.heap.size 39 (aF r t)):=qh (A1.out.af _);have R2:Hid (av (af W1 δo) (w.heap.size+1) 39 (aF cV cL)):=qh (R1.out.af _);have M2:Hid (aP B (af W1 δo) r t):=qh M1.out.up;refine aK fun W2 eu=>?_;have a1:aC w.heap.size w W2:=iC eu;have a2:Le w.heap.size W2:=fR eu;have a3:Le B W2:=fR eu;have A2:Hid (av W2 w.heap.size 39 (aF r t)):=by rw[eu.out];exact A2
  have R2:Hid (av W2 (w.heap.size+1) 39 (aF cV cL)):=by rw[eu.out];exact R2
  have M2:Hid (aP B W2 r t):=by rw[eu.out];exact M2
  clear eu A1 R1 M1 v7 v8 v9 dl' ilb;have v8:=A2.out.ax.2.2.2.2.2.2.2.2.1;have Zn:=A2.out.free 8;have lA2:=A2.out.lt;have lR2:=R2.out.lt;have lw2:Le W2.heap.size W2:=⟨nR _⟩;go_upto_region 6 with(first|(go_at_call 79;refine(En r.ai.hA r.ai.hc t.ai.hs _ rfl W2.heap.size _ M2.out.is.2.1.1 lI.out.2.1.1).mono ?_;rintro e w1 ⟨A',c',δ2,rfl,rfl,ho⟩;obtain⟨gh,rfl,hgh,lgh,_,_⟩:=pQ ho hx3;rw[HK.out] at ho ⊢)|(go_at_call 213;refine(Ll W2 gh c' d k t.ai.hs _ ho HK.out hdk Sm).mono ?_;rintro e w1 ⟨rfl,δ3,rfl,ho3⟩;have HO3:=qh ho3;clear ho3));refine aK fun W3 bN=>?_;have jn1:mw w.heap.size W2.heap.size:=⟨a2.out⟩;have jn2:mw B W2.heap.size:=⟨a3.out⟩;have b1:aC w.heap.size w W3:=iC bN;have b2:Le w.heap.size W3:=fR bN;have b3:Le B W3:=fR bN;have b4:Le W2.heap.size W3:=fR bN;have A3:Hid (av W3 w.heap.size 39 (aF ⟨r.aD,⟨some ⟨gh,0,none⟩,c',r.ai.pA,r.ai.pc⟩,r.aa⟩ ⟨t.aD,⟨t.ai.m,t.ai.hs.take d++t.ai.hs.drop (d+1),t.ai.ps⟩,t.aa⟩)):=by
   rw[bN.out,show aF ⟨r.aD,⟨some ⟨gh,0,none⟩,c',r.ai.pA,r.ai.pc⟩,r.aa⟩ ⟨t.aD,⟨t.ai.m,t.ai.hs.take d++t.ai.hs.drop (d+1),t.ai.ps⟩,t.aa⟩=(aF r t).setIfInBounds 8 (.slice (some ⟨gh,0,none⟩) k c') from by
    have:(t.ai.hs.take d++t.ai.hs.drop (d+1)).length=k:=by rw[List.length_append,List.length_take,List.length_drop,HK.out];omega
    simp only[aF,this];simp]
   exact qh (av.set (av.eA A2.out) 8 _)
  have R3:Hid (av W3 (w.heap.size+1) 39 (aF cV cL)):=by rw[bN.out];exact qh (av.eZ (av.eA R2.out) (by show w.heap.size+1≠w.heap.size;omega) _)
  have M3:Hid (aP B W3 r t):=by rw[bN.out];exact qh ((M2.out.up).dP (av.eA A2.out) nU hB.out (inferInstance:Le B (dM W2.heap.size (af W2 δ2) δ3)).out _)
  have si:Hid (fm 105 aZ W3.heap.size W3 (some ⟨gh,0,none⟩) c' (t.ai.hs.take d++t.ai.hs.drop (d+1))):=by rw[bN.out];exact qh (fm.bW (base:=W2.heap.size) (size:=4) (n:=k) (ownsRow_setCell_below HO3.out (a:=⟨w.heap.size,8,none⟩) lA2.out _) (by rw[List.length_append,List.length_take,List.length_drop,HK.out];omega))
  clear bN HO3 M2 A2 R2 v8 Zn ho hgh;have Zz:Hid (Sl dj W3.heap.size W3 r.ai.pA r.ai.pc t.ai.ps):=qh M3.out.is.2.1.2;have lA3:=A3.out.lt;have lR3:=R3.out.lt;have hps:t.ai.ps.length<=1000:=lI.out.2.1.2;have v9:=A3.out.ax.2.2.2.2.2.2.2.2.2.1;clear hwr Sm hdk hx1 hx2 hx3 hx4;obtain⟨pA,hpA⟩:∃x,r.ai.pA=x:=⟨_,rfl⟩;rw[hpA] at Zz v9;clear hpA;go_upto_region 8 with fail;go_loopg [9,41] t.ai.ps.length (fun gn s9 s41 wr=>∃(j:Nat) (Ap:Option Addr) (cp:Nat) (m:List Me.Pr),j<=t.ai.ps.length/\gn=t.ai.ps.length-j/\s9=.slice Ap m.length cp/\s41=.int .i64 j/\Hid (m=mV d t.ai.ps j)/\m.length<=t.ai.ps.length/\Hid (wr.ownsRow W3.heap.size 109 2 (.slice Ap m.length cp) m.length (m.flatMap dj))/\aC W3.heap.size W3 wr/\Le W3.heap.size wr)
  case atStart=>exact⟨0,none,0,[],nE _,rfl,rfl,rfl,qh rfl,nE _,qh (World.ownsRow_nil _ _ _ _),inferInstance,⟨nR _⟩⟩
  case round=>
   obtain⟨j,Ap,cp,m,hj,rfl,rfl,rfl,HL,hml,HO,i1,i2⟩:=hrel;by_cases hlt:j<t.ai.ps.length
   ·have hji:(j:Int)<(t.ai.ps.length:Int):=nQ;have hj0:¬(j:Int)<0:=nQ;obtain⟨pb,po,rfl,hpb,d0,d1⟩:=(Zz.out.up (w':=wr)).pr hlt;have ipb:Lt pb wr:=⟨nL hpb i2.out⟩;have LK:=qh (@xP d j t.ai.ps hlt);have LL:=qh (@xQ d j t.ai.ps hlt);have hpx:=Sz.out _ (aS t.ai.ps hlt);obtain⟨x,hx⟩:∃x,nth t.ai.ps j=x:=⟨_,rfl⟩;rw[hx] at d0 d1 hpx LK LL;clear hx hpb;by_cases ha:x.a=(d:Int)
    ·have Wc:(x.a==(d:Int))=true:=by simp[ha]
     have sj:=qh (LK.out (.inl ha));clear LK LL;go_wp2_with fail;go_roundg (t.ai.ps.length-(j+1))
     case measure=>omega
     case rel=>exact⟨j+1,Ap,cp,m,nQ,rfl,rfl,by go_num,by unfold Hid;rw[sj.out];exact HL.out,hml,qh (aT HO.out),inferInstance,inferInstance⟩
    by_cases hb:x.b=(d:Int)
    ·have Wc:(x.a==(d:Int))=false:=by simp[ha]
     have hb':(x.b==(d:Int))=true:=by simp[hb]
     have sj:=qh (LK.out (.inr hb));clear LK LL;go_wp2_with fail;go_roundg (t.ai.ps.length-(j+1))
     case measure=>omega
     case rel=>exact⟨j+1,Ap,cp,m,nQ,rfl,rfl,by go_num,by unfold Hid;rw[sj.out];exact HL.out,hml,qh (aT HO.out),inferInstance,inferInstance⟩
    have sj:Hid (m++[pO d x]=mV d t.ai.ps (j+1)):=by unfold Hid;rw[LL.out ha hb,HL.out]
    have Wc:(x.a==(d:Int))=false:=by simp[ha]
    have hb':(x.b==(d:Int))=false:=by simp[hb]
    clear LK LL ha hb;go_upto_region 12 with fail;obtain⟨X,rfl⟩:∃X,X=wr:=⟨_,rfl⟩;have lX:Le X.heap.size X:=⟨nR _⟩;have acj:∀W:nJ,(Instr.index 265 (.agg #[.pointer (some ⟨X.heap.size,0,none⟩),.pointer (some ⟨X.heap.size,1,none⟩)]) (.int .i64 0)).run nH W=.ok (.pointer (some ⟨X.heap.size,0,none⟩)) W:=fun W=>index_one W Tryz.underlying265 (by first|exact Tryz.isAgg264 W|kernel_rfl) (by first|exact Tryz.sizeOf264 W|kernel_rfl) _ .i64 0 nU _ rfl;have aci:∀W:nJ,(Instr.index 265 (.agg #[.pointer (some ⟨X.heap.size,0,none⟩),.pointer (some ⟨X.heap.size,1,none⟩)]) (.int .i64 1)).run nH W=.ok (.pointer (some ⟨X.heap.size,1,none⟩)) W:=fun W=>index_one W Tryz.underlying265 (by first|exact Tryz.isAgg264 W|kernel_rfl) (by first|exact Tryz.sizeOf264 W|kernel_rfl) _ .i64 1 nU _ rfl;go_loopg [58] 2 (fun gn s58 wq=>∃i:Nat,i<=2/\gn=2-i/\s58=.int .i64 i/\Hid (av wq X.heap.size 109 #[.int .i64 (if 1<=i then Me.Ck d x.a else x.a),.int .i64 (if 2<=i then Me.Ck d x.b else x.b)])/\aC X.heap.size X wq/\Le X.heap.size wq)
    case atStart=>exact⟨0,nQ,rfl,rfl,qh (av.new rfl),inferInstance,inferInstance⟩
    case round=>
     obtain⟨i,hi,rfl,rfl,HQ,k1,k2⟩:=hrel;by_cases hlt2:i<2
     ·rcases(by omega:i=0\/i=1) with rfl|rfl
      ·have e0:=HQ.out.cell (i:=0) (v:=.int .i64 x.a) nV;have f0:=HQ.out.free 0;have lq:=HQ.out.lt;by_cases hg:(d:Int)<x.a
       ·have hgd:decide ((d:Int)<x.a)=true:=decide_eq_true hg;have hw:IntKind.i64.wrap (x.a-1)=x.a-1:=by rw[IntWalk.i64_in _ (by have:=hpx;omega)]
        have HR:Hid (Me.Ck d x.a=x.a-1):=by unfold Hid Me.Ck;rw[if_pos hg]
        go_wp2_with fail;go_roundg (2-(0+1))
        case measure=>omega
        case rel=>exact⟨0+1,nQ,rfl,by go_num,qh (by have k:=HQ.out.set 0 (.int .i64 (x.a-1));simpa [HR.out] using k),inferInstance,inferInstance⟩
       ·have hgd:decide ((d:Int)<x.a)=false:=decide_eq_false hg;have HR:Hid (Me.Ck d x.a=x.a):=by unfold Hid Me.Ck;rw[if_neg hg]
        go_wp2_with fail;go_roundg (2-(0+1))
        case measure=>omega
        case rel=>exact⟨0+1,nQ,rfl,by go_num,qh (by have k:=HQ.out;simpa [HR.out] using k),inferInstance,inferInstance⟩
      ·have e0:=HQ.out.cell (i:=1) (v:=.int .i64 x.b) nV;have f0:=HQ.out.free 1;have lq:=HQ.out.lt;by_cases hg:(d:Int)<x.b
       ·have hgd:decide ((d:Int)<x.b)=true:=decide_eq_true hg;have hw:IntKind.i64.wrap (x.b-1)=x.b-1:=by rw[IntWalk.i64_in _ (by have:=hpx;omega)]
        have HR:Hid (Me.Ck d x.b=x.b-1):=by unfold Hid Me.Ck;rw[if_pos hg]
        go_wp2_with fail;go_roundg (2-(1+1))
        case measure=>omega
        case rel=>exact⟨1+1,nQ,rfl,by go_num,qh (by have k:=HQ.out.set 1 (.int .i64 (x.b-1));simpa [HR.out] using k),inferInstance,inferInstance⟩
       ·have hgd:decide ((d:Int)<x.b)=false:=decide_eq_false hg;have HR:Hid (Me.Ck d x.b=x.b):=by unfold Hid Me.Ck;rw[if_neg hg]
        go_wp2_with fail;go_roundg (2-(1+1))
        case measure=>omega
        case rel=>exact⟨1+1,nQ,rfl,by go_num,qh (by have k:=HQ.out;simpa [HR.out] using k),inferInstance,inferInstance⟩
     ·obtain rfl:i=2:=by omega
      have HQ:Hid (av wr X.heap.size 109 (dj (pO d x)).toArray):=by have:=HQ.out;simpa [dj,pO] using qh this
      obtain⟨y,hy⟩:∃y,pO d x=y:=⟨_,rfl⟩;rw[hy] at HQ sj;have c0:=HQ.out.cell (i:=0) (v:=.int .i64 y.a) rfl;have c1:=HQ.out.cell (i:=1) (v:=.int .i64 y.b) rfl;have lq:=HQ.out.lt;have s1:aC W3.heap.size W3 wr:=⟨⟨k1.out.1.trans i1.out.1,k1.out.2.1.trans i1.out.2.1,k1.out.2.2.1.trans i1.out.2.2.1,fun b hb=>(k1.out.2.2.2 b (nL hb i2.out)).trans (i1.out.2.2.2 b hb)⟩⟩;have s2:Le W3.heap.size wr:=⟨nT i2.out k2.out⟩;clear hy;go_wp2_with (at_builtin;(refine bK W3 AW (.tmp 72) (.tmp 74) rfl rfl (aT HO.out) rfl rfl nW rfl (by simp[Value.oneCell']) nQ nQ ?_);intro A3 c3 δ3 jB qj);go_roundg (t.ai.ps.length-(j+1))
      case measure=>omega
      case rel=>
       refine⟨j+1,A3,c3,m++[y],nQ,rfl,?_,by go_num,sj,?_,?_,inferInstance,inferInstance⟩
       ·rw[List.length_append];rfl
       ·rw[sj.out];exact o9
       ·rw[List.length_append,List.flatMap_append];exact qh (by simpa [dj] using jB)
   ·obtain rfl:j=t.ai.ps.length:=by omega
    have hjn:¬((t.ai.ps.length:Int)<(t.ai.ps.length:Int)):=nQ;have Ch:Hid (qJ t.ai d=⟨t.ai.m,t.ai.hs.take d++t.ai.hs.drop (d+1),m⟩):=by unfold Hid;rw[xG,Ah,<-HL.out]
    have A4:Hid (av wr w.heap.size 39 (aF ⟨r.aD,⟨some ⟨gh,0,none⟩,c',r.ai.pA,r.ai.pc⟩,r.aa⟩ ⟨t.aD,⟨t.ai.m,t.ai.hs.take d++t.ai.hs.drop (d+1),t.ai.ps⟩,t.aa⟩)):=qh A3.out.eA;have R4:Hid (av wr (w.heap.size+1) 39 (aF cV cL)):=qh R3.out.eA;have M4:Hid (aP B wr ⟨r.aD,⟨some ⟨gh,0,none⟩,c',Ap,cp⟩,r.aa⟩ ⟨t.aD,⟨t.ai.m,t.ai.hs.take d++t.ai.hs.drop (d+1),m⟩,t.aa⟩):=qh (aP.P4 M3.out.up si.out.wide (fm.bW HO.out rfl));have Zm:=A4.out.free 9;have v9':=A4.out.ax.2.2.2.2.2.2.2.2.2.1;have l1:=A4.out.lt;have l2:=R4.out.lt;have s1:aC w.heap.size w wr:=⟨⟨i1.out.1.trans b1.out.1,i1.out.2.1.trans b1.out.2.1,i1.out.2.2.1.trans b1.out.2.2.1,fun b hb=>(i1.out.2.2.2 b (nL hb b2.out)).trans (b1.out.2.2.2 b hb)⟩⟩;have s2:Le w.heap.size wr:=⟨nT b2.out i2.out⟩;have s3:Le B wr:=⟨nT b3.out i2.out⟩;go_upto_region 20 with fail;refine aK fun W5 GW=>?_;have q8:aC w.heap.size w W5:=iC GW;have vD:Le w.heap.size W5:=fR GW;have C8:Le B W5:=fR GW;have A5:Hid (av W5 w.heap.size 39 (aF ⟨r.aD,⟨some ⟨gh,0,none⟩,c',Ap,cp⟩,r.aa⟩ ⟨t.aD,⟨t.ai.m,t.ai.hs.take d++t.ai.hs.drop (d+1),m⟩,t.aa⟩)):=by rw[GW.out];exact qh (A4.out.set 9 _)
    have R5:Hid (av W5 (w.heap.size+1) 39 (aF cV cL)):=by rw[GW.out];exact qh (R4.out.eZ (by show w.heap.size+1≠w.heap.size;omega) _)
    have M5:Hid (aP B W5 ⟨r.aD,⟨some ⟨gh,0,none⟩,c',Ap,cp⟩,r.aa⟩ ⟨t.aD,⟨t.ai.m,t.ai.hs.take d++t.ai.hs.drop (d+1),m⟩,t.aa⟩):=by rw[GW.out];exact qh (M4.out.dP A4.out nU hB.out s3.out _)
    rw[Ch.out] at HE;clear GW A4 R4 M4 A3 R3 M3 Zm v9' v9 HO si Zz;go_wp2_with (first|(refine aj ak rfl _ rfl rfl A5.out rfl ?_)|(refine ah ak rfl _ _ rfl rfl rfl R5.out rfl rfl (aJ _ _) ?_;intro W9 C9 k9));refine QAR ?_;intro p1 p2;refine dQ ak Tryz.results165 rfl C9 rfl ?_;exact p7 HE.out (M5.out.aO k9 R5.out nU (Nat.le_succ_of_le hB.out) C8.out)
end
section
open Hd
def BJ:Wd->Nat
 |.aN=>157
 |.current=>158
 |.fU=>159
 |.ai=>160
 |.lM=>162
 |.dU=>164
 |.eK=>165
 |.part=>166
 |_=>168
theorem BQ{d:Wd}(h:cP d=1):Uf d=.func (.func (BJ d)) #[] #[]:=by cases d<;>first|rfl|exact absurd h nU
theorem G7{d:Wd}(h:cP d=1):∀args w,(callFunc (BJ d) args).run nH w=.ok (.enter (BJ d) args) w:=by cases d<;>first|exact absurd h nU|(intro args w;exact Tryz.enters157 args w)|(intro args w;simp[BJ,go_sem];done)
theorem Zh(c:eH)(hk:cP c.w=1)(hl:c.a.length=rZ c.w)(r:aR)(t:aV)(hv:aG t=true)(A:Option Addr)(cap:Nat)(B:Nat)(w:nJ)(hT:aP B w r t)[hB:Le B w](hS:Sl aH w.heap.size w A cap c.a):Calls nH (BJ c.w) #[aX r t,.slice A c.a.length cap] w (kr B t c w):=by
 obtain⟨d,a⟩:=c;cases d with
 |aN=>exact Rk r t (gL hv) a hl A cap B w hT hS
 |current=>exact Ho r t (gL hv) a hl A cap B w hT hS
 |fU=>exact OA r t (gL hv) a hl A cap B w hT hS
 |ai=>exact Rm r t (gL hv) a hl A cap B w hT hS
 |lM=>exact Rn r t (gL hv) a hl A cap B w hT hS
 |dU=>exact Hl r t (gL hv) a hl A cap B w hT hS
 |eK=>exact Lf r t hv a _ B w hT
 |part=>exact Ro r t (gL hv) a hl A cap B w hT hS
 |fo=>exact Lj r t (gL hv) a hl A cap B w hT hS
 |safe=>exact absurd hk (by show ¬cP .safe=1;decide)
 |fP=>exact absurd hk (by show ¬cP .fP=1;decide)
 |jE=>exact absurd hk (by show ¬cP .jE=1;decide)
 |done=>exact absurd hk (by show ¬cP .done=1;decide)
 |fD=>exact absurd hk (by show ¬cP .fD=1;decide)
 |we=>exact absurd hk (by show ¬cP .we=1;decide)
 |early=>exact absurd hk (by show ¬cP .early=1;decide)
 |mj=>exact absurd hk (by show ¬cP .mj=1;decide)
 |order=>exact absurd hk (by show ¬cP .order=1;decide)
 |pack=>exact absurd hk (by show ¬cP .pack=1;decide)
 |forget=>exact absurd hk (by show ¬cP .forget=1;decide)
end
section
open Hd
theorem av.tX{w W:nJ}{b g:Nat}{T T':TypeId}{cs cs':Array nK}(h:av w b T cs)(k:bw (fun x=>x=g) w W)(hb:av w g T' cs')(hne:T'≠T):av W b T cs:=h.eG k (by
 rintro rfl
 unfold av at h hb
 rw[hb] at h
 injection h with h
 injection h with _ h
 exact hne h)
structure gv(w:nJ)(v:nK)(c:eH):Prop where
 kind:cP c.w=1
 len:c.a.length=rZ c.w
 at_:∃(gc ga:Nat) (A:Option Addr) (cap:Nat),v=.func (.func 108) #[] #[.pointer (some ⟨gc,0,none⟩),.pointer (some ⟨ga,0,none⟩)]/\av w gc 183 #[.int .i64 (rZ c.w:Nat),Uf c.w]/\av w ga 35 #[.slice A c.a.length cap]/\fm 3 aH w.heap.size w A cap c.a
theorem gv.up{w W:nJ}{v:nK}{c:eH}(h:gv w v c)[hg:aC w.heap.size w W][hl:Le w.heap.size W]:gv W v c:=by obtain⟨h1,h2,gc,ga,A,cap,rfl,b1,b2,hS⟩:=h;exact⟨h1,h2,gc,ga,A,cap,rfl,b1.eA,b2.eA,hS.wide⟩
theorem gv.aO{w W:nJ}{v:nK}{c:eH}{g:Nat}{T:TypeId}{cs:Array nK}(h:gv w v c)(k:bw (fun x=>x=g) w W)(hb:av w g T cs)(h1:T≠183)(h2:T≠35)(h3:T≠3):gv W v c:=by obtain⟨k1,k2,gc,ga,A,cap,rfl,b1,b2,hS⟩:=h;exact⟨k1,k2,gc,ga,A,cap,rfl,b1.tX k hb h1,b2.tX k hb h2,hS.aO k hb h3 (nR _)⟩
def qX(B:Nat)(t:aV)(c:eH)(w:nJ)(e:Ending)(w':nJ):Prop:=
 ∃(r':aR) (δ:nJ),e=.returned (.tuple #[aX r' (kf t c),.bool (gZ t c).isSome])/\w'=af w δ/\aP B (af w δ) r' (kf t c)
theorem IB{B:Nat}{r:aR}{t:aV}{c:eH}{w W:nJ}(h:gZ t c=none)[aC w.heap.size w W][Le w.heap.size W](ho:aP B W r t):qX B t c w (.returned (.tuple #[aX r t,.bool false])) W:=by
 have hd:kf t c=t:=by unfold kf;rw[h];rfl
 refine⟨r,W,by rw[hd,h];rfl,aq,?_⟩;rw[<-aq (w:=w),hd];exact ho
theorem Mb{B:Nat}{r:aR}{t o:aV}{c:eH}{w W:nJ}(h:gZ t c=some o)[aC w.heap.size w W][Le w.heap.size W](ho:aP B W r o):qX B t c w (.returned (.tuple #[aX r o,.bool true])) W:=by
 have hd:kf t c=o:=by unfold kf;rw[h];rfl
 refine⟨r,W,by rw[hd,h];rfl,aq,?_⟩;rw[<-aq (w:=w),hd];exact ho
theorem OR(r:aR)(t:aV)(hv:aG t=true)(c:eH)(gc ga:Nat)(A:Option Addr)(cap:Nat)(hk:cP c.w=1)(hl:c.a.length=rZ c.w)(B:Nat)(w:nJ)(hT:aP B w r t)[hB:Le B w](hC:av w gc 183 #[.int .i64 (rZ c.w:Nat),Uf c.w])(hA:av w ga 35 #[.slice A c.a.length cap])(hS:fm 3 aH w.heap.size w A cap c.a):Calls nH 108 #[aX r t,.pointer (some ⟨gc,0,none⟩),.pointer (some ⟨ga,0,none⟩)] w (qX B t c w):=by
 have H:=qh hT;have HS:=qh hS;have hent:=G7 hk;have L1:Hid (∀W:nJ,aP B W r t->Le B W->Sl aH W.heap.size W A cap c.a->Calls nH (BJ c.w) #[aX r t,.slice A c.a.length cap] W (kr B t c W)):=qh fun W h1 h2 h3=>Zh c hk hl r t hv A cap B W h1 h3;unfold kr at L1;rw[BQ hk] at hC;obtain⟨fid,sK⟩:∃f,BJ c.w=f:=⟨_,rfl⟩;rw[sK] at hent L1 hC;have lw:Le w.heap.size w:=⟨nR _⟩;have igc:=hC.lt;have iga:=hA.lt;have y1:=hC.cell (i:=1) (v:=.func (.func fid) #[] #[]) rfl;have y2:=hA.cell (i:=0) (v:=.slice A c.a.length cap) rfl;clear hT hS hC hA hk hl sK;go_enter Tryz.func108,Tryz.ntmps108;go_upto_region 1 with fail;refine QDU ?_;intro W1 aE cz de cN cY dc dX A1 R1 M1;have z1:W1.cell? ⟨gc,1,none⟩=some (.func (.func fid) #[] #[]):=by rw[aE.out];go_simp
 have z2:W1.cell? ⟨ga,0,none⟩=some (.slice A c.a.length cap):=by rw[aE.out];go_simp
 have l1:Lt gc W1:=mb aE;have l2:Lt ga W1:=mb aE;clear aE;cases hc:jF t c with
 |none=>
  rw[hc] at L1
  have HN:=qh (vo hc)
  clear hc
  go_upto_region 2 with(first|(refine aj ak rfl _ rfl rfl A1.out rfl ?_)|(refine(L1.out _ M1.out.up inferInstance (HS.out.wide (w':=W1)).plain).mono ?_;rintro e w1 ⟨r',δ1,rfl,rfl,hm⟩;have HM:=qh hm;clear hm)|(refine ah ak rfl _ _ rfl rfl rfl (av.new (T:=39) rfl) rfl rfl (aJ _ _) ?_;intro W2 T2 k2))
  refine QBR ?_
  intro g1 g2 q1 q2 q3 A2 R2 M2
  have N2:Hid (aP B W2 r' t):=qh ((HM.out.up (W:=(af W1 δ1).alloc _)).aO k2 (av.new rfl) nU g2 (by simpa using Nat.le_succ_of_le g2))
  have T2:=qh T2
  clear k2 A1 R1 M1 HM L1
  go_wp2_with (first|(refine aj ak rfl _ rfl rfl A2.out rfl ?_)|(refine ah ak rfl _ _ rfl rfl rfl R2.out rfl rfl (aJ _ _) ?_;intro W9 C9 k9))
  refine QAR ?_
  intro p1 p2
  refine dQ ak Tryz.results108 rfl C9 rfl ?_
  exact IB HN.out (M2.out.aO k9 R2.out nU (Nat.le_succ_of_le hB.out) q3.out)
 |some o=>
  rw[hc] at L1
  have HE:=qh hc
  clear hc
  go_upto_region 2 with(first|(refine aj ak rfl _ rfl rfl A1.out rfl ?_)|(refine(L1.out _ M1.out.up inferInstance (HS.out.wide (w':=W1)).plain).mono ?_;rintro e w1 ⟨r',δ1,rfl,rfl,hm⟩;have HM:=qh hm;clear hm)|(refine ah ak rfl _ _ rfl rfl rfl (av.new (T:=39) rfl) rfl rfl (aJ _ _) ?_;intro W2 T2 k2))
  refine QBR ?_
  intro g1 g2 q1 q2 q3 A2 R2 M2
  have N2:Hid (aP B W2 r' o):=qh ((HM.out.up (W:=(af W1 δ1).alloc _)).aO k2 (av.new rfl) nU g2 (by simpa using Nat.le_succ_of_le g2))
  have T2:=qh T2
  clear k2 A1 R1 M1 HM L1
  have lW2:Le W2.heap.size W2:=⟨nR _⟩
  rcases ke:aG o with _|_
  ·have HC:Hid (cE (aG o) 120=120):=by unfold Hid;rw[ke];rfl
   have HN:Hid (gZ t c=none):=qh (by rw[qa HE.out,ke];rfl);clear ke;go_upto_region 3 with(first|(refine bI ak nY _ rfl rfl T2.out rfl ?_)|(go_at_call 7;refine(pn r' o W2.heap.size _ N2.out.is.up).mono ?_;rw[HC.out];rintro e w1 ⟨rfl,δ3,rfl⟩));go_wp2_with (first|(refine aj ak rfl _ rfl rfl (A2.out.af δ3) rfl ?_)|(refine ah ak rfl _ _ rfl rfl rfl (R2.out.af δ3) rfl rfl (aJ _ _) ?_;intro W9 C9 k9));refine QAR ?_;intro p1 p2;refine dQ ak Tryz.results108 rfl C9 rfl ?_;exact IB HN.out ((M2.out.up (W:=af W2 δ3)).aO k9 (R2.out.af _) nU (Nat.le_succ_of_le hB.out) (inferInstance:Le B (af W2 δ3)).out)
  ·have HC:Hid (cE (aG o) 120=0):=by unfold Hid;rw[ke];rfl
   have HN:Hid (gZ t c=some o):=qh (by rw[qa HE.out,ke];rfl);clear ke;go_upto_region 4 with(first|(refine bI ak nY _ rfl rfl T2.out rfl ?_)|(go_at_call 7;refine(pn r' o W2.heap.size _ N2.out.is.up).mono ?_;rw[HC.out];rintro e w1 ⟨rfl,δ3,rfl⟩));go_wp2_with (first|(refine aj ak rfl _ rfl rfl (T2.out.af δ3) rfl ?_)|(refine ah ak rfl _ _ rfl rfl rfl (R2.out.af δ3) rfl rfl (aJ _ _) ?_;intro W9 C9 k9));refine QAR ?_;intro p1 p2;refine dQ ak Tryz.results108 rfl C9 rfl ?_;exact Mb HN.out ((N2.out.up (W:=af W2 δ3)).aO k9 (R2.out.af _) nU (Nat.le_succ_of_le hB.out) (inferInstance:Le B (af W2 δ3)).out)
end
section
open Hd
def j9(o:Option eH):Bool:=match o with|some c=>decide (cP c.w=1)|none=>false
def jI(o:Option eH)(w:nJ)(e:Ending)(w':nJ):Prop:=
 ∃(v:nK) (δ:nJ),e=.returned (.tuple #[v,.bool (j9 o)])/\w'=af w δ/\∀c,o=some c->cP c.w=1->gv (af w δ) v c
theorem Mw{o:Option eH}{w W:nJ}(h:j9 o=false)(hl:∃δ,W=af w δ):jI o w (.returned (.tuple #[.nilFunc,.bool false])) W:=by obtain⟨δ,rfl⟩:=hl;refine⟨_,δ,by rw[h],rfl,fun c hc hk=>?_⟩;subst hc;unfold j9 at h;simp[hk] at h
theorem S6{o:Option eH}{c:eH}{v:nK}{w W:nJ}(h:o=some c)(hk:cP c.w=1)[aC w.heap.size w W][Le w.heap.size W](hv:gv W v c):jI o w (.returned (.tuple #[v,.bool true])) W:=by subst h;refine⟨v,W,by simp[j9,hk],aq,fun c' hc hk'=>?_⟩;injection hc with hc;subst hc;refine QDK ?_;exact hv
theorem z8(ws:List bL)(A:Option Addr)(ln cap:Nat)(gG:ws.length=ln)(hl:∀x∈ws,x.length<=1000)(hn:ws.length<=1001)(B:Nat)(w:nJ)(hS:Sl cm B w A cap ws)[hB:Le B w][h8:Le 8 w](hL:cX w):Calls nH 69 #[.slice A ln cap] w (nj (cS ws) w):=by subst gG;exact Kk ws A cap hl hn B w hS hL
theorem Em{ws:List bL}(h:0<ws.length):bJ ws=qn (mh (nth ws 0)) (cS (ws.drop 1)):=by
 cases ws with
 |nil=>exact absurd h (Nat.lt_irrefl _)
 |cons t r=>rfl
theorem pP(ws:List bL)(A:Option Addr)(cap:Nat)(h0:0<ws.length)(hl:∀x∈ws,x.length<=1000)(hn:ws.length<=1001)(B:Nat)(w:nJ)(hS:Sl cm B w A cap ws)[hB:Le B w][h8:Le 8 w](hL:cX w):Calls nH 64 #[.slice A ws.length cap] w (jI (bJ ws) w):=by
 obtain⟨b,o,rfl,hb,e0⟩:=hS.lQ h0;have HS:=qh hS;have HL:=qh hL;have mG:=qh hl;have hcap:ws.length<=cap:=hS.1;refine QFE ?_;intro A2 uo;have zw:Hid (Sl cm B w A2 (cap-1) (ws.drop 1)):=by have:=hS.drop gK 1 nQ;rw[<-uo];exact qh (by simpa [Addr.add_lit] using this)
 refine QBQ ?_;intro Si hn2 Sh Sg QY HD SG X7 ie;unfold nj at ie;have PK:=qh (Em h0);obtain⟨wd,TG⟩:∃x,mh (nth ws 0)=x:=⟨_,rfl⟩;have RO:Hid (∀W:nJ,Calls nH 107 #[.string (str (nth ws 0))] W fun e w'=>e=.returned (.tuple #[.agg #[.int .i64 (UY wd:Nat),UW wd],.bool (VA wd)])/\∃δ,w'=af W δ):=qh fun W=>by rw[<-TG];exact Ib (nth ws 0) W
 obtain⟨t0,ht0⟩:∃x,nth ws 0=x:=⟨_,rfl⟩;rw[ht0] at e0 RO;rw[TG] at PK;have ib:Lt b w:=⟨nL hb hB.out⟩;have e0:w.cell? ⟨b,o,none⟩=some (.string (str t0)):=e0;clear hS hL hl h0 hb TG ht0 hcap;rcases hc:VA wd with _|_
 ·have HN:Hid (j9 (bJ ws)=false):=by
   unfold Hid;rw[PK.out];unfold qn j9;cases wd with
   |none=>rfl
   |some d=>
    cases cS (ws.drop 1) with
    |none=>rfl
    |some a=>
     have hc:decide (cP d=1)=false:=hc
     by_cases ha:a.length=rZ d
     ·simp only[Option.bind_some,if_pos ha];exact hc
     ·simp only[Option.bind_some,if_neg ha]
  have hd:UW wd=.nilFunc:=by
   cases wd with
   |none=>rfl
   |some d=>cases d<;>first|rfl|(exact absurd hc nU)
  rw[hc,hd] at RO;clear hc hd;go_enter Tryz.func64,Tryz.ntmps64;go_wp2_with (first|(go_at_call 107;refine(RO.out _).mono ?_;rintro e w1 ⟨rfl,δ1,rfl⟩)|(go_at_call 69;refine(ie.out _ inferInstance inferInstance inferInstance HL.out.up).mono ?_;rintro e w1 ⟨A3,c3,δ2,rfl,rfl,_⟩));go_ret2;exact Mw HN.out ag
 ·obtain⟨d,rfl⟩:∃d,wd=some d:=by
   cases wd with
   |none=>exact absurd hc nU
   |some d=>exact⟨d,rfl⟩
  have hk:cP d=1:=of_decide_eq_true hc;have hd:UW (some d)=.func (.func (BJ d)) #[] #[]:=BQ hk;have HK:=qh hk;have ha:UY (some d)=rZ d:=by unfold UY;simp[hk]
  rw[hc,hd,ha] at RO;obtain⟨fid,sK⟩:∃f,BJ d=f:=⟨_,rfl⟩;have ZS:Hid (Uf d=.func (.func fid) #[] #[]):=qh (by rw[<-sK];exact BQ hk);rw[sK] at RO;obtain⟨ar,har⟩:∃f,rZ d=f:=⟨_,rfl⟩;rw[har] at RO;have Va:=qh har;clear hc hk hd ha sK har;cases ho:cS (ws.drop 1) with
  |none=>
   have HN:Hid (j9 (bJ ws)=false):=by unfold Hid;rw[PK.out,ho];rfl
   rw[ho] at ie
   clear ho
   go_enter Tryz.func64,Tryz.ntmps64
   go_wp2_with (first|(go_at_call 107;refine(RO.out _).mono ?_;rintro e w1 ⟨rfl,δ1,rfl⟩)|(go_at_call 69;refine(ie.out _ inferInstance inferInstance inferInstance HL.out.up).mono ?_;rintro e w1 ⟨A3,c3,δ2,rfl,rfl,_⟩))
   go_ret2
   exact Mw HN.out ag
  |some a=>
   rw[ho] at ie
   by_cases hal:a.length=ar
   ·have HC:Hid (bJ ws=some ⟨d,a⟩):=by unfold Hid;rw[PK.out,ho];unfold qn;simp only[Option.bind_some,if_pos (hal.trans Va.out.symm)]
    have YN:((a.length:Int) != (ar:Int))=false:=by simp[hal]
    have HAL:=qh hal;clear ho hal;go_enter Tryz.func64,Tryz.ntmps64;go_wp2_with (first|(go_at_call 107;refine(RO.out _).mono ?_;rintro e w1 ⟨rfl,δ1,rfl⟩)|(go_at_call 69;refine(ie.out _ inferInstance inferInstance inferInstance HL.out.up).mono ?_;rintro e w1 ⟨A3,c3,δ2,rfl,rfl,ya⟩;have si:=qh ya;clear ya));go_ret2;refine S6 HC.out HK.out ⟨HK.out,HAL.out.trans Va.out.symm,_,_,A3,c3,rfl,?_,?_,?_⟩
    ·show av _ _ _ #[.int .i64 (rZ d:Nat),Uf d];rw[ZS.out,Va.out];exact((av.new rfl).af _).alloc _
    ·exact av.new rfl
    ·exact si.out.wide
   ·have HN:Hid (j9 (bJ ws)=false):=by unfold Hid;rw[PK.out,ho];unfold qn;simp only[Option.bind_some,if_neg (fun e:a.length=rZ d=>hal (e.trans Va.out))];rfl
    have YN:((a.length:Int) != (ar:Int))=true:=by simp;omega
    clear ho hal;go_enter Tryz.func64,Tryz.ntmps64;go_wp2_with (first|(go_at_call 107;refine(RO.out _).mono ?_;rintro e w1 ⟨rfl,δ1,rfl⟩)|(go_at_call 69;refine(ie.out _ inferInstance inferInstance inferInstance HL.out.up).mono ?_;rintro e w1 ⟨A3,c3,δ2,rfl,rfl,_⟩));go_ret2;exact Mw HN.out ag
end
section
open Hd
theorem bw.past{S:Nat->Prop}{A X W:nJ}{g:Nat}(h:bw S A X)(k:bw (fun x=>x=g) X W)(hg:A.heap.size<=g):bw S A W:=
 ⟨nT h.size k.size,k.os.trans h.os,k.tape.trans h.tape,k.output.trans h.output,fun b hb hs=>(k.block b (nL hb h.size) (by rintro rfl;omega)).trans (h.block b hb hs)⟩
structure yT(B D:Nat)(W:nJ)(k:cH)(d:cU):Prop where
 box:av W D 65 (bX k d)
 ax:aP B W k.ax d.ax
 low:B<=D
theorem yT.lt{B D:Nat}{W:nJ}{k:cH}{d:cU}(h:yT B D W k d):D<W.heap.size:=h.box.rO
theorem SN(k:cH)(d:cU)(hv:aG d.ax=true)(c:eH)(v:nK)(B D:Nat)(w:nJ)(hD:yT B D w k d)(hC:gv w v c):Calls nH 66 #[.pointer (some ⟨D,0,none⟩),v] w fun e w'=>∃r':aR,e=.returned (.bool (gZ d.ax c).isSome)/\yT B D w' ⟨r',k.oA,k.oc⟩ ⟨kf d.ax c,d.aB,d.given⟩/\bw (fun x=>x=D) w w':=by obtain⟨h1,h2,gc,ga,A,cap,rfl,b1,b2,hS⟩:=hC;have hB:Le B w:=⟨nT hD.low (nS hD.lt)⟩;have HC:Hid (Calls nH 108 #[aX k.ax d.ax,.pointer (some ⟨gc,0,none⟩),.pointer (some ⟨ga,0,none⟩)] w (qX B d.ax c w)):=qh (OR k.ax d.ax hv c gc ga A cap h1 h2 B w hD.ax b1 b2 hS);unfold qX at HC;refine QDR ?_;intro td Aj bb gH;rw[Aj,gH] at HC;rw[Aj,gH];have HD:=qh hD;have D1:=qh hD.box;have lD:=hD.box.lt;clear h1 h2 b1 b2 hS Aj gH hD;go_enter Tryz.func66,Tryz.ntmps66;go_upto_region 2 with(first|(refine bY (cs':=aF k.ax d.ax) ak rfl _ rfl rfl D1.out (eo k d) rfl ?_)|(go_at_call 108;refine HC.out.mono ?_;rintro e w1 ⟨r',δ1,rfl,rfl,hm⟩;have HM:=qh hm;clear hm)|(refine ah ak rfl _ _ rfl rfl rfl (av.new (T:=39) rfl) rfl rfl (aJ _ _) ?_;intro W2 T2 k2));have g1:w.heap.size<=(af w δ1).heap.size:=(inferInstance:Le w.heap.size (af w δ1)).out;have D2:Hid (av W2 D 65 (bX k d)):=qh (((D1.out.af _).alloc _).eG k2 (Nat.ne_of_lt (nL lD.out g1)));have M2:Hid (aP B W2 r' td):=qh ((HM.out.up (W:=(af w δ1).alloc _)).aO k2 (av.new rfl) nU (nT hB.out g1) (by simpa using Nat.le_succ_of_le (nT hB.out g1)));have K2:Hid (bw (fun x=>x=D) w W2):=qh (((bw.af _ w δ1).alloc _).past k2 g1);have lB2:Hid (B<=W2.heap.size):=qh (nT hB.out (K2.out.size));have T2:=qh T2;clear k2 HM D1;go_upto_region 3 with(first|(refine aj ak rfl _ rfl rfl T2.out rfl ?_)|(refine lJ ak rfl _ _ rfl rfl rfl D2.out rfl (yq k d) (aJ _ _) (yp k d r' td) ?_;intro W4 D4 k4));have M4:Hid (aP B W4 r' td):=qh (M2.out.aO k4 D2.out nU HD.out.low lB2.out);have K4:Hid (bw (fun x=>x=D) w W4):=qh (K2.out.trans k4);have D4:=qh D4;clear k4 M2 D2 T2 K2;go_wp2_with fail;go_ret;exact⟨r',rfl,⟨D4.out,M4.out,HD.out.low⟩,K4.out⟩
end
section
open Hd
theorem PU{t:aV}(hv:An.valid t.aD=true)(a:List Int):eR t ⟨.fP,a⟩=(rQ (An.valid t.aD) (bM (pX t.aD) 21 0),rR (An.valid t.aD) (bM (pX t.aD) 21 0)):=by rw[CE hv a,Cp hv]
theorem Ta(r:aR)(t:aV)(hv:aG t=true)(a:List Int)(B:Nat)(w:nJ)(hT:aI B w r t)[hB:Le B w]:Calls nH 111 #[aX r t] w (dV (eR t ⟨.safe,a⟩) w):=by
 obtain⟨v1,v2,v3⟩:=cq.1 hv;refine QCC ?_;intro V1 V2 V3 H;have HE:Hid (eR t ⟨.safe,a⟩=(An.vw t.aD,cE (An.valid t.aD) 20)):=by unfold Hid;rw[CP v1,v1];rfl
 clear hv v1 v2 v3 hT;go_enter Tryz.func111,Tryz.ntmps111;go_upto_region 1 with fail;refine QAW ?_;intro W1 aE cz de cN cY dc b1;obtain⟨x0,x1,x2,x3,x4,x5,x6,x7,x8,x9,wm,wk,sW,wj⟩:=b1.ax;clear aE b1;go_wp2_with (go_at_call 112;refine(SW r.aD t.aD B _ H.out.1.up).mono ?_;rintro e w1 ⟨rfl,δ1,rfl⟩);go_ret2;exact⟨by rw[HE.out];rfl,ag⟩
theorem Qg(r:aR)(t:aV)(hv:aG t=true)(a:List Int)(B:Nat)(w:nJ)(hT:aI B w r t)[hB:Le B w]:Calls nH 113 #[aX r t] w (dV (eR t ⟨.fP,a⟩) w):=by obtain⟨v1,v2,v3⟩:=cq.1 hv;refine QCC ?_;intro V1 V2 V3 H;have HE:Hid (eR t ⟨.fP,a⟩=(rQ (An.valid t.aD) (bM (pX t.aD) 21 0),rR (An.valid t.aD) (bM (pX t.aD) 21 0))):=PU v1 a;clear hv v1 v2 v3 hT;go_enter Tryz.func113,Tryz.ntmps113;go_upto_region 1 with fail;refine QAW ?_;intro W1 aE cz de cN cY dc b1;obtain⟨x0,x1,x2,x3,x4,x5,x6,x7,x8,x9,wm,wk,sW,wj⟩:=b1.ax;clear aE b1;go_wp2_with (go_at_call 114;refine(SM r.aD t.aD B _ H.out.1.up).mono ?_;rintro e w1 ⟨rfl,δ1,rfl⟩);go_ret2;exact⟨by rw[HE.out];rfl,ag⟩
theorem Te(r:aR)(t:aV)(hv:aG t=true)(a:List Int)(B:Nat)(w:nJ)(hT:aI B w r t)[hB:Le B w]:Calls nH 115 #[aX r t] w (dV (eR t ⟨.jE,a⟩) w):=by obtain⟨v1,v2,v3⟩:=cq.1 hv;refine QCC ?_;intro V1 V2 V3 H;have HE:Hid (eR t ⟨.jE,a⟩=(Me.dK t.ai,0)):=rfl;clear hv v1 v2 v3 hT;go_enter Tryz.func115,Tryz.ntmps115;go_upto_region 1 with fail;refine QAW ?_;intro W1 aE cz de cN cY dc b1;obtain⟨x0,x1,x2,x3,x4,x5,x6,x7,x8,x9,wm,wk,sW,wj⟩:=b1.ax;clear aE b1;go_wp2_with (go_at_call 116;refine(GB r.ai t.ai V2.out B _ H.out.2.1.up).mono ?_;rintro e w1 ⟨rfl,δ1,rfl⟩);go_ret2;exact⟨by rw[HE.out];rfl,ag⟩
theorem Tf(r:aR)(t:aV)(hv:aG t=true)(a:List Int)(B:Nat)(w:nJ)(hT:aI B w r t)[hB:Le B w]:Calls nH 117 #[aX r t] w (dV (eR t ⟨.done,a⟩) w):=by obtain⟨v1,v2,v3⟩:=cq.1 hv;refine QCC ?_;intro V1 V2 V3 H;have HE:Hid (eR t ⟨.done,a⟩=(Me.qS t.ai,0)):=rfl;clear hv v1 v2 v3 hT;go_enter Tryz.func117,Tryz.ntmps117;go_upto_region 1 with fail;refine QAW ?_;intro W1 aE cz de cN cY dc b1;obtain⟨x0,x1,x2,x3,x4,x5,x6,x7,x8,x9,wm,wk,sW,wj⟩:=b1.ax;clear aE b1;go_wp2_with (go_at_call 118;refine(Ld r.ai t.ai V2.out B _ H.out.2.1.up).mono ?_;rintro e w1 ⟨rfl,δ1,rfl⟩);go_ret2;exact⟨by rw[HE.out];rfl,ag⟩
theorem S9(r:aR)(t:aV)(hv:aG t=true)(a:List Int)(B:Nat)(w:nJ)(hT:aI B w r t)[hB:Le B w]:Calls nH 119 #[aX r t] w (dV (eR t ⟨.fD,a⟩) w):=by obtain⟨v1,v2,v3⟩:=cq.1 hv;refine QCC ?_;intro V1 V2 V3 H;have HE:Hid (eR t ⟨.fD,a⟩=nC t.aa):=rfl;clear hv v1 v2 v3 hT;go_enter Tryz.func119,Tryz.ntmps119;go_upto_region 1 with fail;refine QAW ?_;intro W1 aE cz de cN cY dc b1;obtain⟨x0,x1,x2,x3,x4,x5,x6,x7,x8,x9,wm,wk,sW,wj⟩:=b1.ax;clear aE b1;go_wp2_with (go_at_call 120;refine(Mo r.aa t.aa V3.out B _ H.out.2.2.up).mono ?_;rintro e w1 ⟨rfl,δ1,rfl⟩);go_ret2;exact⟨by rw[HE.out];rfl,ag⟩
theorem Vk(r:aR)(t:aV)(hv:aG t=true)(a:List Int)(B:Nat)(w:nJ)(hT:aI B w r t)[hB:Le B w]:Calls nH 121 #[aX r t] w (dV (eR t ⟨.we,a⟩) w):=by obtain⟨v1,v2,v3⟩:=cq.1 hv;refine QCC ?_;intro V1 V2 V3 H;have HE:Hid (eR t ⟨.we,a⟩=(Sa.qc t.aa,Sa.rP t.aa)):=rfl;clear hv v1 v2 v3 hT;go_enter Tryz.func121,Tryz.ntmps121;go_upto_region 1 with fail;refine QAW ?_;intro W1 aE cz de cN cY dc b1;obtain⟨x0,x1,x2,x3,x4,x5,x6,x7,x8,x9,wm,wk,sW,wj⟩:=b1.ax;clear aE b1;go_wp2_with (go_at_call 122;refine(SZ r.aa t.aa V3.out B _ H.out.2.2.up).mono ?_;rintro e w1 ⟨rfl,δ1,rfl⟩);go_ret2;exact⟨by rw[HE.out];rfl,ag⟩
theorem Tc(r:aR)(t:aV)(hv:aG t=true)(a:List Int)(B:Nat)(w:nJ)(hT:aI B w r t)[hB:Le B w]:Calls nH 123 #[aX r t] w (kO (pU t ⟨.mj,a⟩) w):=by obtain⟨v1,v2,v3⟩:=cq.1 hv;refine QCC ?_;intro V1 V2 V3 H;clear hv v1 v2 v3 hT;go_enter Tryz.func123,Tryz.ntmps123;go_upto_region 1 with fail;refine QAW ?_;intro W1 aE cz de cN cY dc b1;obtain⟨x0,x1,x2,x3,x4,x5,x6,x7,x8,x9,wm,wk,sW,wj⟩:=b1.ax;clear aE b1;go_wp2_with (go_at_call 124;refine(Tp r.aD t.aD B _ H.out.1.up).mono ?_;rintro e w1 ⟨A1,c1,δ1,rfl,rfl,hs⟩;have HS:=qh hs;clear hs);go_ret2;refine⟨A1,_,c1,_,rfl,rfl,aq,?_⟩;refine QDK ?_;exact HS.out
theorem Qh(r:aR)(t:aV)(hv:aG t=true)(a:List Int)(B:Nat)(w:nJ)(hT:aI B w r t)[hB:Le B w]:Calls nH 125 #[aX r t] w (kO (pU t ⟨.order,a⟩) w):=by obtain⟨v1,v2,v3⟩:=cq.1 hv;refine QCC ?_;intro V1 V2 V3 H;have HOL:Hid ((Me.fQ t.ai).length=t.ai.hs.length):=qh (Me.iV (Me.gT (Me.az.1 v2).2.2.2.2.2));clear hv v1 v2 v3 hT;go_enter Tryz.func125,Tryz.ntmps125;go_upto_region 1 with fail;refine QAW ?_;intro W1 aE cz de cN cY dc b1;obtain⟨x0,x1,x2,x3,x4,x5,x6,x7,x8,x9,wm,wk,sW,wj⟩:=b1.ax;clear aE b1;go_wp2_with (go_at_call 126;refine(sF r.ai t.ai V2.out B _ H.out.2.1.up).mono ?_;rintro e w1 ⟨A1,c1,δ1,rfl,rfl,HS⟩);go_ret2;refine⟨A1,_,c1,_,rfl,HOL.out.symm,aq,?_⟩;refine QDK ?_;exact HS.out
theorem Tb(r:aR)(t:aV)(hv:aG t=true)(a:List Int)(B:Nat)(w:nJ)(hT:aI B w r t)[hB:Le B w]:Calls nH 127 #[aX r t] w (kO (pU t ⟨.pack,a⟩) w):=by obtain⟨v1,v2,v3⟩:=cq.1 hv;refine QCC ?_;intro V1 V2 V3 H;clear hv v1 v2 v3 hT;go_enter Tryz.func127,Tryz.ntmps127;go_upto_region 1 with fail;refine QAW ?_;intro W1 aE cz de cN cY dc b1;obtain⟨x0,x1,x2,x3,x4,x5,x6,x7,x8,x9,wm,wk,sW,wj⟩:=b1.ax;clear aE b1;go_wp2_with (go_at_call 128;refine(P6 r.aa t.aa V3.out B _ H.out.2.2.up).mono ?_;rintro e w1 ⟨A1,m1,c1,rfl,hm,hs,δ1,rfl⟩;have HS:=qh hs;have HM:=qh hm;clear hs hm);go_ret2;refine⟨A1,_,c1,_,rfl,HM.out,aq,?_⟩;refine QDK ?_;exact HS.out
theorem IS(r:aR)(t:aV)(hv:aG t=true)(d:Int)(ga:Nat)(A:Option Addr)(cap:Nat)(B:Nat)(w:nJ)(hT:aI B w r t)[hB:Le B w](hA:av w ga 35 #[.slice A 1 cap])(hS:Sl aH w.heap.size w A cap [d]):Calls nH 109 #[aX r t,.pointer (some ⟨ga,0,none⟩)] w (dV (eR t ⟨.early,[d]⟩) w):=by
 obtain⟨v1,v2,v3⟩:=cq.1 hv;have V3:=qh v3;have H:=qh hT;have HE:Hid (eR t ⟨.early,[d]⟩=jj t.aa d):=rfl;obtain⟨bb,oo,rfl,gH,dd⟩:=hS.int (k:=0) nV;have dd:w.cell? ⟨bb,oo,none⟩=some (.int .i64 d):=dd;have ib:Lt bb w:=⟨gH⟩;have ig:=hA.lt;have y0:=hA.cell (i:=0) (v:=.slice (some ⟨bb,oo,none⟩) 1 cap) rfl;clear hv v1 v2 v3 hT hA hS gH;go_enter Tryz.func109,Tryz.ntmps109;go_upto_region 1 with fail;refine QAW ?_;intro W1 aE cz de cN cY dc b1;obtain⟨x0,x1,x2,x3,x4,x5,x6,x7,x8,x9,wm,wk,sW,wj⟩:=b1.ax;have y1:W1.cell? ⟨ga,0,none⟩=some (.slice (some ⟨bb,oo,none⟩) 1 cap):=by rw[aE.out];go_simp
 have y2:W1.cell? ⟨bb,oo,none⟩=some (.int .i64 d):=by rw[aE.out];go_simp
 have ib1:Lt bb W1:=mb aE;have ig1:Lt ga W1:=mb aE;clear aE b1;refine wpRl ?_;repeat (go_big_quiet_step ((first|(go_at_call 110;exact Calls.bU (Mp r.aa t.aa V3.out d B _ H.out.2.2.up)))))
 refine QBY ?_;rintro _ ⟨δq,rfl⟩;go_wp2_with fail;go_ret2;exact⟨by rw[HE.out];rfl,ag⟩
end
end Go.Proofs.YtcjjlikhlmfedaaGreatDoor
