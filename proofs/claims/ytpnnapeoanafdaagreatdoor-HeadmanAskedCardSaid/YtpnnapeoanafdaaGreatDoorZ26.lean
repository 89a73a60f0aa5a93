/- A part of the proof that a law of layer 12 holds, cut small by a program (names and blanks): Hp7, Hp8, Hp9, Hp10, Hp11, Hp12, Hp13. -/
import Derived.Lib.SliceRun
import Derived.Test.YtpnnapeoanafdaaGreatDoorZ25
set_option maxRecDepth 100000
set_option maxHeartbeats 40000000
set_option linter.unusedVariables false
set_option linter.unusedSimpArgs false
namespace Go.Proofs.YtpnnapeoanafdaaGreatDoor
open Go.RowKit
open Nat renaming le_trans → nT, lt_of_lt_of_le → nL, le_refl → nR, zero_le → nE, le_of_lt → nS, le_succ → nF
open Go.Proofs.Tryz renaming prog → nH
open Go renaming World → nJ, Value → nK
section
open Hd
section
variable{w:nJ}{g:Nat}{T:TypeId}{cs:Array nK}
theorem Bg{base n c size:Nat}{xs:List nK}(h:w.ownsRow base T size (.slice (some ⟨g,0,none⟩) n c) n xs):∃cs,ay w g T cs/\base<=g/\n<=c/\c<=maxLen/\cs.size=c*size/\cs.toList.take (n*size)=xs:=by
 rcases h.2 with⟨hv,_⟩|⟨g',cap',cur,hv,h1,h2,h3,h4,h5,h6⟩
 ·cases hv
 ·injection hv with hA _ hc;injection hA with hA;injection hA with hg;subst hg hc;exact⟨cur,h2,h1,h3,h4,h5,h6⟩
theorem zL{base n c size:Nat}{xs:List nK}(h:ay w g T cs)(h1:base<=g)(h2:n<=c)(h3:c<=maxLen)(h4:cs.size=c*size)(h5:cs.toList.take (n*size)=xs)(h6:xs.length=n*size):w.ownsRow base T size (.slice (some ⟨g,0,none⟩) n c) n xs:=
 ⟨h6,.inr ⟨g,c,cs,rfl,h1,h,h2,h3,h4,h5⟩⟩
theorem tB{b:Nat}(vs:List nK):∀ {w:nJ} {o:Nat},b<=g->Below b w (w.setCells g o vs):=by
 induction vs with
 |nil=>intro w o h;exact Below.refl _ _
 |cons v vs ih=>intro w o h;exact(Below.setCell (Below.refl _ w) (p:=⟨g,o,none⟩) h v).trans (ih h)
end
theorem pG{P:Program}{ops:Array Oper}{o:Oper}{a:Act}{w:nJ}{K:Act->nJ->Prop}{Q:Exit->Act->nJ->Prop}{E:Prop}(hg:o.guard=none)(s x:Operand)(t:TypeId)(hop:o.op=Op.call { callee:=Callee.builtin Builtin.append,args:=#[s,x],argTypes:=#[t,t] })(e:TypeId)(i:TypeInfo)(size:Nat)(h1:P.underlying t=some (.slice e))(h2:P.info? e=some i)(h4:i.size=size)(b off n cap:Nat)(hs:a.eval s=.slice (some ⟨b,off,none⟩) n cap)(ad:Addr)(m c:Nat)(news:List nK)(hx:a.eval x=.slice (some ad) m c)(hn:news.length=m*size)(hc:∀j u,news[j]?=some u->w.cell? (ad.add j)=some u)(h1c:∀u∈news,u.oneCell'=true)(hroom:n+m<=cap)(hspare:∀j,j<news.length->(w.cell? ⟨b,off+n*size+j,none⟩).isSome=true/\w.frozen? ⟨b,off+n*size+j,none⟩=false)(r:Nat)(hr:n+m=r)(W':nJ)(hW:w.setCells b (off+n*size) news=W')(hK:K (a.put o.dst (.slice (some ⟨b,off,none⟩) r cap)) W'):if Region.wanted o (yielded ops a.tmps)=true then Oper.wp P o a w K Q else E:=by subst hr hW;exact step_append_room hg s x t hop e i size h1 h2 h4 b off n cap hs ad m c news hx hn hc h1c hroom hspare hK
theorem LG(w:nJ)(ty:TypeId)(g o c:Nat)(h0:∀j,j<4->(w.cell? ⟨g,o+j,none⟩).isSome=true)(f0:∀j,j<4->w.frozen? ⟨g,o+j,none⟩=false):(Builtin.clear_ #[29] ty #[.slice (some ⟨g,o,none⟩) 1 c]).run nH w=.ok (.tuple #[]) (w.setCells g o [.int .i64 0,.int .i64 0,.int .i64 0,.int .i64 0]):=by
 obtain⟨i,hu,hi,hz,_⟩:=JO;have hv:∀w,(zeroValue 150).run nH w=.ok (.agg #[.int .i64 0,.int .i64 0,.int .i64 0,.int .i64 0]) w:=fun w=>by kernel_rfl
 have hst:=run_storeCells_cells (P:=nH) g o [.int .i64 0,.int .i64 0,.int .i64 0,.int .i64 0] 0 w (by
  intro j hj
  simpa using h0 j (by simpa using hj)) (by
  intro j hj
  simpa using f0 j (by simpa using hj)) (by intro v hv;simp at hv;(repeat' rcases hv with rfl|hv)<;>first|rfl|(subst hv;rfl))
 have hzc:(Builtin.zeroCells (Value.agg #[.int .i64 0,.int .i64 0,.int .i64 0,.int .i64 0]).cells 1).toList=[.int .i64 0,.int .i64 0,.int .i64 0,.int .i64 0]:=by kernel_rfl
 simp only[Nat.add_zero] at hst;simp[Builtin.clear_,run_underlying hu,hv,hzc,hst]
theorem PO(W1:nJ)(g c i k:Nat)(ps:List Me.kr)(w:nJ)[hW:Le W1.heap.size w](h:w.ownsRow W1.heap.size 150 4 (.slice (some ⟨g,0,none⟩) (k+1) c) (k+1) (ps.flatMap bE))(hl:ps.length=k+1)(hi:i<=k)(hk:k<=100):Calls nH 263 #[.slice (some ⟨g,0,none⟩) (k+1) c,.int .i64 i,.int .i64 ((i:Int)+1)] w fun e w'=>e=.returned (.slice (some ⟨g,0,none⟩) k c)/\∃δ,w'=ez W1.heap.size w δ/\w'.ownsRow W1.heap.size 150 4 (.slice (some ⟨g,0,none⟩) k c) k ((ps.take i++ps.drop (i+1)).flatMap bE):=by
 obtain⟨cs,jm,Sy,hnc,MV,hsz,hcs⟩:=Bg h;obtain⟨ti,hu,VK,hz,hts,_⟩:=JO;have adv:c<=9223372036854775807:=MV;have hlen:(ps.flatMap bE).length=(k+1)*4:=by rw[cm bE 4 (fun _=>rfl),hl]
 obtain⟨news,hnews⟩:∃news,news=(ps.drop (i+1)).flatMap bE:=⟨_,rfl⟩;have zb:news.length=(k-i)*4:=by rw[hnews,cm bE 4 (fun _=>rfl),List.length_drop,hl];omega
 have hcell:∀j v,(ps.flatMap bE)[j]?=some v->w.cell? ⟨g,j,none⟩=some v:=fun j v hj=>by
  refine jm.cell ?_;rw[<-hcs,List.getElem?_take] at hj;split at hj
  ·simpa using hj
  ·cases hj
 have hall:∀j,j<(k+1)*4->(w.cell? ⟨g,j,none⟩).isSome=true:=fun j hj=>by
  have:j<(ps.flatMap bE).length:=by rw[hlen];exact hj
  rw[hcell j _ (List.getElem?_eq_getElem this)];rfl
 have hsplit:ps.flatMap bE=(ps.take (i+1)).flatMap bE++news:=by rw[hnews,<-List.flatMap_append,List.take_append_drop]
 have Jb:((ps.take (i+1)).flatMap bE).length=(i+1)*4:=by rw[cm bE 4 (fun _=>rfl),List.length_take,hl,Nat.min_eq_left nQ]
 obtain⟨A,hA,hsrc⟩:∃A:Addr,(if c=i+1 then some (⟨g,0,none⟩:Addr) else some ⟨g,(i+1)*4,none⟩)=some A/\Hid (∀t u,news[t]?=some u->w.drew.cell? (A.add t)=some u):=by
  by_cases hc:c=i+1
  ·refine⟨⟨g,0,none⟩,by simp[hc],fun t u hu=>?_⟩;have h0:news.length=0:=by rw[zb];omega
   rw[List.length_eq_zero_iff.1 h0] at hu;simp at hu
  ·refine⟨⟨g,(i+1)*4,none⟩,by simp[hc],fun t u hu=>?_⟩;rw[Addr.add_lit];show w.cell? _=_;refine hcell _ _ ?_;rw[hsplit,List.getElem?_append_right (by rw[Jb];omega),Jb,Nat.add_sub_cancel_left];exact hu
 have s2:Hid (∀u∈news,u.oneCell'=true):=by rw[hnews];exact dX bE qA _
 have s3:Hid (∀t,t<news.length->(w.drew.cell? ⟨g,0+i*4+t,none⟩).isSome=true/\w.drew.frozen? ⟨g,0+i*4+t,none⟩=false):=fun t ht=>by rw[zb] at ht;exact⟨hall _ nQ,jm.free _⟩
 obtain⟨cs1,kS,hz1,ht1⟩:=ay.qu news (0+i*4) (show ay w.drew g _ cs from jm.drew) (by rw[zb,hsz];omega);obtain⟨W2,eJ⟩:∃W2,w.drew.setCells g (0+i*4) news=W2:=⟨_,rfl⟩;rw[eJ] at kS;have Su:∀j,j<(k+1)*4->(W2.cell? ⟨g,j,none⟩).isSome=true:=fun j hj=>by
  have:j<cs1.size:=by rw[hz1,hsz];omega
  rw[kS.cell (i:=j) (Array.getElem?_eq_getElem this)];rfl
 have hcl:∀ty,(Builtin.clear_ #[29] ty #[.slice (some ⟨g,k*4,none⟩) 1 (c-k)]).run nH W2=.ok (.tuple #[]) (W2.setCells g (k*4) [.int .i64 0,.int .i64 0,.int .i64 0,.int .i64 0]):=fun ty=>
  LG W2 ty g (k*4) (c-k) (fun j hj=>Su _ nQ) (fun j hj=>kS.free _)
 obtain⟨cs2,fX,uq,ht2⟩:=ay.qu [.int .i64 0,.int .i64 0,.int .i64 0,.int .i64 0] (k*4) kS (by rw[hz1,hsz];simp only[List.length_cons,List.length_nil];omega);have bR:Below W1.heap.size w (W2.setCells g (k*4) [.int .i64 0,.int .i64 0,.int .i64 0,.int .i64 0]):=by rw[<-eJ];exact((Below.drew (Below.refl _ w)).trans (tB news Sy)).trans (tB _ Sy)
 have VN:(W2.setCells g (k*4) [.int .i64 0,.int .i64 0,.int .i64 0,.int .i64 0]).ownsRow W1.heap.size 150 4 (.slice (some ⟨g,0,none⟩) k c) k ((ps.take i++ps.drop (i+1)).flatMap bE):=by
  have e1:(ps.take i).flatMap bE=cs.toList.take (i*4):=by
   have:=congrArg (List.take (i*4)) hcs;rw[List.take_take,Nat.min_eq_left nQ] at this;rw[this];have e:ps.flatMap bE=(ps.take i).flatMap bE++(ps.drop i).flatMap bE:=by rw[<-List.flatMap_append,List.take_append_drop]
   rw[e,List.take_left' (by rw[cm bE 4 (fun _=>rfl),List.length_take,hl,Nat.min_eq_left nQ])]
  have hcl:cs.toList.length=c*4:=by rw[Array.length_toList,hsz]
  have e2:((ps.take i++ps.drop (i+1)).flatMap bE)=cs.toList.take (i*4)++news:=by rw[List.flatMap_append,e1,hnews]
  refine zL fX Sy nQ MV (by rw[uq,hz1,hsz]) ?_ ?_
  ·rw[ht2,ht1,e2];have l1:(cs.toList.take (0+i*4)++news).length=k*4:=by rw[List.length_append,List.length_take,hcl,zb];omega
   rw[List.append_assoc,List.take_append_of_le_length (by rw[List.length_take,List.length_append,l1];omega),List.take_take,Nat.min_self,List.take_left' l1,Nat.zero_add]
  ·rw[e2,List.length_append,List.length_take,hcl,zb];omega
 refine QCZ ?_;intro W2' HF HB HU HI HT HNL f1 f2 f3 f4 f5 f6 f7 f8 f9;clear h hl jm hcs hlen hnews hcell hall hsplit Jb kS ht1 hz1 Su fX uq ht2 bR VN hu VK hz hts zb eJ MV hsz;go_enter Tryz.func263,Tryz.ntmps263;go_wp2_with fail;go_region_law (refine pG rfl (.tmp 22) (.tmp 25) 29 rfl 150 ti 4 HU.out HI.out HT.out g 0 i c (by simp[Act.eval,Act.put]) A (k-i) (c-(i+1)) news (by simp[Act.eval,Act.put]) HNL.out hsrc.out s2.out nQ s3.out k nQ W2 W2'.out ?_);go_wp2;go_ret;exact⟨rfl,_,(za HB.out).symm,HF.out⟩
theorem PX(A:Option Addr)(c:Nat)(xs:List An.Sp)(ln:Nat)(hn:xs.length=ln)(B:Nat)(w:nJ)[hB:Le B w](h:Sl gY B w A c xs)(q:ln<=1000):Calls nH 139 #[.slice A ln c] w fun e w'=>∃(A':Option Addr) (c':Nat) (δ:nJ),e=.returned (.slice A' ln c')/\w'=ah w δ/\(ah w δ).ownsRow w.heap.size 23 2 (.slice A' ln c') ln (xs.flatMap gY):=by
 subst hn;have H:=qh h;clear h;have XU:∀(w:nJ) (a:Option Addr) (n c n' c':Nat),(binOp .eql 24 (.slice a n c) (.slice none n' c')).run nH w=.ok (.bool a.isNone) w:=fun w a n c n' c'=>Lib.run_eql_slice_nil w _ _ a n c n' c' Tryz.underlying24;cases A with
 |none=>
  have hx:xs=[]:=by
   have h2:=H.out.2.2;by_cases hx:xs=[]
   ·exact hx
   ·obtain⟨_,_,he,_⟩:=h2 (by
     obtain⟨y,ys,rfl⟩:=List.exists_cons_of_ne_nil hx
     simp[gY])
    cases he
  subst hx
  go_enter Tryz.func139,Tryz.ntmps139
  go_wp2_with fail
  go_ret
  exact⟨none,0,_,rfl,ai,World.ownsRow_nil _ _ _ _⟩
 |some ad=>
  go_enter Tryz.func139,Tryz.ntmps139
  go_wp2_with (at_builtin;(refine bT w aad (.tmp 5) (.tmp 6) rfl rfl (v:=.slice (some ⟨_,0,none⟩) 0 0) (cB nW nW) rfl (B:=B) (A:=some ad) (m:=xs.length) (c:=c) (news:=xs.flatMap gY) rfl (H.out.up.2.2) (cm gY 2 (fun _=>rfl) _) (dX gY Rv _) nQ nQ ?_);intro A1 c1 δ1 eG hg1)
  go_ret
  refine⟨A1,c1,_,rfl,ai,?_⟩
  refine QDF ?_
  exact eG
theorem PW(A:Option Addr)(c:Nat)(xs:List An.Jj)(ln:Nat)(hn:xs.length=ln)(B:Nat)(w:nJ)[hB:Le B w](h:Sl fA B w A c xs)(q:ln<=1000):Calls nH 140 #[.slice A ln c] w fun e w'=>∃(A':Option Addr) (c':Nat) (δ:nJ),e=.returned (.slice A' ln c')/\w'=ah w δ/\(ah w δ).ownsRow w.heap.size 148 5 (.slice A' ln c') ln (xs.flatMap fA):=by
 subst hn;have H:=qh h;clear h;have XU:∀(w:nJ) (a:Option Addr) (n c n' c':Nat),(binOp .eql 26 (.slice a n c) (.slice none n' c')).run nH w=.ok (.bool a.isNone) w:=fun w a n c n' c'=>Lib.run_eql_slice_nil w _ _ a n c n' c' Tryz.underlying26;cases A with
 |none=>
  have hx:xs=[]:=by
   have h2:=H.out.2.2;by_cases hx:xs=[]
   ·exact hx
   ·obtain⟨_,_,he,_⟩:=h2 (by
     obtain⟨y,ys,rfl⟩:=List.exists_cons_of_ne_nil hx
     simp[fA])
    cases he
  subst hx
  go_enter Tryz.func140,Tryz.ntmps140
  go_wp2_with fail
  go_ret
  exact⟨none,0,_,rfl,ai,World.ownsRow_nil _ _ _ _⟩
 |some ad=>
  go_enter Tryz.func140,Tryz.ntmps140
  go_wp2_with (at_builtin;(refine bT w aac (.tmp 5) (.tmp 6) rfl rfl (v:=.slice (some ⟨_,0,none⟩) 0 0) (cB nW nW) rfl (B:=B) (A:=some ad) (m:=xs.length) (c:=c) (news:=xs.flatMap fA) rfl (H.out.up.2.2) (cm fA 5 (fun _=>rfl) _) (dX fA MF _) nQ nQ ?_);intro A1 c1 δ1 eG hg1)
  go_ret
  refine⟨A1,c1,_,rfl,ai,?_⟩
  refine QDF ?_
  exact eG
theorem IF(A:Option Addr)(c:Nat)(xs:List Me.kr)(ln:Nat)(hn:xs.length=ln)(B:Nat)(w:nJ)[hB:Le B w](h:Sl bE B w A c xs)(q:ln<=1000):Calls nH 141 #[.slice A ln c] w fun e w'=>∃(A':Option Addr) (c':Nat) (δ:nJ),e=.returned (.slice A' ln c')/\w'=ah w δ/\(ah w δ).ownsRow w.heap.size 150 4 (.slice A' ln c') ln (xs.flatMap bE):=by
 subst hn;have H:=qh h;clear h;have XU:∀(w:nJ) (a:Option Addr) (n c n' c':Nat),(binOp .eql 29 (.slice a n c) (.slice none n' c')).run nH w=.ok (.bool a.isNone) w:=fun w a n c n' c'=>Lib.run_eql_slice_nil w _ _ a n c n' c' Tryz.underlying29;cases A with
 |none=>
  have hx:xs=[]:=by
   have h2:=H.out.2.2;by_cases hx:xs=[]
   ·exact hx
   ·obtain⟨_,_,he,_⟩:=h2 (by
     obtain⟨y,ys,rfl⟩:=List.exists_cons_of_ne_nil hx
     simp[bE])
    cases he
  subst hx
  go_enter Tryz.func141,Tryz.ntmps141
  go_wp2_with fail
  go_ret
  exact⟨none,0,_,rfl,ai,World.ownsRow_nil _ _ _ _⟩
 |some ad=>
  go_enter Tryz.func141,Tryz.ntmps141
  go_wp2_with (at_builtin;(refine bT w JO (.tmp 5) (.tmp 6) rfl rfl (v:=.slice (some ⟨_,0,none⟩) 0 0) (cB nW nW) rfl (B:=B) (A:=some ad) (m:=xs.length) (c:=c) (news:=xs.flatMap bE) rfl (H.out.up.2.2) (cm bE 4 (fun _=>rfl) _) (dX bE qA _) nQ nQ ?_);intro A1 c1 δ1 eG hg1)
  go_ret
  refine⟨A1,c1,_,rfl,ai,?_⟩
  refine QDF ?_
  exact eG
theorem Tn(A:Option Addr)(c:Nat)(xs:List Me.Pr)(ln:Nat)(hn:xs.length=ln)(B:Nat)(w:nJ)[hB:Le B w](h:Sl dG B w A c xs)(q:ln<=1000):Calls nH 142 #[.slice A ln c] w fun e w'=>∃(A':Option Addr) (c':Nat) (δ:nJ),e=.returned (.slice A' ln c')/\w'=ah w δ/\(ah w δ).ownsRow w.heap.size 152 2 (.slice A' ln c') ln (xs.flatMap dG):=by
 subst hn;have H:=qh h;clear h;have XU:∀(w:nJ) (a:Option Addr) (n c n' c':Nat),(binOp .eql 30 (.slice a n c) (.slice none n' c')).run nH w=.ok (.bool a.isNone) w:=fun w a n c n' c'=>Lib.run_eql_slice_nil w _ _ a n c n' c' Tryz.underlying30;cases A with
 |none=>
  have hx:xs=[]:=by
   have h2:=H.out.2.2;by_cases hx:xs=[]
   ·exact hx
   ·obtain⟨_,_,he,_⟩:=h2 (by
     obtain⟨y,ys,rfl⟩:=List.exists_cons_of_ne_nil hx
     simp[dG])
    cases he
  subst hx
  go_enter Tryz.func142,Tryz.ntmps142
  go_wp2_with fail
  go_ret
  exact⟨none,0,_,rfl,ai,World.ownsRow_nil _ _ _ _⟩
 |some ad=>
  go_enter Tryz.func142,Tryz.ntmps142
  go_wp2_with (at_builtin;(refine bT w DS (.tmp 5) (.tmp 6) rfl rfl (v:=.slice (some ⟨_,0,none⟩) 0 0) (cB nW nW) rfl (B:=B) (A:=some ad) (m:=xs.length) (c:=c) (news:=xs.flatMap dG) rfl (H.out.up.2.2) (cm dG 2 (fun _=>rfl) _) (dX dG Ed _) nQ nQ ?_);intro A1 c1 δ1 eG hg1)
  go_ret
  refine⟨A1,c1,_,rfl,ai,?_⟩
  refine QDF ?_
  exact eG
theorem PZ(A:Option Addr)(c:Nat)(xs:List Sa.Kind)(ln:Nat)(hn:xs.length=ln)(B:Nat)(w:nJ)[hB:Le B w](h:Sl rG B w A c xs)(q:ln<=1000):Calls nH 143 #[.slice A ln c] w fun e w'=>∃(A':Option Addr) (c':Nat) (δ:nJ),e=.returned (.slice A' ln c')/\w'=ah w δ/\(ah w δ).ownsRow w.heap.size 155 2 (.slice A' ln c') ln (xs.flatMap rG):=by
 subst hn;have H:=qh h;clear h;have XU:∀(w:nJ) (a:Option Addr) (n c n' c':Nat),(binOp .eql 33 (.slice a n c) (.slice none n' c')).run nH w=.ok (.bool a.isNone) w:=fun w a n c n' c'=>Lib.run_eql_slice_nil w _ _ a n c n' c' Tryz.underlying33;cases A with
 |none=>
  have hx:xs=[]:=by
   have h2:=H.out.2.2;by_cases hx:xs=[]
   ·exact hx
   ·obtain⟨_,_,he,_⟩:=h2 (by
     obtain⟨y,ys,rfl⟩:=List.exists_cons_of_ne_nil hx
     simp[rG])
    cases he
  subst hx
  go_enter Tryz.func143,Tryz.ntmps143
  go_wp2_with fail
  go_ret
  exact⟨none,0,_,rfl,ai,World.ownsRow_nil _ _ _ _⟩
 |some ad=>
  go_enter Tryz.func143,Tryz.ntmps143
  go_wp2_with (at_builtin;(refine bT w aaf (.tmp 5) (.tmp 6) rfl rfl (v:=.slice (some ⟨_,0,none⟩) 0 0) (cB nW nW) rfl (B:=B) (A:=some ad) (m:=xs.length) (c:=c) (news:=xs.flatMap rG) rfl (H.out.up.2.2) (cm rG 2 (fun _=>rfl) _) (dX rG GD _) nQ nQ ?_);intro A1 c1 δ1 eG hg1)
  go_ret
  refine⟨A1,c1,_,rfl,ai,?_⟩
  refine QDF ?_
  exact eG
theorem PY(A:Option Addr)(c:Nat)(xs:List Sa.Part)(ln:Nat)(hn:xs.length=ln)(B:Nat)(w:nJ)[hB:Le B w](h:Sl jH B w A c xs)(q:ln<=1000):Calls nH 144 #[.slice A ln c] w fun e w'=>∃(A':Option Addr) (c':Nat) (δ:nJ),e=.returned (.slice A' ln c')/\w'=ah w δ/\(ah w δ).ownsRow w.heap.size 157 2 (.slice A' ln c') ln (xs.flatMap jH):=by
 subst hn;have H:=qh h;clear h;have XU:∀(w:nJ) (a:Option Addr) (n c n' c':Nat),(binOp .eql 34 (.slice a n c) (.slice none n' c')).run nH w=.ok (.bool a.isNone) w:=fun w a n c n' c'=>Lib.run_eql_slice_nil w _ _ a n c n' c' Tryz.underlying34;cases A with
 |none=>
  have hx:xs=[]:=by
   have h2:=H.out.2.2;by_cases hx:xs=[]
   ·exact hx
   ·obtain⟨_,_,he,_⟩:=h2 (by
     obtain⟨y,ys,rfl⟩:=List.exists_cons_of_ne_nil hx
     simp[jH])
    cases he
  subst hx
  go_enter Tryz.func144,Tryz.ntmps144
  go_wp2_with fail
  go_ret
  exact⟨none,0,_,rfl,ai,World.ownsRow_nil _ _ _ _⟩
 |some ad=>
  go_enter Tryz.func144,Tryz.ntmps144
  go_wp2_with (at_builtin;(refine bT w Uu (.tmp 5) (.tmp 6) rfl rfl (v:=.slice (some ⟨_,0,none⟩) 0 0) (cB nW nW) rfl (B:=B) (A:=some ad) (m:=xs.length) (c:=c) (news:=xs.flatMap jH) rfl (H.out.up.2.2) (cm jH 2 (fun _=>rfl) _) (dX jH vI _) nQ nQ ?_);intro A1 c1 δ1 eG hg1)
  go_ret
  refine⟨A1,c1,_,rfl,ai,?_⟩
  refine QDF ?_
  exact eG
theorem To(A:Option Addr)(c:Nat)(xs:List Int)(ln:Nat)(hn:xs.length=ln)(B:Nat)(w:nJ)[hB:Le B w](h:Sl aI B w A c xs)(q:ln<=1000):Calls nH 145 #[.slice A ln c] w fun e w'=>∃(A':Option Addr) (c':Nat) (δ:nJ),e=.returned (.slice A' ln c')/\w'=ah w δ/\(ah w δ).ownsRow w.heap.size 3 1 (.slice A' ln c') ln (xs.flatMap aI):=by
 subst hn;have H:=qh h;clear h;have XU:∀(w:nJ) (a:Option Addr) (n c n' c':Nat),(binOp .eql 35 (.slice a n c) (.slice none n' c')).run nH w=.ok (.bool a.isNone) w:=fun w a n c n' c'=>Lib.run_eql_slice_nil w _ _ a n c n' c' Tryz.underlying35;cases A with
 |none=>
  have hx:xs=[]:=by
   have h2:=H.out.2.2;by_cases hx:xs=[]
   ·exact hx
   ·obtain⟨_,_,he,_⟩:=h2 (by
     obtain⟨y,ys,rfl⟩:=List.exists_cons_of_ne_nil hx
     simp[aI])
    cases he
  subst hx
  go_enter Tryz.func145,Tryz.ntmps145
  go_wp2_with fail
  go_ret
  exact⟨none,0,_,rfl,ai,World.ownsRow_nil _ _ _ _⟩
 |some ad=>
  go_enter Tryz.func145,Tryz.ntmps145
  go_wp2_with (at_builtin;(refine bT w wO (.tmp 5) (.tmp 6) rfl rfl (v:=.slice (some ⟨_,0,none⟩) 0 0) (cB nW nW) rfl (B:=B) (A:=some ad) (m:=xs.length) (c:=c) (news:=xs.flatMap aI) rfl (H.out.up.2.2) (cm aI 1 (fun _=>rfl) _) (dX aI vK _) nQ nQ ?_);intro A1 c1 δ1 eG hg1)
  go_ret
  refine⟨A1,c1,_,rfl,ai,?_⟩
  refine QDF ?_
  exact eG
end
section
open Hd
theorem aT.UA{B:Nat}{w:nJ}{r:aW}{t:aO}{hA pA:Option Addr}{hc pc:Nat}{hs:List Me.kr}{ps:List Me.Pr}(h:aT B w r t)(h1:fN 150 bE w.heap.size w hA hc hs)(h2:fN 152 dG w.heap.size w pA pc ps):aT B w ⟨r.aF,⟨hA,hc,pA,pc⟩,r.aa⟩ ⟨t.aF,⟨t.af.m,hs,ps⟩,t.aa⟩:=⟨h.1,⟨.inr h1,.inr h2⟩,h.2.2⟩
theorem index_one{P:Program}{t e:TypeId}{n:Nat}(W:nJ)(hu:P.underlying t=some (.array n e))(VO:(isAgg e).run P W=.ok false W)(hsz:(sizeOf e).run P W=.ok 1 W)(cs:Array nK)(k:IntKind)(j:Nat)(hj:j<n)(v:nK)(hv:cs[j]?=some v):(Instr.index t (.agg cs) (.int k (j:Int))).run P W=.ok v W:=by have hj':(j:Int)<(n:Int):=nQ;simp[Instr.index,run_underlying hu,asIntOf,hj,hsz,VO,part,hv,go_sem]
theorem PJ(r:aW)(t:aO)(hv:aE t=true)(a:List Int)(v2:nK)(B:Nat)(w:nJ)(hT:aT B w r t)[hB:Le B w]:Calls nH 241 #[aY r t,v2] w (mq B t ⟨.eE,a⟩ w):=by
 have nu:=qh (iQ hv);have H:=qh hT;obtain⟨V1,V2,V3⟩:=aX.1 hv;have V2:=qh V2;have HE:Hid (jd t ⟨.eE,a⟩=if t.af.hs.length=0 then none else some ⟨t.aF,nM t.af (nth (Me.fZ t.af) 0).toNat,t.aa⟩):=rfl;have lw:Le w.heap.size w:=⟨nR _⟩;clear V1 V3 hv hT;go_enter Tryz.func241,Tryz.ntmps241;go_upto_region 1 with fail;refine QCC ?_;intro W1 aH cJ dF cW di dz eL;refine QEE ?_;intro A1 R1 M1;clear aH;have v7:=A1.out.ax.2.2.2.2.2.2.2.1;have v8:=A1.out.ax.2.2.2.2.2.2.2.2.1;have v9:=A1.out.ax.2.2.2.2.2.2.2.2.2.1;by_cases hx:t.af.hs.length=0
 ·have HN:Hid (jd t ⟨.eE,a⟩=none):=qh (by rw[HE.out,if_pos hx]);have hx1:(t.af.hs.length:Int)=0:=nQ;have hx2:((t.af.hs.length:Int)==0)=true:=by simp[hx]
  clear hx;go_upto_region 3 with(go_at_call 28;refine(uK r.af t.af V2.out W1.heap.size _ M1.out.is.2.1.up).mono ?_;rintro e w1 ⟨lA,lc,δo,rfl,rfl,Xe⟩);go_wp2_with (first|(refine au aq rfl _ rfl rfl (A1.out.ah _) rfl ?_)|(refine ak aq rfl _ _ rfl rfl rfl (R1.out.ah _) rfl rfl (aL _ _) ?_;intro W9 C9 k9));refine QAT ?_;intro p1 p2;refine ep aq Tryz.results241 rfl C9 rfl ?_;exact Tb HN.out ((M1.out.up (W:=ah W1 δo)).aV k9 (R1.out.ah _) nU (Nat.le_succ_of_le hB.out) (inferInstance:Le B (ah W1 δo)).out)
 ·have hlt:=EZ V2.out hx;refine QCW ?_;intro HE ho hol h0;obtain⟨d,hd⟩:∃d:Nat,nth (Me.fZ t.af) 0=(d:Int):=⟨(nth (Me.fZ t.af) 0).toNat,by have:=h0.1;omega⟩;rw[hd,Int.toNat_natCast] at HE hlt;have h6:=(Me.aC.1 V2.out).2.1;have Xf:Hid (∀p∈t.af.ps,0<=p.a/\p.a<=1000/\0<=p.b/\p.b<=1000):=qh fun p hp=>by have hk:=Me.jr.1 (List.all_eq_true.1 (Me.aC.1 V2.out).2.2.2.2.1 p hp);omega
  obtain⟨k,hk⟩:∃k,t.af.hs.length=k+1:=⟨t.af.hs.length-1,nQ⟩;have HK:=qh hk;have WV:k<=100:=nQ;have hdk:d<=k:=nQ;have HX:Hid (0<(Me.fZ t.af).length):=qh (by rw[hol,hk];exact Nat.succ_pos _);have hx1:¬(t.af.hs.length:Int)=0:=nQ;have hx2:((t.af.hs.length:Int)==0)=false:=by rw[hk];simp;omega
  have hx3:0<t.af.hs.length:=by rw[hk];omega
  have hx4:(0:Int)<(t.af.hs.length:Int):=by rw[hk];omega
  have hwr:IntKind.i64.wrap ((d:Int)+1)=(d:Int)+1:=by rw[IntWalk.i64_in _ nQ]
  clear hx hlt ho hol h0 h6 hk;go_upto_region 4 with(go_at_call 28;refine(uK r.af t.af V2.out W1.heap.size _ M1.out.is.2.1.up).mono ?_;rintro e w1 ⟨lA,lc,δo,rfl,rfl,Xe⟩);obtain⟨lb,lo,rfl,hlb,dl⟩:=Xe.out.int (k:=0) HX.out;have dl':(ah W1 δo).cell? ⟨lb,lo,none⟩=some (.int .i64 (d:Int)):=by rw[<-hd];exact dl
  have ilb:Lt lb (ah W1 δo):=⟨hlb⟩;clear dl hlb Xe hd;go_upto_region 5 with fail;have A2:Hid (ay (ah W1 δo) w.heap.size 39 (aG r t)):=qh (A1.out.ah _);have R2:Hid (ay (ah W1 δo) (w.heap.size+1) 39 (aG dc cS)):=qh (R1.out.ah _);have M2:Hid (aT B (ah W1 δo) r t):=qh M1.out.up;refine aM fun W2 eJ=>?_;have a1:aD w.heap.size w W2:=gy eJ;have a2:Le w.heap.size W2:=fI eJ;have a3:Le B W2:=fI eJ;have A2:Hid (ay W2 w.heap.size 39 (aG r t)):=by rw[eJ.out];exact A2
  have R2:Hid (ay W2 (w.heap.size+1) 39 (aG dc cS)):=by rw[eJ.out];exact R2
  have M2:Hid (aT B W2 r t):=by rw[eJ.out];exact M2
  clear eJ A1 R1 M1 v7 v8 v9 dl' ilb;have v8:=A2.out.ax.2.2.2.2.2.2.2.2.1;have cf8:=A2.out.free 8;have lA2:=A2.out.lt;have lR2:=R2.out.lt;have lw2:Le W2.heap.size W2:=⟨nR _⟩;go_upto_region 6 with(first|(go_at_call 141;refine(IF r.af.hA r.af.hc t.af.hs _ rfl W2.heap.size _ M2.out.is.2.1.1 nu.out.2.1.1).mono ?_;rintro e w1 ⟨A',c',δ2,rfl,rfl,ho⟩;obtain⟨gh,rfl,hgh,lgh,_,_⟩:=qY ho hx3;rw[HK.out] at ho ⊢)|(go_at_call 263;refine(PO W2 gh c' d k t.af.hs _ ho HK.out hdk WV).mono ?_;rintro e w1 ⟨rfl,δ3,rfl,ZP⟩;have HO3:=qh ZP;clear ZP));refine aM fun W3 bR=>?_;have jn1:oE w.heap.size W2.heap.size:=⟨a2.out⟩;have jn2:oE B W2.heap.size:=⟨a3.out⟩;have b1:aD w.heap.size w W3:=gy bR;have b2:Le w.heap.size W3:=fI bR;have b3:Le B W3:=fI bR;have b4:Le W2.heap.size W3:=fI bR;have A3:Hid (ay W3 w.heap.size 39 (aG ⟨r.aF,⟨some ⟨gh,0,none⟩,c',r.af.pA,r.af.pc⟩,r.aa⟩ ⟨t.aF,⟨t.af.m,t.af.hs.take d++t.af.hs.drop (d+1),t.af.ps⟩,t.aa⟩)):=by
   rw[bR.out,show aG ⟨r.aF,⟨some ⟨gh,0,none⟩,c',r.af.pA,r.af.pc⟩,r.aa⟩ ⟨t.aF,⟨t.af.m,t.af.hs.take d++t.af.hs.drop (d+1),t.af.ps⟩,t.aa⟩=(aG r t).setIfInBounds 8 (.slice (some ⟨gh,0,none⟩) k c') from by
    have:(t.af.hs.take d++t.af.hs.drop (d+1)).length=k:=by rw[List.length_append,List.length_take,List.length_drop,HK.out];omega
    simp only[aG,this];simp]
   exact qh (ay.set (ay.eO A2.out) 8 _)
  have R3:Hid (ay W3 (w.heap.size+1) 39 (aG dc cS)):=by rw[bR.out];exact qh (ay.fB (ay.eO R2.out) (by show w.heap.size+1≠w.heap.size;omega) _)
  have M3:Hid (aT B W3 r t):=by rw[bR.out];exact qh ((M2.out.up).eo (ay.eO A2.out) nU hB.out (inferInstance:Le B (ez W2.heap.size (ah W2 δ2) δ3)).out _)
  have ux:Hid (fN 150 bE W3.heap.size W3 (some ⟨gh,0,none⟩) c' (t.af.hs.take d++t.af.hs.drop (d+1))):=by rw[bR.out];exact qh (fN.bU (base:=W2.heap.size) (size:=4) (n:=k) (ownsRow_setCell_below HO3.out (a:=⟨w.heap.size,8,none⟩) lA2.out _) (by rw[List.length_append,List.length_take,List.length_drop,HK.out];omega))
  clear bR HO3 M2 A2 R2 v8 cf8 ho hgh;have HP3:Hid (Sl dG W3.heap.size W3 r.af.pA r.af.pc t.af.ps):=qh M3.out.is.2.1.2;have lA3:=A3.out.lt;have lR3:=R3.out.lt;have hps:t.af.ps.length<=1000:=nu.out.2.1.2;have v9:=A3.out.ax.2.2.2.2.2.2.2.2.2.1;clear hwr WV hdk hx1 hx2 hx3 hx4;obtain⟨pA,hpA⟩:∃x,r.af.pA=x:=⟨_,rfl⟩;rw[hpA] at HP3 v9;clear hpA;go_upto_region 8 with fail;go_loopg [9,41] t.af.ps.length (fun gn s9 s41 wr=>∃(j:Nat) (Ap:Option Addr) (cp:Nat) (m:List Me.Pr),j<=t.af.ps.length/\gn=t.af.ps.length-j/\s9=.slice Ap m.length cp/\s41=.int .i64 j/\Hid (m=oU d t.af.ps j)/\m.length<=t.af.ps.length/\Hid (wr.ownsRow W3.heap.size 152 2 (.slice Ap m.length cp) m.length (m.flatMap dG))/\aD W3.heap.size W3 wr/\Le W3.heap.size wr)
  case atStart=>exact⟨0,none,0,[],nE _,rfl,rfl,rfl,qh rfl,nE _,qh (World.ownsRow_nil _ _ _ _),inferInstance,⟨nR _⟩⟩
  case round=>
   obtain⟨j,Ap,cp,m,hj,rfl,rfl,rfl,HL,hml,HO,i1,i2⟩:=hrel;by_cases hlt:j<t.af.ps.length
   ·have hji:(j:Int)<(t.af.ps.length:Int):=nQ;have hj0:¬(j:Int)<0:=nQ;obtain⟨pb,po,rfl,YC,d0,d1⟩:=(HP3.out.up (w':=wr)).pr hlt;have ipb:Lt pb wr:=⟨nL YC i2.out⟩;have Qf:=qh (@Aq d j t.af.ps hlt);have Qg:=qh (@Ar d j t.af.ps hlt);have hpx:=Xf.out _ (aR t.af.ps hlt);obtain⟨x,hx⟩:∃x,nth t.af.ps j=x:=⟨_,rfl⟩;rw[hx] at d0 d1 hpx Qf Qg;clear hx YC;by_cases ha:x.a=(d:Int)
    ·have ha':(x.a==(d:Int))=true:=by simp[ha]
     have uy:=qh (Qf.out (.inl ha));clear Qf Qg;go_wp2_with fail;go_roundg (t.af.ps.length-(j+1))
     case measure=>omega
     case rel=>exact⟨j+1,Ap,cp,m,nQ,rfl,rfl,by go_num,by unfold Hid;rw[uy.out];exact HL.out,hml,qh (bu HO.out),inferInstance,inferInstance⟩
    by_cases hb:x.b=(d:Int)
    ·have ha':(x.a==(d:Int))=false:=by simp[ha]
     have hb':(x.b==(d:Int))=true:=by simp[hb]
     have uy:=qh (Qf.out (.inr hb));clear Qf Qg;go_wp2_with fail;go_roundg (t.af.ps.length-(j+1))
     case measure=>omega
     case rel=>exact⟨j+1,Ap,cp,m,nQ,rfl,rfl,by go_num,by unfold Hid;rw[uy.out];exact HL.out,hml,qh (bu HO.out),inferInstance,inferInstance⟩
    have uy:Hid (m++[qU d x]=oU d t.af.ps (j+1)):=by unfold Hid;rw[Qg.out ha hb,HL.out]
    have ha':(x.a==(d:Int))=false:=by simp[ha]
    have hb':(x.b==(d:Int))=false:=by simp[hb]
    clear Qf Qg ha hb;go_upto_region 12 with fail;obtain⟨X,rfl⟩:∃X,X=wr:=⟨_,rfl⟩;have lX:Le X.heap.size X:=⟨nR _⟩;have ahD:∀W:nJ,(Instr.index 312 (.agg #[.pointer (some ⟨X.heap.size,0,none⟩),.pointer (some ⟨X.heap.size,1,none⟩)]) (.int .i64 0)).run nH W=.ok (.pointer (some ⟨X.heap.size,0,none⟩)) W:=fun W=>index_one W Tryz.underlying312 (by first|exact Tryz.isAgg311 W|kernel_rfl) (by first|exact Tryz.sizeOf311 W|kernel_rfl) _ .i64 0 nU _ rfl;have ahC:∀W:nJ,(Instr.index 312 (.agg #[.pointer (some ⟨X.heap.size,0,none⟩),.pointer (some ⟨X.heap.size,1,none⟩)]) (.int .i64 1)).run nH W=.ok (.pointer (some ⟨X.heap.size,1,none⟩)) W:=fun W=>index_one W Tryz.underlying312 (by first|exact Tryz.isAgg311 W|kernel_rfl) (by first|exact Tryz.sizeOf311 W|kernel_rfl) _ .i64 1 nU _ rfl;go_loopg [58] 2 (fun gn s58 wq=>∃i:Nat,i<=2/\gn=2-i/\s58=.int .i64 i/\Hid (ay wq X.heap.size 152 #[.int .i64 (if 1<=i then Me.qV d x.a else x.a),.int .i64 (if 2<=i then Me.qV d x.b else x.b)])/\aD X.heap.size X wq/\Le X.heap.size wq)
    case atStart=>exact⟨0,nQ,rfl,rfl,qh (ay.new rfl),inferInstance,inferInstance⟩
    case round=>
     obtain⟨i,hi,rfl,rfl,HQ,k1,k2⟩:=hrel;by_cases hlt2:i<2
     ·rcases(by omega:i=0\/i=1) with rfl|rfl
      ·have e0:=HQ.out.cell (i:=0) (v:=.int .i64 x.a) nV;have f0:=HQ.out.free 0;have lq:=HQ.out.lt;by_cases hg:(d:Int)<x.a
       ·have hgd:decide ((d:Int)<x.a)=true:=decide_eq_true hg;have hw:IntKind.i64.wrap (x.a-1)=x.a-1:=by rw[IntWalk.i64_in _ (by have:=hpx;omega)]
        have HR:Hid (Me.qV d x.a=x.a-1):=by unfold Hid Me.qV;rw[if_pos hg]
        go_wp2_with fail;go_roundg (2-(0+1))
        case measure=>omega
        case rel=>exact⟨0+1,nQ,rfl,by go_num,qh (by have k:=HQ.out.set 0 (.int .i64 (x.a-1));simpa [HR.out] using k),inferInstance,inferInstance⟩
       ·have hgd:decide ((d:Int)<x.a)=false:=decide_eq_false hg;have HR:Hid (Me.qV d x.a=x.a):=by unfold Hid Me.qV;rw[if_neg hg]
        go_wp2_with fail;go_roundg (2-(0+1))
        case measure=>omega
        case rel=>exact⟨0+1,nQ,rfl,by go_num,qh (by have k:=HQ.out;simpa [HR.out] using k),inferInstance,inferInstance⟩
      ·have e0:=HQ.out.cell (i:=1) (v:=.int .i64 x.b) nV;have f0:=HQ.out.free 1;have lq:=HQ.out.lt;by_cases hg:(d:Int)<x.b
       ·have hgd:decide ((d:Int)<x.b)=true:=decide_eq_true hg;have hw:IntKind.i64.wrap (x.b-1)=x.b-1:=by rw[IntWalk.i64_in _ (by have:=hpx;omega)]
        have HR:Hid (Me.qV d x.b=x.b-1):=by unfold Hid Me.qV;rw[if_pos hg]
        go_wp2_with fail;go_roundg (2-(1+1))
        case measure=>omega
        case rel=>exact⟨1+1,nQ,rfl,by go_num,qh (by have k:=HQ.out.set 1 (.int .i64 (x.b-1));simpa [HR.out] using k),inferInstance,inferInstance⟩
       ·have hgd:decide ((d:Int)<x.b)=false:=decide_eq_false hg;have HR:Hid (Me.qV d x.b=x.b):=by unfold Hid Me.qV;rw[if_neg hg]
        go_wp2_with fail;go_roundg (2-(1+1))
        case measure=>omega
        case rel=>exact⟨1+1,nQ,rfl,by go_num,qh (by have k:=HQ.out;simpa [HR.out] using k),inferInstance,inferInstance⟩
     ·obtain rfl:i=2:=by omega
      have HQ:Hid (ay wr X.heap.size 152 (dG (qU d x)).toArray):=by have:=HQ.out;simpa [dG,qU] using qh this
      obtain⟨y,hy⟩:∃y,qU d x=y:=⟨_,rfl⟩;rw[hy] at HQ uy;have c0:=HQ.out.cell (i:=0) (v:=.int .i64 y.a) rfl;have c1:=HQ.out.cell (i:=1) (v:=.int .i64 y.b) rfl;have lq:=HQ.out.lt;have s1:aD W3.heap.size W3 wr:=⟨⟨k1.out.1.trans i1.out.1,k1.out.2.1.trans i1.out.2.1,k1.out.2.2.1.trans i1.out.2.2.1,fun b hb=>(k1.out.2.2.2 b (nL hb i2.out)).trans (i1.out.2.2.2 b hb)⟩⟩;have s2:Le W3.heap.size wr:=⟨nT i2.out k2.out⟩;clear hy;go_wp2_with (at_builtin;(refine bP W3 DS (.tmp 72) (.tmp 74) rfl rfl (bu HO.out) rfl rfl nW rfl (by simp[Value.oneCell']) nQ nQ ?_);intro A3 c3 δ3 lK uO);go_roundg (t.af.ps.length-(j+1))
      case measure=>omega
      case rel=>
       refine⟨j+1,A3,c3,m++[y],nQ,rfl,?_,by go_num,uy,?_,?_,inferInstance,inferInstance⟩
       ·rw[List.length_append];rfl
       ·rw[uy.out];exact qG
       ·rw[List.length_append,List.flatMap_append];exact qh (by simpa [dG] using lK)
   ·obtain rfl:j=t.af.ps.length:=by omega
    have hjn:¬((t.af.ps.length:Int)<(t.af.ps.length:Int)):=nQ;have Bu:Hid (nM t.af d=⟨t.af.m,t.af.hs.take d++t.af.hs.drop (d+1),m⟩):=by unfold Hid;rw[Ac,Dd,<-HL.out]
    have A4:Hid (ay wr w.heap.size 39 (aG ⟨r.aF,⟨some ⟨gh,0,none⟩,c',r.af.pA,r.af.pc⟩,r.aa⟩ ⟨t.aF,⟨t.af.m,t.af.hs.take d++t.af.hs.drop (d+1),t.af.ps⟩,t.aa⟩)):=qh A3.out.eO;have R4:Hid (ay wr (w.heap.size+1) 39 (aG dc cS)):=qh R3.out.eO;have M4:Hid (aT B wr ⟨r.aF,⟨some ⟨gh,0,none⟩,c',Ap,cp⟩,r.aa⟩ ⟨t.aF,⟨t.af.m,t.af.hs.take d++t.af.hs.drop (d+1),m⟩,t.aa⟩):=qh (aT.UA M3.out.up ux.out.wide (fN.bU HO.out rfl));have cf9:=A4.out.free 9;have v9':=A4.out.ax.2.2.2.2.2.2.2.2.2.1;have l1:=A4.out.lt;have l2:=R4.out.lt;have s1:aD w.heap.size w wr:=⟨⟨i1.out.1.trans b1.out.1,i1.out.2.1.trans b1.out.2.1,i1.out.2.2.1.trans b1.out.2.2.1,fun b hb=>(i1.out.2.2.2 b (nL hb b2.out)).trans (b1.out.2.2.2 b hb)⟩⟩;have s2:Le w.heap.size wr:=⟨nT b2.out i2.out⟩;have s3:Le B wr:=⟨nT b3.out i2.out⟩;go_upto_region 20 with fail;refine aM fun W5 jT=>?_;have q8:aD w.heap.size w W5:=gy jT;have yb:Le w.heap.size W5:=fI jT;have Gs:Le B W5:=fI jT;have A5:Hid (ay W5 w.heap.size 39 (aG ⟨r.aF,⟨some ⟨gh,0,none⟩,c',Ap,cp⟩,r.aa⟩ ⟨t.aF,⟨t.af.m,t.af.hs.take d++t.af.hs.drop (d+1),m⟩,t.aa⟩)):=by rw[jT.out];exact qh (A4.out.set 9 _)
    have R5:Hid (ay W5 (w.heap.size+1) 39 (aG dc cS)):=by rw[jT.out];exact qh (R4.out.fB (by show w.heap.size+1≠w.heap.size;omega) _)
    have M5:Hid (aT B W5 ⟨r.aF,⟨some ⟨gh,0,none⟩,c',Ap,cp⟩,r.aa⟩ ⟨t.aF,⟨t.af.m,t.af.hs.take d++t.af.hs.drop (d+1),m⟩,t.aa⟩):=by rw[jT.out];exact qh (M4.out.eo A4.out nU hB.out s3.out _)
    rw[Bu.out] at HE;clear jT A4 R4 M4 A3 R3 M3 cf9 v9' v9 HO ux HP3;go_wp2_with (first|(refine au aq rfl _ rfl rfl A5.out rfl ?_)|(refine ak aq rfl _ _ rfl rfl rfl R5.out rfl rfl (aL _ _) ?_;intro W9 C9 k9));refine QAT ?_;intro p1 p2;refine ep aq Tryz.results241 rfl C9 rfl ?_;exact rI HE.out (M5.out.aV k9 R5.out nU (Nat.le_succ_of_le hB.out) Gs.out)
end
section
open Hd
def EM:Wd->Nat
 |.aP=>233
 |.current=>234
 |.gJ=>235
 |.af=>236
 |.mV=>238
 |.dY=>240
 |.eE=>241
 |.part=>242
 |_=>244
theorem ER{d:Wd}(h:cg d=1):Ze d=.func (.func (EM d)) #[] #[]:=by cases d<;>first|rfl|exact absurd h nU
theorem Lj{d:Wd}(h:cg d=1):∀args w,(callFunc (EM d) args).run nH w=.ok (.enter (EM d) args) w:=by cases d<;>first|exact absurd h nU|(intro args w;exact Tryz.enters233 args w)|(intro args w;simp[EM,go_sem];done)
theorem aee(c:eB)(hk:cg c.w=1)(hl:c.a.length=tS c.w)(r:aW)(t:aO)(hv:aE t=true)(A:Option Addr)(cap:Nat)(B:Nat)(w:nJ)(hT:aT B w r t)[hB:Le B w](hS:Sl aI w.heap.size w A cap c.a):Calls nH (EM c.w) #[aY r t,.slice A c.a.length cap] w (mq B t c w):=by
 obtain⟨d,a⟩:=c;cases d with
 |aP=>exact VV r t (iQ hv) a hl A cap B w hT hS
 |current=>exact Ls r t (iQ hv) a hl A cap B w hT hS
 |gJ=>exact Tc r t (iQ hv) a hl A cap B w hT hS
 |af=>exact VX r t (iQ hv) a hl A cap B w hT hS
 |mV=>exact VY r t (iQ hv) a hl A cap B w hT hS
 |dY=>exact Lr r t (iQ hv) a hl A cap B w hT hS
 |eE=>exact PJ r t hv a _ B w hT
 |part=>exact V0 r t (iQ hv) a hl A cap B w hT hS
 |fG=>exact PN r t (iQ hv) a hl A cap B w hT hS
 |safe=>exact absurd hk (by show ¬cg .safe=1;decide)
 |gr=>exact absurd hk (by show ¬cg .gr=1;decide)
 |jl=>exact absurd hk (by show ¬cg .jl=1;decide)
 |done=>exact absurd hk (by show ¬cg .done=1;decide)
 |fV=>exact absurd hk (by show ¬cg .fV=1;decide)
 |yB=>exact absurd hk (by show ¬cg .yB=1;decide)
 |early=>exact absurd hk (by show ¬cg .early=1;decide)
 |nD=>exact absurd hk (by show ¬cg .nD=1;decide)
 |order=>exact absurd hk (by show ¬cg .order=1;decide)
 |pack=>exact absurd hk (by show ¬cg .pack=1;decide)
 |forget=>exact absurd hk (by show ¬cg .forget=1;decide)
end
section
open Hd
theorem ay.vX{w W:nJ}{b g:Nat}{T T':TypeId}{cs cs':Array nK}(h:ay w b T cs)(k:bI (fun x=>x=g) w W)(hb:ay w g T' cs')(hne:T'≠T):ay W b T cs:=h.eN k (by
 rintro rfl
 unfold ay at h hb
 rw[hb] at h
 injection h with h
 injection h with _ h
 exact hne h)
structure iD(w:nJ)(v:nK)(c:eB):Prop where
 kind:cg c.w=1
 len:c.a.length=tS c.w
 at_:∃(gc ga:Nat) (A:Option Addr) (cap:Nat),v=.func (.func 189) #[] #[.pointer (some ⟨gc,0,none⟩),.pointer (some ⟨ga,0,none⟩)]/\ay w gc 258 #[.int .i64 (tS c.w:Nat),Ze c.w]/\ay w ga 35 #[.slice A c.a.length cap]/\fN 3 aI w.heap.size w A cap c.a
theorem iD.up{w W:nJ}{v:nK}{c:eB}(h:iD w v c)[hg:aD w.heap.size w W][hl:Le w.heap.size W]:iD W v c:=by obtain⟨h1,h2,gc,ga,A,cap,rfl,b1,b2,hS⟩:=h;exact⟨h1,h2,gc,ga,A,cap,rfl,b1.eO,b2.eO,hS.wide⟩
theorem iD.aV{w W:nJ}{v:nK}{c:eB}{g:Nat}{T:TypeId}{cs:Array nK}(h:iD w v c)(k:bI (fun x=>x=g) w W)(hb:ay w g T cs)(h1:T≠258)(h2:T≠35)(h3:T≠3):iD W v c:=by obtain⟨k1,k2,gc,ga,A,cap,rfl,b1,b2,hS⟩:=h;exact⟨k1,k2,gc,ga,A,cap,rfl,b1.vX k hb h1,b2.vX k hb h2,hS.aV k hb h3 (nR _)⟩
def tC(B:Nat)(t:aO)(c:eB)(w:nJ)(e:Ending)(w':nJ):Prop:=
 ∃(r':aW) (δ:nJ),e=.returned (.tuple #[aY r' (jc t c),.bool (gz t c).isSome])/\w'=ah w δ/\aT B (ah w δ) r' (jc t c)
theorem Mj{B:Nat}{r:aW}{t:aO}{c:eB}{w W:nJ}(h:gz t c=none)[aD w.heap.size w W][Le w.heap.size W](ho:aT B W r t):tC B t c w (.returned (.tuple #[aY r t,.bool false])) W:=by
 have hd:jc t c=t:=by unfold jc;rw[h];rfl
 refine⟨r,W,by rw[hd,h];rfl,ai,?_⟩;rw[<-ai (w:=w),hd];exact ho
theorem QB{B:Nat}{r:aW}{t o:aO}{c:eB}{w W:nJ}(h:gz t c=some o)[aD w.heap.size w W][Le w.heap.size W](ho:aT B W r o):tC B t c w (.returned (.tuple #[aY r o,.bool true])) W:=by
 have hd:jc t c=o:=by unfold jc;rw[h];rfl
 refine⟨r,W,by rw[hd,h];rfl,ai,?_⟩;rw[<-ai (w:=w),hd];exact ho
theorem Tu(r:aW)(t:aO)(hv:aE t=true)(c:eB)(gc ga:Nat)(A:Option Addr)(cap:Nat)(hk:cg c.w=1)(hl:c.a.length=tS c.w)(B:Nat)(w:nJ)(hT:aT B w r t)[hB:Le B w](hC:ay w gc 258 #[.int .i64 (tS c.w:Nat),Ze c.w])(hA:ay w ga 35 #[.slice A c.a.length cap])(hS:fN 3 aI w.heap.size w A cap c.a):Calls nH 189 #[aY r t,.pointer (some ⟨gc,0,none⟩),.pointer (some ⟨ga,0,none⟩)] w (tC B t c w):=by
 have H:=qh hT;have HS:=qh hS;have hent:=Lj hk;have Qu:Hid (∀W:nJ,aT B W r t->Le B W->Sl aI W.heap.size W A cap c.a->Calls nH (EM c.w) #[aY r t,.slice A c.a.length cap] W (mq B t c W)):=qh fun W h1 h2 h3=>aee c hk hl r t hv A cap B W h1 h3;unfold mq at Qu;rw[ER hk] at hC;obtain⟨fid,uP⟩:∃f,EM c.w=f:=⟨_,rfl⟩;rw[uP] at hent Qu hC;have lw:Le w.heap.size w:=⟨nR _⟩;have igc:=hC.lt;have iga:=hA.lt;have y1:=hC.cell (i:=1) (v:=.func (.func fid) #[] #[]) rfl;have y2:=hA.cell (i:=0) (v:=.slice A c.a.length cap) rfl;clear hT hS hC hA hk hl uP;go_enter Tryz.func189,Tryz.ntmps189;go_upto_region 1 with fail;refine QCC ?_;intro W1 aH cJ dF cW di dz eL;refine QEE ?_;intro A1 R1 M1;have z1:W1.cell? ⟨gc,1,none⟩=some (.func (.func fid) #[] #[]):=by rw[aH.out];go_simp
 have z2:W1.cell? ⟨ga,0,none⟩=some (.slice A c.a.length cap):=by rw[aH.out];go_simp
 have l1:Lt gc W1:=nr aH;have l2:Lt ga W1:=nr aH;clear aH;cases hc:jd t c with
 |none=>
  rw[hc] at Qu
  have HN:=qh (xM hc)
  clear hc
  go_upto_region 2 with(first|(refine au aq rfl _ rfl rfl A1.out rfl ?_)|(refine(Qu.out _ M1.out.up inferInstance (HS.out.wide (w':=W1)).plain).mono ?_;rintro e w1 ⟨r',δ1,rfl,rfl,hm⟩;have HM:=qh hm;clear hm)|(refine ak aq rfl _ _ rfl rfl rfl (ay.new (T:=39) rfl) rfl rfl (aL _ _) ?_;intro W2 T2 k2))
  refine QBQ ?_
  intro g1 g2 q1 q2 q3 A2 R2 M2
  have N2:Hid (aT B W2 r' t):=qh ((HM.out.up (W:=(ah W1 δ1).alloc _)).aV k2 (ay.new rfl) nU g2 (by simpa using Nat.le_succ_of_le g2))
  have T2:=qh T2
  clear k2 A1 R1 M1 HM Qu
  go_wp2_with (first|(refine au aq rfl _ rfl rfl A2.out rfl ?_)|(refine ak aq rfl _ _ rfl rfl rfl R2.out rfl rfl (aL _ _) ?_;intro W9 C9 k9))
  refine QAT ?_
  intro p1 p2
  refine ep aq Tryz.results189 rfl C9 rfl ?_
  exact Mj HN.out (M2.out.aV k9 R2.out nU (Nat.le_succ_of_le hB.out) q3.out)
 |some o=>
  rw[hc] at Qu
  have HE:=qh hc
  clear hc
  go_upto_region 2 with(first|(refine au aq rfl _ rfl rfl A1.out rfl ?_)|(refine(Qu.out _ M1.out.up inferInstance (HS.out.wide (w':=W1)).plain).mono ?_;rintro e w1 ⟨r',δ1,rfl,rfl,hm⟩;have HM:=qh hm;clear hm)|(refine ak aq rfl _ _ rfl rfl rfl (ay.new (T:=39) rfl) rfl rfl (aL _ _) ?_;intro W2 T2 k2))
  refine QBQ ?_
  intro g1 g2 q1 q2 q3 A2 R2 M2
  have N2:Hid (aT B W2 r' o):=qh ((HM.out.up (W:=(ah W1 δ1).alloc _)).aV k2 (ay.new rfl) nU g2 (by simpa using Nat.le_succ_of_le g2))
  have T2:=qh T2
  clear k2 A1 R1 M1 HM Qu
  have lW2:Le W2.heap.size W2:=⟨nR _⟩
  rcases mb:aE o with _|_
  ·have HC:Hid (cD (aE o) 120=120):=by unfold Hid;rw[mb];rfl
   have HN:Hid (gz t c=none):=qh (by rw[rO HE.out,mb];rfl);clear mb;go_upto_region 3 with(first|(refine bC aq nY _ rfl rfl T2.out rfl ?_)|(go_at_call 75;refine(sW r' o W2.heap.size _ N2.out.is.up).mono ?_;rw[HC.out];rintro e w1 ⟨rfl,δ3,rfl⟩));go_wp2_with (first|(refine au aq rfl _ rfl rfl (A2.out.ah δ3) rfl ?_)|(refine ak aq rfl _ _ rfl rfl rfl (R2.out.ah δ3) rfl rfl (aL _ _) ?_;intro W9 C9 k9));refine QAT ?_;intro p1 p2;refine ep aq Tryz.results189 rfl C9 rfl ?_;exact Mj HN.out ((M2.out.up (W:=ah W2 δ3)).aV k9 (R2.out.ah _) nU (Nat.le_succ_of_le hB.out) (inferInstance:Le B (ah W2 δ3)).out)
  ·have HC:Hid (cD (aE o) 120=0):=by unfold Hid;rw[mb];rfl
   have HN:Hid (gz t c=some o):=qh (by rw[rO HE.out,mb];rfl);clear mb;go_upto_region 4 with(first|(refine bC aq nY _ rfl rfl T2.out rfl ?_)|(go_at_call 75;refine(sW r' o W2.heap.size _ N2.out.is.up).mono ?_;rw[HC.out];rintro e w1 ⟨rfl,δ3,rfl⟩));go_wp2_with (first|(refine au aq rfl _ rfl rfl (T2.out.ah δ3) rfl ?_)|(refine ak aq rfl _ _ rfl rfl rfl (R2.out.ah δ3) rfl rfl (aL _ _) ?_;intro W9 C9 k9));refine QAT ?_;intro p1 p2;refine ep aq Tryz.results189 rfl C9 rfl ?_;exact QB HN.out ((N2.out.up (W:=ah W2 δ3)).aV k9 (R2.out.ah _) nU (Nat.le_succ_of_le hB.out) (inferInstance:Le B (ah W2 δ3)).out)
end
section
open Hd
def lZ(o:Option eB):Bool:=match o with|some c=>decide (cg c.w=1)|none=>false
def kJ(o:Option eB)(w:nJ)(e:Ending)(w':nJ):Prop:=
 ∃(v:nK) (δ:nJ),e=.returned (.tuple #[v,.bool (lZ o)])/\w'=ah w δ/\∀c,o=some c->cg c.w=1->iD (ah w δ) v c
theorem Q8{o:Option eB}{w W:nJ}(h:lZ o=false)(hl:∃δ,W=ah w δ):kJ o w (.returned (.tuple #[.nilFunc,.bool false])) W:=by obtain⟨δ,rfl⟩:=hl;refine⟨_,δ,by rw[h],rfl,fun c hc hk=>?_⟩;subst hc;unfold lZ at h;simp[hk] at h
theorem XL{o:Option eB}{c:eB}{v:nK}{w W:nJ}(h:o=some c)(hk:cg c.w=1)[aD w.heap.size w W][Le w.heap.size W](hv:iD W v c):kJ o w (.returned (.tuple #[v,.bool true])) W:=by subst h;refine⟨v,W,by simp[lZ,hk],ai,fun c' hc hk'=>?_⟩;injection hc with hc;subst hc;refine QDF ?_;exact hv
theorem CR(ws:List aQ)(A:Option Addr)(ln cap:Nat)(jA:ws.length=ln)(hl:∀x∈ws,x.length<=1000)(hn:ws.length<=1001)(B:Nat)(w:nJ)(hS:Sl bS B w A cap ws)[hB:Le B w][h8:Le 8 w](hL:cT w):Calls nH 132 #[.slice A ln cap] w (o9 (cQ ws) w):=by subst jA;exact Ox ws A cap hl hn B w hS hL
theorem IE{ws:List aQ}(h:0<ws.length):bJ ws=pV (jO (nth ws 0)) (cQ (ws.drop 1)):=by
 cases ws with
 |nil=>exact absurd h (Nat.lt_irrefl _)
 |cons t r=>rfl
theorem qW(ws:List aQ)(A:Option Addr)(cap:Nat)(h0:0<ws.length)(hl:∀x∈ws,x.length<=1000)(hn:ws.length<=1001)(B:Nat)(w:nJ)(hS:Sl bS B w A cap ws)[hB:Le B w][h8:Le 8 w](hL:cT w):Calls nH 127 #[.slice A ws.length cap] w (kJ (bJ ws) w):=by
 obtain⟨b,o,rfl,hb,e0⟩:=hS.kK h0;have HS:=qh hS;have HL:=qh hL;have qm:=qh hl;have hcap:ws.length<=cap:=hS.1;refine QEX ?_;intro A2 rz;have Cc:Hid (Sl bS B w A2 (cap-1) (ws.drop 1)):=by have:=hS.drop gP 1 nQ;rw[<-rz];exact qh (by simpa [Addr.add_lit] using this)
 refine QBP ?_;intro Jc hn2 VH WO VG HD Xl HDN jh;unfold o9 at jh;have Ui:=qh (IE h0);obtain⟨wd,Yv⟩:∃x,jO (nth ws 0)=x:=⟨_,rfl⟩;have Wx:Hid (∀W:nJ,Calls nH 188 #[.string (str (nth ws 0))] W fun e w'=>e=.returned (.tuple #[.agg #[.int .i64 (Z7 wd:Nat),Z5 wd],.bool (isC wd)])/\∃δ,w'=ah W δ):=qh fun W=>by rw[<-Yv];exact LK (nth ws 0) W
 obtain⟨t0,ht0⟩:∃x,nth ws 0=x:=⟨_,rfl⟩;rw[ht0] at e0 Wx;rw[Yv] at Ui;have ib:Lt b w:=⟨nL hb hB.out⟩;have e0:w.cell? ⟨b,o,none⟩=some (.string (str t0)):=e0;clear hS hL hl h0 hb Yv ht0 hcap;rcases hc:isC wd with _|_
 ·have HN:Hid (lZ (bJ ws)=false):=by
   unfold Hid;rw[Ui.out];unfold pV lZ;cases wd with
   |none=>rfl
   |some d=>
    cases cQ (ws.drop 1) with
    |none=>rfl
    |some a=>
     have hc:decide (cg d=1)=false:=hc
     by_cases ha:a.length=tS d
     ·simp only[Option.bind_some,if_pos ha];exact hc
     ·simp only[Option.bind_some,if_neg ha]
  have hd:Z5 wd=.nilFunc:=by
   cases wd with
   |none=>rfl
   |some d=>cases d<;>first|rfl|(exact absurd hc nU)
  rw[hc,hd] at Wx;clear hc hd;go_enter Tryz.func127,Tryz.ntmps127;go_wp2_with (first|(go_at_call 188;refine(Wx.out _).mono ?_;rintro e w1 ⟨rfl,δ1,rfl⟩)|(go_at_call 132;refine(jh.out _ inferInstance inferInstance inferInstance HL.out.up).mono ?_;rintro e w1 ⟨A3,c3,δ2,rfl,rfl,_⟩));go_ret2;exact Q8 HN.out ag
 ·obtain⟨d,rfl⟩:∃d,wd=some d:=by
   cases wd with
   |none=>exact absurd hc nU
   |some d=>exact⟨d,rfl⟩
  have hk:cg d=1:=of_decide_eq_true hc;have hd:Z5 (some d)=.func (.func (EM d)) #[] #[]:=ER hk;have HK:=qh hk;have ha:Z7 (some d)=tS d:=by unfold Z7;simp[hk]
  rw[hc,hd,ha] at Wx;obtain⟨fid,uP⟩:∃f,EM d=f:=⟨_,rfl⟩;have HDV:Hid (Ze d=.func (.func fid) #[] #[]):=qh (by rw[<-uP];exact ER hk);rw[uP] at Wx;obtain⟨ar,har⟩:∃f,tS d=f:=⟨_,rfl⟩;rw[har] at Wx;have HAR:=qh har;clear hc hk hd ha uP har;cases ho:cQ (ws.drop 1) with
  |none=>
   have HN:Hid (lZ (bJ ws)=false):=by unfold Hid;rw[Ui.out,ho];rfl
   rw[ho] at jh
   clear ho
   go_enter Tryz.func127,Tryz.ntmps127
   go_wp2_with (first|(go_at_call 188;refine(Wx.out _).mono ?_;rintro e w1 ⟨rfl,δ1,rfl⟩)|(go_at_call 132;refine(jh.out _ inferInstance inferInstance inferInstance HL.out.up).mono ?_;rintro e w1 ⟨A3,c3,δ2,rfl,rfl,_⟩))
   go_ret2
   exact Q8 HN.out ag
  |some a=>
   rw[ho] at jh
   by_cases hal:a.length=ar
   ·have HC:Hid (bJ ws=some ⟨d,a⟩):=by unfold Hid;rw[Ui.out,ho];unfold pV;simp only[Option.bind_some,if_pos (hal.trans HAR.out.symm)]
    have adN:((a.length:Int) != (ar:Int))=false:=by simp[hal]
    have Xo:=qh hal;clear ho hal;go_enter Tryz.func127,Tryz.ntmps127;go_wp2_with (first|(go_at_call 188;refine(Wx.out _).mono ?_;rintro e w1 ⟨rfl,δ1,rfl⟩)|(go_at_call 132;refine(jh.out _ inferInstance inferInstance inferInstance HL.out.up).mono ?_;rintro e w1 ⟨A3,c3,δ2,rfl,rfl,AG⟩;have ux:=qh AG;clear AG));go_ret2;refine XL HC.out HK.out ⟨HK.out,Xo.out.trans HAR.out.symm,_,_,A3,c3,rfl,?_,?_,?_⟩
    ·show ay _ _ _ #[.int .i64 (tS d:Nat),Ze d];rw[HDV.out,HAR.out];exact((ay.new rfl).ah _).alloc _
    ·exact ay.new rfl
    ·exact ux.out.wide
   ·have HN:Hid (lZ (bJ ws)=false):=by unfold Hid;rw[Ui.out,ho];unfold pV;simp only[Option.bind_some,if_neg (fun e:a.length=tS d=>hal (e.trans HAR.out))];rfl
    have adN:((a.length:Int) != (ar:Int))=true:=by simp;omega
    clear ho hal;go_enter Tryz.func127,Tryz.ntmps127;go_wp2_with (first|(go_at_call 188;refine(Wx.out _).mono ?_;rintro e w1 ⟨rfl,δ1,rfl⟩)|(go_at_call 132;refine(jh.out _ inferInstance inferInstance inferInstance HL.out.up).mono ?_;rintro e w1 ⟨A3,c3,δ2,rfl,rfl,_⟩));go_ret2;exact Q8 HN.out ag
end
section
open Hd
theorem bI.past{S:Nat->Prop}{A X W:nJ}{g:Nat}(h:bI S A X)(k:bI (fun x=>x=g) X W)(hg:A.heap.size<=g):bI S A W:=
 ⟨nT h.size k.size,k.os.trans h.os,k.tape.trans h.tape,k.output.trans h.output,fun b hb hs=>(k.block b (nL hb h.size) (by rintro rfl;omega)).trans (h.block b hb hs)⟩
structure By(B D:Nat)(W:nJ)(k:cO)(d:ct):Prop where
 box:ay W D 131 (cE k d)
 ax:aT B W k.ax d.ax
 low:B<=D
theorem By.lt{B D:Nat}{W:nJ}{k:cO}{d:ct}(h:By B D W k d):D<W.heap.size:=h.box.tN
theorem Xu(k:cO)(d:ct)(hv:aE d.ax=true)(c:eB)(v:nK)(B D:Nat)(w:nJ)(hD:By B D w k d)(hC:iD w v c):Calls nH 129 #[.pointer (some ⟨D,0,none⟩),v] w fun e w'=>∃r':aW,e=.returned (.bool (gz d.ax c).isSome)/\By B D w' ⟨r',k.oA,k.oc⟩ ⟨jc d.ax c,d.az,d.given⟩/\bI (fun x=>x=D) w w':=by obtain⟨h1,h2,gc,ga,A,cap,rfl,b1,b2,hS⟩:=hC;have hB:Le B w:=⟨nT hD.low (nS hD.lt)⟩;have HC:Hid (Calls nH 189 #[aY k.ax d.ax,.pointer (some ⟨gc,0,none⟩),.pointer (some ⟨ga,0,none⟩)] w (tC B d.ax c w)):=qh (Tu k.ax d.ax hv c gc ga A cap h1 h2 B w hD.ax b1 b2 hS);unfold tC at HC;refine QDP ?_;intro td Dg bb ij;rw[Dg,ij] at HC;rw[Dg,ij];have HD:=qh hD;have D1:=qh hD.box;have lD:=hD.box.lt;clear h1 h2 b1 b2 hS Dg ij hD;go_enter Tryz.func129,Tryz.ntmps129;go_upto_region 2 with(first|(refine cA (cs':=aG k.ax d.ax) aq rfl _ rfl rfl D1.out (eU k d) rfl ?_)|(go_at_call 189;refine HC.out.mono ?_;rintro e w1 ⟨r',δ1,rfl,rfl,hm⟩;have HM:=qh hm;clear hm)|(refine ak aq rfl _ _ rfl rfl rfl (ay.new (T:=39) rfl) rfl rfl (aL _ _) ?_;intro W2 T2 k2));have g1:w.heap.size<=(ah w δ1).heap.size:=(inferInstance:Le w.heap.size (ah w δ1)).out;have D2:Hid (ay W2 D 131 (cE k d)):=qh (((D1.out.ah _).alloc _).eN k2 (Nat.ne_of_lt (nL lD.out g1)));have M2:Hid (aT B W2 r' td):=qh ((HM.out.up (W:=(ah w δ1).alloc _)).aV k2 (ay.new rfl) nU (nT hB.out g1) (by simpa using Nat.le_succ_of_le (nT hB.out g1)));have K2:Hid (bI (fun x=>x=D) w W2):=qh (((bI.ah _ w δ1).alloc _).past k2 g1);have lB2:Hid (B<=W2.heap.size):=qh (nT hB.out (K2.out.size));have T2:=qh T2;clear k2 HM D1;go_upto_region 3 with(first|(refine au aq rfl _ rfl rfl T2.out rfl ?_)|(refine nw aq rfl _ _ rfl rfl rfl D2.out rfl (AR k d) (aL _ _) (AQ k d r' td) ?_;intro W4 D4 k4));have M4:Hid (aT B W4 r' td):=qh (M2.out.aV k4 D2.out nU HD.out.low lB2.out);have K4:Hid (bI (fun x=>x=D) w W4):=qh (K2.out.trans k4);have D4:=qh D4;clear k4 M2 D2 T2 K2;go_wp2_with fail;go_ret;exact⟨r',rfl,⟨D4.out,M4.out,HD.out.low⟩,K4.out⟩
end
section
open Hd
theorem Ur{t:aO}(hv:An.valid t.aF=true)(a:List Int):ew t ⟨.gr,a⟩=(ug (An.valid t.aF) (bQ (ry t.aF) 21 0),uh (An.valid t.aF) (bQ (ry t.aF) 21 0)):=by rw[FL hv a,Fw hv]
theorem XP(r:aW)(t:aO)(hv:aE t=true)(a:List Int)(B:Nat)(w:nJ)(hT:aN B w r t)[hB:Le B w]:Calls nH 191 #[aY r t] w (eC (ew t ⟨.safe,a⟩) w):=by
 obtain⟨v1,v2,v3⟩:=aX.1 hv;refine QCB ?_;intro V1 V2 V3 H;have HE:Hid (ew t ⟨.safe,a⟩=(An.xV t.aF,cD (An.valid t.aF) 20)):=by unfold Hid;rw[Ga v1,v1];rfl
 clear hv v1 v2 v3 hT;go_enter Tryz.func191,Tryz.ntmps191;go_upto_region 1 with fail;refine QAW ?_;intro W1 aH cJ dF cW di dz b1;obtain⟨x0,x1,x2,x3,x4,x5,x6,x7,x8,x9,yQ,yP,ve,yO⟩:=b1.ax;clear aH b1;go_wp2_with (go_at_call 23;refine(XD r.aF t.aF B _ H.out.1.up).mono ?_;rintro e w1 ⟨rfl,δ1,rfl⟩);go_ret2;exact⟨by rw[HE.out];rfl,ag⟩
theorem UO(r:aW)(t:aO)(hv:aE t=true)(a:List Int)(B:Nat)(w:nJ)(hT:aN B w r t)[hB:Le B w]:Calls nH 192 #[aY r t] w (eC (ew t ⟨.gr,a⟩) w):=by obtain⟨v1,v2,v3⟩:=aX.1 hv;refine QCB ?_;intro V1 V2 V3 H;have HE:Hid (ew t ⟨.gr,a⟩=(ug (An.valid t.aF) (bQ (ry t.aF) 21 0),uh (An.valid t.aF) (bQ (ry t.aF) 21 0))):=Ur v1 a;clear hv v1 v2 v3 hT;go_enter Tryz.func192,Tryz.ntmps192;go_upto_region 1 with fail;refine QAW ?_;intro W1 aH cJ dF cW di dz b1;obtain⟨x0,x1,x2,x3,x4,x5,x6,x7,x8,x9,yQ,yP,ve,yO⟩:=b1.ax;clear aH b1;go_wp2_with (go_at_call 24;refine(Xt r.aF t.aF B _ H.out.1.up).mono ?_;rintro e w1 ⟨rfl,δ1,rfl⟩);go_ret2;exact⟨by rw[HE.out];rfl,ag⟩
theorem XS(r:aW)(t:aO)(hv:aE t=true)(a:List Int)(B:Nat)(w:nJ)(hT:aN B w r t)[hB:Le B w]:Calls nH 193 #[aY r t] w (eC (ew t ⟨.jl,a⟩) w):=by obtain⟨v1,v2,v3⟩:=aX.1 hv;refine QCB ?_;intro V1 V2 V3 H;have HE:Hid (ew t ⟨.jl,a⟩=(Me.cR t.af,0)):=rfl;clear hv v1 v2 v3 hT;go_enter Tryz.func193,Tryz.ntmps193;go_upto_region 1 with fail;refine QAW ?_;intro W1 aH cJ dF cW di dz b1;obtain⟨x0,x1,x2,x3,x4,x5,x6,x7,x8,x9,yQ,yP,ve,yO⟩:=b1.ax;clear aH b1;go_wp2_with (go_at_call 27;refine(KK r.af t.af V2.out B _ H.out.2.1.up).mono ?_;rintro e w1 ⟨rfl,δ1,rfl⟩);go_ret2;exact⟨by rw[HE.out];rfl,ag⟩
theorem XT(r:aW)(t:aO)(hv:aE t=true)(a:List Int)(B:Nat)(w:nJ)(hT:aN B w r t)[hB:Le B w]:Calls nH 194 #[aY r t] w (eC (ew t ⟨.done,a⟩) w):=by obtain⟨v1,v2,v3⟩:=aX.1 hv;refine QCB ?_;intro V1 V2 V3 H;have HE:Hid (ew t ⟨.done,a⟩=(Me.mE t.af,0)):=rfl;clear hv v1 v2 v3 hT;go_enter Tryz.func194,Tryz.ntmps194;go_upto_region 1 with fail;refine QAW ?_;intro W1 aH cJ dF cW di dz b1;obtain⟨x0,x1,x2,x3,x4,x5,x6,x7,x8,x9,yQ,yP,ve,yO⟩:=b1.ax;clear aH b1;go_wp2_with (go_at_call 29;refine(PI r.af t.af V2.out B _ H.out.2.1.up).mono ?_;rintro e w1 ⟨rfl,δ1,rfl⟩);go_ret2;exact⟨by rw[HE.out];rfl,ag⟩
theorem XO(r:aW)(t:aO)(hv:aE t=true)(a:List Int)(B:Nat)(w:nJ)(hT:aN B w r t)[hB:Le B w]:Calls nH 195 #[aY r t] w (eC (ew t ⟨.fV,a⟩) w):=by obtain⟨v1,v2,v3⟩:=aX.1 hv;refine QCB ?_;intro V1 V2 V3 H;have HE:Hid (ew t ⟨.fV,a⟩=pH t.aa):=rfl;clear hv v1 v2 v3 hT;go_enter Tryz.func195,Tryz.ntmps195;go_upto_region 1 with fail;refine QAW ?_;intro W1 aH cJ dF cW di dz b1;obtain⟨x0,x1,x2,x3,x4,x5,x6,x7,x8,x9,yQ,yP,ve,yO⟩:=b1.ax;clear aH b1;go_wp2_with (go_at_call 30;refine(QO r.aa t.aa V3.out B _ H.out.2.2.up).mono ?_;rintro e w1 ⟨rfl,δ1,rfl⟩);go_ret2;exact⟨by rw[HE.out];rfl,ag⟩
theorem aai(r:aW)(t:aO)(hv:aE t=true)(a:List Int)(B:Nat)(w:nJ)(hT:aN B w r t)[hB:Le B w]:Calls nH 196 #[aY r t] w (eC (ew t ⟨.yB,a⟩) w):=by obtain⟨v1,v2,v3⟩:=aX.1 hv;refine QCB ?_;intro V1 V2 V3 H;have HE:Hid (ew t ⟨.yB,a⟩=(Sa.rQ t.aa,Sa.ud t.aa)):=rfl;clear hv v1 v2 v3 hT;go_enter Tryz.func196,Tryz.ntmps196;go_upto_region 1 with fail;refine QAW ?_;intro W1 aH cJ dF cW di dz b1;obtain⟨x0,x1,x2,x3,x4,x5,x6,x7,x8,x9,yQ,yP,ve,yO⟩:=b1.ax;clear aH b1;go_wp2_with (go_at_call 33;refine(XG r.aa t.aa V3.out B _ H.out.2.2.up).mono ?_;rintro e w1 ⟨rfl,δ1,rfl⟩);go_ret2;exact⟨by rw[HE.out];rfl,ag⟩
theorem XR(r:aW)(t:aO)(hv:aE t=true)(a:List Int)(B:Nat)(w:nJ)(hT:aN B w r t)[hB:Le B w]:Calls nH 197 #[aY r t] w (mS (lP t ⟨.nD,a⟩) w):=by obtain⟨v1,v2,v3⟩:=aX.1 hv;refine QCB ?_;intro V1 V2 V3 H;clear hv v1 v2 v3 hT;go_enter Tryz.func197,Tryz.ntmps197;go_upto_region 1 with fail;refine QAW ?_;intro W1 aH cJ dF cW di dz b1;obtain⟨x0,x1,x2,x3,x4,x5,x6,x7,x8,x9,yQ,yP,ve,yO⟩:=b1.ax;clear aH b1;go_wp2_with (go_at_call 26;refine(Yb r.aF t.aF B _ H.out.1.up).mono ?_;rintro e w1 ⟨A1,c1,δ1,rfl,rfl,hs⟩;have HS:=qh hs;clear hs);go_ret2;refine⟨A1,_,c1,_,rfl,rfl,ai,?_⟩;refine QDF ?_;exact HS.out
theorem UP(r:aW)(t:aO)(hv:aE t=true)(a:List Int)(B:Nat)(w:nJ)(hT:aN B w r t)[hB:Le B w]:Calls nH 198 #[aY r t] w (mS (lP t ⟨.order,a⟩) w):=by obtain⟨v1,v2,v3⟩:=aX.1 hv;refine QCB ?_;intro V1 V2 V3 H;have HOL:Hid ((Me.fZ t.af).length=t.af.hs.length):=qh (Me.ji (Me.gp (Me.aC.1 v2).2.2.2.2.2));clear hv v1 v2 v3 hT;go_enter Tryz.func198,Tryz.ntmps198;go_upto_region 1 with fail;refine QAW ?_;intro W1 aH cJ dF cW di dz b1;obtain⟨x0,x1,x2,x3,x4,x5,x6,x7,x8,x9,yQ,yP,ve,yO⟩:=b1.ax;clear aH b1;go_wp2_with (go_at_call 28;refine(uK r.af t.af V2.out B _ H.out.2.1.up).mono ?_;rintro e w1 ⟨A1,c1,δ1,rfl,rfl,HS⟩);go_ret2;refine⟨A1,_,c1,_,rfl,HOL.out.symm,ai,?_⟩;refine QDF ?_;exact HS.out
theorem XQ(r:aW)(t:aO)(hv:aE t=true)(a:List Int)(B:Nat)(w:nJ)(hT:aN B w r t)[hB:Le B w]:Calls nH 199 #[aY r t] w (mS (lP t ⟨.pack,a⟩) w):=by obtain⟨v1,v2,v3⟩:=aX.1 hv;refine QCB ?_;intro V1 V2 V3 H;clear hv v1 v2 v3 hT;go_enter Tryz.func199,Tryz.ntmps199;go_upto_region 1 with fail;refine QAW ?_;intro W1 aH cJ dF cW di dz b1;obtain⟨x0,x1,x2,x3,x4,x5,x6,x7,x8,x9,yQ,yP,ve,yO⟩:=b1.ax;clear aH b1;go_wp2_with (go_at_call 31;refine(UC r.aa t.aa V3.out B _ H.out.2.2.up).mono ?_;rintro e w1 ⟨A1,m1,c1,rfl,hm,hs,δ1,rfl⟩;have HS:=qh hs;have HM:=qh hm;clear hs hm);go_ret2;refine⟨A1,_,c1,_,rfl,HM.out,ai,?_⟩;refine QDF ?_;exact HS.out
theorem Mx(r:aW)(t:aO)(hv:aE t=true)(d:Int)(ga:Nat)(A:Option Addr)(cap:Nat)(B:Nat)(w:nJ)(hT:aN B w r t)[hB:Le B w](hA:ay w ga 35 #[.slice A 1 cap])(hS:Sl aI w.heap.size w A cap [d]):Calls nH 190 #[aY r t,.pointer (some ⟨ga,0,none⟩)] w (eC (ew t ⟨.early,[d]⟩) w):=by
 obtain⟨v1,v2,v3⟩:=aX.1 hv;have V3:=qh v3;have H:=qh hT;have HE:Hid (ew t ⟨.early,[d]⟩=jS t.aa d):=rfl;obtain⟨bb,oo,rfl,ij,dd⟩:=hS.int (k:=0) nV;have dd:w.cell? ⟨bb,oo,none⟩=some (.int .i64 d):=dd;have ib:Lt bb w:=⟨ij⟩;have ig:=hA.lt;have y0:=hA.cell (i:=0) (v:=.slice (some ⟨bb,oo,none⟩) 1 cap) rfl;clear hv v1 v2 v3 hT hA hS ij;go_enter Tryz.func190,Tryz.ntmps190;go_upto_region 1 with fail;refine QAW ?_;intro W1 aH cJ dF cW di dz b1;obtain⟨x0,x1,x2,x3,x4,x5,x6,x7,x8,x9,yQ,yP,ve,yO⟩:=b1.ax;have y1:W1.cell? ⟨ga,0,none⟩=some (.slice (some ⟨bb,oo,none⟩) 1 cap):=by rw[aH.out];go_simp
 have y2:W1.cell? ⟨bb,oo,none⟩=some (.int .i64 d):=by rw[aH.out];go_simp
 have ib1:Lt bb W1:=nr aH;have ig1:Lt ga W1:=nr aH;clear aH b1;refine wpRl ?_;repeat (go_big_quiet_step ((first|(go_at_call 32;exact Calls.bV (QS r.aa t.aa V3.out d B _ H.out.2.2.up)))))
 refine QBU ?_;rintro _ ⟨δq,rfl⟩;go_wp2_with fail;go_ret2;exact⟨by rw[HE.out];rfl,ag⟩
end
end Go.Proofs.YtpnnapeoanafdaaGreatDoor
