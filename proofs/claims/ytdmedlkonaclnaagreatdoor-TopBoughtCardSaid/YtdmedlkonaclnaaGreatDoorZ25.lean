/- A part of the proof that a law of layer 12 holds, cut small by a program (names and blanks): Hp7, Hp8, Hp9, Hp10, Hp11, Hp12, Hp13. -/
import Derived.Lib.SliceRun
import Derived.Test.YtdmedlkonaclnaaGreatDoorZ24
set_option maxRecDepth 100000
set_option maxHeartbeats 40000000
set_option linter.unusedVariables false
set_option linter.unusedSimpArgs false
namespace Go.Proofs.YtdmedlkonaclnaaGreatDoor
open Go.RowKit
open Nat renaming le_trans → nT, lt_of_lt_of_le → nL, le_refl → nR, zero_le → nE, le_of_lt → nS, le_succ → nF
open Go.Proofs.Tryz renaming prog → nH
open Go renaming World → nJ, Value → nK
section
open Hd
section
variable{w:nJ}{g:Nat}{T:TypeId}{cs:Array nK}
theorem AP{base n c size:Nat}{xs:List nK}(h:w.ownsRow base T size (.slice (some ⟨g,0,none⟩) n c) n xs):∃cs,ax w g T cs/\base<=g/\n<=c/\c<=maxLen/\cs.size=c*size/\cs.toList.take (n*size)=xs:=by
 rcases h.2 with⟨hv,_⟩|⟨g',cap',cur,hv,h1,h2,h3,h4,h5,h6⟩
 ·cases hv
 ·injection hv with hA _ hc;injection hA with hA;injection hA with hg;subst hg hc;exact⟨cur,h2,h1,h3,h4,h5,h6⟩
theorem zx{base n c size:Nat}{xs:List nK}(h:ax w g T cs)(h1:base<=g)(h2:n<=c)(h3:c<=maxLen)(h4:cs.size=c*size)(h5:cs.toList.take (n*size)=xs)(h6:xs.length=n*size):w.ownsRow base T size (.slice (some ⟨g,0,none⟩) n c) n xs:=
 ⟨h6,.inr ⟨g,c,cs,rfl,h1,h,h2,h3,h4,h5⟩⟩
theorem tg{b:Nat}(vs:List nK):∀ {w:nJ} {o:Nat},b<=g->Below b w (w.setCells g o vs):=by
 induction vs with
 |nil=>intro w o h;exact Below.refl _ _
 |cons v vs ih=>intro w o h;exact(Below.setCell (Below.refl _ w) (p:=⟨g,o,none⟩) h v).trans (ih h)
end
theorem pH{P:Program}{ops:Array Oper}{o:Oper}{a:Act}{w:nJ}{K:Act->nJ->Prop}{Q:Exit->Act->nJ->Prop}{E:Prop}(hg:o.guard=none)(s x:Operand)(t:TypeId)(hop:o.op=Op.call { callee:=Callee.builtin Builtin.append,args:=#[s,x],argTypes:=#[t,t] })(e:TypeId)(i:TypeInfo)(size:Nat)(h1:P.underlying t=some (.slice e))(h2:P.info? e=some i)(h4:i.size=size)(b off n cap:Nat)(hs:a.eval s=.slice (some ⟨b,off,none⟩) n cap)(ad:Addr)(m c:Nat)(news:List nK)(hx:a.eval x=.slice (some ad) m c)(hn:news.length=m*size)(hc:∀j u,news[j]?=some u->w.cell? (ad.add j)=some u)(h1c:∀u∈news,u.oneCell'=true)(hroom:n+m<=cap)(hspare:∀j,j<news.length->(w.cell? ⟨b,off+n*size+j,none⟩).isSome=true/\w.frozen? ⟨b,off+n*size+j,none⟩=false)(r:Nat)(hr:n+m=r)(W':nJ)(hW:w.setCells b (off+n*size) news=W')(hK:K (a.put o.dst (.slice (some ⟨b,off,none⟩) r cap)) W'):if Region.wanted o (yielded ops a.tmps)=true then Oper.wp P o a w K Q else E:=by subst hr hW;exact step_append_room hg s x t hop e i size h1 h2 h4 b off n cap hs ad m c news hx hn hc h1c hroom hspare hK
theorem Ky(w:nJ)(ty:TypeId)(g o c:Nat)(h0:∀j,j<4->(w.cell? ⟨g,o+j,none⟩).isSome=true)(f0:∀j,j<4->w.frozen? ⟨g,o+j,none⟩=false):(Builtin.clear_ #[29] ty #[.slice (some ⟨g,o,none⟩) 1 c]).run nH w=.ok (.tuple #[]) (w.setCells g o [.int .i64 0,.int .i64 0,.int .i64 0,.int .i64 0]):=by
 obtain⟨i,hu,hi,hz,_⟩:=IS;have hv:∀w,(zeroValue 93).run nH w=.ok (.agg #[.int .i64 0,.int .i64 0,.int .i64 0,.int .i64 0]) w:=fun w=>by kernel_rfl
 have hst:=run_storeCells_cells (P:=nH) g o [.int .i64 0,.int .i64 0,.int .i64 0,.int .i64 0] 0 w (by
  intro j hj
  simpa using h0 j (by simpa using hj)) (by
  intro j hj
  simpa using f0 j (by simpa using hj)) (by intro v hv;simp at hv;(repeat' rcases hv with rfl|hv)<;>first|rfl|(subst hv;rfl))
 have hzc:(Builtin.zeroCells (Value.agg #[.int .i64 0,.int .i64 0,.int .i64 0,.int .i64 0]).cells 1).toList=[.int .i64 0,.int .i64 0,.int .i64 0,.int .i64 0]:=by kernel_rfl
 simp only[Nat.add_zero] at hst;simp[Builtin.clear_,run_underlying hu,hv,hzc,hst]
theorem Oh(W1:nJ)(g c i k:Nat)(ps:List Me.kE)(w:nJ)[hW:Le W1.heap.size w](h:w.ownsRow W1.heap.size 93 4 (.slice (some ⟨g,0,none⟩) (k+1) c) (k+1) (ps.flatMap bB))(hl:ps.length=k+1)(hi:i<=k)(hk:k<=100):Calls nH 251 #[.slice (some ⟨g,0,none⟩) (k+1) c,.int .i64 i,.int .i64 ((i:Int)+1)] w fun e w'=>e=.returned (.slice (some ⟨g,0,none⟩) k c)/\∃δ,w'=ez W1.heap.size w δ/\w'.ownsRow W1.heap.size 93 4 (.slice (some ⟨g,0,none⟩) k c) k ((ps.take i++ps.drop (i+1)).flatMap bB):=by
 obtain⟨cs,jh,Rg,hnc,LP,hsz,hcs⟩:=AP h;obtain⟨ti,hu,Ux,hz,hts,_⟩:=IS;have ack:c<=9223372036854775807:=LP;have hlen:(ps.flatMap bB).length=(k+1)*4:=by rw[bX bB 4 (fun _=>rfl),hl]
 obtain⟨news,hnews⟩:∃news,news=(ps.drop (i+1)).flatMap bB:=⟨_,rfl⟩;have xm:news.length=(k-i)*4:=by rw[hnews,bX bB 4 (fun _=>rfl),List.length_drop,hl];omega
 have hcell:∀j v,(ps.flatMap bB)[j]?=some v->w.cell? ⟨g,j,none⟩=some v:=fun j v hj=>by
  refine jh.cell ?_;rw[<-hcs,List.getElem?_take] at hj;split at hj
  ·simpa using hj
  ·cases hj
 have hall:∀j,j<(k+1)*4->(w.cell? ⟨g,j,none⟩).isSome=true:=fun j hj=>by
  have:j<(ps.flatMap bB).length:=by rw[hlen];exact hj
  rw[hcell j _ (List.getElem?_eq_getElem this)];rfl
 have hsplit:ps.flatMap bB=(ps.take (i+1)).flatMap bB++news:=by rw[hnews,<-List.flatMap_append,List.take_append_drop]
 have Ih:((ps.take (i+1)).flatMap bB).length=(i+1)*4:=by rw[bX bB 4 (fun _=>rfl),List.length_take,hl,Nat.min_eq_left nQ]
 obtain⟨A,hA,hsrc⟩:∃A:Addr,(if c=i+1 then some (⟨g,0,none⟩:Addr) else some ⟨g,(i+1)*4,none⟩)=some A/\Hid (∀t u,news[t]?=some u->w.drew.cell? (A.add t)=some u):=by
  by_cases hc:c=i+1
  ·refine⟨⟨g,0,none⟩,by simp[hc],fun t u hu=>?_⟩;have h0:news.length=0:=by rw[xm];omega
   rw[List.length_eq_zero_iff.1 h0] at hu;simp at hu
  ·refine⟨⟨g,(i+1)*4,none⟩,by simp[hc],fun t u hu=>?_⟩;rw[Addr.add_lit];show w.cell? _=_;refine hcell _ _ ?_;rw[hsplit,List.getElem?_append_right (by rw[Ih];omega),Ih,Nat.add_sub_cancel_left];exact hu
 have s2:Hid (∀u∈news,u.oneCell'=true):=by rw[hnews];exact ei bB qw _
 have s3:Hid (∀t,t<news.length->(w.drew.cell? ⟨g,0+i*4+t,none⟩).isSome=true/\w.drew.frozen? ⟨g,0+i*4+t,none⟩=false):=fun t ht=>by rw[xm] at ht;exact⟨hall _ nQ,jh.free _⟩
 obtain⟨cs1,kL,hz1,ht1⟩:=ax.ql news (0+i*4) (show ax w.drew g _ cs from jh.drew) (by rw[xm,hsz];omega);obtain⟨W2,eJ⟩:∃W2,w.drew.setCells g (0+i*4) news=W2:=⟨_,rfl⟩;rw[eJ] at kL;have Rc:∀j,j<(k+1)*4->(W2.cell? ⟨g,j,none⟩).isSome=true:=fun j hj=>by
  have:j<cs1.size:=by rw[hz1,hsz];omega
  rw[kL.cell (i:=j) (Array.getElem?_eq_getElem this)];rfl
 have hcl:∀ty,(Builtin.clear_ #[29] ty #[.slice (some ⟨g,k*4,none⟩) 1 (c-k)]).run nH W2=.ok (.tuple #[]) (W2.setCells g (k*4) [.int .i64 0,.int .i64 0,.int .i64 0,.int .i64 0]):=fun ty=>
  Ky W2 ty g (k*4) (c-k) (fun j hj=>Rc _ nQ) (fun j hj=>kL.free _)
 obtain⟨cs2,gM,uk,ND⟩:=ax.ql [.int .i64 0,.int .i64 0,.int .i64 0,.int .i64 0] (k*4) kL (by rw[hz1,hsz];simp only[List.length_cons,List.length_nil];omega);have bQ:Below W1.heap.size w (W2.setCells g (k*4) [.int .i64 0,.int .i64 0,.int .i64 0,.int .i64 0]):=by rw[<-eJ];exact((Below.drew (Below.refl _ w)).trans (tg news Rg)).trans (tg _ Rg)
 have Uz:(W2.setCells g (k*4) [.int .i64 0,.int .i64 0,.int .i64 0,.int .i64 0]).ownsRow W1.heap.size 93 4 (.slice (some ⟨g,0,none⟩) k c) k ((ps.take i++ps.drop (i+1)).flatMap bB):=by
  have e1:(ps.take i).flatMap bB=cs.toList.take (i*4):=by
   have:=congrArg (List.take (i*4)) hcs;rw[List.take_take,Nat.min_eq_left nQ] at this;rw[this];have e:ps.flatMap bB=(ps.take i).flatMap bB++(ps.drop i).flatMap bB:=by rw[<-List.flatMap_append,List.take_append_drop]
   rw[e,List.take_left' (by rw[bX bB 4 (fun _=>rfl),List.length_take,hl,Nat.min_eq_left nQ])]
  have hcl:cs.toList.length=c*4:=by rw[Array.length_toList,hsz]
  have e2:((ps.take i++ps.drop (i+1)).flatMap bB)=cs.toList.take (i*4)++news:=by rw[List.flatMap_append,e1,hnews]
  refine zx gM Rg nQ LP (by rw[uk,hz1,hsz]) ?_ ?_
  ·rw[ND,ht1,e2];have l1:(cs.toList.take (0+i*4)++news).length=k*4:=by rw[List.length_append,List.length_take,hcl,xm];omega
   rw[List.append_assoc,List.take_append_of_le_length (by rw[List.length_take,List.length_append,l1];omega),List.take_take,Nat.min_self,List.take_left' l1,Nat.zero_add]
  ·rw[e2,List.length_append,List.length_take,hcl,xm];omega
 refine QDD ?_;intro W2' HF HB HU HI HT HNL f1 f2 f3 f4 f5 f6 f7 f8 f9;clear h hl jh hcs hlen hnews hcell hall hsplit Ih kL ht1 hz1 Rc gM uk ND bQ Uz hu Ux hz hts xm eJ LP hsz;go_enter Tryz.func251,Tryz.ntmps251;go_wp2_with fail;go_region_law (refine pH rfl (.tmp 22) (.tmp 25) 29 rfl 93 ti 4 HU.out HI.out HT.out g 0 i c (by simp[Act.eval,Act.put]) A (k-i) (c-(i+1)) news (by simp[Act.eval,Act.put]) HNL.out hsrc.out s2.out nQ s3.out k nQ W2 W2'.out ?_);go_wp2;go_ret;exact⟨rfl,_,(yK HB.out).symm,HF.out⟩
theorem Oq(A:Option Addr)(c:Nat)(xs:List An.Sp)(ln:Nat)(hn:xs.length=ln)(B:Nat)(w:nJ)[hB:Le B w](h:Sl gI B w A c xs)(q:ln<=1000):Calls nH 99 #[.slice A ln c] w fun e w'=>∃(A':Option Addr) (c':Nat) (δ:nJ),e=.returned (.slice A' ln c')/\w'=af w δ/\(af w δ).ownsRow w.heap.size 23 2 (.slice A' ln c') ln (xs.flatMap gI):=by
 subst hn;have H:=qh h;clear h;have WI:∀(w:nJ) (a:Option Addr) (n c n' c':Nat),(binOp .eql 24 (.slice a n c) (.slice none n' c')).run nH w=.ok (.bool a.isNone) w:=fun w a n c n' c'=>Lib.run_eql_slice_nil w _ _ a n c n' c' Tryz.underlying24;cases A with
 |none=>
  have hx:xs=[]:=by
   have h2:=H.out.2.2;by_cases hx:xs=[]
   ·exact hx
   ·obtain⟨_,_,he,_⟩:=h2 (by
     obtain⟨y,ys,rfl⟩:=List.exists_cons_of_ne_nil hx
     simp[gI])
    cases he
  subst hx
  go_enter Tryz.func99,Tryz.ntmps99
  go_wp2_with fail
  go_ret
  exact⟨none,0,_,rfl,aq,World.ownsRow_nil _ _ _ _⟩
 |some ad=>
  go_enter Tryz.func99,Tryz.ntmps99
  go_wp2_with (at_builtin;(refine bS w Y7 (.tmp 5) (.tmp 6) rfl rfl (v:=.slice (some ⟨_,0,none⟩) 0 0) (cB nW nW) rfl (B:=B) (A:=some ad) (m:=xs.length) (c:=c) (news:=xs.flatMap gI) rfl (H.out.up.2.2) (bX gI 2 (fun _=>rfl) _) (ei gI Qh _) nQ nQ ?_);intro A1 c1 δ1 eF hg1)
  go_ret
  refine⟨A1,c1,_,rfl,aq,?_⟩
  refine QDJ ?_
  exact eF
theorem Oo(A:Option Addr)(c:Nat)(xs:List An.Im)(ln:Nat)(hn:xs.length=ln)(B:Nat)(w:nJ)[hB:Le B w](h:Sl fC B w A c xs)(q:ln<=1000):Calls nH 101 #[.slice A ln c] w fun e w'=>∃(A':Option Addr) (c':Nat) (δ:nJ),e=.returned (.slice A' ln c')/\w'=af w δ/\(af w δ).ownsRow w.heap.size 149 5 (.slice A' ln c') ln (xs.flatMap fC):=by
 subst hn;have H:=qh h;clear h;have WI:∀(w:nJ) (a:Option Addr) (n c n' c':Nat),(binOp .eql 26 (.slice a n c) (.slice none n' c')).run nH w=.ok (.bool a.isNone) w:=fun w a n c n' c'=>Lib.run_eql_slice_nil w _ _ a n c n' c' Tryz.underlying26;cases A with
 |none=>
  have hx:xs=[]:=by
   have h2:=H.out.2.2;by_cases hx:xs=[]
   ·exact hx
   ·obtain⟨_,_,he,_⟩:=h2 (by
     obtain⟨y,ys,rfl⟩:=List.exists_cons_of_ne_nil hx
     simp[fC])
    cases he
  subst hx
  go_enter Tryz.func101,Tryz.ntmps101
  go_wp2_with fail
  go_ret
  exact⟨none,0,_,rfl,aq,World.ownsRow_nil _ _ _ _⟩
 |some ad=>
  go_enter Tryz.func101,Tryz.ntmps101
  go_wp2_with (at_builtin;(refine bS w Y6 (.tmp 5) (.tmp 6) rfl rfl (v:=.slice (some ⟨_,0,none⟩) 0 0) (cB nW nW) rfl (B:=B) (A:=some ad) (m:=xs.length) (c:=c) (news:=xs.flatMap fC) rfl (H.out.up.2.2) (bX fC 5 (fun _=>rfl) _) (ei fC Lu _) nQ nQ ?_);intro A1 c1 δ1 eF hg1)
  go_ret
  refine⟨A1,c1,_,rfl,aq,?_⟩
  refine QDJ ?_
  exact eF
theorem G5(A:Option Addr)(c:Nat)(xs:List Me.kE)(ln:Nat)(hn:xs.length=ln)(B:Nat)(w:nJ)[hB:Le B w](h:Sl bB B w A c xs)(q:ln<=1000):Calls nH 102 #[.slice A ln c] w fun e w'=>∃(A':Option Addr) (c':Nat) (δ:nJ),e=.returned (.slice A' ln c')/\w'=af w δ/\(af w δ).ownsRow w.heap.size 93 4 (.slice A' ln c') ln (xs.flatMap bB):=by
 subst hn;have H:=qh h;clear h;have WI:∀(w:nJ) (a:Option Addr) (n c n' c':Nat),(binOp .eql 29 (.slice a n c) (.slice none n' c')).run nH w=.ok (.bool a.isNone) w:=fun w a n c n' c'=>Lib.run_eql_slice_nil w _ _ a n c n' c' Tryz.underlying29;cases A with
 |none=>
  have hx:xs=[]:=by
   have h2:=H.out.2.2;by_cases hx:xs=[]
   ·exact hx
   ·obtain⟨_,_,he,_⟩:=h2 (by
     obtain⟨y,ys,rfl⟩:=List.exists_cons_of_ne_nil hx
     simp[bB])
    cases he
  subst hx
  go_enter Tryz.func102,Tryz.ntmps102
  go_wp2_with fail
  go_ret
  exact⟨none,0,_,rfl,aq,World.ownsRow_nil _ _ _ _⟩
 |some ad=>
  go_enter Tryz.func102,Tryz.ntmps102
  go_wp2_with (at_builtin;(refine bS w IS (.tmp 5) (.tmp 6) rfl rfl (v:=.slice (some ⟨_,0,none⟩) 0 0) (cB nW nW) rfl (B:=B) (A:=some ad) (m:=xs.length) (c:=c) (news:=xs.flatMap bB) rfl (H.out.up.2.2) (bX bB 4 (fun _=>rfl) _) (ei bB qw _) nQ nQ ?_);intro A1 c1 δ1 eF hg1)
  go_ret
  refine⟨A1,c1,_,rfl,aq,?_⟩
  refine QDJ ?_
  exact eF
theorem Sc(A:Option Addr)(c:Nat)(xs:List Me.Pr)(ln:Nat)(hn:xs.length=ln)(B:Nat)(w:nJ)[hB:Le B w](h:Sl dH B w A c xs)(q:ln<=1000):Calls nH 103 #[.slice A ln c] w fun e w'=>∃(A':Option Addr) (c':Nat) (δ:nJ),e=.returned (.slice A' ln c')/\w'=af w δ/\(af w δ).ownsRow w.heap.size 95 2 (.slice A' ln c') ln (xs.flatMap dH):=by
 subst hn;have H:=qh h;clear h;have WI:∀(w:nJ) (a:Option Addr) (n c n' c':Nat),(binOp .eql 30 (.slice a n c) (.slice none n' c')).run nH w=.ok (.bool a.isNone) w:=fun w a n c n' c'=>Lib.run_eql_slice_nil w _ _ a n c n' c' Tryz.underlying30;cases A with
 |none=>
  have hx:xs=[]:=by
   have h2:=H.out.2.2;by_cases hx:xs=[]
   ·exact hx
   ·obtain⟨_,_,he,_⟩:=h2 (by
     obtain⟨y,ys,rfl⟩:=List.exists_cons_of_ne_nil hx
     simp[dH])
    cases he
  subst hx
  go_enter Tryz.func103,Tryz.ntmps103
  go_wp2_with fail
  go_ret
  exact⟨none,0,_,rfl,aq,World.ownsRow_nil _ _ _ _⟩
 |some ad=>
  go_enter Tryz.func103,Tryz.ntmps103
  go_wp2_with (at_builtin;(refine bS w Dh (.tmp 5) (.tmp 6) rfl rfl (v:=.slice (some ⟨_,0,none⟩) 0 0) (cB nW nW) rfl (B:=B) (A:=some ad) (m:=xs.length) (c:=c) (news:=xs.flatMap dH) rfl (H.out.up.2.2) (bX dH 2 (fun _=>rfl) _) (ei dH Dw _) nQ nQ ?_);intro A1 c1 δ1 eF hg1)
  go_ret
  refine⟨A1,c1,_,rfl,aq,?_⟩
  refine QDJ ?_
  exact eF
theorem Ou(A:Option Addr)(c:Nat)(xs:List Sa.Kind)(ln:Nat)(hn:xs.length=ln)(B:Nat)(w:nJ)[hB:Le B w](h:Sl rB B w A c xs)(q:ln<=1000):Calls nH 104 #[.slice A ln c] w fun e w'=>∃(A':Option Addr) (c':Nat) (δ:nJ),e=.returned (.slice A' ln c')/\w'=af w δ/\(af w δ).ownsRow w.heap.size 152 2 (.slice A' ln c') ln (xs.flatMap rB):=by
 subst hn;have H:=qh h;clear h;have WI:∀(w:nJ) (a:Option Addr) (n c n' c':Nat),(binOp .eql 33 (.slice a n c) (.slice none n' c')).run nH w=.ok (.bool a.isNone) w:=fun w a n c n' c'=>Lib.run_eql_slice_nil w _ _ a n c n' c' Tryz.underlying33;cases A with
 |none=>
  have hx:xs=[]:=by
   have h2:=H.out.2.2;by_cases hx:xs=[]
   ·exact hx
   ·obtain⟨_,_,he,_⟩:=h2 (by
     obtain⟨y,ys,rfl⟩:=List.exists_cons_of_ne_nil hx
     simp[rB])
    cases he
  subst hx
  go_enter Tryz.func104,Tryz.ntmps104
  go_wp2_with fail
  go_ret
  exact⟨none,0,_,rfl,aq,World.ownsRow_nil _ _ _ _⟩
 |some ad=>
  go_enter Tryz.func104,Tryz.ntmps104
  go_wp2_with (at_builtin;(refine bS w Y9 (.tmp 5) (.tmp 6) rfl rfl (v:=.slice (some ⟨_,0,none⟩) 0 0) (cB nW nW) rfl (B:=B) (A:=some ad) (m:=xs.length) (c:=c) (news:=xs.flatMap rB) rfl (H.out.up.2.2) (bX rB 2 (fun _=>rfl) _) (ei rB FE _) nQ nQ ?_);intro A1 c1 δ1 eF hg1)
  go_ret
  refine⟨A1,c1,_,rfl,aq,?_⟩
  refine QDJ ?_
  exact eF
theorem Ot(A:Option Addr)(c:Nat)(xs:List Sa.Part)(ln:Nat)(hn:xs.length=ln)(B:Nat)(w:nJ)[hB:Le B w](h:Sl jD B w A c xs)(q:ln<=1000):Calls nH 105 #[.slice A ln c] w fun e w'=>∃(A':Option Addr) (c':Nat) (δ:nJ),e=.returned (.slice A' ln c')/\w'=af w δ/\(af w δ).ownsRow w.heap.size 74 2 (.slice A' ln c') ln (xs.flatMap jD):=by
 subst hn;have H:=qh h;clear h;have WI:∀(w:nJ) (a:Option Addr) (n c n' c':Nat),(binOp .eql 34 (.slice a n c) (.slice none n' c')).run nH w=.ok (.bool a.isNone) w:=fun w a n c n' c'=>Lib.run_eql_slice_nil w _ _ a n c n' c' Tryz.underlying34;cases A with
 |none=>
  have hx:xs=[]:=by
   have h2:=H.out.2.2;by_cases hx:xs=[]
   ·exact hx
   ·obtain⟨_,_,he,_⟩:=h2 (by
     obtain⟨y,ys,rfl⟩:=List.exists_cons_of_ne_nil hx
     simp[jD])
    cases he
  subst hx
  go_enter Tryz.func105,Tryz.ntmps105
  go_wp2_with fail
  go_ret
  exact⟨none,0,_,rfl,aq,World.ownsRow_nil _ _ _ _⟩
 |some ad=>
  go_enter Tryz.func105,Tryz.ntmps105
  go_wp2_with (at_builtin;(refine bS w Th (.tmp 5) (.tmp 6) rfl rfl (v:=.slice (some ⟨_,0,none⟩) 0 0) (cB nW nW) rfl (B:=B) (A:=some ad) (m:=xs.length) (c:=c) (news:=xs.flatMap jD) rfl (H.out.up.2.2) (bX jD 2 (fun _=>rfl) _) (ei jD vu _) nQ nQ ?_);intro A1 c1 δ1 eF hg1)
  go_ret
  refine⟨A1,c1,_,rfl,aq,?_⟩
  refine QDJ ?_
  exact eF
theorem Sd(A:Option Addr)(c:Nat)(xs:List Int)(ln:Nat)(hn:xs.length=ln)(B:Nat)(w:nJ)[hB:Le B w](h:Sl aI B w A c xs)(q:ln<=1000):Calls nH 106 #[.slice A ln c] w fun e w'=>∃(A':Option Addr) (c':Nat) (δ:nJ),e=.returned (.slice A' ln c')/\w'=af w δ/\(af w δ).ownsRow w.heap.size 3 1 (.slice A' ln c') ln (xs.flatMap aI):=by
 subst hn;have H:=qh h;clear h;have WI:∀(w:nJ) (a:Option Addr) (n c n' c':Nat),(binOp .eql 35 (.slice a n c) (.slice none n' c')).run nH w=.ok (.bool a.isNone) w:=fun w a n c n' c'=>Lib.run_eql_slice_nil w _ _ a n c n' c' Tryz.underlying35;cases A with
 |none=>
  have hx:xs=[]:=by
   have h2:=H.out.2.2;by_cases hx:xs=[]
   ·exact hx
   ·obtain⟨_,_,he,_⟩:=h2 (by
     obtain⟨y,ys,rfl⟩:=List.exists_cons_of_ne_nil hx
     simp[aI])
    cases he
  subst hx
  go_enter Tryz.func106,Tryz.ntmps106
  go_wp2_with fail
  go_ret
  exact⟨none,0,_,rfl,aq,World.ownsRow_nil _ _ _ _⟩
 |some ad=>
  go_enter Tryz.func106,Tryz.ntmps106
  go_wp2_with (at_builtin;(refine bS w wo (.tmp 5) (.tmp 6) rfl rfl (v:=.slice (some ⟨_,0,none⟩) 0 0) (cB nW nW) rfl (B:=B) (A:=some ad) (m:=xs.length) (c:=c) (news:=xs.flatMap aI) rfl (H.out.up.2.2) (bX aI 1 (fun _=>rfl) _) (ei aI vz _) nQ nQ ?_);intro A1 c1 δ1 eF hg1)
  go_ret
  refine⟨A1,c1,_,rfl,aq,?_⟩
  refine QDJ ?_
  exact eF
end
section
open Hd
theorem aS.Tn{B:Nat}{w:nJ}{r:aQ}{t:aW}{hA pA:Option Addr}{hc pc:Nat}{hs:List Me.kE}{ps:List Me.Pr}(h:aS B w r t)(h1:fN 93 bB w.heap.size w hA hc hs)(h2:fN 95 dH w.heap.size w pA pc ps):aS B w ⟨r.aF,⟨hA,hc,pA,pc⟩,r.aa⟩ ⟨t.aF,⟨t.ah.m,hs,ps⟩,t.aa⟩:=⟨h.1,⟨.inr h1,.inr h2⟩,h.2.2⟩
theorem index_one{P:Program}{t e:TypeId}{n:Nat}(W:nJ)(hu:P.underlying t=some (.array n e))(UA:(isAgg e).run P W=.ok false W)(hsz:(sizeOf e).run P W=.ok 1 W)(cs:Array nK)(k:IntKind)(j:Nat)(hj:j<n)(v:nK)(hv:cs[j]?=some v):(Instr.index t (.agg cs) (.int k (j:Int))).run P W=.ok v W:=by have hj':(j:Int)<(n:Int):=nQ;simp[Instr.index,run_underlying hu,asIntOf,hj,hsz,UA,part,hv,go_sem]
theorem Oc(r:aQ)(t:aW)(hv:aG t=true)(a:List Int)(v2:nK)(B:Nat)(w:nJ)(hT:aS B w r t)[hB:Le B w]:Calls nH 217 #[aO r t,v2] w (lP B t ⟨.eX,a⟩ w):=by
 have mW:=qh (iD hv);have H:=qh hT;obtain⟨V1,V2,V3⟩:=cr.1 hv;have V2:=qh V2;have HE:Hid (kz t ⟨.eX,a⟩=if t.ah.hs.length=0 then none else some ⟨t.aF,sJ t.ah (nth (Me.gz t.ah) 0).toNat,t.aa⟩):=rfl;have lw:Le w.heap.size w:=⟨nR _⟩;clear V1 V3 hv hT;go_enter Tryz.func217,Tryz.ntmps217;go_upto_region 1 with fail;refine QCD ?_;intro W1 aH cJ dF cU dA dD eI;refine QEG ?_;intro A1 R1 M1;clear aH;have v7:=A1.out.az.2.2.2.2.2.2.2.1;have v8:=A1.out.az.2.2.2.2.2.2.2.2.1;have v9:=A1.out.az.2.2.2.2.2.2.2.2.2.1;by_cases hx:t.ah.hs.length=0
 ·have HN:Hid (kz t ⟨.eX,a⟩=none):=qh (by rw[HE.out,if_pos hx]);have hx1:(t.ah.hs.length:Int)=0:=nQ;have hx2:((t.ah.hs.length:Int)==0)=true:=by simp[hx]
  clear hx;go_upto_region 3 with(go_at_call 174;refine(uF r.ah t.ah V2.out W1.heap.size _ M1.out.is.2.1.up).mono ?_;rintro e w1 ⟨lA,lc,δo,rfl,rfl,VU⟩);go_wp2_with (first|(refine av ai rfl _ rfl rfl (A1.out.af _) rfl ?_)|(refine ak ai rfl _ _ rfl rfl rfl (R1.out.af _) rfl rfl (aM _ _) ?_;intro W9 C9 k9));refine QAT ?_;intro p1 p2;refine eu ai Tryz.results217 rfl C9 rfl ?_;exact RU HN.out ((M1.out.up (W:=af W1 δo)).aR k9 (R1.out.af _) nU (Nat.le_succ_of_le hB.out) (inferInstance:Le B (af W1 δo)).out)
 ·have hlt:=L5 V2.out hx;refine QDA ?_;intro HE ho hol h0;obtain⟨d,hd⟩:∃d:Nat,nth (Me.gz t.ah) 0=(d:Int):=⟨(nth (Me.gz t.ah) 0).toNat,by have:=h0.1;omega⟩;rw[hd,Int.toNat_natCast] at HE hlt;have h6:=(Me.aD.1 V2.out).2.1;have VX:Hid (∀p∈t.ah.ps,0<=p.a/\p.a<=1000/\0<=p.b/\p.b<=1000):=qh fun p hp=>by have hk:=Me.oI.1 (List.all_eq_true.1 (Me.aD.1 V2.out).2.2.2.2.1 p hp);omega
  obtain⟨k,hk⟩:∃k,t.ah.hs.length=k+1:=⟨t.ah.hs.length-1,nQ⟩;have HK:=qh hk;have VJ:k<=100:=nQ;have hdk:d<=k:=nQ;have HX:Hid (0<(Me.gz t.ah).length):=qh (by rw[hol,hk];exact Nat.succ_pos _);have hx1:¬(t.ah.hs.length:Int)=0:=nQ;have hx2:((t.ah.hs.length:Int)==0)=false:=by rw[hk];simp;omega
  have hx3:0<t.ah.hs.length:=by rw[hk];omega
  have hx4:(0:Int)<(t.ah.hs.length:Int):=by rw[hk];omega
  have hwr:IntKind.i64.wrap ((d:Int)+1)=(d:Int)+1:=by rw[IntWalk.i64_in _ nQ]
  clear hx hlt ho hol h0 h6 hk;go_upto_region 4 with(go_at_call 174;refine(uF r.ah t.ah V2.out W1.heap.size _ M1.out.is.2.1.up).mono ?_;rintro e w1 ⟨lA,lc,δo,rfl,rfl,VU⟩);obtain⟨lb,lo,rfl,hlb,dl⟩:=VU.out.int (k:=0) HX.out;have dl':(af W1 δo).cell? ⟨lb,lo,none⟩=some (.int .i64 (d:Int)):=by rw[<-hd];exact dl
  have ilb:Lt lb (af W1 δo):=⟨hlb⟩;clear dl hlb VU hd;go_upto_region 5 with fail;have A2:Hid (ax (af W1 δo) w.heap.size 39 (aE r t)):=qh (A1.out.af _);have R2:Hid (ax (af W1 δo) (w.heap.size+1) 39 (aE dc cO)):=qh (R1.out.af _);have M2:Hid (aS B (af W1 δo) r t):=qh M1.out.up;refine aL fun W2 eJ=>?_;have a1:au w.heap.size w W2:=gu eJ;have a2:Le w.heap.size W2:=fI eJ;have a3:Le B W2:=fI eJ;have A2:Hid (ax W2 w.heap.size 39 (aE r t)):=by rw[eJ.out];exact A2
  have R2:Hid (ax W2 (w.heap.size+1) 39 (aE dc cO)):=by rw[eJ.out];exact R2
  have M2:Hid (aS B W2 r t):=by rw[eJ.out];exact M2
  clear eJ A1 R1 M1 v7 v8 v9 dl' ilb;have v8:=A2.out.az.2.2.2.2.2.2.2.2.1;have cf8:=A2.out.free 8;have lA2:=A2.out.lt;have lR2:=R2.out.lt;have lw2:Le W2.heap.size W2:=⟨nR _⟩;go_upto_region 6 with(first|(go_at_call 102;refine(G5 r.ah.hA r.ah.hc t.ah.hs _ rfl W2.heap.size _ M2.out.is.2.1.1 mW.out.2.1.1).mono ?_;rintro e w1 ⟨A',c',δ2,rfl,rfl,ho⟩;obtain⟨gh,rfl,hgh,lgh,_,_⟩:=qV ho hx3;rw[HK.out] at ho ⊢)|(go_at_call 251;refine(Oh W2 gh c' d k t.ah.hs _ ho HK.out hdk VJ).mono ?_;rintro e w1 ⟨rfl,δ3,rfl,ho3⟩;have HO3:=qh ho3;clear ho3));refine aL fun W3 bQ=>?_;have jn1:oy w.heap.size W2.heap.size:=⟨a2.out⟩;have jn2:oy B W2.heap.size:=⟨a3.out⟩;have b1:au w.heap.size w W3:=gu bQ;have b2:Le w.heap.size W3:=fI bQ;have b3:Le B W3:=fI bQ;have b4:Le W2.heap.size W3:=fI bQ;have A3:Hid (ax W3 w.heap.size 39 (aE ⟨r.aF,⟨some ⟨gh,0,none⟩,c',r.ah.pA,r.ah.pc⟩,r.aa⟩ ⟨t.aF,⟨t.ah.m,t.ah.hs.take d++t.ah.hs.drop (d+1),t.ah.ps⟩,t.aa⟩)):=by
   rw[bQ.out,show aE ⟨r.aF,⟨some ⟨gh,0,none⟩,c',r.ah.pA,r.ah.pc⟩,r.aa⟩ ⟨t.aF,⟨t.ah.m,t.ah.hs.take d++t.ah.hs.drop (d+1),t.ah.ps⟩,t.aa⟩=(aE r t).setIfInBounds 8 (.slice (some ⟨gh,0,none⟩) k c') from by
    have:(t.ah.hs.take d++t.ah.hs.drop (d+1)).length=k:=by rw[List.length_append,List.length_take,List.length_drop,HK.out];omega
    simp only[aE,this];simp]
   exact qh (ax.set (ax.dM A2.out) 8 _)
  have R3:Hid (ax W3 (w.heap.size+1) 39 (aE dc cO)):=by rw[bQ.out];exact qh (ax.fD (ax.dM R2.out) (by show w.heap.size+1≠w.heap.size;omega) _)
  have M3:Hid (aS B W3 r t):=by rw[bQ.out];exact qh ((M2.out.up).ep (ax.dM A2.out) nU hB.out (inferInstance:Le B (ez W2.heap.size (af W2 δ2) δ3)).out _)
  have uu:Hid (fN 93 bB W3.heap.size W3 (some ⟨gh,0,none⟩) c' (t.ah.hs.take d++t.ah.hs.drop (d+1))):=by rw[bQ.out];exact qh (fN.bU (base:=W2.heap.size) (size:=4) (n:=k) (ownsRow_setCell_below HO3.out (a:=⟨w.heap.size,8,none⟩) lA2.out _) (by rw[List.length_append,List.length_take,List.length_drop,HK.out];omega))
  clear bQ HO3 M2 A2 R2 v8 cf8 ho hgh;have HP3:Hid (Sl dH W3.heap.size W3 r.ah.pA r.ah.pc t.ah.ps):=qh M3.out.is.2.1.2;have lA3:=A3.out.lt;have lR3:=R3.out.lt;have hps:t.ah.ps.length<=1000:=mW.out.2.1.2;have v9:=A3.out.az.2.2.2.2.2.2.2.2.2.1;clear hwr VJ hdk hx1 hx2 hx3 hx4;obtain⟨pA,hpA⟩:∃x,r.ah.pA=x:=⟨_,rfl⟩;rw[hpA] at HP3 v9;clear hpA;go_upto_region 8 with fail;go_loopg [9,41] t.ah.ps.length (fun gn s9 s41 wr=>∃(j:Nat) (Ap:Option Addr) (cp:Nat) (m:List Me.Pr),j<=t.ah.ps.length/\gn=t.ah.ps.length-j/\s9=.slice Ap m.length cp/\s41=.int .i64 j/\Hid (m=oR d t.ah.ps j)/\m.length<=t.ah.ps.length/\Hid (wr.ownsRow W3.heap.size 95 2 (.slice Ap m.length cp) m.length (m.flatMap dH))/\au W3.heap.size W3 wr/\Le W3.heap.size wr)
  case atStart=>exact⟨0,none,0,[],nE _,rfl,rfl,rfl,qh rfl,nE _,qh (World.ownsRow_nil _ _ _ _),inferInstance,⟨nR _⟩⟩
  case round=>
   obtain⟨j,Ap,cp,m,hj,rfl,rfl,rfl,HL,hml,HO,i1,i2⟩:=hrel;by_cases hlt:j<t.ah.ps.length
   ·have hji:(j:Int)<(t.ah.ps.length:Int):=nQ;have hj0:¬(j:Int)<0:=nQ;obtain⟨pb,po,rfl,hpb,d0,d1⟩:=(HP3.out.up (w':=wr)).pr hlt;have ipb:Lt pb wr:=⟨nL hpb i2.out⟩;have OQ:=qh (@zX d j t.ah.ps hlt);have OR:=qh (@zY d j t.ah.ps hlt);have hpx:=VX.out _ (aV t.ah.ps hlt);obtain⟨x,hx⟩:∃x,nth t.ah.ps j=x:=⟨_,rfl⟩;rw[hx] at d0 d1 hpx OQ OR;clear hx hpb;by_cases ha:x.a=(d:Int)
    ·have ha':(x.a==(d:Int))=true:=by simp[ha]
     have uv:=qh (OQ.out (.inl ha));clear OQ OR;go_wp2_with fail;go_roundg (t.ah.ps.length-(j+1))
     case measure=>omega
     case rel=>exact⟨j+1,Ap,cp,m,nQ,rfl,rfl,by go_num,by unfold Hid;rw[uv.out];exact HL.out,hml,qh (bg HO.out),inferInstance,inferInstance⟩
    by_cases hb:x.b=(d:Int)
    ·have ha':(x.a==(d:Int))=false:=by simp[ha]
     have hb':(x.b==(d:Int))=true:=by simp[hb]
     have uv:=qh (OQ.out (.inr hb));clear OQ OR;go_wp2_with fail;go_roundg (t.ah.ps.length-(j+1))
     case measure=>omega
     case rel=>exact⟨j+1,Ap,cp,m,nQ,rfl,rfl,by go_num,by unfold Hid;rw[uv.out];exact HL.out,hml,qh (bg HO.out),inferInstance,inferInstance⟩
    have uv:Hid (m++[qT d x]=oR d t.ah.ps (j+1)):=by unfold Hid;rw[OR.out ha hb,HL.out]
    have ha':(x.a==(d:Int))=false:=by simp[ha]
    have hb':(x.b==(d:Int))=false:=by simp[hb]
    clear OQ OR ha hb;go_upto_region 12 with fail;obtain⟨X,rfl⟩:∃X,X=wr:=⟨_,rfl⟩;have lX:Le X.heap.size X:=⟨nR _⟩;have agp:∀W:nJ,(Instr.index 304 (.agg #[.pointer (some ⟨X.heap.size,0,none⟩),.pointer (some ⟨X.heap.size,1,none⟩)]) (.int .i64 0)).run nH W=.ok (.pointer (some ⟨X.heap.size,0,none⟩)) W:=fun W=>index_one W Tryz.underlying304 (by first|exact Tryz.isAgg303 W|kernel_rfl) (by first|exact Tryz.sizeOf303 W|kernel_rfl) _ .i64 0 nU _ rfl;have ago:∀W:nJ,(Instr.index 304 (.agg #[.pointer (some ⟨X.heap.size,0,none⟩),.pointer (some ⟨X.heap.size,1,none⟩)]) (.int .i64 1)).run nH W=.ok (.pointer (some ⟨X.heap.size,1,none⟩)) W:=fun W=>index_one W Tryz.underlying304 (by first|exact Tryz.isAgg303 W|kernel_rfl) (by first|exact Tryz.sizeOf303 W|kernel_rfl) _ .i64 1 nU _ rfl;go_loopg [58] 2 (fun gn s58 wq=>∃i:Nat,i<=2/\gn=2-i/\s58=.int .i64 i/\Hid (ax wq X.heap.size 95 #[.int .i64 (if 1<=i then Me.Er d x.a else x.a),.int .i64 (if 2<=i then Me.Er d x.b else x.b)])/\au X.heap.size X wq/\Le X.heap.size wq)
    case atStart=>exact⟨0,nQ,rfl,rfl,qh (ax.new rfl),inferInstance,inferInstance⟩
    case round=>
     obtain⟨i,hi,rfl,rfl,HQ,k1,k2⟩:=hrel;by_cases hlt2:i<2
     ·rcases(by omega:i=0\/i=1) with rfl|rfl
      ·have e0:=HQ.out.cell (i:=0) (v:=.int .i64 x.a) nV;have f0:=HQ.out.free 0;have lq:=HQ.out.lt;by_cases hg:(d:Int)<x.a
       ·have hgd:decide ((d:Int)<x.a)=true:=decide_eq_true hg;have hw:IntKind.i64.wrap (x.a-1)=x.a-1:=by rw[IntWalk.i64_in _ (by have:=hpx;omega)]
        have HR:Hid (Me.Er d x.a=x.a-1):=by unfold Hid Me.Er;rw[if_pos hg]
        go_wp2_with fail;go_roundg (2-(0+1))
        case measure=>omega
        case rel=>exact⟨0+1,nQ,rfl,by go_num,qh (by have k:=HQ.out.set 0 (.int .i64 (x.a-1));simpa [HR.out] using k),inferInstance,inferInstance⟩
       ·have hgd:decide ((d:Int)<x.a)=false:=decide_eq_false hg;have HR:Hid (Me.Er d x.a=x.a):=by unfold Hid Me.Er;rw[if_neg hg]
        go_wp2_with fail;go_roundg (2-(0+1))
        case measure=>omega
        case rel=>exact⟨0+1,nQ,rfl,by go_num,qh (by have k:=HQ.out;simpa [HR.out] using k),inferInstance,inferInstance⟩
      ·have e0:=HQ.out.cell (i:=1) (v:=.int .i64 x.b) nV;have f0:=HQ.out.free 1;have lq:=HQ.out.lt;by_cases hg:(d:Int)<x.b
       ·have hgd:decide ((d:Int)<x.b)=true:=decide_eq_true hg;have hw:IntKind.i64.wrap (x.b-1)=x.b-1:=by rw[IntWalk.i64_in _ (by have:=hpx;omega)]
        have HR:Hid (Me.Er d x.b=x.b-1):=by unfold Hid Me.Er;rw[if_pos hg]
        go_wp2_with fail;go_roundg (2-(1+1))
        case measure=>omega
        case rel=>exact⟨1+1,nQ,rfl,by go_num,qh (by have k:=HQ.out.set 1 (.int .i64 (x.b-1));simpa [HR.out] using k),inferInstance,inferInstance⟩
       ·have hgd:decide ((d:Int)<x.b)=false:=decide_eq_false hg;have HR:Hid (Me.Er d x.b=x.b):=by unfold Hid Me.Er;rw[if_neg hg]
        go_wp2_with fail;go_roundg (2-(1+1))
        case measure=>omega
        case rel=>exact⟨1+1,nQ,rfl,by go_num,qh (by have k:=HQ.out;simpa [HR.out] using k),inferInstance,inferInstance⟩
     ·obtain rfl:i=2:=by omega
      have HQ:Hid (ax wr X.heap.size 95 (dH (qT d x)).toArray):=by have:=HQ.out;simpa [dH,qT] using qh this
      obtain⟨y,hy⟩:∃y,qT d x=y:=⟨_,rfl⟩;rw[hy] at HQ uv;have c0:=HQ.out.cell (i:=0) (v:=.int .i64 y.a) rfl;have c1:=HQ.out.cell (i:=1) (v:=.int .i64 y.b) rfl;have lq:=HQ.out.lt;have s1:au W3.heap.size W3 wr:=⟨⟨k1.out.1.trans i1.out.1,k1.out.2.1.trans i1.out.2.1,k1.out.2.2.1.trans i1.out.2.2.1,fun b hb=>(k1.out.2.2.2 b (nL hb i2.out)).trans (i1.out.2.2.2 b hb)⟩⟩;have s2:Le W3.heap.size wr:=⟨nT i2.out k2.out⟩;clear hy;go_wp2_with (at_builtin;(refine cq W3 Dh (.tmp 72) (.tmp 74) rfl rfl (bg HO.out) rfl rfl nW rfl (by simp[Value.oneCell']) nQ nQ ?_);intro A3 c3 δ3 mq rj);go_roundg (t.ah.ps.length-(j+1))
      case measure=>omega
      case rel=>
       refine⟨j+1,A3,c3,m++[y],nQ,rfl,?_,by go_num,uv,?_,?_,inferInstance,inferInstance⟩
       ·rw[List.length_append];rfl
       ·rw[uv.out];exact qE
       ·rw[List.length_append,List.flatMap_append];exact qh (by simpa [dH] using mq)
   ·obtain rfl:j=t.ah.ps.length:=by omega
    have hjn:¬((t.ah.ps.length:Int)<(t.ah.ps.length:Int)):=nQ;have AX:Hid (sJ t.ah d=⟨t.ah.m,t.ah.hs.take d++t.ah.hs.drop (d+1),m⟩):=by unfold Hid;rw[zN,Cw,<-HL.out]
    have A4:Hid (ax wr w.heap.size 39 (aE ⟨r.aF,⟨some ⟨gh,0,none⟩,c',r.ah.pA,r.ah.pc⟩,r.aa⟩ ⟨t.aF,⟨t.ah.m,t.ah.hs.take d++t.ah.hs.drop (d+1),t.ah.ps⟩,t.aa⟩)):=qh A3.out.dM;have R4:Hid (ax wr (w.heap.size+1) 39 (aE dc cO)):=qh R3.out.dM;have M4:Hid (aS B wr ⟨r.aF,⟨some ⟨gh,0,none⟩,c',Ap,cp⟩,r.aa⟩ ⟨t.aF,⟨t.ah.m,t.ah.hs.take d++t.ah.hs.drop (d+1),m⟩,t.aa⟩):=qh (aS.Tn M3.out.up uu.out.wide (fN.bU HO.out rfl));have cf9:=A4.out.free 9;have v9':=A4.out.az.2.2.2.2.2.2.2.2.2.1;have l1:=A4.out.lt;have l2:=R4.out.lt;have s1:au w.heap.size w wr:=⟨⟨i1.out.1.trans b1.out.1,i1.out.2.1.trans b1.out.2.1,i1.out.2.2.1.trans b1.out.2.2.1,fun b hb=>(i1.out.2.2.2 b (nL hb b2.out)).trans (b1.out.2.2.2 b hb)⟩⟩;have s2:Le w.heap.size wr:=⟨nT b2.out i2.out⟩;have s3:Le B wr:=⟨nT b3.out i2.out⟩;go_upto_region 20 with fail;refine aL fun W5 sS=>?_;have q8:au w.heap.size w W5:=gu sS;have wu:Le w.heap.size W5:=fI sS;have Fu:Le B W5:=fI sS;have A5:Hid (ax W5 w.heap.size 39 (aE ⟨r.aF,⟨some ⟨gh,0,none⟩,c',Ap,cp⟩,r.aa⟩ ⟨t.aF,⟨t.ah.m,t.ah.hs.take d++t.ah.hs.drop (d+1),m⟩,t.aa⟩)):=by rw[sS.out];exact qh (A4.out.set 9 _)
    have R5:Hid (ax W5 (w.heap.size+1) 39 (aE dc cO)):=by rw[sS.out];exact qh (R4.out.fD (by show w.heap.size+1≠w.heap.size;omega) _)
    have M5:Hid (aS B W5 ⟨r.aF,⟨some ⟨gh,0,none⟩,c',Ap,cp⟩,r.aa⟩ ⟨t.aF,⟨t.ah.m,t.ah.hs.take d++t.ah.hs.drop (d+1),m⟩,t.aa⟩):=by rw[sS.out];exact qh (M4.out.ep A4.out nU hB.out s3.out _)
    rw[AX.out] at HE;clear sS A4 R4 M4 A3 R3 M3 cf9 v9' v9 HO uu HP3;go_wp2_with (first|(refine av ai rfl _ rfl rfl A5.out rfl ?_)|(refine ak ai rfl _ _ rfl rfl rfl R5.out rfl rfl (aM _ _) ?_;intro W9 C9 k9));refine QAT ?_;intro p1 p2;refine eu ai Tryz.results217 rfl C9 rfl ?_;exact rD HE.out (M5.out.aR k9 R5.out nU (Nat.le_succ_of_le hB.out) Fu.out)
end
section
open Hd
def DY:Wd->Nat
 |.aP=>209
 |.current=>210
 |.gE=>211
 |.ah=>212
 |.ng=>214
 |.ey=>216
 |.eX=>217
 |.part=>218
 |_=>220
theorem D7{d:Wd}(h:cN d=1):X7 d=.func (.func (DY d)) #[] #[]:=by cases d<;>first|rfl|exact absurd h nU
theorem Kc{d:Wd}(h:cN d=1):∀args w,(callFunc (DY d) args).run nH w=.ok (.enter (DY d) args) w:=by cases d<;>first|exact absurd h nU|(intro args w;exact Tryz.enters209 args w)|(intro args w;simp[DY,go_sem];done)
theorem ad5(c:dU)(hk:cN c.w=1)(hl:c.a.length=tq c.w)(r:aQ)(t:aW)(hv:aG t=true)(A:Option Addr)(cap:Nat)(B:Nat)(w:nJ)(hT:aS B w r t)[hB:Le B w](hS:Sl aI w.heap.size w A cap c.a):Calls nH (DY c.w) #[aO r t,.slice A c.a.length cap] w (lP B t c w):=by
 obtain⟨d,a⟩:=c;cases d with
 |aP=>exact UK r t (iD hv) a hl A cap B w hT hS
 |current=>exact Km r t (iD hv) a hl A cap B w hT hS
 |gE=>exact RW r t (iD hv) a hl A cap B w hT hS
 |ah=>exact UM r t (iD hv) a hl A cap B w hT hS
 |ng=>exact UN r t (iD hv) a hl A cap B w hT hS
 |ey=>exact Kl r t (iD hv) a hl A cap B w hT hS
 |eX=>exact Oc r t hv a _ B w hT
 |part=>exact UO r t (iD hv) a hl A cap B w hT hS
 |fM=>exact Og r t (iD hv) a hl A cap B w hT hS
 |safe=>exact absurd hk (by show ¬cN .safe=1;decide)
 |gy=>exact absurd hk (by show ¬cN .gy=1;decide)
 |kr=>exact absurd hk (by show ¬cN .kr=1;decide)
 |done=>exact absurd hk (by show ¬cN .done=1;decide)
 |fU=>exact absurd hk (by show ¬cN .fU=1;decide)
 |yu=>exact absurd hk (by show ¬cN .yu=1;decide)
 |early=>exact absurd hk (by show ¬cN .early=1;decide)
 |nw=>exact absurd hk (by show ¬cN .nw=1;decide)
 |order=>exact absurd hk (by show ¬cN .order=1;decide)
 |pack=>exact absurd hk (by show ¬cN .pack=1;decide)
 |forget=>exact absurd hk (by show ¬cN .forget=1;decide)
end
section
open Hd
theorem ax.vL{w W:nJ}{b g:Nat}{T T':TypeId}{cs cs':Array nK}(h:ax w b T cs)(k:bH (fun x=>x=g) w W)(hb:ax w g T' cs')(hne:T'≠T):ax W b T cs:=h.eM k (by
 rintro rfl
 unfold ax at h hb
 rw[hb] at h
 injection h with h
 injection h with _ h
 exact hne h)
structure gW(w:nJ)(v:nK)(c:dU):Prop where
 kind:cN c.w=1
 len:c.a.length=tq c.w
 at_:∃(gc ga:Nat) (A:Option Addr) (cap:Nat),v=.func (.func 160) #[] #[.pointer (some ⟨gc,0,none⟩),.pointer (some ⟨ga,0,none⟩)]/\ax w gc 237 #[.int .i64 (tq c.w:Nat),X7 c.w]/\ax w ga 35 #[.slice A c.a.length cap]/\fN 3 aI w.heap.size w A cap c.a
theorem gW.up{w W:nJ}{v:nK}{c:dU}(h:gW w v c)[hg:au w.heap.size w W][hl:Le w.heap.size W]:gW W v c:=by obtain⟨h1,h2,gc,ga,A,cap,rfl,b1,b2,hS⟩:=h;exact⟨h1,h2,gc,ga,A,cap,rfl,b1.dM,b2.dM,hS.wide⟩
theorem gW.aR{w W:nJ}{v:nK}{c:dU}{g:Nat}{T:TypeId}{cs:Array nK}(h:gW w v c)(k:bH (fun x=>x=g) w W)(hb:ax w g T cs)(h1:T≠237)(h2:T≠35)(h3:T≠3):gW W v c:=by obtain⟨k1,k2,gc,ga,A,cap,rfl,b1,b2,hS⟩:=h;exact⟨k1,k2,gc,ga,A,cap,rfl,b1.vL k hb h1,b2.vL k hb h2,hS.aR k hb h3 (nR _)⟩
def tB(B:Nat)(t:aW)(c:dU)(w:nJ)(e:Ending)(w':nJ):Prop:=
 ∃(r':aQ) (δ:nJ),e=.returned (.tuple #[aO r' (iH t c),.bool (fW t c).isSome])/\w'=af w δ/\aS B (af w δ) r' (iH t c)
theorem KZ{B:Nat}{r:aQ}{t:aW}{c:dU}{w W:nJ}(h:fW t c=none)[au w.heap.size w W][Le w.heap.size W](ho:aS B W r t):tB B t c w (.returned (.tuple #[aO r t,.bool false])) W:=by
 have hd:iH t c=t:=by unfold iH;rw[h];rfl
 refine⟨r,W,by rw[hd,h];rfl,aq,?_⟩;rw[<-aq (w:=w),hd];exact ho
theorem Pn{B:Nat}{r:aQ}{t o:aW}{c:dU}{w W:nJ}(h:fW t c=some o)[au w.heap.size w W][Le w.heap.size W](ho:aS B W r o):tB B t c w (.returned (.tuple #[aO r o,.bool true])) W:=by
 have hd:iH t c=o:=by unfold iH;rw[h];rfl
 refine⟨r,W,by rw[hd,h];rfl,aq,?_⟩;rw[<-aq (w:=w),hd];exact ho
theorem Si(r:aQ)(t:aW)(hv:aG t=true)(c:dU)(gc ga:Nat)(A:Option Addr)(cap:Nat)(hk:cN c.w=1)(hl:c.a.length=tq c.w)(B:Nat)(w:nJ)(hT:aS B w r t)[hB:Le B w](hC:ax w gc 237 #[.int .i64 (tq c.w:Nat),X7 c.w])(hA:ax w ga 35 #[.slice A c.a.length cap])(hS:fN 3 aI w.heap.size w A cap c.a):Calls nH 160 #[aO r t,.pointer (some ⟨gc,0,none⟩),.pointer (some ⟨ga,0,none⟩)] w (tB B t c w):=by
 have H:=qh hT;have HS:=qh hS;have hent:=Kc hk;have Pd:Hid (∀W:nJ,aS B W r t->Le B W->Sl aI W.heap.size W A cap c.a->Calls nH (DY c.w) #[aO r t,.slice A c.a.length cap] W (lP B t c W)):=qh fun W h1 h2 h3=>ad5 c hk hl r t hv A cap B W h1 h3;unfold lP at Pd;rw[D7 hk] at hC;obtain⟨fid,uK⟩:∃f,DY c.w=f:=⟨_,rfl⟩;rw[uK] at hent Pd hC;have lw:Le w.heap.size w:=⟨nR _⟩;have igc:=hC.lt;have iga:=hA.lt;have y1:=hC.cell (i:=1) (v:=.func (.func fid) #[] #[]) rfl;have y2:=hA.cell (i:=0) (v:=.slice A c.a.length cap) rfl;clear hT hS hC hA hk hl uK;go_enter Tryz.func160,Tryz.ntmps160;go_upto_region 1 with fail;refine QCD ?_;intro W1 aH cJ dF cU dA dD eI;refine QEG ?_;intro A1 R1 M1;have z1:W1.cell? ⟨gc,1,none⟩=some (.func (.func fid) #[] #[]):=by rw[aH.out];go_simp
 have z2:W1.cell? ⟨ga,0,none⟩=some (.slice A c.a.length cap):=by rw[aH.out];go_simp
 have l1:Lt gc W1:=nt aH;have l2:Lt ga W1:=nt aH;clear aH;cases hc:kz t c with
 |none=>
  rw[hc] at Pd
  have HN:=qh (xC hc)
  clear hc
  go_upto_region 2 with(first|(refine av ai rfl _ rfl rfl A1.out rfl ?_)|(refine(Pd.out _ M1.out.up inferInstance (HS.out.wide (w':=W1)).plain).mono ?_;rintro e w1 ⟨r',δ1,rfl,rfl,hm⟩;have HM:=qh hm;clear hm)|(refine ak ai rfl _ _ rfl rfl rfl (ax.new (T:=39) rfl) rfl rfl (aM _ _) ?_;intro W2 T2 k2))
  refine QBS ?_
  intro g1 g2 q1 q2 q3 A2 R2 M2
  have N2:Hid (aS B W2 r' t):=qh ((HM.out.up (W:=(af W1 δ1).alloc _)).aR k2 (ax.new rfl) nU g2 (by simpa using Nat.le_succ_of_le g2))
  have T2:=qh T2
  clear k2 A1 R1 M1 HM Pd
  go_wp2_with (first|(refine av ai rfl _ rfl rfl A2.out rfl ?_)|(refine ak ai rfl _ _ rfl rfl rfl R2.out rfl rfl (aM _ _) ?_;intro W9 C9 k9))
  refine QAT ?_
  intro p1 p2
  refine eu ai Tryz.results160 rfl C9 rfl ?_
  exact KZ HN.out (M2.out.aR k9 R2.out nU (Nat.le_succ_of_le hB.out) q3.out)
 |some o=>
  rw[hc] at Pd
  have HE:=qh hc
  clear hc
  go_upto_region 2 with(first|(refine av ai rfl _ rfl rfl A1.out rfl ?_)|(refine(Pd.out _ M1.out.up inferInstance (HS.out.wide (w':=W1)).plain).mono ?_;rintro e w1 ⟨r',δ1,rfl,rfl,hm⟩;have HM:=qh hm;clear hm)|(refine ak ai rfl _ _ rfl rfl rfl (ax.new (T:=39) rfl) rfl rfl (aM _ _) ?_;intro W2 T2 k2))
  refine QBS ?_
  intro g1 g2 q1 q2 q3 A2 R2 M2
  have N2:Hid (aS B W2 r' o):=qh ((HM.out.up (W:=(af W1 δ1).alloc _)).aR k2 (ax.new rfl) nU g2 (by simpa using Nat.le_succ_of_le g2))
  have T2:=qh T2
  clear k2 A1 R1 M1 HM Pd
  have lW2:Le W2.heap.size W2:=⟨nR _⟩
  rcases lI:aG o with _|_
  ·have HC:Hid (cC (aG o) 120=120):=by unfold Hid;rw[lI];rfl
   have HN:Hid (fW t c=none):=qh (by rw[rG HE.out,lI];rfl);clear lI;go_upto_region 3 with(first|(refine aT ai nY _ rfl rfl T2.out rfl ?_)|(go_at_call 42;refine(sU r' o W2.heap.size _ N2.out.is.up).mono ?_;rw[HC.out];rintro e w1 ⟨rfl,δ3,rfl⟩));go_wp2_with (first|(refine av ai rfl _ rfl rfl (A2.out.af δ3) rfl ?_)|(refine ak ai rfl _ _ rfl rfl rfl (R2.out.af δ3) rfl rfl (aM _ _) ?_;intro W9 C9 k9));refine QAT ?_;intro p1 p2;refine eu ai Tryz.results160 rfl C9 rfl ?_;exact KZ HN.out ((M2.out.up (W:=af W2 δ3)).aR k9 (R2.out.af _) nU (Nat.le_succ_of_le hB.out) (inferInstance:Le B (af W2 δ3)).out)
  ·have HC:Hid (cC (aG o) 120=0):=by unfold Hid;rw[lI];rfl
   have HN:Hid (fW t c=some o):=qh (by rw[rG HE.out,lI];rfl);clear lI;go_upto_region 4 with(first|(refine aT ai nY _ rfl rfl T2.out rfl ?_)|(go_at_call 42;refine(sU r' o W2.heap.size _ N2.out.is.up).mono ?_;rw[HC.out];rintro e w1 ⟨rfl,δ3,rfl⟩));go_wp2_with (first|(refine av ai rfl _ rfl rfl (T2.out.af δ3) rfl ?_)|(refine ak ai rfl _ _ rfl rfl rfl (R2.out.af δ3) rfl rfl (aM _ _) ?_;intro W9 C9 k9));refine QAT ?_;intro p1 p2;refine eu ai Tryz.results160 rfl C9 rfl ?_;exact Pn HN.out ((N2.out.up (W:=af W2 δ3)).aR k9 (R2.out.af _) nU (Nat.le_succ_of_le hB.out) (inferInstance:Le B (af W2 δ3)).out)
end
section
open Hd
def lH(o:Option dU):Bool:=match o with|some c=>decide (cN c.w=1)|none=>false
def kD(o:Option dU)(w:nJ)(e:Ending)(w':nJ):Prop:=
 ∃(v:nK) (δ:nJ),e=.returned (.tuple #[v,.bool (lH o)])/\w'=af w δ/\∀c,o=some c->cN c.w=1->gW (af w δ) v c
theorem PO{o:Option dU}{w W:nJ}(h:lH o=false)(hl:∃δ,W=af w δ):kD o w (.returned (.tuple #[.nilFunc,.bool false])) W:=by obtain⟨δ,rfl⟩:=hl;refine⟨_,δ,by rw[h],rfl,fun c hc hk=>?_⟩;subst hc;unfold lH at h;simp[hk] at h
theorem Wy{o:Option dU}{c:dU}{v:nK}{w W:nJ}(h:o=some c)(hk:cN c.w=1)[au w.heap.size w W][Le w.heap.size W](hv:gW W v c):kD o w (.returned (.tuple #[v,.bool true])) W:=by subst h;refine⟨v,W,by simp[lH,hk],aq,fun c' hc hk'=>?_⟩;injection hc with hc;subst hc;refine QDJ ?_;exact hv
theorem Cn(ws:List bz)(A:Option Addr)(ln cap:Nat)(jg:ws.length=ln)(hl:∀x∈ws,x.length<=1000)(hn:ws.length<=1001)(B:Nat)(w:nJ)(hS:Sl aX B w A cap ws)[hB:Le B w][h8:Le 8 w](hL:cT w):Calls nH 92 #[.slice A ln cap] w (pg (cR ws) w):=by subst jg;exact Na ws A cap hl hn B w hS hL
theorem G4{ws:List bz}(h:0<ws.length):bM ws=rV (nu (nth ws 0)) (cR (ws.drop 1)):=by
 cases ws with
 |nil=>exact absurd h (Nat.lt_irrefl _)
 |cons t r=>rfl
theorem qU(ws:List bz)(A:Option Addr)(cap:Nat)(h0:0<ws.length)(hl:∀x∈ws,x.length<=1000)(hn:ws.length<=1001)(B:Nat)(w:nJ)(hS:Sl aX B w A cap ws)[hB:Le B w][h8:Le 8 w](hL:cT w):Calls nH 87 #[.slice A ws.length cap] w (kD (bM ws) w):=by
 obtain⟨b,o,rfl,hb,e0⟩:=hS.mh h0;have HS:=qh hS;have HL:=qh hL;have qd:=qh hl;have hcap:ws.length<=cap:=hS.1;refine QFE ?_;intro A2 vU;have Bv:Hid (Sl aX B w A2 (cap-1) (ws.drop 1)):=by have:=hS.drop gD 1 nQ;rw[<-vU];exact qh (by simpa [Addr.add_lit] using this)
 refine QBR ?_;intro VH hn2 VG VF Us HD V8 HDN iX;unfold pg at iX;have S0:=qh (G4 h0);obtain⟨wd,Xm⟩:∃x,nu (nth ws 0)=x:=⟨_,rfl⟩;have Vl:Hid (∀W:nJ,Calls nH 159 #[.string (str (nth ws 0))] W fun e w'=>e=.returned (.tuple #[.agg #[.int .i64 (YW wd:Nat),YU wd],.bool (Zr wd)])/\∃δ,w'=af W δ):=qh fun W=>by rw[<-Xm];exact KC (nth ws 0) W
 obtain⟨t0,ht0⟩:∃x,nth ws 0=x:=⟨_,rfl⟩;rw[ht0] at e0 Vl;rw[Xm] at S0;have ib:Lt b w:=⟨nL hb hB.out⟩;have e0:w.cell? ⟨b,o,none⟩=some (.string (str t0)):=e0;clear hS hL hl h0 hb Xm ht0 hcap;rcases hc:Zr wd with _|_
 ·have HN:Hid (lH (bM ws)=false):=by
   unfold Hid;rw[S0.out];unfold rV lH;cases wd with
   |none=>rfl
   |some d=>
    cases cR (ws.drop 1) with
    |none=>rfl
    |some a=>
     have hc:decide (cN d=1)=false:=hc
     by_cases ha:a.length=tq d
     ·simp only[Option.bind_some,if_pos ha];exact hc
     ·simp only[Option.bind_some,if_neg ha]
  have hd:YU wd=.nilFunc:=by
   cases wd with
   |none=>rfl
   |some d=>cases d<;>first|rfl|(exact absurd hc nU)
  rw[hc,hd] at Vl;clear hc hd;go_enter Tryz.func87,Tryz.ntmps87;go_wp2_with (first|(go_at_call 159;refine(Vl.out _).mono ?_;rintro e w1 ⟨rfl,δ1,rfl⟩)|(go_at_call 92;refine(iX.out _ inferInstance inferInstance inferInstance HL.out.up).mono ?_;rintro e w1 ⟨A3,c3,δ2,rfl,rfl,_⟩));go_ret2;exact PO HN.out ag
 ·obtain⟨d,rfl⟩:∃d,wd=some d:=by
   cases wd with
   |none=>exact absurd hc nU
   |some d=>exact⟨d,rfl⟩
  have hk:cN d=1:=of_decide_eq_true hc;have hd:YU (some d)=.func (.func (DY d)) #[] #[]:=D7 hk;have HK:=qh hk;have ha:YW (some d)=tq d:=by unfold YW;simp[hk]
  rw[hc,hd,ha] at Vl;obtain⟨fid,uK⟩:∃f,DY d=f:=⟨_,rfl⟩;have HDV:Hid (X7 d=.func (.func fid) #[] #[]):=qh (by rw[<-uK];exact D7 hk);rw[uK] at Vl;obtain⟨ar,har⟩:∃f,tq d=f:=⟨_,rfl⟩;rw[har] at Vl;have Y2:=qh har;clear hc hk hd ha uK har;cases ho:cR (ws.drop 1) with
  |none=>
   have HN:Hid (lH (bM ws)=false):=by unfold Hid;rw[S0.out,ho];rfl
   rw[ho] at iX
   clear ho
   go_enter Tryz.func87,Tryz.ntmps87
   go_wp2_with (first|(go_at_call 159;refine(Vl.out _).mono ?_;rintro e w1 ⟨rfl,δ1,rfl⟩)|(go_at_call 92;refine(iX.out _ inferInstance inferInstance inferInstance HL.out.up).mono ?_;rintro e w1 ⟨A3,c3,δ2,rfl,rfl,_⟩))
   go_ret2
   exact PO HN.out ag
  |some a=>
   rw[ho] at iX
   by_cases hal:a.length=ar
   ·have HC:Hid (bM ws=some ⟨d,a⟩):=by unfold Hid;rw[S0.out,ho];unfold rV;simp only[Option.bind_some,if_pos (hal.trans Y2.out.symm)]
    have acD:((a.length:Int) != (ar:Int))=false:=by simp[hal]
    have HAL:=qh hal;clear ho hal;go_enter Tryz.func87,Tryz.ntmps87;go_wp2_with (first|(go_at_call 159;refine(Vl.out _).mono ?_;rintro e w1 ⟨rfl,δ1,rfl⟩)|(go_at_call 92;refine(iX.out _ inferInstance inferInstance inferInstance HL.out.up).mono ?_;rintro e w1 ⟨A3,c3,δ2,rfl,rfl,Ah⟩;have uu:=qh Ah;clear Ah));go_ret2;refine Wy HC.out HK.out ⟨HK.out,HAL.out.trans Y2.out.symm,_,_,A3,c3,rfl,?_,?_,?_⟩
    ·show ax _ _ _ #[.int .i64 (tq d:Nat),X7 d];rw[HDV.out,Y2.out];exact((ax.new rfl).af _).alloc _
    ·exact ax.new rfl
    ·exact uu.out.wide
   ·have HN:Hid (lH (bM ws)=false):=by unfold Hid;rw[S0.out,ho];unfold rV;simp only[Option.bind_some,if_neg (fun e:a.length=tq d=>hal (e.trans Y2.out))];rfl
    have acD:((a.length:Int) != (ar:Int))=true:=by simp;omega
    clear ho hal;go_enter Tryz.func87,Tryz.ntmps87;go_wp2_with (first|(go_at_call 159;refine(Vl.out _).mono ?_;rintro e w1 ⟨rfl,δ1,rfl⟩)|(go_at_call 92;refine(iX.out _ inferInstance inferInstance inferInstance HL.out.up).mono ?_;rintro e w1 ⟨A3,c3,δ2,rfl,rfl,_⟩));go_ret2;exact PO HN.out ag
end
section
open Hd
theorem bH.past{S:Nat->Prop}{A X W:nJ}{g:Nat}(h:bH S A X)(k:bH (fun x=>x=g) X W)(hg:A.heap.size<=g):bH S A W:=
 ⟨nT h.size k.size,k.os.trans h.os,k.tape.trans h.tape,k.output.trans h.output,fun b hb hs=>(k.block b (nL hb h.size) (by rintro rfl;omega)).trans (h.block b hb hs)⟩
structure A7(B D:Nat)(W:nJ)(k:cP)(d:cE):Prop where
 box:ax W D 98 (cD k d)
 az:aS B W k.az d.az
 low:B<=D
theorem A7.lt{B D:Nat}{W:nJ}{k:cP}{d:cE}(h:A7 B D W k d):D<W.heap.size:=h.box.tN
theorem Wh(k:cP)(d:cE)(hv:aG d.az=true)(c:dU)(v:nK)(B D:Nat)(w:nJ)(hD:A7 B D w k d)(hC:gW w v c):Calls nH 89 #[.pointer (some ⟨D,0,none⟩),v] w fun e w'=>∃r':aQ,e=.returned (.bool (fW d.az c).isSome)/\A7 B D w' ⟨r',k.oA,k.oc⟩ ⟨iH d.az c,d.aC,d.given⟩/\bH (fun x=>x=D) w w':=by obtain⟨h1,h2,gc,ga,A,cap,rfl,b1,b2,hS⟩:=hC;have hB:Le B w:=⟨nT hD.low (nS hD.lt)⟩;have HC:Hid (Calls nH 160 #[aO k.az d.az,.pointer (some ⟨gc,0,none⟩),.pointer (some ⟨ga,0,none⟩)] w (tB B d.az c w)):=qh (Si k.az d.az hv c gc ga A cap h1 h2 B w hD.az b1 b2 hS);unfold tB at HC;refine QDR ?_;intro td Cz bb ir;rw[Cz,ir] at HC;rw[Cz,ir];have HD:=qh hD;have D1:=qh hD.box;have lD:=hD.box.lt;clear h1 h2 b1 b2 hS Cz ir hD;go_enter Tryz.func89,Tryz.ntmps89;go_upto_region 2 with(first|(refine cz (cs':=aE k.az d.az) ai rfl _ rfl rfl D1.out (eT k d) rfl ?_)|(go_at_call 160;refine HC.out.mono ?_;rintro e w1 ⟨r',δ1,rfl,rfl,hm⟩;have HM:=qh hm;clear hm)|(refine ak ai rfl _ _ rfl rfl rfl (ax.new (T:=39) rfl) rfl rfl (aM _ _) ?_;intro W2 T2 k2));have g1:w.heap.size<=(af w δ1).heap.size:=(inferInstance:Le w.heap.size (af w δ1)).out;have D2:Hid (ax W2 D 98 (cD k d)):=qh (((D1.out.af _).alloc _).eM k2 (Nat.ne_of_lt (nL lD.out g1)));have M2:Hid (aS B W2 r' td):=qh ((HM.out.up (W:=(af w δ1).alloc _)).aR k2 (ax.new rfl) nU (nT hB.out g1) (by simpa using Nat.le_succ_of_le (nT hB.out g1)));have K2:Hid (bH (fun x=>x=D) w W2):=qh (((bH.af _ w δ1).alloc _).past k2 g1);have lB2:Hid (B<=W2.heap.size):=qh (nT hB.out (K2.out.size));have T2:=qh T2;clear k2 HM D1;go_upto_region 3 with(first|(refine av ai rfl _ rfl rfl T2.out rfl ?_)|(refine mZ ai rfl _ _ rfl rfl rfl D2.out rfl (AA k d) (aM _ _) (Az k d r' td) ?_;intro W4 D4 k4));have M4:Hid (aS B W4 r' td):=qh (M2.out.aR k4 D2.out nU HD.out.low lB2.out);have K4:Hid (bH (fun x=>x=D) w W4):=qh (K2.out.trans k4);have D4:=qh D4;clear k4 M2 D2 T2 K2;go_wp2_with fail;go_ret;exact⟨r',rfl,⟨D4.out,M4.out,HD.out.low⟩,K4.out⟩
end
section
open Hd
theorem Tf{t:aW}(hv:An.valid t.aF=true)(a:List Int):fm t ⟨.gy,a⟩=(ud (An.valid t.aF) (bP (ri t.aF) 21 0),ue (An.valid t.aF) (bP (ri t.aF) 21 0)):=by rw[EP hv a,Ex hv]
theorem WC(r:aQ)(t:aW)(hv:aG t=true)(a:List Int)(B:Nat)(w:nJ)(hT:aJ B w r t)[hB:Le B w]:Calls nH 163 #[aO r t] w (eB (fm t ⟨.safe,a⟩) w):=by
 obtain⟨v1,v2,v3⟩:=cr.1 hv;refine QCC ?_;intro V1 V2 V3 H;have HE:Hid (fm t ⟨.safe,a⟩=(An.xJ t.aF,cC (An.valid t.aF) 20)):=by unfold Hid;rw[Fb v1,v1];rfl
 clear hv v1 v2 v3 hT;go_enter Tryz.func163,Tryz.ntmps163;go_upto_region 1 with fail;refine QAW ?_;intro W1 aH cJ dF cU dA dD b1;obtain⟨x0,x1,x2,x3,x4,x5,x6,x7,x8,x9,yA,yz,uT,yy⟩:=b1.az;clear aH b1;go_wp2_with (go_at_call 16;refine(Wr r.aF t.aF B _ H.out.1.up).mono ?_;rintro e w1 ⟨rfl,δ1,rfl⟩);go_ret2;exact⟨by rw[HE.out];rfl,ag⟩
theorem TD(r:aQ)(t:aW)(hv:aG t=true)(a:List Int)(B:Nat)(w:nJ)(hT:aJ B w r t)[hB:Le B w]:Calls nH 164 #[aO r t] w (eB (fm t ⟨.gy,a⟩) w):=by obtain⟨v1,v2,v3⟩:=cr.1 hv;refine QCC ?_;intro V1 V2 V3 H;have HE:Hid (fm t ⟨.gy,a⟩=(ud (An.valid t.aF) (bP (ri t.aF) 21 0),ue (An.valid t.aF) (bP (ri t.aF) 21 0))):=Tf v1 a;clear hv v1 v2 v3 hT;go_enter Tryz.func164,Tryz.ntmps164;go_upto_region 1 with fail;refine QAW ?_;intro W1 aH cJ dF cU dA dD b1;obtain⟨x0,x1,x2,x3,x4,x5,x6,x7,x8,x9,yA,yz,uT,yy⟩:=b1.az;clear aH b1;go_wp2_with (go_at_call 165;refine(Wg r.aF t.aF B _ H.out.1.up).mono ?_;rintro e w1 ⟨rfl,δ1,rfl⟩);go_ret2;exact⟨by rw[HE.out];rfl,ag⟩
theorem WG(r:aQ)(t:aW)(hv:aG t=true)(a:List Int)(B:Nat)(w:nJ)(hT:aJ B w r t)[hB:Le B w]:Calls nH 166 #[aO r t] w (eB (fm t ⟨.kr,a⟩) w):=by obtain⟨v1,v2,v3⟩:=cr.1 hv;refine QCC ?_;intro V1 V2 V3 H;have HE:Hid (fm t ⟨.kr,a⟩=(Me.dY t.ah,0)):=rfl;clear hv v1 v2 v3 hT;go_enter Tryz.func166,Tryz.ntmps166;go_upto_region 1 with fail;refine QAW ?_;intro W1 aH cJ dF cU dA dD b1;obtain⟨x0,x1,x2,x3,x4,x5,x6,x7,x8,x9,yA,yz,uT,yy⟩:=b1.az;clear aH b1;go_wp2_with (go_at_call 17;refine(JK r.ah t.ah V2.out B _ H.out.2.1.up).mono ?_;rintro e w1 ⟨rfl,δ1,rfl⟩);go_ret2;exact⟨by rw[HE.out];rfl,ag⟩
theorem WH(r:aQ)(t:aW)(hv:aG t=true)(a:List Int)(B:Nat)(w:nJ)(hT:aJ B w r t)[hB:Le B w]:Calls nH 167 #[aO r t] w (eB (fm t ⟨.done,a⟩) w):=by obtain⟨v1,v2,v3⟩:=cr.1 hv;refine QCC ?_;intro V1 V2 V3 H;have HE:Hid (fm t ⟨.done,a⟩=(Me.sZ t.ah,0)):=rfl;clear hv v1 v2 v3 hT;go_enter Tryz.func167,Tryz.ntmps167;go_upto_region 1 with fail;refine QAW ?_;intro W1 aH cJ dF cU dA dD b1;obtain⟨x0,x1,x2,x3,x4,x5,x6,x7,x8,x9,yA,yz,uT,yy⟩:=b1.az;clear aH b1;go_wp2_with (go_at_call 168;refine(Ob r.ah t.ah V2.out B _ H.out.2.1.up).mono ?_;rintro e w1 ⟨rfl,δ1,rfl⟩);go_ret2;exact⟨by rw[HE.out];rfl,ag⟩
theorem WB(r:aQ)(t:aW)(hv:aG t=true)(a:List Int)(B:Nat)(w:nJ)(hT:aJ B w r t)[hB:Le B w]:Calls nH 169 #[aO r t] w (eB (fm t ⟨.fU,a⟩) w):=by obtain⟨v1,v2,v3⟩:=cr.1 hv;refine QCC ?_;intro V1 V2 V3 H;have HE:Hid (fm t ⟨.fU,a⟩=pI t.aa):=rfl;clear hv v1 v2 v3 hT;go_enter Tryz.func169,Tryz.ntmps169;go_upto_region 1 with fail;refine QAW ?_;intro W1 aH cJ dF cU dA dD b1;obtain⟨x0,x1,x2,x3,x4,x5,x6,x7,x8,x9,yA,yz,uT,yy⟩:=b1.az;clear aH b1;go_wp2_with (go_at_call 18;refine(PB r.aa t.aa V3.out B _ H.out.2.2.up).mono ?_;rintro e w1 ⟨rfl,δ1,rfl⟩);go_ret2;exact⟨by rw[HE.out];rfl,ag⟩
theorem Zd(r:aQ)(t:aW)(hv:aG t=true)(a:List Int)(B:Nat)(w:nJ)(hT:aJ B w r t)[hB:Le B w]:Calls nH 170 #[aO r t] w (eB (fm t ⟨.yu,a⟩) w):=by obtain⟨v1,v2,v3⟩:=cr.1 hv;refine QCC ?_;intro V1 V2 V3 H;have HE:Hid (fm t ⟨.yu,a⟩=(Sa.rJ t.aa,Sa.tY t.aa)):=rfl;clear hv v1 v2 v3 hT;go_enter Tryz.func170,Tryz.ntmps170;go_upto_region 1 with fail;refine QAW ?_;intro W1 aH cJ dF cU dA dD b1;obtain⟨x0,x1,x2,x3,x4,x5,x6,x7,x8,x9,yA,yz,uT,yy⟩:=b1.az;clear aH b1;go_wp2_with (go_at_call 30;refine(Wu r.aa t.aa V3.out B _ H.out.2.2.up).mono ?_;rintro e w1 ⟨rfl,δ1,rfl⟩);go_ret2;exact⟨by rw[HE.out];rfl,ag⟩
theorem WE(r:aQ)(t:aW)(hv:aG t=true)(a:List Int)(B:Nat)(w:nJ)(hT:aJ B w r t)[hB:Le B w]:Calls nH 171 #[aO r t] w (mI (qY t ⟨.nw,a⟩) w):=by obtain⟨v1,v2,v3⟩:=cr.1 hv;refine QCC ?_;intro V1 V2 V3 H;clear hv v1 v2 v3 hT;go_enter Tryz.func171,Tryz.ntmps171;go_upto_region 1 with fail;refine QAW ?_;intro W1 aH cJ dF cU dA dD b1;obtain⟨x0,x1,x2,x3,x4,x5,x6,x7,x8,x9,yA,yz,uT,yy⟩:=b1.az;clear aH b1;go_wp2_with (go_at_call 172;refine(WU r.aF t.aF B _ H.out.1.up).mono ?_;rintro e w1 ⟨A1,c1,δ1,rfl,rfl,hs⟩;have HS:=qh hs;clear hs);go_ret2;refine⟨A1,_,c1,_,rfl,rfl,aq,?_⟩;refine QDJ ?_;exact HS.out
theorem TE(r:aQ)(t:aW)(hv:aG t=true)(a:List Int)(B:Nat)(w:nJ)(hT:aJ B w r t)[hB:Le B w]:Calls nH 173 #[aO r t] w (mI (qY t ⟨.order,a⟩) w):=by obtain⟨v1,v2,v3⟩:=cr.1 hv;refine QCC ?_;intro V1 V2 V3 H;have HOL:Hid ((Me.gz t.ah).length=t.ah.hs.length):=qh (Me.jB (Me.iL (Me.aD.1 v2).2.2.2.2.2));clear hv v1 v2 v3 hT;go_enter Tryz.func173,Tryz.ntmps173;go_upto_region 1 with fail;refine QAW ?_;intro W1 aH cJ dF cU dA dD b1;obtain⟨x0,x1,x2,x3,x4,x5,x6,x7,x8,x9,yA,yz,uT,yy⟩:=b1.az;clear aH b1;go_wp2_with (go_at_call 174;refine(uF r.ah t.ah V2.out B _ H.out.2.1.up).mono ?_;rintro e w1 ⟨A1,c1,δ1,rfl,rfl,HS⟩);go_ret2;refine⟨A1,_,c1,_,rfl,HOL.out.symm,aq,?_⟩;refine QDJ ?_;exact HS.out
theorem WD(r:aQ)(t:aW)(hv:aG t=true)(a:List Int)(B:Nat)(w:nJ)(hT:aJ B w r t)[hB:Le B w]:Calls nH 175 #[aO r t] w (mI (qY t ⟨.pack,a⟩) w):=by obtain⟨v1,v2,v3⟩:=cr.1 hv;refine QCC ?_;intro V1 V2 V3 H;clear hv v1 v2 v3 hT;go_enter Tryz.func175,Tryz.ntmps175;go_upto_region 1 with fail;refine QAW ?_;intro W1 aH cJ dF cU dA dD b1;obtain⟨x0,x1,x2,x3,x4,x5,x6,x7,x8,x9,yA,yz,uT,yy⟩:=b1.az;clear aH b1;go_wp2_with (go_at_call 176;refine(Tr r.aa t.aa V3.out B _ H.out.2.2.up).mono ?_;rintro e w1 ⟨A1,m1,c1,rfl,hm,hs,δ1,rfl⟩;have HS:=qh hs;have HM:=qh hm;clear hs hm);go_ret2;refine⟨A1,_,c1,_,rfl,HM.out,aq,?_⟩;refine QDJ ?_;exact HS.out
theorem Li(r:aQ)(t:aW)(hv:aG t=true)(d:Int)(ga:Nat)(A:Option Addr)(cap:Nat)(B:Nat)(w:nJ)(hT:aJ B w r t)[hB:Le B w](hA:ax w ga 35 #[.slice A 1 cap])(hS:Sl aI w.heap.size w A cap [d]):Calls nH 161 #[aO r t,.pointer (some ⟨ga,0,none⟩)] w (eB (fm t ⟨.early,[d]⟩) w):=by
 obtain⟨v1,v2,v3⟩:=cr.1 hv;have V3:=qh v3;have H:=qh hT;have HE:Hid (fm t ⟨.early,[d]⟩=jP t.aa d):=rfl;obtain⟨bb,oo,rfl,ir,dd⟩:=hS.int (k:=0) nV;have dd:w.cell? ⟨bb,oo,none⟩=some (.int .i64 d):=dd;have ib:Lt bb w:=⟨ir⟩;have ig:=hA.lt;have y0:=hA.cell (i:=0) (v:=.slice (some ⟨bb,oo,none⟩) 1 cap) rfl;clear hv v1 v2 v3 hT hA hS ir;go_enter Tryz.func161,Tryz.ntmps161;go_upto_region 1 with fail;refine QAW ?_;intro W1 aH cJ dF cU dA dD b1;obtain⟨x0,x1,x2,x3,x4,x5,x6,x7,x8,x9,yA,yz,uT,yy⟩:=b1.az;have y1:W1.cell? ⟨ga,0,none⟩=some (.slice (some ⟨bb,oo,none⟩) 1 cap):=by rw[aH.out];go_simp
 have y2:W1.cell? ⟨bb,oo,none⟩=some (.int .i64 d):=by rw[aH.out];go_simp
 have ib1:Lt bb W1:=nt aH;have ig1:Lt ga W1:=nt aH;clear aH b1;refine wpRl ?_;repeat (go_big_quiet_step ((first|(go_at_call 162;exact Calls.bN (PC r.aa t.aa V3.out d B _ H.out.2.2.up)))))
 refine QBT ?_;rintro _ ⟨δq,rfl⟩;go_wp2_with fail;go_ret2;exact⟨by rw[HE.out];rfl,ag⟩
end
end Go.Proofs.YtdmedlkonaclnaaGreatDoor
