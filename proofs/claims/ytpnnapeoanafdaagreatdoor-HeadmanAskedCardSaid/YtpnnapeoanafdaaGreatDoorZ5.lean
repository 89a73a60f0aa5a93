/- A part of the proof that a law of layer 12 holds, cut small by a program (names and blanks): Ha4, Ha5, Ha6. -/
import Derived.Outline
import Derived.Test.YtpnnapeoanafdaaGreatDoorZ4
set_option maxRecDepth 100000
set_option maxHeartbeats 40000000
set_option linter.unusedVariables false
set_option linter.unusedSimpArgs false
namespace Go.Proofs.YtpnnapeoanafdaaGreatDoor
open Go.RowKit
open Nat renaming lt_of_lt_of_le → nL, le_refl → nR, zero_le → nE, le_of_lt → nS, le_of_ble_eq_true → nG
open Go.Proofs.Tryz renaming prog → nH
open Go renaming World → nJ, Value → nK
section
open An
theorem aad:pE nH 24 23 (.agg #[.int .i64 0,.int .i64 0]) 2 16:=pE.mk Tryz.underlying24 nP rfl nQ
theorem aag:pE nH 25 102 (.agg #[.int .i64 0,.int .i64 0]) 2 16:=pE.mk Tryz.underlying25 nP rfl nQ
theorem aac:pE nH 26 148 (.agg #[.int .i64 0,.int .i64 0,.int .i64 0,.int .i64 0,.int .i64 0]) 5 40:=pE.mk Tryz.underlying26 nP rfl nQ
theorem Rv:∀x,∀u∈gY x,u.oneCell'=true:=by intro x u hu;simp[gY] at hu;rcases hu with rfl|rfl<;>rfl
theorem MH:∀x,∀u∈cM x,u.oneCell'=true:=by intro x u hu;simp[cM] at hu;rcases hu with rfl|rfl<;>rfl
theorem MF:∀x,∀u∈fA x,u.oneCell'=true:=by intro x u hu;simp[fA] at hu;rcases hu with rfl|rfl|rfl|rfl|rfl<;>rfl
def dR(base:Nat)(w:nJ)(r:eS)(n:Net):Prop:=
 w.ownsRow base 23 2 (.slice r.gA n.av.length r.gc) n.av.length (n.av.flatMap gY) /\
 w.ownsRow base 102 2 (.slice r.aA n.aB.length r.ac) n.aB.length (n.aB.flatMap cM) /\
 w.ownsRow base 148 5 (.slice r.wA n.aU.length r.wc) n.aU.length (n.aU.flatMap fA)
section
variable{base:Nat}{w:nJ}{r:eS}{n:Net}
theorem dR.is(h:dR base w r n):cr w.heap.size w r n:=⟨Sl.bU h.1,Sl.bU h.2.1,Sl.bU h.2.2⟩
theorem dR.mono(h:dR base w r n){base':Nat}(hb:base'<=base):dR base' w r n:=⟨dA h.1 hb,dA h.2.1 hb,dA h.2.2 hb⟩
theorem dR.set(h:dR base w r n){b i:Nat}(hb:b<base)(u:nK):dR base (w.setCell ⟨b,i,none⟩ u) r n:=
 ⟨ownsRow_setCell_below h.1 (a:=⟨b,i,none⟩) hb u,ownsRow_setCell_below h.2.1 (a:=⟨b,i,none⟩) hb u,ownsRow_setCell_below h.2.2 (a:=⟨b,i,none⟩) hb u⟩
theorem UH{W:nJ}[aD w.heap.size w W][Le w.heap.size W](h:dR base W r n):∃(r':eS) (δ:nJ),Ending.returned (eK r n)=.returned (eK r' n)/\W=ah w δ/\dR base (ah w δ) r' n:=⟨r,W,rfl,ai,by rw[<-ai (w:=w) (W:=W)];exact h⟩
theorem dR.alloc(h:dR base w r n)(o:Obj):dR base (w.alloc o) r n:=⟨h.1.alloc o,h.2.1.alloc o,h.2.2.alloc o⟩
theorem dR.up(h:dR base w r n){W:nJ}[hg:aD w.heap.size w W]:dR base W r n:=⟨bu h.1,bu h.2.1,bu h.2.2⟩
end
theorem LC(r:eS)(n:Net)(B:Nat)(w:nJ)[hB:Le B w](h:cr B w r n)(q1:n.av.length<=1000)(q2:n.aB.length<=1000)(q3:n.aU.length<=1000):Calls nH 82 #[eK r n] w fun e w'=>∃(r':eS) (δ:nJ),e=.returned (eK r' n)/\w'=ah w δ/\dR w.heap.size (ah w δ) r' n:=by
 go_enter Tryz.func82,Tryz.ntmps82;have H:=qh h;clear h;go_upto_region 2 with fail;refine aM fun W1 aH=>?_;refine QAH ?_;intro cJ dF cW di dz eL jG lC mQ jI nk nj wC xL xK AV LA Lz Ly IA PS;have fw22:W1.frozen? ⟨w.heap.size+1,0,none⟩=false:=by rw[aH.out];go_simp
 have fw23:W1.frozen? ⟨w.heap.size+1,1,none⟩=false:=by rw[aH.out];go_simp
 have fw24:W1.frozen? ⟨w.heap.size+1,2,none⟩=false:=by rw[aH.out];go_simp
 have fw25:W1.frozen? ⟨w.heap.size+1,3,none⟩=false:=by rw[aH.out];go_simp
 have fw26:W1.frozen? ⟨w.heap.size+1,4,none⟩=false:=by rw[aH.out];go_simp
 have fw27:W1.frozen? ⟨w.heap.size+1,5,none⟩=false:=by rw[aH.out];go_simp
 have fw28:W1.frozen? ⟨w.heap.size+1,6,none⟩=false:=by rw[aH.out];go_simp
 have aeg:W1.cell? ⟨w.heap.size+1+1,0,none⟩=some (.int .i64 n.aP.lo):=by rw[aH.out];go_simp
 have ail:W1.cell? ⟨w.heap.size+1+1,1,none⟩=some (.int .i64 n.aP.hi):=by rw[aH.out];go_simp
 have aik:W1.cell? ⟨w.heap.size+1+1,2,none⟩=some (.int .i64 n.cur.lo):=by rw[aH.out];go_simp
 have aij:W1.cell? ⟨w.heap.size+1+1,3,none⟩=some (.int .i64 n.cur.hi):=by rw[aH.out];go_simp
 have aii:W1.cell? ⟨w.heap.size+1+1,4,none⟩=some (.slice r.gA n.av.length r.gc):=by rw[aH.out];go_simp
 have aih:W1.cell? ⟨w.heap.size+1+1,5,none⟩=some (.slice r.aA n.aB.length r.ac):=by rw[aH.out];go_simp
 have Tg:W1.cell? ⟨w.heap.size+1+1,6,none⟩=some (.slice r.wA n.aU.length r.wc):=by rw[aH.out];go_simp
 have fw36:W1.frozen? ⟨w.heap.size+1+1,0,none⟩=false:=by rw[aH.out];go_simp
 have fw37:W1.frozen? ⟨w.heap.size+1+1,1,none⟩=false:=by rw[aH.out];go_simp
 have fw38:W1.frozen? ⟨w.heap.size+1+1,2,none⟩=false:=by rw[aH.out];go_simp
 have fw39:W1.frozen? ⟨w.heap.size+1+1,3,none⟩=false:=by rw[aH.out];go_simp
 have fw40:W1.frozen? ⟨w.heap.size+1+1,4,none⟩=false:=by rw[aH.out];go_simp
 have fw41:W1.frozen? ⟨w.heap.size+1+1,5,none⟩=false:=by rw[aH.out];go_simp
 have fw42:W1.frozen? ⟨w.heap.size+1+1,6,none⟩=false:=by rw[aH.out];go_simp
 go_wp2_with (first|(at_builtin;(refine bT W1 aad (.tmp 5) (.tmp 7) rfl rfl (v:=.slice (some ⟨_,0,none⟩) 0 0) (cB nW nW) rfl (B:=B) (A:=r.gA) (m:=n.av.length) (c:=r.gc) (news:=n.av.flatMap gY) rfl (H.out.up.1.2.2) (cm gY 2 (fun _=>rfl) _) (dX gY Rv _) nQ nQ ?_);intro A1 c1 δ1 eG hg1)|(at_builtin;(refine bT W1 aag (.tmp 10) (.tmp 12) rfl rfl (v:=.slice (some ⟨_,0,none⟩) 0 0) (cB nW nW) rfl (B:=B) (A:=r.aA) (m:=n.aB.length) (c:=r.ac) (news:=n.aB.flatMap cM) rfl (H.out.up.2.1.2.2) (cm cM 2 (fun _=>rfl) _) (dX cM MH _) nQ nQ ?_);intro A2 c2 δ2 gK mu;have p1:=jC (ownsRow_setCell_below eG (a:=⟨_,_,_⟩) jG.out _) nW mu)|(at_builtin;(refine bT W1 aac (.tmp 15) (.tmp 17) rfl rfl (v:=.slice (some ⟨_,0,none⟩) 0 0) (cB nW nW) rfl (B:=B) (A:=r.wA) (m:=n.aU.length) (c:=r.wc) (news:=n.aU.flatMap fA) rfl (H.out.up.2.2.2.2) (cm fA 5 (fun _=>rfl) _) (dX fA MF _) nQ nQ ?_);intro A3 c3 δ3 lK uO;have p2:=jC (ownsRow_setCell_below gK (a:=⟨_,_,_⟩) jG.out _) nW uO;have p1':=jC (ownsRow_setCell_below p1 (a:=⟨_,_,_⟩) jG.out _) nW uO));refine bodyPost_ret (v:=eK ⟨A1,c1,A2,c2,A3,c3⟩ n) ?_ rfl ?_
 ·simp only[results,Tryz.results82];go_simp
 ·refine⟨⟨A1,c1,A2,c2,A3,c3⟩,_,rfl,ai,?_⟩;refine QDF ?_;refine dR.mono (base:=W1.heap.size) ?_ cW.out;iterate 7 (refine dR.set ?_ eL.out _)
  refine dR.set ?_ jG.out _;exact⟨p1',p2,lK⟩
theorem Hl(r:eS)(n:Net)(v:Int)(B:Nat)(w:nJ)[hB:Le B w](h:cr B w r n)(q1:n.av.length<=1000)(q2:n.aB.length<=1000)(q3:n.aU.length<=1000):Calls nH 207 #[eK r n,.int .i64 v] w fun e w'=>∃(r':eS) (δ:nJ),e=.returned (eK r' (wg n v))/\w'=ah w δ/\dR w.heap.size (ah w δ) r' (wg n v):=by
 go_enter Tryz.func207,Tryz.ntmps207;have H:=qh h;clear h;go_wp2_with (go_at_call 82;refine(LC r n B _ H.out.up q1 q2 q3).mono ?_;rintro e w1 ⟨r',δ,rfl,rfl,h''⟩;obtain⟨bs,Dj,h'⟩:∃bs,Hid (bs=_)/\dR bs _ r' n:=⟨_,rfl,h''⟩;clear h'');have b1:w.heap.size+1<bs:=by rw[Dj.out];go_simp
 refine bodyPost_ret (v:=eK r' (wg n v)) ?_ rfl ?_
 ·simp only[results,Tryz.results207];go_simp;simp[wg]
 ·refine UH ?_;refine dR.mono (base:=bs) ?_ (nS (Nat.lt_of_succ_lt b1));refine dR.alloc ?_ _;iterate 7 (refine dR.set ?_ b1 _)
  exact h'
end
section
open An
theorem Qz(r:eS)(n:Net)(B:Nat)(w:nJ)[hB:Le B w](h:cr B w r n)(h3:n.av.length<=3):Calls nH 50 #[eK r n] w fun e w'=>∃(rt:pz) (δ:nJ),e=.returned (yD r n rt (bY n))/\w'=ah w δ/\(ah w δ).ownsRow w.heap.size 3 1 (.slice rt.tA (bY n).av.length rt.tc) (bY n).av.length ((bY n).av.flatMap aI):=by
 go_enter Tryz.func50,Tryz.ntmps50;go_wp2_with fail;refine aM fun W1 aH=>?_;refine QAH ?_;intro cJ dF cW di dz eL jG lC mQ jI nk nj wC xL xK AV LA Lz Ly IA PS;refine QAQ ?_;intro Ti PR Th fw25 fw26 fw27 fw28 fw29 fw30 fw31 fw32 fw33 fw34;refine QET ?_;intro Tg V8;refine QCG ?_;intro V7 fw38 s1 hlen;go_loopw [16] (fun i wr=>∃(k:Nat) (A:Option Addr) (c:Nat),k<=n.av.length/\i=.int .i64 k/\wr.ownsRow W1.heap.size 3 1 (.slice A k c) k (((n.av.map (·.lo)).take k).flatMap aI)/\∃δ,wr=(ah W1 δ).setCell ⟨w.heap.size+1+1,2,none⟩ (.slice A k c)) (fun i _=>n.av.length-(intOf i).toNat)
 case atStart=>refine⟨0,none,0,nE _,rfl,by simpa using World.ownsRow_nil _ _ _ _,W1,?_⟩;rw[bw,fk nZ]
 case round=>
  obtain⟨k,A,c,hk,rfl,hown,δ,rfl⟩:=hrel;by_cases hlt:k<n.av.length
  ·obtain⟨b,o,hA,hb,d0,d1⟩:=s1.sp hlt;refine QEM ?_;intro ib in1 HA HO;clear hA hown;rw[HA.out];go_wp2_with (at_builtin;(refine dL W1 wO (.tmp 21) (.tmp 24) rfl rfl (HO.out.alloc _) rfl rfl nW rfl (by simp[Value.oneCell']) nQ nQ ?_);intro A' c' δ' hown');go_roundw
   case rel=>refine⟨k+1,A',c',nQ,by go_num,?_,zy (w0:=W1) δ (.slice A k c) (.slice A' (k+1) c') nZ uV⟩;have:=ownsRow_setCell_below hown' (a:=⟨w.heap.size+1+1,2,none⟩) jG.out (.slice A' (k+1) c');rw[rD aI (n.av.map (·.lo)) (by simpa using hlt),iK _ _ hlt];exact this
   case measure=>simp[intOf];omega
  ·obtain rfl:k=n.av.length:=by omega
   have HO:=qh hown;clear hown;have in2:qP (w.heap.size+1) (w.heap.size+1+1):=⟨nQ⟩;go_wp2_with fail;refine bodyPost_ret (v:=yD r n ⟨A,c⟩ (bY n)) ?_ rfl ?_
   ·simp only[results,Tryz.results50];go_simp;simp[bY]
   ·refine⟨⟨A,c⟩,_,rfl,ai,?_⟩;refine QDF ?_;have H1:=HO.out;rw[List.take_of_length_le nV] at H1;refine dA (base:=W1.heap.size) ?_ cW.out;rw[show(bY n).av.length=n.av.length by simp[bY]];show(_:nJ).ownsRow W1.heap.size 3 1 _ _ ((n.av.map (·.lo)).flatMap aI);iterate 10 (refine ownsRow_setCell_below (a:=⟨_,_,_⟩) ?_ eL.out _)
    exact H1
theorem AY(A:Option Addr)(c:Nat)(xs:List BN)(ln:Nat)(hn:xs.length=ln)(B:Nat)(w:nJ)[hB:Le B w](h:Sl cM B w A c xs)(q:ln<=1000):Calls nH 54 #[.slice A ln c] w fun e w'=>∃(A':Option Addr) (c':Nat) (δ:nJ),e=.returned (.slice A' ln c')/\w'=ah w δ/\(ah w δ).ownsRow w.heap.size 102 2 (.slice A' ln c') ln (xs.flatMap cM):=by
 subst hn;have H:=qh h;clear h;have XU:∀(w:nJ) (a:Option Addr) (n c n' c':Nat),(binOp .eql 25 (.slice a n c) (.slice none n' c')).run nH w=.ok (.bool a.isNone) w:=fun w a n c n' c'=>Lib.run_eql_slice_nil w _ _ a n c n' c' Tryz.underlying25;cases A with
 |none=>
  have hx:xs=[]:=by
   have h2:=H.out.2.2;by_cases hx:xs=[]
   ·exact hx
   ·obtain⟨_,_,he,_⟩:=h2 (by
     obtain⟨y,ys,rfl⟩:=List.exists_cons_of_ne_nil hx
     simp[cM])
    cases he
  subst hx
  go_enter Tryz.func54,Tryz.ntmps54
  go_wp2_with fail
  go_ret
  exact⟨none,0,_,rfl,ai,World.ownsRow_nil _ _ _ _⟩
 |some ad=>
  go_enter Tryz.func54,Tryz.ntmps54
  go_wp2_with (at_builtin;(refine bT w aag (.tmp 5) (.tmp 6) rfl rfl (v:=.slice (some ⟨_,0,none⟩) 0 0) (cB nW nW) rfl (B:=B) (A:=some ad) (m:=xs.length) (c:=c) (news:=xs.flatMap cM) rfl (H.out.up.2.2) (cm cM 2 (fun _=>rfl) _) (dX cM MH _) nQ nQ ?_);intro A1 c1 δ1 eG hg1)
  go_ret
  refine⟨A1,c1,_,rfl,ai,?_⟩
  refine QDF ?_
  exact eG
end
namespace An
def rY(a:BN)(k:Int):BN:=⟨a.wt+k,a.bt⟩
def FV(n:Net)(al:List BN):Net:=⟨n.aP,n.cur,n.av,al,n.aU⟩
def lH(n:Net)(i k:Nat):Int:=2*((nth n.aB i).wt+k)*nth (bY n).av (nth n.aB i).bt.toNat-bears n (bY n) i (fun _=>false)
def jV(n:Net)(i:Nat):Nat:=(21-(nth n.aB i).wt).toNat
def eM(n:Net)(i:Nat):Nat:=bQ (fun k=>decide (0<=lH n i k)) (jV n i) 0
def kG(n:Net):Bool:=(List.range n.aB.length).all fun i=>decide (eM n i<jV n i)
def kQ(n:Net):List Int:=if valid n&&kG n then (List.range n.aB.length).map fun i=>(eM n i:Int) else[]
def nc(n:Net):Int:=if valid n then (if kG n then 0 else 3) else 20
def Cb(n:Net)(i k j:Nat):Nat:=if j<i then eM n j else if j=i then k else 0
def fT(n:Net)(i k:Nat):List BN:=(List.range n.aB.length).map fun j=>rY (nth n.aB j) (Cb n i k j)
def pL(n:Net)(i k:Nat):List Int:=(List.range n.aB.length).map fun j=>(Cb n i k j:Int)
theorem eR(n:Net)(i k:Nat):(fT n i k).length=n.aB.length:=by simp[fT]
theorem gk(n:Net)(i k:Nat):(pL n i k).length=n.aB.length:=by simp[pL]
theorem p9{α:Type}[Inhabited α](f:Nat->α){m j:Nat}(h:j<m):nth ((List.range m).map f) j=f j:=by rw[bN _ (by simpa using h)];simp
theorem kI(n:Net)(i k:Nat){j:Nat}(h:j<n.aB.length):nth (fT n i k) j=rY (nth n.aB j) (Cb n i k j):=p9 _ h
theorem qz(n:Net)(i k:Nat){j:Nat}(h:j<n.aB.length):nth (pL n i k) j=(Cb n i k j:Int):=p9 _ h
theorem lQ{α:Type}[Inhabited α]{xs ys:List α}(hl:xs.length=ys.length)(h:∀j,j<xs.length->nth xs j=nth ys j):xs=ys:=by apply List.ext_getElem hl;intro j h1 h2;have:=h j h1;rwa [bN _ h1,bN _ h2] at this
theorem vN{α:Type}[Inhabited α](xs:List α)(i:Nat)(y:α){j:Nat}(h:j<xs.length):nth (xs.set i y) j=if i=j then y else nth xs j:=by rw[bN _ (by simpa using h),bN _ h,List.getElem_set]
theorem qL(n:Net)(i k:Nat):Cb n i k i=k:=by simp[Cb]
theorem Fc(n:Net):fT n 0 0=n.aB:=by
 refine lQ (eR _ _ _) fun j hj=>?_;rw[eR] at hj;rw[kI _ _ _ hj];have:Cb n 0 0 j=0:=by simp[Cb]
 rw[this];simp[rY]
theorem Gw(n:Net):pL n 0 0=List.replicate n.aB.length 0:=by refine lQ (by rw[gk];simp) fun j hj=>?_;rw[gk] at hj;rw[qz _ _ _ hj,bN _ (by simpa using hj)];simp[Cb]
theorem IY(n:Net)(i j:Nat):Cb n (i+1) 0 j=Cb n i (eM n i) j:=by
 unfold Cb;by_cases h1:j<i
 ·simp[h1,show j<i+1 by omega]
 ·by_cases h2:j=i
  ·subst h2;simp
  ·simp[h1,h2,show ¬j<i+1 by omega]
theorem IX(n:Net)(i:Nat):fT n (i+1) 0=fT n i (eM n i):=by unfold fT;congr 1;funext j;rw[IY]
theorem Kn(n:Net)(i:Nat):pL n (i+1) 0=pL n i (eM n i):=by unfold pL;congr 1;funext j;rw[IY]
theorem L5(n:Net){i:Nat}(k:Nat)(_hi:i<n.aB.length):(fT n i k).set i (rY (nth n.aB i) ((k+1:Nat):Int))=fT n i (k+1):=by
 refine lQ (by rw[List.length_set,eR,eR]) fun j hj=>?_;rw[List.length_set,eR] at hj;rw[vN _ _ _ (by rw[eR];exact hj),kI _ _ _ hj,kI _ _ _ hj];by_cases h:i=j
 ·subst h;rw[if_pos rfl,qL]
 ·rw[if_neg h];have:Cb n i k j=Cb n i (k+1) j:=by unfold Cb;rw[if_neg (show ¬j=i from fun e=>h e.symm),if_neg (show ¬j=i from fun e=>h e.symm)]
  rw[this]
theorem Oe(n:Net){i:Nat}(k:Nat)(_hi:i<n.aB.length):(pL n i k).set i ((k+1:Nat):Int)=pL n i (k+1):=by
 refine lQ (by rw[List.length_set,gk,gk]) fun j hj=>?_;rw[List.length_set,gk] at hj;rw[vN _ _ _ (by rw[gk];exact hj),qz _ _ _ hj,qz _ _ _ hj];by_cases h:i=j
 ·subst h;rw[if_pos rfl,qL]
 ·rw[if_neg h];have:Cb n i k j=Cb n i (k+1) j:=by unfold Cb;rw[if_neg (show ¬j=i from fun e=>h e.symm),if_neg (show ¬j=i from fun e=>h e.symm)]
  rw[this]
theorem L0(n:Net)(al:List BN)(t:jn)(i:Nat)(d:Nat->Bool):bears (FV n al) t i d=bears n t i d:=rfl
theorem QF{n:Net}{i:Nat}(k:Nat)(hi:i<n.aB.length):spare (FV n (fT n i k)) (bY n) i (fun _=>false)=lH n i k:=by unfold spare lH can;rw[L0];show 2*(nth (fT n i k) i).wt*nth (bY n).av (nth (fT n i k) i).bt.toNat-_=_;rw[kI _ _ _ hi,qL];rfl
theorem QA{n:Net}(hv:valid n=true){i k:Nat}(hk:k<jV n i)(h:∀j,j<i->j<n.aB.length->eM n j<jV n j):valid (FV n (fT n i k))=true:=by
 have h0:=hv;rw[aC] at hv ⊢;obtain⟨h1,h2,h3,h4,h5,h6,h7,h8⟩:=hv;refine⟨h1,h2,h3,by show(fT n i k).length<=6;rw[eR];exact h4,by show n.aU.length=(fT n i k).length-1;rw[eR];exact h5,h6,?_,h8⟩;show kE n.av.length (fT n i k)=true;unfold kE;rw[List.all_eq_true];intro x hx;obtain⟨j,hj,rfl⟩:=List.getElem_of_mem hx;have hj':j<n.aB.length:=by rwa [eR] at hj
 rw[<-bN _ hj,kI _ _ _ hj'];have ha:=mI h0 hj';simp only[mY,decide_eq_true_eq] at ha;have hlt:Cb n i k j<jV n j:=by
  unfold Cb;by_cases hji:j<i
  ·rw[if_pos hji];exact h j hji hj'
  ·rw[if_neg hji];by_cases he:j=i
   ·subst he;rw[if_pos rfl];exact hk
   ·rw[if_neg he];unfold jV;omega
 have hT:(jV n j:Int)=21-(nth n.aB j).wt:=by unfold jV;rw[Int.toNat_of_nonneg nQ]
 refine decide_eq_true ?_;simp only[rY];omega
theorem Ry{n:Net}(hv:valid n=true){i k:Nat}(hk:k<jV n i)(h:∀j,j<i->j<n.aB.length->eM n j<jV n j):jZ (FV n (fT n i k)) (bY n):=by have:=sM hv;exact⟨QA hv hk h,this.2.1,this.2.2.1,this.2.2.2.1,this.2.2.2.2⟩
end An
section
open An
abbrev XJ(n:Net)(gA:Option Addr)(gc:Nat)(aA:Option Addr)(ac:Nat)(wA:Option Addr)(wc:Nat)(rt:pz):Array nK:=#[.int .i64 n.aP.lo,.int .i64 n.aP.hi,.int .i64 n.cur.lo,.int .i64 n.cur.hi,.slice gA n.av.length gc,.slice aA n.aB.length ac,.slice wA n.aU.length wc,.int .i64 (bY n).aP,.int .i64 (bY n).cur,.slice rt.tA (bY n).av.length rt.tc]
structure kj(n:Net)(w:nJ)(r:eS)(rt:pz)(g2 b2 br b3:Nat)(A1:Option Addr)(c1 i k k':Nat)(wr:nJ):Prop where
 gu:aD w.heap.size w wr
 le:Le w.heap.size wr
 bx:ay wr br 96 (XJ n r.gA r.gc A1 c1 r.wA r.wc rt)
 o2:wr.ownsRow g2 3 1 (.slice (some ⟨g2,0,none⟩) n.aB.length n.aB.length) n.aB.length ((pL n i k').flatMap aI)
 ot:wr.ownsRow b2 3 1 (.slice rt.tA (bY n).av.length rt.tc) (bY n).av.length ((bY n).av.flatMap aI)
 o1:wr.ownsRow b3 102 2 (.slice A1 n.aB.length c1) n.aB.length ((fT n i k).flatMap cM)
 h2:w.heap.size<=g2
 h3:g2<b2
 h4:b2<=br
 h5:br<b3
 ht:∀g,(Value.slice rt.tA (bY n).av.length rt.tc).ownBlock=some g->b2<=g/\g<br
section
variable{n:Net}{w:nJ}{r:eS}{rt:pz}{g2 b2 br b3:Nat}{A1:Option Addr}{c1 i k k':Nat}{wr:nJ}
theorem kj.ah(h:kj n w r rt g2 b2 br b3 A1 c1 i k k' wr)(δ:nJ):kj n w r rt g2 b2 br b3 A1 c1 i k k' (ah wr δ):=by have:=h.gu;have:=h.le;exact⟨inferInstance,inferInstance,h.bx.ah δ,lJ δ h.o2,lJ δ h.ot,lJ δ h.o1,h.h2,h.h3,h.h4,h.h5,h.ht⟩
theorem kj.at1(h:kj n w r rt g2 b2 br b3 A1 c1 i k k' wr)(hi:i<n.aB.length):∃g,A1=some ⟨g,0,none⟩/\b3<=g/\Lt g wr/\wr.cell? ⟨g,i*2,none⟩=some (.int .i64 ((nth n.aB i).wt+k))/\wr.frozen? ⟨g,i*2,none⟩=false:=by obtain⟨g,hA,hb,hl,hc,hf⟩:=qY h.o1 nQ;refine⟨g,hA,hb,hl,hc _ _ ?_,hf _⟩;have:=gx cM 2 (fun _=>rfl) (fT n i k) i 0 (by rw[eR];exact hi) nQ;rw[Nat.add_zero] at this;rw[this,kI _ _ _ hi,qL];rfl
theorem kj.at2(h:kj n w r rt g2 b2 br b3 A1 c1 i k k' wr)(hi:i<n.aB.length):Lt g2 wr/\wr.cell? ⟨g2,i,none⟩=some (.int .i64 k')/\wr.frozen? ⟨g2,i,none⟩=false:=by obtain⟨g,hA,hb,hl,hc,hf⟩:=qY h.o2 nQ;injection hA with hA;injection hA with hA;subst hA;refine⟨hl,hc _ _ ?_,hf _⟩;have:=gx aI 1 (fun _=>rfl) (pL n i k') i 0 (by rw[gk];exact hi) nQ;rw[Nat.add_zero,Nat.mul_one] at this;rw[this,qz _ _ _ hi,qL];rfl
theorem kj.ad5{g:Nat}(h:kj n w r rt g2 b2 br b3 (some ⟨g,0,none⟩) c1 i k k' wr)(hi:i<n.aB.length)(hg:b3<=g):kj n w r rt g2 b2 br b3 (some ⟨g,0,none⟩) c1 i (k+1) k' (wr.setCell ⟨g,i*2,none⟩ (.int .i64 ((nth n.aB i).wt+k+1))):=by
 have i1:=h.gu;have i2:=h.le;have i3:oE w.heap.size g:=⟨by have:=h.h2;have:=h.h3;have:=h.h4;have:=h.h5;omega⟩;refine⟨inferInstance,inferInstance,h.bx.fB (p:=⟨g,i*2,none⟩) (by have:=h.h5;show br≠g;omega) _,cZ h.o2 (by have:=h.h3;have:=h.h4;have:=h.h5;intro e;injection e with e;simp at e;omega),cZ h.ot ?_,?_,h.h2,h.h3,h.h4,h.h5,h.ht⟩
 ·intro e;have h1:g<br:=(h.ht _ e).2;have:=h.h5;omega
 ·have:=pK (u:=.int .i64 ((nth n.aB i).wt+k+1)) (i:=i*2) h.o1 (by rw[cm cM 2 (fun _=>rfl),eR];omega);have e:=jt cM 2 (fun _=>rfl) (fT n i k) i 0 (.int .i64 ((nth n.aB i).wt+k+1)) (rY (nth n.aB i) ((k+1:Nat):Int)) (by rw[eR];exact hi) nQ (by
   rw[kI _ _ _ hi,qL]
   simp[cM,rY,Int.add_assoc])
  rw[Nat.add_zero] at e;rw[e,L5 _ _ hi] at this;exact this
theorem kj.ad4(h:kj n w r rt g2 b2 br b3 A1 c1 i k k' wr)(hi:i<n.aB.length):kj n w r rt g2 b2 br b3 A1 c1 i k (k'+1) (wr.setCell ⟨g2,i,none⟩ (.int .i64 (k'+1))):=by
 have i1:=h.gu;have i2:=h.le;have i3:oE w.heap.size g2:=⟨h.h2⟩;refine⟨inferInstance,inferInstance,h.bx.fB (p:=⟨g2,i,none⟩) (by have:=h.h3;have:=h.h4;show br≠g2;omega) _,?_,cZ h.ot ?_,cZ h.o1 ?_,h.h2,h.h3,h.h4,h.h5,h.ht⟩
 ·have:=pK (u:=.int .i64 ((k':Int)+1)) (i:=i) h.o2 (by rw[cm aI 1 (fun _=>rfl),gk];omega);have e:=jt aI 1 (fun _=>rfl) (pL n i k') i 0 (.int .i64 ((k':Int)+1)) ((k'+1:Nat):Int) (by rw[gk];exact hi) nQ (by simp[aI]);rw[Nat.add_zero,Nat.mul_one] at e;rw[e,Oe _ _ hi] at this;exact this
 ·intro e;have h1:b2<=g2:=(h.ht _ e).1;have:=h.h3;omega
 ·intro e;have h1:b3<=g2:=(xo h.o1 _ e).1;have:=h.h3;have:=h.h4;have:=h.h5;omega
theorem kj.next(h:kj n w r rt g2 b2 br b3 A1 c1 i (eM n i) (eM n i) wr):kj n w r rt g2 b2 br b3 A1 c1 (i+1) 0 0 wr:=
 ⟨h.gu,h.le,h.bx,by rw[Kn];exact h.o2,h.ot,by rw[IX];exact h.o1,h.h2,h.h3,h.h4,h.h5,h.ht⟩
theorem kj.spare(h:kj n w r rt g2 b2 br b3 A1 c1 i k k' wr){B:Nat}(hB:Le B w)(H:cr B w r n)(hv:valid n=true)(hi:i<n.aB.length)(hk:k<jV n i)(hj:∀j,j<i->j<n.aB.length->eM n j<jV n j):Calls nH 55 #[.agg (XJ n r.gA r.gc A1 c1 r.wA r.wc rt),.int .i64 i,.int .u64 0] wr fun e w'=>e=.returned (.int .i64 (lH n i k))/\∃δ,w'=Go.Proofs.YtpnnapeoanafdaaGreatDoor.ah wr δ:=by have i1:=h.gu;have i2:=h.le;have el:(FV n (fT n i k)).aB.length=n.aB.length:=eR _ _ _;have H':cr w.heap.size w r n:=H.more hB.out;have a1:Sl gY wr.heap.size wr r.gA r.gc n.av:=(H'.1.up (w':=wr)).more i2.out;have a3:Sl fA wr.heap.size wr r.wA r.wc n.aU:=(H'.2.2.up (w':=wr)).more i2.out;have a2:Sl cM wr.heap.size wr A1 c1 (fT n i k):=Sl.bU (by rw[eR];exact h.o1);have a4:sj wr.heap.size wr rt (bY n):=Sl.bU h.ot;have:=QG ⟨r.gA,r.gc,A1,c1,r.wA,r.wc⟩ (FV n (fT n i k)) rt (bY n) i wr.heap.size wr ⟨a1,a2,a3⟩ a4 (Ry hv hk hj) (by rw[el];exact hi);rw[QF _ hi] at this;simp only[yD,el] at this;exact this
end
theorem S6(n:Nat)(x:Int):(List.replicate n x).flatMap aI=List.replicate n (Value.int .i64 x):=by
 induction n with
 |zero=>rfl
 |succ n ih=>rw[List.replicate_succ,List.replicate_succ,List.flatMap_cons,ih];rfl
theorem Yb(r:eS)(n:Net)(B:Nat)(w:nJ)[hB:Le B w](h:cr B w r n):Calls nH 26 #[eK r n] w fun e w'=>∃(A:Option Addr) (c:Nat) (δ:nJ),e=.returned (.tuple #[.slice A (kQ n).length c,.int .i64 (nc n)])/\w'=ah w δ/\Sl aI (ah w δ).heap.size (ah w δ) A c (kQ n):=by
 by_cases hv:valid n=true;all_goals try rw[Bool.not_eq_true] at hv
 case neg=>have HF:=qh (show kQ n=[] by simp[kQ,hv]);have HE:=qh (show nc n=20 by simp[nc,hv]);have HV:=qh hv;clear hv;go_enter Tryz.func26,Tryz.ntmps26;go_wp2_with (go_at_call 48;refine(AZ r n B _ h.up HV.out).mono ?_;rintro e w1 ⟨rfl,δ,rfl⟩);go_ret2;rw[HF.out,HE.out];exact⟨none,0,_,rfl,ai,Sl.none_⟩
 case pos=>
  have h3:=(aC.1 hv).2.2.1;have h6:=(aC.1 hv).2.2.2.1;have HV:=qh hv;have H:=qh h;have hmk:=run_mk wO n.aB.length nQ nQ;clear hv h;go_enter Tryz.func26,Tryz.ntmps26;go_upto_region 4 with(go_at_call 48;refine(wF r n B _ H.out.up HV.out).mono ?_;rintro e w1 ⟨rfl,δ,rfl⟩);refine QAL ?_;intro W1 aH cJ dF cW di dz uu nt lC mQ jI nk nj;go_upto_region 5 with fail;refine aM fun W2 eJ=>?_;obtain⟨sR,tX,Ex,He,KU⟩:=BH B w eJ;have KT:Lt (W1.heap.size) W2:=nr eJ;have KS:Le w.heap.size W2:=fI eJ;have KR:aD w.heap.size W1 W2:=gy eJ;have KQ:Le W1.heap.size W2:=fI eJ;have Vt:aD W1.heap.size W1 W2:=gy eJ;have PR:W2.cell? ⟨w.heap.size,0,none⟩=some (.int .i64 n.aP.lo):=by rw[eJ.out];go_simp
  have Th:W2.cell? ⟨w.heap.size,1,none⟩=some (.int .i64 n.aP.hi):=by rw[eJ.out];go_simp
  have aip:W2.cell? ⟨w.heap.size,2,none⟩=some (.int .i64 n.cur.lo):=by rw[eJ.out];go_simp
  have aio:W2.cell? ⟨w.heap.size,3,none⟩=some (.int .i64 n.cur.hi):=by rw[eJ.out];go_simp
  have ain:W2.cell? ⟨w.heap.size,4,none⟩=some (.slice r.gA n.av.length r.gc):=by rw[eJ.out];go_simp
  have aim:W2.cell? ⟨w.heap.size,5,none⟩=some (.slice r.aA n.aB.length r.ac):=by rw[eJ.out];go_simp
  have aeg:W2.cell? ⟨w.heap.size,6,none⟩=some (.slice r.wA n.aU.length r.wc):=by rw[eJ.out];go_simp
  have o2:W2.ownsRow W1.heap.size 3 1 (.slice (some ⟨W1.heap.size,0,none⟩) n.aB.length n.aB.length) n.aB.length ((pL n 0 0).flatMap aI):=by rw[eJ.out];have:=vF (w:=W1) (base:=W1.heap.size) (g:=W1.heap.size) (n:=n.aB.length) (size:=1) (e:=3) (cs:=j9 (.int .i64 0) 1 n.aB.length) (nR _) rfl nQ (uk _ _ _);rw[vQ _ (.int .i64 0)] at this ⊢;rw[Gw];rw[show(List.replicate n.aB.length (0:Int)).flatMap aI=(Array.replicate n.aB.length (Value.int .i64 0)).toList by rw[Array.toList_replicate];exact S6 _ _];exact this
  have O2:=qh o2;clear o2;go_upto_region 6 with(go_at_call 50;go_loud (refine(Qz r n B _ H.out.up h3).mono ?_;rintro e w1 ⟨rt,δ,rfl,rfl,eG⟩;have O1:=qh eG;clear eG));refine aM fun W3 bR=>?_;obtain⟨aas,aar,aaq,aap,aao⟩:=BH B w bR;have aan:Lt (W1.heap.size) W3:=nr bR;have adg:Lt ((ah W2 δ).heap.size) W3:=nr bR;have adf:Le w.heap.size W3:=fI bR;have ade:aD w.heap.size W2 W3:=gy bR;have adb:Le W1.heap.size W3:=fI bR;have ada:aD W1.heap.size W2 W3:=gy bR;have ad9:Le W2.heap.size W3:=fI bR;have ad8:aD W2.heap.size W2 W3:=gy bR;have bx3:ay W3 (ah W2 δ).heap.size 96 (XJ n r.gA r.gc r.aA r.ac r.wA r.wc rt):=by rw[bR.out];exact ay.new rfl
  have ot3:W3.ownsRow W2.heap.size 3 1 (.slice rt.tA (bY n).av.length rt.tc) (bY n).av.length ((bY n).av.flatMap aI):=by rw[bR.out];exact O1.out.alloc _
  have hgt:=qh (xo O1.out);have aif:W3.cell? ⟨w.heap.size,5,none⟩=some (.slice r.aA n.aB.length r.ac):=by rw[bR.out];go_simp
  have q5:=bx3.cell (i:=5) rfl;have f5:=bx3.free 5;clear O1;go_upto_region 7 with(go_at_call 54;refine(AY r.aA r.ac n.aB _ rfl B _ H.out.up.2.1 nQ).mono ?_;rintro e w1 ⟨A1,c1,δ1,rfl,rfl,eG⟩;have O1:=qh eG;clear eG);refine aM fun W4 jU=>?_;have hsz:W2.heap.size<=(ah W2 δ).heap.size:=js _ _;have aaD:(ah W2 δ).heap.size<W3.heap.size:=by rw[bR.out];simp
  have adn:W1.heap.size<W2.heap.size:=by rw[eJ.out];simp
  obtain⟨br,hbr⟩:∃b,(ah W2 δ).heap.size=b:=⟨_,rfl⟩;rw[hbr] at jU hsz aaD hgt bx3;rw[hbr];clear hbr;have I4:kj n w r rt W1.heap.size W2.heap.size br W3.heap.size A1 c1 0 0 0 W4:=by
   rw[jU.out];have hw1:w.heap.size<=W1.heap.size:=cW.out;have i1:oE w.heap.size br:=⟨nQ⟩;have o1':=O1.out;have o2':(ah W3 δ1).ownsRow _ _ _ _ _ _:=bu O2.out;refine⟨inferInstance,inferInstance,(bx3.ah δ1).set 5 _,cZ o2' (by intro e;injection e with e;have e:W1.heap.size=br:=e;omega),cZ (lJ δ1 ot3) ?_,cZ (by rw[Fc];exact o1') ?_,hw1,adn,hsz,aaD,hgt.out⟩
   ·intro e;have h1:br<br:=(hgt.out _ e).2;omega
   ·intro e;have h1:W3.heap.size<=br:=(xo o1' _ e).1;omega
  have hc5:=I4.bx.cell (i:=5) rfl;go_wp2_with fail;obtain⟨g2,mu⟩:∃b,b=W1.heap.size:=⟨_,rfl⟩;obtain⟨b2,fX⟩:∃b,b=W2.heap.size:=⟨_,rfl⟩;obtain⟨b3,SA⟩:∃b,b=W3.heap.size:=⟨_,rfl⟩;rw[<-mu,<-fX,<-SA] at I4;rw[<-mu];clear mu fX SA;go_loopg [28] n.aB.length (fun g v wr=>∃i:Nat,i<=n.aB.length/\g=n.aB.length-i/\v=.int .i64 i/\kj n w r rt g2 b2 br b3 A1 c1 i 0 0 wr/\Hid (∀j,j<i->j<n.aB.length->eM n j<jV n j))
  case atStart=>exact⟨0,nE _,rfl,rfl,I4,fun j hj=>by omega⟩
  case round=>
   clear I4;obtain⟨i,hi,rfl,rfl,I,hj⟩:=hrel;by_cases hlt:i<n.aB.length
   ·have ha:=mI HV.out hlt;simp only[mY,decide_eq_true_eq] at ha;have aaB:(jV n i:Int)=21-(nth n.aB i).wt:=by unfold jV;rw[Int.toNat_of_nonneg nQ]
    have HT:=qh aaB;have h0:0<jV n i:=nQ;clear aaB;go_wp2_with fail;go_loopg [] (jV n i) (fun g wr=>∃k:Nat,k<jV n i/\g=jV n i-k/\kj n w r rt g2 b2 br b3 A1 c1 i k k wr/\Hid (∀j,0<=j->j<k->(fun k=>decide (0<=lH n i k)) j=false))
    case atStart=>exact⟨0,h0,rfl,I,fun j _ hj=>by omega⟩
    case round=>
     clear I;obtain⟨k,hk,rfl,I,hn⟩:=hrel;have i1:=I.gu;have i2:=I.le;have hc:=qh (I.spare hB H.out HV.out hlt hk hj.out);have jm:=I.bx;have ilt:Lt br wr:=jm.lt;have b0:=jm.cell (i:=0) rfl;have b1:=jm.cell (i:=1) rfl;have b2':=jm.cell (i:=2) rfl;have b3':=jm.cell (i:=3) rfl;have b4:=jm.cell (i:=4) rfl;have b5:=jm.cell (i:=5) rfl;have b6:=jm.cell (i:=6) rfl;have b7:=jm.cell (i:=7) rfl;have b8:=jm.cell (i:=8) rfl;have b9:=jm.cell (i:=9) rfl;clear jm;by_cases hs:lH n i k<0
     ·obtain⟨g1,hA,hg1,j1,d1,f1⟩:=I.at1 hlt;obtain⟨j2,d2,f2⟩:=I.at2 hlt;subst hA;have ne:qP g2 g1:=⟨by have:=I.h3;have:=I.h4;have:=I.h5;omega⟩;have ahv:(nth n.aB i).wt+(k:Int)<=20:=by have:=HT.out;omega
      have hk0:0<=(nth n.aB i).wt+(k:Int):=nQ;have AA:(k:Int)<=20:=nQ;have HS:=qh (show decide (0<=lH n i k)=false by simpa using hs);by_cases hend:k+1=jV n i
      ·have hz:((nth n.aB i).wt+k==20)=true:=by have:=HT.out;simp;omega
       have HN:=qh (show nc n=3/\kQ n=[] by
        have e1:eM n i=jV n i:=qg _ fun j hj=>by
         by_cases e:j=k
         ·subst e;exact HS.out
         ·exact hn.out j (nE _) nQ
        have e2:kG n=false:=by
         unfold kG
         rw[List.all_eq_false]
         exact⟨i,by simpa using hlt,by rw[e1];simp⟩
        exact⟨by simp[nc,HV.out,e2],by simp[kQ,e2]⟩)
       clear hend;go_wp2_with (go_at_call 55;refine hc.out.mono ?_;rintro e w1 ⟨rfl,δ,rfl⟩);go_ret2;refine⟨none,0,_,?_,ai,?_⟩
       ·rw[HN.out.1,HN.out.2];rfl
       ·rw[HN.out.2];exact Sl.none_
      ·have hz:((nth n.aB i).wt+k==20)=false:=by have:=HT.out;simp;omega
       have ahw:(nth n.aB i).wt+(k:Int)<=19:=by have:=HT.out;omega
       go_wp2_with (go_at_call 55;refine hc.out.mono ?_;rintro e w1 ⟨rfl,δ,rfl⟩);go_roundg (jV n i-(k+1))
       case measure=>omega
       case rel=>
        refine⟨k+1,nQ,rfl,((I.ah δ).ad5 hlt hg1).ad4 hlt,fun j h0 hj=>?_⟩;by_cases e:j=k
        ·subst e;exact HS.out
        ·exact hn.out j h0 nQ
     ·have hkn:k=eM n i:=by have h1:=gG (fun k=>decide (0<=lH n i k)) (jV n i) 0;refine(tg _ hk (fun j hj=>hn.out j (nE _) hj) ?_).symm;exact decide_eq_true nQ
      have HK:=qh hkn;clear hkn;go_wp2_with (go_at_call 55;refine hc.out.mono ?_;rintro e w1 ⟨rfl,δ,rfl⟩);go_roundg (n.aB.length-(i+1))
      case measure=>omega
      case rel=>
       have I':=I.ah δ;rw[HK.out] at I';refine⟨i+1,nQ,rfl,by go_num,I'.next,fun j h1 h2=>?_⟩;by_cases e:j=i
       ·subst e;rw[<-HK.out];exact hk
       ·exact hj.out j nQ h2
   ·obtain rfl:i=n.aB.length:=by omega
    have i1:=I.gu;have i2:=I.le;have HE:=qh (show nc n=0/\kQ n=pL n n.aB.length 0 by
     have hok:kG n=true:=by
      unfold kG
      rw[List.all_eq_true]
      intro j hj'
      have hj':j<n.aB.length:=by simpa using hj'
      exact decide_eq_true (hj.out j hj' hj')
     refine⟨by simp[nc,HV.out,hok],?_⟩
     unfold kQ
     rw[if_pos (by rw[HV.out,hok];rfl)]
     refine lQ (by rw[gk];simp) fun j hj'=>?_
     have hj':j<n.aB.length:=by simpa using hj'
     rw[qz _ _ _ hj',p9 _ hj']
     simp[Cb,hj'])
    go_wp2_with fail;go_ret2;refine⟨some ⟨g2,0,none⟩,n.aB.length,wr,?_,ai,?_⟩
    ·rw[HE.out.1,HE.out.2,gk];rfl
    ·rw[HE.out.2,<-ai (w:=w) (W:=wr)];exact Sl.bU (by rw[gk];exact I.o2)
end
section
open An
def ni(n:Net)(x:Nat):Bool:=decide (kD (wg n x)<(bK (wg n x)).length)
theorem Fx(r:eS)(n:Net)(B:Nat)(w:nJ)[hB:Le B w](h:cr B w r n)(hv:valid n=true):Calls nH 149 #[eK r n] w fun e w'=>e=.returned (.int .i64 (bQ (ni n) 21 0))/\∃δ,w'=ah w δ:=by
 have hq1:n.av.length<=1000:=by have:=(aC.1 hv).2.2.1;omega
 have BE:n.aB.length<=1000:=by have:=(aC.1 hv).2.2.2.1;omega
 have hq3:n.aU.length<=1000:=by have:=(aC.1 hv).2.2.2.2.1;omega
 have HV:=qh hv;have H:=qh h;clear hv h;go_enter Tryz.func149,Tryz.ntmps149;go_wp2_with fail;refine QAL ?_;intro W1 aH cJ dF cW di dz uu nt lC mQ jI nk nj;go_loopw [3] (fun i wr=>∃(k:Nat) (δ:nJ),k<=21/\i=.int .i64 k/\Hid (∀j,j<k->ni n j=false)/\wr=ah W1 δ) (fun i _=>21-(intOf i).toNat)
 case atStart=>exact⟨0,W1,nQ,rfl,fun j hj=>by omega,(bw W1).symm⟩
 case round=>
  obtain⟨k,δ,hk,rfl,hn,rfl⟩:=hrel;by_cases hlt:k<21
  ·have Yw:=qh (wS HV.out (x:=k) nQ);have hki:(k:Int)<=20:=nQ;by_cases hh:kD (wg n k)<(bK (wg n k)).length;all_goals have EH:=qh hh
   ·have hlt':(kD (wg n k):Int)<((bK (wg n k)).length:Int):=nQ;have HF:=qh (tg (ni n) hlt hn.out (by simp[ni,hh]));clear hh;go_wp2_with (first|(go_at_call 207;refine(Hl r n k B _ H.out.up hq1 BE hq3).mono ?_;rintro e w1 ⟨r',δ',rfl,rfl,ho⟩)|(go_at_call 147;refine(D8 r' (wg n k) _ _ ho.is Yw.out).mono ?_;rintro e w1 ⟨rfl,δ'',rfl⟩));go_ret;exact⟨cG (by rw[HF.out]),ag⟩
   ·have hlt':¬(kD (wg n k):Int)<((bK (wg n k)).length:Int):=nQ;clear hh;go_wp2_with (first|(go_at_call 207;refine(Hl r n k B _ H.out.up hq1 BE hq3).mono ?_;rintro e w1 ⟨r',δ',rfl,rfl,ho⟩)|(go_at_call 147;refine(D8 r' (wg n k) _ _ ho.is Yw.out).mono ?_;rintro e w1 ⟨rfl,δ'',rfl⟩));go_roundw
    case rel=>
     refine⟨k+1,_,nQ,by go_num,?_,ai⟩;intro j hj;by_cases VJ:j=k
     ·subst VJ;simp only[ni,decide_eq_false_iff_not];exact EH.out
     ·exact hn.out j nQ
    case measure=>simp[intOf];omega
  ·obtain rfl:k=21:=by omega
   have HF:=qh (qg (ni n) hn.out);go_wp2_with fail;go_ret;exact⟨cG (by rw[HF.out]),ag⟩
theorem sZ(f:Nat->Bool)(m:Nat):bQ f m 0<=m:=by have:=(gG f m 0).2.1;omega
theorem UJ(r:eS)(n:Net)(B:Nat)(w:nJ)[hB:Le B w](h:cr B w r n):Calls nH 87 #[eK r n] w fun e w'=>e=.returned (.tuple #[.int .i64 (ug (valid n) (bQ (ni n) 21 0)),.int .i64 (uh (valid n) (bQ (ni n) 21 0))])/\∃δ,w'=ah w δ:=by
 by_cases hv:valid n=true;all_goals try rw[Bool.not_eq_true] at hv
 all_goals have HV:=qh hv;rw[hv];clear hv
 ·have hle:bQ (ni n) 21 0<=21:=sZ (ni n) 21;have hX:∃X,X=bQ (ni n) 21 0:=⟨_,rfl⟩;obtain⟨X,hX⟩:=hX;rw[<-hX] at hle ⊢;have HX:=qh hX;clear hX;by_cases hx:X=21
  ·subst hx;go_enter Tryz.func87,Tryz.ntmps87;go_wp2_with (first|(go_at_call 72;refine(jY r n B _ h.up).mono ?_;rw[HV.out];rintro e w1 ⟨rfl,δ,rfl⟩)|(go_at_call 149;refine(Fx r n B _ h.up HV.out).mono ?_;rw[<-HX.out];rintro e w1 ⟨rfl,δ,rfl⟩));go_ret2;exact⟨rfl,ag⟩
  ·have hne:¬(20:Int)<(X:Int):=nQ;have HN:=qh hx;clear hx;go_enter Tryz.func87,Tryz.ntmps87;go_wp2_with (first|(go_at_call 72;refine(jY r n B _ h.up).mono ?_;rw[HV.out];rintro e w1 ⟨rfl,δ,rfl⟩)|(go_at_call 149;refine(Fx r n B _ h.up HV.out).mono ?_;rw[<-HX.out];rintro e w1 ⟨rfl,δ,rfl⟩));go_ret2;exact⟨Q0 (int_eq (by simp[ug,HN.out])) (int_eq (by simp[uh,HN.out])),ag⟩
 ·go_enter Tryz.func87,Tryz.ntmps87;go_wp2_with (go_at_call 72;refine(jY r n B _ h.up).mono ?_;rw[HV.out];rintro e w1 ⟨rfl,δ,rfl⟩);go_ret2;exact⟨rfl,ag⟩
end
namespace An
def Dz(n:Net)(t:jn):Prop:=∀i,i<n.aB.length->0<=spare n t i (fun _=>false)
theorem wH{n:Net}{t:jn}:calm n t=true↔Dz n t:=by
 unfold calm jj Dz;rw[decide_eq_true_eq,List.length_eq_zero_iff];constructor
 ·intro h i hi;by_cases hs:0<=spare n t i (fun _=>false)
  ·exact hs
  ·exfalso;have:(i:Int)∈p5 n.aB.length (rV n t (nN [])):=by
    rw[KH];refine⟨hi,?_⟩;have he:nN []=fun _=>false:=by funext k;simp[nN,ke]
    rw[he];unfold rV;simp[hi];omega
   rw[h] at this;simp at this
 ·intro h;have he:nN []=fun _=>false:=by funext k;simp[nN,ke]
  rw[he];unfold p5;rw[List.map_eq_nil_iff,List.filter_eq_nil_iff];intro i hi hs;have:=h i (by simpa using hi);unfold rV at hs;simp at hs;omega
theorem Co{n:Net}{t:jn}:jW n t 0=0↔Dz n t:=by
 unfold Dz;constructor
 ·intro h i hi;have:=Cn n t 0 i;rw[h] at this;unfold rV at this;simp at this;exact this hi
 ·intro h;apply Nat.eq_of_testBit_eq;intro i;rw[Cn];unfold rV;simp;exact h i
def tE(n:Net)(t t':jn):Prop:=t.aP<=t'.aP/\t.cur<=t'.cur/\∀b,b<n.av.length->nth t'.av b<=nth t.av b
theorem Pa{n:Net}{t t':jn}(hv:valid n=true)(h:tE n t t'){k:Nat}(hk:k<n.aU.length):ld n t k<=ld n t' k:=by have hx:=oC hv hk;simp only[qB,decide_eq_true_eq] at hx;have h1:=Int.mul_le_mul_of_nonneg_left h.1 hx.1;have h2:=Int.mul_le_mul_of_nonneg_left h.2.1 hx.2.2.1;unfold ld Ai;omega
theorem sF{n:Net}{t t':jn}(hv:valid n=true)(h:tE n t t'){d:Nat->Bool}{k o:Nat}(hk:k<n.aU.length):side n t d k o<=side n t' d k o:=by have:=Pa hv h hk;unfold side;split<;>omega
theorem Fa{n:Net}{t t':jn}(hv:valid n=true)(h:tE n t t'){d:Nat->Bool}{i:Nat}(hi:i<n.aB.length):bears n t i d<=bears n t' i d:=by
 have hw:=(aC.1 hv).2.2.2.2.1;unfold bears;by_cases h1:0<i
 ·have a:=sF hv h (d:=d) (k:=i-1) (o:=i-1) nQ;by_cases h2:i<n.aU.length
  ·have b:=sF hv h (d:=d) (k:=i) (o:=i+1) h2;simp only[h1,h2,if_true];omega
  ·simp only[h1,h2,if_true,if_false];omega
 ·by_cases h2:i<n.aU.length
  ·have b:=sF hv h (d:=d) (k:=i) (o:=i+1) h2;simp only[h1,h2,if_true,if_false];omega
  ·simp only[h1,h2,if_false];omega
theorem LW{n:Net}{t t':jn}(hv:valid n=true)(h:tE n t t'){i:Nat}(hi:i<n.aB.length):can n t' i<=can n t i:=by have ha:=mI hv hi;simp only[mY,decide_eq_true_eq] at ha;have h1:=h.2.2 (nth n.aB i).bt.toNat nQ;have h2:=Int.mul_le_mul_of_nonneg_left h1 (show 0<=2*(nth n.aB i).wt by omega);unfold can;exact h2
theorem vm{n:Net}{t t':jn}(hv:valid n=true)(h:tE n t t'){d:Nat->Bool}{i:Nat}(hi:i<n.aB.length):spare n t' i d<=spare n t i d:=by have:=Fa hv h (d:=d) hi;have:=LW hv h hi;unfold spare;omega
theorem Be{n:Net}{t t':jn}(hv:valid n=true)(h:tE n t t')(hc:Dz n t'):Dz n t:=
 fun i hi=>Int.le_trans (hc i hi) (vm hv h hi)
theorem Cf{n:Net}(hv:valid n=true):uB n (bY n)=true:=by
 obtain⟨h1,h2,_,_,_,h6,_,_⟩:=aC.1 hv;simp only[jP,decide_eq_true_eq] at h1 h2;simp only[uB,Bool.and_eq_true,decide_eq_true_eq,sS,cX,rC,List.all_eq_true,List.mem_range];refine⟨⟨⟨by simp only[bY];omega,by simp only[bY];omega⟩,by simp[bY]⟩,fun i hi=>?_⟩;have hi':i<n.av.length:=by simpa [bY] using hi
 have hg:=(List.all_eq_true.1 (by unfold nI at h6;exact h6)) _ (aR n.av hi');simp only[jP,decide_eq_true_eq] at hg;simp only[bY];rw[iK _ _ hi'];omega
theorem IT{n:Net}(hv:valid n=true):uB n (iC n)=true:=by
 obtain⟨h1,h2,_,_,_,h6,_,_⟩:=aC.1 hv;simp only[jP,decide_eq_true_eq] at h1 h2;simp only[uB,Bool.and_eq_true,decide_eq_true_eq,sS,cX,rC,List.all_eq_true,List.mem_range];refine⟨⟨⟨by simp only[iC];omega,by simp only[iC];omega⟩,by simp[iC]⟩,fun i hi=>?_⟩;have hi':i<n.av.length:=by simpa [iC] using hi
 have hg:=(List.all_eq_true.1 (by unfold nI at h6;exact h6)) _ (aR n.av hi');simp only[jP,decide_eq_true_eq] at hg;simp only[iC];rw[iK _ _ hi'];omega
theorem wu{n:Net}{t:jn}(ht:uB n t=true):tE n t (bY n):=by simp only[uB,Bool.and_eq_true,decide_eq_true_eq,sS,cX] at ht;refine⟨by simp only[bY];omega,by simp only[bY];omega,fun b hb=>?_⟩;have hg:=rB ht.2 (k:=b) nQ;rw[sS,cX] at hg;simp only[bY];rw[iK _ _ hb];omega
theorem Hz{n:Net}{t:jn}(ht:uB n t=true):tE n (iC n) t:=by simp only[uB,Bool.and_eq_true,decide_eq_true_eq,sS,cX] at ht;refine⟨by simp only[iC];omega,by simp only[iC];omega,fun b hb=>?_⟩;have hg:=rB ht.2 (k:=b) nQ;rw[sS,cX] at hg;simp only[iC];rw[iK _ _ hb];omega
theorem CM{n:Net}(hv:valid n=true):(kD n<(bK n).length)↔¬jW n (bY n) 0=0:=by
 rw[Co];unfold kD;constructor
 ·intro h hc;have:(bK n).filter (calm n)=bK n:=by rw[List.filter_eq_self];intro t ht;exact wH.2 (Be hv (wu (iu.1 ht)) hc)
  rw[this] at h;omega
 ·intro hc;have h1:=List.length_filter_le (calm n) (bK n);rcases Nat.lt_or_eq_of_le h1 with h|h
  ·exact h
  ·exfalso;rw[List.length_filter_eq_length_iff] at h;exact hc (wH.1 (h _ (iu.2 (Cf hv))))
theorem Kc{n:Net}(hv:valid n=true):kD n=0↔¬jW n (iC n) 0=0:=by
 rw[Co];unfold kD;rw[List.length_eq_zero_iff,List.filter_eq_nil_iff];constructor
 ·intro h hc;exact h _ (iu.2 (IT hv)) (wH.2 hc)
 ·intro hc t ht hq;exact hc (Be hv (Hz (iu.1 ht)) (wH.1 hq))
end An
section
open An
def Lo:Net:=⟨⟨2,4⟩,⟨1,3⟩,[⟨2,3⟩,⟨1,4⟩],[⟨6,0⟩,⟨5,1⟩,⟨4,0⟩],[⟨2,1,3,8,9⟩,⟨1,2,2,6,6⟩]⟩
def exA:jn:=⟨4,3,[2,1]⟩
def exB:jn:=⟨2,1,[3,4]⟩
theorem PE(w:nJ):Calls nH 79 #[] w fun e w'=>∃(r:eS) (ra rb:pz) (δ:nJ),e=.returned (.tuple #[eK r Lo,wT ra exA,wT rb exB])/\w'=ah w δ/\cr (ah w δ).heap.size (ah w δ) r Lo/\sj (ah w δ).heap.size (ah w δ) ra exA/\sj (ah w δ).heap.size (ah w δ) rb exB:=by
 go_enter Tryz.func79,Tryz.ntmps79;go_wp2_with fail;refine bodyPost_ret (v:=.tuple #[eK ⟨some ⟨w.heap.size+1+1+1,0,none⟩,2,some ⟨w.heap.size+1+1+1+1,0,none⟩,3,some ⟨w.heap.size+1+1+1+1+1,0,none⟩,2⟩ Lo,wT ⟨some ⟨w.heap.size+1+1+1+1+1+1,0,none⟩,2⟩ exA,wT ⟨some ⟨w.heap.size+1+1+1+1+1+1+1,0,none⟩,2⟩ exB]) ?_ rfl ?_
 ·simp only[results,Tryz.results79];go_simp;simp[Lo,exA,exB]
 ·refine⟨⟨some ⟨w.heap.size+1+1+1,0,none⟩,2,some ⟨w.heap.size+1+1+1+1,0,none⟩,3,some ⟨w.heap.size+1+1+1+1+1,0,none⟩,2⟩,⟨some ⟨w.heap.size+1+1+1+1+1+1,0,none⟩,2⟩,⟨some ⟨w.heap.size+1+1+1+1+1+1+1,0,none⟩,2⟩,_,rfl,ai,?_⟩;refine QDF ?_;refine⟨⟨qj Lo.av (T:=23) (cs:=#[.int .i64 2,.int .i64 3,.int .i64 1,.int .i64 4]) ?_ (nG rfl) (nG rfl) rfl,qj Lo.aB (T:=102) (cs:=#[.int .i64 6,.int .i64 0,.int .i64 5,.int .i64 1,.int .i64 4,.int .i64 0]) ?_ (nG rfl) (nG rfl) rfl,qj Lo.aU (T:=148) (cs:=#[.int .i64 2,.int .i64 1,.int .i64 3,.int .i64 8,.int .i64 9,.int .i64 1,.int .i64 2,.int .i64 2,.int .i64 6,.int .i64 6]) ?_ (nG rfl) (nG rfl) rfl⟩,qj exA.av (T:=3) (cs:=#[.int .i64 2,.int .i64 1]) ?_ (nG rfl) (nG rfl) rfl,qj exB.av (T:=3) (cs:=#[.int .i64 3,.int .i64 4]) ?_ (nG rfl) (nG rfl) rfl⟩;all_goals repeat (first|exact ay.new nW|refine ay.alloc ?_ _)
end
section
open An
def MR(n:Net)(t:jn):Bool:=decide (40<n.av.length)||decide (40<n.aB.length)||decide (40<n.aU.length)||decide (40<t.av.length)
theorem KX(r:eS)(n:Net)(rt:pz)(t:jn)(w:nJ):Calls nH 176 #[eK r n,wT rt t] w fun e w'=>e=.returned (.bool (MR n t))/\∃δ,w'=ah w δ:=by go_enter Tryz.func176,Tryz.ntmps176;go_wp2_with fail;all_goals go_ret;refine⟨bg ?_,ag⟩;go_light;grind [MR]
end
section
open An
end
namespace An
end An
section
open An
theorem ya(r:eS)(n:Net)(i:Int)(B:Nat)(w:nJ)[_hB:Le B w](h:cr B w r n):Calls nH 225 #[eK r n,.int .i64 i] w fun e w'=>e=.returned (.bool (fH 0 (n.aB.length-1) i))/\∃δ,w'=ah w δ:=by have l:=h.2.1.len;go_enter Tryz.func225,Tryz.ntmps225;go_wp2_with (go_at_call 121;refine(tF _ _ _ _).mono ?_;rintro e w1 ⟨rfl,rfl⟩);go_ret;exact⟨rfl,ag⟩
theorem NV(r:eS)(n:Net)(rt:pz)(t:jn)(i:Nat)(B:Nat)(w:nJ)[hB:Le B w](h:cr B w r n)(ht:jZ n t)(hi:i<n.aB.length):Calls nH 251 #[eK r n,wT rt t,.int .i64 i,.slice none 0 0] w fun e w'=>e=.returned (.int .i64 (bears n t i (fun _=>false)))/\∃δ,w'=ah w δ:=by have:=vA r n rt t i none 0 [] B w h Sl.none_ ht hi;rw[show nN []=fun _=>false by funext k;simp[nN,ke]] at this;exact this
theorem Ct(r:eS)(n:Net)(rt:pz)(t:jn)(i:Nat)(B:Nat)(w:nJ)[hB:Le B w](h:cr B w r n)(h':sj B w rt t)(ht:jZ n t)(hi:i<n.aB.length):Calls nH 272 #[eK r n,wT rt t,.int .i64 i] w fun e w'=>e=.returned (.int .i64 (spare n t i (fun _=>false)))/\∃δ,w'=ah w δ:=by
 have hb:=wJ ht (d:=fun _=>false) hi;have hc:=(EY ht hi).2.2.2.2.2.2;have HT:=qh ht;clear ht;go_enter Tryz.func272,Tryz.ntmps272;go_wp2_with fail;refine QAP ?_;intro W1 aH cJ dF cW di dz eL nt lC mQ jI nk nj wC;refine QDG ?_;intro xL xK AV;refine wpRl ?_;repeat (go_big_quiet_step ((first|(go_at_call 252;exact Calls.bV (D0 r n rt t i B _ h.up h'.up HT.out hi))|(go_at_call 251;exact Calls.bV (NV r n rt t i B _ h.up HT.out hi)))))
 refine QBU ?_;rintro _ ⟨δq,rfl⟩;go_wp2_with fail;go_ret;exact⟨rfl,ag⟩
end
section
open An
namespace An
end An
end
namespace An
end An
namespace An
end An
namespace An
end An
namespace An
def uQ(n:Net)(i:Nat)(x:Int):Net:=FV n (n.aB.set i (rY (nth n.aB i) x))
theorem qI(n:Net)(i:Nat)(x:Int):(uQ n i x).aB.length=n.aB.length:=List.length_set
theorem Hw(n:Net)(i:Nat)(x:Int){j:Nat}(hj:j<n.aB.length):nth (uQ n i x).aB j=if i=j then rY (nth n.aB i) x else nth n.aB j:=vN _ _ _ hj
theorem AB{n:Net}(hv:valid n=true){i:Nat}{x:Int}(hi:i<n.aB.length)(h0:0<=(nth n.aB i).wt+x)(h1:(nth n.aB i).wt+x<=20):valid (uQ n i x)=true:=by
 have hv0:=hv;rw[aC] at hv ⊢;obtain⟨a1,a2,a3,a4,a5,a6,a7,a8⟩:=hv;refine⟨a1,a2,a3,by rw[qI];exact a4,by rw[qI];exact a5,a6,?_,a8⟩;show kE n.av.length (uQ n i x).aB=true;unfold kE;rw[List.all_eq_true];intro y hy;obtain⟨j,hj,rfl⟩:=List.getElem_of_mem hy;have hj':j<n.aB.length:=by rwa [qI] at hj
 rw[<-bN _ hj,Hw _ _ _ hj'];have ha:=mI hv0 hj';by_cases hij:i=j
 ·subst hij;rw[if_pos rfl];simp only[mY,decide_eq_true_eq] at ha;refine decide_eq_true ?_;show 0<=(nth n.aB i).wt+x/\(nth n.aB i).wt+x<=20/\0<=(nth n.aB i).bt/\(nth n.aB i).bt<(n.av.length:Int);exact⟨h0,h1,ha.2.2.1,ha.2.2.2⟩
 ·rw[if_neg hij];exact ha
end An
namespace An
theorem FH{n:Net}(hv:valid n=true){i:Nat}(hi:i<n.aB.length):(jV n i:Int)=21-(nth n.aB i).wt:=by have ha:=mI hv hi;simp only[mY,decide_eq_true_eq] at ha;unfold jV;omega
theorem uN{n:Net}:kG n=true↔∀i,i<n.aB.length->eM n i<jV n i:=by
 unfold kG;rw[List.all_eq_true];constructor
 ·intro h i hi;simpa using h i (by simpa using hi)
 ·intro h i hi;exact decide_eq_true (h i (by simpa using hi))
theorem OC{n:Net}{i:Nat}(h:eM n i<jV n i):0<=lH n i (eM n i):=by have:=(gG (fun k=>decide (0<=lH n i k)) (jV n i) 0).2.2.2 (by unfold eM at h;omega);exact of_decide_eq_true this
theorem KA{n:Net}{i k:Nat}(h:k<eM n i):lH n i k<0:=by have:=(gG (fun k=>decide (0<=lH n i k)) (jV n i) 0).2.2.1 k (nE _) h;exact Int.not_le.1 (of_decide_eq_false this)
theorem RB(n:Net)(i:Nat):eM n i<=jV n i:=sZ _ _
end An
section
open An
theorem K7(r:eS)(n:Net)(i:Nat)(x:Int)(hi:i<n.aB.length)(hx:-100<=(nth n.aB i).wt+x/\(nth n.aB i).wt+x<=100)(B:Nat)(w:nJ)[hB:Le B w](h:cr B w r n)(q1:n.av.length<=1000)(q2:n.aB.length<=1000)(q3:n.aU.length<=1000):Calls nH 258 #[eK r n,.int .i64 i,.int .i64 x] w fun e w'=>∃(r':eS) (δ:nJ),e=.returned (eK r' (uQ n i x))/\w'=ah w δ/\dR w.heap.size (ah w δ) r' (uQ n i x):=by
 have H:=qh h;clear h;go_enter Tryz.func258,Tryz.ntmps258;go_wp2_with fail;refine(LC r n B _ H.out.up q1 q2 q3).mono ?_;rintro e w1 ⟨r',δ,rfl,rfl,ho⟩;obtain⟨gA,gc,aA,ac,wA,wc⟩:=r';obtain⟨g,rfl,hb,hl,hc,hf⟩:=qY ho.2.1 nQ;rw[show eK ⟨gA,gc,some ⟨g,0,none⟩,ac,wA,wc⟩ n=Value.agg #[.int .i64 n.aP.lo,.int .i64 n.aP.hi,.int .i64 n.cur.lo,.int .i64 n.cur.hi,.slice gA n.av.length gc,.slice (some ⟨g,0,none⟩) n.aB.length ac,.slice wA n.aU.length wc] from rfl];have c0:=hc (i*2) (.int .i64 (nth n.aB i).wt) (by have:=gx cM 2 (fun _=>rfl) n.aB i 0 hi nQ;rw[Nat.add_zero] at this;rw[this];rfl);have c1:=hc (i*2+1) (.int .i64 (nth n.aB i).bt) (by have:=gx cM 2 (fun _=>rfl) n.aB i 1 hi nQ;rw[this];rfl);have f0:=hf (i*2);have f1:=hf (i*2+1);have HO:=qh ho;clear ho hc hf;have kS:w.heap.size+1<g:=by refine nL ?_ hb;go_simp
 have hki:(i:Int)<(n.aB.length:Int):=nQ;have hk0:¬(i:Int)<0:=nQ;have i1:qP (w.heap.size+1) g:=⟨nQ⟩;have i2:qP g (w.heap.size+1):=⟨nQ⟩;have i3:qP w.heap.size g:=⟨nQ⟩;have i4:qP g w.heap.size:=⟨nQ⟩;have i5:oE w.heap.size g:=⟨nQ⟩;clear hb kS;have b1:w.heap.size+1<(w.alloc (Obj.cells #[.int .i64 n.aP.lo,.int .i64 n.aP.hi,.int .i64 n.cur.lo,.int .i64 n.cur.hi,.slice r.gA n.av.length r.gc,.slice r.aA n.aB.length r.ac,.slice r.wA n.aU.length r.wc] 28)).heap.size+1:=nW;have k1:=Eb HO.out.1 HO.out.2.1 nU;have k3:=Eb HO.out.2.2 HO.out.2.1 nU;have o1:=pK (u:=.int .i64 ((nth n.aB i).wt+x)) (i:=i*2) HO.out.2.1 (by rw[cm cM 2 (fun _=>rfl)];omega);have o2:=pK (u:=.int .i64 (nth n.aB i).bt) (i:=i*2+1) o1 (by rw[List.length_set,cm cM 2 (fun _=>rfl)];omega);have e1:=jt cM 2 (fun _=>rfl) n.aB i 0 (.int .i64 ((nth n.aB i).wt+x)) (rY (nth n.aB i) x) hi nQ rfl;rw[Nat.add_zero] at e1;have e2:=jt cM 2 (fun _=>rfl) (n.aB.set i (rY (nth n.aB i) x)) i 1 (.int .i64 (nth n.aB i).bt) (rY (nth n.aB i) x) (by rw[List.length_set];exact hi) nQ (by rw[vN _ _ _ hi,if_pos rfl];rfl);rw[List.set_set] at e2;rw[e1,e2] at o2;have HA:=qh (And.intro (cZ (cZ HO.out.1 (p:=⟨g,i*2,none⟩) k1 (u:=.int .i64 ((nth n.aB i).wt+x))) (p:=⟨g,i*2+1,none⟩) k1 (u:=.int .i64 (nth n.aB i).bt)) (And.intro o2 (cZ (cZ HO.out.2.2 (p:=⟨g,i*2,none⟩) k3 (u:=.int .i64 ((nth n.aB i).wt+x))) (p:=⟨g,i*2+1,none⟩) k3 (u:=.int .i64 (nth n.aB i).bt))));clear o1 o2 e1 e2 k1 k3;go_wp2_with fail;refine bodyPost_ret (v:=eK ⟨gA,gc,some ⟨g,0,none⟩,ac,wA,wc⟩ (uQ n i x)) ?_ rfl ?_
 ·simp only[results,Tryz.results258];go_simp;simp[uQ,FV,eK]
 ·refine⟨⟨gA,gc,some ⟨g,0,none⟩,ac,wA,wc⟩,_,rfl,ai,?_⟩;refine QDF ?_;refine dR.mono (base:=(w.alloc (Obj.cells #[.int .i64 n.aP.lo,.int .i64 n.aP.hi,.int .i64 n.cur.lo,.int .i64 n.cur.hi,.slice r.gA n.av.length r.gc,.slice r.aA n.aB.length r.ac,.slice r.wA n.aU.length r.wc] 28)).heap.size+1) ?_ (by go_simp;omega);refine dR.alloc (dR.alloc ?_ _) _;iterate 7 (refine dR.set ?_ b1 _)
  unfold dR;rw[qI];exact⟨dA HA.out.1 nW,dA HA.out.2.1 nW,dA HA.out.2.2 nW⟩
theorem Di(r:eS)(n:Net)(i:Nat)(x:Int)(hi:i<n.aB.length)(hx:-100<=(nth n.aB i).wt+x/\(nth n.aB i).wt+x<=100)(B:Nat)(w:nJ)[hB:Le B w](h:cr B w r n)(q1:n.av.length<=1000)(q2:n.aB.length<=1000)(q3:n.aU.length<=1000):Calls nH 258 #[eK r n,.int .i64 i,.int .i64 x] w fun e w'=>∃(r':eS) (δ:nJ),e=.returned (eK r' (uQ n i x))/\w'=ah w δ/\cr (ah w δ).heap.size (ah w δ) r' (uQ n i x):=by refine(K7 r n i x hi hx B w h q1 q2 q3).mono ?_;rintro e w1 ⟨r',δ,rfl,rfl,ho⟩;exact⟨r',δ,rfl,rfl,ho.is⟩
end
section
open An
theorem XC(r r':eS)(n:Net)(B:Nat)(w:nJ)[hB:Le B w](h:cr B w r n)(h':cr B w r' n):Calls nH 43 #[eK r n,eK r' n] w fun e w'=>e=.returned (.bool true)/\∃δ,w'=ah w δ:=by
 have l1:=h.1.len;have l2:=h.2.1.len;have l3:=h.2.2.len;go_enter Tryz.func43,Tryz.ntmps43;go_upto_region 3 with fail;refine QAP ?_;intro W1 aH cJ dF cW di dz eL nt lC mQ jI nk nj wC;have xL:W1.cell? ⟨w.heap.size+1,0,none⟩=some (.int .i64 n.aP.lo):=by rw[aH.out];go_simp
 have xK:W1.cell? ⟨w.heap.size+1,1,none⟩=some (.int .i64 n.aP.hi):=by rw[aH.out];go_simp
 have AV:W1.cell? ⟨w.heap.size+1,2,none⟩=some (.int .i64 n.cur.lo):=by rw[aH.out];go_simp
 have LA:W1.cell? ⟨w.heap.size+1,3,none⟩=some (.int .i64 n.cur.hi):=by rw[aH.out];go_simp
 have Lz:W1.cell? ⟨w.heap.size+1,4,none⟩=some (.slice r'.gA n.av.length r'.gc):=by rw[aH.out];go_simp
 have Ly:W1.cell? ⟨w.heap.size+1,5,none⟩=some (.slice r'.aA n.aB.length r'.ac):=by rw[aH.out];go_simp
 have IA:W1.cell? ⟨w.heap.size+1,6,none⟩=some (.slice r'.wA n.aU.length r'.wc):=by rw[aH.out];go_simp
 have s1:cr B W1 r n:=h.up;have s2:cr B W1 r' n:=h'.up;go_wp2_with fail;go_loopw [5] (fun i wr=>∃(k:Nat) (δ:nJ),k<=n.av.length/\i=.int .i64 k/\wr=ah W1 δ) (fun i _=>n.av.length-(intOf i).toNat)
 case atStart=>exact⟨0,W1,nE _,rfl,(bw W1).symm⟩
 case round=>
  obtain⟨k,δ,hk,rfl,rfl⟩:=hrel;by_cases hlt:k<n.av.length
  ·obtain⟨b,o,hA,hb,d0,d1⟩:=s1.1.sp hlt;obtain⟨b',o',qf,hb',d0',d1'⟩:=s2.1.sp hlt;refine QCU ?_;intro ib ib';have hki:(k:Int)<(n.av.length:Int):=nQ;have hk0:¬(k:Int)<0:=nQ;rw[hA] at nk;rw[qf] at Lz;clear hA qf;go_wp2_with fail;refine wpRl ?_;repeat (go_big_quiet_step ((first|(fail))))
   refine QBU ?_;rintro _ ⟨δq,rfl⟩;go_wp2_with fail;go_roundw
   case rel=>exact⟨k+1,_,nQ,by go_num,ai⟩
   case measure=>simp[intOf];omega
  ·obtain rfl:k=n.av.length:=by omega
   go_wp2_with fail;go_loopw [6] (fun i wr=>∃(k:Nat) (δ:nJ),k<=n.aB.length/\i=.int .i64 k/\wr=ah W1 δ) (fun i _=>n.aB.length-(intOf i).toNat)
   case atStart=>exact⟨0,δ,nE _,rfl,rfl⟩
   case round=>
    clear hk hlt;obtain⟨k,δ,hk,rfl,rfl⟩:=hrel;by_cases hlt:k<n.aB.length
    ·obtain⟨b,o,hA,hb,d0,d1⟩:=s1.2.1.Zm hlt;obtain⟨b',o',qf,hb',d0',d1'⟩:=s2.2.1.Zm hlt;refine QCU ?_;intro ib ib';have hki:(k:Int)<(n.aB.length:Int):=nQ;have hk0:¬(k:Int)<0:=nQ;rw[hA] at nj;rw[qf] at Ly;clear hA qf;go_wp2_with fail;refine wpRl ?_;repeat (go_big_quiet_step ((first|(fail))))
     refine QBU ?_;rintro _ ⟨δq,rfl⟩;go_wp2_with fail;go_roundw
     case rel=>exact⟨k+1,_,nQ,by go_num,ai⟩
     case measure=>simp[intOf];omega
    ·obtain rfl:k=n.aB.length:=by omega
     go_wp2_with fail;go_loopw [7] (fun i wr=>∃(k:Nat) (δ:nJ),k<=n.aU.length/\i=.int .i64 k/\wr=ah W1 δ) (fun i _=>n.aU.length-(intOf i).toNat)
     case atStart=>exact⟨0,δ,nE _,rfl,rfl⟩
     case round=>
      clear hk hlt;obtain⟨k,δ,hk,rfl,rfl⟩:=hrel;by_cases hlt:k<n.aU.length
      ·obtain⟨b,o,hA,hb,d0,d1,d2,d3,d4⟩:=s1.2.2.WA hlt;obtain⟨b',o',qf,hb',d0',d1',d2',d3',d4'⟩:=s2.2.2.WA hlt;refine QCU ?_;intro ib ib';have hki:(k:Int)<(n.aU.length:Int):=nQ;have hk0:¬(k:Int)<0:=nQ;rw[hA] at wC;rw[qf] at IA;clear hA qf;go_wp2_with fail;refine wpRl ?_;repeat (go_big_quiet_step ((first|(fail))))
       refine QBU ?_;rintro _ ⟨δq,rfl⟩;go_wp2_with fail;go_roundw
       case rel=>exact⟨k+1,_,nQ,by go_num,ai⟩
       case measure=>simp[intOf];omega
      ·obtain rfl:k=n.aU.length:=by omega
       go_wp2_with fail;go_ret;exact⟨rfl,ag⟩
end
section
open An
namespace An
end An
end
section
open An
namespace An
end An
end
section
open An
namespace An
end An
theorem uw.Zo{w:nJ}{A:Option Addr}{c:Nat}{L:List jn}(h:uw w A c L)(h0:0<L.length):∃b o,A=some ⟨b,o,none⟩/\b<w.heap.size/\∀k,k<L.length->∃A' c',w.cell? ⟨b,o+k*3,none⟩=some (.int .i64 (nth L k).aP)/\w.cell? ⟨b,o+k*3+1,none⟩=some (.int .i64 (nth L k).cur)/\w.cell? ⟨b,o+k*3+2,none⟩=some (.slice A' (nth L k).av.length c')/\Sl aI w.heap.size w A' c' (nth L k).av:=by obtain⟨b,o,_,_,hA,hb,_⟩:=h.at_ h0;refine⟨b,o,hA,hb,fun k hk=>?_⟩;obtain⟨b',o',A',c',qf,_,d0,d1,d2,s⟩:=h.at_ hk;rw[hA] at qf;injection qf with q;injection q with q1 q2;subst q1 q2;exact⟨A',c',d0,d1,d2,s⟩
theorem xQ{n:Net}(hv:valid n=true):0<(bK n).length:=List.length_pos_of_mem (iu.2 (IT hv))
namespace An
def xV(n:Net):Int:=Ow (valid n) (qa (decide (jW n (bY n) 0=0)) (decide (jW n (iC n) 0=0)))
theorem NF{n:Net}(hv:valid n=true):Am (kD n) (bK n).length=xV n:=by
 have ha:=CM hv;have hz:=Kc hv;have hle:kD n<=(bK n).length:=List.length_filter_le _ _;have hpos:=xQ hv;unfold xV Am qa Ow;rw[hv,if_pos rfl];by_cases h1:jW n (bY n) 0=0
 ·have:¬kD n<(bK n).length:=fun h=>ha.1 h h1;rw[if_neg nQ,if_pos nQ,h1];rfl
 ·have h2:=ha.2 h1;by_cases h3:jW n (iC n) 0=0
  ·have:¬kD n=0:=fun h=>hz.1 h h3;rw[if_neg nQ,if_neg nQ,if_neg (by simpa using h1),if_pos (by simpa using h3)]
  ·have:=hz.2 h3;rw[if_pos nQ,if_neg (by simpa using h1),if_neg (by simpa using h3)]
end An
theorem UL(r:eS)(n:Net)(B:Nat)(w:nJ)[hB:Le B w](h:cr B w r n):Calls nH 86 #[eK r n] w fun e w'=>e=.returned (.tuple #[.int .i64 (xV n),.int .i64 (cD (valid n) 20)])/\∃δ,w'=ah w δ:=by
 have H:=qh h;clear h;by_cases hv:valid n=true;all_goals try rw[Bool.not_eq_true] at hv
 all_goals have HV:=qh hv;have HF:=qh (show xV n=Ow (valid n) (qa (decide (jW n (bY n) 0=0)) (decide (jW n (iC n) 0=0))) from rfl);rw[hv] at HF ⊢
 ·have HS:=qh (NF hv);clear hv;go_enter Tryz.func86,Tryz.ntmps86;go_wp2_with (first|(go_at_call 72;refine(jY r n B _ H.out.up).mono ?_;rw[HV.out];rintro e w1 ⟨rfl,δ,rfl⟩)|(go_at_call 147;refine(D8 r n B _ H.out.up HV.out).mono ?_;rintro e w1 ⟨rfl,δ',rfl⟩)|(go_at_call 148;refine(Vq _ _ _).mono ?_;rintro e w1 ⟨rfl,rfl⟩));go_ret2;exact⟨Q0 (int_eq (by rw[HS.out])) rfl,ag⟩
 ·clear hv;go_enter Tryz.func86,Tryz.ntmps86;go_wp2_with (go_at_call 72;refine(jY r n B _ H.out.up).mono ?_;rw[HV.out];rintro e w1 ⟨rfl,δ,rfl⟩);go_ret2;exact⟨Q0 (int_eq (by rw[HF.out];rfl)) rfl,ag⟩
end
end Go.Proofs.YtpnnapeoanafdaaGreatDoor
