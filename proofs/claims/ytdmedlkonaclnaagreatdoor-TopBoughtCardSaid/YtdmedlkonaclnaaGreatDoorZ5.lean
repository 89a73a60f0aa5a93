/- A part of the proof that a law of layer 12 holds, cut small by a program (names and blanks): Ha4, Ha5, Ha6. -/
import Derived.Outline
import Derived.Test.YtdmedlkonaclnaaGreatDoorZ4
set_option maxRecDepth 100000
set_option maxHeartbeats 40000000
set_option linter.unusedVariables false
set_option linter.unusedSimpArgs false
namespace Go.Proofs.YtdmedlkonaclnaaGreatDoor
open Go.RowKit
open Nat renaming lt_of_lt_of_le → nL, le_refl → nR, zero_le → nE, le_of_lt → nS, le_of_ble_eq_true → nG
open Go.Proofs.Tryz renaming prog → nH
open Go renaming World → nJ, Value → nK
section
open An
theorem Y7:pF nH 24 23 (.agg #[.int .i64 0,.int .i64 0]) 2 16:=pF.mk Tryz.underlying24 nP rfl nQ
theorem Za:pF nH 25 47 (.agg #[.int .i64 0,.int .i64 0]) 2 16:=pF.mk Tryz.underlying25 nP rfl nQ
theorem Y6:pF nH 26 149 (.agg #[.int .i64 0,.int .i64 0,.int .i64 0,.int .i64 0,.int .i64 0]) 5 40:=pF.mk Tryz.underlying26 nP rfl nQ
theorem Qh:∀x,∀u∈gI x,u.oneCell'=true:=by intro x u hu;simp[gI] at hu;rcases hu with rfl|rfl<;>rfl
theorem Lw:∀x,∀u∈cM x,u.oneCell'=true:=by intro x u hu;simp[cM] at hu;rcases hu with rfl|rfl<;>rfl
theorem Lu:∀x,∀u∈fC x,u.oneCell'=true:=by intro x u hu;simp[fC] at hu;rcases hu with rfl|rfl|rfl|rfl|rfl<;>rfl
def dS(base:Nat)(w:nJ)(r:eP)(n:Net):Prop:=
 w.ownsRow base 23 2 (.slice r.gA n.ay.length r.gc) n.ay.length (n.ay.flatMap gI) /\
 w.ownsRow base 47 2 (.slice r.aA n.aB.length r.ac) n.aB.length (n.aB.flatMap cM) /\
 w.ownsRow base 149 5 (.slice r.wA n.aU.length r.wc) n.aU.length (n.aU.flatMap fC)
section
variable{base:Nat}{w:nJ}{r:eP}{n:Net}
theorem dS.is(h:dS base w r n):cg w.heap.size w r n:=⟨Sl.bU h.1,Sl.bU h.2.1,Sl.bU h.2.2⟩
theorem dS.mono(h:dS base w r n){base':Nat}(hb:base'<=base):dS base' w r n:=⟨de h.1 hb,de h.2.1 hb,de h.2.2 hb⟩
theorem dS.set(h:dS base w r n){b i:Nat}(hb:b<base)(u:nK):dS base (w.setCell ⟨b,i,none⟩ u) r n:=
 ⟨ownsRow_setCell_below h.1 (a:=⟨b,i,none⟩) hb u,ownsRow_setCell_below h.2.1 (a:=⟨b,i,none⟩) hb u,ownsRow_setCell_below h.2.2 (a:=⟨b,i,none⟩) hb u⟩
theorem Tw{W:nJ}[au w.heap.size w W][Le w.heap.size W](h:dS base W r n):∃(r':eP) (δ:nJ),Ending.returned (eK r n)=.returned (eK r' n)/\W=af w δ/\dS base (af w δ) r' n:=⟨r,W,rfl,aq,by rw[<-aq (w:=w) (W:=W)];exact h⟩
theorem dS.alloc(h:dS base w r n)(o:Obj):dS base (w.alloc o) r n:=⟨h.1.alloc o,h.2.1.alloc o,h.2.2.alloc o⟩
theorem dS.up(h:dS base w r n){W:nJ}[hg:au w.heap.size w W]:dS base W r n:=⟨bg h.1,bg h.2.1,bg h.2.2⟩
end
theorem Kw(r:eP)(n:Net)(B:Nat)(w:nJ)[hB:Le B w](h:cg B w r n)(q1:n.ay.length<=1000)(q2:n.aB.length<=1000)(q3:n.aU.length<=1000):Calls nH 39 #[eK r n] w fun e w'=>∃(r':eP) (δ:nJ),e=.returned (eK r' n)/\w'=af w δ/\dS w.heap.size (af w δ) r' n:=by
 go_enter Tryz.func39,Tryz.ntmps39;have H:=qh h;clear h;go_upto_region 2 with fail;refine aL fun W1 aH=>?_;refine QAH ?_;intro cJ dF cU dA dD eI ju kR mG jE mR mQ vX xB xA AF Ku Kt Ks GX Oj;have fw22:W1.frozen? ⟨w.heap.size+1,0,none⟩=false:=by rw[aH.out];go_simp
 have fw23:W1.frozen? ⟨w.heap.size+1,1,none⟩=false:=by rw[aH.out];go_simp
 have fw24:W1.frozen? ⟨w.heap.size+1,2,none⟩=false:=by rw[aH.out];go_simp
 have fw25:W1.frozen? ⟨w.heap.size+1,3,none⟩=false:=by rw[aH.out];go_simp
 have fw26:W1.frozen? ⟨w.heap.size+1,4,none⟩=false:=by rw[aH.out];go_simp
 have fw27:W1.frozen? ⟨w.heap.size+1,5,none⟩=false:=by rw[aH.out];go_simp
 have fw28:W1.frozen? ⟨w.heap.size+1,6,none⟩=false:=by rw[aH.out];go_simp
 have ad7:W1.cell? ⟨w.heap.size+1+1,0,none⟩=some (.int .i64 n.aP.lo):=by rw[aH.out];go_simp
 have ah9:W1.cell? ⟨w.heap.size+1+1,1,none⟩=some (.int .i64 n.aP.hi):=by rw[aH.out];go_simp
 have ah8:W1.cell? ⟨w.heap.size+1+1,2,none⟩=some (.int .i64 n.cur.lo):=by rw[aH.out];go_simp
 have ah7:W1.cell? ⟨w.heap.size+1+1,3,none⟩=some (.int .i64 n.cur.hi):=by rw[aH.out];go_simp
 have ah6:W1.cell? ⟨w.heap.size+1+1,4,none⟩=some (.slice r.gA n.ay.length r.gc):=by rw[aH.out];go_simp
 have ah5:W1.cell? ⟨w.heap.size+1+1,5,none⟩=some (.slice r.aA n.aB.length r.ac):=by rw[aH.out];go_simp
 have RZ:W1.cell? ⟨w.heap.size+1+1,6,none⟩=some (.slice r.wA n.aU.length r.wc):=by rw[aH.out];go_simp
 have fw36:W1.frozen? ⟨w.heap.size+1+1,0,none⟩=false:=by rw[aH.out];go_simp
 have fw37:W1.frozen? ⟨w.heap.size+1+1,1,none⟩=false:=by rw[aH.out];go_simp
 have fw38:W1.frozen? ⟨w.heap.size+1+1,2,none⟩=false:=by rw[aH.out];go_simp
 have fw39:W1.frozen? ⟨w.heap.size+1+1,3,none⟩=false:=by rw[aH.out];go_simp
 have fw40:W1.frozen? ⟨w.heap.size+1+1,4,none⟩=false:=by rw[aH.out];go_simp
 have fw41:W1.frozen? ⟨w.heap.size+1+1,5,none⟩=false:=by rw[aH.out];go_simp
 have fw42:W1.frozen? ⟨w.heap.size+1+1,6,none⟩=false:=by rw[aH.out];go_simp
 go_wp2_with (first|(at_builtin;(refine bS W1 Y7 (.tmp 5) (.tmp 7) rfl rfl (v:=.slice (some ⟨_,0,none⟩) 0 0) (cB nW nW) rfl (B:=B) (A:=r.gA) (m:=n.ay.length) (c:=r.gc) (news:=n.ay.flatMap gI) rfl (H.out.up.1.2.2) (bX gI 2 (fun _=>rfl) _) (ei gI Qh _) nQ nQ ?_);intro A1 c1 δ1 eF hg1)|(at_builtin;(refine bS W1 Za (.tmp 10) (.tmp 12) rfl rfl (v:=.slice (some ⟨_,0,none⟩) 0 0) (cB nW nW) rfl (B:=B) (A:=r.aA) (m:=n.aB.length) (c:=r.ac) (news:=n.aB.flatMap cM) rfl (H.out.up.2.1.2.2) (bX cM 2 (fun _=>rfl) _) (ei cM Lw _) nQ nQ ?_);intro A2 c2 δ2 iE mU;have p1:=jw (ownsRow_setCell_below eF (a:=⟨_,_,_⟩) ju.out _) nW mU)|(at_builtin;(refine bS W1 Y6 (.tmp 15) (.tmp 17) rfl rfl (v:=.slice (some ⟨_,0,none⟩) 0 0) (cB nW nW) rfl (B:=B) (A:=r.wA) (m:=n.aU.length) (c:=r.wc) (news:=n.aU.flatMap fC) rfl (H.out.up.2.2.2.2) (bX fC 5 (fun _=>rfl) _) (ei fC Lu _) nQ nQ ?_);intro A3 c3 δ3 mq rj;have p2:=jw (ownsRow_setCell_below iE (a:=⟨_,_,_⟩) ju.out _) nW rj;have p1':=jw (ownsRow_setCell_below p1 (a:=⟨_,_,_⟩) ju.out _) nW rj));refine bodyPost_ret (v:=eK ⟨A1,c1,A2,c2,A3,c3⟩ n) ?_ rfl ?_
 ·simp only[results,Tryz.results39];go_simp
 ·refine⟨⟨A1,c1,A2,c2,A3,c3⟩,_,rfl,aq,?_⟩;refine QDJ ?_;refine dS.mono (base:=W1.heap.size) ?_ cU.out;iterate 7 (refine dS.set ?_ eI.out _)
  refine dS.set ?_ ju.out _;exact⟨p1',p2,mq⟩
theorem Gs(r:eP)(n:Net)(v:Int)(B:Nat)(w:nJ)[hB:Le B w](h:cg B w r n)(q1:n.ay.length<=1000)(q2:n.aB.length<=1000)(q3:n.aU.length<=1000):Calls nH 239 #[eK r n,.int .i64 v] w fun e w'=>∃(r':eP) (δ:nJ),e=.returned (eK r' (vM n v))/\w'=af w δ/\dS w.heap.size (af w δ) r' (vM n v):=by
 go_enter Tryz.func239,Tryz.ntmps239;have H:=qh h;clear h;go_wp2_with (go_at_call 39;refine(Kw r n B _ H.out.up q1 q2 q3).mono ?_;rintro e w1 ⟨r',δ,rfl,rfl,h''⟩;obtain⟨bs,CD,h'⟩:∃bs,Hid (bs=_)/\dS bs _ r' n:=⟨_,rfl,h''⟩;clear h'');have b1:w.heap.size+1<bs:=by rw[CD.out];go_simp
 refine bodyPost_ret (v:=eK r' (vM n v)) ?_ rfl ?_
 ·simp only[results,Tryz.results239];go_simp;simp[vM]
 ·refine Tw ?_;refine dS.mono (base:=bs) ?_ (nS (Nat.lt_of_succ_lt b1));refine dS.alloc ?_ _;iterate 7 (refine dS.set ?_ b1 _)
  exact h'
end
section
open An
theorem Pj(r:eP)(n:Net)(B:Nat)(w:nJ)[hB:Le B w](h:cg B w r n)(h3:n.ay.length<=3):Calls nH 49 #[eK r n] w fun e w'=>∃(rt:pE) (δ:nJ),e=.returned (yd r n rt (bW n))/\w'=af w δ/\(af w δ).ownsRow w.heap.size 3 1 (.slice rt.tA (bW n).ay.length rt.tc) (bW n).ay.length ((bW n).ay.flatMap aI):=by
 go_enter Tryz.func49,Tryz.ntmps49;go_wp2_with fail;refine aL fun W1 aH=>?_;refine QAH ?_;intro cJ dF cU dA dD eI ju kR mG jE mR mQ vX xB xA AF Ku Kt Ks GX Oj;refine QAQ ?_;intro R9 Oi R8 fw25 fw26 fw27 fw28 fw29 fw30 fw31 fw32 fw33 fw34;refine QFA ?_;intro RZ UT;refine QCI ?_;intro US fw38 s1 hlen;go_loopw [16] (fun i wr=>∃(k:Nat) (A:Option Addr) (c:Nat),k<=n.ay.length/\i=.int .i64 k/\wr.ownsRow W1.heap.size 3 1 (.slice A k c) k (((n.ay.map (·.lo)).take k).flatMap aI)/\∃δ,wr=(af W1 δ).setCell ⟨w.heap.size+1+1,2,none⟩ (.slice A k c)) (fun i _=>n.ay.length-(intOf i).toNat)
 case atStart=>refine⟨0,none,0,nE _,rfl,by simpa using World.ownsRow_nil _ _ _ _,W1,?_⟩;rw[bw,fo nZ]
 case round=>
  obtain⟨k,A,c,hk,rfl,hown,δ,rfl⟩:=hrel;by_cases hlt:k<n.ay.length
  ·obtain⟨b,o,hA,hb,d0,d1⟩:=s1.sp hlt;refine QER ?_;intro ib in1 HA HO;clear hA hown;rw[HA.out];go_wp2_with (at_builtin;(refine dL W1 wo (.tmp 21) (.tmp 24) rfl rfl (HO.out.alloc _) rfl rfl nW rfl (by simp[Value.oneCell']) nQ nQ ?_);intro A' c' δ' hown');go_roundw
   case rel=>refine⟨k+1,A',c',nQ,by go_num,?_,ze (w0:=W1) δ (.slice A k c) (.slice A' (k+1) c') nZ uQ⟩;have:=ownsRow_setCell_below hown' (a:=⟨w.heap.size+1+1,2,none⟩) ju.out (.slice A' (k+1) c');rw[ry aI (n.ay.map (·.lo)) (by simpa using hlt),jC _ _ hlt];exact this
   case measure=>simp[intOf];omega
  ·obtain rfl:k=n.ay.length:=by omega
   have HO:=qh hown;clear hown;have in2:qM (w.heap.size+1) (w.heap.size+1+1):=⟨nQ⟩;go_wp2_with fail;refine bodyPost_ret (v:=yd r n ⟨A,c⟩ (bW n)) ?_ rfl ?_
   ·simp only[results,Tryz.results49];go_simp;simp[bW]
   ·refine⟨⟨A,c⟩,_,rfl,aq,?_⟩;refine QDJ ?_;have H1:=HO.out;rw[List.take_of_length_le nV] at H1;refine de (base:=W1.heap.size) ?_ cU.out;rw[show(bW n).ay.length=n.ay.length by simp[bW]];show(_:nJ).ownsRow W1.heap.size 3 1 _ _ ((n.ay.map (·.lo)).flatMap aI);iterate 10 (refine ownsRow_setCell_below (a:=⟨_,_,_⟩) ?_ eI.out _)
    exact H1
theorem AG(A:Option Addr)(c:Nat)(xs:List Bj)(ln:Nat)(hn:xs.length=ln)(B:Nat)(w:nJ)[hB:Le B w](h:Sl cM B w A c xs)(q:ln<=1000):Calls nH 100 #[.slice A ln c] w fun e w'=>∃(A':Option Addr) (c':Nat) (δ:nJ),e=.returned (.slice A' ln c')/\w'=af w δ/\(af w δ).ownsRow w.heap.size 47 2 (.slice A' ln c') ln (xs.flatMap cM):=by
 subst hn;have H:=qh h;clear h;have WI:∀(w:nJ) (a:Option Addr) (n c n' c':Nat),(binOp .eql 25 (.slice a n c) (.slice none n' c')).run nH w=.ok (.bool a.isNone) w:=fun w a n c n' c'=>Lib.run_eql_slice_nil w _ _ a n c n' c' Tryz.underlying25;cases A with
 |none=>
  have hx:xs=[]:=by
   have h2:=H.out.2.2;by_cases hx:xs=[]
   ·exact hx
   ·obtain⟨_,_,he,_⟩:=h2 (by
     obtain⟨y,ys,rfl⟩:=List.exists_cons_of_ne_nil hx
     simp[cM])
    cases he
  subst hx
  go_enter Tryz.func100,Tryz.ntmps100
  go_wp2_with fail
  go_ret
  exact⟨none,0,_,rfl,aq,World.ownsRow_nil _ _ _ _⟩
 |some ad=>
  go_enter Tryz.func100,Tryz.ntmps100
  go_wp2_with (at_builtin;(refine bS w Za (.tmp 5) (.tmp 6) rfl rfl (v:=.slice (some ⟨_,0,none⟩) 0 0) (cB nW nW) rfl (B:=B) (A:=some ad) (m:=xs.length) (c:=c) (news:=xs.flatMap cM) rfl (H.out.up.2.2) (bX cM 2 (fun _=>rfl) _) (ei cM Lw _) nQ nQ ?_);intro A1 c1 δ1 eF hg1)
  go_ret
  refine⟨A1,c1,_,rfl,aq,?_⟩
  refine QDJ ?_
  exact eF
end
namespace An
def rS(a:Bj)(k:Int):Bj:=⟨a.wt+k,a.bt⟩
def EX(n:Net)(al:List Bj):Net:=⟨n.aP,n.cur,n.ay,al,n.aU⟩
def kW(n:Net)(i k:Nat):Int:=2*((nth n.aB i).wt+k)*nth (bW n).ay (nth n.aB i).bt.toNat-bears n (bW n) i (fun _=>false)
def jS(n:Net)(i:Nat):Nat:=(21-(nth n.aB i).wt).toNat
def eL(n:Net)(i:Nat):Nat:=bP (fun k=>decide (0<=kW n i k)) (jS n i) 0
def kq(n:Net):Bool:=(List.range n.aB.length).all fun i=>decide (eL n i<jS n i)
def kJ(n:Net):List Int:=if valid n&&kq n then (List.range n.aB.length).map fun i=>(eL n i:Int) else[]
def mO(n:Net):Int:=if valid n then (if kq n then 0 else 3) else 20
def Bu(n:Net)(i k j:Nat):Nat:=if j<i then eL n j else if j=i then k else 0
def fQ(n:Net)(i k:Nat):List Bj:=(List.range n.aB.length).map fun j=>rS (nth n.aB j) (Bu n i k j)
def pM(n:Net)(i k:Nat):List Int:=(List.range n.aB.length).map fun j=>(Bu n i k j:Int)
theorem eO(n:Net)(i k:Nat):(fQ n i k).length=n.aB.length:=by simp[fQ]
theorem fY(n:Net)(i k:Nat):(pM n i k).length=n.aB.length:=by simp[pM]
theorem pX{α:Type}[Inhabited α](f:Nat->α){m j:Nat}(h:j<m):nth ((List.range m).map f) j=f j:=by rw[bR _ (by simpa using h)];simp
theorem kC(n:Net)(i k:Nat){j:Nat}(h:j<n.aB.length):nth (fQ n i k) j=rS (nth n.aB j) (Bu n i k j):=pX _ h
theorem qu(n:Net)(i k:Nat){j:Nat}(h:j<n.aB.length):nth (pM n i k) j=(Bu n i k j:Int):=pX _ h
theorem lu{α:Type}[Inhabited α]{xs ys:List α}(hl:xs.length=ys.length)(h:∀j,j<xs.length->nth xs j=nth ys j):xs=ys:=by apply List.ext_getElem hl;intro j h1 h2;have:=h j h1;rwa [bR _ h1,bR _ h2] at this
theorem vC{α:Type}[Inhabited α](xs:List α)(i:Nat)(y:α){j:Nat}(h:j<xs.length):nth (xs.set i y) j=if i=j then y else nth xs j:=by rw[bR _ (by simpa using h),bR _ h,List.getElem_set]
theorem qI(n:Net)(i k:Nat):Bu n i k i=k:=by simp[Bu]
theorem Eg(n:Net):fQ n 0 0=n.aB:=by
 refine lu (eO _ _ _) fun j hj=>?_;rw[eO] at hj;rw[kC _ _ _ hj];have:Bu n 0 0 j=0:=by simp[Bu]
 rw[this];simp[rS]
theorem Fy(n:Net):pM n 0 0=List.replicate n.aB.length 0:=by refine lu (by rw[fY];simp) fun j hj=>?_;rw[fY] at hj;rw[qu _ _ _ hj,bR _ (by simpa using hj)];simp[Bu]
theorem Ht(n:Net)(i j:Nat):Bu n (i+1) 0 j=Bu n i (eL n i) j:=by
 unfold Bu;by_cases h1:j<i
 ·simp[h1,show j<i+1 by omega]
 ·by_cases h2:j=i
  ·subst h2;simp
  ·simp[h1,h2,show ¬j<i+1 by omega]
theorem Hs(n:Net)(i:Nat):fQ n (i+1) 0=fQ n i (eL n i):=by unfold fQ;congr 1;funext j;rw[Ht]
theorem Jq(n:Net)(i:Nat):pM n (i+1) 0=pM n i (eL n i):=by unfold pM;congr 1;funext j;rw[Ht]
theorem KP(n:Net){i:Nat}(k:Nat)(_hi:i<n.aB.length):(fQ n i k).set i (rS (nth n.aB i) ((k+1:Nat):Int))=fQ n i (k+1):=by
 refine lu (by rw[List.length_set,eO,eO]) fun j hj=>?_;rw[List.length_set,eO] at hj;rw[vC _ _ _ (by rw[eO];exact hj),kC _ _ _ hj,kC _ _ _ hj];by_cases h:i=j
 ·subst h;rw[if_pos rfl,qI]
 ·rw[if_neg h];have:Bu n i k j=Bu n i (k+1) j:=by unfold Bu;rw[if_neg (show ¬j=i from fun e=>h e.symm),if_neg (show ¬j=i from fun e=>h e.symm)]
  rw[this]
theorem MR(n:Net){i:Nat}(k:Nat)(_hi:i<n.aB.length):(pM n i k).set i ((k+1:Nat):Int)=pM n i (k+1):=by
 refine lu (by rw[List.length_set,fY,fY]) fun j hj=>?_;rw[List.length_set,fY] at hj;rw[vC _ _ _ (by rw[fY];exact hj),qu _ _ _ hj,qu _ _ _ hj];by_cases h:i=j
 ·subst h;rw[if_pos rfl,qI]
 ·rw[if_neg h];have:Bu n i k j=Bu n i (k+1) j:=by unfold Bu;rw[if_neg (show ¬j=i from fun e=>h e.symm),if_neg (show ¬j=i from fun e=>h e.symm)]
  rw[this]
theorem KN(n:Net)(al:List Bj)(t:ji)(i:Nat)(d:Nat->Bool):bears (EX n al) t i d=bears n t i d:=rfl
theorem Pt{n:Net}{i:Nat}(k:Nat)(hi:i<n.aB.length):spare (EX n (fQ n i k)) (bW n) i (fun _=>false)=kW n i k:=by unfold spare kW can;rw[KN];show 2*(nth (fQ n i k) i).wt*nth (bW n).ay (nth (fQ n i k) i).bt.toNat-_=_;rw[kC _ _ _ hi,qI];rfl
theorem Pk{n:Net}(hv:valid n=true){i k:Nat}(hk:k<jS n i)(h:∀j,j<i->j<n.aB.length->eL n j<jS n j):valid (EX n (fQ n i k))=true:=by
 have h0:=hv;rw[aD] at hv ⊢;obtain⟨h1,h2,h3,h4,h5,h6,h7,h8⟩:=hv;refine⟨h1,h2,h3,by show(fQ n i k).length<=6;rw[eO];exact h4,by show n.aU.length=(fQ n i k).length-1;rw[eO];exact h5,h6,?_,h8⟩;show ko n.ay.length (fQ n i k)=true;unfold ko;rw[List.all_eq_true];intro x hx;obtain⟨j,hj,rfl⟩:=List.getElem_of_mem hx;have hj':j<n.aB.length:=by rwa [eO] at hj
 rw[<-bR _ hj,kC _ _ _ hj'];have ha:=mz h0 hj';simp only[mN,decide_eq_true_eq] at ha;have hlt:Bu n i k j<jS n j:=by
  unfold Bu;by_cases hji:j<i
  ·rw[if_pos hji];exact h j hji hj'
  ·rw[if_neg hji];by_cases he:j=i
   ·subst he;rw[if_pos rfl];exact hk
   ·rw[if_neg he];unfold jS;omega
 have hT:(jS n j:Int)=21-(nth n.aB j).wt:=by unfold jS;rw[Int.toNat_of_nonneg nQ]
 refine decide_eq_true ?_;simp only[rS];omega
theorem Qk{n:Net}(hv:valid n=true){i k:Nat}(hk:k<jS n i)(h:∀j,j<i->j<n.aB.length->eL n j<jS n j):jV (EX n (fQ n i k)) (bW n):=by have:=sH hv;exact⟨Pk hv hk h,this.2.1,this.2.2.1,this.2.2.2.1,this.2.2.2.2⟩
end An
section
open An
abbrev Wx(n:Net)(gA:Option Addr)(gc:Nat)(aA:Option Addr)(ac:Nat)(wA:Option Addr)(wc:Nat)(rt:pE):Array nK:=#[.int .i64 n.aP.lo,.int .i64 n.aP.hi,.int .i64 n.cur.lo,.int .i64 n.cur.hi,.slice gA n.ay.length gc,.slice aA n.aB.length ac,.slice wA n.aU.length wc,.int .i64 (bW n).aP,.int .i64 (bW n).cur,.slice rt.tA (bW n).ay.length rt.tc]
structure j8(n:Net)(w:nJ)(r:eP)(rt:pE)(g2 b2 br b3:Nat)(A1:Option Addr)(c1 i k k':Nat)(wr:nJ):Prop where
 gj:au w.heap.size w wr
 le:Le w.heap.size wr
 bx:ax wr br 111 (Wx n r.gA r.gc A1 c1 r.wA r.wc rt)
 o2:wr.ownsRow g2 3 1 (.slice (some ⟨g2,0,none⟩) n.aB.length n.aB.length) n.aB.length ((pM n i k').flatMap aI)
 ot:wr.ownsRow b2 3 1 (.slice rt.tA (bW n).ay.length rt.tc) (bW n).ay.length ((bW n).ay.flatMap aI)
 o1:wr.ownsRow b3 47 2 (.slice A1 n.aB.length c1) n.aB.length ((fQ n i k).flatMap cM)
 h2:w.heap.size<=g2
 h3:g2<b2
 h4:b2<=br
 h5:br<b3
 ht:∀g,(Value.slice rt.tA (bW n).ay.length rt.tc).ownBlock=some g->b2<=g/\g<br
section
variable{n:Net}{w:nJ}{r:eP}{rt:pE}{g2 b2 br b3:Nat}{A1:Option Addr}{c1 i k k':Nat}{wr:nJ}
theorem j8.af(h:j8 n w r rt g2 b2 br b3 A1 c1 i k k' wr)(δ:nJ):j8 n w r rt g2 b2 br b3 A1 c1 i k k' (af wr δ):=by have:=h.gj;have:=h.le;exact⟨inferInstance,inferInstance,h.bx.af δ,kY δ h.o2,kY δ h.ot,kY δ h.o1,h.h2,h.h3,h.h4,h.h5,h.ht⟩
theorem j8.at1(h:j8 n w r rt g2 b2 br b3 A1 c1 i k k' wr)(hi:i<n.aB.length):∃g,A1=some ⟨g,0,none⟩/\b3<=g/\Lt g wr/\wr.cell? ⟨g,i*2,none⟩=some (.int .i64 ((nth n.aB i).wt+k))/\wr.frozen? ⟨g,i*2,none⟩=false:=by obtain⟨g,hA,hb,hl,hc,hf⟩:=qV h.o1 nQ;refine⟨g,hA,hb,hl,hc _ _ ?_,hf _⟩;have:=gk cM 2 (fun _=>rfl) (fQ n i k) i 0 (by rw[eO];exact hi) nQ;rw[Nat.add_zero] at this;rw[this,kC _ _ _ hi,qI];rfl
theorem j8.at2(h:j8 n w r rt g2 b2 br b3 A1 c1 i k k' wr)(hi:i<n.aB.length):Lt g2 wr/\wr.cell? ⟨g2,i,none⟩=some (.int .i64 k')/\wr.frozen? ⟨g2,i,none⟩=false:=by obtain⟨g,hA,hb,hl,hc,hf⟩:=qV h.o2 nQ;injection hA with hA;injection hA with hA;subst hA;refine⟨hl,hc _ _ ?_,hf _⟩;have:=gk aI 1 (fun _=>rfl) (pM n i k') i 0 (by rw[fY];exact hi) nQ;rw[Nat.add_zero,Nat.mul_one] at this;rw[this,qu _ _ _ hi,qI];rfl
theorem j8.abR{g:Nat}(h:j8 n w r rt g2 b2 br b3 (some ⟨g,0,none⟩) c1 i k k' wr)(hi:i<n.aB.length)(hg:b3<=g):j8 n w r rt g2 b2 br b3 (some ⟨g,0,none⟩) c1 i (k+1) k' (wr.setCell ⟨g,i*2,none⟩ (.int .i64 ((nth n.aB i).wt+k+1))):=by
 have i1:=h.gj;have i2:=h.le;have i3:oy w.heap.size g:=⟨by have:=h.h2;have:=h.h3;have:=h.h4;have:=h.h5;omega⟩;refine⟨inferInstance,inferInstance,h.bx.fD (p:=⟨g,i*2,none⟩) (by have:=h.h5;show br≠g;omega) _,dh h.o2 (by have:=h.h3;have:=h.h4;have:=h.h5;intro e;injection e with e;simp at e;omega),dh h.ot ?_,?_,h.h2,h.h3,h.h4,h.h5,h.ht⟩
 ·intro e;have h1:g<br:=(h.ht _ e).2;have:=h.h5;omega
 ·have:=pL (u:=.int .i64 ((nth n.aB i).wt+k+1)) (i:=i*2) h.o1 (by rw[bX cM 2 (fun _=>rfl),eO];omega);have e:=jn cM 2 (fun _=>rfl) (fQ n i k) i 0 (.int .i64 ((nth n.aB i).wt+k+1)) (rS (nth n.aB i) ((k+1:Nat):Int)) (by rw[eO];exact hi) nQ (by
   rw[kC _ _ _ hi,qI]
   simp[cM,rS,Int.add_assoc])
  rw[Nat.add_zero] at e;rw[e,KP _ _ hi] at this;exact this
theorem j8.abQ(h:j8 n w r rt g2 b2 br b3 A1 c1 i k k' wr)(hi:i<n.aB.length):j8 n w r rt g2 b2 br b3 A1 c1 i k (k'+1) (wr.setCell ⟨g2,i,none⟩ (.int .i64 (k'+1))):=by
 have i1:=h.gj;have i2:=h.le;have i3:oy w.heap.size g2:=⟨h.h2⟩;refine⟨inferInstance,inferInstance,h.bx.fD (p:=⟨g2,i,none⟩) (by have:=h.h3;have:=h.h4;show br≠g2;omega) _,?_,dh h.ot ?_,dh h.o1 ?_,h.h2,h.h3,h.h4,h.h5,h.ht⟩
 ·have:=pL (u:=.int .i64 ((k':Int)+1)) (i:=i) h.o2 (by rw[bX aI 1 (fun _=>rfl),fY];omega);have e:=jn aI 1 (fun _=>rfl) (pM n i k') i 0 (.int .i64 ((k':Int)+1)) ((k'+1:Nat):Int) (by rw[fY];exact hi) nQ (by simp[aI]);rw[Nat.add_zero,Nat.mul_one] at e;rw[e,MR _ _ hi] at this;exact this
 ·intro e;have h1:b2<=g2:=(h.ht _ e).1;have:=h.h3;omega
 ·intro e;have h1:b3<=g2:=(wV h.o1 _ e).1;have:=h.h3;have:=h.h4;have:=h.h5;omega
theorem j8.next(h:j8 n w r rt g2 b2 br b3 A1 c1 i (eL n i) (eL n i) wr):j8 n w r rt g2 b2 br b3 A1 c1 (i+1) 0 0 wr:=
 ⟨h.gj,h.le,h.bx,by rw[Jq];exact h.o2,h.ot,by rw[Hs];exact h.o1,h.h2,h.h3,h.h4,h.h5,h.ht⟩
theorem j8.spare(h:j8 n w r rt g2 b2 br b3 A1 c1 i k k' wr){B:Nat}(hB:Le B w)(H:cg B w r n)(hv:valid n=true)(hi:i<n.aB.length)(hk:k<jS n i)(hj:∀j,j<i->j<n.aB.length->eL n j<jS n j):Calls nH 116 #[.agg (Wx n r.gA r.gc A1 c1 r.wA r.wc rt),.int .i64 i,.int .u64 0] wr fun e w'=>e=.returned (.int .i64 (kW n i k))/\∃δ,w'=Go.Proofs.YtdmedlkonaclnaaGreatDoor.af wr δ:=by have i1:=h.gj;have i2:=h.le;have el:(EX n (fQ n i k)).aB.length=n.aB.length:=eO _ _ _;have H':cg w.heap.size w r n:=H.more hB.out;have a1:Sl gI wr.heap.size wr r.gA r.gc n.ay:=(H'.1.up (w':=wr)).more i2.out;have a3:Sl fC wr.heap.size wr r.wA r.wc n.aU:=(H'.2.2.up (w':=wr)).more i2.out;have a2:Sl cM wr.heap.size wr A1 c1 (fQ n i k):=Sl.bU (by rw[eO];exact h.o1);have a4:rX wr.heap.size wr rt (bW n):=Sl.bU h.ot;have:=Pu ⟨r.gA,r.gc,A1,c1,r.wA,r.wc⟩ (EX n (fQ n i k)) rt (bW n) i wr.heap.size wr ⟨a1,a2,a3⟩ a4 (Qk hv hk hj) (by rw[el];exact hi);rw[Pt _ hi] at this;simp only[yd,el] at this;exact this
end
theorem RN(n:Nat)(x:Int):(List.replicate n x).flatMap aI=List.replicate n (Value.int .i64 x):=by
 induction n with
 |zero=>rfl
 |succ n ih=>rw[List.replicate_succ,List.replicate_succ,List.flatMap_cons,ih];rfl
theorem WU(r:eP)(n:Net)(B:Nat)(w:nJ)[hB:Le B w](h:cg B w r n):Calls nH 172 #[eK r n] w fun e w'=>∃(A:Option Addr) (c:Nat) (δ:nJ),e=.returned (.tuple #[.slice A (kJ n).length c,.int .i64 (mO n)])/\w'=af w δ/\Sl aI (af w δ).heap.size (af w δ) A c (kJ n):=by
 by_cases hv:valid n=true;all_goals try rw[Bool.not_eq_true] at hv
 case neg=>have HF:=qh (show kJ n=[] by simp[kJ,hv]);have HE:=qh (show mO n=20 by simp[mO,hv]);have HV:=qh hv;clear hv;go_enter Tryz.func172,Tryz.ntmps172;go_wp2_with (go_at_call 47;refine(AH r n B _ h.up HV.out).mono ?_;rintro e w1 ⟨rfl,δ,rfl⟩);go_ret2;rw[HF.out,HE.out];exact⟨none,0,_,rfl,aq,Sl.none_⟩
 case pos=>
  have h3:=(aD.1 hv).2.2.1;have h6:=(aD.1 hv).2.2.2.1;have HV:=qh hv;have H:=qh h;have hmk:=run_mk wo n.aB.length nQ nQ;clear hv h;go_enter Tryz.func172,Tryz.ntmps172;go_upto_region 4 with(go_at_call 47;refine(vY r n B _ H.out.up HV.out).mono ?_;rintro e w1 ⟨rfl,δ,rfl⟩);refine QAL ?_;intro W1 aH cJ dF cU dA dD um mV kR mG jE mR mQ;go_upto_region 5 with fail;refine aL fun W2 eJ=>?_;obtain⟨sM,tV,Bs,DJ,Gk⟩:=Au B w eJ;have Gj:Lt (W1.heap.size) W2:=nt eJ;have Gi:Le w.heap.size W2:=fI eJ;have JS:au w.heap.size W1 W2:=gu eJ;have JR:Le W1.heap.size W2:=fI eJ;have Uf:au W1.heap.size W1 W2:=gu eJ;have Oi:W2.cell? ⟨w.heap.size,0,none⟩=some (.int .i64 n.aP.lo):=by rw[eJ.out];go_simp
  have R8:W2.cell? ⟨w.heap.size,1,none⟩=some (.int .i64 n.aP.hi):=by rw[eJ.out];go_simp
  have ahd:W2.cell? ⟨w.heap.size,2,none⟩=some (.int .i64 n.cur.lo):=by rw[eJ.out];go_simp
  have ahc:W2.cell? ⟨w.heap.size,3,none⟩=some (.int .i64 n.cur.hi):=by rw[eJ.out];go_simp
  have ahb:W2.cell? ⟨w.heap.size,4,none⟩=some (.slice r.gA n.ay.length r.gc):=by rw[eJ.out];go_simp
  have aha:W2.cell? ⟨w.heap.size,5,none⟩=some (.slice r.aA n.aB.length r.ac):=by rw[eJ.out];go_simp
  have ad7:W2.cell? ⟨w.heap.size,6,none⟩=some (.slice r.wA n.aU.length r.wc):=by rw[eJ.out];go_simp
  have o2:W2.ownsRow W1.heap.size 3 1 (.slice (some ⟨W1.heap.size,0,none⟩) n.aB.length n.aB.length) n.aB.length ((pM n 0 0).flatMap aI):=by rw[eJ.out];have:=Fx (w:=W1) (base:=W1.heap.size) (g:=W1.heap.size) (n:=n.aB.length) (size:=1) (e:=3) (cs:=jW (.int .i64 0) 1 n.aB.length) (nR _) rfl nQ (ug _ _ _);rw[vE _ (.int .i64 0)] at this ⊢;rw[Fy];rw[show(List.replicate n.aB.length (0:Int)).flatMap aI=(Array.replicate n.aB.length (Value.int .i64 0)).toList by rw[Array.toList_replicate];exact RN _ _];exact this
  have O2:=qh o2;clear o2;go_upto_region 6 with(go_at_call 49;go_loud (refine(Pj r n B _ H.out.up h3).mono ?_;rintro e w1 ⟨rt,δ,rfl,rfl,eF⟩;have O1:=qh eF;clear eF));refine aL fun W3 bQ=>?_;obtain⟨Zn,Zm,Zl,Zk,Zj⟩:=Au B w bQ;have Zi:Lt (W1.heap.size) W3:=nt bQ;have ac4:Lt ((af W2 δ).heap.size) W3:=nt bQ;have ac3:Le w.heap.size W3:=fI bQ;have ac2:au w.heap.size W2 W3:=gu bQ;have ac1:Le W1.heap.size W3:=fI bQ;have ac0:au W1.heap.size W2 W3:=gu bQ;have abZ:Le W2.heap.size W3:=fI bQ;have abY:au W2.heap.size W2 W3:=gu bQ;have bx3:ax W3 (af W2 δ).heap.size 111 (Wx n r.gA r.gc r.aA r.ac r.wA r.wc rt):=by rw[bQ.out];exact ax.new rfl
  have ot3:W3.ownsRow W2.heap.size 3 1 (.slice rt.tA (bW n).ay.length rt.tc) (bW n).ay.length ((bW n).ay.flatMap aI):=by rw[bQ.out];exact O1.out.alloc _
  have hgt:=qh (wV O1.out);have ah4:W3.cell? ⟨w.heap.size,5,none⟩=some (.slice r.aA n.aB.length r.ac):=by rw[bQ.out];go_simp
  have q5:=bx3.cell (i:=5) rfl;have f5:=bx3.free 5;clear O1;go_upto_region 7 with(go_at_call 100;refine(AG r.aA r.ac n.aB _ rfl B _ H.out.up.2.1 nQ).mono ?_;rintro e w1 ⟨A1,c1,δ1,rfl,rfl,eF⟩;have O1:=qh eF;clear eF);refine aL fun W4 jQ=>?_;have hsz:W2.heap.size<=(af W2 δ).heap.size:=jm _ _;have Zx:(af W2 δ).heap.size<W3.heap.size:=by rw[bQ.out];simp
  have acd:W1.heap.size<W2.heap.size:=by rw[eJ.out];simp
  obtain⟨br,hbr⟩:∃b,(af W2 δ).heap.size=b:=⟨_,rfl⟩;rw[hbr] at jQ hsz Zx hgt bx3;rw[hbr];clear hbr;have I4:j8 n w r rt W1.heap.size W2.heap.size br W3.heap.size A1 c1 0 0 0 W4:=by
   rw[jQ.out];have hw1:w.heap.size<=W1.heap.size:=cU.out;have i1:oy w.heap.size br:=⟨nQ⟩;have o1':=O1.out;have o2':(af W3 δ1).ownsRow _ _ _ _ _ _:=bg O2.out;refine⟨inferInstance,inferInstance,(bx3.af δ1).set 5 _,dh o2' (by intro e;injection e with e;have e:W1.heap.size=br:=e;omega),dh (kY δ1 ot3) ?_,dh (by rw[Eg];exact o1') ?_,hw1,acd,hsz,Zx,hgt.out⟩
   ·intro e;have h1:br<br:=(hgt.out _ e).2;omega
   ·intro e;have h1:W3.heap.size<=br:=(wV o1' _ e).1;omega
  have hc5:=I4.bx.cell (i:=5) rfl;go_wp2_with fail;obtain⟨g2,mU⟩:∃b,b=W1.heap.size:=⟨_,rfl⟩;obtain⟨b2,gM⟩:∃b,b=W2.heap.size:=⟨_,rfl⟩;obtain⟨b3,Ri⟩:∃b,b=W3.heap.size:=⟨_,rfl⟩;rw[<-mU,<-gM,<-Ri] at I4;rw[<-mU];clear mU gM Ri;go_loopg [28] n.aB.length (fun g v wr=>∃i:Nat,i<=n.aB.length/\g=n.aB.length-i/\v=.int .i64 i/\j8 n w r rt g2 b2 br b3 A1 c1 i 0 0 wr/\Hid (∀j,j<i->j<n.aB.length->eL n j<jS n j))
  case atStart=>exact⟨0,nE _,rfl,rfl,I4,fun j hj=>by omega⟩
  case round=>
   clear I4;obtain⟨i,hi,rfl,rfl,I,hj⟩:=hrel;by_cases hlt:i<n.aB.length
   ·have ha:=mz HV.out hlt;simp only[mN,decide_eq_true_eq] at ha;have Zw:(jS n i:Int)=21-(nth n.aB i).wt:=by unfold jS;rw[Int.toNat_of_nonneg nQ]
    have HT:=qh Zw;have h0:0<jS n i:=nQ;clear Zw;go_wp2_with fail;go_loopg [] (jS n i) (fun g wr=>∃k:Nat,k<jS n i/\g=jS n i-k/\j8 n w r rt g2 b2 br b3 A1 c1 i k k wr/\Hid (∀j,0<=j->j<k->(fun k=>decide (0<=kW n i k)) j=false))
    case atStart=>exact⟨0,h0,rfl,I,fun j _ hj=>by omega⟩
    case round=>
     clear I;obtain⟨k,hk,rfl,I,hn⟩:=hrel;have i1:=I.gj;have i2:=I.le;have hc:=qh (I.spare hB H.out HV.out hlt hk hj.out);have jh:=I.bx;have ilt:Lt br wr:=jh.lt;have b0:=jh.cell (i:=0) rfl;have b1:=jh.cell (i:=1) rfl;have b2':=jh.cell (i:=2) rfl;have b3':=jh.cell (i:=3) rfl;have b4:=jh.cell (i:=4) rfl;have b5:=jh.cell (i:=5) rfl;have b6:=jh.cell (i:=6) rfl;have b7:=jh.cell (i:=7) rfl;have b8:=jh.cell (i:=8) rfl;have b9:=jh.cell (i:=9) rfl;clear jh;by_cases hs:kW n i k<0
     ·obtain⟨g1,hA,hg1,j1,d1,f1⟩:=I.at1 hlt;obtain⟨j2,d2,f2⟩:=I.at2 hlt;subst hA;have ne:qM g2 g1:=⟨by have:=I.h3;have:=I.h4;have:=I.h5;omega⟩;have agh:(nth n.aB i).wt+(k:Int)<=20:=by have:=HT.out;omega
      have hk0:0<=(nth n.aB i).wt+(k:Int):=nQ;have Ad:(k:Int)<=20:=nQ;have HS:=qh (show decide (0<=kW n i k)=false by simpa using hs);by_cases hend:k+1=jS n i
      ·have hz:((nth n.aB i).wt+k==20)=true:=by have:=HT.out;simp;omega
       have HN:=qh (show mO n=3/\kJ n=[] by
        have e1:eL n i=jS n i:=p6 _ fun j hj=>by
         by_cases e:j=k
         ·subst e;exact HS.out
         ·exact hn.out j (nE _) nQ
        have e2:kq n=false:=by
         unfold kq
         rw[List.all_eq_false]
         exact⟨i,by simpa using hlt,by rw[e1];simp⟩
        exact⟨by simp[mO,HV.out,e2],by simp[kJ,e2]⟩)
       clear hend;go_wp2_with (go_at_call 116;refine hc.out.mono ?_;rintro e w1 ⟨rfl,δ,rfl⟩);go_ret2;refine⟨none,0,_,?_,aq,?_⟩
       ·rw[HN.out.1,HN.out.2];rfl
       ·rw[HN.out.2];exact Sl.none_
      ·have hz:((nth n.aB i).wt+k==20)=false:=by have:=HT.out;simp;omega
       have agi:(nth n.aB i).wt+(k:Int)<=19:=by have:=HT.out;omega
       go_wp2_with (go_at_call 116;refine hc.out.mono ?_;rintro e w1 ⟨rfl,δ,rfl⟩);go_roundg (jS n i-(k+1))
       case measure=>omega
       case rel=>
        refine⟨k+1,nQ,rfl,((I.af δ).abR hlt hg1).abQ hlt,fun j h0 hj=>?_⟩;by_cases e:j=k
        ·subst e;exact HS.out
        ·exact hn.out j h0 nQ
     ·have hkn:k=eL n i:=by have h1:=gx (fun k=>decide (0<=kW n i k)) (jS n i) 0;refine(sX _ hk (fun j hj=>hn.out j (nE _) hj) ?_).symm;exact decide_eq_true nQ
      have HK:=qh hkn;clear hkn;go_wp2_with (go_at_call 116;refine hc.out.mono ?_;rintro e w1 ⟨rfl,δ,rfl⟩);go_roundg (n.aB.length-(i+1))
      case measure=>omega
      case rel=>
       have I':=I.af δ;rw[HK.out] at I';refine⟨i+1,nQ,rfl,by go_num,I'.next,fun j h1 h2=>?_⟩;by_cases e:j=i
       ·subst e;rw[<-HK.out];exact hk
       ·exact hj.out j nQ h2
   ·obtain rfl:i=n.aB.length:=by omega
    have i1:=I.gj;have i2:=I.le;have HE:=qh (show mO n=0/\kJ n=pM n n.aB.length 0 by
     have hok:kq n=true:=by
      unfold kq
      rw[List.all_eq_true]
      intro j hj'
      have hj':j<n.aB.length:=by simpa using hj'
      exact decide_eq_true (hj.out j hj' hj')
     refine⟨by simp[mO,HV.out,hok],?_⟩
     unfold kJ
     rw[if_pos (by rw[HV.out,hok];rfl)]
     refine lu (by rw[fY];simp) fun j hj'=>?_
     have hj':j<n.aB.length:=by simpa using hj'
     rw[qu _ _ _ hj',pX _ hj']
     simp[Bu,hj'])
    go_wp2_with fail;go_ret2;refine⟨some ⟨g2,0,none⟩,n.aB.length,wr,?_,aq,?_⟩
    ·rw[HE.out.1,HE.out.2,fY];rfl
    ·rw[HE.out.2,<-aq (w:=w) (W:=wr)];exact Sl.bU (by rw[fY];exact I.o2)
end
section
open An
def mP(n:Net)(x:Nat):Bool:=decide (kj (vM n x)<(bI (vM n x)).length)
theorem Ey(r:eP)(n:Net)(B:Nat)(w:nJ)[hB:Le B w](h:cg B w r n)(hv:valid n=true):Calls nH 189 #[eK r n] w fun e w'=>e=.returned (.int .i64 (bP (mP n) 21 0))/\∃δ,w'=af w δ:=by
 have hq1:n.ay.length<=1000:=by have:=(aD.1 hv).2.2.1;omega
 have NF:n.aB.length<=1000:=by have:=(aD.1 hv).2.2.2.1;omega
 have hq3:n.aU.length<=1000:=by have:=(aD.1 hv).2.2.2.2.1;omega
 have HV:=qh hv;have H:=qh h;clear hv h;go_enter Tryz.func189,Tryz.ntmps189;go_wp2_with fail;refine QAL ?_;intro W1 aH cJ dF cU dA dD um mV kR mG jE mR mQ;go_loopw [3] (fun i wr=>∃(k:Nat) (δ:nJ),k<=21/\i=.int .i64 k/\Hid (∀j,j<k->mP n j=false)/\wr=af W1 δ) (fun i _=>21-(intOf i).toNat)
 case atStart=>exact⟨0,W1,nQ,rfl,fun j hj=>by omega,(bw W1).symm⟩
 case round=>
  obtain⟨k,δ,hk,rfl,hn,rfl⟩:=hrel;by_cases hlt:k<21
  ·have Xo:=qh (wF HV.out (x:=k) nQ);have hki:(k:Int)<=20:=nQ;by_cases hh:kj (vM n k)<(bI (vM n k)).length;all_goals have DS:=qh hh
   ·have hlt':(kj (vM n k):Int)<((bI (vM n k)).length:Int):=nQ;have HF:=qh (sX (mP n) hlt hn.out (by simp[mP,hh]));clear hh;go_wp2_with (first|(go_at_call 239;refine(Gs r n k B _ H.out.up hq1 NF hq3).mono ?_;rintro e w1 ⟨r',δ',rfl,rfl,ho⟩)|(go_at_call 187;refine(Dt r' (vM n k) _ _ ho.is Xo.out).mono ?_;rintro e w1 ⟨rfl,δ'',rfl⟩));go_ret;exact⟨cG (by rw[HF.out]),ag⟩
   ·have hlt':¬(kj (vM n k):Int)<((bI (vM n k)).length:Int):=nQ;clear hh;go_wp2_with (first|(go_at_call 239;refine(Gs r n k B _ H.out.up hq1 NF hq3).mono ?_;rintro e w1 ⟨r',δ',rfl,rfl,ho⟩)|(go_at_call 187;refine(Dt r' (vM n k) _ _ ho.is Xo.out).mono ?_;rintro e w1 ⟨rfl,δ'',rfl⟩));go_roundw
    case rel=>
     refine⟨k+1,_,nQ,by go_num,?_,aq⟩;intro j hj;by_cases Uw:j=k
     ·subst Uw;simp only[mP,decide_eq_false_iff_not];exact DS.out
     ·exact hn.out j nQ
    case measure=>simp[intOf];omega
  ·obtain rfl:k=21:=by omega
   have HF:=qh (p6 (mP n) hn.out);go_wp2_with fail;go_ret;exact⟨cG (by rw[HF.out]),ag⟩
theorem sV(f:Nat->Bool)(m:Nat):bP f m 0<=m:=by have:=(gx f m 0).2.1;omega
theorem Tx(r:eP)(n:Net)(B:Nat)(w:nJ)[hB:Le B w](h:cg B w r n):Calls nH 122 #[eK r n] w fun e w'=>e=.returned (.tuple #[.int .i64 (ud (valid n) (bP (mP n) 21 0)),.int .i64 (ue (valid n) (bP (mP n) 21 0))])/\∃δ,w'=af w δ:=by
 by_cases hv:valid n=true;all_goals try rw[Bool.not_eq_true] at hv
 all_goals have HV:=qh hv;rw[hv];clear hv
 ·have hle:bP (mP n) 21 0<=21:=sV (mP n) 21;have hX:∃X,X=bP (mP n) 21 0:=⟨_,rfl⟩;obtain⟨X,hX⟩:=hX;rw[<-hX] at hle ⊢;have HX:=qh hX;clear hX;by_cases hx:X=21
  ·subst hx;go_enter Tryz.func122,Tryz.ntmps122;go_wp2_with (first|(go_at_call 35;refine(jU r n B _ h.up).mono ?_;rw[HV.out];rintro e w1 ⟨rfl,δ,rfl⟩)|(go_at_call 189;refine(Ey r n B _ h.up HV.out).mono ?_;rw[<-HX.out];rintro e w1 ⟨rfl,δ,rfl⟩));go_ret2;exact⟨rfl,ag⟩
  ·have hne:¬(20:Int)<(X:Int):=nQ;have HN:=qh hx;clear hx;go_enter Tryz.func122,Tryz.ntmps122;go_wp2_with (first|(go_at_call 35;refine(jU r n B _ h.up).mono ?_;rw[HV.out];rintro e w1 ⟨rfl,δ,rfl⟩)|(go_at_call 189;refine(Ey r n B _ h.up HV.out).mono ?_;rw[<-HX.out];rintro e w1 ⟨rfl,δ,rfl⟩));go_ret2;exact⟨PM (int_eq (by simp[ud,HN.out])) (int_eq (by simp[ue,HN.out])),ag⟩
 ·go_enter Tryz.func122,Tryz.ntmps122;go_wp2_with (go_at_call 35;refine(jU r n B _ h.up).mono ?_;rw[HV.out];rintro e w1 ⟨rfl,δ,rfl⟩);go_ret2;exact⟨rfl,ag⟩
end
namespace An
def CQ(n:Net)(t:ji):Prop:=∀i,i<n.aB.length->0<=spare n t i (fun _=>false)
theorem we{n:Net}{t:ji}:calm n t=true↔CQ n t:=by
 unfold calm iZ CQ;rw[decide_eq_true_eq,List.length_eq_zero_iff];constructor
 ·intro h i hi;by_cases hs:0<=spare n t i (fun _=>false)
  ·exact hs
  ·exfalso;have:(i:Int)∈pU n.aB.length (rQ n t (nq [])):=by
    rw[JG];refine⟨hi,?_⟩;have he:nq []=fun _=>false:=by funext k;simp[nq,jY]
    rw[he];unfold rQ;simp[hi];omega
   rw[h] at this;simp at this
 ·intro h;have he:nq []=fun _=>false:=by funext k;simp[nq,jY]
  rw[he];unfold pU;rw[List.map_eq_nil_iff,List.filter_eq_nil_iff];intro i hi hs;have:=h i (by simpa using hi);unfold rQ at hs;simp at hs;omega
theorem BH{n:Net}{t:ji}:jT n t 0=0↔CQ n t:=by
 unfold CQ;constructor
 ·intro h i hi;have:=BG n t 0 i;rw[h] at this;unfold rQ at this;simp at this;exact this hi
 ·intro h;apply Nat.eq_of_testBit_eq;intro i;rw[BG];unfold rQ;simp;exact h i
def tE(n:Net)(t t':ji):Prop:=t.aP<=t'.aP/\t.cur<=t'.cur/\∀b,b<n.ay.length->nth t'.ay b<=nth t.ay b
theorem Nw{n:Net}{t t':ji}(hv:valid n=true)(h:tE n t t'){k:Nat}(hk:k<n.aU.length):ld n t k<=ld n t' k:=by have hx:=oe hv hk;simp only[qx,decide_eq_true_eq] at hx;have h1:=Int.mul_le_mul_of_nonneg_left h.1 hx.1;have h2:=Int.mul_le_mul_of_nonneg_left h.2.1 hx.2.2.1;unfold ld zR;omega
theorem sA{n:Net}{t t':ji}(hv:valid n=true)(h:tE n t t'){d:Nat->Bool}{k o:Nat}(hk:k<n.aU.length):side n t d k o<=side n t' d k o:=by have:=Nw hv h hk;unfold side;split<;>omega
theorem Ee{n:Net}{t t':ji}(hv:valid n=true)(h:tE n t t'){d:Nat->Bool}{i:Nat}(hi:i<n.aB.length):bears n t i d<=bears n t' i d:=by
 have hw:=(aD.1 hv).2.2.2.2.1;unfold bears;by_cases h1:0<i
 ·have a:=sA hv h (d:=d) (k:=i-1) (o:=i-1) nQ;by_cases h2:i<n.aU.length
  ·have b:=sA hv h (d:=d) (k:=i) (o:=i+1) h2;simp only[h1,h2,if_true];omega
  ·simp only[h1,h2,if_true,if_false];omega
 ·by_cases h2:i<n.aU.length
  ·have b:=sA hv h (d:=d) (k:=i) (o:=i+1) h2;simp only[h1,h2,if_true,if_false];omega
  ·simp only[h1,h2,if_false];omega
theorem KK{n:Net}{t t':ji}(hv:valid n=true)(h:tE n t t'){i:Nat}(hi:i<n.aB.length):can n t' i<=can n t i:=by have ha:=mz hv hi;simp only[mN,decide_eq_true_eq] at ha;have h1:=h.2.2 (nth n.aB i).bt.toNat nQ;have h2:=Int.mul_le_mul_of_nonneg_left h1 (show 0<=2*(nth n.aB i).wt by omega);unfold can;exact h2
theorem vb{n:Net}{t t':ji}(hv:valid n=true)(h:tE n t t'){d:Nat->Bool}{i:Nat}(hi:i<n.aB.length):spare n t' i d<=spare n t i d:=by have:=Ee hv h (d:=d) hi;have:=KK hv h hi;unfold spare;omega
theorem AN{n:Net}{t t':ji}(hv:valid n=true)(h:tE n t t')(hc:CQ n t'):CQ n t:=
 fun i hi=>Int.le_trans (hc i hi) (vb hv h hi)
theorem By{n:Net}(hv:valid n=true):uy n (bW n)=true:=by
 obtain⟨h1,h2,_,_,_,h6,_,_⟩:=aD.1 hv;simp only[jM,decide_eq_true_eq] at h1 h2;simp only[uy,Bool.and_eq_true,decide_eq_true_eq,sO,dn,ru,List.all_eq_true,List.mem_range];refine⟨⟨⟨by simp only[bW];omega,by simp only[bW];omega⟩,by simp[bW]⟩,fun i hi=>?_⟩;have hi':i<n.ay.length:=by simpa [bW] using hi
 have hg:=(List.all_eq_true.1 (by unfold nk at h6;exact h6)) _ (aV n.ay hi');simp only[jM,decide_eq_true_eq] at hg;simp only[bW];rw[jC _ _ hi'];omega
theorem Hl{n:Net}(hv:valid n=true):uy n (gV n)=true:=by
 obtain⟨h1,h2,_,_,_,h6,_,_⟩:=aD.1 hv;simp only[jM,decide_eq_true_eq] at h1 h2;simp only[uy,Bool.and_eq_true,decide_eq_true_eq,sO,dn,ru,List.all_eq_true,List.mem_range];refine⟨⟨⟨by simp only[gV];omega,by simp only[gV];omega⟩,by simp[gV]⟩,fun i hi=>?_⟩;have hi':i<n.ay.length:=by simpa [gV] using hi
 have hg:=(List.all_eq_true.1 (by unfold nk at h6;exact h6)) _ (aV n.ay hi');simp only[jM,decide_eq_true_eq] at hg;simp only[gV];rw[jC _ _ hi'];omega
theorem vT{n:Net}{t:ji}(ht:uy n t=true):tE n t (bW n):=by simp only[uy,Bool.and_eq_true,decide_eq_true_eq,sO,dn] at ht;refine⟨by simp only[bW];omega,by simp only[bW];omega,fun b hb=>?_⟩;have hg:=rq ht.2 (k:=b) nQ;rw[sO,dn] at hg;simp only[bW];rw[jC _ _ hb];omega
theorem GC{n:Net}{t:ji}(ht:uy n t=true):tE n (gV n) t:=by simp only[uy,Bool.and_eq_true,decide_eq_true_eq,sO,dn] at ht;refine⟨by simp only[gV];omega,by simp only[gV];omega,fun b hb=>?_⟩;have hg:=rq ht.2 (k:=b) nQ;rw[sO,dn] at hg;simp only[gV];rw[jC _ _ hb];omega
theorem Cf{n:Net}(hv:valid n=true):(kj n<(bI n).length)↔¬jT n (bW n) 0=0:=by
 rw[BH];unfold kj;constructor
 ·intro h hc;have:(bI n).filter (calm n)=bI n:=by rw[List.filter_eq_self];intro t ht;exact we.2 (AN hv (vT (gR.1 ht)) hc)
  rw[this] at h;omega
 ·intro hc;have h1:=List.length_filter_le (calm n) (bI n);rcases Nat.lt_or_eq_of_le h1 with h|h
  ·exact h
  ·exfalso;rw[List.length_filter_eq_length_iff] at h;exact hc (we.1 (h _ (gR.2 (By hv))))
theorem Jg{n:Net}(hv:valid n=true):kj n=0↔¬jT n (gV n) 0=0:=by
 rw[BH];unfold kj;rw[List.length_eq_zero_iff,List.filter_eq_nil_iff];constructor
 ·intro h hc;exact h _ (gR.2 (Hl hv)) (we.2 hc)
 ·intro hc t ht hq;exact hc (AN hv (GC (gR.1 ht)) (we.1 hq))
end An
section
open An
def Ki:Net:=⟨⟨2,4⟩,⟨1,3⟩,[⟨2,3⟩,⟨1,4⟩],[⟨6,0⟩,⟨5,1⟩,⟨4,0⟩],[⟨2,1,3,8,9⟩,⟨1,2,2,6,6⟩]⟩
def exA:ji:=⟨4,3,[2,1]⟩
def exB:ji:=⟨2,1,[3,4]⟩
theorem N8(w:nJ):Calls nH 82 #[] w fun e w'=>∃(r:eP) (ra rb:pE) (δ:nJ),e=.returned (.tuple #[eK r Ki,wH ra exA,wH rb exB])/\w'=af w δ/\cg (af w δ).heap.size (af w δ) r Ki/\rX (af w δ).heap.size (af w δ) ra exA/\rX (af w δ).heap.size (af w δ) rb exB:=by
 go_enter Tryz.func82,Tryz.ntmps82;go_wp2_with fail;refine bodyPost_ret (v:=.tuple #[eK ⟨some ⟨w.heap.size+1+1+1,0,none⟩,2,some ⟨w.heap.size+1+1+1+1,0,none⟩,3,some ⟨w.heap.size+1+1+1+1+1,0,none⟩,2⟩ Ki,wH ⟨some ⟨w.heap.size+1+1+1+1+1+1,0,none⟩,2⟩ exA,wH ⟨some ⟨w.heap.size+1+1+1+1+1+1+1,0,none⟩,2⟩ exB]) ?_ rfl ?_
 ·simp only[results,Tryz.results82];go_simp;simp[Ki,exA,exB]
 ·refine⟨⟨some ⟨w.heap.size+1+1+1,0,none⟩,2,some ⟨w.heap.size+1+1+1+1,0,none⟩,3,some ⟨w.heap.size+1+1+1+1+1,0,none⟩,2⟩,⟨some ⟨w.heap.size+1+1+1+1+1+1,0,none⟩,2⟩,⟨some ⟨w.heap.size+1+1+1+1+1+1+1,0,none⟩,2⟩,_,rfl,aq,?_⟩;refine QDJ ?_;refine⟨⟨p9 Ki.ay (T:=23) (cs:=#[.int .i64 2,.int .i64 3,.int .i64 1,.int .i64 4]) ?_ (nG rfl) (nG rfl) rfl,p9 Ki.aB (T:=47) (cs:=#[.int .i64 6,.int .i64 0,.int .i64 5,.int .i64 1,.int .i64 4,.int .i64 0]) ?_ (nG rfl) (nG rfl) rfl,p9 Ki.aU (T:=149) (cs:=#[.int .i64 2,.int .i64 1,.int .i64 3,.int .i64 8,.int .i64 9,.int .i64 1,.int .i64 2,.int .i64 2,.int .i64 6,.int .i64 6]) ?_ (nG rfl) (nG rfl) rfl⟩,p9 exA.ay (T:=3) (cs:=#[.int .i64 2,.int .i64 1]) ?_ (nG rfl) (nG rfl) rfl,p9 exB.ay (T:=3) (cs:=#[.int .i64 3,.int .i64 4]) ?_ (nG rfl) (nG rfl) rfl⟩;all_goals repeat (first|exact ax.new nW|refine ax.alloc ?_ _)
end
section
open An
def LJ(n:Net)(t:ji):Bool:=decide (40<n.ay.length)||decide (40<n.aB.length)||decide (40<n.aU.length)||decide (40<t.ay.length)
theorem JX(r:eP)(n:Net)(rt:pE)(t:ji)(w:nJ):Calls nH 139 #[eK r n,wH rt t] w fun e w'=>e=.returned (.bool (LJ n t))/\∃δ,w'=af w δ:=by go_enter Tryz.func139,Tryz.ntmps139;go_wp2_with fail;all_goals go_ret;refine⟨bu ?_,ag⟩;go_light;grind [LJ]
end
section
open An
end
namespace An
end An
section
open An
theorem xN(r:eP)(n:Net)(i:Int)(B:Nat)(w:nJ)[_hB:Le B w](h:cg B w r n):Calls nH 199 #[eK r n,.int .i64 i] w fun e w'=>e=.returned (.bool (fH 0 (n.aB.length-1) i))/\∃δ,w'=af w δ:=by have l:=h.2.1.len;go_enter Tryz.func199,Tryz.ntmps199;go_wp2_with (go_at_call 77;refine(tG _ _ _ _).mono ?_;rintro e w1 ⟨rfl,rfl⟩);go_ret;exact⟨rfl,ag⟩
theorem MI(r:eP)(n:Net)(rt:pE)(t:ji)(i:Nat)(B:Nat)(w:nJ)[hB:Le B w](h:cg B w r n)(ht:jV n t)(hi:i<n.aB.length):Calls nH 264 #[eK r n,wH rt t,.int .i64 i,.slice none 0 0] w fun e w'=>e=.returned (.int .i64 (bears n t i (fun _=>false)))/\∃δ,w'=af w δ:=by have:=vm r n rt t i none 0 [] B w h Sl.none_ ht hi;rw[show nq []=fun _=>false by funext k;simp[nq,jY]] at this;exact this
theorem BJ(r:eP)(n:Net)(rt:pE)(t:ji)(i:Nat)(B:Nat)(w:nJ)[hB:Le B w](h:cg B w r n)(h':rX B w rt t)(ht:jV n t)(hi:i<n.aB.length):Calls nH 268 #[eK r n,wH rt t,.int .i64 i] w fun e w'=>e=.returned (.int .i64 (spare n t i (fun _=>false)))/\∃δ,w'=af w δ:=by
 have hb:=wg ht (d:=fun _=>false) hi;have hc:=(Ed ht hi).2.2.2.2.2.2;have HT:=qh ht;clear ht;go_enter Tryz.func268,Tryz.ntmps268;go_wp2_with fail;refine QAP ?_;intro W1 aH cJ dF cU dA dD eI mV kR mG jE mR mQ vX;refine QDK ?_;intro xB xA AF;refine wpRl ?_;repeat (go_big_quiet_step ((first|(go_at_call 265;exact Calls.bN (Dr r n rt t i B _ h.up h'.up HT.out hi))|(go_at_call 264;exact Calls.bN (MI r n rt t i B _ h.up HT.out hi)))))
 refine QBT ?_;rintro _ ⟨δq,rfl⟩;go_wp2_with fail;go_ret;exact⟨rfl,ag⟩
end
section
open An
namespace An
end An
end
namespace An
end An
namespace An
end An
namespace An
end An
namespace An
def uL(n:Net)(i:Nat)(x:Int):Net:=EX n (n.aB.set i (rS (nth n.aB i) x))
theorem qG(n:Net)(i:Nat)(x:Int):(uL n i x).aB.length=n.aB.length:=List.length_set
theorem Gz(n:Net)(i:Nat)(x:Int){j:Nat}(hj:j<n.aB.length):nth (uL n i x).aB j=if i=j then rS (nth n.aB i) x else nth n.aB j:=vC _ _ _ hj
theorem Ae{n:Net}(hv:valid n=true){i:Nat}{x:Int}(hi:i<n.aB.length)(h0:0<=(nth n.aB i).wt+x)(h1:(nth n.aB i).wt+x<=20):valid (uL n i x)=true:=by
 have hv0:=hv;rw[aD] at hv ⊢;obtain⟨a1,a2,a3,a4,a5,a6,a7,a8⟩:=hv;refine⟨a1,a2,a3,by rw[qG];exact a4,by rw[qG];exact a5,a6,?_,a8⟩;show ko n.ay.length (uL n i x).aB=true;unfold ko;rw[List.all_eq_true];intro y hy;obtain⟨j,hj,rfl⟩:=List.getElem_of_mem hy;have hj':j<n.aB.length:=by rwa [qG] at hj
 rw[<-bR _ hj,Gz _ _ _ hj'];have ha:=mz hv0 hj';by_cases hij:i=j
 ·subst hij;rw[if_pos rfl];simp only[mN,decide_eq_true_eq] at ha;refine decide_eq_true ?_;show 0<=(nth n.aB i).wt+x/\(nth n.aB i).wt+x<=20/\0<=(nth n.aB i).bt/\(nth n.aB i).bt<(n.ay.length:Int);exact⟨h0,h1,ha.2.2.1,ha.2.2.2⟩
 ·rw[if_neg hij];exact ha
end An
namespace An
theorem EM{n:Net}(hv:valid n=true){i:Nat}(hi:i<n.aB.length):(jS n i:Int)=21-(nth n.aB i).wt:=by have ha:=mz hv hi;simp only[mN,decide_eq_true_eq] at ha;unfold jS;omega
theorem uJ{n:Net}:kq n=true↔∀i,i<n.aB.length->eL n i<jS n i:=by
 unfold kq;rw[List.all_eq_true];constructor
 ·intro h i hi;simpa using h i (by simpa using hi)
 ·intro h i hi;exact decide_eq_true (h i (by simpa using hi))
theorem Nd{n:Net}{i:Nat}(h:eL n i<jS n i):0<=kW n i (eL n i):=by have:=(gx (fun k=>decide (0<=kW n i k)) (jS n i) 0).2.2.2 (by unfold eL at h;omega);exact of_decide_eq_true this
theorem JC{n:Net}{i k:Nat}(h:k<eL n i):kW n i k<0:=by have:=(gx (fun k=>decide (0<=kW n i k)) (jS n i) 0).2.2.1 k (nE _) h;exact Int.not_le.1 (of_decide_eq_false this)
theorem Qn(n:Net)(i:Nat):eL n i<=jS n i:=sV _ _
end An
section
open An
theorem J4(r:eP)(n:Net)(i:Nat)(x:Int)(hi:i<n.aB.length)(hx:-100<=(nth n.aB i).wt+x/\(nth n.aB i).wt+x<=100)(B:Nat)(w:nJ)[hB:Le B w](h:cg B w r n)(q1:n.ay.length<=1000)(q2:n.aB.length<=1000)(q3:n.aU.length<=1000):Calls nH 12 #[eK r n,.int .i64 i,.int .i64 x] w fun e w'=>∃(r':eP) (δ:nJ),e=.returned (eK r' (uL n i x))/\w'=af w δ/\dS w.heap.size (af w δ) r' (uL n i x):=by
 have H:=qh h;clear h;go_enter Tryz.func12,Tryz.ntmps12;go_wp2_with fail;refine(Kw r n B _ H.out.up q1 q2 q3).mono ?_;rintro e w1 ⟨r',δ,rfl,rfl,ho⟩;obtain⟨gA,gc,aA,ac,wA,wc⟩:=r';obtain⟨g,rfl,hb,hl,hc,hf⟩:=qV ho.2.1 nQ;rw[show eK ⟨gA,gc,some ⟨g,0,none⟩,ac,wA,wc⟩ n=Value.agg #[.int .i64 n.aP.lo,.int .i64 n.aP.hi,.int .i64 n.cur.lo,.int .i64 n.cur.hi,.slice gA n.ay.length gc,.slice (some ⟨g,0,none⟩) n.aB.length ac,.slice wA n.aU.length wc] from rfl];have c0:=hc (i*2) (.int .i64 (nth n.aB i).wt) (by have:=gk cM 2 (fun _=>rfl) n.aB i 0 hi nQ;rw[Nat.add_zero] at this;rw[this];rfl);have c1:=hc (i*2+1) (.int .i64 (nth n.aB i).bt) (by have:=gk cM 2 (fun _=>rfl) n.aB i 1 hi nQ;rw[this];rfl);have f0:=hf (i*2);have f1:=hf (i*2+1);have HO:=qh ho;clear ho hc hf;have kL:w.heap.size+1<g:=by refine nL ?_ hb;go_simp
 have hki:(i:Int)<(n.aB.length:Int):=nQ;have hk0:¬(i:Int)<0:=nQ;have i1:qM (w.heap.size+1) g:=⟨nQ⟩;have i2:qM g (w.heap.size+1):=⟨nQ⟩;have i3:qM w.heap.size g:=⟨nQ⟩;have i4:qM g w.heap.size:=⟨nQ⟩;have i5:oy w.heap.size g:=⟨nQ⟩;clear hb kL;have b1:w.heap.size+1<(w.alloc (Obj.cells #[.int .i64 n.aP.lo,.int .i64 n.aP.hi,.int .i64 n.cur.lo,.int .i64 n.cur.hi,.slice r.gA n.ay.length r.gc,.slice r.aA n.aB.length r.ac,.slice r.wA n.aU.length r.wc] 28)).heap.size+1:=nW;have k1:=Dv HO.out.1 HO.out.2.1 nU;have k3:=Dv HO.out.2.2 HO.out.2.1 nU;have o1:=pL (u:=.int .i64 ((nth n.aB i).wt+x)) (i:=i*2) HO.out.2.1 (by rw[bX cM 2 (fun _=>rfl)];omega);have o2:=pL (u:=.int .i64 (nth n.aB i).bt) (i:=i*2+1) o1 (by rw[List.length_set,bX cM 2 (fun _=>rfl)];omega);have e1:=jn cM 2 (fun _=>rfl) n.aB i 0 (.int .i64 ((nth n.aB i).wt+x)) (rS (nth n.aB i) x) hi nQ rfl;rw[Nat.add_zero] at e1;have e2:=jn cM 2 (fun _=>rfl) (n.aB.set i (rS (nth n.aB i) x)) i 1 (.int .i64 (nth n.aB i).bt) (rS (nth n.aB i) x) (by rw[List.length_set];exact hi) nQ (by rw[vC _ _ _ hi,if_pos rfl];rfl);rw[List.set_set] at e2;rw[e1,e2] at o2;have HA:=qh (And.intro (dh (dh HO.out.1 (p:=⟨g,i*2,none⟩) k1 (u:=.int .i64 ((nth n.aB i).wt+x))) (p:=⟨g,i*2+1,none⟩) k1 (u:=.int .i64 (nth n.aB i).bt)) (And.intro o2 (dh (dh HO.out.2.2 (p:=⟨g,i*2,none⟩) k3 (u:=.int .i64 ((nth n.aB i).wt+x))) (p:=⟨g,i*2+1,none⟩) k3 (u:=.int .i64 (nth n.aB i).bt))));clear o1 o2 e1 e2 k1 k3;go_wp2_with fail;refine bodyPost_ret (v:=eK ⟨gA,gc,some ⟨g,0,none⟩,ac,wA,wc⟩ (uL n i x)) ?_ rfl ?_
 ·simp only[results,Tryz.results12];go_simp;simp[uL,EX,eK]
 ·refine⟨⟨gA,gc,some ⟨g,0,none⟩,ac,wA,wc⟩,_,rfl,aq,?_⟩;refine QDJ ?_;refine dS.mono (base:=(w.alloc (Obj.cells #[.int .i64 n.aP.lo,.int .i64 n.aP.hi,.int .i64 n.cur.lo,.int .i64 n.cur.hi,.slice r.gA n.ay.length r.gc,.slice r.aA n.aB.length r.ac,.slice r.wA n.aU.length r.wc] 28)).heap.size+1) ?_ (by go_simp;omega);refine dS.alloc (dS.alloc ?_ _) _;iterate 7 (refine dS.set ?_ b1 _)
  unfold dS;rw[qG];exact⟨de HA.out.1 nW,de HA.out.2.1 nW,de HA.out.2.2 nW⟩
theorem CC(r:eP)(n:Net)(i:Nat)(x:Int)(hi:i<n.aB.length)(hx:-100<=(nth n.aB i).wt+x/\(nth n.aB i).wt+x<=100)(B:Nat)(w:nJ)[hB:Le B w](h:cg B w r n)(q1:n.ay.length<=1000)(q2:n.aB.length<=1000)(q3:n.aU.length<=1000):Calls nH 12 #[eK r n,.int .i64 i,.int .i64 x] w fun e w'=>∃(r':eP) (δ:nJ),e=.returned (eK r' (uL n i x))/\w'=af w δ/\cg (af w δ).heap.size (af w δ) r' (uL n i x):=by refine(J4 r n i x hi hx B w h q1 q2 q3).mono ?_;rintro e w1 ⟨r',δ,rfl,rfl,ho⟩;exact⟨r',δ,rfl,rfl,ho.is⟩
end
section
open An
theorem Wq(r r':eP)(n:Net)(B:Nat)(w:nJ)[hB:Le B w](h:cg B w r n)(h':cg B w r' n):Calls nH 57 #[eK r n,eK r' n] w fun e w'=>e=.returned (.bool true)/\∃δ,w'=af w δ:=by
 have l1:=h.1.len;have l2:=h.2.1.len;have l3:=h.2.2.len;go_enter Tryz.func57,Tryz.ntmps57;go_upto_region 3 with fail;refine QAP ?_;intro W1 aH cJ dF cU dA dD eI mV kR mG jE mR mQ vX;have xB:W1.cell? ⟨w.heap.size+1,0,none⟩=some (.int .i64 n.aP.lo):=by rw[aH.out];go_simp
 have xA:W1.cell? ⟨w.heap.size+1,1,none⟩=some (.int .i64 n.aP.hi):=by rw[aH.out];go_simp
 have AF:W1.cell? ⟨w.heap.size+1,2,none⟩=some (.int .i64 n.cur.lo):=by rw[aH.out];go_simp
 have Ku:W1.cell? ⟨w.heap.size+1,3,none⟩=some (.int .i64 n.cur.hi):=by rw[aH.out];go_simp
 have Kt:W1.cell? ⟨w.heap.size+1,4,none⟩=some (.slice r'.gA n.ay.length r'.gc):=by rw[aH.out];go_simp
 have Ks:W1.cell? ⟨w.heap.size+1,5,none⟩=some (.slice r'.aA n.aB.length r'.ac):=by rw[aH.out];go_simp
 have GX:W1.cell? ⟨w.heap.size+1,6,none⟩=some (.slice r'.wA n.aU.length r'.wc):=by rw[aH.out];go_simp
 have s1:cg B W1 r n:=h.up;have s2:cg B W1 r' n:=h'.up;go_wp2_with fail;go_loopw [5] (fun i wr=>∃(k:Nat) (δ:nJ),k<=n.ay.length/\i=.int .i64 k/\wr=af W1 δ) (fun i _=>n.ay.length-(intOf i).toNat)
 case atStart=>exact⟨0,W1,nE _,rfl,(bw W1).symm⟩
 case round=>
  obtain⟨k,δ,hk,rfl,rfl⟩:=hrel;by_cases hlt:k<n.ay.length
  ·obtain⟨b,o,hA,hb,d0,d1⟩:=s1.1.sp hlt;obtain⟨b',o',p5,hb',d0',d1'⟩:=s2.1.sp hlt;refine QCY ?_;intro ib ib';have hki:(k:Int)<(n.ay.length:Int):=nQ;have hk0:¬(k:Int)<0:=nQ;rw[hA] at mR;rw[p5] at Kt;clear hA p5;go_wp2_with fail;refine wpRl ?_;repeat (go_big_quiet_step ((first|(fail))))
   refine QBT ?_;rintro _ ⟨δq,rfl⟩;go_wp2_with fail;go_roundw
   case rel=>exact⟨k+1,_,nQ,by go_num,aq⟩
   case measure=>simp[intOf];omega
  ·obtain rfl:k=n.ay.length:=by omega
   go_wp2_with fail;go_loopw [6] (fun i wr=>∃(k:Nat) (δ:nJ),k<=n.aB.length/\i=.int .i64 k/\wr=af W1 δ) (fun i _=>n.aB.length-(intOf i).toNat)
   case atStart=>exact⟨0,δ,nE _,rfl,rfl⟩
   case round=>
    clear hk hlt;obtain⟨k,δ,hk,rfl,rfl⟩:=hrel;by_cases hlt:k<n.aB.length
    ·obtain⟨b,o,hA,hb,d0,d1⟩:=s1.2.1.Yh hlt;obtain⟨b',o',p5,hb',d0',d1'⟩:=s2.2.1.Yh hlt;refine QCY ?_;intro ib ib';have hki:(k:Int)<(n.aB.length:Int):=nQ;have hk0:¬(k:Int)<0:=nQ;rw[hA] at mQ;rw[p5] at Ks;clear hA p5;go_wp2_with fail;refine wpRl ?_;repeat (go_big_quiet_step ((first|(fail))))
     refine QBT ?_;rintro _ ⟨δq,rfl⟩;go_wp2_with fail;go_roundw
     case rel=>exact⟨k+1,_,nQ,by go_num,aq⟩
     case measure=>simp[intOf];omega
    ·obtain rfl:k=n.aB.length:=by omega
     go_wp2_with fail;go_loopw [7] (fun i wr=>∃(k:Nat) (δ:nJ),k<=n.aU.length/\i=.int .i64 k/\wr=af W1 δ) (fun i _=>n.aU.length-(intOf i).toNat)
     case atStart=>exact⟨0,δ,nE _,rfl,rfl⟩
     case round=>
      clear hk hlt;obtain⟨k,δ,hk,rfl,rfl⟩:=hrel;by_cases hlt:k<n.aU.length
      ·obtain⟨b,o,hA,hb,d0,d1,d2,d3,d4⟩:=s1.2.2.Vp hlt;obtain⟨b',o',p5,hb',d0',d1',d2',d3',d4'⟩:=s2.2.2.Vp hlt;refine QCY ?_;intro ib ib';have hki:(k:Int)<(n.aU.length:Int):=nQ;have hk0:¬(k:Int)<0:=nQ;rw[hA] at vX;rw[p5] at GX;clear hA p5;go_wp2_with fail;refine wpRl ?_;repeat (go_big_quiet_step ((first|(fail))))
       refine QBT ?_;rintro _ ⟨δq,rfl⟩;go_wp2_with fail;go_roundw
       case rel=>exact⟨k+1,_,nQ,by go_num,aq⟩
       case measure=>simp[intOf];omega
      ·obtain rfl:k=n.aU.length:=by omega
       go_wp2_with fail;go_ret;exact⟨rfl,ag⟩
end
section
open An
namespace An
end An
end
section
open An
namespace An
end An
end
section
open An
namespace An
end An
theorem ur.Yj{w:nJ}{A:Option Addr}{c:Nat}{L:List ji}(h:ur w A c L)(h0:0<L.length):∃b o,A=some ⟨b,o,none⟩/\b<w.heap.size/\∀k,k<L.length->∃A' c',w.cell? ⟨b,o+k*3,none⟩=some (.int .i64 (nth L k).aP)/\w.cell? ⟨b,o+k*3+1,none⟩=some (.int .i64 (nth L k).cur)/\w.cell? ⟨b,o+k*3+2,none⟩=some (.slice A' (nth L k).ay.length c')/\Sl aI w.heap.size w A' c' (nth L k).ay:=by obtain⟨b,o,_,_,hA,hb,_⟩:=h.at_ h0;refine⟨b,o,hA,hb,fun k hk=>?_⟩;obtain⟨b',o',A',c',p5,_,d0,d1,d2,s⟩:=h.at_ hk;rw[hA] at p5;injection p5 with q;injection q with q1 q2;subst q1 q2;exact⟨A',c',d0,d1,d2,s⟩
theorem xG{n:Net}(hv:valid n=true):0<(bI n).length:=List.length_pos_of_mem (gR.2 (Hl hv))
namespace An
def xJ(n:Net):Int:=M9 (valid n) (pZ (decide (jT n (bW n) 0=0)) (decide (jT n (gV n) 0=0)))
theorem Mv{n:Net}(hv:valid n=true):zV (kj n) (bI n).length=xJ n:=by
 have ha:=Cf hv;have hz:=Jg hv;have hle:kj n<=(bI n).length:=List.length_filter_le _ _;have hpos:=xG hv;unfold xJ zV pZ M9;rw[hv,if_pos rfl];by_cases h1:jT n (bW n) 0=0
 ·have:¬kj n<(bI n).length:=fun h=>ha.1 h h1;rw[if_neg nQ,if_pos nQ,h1];rfl
 ·have h2:=ha.2 h1;by_cases h3:jT n (gV n) 0=0
  ·have:¬kj n=0:=fun h=>hz.1 h h3;rw[if_neg nQ,if_neg nQ,if_neg (by simpa using h1),if_pos (by simpa using h3)]
  ·have:=hz.2 h3;rw[if_pos nQ,if_neg (by simpa using h1),if_neg (by simpa using h3)]
end An
theorem Tz(r:eP)(n:Net)(B:Nat)(w:nJ)[hB:Le B w](h:cg B w r n):Calls nH 121 #[eK r n] w fun e w'=>e=.returned (.tuple #[.int .i64 (xJ n),.int .i64 (cC (valid n) 20)])/\∃δ,w'=af w δ:=by
 have H:=qh h;clear h;by_cases hv:valid n=true;all_goals try rw[Bool.not_eq_true] at hv
 all_goals have HV:=qh hv;have HF:=qh (show xJ n=M9 (valid n) (pZ (decide (jT n (bW n) 0=0)) (decide (jT n (gV n) 0=0))) from rfl);rw[hv] at HF ⊢
 ·have HS:=qh (Mv hv);clear hv;go_enter Tryz.func121,Tryz.ntmps121;go_wp2_with (first|(go_at_call 35;refine(jU r n B _ H.out.up).mono ?_;rw[HV.out];rintro e w1 ⟨rfl,δ,rfl⟩)|(go_at_call 187;refine(Dt r n B _ H.out.up HV.out).mono ?_;rintro e w1 ⟨rfl,δ',rfl⟩)|(go_at_call 188;refine(Uc _ _ _).mono ?_;rintro e w1 ⟨rfl,rfl⟩));go_ret2;exact⟨PM (int_eq (by rw[HS.out])) rfl,ag⟩
 ·clear hv;go_enter Tryz.func121,Tryz.ntmps121;go_wp2_with (go_at_call 35;refine(jU r n B _ H.out.up).mono ?_;rw[HV.out];rintro e w1 ⟨rfl,δ,rfl⟩);go_ret2;exact⟨PM (int_eq (by rw[HF.out];rfl)) rfl,ag⟩
end
end Go.Proofs.YtdmedlkonaclnaaGreatDoor
