/- A part of the proof that the statement HeadmanRunCardSaid holds, cut small by a program (names and blanks): Ha4, Ha5, Ha6. -/
import Derived.Outline
import Derived.Test.YtcjjlikhlmfedaaGreatDoorZ4
set_option maxRecDepth 100000
set_option maxHeartbeats 40000000
set_option linter.unusedVariables false
set_option linter.unusedSimpArgs false
namespace Go.Proofs.YtcjjlikhlmfedaaGreatDoor
open Go.RowKit
open Nat renaming lt_of_lt_of_le → nL, le_refl → nR, zero_le → nE, le_of_lt → nS, le_of_ble_eq_true → nG
open Go.Proofs.Tryz renaming prog → nH
open Go renaming World → nJ, Value → nK
section
open An
theorem Vf:nw nH 24 23 (.agg #[.int .i64 0,.int .i64 0]) 2 16:=nw.mk Tryz.underlying24 nP rfl nQ
theorem Vi:nw nH 25 94 (.agg #[.int .i64 0,.int .i64 0]) 2 16:=nw.mk Tryz.underlying25 nP rfl nQ
theorem Ve:nw nH 26 99 (.agg #[.int .i64 0,.int .i64 0,.int .i64 0,.int .i64 0,.int .i64 0]) 5 40:=nw.mk Tryz.underlying26 nP rfl nQ
theorem MV:∀x,∀u∈fX x,u.oneCell'=true:=by intro x u hu;simp[fX] at hu;rcases hu with rfl|rfl<;>rfl
theorem I2:∀x,∀u∈cG x,u.oneCell'=true:=by intro x u hu;simp[cG] at hu;rcases hu with rfl|rfl<;>rfl
theorem I0:∀x,∀u∈eY x,u.oneCell'=true:=by intro x u hu;simp[eY] at hu;rcases hu with rfl|rfl|rfl|rfl|rfl<;>rfl
def dH(base:Nat)(w:nJ)(r:eD)(n:Net):Prop:=
 w.ownsRow base 23 2 (.slice r.gA n.au.length r.gc) n.au.length (n.au.flatMap fX) /\
 w.ownsRow base 94 2 (.slice r.aA n.ay.length r.ac) n.ay.length (n.ay.flatMap cG) /\
 w.ownsRow base 99 5 (.slice r.wA n.aQ.length r.wc) n.aQ.length (n.aQ.flatMap eY)
section
variable{base:Nat}{w:nJ}{r:eD}{n:Net}
theorem dH.is(h:dH base w r n):cj w.heap.size w r n:=⟨Sl.bW h.1,Sl.bW h.2.1,Sl.bW h.2.2⟩
theorem dH.mono(h:dH base w r n){base':Nat}(hb:base'<=base):dH base' w r n:=⟨dO h.1 hb,dO h.2.1 hb,dO h.2.2 hb⟩
theorem dH.set(h:dH base w r n){b i:Nat}(hb:b<base)(u:nK):dH base (w.setCell ⟨b,i,none⟩ u) r n:=
 ⟨ownsRow_setCell_below h.1 (a:=⟨b,i,none⟩) hb u,ownsRow_setCell_below h.2.1 (a:=⟨b,i,none⟩) hb u,ownsRow_setCell_below h.2.2 (a:=⟨b,i,none⟩) hb u⟩
theorem P9{W:nJ}[aC w.heap.size w W][Le w.heap.size W](h:dH base W r n):∃(r':eD) (δ:nJ),Ending.returned (ew r n)=.returned (ew r' n)/\W=af w δ/\dH base (af w δ) r' n:=⟨r,W,rfl,aq,by rw[<-aq (w:=w) (W:=W)];exact h⟩
theorem dH.alloc(h:dH base w r n)(o:Obj):dH base (w.alloc o) r n:=⟨h.1.alloc o,h.2.1.alloc o,h.2.2.alloc o⟩
theorem dH.up(h:dH base w r n){W:nJ}[hg:aC w.heap.size w W]:dH base W r n:=⟨aT h.1,aT h.2.1,aT h.2.2⟩
end
theorem Hw(r:eD)(n:Net)(B:Nat)(w:nJ)[hB:Le B w](h:cj B w r n)(q1:n.au.length<=1000)(q2:n.ay.length<=1000)(q3:n.aQ.length<=1000):Calls nH 16 #[ew r n] w fun e w'=>∃(r':eD) (δ:nJ),e=.returned (ew r' n)/\w'=af w δ/\dH w.heap.size (af w δ) r' n:=by
 go_enter Tryz.func16,Tryz.ntmps16;have H:=qh h;clear h;go_upto_region 2 with fail;refine aK fun W1 aE=>?_;refine QAG ?_;intro cz de cN cY dc dX jP jU kM iY lC lu uu vn vm yz Hu Ht Hs Ej Ln;have fw22:W1.frozen? ⟨w.heap.size+1,0,none⟩=false:=by rw[aE.out];go_simp
 have fw23:W1.frozen? ⟨w.heap.size+1,1,none⟩=false:=by rw[aE.out];go_simp
 have fw24:W1.frozen? ⟨w.heap.size+1,2,none⟩=false:=by rw[aE.out];go_simp
 have fw25:W1.frozen? ⟨w.heap.size+1,3,none⟩=false:=by rw[aE.out];go_simp
 have fw26:W1.frozen? ⟨w.heap.size+1,4,none⟩=false:=by rw[aE.out];go_simp
 have fw27:W1.frozen? ⟨w.heap.size+1,5,none⟩=false:=by rw[aE.out];go_simp
 have fw28:W1.frozen? ⟨w.heap.size+1,6,none⟩=false:=by rw[aE.out];go_simp
 have Zj:W1.cell? ⟨w.heap.size+1+1,0,none⟩=some (.int .i64 n.aN.lo):=by rw[aE.out];go_simp
 have ad5:W1.cell? ⟨w.heap.size+1+1,1,none⟩=some (.int .i64 n.aN.hi):=by rw[aE.out];go_simp
 have ad4:W1.cell? ⟨w.heap.size+1+1,2,none⟩=some (.int .i64 n.cur.lo):=by rw[aE.out];go_simp
 have ad3:W1.cell? ⟨w.heap.size+1+1,3,none⟩=some (.int .i64 n.cur.hi):=by rw[aE.out];go_simp
 have ad2:W1.cell? ⟨w.heap.size+1+1,4,none⟩=some (.slice r.gA n.au.length r.gc):=by rw[aE.out];go_simp
 have ad1:W1.cell? ⟨w.heap.size+1+1,5,none⟩=some (.slice r.aA n.ay.length r.ac):=by rw[aE.out];go_simp
 have OE:W1.cell? ⟨w.heap.size+1+1,6,none⟩=some (.slice r.wA n.aQ.length r.wc):=by rw[aE.out];go_simp
 have fw36:W1.frozen? ⟨w.heap.size+1+1,0,none⟩=false:=by rw[aE.out];go_simp
 have fw37:W1.frozen? ⟨w.heap.size+1+1,1,none⟩=false:=by rw[aE.out];go_simp
 have fw38:W1.frozen? ⟨w.heap.size+1+1,2,none⟩=false:=by rw[aE.out];go_simp
 have fw39:W1.frozen? ⟨w.heap.size+1+1,3,none⟩=false:=by rw[aE.out];go_simp
 have fw40:W1.frozen? ⟨w.heap.size+1+1,4,none⟩=false:=by rw[aE.out];go_simp
 have fw41:W1.frozen? ⟨w.heap.size+1+1,5,none⟩=false:=by rw[aE.out];go_simp
 have fw42:W1.frozen? ⟨w.heap.size+1+1,6,none⟩=false:=by rw[aE.out];go_simp
 go_wp2_with (first|(at_builtin;(refine bR W1 Vf (.tmp 5) (.tmp 7) rfl rfl (v:=.slice (some ⟨_,0,none⟩) 0 0) (cx nW nW) rfl (B:=B) (A:=r.gA) (m:=n.au.length) (c:=r.gc) (news:=n.au.flatMap fX) rfl (H.out.up.1.2.2) (cg fX 2 (fun _=>rfl) _) (dS fX MV _) nQ nQ ?_);intro A1 c1 δ1 ei hg1)|(at_builtin;(refine bR W1 Vi (.tmp 10) (.tmp 12) rfl rfl (v:=.slice (some ⟨_,0,none⟩) 0 0) (cx nW nW) rfl (B:=B) (A:=r.aA) (m:=n.ay.length) (c:=r.ac) (news:=n.ay.flatMap cG) rfl (H.out.up.2.1.2.2) (cg cG 2 (fun _=>rfl) _) (dS cG I2 _) nQ nQ ?_);intro A2 c2 δ2 gM kC;have p1:=iS (ownsRow_setCell_below ei (a:=⟨_,_,_⟩) jP.out _) nW kC)|(at_builtin;(refine bR W1 Ve (.tmp 15) (.tmp 17) rfl rfl (v:=.slice (some ⟨_,0,none⟩) 0 0) (cx nW nW) rfl (B:=B) (A:=r.wA) (m:=n.aQ.length) (c:=r.wc) (news:=n.aQ.flatMap eY) rfl (H.out.up.2.2.2.2) (cg eY 5 (fun _=>rfl) _) (dS eY I0 _) nQ nQ ?_);intro A3 c3 δ3 jB qj;have p2:=iS (ownsRow_setCell_below gM (a:=⟨_,_,_⟩) jP.out _) nW qj;have p1':=iS (ownsRow_setCell_below p1 (a:=⟨_,_,_⟩) jP.out _) nW qj));refine bodyPost_ret (v:=ew ⟨A1,c1,A2,c2,A3,c3⟩ n) ?_ rfl ?_
 ·simp only[results,Tryz.results16];go_simp
 ·refine⟨⟨A1,c1,A2,c2,A3,c3⟩,_,rfl,aq,?_⟩;refine QDK ?_;refine dH.mono (base:=W1.heap.size) ?_ cN.out;iterate 7 (refine dH.set ?_ dX.out _)
  refine dH.set ?_ jP.out _;exact⟨p1',p2,jB⟩
theorem DM(r:eD)(n:Net)(v:Int)(B:Nat)(w:nJ)[hB:Le B w](h:cj B w r n)(q1:n.au.length<=1000)(q2:n.ay.length<=1000)(q3:n.aQ.length<=1000):Calls nH 234 #[ew r n,.int .i64 v] w fun e w'=>∃(r':eD) (δ:nJ),e=.returned (ew r' (uc n v))/\w'=af w δ/\dH w.heap.size (af w δ) r' (uc n v):=by
 go_enter Tryz.func234,Tryz.ntmps234;have H:=qh h;clear h;go_wp2_with (go_at_call 16;refine(Hw r n B _ H.out.up q1 q2 q3).mono ?_;rintro e w1 ⟨r',δ,rfl,rfl,h''⟩;obtain⟨bs,Ar,h'⟩:∃bs,Hid (bs=_)/\dH bs _ r' n:=⟨_,rfl,h''⟩;clear h'');have b1:w.heap.size+1<bs:=by rw[Ar.out];go_simp
 refine bodyPost_ret (v:=ew r' (uc n v)) ?_ rfl ?_
 ·simp only[results,Tryz.results234];go_simp;simp[uc]
 ·refine P9 ?_;refine dH.mono (base:=bs) ?_ (nS (Nat.lt_of_succ_lt b1));refine dH.alloc ?_ _;iterate 7 (refine dH.set ?_ b1 _)
  exact h'
end
section
open An
theorem L9(r:eD)(n:Net)(B:Nat)(w:nJ)[hB:Le B w](h:cj B w r n)(h3:n.au.length<=3):Calls nH 173 #[ew r n] w fun e w'=>∃(rt:nu) (δ:nJ),e=.returned (vR r n rt (bT n))/\w'=af w δ/\(af w δ).ownsRow w.heap.size 3 1 (.slice rt.tA (bT n).au.length rt.tc) (bT n).au.length ((bT n).au.flatMap aH):=by
 go_enter Tryz.func173,Tryz.ntmps173;go_wp2_with fail;refine aK fun W1 aE=>?_;refine QAG ?_;intro cz de cN cY dc dX jP jU kM iY lC lu uu vn vm yz Hu Ht Hs Ej Ln;refine QAQ ?_;intro OG Lm OF fw25 fw26 fw27 fw28 fw29 fw30 fw31 fw32 fw33 fw34;refine QFA ?_;intro OE Rt;refine QCG ?_;intro Rs fw38 s1 hlen;go_loopw [16] (fun i wr=>∃(k:Nat) (A:Option Addr) (c:Nat),k<=n.au.length/\i=.int .i64 k/\wr.ownsRow W1.heap.size 3 1 (.slice A k c) k (((n.au.map (·.lo)).take k).flatMap aH)/\∃δ,wr=(af W1 δ).setCell ⟨w.heap.size+1+1,2,none⟩ (.slice A k c)) (fun i _=>n.au.length-(intOf i).toNat)
 case atStart=>refine⟨0,none,0,nE _,rfl,by simpa using World.ownsRow_nil _ _ _ _,W1,?_⟩;rw[aY,eS nZ]
 case round=>
  obtain⟨k,A,c,hk,rfl,hown,δ,rfl⟩:=hrel;by_cases hlt:k<n.au.length
  ·obtain⟨b,o,hA,hb,d0,d1⟩:=s1.sp hlt;refine QES ?_;intro ib in1 HA HO;clear hA hown;rw[HA.out];go_wp2_with (at_builtin;(refine dA W1 uC (.tmp 21) (.tmp 24) rfl rfl (HO.out.alloc _) rfl rfl nW rfl (by simp[Value.oneCell']) nQ nQ ?_);intro A' c' δ' hown');go_roundw
   case rel=>refine⟨k+1,A',c',nQ,by go_num,?_,wU (w0:=W1) δ (.slice A k c) (.slice A' (k+1) c') nZ sQ⟩;have:=ownsRow_setCell_below hown' (a:=⟨w.heap.size+1+1,2,none⟩) jP.out (.slice A' (k+1) c');rw[p4 aH (n.au.map (·.lo)) (by simpa using hlt),iq _ _ hlt];exact this
   case measure=>simp[intOf];omega
  ·obtain rfl:k=n.au.length:=by omega
   have HO:=qh hown;clear hown;have in2:pI (w.heap.size+1) (w.heap.size+1+1):=⟨nQ⟩;go_wp2_with fail;refine bodyPost_ret (v:=vR r n ⟨A,c⟩ (bT n)) ?_ rfl ?_
   ·simp only[results,Tryz.results173];go_simp;simp[bT]
   ·refine⟨⟨A,c⟩,_,rfl,aq,?_⟩;refine QDK ?_;have H1:=HO.out;rw[List.take_of_length_le nV] at H1;refine dO (base:=W1.heap.size) ?_ cN.out;rw[show(bT n).au.length=n.au.length by simp[bT]];show(_:nJ).ownsRow W1.heap.size 3 1 _ _ ((n.au.map (·.lo)).flatMap aH);iterate 10 (refine ownsRow_setCell_below (a:=⟨_,_,_⟩) ?_ dX.out _)
    exact H1
theorem yB(A:Option Addr)(c:Nat)(xs:List ze)(ln:Nat)(hn:xs.length=ln)(B:Nat)(w:nJ)[hB:Le B w](h:Sl cG B w A c xs)(q:ln<=1000):Calls nH 77 #[.slice A ln c] w fun e w'=>∃(A':Option Addr) (c':Nat) (δ:nJ),e=.returned (.slice A' ln c')/\w'=af w δ/\(af w δ).ownsRow w.heap.size 94 2 (.slice A' ln c') ln (xs.flatMap cG):=by
 subst hn;have H:=qh h;clear h;have Tg:∀(w:nJ) (a:Option Addr) (n c n' c':Nat),(binOp .eql 25 (.slice a n c) (.slice none n' c')).run nH w=.ok (.bool a.isNone) w:=fun w a n c n' c'=>Lib.run_eql_slice_nil w _ _ a n c n' c' Tryz.underlying25;cases A with
 |none=>
  have hx:xs=[]:=by
   have h2:=H.out.2.2;by_cases hx:xs=[]
   ·exact hx
   ·obtain⟨_,_,he,_⟩:=h2 (by
     obtain⟨y,ys,rfl⟩:=List.exists_cons_of_ne_nil hx
     simp[cG])
    cases he
  subst hx
  go_enter Tryz.func77,Tryz.ntmps77
  go_wp2_with fail
  go_ret
  exact⟨none,0,_,rfl,aq,World.ownsRow_nil _ _ _ _⟩
 |some ad=>
  go_enter Tryz.func77,Tryz.ntmps77
  go_wp2_with (at_builtin;(refine bR w Vi (.tmp 5) (.tmp 6) rfl rfl (v:=.slice (some ⟨_,0,none⟩) 0 0) (cx nW nW) rfl (B:=B) (A:=some ad) (m:=xs.length) (c:=c) (news:=xs.flatMap cG) rfl (H.out.up.2.2) (cg cG 2 (fun _=>rfl) _) (dS cG I2 _) nQ nQ ?_);intro A1 c1 δ1 ei hg1)
  go_ret
  refine⟨A1,c1,_,rfl,aq,?_⟩
  refine QDK ?_
  exact ei
end
namespace An
def ql(a:ze)(k:Int):ze:=⟨a.wt+k,a.bt⟩
def CL(n:Net)(al:List ze):Net:=⟨n.aN,n.cur,n.au,al,n.aQ⟩
def jW(n:Net)(i k:Nat):Int:=2*((nth n.ay i).wt+k)*nth (bT n).au (nth n.ay i).bt.toNat-bears n (bT n) i (fun _=>false)
def jk(n:Net)(i:Nat):Nat:=(21-(nth n.ay i).wt).toNat
def ez(n:Net)(i:Nat):Nat:=bM (fun k=>decide (0<=jW n i k)) (jk n i) 0
def jD(n:Net):Bool:=(List.range n.ay.length).all fun i=>decide (ez n i<jk n i)
def jO(n:Net):List Int:=if valid n&&jD n then (List.range n.ay.length).map fun i=>(ez n i:Int) else[]
def kZ(n:Net):Int:=if valid n then (if jD n then 0 else 3) else 20
def zv(n:Net)(i k j:Nat):Nat:=if j<i then ez n j else if j=i then k else 0
def fB(n:Net)(i k:Nat):List ze:=(List.range n.ay.length).map fun j=>ql (nth n.ay j) (zv n i k j)
def n9(n:Net)(i k:Nat):List Int:=(List.range n.ay.length).map fun j=>(zv n i k j:Int)
theorem eC(n:Net)(i k:Nat):(fB n i k).length=n.ay.length:=by simp[fB]
theorem fH(n:Net)(i k:Nat):(n9 n i k).length=n.ay.length:=by simp[n9]
theorem oC{α:Type}[Inhabited α](f:Nat->α){m j:Nat}(h:j<m):nth ((List.range m).map f) j=f j:=by rw[bV _ (by simpa using h)];simp
theorem jH(n:Net)(i k:Nat){j:Nat}(h:j<n.ay.length):nth (fB n i k) j=ql (nth n.ay j) (zv n i k j):=oC _ h
theorem oW(n:Net)(i k:Nat){j:Nat}(h:j<n.ay.length):nth (n9 n i k) j=(zv n i k j:Int):=oC _ h
theorem j5{α:Type}[Inhabited α]{xs ys:List α}(hl:xs.length=ys.length)(h:∀j,j<xs.length->nth xs j=nth ys j):xs=ys:=by apply List.ext_getElem hl;intro j h1 h2;have:=h j h1;rwa [bV _ h1,bV _ h2] at this
theorem tP{α:Type}[Inhabited α](xs:List α)(i:Nat)(y:α){j:Nat}(h:j<xs.length):nth (xs.set i y) j=if i=j then y else nth xs j:=by rw[bV _ (by simpa using h),bV _ h,List.getElem_set]
theorem pz(n:Net)(i k:Nat):zv n i k i=k:=by simp[zv]
theorem B9(n:Net):fB n 0 0=n.ay:=by
 refine j5 (eC _ _ _) fun j hj=>?_;rw[eC] at hj;rw[jH _ _ _ hj];have:zv n 0 0 j=0:=by simp[zv]
 rw[this];simp[ql]
theorem Dd(n:Net):n9 n 0 0=List.replicate n.ay.length 0:=by refine j5 (by rw[fH];simp) fun j hj=>?_;rw[fH] at hj;rw[oW _ _ _ hj,bV _ (by simpa using hj)];simp[zv]
theorem EE(n:Net)(i j:Nat):zv n (i+1) 0 j=zv n i (ez n i) j:=by
 unfold zv;by_cases h1:j<i
 ·simp[h1,show j<i+1 by omega]
 ·by_cases h2:j=i
  ·subst h2;simp
  ·simp[h1,h2,show ¬j<i+1 by omega]
theorem ED(n:Net)(i:Nat):fB n (i+1) 0=fB n i (ez n i):=by unfold fB;congr 1;funext j;rw[EE]
theorem Gi(n:Net)(i:Nat):n9 n (i+1) 0=n9 n i (ez n i):=by unfold n9;congr 1;funext j;rw[EE]
theorem Ir(n:Net){i:Nat}(k:Nat)(_hi:i<n.ay.length):(fB n i k).set i (ql (nth n.ay i) ((k+1:Nat):Int))=fB n i (k+1):=by
 refine j5 (by rw[List.length_set,eC,eC]) fun j hj=>?_;rw[List.length_set,eC] at hj;rw[tP _ _ _ (by rw[eC];exact hj),jH _ _ _ hj,jH _ _ _ hj];by_cases h:i=j
 ·subst h;rw[if_pos rfl,pz]
 ·rw[if_neg h];have:zv n i k j=zv n i (k+1) j:=by unfold zv;rw[if_neg (show ¬j=i from fun e=>h e.symm),if_neg (show ¬j=i from fun e=>h e.symm)]
  rw[this]
theorem J3(n:Net){i:Nat}(k:Nat)(_hi:i<n.ay.length):(n9 n i k).set i ((k+1:Nat):Int)=n9 n i (k+1):=by
 refine j5 (by rw[List.length_set,fH,fH]) fun j hj=>?_;rw[List.length_set,fH] at hj;rw[tP _ _ _ (by rw[fH];exact hj),oW _ _ _ hj,oW _ _ _ hj];by_cases h:i=j
 ·subst h;rw[if_pos rfl,pz]
 ·rw[if_neg h];have:zv n i k j=zv n i (k+1) j:=by unfold zv;rw[if_neg (show ¬j=i from fun e=>h e.symm),if_neg (show ¬j=i from fun e=>h e.symm)]
  rw[this]
theorem Ip(n:Net)(al:List ze)(t:iD)(i:Nat)(d:Nat->Bool):bears (CL n al) t i d=bears n t i d:=rfl
theorem Mg{n:Net}{i:Nat}(k:Nat)(hi:i<n.ay.length):spare (CL n (fB n i k)) (bT n) i (fun _=>false)=jW n i k:=by unfold spare jW can;rw[Ip];show 2*(nth (fB n i k) i).wt*nth (bT n).au (nth (fB n i k) i).bt.toNat-_=_;rw[jH _ _ _ hi,pz];rfl
theorem Ma{n:Net}(hv:valid n=true){i k:Nat}(hk:k<jk n i)(h:∀j,j<i->j<n.ay.length->ez n j<jk n j):valid (CL n (fB n i k))=true:=by
 have h0:=hv;rw[az] at hv ⊢;obtain⟨h1,h2,h3,h4,h5,h6,h7,h8⟩:=hv;refine⟨h1,h2,h3,by show(fB n i k).length<=6;rw[eC];exact h4,by show n.aQ.length=(fB n i k).length-1;rw[eC];exact h5,h6,?_,h8⟩;show jC n.au.length (fB n i k)=true;unfold jC;rw[List.all_eq_true];intro x hx;obtain⟨j,hj,rfl⟩:=List.getElem_of_mem hx;have hj':j<n.ay.length:=by rwa [eC] at hj
 rw[<-bV _ hj,jH _ _ _ hj'];have ha:=kH h0 hj';simp only[kY,decide_eq_true_eq] at ha;have hlt:zv n i k j<jk n j:=by
  unfold zv;by_cases hji:j<i
  ·rw[if_pos hji];exact h j hji hj'
  ·rw[if_neg hji];by_cases he:j=i
   ·subst he;rw[if_pos rfl];exact hk
   ·rw[if_neg he];unfold jk;omega
 have hT:(jk n j:Int)=21-(nth n.ay j).wt:=by unfold jk;rw[Int.toNat_of_nonneg nQ]
 refine decide_eq_true ?_;simp only[ql];omega
theorem MY{n:Net}(hv:valid n=true){i k:Nat}(hk:k<jk n i)(h:∀j,j<i->j<n.ay.length->ez n j<jk n j):jn (CL n (fB n i k)) (bT n):=by have:=qH hv;exact⟨Ma hv hk h,this.2.1,this.2.2.1,this.2.2.2.1,this.2.2.2.2⟩
end An
section
open An
abbrev S4(n:Net)(gA:Option Addr)(gc:Nat)(aA:Option Addr)(ac:Nat)(wA:Option Addr)(wc:Nat)(rt:nu):Array nK:=#[.int .i64 n.aN.lo,.int .i64 n.aN.hi,.int .i64 n.cur.lo,.int .i64 n.cur.hi,.slice gA n.au.length gc,.slice aA n.ay.length ac,.slice wA n.aQ.length wc,.int .i64 (bT n).aN,.int .i64 (bT n).cur,.slice rt.tA (bT n).au.length rt.tc]
structure jt(n:Net)(w:nJ)(r:eD)(rt:nu)(g2 b2 br b3:Nat)(A1:Option Addr)(c1 i k k':Nat)(wr:nJ):Prop where
 fK:aC w.heap.size w wr
 le:Le w.heap.size wr
 bx:av wr br 226 (S4 n r.gA r.gc A1 c1 r.wA r.wc rt)
 o2:wr.ownsRow g2 3 1 (.slice (some ⟨g2,0,none⟩) n.ay.length n.ay.length) n.ay.length ((n9 n i k').flatMap aH)
 ot:wr.ownsRow b2 3 1 (.slice rt.tA (bT n).au.length rt.tc) (bT n).au.length ((bT n).au.flatMap aH)
 o1:wr.ownsRow b3 94 2 (.slice A1 n.ay.length c1) n.ay.length ((fB n i k).flatMap cG)
 h2:w.heap.size<=g2
 h3:g2<b2
 h4:b2<=br
 h5:br<b3
 ht:∀g,(Value.slice rt.tA (bT n).au.length rt.tc).ownBlock=some g->b2<=g/\g<br
section
variable{n:Net}{w:nJ}{r:eD}{rt:nu}{g2 b2 br b3:Nat}{A1:Option Addr}{c1 i k k':Nat}{wr:nJ}
theorem jt.af(h:jt n w r rt g2 b2 br b3 A1 c1 i k k' wr)(δ:nJ):jt n w r rt g2 b2 br b3 A1 c1 i k k' (af wr δ):=by have:=h.fK;have:=h.le;exact⟨inferInstance,inferInstance,h.bx.af δ,jX δ h.o2,jX δ h.ot,jX δ h.o1,h.h2,h.h3,h.h4,h.h5,h.ht⟩
theorem jt.at1(h:jt n w r rt g2 b2 br b3 A1 c1 i k k' wr)(hi:i<n.ay.length):∃g,A1=some ⟨g,0,none⟩/\b3<=g/\Lt g wr/\wr.cell? ⟨g,i*2,none⟩=some (.int .i64 ((nth n.ay i).wt+k))/\wr.frozen? ⟨g,i*2,none⟩=false:=by obtain⟨g,hA,hb,hl,hc,hf⟩:=pQ h.o1 nQ;refine⟨g,hA,hb,hl,hc _ _ ?_,hf _⟩;have:=fL cG 2 (fun _=>rfl) (fB n i k) i 0 (by rw[eC];exact hi) nQ;rw[Nat.add_zero] at this;rw[this,jH _ _ _ hi,pz];rfl
theorem jt.at2(h:jt n w r rt g2 b2 br b3 A1 c1 i k k' wr)(hi:i<n.ay.length):Lt g2 wr/\wr.cell? ⟨g2,i,none⟩=some (.int .i64 k')/\wr.frozen? ⟨g2,i,none⟩=false:=by obtain⟨g,hA,hb,hl,hc,hf⟩:=pQ h.o2 nQ;injection hA with hA;injection hA with hA;subst hA;refine⟨hl,hc _ _ ?_,hf _⟩;have:=fL aH 1 (fun _=>rfl) (n9 n i k') i 0 (by rw[fH];exact hi) nQ;rw[Nat.add_zero,Nat.mul_one] at this;rw[this,oW _ _ _ hi,pz];rfl
theorem jt.Yd{g:Nat}(h:jt n w r rt g2 b2 br b3 (some ⟨g,0,none⟩) c1 i k k' wr)(hi:i<n.ay.length)(hg:b3<=g):jt n w r rt g2 b2 br b3 (some ⟨g,0,none⟩) c1 i (k+1) k' (wr.setCell ⟨g,i*2,none⟩ (.int .i64 ((nth n.ay i).wt+k+1))):=by
 have i1:=h.fK;have i2:=h.le;have i3:mw w.heap.size g:=⟨by have:=h.h2;have:=h.h3;have:=h.h4;have:=h.h5;omega⟩;refine⟨inferInstance,inferInstance,h.bx.eZ (p:=⟨g,i*2,none⟩) (by have:=h.h5;show br≠g;omega) _,cT h.o2 (by have:=h.h3;have:=h.h4;have:=h.h5;intro e;injection e with e;simp at e;omega),cT h.ot ?_,?_,h.h2,h.h3,h.h4,h.h5,h.ht⟩
 ·intro e;have h1:g<br:=(h.ht _ e).2;have:=h.h5;omega
 ·have:=nN (u:=.int .i64 ((nth n.ay i).wt+k+1)) (i:=i*2) h.o1 (by rw[cg cG 2 (fun _=>rfl),eC];omega);have e:=iI cG 2 (fun _=>rfl) (fB n i k) i 0 (.int .i64 ((nth n.ay i).wt+k+1)) (ql (nth n.ay i) ((k+1:Nat):Int)) (by rw[eC];exact hi) nQ (by
   rw[jH _ _ _ hi,pz]
   simp[cG,ql,Int.add_assoc])
  rw[Nat.add_zero] at e;rw[e,Ir _ _ hi] at this;exact this
theorem jt.Yc(h:jt n w r rt g2 b2 br b3 A1 c1 i k k' wr)(hi:i<n.ay.length):jt n w r rt g2 b2 br b3 A1 c1 i k (k'+1) (wr.setCell ⟨g2,i,none⟩ (.int .i64 (k'+1))):=by
 have i1:=h.fK;have i2:=h.le;have i3:mw w.heap.size g2:=⟨h.h2⟩;refine⟨inferInstance,inferInstance,h.bx.eZ (p:=⟨g2,i,none⟩) (by have:=h.h3;have:=h.h4;show br≠g2;omega) _,?_,cT h.ot ?_,cT h.o1 ?_,h.h2,h.h3,h.h4,h.h5,h.ht⟩
 ·have:=nN (u:=.int .i64 ((k':Int)+1)) (i:=i) h.o2 (by rw[cg aH 1 (fun _=>rfl),fH];omega);have e:=iI aH 1 (fun _=>rfl) (n9 n i k') i 0 (.int .i64 ((k':Int)+1)) ((k'+1:Nat):Int) (by rw[fH];exact hi) nQ (by simp[aH]);rw[Nat.add_zero,Nat.mul_one] at e;rw[e,J3 _ _ hi] at this;exact this
 ·intro e;have h1:b2<=g2:=(h.ht _ e).1;have:=h.h3;omega
 ·intro e;have h1:b3<=g2:=(uR h.o1 _ e).1;have:=h.h3;have:=h.h4;have:=h.h5;omega
theorem jt.next(h:jt n w r rt g2 b2 br b3 A1 c1 i (ez n i) (ez n i) wr):jt n w r rt g2 b2 br b3 A1 c1 (i+1) 0 0 wr:=
 ⟨h.fK,h.le,h.bx,by rw[Gi];exact h.o2,h.ot,by rw[ED];exact h.o1,h.h2,h.h3,h.h4,h.h5,h.ht⟩
theorem jt.spare(h:jt n w r rt g2 b2 br b3 A1 c1 i k k' wr){B:Nat}(hB:Le B w)(H:cj B w r n)(hv:valid n=true)(hi:i<n.ay.length)(hk:k<jk n i)(hj:∀j,j<i->j<n.ay.length->ez n j<jk n j):Calls nH 186 #[.agg (S4 n r.gA r.gc A1 c1 r.wA r.wc rt),.int .i64 i,.int .u64 0] wr fun e w'=>e=.returned (.int .i64 (jW n i k))/\∃δ,w'=Go.Proofs.YtcjjlikhlmfedaaGreatDoor.af wr δ:=by have i1:=h.fK;have i2:=h.le;have el:(CL n (fB n i k)).ay.length=n.ay.length:=eC _ _ _;have H':cj w.heap.size w r n:=H.more hB.out;have a1:Sl fX wr.heap.size wr r.gA r.gc n.au:=(H'.1.up (w':=wr)).more i2.out;have a3:Sl eY wr.heap.size wr r.wA r.wc n.aQ:=(H'.2.2.up (w':=wr)).more i2.out;have a2:Sl cG wr.heap.size wr A1 c1 (fB n i k):=Sl.bW (by rw[eC];exact h.o1);have a4:qp wr.heap.size wr rt (bT n):=Sl.bW h.ot;have:=Mh ⟨r.gA,r.gc,A1,c1,r.wA,r.wc⟩ (CL n (fB n i k)) rt (bT n) i wr.heap.size wr ⟨a1,a2,a3⟩ a4 (MY hv hk hj) (by rw[el];exact hi);rw[Mg _ hi] at this;simp only[vR,el] at this;exact this
end
theorem Ov(n:Nat)(x:Int):(List.replicate n x).flatMap aH=List.replicate n (Value.int .i64 x):=by
 induction n with
 |zero=>rfl
 |succ n ih=>rw[List.replicate_succ,List.replicate_succ,List.flatMap_cons,ih];rfl
theorem Tp(r:eD)(n:Net)(B:Nat)(w:nJ)[hB:Le B w](h:cj B w r n):Calls nH 124 #[ew r n] w fun e w'=>∃(A:Option Addr) (c:Nat) (δ:nJ),e=.returned (.tuple #[.slice A (jO n).length c,.int .i64 (kZ n)])/\w'=af w δ/\Sl aH (af w δ).heap.size (af w δ) A c (jO n):=by
 by_cases hv:valid n=true;all_goals try rw[Bool.not_eq_true] at hv
 case neg=>have HF:=qh (show jO n=[] by simp[jO,hv]);have HE:=qh (show kZ n=20 by simp[kZ,hv]);have HV:=qh hv;clear hv;go_enter Tryz.func124,Tryz.ntmps124;go_wp2_with (go_at_call 19;refine(yC r n B _ h.up HV.out).mono ?_;rintro e w1 ⟨rfl,δ,rfl⟩);go_ret2;rw[HF.out,HE.out];exact⟨none,0,_,rfl,aq,Sl.none_⟩
 case pos=>
  have h3:=(az.1 hv).2.2.1;have h6:=(az.1 hv).2.2.2.1;have HV:=qh hv;have H:=qh h;have hmk:=run_mk uC n.ay.length nQ nQ;clear hv h;go_enter Tryz.func124,Tryz.ntmps124;go_upto_region 4 with(go_at_call 19;refine(uv r n B _ H.out.up HV.out).mono ?_;rintro e w1 ⟨rfl,δ,rfl⟩);refine QAL ?_;intro W1 aE cz de cN cY dc rX lH jU kM iY lC lu;go_upto_region 5 with fail;refine aK fun W2 eu=>?_;obtain⟨tZ,tY,DH,GI,KM⟩:=yj B w eu;have KL:Lt (W1.heap.size) W2:=mb eu;have KK:Le w.heap.size W2:=fR eu;have KJ:aC w.heap.size W1 W2:=iC eu;have KI:Le W1.heap.size W2:=fR eu;have TB:aC W1.heap.size W1 W2:=iC eu;have Lm:W2.cell? ⟨w.heap.size,0,none⟩=some (.int .i64 n.aN.lo):=by rw[eu.out];go_simp
  have OF:W2.cell? ⟨w.heap.size,1,none⟩=some (.int .i64 n.aN.hi):=by rw[eu.out];go_simp
  have ad9:W2.cell? ⟨w.heap.size,2,none⟩=some (.int .i64 n.cur.lo):=by rw[eu.out];go_simp
  have ad8:W2.cell? ⟨w.heap.size,3,none⟩=some (.int .i64 n.cur.hi):=by rw[eu.out];go_simp
  have ad7:W2.cell? ⟨w.heap.size,4,none⟩=some (.slice r.gA n.au.length r.gc):=by rw[eu.out];go_simp
  have ad6:W2.cell? ⟨w.heap.size,5,none⟩=some (.slice r.aA n.ay.length r.ac):=by rw[eu.out];go_simp
  have Zj:W2.cell? ⟨w.heap.size,6,none⟩=some (.slice r.wA n.aQ.length r.wc):=by rw[eu.out];go_simp
  have o2:W2.ownsRow W1.heap.size 3 1 (.slice (some ⟨W1.heap.size,0,none⟩) n.ay.length n.ay.length) n.ay.length ((n9 n 0 0).flatMap aH):=by rw[eu.out];have:=Dc (w:=W1) (base:=W1.heap.size) (g:=W1.heap.size) (n:=n.ay.length) (size:=1) (e:=3) (cs:=jo (.int .i64 0) 1 n.ay.length) (nR _) rfl nQ (rS _ _ _);rw[tR _ (.int .i64 0)] at this ⊢;rw[Dd];rw[show(List.replicate n.ay.length (0:Int)).flatMap aH=(Array.replicate n.ay.length (Value.int .i64 0)).toList by rw[Array.toList_replicate];exact Ov _ _];exact this
  have O2:=qh o2;clear o2;go_upto_region 6 with(go_at_call 173;go_loud (refine(L9 r n B _ H.out.up h3).mono ?_;rintro e w1 ⟨rt,δ,rfl,rfl,ei⟩;have O1:=qh ei;clear ei));refine aK fun W3 bN=>?_;obtain⟨Vt,Vs,Vr,Vq,Vp⟩:=yj B w bN;have Vo:Lt (W1.heap.size) W3:=mb bN;have Ym:Lt ((af W2 δ).heap.size) W3:=mb bN;have Yl:Le w.heap.size W3:=fR bN;have Yk:aC w.heap.size W2 W3:=iC bN;have Yj:Le W1.heap.size W3:=fR bN;have Yi:aC W1.heap.size W2 W3:=iC bN;have Yh:Le W2.heap.size W3:=fR bN;have Yg:aC W2.heap.size W2 W3:=iC bN;have bx3:av W3 (af W2 δ).heap.size 226 (S4 n r.gA r.gc r.aA r.ac r.wA r.wc rt):=by rw[bN.out];exact av.new rfl
  have ot3:W3.ownsRow W2.heap.size 3 1 (.slice rt.tA (bT n).au.length rt.tc) (bT n).au.length ((bT n).au.flatMap aH):=by rw[bN.out];exact O1.out.alloc _
  have hgt:=qh (uR O1.out);have ad0:W3.cell? ⟨w.heap.size,5,none⟩=some (.slice r.aA n.ay.length r.ac):=by rw[bN.out];go_simp
  have q5:=bx3.cell (i:=5) rfl;have f5:=bx3.free 5;clear O1;go_upto_region 7 with(go_at_call 77;refine(yB r.aA r.ac n.ay _ rfl B _ H.out.up.2.1 nQ).mono ?_;rintro e w1 ⟨A1,c1,δ1,rfl,rfl,ei⟩;have O1:=qh ei;clear ei);refine aK fun W4 gP=>?_;have hsz:W2.heap.size<=(af W2 δ).heap.size:=iH _ _;have VG:(af W2 δ).heap.size<W3.heap.size:=by rw[bN.out];simp
  have Yr:W1.heap.size<W2.heap.size:=by rw[eu.out];simp
  obtain⟨br,YJ⟩:∃b,(af W2 δ).heap.size=b:=⟨_,rfl⟩;rw[YJ] at gP hsz VG hgt bx3;rw[YJ];clear YJ;have I4:jt n w r rt W1.heap.size W2.heap.size br W3.heap.size A1 c1 0 0 0 W4:=by
   rw[gP.out];have hw1:w.heap.size<=W1.heap.size:=cN.out;have i1:mw w.heap.size br:=⟨nQ⟩;have o1':=O1.out;have o2':(af W3 δ1).ownsRow _ _ _ _ _ _:=aT O2.out;refine⟨inferInstance,inferInstance,(bx3.af δ1).set 5 _,cT o2' (by intro e;injection e with e;have e:W1.heap.size=br:=e;omega),cT (jX δ1 ot3) ?_,cT (by rw[B9];exact o1') ?_,hw1,Yr,hsz,VG,hgt.out⟩
   ·intro e;have h1:br<br:=(hgt.out _ e).2;omega
   ·intro e;have h1:W3.heap.size<=br:=(uR o1' _ e).1;omega
  have hc5:=I4.bx.cell (i:=5) rfl;go_wp2_with fail;obtain⟨g2,kC⟩:∃b,b=W1.heap.size:=⟨_,rfl⟩;obtain⟨b2,gi⟩:∃b,b=W2.heap.size:=⟨_,rfl⟩;obtain⟨b3,NW⟩:∃b,b=W3.heap.size:=⟨_,rfl⟩;rw[<-kC,<-gi,<-NW] at I4;rw[<-kC];clear kC gi NW;go_loopg [28] n.ay.length (fun g v wr=>∃i:Nat,i<=n.ay.length/\g=n.ay.length-i/\v=.int .i64 i/\jt n w r rt g2 b2 br b3 A1 c1 i 0 0 wr/\Hid (∀j,j<i->j<n.ay.length->ez n j<jk n j))
  case atStart=>exact⟨0,nE _,rfl,rfl,I4,fun j hj=>by omega⟩
  case round=>
   clear I4;obtain⟨i,hi,rfl,rfl,I,hj⟩:=hrel;by_cases hlt:i<n.ay.length
   ·have ha:=kH HV.out hlt;simp only[kY,decide_eq_true_eq] at ha;have VE:(jk n i:Int)=21-(nth n.ay i).wt:=by unfold jk;rw[Int.toNat_of_nonneg nQ]
    have HT:=qh VE;have h0:0<jk n i:=nQ;clear VE;go_wp2_with fail;go_loopg [] (jk n i) (fun g wr=>∃k:Nat,k<jk n i/\g=jk n i-k/\jt n w r rt g2 b2 br b3 A1 c1 i k k wr/\Hid (∀j,0<=j->j<k->(fun k=>decide (0<=jW n i k)) j=false))
    case atStart=>exact⟨0,h0,rfl,I,fun j _ hj=>by omega⟩
    case round=>
     clear I;obtain⟨k,hk,rfl,I,hn⟩:=hrel;have i1:=I.fK;have i2:=I.le;have hc:=qh (I.spare hB H.out HV.out hlt hk hj.out);have iA:=I.bx;have ilt:Lt br wr:=iA.lt;have b0:=iA.cell (i:=0) rfl;have b1:=iA.cell (i:=1) rfl;have b2':=iA.cell (i:=2) rfl;have b3':=iA.cell (i:=3) rfl;have b4:=iA.cell (i:=4) rfl;have b5:=iA.cell (i:=5) rfl;have b6:=iA.cell (i:=6) rfl;have b7:=iA.cell (i:=7) rfl;have b8:=iA.cell (i:=8) rfl;have b9:=iA.cell (i:=9) rfl;clear iA;by_cases hs:jW n i k<0
     ·obtain⟨g1,hA,hg1,j1,d1,f1⟩:=I.at1 hlt;obtain⟨j2,d2,f2⟩:=I.at2 hlt;subst hA;have ne:pI g2 g1:=⟨by have:=I.h3;have:=I.h4;have:=I.h5;omega⟩;have ac9:(nth n.ay i).wt+(k:Int)<=20:=by have:=HT.out;omega
      have hk0:0<=(nth n.ay i).wt+(k:Int):=nQ;have xV:(k:Int)<=20:=nQ;have HS:=qh (show decide (0<=jW n i k)=false by simpa using hs);by_cases hend:k+1=jk n i
      ·have hz:((nth n.ay i).wt+k==20)=true:=by have:=HT.out;simp;omega
       have HN:=qh (show kZ n=3/\jO n=[] by
        have e1:ez n i=jk n i:=oI _ fun j hj=>by
         by_cases e:j=k
         ·subst e;exact HS.out
         ·exact hn.out j (nE _) nQ
        have e2:jD n=false:=by
         unfold jD
         rw[List.all_eq_false]
         exact⟨i,by simpa using hlt,by rw[e1];simp⟩
        exact⟨by simp[kZ,HV.out,e2],by simp[jO,e2]⟩)
       clear hend;go_wp2_with (go_at_call 186;refine hc.out.mono ?_;rintro e w1 ⟨rfl,δ,rfl⟩);go_ret2;refine⟨none,0,_,?_,aq,?_⟩
       ·rw[HN.out.1,HN.out.2];rfl
       ·rw[HN.out.2];exact Sl.none_
      ·have hz:((nth n.ay i).wt+k==20)=false:=by have:=HT.out;simp;omega
       have acd:(nth n.ay i).wt+(k:Int)<=19:=by have:=HT.out;omega
       go_wp2_with (go_at_call 186;refine hc.out.mono ?_;rintro e w1 ⟨rfl,δ,rfl⟩);go_roundg (jk n i-(k+1))
       case measure=>omega
       case rel=>
        refine⟨k+1,nQ,rfl,((I.af δ).Yd hlt hg1).Yc hlt,fun j h0 hj=>?_⟩;by_cases e:j=k
        ·subst e;exact HS.out
        ·exact hn.out j h0 nQ
     ·have hkn:k=ez n i:=by have h1:=fN (fun k=>decide (0<=jW n i k)) (jk n i) 0;refine(qQ _ hk (fun j hj=>hn.out j (nE _) hj) ?_).symm;exact decide_eq_true nQ
      have HK:=qh hkn;clear hkn;go_wp2_with (go_at_call 186;refine hc.out.mono ?_;rintro e w1 ⟨rfl,δ,rfl⟩);go_roundg (n.ay.length-(i+1))
      case measure=>omega
      case rel=>
       have I':=I.af δ;rw[HK.out] at I';refine⟨i+1,nQ,rfl,by go_num,I'.next,fun j h1 h2=>?_⟩;by_cases e:j=i
       ·subst e;rw[<-HK.out];exact hk
       ·exact hj.out j nQ h2
   ·obtain rfl:i=n.ay.length:=by omega
    have i1:=I.fK;have i2:=I.le;have HE:=qh (show kZ n=0/\jO n=n9 n n.ay.length 0 by
     have hok:jD n=true:=by
      unfold jD
      rw[List.all_eq_true]
      intro j hj'
      have hj':j<n.ay.length:=by simpa using hj'
      exact decide_eq_true (hj.out j hj' hj')
     refine⟨by simp[kZ,HV.out,hok],?_⟩
     unfold jO
     rw[if_pos (by rw[HV.out,hok];rfl)]
     refine j5 (by rw[fH];simp) fun j hj'=>?_
     have hj':j<n.ay.length:=by simpa using hj'
     rw[oW _ _ _ hj',oC _ hj']
     simp[zv,hj'])
    go_wp2_with fail;go_ret2;refine⟨some ⟨g2,0,none⟩,n.ay.length,wr,?_,aq,?_⟩
    ·rw[HE.out.1,HE.out.2,fH];rfl
    ·rw[HE.out.2,<-aq (w:=w) (W:=wr)];exact Sl.bW (by rw[fH];exact I.o2)
end
section
open An
def lf(n:Net)(x:Nat):Bool:=decide (jA (uc n x)<(bB (uc n x)).length)
theorem Cq(r:eD)(n:Net)(B:Nat)(w:nJ)[hB:Le B w](h:cj B w r n)(hv:valid n=true):Calls nH 196 #[ew r n] w fun e w'=>e=.returned (.int .i64 (bM (lf n) 21 0))/\∃δ,w'=af w δ:=by
 have hq1:n.au.length<=1000:=by have:=(az.1 hv).2.2.1;omega
 have KN:n.ay.length<=1000:=by have:=(az.1 hv).2.2.2.1;omega
 have hq3:n.aQ.length<=1000:=by have:=(az.1 hv).2.2.2.2.1;omega
 have HV:=qh hv;have H:=qh h;clear hv h;go_enter Tryz.func196,Tryz.ntmps196;go_wp2_with fail;refine QAL ?_;intro W1 aE cz de cN cY dc rX lH jU kM iY lC lu;go_loopw [3] (fun i wr=>∃(k:Nat) (δ:nJ),k<=21/\i=.int .i64 k/\Hid (∀j,j<k->lf n j=false)/\wr=af W1 δ) (fun i _=>21-(intOf i).toNat)
 case atStart=>exact⟨0,W1,nQ,rfl,fun j hj=>by omega,(aY W1).symm⟩
 case round=>
  obtain⟨k,δ,hk,rfl,hn,rfl⟩:=hrel;by_cases hlt:k<21
  ·have TH:=qh (uG HV.out (x:=k) nQ);have hki:(k:Int)<=20:=nQ;by_cases hh:jA (uc n k)<(bB (uc n k)).length;all_goals have BC:=qh hh
   ·have hlt':(jA (uc n k):Int)<((bB (uc n k)).length:Int):=nQ;have HF:=qh (qQ (lf n) hlt hn.out (by simp[lf,hh]));clear hh;go_wp2_with (first|(go_at_call 234;refine(DM r n k B _ H.out.up hq1 KN hq3).mono ?_;rintro e w1 ⟨r',δ',rfl,rfl,ho⟩)|(go_at_call 194;refine(Bf r' (uc n k) _ _ ho.is TH.out).mono ?_;rintro e w1 ⟨rfl,ZY,rfl⟩));go_ret;exact⟨cB (by rw[HF.out]),ag⟩
   ·have hlt':¬(jA (uc n k):Int)<((bB (uc n k)).length:Int):=nQ;clear hh;go_wp2_with (first|(go_at_call 234;refine(DM r n k B _ H.out.up hq1 KN hq3).mono ?_;rintro e w1 ⟨r',δ',rfl,rfl,ho⟩)|(go_at_call 194;refine(Bf r' (uc n k) _ _ ho.is TH.out).mono ?_;rintro e w1 ⟨rfl,ZY,rfl⟩));go_roundw
    case rel=>
     refine⟨k+1,_,nQ,by go_num,?_,aq⟩;intro j hj;by_cases Q7:j=k
     ·subst Q7;simp only[lf,decide_eq_false_iff_not];exact BC.out
     ·exact hn.out j nQ
    case measure=>simp[intOf];omega
  ·obtain rfl:k=21:=by omega
   have HF:=qh (oI (lf n) hn.out);go_wp2_with fail;go_ret;exact⟨cB (by rw[HF.out]),ag⟩
theorem qO(f:Nat->Bool)(m:Nat):bM f m 0<=m:=by have:=(fN f m 0).2.1;omega
theorem Qa(r:eD)(n:Net)(B:Nat)(w:nJ)[hB:Le B w](h:cj B w r n):Calls nH 141 #[ew r n] w fun e w'=>e=.returned (.tuple #[.int .i64 (rQ (valid n) (bM (lf n) 21 0)),.int .i64 (rR (valid n) (bM (lf n) 21 0))])/\∃δ,w'=af w δ:=by
 by_cases hv:valid n=true;all_goals try rw[Bool.not_eq_true] at hv
 all_goals have HV:=qh hv;rw[hv];clear hv
 ·have hle:bM (lf n) 21 0<=21:=qO (lf n) 21;have hX:∃X,X=bM (lf n) 21 0:=⟨_,rfl⟩;obtain⟨X,hX⟩:=hX;rw[<-hX] at hle ⊢;have HX:=qh hX;clear hX;by_cases hx:X=21
  ·subst hx;go_enter Tryz.func141,Tryz.ntmps141;go_wp2_with (first|(go_at_call 22;refine(jm r n B _ h.up).mono ?_;rw[HV.out];rintro e w1 ⟨rfl,δ,rfl⟩)|(go_at_call 196;refine(Cq r n B _ h.up HV.out).mono ?_;rw[<-HX.out];rintro e w1 ⟨rfl,δ,rfl⟩));go_ret2;exact⟨rfl,ag⟩
  ·have hne:¬(20:Int)<(X:Int):=nQ;have HN:=qh hx;clear hx;go_enter Tryz.func141,Tryz.ntmps141;go_wp2_with (first|(go_at_call 22;refine(jm r n B _ h.up).mono ?_;rw[HV.out];rintro e w1 ⟨rfl,δ,rfl⟩)|(go_at_call 196;refine(Cq r n B _ h.up HV.out).mono ?_;rw[<-HX.out];rintro e w1 ⟨rfl,δ,rfl⟩));go_ret2;exact⟨Mu (int_eq (by simp[rQ,HN.out])) (int_eq (by simp[rR,HN.out])),ag⟩
 ·go_enter Tryz.func141,Tryz.ntmps141;go_wp2_with (go_at_call 22;refine(jm r n B _ h.up).mono ?_;rw[HV.out];rintro e w1 ⟨rfl,δ,rfl⟩);go_ret2;exact⟨rfl,ag⟩
end
namespace An
def AF(n:Net)(t:iD):Prop:=∀i,i<n.ay.length->0<=spare n t i (fun _=>false)
theorem ux{n:Net}{t:iD}:calm n t=true↔AF n t:=by
 unfold calm ir AF;rw[decide_eq_true_eq,List.length_eq_zero_iff];constructor
 ·intro h i hi;by_cases hs:0<=spare n t i (fun _=>false)
  ·exact hs
  ·exfalso;have:(i:Int)∈oy n.ay.length (qg n t (lY [])):=by
    rw[Gz];refine⟨hi,?_⟩;have he:lY []=fun _=>false:=by funext k;simp[lY,jr]
    rw[he];unfold qg;simp[hi];omega
   rw[h] at this;simp at this
 ·intro h;have he:lY []=fun _=>false:=by funext k;simp[lY,jr]
  rw[he];unfold oy;rw[List.map_eq_nil_iff,List.filter_eq_nil_iff];intro i hi hs;have:=h i (by simpa using hi);unfold qg at hs;simp at hs;omega
theorem zG{n:Net}{t:iD}:jl n t 0=0↔AF n t:=by
 unfold AF;constructor
 ·intro h i hi;have:=zF n t 0 i;rw[h] at this;unfold qg at this;simp at this;exact this hi
 ·intro h;apply Nat.eq_of_testBit_eq;intro i;rw[zF];unfold qg;simp;exact h i
def qZ(n:Net)(t t':iD):Prop:=t.aN<=t'.aN/\t.cur<=t'.cur/\∀b,b<n.au.length->nth t'.au b<=nth t.au b
theorem KF{n:Net}{t t':iD}(hv:valid n=true)(h:qZ n t t'){k:Nat}(hk:k<n.aQ.length):ld n t k<=ld n t' k:=by have hx:=mE hv hk;simp only[oZ,decide_eq_true_eq] at hx;have h1:=Int.mul_le_mul_of_nonneg_left h.1 hx.1;have h2:=Int.mul_le_mul_of_nonneg_left h.2.1 hx.2.2.1;unfold ld xK;omega
theorem qC{n:Net}{t t':iD}(hv:valid n=true)(h:qZ n t t'){d:Nat->Bool}{k o:Nat}(hk:k<n.aQ.length):side n t d k o<=side n t' d k o:=by have:=KF hv h hk;unfold side;split<;>omega
theorem BY{n:Net}{t t':iD}(hv:valid n=true)(h:qZ n t t'){d:Nat->Bool}{i:Nat}(hi:i<n.ay.length):bears n t i d<=bears n t' i d:=by
 have hw:=(az.1 hv).2.2.2.2.1;unfold bears;by_cases h1:0<i
 ·have a:=qC hv h (d:=d) (k:=i-1) (o:=i-1) nQ;by_cases h2:i<n.aQ.length
  ·have b:=qC hv h (d:=d) (k:=i) (o:=i+1) h2;simp only[h1,h2,if_true];omega
  ·simp only[h1,h2,if_true,if_false];omega
 ·by_cases h2:i<n.aQ.length
  ·have b:=qC hv h (d:=d) (k:=i) (o:=i+1) h2;simp only[h1,h2,if_true,if_false];omega
  ·simp only[h1,h2,if_false];omega
theorem Il{n:Net}{t t':iD}(hv:valid n=true)(h:qZ n t t'){i:Nat}(hi:i<n.ay.length):can n t' i<=can n t i:=by have ha:=kH hv hi;simp only[kY,decide_eq_true_eq] at ha;have h1:=h.2.2 (nth n.ay i).bt.toNat nQ;have h2:=Int.mul_le_mul_of_nonneg_left h1 (show 0<=2*(nth n.ay i).wt by omega);unfold can;exact h2
theorem tg{n:Net}{t t':iD}(hv:valid n=true)(h:qZ n t t'){d:Nat->Bool}{i:Nat}(hi:i<n.ay.length):spare n t' i d<=spare n t i d:=by have:=BY hv h (d:=d) hi;have:=Il hv h hi;unfold spare;omega
theorem yI{n:Net}{t t':iD}(hv:valid n=true)(h:qZ n t t')(hc:AF n t'):AF n t:=
 fun i hi=>Int.le_trans (hc i hi) (tg hv h hi)
theorem zz{n:Net}(hv:valid n=true):su n (bT n)=true:=by
 obtain⟨h1,h2,_,_,_,h6,_,_⟩:=az.1 hv;simp only[jf,decide_eq_true_eq] at h1 h2;simp only[su,Bool.and_eq_true,decide_eq_true_eq,qL,cZ,pZ,List.all_eq_true,List.mem_range];refine⟨⟨⟨by simp only[bT];omega,by simp only[bT];omega⟩,by simp[bT]⟩,fun i hi=>?_⟩;have hi':i<n.au.length:=by simpa [bT] using hi
 have hg:=(List.all_eq_true.1 (by unfold lW at h6;exact h6)) _ (aS n.au hi');simp only[jf,decide_eq_true_eq] at hg;simp only[bT];rw[iq _ _ hi'];omega
theorem Ez{n:Net}(hv:valid n=true):su n (gu n)=true:=by
 obtain⟨h1,h2,_,_,_,h6,_,_⟩:=az.1 hv;simp only[jf,decide_eq_true_eq] at h1 h2;simp only[su,Bool.and_eq_true,decide_eq_true_eq,qL,cZ,pZ,List.all_eq_true,List.mem_range];refine⟨⟨⟨by simp only[gu];omega,by simp only[gu];omega⟩,by simp[gu]⟩,fun i hi=>?_⟩;have hi':i<n.au.length:=by simpa [gu] using hi
 have hg:=(List.all_eq_true.1 (by unfold lW at h6;exact h6)) _ (aS n.au hi');simp only[jf,decide_eq_true_eq] at hg;simp only[gu];rw[iq _ _ hi'];omega
theorem um{n:Net}{t:iD}(ht:su n t=true):qZ n t (bT n):=by simp only[su,Bool.and_eq_true,decide_eq_true_eq,qL,cZ] at ht;refine⟨by simp only[bT];omega,by simp only[bT];omega,fun b hb=>?_⟩;have hg:=pY ht.2 (k:=b) nQ;rw[qL,cZ] at hg;simp only[bT];rw[iq _ _ hb];omega
theorem DW{n:Net}{t:iD}(ht:su n t=true):qZ n (gu n) t:=by simp only[su,Bool.and_eq_true,decide_eq_true_eq,qL,cZ] at ht;refine⟨by simp only[gu];omega,by simp only[gu];omega,fun b hb=>?_⟩;have hg:=pY ht.2 (k:=b) nQ;rw[qL,cZ] at hg;simp only[gu];rw[iq _ _ hb];omega
theorem zV{n:Net}(hv:valid n=true):(jA n<(bB n).length)↔¬jl n (bT n) 0=0:=by
 rw[zG];unfold jA;constructor
 ·intro h hc;have:(bB n).filter (calm n)=bB n:=by rw[List.filter_eq_self];intro t ht;exact ux.2 (yI hv (um (gp.1 ht)) hc)
  rw[this] at h;omega
 ·intro hc;have h1:=List.length_filter_le (calm n) (bB n);rcases Nat.lt_or_eq_of_le h1 with h|h
  ·exact h
  ·exfalso;rw[List.length_filter_eq_length_iff] at h;exact hc (ux.1 (h _ (gp.2 (zz hv))))
theorem FY{n:Net}(hv:valid n=true):jA n=0↔¬jl n (gu n) 0=0:=by
 rw[zG];unfold jA;rw[List.length_eq_zero_iff,List.filter_eq_nil_iff];constructor
 ·intro h hc;exact h _ (gp.2 (Ez hv)) (ux.2 hc)
 ·intro hc t ht hq;exact hc (yI hv (DW (gp.1 ht)) (ux.1 hq))
end An
section
open An
def Hh:Net:=⟨⟨2,4⟩,⟨1,3⟩,[⟨2,3⟩,⟨1,4⟩],[⟨6,0⟩,⟨5,1⟩,⟨4,0⟩],[⟨2,1,3,8,9⟩,⟨1,2,2,6,6⟩]⟩
def Ww:iD:=⟨4,3,[2,1]⟩
def Wv:iD:=⟨2,1,[3,4]⟩
theorem La(w:nJ):Calls nH 36 #[] w fun e w'=>∃(r:eD) (ra rb:nu) (δ:nJ),e=.returned (.tuple #[ew r Hh,uH ra Ww,uH rb Wv])/\w'=af w δ/\cj (af w δ).heap.size (af w δ) r Hh/\qp (af w δ).heap.size (af w δ) ra Ww/\qp (af w δ).heap.size (af w δ) rb Wv:=by
 go_enter Tryz.func36,Tryz.ntmps36;go_wp2_with fail;refine bodyPost_ret (v:=.tuple #[ew ⟨some ⟨w.heap.size+1+1+1,0,none⟩,2,some ⟨w.heap.size+1+1+1+1,0,none⟩,3,some ⟨w.heap.size+1+1+1+1+1,0,none⟩,2⟩ Hh,uH ⟨some ⟨w.heap.size+1+1+1+1+1+1,0,none⟩,2⟩ Ww,uH ⟨some ⟨w.heap.size+1+1+1+1+1+1+1,0,none⟩,2⟩ Wv]) ?_ rfl ?_
 ·simp only[results,Tryz.results36];go_simp;simp[Hh,Ww,Wv]
 ·refine⟨⟨some ⟨w.heap.size+1+1+1,0,none⟩,2,some ⟨w.heap.size+1+1+1+1,0,none⟩,3,some ⟨w.heap.size+1+1+1+1+1,0,none⟩,2⟩,⟨some ⟨w.heap.size+1+1+1+1+1+1,0,none⟩,2⟩,⟨some ⟨w.heap.size+1+1+1+1+1+1+1,0,none⟩,2⟩,_,rfl,aq,?_⟩;refine QDK ?_;refine⟨⟨oK Hh.au (T:=23) (cs:=#[.int .i64 2,.int .i64 3,.int .i64 1,.int .i64 4]) ?_ (nG rfl) (nG rfl) rfl,oK Hh.ay (T:=94) (cs:=#[.int .i64 6,.int .i64 0,.int .i64 5,.int .i64 1,.int .i64 4,.int .i64 0]) ?_ (nG rfl) (nG rfl) rfl,oK Hh.aQ (T:=99) (cs:=#[.int .i64 2,.int .i64 1,.int .i64 3,.int .i64 8,.int .i64 9,.int .i64 1,.int .i64 2,.int .i64 2,.int .i64 6,.int .i64 6]) ?_ (nG rfl) (nG rfl) rfl⟩,oK Ww.au (T:=3) (cs:=#[.int .i64 2,.int .i64 1]) ?_ (nG rfl) (nG rfl) rfl,oK Wv.au (T:=3) (cs:=#[.int .i64 3,.int .i64 4]) ?_ (nG rfl) (nG rfl) rfl⟩;all_goals repeat (first|exact av.new nW|refine av.alloc ?_ _)
end
section
open An
def DP(n:Net)(t:iD):Bool:=decide (40<n.au.length)||decide (40<n.ay.length)||decide (40<n.aQ.length)||decide (40<t.au.length)
theorem GM(r:eD)(n:Net)(rt:nu)(t:iD)(w:nJ):Calls nH 85 #[ew r n,uH rt t] w fun e w'=>e=.returned (.bool (DP n t))/\∃δ,w'=af w δ:=by go_enter Tryz.func85,Tryz.ntmps85;go_wp2_with fail;all_goals go_ret;refine⟨aW ?_,ag⟩;go_light;grind [DP]
end
section
open An
end
namespace An
end An
section
open An
theorem vC(r:eD)(n:Net)(i:Int)(B:Nat)(w:nJ)[_hB:Le B w](h:cj B w r n):Calls nH 137 #[ew r n,.int .i64 i] w fun e w'=>e=.returned (.bool (fj 0 (n.ay.length-1) i))/\∃δ,w'=af w δ:=by have l:=h.2.1.len;go_enter Tryz.func137,Tryz.ntmps137;go_wp2_with (go_at_call 58;refine(rj _ _ _ _).mono ?_;rintro e w1 ⟨rfl,rfl⟩);go_ret;exact⟨rfl,ag⟩
theorem JV(r:eD)(n:Net)(rt:nu)(t:iD)(i:Nat)(B:Nat)(w:nJ)[hB:Le B w](h:cj B w r n)(ht:jn n t)(hi:i<n.ay.length):Calls nH 269 #[ew r n,uH rt t,.int .i64 i,.slice none 0 0] w fun e w'=>e=.returned (.int .i64 (bears n t i (fun _=>false)))/\∃δ,w'=af w δ:=by have:=tF r n rt t i none 0 [] B w h Sl.none_ ht hi;rw[show lY []=fun _=>false by funext k;simp[lY,jr]] at this;exact this
theorem zH(r:eD)(n:Net)(rt:nu)(t:iD)(i:Nat)(B:Nat)(w:nJ)[hB:Le B w](h:cj B w r n)(h':qp B w rt t)(ht:jn n t)(hi:i<n.ay.length):Calls nH 242 #[ew r n,uH rt t,.int .i64 i] w fun e w'=>e=.returned (.int .i64 (spare n t i (fun _=>false)))/\∃δ,w'=af w δ:=by
 have hb:=uy ht (d:=fun _=>false) hi;have hc:=(BW ht hi).2.2.2.2.2.2;have HT:=qh ht;clear ht;go_enter Tryz.func242,Tryz.ntmps242;go_wp2_with fail;refine QAP ?_;intro W1 aE cz de cN cY dc dX lH jU kM iY lC lu uu;refine QDL ?_;intro vn vm yz;refine wpRl ?_;repeat (go_big_quiet_step ((first|(go_at_call 270;exact Calls.bU (Bd r n rt t i B _ h.up h'.up HT.out hi))|(go_at_call 269;exact Calls.bU (JV r n rt t i B _ h.up HT.out hi)))))
 refine QBY ?_;rintro _ ⟨δq,rfl⟩;go_wp2_with fail;go_ret;exact⟨rfl,ag⟩
end
section
open An
namespace An
end An
end
namespace An
end An
namespace An
end An
namespace An
end An
namespace An
def sL(n:Net)(i:Nat)(x:Int):Net:=CL n (n.ay.set i (ql (nth n.ay i) x))
theorem pg(n:Net)(i:Nat)(x:Int):(sL n i x).ay.length=n.ay.length:=List.length_set
theorem DT(n:Net)(i:Nat)(x:Int){j:Nat}(hj:j<n.ay.length):nth (sL n i x).ay j=if i=j then ql (nth n.ay i) x else nth n.ay j:=tP _ _ _ hj
theorem xW{n:Net}(hv:valid n=true){i:Nat}{x:Int}(hi:i<n.ay.length)(h0:0<=(nth n.ay i).wt+x)(h1:(nth n.ay i).wt+x<=20):valid (sL n i x)=true:=by
 have hv0:=hv;rw[az] at hv ⊢;obtain⟨a1,a2,a3,a4,a5,a6,a7,a8⟩:=hv;refine⟨a1,a2,a3,by rw[pg];exact a4,by rw[pg];exact a5,a6,?_,a8⟩;show jC n.au.length (sL n i x).ay=true;unfold jC;rw[List.all_eq_true];intro y hy;obtain⟨j,hj,rfl⟩:=List.getElem_of_mem hy;have hj':j<n.ay.length:=by rwa [pg] at hj
 rw[<-bV _ hj,DT _ _ _ hj'];have ha:=kH hv0 hj';by_cases hij:i=j
 ·subst hij;rw[if_pos rfl];simp only[kY,decide_eq_true_eq] at ha;refine decide_eq_true ?_;show 0<=(nth n.ay i).wt+x/\(nth n.ay i).wt+x<=20/\0<=(nth n.ay i).bt/\(nth n.ay i).bt<(n.au.length:Int);exact⟨h0,h1,ha.2.2.1,ha.2.2.2⟩
 ·rw[if_neg hij];exact ha
end An
namespace An
theorem CA{n:Net}(hv:valid n=true){i:Nat}(hi:i<n.ay.length):(jk n i:Int)=21-(nth n.ay i).wt:=by have ha:=kH hv hi;simp only[kY,decide_eq_true_eq] at ha;unfold jk;omega
theorem sI{n:Net}:jD n=true↔∀i,i<n.ay.length->ez n i<jk n i:=by
 unfold jD;rw[List.all_eq_true];constructor
 ·intro h i hi;simpa using h i (by simpa using hi)
 ·intro h i hi;exact decide_eq_true (h i (by simpa using hi))
theorem Kn{n:Net}{i:Nat}(h:ez n i<jk n i):0<=jW n i (ez n i):=by have:=(fN (fun k=>decide (0<=jW n i k)) (jk n i) 0).2.2.2 (by unfold ez at h;omega);exact of_decide_eq_true this
theorem Gv{n:Net}{i k:Nat}(h:k<ez n i):jW n i k<0:=by have:=(fN (fun k=>decide (0<=jW n i k)) (jk n i) 0).2.2.1 k (nE _) h;exact Int.not_le.1 (of_decide_eq_false this)
theorem M6(n:Net)(i:Nat):ez n i<=jk n i:=qO _ _
end An
section
open An
theorem GS(r:eD)(n:Net)(i:Nat)(x:Int)(hi:i<n.ay.length)(hx:-100<=(nth n.ay i).wt+x/\(nth n.ay i).wt+x<=100)(B:Nat)(w:nJ)[hB:Le B w](h:cj B w r n)(q1:n.au.length<=1000)(q2:n.ay.length<=1000)(q3:n.aQ.length<=1000):Calls nH 206 #[ew r n,.int .i64 i,.int .i64 x] w fun e w'=>∃(r':eD) (δ:nJ),e=.returned (ew r' (sL n i x))/\w'=af w δ/\dH w.heap.size (af w δ) r' (sL n i x):=by
 have H:=qh h;clear h;go_enter Tryz.func206,Tryz.ntmps206;go_wp2_with fail;refine(Hw r n B _ H.out.up q1 q2 q3).mono ?_;rintro e w1 ⟨r',δ,rfl,rfl,ho⟩;obtain⟨gA,gc,aA,ac,wA,wc⟩:=r';obtain⟨g,rfl,hb,hl,hc,hf⟩:=pQ ho.2.1 nQ;rw[show ew ⟨gA,gc,some ⟨g,0,none⟩,ac,wA,wc⟩ n=Value.agg #[.int .i64 n.aN.lo,.int .i64 n.aN.hi,.int .i64 n.cur.lo,.int .i64 n.cur.hi,.slice gA n.au.length gc,.slice (some ⟨g,0,none⟩) n.ay.length ac,.slice wA n.aQ.length wc] from rfl];have c0:=hc (i*2) (.int .i64 (nth n.ay i).wt) (by have:=fL cG 2 (fun _=>rfl) n.ay i 0 hi nQ;rw[Nat.add_zero] at this;rw[this];rfl);have c1:=hc (i*2+1) (.int .i64 (nth n.ay i).bt) (by have:=fL cG 2 (fun _=>rfl) n.ay i 1 hi nQ;rw[this];rfl);have f0:=hf (i*2);have f1:=hf (i*2+1);have HO:=qh ho;clear ho hc hf;have ku:w.heap.size+1<g:=by refine nL ?_ hb;go_simp
 have hki:(i:Int)<(n.ay.length:Int):=nQ;have hk0:¬(i:Int)<0:=nQ;have i1:pI (w.heap.size+1) g:=⟨nQ⟩;have i2:pI g (w.heap.size+1):=⟨nQ⟩;have i3:pI w.heap.size g:=⟨nQ⟩;have i4:pI g w.heap.size:=⟨nQ⟩;have i5:mw w.heap.size g:=⟨nQ⟩;clear hb ku;have b1:w.heap.size+1<(w.alloc (Obj.cells #[.int .i64 n.aN.lo,.int .i64 n.aN.hi,.int .i64 n.cur.lo,.int .i64 n.cur.hi,.slice r.gA n.au.length r.gc,.slice r.aA n.ay.length r.ac,.slice r.wA n.aQ.length r.wc] 28)).heap.size+1:=nW;have k1:=Bh HO.out.1 HO.out.2.1 nU;have k3:=Bh HO.out.2.2 HO.out.2.1 nU;have o1:=nN (u:=.int .i64 ((nth n.ay i).wt+x)) (i:=i*2) HO.out.2.1 (by rw[cg cG 2 (fun _=>rfl)];omega);have o2:=nN (u:=.int .i64 (nth n.ay i).bt) (i:=i*2+1) o1 (by rw[List.length_set,cg cG 2 (fun _=>rfl)];omega);have e1:=iI cG 2 (fun _=>rfl) n.ay i 0 (.int .i64 ((nth n.ay i).wt+x)) (ql (nth n.ay i) x) hi nQ rfl;rw[Nat.add_zero] at e1;have e2:=iI cG 2 (fun _=>rfl) (n.ay.set i (ql (nth n.ay i) x)) i 1 (.int .i64 (nth n.ay i).bt) (ql (nth n.ay i) x) (by rw[List.length_set];exact hi) nQ (by rw[tP _ _ _ hi,if_pos rfl];rfl);rw[List.set_set] at e2;rw[e1,e2] at o2;have HA:=qh (And.intro (cT (cT HO.out.1 (p:=⟨g,i*2,none⟩) k1 (u:=.int .i64 ((nth n.ay i).wt+x))) (p:=⟨g,i*2+1,none⟩) k1 (u:=.int .i64 (nth n.ay i).bt)) (And.intro o2 (cT (cT HO.out.2.2 (p:=⟨g,i*2,none⟩) k3 (u:=.int .i64 ((nth n.ay i).wt+x))) (p:=⟨g,i*2+1,none⟩) k3 (u:=.int .i64 (nth n.ay i).bt))));clear o1 o2 e1 e2 k1 k3;go_wp2_with fail;refine bodyPost_ret (v:=ew ⟨gA,gc,some ⟨g,0,none⟩,ac,wA,wc⟩ (sL n i x)) ?_ rfl ?_
 ·simp only[results,Tryz.results206];go_simp;simp[sL,CL,ew]
 ·refine⟨⟨gA,gc,some ⟨g,0,none⟩,ac,wA,wc⟩,_,rfl,aq,?_⟩;refine QDK ?_;refine dH.mono (base:=(w.alloc (Obj.cells #[.int .i64 n.aN.lo,.int .i64 n.aN.hi,.int .i64 n.cur.lo,.int .i64 n.cur.hi,.slice r.gA n.au.length r.gc,.slice r.aA n.ay.length r.ac,.slice r.wA n.aQ.length r.wc] 28)).heap.size+1) ?_ (by go_simp;omega);refine dH.alloc (dH.alloc ?_ _) _;iterate 7 (refine dH.set ?_ b1 _)
  unfold dH;rw[pg];exact⟨dO HA.out.1 nW,dO HA.out.2.1 nW,dO HA.out.2.2 nW⟩
theorem Aq(r:eD)(n:Net)(i:Nat)(x:Int)(hi:i<n.ay.length)(hx:-100<=(nth n.ay i).wt+x/\(nth n.ay i).wt+x<=100)(B:Nat)(w:nJ)[hB:Le B w](h:cj B w r n)(q1:n.au.length<=1000)(q2:n.ay.length<=1000)(q3:n.aQ.length<=1000):Calls nH 206 #[ew r n,.int .i64 i,.int .i64 x] w fun e w'=>∃(r':eD) (δ:nJ),e=.returned (ew r' (sL n i x))/\w'=af w δ/\cj (af w δ).heap.size (af w δ) r' (sL n i x):=by refine(GS r n i x hi hx B w h q1 q2 q3).mono ?_;rintro e w1 ⟨r',δ,rfl,rfl,ho⟩;exact⟨r',δ,rfl,rfl,ho.is⟩
end
section
open An
theorem SV(r r':eD)(n:Net)(B:Nat)(w:nJ)[hB:Le B w](h:cj B w r n)(h':cj B w r' n):Calls nH 28 #[ew r n,ew r' n] w fun e w'=>e=.returned (.bool true)/\∃δ,w'=af w δ:=by
 have l1:=h.1.len;have l2:=h.2.1.len;have l3:=h.2.2.len;go_enter Tryz.func28,Tryz.ntmps28;go_upto_region 3 with fail;refine QAP ?_;intro W1 aE cz de cN cY dc dX lH jU kM iY lC lu uu;have vn:W1.cell? ⟨w.heap.size+1,0,none⟩=some (.int .i64 n.aN.lo):=by rw[aE.out];go_simp
 have vm:W1.cell? ⟨w.heap.size+1,1,none⟩=some (.int .i64 n.aN.hi):=by rw[aE.out];go_simp
 have yz:W1.cell? ⟨w.heap.size+1,2,none⟩=some (.int .i64 n.cur.lo):=by rw[aE.out];go_simp
 have Hu:W1.cell? ⟨w.heap.size+1,3,none⟩=some (.int .i64 n.cur.hi):=by rw[aE.out];go_simp
 have Ht:W1.cell? ⟨w.heap.size+1,4,none⟩=some (.slice r'.gA n.au.length r'.gc):=by rw[aE.out];go_simp
 have Hs:W1.cell? ⟨w.heap.size+1,5,none⟩=some (.slice r'.aA n.ay.length r'.ac):=by rw[aE.out];go_simp
 have Ej:W1.cell? ⟨w.heap.size+1,6,none⟩=some (.slice r'.wA n.aQ.length r'.wc):=by rw[aE.out];go_simp
 have s1:cj B W1 r n:=h.up;have s2:cj B W1 r' n:=h'.up;go_wp2_with fail;go_loopw [5] (fun i wr=>∃(k:Nat) (δ:nJ),k<=n.au.length/\i=.int .i64 k/\wr=af W1 δ) (fun i _=>n.au.length-(intOf i).toNat)
 case atStart=>exact⟨0,W1,nE _,rfl,(aY W1).symm⟩
 case round=>
  obtain⟨k,δ,hk,rfl,rfl⟩:=hrel;by_cases hlt:k<n.au.length
  ·obtain⟨b,o,hA,hb,d0,d1⟩:=s1.1.sp hlt;obtain⟨b',o',oH,hb',d0',d1'⟩:=s2.1.sp hlt;refine QCW ?_;intro ib ib';have hki:(k:Int)<(n.au.length:Int):=nQ;have hk0:¬(k:Int)<0:=nQ;rw[hA] at lC;rw[oH] at Ht;clear hA oH;go_wp2_with fail;refine wpRl ?_;repeat (go_big_quiet_step ((first|(fail))))
   refine QBY ?_;rintro _ ⟨δq,rfl⟩;go_wp2_with fail;go_roundw
   case rel=>exact⟨k+1,_,nQ,by go_num,aq⟩
   case measure=>simp[intOf];omega
  ·obtain rfl:k=n.au.length:=by omega
   go_wp2_with fail;go_loopw [6] (fun i wr=>∃(k:Nat) (δ:nJ),k<=n.ay.length/\i=.int .i64 k/\wr=af W1 δ) (fun i _=>n.ay.length-(intOf i).toNat)
   case atStart=>exact⟨0,δ,nE _,rfl,rfl⟩
   case round=>
    clear hk hlt;obtain⟨k,δ,hk,rfl,rfl⟩:=hrel;by_cases hlt:k<n.ay.length
    ·obtain⟨b,o,hA,hb,d0,d1⟩:=s1.2.1.Un hlt;obtain⟨b',o',oH,hb',d0',d1'⟩:=s2.2.1.Un hlt;refine QCW ?_;intro ib ib';have hki:(k:Int)<(n.ay.length:Int):=nQ;have hk0:¬(k:Int)<0:=nQ;rw[hA] at lu;rw[oH] at Hs;clear hA oH;go_wp2_with fail;refine wpRl ?_;repeat (go_big_quiet_step ((first|(fail))))
     refine QBY ?_;rintro _ ⟨δq,rfl⟩;go_wp2_with fail;go_roundw
     case rel=>exact⟨k+1,_,nQ,by go_num,aq⟩
     case measure=>simp[intOf];omega
    ·obtain rfl:k=n.ay.length:=by omega
     go_wp2_with fail;go_loopw [7] (fun i wr=>∃(k:Nat) (δ:nJ),k<=n.aQ.length/\i=.int .i64 k/\wr=af W1 δ) (fun i _=>n.aQ.length-(intOf i).toNat)
     case atStart=>exact⟨0,δ,nE _,rfl,rfl⟩
     case round=>
      clear hk hlt;obtain⟨k,δ,hk,rfl,rfl⟩:=hrel;by_cases hlt:k<n.aQ.length
      ·obtain⟨b,o,hA,hb,d0,d1,d2,d3,d4⟩:=s1.2.2.RR hlt;obtain⟨b',o',oH,hb',d0',d1',d2',d3',d4'⟩:=s2.2.2.RR hlt;refine QCW ?_;intro ib ib';have hki:(k:Int)<(n.aQ.length:Int):=nQ;have hk0:¬(k:Int)<0:=nQ;rw[hA] at uu;rw[oH] at Ej;clear hA oH;go_wp2_with fail;refine wpRl ?_;repeat (go_big_quiet_step ((first|(fail))))
       refine QBY ?_;rintro _ ⟨δq,rfl⟩;go_wp2_with fail;go_roundw
       case rel=>exact⟨k+1,_,nQ,by go_num,aq⟩
       case measure=>simp[intOf];omega
      ·obtain rfl:k=n.aQ.length:=by omega
       go_wp2_with fail;go_ret;exact⟨rfl,ag⟩
end
section
open An
namespace An
end An
end
section
open An
namespace An
end An
end
section
open An
namespace An
end An
theorem sg.Up{w:nJ}{A:Option Addr}{c:Nat}{L:List iD}(h:sg w A c L)(h0:0<L.length):∃b o,A=some ⟨b,o,none⟩/\b<w.heap.size/\∀k,k<L.length->∃A' c',w.cell? ⟨b,o+k*3,none⟩=some (.int .i64 (nth L k).aN)/\w.cell? ⟨b,o+k*3+1,none⟩=some (.int .i64 (nth L k).cur)/\w.cell? ⟨b,o+k*3+2,none⟩=some (.slice A' (nth L k).au.length c')/\Sl aH w.heap.size w A' c' (nth L k).au:=by obtain⟨b,o,_,_,hA,hb,_⟩:=h.at_ h0;refine⟨b,o,hA,hb,fun k hk=>?_⟩;obtain⟨b',o',A',c',oH,_,d0,d1,d2,s⟩:=h.at_ hk;rw[hA] at oH;injection oH with q;injection q with q1 q2;subst q1 q2;exact⟨A',c',d0,d1,d2,s⟩
theorem vt{n:Net}(hv:valid n=true):0<(bB n).length:=List.length_pos_of_mem (gp.2 (Ez hv))
namespace An
def vw(n:Net):Int:=Kj (valid n) (oE (decide (jl n (bT n) 0=0)) (decide (jl n (gu n) 0=0)))
theorem JJ{n:Net}(hv:valid n=true):xO (jA n) (bB n).length=vw n:=by
 have ha:=zV hv;have hz:=FY hv;have hle:jA n<=(bB n).length:=List.length_filter_le _ _;have hpos:=vt hv;unfold vw xO oE Kj;rw[hv,if_pos rfl];by_cases h1:jl n (bT n) 0=0
 ·have:¬jA n<(bB n).length:=fun h=>ha.1 h h1;rw[if_neg nQ,if_pos nQ,h1];rfl
 ·have h2:=ha.2 h1;by_cases h3:jl n (gu n) 0=0
  ·have:¬jA n=0:=fun h=>hz.1 h h3;rw[if_neg nQ,if_neg nQ,if_neg (by simpa using h1),if_pos (by simpa using h3)]
  ·have:=hz.2 h3;rw[if_pos nQ,if_neg (by simpa using h1),if_neg (by simpa using h3)]
end An
theorem Qc(r:eD)(n:Net)(B:Nat)(w:nJ)[hB:Le B w](h:cj B w r n):Calls nH 140 #[ew r n] w fun e w'=>e=.returned (.tuple #[.int .i64 (vw n),.int .i64 (cE (valid n) 20)])/\∃δ,w'=af w δ:=by
 have H:=qh h;clear h;by_cases hv:valid n=true;all_goals try rw[Bool.not_eq_true] at hv
 all_goals have HV:=qh hv;have HF:=qh (show vw n=Kj (valid n) (oE (decide (jl n (bT n) 0=0)) (decide (jl n (gu n) 0=0))) from rfl);rw[hv] at HF ⊢
 ·have HS:=qh (JJ hv);clear hv;go_enter Tryz.func140,Tryz.ntmps140;go_wp2_with (first|(go_at_call 22;refine(jm r n B _ H.out.up).mono ?_;rw[HV.out];rintro e w1 ⟨rfl,δ,rfl⟩)|(go_at_call 194;refine(Bf r n B _ H.out.up HV.out).mono ?_;rintro e w1 ⟨rfl,δ',rfl⟩)|(go_at_call 195;refine(QH _ _ _).mono ?_;rintro e w1 ⟨rfl,rfl⟩));go_ret2;exact⟨Mu (int_eq (by rw[HS.out])) rfl,ag⟩
 ·clear hv;go_enter Tryz.func140,Tryz.ntmps140;go_wp2_with (go_at_call 22;refine(jm r n B _ H.out.up).mono ?_;rw[HV.out];rintro e w1 ⟨rfl,δ,rfl⟩);go_ret2;exact⟨Mu (int_eq (by rw[HF.out];rfl)) rfl,ag⟩
end
end Go.Proofs.YtcjjlikhlmfedaaGreatDoor
