/- A part of the proof that a law of layer 12 holds, cut small by a program (names and blanks): Hbx, Hr, Hit, Han. -/
import Derived.Laws.Rows
import Derived.Laws.Tables
import Derived.Deep.MidRow
import Derived.Laws.CopyOwn
import Derived.Stop.RegionWithIn
import Derived.Test.YtdmedlkonaclnaaGreatDoorZ1
set_option maxRecDepth 100000
set_option maxHeartbeats 40000000
set_option linter.unusedVariables false
set_option linter.unusedSimpArgs false
namespace Go.Proofs.YtdmedlkonaclnaaGreatDoor
open Go.RowKit
open Nat renaming le_trans → nT, lt_of_lt_of_le → nL, le_refl → nR
open Go.Proofs.Tryz renaming prog → nH
open Go renaming World → nJ, Value → nK
theorem bV{w w':nJ}{base base' n n' size size':Nat}{e e':TypeId}{v v':nK}{xs xs':List nK}(h:w.ownsRow base e size v n xs)(h':w.ownsRow base' e' size' v' n' xs')(hne:e≠e')(hg:w.grownBy w' v'.ownBlock):w'.ownsRow base e size v n xs:=by
 rcases h'.2 with⟨rfl,_⟩|⟨g,cap,cur,rfl,_⟩
 ·by_cases hv:v.ownBlock=none
  ·exact h.kept hg (.inl hv)
  ·exact h.kept hg (.inr hv)
 ·exact h.kept hg (.inr (Dv h h' hne))
theorem eZ{w:nJ}{base n size b:Nat}{e T:TypeId}{v:nK}{xs:List nK}{cs:Array nK}(h:w.ownsRow base e size v n xs)(hb:ax w b T cs)(hne:T≠e):v.ownBlock≠some b:=by
 intro hv;rcases h.2 with⟨rfl,_⟩|⟨g,cap,cur,rfl,_,hh,_⟩
 ·cases hv
 ·have:g=b:=by simpa [Value.ownBlock] using hv
  subst this;unfold ax at hb;rw[hb] at hh;injection hh with hh;injection hh with _ ht;exact hne ht
theorem fJ{w w':nJ}{base n size b:Nat}{e T:TypeId}{v:nK}{xs:List nK}{cs:Array nK}(hb:ax w b T cs)(h:w.ownsRow base e size v n xs)(hne:T≠e)(hg:w.grownBy w' v.ownBlock):ax w' b T cs:=
 (hg.block b hb.tN (fun e'=>eZ h hb hne e'.symm)).trans hb
theorem Sl.drop{α:Type}{enc:α->List nK}{B:Nat}{w:nJ}{A:Option Addr}{c:Nat}{xs:List α}(h:Sl enc B w A c xs){size:Nat}(hs:∀x,(enc x).length=size)(m:Nat)(hm:m<=xs.length):Sl enc B w (if c=m then A else A.map (·.add (m*size))) (c-m) (xs.drop m):=by
 refine⟨by rw[List.length_drop];have:=h.1;omega,by have:=h.2.1;omega,fun hne=>?_⟩;have e:xs.flatMap enc=(xs.take m).flatMap enc++(xs.drop m).flatMap enc:=by rw[<-List.flatMap_append,List.take_append_drop]
 have hl:((xs.take m).flatMap enc).length=m*size:=by rw[bX enc size hs,List.length_take,Nat.min_eq_left hm]
 obtain⟨b,o,hA,hb,hc⟩:=h.2.2 (by rw[e];simp[hne]);have hlt:m<xs.length:=by
  rcases Nat.lt_or_ge m xs.length with l|l
  ·exact l
  ·rw[List.drop_of_length_le l] at hne;exact absurd rfl hne
 have:=h.1;rw[if_neg nQ,hA];refine⟨b,o+m*size,by rw[Option.map_some,Addr.add_lit],hb,fun j v hj=>?_⟩;rw[Nat.add_assoc];refine hc _ v ?_;rw[e,List.getElem?_append_right (by rw[hl];omega),hl,Nat.add_sub_cancel_left];exact hj
structure fT(P:Program)(ty:TypeId)(n:Nat):Prop where
 desc:∃d,P.underlying ty=some d/\d.isRow=true
 size:(P.info? ty).map (·.size)=some n
theorem fT.mk'{P:Program}{ty:TypeId}{n:Nat}{d:TypeDesc}(h:P.underlying ty=some d)(hd:d.isRow=true)(hi:(P.info? ty).map (·.size)=some n):fT P ty n:=⟨⟨d,h,hd⟩,hi⟩
theorem ax.setRow{W:nJ}{b:Nat}{T:TypeId}{cs:Array nK}(h:ax W b T cs)(cs':Array nK):ax (W.setRow b cs') b T cs':=by unfold ax at h ⊢;simp[World.setRow,Array.getElem?_modify,h]
theorem bH.setRow(W:nJ)(b:Nat)(cs:Array nK):bH (fun x=>x=b) W (W.setRow b cs):=by refine⟨nV,rfl,rfl,rfl,fun k hk hs=>?_⟩;simp only[World.setRow,Array.getElem?_modify];rw[if_neg fun e=>hs e.symm]
section
variable{P:Program}{W:nJ}{b:Nat}{T ty:TypeId}{cs cs':Array nK}{ops:Array Oper}{rest:List Oper}{o:Oper}{a:Act}{Q:Exit->Act->nJ->Prop}{n:Nat}
theorem av(hT:fT P ty n)(hgd:o.guard=none)(x:Operand)(ho:o.op=.load ty x)(hx:a.eval x=.pointer (some ⟨b,0,none⟩))(hb:ax W b T cs)(hn:cs.size=n)(h:wpList P ops Q rest (a.put o.dst (.agg cs)) W):wpList P ops Q (o::rest) a W:=by obtain⟨⟨d,h1,h2⟩,h3⟩:=hT;subst hn;exact wpList_load_row hgd ty x ho b hx T cs (0,0) d hb h1 (by cases d<;>first|rfl|cases h2) h3 h
theorem ak(hT:fT P ty n)(hgd:o.guard=none)(x y:Operand)(ho:o.op=.store ty x y)(hx:a.eval x=.pointer (some ⟨b,0,none⟩))(hy:a.eval y=.agg cs')(hb:ax W b T cs)(hn:cs.size=n)(hn':cs'.size=n)(h1:cs'.all (·.oneCell')=true)(h:∀W',ax W' b T cs'->bH (fun x=>x=b) W W'->wpList P ops Q rest (a.put o.dst undef) W'):wpList P ops Q (o::rest) a W:=by obtain⟨_,h3⟩:=hT;subst hn;exact wpList_plain hgd fun _ hK=>wp_store_row ty x y ho b cs' hx hy T cs hb (by rw[hn'];exact h3) hn'.symm h1 (hK _ _ (h _ (hb.setRow cs') (bH.setRow _ _ _)))
theorem Is{F:Fence}{m:Nat}{K:Act->nJ->Prop}(hT:fT P ty n)(x:Operand)(ho:o.op=.load ty x)(hx:a.eval x=.pointer (some ⟨b,0,none⟩))(hb:ax W b T cs)(hn:cs.size=n)(h:K (a.put o.dst (.agg cs)) W):o.wpIn F m P a W K Q:=by
 obtain⟨⟨d,h1,h2⟩,h3⟩:=hT;subst hn;have hrun:=run_loadVar_row (P:=P) W b T ty cs (0,0) d hb h1 (by cases d<;>first|rfl|cases h2) h3;unfold Oper.wpIn;refine⟨?_,?_⟩
 ·simp[Oper.about,ho]
 ·rw[Oper.semAt_plain F _ _ (by rw[ho];intro c OY;cases OY)];unfold execOp;simp only[ho,hx,Instr.loadAt,Instr.sureAddr,Sem.run_bind,Sem.run_pure,Result.andThen_ok,hrun];exact h
theorem Ev{F:Fence}{m:Nat}{K:Act->nJ->Prop}(hT:fT P ty n)(x y:Operand)(ho:o.op=.store ty x y)(hx:a.eval x=.pointer (some ⟨b,0,none⟩))(hy:a.eval y=.agg cs')(hb:ax W b T cs)(hn:cs.size=n)(hn':cs'.size=n)(h1:cs'.all (·.oneCell')=true)(h:∀W',ax W' b T cs'->bH (fun x=>x=b) W W'->K (a.put o.dst undef) W'):o.wpIn F m P a W K Q:=by
 obtain⟨_,h3⟩:=hT;subst hn;have hrun:=run_storeVar_row (P:=P) W b T ty cs cs' hb (by rw[hn'];exact h3) hn'.symm h1;unfold Oper.wpIn;refine⟨?_,?_⟩
 ·simp[Oper.about,ho]
 ·rw[Oper.semAt_plain F _ _ (by rw[ho];intro c OY;cases OY)];unfold execOp;simp only[ho,hx,hy,Instr.storeAt,Instr.sureAddr,Sem.run_bind,Sem.run_pure,Result.andThen_ok,hrun];exact h _ (hb.setRow cs') (bH.setRow _ _ _)
theorem fu{F:Fence}{m:Nat}(hT:fT P ty n)(hw:Region.wanted o (yielded ops a.tmps)=true)(x:Operand)(ho:o.op=.load ty x)(hx:a.eval x=.pointer (some ⟨b,0,none⟩))(hb:ax W b T cs)(hn:cs.size=n)(h:wpListIn F m P ops Q rest (a.put o.dst (.agg cs)) W):wpListIn F m P ops Q (o::rest) a W:=
 wpListIn_step fun K hK=>by rw[if_pos hw];exact Is hT x ho hx hb hn (hK _ _ h)
theorem nc{F:Fence}{m:Nat}(hT:fT P ty n)(hw:Region.wanted o (yielded ops a.tmps)=true)(x y:Operand)(ho:o.op=.store ty x y)(hx:a.eval x=.pointer (some ⟨b,0,none⟩))(hy:a.eval y=.agg cs')(hb:ax W b T cs)(hn:cs.size=n)(hn':cs'.size=n)(h1:cs'.all (·.oneCell')=true)(h:∀W',ax W' b T cs'->bH (fun x=>x=b) W W'->wpListIn F m P ops Q rest (a.put o.dst undef) W'):wpListIn F m P ops Q (o::rest) a W:=
 wpListIn_step fun K hK=>by rw[if_pos hw];exact Ev hT x y ho hx hy hb hn hn' h1 fun W' h2 h3=>hK _ _ (h W' h2 h3)
theorem sn{F:Fence}{mm:Nat}{e sT dT:TypeId}{p g:Nat}{Ts Td:TypeId}{cur:Array nK}{dC sC:Nat}(hu:P.underlying dT=some (.slice e))(hsz:(P.info? e).map (·.size)=some 1)(hw:Region.wanted o (yielded ops a.tmps)=true)(x y:Operand)(ho:o.op=.call { callee:=.builtin .copy,args:=#[x,y],argTypes:=#[dT,sT] })(hx:a.eval x=.slice (some ⟨g,0,none⟩) n dC)(hy:a.eval y=.slice (some ⟨p,0,none⟩) n sC)(hd:ax W g Td cur)(hs:ax W p Ts cs)(hc:cur.size=n)(hcs:cs.size=n)(h1:∀v∈cs.toList,v.oneCell'=true)(h:∀W',ax W' g Td cs->bH (fun x=>x=g) W W'->wpListIn F mm P ops Q rest (a.put o.dst (.int .i64 (n:Nat))) W'):wpListIn F mm P ops Q (o::rest) a W:=by
 refine wpListIn_step fun K hK=>?_;rw[if_pos hw];unfold Oper.wpIn;refine⟨by simp[Oper.about,ho,resolve,Target.leads,Sem.run_pure],?_⟩;rw[Oper.semAt_plain F _ _ (by rw[ho];intro c OY;cases OY)];have hmin:Nat.min n n=n:=Nat.min_self n;by_cases h0:n=0
 ·have hrun:=run_copy_none (P:=P) W dT sT o.type e (some ⟨g,0,none⟩) (some ⟨p,0,none⟩) n dC n sC hu hsz (by rw[hmin];exact h0);have e1:cur=cs:=by have a1:cur=#[]:=Array.eq_empty_of_size_eq_zero nQ;have a2:cs=#[]:=Array.eq_empty_of_size_eq_zero nQ;rw[a1,a2]
  simp[execOp,ho,resolve,invoke,builtin,hx,hy,hrun,Result.andThen];have:=h W (e1▸hd) (bH.refl _ _);rw[h0] at this;exact hK _ _ this
 ·have hrun:=run_copy_row (P:=P) W dT sT o.type e g 0 n dC ⟨p,0,none⟩ n sC cur Td cs.toList hu hsz hd (by rw[hmin];simpa using hcs) (fun j v hj=>by rw[Addr.add_mid,Nat.zero_add];exact hs.cell (by simpa using hj)) (by simp;omega) h1;have e1:(cur.toList.take 0++cs.toList++cur.toList.drop (0+cs.toList.length)).toArray=cs:=by rw[List.take_zero,List.nil_append,List.drop_eq_nil_of_le (by simp;omega),List.append_nil]
  rw[e1] at hrun;simp[execOp,ho,resolve,invoke,builtin,hx,hy,hrun,Result.andThen];have:=h _ (hd.setRow cs) (bH.setRow _ _ _);rw[<-hcs] at this;exact hK _ _ this
theorem Bp{t e:TypeId}{n m:Nat}(hu:P.underlying t=some (.array n e))(hE:fT P e m)(cs:Array nK)(k:IntKind)(j:Nat)(hj:j<n):(Instr.index t (.agg cs) (.int k (j:Int))).run P W=.ok (.agg (cs.extract (j*m) (j*m+m))) W:=by
 obtain⟨⟨d,h1,h2⟩,h3⟩:=hE;have UA:(isAgg e).run P W=.ok true W:=by unfold isAgg;rw[Sem.run_bind,run_underlying h1 W];cases d<;>simp_all
 cases hq:P.info? e with
 |none=>simp[hq] at h3
 |some i=>
  have hs:i.size=m:=by simpa [hq] using h3
  have hsz:(sizeOf e).run P W=.ok m W:=by simp[sizeOf,typeInfo,hq,hs]
  have hj':(j:Int)<(n:Int):=nQ
  have hp:∀off,(part e cs off).run P W=.ok (.agg (cs.extract off (off+m))) W:=by intro off;unfold part;rw[Sem.run_bind,UA];simp[hsz]
  simp[Instr.index,run_underlying hu,asIntOf,hj,hsz,UA,part,go_sem]
theorem pT{t e:TypeId}{n m:Nat}(hu:P.underlying t=some (.array n e))(hE:fT P e m)(hgd:o.guard=none)(x y:Operand)(ho:o.op=.index t x y)(hx:a.eval x=.agg cs){k:IntKind}{j:Nat}(hy:a.eval y=.int k (j:Int))(hj:j<n)(hcs:cs.extract (j*m) (j*m+m)=cs')(h:wpList P ops Q rest (a.put o.dst (.agg cs')) W):wpList P ops Q (o::rest) a W:=by subst hcs;refine wpList_plain hgd fun _ hK=>?_;unfold Oper.wp execOp;simp only[ho,hx,hy,Sem.run_bind,Bp hu hE cs k j hj,Result.andThen_ok];exact hK _ _ h
theorem gZ{fn:Func}{p:Tmp}{R:Ending->nJ->Prop}{t:Array nK}(hT:fT P ty n)(hr:fn.results=#[.cell p ty])(hp:t.getD p undef=.pointer (some ⟨b,0,none⟩))(hb:ax W b T cs)(hn:cs.size=n)(h:R (.returned (.agg cs)) W):bodyPost P fn R .ret { tmps:=t,defers:=[] } W:=by obtain⟨⟨d,h1,h2⟩,h3⟩:=hT;subst hn;exact bodyPost_ret (results_cell_row hr t W b T cs (0,0) d hp hb h1 (by cases d<;>first|rfl|cases h2) h3) rfl h
end
section
open Go.Shelf
section
variable{X:Type}
def AV(S:Nat->Prop)(L:List X)(pre:List X)(J Jx:List X->nJ->Prop)(W:nJ)(b:Bool)(W':nJ):Prop:=
 bH S W W'/\(b=true->J (pre++L) W')/\(b=false->∃q,q <+: L/\q≠[]/\Jx (pre++q) W')
def Hw(P:Program)(It:X->Array nK->nJ->Prop)(S:Nat->Prop)(L:List X)(l:Nat)(J Jx:List X->nJ->Prop):Prop:=
 ∀(m:Nat) (pre:List X) (x:X) (vs:Array nK) (W:nJ),pre++[x] <+: L->J pre W->It x vs W ->
  YieldAt Fence.wide m P l vs W fun e W'=>∃b,e=.returned (.bool b)/\AV S [x] pre J Jx W b W'
def SB(S:Nat->Prop)(L:List X)(J Jx:List X->nJ->Prop)(W1:nJ)(e:Ending)(W':nJ):Prop:=∃v b,e=.returned v/\AV S L [] J Jx W1 b W'
def tD(P:Program)(fid:FuncId)(first caps:Array nK)(It:X->Array nK->nJ->Prop)(L:List X)(T Ok:Nat->Prop)(W1:nJ):Prop:=
 ∀(S:Nat->Prop) (l:Nat) (J Jx:List X->nJ->Prop),(∀b,S b->b<W1.heap.size/\Ok b)->(∀pre W W',J pre W->bH T W W'->J pre W')->(∀pre W W',Jx pre W->bH T W W'->Jx pre W') ->
  Hw P It S L l J Jx->J [] W1->Calls P fid ((first++#[.func (.yield l) #[] #[]])++caps) W1 (SB S L J Jx W1)
def MQ(S:Nat->Prop)(I:List X->nJ->Prop)(Ix:Code->List X->nJ->Prop)(xs:List X)(W:nJ):Exit->Act->nJ->Prop
 |.normal,_,W'=>bH S W W'/\I xs W'
 |.ret,_,W'=>bH S W W'/\Ix .ret xs W'
 |.exit id,_,W'=>bH S W W'/\Ix (.exit id) xs W'
 |.goto t,_,W'=>bH S W W'/\Ix (.goto t) xs W'
 |.panic _,_,_=>False
 |.outgrown,_,_=>False
def wj(T:Nat->Prop)(D:Nat)(b:Nat):Prop:=T b\/b=D\/b=D+1
def Ek(S:Nat->Prop)(D:Nat)(b:Nat):Prop:=S b\/b=D\/b=D+1
theorem yB{fid:FuncId}{first caps:Array nK}(hent:∀args w,(callFunc fid args).run nH w=.ok (.enter fid args) w)(It:X->Array nK->nJ->Prop)(L:List X)(T Ok:Nat->Prop){g:Operand}{ps:Array Tmp}{assign body:Code}{Q:Exit->Act->nJ->Prop}{a:Act}{w:nJ}(hg:a.eval g=.func (.func fid) first caps)(hT:∀b,T b->w.heap.size+2<=b)(Q9:∀W1,Below w.heap.size w W1->W1.heap.size=w.heap.size+2->tD nH fid first caps It L T Ok W1)(hsize:∀x vs W,It x vs W->vs.size=ps.size)(Ra:∀x vs W W',It x vs W->bH (Ek (fun _=>False) w.heap.size) W W'->It x vs W')(S:Nat->Prop)(hS:∀b,S b->b<w.heap.size/\Ok b)(hOk:Ok w.heap.size/\Ok (w.heap.size+1))(I:List X->nJ->Prop)(Ix:Code->List X->nJ->Prop)(hI:∀pre W W',I pre W->bH (wj T w.heap.size) W W'->I pre W')(hIx:∀c pre W W',Ix c pre W->bH (wj T w.heap.size) W W'->Ix c pre W')(h0:I [] w)(Ax:X->Array nK->Act->nJ->Prop)(hAx:∀x vs a' W W',Ax x vs a' W->bH (Ek (fun _=>False) w.heap.size) W W'->Ax x vs a' W')(hassign:∀(l m:Nat) (x:X) (vs:Array nK) (W:nJ) (K:Act->nJ->Prop),It x vs W->(∀a' W',bH (fun _=>False) W W'->Ax x vs a' W'->K a' W')->assign.wpIn (Fence.wide.inRound l) m nH (Exit.then K (fun _ _ _=>False)) { tmps:=(ps.zip vs).foldl (fun t (p,v)=>t.setIfInBounds p v) a.tmps,defers:=[] } W)(hbody:∀(l m:Nat) (pre:List X) (x:X) (vs:Array nK) (a':Act) (W:nJ),pre++[x] <+: L->I pre W->It x vs W->Ax x vs a' W->bH S w W->w.heap.size+2<=W.heap.size->body.wpIn (Fence.wide.inRound l) m nH (MQ S I Ix (pre++[x]) W) a' W)(hdone:∀W,I L W->bH S w W->W.heap[w.heap.size]?=some (.deferred (some []))->Q .normal { a with defers:={ target:=.collected w.heap.size,args:=#[] }::a.defers } W)(hstop:∀c pre W,pre <+: L->pre≠[]->Ix c pre W->bH S w W->W.heap[w.heap.size]?=some (.deferred (some []))->c.wp nH Q { a with defers:={ target:=.collected w.heap.size,args:=#[] }::a.defers } W):(Code.rangeFunc g ps assign body).wp nH Q a w:=by
 refine(wpIn_wide (n:=3)).1 (wpIn_rangeFunc ?_);intro fn _;rw[show Fence.wide.round=none from rfl];obtain⟨rec,qZ⟩:∃rec:LoopState->Option Code->Loop,rec=fun st pe=>{ state:=st,pending:=pe,fn,tmps:=a.tmps,params:=ps,assign,body,defers:=w.heap.size }:=⟨_,rfl⟩;refine QFK ?_;intro D hD W1 aH hs1;have hL1:W1.heap[D+1]?=some (.loop (rec .ready none)):=by rw[<-aH,hD];have:=World.alloc_heap_new (w.alloc (.deferred (some []))) (.loop (rec .ready none));rwa [World.size_alloc] at this
 have hK1:W1.heap[D]?=some (.deferred (some [])):=by rw[<-aH,hD];exact(Below.heap_alloc _ _ _ nV).trans (World.alloc_heap_new w _)
 have hw1:Below w.heap.size w W1:=by rw[<-aH];exact((Below.refl _ w).alloc (nR _) _).alloc nV _
 have Q9:=Q9 W1 hw1 (by rw[hs1,hD]);rw[<-hD] at hT hS hOk hI hIx Ra hAx hbody hdone hstop;have stay:∀ {U:Nat->Prop} {k:Nat} {o:Obj} {W W':nJ},W.heap[k]?=some o->bH U W W'->¬U k->W'.heap[k]?=some o:=fun h hb hn=>(hb.block _ (Array.getElem?_eq_some_iff.1 h).1 hn).trans h;have hTS:∀b,Ek S D b->b<W1.heap.size/\Ok b:=by
  rintro b (h|rfl|rfl)
  ·exact⟨by have:=(hS b h).1;omega,(hS b h).2⟩
  ·exact⟨nQ,hOk.1⟩
  ·exact⟨nQ,hOk.2⟩
 obtain⟨J,hJ⟩:∃J:List X->nJ->Prop,J=fun pre W=>I pre W/\W.heap[D+1]?=some (.loop (rec .ready none))/\W.heap[D]?=some (.deferred (some []))/\bH S w W/\D+2<=W.heap.size:=⟨_,rfl⟩;obtain⟨Jx,XR⟩:∃J:List X->nJ->Prop,J=fun pre W=>∃c,Ix c pre W/\W.heap[D+1]?=some (.loop (rec .done (some c)))/\W.heap[D]?=some (.deferred (some []))/\bH S w W/\D+2<=W.heap.size:=⟨_,rfl⟩;have xU:∀ {W W':nJ},bH S w W->bH (wj T D) W W'->bH S w W':=by
  intro W W' h k;refine⟨nT h.size k.size,k.os.trans h.os,k.tape.trans h.tape,k.output.trans h.output,fun b hb hn=>?_⟩;have hno:¬wj T D b:=by
   rintro(h'|h'|h')
   ·have:=hT b h';omega
   ·omega
   ·omega
  exact(k.block b (nL hb h.size) hno).trans (h.block b hb hn)
 have toOwn:∀ {W W':nJ},bH T W W'->bH (wj T D) W W':=fun k=>k.mono fun b h=>.inl h;have J7:∀pre W W',J pre W->bH T W W'->J pre W':=by subst hJ;rintro pre W W' ⟨k1,k2,k3,k4,k5⟩ hb;exact⟨hI _ _ _ k1 (toOwn hb),stay k2 hb (fun h=>by have:=hT _ h;omega),stay k3 hb (fun h=>by have:=hT _ h;omega),xU k4 (toOwn hb),nT k5 hb.size⟩
 have xp:∀pre W W',Jx pre W->bH T W W'->Jx pre W':=by subst XR;rintro pre W W' ⟨c,k1,k2,k3,k4,k5⟩ hb;exact⟨c,hIx _ _ _ _ k1 (toOwn hb),stay k2 hb (fun h=>by have:=hT _ h;omega),stay k3 hb (fun h=>by have:=hT _ h;omega),xU k4 (toOwn hb),nT k5 hb.size⟩
 have NO:∀ {b},b=D+1->wj T D b:=fun h=>.inr (.inr h);have hY:Hw nH It (Ek S D) L (D+1) J Jx:=by
  subst hJ XR;rintro m pre x vs V hpre ⟨k1,k2,k3,k4,k5⟩ hl;have hy:=run_yield (P:=nH) (args:=vs) k2 (by rw[qZ];exact hsize x vs V hl);rw[qZ] at hy;refine⟨fn,_,assign,body,hy,roundIn_of_wpIn trivial (hassign _ m x vs V _ hl ?_)⟩;intro a' W hgrow hax;have VA:∀ {A B:nJ},bH (fun _=>False) A B->bH (wj T D) A B:=fun k=>k.mono fun b h=>h.elim;replace k1:=hI _ _ _ k1 (VA hgrow);replace k2:=stay k2 hgrow (fun h=>h);replace k3:=stay k3 hgrow (fun h=>h);replace k4:=xU k4 (VA hgrow);replace k5:=nT k5 hgrow.size;replace hl:=Ra x vs _ _ hl (hgrow.mono fun b h=>h.elim);have DT:bH (Ek S D) V W:=hgrow.mono fun b h=>h.elim;clear hgrow hy;have hlt:D+1<W.heap.size:=nQ;have XA:bH (Ek (fun _=>False) D) W (W.putObj (D+1) (.loop { rec .ready none with state:=.busy })):=(bH.refl _ _).putObj (.inr (.inr rfl)) _;have hl':=Ra x vs _ _ hl XA;have acA:=hAx x vs a' _ _ hax XA;refine⟨_,run_beginRound k2 (by rw[qZ]),?_⟩;have hkb:bH (wj T D) W (W.putObj (D+1) (.loop { rec .ready none with state:=.busy })):=(bH.refl _ _).putObj (NO rfl) _;refine QDC ?_;intro JY hk2;refine wpIn_mono (hbody _ m pre x vs a' _ hpre (hI _ _ _ k1 hkb) hl' acA (xU k4 hkb) (by rw[World.putObj_size];exact k5)) ?_;have fin:∀(jump:Option Code) (W3:nJ),bH S (W.putObj (D+1) (.loop { rec .ready none with state:=.busy })) W3 ->
    (Instr.endRound (D+1) jump).run nH W3=.ok (.bool jump.isNone) (W3.putObj (D+1) (.loop (rec (if jump.isNone then .ready else .done) jump))) /\
    (W3.putObj (D+1) (.loop (rec (if jump.isNone then .ready else .done) jump))).heap[D+1]?=some (.loop (rec (if jump.isNone then .ready else .done) jump)) /\
    (W3.putObj (D+1) (.loop (rec (if jump.isNone then .ready else .done) jump))).heap[D]?=some (.deferred (some [])) /\
    bH (wj T D) W3 (W3.putObj (D+1) (.loop (rec (if jump.isNone then .ready else .done) jump)))/\bH (Ek S D) W (W3.putObj (D+1) (.loop (rec (if jump.isNone then .ready else .done) jump)))/\bH S w (W3.putObj (D+1) (.loop (rec (if jump.isNone then .ready else .done) jump)))/\D+2<=(W3.putObj (D+1) (.loop (rec (if jump.isNone then .ready else .done) jump))).heap.size:=fun jump W3 si=>by
   have hz:D+2<=W3.heap.size:=by have:=si.size;rw[World.putObj_size] at this;omega
   have ZS:=(si.block (D+1) (by rw[World.putObj_size];omega) (fun hc=>by have:=(hS _ hc).1;omega)).trans JY
   have LU:=(si.block D (by rw[World.putObj_size];omega) (fun hc=>by have:=(hS _ hc).1;omega)).trans hk2
   have hrun:=run_endRound (P:=nH) jump ZS
   have hend:bH (wj T D) W3 (W3.putObj (D+1) (.loop (rec (if jump.isNone then .ready else .done) jump))):=(bH.refl _ _).putObj (NO rfl) _
   have ZY:bH (Ek S D) W3 (W3.putObj (D+1) (.loop (rec (if jump.isNone then .ready else .done) jump))):=(bH.refl _ _).putObj (.inr (.inr rfl)) _
   refine⟨?_,World.putObj_heap_same nQ,(World.putObj_heap_other nQ).trans LU,hend,((XA.mono (fun b h=>by rcases h with h|h;exact h.elim;exact .inr h)).trans (si.mono fun b h=>.inl h)).trans ZY,xU ((xU k4 hkb).trans si) hend,by rw[World.putObj_size];exact hz⟩
   rw[qZ] at hrun ⊢
   exact hrun
  rintro e a3 W3 hp;cases e with
  |normal=>
   obtain⟨si,J1⟩:=hp
   obtain⟨hr,f1,f2,f3,f4,f5,f6⟩:=fin none W3 si
   refine⟨_,_,hr,true,rfl,DT.trans f4,fun _=>?_,fun h=>by cases h⟩
   exact⟨hI _ _ _ J1 f3,f1,f2,f5,f6⟩
  |ret=>
   obtain⟨si,J1⟩:=hp
   obtain⟨hr,f1,f2,f3,f4,f5,f6⟩:=fin (some .ret) W3 si
   refine⟨_,_,hr,false,rfl,DT.trans f4,(fun h=>by cases h),fun _=>?_⟩
   exact⟨[x],List.prefix_refl _,nV,.ret,hIx _ _ _ _ J1 f3,f1,f2,f5,f6⟩
  |exit id=>
   obtain⟨si,J1⟩:=hp
   obtain⟨hr,f1,f2,f3,f4,f5,f6⟩:=fin (some (.exit id)) W3 si
   refine⟨_,_,hr,false,rfl,DT.trans f4,(fun h=>by cases h),fun _=>?_⟩
   exact⟨[x],List.prefix_refl _,nV,.exit id,hIx _ _ _ _ J1 f3,f1,f2,f5,f6⟩
  |goto t=>
   obtain⟨si,J1⟩:=hp
   obtain⟨hr,f1,f2,f3,f4,f5,f6⟩:=fin (some (.goto t)) W3 si
   refine⟨_,_,hr,false,rfl,DT.trans f4,(fun h=>by cases h),fun _=>?_⟩
   exact⟨[x],List.prefix_refl _,nV,.goto t,hIx _ _ _ _ J1 f3,f1,f2,f5,f6⟩
  |panic ch=>exact hp.elim
  |outgrown=>exact hp.elim
 have k1:bH (wj T D) w W1:=bH.dK hw1;have Xu:=Q9 (Ek S D) (D+1) J Jx hTS J7 xp hY (by subst hJ;exact⟨hI _ _ _ h0 k1,hL1,hK1,.dK hw1,nQ⟩);refine⟨D+1,[{ target:=.collected w.heap.size,args:=#[] }],W1,{ target:=.fn (.func fid) caps,args:=first++#[.func (.yield (D+1)) #[] #[]] },W1,fid,
  (first++#[.func (.yield (D+1)) #[] #[]])++caps,W1,?_,?_,fun _ _=>trivial,?_,fun h=>(by simp[Fence.wide] at h),?_⟩
 ·rw[<-aH,qZ,hD];exact run_enterLoop_outer _ _ _ _ _
 ·simp only[resolve,hg];simp[go_sem]
 ·simp[invoke,go_sem,hent]
 ·refine callsIn_wide.2 (Xu.mono ?_);rintro e W2 ⟨v,b,rfl,hK,ht,hf⟩;cases b with
  |true=>
   have:=ht rfl
   subst hJ
   obtain⟨k1,k2,k3,k4,k5⟩:=this
   refine⟨none,_,by have:=run_endLoop (P:=nH) k2 (by rw[qZ];simp);rw[qZ] at this;exact this,?_⟩
   rw[<-hD]
   exact hdone _ (hI _ _ _ k1 ((bH.refl _ _).putObj (NO rfl) _)) (xU k4 ((bH.refl _ _).putObj (NO rfl) _)) ((World.putObj_heap_other nQ).trans k3)
  |false=>
   obtain⟨q,hq,Up,hx⟩:=hf rfl
   subst XR
   obtain⟨c,k1,k2,k3,k4,k5⟩:=hx
   refine⟨some c,_,by have:=run_endLoop (P:=nH) k2 (by rw[qZ];simp);rw[qZ] at this;exact this,?_⟩
   rw[<-hD]
   exact wpIn_wide.2 (hstop c q _ hq Up (hIx _ _ _ _ k1 ((bH.refl _ _).putObj (NO rfl) _)) (xU k4 ((bH.refl _ _).putObj (NO rfl) _)) ((World.putObj_heap_other nQ).trans k3))
end
end
section
variable{P:Program}{ops:Array Oper}{Q:Exit->Act->nJ->Prop}{md:Region.Mode}{n l:Nat}
def tM(o:Oper):Bool:=match o.op with|.defer _=>false|_=>true
theorem Dz{o:Oper}(h:tM o=true):∀c,o.op≠.defer c:=by intro c hc;unfold tM at h;rw[hc] at h;cases h
theorem Ju{o:Oper}{a:Act}{w:nJ}{K:Act->nJ->Prop}(hd:tM o=true)(h:o.wp P a w K Q):o.wpIn (Fence.wide.inRound l) n P a w K Q:=by
 unfold Oper.wp at h;unfold Oper.wpIn;refine⟨fun _ _=>trivial,?_⟩;rw[Oper.semAt_plain _ _ _ (Dz hd)];generalize (execOp a.eval o).run P w=r at h;cases r with
 |ok x w'=>
  cases x with
  |value v=>exact h
  |skip=>exact h
  |defer d=>exact h
  |enter f args=>exact⟨fun h=>by simp[Fence.wide] at h,(CallsIn.inRound l (callsIn_wide.2 h))⟩
  |row r args=>exact⟨fun h=>by simp[Fence.wide] at h,fun c cs _=>let ⟨v,w',r,s⟩:=h c cs;⟨v,w',r,stepsIn_wide.2 s⟩⟩
  |_=>first|exact h|exact h.elim
 |halt x w'=>cases x<;>first|exact h|exact h.elim
theorem Ir(hd:ops.all tM=true)(hno:¬LetsOut Q){i:Nat}{K:Act->nJ->Prop}{a:Act}{w:nJ}(h:wpOp P ops Q i K a w):wpOpIn (Fence.wide.inRound l) n P ops Q i K a w:=by
 unfold wpOp at h;unfold wpOpIn;split
 ·rename_i hi;simp only[hi] at h;exact h
 ·rename_i o hi;simp only[hi] at h;split
  ·rename_i hw;simp only[hw,if_true] at h;rcases h with h|h
   ·exact Ju (by rw[Array.all_eq_true_iff_forall_mem] at hd;exact hd o (Array.mem_of_getElem? hi)) h
   ·exact absurd h.2 hno
  ·rename_i hw;simp only[hw] at h;exact⟨fun _ _=>trivial,h⟩
theorem CU(hd:ops.all tM=true)(hno:¬LetsOut Q):∀(fuel:Nat) (listed:Array Bool) (a:Act) (w:nJ),wpAny P md ops Q fuel listed a w->wpAnyIn (Fence.wide.inRound l) n P md ops Q fuel listed a w
 |0,_,_,_,h=>h
 |fuel+1,_,_,_,h=>⟨h.1,fun i hi=>wpOpIn_mono (fun a' w' h'=>CU hd hno fuel _ a' w' h') (Ir hd hno (h.2 i hi))⟩
theorem Dl{S:nJ->Prop}{id:Nat}{a:Act}{w:nJ}(hm:P.follows .mixedOrders=true)(hd:ops.all tM=true)(hno:¬LetsOut Q)(h:wpAnyH P .any ops Q S ops.size (Array.replicate ops.size false) a { w with drawn:=w.drawn+1 }):(Code.region id ops true).wpIn (Fence.wide.inRound l) n P Q a w:=
 wpIn_region_any hm (CU hd hno _ _ _ _ (wpAny_of_held _ _ _ _ h))
end
end Go.Proofs.YtdmedlkonaclnaaGreatDoor
