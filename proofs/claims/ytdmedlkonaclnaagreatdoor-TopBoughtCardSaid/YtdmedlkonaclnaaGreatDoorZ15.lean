/- A part of the proof that a law of layer 12 holds, cut small by a program (names and blanks): Has. -/
import Derived.OrdersHeld
import Derived.Test.YtdmedlkonaclnaaGreatDoorZ1
set_option maxRecDepth 100000
set_option maxHeartbeats 40000000
set_option linter.unusedVariables false
set_option linter.unusedSimpArgs false
namespace Go.Proofs.YtdmedlkonaclnaaGreatDoor
open Go.RowKit
open Go renaming World → nJ, Value → nK
section
open Go
def early(N:List Nat)(l:Array Bool):Bool:=N.all fun n=>!(l.getD n true)
def yJ(md:Region.Mode)(ops:Array Oper)(N:List Nat)(i:Nat):Bool:=N.all fun n=>n != i&&match ops[n]? with
 |some o=>o.after.any fun e=>Region.binds md e&&e.on==i
 |none=>true
theorem xw{N:List Nat}{l:Array Bool}{i:Nat}(h:early N l=true)(hi:i∉N):early N (l.setIfInBounds i true)=true:=by unfold early at *;rw[List.all_eq_true] at *;intro n hn;rw[getD_set_ne true (show i≠n by rintro rfl;exact hi hn)];exact h n hn
theorem uP{N:List Nat}{l:Array Bool}{i:Nat}(hi:i∉N):early N (l.setIfInBounds i true)=early N l:=by
 unfold early;refine Bool.eq_iff_iff.2 ?_;rw[List.all_eq_true,List.all_eq_true];refine⟨fun h n hn=>?_,fun h n hn=>?_⟩
 ·have:=h n hn;rwa [getD_set_ne true (show i≠n by rintro rfl;exact hi hn)] at this
 ·rw[getD_set_ne true (show i≠n by rintro rfl;exact hi hn)];exact h n hn
section
variable{P:Program}{md:Region.Mode}{ops:Array Oper}{Q:Exit->Act->nJ->Prop}{S:nJ->Prop}{N:List Nat}
def wpAnyS(P:Program)(md:Region.Mode)(ops:Array Oper)(Q:Exit->Act->nJ->Prop)(S:nJ->Prop)(N:List Nat):Nat->Array Bool->Act->nJ->Prop
 |0,l,a,w=>Region.ready md ops l=[]/\Q .normal a w
 |f+1,l,a,w=>(Region.ready md ops l=[]->Q .normal a w) /\
  ∀i∈Region.ready md ops l,wpOp P ops Q i (fun a' w'=>(early N (l.setIfInBounds i true)=true->S w')/\wpAnyS P md ops Q S N f (l.setIfInBounds i true) a' w') a w
theorem yP:∀(f:Nat) (l:Array Bool) (a:Act) (w:nJ),wpAnyS P md ops Q S N f l a w->wpAny P md ops Q f l a w
 |0,_,_,_,h=>h
 |f+1,_,_,_,h=>⟨h.1,fun i hi=>wpOp_mono (fun _ _ k=>yP f _ _ _ k.2) (h.2 i hi)⟩
theorem wpAnyS_first{i:Nat}{oi:Oper}{v:nK}(hi:ops[i]?=some oi)(hsel:∀(j:Nat) (o:Oper) cs b,ops[j]?=some o->o.op≠.select cs b)(hQ:∀c a w,Q (.panic c) (a.put oi.dst v) w->Q (.panic c) a w)(ZX:i∉N)(hNi:∀n∈N,∀o,ops[n]?=some o->∃e∈o.after,Region.binds md e=true/\e.on=i):∀(f:Nat) (l:Array Bool) (a:Act) (w:nJ),(∀j oj,ops[j]?=some oj->j≠i->l.getD j true=false->(∀e∈oj.after,Region.binds md e=true->e.on≠i)->oi.apart ops oj=true)->i∈Region.ready md ops l->early N l=true->YieldsIf P ops S oi v a->S w->wpAnyS P md ops Q S N f (l.setIfInBounds i true) (a.put oi.dst v) w->wpAnyS P md ops Q S N (f+1) l a w:=by
 intro f;induction f with
 |zero=>
  intro l a w _ hr _ hy hS H
  refine⟨fun h0=>(by rw[h0] at hr;cases hr),fun j hj=>?_⟩
  rcases Decidable.em (j=i) with rfl|hne
  ·exact hy.wpOp hi hS ⟨fun _=>hS,H⟩
  ·have:=ready_mono hj hne;rw[H.1] at this;cases this
 |succ f ih=>
  intro l a w hfree hr hl hy hS H
  refine⟨fun h0=>(by rw[h0] at hr;cases hr),fun j hj=>?_⟩
  rcases Decidable.em (j=i) with rfl|hne
  ·exact hy.wpOp hi hS ⟨fun _=>hS,H⟩
  ·obtain⟨hun,oj,VB,hall⟩:=mem_ready.1 hj;have hin:=(mem_ready.1 hr).1;have hnot:∀e∈oj.after,Region.binds md e=true->e.on≠i:=fun e he hb QZ=>by
    have h1:=hall e he hb;rw[QZ] at h1;rcases Nat.lt_or_ge i l.size with h'|h'
    ·simp[h'] at hin h1;rw[hin] at h1;cases h1
    ·simp[Array.getElem?_eq_none h'] at h1
   have hjN:j∉N:=fun hm=>by obtain⟨e,he,hb,QZ⟩:=hNi j hm oj VB;exact hnot e he hb QZ
   have JY:=xw (xw hl ZX) hjN;have J3:∀k ok,ops[k]?=some ok->k≠i->(l.setIfInBounds j true).getD k true=false->(∀e∈ok.after,Region.binds md e=true->e.on≠i)->oi.apart ops ok=true:=fun k ok hk hki hku hno=>by
    refine hfree k ok hk hki ?_ hno;rcases Decidable.em (j=k) with rfl|Uw
    ·exact hun
    ·rwa [getD_set_ne true Uw] at hku
   refine wpOp_mono (fun a' w' h3=>⟨fun _=>h3.2.1 JY,ih (l.setIfInBounds j true) a' w' J3 (ready_mono hr (Ne.symm hne)) (xw hl hjN) h3.1 (h3.2.1 JY) ?_⟩)
    (wpOp_putIf VB (hfree j oj VB hne hun hnot) (fun cs b=>hsel i oi cs b hi) (fun cs b=>hsel j oj cs b VB) hQ hy (H.2 j (ready_mono hj hne)))
   rw[Array.setIfInBounds_comm _ _ hne];exact h3.2.2
theorem Bm{i:Nat}{oi:Oper}{v:nK}(hi:ops[i]?=some oi)(hsel:∀(j:Nat) (o:Oper) cs b,ops[j]?=some o->o.op≠.select cs b)(hQ:∀c a w,Q (.panic c) (a.put oi.dst v) w->Q (.panic c) a w)(ZX:i∉N):∀(f:Nat) (l:Array Bool) (a:Act) (w:nJ),(∀j oj,ops[j]?=some oj->j≠i->l.getD j true=false->(∀e∈oj.after,Region.binds md e=true->e.on≠i)->oi.apart ops oj=true)->i∈Region.ready md ops l->YieldsIf P ops (fun _=>True) oi v a->(early N l=true->S w)->wpAnyS P md ops Q S N f (l.setIfInBounds i true) (a.put oi.dst v) w->wpAnyS P md ops Q S N (f+1) l a w:=by
 intro f;induction f with
 |zero=>
  intro l a w _ hr hy hS H
  refine⟨fun h0=>(by rw[h0] at hr;cases hr),fun j hj=>?_⟩
  rcases Decidable.em (j=i) with rfl|hne
  ·exact hy.wpOp hi trivial ⟨fun h=>hS (by rwa [uP ZX] at h),H⟩
  ·have:=ready_mono hj hne;rw[H.1] at this;cases this
 |succ f ih=>
  intro l a w hfree hr hy hS H
  refine⟨fun h0=>(by rw[h0] at hr;cases hr),fun j hj=>?_⟩
  rcases Decidable.em (j=i) with rfl|hne
  ·exact hy.wpOp hi trivial ⟨fun h=>hS (by rwa [uP ZX] at h),H⟩
  ·obtain⟨hun,oj,VB,hall⟩:=mem_ready.1 hj;have hin:=(mem_ready.1 hr).1;have hnot:∀e∈oj.after,Region.binds md e=true->e.on≠i:=fun e he hb QZ=>by
    have h1:=hall e he hb;rw[QZ] at h1;rcases Nat.lt_or_ge i l.size with h'|h'
    ·simp[h'] at hin h1;rw[hin] at h1;cases h1
    ·simp[Array.getElem?_eq_none h'] at h1
   have hco:∀l:Array Bool,early N ((l.setIfInBounds i true).setIfInBounds j true)=early N (l.setIfInBounds j true):=fun l=>by rw[Array.setIfInBounds_comm _ _ (Ne.symm hne),uP ZX]
   have J3:∀k ok,ops[k]?=some ok->k≠i->(l.setIfInBounds j true).getD k true=false->(∀e∈ok.after,Region.binds md e=true->e.on≠i)->oi.apart ops ok=true:=fun k ok hk hki hku hno=>by
    refine hfree k ok hk hki ?_ hno;rcases Decidable.em (j=k) with rfl|Uw
    ·exact hun
    ·rwa [getD_set_ne true Uw] at hku
   refine wpOp_mono (fun a' w' h3=>⟨fun h=>h3.2.1 (by rw[hco];exact h),ih (l.setIfInBounds j true) a' w' J3 (ready_mono hr (Ne.symm hne)) h3.1 (fun h=>h3.2.1 (by rw[hco];exact h)) ?_⟩)
    (wpOp_putIf VB (hfree j oj VB hne hun hnot) (fun cs b=>hsel i oi cs b hi) (fun cs b=>hsel j oj cs b VB) hQ hy (H.2 j (ready_mono hj hne)))
   rw[Array.setIfInBounds_comm _ _ hne];exact h3.2.2
theorem C7{i:Nat}{oi:Oper}{v:nK}{f:Nat}{l:Array Bool}{a:Act}{w:nJ}(hi:ops[i]?=some oi)(hs:Region.noSelect ops=true)(hf:Region.free md ops l i=true)(hr:(Region.ready md ops l).contains i=true)(hN:N.contains i=false)(hQ:∀c a w,Q (.panic c) (a.put oi.dst v) w->Q (.panic c) a w)(hy:YieldsIf P ops (fun _=>True) oi v a)(hS:early N l=true->S w)(h:wpAnyS P md ops Q S N f (l.setIfInBounds i true) (a.put oi.dst v) w):wpAnyS P md ops Q S N (f+1) l a w:=
 Bm hi (Region.noSelect_spec hs) hQ (fun hm=>by rw[List.contains_iff_mem.2 hm] at hN;cases hN) f l a w (Region.free_spec hi hf) (by simpa using hr) hy hS h
theorem Ew{i:Nat}{oi:Oper}{v:nK}{f:Nat}{l:Array Bool}{a:Act}{w:nJ}(hi:ops[i]?=some oi)(hs:Region.noSelect ops=true)(hf:Region.free md ops l i=true)(hr:(Region.ready md ops l).contains i=true)(hN:yJ md ops N i=true)(he:early N l=true)(hQ:∀c a w,Q (.panic c) (a.put oi.dst v) w->Q (.panic c) a w)(hy:YieldsIf P ops S oi v a)(hS:S w)(h:wpAnyS P md ops Q S N f (l.setIfInBounds i true) (a.put oi.dst v) w):wpAnyS P md ops Q S N (f+1) l a w:=by
 unfold yJ at hN;rw[List.all_eq_true] at hN;refine wpAnyS_first hi (Region.noSelect_spec hs) hQ (fun hm=>?_) (fun n hm o ho=>?_) f l a w (Region.free_spec hi hf) (by simpa using hr) he hy hS h
 ·have:=hN i hm;simp at this
 ·have:=hN n hm;rw[ho] at this;simp only[Bool.and_eq_true,Array.any_eq_true'] at this;obtain⟨_,e,h1,h2,h3⟩:=this;exact⟨e,h1,h2,by simpa using h3⟩
theorem aY{rs:List Nat}{f:Nat}{l:Array Bool}{a:Act}{w:nJ}(hr:Region.ready md ops l=rs)(hne:rs≠[])(h:∀i∈rs,wpOp P ops Q i (fun a' w'=>(early N (l.setIfInBounds i true)=true->S w')/\wpAnyS P md ops Q S N f (l.setIfInBounds i true) a' w') a w):wpAnyS P md ops Q S N (f+1) l a w:=
 ⟨fun h0=>absurd (hr▸h0) hne,hr▸h⟩
theorem eW{l:Array Bool}{a:Act}{w:nJ}(hr:Region.ready md ops l=[])(h:Q .normal a w):∀f,wpAnyS P md ops Q S N f l a w
 |0=>⟨hr,h⟩
 |_+1=>⟨fun _=>h,by rw[hr];simp⟩
def su(md:Region.Mode)(ops:Array Oper)(l:Array Bool)(i:Nat):Bool:=Region.noSelect ops&&Region.free md ops l i&&(Region.ready md ops l).contains i
theorem uz{l:Array Bool}{i:Nat}:su md ops l i=true↔(Region.noSelect ops=true/\Region.free md ops l i=true)/\(Region.ready md ops l).contains i=true:=by unfold su;rw[Bool.and_eq_true,Bool.and_eq_true]
theorem Y3(i:Nat)(v:nK){oi:Oper}{f:Nat}{l:Array Bool}{a:Act}{w:nJ}(hi:ops[i]?=some oi)(hk:(su md ops l i && !N.contains i)=true)(hy:YieldsIf P ops (fun _=>True) oi v a)(hS:early N l=true->S w)(h:wpAnyS P md ops Q S N f (l.setIfInBounds i true) (a.put oi.dst v) w)(hQ:∀c a w,Q (.panic c) (a.put oi.dst v) w->Q (.panic c) a w:=by exact fun _ _ _ h=>h):wpAnyS P md ops Q S N (f+1) l a w:=by rw[Bool.and_eq_true] at hk;have k:=uz.1 hk.1;exact C7 hi k.1.1 k.1.2 k.2 (by simpa using hk.2) hQ hy hS h
theorem iu(i:Nat)(v:nK){oi:Oper}{f:Nat}{l:Array Bool}{a:Act}{w:nJ}(hi:ops[i]?=some oi)(hk:(su md ops l i&&yJ md ops N i&&early N l)=true)(hy:YieldsIf P ops S oi v a)(hS:S w)(h:wpAnyS P md ops Q S N f (l.setIfInBounds i true) (a.put oi.dst v) w)(hQ:∀c a w,Q (.panic c) (a.put oi.dst v) w->Q (.panic c) a w:=by exact fun _ _ _ h=>h):wpAnyS P md ops Q S N (f+1) l a w:=by rw[Bool.and_eq_true,Bool.and_eq_true] at hk;have k:=uz.1 hk.1.1;exact Ew hi k.1.1 k.1.2 k.2 hk.1.2 hk.2 hQ hy hS h
theorem dV(i:Nat)(v:nK){oi:Oper}{f:Nat}{l:Array Bool}{a:Act}{w:nJ}(hi:ops[i]?=some oi)(hk:su md ops l i=true)(hy:YieldsIf P ops S oi v a)(hS:S w)(h:wpAnyH P md ops Q S f (l.setIfInBounds i true) (a.put oi.dst v) w)(hQ:∀c a w,Q (.panic c) (a.put oi.dst v) w->Q (.panic c) a w:=by exact fun _ _ _ h=>h):wpAnyH P md ops Q S (f+1) l a w:=by have k:=uz.1 hk;exact wpAnyH_take hi k.1.1 k.1.2 k.2 hQ hy hS h
theorem Eu{i:Nat}{o:Oper}{K:Act->nJ->Prop}{a:Act}{w:nJ}(hi:ops[i]?=some o)(hw:Region.wanted o (yielded ops a.tmps)=true)(h:o.wp P a w K Q):wpOp P ops Q i K a w:=by unfold wpOp;rw[hi];show if Region.wanted _ _=true then _ else _;rw[if_pos hw];exact Or.inl h
theorem wpS_pq(i:Nat)(v:nK){oi:Oper}{f:Nat}{l:Array Bool}{a:Act}{w:nJ}(hS:early N l=true->S w)(h:wpAnyS P md ops Q S N f (l.setIfInBounds i true) (a.put oi.dst v) w)(hi:ops[i]?=some oi:=by exact rfl)(hk:(su md ops l i && !N.contains i)=true:=by kernel_rfl)(hy:YieldsIf P ops (fun _=>True) oi v a:=by exact Or.inl ⟨nY,by intro w5 _;go_simp⟩)(hQ:∀c a w,Q (.panic c) (a.put oi.dst v) w->Q (.panic c) a w:=by exact fun _ _ _ h=>h):wpAnyS P md ops Q S N (f+1) l a w:=Y3 i v hi hk hy hS h hQ
theorem wpS_tq(i:Nat)(v:nK){oi:Oper}{f:Nat}{l:Array Bool}{a:Act}{w:nJ}(hS:S w)(h:wpAnyS P md ops Q S N f (l.setIfInBounds i true) (a.put oi.dst v) w)(hi:ops[i]?=some oi:=by exact rfl)(hk:(su md ops l i&&yJ md ops N i&&early N l)=true:=by kernel_rfl)(hy:YieldsIf P ops S oi v a:=by exact Or.inl ⟨nY,by intro w5 _;go_simp⟩)(hQ:∀c a w,Q (.panic c) (a.put oi.dst v) w->Q (.panic c) a w:=by exact fun _ _ _ h=>h):wpAnyS P md ops Q S N (f+1) l a w:=iu i v hi hk hy hS h hQ
theorem wpH_tq(i:Nat)(v:nK){oi:Oper}{f:Nat}{l:Array Bool}{a:Act}{w:nJ}(hS:S w)(h:wpAnyH P md ops Q S f (l.setIfInBounds i true) (a.put oi.dst v) w)(hi:ops[i]?=some oi:=by exact rfl)(hk:su md ops l i=true:=by kernel_rfl)(hy:YieldsIf P ops S oi v a:=by exact Or.inl ⟨nY,by intro w5 _;go_simp⟩)(hQ:∀c a w,Q (.panic c) (a.put oi.dst v) w->Q (.panic c) a w:=by exact fun _ _ _ h=>h):wpAnyH P md ops Q S (f+1) l a w:=dV i v hi hk hy hS h hQ
theorem eU{id:Nat}{a:Act}{w:nJ}(hm:P.follows .mixedOrders=true)(h:wpAnyS P .any ops Q S N ops.size (Array.replicate ops.size false) a { w with drawn:=w.drawn+1 }):(Code.region id ops true).wp P Q a w:=
 wp_region_any hm (yP _ _ _ _ h)
end
end
end Go.Proofs.YtdmedlkonaclnaaGreatDoor
