/- A part of the proof that a law of layer 12 holds, cut small by a program (names and blanks): Val. -/
import Derived.OrdersHeld
import Derived.KernelRfl
import Derived.Test.YtdmedlkonaclnaaGreatDoorZ1
set_option maxRecDepth 100000
set_option maxHeartbeats 40000000
set_option linter.unusedVariables false
set_option linter.unusedSimpArgs false
namespace Go.Proofs.YtdmedlkonaclnaaGreatDoor
open Go.RowKit
open Nat renaming le_refl → nR
open Go renaming World → nJ, Value → nK
section
open Go
namespace OH
section
variable{P:Program}{md:Region.Mode}{ops:Array Oper}{Q:Exit->Act->nJ->Prop}{S:nJ->Prop}
theorem Ct{l:Array Bool}(h:l.toList.count false=0):Region.ready md ops l=[]:=by
 rw[List.eq_nil_iff_forall_not_mem];intro j hj;have h1:=(mem_ready.1 hj).1;have h2:=List.count_eq_zero.1 h;rcases Nat.lt_or_ge j l.size with hl|hl
 ·rw[Array.getD_eq_getD_getElem?,Array.getElem?_eq_getElem hl] at h1;exact h2 (by rw[Array.mem_toList_iff];exact h1▸Array.getElem_mem hl)
 ·rw[Array.getD_eq_getD_getElem?,Array.getElem?_eq_none hl] at h1;cases h1
theorem QJ{l:Array Bool}{i:Nat}(h:l.getD i true=false):(l.setIfInBounds i true).toList.count false+1=l.toList.count false:=by
 have hl:i<l.size:=by
  rcases Nat.lt_or_ge i l.size with hl|hl
  ·exact hl
  ·rw[Array.getD_eq_getD_getElem?,Array.getElem?_eq_none hl] at h;cases h
 rw[Array.getD_eq_getD_getElem?,Array.getElem?_eq_getElem hl] at h;have h1:l.toList[i]'(by simpa using hl)=false:=by simpa using h
 have h2:0<l.toList.count false:=List.count_pos_iff.2 (h1▸List.getElem_mem _);have h3:(l.setIfInBounds i true).toList=l.toList.set i true:=nV;rw[h3,List.count_set (by simpa using hl),h1,show(if (false==false)=true then 1 else 0)=1 from rfl,show(if (true==false)=true then 1 else 0)=0 from rfl];omega
theorem inv(Inv:Array Bool->Act->nJ->Prop)(hstep:∀l a w i,Inv l a w->i∈Region.ready md ops l->wpOp P ops Q i (fun a' w'=>S w'/\Inv (l.setIfInBounds i true) a' w') a w)(hend:∀l a w,Inv l a w->Region.ready md ops l=[]->Q .normal a w):∀f l a w,l.toList.count false<=f->Inv l a w->wpAnyH P md ops Q S f l a w:=by
 intro f;induction f with
 |zero=>intro l a w hf h;exact⟨Ct nQ,hend l a w h (Ct nQ)⟩
 |succ f ih=>
  intro l a w hf h
  refine⟨hend l a w h,fun i hi=>wpOp_mono (fun a' w' k=>⟨k.1,ih _ a' w' ?_ k.2⟩) (hstep l a w i h hi)⟩
  have:=QJ (mem_ready.1 hi).1
  omega
end
def pz(ops:Array Oper)(i e:Nat):Bool:=((ops[i]?).map fun o=>o.after.any fun x=>Region.binds .any x&&x.on==e).getD false
def Kf(ops:Array Oper):Bool:=(List.range ops.size).all fun i=>((ops[i]?).map fun o=>o.after.all fun e=>!Region.binds .any e||decide (e.on<i)).getD true
def L6(ops:Array Oper)(c ja:Nat):Bool:=(List.range ops.size).all fun j=>decide (j<=c)||j==ja||(List.range j).any fun e=>decide (c<=e)&&e != ja&&pz ops j e
def Sw(ops:Array Oper)(c:Nat):Bool:=(List.range c).all fun i=>(List.range (c+1)).any fun j=>decide (i<j)&&pz ops j i
theorem JI{l:Array Bool}{i:Nat}(h:l.getD i true=false):i<l.size:=by
 rcases Nat.lt_or_ge i l.size with hl|hl
 ·exact hl
 ·rw[Array.getD_eq_getD_getElem?,Array.getElem?_eq_none hl] at h;cases h
theorem wO{ops:Array Oper}{l:Array Bool}{i:Nat}(hi:i∈Region.ready .any ops l){e:Nat}(hd:pz ops i e=true):l.getD e true=true:=by
 obtain⟨_,o,ho,h⟩:=mem_ready.1 hi;unfold pz at hd;rw[ho] at hd;simp only[Option.map_some,Option.getD_some,Array.any_eq_true',Bool.and_eq_true,beq_iff_eq] at hd;obtain⟨x,hx,hb,rfl⟩:=hd;have h1:=h x hx hb;rcases Nat.lt_or_ge x.on l.size with hl|hl
 ·rw[Array.getD_eq_getD_getElem?,Array.getElem?_eq_getElem hl] at h1 ⊢;exact h1
 ·rw[Array.getD_eq_getD_getElem?,Array.getElem?_eq_none hl];rfl
theorem KQ{ops:Array Oper}{l:Array Bool}(hf:Kf ops=true)(hs:l.size=ops.size)(hr:Region.ready .any ops l=[]):∀k,k<ops.size->l.getD k true=true:=by
 intro k;induction k using Nat.strongRecOn with
 |ind k ih=>
  intro hk
  rcases hq:l.getD k true with _|_
  ·exfalso;have:k∈Region.ready .any ops l:=mem_ready.2 ⟨hq,ops[k],Array.getElem?_eq_getElem hk,fun e he hb=>by
    have h1:=List.all_eq_true.1 hf k (List.mem_range.2 hk)
    rw[Array.getElem?_eq_getElem hk] at h1
    simp only[Option.map_some,Option.getD_some,Array.all_eq_true',Bool.or_eq_true,Bool.not_eq_true',decide_eq_true_eq] at h1
    have h2:=(h1 e he).resolve_left (by rw[hb];decide)
    have h3:=ih e.on h2 nQ
    rw[Array.getD_eq_getD_getElem?,Array.getElem?_eq_getElem (by omega:e.on<l.size)] at h3 ⊢
    exact h3⟩
   rw[hr] at this;cases this
  ·rfl
theorem Aj{l:Array Bool}{i:Nat}(k:Nat)(hi:i<l.size):(l.setIfInBounds i true).getD k true=if k=i then true else l.getD k true:=by
 by_cases h:k=i
 ·subst h;simp[Array.getD_eq_getD_getElem?,hi]
 ·rw[if_neg h,getD_set_ne true (Ne.symm h)]
def uV(vs:Nat->nK)(i:Nat)(v:nK):Nat->nK:=fun j=>if j=i then v else vs j
theorem oz(vs:Nat->nK)(i:Nat)(v:nK):uV vs i v i=v:=if_pos rfl
theorem wG{vs:Nat->nK}{i j:Nat}{v:nK}(h:j≠i):uV vs i v j=vs j:=if_neg h
def jH:List Oper->(Nat->nK)->Nat->Act->Act
 |[],_,_,a=>a
 |o::r,vs,k,a=>jH r vs (k+1) (a.put o.dst (vs k))
def yp(l:List Oper):List Nat:=l.filterMap (·.dst)
theorem TF(a:Act)(d:Nat)(u v:nK):(a.put (some d) u).put (some d) v=a.put (some d) v:=by simp[Act.put]
theorem WJ(a:Act){d e:Nat}(h:d≠e)(u v:nK):(a.put (some d) u).put (some e) v=(a.put (some e) v).put (some d) u:=by simp only[Act.put];rw[Array.setIfInBounds_comm _ _ h]
theorem Gf:∀(l:List Oper) (vs:Nat->nK) (k:Nat) (a:Act) (d:Nat) (v:nK),d∉yp l->(jH l vs k a).put (some d) v=jH l vs k (a.put (some d) v)
 |[],_,_,_,_,_,_=>rfl
 |o::r,vs,k,a,d,v,h=>by
  unfold jH;have hr:d∉yp r:=fun hd=>h (by unfold yp at *;cases ho:o.dst<;>simp_all);rw[Gf r vs (k+1) _ d v hr];cases ho:o.dst with
  |none=>rfl
  |some e=>
   have:e≠d:=fun he=>h (by unfold yp;subst he;simp[ho])
   rw[WJ _ this]
theorem zU:∀(l:List Oper) (vs us:Nat->nK) (k:Nat) (a:Act),(∀j,k<=j->vs j=us j)->jH l vs k a=jH l us k a
 |[],_,_,_,_,_=>rfl
 |o::r,vs,us,k,a,h=>by unfold jH;rw[h k (nR _),zU r vs us (k+1) _ fun j hj=>h j nQ]
theorem Ge:∀(l:List Oper) (vs:Nat->nK) (k m:Nat) (a:Act) (o:Oper) (v:nK),(yp l).Nodup->l[m]?=some o->(jH l vs k a).put o.dst v=jH l (uV vs (k+m) v) k a
 |[],_,_,_,_,_,_,_,h=>by simp at h
 |x::r,vs,k,0,a,o,v,hn,h=>by
  obtain rfl:x=o:=by simpa using h
  unfold jH;rw[show uV vs (k+0) v k=v from if_pos rfl,<-zU r vs (uV vs (k+0) v) (k+1) _ fun j hj=>(if_neg nQ).symm];cases ho:x.dst with
  |none=>rfl
  |some d=>
   have hd:d∉yp r:=by unfold yp at *;rw[List.filterMap_cons_some ho,List.nodup_cons] at hn;exact hn.1
   rw[Gf r vs (k+1) _ d v hd,TF]
 |x::r,vs,k,m+1,a,o,v,hn,h=>by
  unfold jH;have hr:(yp r).Nodup:=by
   unfold yp at *;cases ho:x.dst with
   |none=>rwa [List.filterMap_cons_none ho] at hn
   |some d=>rw[List.filterMap_cons_some ho,List.nodup_cons] at hn;exact hn.2
  rw[Ge r vs (k+1) m _ o v hr (by simpa using h),show uV vs (k+(m+1)) v k=vs k from if_neg nQ,show k+(m+1)=k+1+m by omega]
def FF(a:Act)(l:List Oper)(k:Nat):Nat->nK:=fun j=>((l[j-k]?).bind (·.dst)).elim undef fun d=>a.tmps.getD d undef
theorem PW(a:Act)(d:Nat):a.put (some d) (a.tmps.getD d undef)=a:=by
 have h:a.tmps.setIfInBounds d (a.tmps.getD d undef)=a.tmps:=by
  apply Array.ext
  ·simp
  ·intro i h1 h2;rw[Array.getElem_setIfInBounds (by simpa using h1)];by_cases h:d=i
   ·subst h;rw[if_pos rfl,Array.getD_eq_getD_getElem?,Array.getElem?_eq_getElem h2];rfl
   ·rw[if_neg h]
 show { a with tmps:=a.tmps.setIfInBounds d (a.tmps.getD d undef) }=a;rw[h]
theorem Cv:∀(l:List Oper) (vs:Nat->nK) (k:Nat) (a:Act),(∀j o d,l[j]?=some o->o.dst=some d->vs (k+j)=a.tmps.getD d undef)->jH l vs k a=a
 |[],_,_,_,_=>rfl
 |o::r,vs,k,a,h=>by
  unfold jH;have e:a.put o.dst (vs k)=a:=by
   cases ho:o.dst with
   |none=>rfl
   |some d=>rw[show vs k=a.tmps.getD d undef from h 0 o d rfl ho];exact PW a d
  rw[e];exact Cv r vs (k+1) a fun j o' d h1 h2=>by rw[<-h (j+1) o' d (by simpa using h1) h2];congr 1;omega
theorem JO(l:List Oper)(a:Act):jH l (FF a l 0) 0 a=a:=Cv l _ 0 a fun j o d h1 h2=>by unfold FF;simp[h1,h2]
section
variable{P:Program}{ops:Array Oper}{Q:Exit->Act->nJ->Prop}{S:nJ->Prop}
theorem S7{id:Nat}{a:Act}{w:nJ}(hm:P.follows .mixedOrders=true)(hf:Kf ops=true)(c ja:Nat)(hb:L6 ops c ja=true)(ha:Sw ops c=true)(F:(Nat->nK)->Act)(hF:∀vs,jH ops.toList vs 0 a=F vs)(V:Nat->(Nat->nK)->nJ->Prop)(T:Nat->nJ->nJ->Prop)(hV:∀i j vs v W,i≠j->pz ops i j=false->V i vs W->V i (uV vs j v) W)(hT:∀i j vs W W',i≠j->j<ops.size->(i<c->j<c\/j=ja)->T j W W'->V i vs W->V i vs W')(h0:S w.drew)(hstep:∀i vs w,i<ops.size->(∀e,pz ops i e=true->(e<c->i<=c)->V e vs w)->S w->wpOp P ops Q i (fun a' w'=>S w'/\T i w w'/\∃v,a'=F (uV vs i v)/\V i (uV vs i v) w') (F vs) w)(hend:∀vs w,(∀i,i<ops.size->c<=i->V i vs w)->S w->Q .normal (F vs) w)(hc:c<ops.size):(Code.region id ops true).wp P Q a w:=by
 refine wp_region_held (S:=S) hm ?_;refine inv (fun l a w=>l.size=ops.size/\S w/\(∀i e,i<ops.size->l.getD i true=true->pz ops i e=true->l.getD e true=true) /\
  ∃vs,a=F vs/\∀i,i<ops.size->l.getD i true=true->(i<c->l.getD c true=false)->V i vs w) ?_ ?_ _ _ _ _ ?_ ?_
 ·rintro l a w i ⟨hl,hS,hd,vs,rfl,hv⟩ hi;have hun:=(mem_ready.1 hi).1;have hil:=JI hun;have hin:i<ops.size:=hl▸hil;have ZP:∀e,e<ops.size->c<=e->e≠ja->l.getD e true=true->l.getD c true=true:=by
   intro e;induction e using Nat.strongRecOn with
   |ind e ih=>
    intro he hce hea h1
    by_cases XH:e=c
    ·subst XH;exact h1
    ·have h2:=List.all_eq_true.1 hb e (List.mem_range.2 he);simp only[Bool.or_eq_true,decide_eq_true_eq,beq_iff_eq,List.any_eq_true,List.mem_range,Bool.and_eq_true,bne_iff_ne] at h2;rcases h2 with(h2|h2)|⟨x,hx,⟨h3,h4⟩,h5⟩
     ·omega
     ·exact absurd h2 hea
     ·exact ih x hx nQ h3 h4 (hd e x he h1 h5)
  refine wpOp_mono (fun a' w' k=>⟨k.1,?_⟩) (hstep i vs w hin (fun e he XH=>?_) hS)
  ·obtain⟨kS,kT,v,rfl,kv⟩:=k;refine⟨by simpa using hl,kS,fun j e hj h1 h2=>?_,uV vs i v,rfl,fun j hj h1 h2=>?_⟩
   ·rw[Aj _ hil] at h1 ⊢;split
    ·rfl
    ·by_cases hji:j=i
     ·subst hji;exact wO hi h2
     ·rw[if_neg hji] at h1;exact hd j e hj h1 h2
   ·by_cases hji:j=i
    ·subst hji;exact kv
    ·rw[Aj _ hil,if_neg hji] at h1;have hlc:j<c->l.getD c true=false/\c≠i:=fun YJ=>by
      have:=h2 YJ;rw[Aj _ hil] at this;split at this
      ·cases this
      ·exact⟨this,nZ⟩
     have Xp:=hv j hj h1 fun YJ=>(hlc YJ).1;refine hV j i vs v w' hji ?_ (hT j i vs w w' hji hin ?_ kT Xp)
     ·rcases hq:pz ops j i with _|_
      ·rfl
      ·have:=hd j i hj h1 hq;rw[hun] at this;cases this
     ·intro YJ;obtain⟨h3,h4⟩:=hlc YJ;by_cases hia:i=ja
      ·exact .inr hia
      ·left;rcases Nat.lt_or_ge i c with h5|h5
       ·exact h5
       ·exfalso;have h6:=List.all_eq_true.1 hb i (List.mem_range.2 hin);simp only[Bool.or_eq_true,decide_eq_true_eq,beq_iff_eq,List.any_eq_true,List.mem_range,Bool.and_eq_true,bne_iff_ne] at h6;rcases h6 with(h6|h6)|⟨x,hx,⟨h7,h8⟩,h9⟩
        ·exact h4 nQ
        ·exact hia h6
        ·have:=ZP x nQ h7 h8 (wO hi h9);rw[h3] at this;cases this
  ·have h1:=wO hi he;have h2:e<i:=by have h3:=List.all_eq_true.1 hf i (List.mem_range.2 hin);unfold pz at he;rw[Array.getElem?_eq_getElem hin] at h3 he;simp only[Option.map_some,Option.getD_some,Array.all_eq_true',Bool.or_eq_true,Bool.not_eq_true',decide_eq_true_eq] at h3;simp only[Option.map_some,Option.getD_some,Array.any_eq_true',Bool.and_eq_true,beq_iff_eq] at he;obtain⟨x,hx,Ui,rfl⟩:=he;exact(h3 x hx).resolve_left (by rw[Ui];decide)
   refine hv e nQ h1 fun acy=>?_;rcases Nat.lt_or_ge c i with h4|h4
   ·have:=XH acy;omega
   ·rcases hq:l.getD c true with _|_
    ·rfl
    ·by_cases hic:i=c
     ·subst hic;rw[hun] at hq;cases hq
     ·exfalso;have hall:∀m j,c-j<=m->j<=c->l.getD j true=true:=by
       intro m;induction m with
       |zero=>
        intro j h5 h6
        rw[show j=c by omega]
        exact hq
       |succ m ih=>
        intro j h5 h6
        by_cases h7:j=c
        ·subst h7;exact hq
        ·have h8:=List.all_eq_true.1 ha j (List.mem_range.2 nQ);simp only[List.any_eq_true,List.mem_range,Bool.and_eq_true,decide_eq_true_eq] at h8;obtain⟨x,hx,h9,h10⟩:=h8;exact hd x j nQ (ih x nQ nQ) h10
      have:=hall _ i (nR _) nQ;rw[hun] at this;cases this
 ·rintro l a w ⟨hl,hS,hd,vs,rfl,hv⟩ hr;have hall:=KQ hf hl hr;exact hend vs w (fun i hi hci=>hv i hi (hall i hi) fun h=>by omega) hS
 ·simp
 ·refine⟨nV,h0,fun i e hi h1=>?_,FF a ops.toList 0,?_,fun i hi h1=>?_⟩
  ·exfalso;rw[Array.getD_eq_getD_getElem?,Array.getElem?_eq_getElem (by simpa using hi)] at h1;simp at h1
  ·rw[<-hF,JO]
  ·exfalso;rw[Array.getD_eq_getD_getElem?,Array.getElem?_eq_getElem (by simpa using hi)] at h1;simp at h1
variable{a:Act}{F:(Nat->nK)->Act}{T:Nat->nJ->nJ->Prop}{V:Nat->(Nat->nK)->nJ->Prop}{vs:Nat->nK}{w w':nJ}{v:nK}{i:Nat}{oi:Oper}
theorem Lj(hn:(yp ops.toList).Nodup)(hF:∀vs,jH ops.toList vs 0 a=F vs)(hi:ops[i]?=some oi):(F vs).put oi.dst v=F (uV vs i v):=by rw[<-hF,<-hF,Ge ops.toList vs 0 i a oi v hn (by simpa using hi),Nat.zero_add]
theorem Df{K:Act->nJ->Prop}(hi:ops[i]?=some oi)(hg:oi.guard=none)(h:oi.wp P a w K Q):wpOp P ops Q i K a w:=by unfold wpOp;rw[hi];show if Region.wanted _ _=true then _ else _;rw[if_pos (by unfold Region.wanted;rw[hg])];exact Or.inl h
theorem Wo(hn:(yp ops.toList).Nodup)(hF:∀vs,jH ops.toList vs 0 a=F vs)(hi:ops[i]?=some oi)(hg:oi.guard=none)(hx:(execOp (F vs).eval oi).run P w=.ok (.value v) w')(hS:S w')(hT:T i w w')(hV:V i (uV vs i v) w'):wpOp P ops Q i (fun a' w'=>S w'/\T i w w'/\∃v,a'=F (uV vs i v)/\V i (uV vs i v) w') (F vs) w:=by refine Df hi hg ?_;unfold Oper.wp;rw[hx,Oper.upon_value];exact⟨hS,hT,v,Lj hn hF hi,hV⟩
end
end OH
end
end Go.Proofs.YtdmedlkonaclnaaGreatDoor
