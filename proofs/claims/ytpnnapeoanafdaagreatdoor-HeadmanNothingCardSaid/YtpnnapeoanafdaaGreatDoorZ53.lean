/- A part of the proof that a law of layer 12 holds, cut small by a program (names and blanks): HdPf. -/
import Derived.Test.YtpnnapeoanafdaaGreatDoorZ10
set_option maxRecDepth 100000
set_option maxHeartbeats 40000000
set_option linter.unusedVariables false
set_option linter.unusedSimpArgs false
namespace Go.Proofs.YtpnnapeoanafdaaGreatDoor
open Go.RowKit
open Nat renaming le_refl → nR
namespace Hd
def idle'(d:ct)(l:aQ):Bool:=match bH l with
 |.none=>true
 |.cmd c=>if cg c.w=2\/cg c.w=3 then true else decide ((cI d l).2=vk)
 |.ord _ _ _ _=>decide ((cI d l).2=vk)
theorem chgD_no'{t:aO}{c:eB}(h:(gz t c).isSome=false):jc t c=t:=by
 unfold jc;cases hc:gz t c with
 |none=>rfl
 |some o=>rw[hc] at h;cases h
theorem yesT_no'{b:Bool}:jB b=vk↔b=false:=by cases b<;>simp[jB,tW,vk]
theorem own_idle'{d:ct}{l:aQ}(h:idle' d l=true):(cI d l).1=d:=by
 unfold idle' at h;unfold cI;cases hl:bH l with
 |none=>rfl
 |ord q s n c=>
  rw[hl] at h
  unfold cI at h
  rw[hl] at h
  simp only[decide_eq_true_eq] at h ⊢
  split
  ·rfl
  ·rename_i h5;rw[if_neg h5] at h;exact absurd (show tW=vk from h) nU
 |cmd c=>
  rw[hl] at h
  simp only[] at h ⊢
  rcases vY c.w with hk|hk|hk|hk
  ·rw[if_pos hk];rw[if_neg nQ] at h;unfold cI at h;rw[hl] at h;simp only[decide_eq_true_eq,if_pos hk] at h;rw[yesT_no'] at h;simp only[chgD_no' h]
  ·rw[if_neg nQ,if_neg nQ]
  ·rw[if_neg nQ,if_neg nQ]
  ·rw[if_neg nQ,if_pos hk];rw[if_neg nQ] at h;unfold cI at h;rw[hl] at h;simp only[decide_eq_true_eq,if_neg (show ¬cg c.w=1 by omega),if_pos hk] at h;cases hf:d.az.findIdx? (fun o=>decide ((o.num:Int)=nth c.a 0)) with
   |none=>rfl
   |some i=>rw[hf] at h;exact absurd (show tW=vk from h) nU
theorem step_idle'{d:ct}{l:aQ}(hc:Calm d)(h:idle' d l=true):fO d l=(d,(cI d l).2):=by unfold fO;rw[own_idle' h];simp only[zv hc,List.append_nil]
theorem own_busy'{d:ct}{l:aQ}(h:idle' d l=false):(cI d l).2=tW:=by
 unfold idle' at h;unfold cI at h ⊢;cases hl:bH l with
 |none=>rw[hl] at h;cases h
 |ord q s n c=>
  rw[hl] at h
  simp only[decide_eq_false_iff_not] at h ⊢
  split
  ·rename_i h5;rw[if_pos h5] at h;exact absurd rfl h
  ·rfl
 |cmd c=>
  rw[hl] at h
  simp only[] at h ⊢
  rcases vY c.w with hk|hk|hk|hk
  ·rw[if_neg nQ] at h;simp only[decide_eq_false_iff_not,if_pos hk] at h ⊢;rw[yesT_no'] at h;simp only[Bool.not_eq_false] at h;rw[h];rfl
  ·rw[if_pos nQ] at h;cases h
  ·rw[if_pos nQ] at h;cases h
  ·rw[if_neg nQ] at h;simp only[decide_eq_false_iff_not,if_neg (show ¬cg c.w=1 by omega),if_pos hk] at h ⊢;cases hf:d.az.findIdx? (fun o=>decide ((o.num:Int)=nth c.a 0)) with
   |none=>rw[hf] at h;exact absurd rfl h
   |some i=>rfl
def busyL':ct->List aQ->List aQ
 |_,[]=>[]
 |d,l::ls=>if idle' d l=true then busyL' (fO d l).1 ls else l::busyL' (fO d l).1 ls
def busyA':ct->List aQ->List aQ
 |_,[]=>[]
 |d,l::ls=>if idle' d l=true then busyA' (fO d l).1 ls else (fO d l).2::busyA' (fO d l).1 ls
theorem busy_run':∀(ls:List aQ) {d:ct},Calm d->dJ d (busyL' d ls)=((dJ d ls).1,busyA' d ls)
 |[],d,_=>rfl
 |l::ls,d,hc=>by
  rw[busyL',busyA',dJ];by_cases h:idle' d l=true
  ·rw[if_pos h,if_pos h,step_idle' hc h];exact busy_run' ls hc
  ·rw[if_neg h,if_neg h,dJ,busy_run' ls (Ny d l)]
theorem itoa_cons'(n:Int):∃b r,Lib.itoa n=b::r/\(b=45\/48<=b.toNat/\b.toNat<=57):=by
 cases h:Lib.itoa n with
 |nil=>exact absurd h (Vu n)
 |cons b r=>exact⟨b,r,rfl,KV n b (by rw[h];simp)⟩
theorem joinI_cons'{l:List Int}(h:l≠[]):∃b r,gI l=b::r/\(b=45\/48<=b.toNat/\b.toNat<=57):=by
 match l,h with
 |[x],_=>exact itoa_cons' x
 |x::y::r,_=>
  obtain⟨b,q,e,hb⟩:=itoa_cons' x
  exact⟨b,q++32::gI (y::r),by rw[gI,e];rfl,hb⟩
theorem ans_form'(t:aO)(c:eB):fY t c=aab\/fY t c=Jz\/fY t c=vj\/∃b r,fY t c=b::r/\(b=45\/48<=b.toNat/\b.toNat<=57):=by
 unfold fY;have key:∀(e:Int) (x:aQ),(x=vj\/∃b r,x=b::r/\(b=45\/48<=b.toNat/\b.toNat<=57))->(mB e x=aab\/mB e x=Jz\/mB e x=vj\/∃b r,mB e x=b::r/\(b=45\/48<=b.toNat/\b.toNat<=57)):=by
  intro e x hx;unfold mB;split
  ·rcases hx with rfl|hx
   ·exact .inr (.inr (.inl rfl))
   ·exact .inr (.inr (.inr hx))
  ·split
   ·exact .inl rfl
   ·exact .inr (.inl rfl)
 split
 ·refine key _ _ ?_;unfold pP;split
  ·exact .inl rfl
  ·rename_i h;exact .inr (joinI_cons' h)
 ·exact key _ _ (.inr (itoa_cons' _))
theorem beg_cons'{b x:UInt8}{r y:aQ}(h:b≠x):wI (b::r) (x::y)=false:=by unfold wI;rw[decide_eq_false_iff_not];rintro⟨_,h2⟩;rw[List.length_cons,List.take_succ_cons] at h2;injection h2 with h2 _;exact h h2
theorem ans_what'(t:aO)(c:eB):fY t c≠mC:=by
 rcases ans_form' t c with h|h|h|⟨b,r,h,hb⟩
 ·rw[h];decide
 ·rw[h];decide
 ·rw[h];decide
 ·rw[h];intro e;injection e with e _;subst e;rcases hb with hb|hb
  ·revert hb;decide
  ·revert hb;decide
theorem ans_ok'(t:aO)(c:eB):wI (fY t c) tW=false:=by
 rcases ans_form' t c with h|h|h|⟨b,r,h,hb⟩
 ·rw[h];decide
 ·rw[h];decide
 ·rw[h];decide
 ·rw[h];refine beg_cons' ?_;rintro rfl;rcases hb with hb|hb
  ·revert hb;decide
  ·revert hb;decide
theorem ans_no'{t:aO}{c:eB}(hb:wI (fY t c) vk=true):fY t c=aab\/fY t c=vj:=by
 rcases ans_form' t c with h|h|h|⟨b,r,h,hd⟩
 ·exact .inl h
 ·rw[h] at hb;exact absurd hb nU
 ·exact .inr h
 ·rw[h] at hb;exfalso;have:wI (b::r) vk=false:=beg_cons' (by
   rintro rfl
   rcases hd with hd|hd
   ·revert hd;decide
   ·revert hd;decide)
  rw[this] at hb;cases hb
theorem run_at':∀(ls:List aQ) (d:ct) {i:Nat},i<ls.length->nth (dJ d ls).2 i=(fO (dJ d (ls.take i)).1 (nth ls i)).2
 |l::ls,d,0,_=>by simp[dJ,nth]
 |l::ls,d,i+1,h=>by rw[dJ,List.take_succ_cons,dJ];have:=run_at' ls (fO d l).1 (i:=i) (by simpa using h);simpa [nth] using this
theorem busyL_snoc':∀(ls:List aQ) (d:ct) (l:aQ),busyL' d (ls++[l])=busyL' d ls++(if idle' (dJ d ls).1 l=true then[] else[l])
 |[],d,l=>by by_cases h:idle' d l=true<;>simp[busyL',dJ,h]
 |x::ls,d,l=>by rw[List.cons_append,busyL',busyL',dJ,busyL_snoc' ls];split<;>rfl
theorem busyA_snoc':∀(ls:List aQ) (d:ct) (l:aQ),busyA' d (ls++[l])=busyA' d ls++(if idle' (dJ d ls).1 l=true then[] else[(fO (dJ d ls).1 l).2])
 |[],d,l=>by by_cases h:idle' d l=true<;>simp[busyA',dJ,h]
 |x::ls,d,l=>by rw[List.cons_append,busyA',busyA',dJ,busyA_snoc' ls];split<;>rfl
theorem step_none'{d:ct}{l:aQ}(hc:Calm d)(h:lY (bH l)=0):(fO d l).2=mC/\idle' d l=true:=by
 have hr:bH l=.none:=by
  unfold lY at h;cases hl:bH l with
  |none=>rfl
  |ord q s n c=>rw[hl] at h;simp at h
  |cmd c=>rw[hl] at h;rcases vY c.w with k|k|k|k<;>simp[k] at h
 have hi:idle' d l=true:=by unfold idle';rw[hr]
 refine⟨?_,hi⟩;rw[step_idle' hc hi];unfold cI;rw[hr]
theorem step_ask'{d:ct}{l:aQ}(hc:Calm d)(h:lY (bH l)=2\/lY (bH l)=3):∃c,(fO d l).2=fY d.ax c/\idle' d l=true:=by
 unfold lY at h;cases hl:bH l with
 |none=>rw[hl] at h;simp at h
 |ord q s n c=>rw[hl] at h;simp at h
 |cmd c=>
  rw[hl] at h
  have hk:cg c.w=2\/cg c.w=3:=by rcases h with h|h<;>(simp at h;omega)
  have hi:idle' d l=true:=by unfold idle';rw[hl];simp only[if_pos hk]
  refine⟨c,?_,hi⟩
  rw[step_idle' hc hi]
  unfold cI
  rw[hl]
  simp only[]
  rw[if_neg nQ,if_neg nQ]
theorem step_other'{d:ct}{l:aQ}(hc:Calm d)(h:lY (bH l)=1\/lY (bH l)=4\/lY (bH l)=5):((fO d l).2=vk/\idle' d l=true)\/((fO d l).2≠vk/\wI (fO d l).2 tW=true/\idle' d l=false):=by
 rcases hi:idle' d l with _|_
 ·right;have ho:=own_busy' hi;have hb:wI (fO d l).2 tW=true:=by show wI ((cI d l).2++_) tW=true;rw[ho,Wh rfl];decide
  refine⟨?_,hb,rfl⟩;intro e;rw[e] at hb;exact absurd hb nU
 ·left;refine⟨?_,rfl⟩;rw[step_idle' hc hi];show(cI d l).2=vk;unfold idle' at hi;unfold lY at h;cases hl:bH l with
  |none=>rw[hl] at h;simp at h
  |ord q s n c=>rw[hl] at hi;exact of_decide_eq_true hi
  |cmd c=>
   rw[hl] at hi h
   simp only[] at hi h
   rw[if_neg nQ] at hi
   exact of_decide_eq_true hi
theorem busy_sub:∀(ls:List aQ) (d:ct),(busyL' d ls).length<=ls.length/\∀x∈busyL' d ls,x∈ls
 |[],d=>⟨nR _,fun x hx=>by cases hx⟩
 |l::ls,d=>by
  obtain⟨h1,h2⟩:=busy_sub ls (fO d l).1;rw[busyL'];split
  ·exact⟨by rw[List.length_cons];omega,fun x hx=>List.mem_cons_of_mem _ (h2 x hx)⟩
  ·refine⟨by rw[List.length_cons,List.length_cons];omega,fun x hx=>?_⟩;rcases List.mem_cons.1 hx with rfl|hx
   ·exact List.mem_cons_self
   ·exact List.mem_cons_of_mem _ (h2 x hx)
theorem busy_len:∀(ls:List aQ) (d:ct),(busyA' d ls).length=(busyL' d ls).length
 |[],d=>rfl
 |l::ls,d=>by
  rw[busyL',busyA'];split
  ·exact busy_len ls _
  ·rw[List.length_cons,List.length_cons,busy_len ls]
theorem noth_round{t:aO}{ls:List aQ}{j:Nat}(hj:j<ls.length){l a:aQ}(hl:nth ls j=l)(ha:nth (dJ (bZ t) ls).2 j=a):(lY (bH l)=0/\a=mC/\busyL' (bZ t) (ls.take (j+1))=busyL' (bZ t) (ls.take j)/\busyA' (bZ t) (ls.take (j+1))=busyA' (bZ t) (ls.take j))\/((lY (bH l)=2\/lY (bH l)=3)/\(a≠mC/\wI a tW=false/\(wI a vk=true->a=aab\/a=vj))/\busyL' (bZ t) (ls.take (j+1))=busyL' (bZ t) (ls.take j)/\busyA' (bZ t) (ls.take (j+1))=busyA' (bZ t) (ls.take j))\/((lY (bH l)=1\/lY (bH l)=4\/lY (bH l)=5)/\((a=vk/\busyL' (bZ t) (ls.take (j+1))=busyL' (bZ t) (ls.take j)/\busyA' (bZ t) (ls.take (j+1))=busyA' (bZ t) (ls.take j))\/(a≠vk/\wI a tW=true/\busyL' (bZ t) (ls.take (j+1))=busyL' (bZ t) (ls.take j)++[l]/\busyA' (bZ t) (ls.take (j+1))=busyA' (bZ t) (ls.take j)++[a]))):=by
 have hs:ls.take (j+1)=ls.take j++[l]:=by rw[<-hl];exact bz ls hj
 have ZX:=run_at' ls (bZ t) hj;rw[hl,ha] at ZX;have hc:Calm (dJ (bZ t) (ls.take j)).1:=Ge (ls.take j) (d:=bZ t) (Tv t 0);have e1:=busyL_snoc' (ls.take j) (bZ t) l;have e2:=busyA_snoc' (ls.take j) (bZ t) l;rw[<-hs] at e1 e2;rw[<-ZX] at e2;have hk:lY (bH l)=0\/(lY (bH l)=2\/lY (bH l)=3)\/(lY (bH l)=1\/lY (bH l)=4\/lY (bH l)=5):=by
  unfold lY;cases bH l with
  |none=>exact .inl rfl
  |ord q s n c=>exact .inr (.inr (.inr (.inl rfl)))
  |cmd c=>rcases vY c.w with h|h|h|h<;>simp[h]
 have idl:∀h:idle' (dJ (bZ t) (ls.take j)).1 l=true,busyL' (bZ t) (ls.take (j+1))=busyL' (bZ t) (ls.take j)/\busyA' (bZ t) (ls.take (j+1))=busyA' (bZ t) (ls.take j):=fun h=>by rw[if_pos h,List.append_nil] at e1 e2;exact⟨e1,e2⟩
 rcases hk with h|h|h
 ·obtain⟨h1,h2⟩:=step_none' hc h;exact .inl ⟨h,ZX.trans h1,idl h2⟩
 ·obtain⟨c,h1,h2⟩:=step_ask' hc h;rw[h1] at ZX;exact .inr (.inl ⟨h,⟨by rw[ZX];exact ans_what' _ _,by rw[ZX];exact ans_ok' _ _,fun hb=>by rw[ZX] at hb ⊢;exact ans_no' hb⟩,idl h2⟩)
 ·refine .inr (.inr ⟨h,?_⟩);rcases step_other' hc h with⟨h1,h2⟩|⟨h1,h2,h3⟩
  ·exact .inl ⟨ZX.trans h1,idl h2⟩
  ·rw[<-ZX] at h1 h2;rw[if_neg (by rw[h3];decide)] at e1 e2;exact .inr ⟨h1,h2,e1,e2⟩
theorem noth_all{t:aO}{ls:List aQ}:(dJ (bZ t) (busyL' (bZ t) ls)).1=(dJ (bZ t) ls).1/\(dJ (bZ t) (busyL' (bZ t) ls)).2=busyA' (bZ t) ls:=by rw[busy_run' ls (d:=bZ t) (Tv t 0)];exact⟨rfl,rfl⟩
end Hd
end Go.Proofs.YtpnnapeoanafdaaGreatDoor
