/- A part of the proof that a law of layer 12 holds, cut small by a program (names and blanks): HdPd. -/
import Derived.Test.YtpnnapeoanafdaaGreatDoorZ10
set_option maxRecDepth 100000
set_option maxHeartbeats 40000000
set_option linter.unusedVariables false
set_option linter.unusedSimpArgs false
namespace Go.Proofs.YtpnnapeoanafdaaGreatDoor
open Go.RowKit
open Nat renaming le_refl → nR
namespace Hd
theorem Cp:∀(k:Nat) (d:ct),∀o∈(de k d).1.az,o∈d.az
 |0,d,o,h=>h
 |k+1,d,o,h=>by
  rw[de] at h;cases hf:gE d.ax d.az with
  |none=>rw[hf] at h;exact h
  |some i=>
   rw[hf] at h
   exact List.mem_of_mem_eraseIdx (Cp k _ o h)
theorem UX(d:ct)(l:aQ):∀o∈(cI d l).1.az,o∈d.az\/o.line=l:=by
 unfold cI;cases bH l with
 |none=>intro o h;exact .inl h
 |ord q s n c=>
  simp only[]
  split
  ·intro o h;exact .inl h
  ·intro o h;rcases List.mem_append.1 h with h|h
   ·exact .inl h
   ·simp at h;subst h;exact .inr rfl
 |cmd c=>
  simp only[]
  split
  ·intro o h;exact .inl h
  ·split
   ·split
    ·intro o h;exact .inl h
    ·intro o h;exact .inl (List.mem_of_mem_eraseIdx h)
   ·intro o h;exact .inl h
theorem Mq:∀(ls:List aQ) (d:ct),∀o∈(dJ d ls).1.az,o∈d.az\/o.line∈ls
 |[],d,o,h=>.inl h
 |l::ls,d,o,h=>by
  rw[dJ] at h;rcases Mq ls _ o h with h|h
  ·rcases UX d l o (Cp _ _ o h) with h|h
   ·exact .inl h
   ·exact .inr (by rw[h];exact List.mem_cons_self)
  ·exact .inr (List.mem_cons_of_mem _ h)
theorem LX{d:ct}(h:Calm d):∀o∈d.az,oW d.ax (bH o.line)=false:=by intro o ho;have:=List.findIdx?_eq_none_iff.1 h o ho;simpa using this
theorem sQ{l:aQ}:lY (bH l)=5↔nh l=true:=by
 unfold lY nh;cases bH l with
 |none=>simp
 |ord q s n c=>simp
 |cmd c=>rcases vY c.w with h|h|h|h<;>simp[h]
theorem aaa{ls a:List aQ}{j:Nat}(h:j<ls.length)(h2:j<a.length):gW (ls.drop j) (a.drop j)=(oX (nth ls j) (nth a j)).toNat+gW (ls.drop (j+1)) (a.drop (j+1))/\kT (ls.drop j) (a.drop j)=((sX (nth ls j) (nth a j)).toNat+fS (nth a j))+kT (ls.drop (j+1)) (a.drop (j+1)):=by rw[List.drop_eq_getElem_cons h,List.drop_eq_getElem_cons h2,bN _ h,bN _ h2];exact⟨rfl,rfl⟩
theorem Nt{ls a:List aQ}{j:Nat}(h:ls.length<=j):gW (ls.drop j) (a.drop j)=0/\kT (ls.drop j) (a.drop j)=0:=by rw[List.drop_of_length_le h];exact⟨rfl,rfl⟩
theorem Jw{l a:aQ}{b:Bool}(hk:lY (bH l)=4)(hb:wI a tW=b):(oX l a).toNat=b.toNat/\(sX l a).toNat=0:=by
 have hw:=xz.1 hk;have hf:nh l=false:=by
  rcases h:nh l with _|_
  ·rfl
  ·have:=sQ.2 h;omega
 unfold oX sX;rw[hw,hf,hb];exact⟨nV,rfl⟩
theorem DP{l a:aQ}{b:Bool}(hk:lY (bH l)=5)(hb:wI a tW=b):(oX l a).toNat=0/\(sX l a).toNat=b.toNat:=by
 have hf:=sQ.1 hk;have hw:jQ l=false:=by
  rcases h:jQ l with _|_
  ·rfl
  ·have:=xz.2 h;omega
 unfold oX sX;rw[hw,hf,hb];exact⟨rfl,nV⟩
theorem FJ{l a:aQ}(h4:lY (bH l)≠4)(h5:lY (bH l)≠5):(oX l a).toNat=0/\(sX l a).toNat=0:=by
 have hw:jQ l=false:=by
  rcases h:jQ l with _|_
  ·rfl
  ·exact absurd (xz.2 h) h4
 have hf:nh l=false:=by
  rcases h:nh l with _|_
  ·rfl
  ·exact absurd (sQ.2 h) h5
 unfold oX sX;rw[hw,hf];exact⟨rfl,rfl⟩
theorem once{t:aO}{ls:List aQ}(hv:aE t=true)(hl:ls.length<=30)(hs:∀x∈ls,x.length<=1000):(∀x∈(dJ (bZ t) ls).2,x.length<=100)/\(dJ (bZ t) ls).1.az.length+kT ls (dJ (bZ t) ls).2=gW ls (dJ (bZ t) ls).2/\∀o∈(dJ (bZ t) ls).1.az,o.line.length<=1000/\∃q s n c,bH o.line=.ord q s n c/\fR (dJ (bZ t) ls).1.ax q s n=false:=by
 refine⟨CF DD ls (d:=bZ t) (m:=0) hv sJ ⟨nR _,fun o ho=>by cases ho⟩ nQ,?_,fun o ho=>?_⟩
 ·have:=CG ls (bZ t);simpa [bZ] using this
 ·refine⟨?_,?_⟩
  ·rcases Mq ls (bZ t) o ho with h|h
   ·cases h
   ·exact hs _ h
  ·obtain⟨q,s,n,c,hr⟩:=(zC ls (d:=bZ t) sJ).2 o ho;refine⟨q,s,n,c,hr,?_⟩;have:=LX (Ge ls (d:=bZ t) (Tv t 0)) o ho;rw[hr] at this;exact this
end Hd
end Go.Proofs.YtpnnapeoanafdaaGreatDoor
