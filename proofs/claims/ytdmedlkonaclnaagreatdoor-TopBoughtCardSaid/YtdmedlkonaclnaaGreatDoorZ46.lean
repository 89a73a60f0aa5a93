/- A part of the proof that a law of layer 12 holds, cut small by a program (names and blanks): Hop. -/
import Derived.Deep.Slices
import Derived.Deep.Fields
import Derived.Deep.Strs
import Derived.ChangeSame
import Derived.ChangeSlices
import Derived.ChangeMaps5
import Derived.ProofKit
import Derived.OpenShut
import Derived.LaidMore
import Derived.Lay
import Derived.Stop.LaidErr
import Derived.MakeChecks
import Derived.HandedShaped
import Derived.Shelf.Vars
import Derived.Test.YtdmedlkonaclnaaGreatDoorZ24
set_option maxRecDepth 100000
set_option maxHeartbeats 40000000
set_option linter.unusedVariables false
set_option linter.unusedSimpArgs false
namespace Go.Proofs.YtdmedlkonaclnaaGreatDoor
open Go.RowKit
open Go.Proofs.Tryz renaming prog → nH
open Go renaming World → nJ, Value → nK
section
open Go.RowKit Go.ChangeShapes Go.WideShapes Go.Deep
open Hd
theorem T6{α:Type}(enc:α->List nK)(size:Nat)(h:∀x,(enc x).length=size)(xs:List α):(xs.flatMap enc).length=xs.length*size:=by
 induction xs with
 |nil=>simp
 |cons x xs ih=>rw[List.flatMap_cons,List.length_append,ih,h,List.length_cons,Nat.succ_mul];omega
theorem zG{α:Type}[Inhabited α](f:Nat->α){m j:Nat}(h:j<m):nth ((List.range m).map f) j=f j:=by rw[bR _ (by simpa using h)];simp
section
variable{H:Type}{enc:TypeId × nK->H}{P:Program}{w:nJ}{spare:Nat->Bool}{held:Bool}
open Classical in
theorem kZ{α:Type}[Inhabited α]{en:α->List nK}{size:Nat}{t e:TypeId}{fuel:Nat}{v:nK}{x:DataW H × List MemPlace}(ht:P.underlying t=some (.slice e))(hC:P.cellsOf e=size)(hp:0<size)(hen:∀x,(en x).length=size)(hop:∀(fuel:Nat) (cs:List nK) (x:DataW H × List MemPlace),DataW.trod enc P w 0 spare held fuel e cs=some x->∃a,cs=en a)(h:DataW.trod enc P w 0 spare held fuel t [v]=some x):∃(A:Option Addr) (c:Nat) (xs:List α),v=.slice A xs.length c/\Sl en w.heap.size w A c xs:=by
 rcases open_slice ht h with⟨hcs,_⟩|⟨a,len,cap,m,n,D,Pl,hcs,_,hl,hm,hmm,_,hi⟩
 ·simp at hcs;exact⟨none,0,[],hcs,Sl.none_⟩
 ·simp at hcs;have hlm:len<=m:=by rw[hmm];split<;>omega
  have hcell:∀i,i<len->∃y:α,∀j,j<size->w.cell? (a.add (i*size+j))=(en y)[j]?:=by intro i hil;obtain⟨cs',hc,htr⟩:=hi i nQ;obtain⟨y,hy⟩:=hop _ _ _ htr;obtain⟨_,hcl,YQ⟩:=World.cells?_some hc;rw[hC] at hcl YQ;refine⟨y,fun j hj=>?_⟩;have:=YQ j nQ;rw[<-Go.Deep.add_add,<-hy];exact this
  let F:Nat->α:=fun i=>if h:∃y:α,∀j,j<size->w.cell? (a.add (i*size+j))=(en y)[j]? then Classical.choose h else default;have hF:∀i,i<len->∀j,j<size->w.cell? (a.add (i*size+j))=(en (F i))[j]?:=by intro i hil;have he:=hcell i hil;show ∀j,j<size->w.cell? (a.add (i*size+j))=(en (if h:∃y:α,∀j,j<size->w.cell? (a.add (i*size+j))=(en y)[j]? then Classical.choose h else default))[j]?;rw[dif_pos he];exact Classical.choose_spec he
  refine⟨some a,cap,(List.range len).map F,by simpa using hcs,?_⟩;refine⟨by simpa using hl,by unfold maxLen at hm;omega,?_⟩;intro hne;have hlen:0<len:=by
   rcases Nat.eq_zero_or_pos len with h0|h0
   ·subst h0;simp at hne
   ·exact h0
  obtain⟨v0,hv0⟩:∃v0,(en (F 0))[0]?=some v0:=⟨_,List.getElem?_eq_getElem (by rw[hen];exact hp)⟩;have h0:=hF 0 hlen 0 hp;rw[hv0] at h0;obtain⟨b,o,spot⟩:=a;have Zy:spot=none:=by have:=h0;simp only[Nat.zero_mul,Nat.zero_add,Addr.add,if_true] at this;exact World.cell?_spot this
  subst Zy;refine⟨b,o,rfl,?_,?_⟩
  ·have:=World.block_lt_of_cell? w _ h0;simpa [Addr.add_lit] using this
  ·intro j u hj;have hjl:=(List.getElem?_eq_some_iff.1 hj).1;rw[T6 en size hen,List.length_map,List.length_range] at hjl;have hdiv:j / size<len:=Nat.div_lt_of_lt_mul (by rw[Nat.mul_comm];exact hjl);have hmod:j % size<size:=Nat.mod_lt _ hp;have SL:j=j / size*size+j % size:=by rw[Nat.mul_comm];exact(Nat.div_add_mod _ _).symm
   rw[SL] at hj ⊢;rw[gk en size hen _ _ _ (by simpa using hdiv) hmod,zG _ hdiv] at hj;have:=hF _ hdiv _ hmod;rw[Addr.add_lit] at this;rw[this];exact hj
end
theorem iK:Tryz.prog.cellsOf 3=1:=by kernel_rfl
theorem Ec:Tryz.prog.cellsOf 9=1:=by kernel_rfl
theorem tf:Tryz.prog.cellsOf 23=2:=by kernel_rfl
theorem CL:Tryz.prog.cellsOf 47=2:=by kernel_rfl
theorem CK:Tryz.prog.cellsOf 149=5:=by kernel_rfl
theorem AL:Tryz.prog.cellsOf 93=4:=by kernel_rfl
theorem Hf:Tryz.prog.cellsOf 95=2:=by kernel_rfl
theorem AJ:Tryz.prog.cellsOf 152=2:=by kernel_rfl
theorem AI:Tryz.prog.cellsOf 74=2:=by kernel_rfl
theorem Ow:Tryz.prog.cellsOf 24=1:=by kernel_rfl
theorem KH:Tryz.prog.cellsOf 25=1:=by kernel_rfl
theorem KD:Tryz.prog.cellsOf 26=1:=by kernel_rfl
theorem Hj:Tryz.prog.cellsOf 29=1:=by kernel_rfl
theorem Ox:Tryz.prog.cellsOf 30=1:=by kernel_rfl
theorem Hh:Tryz.prog.cellsOf 33=1:=by kernel_rfl
theorem Hg:Tryz.prog.cellsOf 34=1:=by kernel_rfl
theorem KG:Tryz.prog.cellsOf 35=1:=by kernel_rfl
theorem Oy:Tryz.prog.cellsOf 28=7:=by kernel_rfl
theorem KF:Tryz.prog.cellsOf 32=3:=by kernel_rfl
theorem Hi:Tryz.prog.cellsOf 37=4:=by kernel_rfl
theorem KE:Tryz.prog.cellsOf 39=14:=by kernel_rfl
section
variable{H:Type}{enc:TypeId × nK->H}{w:nJ}{spare:Nat->Bool}{held:Bool}
theorem fZ{fuel:Nat}{cs:List nK}{x:DataW H × List MemPlace}(h:DataW.trod enc nH w 0 spare held fuel 3 cs=some x):∃a:Int,cs=aI a:=by obtain⟨m,e0,_⟩:=DataW.trod_int Tryz.underlying3 h;exact⟨m,e0⟩
theorem sG{t:TypeId}{fs:Array Field}{fuel:Nat}{cs:List nK}{x:DataW H × List MemPlace}(ht:Tryz.prog.underlying t=some (.struct fs))(hc:Tryz.prog.cellsOf t=2)(hf:fs.size=2)(h0:∃f,fs[0]?=some f/\f.offset=0/\f.type=3)(h1:∃f,fs[1]?=some f/\f.offset=1/\f.type=3)(h:DataW.trod enc nH w 0 spare held fuel t cs=some x):∃a b:Int,cs=[.int .i64 a,.int .i64 b]:=by
 obtain⟨xs,n,_,_,hl,hlen,hg⟩:=DataW.trod_struct ht h;rw[hc] at hl;rw[hf] at hlen;obtain⟨F0,e0,o0,t0⟩:=h0;obtain⟨F1,e1,o1,t1⟩:=h1;match cs,hl,xs,hlen with
 |[c0,c1],_,[y0,y1],_=>
  have g0:=hg 0 F0 e0
  have g1:=hg 1 F1 e1
  rw[o0,t0,iK] at g0
  rw[o1,t1,iK] at g1
  obtain⟨a,ha⟩:=fZ g0
  obtain⟨b,hb⟩:=fZ g1
  simp[aI] at ha hb
  exact⟨a,b,by rw[ha,hb]⟩
theorem yG{fuel:Nat}{cs:List nK}{x:DataW H × List MemPlace}(h:DataW.trod enc nH w 0 spare held fuel 23 cs=some x):∃p:An.Sp,cs=gI p:=by obtain⟨a,b,hab⟩:=sG Tryz.underlying23 tf rfl ⟨_,rfl,rfl,rfl⟩ ⟨_,rfl,rfl,rfl⟩ h;exact⟨⟨a,b⟩,hab⟩
theorem Qf{fuel:Nat}{cs:List nK}{x:DataW H × List MemPlace}(h:DataW.trod enc nH w 0 spare held fuel 47 cs=some x):∃p:An.Bj,cs=cM p:=by obtain⟨a,b,hab⟩:=sG Tryz.underlying47 CL rfl ⟨_,rfl,rfl,rfl⟩ ⟨_,rfl,rfl,rfl⟩ h;exact⟨⟨a,b⟩,hab⟩
theorem TL{fuel:Nat}{cs:List nK}{x:DataW H × List MemPlace}(h:DataW.trod enc nH w 0 spare held fuel 95 cs=some x):∃p:Me.Pr,cs=dH p:=by obtain⟨a,b,hab⟩:=sG Tryz.underlying95 Hf rfl ⟨_,rfl,rfl,rfl⟩ ⟨_,rfl,rfl,rfl⟩ h;exact⟨⟨a,b⟩,hab⟩
theorem M0{fuel:Nat}{cs:List nK}{x:DataW H × List MemPlace}(h:DataW.trod enc nH w 0 spare held fuel 152 cs=some x):∃p:Sa.Kind,cs=rB p:=by obtain⟨a,b,hab⟩:=sG Tryz.underlying152 AJ rfl ⟨_,rfl,rfl,rfl⟩ ⟨_,rfl,rfl,rfl⟩ h;exact⟨⟨a,b⟩,hab⟩
theorem MY{fuel:Nat}{cs:List nK}{x:DataW H × List MemPlace}(h:DataW.trod enc nH w 0 spare held fuel 74 cs=some x):∃p:Sa.Part,cs=jD p:=by obtain⟨a,b,hab⟩:=sG Tryz.underlying74 AI rfl ⟨_,rfl,rfl,rfl⟩ ⟨_,rfl,rfl,rfl⟩ h;exact⟨⟨a,b⟩,hab⟩
theorem M6{fuel:Nat}{cs:List nK}{x:DataW H × List MemPlace}(h:DataW.trod enc nH w 0 spare held fuel 93 cs=some x):∃p:Me.kE,cs=bB p:=by
 obtain⟨xs,n,_,_,hl,hlen,hg⟩:=DataW.trod_struct Tryz.underlying93 h;rw[AL] at hl;match cs,hl,xs,hlen with
 |[c0,c1,c2,c3],_,[y0,y1,y2],_=>
  refine QFR ?_
  intro g0
  have g1:DataW.trod enc nH w 0 spare held n 23 [c1,c2]=some y1:=by simpa [tf] using hg 1 _ rfl
  have g2:DataW.trod enc nH w 0 spare held n 3 [c3]=some y2:=by simpa [iK] using hg 2 _ rfl
  obtain⟨a,ha⟩:=fZ g0
  obtain⟨⟨b,c⟩,hbc⟩:=yG g1
  obtain⟨d,hd⟩:=fZ g2
  simp[aI,gI] at ha hbc hd
  exact⟨⟨a,b,c,d⟩,by rw[ha,hbc.1,hbc.2,hd];rfl⟩
theorem Qc{fuel:Nat}{cs:List nK}{x:DataW H × List MemPlace}(h:DataW.trod enc nH w 0 spare held fuel 149 cs=some x):∃p:An.Im,cs=fC p:=by
 obtain⟨xs,n,_,_,hl,hlen,hg⟩:=DataW.trod_struct Tryz.underlying149 h;rw[CK] at hl;match cs,hl,xs,hlen with
 |[c0,c1,c2,c3,c4],_,[y0,y1,y2,y3,y4],_=>
  refine QFR ?_
  intro g0
  have g1:DataW.trod enc nH w 0 spare held n 3 [c1]=some y1:=by simpa [iK] using hg 1 _ rfl
  have g2:DataW.trod enc nH w 0 spare held n 3 [c2]=some y2:=by simpa [iK] using hg 2 _ rfl
  have g3:DataW.trod enc nH w 0 spare held n 3 [c3]=some y3:=by simpa [iK] using hg 3 _ rfl
  have g4:DataW.trod enc nH w 0 spare held n 3 [c4]=some y4:=by simpa [iK] using hg 4 _ rfl
  obtain⟨a,ha⟩:=fZ g0
  obtain⟨b,hb⟩:=fZ g1
  obtain⟨c,hc⟩:=fZ g2
  obtain⟨d,hd⟩:=fZ g3
  obtain⟨e,he⟩:=fZ g4
  simp[aI] at ha hb hc hd he
  exact⟨⟨a,b,c,d,e⟩,by rw[ha,hb,hc,hd,he];rfl⟩
theorem Qd{fuel:Nat}{v:nK}{x:DataW H × List MemPlace}(h:DataW.trod enc nH w 0 spare held fuel 24 [v]=some x):∃(A:Option Addr) (c:Nat) (xs:List An.Sp),v=.slice A xs.length c/\Sl gI w.heap.size w A c xs:=
 kZ Tryz.underlying24 tf nQ (fun _=>rfl) (fun _ _ _ h=>yG h) h
theorem M7{fuel:Nat}{v:nK}{x:DataW H × List MemPlace}(h:DataW.trod enc nH w 0 spare held fuel 25 [v]=some x):∃(A:Option Addr) (c:Nat) (xs:List An.Bj),v=.slice A xs.length c/\Sl cM w.heap.size w A c xs:=
 kZ Tryz.underlying25 CL nQ (fun _=>rfl) (fun _ _ _ h=>Qf h) h
theorem MW{fuel:Nat}{v:nK}{x:DataW H × List MemPlace}(h:DataW.trod enc nH w 0 spare held fuel 26 [v]=some x):∃(A:Option Addr) (c:Nat) (xs:List An.Im),v=.slice A xs.length c/\Sl fC w.heap.size w A c xs:=
 kZ Tryz.underlying26 CK nQ (fun _=>rfl) (fun _ _ _ h=>Qc h) h
theorem Jz{fuel:Nat}{v:nK}{x:DataW H × List MemPlace}(h:DataW.trod enc nH w 0 spare held fuel 29 [v]=some x):∃(A:Option Addr) (c:Nat) (xs:List Me.kE),v=.slice A xs.length c/\Sl bB w.heap.size w A c xs:=
 kZ Tryz.underlying29 AL nQ (fun _=>rfl) (fun _ _ _ h=>M6 h) h
theorem Qe{fuel:Nat}{v:nK}{x:DataW H × List MemPlace}(h:DataW.trod enc nH w 0 spare held fuel 30 [v]=some x):∃(A:Option Addr) (c:Nat) (xs:List Me.Pr),v=.slice A xs.length c/\Sl dH w.heap.size w A c xs:=
 kZ Tryz.underlying30 Hf nQ (fun _=>rfl) (fun _ _ _ h=>TL h) h
theorem Jy{fuel:Nat}{v:nK}{x:DataW H × List MemPlace}(h:DataW.trod enc nH w 0 spare held fuel 33 [v]=some x):∃(A:Option Addr) (c:Nat) (xs:List Sa.Kind),v=.slice A xs.length c/\Sl rB w.heap.size w A c xs:=
 kZ Tryz.underlying33 AJ nQ (fun _=>rfl) (fun _ _ _ h=>M0 h) h
theorem Jw{fuel:Nat}{v:nK}{x:DataW H × List MemPlace}(h:DataW.trod enc nH w 0 spare held fuel 34 [v]=some x):∃(A:Option Addr) (c:Nat) (xs:List Sa.Part),v=.slice A xs.length c/\Sl jD w.heap.size w A c xs:=
 kZ Tryz.underlying34 AI nQ (fun _=>rfl) (fun _ _ _ h=>MY h) h
theorem open_ints{fuel:Nat}{v:nK}{x:DataW H × List MemPlace}(h:DataW.trod enc nH w 0 spare held fuel 35 [v]=some x):∃(A:Option Addr) (c:Nat) (xs:List Int),v=.slice A xs.length c/\Sl aI w.heap.size w A c xs:=
 kZ Tryz.underlying35 iK nQ (fun _=>rfl) (fun _ _ _ h=>fZ h) h
theorem MZ{fuel:Nat}{c0 c1 c2 c3 c4 c5 c6:nK}{x:DataW H × List MemPlace}(h:DataW.trod enc nH w 0 spare held fuel 28 [c0,c1,c2,c3,c4,c5,c6]=some x):∃(r:eP) (n:An.Net),[c0,c1,c2,c3,c4,c5,c6]=[.int .i64 n.aP.lo,.int .i64 n.aP.hi,.int .i64 n.cur.lo,.int .i64 n.cur.hi,.slice r.gA n.ay.length r.gc,.slice r.aA n.aB.length r.ac,.slice r.wA n.aU.length r.wc]/\cg w.heap.size w r n:=by
 obtain⟨xs,n,_,_,_,hlen,hg⟩:=DataW.trod_struct Tryz.underlying28 h;match xs,hlen with
 |[y0,y1,y2,y3,y4],_=>
  have g0:DataW.trod enc nH w 0 spare held n 23 [c0,c1]=some y0:=by simpa [tf] using hg 0 _ rfl
  have g1:DataW.trod enc nH w 0 spare held n 23 [c2,c3]=some y1:=by simpa [tf] using hg 1 _ rfl
  have g2:DataW.trod enc nH w 0 spare held n 24 [c4]=some y2:=by simpa [Ow] using hg 2 _ rfl
  have g3:DataW.trod enc nH w 0 spare held n 25 [c5]=some y3:=by simpa [KH] using hg 3 _ rfl
  have g4:DataW.trod enc nH w 0 spare held n 26 [c6]=some y4:=by simpa [KD] using hg 4 _ rfl
  obtain⟨s,hs⟩:=yG g0
  obtain⟨s',hs'⟩:=yG g1
  obtain⟨gA,gc,gs,SM,hG⟩:=Qd g2
  obtain⟨aA,ac,al,has,hA⟩:=M7 g3
  obtain⟨wA,wc,wl,pO,hW⟩:=MW g4
  simp[gI] at hs hs'
  refine⟨⟨gA,gc,aA,ac,wA,wc⟩,⟨s,s',gs,al,wl⟩,?_,hG,hA,hW⟩
  rw[hs.1,hs.2,hs'.1,hs'.2,SM,has,pO]
theorem Jv{fuel:Nat}{c0 c1 c2:nK}{x:DataW H × List MemPlace}(h:DataW.trod enc nH w 0 spare held fuel 32 [c0,c1,c2]=some x):∃(r:cw) (n:Me.Net),[c0,c1,c2]=[.int .i64 n.m,.slice r.hA n.hs.length r.hc,.slice r.pA n.ps.length r.pc]/\bJ w.heap.size w r n:=by
 obtain⟨xs,n,_,_,_,hlen,hg⟩:=DataW.trod_struct Tryz.underlying32 h;match xs,hlen with
 |[y0,y1,y2],_=>
  refine QFR ?_
  intro g0
  have g1:DataW.trod enc nH w 0 spare held n 29 [c1]=some y1:=by simpa [Hj] using hg 1 _ rfl
  have g2:DataW.trod enc nH w 0 spare held n 30 [c2]=some y2:=by simpa [Ox] using hg 2 _ rfl
  obtain⟨a,ha⟩:=fZ g0
  obtain⟨hA,hc,hs,hhs,hH⟩:=Jz g1
  obtain⟨pA,pc,ps,hps,hP⟩:=Qe g2
  simp[aI] at ha
  exact⟨⟨hA,hc,pA,pc⟩,⟨a,hs,ps⟩,by rw[ha,hhs,hps],hH,hP⟩
theorem FD{fuel:Nat}{c0 c1 c2 c3:nK}{x:DataW H × List MemPlace}(h:DataW.trod enc nH w 0 spare held fuel 37 [c0,c1,c2,c3]=some x):∃(r:eR) (n:Sa.aN),[c0,c1,c2,c3]=[.slice r.kA n.kinds.length r.kc,.int .i64 n.floor,.slice r.pA n.parts.length r.pc,.slice r.bA n.bars.length r.bc]/\bT w.heap.size w r n:=by
 obtain⟨xs,n,_,_,_,hlen,hg⟩:=DataW.trod_struct Tryz.underlying37 h;match xs,hlen with
 |[y0,y1,y2,y3],_=>
  have g0:DataW.trod enc nH w 0 spare held n 33 [c0]=some y0:=by simpa [Hh] using hg 0 _ rfl
  have g1:DataW.trod enc nH w 0 spare held n 3 [c1]=some y1:=by simpa [iK] using hg 1 _ rfl
  have g2:DataW.trod enc nH w 0 spare held n 34 [c2]=some y2:=by simpa [Hg] using hg 2 _ rfl
  have g3:DataW.trod enc nH w 0 spare held n 35 [c3]=some y3:=by simpa [KG] using hg 3 _ rfl
  obtain⟨kA,kc,ks,hks,hK⟩:=Jy g0
  obtain⟨a,ha⟩:=fZ g1
  obtain⟨pA,pc,ps,hps,hP⟩:=Jw g2
  obtain⟨bA,bc,bs,CD,hB⟩:=open_ints g3
  simp[aI] at ha
  exact⟨⟨kA,kc,pA,pc,bA,bc⟩,⟨ks,a,ps,bs⟩,by rw[ha,hks,hps,CD],hK,hP,hB⟩
theorem wW{r:Reach}{b0:Nat}{v:nK}{d:DataW H}{p:List MemPlace}(hv:Value.okWide nH w r b0 39 v)(h:DataW.Trod enc nH w 0 (fun _=>true) held 39 v d p):∃(r:aQ) (t:aW),v=aO r t/\aJ w.heap.size w r t:=by
 obtain⟨cs,rfl,hsz⟩:=okWide_struct Tryz.underlying39 hv;rw[KE] at hsz;obtain⟨l⟩:=cs;match l,hsz with
 |[c0,c1,c2,c3,c4,c5,c6,c7,c8,c9,xD,c11,c12,yq],_=>
  obtain⟨fuel,hf⟩:=h
  obtain⟨xs,n,_,_,_,hlen,hg⟩:=DataW.trod_struct Tryz.underlying39 hf
  match xs,hlen with
  |[y0,y1,y2],_=>
   have g0:DataW.trod enc nH w 0 (fun _=>true) held n 28 [c0,c1,c2,c3,c4,c5,c6]=some y0:=by simpa [Value.cells,Oy] using hg 0 _ rfl
   have g1:DataW.trod enc nH w 0 (fun _=>true) held n 32 [c7,c8,c9]=some y1:=by simpa [Value.cells,KF] using hg 1 _ rfl
   have g2:DataW.trod enc nH w 0 (fun _=>true) held n 37 [xD,c11,c12,yq]=some y2:=by simpa [Value.cells,Hi] using hg 2 _ rfl
   obtain⟨rn,tn,en,hN⟩:=MZ g0
   obtain⟨rt,tt,et,hT⟩:=Jv g1
   obtain⟨rh,th,eh,hH⟩:=FD g2
   simp at en et eh
   obtain⟨rfl,rfl,rfl,rfl,rfl,rfl,rfl⟩:=en
   obtain⟨rfl,rfl,rfl⟩:=et
   obtain⟨rfl,rfl,rfl,rfl⟩:=eh
   exact⟨⟨rn,rt,rh⟩,⟨tn,tt,th⟩,rfl,hN,hT,hH⟩
theorem MX{fuel:Nat}{cs:List nK}{x:DataW H × List MemPlace}(h:DataW.trod enc nH w 0 spare held fuel 9 cs=some x):∃t:bz,cs=aX t:=by obtain⟨s,e0,_⟩:=DataW.trod_string Tryz.underlying9 h;exact⟨s.data.toList,by rw[e0,yX (a:=s) rfl];simp[aX,str]⟩
theorem Ck{r:Reach}{b0:Nat}{v:nK}{d:DataW H}{p:List MemPlace}(hv:Value.okWide nH w r b0 48 v)(h:DataW.Trod enc nH w 0 (fun _=>true) held 48 v d p):∃(A:Option Addr) (c:Nat) (xs:List bz),v=.slice A xs.length c/\Sl aX w.heap.size w A c xs:=by obtain⟨a,len,cap,rfl⟩:=okWide_slice Tryz.underlying48 hv;obtain⟨fuel,hf⟩:=h;exact kZ (v:=.slice a len cap) (fuel:=fuel) Tryz.underlying48 Ec nQ gD (fun _ _ _ h=>MX h) (by simpa [Value.cells] using hf)
theorem wX{r:Reach}{b0:Nat}{v:nK}{d:DataW H}{p:List MemPlace}(hv:Value.okWide nH w r b0 9 v)(h:DataW.Trod enc nH w 0 (fun _=>true) held 9 v d p):∃t:bz,v=.string (str t)/\d=.lit (.string t):=by obtain⟨s,rfl,rfl,_⟩:=Go.ChangeMaps.open_string Tryz.underlying9 hv h;exact⟨s.data.toList,by rw[yX (a:=s) rfl];simp[str],rfl⟩
end
def vJ:List (String × DataW Unit):=[("math/bits.deBruijn32tab",Rows.laid_math_bits_deBruijn32tab),("math/bits.deBruijn64tab",Rows.laid_math_bits_deBruijn64tab),("internal/strconv.uint64pow10",Rows.laid_internal_strconv_uint64pow10),("unicode/utf8.acceptRanges",Rows.laid_unicode_utf8_acceptRanges),("strconv.ErrRange",Rows.laid_strconv_ErrRange),("strconv.ErrSyntax",Rows.laid_strconv_ErrSyntax),("unicode/utf8.first",Rows.laid_unicode_utf8_first)]
theorem QL:(Rows.laid_internal_strconv_uint64pow10:DataW Unit)=Lib.tabData .u64 Lib.pow10Tab:=by kernel_rfl
theorem uj{P:Program}{W:nJ}{n nm:String}{d:DataW Unit}{r:List (String × DataW Unit)}{g:Nat}{ti:TypeId}{ms:Array (String × TypeId)}(h:laidMet P ((n,.iface nm d)::r) W)(hg:P.globalNamed n=some g)(ht:(P.globals[g]?).map (·.type)=some ti)(hi:P.underlying ti=some (.interface ms)):∃te pe,W.cell? ⟨g,0,none⟩=some (.iface te pe):=by obtain⟨ps,⟨g0,t0,cs0,f0,p0,q0,hg0,ht0,hv0,hd0,_,e0⟩,_,hrows⟩:=h;obtain rfl:=Option.some.inj (hg.symm.trans hg0);obtain rfl:=Option.some.inj (ht.symm.trans ht0);obtain⟨f1,u,v,hl,_,_⟩:=iface_of_trod hi hd0;obtain⟨l0⟩:=cs0;have hl:l0=[.iface u v]:=hl;subst hl;exact⟨u,v,by simpa using World.var?_cell hg0 hv0 0⟩
theorem sK{W:nJ}(h:laidMetH nH vJ W)(hs:W.ShapedOpen nH):cT W/\8<=W.heap.size:=by
 rw[MakeChecks.laidMetH_plain _ _ _ nP] at h;have h1:=laidMet.tail h;have h2:=laidMet.tail h1;have h4:=laidMet.tail (laidMet.tail h2);have h5:=laidMet.tail h4;rw[QL] at h2;refine⟨⟨Lib.tabIs_of_head (g:=1) (t:=326) (e:=295) (n:=20) nP nP Tryz.underlying326 Tryz.underlying295 nP nP h2,?_,?_,?_⟩,?_⟩
 ·exact cell_of_shapedOpen_int (g:=0) (t:=3) (zero:=#[.int .i64 0]) hs (of_decide_eq_true nP) nP rfl nP nP Tryz.underlying3
 ·exact uj (g:=4) (ti:=182) h5 nP nP Tryz.underlying182
 ·exact uj (g:=5) (ti:=182) h4 nP nP Tryz.underlying182
 ·obtain⟨ps,⟨g,t,cs,fuel,p,q,hg,ht,hv,hd,_,_⟩,_⟩:=h1;obtain rfl:=Option.some.inj ((show Tryz.prog.globalNamed "math/bits.deBruijn64tab" = some 7 by kernel_rfl).symm.trans hg);rcases Nat.lt_or_ge 7 W.heap.size with hlt|hge
  ·omega
  ·unfold World.var? at hv;rw[hg] at hv;simp only[Option.bind_some] at hv;rw[Array.getElem?_eq_none hge] at hv;cases hv
theorem own:ownKnob Tryz.prog.godebug=none:=by kernel_rfl
theorem laidOut:laidOutB nH=true:=by kernel_rfl
theorem Eh(os:Os)(args:Array nK):laidMetH nH vJ ((World.laidAll nH os vJ).forCall (fun _ _=>0) ⟨#[],args,[]⟩).memory:=by rw[MakeChecks.laidMetH_plain _ _ _ nP];exact laidMet_laidAll _ nP nP
end
end Go.Proofs.YtdmedlkonaclnaaGreatDoor
