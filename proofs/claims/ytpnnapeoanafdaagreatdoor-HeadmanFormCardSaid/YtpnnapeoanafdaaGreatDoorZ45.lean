/- A part of the proof that a law of layer 12 holds, cut small by a program (names and blanks): HdPe. -/
import Derived.Test.YtpnnapeoanafdaaGreatDoorZ38
set_option maxRecDepth 100000
set_option maxHeartbeats 40000000
set_option linter.unusedVariables false
set_option linter.unusedSimpArgs false
namespace Go.Proofs.YtpnnapeoanafdaaGreatDoor
open Go.RowKit
namespace Hd
def lu(f:aQ->aQ)(w:aQ)(ws:List aQ):aQ:=w++ws.flatMap f
def mO(v:aQ):aQ:=32::v
def DL(v:aQ):aQ:=32::32::v
def qt(b:UInt8)(v:aQ):aQ:=32::kR b v
theorem vZ:∀(ws:List aQ) (w:aQ),qH (w::ws)=lu mO w ws
 |[],w=>by simp[qH,lu]
 |v::ws,w=>by rw[qH,vZ ws v];simp[lu,mO]
theorem Pg(w:aQ)(ws:List aQ):qH (Mf (w::ws))=lu DL w ws:=by show qH (w::ws.flatMap fun v=>[[],v])=_;rw[vZ];unfold lu;rw[List.flatMap_assoc];refine congrArg (fun g=>w++List.flatMap g ws) (funext fun v=>?_);simp[mO,DL]
theorem KP(b:UInt8)(w:aQ)(ws:List aQ):qH (En b (w::ws))=lu (qt b) w ws:=by show qH (w::ws.map (kR b))=_;rw[vZ];unfold lu;rw[List.flatMap_map];rfl
theorem Bl(f:aQ->aQ)(w:aQ)(ws:List aQ){k:Nat}(h:k<ws.length):lu f w (ws.take (k+1))=lu f w (ws.take k)++f (nth ws k):=by unfold lu;rw[bz _ h,List.flatMap_append,List.append_assoc];simp only[List.flatMap_cons,List.flatMap_nil,List.append_nil]
theorem Qc{line w:aQ}{ws:List aQ}(hp:aS line=w::ws):lu mO w ws=line:=by rw[<-vZ,<-hp,KO]
theorem RN(b:UInt8)(v:aQ):(kR b v).length<=v.length+1:=by unfold kR;split<;>simp
theorem Ig{f:aQ->aQ}(hf:∀v,(f v).length<=2*(mO v).length):∀ws:List aQ,(ws.flatMap f).length<=2*(ws.flatMap mO).length
 |[]=>by simp
 |v::ws=>by rw[List.flatMap_cons,List.flatMap_cons,List.length_append,List.length_append];have:=hf v;have:=Ig hf ws;omega
theorem Mi(v:aQ):(DL v).length<=2*(mO v).length:=by simp[DL,mO];omega
theorem vn(b:UInt8)(v:aQ):(qt b v).length<=2*(mO v).length:=by have:=RN b v;simp[qt,mO];omega
theorem Nu(f:aQ->aQ)(ws:List aQ)(k:Nat):((ws.take k).flatMap f).length<=(ws.flatMap f).length:=by
 have e:ws.flatMap f=(ws.take k).flatMap f++(ws.drop k).flatMap f:=by rw[<-List.flatMap_append,List.take_append_drop]
 rw[e,List.length_append];omega
theorem tT{f:aQ->aQ}(hf:∀v,(f v).length<=2*(mO v).length){line w:aQ}{ws:List aQ}(hp:aS line=w::ws)(hl:line.length<=30)(k:Nat):(lu f w (ws.take k)).length<=90:=by
 have h1:=Qc hp;have h2:w.length+(ws.flatMap mO).length<=30:=by rw[<-h1] at hl;unfold lu at hl;rw[List.length_append] at hl;exact hl
 have h3:=Ig hf (ws.take k);have h4:=Nu mO ws k;unfold lu;rw[List.length_append];omega
def Bj(ws:List aQ):Bool:=ws.any fun v=>(numOf v).isSome
theorem TK(ws:List aQ){k:Nat}(h:k<ws.length):Bj (ws.take (k+1))=(Bj (ws.take k)||(numOf (nth ws k)).isSome):=by unfold Bj;rw[bz _ h,List.any_append];simp only[List.any_cons,List.any_nil,Bool.or_false]
def RW:List aQ:=[[119,104,101,110,32,108,111,115,115,32,60,32,53,32,116,104,101,110],[119,104,101,110,32,108,111,115,115,32,60,32,53,32,116,104,101,110,32,108,111,115,115],[119,104,101,110,32,108,111,115,115,32,60,32,53,32,116,104,101,110,32,102,111,114,103,101,116,32,48],[119,104,101,110,32,108,111,115,115,32,60,32,53,32,116,104,101,110,32,119,104,101,110,32,108,111,115,115,32,60,32,53,32,116,104,101,110,32,109,101,110,100,101,100],[119,104,101,110,32,111,114,100,101,114,32,60,32,53,32,116,104,101,110,32,109,101,110,100,101,100],[119,104,101,110,32,108,111,115,115,32,60,61,32,53,32,116,104,101,110,32,109,101,110,100,101,100]]
theorem RV:∀x∈RW,bH x=.none:=by decide +kernel
def Bi(line:aQ):List aQ:=(32::line)::(line++[32])::(fJ++32::line)::RW
def uj(w:aQ)(ws:List aQ):List aQ:=if ws.length=0 then[] else[lu DL w ws]
def zx(w:aQ)(ws:List aQ):List aQ:=if Bj ws=true then[lu (qt 48) w ws,lu (qt 43) w ws] else[]
theorem Jr{b:UInt8}(hb:b=48\/b=43){v:aQ}(h:(32:UInt8)∉v):(32:UInt8)∉kR b v:=by
 unfold kR;split
 ·exact h
 ·intro e;rcases List.mem_cons.1 e with e|e
  ·rcases hb with rfl|rfl<;>revert e<;>decide
  ·exact h e
theorem Dm{b:UInt8}(hb:b=48\/b=43){line w:aQ}{ws:List aQ}(hp:aS line=w::ws)(hk:bH line≠.none)(ha:Bj ws=true):bH (lu (qt b) w ws)=.none:=by
 have Qp:=xS line;rw[hp] at Qp;have hs:aS (lu (qt b) w ws)=En b (w::ws):=by
  rw[<-KP];refine uG (by simp[En]) fun x hx=>?_;rcases List.mem_cons.1 hx with rfl|hx
  ·exact Qp _ nV
  ·obtain⟨v,hv,rfl⟩:=List.mem_map.1 hx;exact Jr hb (Qp v (by simp[hv]))
 unfold bH at hk ⊢;rw[hs];rw[hp] at hk;refine Py hb hk ?_;unfold Bj at ha;obtain⟨v,hv,hn⟩:=List.any_eq_true.1 ha;exact⟨v,by simpa using hv,Option.isSome_iff_exists.1 hn⟩
theorem SP{line w:aQ}{ws:List aQ}(hp:aS line=w::ws)(h0:ws.length≠0):bH (lu DL w ws)=.none:=by
 have Qp:=xS line;rw[hp] at Qp;cases ws with
 |nil=>exact absurd rfl h0
 |cons v ws=>
  have hs:aS (lu DL w (v::ws))=Mf (w::v::ws):=by
   rw[<-Pg];refine uG (by simp[Mf]) fun x hx=>?_;rcases List.mem_cons.1 hx with rfl|hx
   ·exact Qp _ nV
   ·obtain⟨u,hu,hx⟩:=List.mem_flatMap.1 hx;simp only[List.mem_cons,List.not_mem_nil,or_false] at hx;rcases hx with rfl|rfl
    ·simp
    ·exact Qp _ (List.mem_cons_of_mem _ hu)
  unfold bH
  rw[hs]
  exact Pw
theorem SQ{line w:aQ}{ws:List aQ}(hp:aS line=w::ws)(hk:bH line≠.none)(hl:line.length<=30):∀x∈Bi line++uj w ws++zx w ws,bH x=.none/\x.length<=1000:=by
 intro x hx;rcases List.mem_append.1 hx with hx|hx
 ·rcases List.mem_append.1 hx with hx|hx
  ·unfold Bi at hx;rcases List.mem_cons.1 hx with rfl|hx
   ·exact⟨Lg _,by simp;omega⟩
   ·rcases List.mem_cons.1 hx with rfl|hx
    ·exact⟨Ic _,by simp;omega⟩
    ·rcases List.mem_cons.1 hx with rfl|hx
     ·exact⟨Px hk,by simp[fJ];omega⟩
     ·refine⟨RV x hx,?_⟩;have:∀x∈RW,x.length<=1000:=nU;exact this x hx
  ·unfold uj at hx;split at hx
   ·cases hx
   ·rename_i h0;simp at hx;subst hx;have:=tT Mi hp hl ws.length;rw[List.take_length] at this;exact⟨SP hp h0,nQ⟩
 ·unfold zx at hx;split at hx
  ·rename_i ha;simp only[List.mem_cons,List.not_mem_nil,or_false] at hx;rcases hx with rfl|rfl
   ·have:=tT (vn 48) hp hl ws.length;rw[List.take_length] at this;exact⟨Dm (.inl rfl) hp hk ha,nQ⟩
   ·have:=tT (vn 43) hp hl ws.length;rw[List.take_length] at this;exact⟨Dm (.inr rfl) hp hk ha,nQ⟩
  ·cases hx
theorem CH(t:aO):∀ {ls:List aQ},(∀l∈ls,bH l=.none)->dJ (bZ t) ls=(bZ t,ls.map fun _=>mC)
 |[],_=>rfl
 |l::ls,h=>by
  have hs:fO (bZ t) l=(bZ t,mC):=by
   have ho:cI (bZ t) l=(bZ t,mC):=by unfold cI;rw[h l nV]
   unfold fO;rw[ho];rfl
  rw[dJ,hs];simp only[];rw[CH t fun x hx=>h x (by simp[hx])];rfl
end Hd
end Go.Proofs.YtpnnapeoanafdaaGreatDoor
