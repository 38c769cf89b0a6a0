import Derived.Test.YteajdhhmkjblnaaGreatDoorProg
import Derived.ArgAppend
import Derived.Below
import Derived.BigQuiet
import Derived.Deep.AppendLies
import Derived.Deep.CutBlock
import Derived.Deep.DeepCutAuto
import Derived.Deep.Draws
import Derived.Deep.LoopGhost
import Derived.Deep.OwnRows
import Derived.Deep.QuietTactic
import Derived.Deep.RegionHeld3
import Derived.KernelRfl
import Derived.Laws.BitsLemmas
import Derived.Laws.BytesArg
import Derived.Laws.IdiomCopy
import Derived.Laws.MakeOwn
import Derived.Laws.OwnMore
import Derived.Laws.Rows
import Derived.Laws.Slices
import Derived.Lib.AppendStr
import Derived.Lib.ConvBytes
import Derived.Maps.AppendAt
import Derived.OrdersHeld
import Derived.OwnWalk
import Derived.RowKit
import Derived.RowKit3
import Derived.Tactics
import Derived.WalkKit
import Derived.WideLaws
set_option maxHeartbeats 8000000
set_option maxRecDepth 100000
set_option linter.unusedVariables false
set_option linter.unusedSimpArgs false
namespace Go.Proofs.YteajdhhmkjblnaaGreatDoorW.PrintWords
end Go.Proofs.YteajdhhmkjblnaaGreatDoorW.PrintWords
namespace Go.Proofs.YteajdhhmkjblnaaGreatDoorW.PrintLast
end Go.Proofs.YteajdhhmkjblnaaGreatDoorW.PrintLast
namespace Go.Proofs.YteajdhhmkjblnaaGreatDoorW.PrintMore
end Go.Proofs.YteajdhhmkjblnaaGreatDoorW.PrintMore
namespace Go.Proofs.YteajdhhmkjblnaaGreatDoorW.PrintWords
open Go.RowKit
structure av (p:Prop):Prop where mk :: (out:p)
theorem am {p:Prop} (h:p):av p:=⟨h⟩
theorem nL {α:Type} (l:List α) (i:Nat) (a:α):l.toArray.setIfInBounds i a=(l.set i a).toArray:=List.setIfInBounds_toArray l i a
theorem nM {α:Type} {x:α} {xs:List α} {a:α}:(x::xs).set 0 a=a::xs:=List.set_cons_zero
theorem nN {α:Type} {x:α} {xs:List α} {n:Nat} {a:α}:(x::xs).set (n+1) a=x::xs.set n a:=List.set_cons_succ
theorem oI {cs:List Value} (h:cs.all (fun v=>v.oneCell') = true):∀ v ∈ cs,v.oneCell' = true:=by simpa using h
structure vr (w af:World):Prop where mk :: (out:∃ n,af=w.drewN n)
theorem vr.refl (w:World):vr w w:=⟨⟨0,rfl⟩⟩
theorem vr.step {w af:World} (h:vr w af) (n:Nat):vr w (af.drewN n):=by
 obtain ⟨m,rfl⟩:=h;exact ⟨⟨m+n,World.drewN_drewN ..⟩⟩
def rd (xs:List Int) (i:Int):Int:=xs.getD i.toNat 0
def nums (k:IntKind) (xs:List Int):List Value:=xs.map fun x=> .int k x
theorem mz {w W:World} (h:Below w.heap.size w W) (o:Obj):Below w.heap.size w (W.alloc o):=h.alloc h.size o
theorem ei {B:Nat} {w W:World} (h:Below B w W):Below B w W.drew:=⟨h.os,h.tape,h.output,h.size,h.block⟩
theorem iY {B:Nat} {w W:World} (h:Below B w W) (n:Nat):Below B w (W.drewN n):=⟨h.os,h.tape,h.output,h.size,h.block⟩
theorem aaB {B:Nat} {w w1 b':World} (h:Below B w w1) (dt:B<=w1.heap.size) (k:Below w1.heap.size w1 b'):Below B w b':=
 h.trans ⟨k.os,k.tape,k.output,k.size,fun i aa=>k.block i (Nat.lt_of_lt_of_le aa dt)⟩
theorem mA {B:Nat} {w w1:World} (h:Below B w w1) (row:Option Nat) (dt:B<=w1.heap.size) {b':World} (U:w1.grownBy b' row) (ao:∀ k,row=some k->B<=k):Below B w b':=h.grown U dt ao
theorem S7 {w w1:World} (h:Below w.heap.size w w1) (row:Option Nat):w.grownBy w1 row:=⟨h.os,h.tape,h.output,h.size,fun i aa _=>h.block i aa⟩
theorem j2 {w w1:World} (h:Below w.heap.size w w1) {a:Addr} {v:Value} (ay:w.cell? a=some v):w1.cell? a=some v:=(h.cell (World.block_lt_of_cell? w a ay)).trans ay
theorem add_plain (g j:Nat):(⟨g,0,none⟩:Addr).add j=⟨g,j,none⟩:=by unfold Addr.add;split <;> simp_all
def rv (w:World) (k:IntKind) (A:Option Addr) (n:Nat) (xs:List Int):Prop:=
 xs.length=n/\n<=9223372036854775807/\(0 < n->∃ cy,A=some cy/\∀ j,j < n->w.cell? (cy.add j)=some (.int k (xs.getD j 0)))
theorem YK (W:World) (base:Nat) (e:TypeId) (size:Nat):W.ownsRow base e size (.slice none 0 0) 0 []:=⟨by simp,.inl ⟨rfl,rfl⟩⟩
theorem CU {w:World} {base:Nat} {e:TypeId} {size n:Nat} {v:Value} {xs:List Value} (h:w.ownsRow base e size v n xs) (k:Nat) (J:v.ownBlock=some k):base<=k:=by
 rcases h.2 with ⟨rfl,_⟩ | ⟨g,cap,cur,rfl,I,_⟩
 ·simp [Value.ownBlock] at J
 ·have:g=k:=by simpa [Value.ownBlock] using J
  omega
theorem QM {w:World} {base:Nat} {e:TypeId} {size n:Nat} {v:Value} {xs:List Value} (h:w.ownsRow base e size v n xs) (k:Nat) (J:v.ownBlock=some k):k < w.heap.size:=by
 rcases h.2 with ⟨rfl,_⟩ | ⟨g,cap,cur,rfl,I,c0,_⟩
 ·simp [Value.ownBlock] at J
 ·have:g=k:=by simpa [Value.ownBlock] using J
  subst this;exact (Array.getElem?_eq_some_iff.1 c0).1
theorem Z9 {w:World} {base n:Nat} {e:TypeId} {size:Nat} {v:Value} {xs:List Value} (h:w.ownsRow base e size v n xs):∃ A c,v= .slice A n c:=by
 rcases h.2 with ⟨rfl,rfl⟩ | ⟨g,cap,cur,rfl,_⟩
 ·exact ⟨none,0,rfl⟩
 ·exact ⟨_,cap,rfl⟩
section
variable {P:Program}
theorem aaC (t e:TypeId) (k:IntKind) (bytes:Nat) (a6:P.underlying t=some (.slice e)) (ng:(P.info? e).map (fun i=>(i.zero,i.size,i.bytes))=some (some (.int k 0),1,bytes)) (dE:0 < bytes)
  (m:Nat) (aS:m*bytes<=281474976710656):
  ∀ W:World,(Instr.makeSlice t (.int .i64 (m:Int)) (.int .i64 (m:Int))).run P W= .ok (.slice (some ⟨W.heap.size,0,none⟩) m m) (W.alloc (.cells (madeCells #[.int k 0] m) e)):=by
 intro W;have hm:m<=281474976710656:=Nat.le_trans (Nat.le_mul_of_pos_right _ dE) aS;exact run_make_row' t e (.int k 0) bytes a6 ng rfl .i64 .i64 m (by rw [Nat.mul_comm];exact aS) (by omega) W
end
def cp {α:Type} (aC:α->List Value->Prop) (size:Nat) (bK:List α) (cs:List Value):Prop:=
 cs.length=bK.length*size/\∀ j p,bK[j]? = some p->aC p ((cs.drop (j*size)).take size)
theorem cp.none {α:Type} (aC:α->List Value->Prop) (size:Nat):cp aC size [] []:=⟨by simp,fun j p h=>by simp at h⟩
theorem cp.snoc {α:Type} {aC:α->List Value->Prop} {size:Nat} {bK:List α} {cs c:List Value} {p:α} (h:cp aC size bK cs) (aB:aC p c) (ay:c.length=size):cp aC size (bK ++ [p]) (cs ++ c):=by
 refine ⟨by rw [List.length_append,h.1,ay,List.length_append,List.length_singleton,Nat.add_mul,Nat.one_mul],fun j q aF=> ?_⟩;rcases Nat.lt_or_ge j bK.length with aI | aI
 ·rw [List.getElem?_append_left aI] at aF
  have h1:j*size+size<=cs.length:=by rw [h.1,<-Nat.succ_mul];exact Nat.mul_le_mul_right _ aI
  have ar:=h.2 j q aF;rw [List.drop_append_of_le_length (by omega),List.take_append_of_le_length (by rw [List.length_drop];omega)];exact ar
 ·have w8:j=bK.length:=by
   have:=(List.getElem?_eq_some_iff.1 aF).1
   rw [List.length_append,List.length_singleton] at this;omega
  subst w8;have q3:p=q:=by simpa using aF
  subst q3;rw [<-h.1,List.drop_left,<-ay,List.take_length];exact aB
theorem cp.lJ {α:Type} {aC x5:α->List Value->Prop} {size:Nat} {bK:List α} {cs:List Value} (h:cp aC size bK cs) (df:∀ p c,aC p c->x5 p c):cp x5 size bK cs:=⟨h.1,fun j p aI=>df _ _ (h.2 j p aI)⟩
def pS {α:Type} (aC:α->List Value->Prop) (size:Nat) (w:World) (A:Option Addr) (n:Nat) (bK:List α):Prop:=
 bK.length=n/\n<=9223372036854775807/\(0 < n->∃ cy,A=some cy/\∀ j p,bK[j]? = some p->∃ c,c.length=size/\aC p c/\∀ i u,c[i]? = some u->w.cell? (cy.add (j*size+i))=some u)
theorem pS.WS {α:Type} {aC:α->List Value->Prop} {size:Nat} {w:World} {A:Option Addr} {n:Nat} {bK:List α} (h:pS aC size w A n bK) (d:α) (i:Int) (aq:0<=i) (h1:i < n):
  ∃ cy c,A=some cy/\c.length=size/\aC (bK.getD i.toNat d) c/\∀ j u,c[j]? = some u->w.cell? (cy.add (i.toNat*size+j))=some u:=by
 obtain ⟨cy,e,ay⟩:=h.2.2 (by omega);have ak:i.toNat < bK.length:=by have:=h.1;omega
 obtain ⟨c,hs,ao,j'⟩:=ay i.toNat _ (List.getElem?_eq_getElem ak);refine ⟨cy,c,e,hs, ?_,j'⟩;rw [List.getD_eq_getElem?_getD,List.getElem?_eq_getElem ak];exact ao
theorem pS.lJ {α:Type} {aC x5:α->List Value->Prop} {size:Nat} {w w1:World} {A:Option Addr} {n:Nat} {bK:List α} (h:pS aC size w A n bK) (I:Below w.heap.size w w1) (df:∀ p c,aC p c->x5 p c):pS x5 size w1 A n bK:=
 ⟨h.1,h.2.1,fun aS=>by
  obtain ⟨cy,e,ay⟩:=h.2.2 aS;refine ⟨cy,e,fun j p aI=> ?_⟩;obtain ⟨c,hs,ao,j'⟩:=ay j p aI;exact ⟨c,hs,df _ _ ao,fun i u hu=>j2 I (j' i u hu)⟩⟩
theorem abP {α:Type} {aC:α->List Value->Prop} {w:World} {base n size:Nat} {e:TypeId} {v:Value} {bK:List α} {cs:List Value} (h:w.ownsRow base e size v n cs) (df:cp aC size bK cs) (aS:bK.length=n):
  ∃ A c,v= .slice A n c/\pS aC size w A n bK:=by
 rcases Nat.eq_zero_or_pos n with aq | aq
 ·rcases h.2 with ⟨rfl,rfl⟩ | ⟨g,cap,cur,rfl,_⟩
  ·exact ⟨none,0,rfl,aS,by omega,fun aB=>absurd aB (by omega)⟩
  ·exact ⟨_,cap,rfl,aS,by omega,fun aB=>absurd aB (by omega)⟩
 ·obtain ⟨g,cap,rfl,_,_⟩:=h.form aq
  have hm:n<=9223372036854775807:=by
   rcases h.2 with ⟨_,h1⟩ | ⟨pW,HG,cur,he,_,_,h1,ar,_⟩
   ·omega
   ·simp only [maxLen] at ar
    omega
  refine ⟨_,cap,rfl,aS,hm,fun _=>⟨_,rfl,fun j p aI=>⟨(cs.drop (j*size)).take size, ?_,df.2 j p aI,fun i u hu=> ?_⟩⟩⟩
  ·have DO:=(List.getElem?_eq_some_iff.1 aI).1
   have h1:j*size+size<=cs.length:=by rw [df.1,<-Nat.succ_mul];exact Nat.mul_le_mul_right _ DO
   rw [List.length_take,List.length_drop];omega
  ·refine h.cells (g:=g) rfl _ u ?_
   rw [List.getElem?_take] at hu;split at hu
   ·rw [List.getElem?_drop] at hu
    exact hu
   ·cases hu
section
variable {P:Program} {ops:Array Oper} {rest:List Oper} {o:Oper} {a:Act} {Q:Exit->Act->World->Prop}
theorem acm {w0 W:World} (base:Nat) (eO:o.guard=none) (s x:Operand) (t e:TypeId) (z:Value) (size bytes:Nat)
  (aT:o.op= .call {callee:=.builtin .append,args:=#[s,x],argTypes:=#[t,t]})
  (a6:P.underlying t=some (.slice e)) (ng:(P.info? e).map (fun i=>(i.zero,i.size,i.bytes))=some (some z,size,bytes)) (aX:z.cells.size=size) (jC:0 < size) (dE:0 < bytes)
  (v:Value) (n:Nat) (xs cH:List Value) (hs:a.eval s=v) (az:a.eval x= .slice (some ⟨W.heap.size,0,none⟩) 1 1) (zY:cH.length=size) (h1:∀ u ∈ cH,u.oneCell'=true)
  (eB:W.ownsRow base e size v n xs) (ab:Below base w0 W) (kZ:base<=W.heap.size) (ak:(n+1)*bytes<=140737488355328)
  (h:∀ v1 w1,w1.ownsRow base e size v1 (n+1) (xs ++ cH)->Below base w0 w1->W.grownBy w1 v.ownBlock->(v1.ownBlock=v.ownBlock\/∃ b,v1.ownBlock=some b/\W.heap.size<=b)->wpList P ops Q rest (a.put o.dst v1) w1):
  wpList P ops Q (o :: rest) a (W.alloc (.cells cH.toArray e)):=by
 obtain ⟨i0,aa,q4⟩:=Option.map_eq_some_iff.1 ng;simp only [Prod.mk.injEq] at q4;obtain ⟨jQ,rR,lC⟩:=q4;have hlen:n+1<=140737488355328:=Nat.le_trans (Nat.le_mul_of_pos_right _ dE) ak
 refine wpList_append_own_at (W.alloc (.cells cH.toArray e)) eO s x t aT base e i0 z size bytes a6 aa jQ rR lC aX jC v n xs hs (eB.alloc _) ⟨W.heap.size,0,none⟩ 1 1 cH az (by rw [zY];simp)
  (by simpa using World.news_of_block (cs:=cH.toArray) (t:=e) (fr:=(0,0)) (heap_alloc_new W (.cells cH.toArray e))) h1 (by simp only [maxLen];omega) ak (by simp;omega) ?_
 intro v1 w1 kr U _ dy;refine h v1 w1 kr ((ab.alloc kZ _).grown U (by simp;omega) (CU eB)) (World.grownBy.trans (World.grownBy_alloc W _ _) U) ?_;rcases dy with dy | dy
 ·exact .inl dy
 ·exact .inr ⟨_,dy,by simp⟩
end
theorem Yb {w:World} {base:Nat} {e t:TypeId} {size n g:Nat} {v:Value} {xs:List Value} {cs:Array Value} (h:w.ownsRow base e size v n xs) (U:w.heap[g]? = some (.cells cs t (0,0))) (cm:e ≠ t):some g ≠ v.ownBlock:=by
 rcases h.2 with ⟨rfl,_⟩ | ⟨pW,cap,cur,rfl,_,c0,_⟩
 ·simp [Value.ownBlock]
 ·intro he
  have:g=pW:=by simpa [Value.ownBlock] using he
  subst this;rw [U] at c0;injection c0 with c0;injection c0 with _ a6;exact cm a6.symm
theorem ku {w:World} {g:Nat} {t:TypeId} {cs:Array Value} (h:w.heap[g]? = some (.cells cs t (0,0))) (i:Nat) (u:Value):(w.setCell ⟨g,i,none⟩ u).heap[g]? = some (.cells (cs.setIfInBounds i u) t (0,0)):=by
 simp [World.setCell,Array.getElem?_modify,h]
theorem eA {w:World} {g:Nat} {t:TypeId} {cs:Array Value} (h:w.heap[g]? = some (.cells cs t (0,0))) {p:Addr} (aB:g ≠ p.block) (u:Value):(w.setCell p u).heap[g]? = some (.cells cs t (0,0)):=(Below.heap_setCell w p u g aB).trans h
theorem dK {w:World} {g:Nat} {o:Obj} (h:w.heap[g]? = some o):g < w.heap.size:=(Array.getElem?_eq_some_iff.1 h).1
theorem F2 {w:World} {g:Nat} {t:TypeId} {cs:Array Value} (h:w.heap[g]? = some (.cells cs t (0,0))) (i:Nat):w.cell? ⟨g,i,none⟩=cs[i]? :=cell_of_row w g i cs t (0,0) h
theorem iX {w:World} {g:Nat} {t:TypeId} {cs:Array Value} (h:w.heap[g]? = some (.cells cs t (0,0))) (i:Nat):w.frozen? ⟨g,i,none⟩=false:=by simp [World.frozen?,h]
theorem eQ {w w1:World} {g:Nat} {o:Obj} {row:Option Nat} (h:w.heap[g]? = some o) (U:w.grownBy w1 row) (cm:some g ≠ row):w1.heap[g]? = some o:=(U.block g (dK h) cm).trans h
theorem g7 {w:World} {g pW:Nat} {t MP:TypeId} {cs gN:Array Value} (h:w.heap[g]? = some (.cells cs t (0,0))) (ct:w.heap[pW]? = some (.cells gN MP (0,0))) (cm:t ≠ MP):g ≠ pW:=by
 rintro rfl;rw [h] at ct;injection ct with ct;injection ct with _ a6;exact cm a6
def ic (w af:World) (g:Nat) (row:Option Nat):Prop:=w.heap.size<=af.heap.size/\∀ i,i < w.heap.size->i ≠ g->some i ≠ row->af.heap[i]? = w.heap[i]?
theorem ic.refl (w:World) (g:Nat) (row:Option Nat):ic w w g row:=⟨Nat.le_refl _,fun _ _ _ _=>rfl⟩
theorem ic.L7 {w w1:World} {row:Option Nat} (h:w.grownBy w1 row) (g:Nat):ic w w1 g row:=⟨h.size,fun i aa _ ao=>h.block i aa ao⟩
theorem ic.WT {w w1:World} {g:Nat} {row:Option Nat} (h:ic w w1 g row) (j:Nat) (u:Value):ic w (w1.setCell ⟨g,j,none⟩ u) g row:=
 ⟨by simpa [World.setCell] using h.1,fun i aa U ao=>(Below.heap_setCell w1 ⟨g,j,none⟩ u i U).trans (h.2 i aa U ao)⟩
theorem ic.trans {w w1 b':World} {g:Nat} {row KV:Option Nat} (h:ic w w1 g row) (k:ic w1 b' g KV) (ao:KV=row\/∃ b,KV=some b/\w.heap.size<=b):ic w b' g row:=
 ⟨Nat.le_trans h.1 k.1,fun i aa U aS=>by
  refine (k.2 i (Nat.lt_of_lt_of_le aa h.1) U ?_).trans (h.2 i aa U aS);rcases ao with rfl | ⟨b,rfl,I⟩
  ·exact aS
  ·intro e
   injection e with e;omega⟩
theorem ic.bB {w w1:World} {g pW:Nat} {row:Option Nat} {o:Obj} (h:ic w w1 g row) (I:w.heap[pW]? = some o) (U:pW ≠ g) (ao:some pW ≠ row):w1.heap[pW]? = some o:=(h.2 pW (dK I) U ao).trans I
section
variable {P:Program} {ops:Array Oper} {o:Oper} {a:Act} {Q:Exit->Act->World->Prop} {K:Act->World->Prop}
theorem ack {w0 W:World} (base:Nat) (hw:Region.wanted o (yielded ops a.tmps)=true) (s x:Operand) (t e:TypeId) (z:Value) (size bytes:Nat)
  (aT:o.op= .call {callee:=.builtin .append,args:=#[s,x],argTypes:=#[t,t]})
  (a6:P.underlying t=some (.slice e)) (ng:(P.info? e).map (fun i=>(i.zero,i.size,i.bytes))=some (some z,size,bytes)) (aX:z.cells.size=size) (jC:0 < size) (dE:0 < bytes)
  (v:Value) (n:Nat) (xs cH:List Value) (hs:a.eval s=v) (az:a.eval x= .slice (some ⟨W.heap.size,0,none⟩) 1 1) (zY:cH.length=size) (h1:∀ u ∈ cH,u.oneCell'=true)
  (eB:W.ownsRow base e size v n xs) (ab:Below base w0 W) (kZ:base<=W.heap.size) (ak:(n+1)*bytes<=140737488355328)
  (h:∀ v1 w1,w1.ownsRow base e size v1 (n+1) (xs ++ cH)->Below base w0 w1->W.grownBy w1 v.ownBlock->(v1.ownBlock=v.ownBlock\/∃ b,v1.ownBlock=some b/\W.heap.size<=b)->K (a.put o.dst v1) w1):
  if Region.wanted o (yielded ops a.tmps)=true then Oper.wp P o a (W.alloc (.cells cH.toArray e)) K Q else K (a.put o.dst undef) (W.alloc (.cells cH.toArray e)):=by
 obtain ⟨i0,aa,q4⟩:=Option.map_eq_some_iff.1 ng;simp only [Prod.mk.injEq] at q4;obtain ⟨jQ,rR,lC⟩:=q4;have hlen:n+1<=140737488355328:=Nat.le_trans (Nat.le_mul_of_pos_right _ dE) ak;rw [if_pos hw]
 obtain ⟨v1,w1,ao,kr,U,_,dy⟩:=run_append_own_at (P:=P) (W.alloc (.cells cH.toArray e)) base t o.type e i0 z size bytes a6 aa jQ rR lC aX jC v n xs (eB.alloc _) ⟨W.heap.size,0,none⟩ 1 1 cH (by rw [zY];simp)
  (by simpa using World.news_of_block (cs:=cH.toArray) (t:=e) (fr:=(0,0)) (heap_alloc_new W (.cells cH.toArray e))) h1 (by simp only [maxLen];omega) ak (by simp;omega)
 unfold Oper.wp execOp;simp only [aT,resolve,invoke,builtin,Sem.run_bind,Sem.run_pure,Result.andThen_ok,List.map_toArray,List.map_cons,List.map_nil,hs,az,ao];refine h v1 w1 kr ((ab.alloc kZ _).grown U (by simp;omega) (CU eB)) (World.grownBy.trans (World.grownBy_alloc W _ _) U) ?_;rcases dy with dy | dy
 ·exact .inl dy
 ·exact .inr ⟨_,dy,by simp⟩
end
theorem aaD {w:World} {base te:Nat} {e:TypeId} {size n:Nat} {v:Value} {xs:List Value} (h:w.ownsRow base e size v n xs) (I:te<=base):w.ownsRow te e size v n xs:=by
 obtain ⟨h1,ar⟩:=h;refine ⟨h1, ?_⟩;rcases ar with ar | ⟨g,cap,cur,rfl,U,r⟩
 ·exact .inl ar
 ·exact .inr ⟨g,cap,cur,rfl,Nat.le_trans I U,r⟩
section
variable {α:Type} {enc:α->Value} {d:α}
def o5 (enc:α->Value) (xs:List α):List Value:=xs.map enc
def AQ (d:α) (xs:List α) (i:Int):α:=xs.getD i.toNat d
theorem Sn (xs:List α):(o5 enc xs).length=xs.length:=by simp [o5]
theorem Zp (xs:List α) (j:Nat) (h:j < xs.length):(o5 enc xs)[j]? = some (enc (xs.getD j d)):=by
 simp [o5,List.getElem?_eq_getElem h,List.getD_eq_getElem?_getD]
def wu (enc:α->Value) (d:α) (w:World) (A:Option Addr) (n:Nat) (xs:List α):Prop:=
 xs.length=n/\n<=9223372036854775807/\(0 < n->∃ cy,A=some cy/\∀ j,j < n->w.cell? (cy.add j)=some (enc (xs.getD j d)))
theorem wu.at_ {w:World} {A:Option Addr} {n:Nat} {xs:List α} (h:wu enc d w A n xs) (i:Int) (aq:0<=i) (h1:i < n):∃ cy,A=some cy/\w.cell? (cy.add i.toNat)=some (enc (AQ d xs i)):=by
 obtain ⟨cy,e,ay⟩:=h.2.2 (by omega);exact ⟨cy,e,ay _ (by omega)⟩
theorem wu.Ls {w:World} {A:Option Addr} {n:Nat} {xs:List α} (h:wu enc d w A n xs) (i:Nat) (aa:i<=n):wu enc d w A i (xs.take i):=by
 refine ⟨by rw [List.length_take,h.1];omega,by have:=h.2.1;omega,fun aB=> ?_⟩;obtain ⟨cy,e,ay⟩:=h.2.2 (by omega);refine ⟨cy,e,fun j aI=> ?_⟩;rw [ay j (by omega)];simp [List.getD_eq_getElem?_getD,aI]
theorem Z' {W:World} {base g n cap:Nat} {e:TypeId} {xs:List α} (h:W.ownsRow base e 1 (.slice (some ⟨g,0,none⟩) n cap) n (o5 enc xs)) (i:Int) (aq:0<=i) (h1:i < n):
  W.cell? ⟨g,i.toNat,none⟩=some (enc (AQ d xs i))/\W.frozen? ⟨g,i.toNat,none⟩=false:=by
 have ak:xs.length=n:=by have:=h.1;simp [o5] at this;exact this
 constructor
 ·have ay:=h.cells (g:=g) rfl i.toNat _ (Zp (d:=d) xs i.toNat (by omega))
  rwa [add_plain] at ay
 ·rcases h.2 with ⟨ct,_⟩ | ⟨pW,HG,cur,ct,_,c0,_⟩
  ·cases ct
  ·have:g=pW:=by injection ct with ct;injection ct with ct;injection ct with ct
   subst this;simp [World.frozen?,c0]
end
theorem ss {w:World} {g:Nat} {o:Obj} (h:w.heap[g]? = some o) (tt:Obj):(w.alloc tt).heap[g]? = some o:=(Below.heap_alloc w tt g (dK h)).trans h
theorem gW {w:World} {g:Nat} {o:Obj} (h:w.heap[g]? = some o):w.drew.heap[g]? = some o:=h
theorem rz {w:World} {g:Nat} {o:Obj} (h:w.heap[g]? = some o) (n:Nat):(w.drewN n).heap[g]? = some o:=h
theorem RK {w w1:World} {g:Nat} {o:Obj} (h:w.heap[g]? = some o) (I:Below w.heap.size w w1):w1.heap[g]? = some o:=(I.block g (dK h)).trans h
theorem y9 (w:World) (o:Obj):(w.alloc o).heap[w.heap.size]? = some o:=heap_alloc_new w o
section
variable {P:Program}
theorem nK {fn:Func} {p u:Tmp} {ty:TypeId} (h:fn.results= #[.cell p ty,.tmp u]) (tmps:Array Value) (w:World) (g:Nat) (t:TypeId) (cs:Array Value) (fr:Nat × Nat) (d:TypeDesc)
  (aB:tmps.getD p undef= .pointer (some ⟨g,0,none⟩)) (U:w.heap[g]? = some (.cells cs t fr))
  (hu:P.underlying ty=some d) (aO:(match d with | .struct _ | .array _ _=>true | _=>false)=true) (aa:(P.info? ty).map (·.size)=some cs.size):
  (results fn tmps).run P w= .ok (.tuple #[.agg cs,tmps.getD u undef]) w:=by
 have DP:tmps[p]?.getD undef= .pointer (some ⟨g,0,none⟩):=by simpa using aB
 simp [results,h,DP,asAddr,run_loadVar_row w g t ty cs fr d U hu aO aa]
end
theorem Yc {w:World} {base n m c size:Nat} {e:TypeId} {A:Option Addr} {xs:List Value} (h:w.ownsRow base e size (.slice A m c) n xs):m<=c:=by
 rcases h.2 with ⟨he,_⟩ | ⟨g,cap,cur,he,_,_,nu,_⟩
 ·injection he with _ ar aA
  omega
 ·injection he with _ ar aA
  omega
def sk {α:Type} (aC:α->List Value->Prop) (e:TypeId) (size:Nat) (w:World) (base:Nat) (v:Value) (bK:List α):Prop:=
 ∃ inner,w.ownsRow base e size v bK.length inner/\cp aC size bK inner
section
variable {α:Type} {aC x5:α->List Value->Prop} {e:TypeId} {size:Nat} {w w1:World} {base:Nat} {v:Value} {bK:List α}
theorem sk.none_ (aC:α->List Value->Prop) (e:TypeId) (size:Nat) (w:World) (base:Nat):sk aC e size w base (.slice none 0 0) []:=⟨[],YK _ _ _ _,cp.none _ _⟩
theorem sk.lJ (h:sk aC e size w base v bK) (df:∀ p c,aC p c->x5 p c):sk x5 e size w base v bK:=by
 obtain ⟨inner,aT,ao⟩:=h;exact ⟨inner,aT,ao.lJ df⟩
theorem sk.reads (h:sk aC e size w base v bK):∃ A c,v= .slice A bK.length c/\bK.length<=c/\pS aC size w A bK.length bK:=by
 obtain ⟨inner,aT,ao⟩:=h;obtain ⟨A,c,rfl,jw⟩:=abP aT ao rfl;exact ⟨A,c,rfl,Yc aT,jw⟩
theorem sk.Zq (h:sk aC e size w base v bK) {g:Nat} {t:TypeId} {cells:Array Value} (I:w.heap[g]? = some (.cells cells t (0,0))) (a6:e ≠ t):some g ≠ v.ownBlock:=by
 obtain ⟨inner,aT,ao⟩:=h;exact Yb aT I a6
end
theorem pS.QN {α:Type} {aC:α->List Value->Prop} {size:Nat} {w:World} {cy:Addr} {n:Nat} {bK:List α} (h:pS aC size w (some cy) n bK):
  ∃ inner,cp aC size bK inner/\∀ j u,inner[j]? = some u->w.cell? (cy.add j)=some u:=by
 have key:∀ m,m<=bK.length->∃ inner,cp aC size (bK.take m) inner/\∀ j u,inner[j]? = some u->w.cell? (cy.add j)=some u:=by
  intro m
  induction m with
  | zero=>exact fun _=>⟨[],cp.none _ _,fun j u hu=>by simp at hu⟩
  | succ m fI=>
   intro hm;obtain ⟨inner,ao,ay⟩:=fI (by omega);obtain ⟨Ua,he,j'⟩:=h.2.2 (by have:=h.1;omega);injection he with he;subst he;obtain ⟨c,bQ,aB,aM⟩:=j' m _ (List.getElem?_eq_getElem (show m < bK.length by omega));refine ⟨inner ++ c, ?_,fun j u hu=> ?_⟩
   ·rw [List.take_succ_eq_append_getElem (show m < bK.length by omega)]
    exact ao.snoc aB bQ
   ·have p7:inner.length=m*size:=by rw [ao.1,List.length_take,Nat.min_eq_left (by omega)]
    rcases Nat.lt_or_ge j inner.length with aI | aI
    ·rw [List.getElem?_append_left aI] at hu
     exact ay j u hu
    ·rw [List.getElem?_append_right aI] at hu
     have:=aM (j - inner.length) u hu
     rwa [p7,Nat.add_sub_cancel' (by omega)] at this
 obtain ⟨inner,ao,ay⟩:=key bK.length (Nat.le_refl _);rw [List.take_length] at ao;exact ⟨inner,ao,ay⟩
section
variable {α:Type} {P:Program}
theorem abQ (enc:α->Value) (d:α) (t e:TypeId) (qH:IntKind) {i:TypeInfo} (a6:P.underlying t=some (.slice e)) (aa:P.info? e=some i) (cP:i.size=1) (A:Option Addr) (c:Nat) (xs:List α) (j:Int) (aq:0<=j) (hm:j<=xs.length) (ay:xs.length<=c):
  (∀ W:World,(Instr.slice t (.slice A xs.length c) none (some (.int qH j)) none).run P W= .ok (.slice A (xs.take j.toNat).length c) W)/\
   (∀ w:World,wu enc d w A xs.length xs->wu enc d w A (xs.take j.toNat).length (xs.take j.toNat))/\(xs.take j.toNat).length<=c:=by
 have ak:(xs.take j.toNat).length=j.toNat:=by rw [List.length_take];omega
 refine ⟨fun W=> ?_,fun w h=>by rw [ak];exact h.Ls j.toNat (by omega),by rw [ak];omega⟩;have yp:P.elem t=e:=by simp [Program.elem,a6]
 have hu:P.underlying t=some (.slice (P.elem t)):=by rw [yp];exact a6
 have ha:(A.map fun x=>x.add 0)=A:=by cases A <;> simp [Addr.add]
 rw [run_slice_h W t A xs.length c hu qH j aq (by omega),yp,ak];simp [sizeOf,typeInfo,aa,cP,sliced,Result.andThen,ha]
end
structure Kd (α:Type) where
 bD:Nat
 E:List Nat
 K:World->α->List Value->Prop
 M:World->Nat->(Nat->Prop)->α->List Value->Prop
 tf:∀ {w x cs},K w x cs->cs.length=bD
 sh:∀ {w x cs},K w x cs->∀ u ∈ cs,u.oneCell'=true
 bH:∀ {w w1:World} {x cs},Below w.heap.size w w1->K w x cs->K w1 x cs
 oD:∀ {w base ok x cs},M w base ok x cs->K w x cs
 k1:∀ {w base ok ok' x cs},(∀ k,ok k->ok' k)->M w base ok x cs->M w base ok' x cs
 pR:∀ {w:World} {base ok x cs},M w base ok x cs->M w base (fun k=>ok k/\base<=k/\k < w.heap.size/\∃ q,q ∈ E/\∃ cells,w.heap[k]? = some (.cells cells q (0,0))) x cs
 pP:∀ {w w1:World} {base ok x cs},(∀ k,ok k->w1.heap[k]? = w.heap[k]?)->M w base ok x cs->M w1 base ok x cs
 wv:∀ {w base te ok x cs},te<=base->M w base ok x cs->M w te ok x cs
theorem L8 {w w1:World} {base:Nat} {e:TypeId} {size n:Nat} {v:Value} {xs:List Value} (h:w.ownsRow base e size v n xs) (hm:∀ k,v.ownBlock=some k->w1.heap[k]? = w.heap[k]?):w1.ownsRow base e size v n xs:=by
 obtain ⟨h1,ar⟩:=h;refine ⟨h1, ?_⟩;rcases ar with ar | ⟨g,cap,cur,rfl,U,c0,r⟩
 ·exact .inl ar
 ·exact .inr ⟨g,cap,cur,rfl,U,(hm g (by simp [Value.ownBlock])).trans c0,r⟩
theorem F8 {w:World} {base:Nat} {e:TypeId} {size n:Nat} {v:Value} {xs:List Value} (h:w.ownsRow base e size v n xs) (k:Nat) (J:v.ownBlock=some k):∃ cells,w.heap[k]? = some (.cells cells e (0,0)):=by
 rcases h.2 with ⟨rfl,_⟩ | ⟨g,cap,cur,rfl,U,c0,r⟩
 ·simp [Value.ownBlock] at J
 ·have:g=k:=by simpa [Value.ownBlock] using J
  subst this;exact ⟨cur,c0⟩
namespace Kd
def C {α:Type} (d:Kd α) (w:World) (A:Option Addr) (n:Nat) (xs:List α):Prop:=pS (d.K w) d.bD w A n xs
def aC {α:Type} (d:Kd α) (e:Nat) (w:World) (base:Nat) (ok:Nat->Prop) (v:Value) (xs:List α):Prop:=
 (∀ k,v.ownBlock=some k->ok k)/\sk (d.M w base (fun k=>ok k/\some k ≠ v.ownBlock)) e d.bD w base v xs
section
variable {α:Type} {d:Kd α} {e:Nat} {w w1:World} {base:Nat} {ok ok':Nat->Prop} {v:Value} {xs:List α}
theorem bW {A:Option Addr} {n:Nat} (h:d.C w A n xs) (I:Below w.heap.size w w1):d.C w1 A n xs:=pS.lJ h I (fun _ _ aB=>d.bH I aB)
theorem ht (d:Kd α) (e:Nat) (w:World) (base:Nat) (ok:Nat->Prop):d.aC e w base ok (.slice none 0 0) []:=⟨fun k J=>by simp [Value.ownBlock] at J,sk.none_ _ _ _ _ _⟩
theorem cG (h:d.aC e w base ok v xs) (c7:∀ k,ok k->ok' k):d.aC e w base ok' v xs:=⟨fun k J=>c7 k (h.1 k J),h.2.lJ (fun _ _ aB=>d.k1 (fun k J=>⟨c7 k J.1,J.2⟩) aB)⟩
theorem fW (h:d.aC e w base ok v xs):d.aC e w base (fun k=>ok k/\base<=k/\k < w.heap.size/\∃ q,q ∈ e :: d.E/\∃ cells,w.heap[k]? = some (.cells cells q (0,0))) v xs:=by
 obtain ⟨aq,inner,aT,ao⟩:=h;refine ⟨fun k J=> ?_,inner,aT,ao.lJ (fun _ _ aB=>d.k1 (fun k J=> ?_) (d.pR aB))⟩
 ·obtain ⟨cells,ay⟩:=F8 aT k J
  exact ⟨aq k J,CU aT k J,QM aT k J,e,List.mem_cons_self,cells,ay⟩
 ·obtain ⟨⟨h1,ar⟩,aA,bR,q,aF,ay⟩:=J
  exact ⟨⟨h1,aA,bR,q,List.mem_cons_of_mem _ aF,ay⟩,ar⟩
theorem LM (h:d.aC e w base ok v xs) (hm:∀ k,ok k->w1.heap[k]? = w.heap[k]?):d.aC e w1 base ok v xs:=by
 obtain ⟨aq,inner,aT,ao⟩:=h;exact ⟨aq,inner,L8 aT (fun k J=>hm k (aq k J)),ao.lJ (fun _ _ aB=>d.pP (fun k J=>hm k J.1) aB)⟩
theorem ft {te:Nat} (h:d.aC e w base ok v xs) (I:te<=base):d.aC e w te ok v xs:=by
 obtain ⟨aq,inner,aT,ao⟩:=h;exact ⟨aq,inner,aaD aT I,ao.lJ (fun _ _ aB=>d.wv I aB)⟩
theorem eI (h:d.aC e w base ok v xs) (hm:∀ k,ok k->k < w.heap.size->w1.heap[k]? = w.heap[k]?):d.aC e w1 base ok v xs:=
 cG (LM (fW h) (fun k J=>hm k J.1 J.2.2.1)) (fun _ J=>J.1)
theorem Yd {x:α} {cs:List Value} (h:d.M w base ok x cs) (hm:∀ k,ok k->k < w.heap.size->w1.heap[k]? = w.heap[k]?):d.M w1 base ok x cs:=
 d.k1 (fun _ J=>J.1) (d.pP (fun k J=>hm k J.1 J.2.2.1) (d.pR h))
theorem kv (h:d.aC e w base ok v xs) (I:Below w.heap.size w w1):d.aC e w1 base ok v xs:=eI h (fun k _ J=>I.block k J)
theorem Q7 {x:α} {cs:List Value} (h:d.M w base ok x cs) (I:Below w.heap.size w w1):d.M w1 base ok x cs:=Yd h (fun k _ J=>I.block k J)
theorem lp (h:d.aC e w base ok v xs) {p:Addr} (c7:∀ k,ok k->k ≠ p.block) (u:Value):d.aC e (w.setCell p u) base ok v xs:=eI h (fun k aT _=>Below.heap_setCell w p u k (c7 k aT))
theorem Ye (h:d.aC e w base ok v xs) {g:Nat} (J:ic w w1 g none) (c7:∀ k,ok k->k ≠ g):d.aC e w1 base ok v xs:=eI h (fun k aT aJ=>J.2 k aJ (c7 k aT) (by simp))
theorem fG (h:d.aC e w base ok v xs):∃ A c,v= .slice A xs.length c/\xs.length<=c/\d.C w A xs.length xs:=by
 obtain ⟨A,c,he,ak,ao⟩:=sk.reads h.2;exact ⟨A,c,he,ak,ao.lJ (Below.refl _ _) (fun _ _ aB=>d.oD aB)⟩
theorem bt (h:d.aC e w base ok v xs):∃ A c,v= .slice A xs.length c:=by
 obtain ⟨A,c,he,_⟩:=fG h;exact ⟨A,c,he⟩
theorem Fw (h:d.aC e w base ok v xs):∃ inner,w.ownsRow base e d.bD v xs.length inner:=by
 obtain ⟨_,inner,aT,_⟩:=h;exact ⟨inner,aT⟩
theorem rf (h:d.aC e w base ok v xs) {g t:Nat} {cells:Array Value} (I:w.heap[g]? = some (.cells cells t (0,0))) (a6:e ≠ t):some g ≠ v.ownBlock:=sk.Zq h.2 I a6
end
def scalar {α:Type} (enc:α->Value) (h1:∀ x,(enc x).oneCell'=true):Kd α where
 bD:=1
 E:= []
 K:=fun _ x cs=>cs= [enc x]
 M:=fun _ _ _ x cs=>cs= [enc x]
 tf:=fun h=>by rw [h];rfl
 sh:=fun h u hu=>by
  rw [h] at hu;rw [List.mem_singleton.1 hu];exact h1 _
 bH:=fun _ h=>h
 oD:=fun h=>h
 k1:=fun _ h=>h
 pR:=fun h=>h
 pP:=fun _ h=>h
 wv:=fun _ h=>h
def int (k:IntKind):Kd Int:=scalar (Value.int k) (fun _=>rfl)
def slice {α:Type} (e:Nat) (d:Kd α):Kd (List α) where
 bD:=1
 E:=e :: d.E
 K:=fun w xs cs=>∃ A c,cs= [.slice A xs.length c]/\xs.length<=c/\d.C w A xs.length xs
 M:=fun w base ok xs cs=>∃ v,cs= [v]/\d.aC e w base ok v xs
 tf:=by
  rintro w x cs ⟨A,c,rfl,_⟩;rfl
 sh:=by
  rintro w x cs ⟨A,c,rfl,_⟩ u hu;rw [List.mem_singleton.1 hu];rfl
 bH:=by
  rintro w w1 x cs I ⟨A,c,rfl,ak,ao⟩;exact ⟨A,c,rfl,ak,bW ao I⟩
 oD:=by
  rintro w base ok x cs ⟨v,rfl,h⟩;obtain ⟨A,c,rfl,ak,ao⟩:=fG h;exact ⟨A,c,rfl,ak,ao⟩
 k1:=by
  rintro w base ok ok' x cs c7 ⟨v,rfl,h⟩;exact ⟨v,rfl,cG h c7⟩
 pR:=by
  rintro w base ok x cs ⟨v,rfl,h⟩;exact ⟨v,rfl,fW h⟩
 pP:=by
  rintro w w1 base ok x cs hm ⟨v,rfl,h⟩;exact ⟨v,rfl,LM h hm⟩
 wv:=by
  rintro w base te ok x cs I ⟨v,rfl,h⟩;exact ⟨v,rfl,ft h I⟩
def pair {α β:Type} (a:Kd α) (b:Kd β):Kd (α × β) where
 bD:=a.bD+b.bD
 E:=a.E ++ b.E
 K:=fun w x cs=>∃ bL cu,cs=bL ++ cu/\a.K w x.1 bL/\b.K w x.2 cu
 M:=fun w base ok x cs=>∃ bL cu,cs=bL ++ cu/\a.M w base ok x.1 bL/\b.M w base ok x.2 cu
 tf:=by
  rintro w x cs ⟨bL,cu,rfl,aq,h1⟩;rw [List.length_append,a.tf aq,b.tf h1]
 sh:=by
  rintro w x cs ⟨bL,cu,rfl,aq,h1⟩ u hu;rcases List.mem_append.1 hu with hu | hu
  ·exact a.sh aq u hu
  ·exact b.sh h1 u hu
 bH:=by
  rintro w w1 x cs I ⟨bL,cu,rfl,aq,h1⟩;exact ⟨bL,cu,rfl,a.bH I aq,b.bH I h1⟩
 oD:=by
  rintro w base ok x cs ⟨bL,cu,rfl,aq,h1⟩;exact ⟨bL,cu,rfl,a.oD aq,b.oD h1⟩
 k1:=by
  rintro w base ok ok' x cs c7 ⟨bL,cu,rfl,aq,h1⟩;exact ⟨bL,cu,rfl,a.k1 c7 aq,b.k1 c7 h1⟩
 pR:=by
  rintro w base ok x cs ⟨bL,cu,rfl,aq,h1⟩;refine ⟨bL,cu,rfl,a.k1 ?_ (a.pR aq),b.k1 ?_ (b.pR h1)⟩
  ·rintro k ⟨ar,aA,bR,q,aF,ay⟩
   exact ⟨ar,aA,bR,q,List.mem_append_left _ aF,ay⟩
  ·rintro k ⟨ar,aA,bR,q,aF,ay⟩
   exact ⟨ar,aA,bR,q,List.mem_append_right _ aF,ay⟩
 pP:=by
  rintro w w1 base ok x cs hm ⟨bL,cu,rfl,aq,h1⟩;exact ⟨bL,cu,rfl,a.pP hm aq,b.pP hm h1⟩
 wv:=by
  rintro w base te ok x cs I ⟨bL,cu,rfl,aq,h1⟩;exact ⟨bL,cu,rfl,a.wv I aq,b.wv I h1⟩
def w9 {α β:Type} (d:Kd α) (f:β->α):Kd β where
 bD:=d.bD
 E:=d.E
 K:=fun w x cs=>d.K w (f x) cs
 M:=fun w base ok x cs=>d.M w base ok (f x) cs
 tf:=d.tf
 sh:=d.sh
 bH:=d.bH
 oD:=d.oD
 k1:=d.k1
 pR:=d.pR
 pP:=d.pP
 wv:=d.wv
theorem y2 {α:Type} {d:Kd α} {w:World} {A:Option Addr} {n:Nat} {xs:List α} (h:d.C w A n xs) (z:α) (i:Int) (aq:0<=i) (h1:i < n):
  ∃ cy c,A=some cy/\c.length=d.bD/\d.K w (xs.getD i.toNat z) c/\∀ j u,c[j]? = some u->w.cell? (cy.add (i.toNat*d.bD+j))=some u:=pS.WS h z i aq h1
theorem R4 {α:Type} {d:Kd α} {e base:Nat} {ok okp:Nat->Prop} {W w1:World} {v v1:Value} {xs:List α} {p:α} {inner cs:List Value} (aq:∀ k,v.ownBlock=some k->ok k) (ao:cp (d.M W base (fun k=>ok k/\some k ≠ v.ownBlock)) d.bD xs inner) (aB:d.M W base okp p cs) (qj:∀ k,okp k->ok k/\some k ≠ v.ownBlock) (l3:∀ k,W.heap.size<=k->ok k)
  (kr:w1.ownsRow base e d.bD v1 (xs.length+1) (inner ++ cs)) (U:W.grownBy w1 v.ownBlock) (dy:v1.ownBlock=v.ownBlock\/∃ b,v1.ownBlock=some b/\W.heap.size<=b):d.aC e w1 base ok v1 (xs ++ [p]):=by
 have cm:∀ k,some k ≠ v.ownBlock->k < W.heap.size->some k ≠ v1.ownBlock:=by
  intro k J aJ;rcases dy with dy | ⟨b,I,hle⟩
  ·rw [dy];exact J
  ·rw [I]
   intro he;injection he with he;omega
 have step:∀ {q:α} {c:List Value} {o:Nat->Prop},d.M W base o q c->(∀ k,o k->ok k/\some k ≠ v.ownBlock)->d.M w1 base (fun k=>ok k/\some k ≠ v1.ownBlock) q c:=by
  intro q c o aF aT;have h1:=d.pP (w1:=w1) (fun k J=>U.block k J.2.2.1 (aT k J.1).2) (d.pR aF);exact d.k1 (fun k J=>⟨(aT k J.1).1,cm k (aT k J.1).2 J.2.2.1⟩) h1
 refine ⟨fun k J=> ?_,inner ++ cs,by rw [List.length_append,List.length_singleton];exact kr, ?_⟩
 ·rcases dy with dy | ⟨b,I,hle⟩
  ·exact aq k (dy ▸ J)
  ·rw [I] at J
   injection J with J;exact l3 k (by omega)
 ·exact (ao.lJ (fun _ _ aF=>step aF (fun _ J=>J))).snoc (step aB qj) (d.tf (d.oD aB))
section
variable {P:Program} {ops:Array Oper} {rest:List Oper} {o:Oper} {a:Act} {Q:Exit->Act->World->Prop} {α:Type}
theorem mY (d:Kd α) {w0 W:World} (base:Nat) (eO:o.guard=none) (s x:Operand) (t e:TypeId) (z:Value) (bytes:Nat)
  (aT:o.op= .call {callee:=.builtin .append,args:=#[s,x],argTypes:=#[t,t]})
  (a6:P.underlying t=some (.slice e)) (ng:(P.info? e).map (fun i=>(i.zero,i.size,i.bytes))=some (some z,d.bD,bytes)) (aX:z.cells.size=d.bD) (jC:0 < d.bD) (dE:0 < bytes)
  (v:Value) (xs:List α) (p:α) (cs:List Value) (ok okp:Nat->Prop) (hs:a.eval s=v) (az:a.eval x= .slice (some ⟨W.heap.size,0,none⟩) 1 1) (aB:d.M W base okp p cs) (qj:∀ k,okp k->ok k/\some k ≠ v.ownBlock) (l3:∀ k,W.heap.size<=k->ok k)
  (eB:d.aC e W base ok v xs) (ab:Below base w0 W) (kZ:base<=W.heap.size) (ak:(xs.length+1)*bytes<=140737488355328)
  (h:∀ v1 w1,d.aC e w1 base ok v1 (xs ++ [p])->Below base w0 w1->W.grownBy w1 v.ownBlock->(v1.ownBlock=v.ownBlock\/∃ b,v1.ownBlock=some b/\W.heap.size<=b)->wpList P ops Q rest (a.put o.dst v1) w1):
  wpList P ops Q (o :: rest) a (W.alloc (.cells cs.toArray e)):=by
 obtain ⟨aq,inner,kr,ao⟩:=eB;refine acm base eO s x t e z d.bD bytes aT a6 ng aX jC dE v xs.length inner cs hs az (d.tf (d.oD aB)) (d.sh (d.oD aB)) kr ab kZ ak ?_;intro v1 w1 Lt bZ fO nc;exact h v1 w1 (R4 aq ao aB qj l3 Lt fO nc) bZ fO nc
end
section
variable {P:Program} {ops:Array Oper} {o:Oper} {a:Act} {Q:Exit->Act->World->Prop} {po:Act->World->Prop} {α:Type}
theorem BE (d:Kd α) {w0 W:World} (base:Nat) (hw:Region.wanted o (yielded ops a.tmps)=true) (s x:Operand) (t e:TypeId) (z:Value) (bytes:Nat)
  (aT:o.op= .call {callee:=.builtin .append,args:=#[s,x],argTypes:=#[t,t]})
  (a6:P.underlying t=some (.slice e)) (ng:(P.info? e).map (fun i=>(i.zero,i.size,i.bytes))=some (some z,d.bD,bytes)) (aX:z.cells.size=d.bD) (jC:0 < d.bD) (dE:0 < bytes)
  (v:Value) (xs:List α) (p:α) (cs:List Value) (ok okp:Nat->Prop) (hs:a.eval s=v) (az:a.eval x= .slice (some ⟨W.heap.size,0,none⟩) 1 1) (aB:d.M W base okp p cs) (qj:∀ k,okp k->ok k/\some k ≠ v.ownBlock) (l3:∀ k,W.heap.size<=k->ok k)
  (eB:d.aC e W base ok v xs) (ab:Below base w0 W) (kZ:base<=W.heap.size) (ak:(xs.length+1)*bytes<=140737488355328)
  (h:∀ v1 w1,d.aC e w1 base ok v1 (xs ++ [p])->Below base w0 w1->W.grownBy w1 v.ownBlock->(v1.ownBlock=v.ownBlock\/∃ b,v1.ownBlock=some b/\W.heap.size<=b)->po (a.put o.dst v1) w1):
  if Region.wanted o (yielded ops a.tmps)=true then Oper.wp P o a (W.alloc (.cells cs.toArray e)) po Q else po (a.put o.dst undef) (W.alloc (.cells cs.toArray e)):=by
 obtain ⟨aq,inner,kr,ao⟩:=eB;refine ack base hw s x t e z d.bD bytes aT a6 ng aX jC dE v xs.length inner cs hs az (d.tf (d.oD aB)) (d.sh (d.oD aB)) kr ab kZ ak ?_;intro v1 w1 Lt bZ fO nc;exact h v1 w1 (R4 aq ao aB qj l3 Lt fO nc) bZ fO nc
end
theorem aa9 {α:Type} {enc:α->Value} (xs:List α):cp (fun (x:α) (cs:List Value)=>cs= [enc x]) 1 xs (o5 enc xs):=by
 refine ⟨by simp [o5],fun j p aI=> ?_⟩;obtain ⟨ak,aB⟩:=List.getElem?_eq_some_iff.1 aI;have p8:j < (o5 enc xs).length:=by rw [Sn];exact ak
 rw [Nat.mul_one,List.drop_eq_getElem_cons p8];simp [o5,aB]
theorem Zr {α:Type} {enc:α->Value} {h1:∀ x,(enc x).oneCell'=true} {e:Nat} {w:World} {base:Nat} {ok:Nat->Prop} {v:Value} {xs:List α} (aT:w.ownsRow base e 1 v xs.length (o5 enc xs)) (c7:∀ k,v.ownBlock=some k->ok k):(scalar enc h1).aC e w base ok v xs:=⟨c7,o5 enc xs,aT,aa9 xs⟩
theorem Zs {α:Type} {enc:α->Value} {h1:∀ x,(enc x).oneCell'=true} {e:Nat} {w:World} {base:Nat} {ok:Nat->Prop} {v:Value} {xs:List α} (h:(scalar enc h1).aC e w base ok v xs):w.ownsRow base e 1 v xs.length (o5 enc xs):=by
 obtain ⟨_,inner,aT,ao⟩:=h
 have:inner=o5 enc xs:=by
  apply List.ext_getElem?;intro j;rcases Nat.lt_or_ge j xs.length with aI | aI
  ·have ar:=ao.2 j _ (List.getElem?_eq_getElem aI)
   have ak:j < inner.length:=by have:=ao.1;simp [scalar] at this;omega
   have aA:(inner.drop (j*1)).take 1= [enc xs[j]]:=ar;rw [Nat.mul_one,List.drop_eq_getElem_cons ak] at aA
   have bR:inner[j]=enc xs[j]:=by
    have br:=congrArg List.head? aA;rw [List.take_succ_cons] at br;exact Option.some.inj br
   rw [List.getElem?_eq_getElem ak,bR];simp [o5,List.getElem?_eq_getElem aI]
  ·have aA:inner.length=xs.length:=by have:=ao.1;simp [scalar] at this;omega
   rw [List.getElem?_eq_none (by omega),List.getElem?_eq_none (by rw [Sn];omega)]
 rw [<-this];exact aT
theorem By {α:Type} {enc:α->Value} {d:α} {h1:∀ x,(enc x).oneCell'=true} {w:World} {A:Option Addr} {n:Nat} {xs:List α} (h:wu enc d w A n xs):(scalar enc h1).C w A n xs:=by
 refine ⟨h.1,h.2.1,fun aS=> ?_⟩;obtain ⟨cy,e,ay⟩:=h.2.2 aS;refine ⟨cy,e,fun j p aI=>⟨[enc p],rfl,rfl,fun i u hu=> ?_⟩⟩;obtain ⟨ak,aB⟩:=List.getElem?_eq_some_iff.1 aI;have ar:=ay j (by have:=h.1;omega);rw [List.getD_eq_getElem?_getD,aI] at ar
 cases i with
 | zero=>
  have:enc p=u:=by simpa using hu
  subst this
  simpa [scalar] using ar
 | succ i=>simp at hu
theorem R5 {α:Type} {enc:α->Value} {d:α} {h1:∀ x,(enc x).oneCell'=true} {w:World} {A:Option Addr} {n:Nat} {xs:List α} (h:(scalar enc h1).C w A n xs):wu enc d w A n xs:=by
 refine ⟨h.1,h.2.1,fun aS=> ?_⟩;obtain ⟨cy,e,ay⟩:=h.2.2 aS;refine ⟨cy,e,fun j aI=> ?_⟩;have ak:j < xs.length:=by have:=h.1;omega
 obtain ⟨c,_,au,j'⟩:=ay j _ (List.getElem?_eq_getElem ak);have w':c= [enc xs[j]]:=au;subst w';have:=j' 0 _ rfl;simpa [scalar,List.getD_eq_getElem?_getD,List.getElem?_eq_getElem ak] using this
section
variable {α β:Type} {d:Kd α} {d':Kd β} {e m2:Nat} {w w1 W:World} {base b mB:Nat} {ok ok' acK acL:Nat->Prop} {v u:Value} {xs:List α} {cH:List β}
theorem Yf (h:d.aC e w base ok v xs):d.aC e w.drew base ok v xs:=kv h (ei (Below.refl _ _))
theorem Bl (h:d.aC e w base ok v xs) (m:Nat):d.aC e (w.drewN m) base ok v xs:=kv h (iY (Below.refl _ _) m)
theorem Fx {A:Option Addr} {n:Nat} (h:d.C w A n xs):n<=9223372036854775807:=h.2.1
theorem ie {A:Option Addr} {n c:Nat} (h:d.aC e w base ok (.slice A n c) xs):n=xs.length/\n<=c/\d.C w A xs.length xs:=by
 obtain ⟨Tb,rA,he,ak,ao⟩:=fG h;injection he with h1 ar aA;subst h1;exact ⟨ar,by omega,ao⟩
theorem HH (h:d.aC e w base ok v xs):∀ k,v.ownBlock=some k->k < w.heap.size:=by
 obtain ⟨inner,aT⟩:=Fw h;exact QM aT
theorem FF (h:d.aC e w base ok v xs):∀ k,v.ownBlock=some k->base<=k:=by
 obtain ⟨inner,aT⟩:=Fw h;exact CU aT
theorem oa (h:d.aC e w base ok v xs) (aB:0 < xs.length):∃ g cap,v= .slice (some ⟨g,0,none⟩) xs.length cap/\base<=g/\g < w.heap.size/\∃ cells,w.heap[g]? = some (.cells cells e (0,0)):=by
 obtain ⟨inner,aT⟩:=Fw h;obtain ⟨g,cap,he,I,ak⟩:=aT.form aB;obtain ⟨cells,ay⟩:=F8 aT g (by rw [he];simp [Value.ownBlock]);exact ⟨g,cap,he,I,ak,cells,ay⟩
theorem LN (h:d.aC e W b ok u xs) (bp:d'.aC m2 W mB ok' v cH) (a6:∀ q,q ∈ e :: d.E->q ≠ m2) (U:W.grownBy w1 v.ownBlock):d.aC e w1 b ok u xs:=by
 obtain ⟨inner,aT⟩:=Fw bp;refine cG (LM (fW h) (fun k J=>U.block k J.2.2.1 (fun he=> ?_))) (fun _ J=>J.1);obtain ⟨_,_,_,q,aF,cells,ay⟩:=J;obtain ⟨HX,kn⟩:=F8 aT k he.symm;rw [ay] at kn;injection kn with kn;injection kn with _ kn;exact a6 q aF kn
end
section
variable {w W:World} {A:Option Addr} {n:Nat}
theorem kG {k:IntKind} {xs:List Int} (h:(Kd.int k).C w A n xs) (i:Int) (aq:0<=i) (h1:i < n):∃ cy,A=some cy/\w.cell? (cy.add i.toNat)=some (.int k (rd xs i)):=
 wu.at_ (R5 (enc:=Value.int k) (d:=(0:Int)) (h1:=fun _=>rfl) h) i aq h1
variable {α:Type} {enc:α->Value} {h1:∀ x,(enc x).oneCell'=true} {e base g cap:Nat} {ok:Nat->Prop} {xs:List α}
theorem Yg (d:α) (h:(scalar enc h1).aC e W base ok (.slice (some ⟨g,0,none⟩) xs.length cap) xs) (i:Int) (aq:0<=i) (aa:i < xs.length):W.cell? ⟨g,i.toNat,none⟩=some (enc (AQ d xs i))/\W.frozen? ⟨g,i.toNat,none⟩=false:=Z' (Zs h) i aq aa
end
section
variable {P:Program} {ops:Array Oper} {rest:List Oper} {o:Oper} {a:Act} {Q:Exit->Act->World->Prop}
theorem C1 {W w1:World} {v:Value} (eO:o.guard=none) (iT:(execOp a.eval o).run P W= .ok (.value v) w1) (h:wpList P ops Q rest (a.put o.dst v) w1):wpList P ops Q (o :: rest) a W:=by
 refine wpList_plain eO fun K au=> ?_
 unfold Oper.wp;rw [iT];exact au _ _ h
variable {α:Type}
theorem jX (d:Kd α) {w0 W:World} (base e:Nat) (eO:o.guard=none) {N:Tmp} (_hd:o.dst=some N) {xs:List α} {inner:List Value} {ok okp:Nat->Prop}
  (iT:(execOp a.eval o).run P W= .ok (.value (.slice (some ⟨W.heap.size,0,none⟩) xs.length xs.length)) (W.alloc (.cells inner.toArray e)))
  (E5:cp (d.M W base okp) d.bD xs inner) (c7:∀ k,okp k->ok k) (l3:ok W.heap.size) (ab:Below base w0 W) (kZ:base<=W.heap.size) (hm:xs.length<=9223372036854775807)
  (h:∀ v1 w1,d.aC e w1 base ok v1 xs->Below base w0 w1->W.grownBy w1 none->(∃ b,v1.ownBlock=some b/\W.heap.size<=b)->wpList P ops Q rest (a.put o.dst v1) w1):wpList P ops Q (o :: rest) a W:=by
 refine C1 eO iT (h _ _ ⟨fun k J=> ?_,inner, ?_, ?_⟩ (ab.alloc kZ _) (World.grownBy_alloc W _ none) ⟨W.heap.size,by simp [Value.ownBlock],Nat.le_refl _⟩)
 ·have:W.heap.size=k:=by simpa [Value.ownBlock] using J
  subst this;exact l3
 ·have ar:=World.ownsRow_lit (base:=base) (e:=e) (size:=d.bD) W inner.toArray xs.length kZ (by simpa [maxLen] using hm) (by simpa using E5.1)
  simpa using ar
 ·refine E5.lJ (fun p c aB=>d.k1 (fun k J=>⟨c7 k J.1,fun he=> ?_⟩) (Q7 (d.pR aB) (mz (Below.refl _ _) _)))
  have aA:k=W.heap.size:=by simpa [Value.ownBlock] using he
  have:=J.2.2.1
  omega
theorem aaa {α:Type} {aC:α->List Value->Prop} {z:Value} {size:Nat} {z0:α} (aX:z.cells.size=size) (hs:0 < size) (aq:aC z0 z.cells.toList) (m:Nat):cp aC size (List.replicate m z0) (madeCells z.cells (m*size)).toList:=by
 refine ⟨by simp [size_madeCells],fun j p aI=> ?_⟩;obtain ⟨DO,aB⟩:=List.getElem?_eq_some_iff.1 aI;have Jk:j < m:=by simpa using DO
 have DP:z0=p:=by simpa using aB
 subst DP;have hle:j*size+size<=m*size:=by rw [<-Nat.succ_mul];exact Nat.mul_le_mul_right _ Jk
 have:((madeCells z.cells (m*size)).toList.drop (j*size)).take size=z.cells.toList:=by
  apply List.ext_getElem
  ·simp [size_madeCells,aX]
   omega
  ·intro i h1 ar
   have aa:i < size:=by rw [Array.length_toList,aX] at ar;exact ar
   have WU:(j*size+i) % size=i:=by
    rw [Nat.mul_comm,Nat.mul_add_mod];exact Nat.mod_eq_of_lt aa
   simp [madeCells,aX,WU];rw [getElem!_pos z.cells i (by omega)]
 rw [this];exact aq
end
end Kd
theorem Zt {w:World} {base n m c size:Nat} {e:TypeId} {A:Option Addr} {xs:List Value} (h:w.ownsRow base e size (.slice A n c) n xs) (hm:m<=n):w.ownsRow base e size (.slice A m c) m (xs.take (m*size)):=by
 obtain ⟨h1,ar⟩:=h;refine ⟨by rw [List.length_take,h1];exact Nat.min_eq_left (Nat.mul_le_mul_right _ hm), ?_⟩;rcases ar with ⟨he,aq⟩ | ⟨g,cap,cur,he,I,c0,nu,GR,e4,a6⟩
 ·injection he with ha _ ay
  subst ha;subst ay;exact .inl ⟨by rw [show m=0 by omega],by omega⟩
 ·injection he with ha _ ay
  subst ha;subst ay;refine .inr ⟨g,c,cur,rfl,I,c0,by omega,GR,e4, ?_⟩;rw [<-a6,List.take_take,Nat.min_eq_left (Nat.mul_le_mul_right _ hm)]
section
variable {P:Program}
theorem QO (t e:TypeId) (MQ:IntKind) {i:TypeInfo} (a6:P.underlying t=some (.slice e)) (aa:P.info? e=some i) (A:Option Addr) (n c:Nat) (j:Int) (aq:0<=j) (hm:j<=n) (ay:n<=c):
  ∀ W:World,(Instr.slice t (.slice A n c) none (some (.int MQ j)) none).run P W= .ok (.slice A j.toNat c) W:=by
 intro W;have yp:P.elem t=e:=by simp [Program.elem,a6]
 have hu:P.underlying t=some (.slice (P.elem t)):=by rw [yp];exact a6
 have ha:(A.map fun x=>x.add 0)=A:=by cases A <;> simp [Addr.add]
 rw [run_slice_h W t A n c hu MQ j aq (by omega),yp];simp [sizeOf,typeInfo,aa,sliced,Result.andThen,ha]
theorem Ro (t e:TypeId) (qH:IntKind) {i:TypeInfo} (a6:P.underlying t=some (.slice e)) (aa:P.info? e=some i) (size:Nat) (cP:i.size=size) (A:Option Addr) (n c:Nat) (j:Int) (aq:0<=j) (hm:j<=n):
  ∀ W:World,(Instr.slice t (.slice A n c) (some (.int qH j)) none none).run P W= .ok (.slice (if c=j.toNat then A else A.map (·.add (j.toNat*size))) (n - j.toNat) (c - j.toNat)) W:=by
 intro W;have yp:P.elem t=e:=by simp [Program.elem,a6]
 have hu:P.underlying t=some (.slice (P.elem t)):=by rw [yp];exact a6
 rw [run_slice_l W t A n c hu qH j aq hm,yp];simp [sizeOf,typeInfo,aa,cP,sliced,Result.andThen]
end
section
variable {w w1:World} {base n size:Nat} {e:TypeId} {v:Value} {xs:List Value}
theorem QP (g o j:Nat):(⟨g,o,none⟩:Addr).add j=⟨g,o+j,none⟩:=by unfold Addr.add;split <;> simp_all
theorem pn {g:Nat}:∀ (gi:List Value) (o:Nat) {w:World} (k:Nat),k ≠ g->(w.setCells g o gi).heap[k]? = w.heap[k]?
 | [],_,_,_,_=>rfl
 | v :: r,o,w,k,J=>by
  rw [World.setCells,pn r (o+1) k J];exact Below.heap_setCell w ⟨g,o,none⟩ v k J
theorem pV (g:Nat):∀ (gi:List Value) (o:Nat) (w:World),(w.setCells g o gi).os=w.os/\(w.setCells g o gi).tape=w.tape/\(w.setCells g o gi).output=w.output/\(w.setCells g o gi).heap.size=w.heap.size
 | [],_,_=>⟨rfl,rfl,rfl,rfl⟩
 | v :: r,o,w=>by
  obtain ⟨h1,ar,aA,bR⟩:=pV g r (o+1) (w.setCell ⟨g,o,none⟩ v);rw [World.setCells];exact ⟨h1,ar,aA,by rw [bR];simp [World.setCell]⟩
theorem zm {g:Nat} {e:TypeId}:∀ (gi:List Value) (o:Nat) (w:World) (cur:Array Value),w.heap[g]? = some (.cells cur e (0,0))->o+gi.length<=cur.size->
  ∃ AR,(w.setCells g o gi).heap[g]? = some (.cells AR e (0,0))/\AR.size=cur.size/\AR.toList=cur.toList.take o ++ gi ++ cur.toList.drop (o+gi.length)
 | [],o,w,cur,h,_=>⟨cur,h,rfl,by simp⟩
 | v :: r,o,w,cur,h,ak=>by
  have ar:=ku h o v;simp only [List.length_cons] at ak;obtain ⟨AR,aA,bR,br⟩:=zm r (o+1) (w.setCell ⟨g,o,none⟩ v) _ ar (by simp;omega);refine ⟨AR,aA,by rw [bR];simp, ?_⟩;rw [br,Array.toList_setIfInBounds];have aT:o < cur.toList.length:=by rw [Array.length_toList];omega
  rw [List.take_set,List.drop_set_of_lt (by omega)];simp only [List.length_cons];rw [show o+1+r.length=o+(r.length+1) by omega];congr 1;rw [List.take_succ_eq_append_getElem aT,List.set_append_right _ _ (by rw [List.length_take];omega)];have Ub:o < cur.size:=by omega
  simp [Nat.min_eq_left (Nat.le_of_lt Ub)]
end
namespace Kd
theorem aab {α:Type} {aC:α->List Value->Prop} {size m:Nat} {bK:List α} {cs:List Value} (h:cp aC size bK cs) (hm:m<=bK.length):cp aC size (bK.take m) (cs.take (m*size)):=by
 refine ⟨by rw [List.length_take,List.length_take,h.1,Nat.min_eq_left hm,Nat.min_eq_left (Nat.mul_le_mul_right _ hm)],fun j p aI=> ?_⟩;rw [List.getElem?_take] at aI;split at aI
 ·rename_i Jk
  have:=h.2 j p aI
  have hle:j*size+size<=m*size:=by rw [<-Nat.succ_mul];exact Nat.mul_le_mul_right _ Jk
  rw [List.drop_take,List.take_take,Nat.min_eq_left (by omega)];exact this
 ·cases aI
theorem Yh {α:Type} {d:Kd α} {e m n c:Nat} {w:World} {base:Nat} {ok:Nat->Prop} {A:Option Addr} {xs:List α} (h:d.aC e w base ok (.slice A n c) xs) (hm:m<=xs.length):d.aC e w base ok (.slice A m c) (xs.take m):=by
 obtain ⟨aq,inner,aT,ao⟩:=h
 have aS:n=xs.length:=by
  obtain ⟨Tb,rA,he⟩:=Z9 aT;injection he
 subst aS
 have I:∀ x y:Nat,(Value.slice A x c).ownBlock=(Value.slice A y c).ownBlock:=by
  intro x y;cases A <;> rfl
 refine ⟨fun k J=>aq k (by rw [I _ m];exact J),inner.take (m*d.bD), ?_, ?_⟩
 ·rw [List.length_take,Nat.min_eq_left hm]
  exact Zt aT hm
 ·rw [I m xs.length]
  exact aab ao hm
section
variable {α:Type} {d:Kd α} {e m2:Nat} {w w1 W:World} {base:Nat} {ok:Nat->Prop} {u v:Value} {xs:List α}
theorem y' (h:d.aC e w base ok v xs):∀ k,v.ownBlock=some k->∃ cells,w.heap[k]? = some (.cells cells e (0,0)):=by
 obtain ⟨inner,aT⟩:=Fw h;exact fun k J=>F8 aT k J
end
end Kd
theorem FP {α:Type} (a seg:List α) (o:Nat) (h:o+seg.length<=a.length) (q:Nat):
  (a.take o ++ seg ++ a.drop (o+seg.length))[q]? = if q < o then a[q]? else if q < o+seg.length then seg[q - o]? else a[q]? :=by
 have ak:(a.take o).length=o:=by rw [List.length_take];omega
 rw [List.append_assoc];by_cases h1:q < o
 ·rw [if_pos h1,List.getElem?_append_left (by omega),List.getElem?_take,if_pos h1]
 ·rw [if_neg h1,List.getElem?_append_right (by omega),ak]
  by_cases ar:q < o+seg.length
  ·rw [if_pos ar,List.getElem?_append_left (by omega)]
  ·rw [if_neg ar,List.getElem?_append_right (by omega),List.getElem?_drop]
   congr 1
   omega
namespace Kd
section
variable {α:Type} {d:Kd α} {e base g n cap:Nat} {ok okp:Nat->Prop} {W:World} {xs:List α}
theorem ob (h:d.aC e W base ok (.slice (some ⟨g,0,none⟩) n cap) xs) (z:α) (i:Int) (aq:0<=i) (h1:i < n):
  ∃ c,c.length=d.bD/\d.M W base (fun k=>ok k/\k ≠ g) (xs.getD i.toNat z) c/\(∀ j u,c[j]? = some u->W.cell? ⟨g,i.toNat*d.bD+j,none⟩=some u)/\∀ j,W.frozen? ⟨g,i.toNat*d.bD+j,none⟩=false:=by
 obtain ⟨aS,nu,gw⟩:=ie h;obtain ⟨_,inner,aT,ao⟩:=h;have p7:i.toNat < xs.length:=by omega
 have KW:i.toNat*d.bD+d.bD<=inner.length:=by rw [ao.1,<-Nat.succ_mul];exact Nat.mul_le_mul_right _ p7
 have dw:=ao.2 i.toNat _ (List.getElem?_eq_getElem p7);refine ⟨(inner.drop (i.toNat*d.bD)).take d.bD,by rw [List.length_take,List.length_drop];omega, ?_,fun j u hu=> ?_,fun j=> ?_⟩
 ·rw [List.getD_eq_getElem?_getD,List.getElem?_eq_getElem p7]
  exact d.k1 (fun k J=>⟨J.1,fun he=>J.2 (by rw [he];simp [Value.ownBlock])⟩) dw
 ·rw [List.getElem?_take] at hu
  split at hu
  ·rw [List.getElem?_drop] at hu
   have:=aT.cells (g:=g) (by simp [Value.ownBlock]) _ u hu
   rwa [add_plain] at this
  ·cases hu
 ·obtain ⟨cells,ay⟩:=F8 aT g (by simp [Value.ownBlock])
  exact iX ay _
theorem y3 (h:d.aC e W base ok (.slice (some ⟨g,0,none⟩) n cap) xs) (i:Int) (aq:0<=i) (h1:i < n) {c seg:List Value} {j:Nat} (bQ:c.length=d.bD) (aM:∀ j u,c[j]? = some u->W.cell? ⟨g,i.toNat*d.bD+j,none⟩=some u)
  (aI:j+seg.length<=d.bD) {x':α} (dw:d.M W base okp x' (c.take j ++ seg ++ c.drop (j+seg.length))) (qj:∀ k,okp k->ok k/\k ≠ g):
  d.aC e (W.setCells g (i.toNat*d.bD+j) seg) base ok (.slice (some ⟨g,0,none⟩) n cap) (xs.set i.toNat x')/\W.grownBy (W.setCells g (i.toNat*d.bD+j) seg) (some g):=by
 obtain ⟨aS,nu,_⟩:=ie h;obtain ⟨c7,inner,aT,ao⟩:=h;have p7:i.toNat < xs.length:=by omega
 have KW:i.toNat*d.bD+d.bD<=inner.length:=by rw [ao.1,<-Nat.succ_mul];exact Nat.mul_le_mul_right _ p7
 have iQ:inner.length=n*d.bD:=by rw [ao.1,aS]
 obtain ⟨GS,GU⟩:=aT;rcases GU with ⟨bp,_⟩ | ⟨pW,HG,cur,bp,I,c0,adP,GR,e4,a6⟩
 ·cases bp
 injection bp with ha _ ay;injection ha with ha;injection ha with U;subst U;subst ay
 have PM:i.toNat*d.bD+j+seg.length<=cur.size:=by
  have:n*d.bD<=cap*d.bD:=Nat.mul_le_mul_right _ nu
  omega
 obtain ⟨AR,aA,bR,br⟩:=zm seg (i.toNat*d.bD+j) W cur c0 PM;obtain ⟨s1,s2,ec,gx⟩:=pV g seg (i.toNat*d.bD+j) W;have gT:∀ k,k ≠ g->(W.setCells g (i.toNat*d.bD+j) seg).heap[k]? = W.heap[k]? :=fun k J=>pn seg _ k J
 have WV:∀ q,q < d.bD->c[q]? = inner[i.toNat*d.bD+q]? :=by
  intro q aF;have q3:q < c.length:=by omega
  have hp:=aM q _ (List.getElem?_eq_getElem q3);rw [cell_of_row W g _ cur e (0,0) c0] at hp;rw [List.getElem?_eq_getElem q3,<-hp,<-a6,List.getElem?_take,if_pos (by rw [<-aS];omega),Array.getElem?_toList]
 refine ⟨⟨c7,inner.take (i.toNat*d.bD+j) ++ seg ++ inner.drop (i.toNat*d.bD+j+seg.length),⟨?_,.inr ⟨g,cap,AR,by rw [List.length_set,aS],I,aA,by rw [List.length_set,<-aS];exact nu,GR,by rw [bR,e4], ?_⟩⟩, ?_⟩,
  ⟨s1,s2,ec,by rw [gx];exact Nat.le_refl _,fun k _ J=>gT k (fun he=>J (by rw [he]))⟩⟩
 ·rw [List.length_set]
  simp only [List.length_append,List.length_take,List.length_drop];rw [ao.1] at KW ⊢;omega
 ·rw [List.length_set,<-aS]
  apply List.ext_getElem?;intro q;rw [List.getElem?_take,br];rw [FP cur.toList seg (i.toNat*d.bD+j) (by rw [Array.length_toList];omega) q,FP inner seg (i.toNat*d.bD+j) (by omega) q]
  have AS:∀ q,q < n*d.bD->cur.toList[q]? = inner[q]? :=by
   intro q aF;rw [<-a6,List.getElem?_take,if_pos (by rw [<-aS];exact aF)]
  by_cases aF:q < n*d.bD
  ·rw [if_pos aF,AS q aF]
  ·rw [if_neg aF,if_neg (by omega),if_neg (by omega),List.getElem?_eq_none (by omega)]
 ·refine ⟨?_,fun m p hm=> ?_⟩
  ·rw [List.length_set]
   simp only [List.length_append,List.length_take,List.length_drop];rw [ao.1] at KW ⊢;omega
  ·have DQ:m < xs.length:=by
    have:=(List.getElem?_eq_some_iff.1 hm).1
    rwa [List.length_set] at this
   have ad4:m*d.bD+d.bD<=inner.length:=by rw [ao.1,<-Nat.succ_mul];exact Nat.mul_le_mul_right _ DQ
   have yq:some g=(Value.slice (some ⟨g,0,none⟩) n cap).ownBlock:=by simp [Value.ownBlock]
   by_cases Nv:m=i.toNat
   ·subst Nv
    rw [List.getElem?_set_self (by omega)] at hm;injection hm with hm;subst hm
    have LO:((inner.take (i.toNat*d.bD+j) ++ seg ++ inner.drop (i.toNat*d.bD+j+seg.length)).drop (i.toNat*d.bD)).take d.bD=c.take j ++ seg ++ c.drop (j+seg.length):=by
     apply List.ext_getElem?;intro q;rw [List.getElem?_take,List.getElem?_drop,FP inner seg _ (by omega),FP c seg j (by omega) q];by_cases aF:q < d.bD
     ·rw [if_pos aF,WV q aF]
      by_cases yr:q < j
      ·rw [if_pos (by omega),if_pos yr]
      ·rw [if_neg (by omega),if_neg yr]
       by_cases fk:q < j+seg.length
       ·rw [if_pos (by omega),if_pos fk]
        congr 1
        omega
       ·rw [if_neg (by omega),if_neg fk]
     ·rw [if_neg aF,if_neg (by omega),if_neg (by omega),List.getElem?_eq_none (by omega)]
    rw [LO];refine d.k1 (fun k J=> ?_) (d.pP (w1:=W.setCells g (i.toNat*d.bD+j) seg) (fun k J=>gT k (qj k J).2) dw);exact ⟨(qj k J).1,fun he=>(qj k J).2 (by rw [<-yq] at he;injection he)⟩
   ·rw [List.getElem?_set_ne (by omega)] at hm
    have hold:=ao.2 m p hm
    have LO:((inner.take (i.toNat*d.bD+j) ++ seg ++ inner.drop (i.toNat*d.bD+j+seg.length)).drop (m*d.bD)).take d.bD=(inner.drop (m*d.bD)).take d.bD:=by
     apply List.ext_getElem?;intro q;rw [List.getElem?_take,List.getElem?_take,List.getElem?_drop,List.getElem?_drop,FP inner seg _ (by omega)];by_cases aF:q < d.bD
     ·rw [if_pos aF,if_pos aF]
      rcases Nat.lt_or_gt_of_ne Nv with aJ | Uc
      ·have:m*d.bD+d.bD<=i.toNat*d.bD:=by rw [<-Nat.succ_mul];exact Nat.mul_le_mul_right _ aJ
       rw [if_pos (by omega)]
      ·have:i.toNat*d.bD+d.bD<=m*d.bD:=by rw [<-Nat.succ_mul];exact Nat.mul_le_mul_right _ Uc
       rw [if_neg (by omega),if_neg (by omega)]
     ·rw [if_neg aF,if_neg aF]
    rw [LO];refine d.pP (fun k J=>gT k (fun he=>J.2 (by rw [he];exact yq))) hold
end
theorem So {α:Type} {aC:α->List Value->Prop} {size:Nat} {bK MR:List α} {cs ds:List Value} (h:cp aC size bK cs) (ct:cp aC size MR ds):cp aC size (bK ++ MR) (cs ++ ds):=by
 refine ⟨by rw [List.length_append,List.length_append,h.1,ct.1,Nat.add_mul],fun j p aI=> ?_⟩;rcases Nat.lt_or_ge j bK.length with aJ | t'
 ·rw [List.getElem?_append_left aJ] at aI
  have hle:j*size+size<=cs.length:=by rw [h.1,<-Nat.succ_mul];exact Nat.mul_le_mul_right _ aJ
  rw [List.drop_append_of_le_length (by omega),List.take_append_of_le_length (by rw [List.length_drop];omega)];exact h.2 j p aI
 ·rw [List.getElem?_append_right t'] at aI
  have ar:=ct.2 (j - bK.length) p aI;have hle:bK.length*size<=j*size:=Nat.mul_le_mul_right _ t';rw [List.drop_append,List.drop_eq_nil_of_le (by rw [h.1];exact hle),List.nil_append,h.1,<-Nat.sub_mul];exact ar
section
variable {P:Program} {ops:Array Oper} {rest:List Oper} {o:Oper} {a:Act} {Q:Exit->Act->World->Prop} {α:Type}
theorem BF (d:Kd α) {Rr:α->List Value->Prop} {w0 W:World} (base:Nat) (eO:o.guard=none) (s x:Operand) (t e:TypeId) (z:Value) (bytes:Nat)
  (aT:o.op= .call {callee:=.builtin .append,args:=#[s,x],argTypes:=#[t,t]})
  (a6:P.underlying t=some (.slice e)) (ng:(P.info? e).map (fun i=>(i.zero,i.size,i.bytes))=some (some z,d.bD,bytes)) (aX:z.cells.size=d.bD) (jC:0 < d.bD) (dE:0 < bytes)
  (v:Value) (xs cH:List α) (A:Option Addr) (m c:Nat) (ok okp:Nat->Prop) (hs:a.eval s=v) (az:a.eval x= .slice A m c)
  (eB:d.aC e W base ok v xs) (cb:pS Rr d.bD W A m cH) (Jl:∀ x cs,Rr x cs->d.M W base okp x cs) (qj:∀ k,okp k->ok k/\some k ≠ v.ownBlock) (l3:∀ k,W.heap.size<=k->ok k)
  (ab:Below base w0 W) (kZ:base<=W.heap.size) (ak:(xs.length+m)*bytes<=140737488355328)
  (h:∀ v1 w1,d.aC e w1 base ok v1 (xs ++ cH)->Below base w0 w1->W.grownBy w1 v.ownBlock->(v1.ownBlock=v.ownBlock\/∃ b,v1.ownBlock=some b/\W.heap.size<=b)->wpList P ops Q rest (a.put o.dst v1) w1):
  wpList P ops Q (o :: rest) a W:=by
 obtain ⟨i0,aa,q4⟩:=Option.map_eq_some_iff.1 ng;simp only [Prod.mk.injEq] at q4;obtain ⟨jQ,rR,lC⟩:=q4;have hm:cH.length=m:=cb.1;have hlen:xs.length+m<=140737488355328:=Nat.le_trans (Nat.le_mul_of_pos_right _ dE) ak;obtain ⟨c7,inner,kr,ao⟩:=eB
 have iT:∃ v1 w1,(Builtin.append_ #[t,t] o.type #[v,.slice A m c]).run P W= .ok v1 w1/\d.aC e w1 base ok v1 (xs ++ cH)/\W.grownBy w1 v.ownBlock/\(v1.ownBlock=v.ownBlock\/∃ b,v1.ownBlock=some b/\W.heap.size<=b):=by
  rcases A with _ | cy
  ·have aq:m=0:=by
    rcases Nat.eq_zero_or_pos m with aq | aq
    ·exact aq
    ·obtain ⟨cy,h,_⟩:=cb.2.2 aq
     cases h
   subst aq;obtain rfl:cH= []:=List.eq_nil_of_length_eq_zero hm;refine ⟨v,W, ?_,by rw [List.append_nil];exact ⟨c7,inner,kr,ao⟩,World.grownBy.refl W _,.inl rfl⟩;rcases kr.2 with ⟨rfl,aS⟩ | ⟨g,cap,cur,rfl,_,_,nu,_⟩
   ·simp [Builtin.append_,run_underlying a6,sizeOf,typeInfo,aa,Builtin.lenOf,Builtin.firstCells]
   ·simp [Builtin.append_,run_underlying a6,sizeOf,typeInfo,aa,Builtin.lenOf,Builtin.firstCells,nu,storeCells]
  ·obtain ⟨news,Jm,nu⟩:=pS.QN cb
   have xa:cp (d.M W base okp) d.bD cH news:=Jm.lJ (fun p c aB=>Jl p c aB)
   have Cv:∀ u ∈ news,u.oneCell'=true:=by
    intro u hu;obtain ⟨q,aF,rfl⟩:=List.mem_iff_getElem.1 hu
    have Jn:q / d.bD < cH.length:=by
     rw [Nat.div_lt_iff_lt_mul jC];rw [<-xa.1];exact aF
    have ay:=xa.2 (q / d.bD) _ (List.getElem?_eq_getElem Jn);refine d.sh (d.oD ay) _ ?_;rw [List.mem_iff_getElem?];refine ⟨q % d.bD, ?_⟩;rw [List.getElem?_take,if_pos (Nat.mod_lt _ jC),List.getElem?_drop,Nat.mul_comm,Nat.div_add_mod,List.getElem?_eq_getElem aF]
   obtain ⟨v1,w1,iT,ar,U,_,dy⟩:=run_append_own_at (P:=P) W base t o.type e i0 z d.bD bytes a6 aa jQ rR lC aX jC v xs.length inner kr cy m c news (by rw [xa.1,hm]) nu Cv (by simp only [maxLen];omega) ak kZ
   have AT:v1.ownBlock=v.ownBlock\/∃ b,v1.ownBlock=some b/\W.heap.size<=b:=by
    rcases dy with dy | dy
    ·exact .inl dy
    ·exact .inr ⟨_,dy,Nat.le_refl _⟩
   have cm:∀ k,some k ≠ v.ownBlock->k < W.heap.size->some k ≠ v1.ownBlock:=by
    intro k J aJ;rcases AT with dy | ⟨b,I,hle⟩
    ·rw [dy];exact J
    ·rw [I]
     intro he;injection he with he;omega
   have step:∀ {q:α} {c:List Value} {o:Nat->Prop},d.M W base o q c->(∀ k,o k->ok k/\some k ≠ v.ownBlock)->d.M w1 base (fun k=>ok k/\some k ≠ v1.ownBlock) q c:=by
    intro q c o aF aT;have h1:=d.pP (w1:=w1) (fun k J=>U.block k J.2.2.1 (aT k J.1).2) (d.pR aF);exact d.k1 (fun k J=>⟨(aT k J.1).1,cm k (aT k J.1).2 J.2.2.1⟩) h1
   refine ⟨v1,w1,iT,⟨fun k J=> ?_,inner ++ news,by rw [List.length_append,hm];exact ar,So (ao.lJ (fun _ _ aF=>step aF (fun _ J=>J))) (xa.lJ (fun _ _ aF=>step aF qj))⟩,U,AT⟩;rcases AT with dy | ⟨b,I,hle⟩
   ·exact c7 k (dy ▸ J)
   ·rw [I] at J
    injection J with J;exact l3 k (by omega)
 obtain ⟨v1,w1,p9,h1,U,dy⟩:=iT;refine wpList_plain eO fun K au=> ?_
 unfold Oper.wp execOp;simp only [aT,resolve,invoke,builtin,Sem.run_bind,Sem.run_pure,Result.andThen_ok,List.map_toArray,List.map_cons,List.map_nil,hs,az,p9];exact au _ _ (h v1 w1 h1 (ab.grown U kZ (CU kr)) U dy)
end
end Kd
theorem abR {P:Program} {w:World} {g o:Nat} {e:TypeId} {cur:Array Value} (t:TypeId) (u:Value) (seg:List Value) (c0:w.heap[g]? = some (.cells cur e (0,0))) (hu:u.cells.toList=seg) (a6:(P.info? t).map (·.size)=some seg.length)
  (PM:o+seg.length<=cur.size) (h1:∀ q ∈ seg,q.oneCell'=true):(Instr.storeAt t (.pointer (some ⟨g,o,none⟩)) u).run P w= .ok () (w.setCells g o seg):=by
 obtain ⟨i,aa,cP⟩:=Option.map_eq_some_iff.1 a6;have ay:u.cells.size=i.size:=by rw [cP,<-hu,Array.length_toList]
 have ja:=run_storeCells_cells (P:=P) g o seg 0 w (fun j aI=>by rw [cell_of_row w g _ cur e (0,0) c0];simp;omega) (fun j _=>iX c0 _) h1;simp only [Nat.add_zero] at ja;simp [Instr.storeAt,Instr.sureAddr,storeVar,sizeOf,typeInfo,aa,ay,hu,ja]
namespace Kd
section
variable {P:Program} {ops:Array Oper} {rest:List Oper} {o:Oper} {a:Act} {Q:Exit->Act->World->Prop} {α:Type}
theorem Q8 (d:Kd α) {w0 W:World} (base:Nat) (cz:o.dst=none) (eO:o.guard=none) (t:TypeId) (p x:Operand) (aT:o.op= .store t p x) (e:TypeId) {g n cap tt:Nat} (i:Int) (j:Nat) (xs:List α) (x':α) (u:Value) (seg c:List Value) (ok okp:Nat->Prop)
  (XM:a.eval p= .pointer (some ⟨g,tt,none⟩)) (lk:tt=i.toNat*d.bD+j) (az:a.eval x=u) (hu:u.cells.toList=seg) (a6:(P.info? t).map (·.size)=some seg.length) (h1:∀ q ∈ seg,q.oneCell'=true)
  (eB:d.aC e W base ok (.slice (some ⟨g,0,none⟩) n cap) xs) (aq:0<=i) (aa:i < n) (bQ:c.length=d.bD) (aM:∀ j u,c[j]? = some u->W.cell? ⟨g,i.toNat*d.bD+j,none⟩=some u)
  (aI:j+seg.length<=d.bD) (dw:d.M W base okp x' (c.take j ++ seg ++ c.drop (j+seg.length))) (qj:∀ k,okp k->ok k/\k ≠ g) (ab:Below base w0 W)
  (h:∀ w1,d.aC e w1 base ok (.slice (some ⟨g,0,none⟩) n cap) (xs.set i.toNat x')->Below base w0 w1->W.grownBy w1 (some g)->wpList P ops Q rest a w1):wpList P ops Q (o :: rest) a W:=by
 subst lk;obtain ⟨jw,U⟩:=y3 eB i aq aa bQ aM aI dw qj;have jb:base<=g:=FF eB g (by simp [Value.ownBlock]);have zZ:n=xs.length:=(ie eB).1;obtain ⟨_,inner,kr,ao⟩:=eB;have p7:i.toNat < n:=by omega
 have dt:Below base w0 (W.setCells g (i.toNat*d.bD+j) seg):=ab.trans ⟨U.os,U.tape,U.output,U.size,fun k J=>by
  have aJ:k < W.heap.size\/W.heap.size<=k:=Nat.lt_or_ge _ _;rcases aJ with aJ | t'
  ·exact U.block k aJ (fun he=>by injection he with he;omega)
  ·exact pn seg _ k (by omega)⟩
 refine wpList_plain eO fun K au=> ?_
 have iT:(Instr.storeAt t (.pointer (some ⟨g,i.toNat*d.bD+j,none⟩)) u).run P W= .ok () (W.setCells g (i.toNat*d.bD+j) seg):=by
  rcases kr.2 with ⟨bp,_⟩ | ⟨pW,HG,cur,bp,I,c0,nu,GR,e4,_⟩
  ·cases bp
  injection bp with ha _ ay;injection ha with ha;injection ha with Ud;subst Ud;subst ay;refine abR t u seg c0 hu a6 ?_ h1;have ar:i.toNat*d.bD+d.bD<=n*d.bD:=by rw [<-Nat.succ_mul];exact Nat.mul_le_mul_right _ p7
  have aA:n*d.bD<=cap*d.bD:=Nat.mul_le_mul_right _ (by omega);omega
 unfold Oper.wp execOp;simp only [aT,XM,az,Sem.run_bind,Sem.run_pure,Result.andThen_ok,iT];show K (a.put o.dst undef) _;rw [cz];exact au a _ (h _ jw dt U)
end
end Kd
theorem add_add (a:Addr) (i j:Nat):(a.add i).add j=a.add (i+j):=by
 unfold Addr.add;by_cases h1:i=0 <;> by_cases ar:j=0 <;> simp [h1,ar,Nat.add_assoc]
namespace Kd
section
variable {α:Type} {k:Kd α} {w:World} {A:Option Addr} {xs:List α} {m c:Nat}
theorem Yi (h:k.C w A xs.length xs) (hm:m<=xs.length):k.C w A (xs.take m).length (xs.take m):=by
 have ak:(xs.take m).length=m:=by rw [List.length_take];omega
 refine ⟨rfl,by rw [ak];have:=h.2.1;omega,fun aB=> ?_⟩;obtain ⟨cy,e,ay⟩:=h.2.2 (by omega);refine ⟨cy,e,fun j p aI=>ay j p ?_⟩;rw [List.getElem?_take] at aI;split at aI
 ·exact aI
 ·cases aI
theorem QQ (h:k.C w A xs.length xs) (hm:m<=xs.length) (ay:xs.length<=c):k.C w (if c=m then A else A.map (·.add (m*k.bD))) (xs.drop m).length (xs.drop m):=by
 have ak:(xs.drop m).length=xs.length - m:=List.length_drop;refine ⟨rfl,by rw [ak];have:=h.2.1;omega,fun aB=> ?_⟩;rw [ak] at aB;obtain ⟨cy,rfl,j'⟩:=h.2.2 (by omega);rw [if_neg (by omega)];refine ⟨cy.add (m*k.bD),rfl,fun j p aI=> ?_⟩;rw [List.getElem?_drop] at aI;obtain ⟨cs,h1,ar,aA⟩:=j' (m+j) p aI;refine ⟨cs,h1,ar,fun i u hu=> ?_⟩;rw [add_add,show m*k.bD+(j*k.bD+i)=(m+j)*k.bD+i by rw [Nat.add_mul];omega];exact aA i u hu
end
end Kd
theorem tn {w W:World} (h:Below w.heap.size w W):w.heap.size<=W.heap.size:=h.size
theorem fb {w W b':World} (h:Below w.heap.size w W) (k:Below W.heap.size W b'):Below w.heap.size w b':=aaB h h.size k
theorem rv.nil (W:World) (k:IntKind):rv W k none ([]:List Int).length []:=⟨rfl,by simp,fun h=>absurd h (Nat.lt_irrefl 0)⟩
theorem rv.ofRow {k:IntKind} {w:World} {a:Option Addr} {len cap:Nat} {eC:List Int} (h:(a=none/\len=0/\cap=0/\eC= [])\/∃ x,a=some x/\len<=cap/\cap<=maxLen/\eC.length=cap/\(∀ i,i < eC.length->w.cell? (x.add i)=some (.int k (eC.getD i 0)))/\∀ n ∈ eC,(Lit.int k n).wf=true):
  ∃ l:List Int,len=l.length/\rv w k a l.length l/\l.length<=maxLen/\∀ x ∈ l,(Lit.int k x).wf=true:=by
 rcases h with ⟨rfl,rfl,rfl,rfl⟩ | ⟨x,rfl,ak,hm,aX,ay,hw⟩
 ·exact ⟨[],rfl,rv.nil _ _,Nat.zero_le _,fun x az=>by simp at az⟩
 ·have e:(eC.take len).length=len:=by simp;omega
  have DR:len<=maxLen:=Nat.le_trans ak hm;refine ⟨eC.take len,e.symm,⟨rfl,by rw [e];simpa [maxLen] using DR,fun _=>⟨x,rfl,fun j aI=> ?_⟩⟩,by rw [e];exact DR,fun y aW=>hw y (List.mem_of_mem_take aW)⟩;rw [e] at aI;rw [ay j (by omega)];simp [List.getD,List.getElem?_take,aI]
theorem jj {w W:World} {g j:Nat} {v:Value} (h:Below w.heap.size w W) (U:w.heap.size<=g):Below w.heap.size w (W.setCell ⟨g,j,none⟩ v):=h.setCell U _
theorem rv.CL {k:IntKind} {w:World} {a:Option Addr} {len cap:Nat} {eC:List Int} (h:(a=none/\len=0/\cap=0/\eC= [])\/∃ x,a=some x/\len<=cap/\cap<=maxLen/\eC.length=cap/\(∀ i,i < eC.length->w.cell? (x.add i)=some (.int k (eC.getD i 0)))/\∀ n ∈ eC,(Lit.int k n).wf=true):
  ∃ l:List Int,len=l.length/\rv w k a l.length l/\l.length<=maxLen/\(∀ x ∈ l,(Lit.int k x).wf=true)/\l.length<=cap:=by
 have ak:len<=cap:=by
  rcases h with ⟨_,rfl,rfl,_⟩ | ⟨_,_,h,_⟩
  ·exact Nat.le_refl _
  ·exact h
 obtain ⟨l,e,h1,ar,aA⟩:=rv.ofRow h;exact ⟨l,e,h1,ar,aA,e ▸ ak⟩
section
variable {P:Program} {ops:Array Oper} {rest:List Oper} {o:Oper} {a:Act} {Q:Exit->Act->World->Prop}
theorem Ip {W:World} (eO:o.guard=none) {N:Tmp} (_hd:o.dst=some N) {cs:Array Value} {t:TypeId}
  (iT:(execOp a.eval o).run P W= .ok (.value (.pointer (some ⟨W.heap.size,0,none⟩))) (W.alloc (.cells cs t (0,0))))
  (h:∀ g,g=W.heap.size->∀ w1,w1.heap[g]? = some (.cells cs t (0,0))->Below W.heap.size W w1->wpList P ops Q rest (a.put o.dst (.pointer (some ⟨g,0,none⟩))) w1):wpList P ops Q (o :: rest) a W:=
 Kd.C1 eO iT (h _ rfl _ (y9 W _) (mz (Below.refl _ _) _))
end
namespace Kd
section
variable {α:Type} {enc:α->Value} {h1:∀ x,(enc x).oneCell'=true} {e base g n cap:Nat} {ok:Nat->Prop} {W:World} {xs:List α}
theorem wx (d:α) (h:(scalar enc h1).aC e W base ok (.slice (some ⟨g,0,none⟩) n cap) xs) (i:Int) (aq:0<=i) (aa:i < n):W.cell? ⟨g,i.toNat,none⟩=some (enc (AQ d xs i))/\W.frozen? ⟨g,i.toNat,none⟩=false:=by
 obtain ⟨rfl,_⟩:=ie h;exact Yg d h i aq aa
end
end Kd
section
variable {P:Program} {ops:Array Oper} {rest:List Oper} {o:Oper} {a:Act} {Q:Exit->Act->World->Prop} {W:World}
theorem Rp {N:Tmp} (_hN:o.dst=some N) (h:wpList P ops Q (o :: rest) a W):wpList P ops Q (o :: rest) a W:=h
theorem aen {t:TypeId} {p:Tmp} {v:Operand} (_ho:o.op= .store t (.tmp p) v) (h:wpList P ops Q (o :: rest) a W):wpList P ops Q (o :: rest) a W:=h
end
section
variable {P:Program} {ops:Array Oper} {o:Oper} {a:Act} {Q:Exit->Act->World->Prop} {po:Act->World->Prop}
theorem aaE {W w1:World} {v:Value} (hw:Region.wanted o (yielded ops a.tmps)=true) (iT:(execOp a.eval o).run P W= .ok (.value v) w1) (h:po (a.put o.dst v) w1):if Region.wanted o (yielded ops a.tmps)=true then Oper.wp P o a W po Q else po (a.put o.dst undef) W:=by
 rw [if_pos hw];unfold Oper.wp;rw [iT];exact h
namespace Kd
variable {α:Type}
theorem qG (d:Kd α) {w0 W:World} (base e:Nat) (hw:Region.wanted o (yielded ops a.tmps)=true) {N:Tmp} (_hd:o.dst=some N) {xs:List α} {inner:List Value} {ok okp:Nat->Prop}
  (iT:(execOp a.eval o).run P W= .ok (.value (.slice (some ⟨W.heap.size,0,none⟩) xs.length xs.length)) (W.alloc (.cells inner.toArray e)))
  (E5:cp (d.M W base okp) d.bD xs inner) (c7:∀ k,okp k->ok k) (l3:ok W.heap.size) (ab:Below base w0 W) (kZ:base<=W.heap.size) (hm:xs.length<=9223372036854775807)
  (h:∀ v1 w1,d.aC e w1 base ok v1 xs->Below base w0 w1->W.grownBy w1 none->(∃ b,v1.ownBlock=some b/\W.heap.size<=b)->po (a.put o.dst v1) w1):if Region.wanted o (yielded ops a.tmps)=true then Oper.wp P o a W po Q else po (a.put o.dst undef) W:=by
 refine aaE hw iT (h _ _ ⟨fun k J=> ?_,inner, ?_, ?_⟩ (ab.alloc kZ _) (World.grownBy_alloc W _ none) ⟨W.heap.size,by simp [Value.ownBlock],Nat.le_refl _⟩)
 ·have:W.heap.size=k:=by simpa [Value.ownBlock] using J
  subst this;exact l3
 ·have ar:=World.ownsRow_lit (base:=base) (e:=e) (size:=d.bD) W inner.toArray xs.length kZ (by simpa [maxLen] using hm) (by simpa using E5.1)
  simpa using ar
 ·refine E5.lJ (fun p c aB=>d.k1 (fun k J=>⟨c7 k J.1,fun he=> ?_⟩) (Q7 (d.pR aB) (mz (Below.refl _ _) _)))
  have aA:k=W.heap.size:=by simpa [Value.ownBlock] using he
  have:=J.2.2.1
  omega
theorem Sp (d:Kd α) {w0 W:World} (base e:Nat) (hw:Region.wanted o (yielded ops a.tmps)=true) {N:Tmp} (aO:o.dst=some N) (t:TypeId) (x y:Operand) (aT:o.op= .makeSlice t x y) (n:Int) (az:a.eval x= .int .i64 n) (aW:a.eval y= .int .i64 n)
  (a6:P.underlying t=some (.slice e)) (z:Value) (bytes:Nat) (ng:(P.info? e).map (fun i=>(i.zero,i.size,i.bytes))=some (some z,d.bD,bytes)) (aX:z.cells.size=d.bD) (jC:0 < d.bD) (dE:0 < bytes)
  (z0:α) {ok okp:Nat->Prop} (hzero:d.M W base okp z0 z.cells.toList) (c7:∀ k,okp k->ok k) (l3:ok W.heap.size) (aq:0<=n) (ak:n.toNat*bytes<=281474976710656) (ab:Below base w0 W) (kZ:base<=W.heap.size)
  (h:∀ v1 w1,d.aC e w1 base ok v1 (List.replicate n.toNat z0)->Below base w0 w1->W.grownBy w1 none->(∃ b,v1.ownBlock=some b/\W.heap.size<=b)->po (a.put o.dst v1) w1):if Region.wanted o (yielded ops a.tmps)=true then Oper.wp P o a W po Q else po (a.put o.dst undef) W:=by
 obtain ⟨m,rfl⟩:=Int.eq_ofNat_of_zero_le aq;simp only [Int.toNat_natCast] at ak h;obtain ⟨i0,aa,q4⟩:=Option.map_eq_some_iff.1 ng;simp only [Prod.mk.injEq] at q4;obtain ⟨jQ,rR,lC⟩:=q4;have hm:m<=281474976710656:=Nat.le_trans (Nat.le_mul_of_pos_right _ dE) ak
 have ao:=run_make (P:=P) W t e i0 z a6 aa jQ .i64 .i64 (m:Int) (m:Int) (by omega) (by omega)
  (by
   have aA:((i0.bytes*m:Nat):Int)<=281474976710656:=by rw [lC,Nat.mul_comm];omega
   rwa [Int.natCast_mul] at aA) (by omega)
 simp only [Int.toNat_natCast] at ao;rw [rR] at ao;refine qG d base e hw aO (xs:=List.replicate m z0) (inner:=(madeCells z.cells (m*d.bD)).toList) (okp:=okp) (ok:=ok) ?_ (aaa aX jC hzero m) c7 l3 ab kZ (by simp;omega) h;simp [execOp,aT,az,aW,ao]
theorem Ta (d:Kd α) {Rr:α->List Value->Prop} {w0 W:World} (base:Nat) (hw:Region.wanted o (yielded ops a.tmps)=true) (s x:Operand) (t e:TypeId) (z:Value) (bytes:Nat)
  (aT:o.op= .call {callee:=.builtin .append,args:=#[s,x],argTypes:=#[t,t]})
  (a6:P.underlying t=some (.slice e)) (ng:(P.info? e).map (fun i=>(i.zero,i.size,i.bytes))=some (some z,d.bD,bytes)) (aX:z.cells.size=d.bD) (jC:0 < d.bD) (dE:0 < bytes)
  (v:Value) (xs cH:List α) (A:Option Addr) (m c:Nat) (ok okp:Nat->Prop) (hs:a.eval s=v) (az:a.eval x= .slice A m c)
  (eB:d.aC e W base ok v xs) (cb:pS Rr d.bD W A m cH) (Jl:∀ x cs,Rr x cs->d.M W base okp x cs) (qj:∀ k,okp k->ok k/\some k ≠ v.ownBlock) (l3:∀ k,W.heap.size<=k->ok k)
  (ab:Below base w0 W) (kZ:base<=W.heap.size) (ak:(xs.length+m)*bytes<=140737488355328)
  (h:∀ v1 w1,d.aC e w1 base ok v1 (xs ++ cH)->Below base w0 w1->W.grownBy w1 v.ownBlock->(v1.ownBlock=v.ownBlock\/∃ b,v1.ownBlock=some b/\W.heap.size<=b)->po (a.put o.dst v1) w1):
  if Region.wanted o (yielded ops a.tmps)=true then Oper.wp P o a W po Q else po (a.put o.dst undef) W:=by
 obtain ⟨i0,aa,q4⟩:=Option.map_eq_some_iff.1 ng;simp only [Prod.mk.injEq] at q4;obtain ⟨jQ,rR,lC⟩:=q4;have hm:cH.length=m:=cb.1;have hlen:xs.length+m<=140737488355328:=Nat.le_trans (Nat.le_mul_of_pos_right _ dE) ak;obtain ⟨c7,inner,kr,ao⟩:=eB
 have iT:∃ v1 w1,(Builtin.append_ #[t,t] o.type #[v,.slice A m c]).run P W= .ok v1 w1/\d.aC e w1 base ok v1 (xs ++ cH)/\W.grownBy w1 v.ownBlock/\(v1.ownBlock=v.ownBlock\/∃ b,v1.ownBlock=some b/\W.heap.size<=b):=by
  rcases A with _ | cy
  ·have aq:m=0:=by
    rcases Nat.eq_zero_or_pos m with aq | aq
    ·exact aq
    ·obtain ⟨cy,h,_⟩:=cb.2.2 aq
     cases h
   subst aq;obtain rfl:cH= []:=List.eq_nil_of_length_eq_zero hm;refine ⟨v,W, ?_,by rw [List.append_nil];exact ⟨c7,inner,kr,ao⟩,World.grownBy.refl W _,.inl rfl⟩;rcases kr.2 with ⟨rfl,aS⟩ | ⟨g,cap,cur,rfl,_,_,nu,_⟩
   ·simp [Builtin.append_,run_underlying a6,sizeOf,typeInfo,aa,Builtin.lenOf,Builtin.firstCells]
   ·simp [Builtin.append_,run_underlying a6,sizeOf,typeInfo,aa,Builtin.lenOf,Builtin.firstCells,nu,storeCells]
  ·obtain ⟨news,Jm,nu⟩:=pS.QN cb
   have xa:cp (d.M W base okp) d.bD cH news:=Jm.lJ (fun p c aB=>Jl p c aB)
   have Cv:∀ u ∈ news,u.oneCell'=true:=by
    intro u hu;obtain ⟨q,aF,rfl⟩:=List.mem_iff_getElem.1 hu
    have Jn:q / d.bD < cH.length:=by
     rw [Nat.div_lt_iff_lt_mul jC];rw [<-xa.1];exact aF
    have ay:=xa.2 (q / d.bD) _ (List.getElem?_eq_getElem Jn);refine d.sh (d.oD ay) _ ?_;rw [List.mem_iff_getElem?];refine ⟨q % d.bD, ?_⟩;rw [List.getElem?_take,if_pos (Nat.mod_lt _ jC),List.getElem?_drop,Nat.mul_comm,Nat.div_add_mod,List.getElem?_eq_getElem aF]
   obtain ⟨v1,w1,iT,ar,U,_,dy⟩:=run_append_own_at (P:=P) W base t o.type e i0 z d.bD bytes a6 aa jQ rR lC aX jC v xs.length inner kr cy m c news (by rw [xa.1,hm]) nu Cv (by simp only [maxLen];omega) ak kZ
   have AT:v1.ownBlock=v.ownBlock\/∃ b,v1.ownBlock=some b/\W.heap.size<=b:=by
    rcases dy with dy | dy
    ·exact .inl dy
    ·exact .inr ⟨_,dy,Nat.le_refl _⟩
   have cm:∀ k,some k ≠ v.ownBlock->k < W.heap.size->some k ≠ v1.ownBlock:=by
    intro k J aJ;rcases AT with dy | ⟨b,I,hle⟩
    ·rw [dy];exact J
    ·rw [I]
     intro he;injection he with he;omega
   have step:∀ {q:α} {c:List Value} {o:Nat->Prop},d.M W base o q c->(∀ k,o k->ok k/\some k ≠ v.ownBlock)->d.M w1 base (fun k=>ok k/\some k ≠ v1.ownBlock) q c:=by
    intro q c o aF aT;have h1:=d.pP (w1:=w1) (fun k J=>U.block k J.2.2.1 (aT k J.1).2) (d.pR aF);exact d.k1 (fun k J=>⟨(aT k J.1).1,cm k (aT k J.1).2 J.2.2.1⟩) h1
   refine ⟨v1,w1,iT,⟨fun k J=> ?_,inner ++ news,by rw [List.length_append,hm];exact ar,So (ao.lJ (fun _ _ aF=>step aF (fun _ J=>J))) (xa.lJ (fun _ _ aF=>step aF qj))⟩,U,AT⟩;rcases AT with dy | ⟨b,I,hle⟩
   ·exact c7 k (dy ▸ J)
   ·rw [I] at J
    injection J with J;exact l3 k (by omega)
 obtain ⟨v1,w1,p9,h1,U,dy⟩:=iT;rw [if_pos hw];unfold Oper.wp execOp;simp only [aT,resolve,invoke,builtin,Sem.run_bind,Sem.run_pure,Result.andThen_ok,List.map_toArray,List.map_cons,List.map_nil,hs,az,p9];exact h v1 w1 h1 (ab.grown U kZ (CU kr)) U dy
end Kd
end
inductive yT (P:Program) (tmps:Array Value) (w:World):List ResultVar->List Value->Prop where
 | nil:yT P tmps w [] []
 | tmp {u:Tmp} {rs:List ResultVar} {gi:List Value} (h:yT P tmps w rs gi):yT P tmps w (.tmp u :: rs) (tmps.getD u undef :: gi)
 | cell {p:Tmp} {ty:TypeId} {rs:List ResultVar} {gi:List Value} (g:Nat) (t:TypeId) (cs:Array Value) (fr:Nat × Nat) (d:TypeDesc)
   (aB:tmps.getD p undef= .pointer (some ⟨g,0,none⟩)) (U:w.heap[g]? = some (.cells cs t fr))
   (hu:P.underlying ty=some d) (aO:(match d with | .struct _ | .array _ _=>true | _=>false)=true) (aa:(P.info? ty).map (·.size)=some cs.size)
   (h:yT P tmps w rs gi):yT P tmps w (.cell p ty :: rs) (.agg cs :: gi)
section
variable {P:Program} {tmps:Array Value} {w:World}
theorem Rq {rs:List ResultVar} {gi:List Value} (bp:yT P tmps w rs gi) (f:ResultVar->Sem Value) (bb:∀ u,f (.tmp u)=pure (tmps.getD u undef)) (ay:∀ a t,f (.cell a t)=(do loadVar t (<-asAddr (tmps.getD a undef)))):
  (rs.mapM f).run P w= .ok gi w:=by
 induction bp with
 | nil=>simp
 | tmp h fI=>simp [List.mapM_cons,bb,fI]
 | cell g t cs fr d aB U hu aO aa h fI=>
  rw [List.mapM_cons,ay,aB];simp [asAddr,run_loadVar_row w g t _ cs fr d U hu aO aa,fI]
theorem x3 {fn:Func} {rs:List ResultVar} {gi:List Value} (h:fn.results=rs.toArray) (ak:gi.length ≠ 1) (bp:yT P tmps w rs gi):(results fn tmps).run P w= .ok (.tuple gi.toArray) w:=by
 unfold results;rw [h,List.mapM_toArray];simp only [Sem.run_bind,Sem.run_map];rw [Rq bp]
 ·simp [ak]
 ·intro u
  rfl
 ·intro a t
  rfl
theorem sx {fn:Func} {r:ResultVar} {v:Value} (h:fn.results= #[r]) (bp:yT P tmps w [r] [v]):(results fn tmps).run P w= .ok v w:=by
 unfold results;rw [show fn.results= [r].toArray from h,List.mapM_toArray];simp only [Sem.run_bind,Sem.run_map];rw [Rq bp]
 ·simp
 ·intro u
  rfl
 ·intro a t
  rfl
end
end Go.Proofs.YteajdhhmkjblnaaGreatDoorW.PrintWords
namespace Go.Proofs.YteajdhhmkjblnaaGreatDoorW.PrintLast
section
variable {P:Program} {ops:Array Oper} {Q:Exit->Act->World->Prop} {md:Region.Mode} {S:World->Prop} {ds:List Nat}
def Region.wi (md:Region.Mode) (ops:Array Oper) (i:Nat):Nat->Nat->Bool
 | 0,_=>false
 | fuel+1,d=>match ops[d]? with
  | some o=>o.after.any fun e=>Region.binds md e && (e.on == i || Region.wi md ops i fuel e.on)
  | none=>false
def Region.LV (md:Region.Mode) (ops:Array Oper) (listed:Array Bool):Bool:=
 (List.range ops.size).all fun j=> !listed.getD j false || match ops[j]? with
  | some o=>o.after.all fun e=> !Region.binds md e || listed.getD e.on false
  | none=>true
def Region.Qx (md:Region.Mode) (ops:Array Oper) (listed:Array Bool) (ds:List Nat) (i:Nat):Bool:=
 ds.all fun d=>listed.getD d true || Region.wi md ops i ops.size d
def BC (md:Region.Mode) (ops:Array Oper) (listed:Array Bool):Prop:=
 ∀ j kc,ops[j]? = some kc->listed.getD j false=true->∀ e ∈ kc.after,Region.binds md e=true->listed.getD e.on false=true
theorem Region.abu {listed:Array Bool} (h:Region.LV md ops listed=true):BC md ops listed:=by
 intro j kc aI ak e he I;have aJ:j < ops.size:=(Array.getElem?_eq_some_iff.1 aI).1;have h1:=List.all_eq_true.1 h j (List.mem_range.2 aJ);simp only [ak,aI,Bool.not_true,Bool.false_or] at h1;have ar:=Array.all_eq_true_iff_forall_mem.1 h1 e he;simpa [I] using ar
theorem BC.set {listed:Array Bool} {i:Nat} (h:BC md ops listed) (aa:i ∈ Region.ready md ops listed):BC md ops (listed.setIfInBounds i true):=by
 obtain ⟨_,c2,Ue,n5⟩:=mem_ready.1 aa;intro j kc aI ak e he I;by_cases sO:i=j
 ·subst sO
  have:kc=c2:=Option.some.inj (aI.symm.trans Ue)
  subst this;exact getD_set_true (n5 e he I)
 ·rw [getD_set_ne false sO] at ak
  exact getD_set_true (h j kc aI ak e he I)
theorem Region.SJ {listed:Array Bool} {i:Nat} (ay:BC md ops listed):∀ (fuel d:Nat),Region.wi md ops i fuel d=true->listed.getD d false=true->listed.getD i false=true
 | 0,_,h,_=>by simp [Region.wi] at h
 | fuel+1,d,h,ak=>by
  unfold Region.wi at h
  cases aT:ops[d]? with
  | none=>rw [aT] at h;simp at h
  | some o=>
   rw [aT] at h;obtain ⟨e,he,h1⟩:=Array.any_eq_true'.1 h;simp only [Bool.and_eq_true,Bool.or_eq_true,beq_iff_eq] at h1;have hle:=ay d o aT ak e he h1.1;rcases h1.2 with ar | ar
   ·rw [<-ar];exact hle
   ·exact Region.SJ ay fuel e.on ar hle
theorem Region.ab8 {listed:Array Bool} {i d fuel:Nat} (ay:BC md ops listed) (ao:Region.wi md ops i fuel d=true) (ua:listed.getD i true=false):d ∉ Region.ready md ops listed:=by
 intro aO;obtain ⟨_,o,aT,n5⟩:=mem_ready.1 aO
 have aa:listed.getD i false=true:=by
  cases fuel with
  | zero=>simp [Region.wi] at ao
  | succ n=>
   unfold Region.wi at ao;rw [aT] at ao;obtain ⟨e,he,h1⟩:=Array.any_eq_true'.1 ao;simp only [Bool.and_eq_true,Bool.or_eq_true,beq_iff_eq] at h1;have hle:=n5 e he h1.1;rcases h1.2 with ar | ar
   ·rw [<-ar];exact hle
   ·exact Region.SJ ay n e.on ar hle
 rcases Nat.lt_or_ge i listed.size with ct | ct
 ·simp [ct] at ua aa
  rw [ua] at aa;cases aa
 ·simp [Array.getElem?_eq_none ct] at ua
def fM (P:Program) (md:Region.Mode) (ops:Array Oper) (Q:Exit->Act->World->Prop) (S:World->Prop) (ds:List Nat):Nat->Array Bool->Act->World->Prop
 | 0,listed,a,w=>Region.ready md ops listed= []/\Q .normal a w
 | fuel+1,listed,a,w=>
  (Region.ready md ops listed= []->Q .normal a w)/\
  ∀ i ∈ Region.ready md ops listed,wpOp P ops Q i (fun a' af=>(i ∉ ds->S w->S af)/\fM P md ops Q S ds fuel (listed.setIfInBounds i true) a' af) a w
theorem SW:∀ (fuel:Nat) (listed:Array Bool) (a:Act) (w:World),fM P md ops Q S ds fuel listed a w->wpAny P md ops Q fuel listed a w
 | 0,_,_,_,h=>h
 | fuel+1,_,_,_,h=>⟨h.1,fun i aa=>wpOp_mono (fun a' af ct=>SW fuel _ a' af ct.2) (h.2 i aa)⟩
theorem ab9 {i:Nat} {c2:Oper} {v:Value} (aa:ops[i]? = some c2) (PN:∀ (j:Nat) (o:Oper) cs b,ops[j]? = some o->o.op ≠ .select cs b)
  (mC:∀ c a w,Q (.panic c) (a.put c2.dst v) w->Q (.panic c) a w) (n:Nat):
  ∀ (fuel:Nat) (listed:Array Bool) (a:Act) (w:World),
   (∀ j kc,ops[j]? = some kc->j ≠ i->listed.getD j true=false->(∀ e ∈ kc.after,Region.binds md e=true->e.on ≠ i)->c2.apart ops kc=true)->
   BC md ops listed->(∀ d ∈ ds,listed.getD d true=false->Region.wi md ops i n d=true)->
   i ∈ Region.ready md ops listed->YieldsIf P ops S c2 v a->S w->
   fM P md ops Q S ds fuel (listed.setIfInBounds i true) (a.put c2.dst v) w->fM P md ops Q S ds (fuel+1) listed a w:=by
 intro fuel
 induction fuel with
 | zero=>
  intro listed a w _ _ _ ao aW dm H;refine ⟨fun h=>(by rw [h] at ao;cases ao),fun j aI=> ?_⟩;by_cases ys:j=i
  ·subst ys;exact aW.wpOp aa dm ⟨fun _ h=>h,H⟩
  ·have:=ready_mono aI ys
   rw [H.1] at this
   cases this
 | succ fuel fI=>
  intro listed a w Qy ay aO ao aW dm H;refine ⟨fun h=>(by rw [h] at ao;cases ao),fun j aI=> ?_⟩;by_cases ys:j=i
  ·subst ys;exact aW.wpOp aa dm ⟨fun _ h=>h,H⟩
  ·have h1:=H.2 j (ready_mono aI ys)
   obtain ⟨HI,kc,Jo,n5⟩:=mem_ready.1 aI;have KX:=(mem_ready.1 ao).1
   have WW:∀ e ∈ kc.after,Region.binds md e=true->e.on ≠ i:=fun e he I heq=>by
    have h1:=n5 e he I;rw [heq] at h1;rcases Nat.lt_or_ge i listed.size with ct | ct
    ·simp [ct] at KX h1;rw [KX] at h1;cases h1
    ·simp [Array.getElem?_eq_none ct] at h1
   have Uf:j ∉ ds:=fun hm=>Region.ab8 ay (aO j hm HI) KX aI
   have ar:=wpOp_putIf Jo (Qy j kc Jo ys HI WW) (fun cs b=>PN i c2 cs b aa) (fun cs b=>PN j kc cs b Jo) mC aW h1
   have Yj:∀ k ok,ops[k]? = some ok->k ≠ i->(listed.setIfInBounds j true).getD k true=false->
     (∀ e ∈ ok.after,Region.binds md e=true->e.on ≠ i)->c2.apart ops ok=true:=fun k ok J GV ua GW=>by
    refine Qy k ok J GV ?_ GW;by_cases DS:j=k
    ·subst DS;exact HI
    ·rw [getD_set_ne true DS] at ua;exact ua
   have Ug:∀ d ∈ ds,(listed.setIfInBounds j true).getD d true=false->Region.wi md ops i n d=true:=fun d hm ua=>by
    refine aO d hm ?_;by_cases DS:j=d
    ·subst DS;exact HI
    ·rw [getD_set_ne true DS] at ua;exact ua
   refine wpOp_mono (fun a' af aA=>⟨aA.2.1,fI (listed.setIfInBounds j true) a' af Yj (ay.set aI) Ug (ready_mono ao (Ne.symm ys)) aA.1 (aA.2.1 Uf dm) ?_⟩) ar;rw [Array.setIfInBounds_comm _ _ ys];exact aA.2.2
theorem abZ {i:Nat} {c2:Oper} {v:Value} {fuel:Nat} {listed:Array Bool} {a:Act} {w:World} (aa:ops[i]? = some c2)
  (hs:Region.noSelect ops=true) (bb:Region.free md ops listed i=true) (ao:(Region.ready md ops listed).contains i=true)
  (ay:Region.LV md ops listed=true) (ak:Region.Qx md ops listed ds i=true)
  (mC:∀ c a w,Q (.panic c) (a.put c2.dst v) w->Q (.panic c) a w) (aW:YieldsIf P ops S c2 v a) (dm:S w)
  (h:fM P md ops Q S ds fuel (listed.setIfInBounds i true) (a.put c2.dst v) w):fM P md ops Q S ds (fuel+1) listed a w:=
 ab9 aa (Region.noSelect_spec hs) mC ops.size fuel listed a w (Region.free_spec aa bb) (Region.abu ay)
  (fun d hm ua=>by have:=List.all_eq_true.1 ak d hm;rw [ua] at this;simpa using this) (by simpa using ao) aW dm h
theorem abS {rs:List Nat} {fuel:Nat} {listed:Array Bool} {a:Act} {w:World} (ao:Region.ready md ops listed=rs) (cm:rs ≠ [])
  (h:∀ i ∈ rs,wpOp P ops Q i (fun a' af=>(i ∉ ds->S w->S af)/\fM P md ops Q S ds fuel (listed.setIfInBounds i true) a' af) a w):fM P md ops Q S ds (fuel+1) listed a w:=
 ⟨fun aq=>absurd (ao ▸ aq) cm,ao ▸ h⟩
theorem MO {listed:Array Bool} {a:Act} {w:World} (ao:Region.ready md ops listed= []) (h:Q .normal a w):
  ∀ fuel,fM P md ops Q S ds fuel listed a w
 | 0=>⟨ao,h⟩
 | _+1=>⟨fun _=>h,by rw [ao];simp⟩
theorem ab0 {id:Nat} {a:Act} {w:World} (hm:P.follows .mixedOrders=true)
  (h:fM P .any ops Q S ds ops.size (Array.replicate ops.size false) a {w with drawn:=w.drawn+1}):(Code.region id ops true).wp P Q a w:=
 wp_region_any hm (SW _ _ _ _ h)
end
section
variable {P:Program} {ops:Array Oper} {Q:Exit->Act->World->Prop} {md:Region.Mode} {S:World->Prop} {ds:List Nat}
def nJ (P:Program) (md:Region.Mode) (ops:Array Oper) (Q:Exit->Act->World->Prop) (S:World->Prop) (ds:List Nat) (fuel:Nat) (listed:Array Bool) (a:Act) (w:World) (rs:List Nat):Prop:=
 ∀ i ∈ rs,wpOp P ops Q i (fun a' af=>(i ∉ ds->S w->S af)/\fM P md ops Q S ds fuel (listed.setIfInBounds i true) a' af) a w
theorem nJ.nil {fuel:Nat} {listed:Array Bool} {a:Act} {w:World}:nJ P md ops Q S ds fuel listed a w []:=fun _ h=>by cases h
theorem nJ.cons {fuel:Nat} {listed:Array Bool} {a:Act} {w:World} {i:Nat} {o:Oper} {rs:List Nat} (aT:ops[i]? = some o) (aO:i ∉ ds)
  (h:∀ j3:Act->World->Prop,Shut (∀ a w,S w->(S w->fM P md ops Q S ds fuel (listed.setIfInBounds i true) a w)->j3 a w)->if Region.wanted o (yielded ops a.tmps)=true then Oper.wp P o a w j3 Q else j3 (a.put o.dst undef) w)
  (hs:nJ P md ops Q S ds fuel listed a w rs):nJ P md ops Q S ds fuel listed a w (i :: rs):=fun j aI=>by
 rcases List.mem_cons.1 aI with rfl | aI
 ·exact wpOp_step aT (fun j3 au=>h j3 (fun a w dm fx=>au a w ⟨fun _ _=>dm,fx dm⟩))
 ·exact hs j aI
theorem nJ.RL {fuel:Nat} {listed:Array Bool} {a:Act} {w:World} {i:Nat} {o:Oper} {rs:List Nat} (aT:ops[i]? = some o) (aO:i ∈ ds)
  (h:∀ j3:Act->World->Prop,Shut (∀ a w,fM P md ops Q S ds fuel (listed.setIfInBounds i true) a w->j3 a w)->if Region.wanted o (yielded ops a.tmps)=true then Oper.wp P o a w j3 Q else j3 (a.put o.dst undef) w)
  (hs:nJ P md ops Q S ds fuel listed a w rs):nJ P md ops Q S ds fuel listed a w (i :: rs):=fun j aI=>by
 rcases List.mem_cons.1 aI with rfl | aI
 ·exact wpOp_step aT (fun j3 au=>h j3 (fun a w fx=>au a w ⟨fun aS=>absurd aO aS,fx⟩))
 ·exact hs j aI
theorem Dc {rs:List Nat} {fuel:Nat} {listed:Array Bool} {a:Act} {w:World} (ao:Region.ready md ops listed=rs) (cm:rs ≠ [])
  (h:nJ P md ops Q S ds fuel listed a w rs):fM P md ops Q S ds (fuel+1) listed a w:=abS ao cm h
theorem HY {id n:Nat} {a:Act} {w:World} (l:Array Bool) (hm:P.follows .mixedOrders=true) (aS:ops.size=n) (ak:Array.replicate n false=l) (dm:S w.drew)
  (h:S w.drew->fM P .any ops Q S ds n l a w.drew):(Code.region id ops true).wp P Q a w:=by
 subst aS;subst ak;exact ab0 hm (h dm)
def Lu (md:Region.Mode) (ops:Array Oper) (ds:List Nat) (l l':Array Bool) (i:Nat):Bool:=
 Region.noSelect ops && Region.free md ops l i && (Region.ready md ops l).contains i && Region.LV md ops l && Region.Qx md ops l ds i && (l.setIfInBounds i true == l')
theorem Ls {i:Nat} {N:Option Tmp} {c2:Oper} {v:Value} {fuel:Nat} {l:Array Bool} {a:Act} {w:World} (l':Array Bool) (aa:ops[i]? = some c2) (cz:c2.dst=N) (ay:Lu md ops ds l l' i=true)
  (mC:∀ c a w,Q (.panic c) (a.put c2.dst v) w->Q (.panic c) a w) (aW:YieldsIf P ops S c2 v a) (dm:S w) {a':Act} (ha:a.put N v=a')
  (h:fM P md ops Q S ds fuel l' a' w):fM P md ops Q S ds (fuel+1) l a w:=by
 subst ha;subst cz;simp only [Lu,Bool.and_eq_true,beq_iff_eq] at ay;obtain ⟨⟨⟨⟨⟨h1,ar⟩,aA⟩,bR⟩,br⟩,hp⟩:=ay;subst hp;exact abZ aa h1 ar aA bR br mC aW dm h
def qp (md:Region.Mode) (ops:Array Oper) (l l':Array Bool) (i:Nat):Bool:=(Region.ready md ops l == [i]) && (l.setIfInBounds i true == l')
theorem KY {i:Nat} {N:Option Tmp} {c2:Oper} {fuel:Nat} {l:Array Bool} {a:Act} {w:World} (l':Array Bool) (aa:ops[i]? = some c2) (cz:c2.dst=N) (ay:qp md ops l l' i=true) (aO:i ∉ ds)
  (h:∀ K:Act->World->Prop,Shut (∀ a' af,S af->(S af->fM P md ops Q S ds fuel l' a' af)->K a' af)->if Region.wanted c2 (yielded ops a.tmps)=true then Oper.wp P c2 a w K Q else K (a.put N undef) w):
  fM P md ops Q S ds (fuel+1) l a w:=by
 subst cz;simp only [qp,Bool.and_eq_true,beq_iff_eq] at ay;obtain ⟨h1,ar⟩:=ay;subst ar;exact Dc h1 (by simp) (nJ.cons aa aO (fun K au=>h K au) nJ.nil)
theorem xH {l:Array Bool} {a:Act} {w:World} {n:Nat} (ao:(Region.ready md ops l == [])=true) (h:Q .normal a w):fM P md ops Q S ds n l a w:=MO (by simpa using ao) h n
theorem WX {i j:Nat} {Ni Nj:Option Tmp} {c2 kc:Oper} {fuel:Nat} {l:Array Bool} {a:Act} {w:World} (li MS:Array Bool) (aa:ops[i]? = some c2) (aI:ops[j]? = some kc) (BW:c2.dst=Ni) (Jp:kc.dst=Nj)
  (ay:(Region.ready md ops l == [i,j] && l.setIfInBounds i true == li && l.setIfInBounds j true == MS)=true) (Jq:i ∉ ds) (BX:j ∉ ds)
  (h1:∀ K:Act->World->Prop,Shut (∀ a' af,S af->(S af->fM P md ops Q S ds fuel li a' af)->K a' af)->if Region.wanted c2 (yielded ops a.tmps)=true then Oper.wp P c2 a w K Q else K (a.put Ni undef) w)
  (ar:∀ K:Act->World->Prop,Shut (∀ a' af,S af->(S af->fM P md ops Q S ds fuel MS a' af)->K a' af)->if Region.wanted kc (yielded ops a.tmps)=true then Oper.wp P kc a w K Q else K (a.put Nj undef) w):
  fM P md ops Q S ds (fuel+1) l a w:=by
 subst BW;subst Jp;simp only [Bool.and_eq_true,beq_iff_eq] at ay;obtain ⟨⟨aA,bR⟩,br⟩:=ay;subst bR;subst br;exact Dc aA (by simp) (nJ.cons aa Jq (fun K au=>h1 K au) (nJ.cons aI BX (fun K au=>ar K au) nJ.nil))
theorem Qz {fuel:Nat} {l:Array Bool} {a a':Act} {w:World} (ha:a=a') (h:fM P md ops Q S ds fuel l a' w):fM P md ops Q S ds fuel l a w:=by
 subst ha;exact h
theorem XN {c2:Oper} {N:Option Tmp} {a:Act} {w:World} {K:Act->World->Prop} (f:FuncId) (args:Array Value) (hw:Region.wanted c2 (yielded ops a.tmps)=true) (cz:c2.dst=N) (iT:(execOp a.eval c2).run P w= .ok (.enter f args) w)
  (h:Calls P f args w fun e af=>∃ v,e= .returned v/\K (a.put N v) af):if Region.wanted c2 (yielded ops a.tmps)=true then Oper.wp P c2 a w K Q else K (a.put N undef) w:=by
 rw [if_pos hw];subst cz;unfold Oper.wp;rw [iT,Oper.upon_enter];refine h.mono fun e Uh c0=> ?_
 obtain ⟨v,rfl,J⟩:=c0;exact J
theorem YL {f:FuncId} {fn:Func} (bb:P.funcs[f]? = some fn) (Fy:(fn.name == "runtime.NumGoroutine")=false) (I:fn.body.isSome=true) (args:Array Value) (w:World):(callFunc f args).run P w= .ok (.enter f args) w:=by
 have h1:fn.name ≠ "runtime.NumGoroutine" :=by simpa using Fy
 obtain ⟨c,ay⟩:=Option.isSome_iff_exists.1 I;simp [callFunc,bb,h1,ay]
theorem QA {c2:Oper} {N:Option Tmp} {a:Act} {w:World} {K:Act->World->Prop} {f:FuncId} {fn:Func} {DT:Array Operand} {dn:Array TypeId} (bb:P.funcs[f]? = some fn) (Fy:(fn.name == "runtime.NumGoroutine")=false) (I:fn.body.isSome=true) (args:Array Value)
  (hw:Region.wanted c2 (yielded ops a.tmps)=true) (cz:c2.dst=N) (yt:c2.op= .call {callee:=.value (.func f),args:=DT,argTypes:=dn}) (vm:DT.map a.eval=args)
  (h:Calls P f args w fun e af=>∃ v,e= .returned v/\K (a.put N v) af):if Region.wanted c2 (yielded ops a.tmps)=true then Oper.wp P c2 a w K Q else K (a.put N undef) w:=by
 refine XN f args hw cz ?_ h;have he:=YL bb Fy I args w;unfold execOp;simp [yt,resolve,Deferred.ofValue,invoke,Act.eval,vm,he]
theorem mV {c2:Oper} {N:Option Tmp} {a:Act} {w w1:World} {v:Value} {K:Act->World->Prop} (hw:Region.wanted c2 (yielded ops a.tmps)=true) (cz:c2.dst=N) (iT:(execOp a.eval c2).run P w= .ok (.value v) w1)
  (h:K (a.put N v) w1):if Region.wanted c2 (yielded ops a.tmps)=true then Oper.wp P c2 a w K Q else K (a.put N undef) w:=by
 rw [if_pos hw];subst cz;unfold Oper.wp;rw [iT];exact h
theorem k0 (n:Int):IntKind.i64.wrap n=Go.RowKit.wrap64 n:=by unfold Go.RowKit.wrap64;exact IntKind.wrap_i64 n
end
section
variable {P:Program} {ops:Array Oper} {Q:Exit->Go.Act->World->Prop} {md:Region.Mode} {S:World->Prop} {ds:List Nat}
theorem kO {id n:Nat} {a:Go.Act} {w:World} (hm:P.follows .mixedOrders=true) (aS:ops.size=n) (dm:S w.drew) (h:S w.drew->fM P .any ops Q S ds n (Array.replicate n false) a w.drew):(Code.region id ops true).wp P Q a w:=HY _ hm aS rfl dm h
theorem Ui {i:Nat} {N:Option Tmp} {c2:Oper} {fuel:Nat} {l:Array Bool} {a:Go.Act} {w:World} (aa:ops[i]? = some c2) (cz:c2.dst=N) (ay:(Region.ready md ops l == [i]) = true) (aO:i ∉ ds)
  (h:∀ K:Go.Act->World->Prop,Shut (∀ a' af,S af->(S af->fM P md ops Q S ds fuel (l.setIfInBounds i true) a' af)->K a' af)->if Region.wanted c2 (yielded ops a.tmps) = true then Oper.wp P c2 a w K Q else K (a.put N undef) w):
  fM P md ops Q S ds (fuel+1) l a w:=KY _ aa cz (by simpa [qp] using ay) aO h
theorem BY {i j:Nat} {Ni Nj:Option Tmp} {c2 kc:Oper} {fuel:Nat} {l:Array Bool} {a:Go.Act} {w:World} (aa:ops[i]? = some c2) (aI:ops[j]? = some kc) (BW:c2.dst=Ni) (Jp:kc.dst=Nj) (ay:(Region.ready md ops l == [i,j]) = true) (Jq:i ∉ ds) (BX:j ∉ ds)
  (h1:∀ K:Go.Act->World->Prop,Shut (∀ a' af,S af->(S af->fM P md ops Q S ds fuel (l.setIfInBounds i true) a' af)->K a' af)->if Region.wanted c2 (yielded ops a.tmps) = true then Oper.wp P c2 a w K Q else K (a.put Ni undef) w)
  (ar:∀ K:Go.Act->World->Prop,Shut (∀ a' af,S af->(S af->fM P md ops Q S ds fuel (l.setIfInBounds j true) a' af)->K a' af)->if Region.wanted kc (yielded ops a.tmps) = true then Oper.wp P kc a w K Q else K (a.put Nj undef) w):
  fM P md ops Q S ds (fuel+1) l a w:=WX _ _ aa aI BW Jp (by simpa using ay) Jq BX h1 ar
end
end Go.Proofs.YteajdhhmkjblnaaGreatDoorW.PrintLast









namespace Go.Proofs.YteajdhhmkjblnaaGreatDoorW.PrintWords
open Go.RowKit
section
variable {P:Program} {ops:Array Oper} {rest:List Oper} {o:Oper} {a:Act} {Q:Exit->Act->World->Prop} {W:World}
theorem jJ {b:Builtin} {xs:Array Operand} {dn:Array TypeId} (_ho:o.op= .call {callee:=.builtin b,args:=xs,argTypes:=dn}) (h:wpList P ops Q (o :: rest) a W):wpList P ops Q (o :: rest) a W:=h
end
end Go.Proofs.YteajdhhmkjblnaaGreatDoorW.PrintWords
