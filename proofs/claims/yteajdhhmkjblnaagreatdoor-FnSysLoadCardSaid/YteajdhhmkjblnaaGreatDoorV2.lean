import Derived.Test.YteajdhhmkjblnaaGreatDoorV1
import Derived.Deep.MidRow
import Derived.StillTail
import Derived.StillTailTactics
set_option maxHeartbeats 8000000
set_option maxRecDepth 100000
set_option linter.unusedVariables false
set_option linter.unusedSimpArgs false
namespace Go.Proofs.YteajdhhmkjblnaaGreatDoor.Eq
open Go.RowKit Go.Proofs.YteajdhhmkjblnaaGreatDoorW.PrintWords Go.Proofs.YteajdhhmkjblnaaGreatDoorW.PrintLast
structure cI where
 cell:Int
 num:Int
 deriving DecidableEq
def gU:cI:=⟨0,0⟩
def cn:Kd cI:=Kd.w9 (Kd.pair (Kd.int .i64) (Kd.int .i64)) (fun x:cI=>(x.cell,x.num))
theorem mZ {w:World} {x:cI} {cs:List Value} (h:cn.K w x cs):cs= [.int .i64 x.cell,.int .i64 x.num]:=by
 obtain ⟨_,_,rfl,rfl,rfl⟩:=h;exact rfl
theorem Mu {w:World} {base:Nat} {ok:Nat->Prop} {x:cI} {cs:List Value} (h:cn.M w base ok x cs):cs= [.int .i64 x.cell,.int .i64 x.num]:=by
 obtain ⟨_,_,rfl,rfl,rfl⟩:=h;exact rfl
theorem xW {w:World} {base:Nat} {ok:Nat->Prop} (x:cI):cn.M w base ok x [.int .i64 x.cell,.int .i64 x.num]:=
 ⟨[.int .i64 x.cell], [.int .i64 x.num],rfl,rfl,rfl⟩
structure Cell where
 num:Int
 time:Int
 lock:Int
 deriving DecidableEq
def lq:Cell:=⟨0,0,0⟩
def iU:Kd Cell:=Kd.w9 (Kd.pair (Kd.int .i64) (Kd.pair (Kd.int .i64) (Kd.int .i64))) (fun x:Cell=>(x.num,x.time,x.lock))
theorem x1 {w:World} {x:Cell} {cs:List Value} (h:iU.K w x cs):cs= [.int .i64 x.num,.int .i64 x.time,.int .i64 x.lock]:=by
 obtain ⟨_,_,rfl,rfl,⟨_,_,rfl,rfl,rfl⟩⟩:=h;exact rfl
theorem Sq {w:World} {base:Nat} {ok:Nat->Prop} {x:Cell} {cs:List Value} (h:iU.M w base ok x cs):cs= [.int .i64 x.num,.int .i64 x.time,.int .i64 x.lock]:=by
 obtain ⟨_,_,rfl,rfl,⟨_,_,rfl,rfl,rfl⟩⟩:=h;exact rfl
theorem Mk {w:World} {base:Nat} {ok:Nat->Prop} (x:Cell):iU.M w base ok x [.int .i64 x.num,.int .i64 x.time,.int .i64 x.lock]:=
 ⟨[.int .i64 x.num], [.int .i64 x.time,.int .i64 x.lock],rfl,rfl,⟨[.int .i64 x.time], [.int .i64 x.lock],rfl,rfl,rfl⟩⟩
structure Task where
 body:Int
 aR:Int
 up:Int
 aL:List Int
 a7:Int
 aE:Int
 at_:Int
 since:Int
 bE:List Int
 reads:List cI
 ai:List cI
 bw:Int
 from_:Int
 deriving DecidableEq
def dS:Task:=⟨0,0,0, [],0,0,0,0, [], [], [],0,0⟩
def eV:Kd Task:=Kd.w9 (Kd.pair (Kd.int .i64) (Kd.pair (Kd.int .i64) (Kd.pair (Kd.int .i64) (Kd.pair (Kd.slice 3 (Kd.int .i64)) (Kd.pair (Kd.int .i64) (Kd.pair (Kd.int .i64) (Kd.pair (Kd.int .i64) (Kd.pair (Kd.int .i64) (Kd.pair (Kd.slice 3 (Kd.int .i64)) (Kd.pair (Kd.slice 52 cn) (Kd.pair (Kd.slice 52 cn) (Kd.pair (Kd.int .i64) (Kd.int .i64))))))))))))) (fun x:Task=>(x.body,x.aR,x.up,x.aL,x.a7,x.aE,x.at_,x.since,x.bE,x.reads,x.ai,x.bw,x.from_))
theorem gh {w:World} {x:Task} {cs:List Value} (h:eV.K w x cs):∃ HZ mW HT A9 xQ xR xK xL,cs= [.int .i64 x.body,.int .i64 x.aR,.int .i64 x.up,.slice HZ x.aL.length mW,.int .i64 x.a7,.int .i64 x.aE,.int .i64 x.at_,.int .i64 x.since,.slice HT x.bE.length A9,.slice xQ x.reads.length xR,.slice xK x.ai.length xL,.int .i64 x.bw,.int .i64 x.from_]/\x.aL.length<=mW/\(Kd.int .i64).C w HZ x.aL.length x.aL/\x.bE.length<=A9/\(Kd.int .i64).C w HT x.bE.length x.bE/\x.reads.length<=xR/\cn.C w xQ x.reads.length x.reads/\x.ai.length<=xL/\cn.C w xK x.ai.length x.ai:=by
 obtain ⟨_,_,rfl,rfl,⟨_,_,rfl,rfl,⟨_,_,rfl,rfl,⟨_,_,rfl,⟨HZ,mW,rfl,Yk,Bh⟩,⟨_,_,rfl,rfl,⟨_,_,rfl,rfl,⟨_,_,rfl,rfl,⟨_,_,rfl,rfl,⟨_,_,rfl,⟨HT,A9,rfl,XO,A'⟩,⟨_,_,rfl,⟨xQ,xR,rfl,LW,vu⟩,⟨_,_,rfl,⟨xK,xL,rfl,LP,vs⟩,⟨_,_,rfl,rfl,rfl⟩⟩⟩⟩⟩⟩⟩⟩⟩⟩⟩⟩:=h;exact ⟨HZ,mW,HT,A9,xQ,xR,xK,xL,rfl,Yk,Bh,XO,A',LW,vu,LP,vs⟩
theorem aac {w:World} {base:Nat} {ok:Nat->Prop} (x:Task) {oE:Value} (Bh:(Kd.int .i64).aC 3 w base ok oE x.aL) {kE:Value} (A':(Kd.int .i64).aC 3 w base ok kE x.bE) {iE:Value} (vu:cn.aC 52 w base ok iE x.reads) {hU:Value} (vs:cn.aC 52 w base ok hU x.ai):eV.M w base ok x [.int .i64 x.body,.int .i64 x.aR,.int .i64 x.up,oE,.int .i64 x.a7,.int .i64 x.aE,.int .i64 x.at_,.int .i64 x.since,kE,iE,hU,.int .i64 x.bw,.int .i64 x.from_]:=
 ⟨[.int .i64 x.body], [.int .i64 x.aR,.int .i64 x.up,oE,.int .i64 x.a7,.int .i64 x.aE,.int .i64 x.at_,.int .i64 x.since,kE,iE,hU,.int .i64 x.bw,.int .i64 x.from_],rfl,rfl,⟨[.int .i64 x.aR], [.int .i64 x.up,oE,.int .i64 x.a7,.int .i64 x.aE,.int .i64 x.at_,.int .i64 x.since,kE,iE,hU,.int .i64 x.bw,.int .i64 x.from_],rfl,rfl,⟨[.int .i64 x.up], [oE,.int .i64 x.a7,.int .i64 x.aE,.int .i64 x.at_,.int .i64 x.since,kE,iE,hU,.int .i64 x.bw,.int .i64 x.from_],rfl,rfl,⟨[oE], [.int .i64 x.a7,.int .i64 x.aE,.int .i64 x.at_,.int .i64 x.since,kE,iE,hU,.int .i64 x.bw,.int .i64 x.from_],rfl,⟨_,rfl,Bh⟩,⟨[.int .i64 x.a7], [.int .i64 x.aE,.int .i64 x.at_,.int .i64 x.since,kE,iE,hU,.int .i64 x.bw,.int .i64 x.from_],rfl,rfl,⟨[.int .i64 x.aE], [.int .i64 x.at_,.int .i64 x.since,kE,iE,hU,.int .i64 x.bw,.int .i64 x.from_],rfl,rfl,⟨[.int .i64 x.at_], [.int .i64 x.since,kE,iE,hU,.int .i64 x.bw,.int .i64 x.from_],rfl,rfl,⟨[.int .i64 x.since], [kE,iE,hU,.int .i64 x.bw,.int .i64 x.from_],rfl,rfl,⟨[kE], [iE,hU,.int .i64 x.bw,.int .i64 x.from_],rfl,⟨_,rfl,A'⟩,⟨[iE], [hU,.int .i64 x.bw,.int .i64 x.from_],rfl,⟨_,rfl,vu⟩,⟨[hU], [.int .i64 x.bw,.int .i64 x.from_],rfl,⟨_,rfl,vs⟩,⟨[.int .i64 x.bw], [.int .i64 x.from_],rfl,rfl,rfl⟩⟩⟩⟩⟩⟩⟩⟩⟩⟩⟩⟩
structure Entry where
 task:Int
 act:Int
 bw:Int
 reads:List cI
 ai:List cI
 from_:Int
 deriving DecidableEq
def sl:Entry:=⟨0,0,0, [], [],0⟩
def hf:Kd Entry:=Kd.w9 (Kd.pair (Kd.int .i64) (Kd.pair (Kd.int .i64) (Kd.pair (Kd.int .i64) (Kd.pair (Kd.slice 52 cn) (Kd.pair (Kd.slice 52 cn) (Kd.int .i64)))))) (fun x:Entry=>(x.task,x.act,x.bw,x.reads,x.ai,x.from_))
theorem Bz {w:World} {x:Entry} {cs:List Value} (h:hf.K w x cs):∃ xQ xR xK xL,cs= [.int .i64 x.task,.int .i64 x.act,.int .i64 x.bw,.slice xQ x.reads.length xR,.slice xK x.ai.length xL,.int .i64 x.from_]/\x.reads.length<=xR/\cn.C w xQ x.reads.length x.reads/\x.ai.length<=xL/\cn.C w xK x.ai.length x.ai:=by
 obtain ⟨_,_,rfl,rfl,⟨_,_,rfl,rfl,⟨_,_,rfl,rfl,⟨_,_,rfl,⟨xQ,xR,rfl,LW,vu⟩,⟨_,_,rfl,⟨xK,xL,rfl,LP,vs⟩,rfl⟩⟩⟩⟩⟩:=h;exact ⟨xQ,xR,xK,xL,rfl,LW,vu,LP,vs⟩
theorem Iv {w:World} {base:Nat} {ok:Nat->Prop} (x:Entry) {iE:Value} (vu:cn.aC 52 w base ok iE x.reads) {hU:Value} (vs:cn.aC 52 w base ok hU x.ai):hf.M w base ok x [.int .i64 x.task,.int .i64 x.act,.int .i64 x.bw,iE,hU,.int .i64 x.from_]:=
 ⟨[.int .i64 x.task], [.int .i64 x.act,.int .i64 x.bw,iE,hU,.int .i64 x.from_],rfl,rfl,⟨[.int .i64 x.act], [.int .i64 x.bw,iE,hU,.int .i64 x.from_],rfl,rfl,⟨[.int .i64 x.bw], [iE,hU,.int .i64 x.from_],rfl,rfl,⟨[iE], [hU,.int .i64 x.from_],rfl,⟨_,rfl,vu⟩,⟨[hU], [.int .i64 x.from_],rfl,⟨_,rfl,vs⟩,rfl⟩⟩⟩⟩⟩
structure Sys where
 cells:List Cell
 tasks:List Task
 clock:Int
 log:List Entry
 deriving DecidableEq
def HJ:Sys:=⟨[], [],0, []⟩
def cS:Kd Sys:=Kd.w9 (Kd.pair (Kd.slice 50 iU) (Kd.pair (Kd.slice 38 eV) (Kd.pair (Kd.int .i64) (Kd.slice 105 hf)))) (fun x:Sys=>(x.cells,x.tasks,x.clock,x.log))
theorem gX {w:World} {x:Sys} {cs:List Value} (h:cS.K w x cs):∃ A_cells c_cells xS xT wa wb,cs= [.slice A_cells x.cells.length c_cells,.slice xS x.tasks.length xT,.int .i64 x.clock,.slice wa x.log.length wb]/\x.cells.length<=c_cells/\iU.C w A_cells x.cells.length x.cells/\x.tasks.length<=xT/\eV.C w xS x.tasks.length x.tasks/\x.log.length<=wb/\hf.C w wa x.log.length x.log:=by
 obtain ⟨_,_,rfl,⟨A_cells,c_cells,rfl,Bm,Bn⟩,⟨_,_,rfl,⟨xS,xT,rfl,LX,LY⟩,⟨_,_,rfl,rfl,⟨wa,wb,rfl,Lv,Lw⟩⟩⟩⟩:=h;exact ⟨A_cells,c_cells,xS,xT,wa,wb,rfl,Bm,Bn,LX,LY,Lv,Lw⟩
theorem Bo {w:World} (x:Sys) {A_cells:Option Addr} {c_cells:Nat} (Bm:x.cells.length<=c_cells) (Bn:iU.C w A_cells x.cells.length x.cells) {xS:Option Addr} {xT:Nat} (LX:x.tasks.length<=xT) (LY:eV.C w xS x.tasks.length x.tasks) {wa:Option Addr} {wb:Nat} (Lv:x.log.length<=wb) (Lw:hf.C w wa x.log.length x.log):cS.K w x [.slice A_cells x.cells.length c_cells,.slice xS x.tasks.length xT,.int .i64 x.clock,.slice wa x.log.length wb]:=
 ⟨[.slice A_cells x.cells.length c_cells], [.slice xS x.tasks.length xT,.int .i64 x.clock,.slice wa x.log.length wb],rfl,⟨_,_,rfl,Bm,Bn⟩,⟨[.slice xS x.tasks.length xT], [.int .i64 x.clock,.slice wa x.log.length wb],rfl,⟨_,_,rfl,LX,LY⟩,⟨[.int .i64 x.clock], [.slice wa x.log.length wb],rfl,rfl,⟨_,_,rfl,Lv,Lw⟩⟩⟩⟩
end Go.Proofs.YteajdhhmkjblnaaGreatDoor.Eq

namespace Go.Proofs.YteajdhhmkjblnaaGreatDoor.Eq
open Go.RowKit Go.Proofs.YteajdhhmkjblnaaGreatDoorW.PrintWords Go.Proofs.YteajdhhmkjblnaaGreatDoorW.PrintLast Go.Proofs.YteajdhhmkjblnaaGreatDoorW.PrintMore
theorem pd {W w1:World} (I:Below W.heap.size W w1):(∀ b o,b < W.heap.size->w1.cell? ⟨b,o,none⟩=W.cell? ⟨b,o,none⟩)/\(∀ b o,b < W.heap.size->w1.frozen? ⟨b,o,none⟩=W.frozen? ⟨b,o,none⟩):=
 ⟨fun b o h=>I.cell (p:=⟨b,o,none⟩) h,fun b o h=>I.frozen (p:=⟨b,o,none⟩) h⟩
theorem hg {a b:Bool} (h:a=b):Ending.returned (.bool a)= .returned (.bool b):=by rw [h]
theorem Zu (cy:Addr) (m j:Nat):(cy.add m).add j=cy.add (m+j):=by
 unfold Addr.add;split <;> split <;> simp_all [Nat.add_assoc]
theorem Q9 {W:World} {cy:Addr} {v:Value} (h:W.cell? cy=some v):cy.spot=none:=by
 unfold World.cell? at h;split at h
 ·split at h
  ·cases h
  ·rename_i hs;simpa using hs
 ·cases h
theorem Zv (cy:Addr) (m:Nat) (h:(cy.add m).spot=none):∀ j,(cy.add (m+j))=⟨(cy.add m).block,(cy.add m).off+j,none⟩:=by
 intro j;rw [<-Zu];generalize cy.add m=x at h ⊢;obtain ⟨b,o,s⟩:=x
 cases s with
 | none=>exact QP b o j
 | some s=>cases h
section
variable {P:Program} {ops:Array Oper} {rest:List Oper} {o:Oper} {a:Act} {Q:Act->Prop}
theorem Dd {W:World} (eO:o.guard=none) (ty:TypeId) (x:Operand) (aT:o.op= .load ty x) (cy:Addr) (m:Nat) (az:a.eval x= .pointer (some (cy.add m))) (cs:List Value) (d:TypeDesc)
  (ay:∀ j u,cs[j]? = some u->W.cell? (cy.add (m+j))=some u) (ak:0 < cs.length) (hu:P.underlying ty=some d) (aO:d.isRow=true) (aa:(P.info? ty).map (·.size)=some cs.length)
  (h:wpStill P ops W Q rest (a.put o.dst (.agg cs.toArray))):wpStill P ops W Q (o :: rest) a:=by
 have aq:=ay 0 _ (List.getElem?_eq_getElem ak);have hs:(cy.add m).spot=none:=Q9 aq;refine wpStill_step (fun K au=> ?_);rw [if_pos (by simp [Region.wanted,eO])]
 have Uj:a.eval x= .pointer (some ⟨(cy.add m).block,(cy.add m).off,none⟩):=by
  rw [az];generalize cy.add m=y at hs ⊢;obtain ⟨b,o,s⟩:=y;cases hs;rfl
 have ao:W.rangeAt (cy.add m).block (cy.add m).off cs:=fun j u aI=>by
  rw [<-Zv cy m hs j];exact ay j u aI
 unfold Oper.still execOp;simp only [aT,Uj,Sem.run_bind,run_loadAt_mid W _ _ ty cs d ao hu aO aa,Result.andThen_ok,Sem.run_pure,Oper.stillUpon_value];exact au _ h
end
theorem dd {α:Type} {d:Kd α} {w:World} {A:Option Addr} {n:Nat} {xs:List α} (h:d.C w A n xs) (z:α) (k:Nat) (J:k < n) (hs:0 < d.bD):
  ∃ b o cs,A=some ⟨b,o,none⟩/\cs.length=d.bD/\d.K w (xs.getD k z) cs/\(∀ j u,cs[j]? = some u->w.cell? ⟨b,o+k*d.bD+j,none⟩=some u)/\(∀ u,cs[0]? = some u->w.cell? ⟨b,o+k*d.bD,none⟩=some u):=by
 obtain ⟨cy,cs,rfl,ak,au,ay⟩:=Kd.y2 h z (k:Int) (by omega) (by omega);obtain ⟨Ua,gN,he,p8,_,kn⟩:=Kd.y2 h z (0:Int) (by omega) (by omega);cases he;simp only [Int.toNat_natCast] at au ay
 have BZ:cy.spot=none:=by
  have aq:=Q9 (kn 0 _ (List.getElem?_eq_getElem (by omega)));unfold Addr.add at aq;simpa using aq
 obtain ⟨b,o,s⟩:=cy;cases BZ
 have key:∀ j u,cs[j]? = some u->w.cell? ⟨b,o+k*d.bD+j,none⟩=some u:=fun j u aI=>by
  have:=ay j u aI
  rwa [QP,<-Nat.add_assoc] at this
 exact ⟨b,o,cs,rfl,ak,au,key,fun u hu=>key 0 u hu⟩
section
variable {P:Program} {ops:Array Oper} {rest:List Oper} {o:Oper} {a:Act} {Q:Exit->Act->World->Prop}
theorem C7 {W:World} (eO:o.guard=none) (cz:o.dst=none) (t:TypeId) (p x:Operand) (aT:o.op= .store t p x) {g:Nat} {bL:Array Value} {e:TypeId} {cs:List Value}
  (aB:a.eval p= .pointer (some ⟨g,0,none⟩)) (az:a.eval x= .agg cs.toArray) (I:W.heap[g]? = some (.cells bL e (0,0))) (ak:cs.length=bL.size) (aa:(P.info? t).map (·.size)=some cs.length) (h1:∀ v ∈ cs,v.oneCell'=true)
  (h:∀ w1,w1.heap[g]? = some (.cells cs.toArray e (0,0))->W.grownBy w1 (some g)->wpList P ops Q rest a w1):wpList P ops Q (o :: rest) a W:=by
 refine wpList_store_mid eO t p x aT g 0 cs.toArray aB az (fun j aI=> ?_) (by simpa using aa) (all_oneCell_toArray h1) ?_
 ·rw [Nat.zero_add,F2 I j,iX I j]
  simp at aI;simp [Array.getElem?_eq_getElem (show j < bL.size by omega)]
 ·obtain ⟨cur,ay,cP,AS⟩:=zm cs 0 W bL I (by omega)
  obtain ⟨s1,s2,ec,gx⟩:=pV g cs 0 W
  have b1:cur=cs.toArray:=by
   apply Array.toList_inj.1;rw [AS,List.take_zero,List.nil_append,List.drop_eq_nil_of_le (by simp;omega),List.append_nil]
  subst b1;simp only [cz,Act.put];exact h _ ay ⟨s1,s2,ec,by rw [gx];exact Nat.le_refl _,fun i aa cm=>pn cs 0 i (fun he=>cm (by rw [he]))⟩
theorem aaF {W:World} (eO:o.guard=none) (t:TypeId) (x:Operand) (aT:o.op= .load t x) {g:Nat} {e:TypeId} {cs:List Value} (d:TypeDesc)
  (az:a.eval x= .pointer (some ⟨g,0,none⟩)) (I:W.heap[g]? = some (.cells cs.toArray e (0,0))) (hu:P.underlying t=some d) (aO:d.isRow=true) (aa:(P.info? t).map (·.size)=some cs.length)
  (h:wpList P ops Q rest (a.put o.dst (.agg cs.toArray)) W):wpList P ops Q (o :: rest) a W:=
 wpList_load_mid eO t x aT g 0 az cs d (fun j u aI=>by rw [Nat.zero_add,F2 I j];simpa using aI) hu aO aa h
end
end Go.Proofs.YteajdhhmkjblnaaGreatDoor.Eq
namespace Go.Proofs.YteajdhhmkjblnaaGreatDoorW.PrintWords
open Go.RowKit
theorem fR {W:World} {g T:Nat} {cs:List Value} (h:W.heap[g]? = some (.cells cs.toArray T (0,0))):W.rangeAt g 0 cs:=fun j u hu=>by rw [Nat.zero_add];exact (F2 h j).trans (List.getElem?_toArray.trans hu)
theorem bf {w:World} {g:Nat} {t:TypeId} {cs:Array Value} (h:w.heap[g]? = some (.cells cs t (0,0))) (i:Nat):w.cell? ⟨g,i,none⟩=cs[i]? := F2 h i
theorem fS {w af:World} {g:Nat} {o:Obj} (h:w.heap[g]? = some o) (I:Below w.heap.size w af):af.heap[g]? = some o:=RK h I
end Go.Proofs.YteajdhhmkjblnaaGreatDoorW.PrintWords



namespace Go.Proofs.YteajdhhmkjblnaaGreatDoor.Eq
open Go.RowKit Go.Proofs.YteajdhhmkjblnaaGreatDoorW.PrintWords Go.Proofs.YteajdhhmkjblnaaGreatDoorW.PrintLast Go.Proofs.YteajdhhmkjblnaaGreatDoorW.PrintMore
theorem F9 {α:Type} (xs cH:List α) (ak:xs.length=cH.length) (h:∀ j,j < xs.length->xs[j]? = cH[j]?):xs=cH:=by
 apply List.ext_getElem?;intro j;by_cases aI:j < xs.length
 ·exact h j aI
 ·rw [List.getElem?_eq_none (by omega),List.getElem?_eq_none (by omega)]
theorem Gg {α:Type} {xs cH:List α} {k:Nat} {z:α} (H:∀ j,j < k->xs[j]? = cH[j]?) (h1:k < xs.length) (ar:k < cH.length) (he:xs.getD k z=cH.getD k z) {j:Nat} (aI:j < k+1):xs[j]? = cH[j]? :=by
 by_cases h:j < k
 ·exact H j h
 ·obtain rfl:j=k:=by omega
  simp only [List.getD_eq_getElem?_getD] at he;rw [List.getElem?_eq_getElem (by omega),List.getElem?_eq_getElem (by omega)] at he ⊢;simpa using he
theorem YM (x y:cI):x=y ↔ x.cell=y.cell/\x.num=y.num:=by cases x;cases y;simp
theorem Zw (x y:Cell):x=y ↔ x.num=y.num/\x.time=y.time/\x.lock=y.lock:=by cases x;cases y;simp
theorem ry (x y:Task):x=y ↔ x.body=y.body/\x.aR=y.aR/\x.up=y.up/\x.aL=y.aL/\x.a7=y.a7/\x.aE=y.aE/\x.at_=y.at_/\x.since=y.since/\x.bE=y.bE/\x.reads=y.reads/\x.ai=y.ai/\x.bw=y.bw/\x.from_=y.from_:=by cases x;cases y;simp
theorem Bv (x y:Entry):x=y ↔ x.task=y.task/\x.act=y.act/\x.bw=y.bw/\x.reads=y.reads/\x.ai=y.ai/\x.from_=y.from_:=by cases x;cases y;simp
theorem YN (x y:Sys):x=y ↔ x.cells=y.cells/\x.tasks=y.tasks/\x.clock=y.clock/\x.log=y.log:=by cases x;cases y;simp
def lO (p:Nat->Bool) (k:Nat):List Int:=((List.range k).filter p).map fun (i:Nat)=>(i:Int)
theorem Iw {p:Nat->Bool} {k:Nat} (h:p k=true):lO p (k+1)=lO p k ++ [(k:Int)]:=by
 simp [lO,List.range_succ,List.filter_append,h]
theorem F' {p:Nat->Bool} {k:Nat} (h:p k=false):lO p (k+1)=lO p k:=by
 simp [lO,List.range_succ,List.filter_append,h]
theorem C' (p:Nat->Bool) (k:Nat):(lO p k).length<=k:=by
 simp only [lO,List.length_map];exact Nat.le_trans (List.length_filter_le _ _) (by simp)
def aD (dn:List Task) (i:Nat):Task:=dn.getD i dS
def n9 (dn:List Task) (task:Int) (i:Nat):Bool:=decide (0<=task) && decide ((aD dn i).up=task) && decide (task < (i:Int))
def kids (dn:List Task) (task:Int):List Int:=lO (n9 dn task) dn.length
def isLive (t:Task):Bool:=decide (t.a7=0) || decide (t.a7=1)
theorem Sr {p:Nat->Bool} {k:Nat} (h:∀ i,i < k->p i=false):lO p k= []:=by
 induction k with
 | zero=>rfl
 | succ k fI=>rw [F' (h k (by omega)),fI (fun i aa=>h i (by omega))]
theorem Zx {dn:List Task} {task:Int} (h:¬ (0<=task/\task < dn.length)):kids dn task= []:=by
 refine Sr (fun i aa=> ?_);unfold n9;by_cases aq:0<=task
 ·have:¬ task < (i:Int):=by omega
  simp [this]
 ·simp [aq]
theorem od:(Tryz.prog.info? 3).map (fun i=>(i.zero,i.size,i.bytes))=some (some (.int .i64 0),1,8):=by kernel_rfl
theorem lP (a n:Int) (w:World):Calls Tryz.prog 101 #[.int .i64 a,.int .i64 n] w fun e af=>e= .returned (.bool (decide (0<=a) && decide (a < n)))/\w=af:=by
 by_cases h:0<=a
 ·have I:decide (0<=a)=true:=decide_eq_true h
  go_enter Tryz.func101,Tryz.ntmps101;go_wp2;go_ret;exact ⟨by simp [h],rfl⟩
 ·have I:decide (0<=a)=false:=decide_eq_false h
  go_enter Tryz.func101,Tryz.ntmps101;go_wp2;go_ret;exact ⟨by simp [h],rfl⟩
theorem fm (a l h:Int) (w:World):Calls Tryz.prog 48 #[.int .i64 a,.int .i64 l,.int .i64 h] w fun e af=>e= .returned (.bool (decide (l<=a) && decide (a<=h)))/\w=af:=by
 by_cases aq:l<=a
 ·have I:decide (l<=a)=true:=decide_eq_true aq
  go_enter Tryz.func48,Tryz.ntmps48;go_wp2;go_ret;exact ⟨by simp [aq],rfl⟩
 ·have I:decide (l<=a)=false:=decide_eq_false aq
  go_enter Tryz.func48,Tryz.ntmps48;go_wp2;go_ret;exact ⟨by simp [aq],rfl⟩
theorem Gh (x:Task) (cs:List Value) (w:World) (az:eV.K w x cs):
  Calls Tryz.prog 45 #[.agg cs.toArray] w fun e af=>e= .returned (.bool (isLive x))/\Below w.heap.size w af:=by
 obtain ⟨cU,bO,gy,e1,ev,dp,e6,dL,rfl,gz,dj,og,fy,h0,hh,ko,fi⟩:=gh az;clear gz dj og fy h0 hh ko fi az;by_cases h:x.a7=0
 ·have I:(x.a7 == 0)=true:=by simp [h]
  have H:=am h;clear h;go_enter Tryz.func45,Tryz.ntmps45;go_wp2;go_ret;exact ⟨hg (by simp [isLive,H.1]),mz (Below.refl _ _) _⟩
 ·have I:(x.a7 == 0)=false:=by simp [h]
  have H:=am h;clear h;go_enter Tryz.func45,Tryz.ntmps45;go_wp2;go_ret;exact ⟨hg (by simp only [isLive,decide_eq_false H.1,Bool.false_or];rw [Bool.eq_iff_iff];simp),mz (Below.refl _ _) _⟩
end Go.Proofs.YteajdhhmkjblnaaGreatDoor.Eq

namespace Go.Proofs.YteajdhhmkjblnaaGreatDoor.Eq
open Go.RowKit Go.Proofs.YteajdhhmkjblnaaGreatDoorW.PrintWords Go.Proofs.YteajdhhmkjblnaaGreatDoorW.PrintLast Go.Proofs.YteajdhhmkjblnaaGreatDoorW.PrintMore
theorem IH (s:Sys) (cs:List Value) (task:Int) (w:World) (az:cS.K w s cs) (aS:s.tasks.length<=1048576):
  Calls Tryz.prog 111 #[.agg cs.toArray,.int .i64 task] w fun e af=>∃ v,e= .returned v/\(Kd.int .i64).aC 3 af w.heap.size (fun _=>True) v (kids s.tasks task)/\Below w.heap.size w af:=by
 obtain ⟨cX,bL,dX,cu,cU,bO,rfl,g9,fz,fU,db,gz,dj⟩:=gX az;have G:=am db;clear fz db dj g9 fU gz az;go_enter Tryz.func111,Tryz.ntmps111;by_cases aB:0<=task/\task < s.tasks.length
 ·obtain ⟨m,rfl⟩:=Int.eq_ofNat_of_zero_le aB.1
  have hm:m < s.tasks.length:=by omega
  have kd:=am (show (decide (0<=(m:Int)) && decide ((m:Int) < (s.tasks.length:Int)))=true by simp;omega);clear aB;go_wp2_with (first|((with_reducible refine Rp (N:=2) rfl ?_);refine Ip rfl (N:=2) rfl (t:=31) (by go_simp<;>rfl) ?_;intro g U b' ad I;have dN:=am ad;have ab:=am I;have GE:=am (show w.heap.size<=g by omega);clear ad I U;have ay:=bf dN.1)|(go_at_call 101;refine (lP _ _ _).mono ?_;rw [kd.1];rintro e w1 ⟨rfl,rfl⟩))
  go_loopw [5,6] (fun v i af=>∃ k:Nat,m+1<=k/\k<=s.tasks.length/\i= .int .i64 k/\av ((Kd.int .i64).aC 3 af w.heap.size (fun _=>True) v (lO (n9 s.tasks m) k))/\av (af.heap[g]? = some (.cells #[.slice cX s.cells.length bL,.slice dX s.tasks.length cu,.int .i64 s.clock,.slice cU s.log.length bO] 31 (0,0)))/\av (Below w.heap.size w af)) (fun _ i _=>s.tasks.length - (intOf i).toNat)
  case atStart=>exact ⟨m+1,Nat.le_refl _,hm,by go_num,⟨by rw [Sr (fun i aa=>by unfold n9;have:¬ (m:Int) < (i:Int):=(by omega);simp [this])];exact Kd.ht _ _ _ _ _⟩,dN,ab⟩
  case round=>
   clear dN ab ay;obtain ⟨k,acM,J,rfl,eB,dN,ab⟩:=hrel;have hlen:=C' (n9 s.tasks m) k;by_cases aJ:k < s.tasks.length
   · skip
     have aN:=bf dN.1;obtain ⟨b,o,cs,rfl,bQ,au,aM,iu⟩:=dd (Kd.bW G.1 ab.1) dS k aJ (by decide);rw [show s.tasks.getD k dS=aD s.tasks k from rfl] at au;obtain ⟨hB,d3,iZ,d8,gY,d9,gd,d10,rfl,_,_,_,_,_,_,_,_⟩:=gh au;have KZ:=aM 2 _ rfl;simp only [show eV.bD=13 from rfl] at KZ;clear aM iu au bQ;have bz:(0:Int)<=(k:Int):=by omega
     have b7:(k:Int) < (s.tasks.length:Int):=by omega
     by_cases aW:(aD s.tasks k).up=(m:Int)
     ·have cg:((aD s.tasks k).up == (m:Int))=true:=by simp [aW]
      have fJ:=am (show n9 s.tasks m k=true by simp [n9,aW];omega);clear aW;go_wp2_with (first|((with_reducible refine jJ (b:=.append) (xs:=#[.tmp 30,.tmp 32]) rfl ?_);at_builtin;refine Kd.mY (Kd.int .i64) (w0:=w) w.heap.size rfl (.tmp 30) (.tmp 32) 23 3 (.int .i64 0) 8 rfl Tryz.underlying23 od rfl (by decide) (by omega) _ (lO (n9 s.tasks m) k) (k:Int) [.int .i64 (k:Int)] (fun _=>True) (fun _=>False) rfl rfl rfl (fun _ J=>J.elim) (fun _ _=>trivial) eB.1 ab.1 (tn ab.1) (by omega) ?_;intro v1 w1 aT I U _;have Uk:=am (eQ dN.1 U (Kd.rf eB.1 dN.1 (by decide)));have sP:=am aT;have gH:=am I;clear aT I U eB ab dN))
      go_roundw
      case rel=>exact ⟨k+1,by omega,by omega,by go_num,⟨by rw [Iw fJ.1];exact sP.1⟩,Uk,gH⟩
      case measure=>simp [intOf];omega
     ·have cg:((aD s.tasks k).up == (m:Int))=false:=by simp [aW]
      have fJ:=am (show n9 s.tasks m k=false by simp [n9,aW]);clear aW;go_wp2;go_roundw
      case rel=>exact ⟨k+1,by omega,by omega,by go_num,⟨by rw [F' fJ.1];exact eB.1⟩,dN,ab⟩
      case measure=>simp [intOf];omega
   ·have aN:=bf dN.1
    go_wp2;go_ret;obtain rfl:k=s.tasks.length:=by omega
    exact ⟨_,rfl,eB.1,ab.1⟩
 ·have kd:=am (show (decide (0<=task) && decide (task < (s.tasks.length:Int)))=false by simp;omega)
  have eD:=am (Zx aB);clear aB;go_wp2_with (first|((with_reducible refine Rp (N:=2) rfl ?_);refine Ip rfl (N:=2) rfl (t:=31) (by go_simp<;>rfl) ?_;intro g U b' ad I;have dN:=am ad;have ab:=am I;have GE:=am (show w.heap.size<=g by omega);clear ad I U;have ay:=bf dN.1)|(go_at_call 101;refine (lP _ _ _).mono ?_;rw [kd.1];rintro e w1 ⟨rfl,rfl⟩))
  go_ret;exact ⟨_,rfl,by rw [eD.1];exact Kd.ht _ _ _ _ _,ab.1⟩
end Go.Proofs.YteajdhhmkjblnaaGreatDoor.Eq

namespace Go.Proofs.YteajdhhmkjblnaaGreatDoor.Eq
open Go.RowKit Go.Proofs.YteajdhhmkjblnaaGreatDoorW.PrintWords Go.Proofs.YteajdhhmkjblnaaGreatDoorW.PrintLast Go.Proofs.YteajdhhmkjblnaaGreatDoorW.PrintMore
theorem su (xs cH:List Int) (A B:Option Addr) (c d:Nat) (w:World) (az:(Kd.int .i64).C w A xs.length xs) (aW:(Kd.int .i64).C w B cH.length cH):
  Calls Tryz.prog 23 #[.slice A xs.length c,.slice B cH.length d] w fun e af=>e= .returned (.bool (decide (xs=cH)))/\vr w af:=by
 have ew:=am az;have fJ:=am aW;have hm:=Kd.Fx az;clear az aW;by_cases ak:xs.length=cH.length
 ·have h4:((xs.length:Int) != (cH.length:Int))=false:=by rw [ak];simp
  have dq:=am ak;clear ak;go_enter Tryz.func23,Tryz.ntmps23;go_wp2;have ov:=am h4;clear h4;go_loopw [5] (fun v af=>∃ k:Nat,k<=xs.length/\v= .int .i64 k/\av (∀ j,j < k->xs[j]? = cH[j]?)/\vr w af) (fun v _=>xs.length - (intOf v).toNat)
  case atStart=>exact ⟨0,Nat.zero_le _,rfl,⟨fun j aI=>by omega⟩,vr.refl _⟩
  case round=>
   obtain ⟨k,J,rfl,du,ag⟩:=hrel;obtain ⟨n,rfl⟩:=ag.1;clear ag;by_cases aJ:k < xs.length
   ·have n6:k < cH.length:=by rw [<-dq.1];exact aJ
    have aq:(0:Int)<=(k:Int):=by omega
    have h1:(k:Int) < (xs.length:Int):=by omega
    have ar:(k:Int) < (cH.length:Int):=by omega
    obtain ⟨qI,rfl,cL⟩:=Kd.kG ew.1 (k:Int) (by omega) h1;obtain ⟨BI,rfl,hL⟩:=Kd.kG fJ.1 (k:Int) (by omega) ar;simp only [Int.toNat_natCast] at cL hL;by_cases he:rd xs k=rd cH k
    ·have Jr:(rd xs k != rd cH k)=false:=by simp [he]
     have bS:=am he;clear he;go_wp2;go_quiet (fail);go_wp2;go_roundw
     case rel=>exact ⟨k+1,by omega,by go_num,⟨fun j aI=>Gg du.1 aJ n6 bS.1 aI⟩,⟨⟨_,rfl⟩⟩⟩
     case measure=>simp [intOf];omega
    ·have Jr:(rd xs k != rd cH k)=true:=by simp [he]
     have bS:=am he;clear he;go_wp2;go_quiet (fail);go_wp2;go_ret;exact ⟨hg (decide_eq_false (fun h=>bS.1 (by rw [h]))).symm,vr.step ⟨⟨n,rfl⟩⟩ _⟩
   ·go_wp2
    go_ret;exact ⟨hg (decide_eq_true (F9 xs cH dq.1 (fun j aI=>du.1 j (by omega)))).symm,⟨⟨n,rfl⟩⟩⟩
 ·have h4:((xs.length:Int) != (cH.length:Int))=true:=by simp;omega
  have Nw:(xs.length != cH.length)=true:=by simp;omega
  have Nx:(xs.length == cH.length)=false:=by simp;omega
  have dq:=am ak;clear ak;go_enter Tryz.func23,Tryz.ntmps23;go_wp2;go_ret;exact ⟨hg (decide_eq_false (fun h=>dq.1 (by rw [h]))).symm,vr.refl _⟩
section
variable {P:Program} {ops:Array Oper} {Q:Exit->Go.Act->World->Prop} {md:Region.Mode} {S:World->Prop} {ds:List Nat}
def jx (P:Program) (ops:Array Oper) (S:World->Prop):List Nat->(Go.Act->Prop)->Go.Act->Prop
 | [],K,a=>K a
 | i :: is,K,a=>∃ c2 v,ops[i]? = some c2/\YieldsIf P ops S c2 v a/\jx P ops S is K (a.put c2.dst v)
theorem Gl {i:Nat} {is:List Nat} {K:Go.Act->Prop} {a:Go.Act} {v:Value} {N:Option Tmp} {op:Op} {ty:TypeId} {bK:String} {e2:Array Edge} {cQ:Option (Nat × Bool)} (aa:ops[i]? = some {dst:=N,op:=op,type:=ty,pos:=bK,after:=e2,guard:=cQ})
  (aW:YieldsIf P ops S {dst:=N,op:=op,type:=ty,pos:=bK,after:=e2,guard:=cQ} v a) {a':Go.Act} (ha:a.put N v=a') (h:jx P ops S is K a'):jx P ops S (i :: is) K a:=by
 subst ha;exact ⟨_,v,aa,aW,h⟩
theorem bN {K:Go.Act->Prop} {a:Go.Act} (h:K a):jx P ops S [] K a:=h
def lu (l:Array Bool):List Nat->Array Bool
 | []=>l
 | i :: is=>lu (l.setIfInBounds i true) is
def xM (md:Region.Mode) (ops:Array Oper) (ds:List Nat) (l:Array Bool):List Nat->Bool
 | []=>true
 | i :: is=>Lu md ops ds l (l.setIfInBounds i true) i && xM md ops ds (l.setIfInBounds i true) is
theorem F3 {w:World} (mC:∀ N v c a w,Q (.panic c) (Go.Act.put a N v) w->Q (.panic c) a w) (dm:S w) {l':Array Bool} {fuel:Nat}:∀ (is:List Nat) (l:Array Bool) (a:Go.Act),xM md ops ds l is=true->lu l is=l'->
  jx P ops S is (fun a'=>fM P md ops Q S ds fuel l' a' w) a->fM P md ops Q S ds (fuel+is.length) l a w
 | [],l,a,_,ak,h=>by
  subst ak
  exact h
 | i :: is,l,a,dt,ak,h=>by
  obtain ⟨c2,v,aa,aW,h⟩:=h;simp only [xM,Bool.and_eq_true] at dt;exact Ls (l.setIfInBounds i true) aa rfl dt.1 (fun c a w=>mC _ _ c a w) aW dm rfl (F3 mC dm is _ _ dt.2 ak h)
theorem Yl {w:World} {fuel n:Nat} {l:Array Bool} {a:Go.Act} (is:List Nat) (l':Array Bool) (ay:(xM md ops ds l is && (lu l is == l') && (is.length == n))=true) (mC:∀ N v c a w,Q (.panic c) (Go.Act.put a N v) w->Q (.panic c) a w) (dm:S w)
  (h:jx P ops S is (fun a'=>fM P md ops Q S ds fuel l' a' w) a):fM P md ops Q S ds (fuel+n) l a w:=by
 simp only [Bool.and_eq_true,beq_iff_eq] at ay;obtain ⟨⟨h1,ar⟩,aA⟩:=ay;subst aA;exact F3 mC dm is l a h1 ar h
theorem Ss:∀ (l:List Oper) (k:Nat) (listed:Array Bool) (a:Go.Act) (w:World),(∀ j,l[j]? = ops[k+j]?)->(∀ j,j < l.length->k+j ∈ ds)->
  Region.seqB md ops l.length k listed=true->wpList P ops Q l a w->fM P md ops Q S ds l.length listed a w
 | [],_,_,_,_,_,_,dt,h=>⟨by simpa [Region.seqB] using dt,h⟩
 | o :: l,k,listed,a,w,ak,aO,dt,h=>by
  have aq:ops[k]? = some o:=by simpa using (ak 0).symm
  simp only [List.length_cons,Region.seqB,Bool.and_eq_true,decide_eq_true_eq] at dt;refine ⟨fun h1=>(by rw [dt.1] at h1;cases h1),fun i aa=> ?_⟩;rw [dt.1] at aa;have j6:i=k:=by simpa using aa
  subst j6;have hw:wpOp P ops Q i (wpList P ops Q l) a w:=by unfold wpOp;simp only [aq];exact h
  exact wpOp_mono (fun a' af ct=>⟨fun aS=>absurd (aO 0 (by simp)) aS,Ss l (i+1) _ a' af (fun j=>by have:=ak (j+1);simpa [Nat.add_assoc,Nat.add_comm 1 j] using this)
   (fun j aI=>by have:=aO (j+1) (by simp;omega);simpa [Nat.add_assoc,Nat.add_comm 1 j] using this) dt.2 ct⟩) hw
theorem lM {fuel:Nat} {l:List Oper} {listed:Array Bool} {a:Go.Act} {w:World} (n:Nat) (ay:(Region.seqB md l.toArray fuel n listed && (l.length - n == fuel) && (List.range fuel).all fun j=>ds.contains (n+j))=true)
  (h:wpList P l.toArray Q (l.drop n) a w):fM P md l.toArray Q S ds fuel listed a w:=by
 simp only [Bool.and_eq_true,beq_iff_eq,List.all_eq_true,List.mem_range] at ay;obtain ⟨⟨h1,ar⟩,aA⟩:=ay;have hlen:(l.drop n).length=fuel:=by rw [List.length_drop];exact ar
 have:=Ss (S:=S) (ds:=ds) (l.drop n) n listed a w (fun j=>by simp [List.getElem?_drop]) (fun j aI=>by have:=aA j (by omega);simpa using this) (by rw [hlen];exact h1) h
 rwa [hlen] at this
end
section
variable {P:Program} {ops:Array Oper} {Q:Exit->Go.Act->World->Prop} {md:Region.Mode} {S:World->Prop} {ds:List Nat}
theorem Ul {w:World} {fuel n:Nat} {l:Array Bool} {a:Go.Act} (is:List Nat) (ay:(xM md ops ds l is && (is.length == n)) = true) (mC:∀ N v c a w,Q (.panic c) (Go.Act.put a N v) w->Q (.panic c) a w) (dm:S w)
  (h:jx P ops S is (fun a'=>fM P md ops Q S ds fuel (lu l is) a' w) a):fM P md ops Q S ds (fuel+n) l a w:=Yl is _ (by simpa [and_assoc] using ay) mC dm h
end
section
variable {P:Program} {ops:Array Oper} {rest:List Oper} {o:Oper} {a:Go.Act} {Q:Exit->Go.Act->World->Prop} {W:World}
theorem aQ (N:Tmp) (h:wpList P ops Q (o :: rest) a W) (_hN:o.dst=some N:=by exact rfl):wpList P ops Q (o :: rest) a W:=h
theorem bT (t:TypeId) (p:Tmp) {v:Operand} (h:wpList P ops Q (o :: rest) a W) (_ho:o.op= .store t (.tmp p) v:=by exact rfl):wpList P ops Q (o :: rest) a W:=h
theorem b6 (t:TypeId) {cs:Array Value} (h:∀ g,g=W.heap.size->∀ w1,w1.heap[g]? = some (.cells cs t (0,0))->Below W.heap.size W w1->wpList P ops Q rest (a.put o.dst (.pointer (some ⟨g,0,none⟩))) w1) (eO:o.guard=none:=by rfl)
  (iT:(execOp a.eval o).run P W= .ok (.value (.pointer (some ⟨W.heap.size,0,none⟩))) (W.alloc (.cells cs t (0,0))):=by go_simp<;>rfl):wpList P ops Q (o :: rest) a W:=
 Kd.C1 eO iT (h _ rfl _ (y9 W _) (mz (Below.refl _ _) _))
theorem hy (t:TypeId) {cs:Array Value} (h:∀ g w1,av (w1.heap[g]? = some (.cells cs t (0,0)))->av (g=W.heap.size)->av (Below W.heap.size W w1)->wpList P ops Q rest (a.put o.dst (.pointer (some ⟨g,0,none⟩))) w1) (eO:o.guard=none:=by rfl)
  (iT:(execOp a.eval o).run P W= .ok (.value (.pointer (some ⟨W.heap.size,0,none⟩))) (W.alloc (.cells cs t (0,0))):=by go_simp<;>rfl):wpList P ops Q (o :: rest) a W:=
 b6 t (fun g h1 w1 ar aA=>h g w1 ⟨ar⟩ ⟨h1⟩ ⟨aA⟩) eO iT
theorem dG {t e:TypeId} {p x:Operand} {g:Nat} {bL:Array Value} {cs:List Value} (aq:av (W.heap[g]? = some (.cells bL e (0,0)))) (h:∀ w1,w1.heap[g]? = some (.cells cs.toArray e (0,0))->W.grownBy w1 (some g)->wpList P ops Q rest a w1)
  (aT:o.op= .store t p x:=by exact rfl) (aB:a.eval p= .pointer (some ⟨g,0,none⟩):=by exact rfl) (az:a.eval x= .agg cs.toArray:=by exact rfl) (ak:cs.length=bL.size:=by exact rfl) (aa:(P.info? t).map (·.size)=some cs.length:=by kernel_rfl) (h1:cs.all (fun v=>v.oneCell')=true:=by exact rfl)
  (eO:o.guard=none:=by exact rfl) (cz:o.dst=none:=by exact rfl):wpList P ops Q (o :: rest) a W:=C7 eO cz t p x aT aB az aq.out ak aa (oI h1) h
theorem c4 {t:TypeId} {x:Operand} (b q:Nat) {cs:List Value} (ay:W.rangeAt b q cs) (h:wpList P ops Q rest (a.put o.dst (.agg cs.toArray)) W)
  (aT:o.op= .load t x:=by exact rfl) (az:a.eval x= .pointer (some ⟨b,q,none⟩):=by exact rfl) (eO:o.guard=none:=by exact rfl)
  (hu:(match P.underlying t with | some d=>d.isRow && ((P.info? t).map (·.size) == some cs.length) | none=>false) = true:=by kernel_rfl):wpList P ops Q (o :: rest) a W:=by
 cases aB:P.underlying t with
 | none=>rw [aB] at hu;cases hu
 | some d=>
  rw [aB] at hu;simp only [Bool.and_eq_true,beq_iff_eq] at hu
  exact wpList_load_mid eO t x aT b q az cs d ay aB hu.1 hu.2 h
theorem fq {w W bM:World} {g:Nat} (h:av (Below w.heap.size w W)) (e:av (g=w.heap.size)) (U:W.grownBy bM (some g)):Below w.heap.size w bM:=mA h.out _ h.out.size U (fun z aX=>by cases aX;exact Nat.le_of_eq e.out.symm)
theorem fv {fn:Func} {aC:Ending->World->Prop} {a:Go.Act} {w:World} (df:aC (.returned (.tuple #[])) w) (h:fn.results= #[]:=by exact rfl) (aO:a.defers=[]:=by exact rfl):bodyPost P fn aC .normal a w:=bodyPost_end (results_none h _ _ _) aO df
theorem o6 {fn:Func} {aC:Ending->World->Prop} {a:Go.Act} {w:World} (df:aC (.returned (.tuple #[])) w) (h:fn.results= #[]:=by exact rfl) (aO:a.defers=[]:=by exact rfl):bodyPost P fn aC .ret a w:=bodyPost_ret (results_none h _ _ _) aO df
theorem aV {w af:World} {g:Nat} {o:Obj} (h:av (w.heap[g]? = some o)) (I:Below w.heap.size w af):av (af.heap[g]? = some o):=⟨RK h.out I⟩
theorem c9 {α:Type} {d:Kd α} {e base:Nat} {w af:World} {ok:Nat->Prop} {v:Value} {xs:List α} (h:av (d.aC e w base ok v xs)) (I:Below w.heap.size w af):av (d.aC e af base ok v xs):=⟨Kd.kv h.out I⟩
theorem ks {α:Type} {d:Kd α} {w af:World} {A:Option Addr} {n:Nat} {xs:List α} (h:av (d.C w A n xs)) (I:Below w.heap.size w af):av (d.C af A n xs):=⟨Kd.bW h.out I⟩
theorem cf {w0 w af:World} (h:av (Below w0.heap.size w0 w)) (I:Below w.heap.size w af):av (Below w0.heap.size w0 af):=⟨fb h.out I⟩
theorem ae {w:World} {g:Nat} {t:TypeId} {cs:Array Value} (h:av (w.heap[g]? = some (.cells cs t (0,0)))) (i:Nat):w.cell? ⟨g,i,none⟩=cs[i]? := F2 h.out i
theorem fV {w af:World} {g k:Nat} {o:Obj} (h:av (w.heap[k]? = some o)) (U:w.grownBy af (some g)) (aS:k ≠ g):av (af.heap[k]? = some o):=⟨eQ h.out U (fun he=>aS (by injection he))⟩
variable {S:World->Prop} {ds:List Nat} {md:Region.Mode}
theorem e8 {fuel:Nat} {l:Array Bool} {a a':Go.Act} {w:World} (h:fM P md ops Q S ds fuel l a' w) (ha:a=a':=by simp only [Act.put,nL,nM,nN,k0];rfl):fM P md ops Q S ds fuel l a w:=Qz ha h
theorem hR {i:Nat} {is:List Nat} {K:Go.Act->Prop} {a a':Go.Act} {v:Value} {N:Option Tmp} {op:Op} {ty:TypeId} {bK:String} {e2:Array Edge} {cQ:Option (Nat × Bool)} (aa:ops[i]? = some {dst:=N,op:=op,type:=ty,pos:=bK,after:=e2,guard:=cQ})
  (ao:∀ W,S W->(execOp a.eval {dst:=N,op:=op,type:=ty,pos:=bK,after:=e2,guard:=cQ}).run P W= .ok (.value v) W) (h:jx P ops S is K a')
  (hw:Region.wanted {dst:=N,op:=op,type:=ty,pos:=bK,after:=e2,guard:=cQ} (yielded ops a.tmps) = true:=by rfl) (ha:a.put N v=a':=by simp only [Act.put,nL,nM,nN,k0];rfl):jx P ops S (i :: is) K a:=Gl aa (Or.inl ⟨hw,ao⟩) ha h
theorem fs (i:Nat) (N:Option Tmp) {c2:Oper} {fuel:Nat} {l:Array Bool} {a:Go.Act} {w:World}
  (h:∀ K:Go.Act->World->Prop,Shut (∀ a' af,S af->(S af->fM P md ops Q S ds fuel (l.setIfInBounds i true) a' af)->K a' af)->if Region.wanted c2 (yielded ops a.tmps) = true then Oper.wp P c2 a w K Q else K (a.put N undef) w)
  (aa:ops[i]? = some c2:=by exact rfl) (cz:c2.dst=N:=by exact rfl) (ay:(Region.ready md ops l == [i]) = true:=by kernel_rfl) (aO:i ∉ ds:=by decide):fM P md ops Q S ds (fuel+1) l a w:=Ui aa cz ay aO h
theorem kW {c2:Oper} {N:Option Tmp} {a:Go.Act} {w:World} {K:Go.Act->World->Prop} {f:FuncId} {fn:Func} {DT:Array Operand} {dn:Array TypeId} (bb:P.funcs[f]? = some fn) (args:Array Value)
  (h:Calls P f args w fun e af=>∃ v,e= .returned v/\K (a.put N v) af) (Fy:(fn.name == "runtime.NumGoroutine")=false:=by kernel_rfl) (I:fn.body.isSome=true:=by exact rfl)
  (hw:Region.wanted c2 (yielded ops a.tmps)=true:=by rfl) (cz:c2.dst=N:=by exact rfl) (yt:c2.op= .call {callee:=.value (.func f),args:=DT,argTypes:=dn}:=by exact rfl) (vm:DT.map a.eval=args:=by (try simp only [List.map_toArray,List.map_cons,List.map_nil]);first | done | rfl):
  if Region.wanted c2 (yielded ops a.tmps)=true then Oper.wp P c2 a w K Q else K (a.put N undef) w:=QA bb Fy I args hw cz yt vm h
theorem hn {w:World} (fuel n:Nat) {l:Array Bool} {a:Go.Act} (is:List Nat) (dm:S w) (h:jx P ops S is (fun a'=>fM P md ops Q S ds fuel (lu l is) a' w) a)
  (ay:(xM md ops ds l is && (is.length == n)) = true:=by kernel_rfl) (mC:∀ N v c a w,Q (.panic c) (Go.Act.put a N v) w->Q (.panic c) a w:=by (intro N _ _ _ _ h;cases N<;>exact h)):fM P md ops Q S ds (fuel+n) l a w:=Ul is ay mC dm h
end
def xb (D:Nat->Value) (x:Nat) (v:Value):Nat->Value:=fun q=>if q=x then v else D q
theorem xN (D:Nat->Value) (x:Nat) (v:Value):xb D x v x=v:=if_pos rfl
theorem hZ {D:Nat->Value} {x q:Nat} {v:Value} (h:q ≠ x):xb D x v q=D q:=if_neg h
section
variable {P:Program} {ops:Array Oper} {Q:Exit->Go.Act->World->Prop} {md:Region.Mode} {S:World->Prop} {ds:List Nat}
def Fz (md:Region.Mode) (ops:Array Oper) (xy:Nat->List Nat) (l':Array Bool):Nat->List Nat->Array Bool->Bool
 | 0,rem,l=>rem == [] && l == l'
 | n+1,rem,l=>Region.ready md ops l != [] && (Region.ready md ops l).all fun x=>rem.contains x && (xy x).all (fun y=> !rem.contains y) && Fz md ops xy l' n (rem.erase x) (l.setIfInBounds x true)
theorem Lx {l':Array Bool} {fuel:Nat} (xy:Nat->List Nat) (A:(Nat->Value)->Go.Act) (BH:List Nat->(Nat->Value)->World->Prop) (rh:List Nat) (j4:∀ rem D w,BH rem D w->S w)
  (yt:∀ x ∈ rh,∃ c2,ops[x]? = some c2/\x ∉ ds/\(∀ D v,(A D).put c2.dst v=A (xb D x v))/\∀ rem D w (K:Go.Act->World->Prop),x ∈ rem->(∀ y ∈ xy x,y ∉ rem)->BH rem D w->(∀ v af,BH (rem.erase x) (xb D x v) af->K ((A D).put c2.dst v) af)->if Region.wanted c2 (yielded ops (A D).tmps)=true then Oper.wp P c2 (A D) w K Q else K ((A D).put c2.dst undef) w)
  (ll:∀ D w,BH [] D w->fM P md ops Q S ds fuel l' (A D) w):
  ∀ (n:Nat) (rem:List Nat) (l:Array Bool) (D:Nat->Value) (w:World),(∀ x ∈ rem,x ∈ rh)->Fz md ops xy l' n rem l=true->BH rem D w->fM P md ops Q S ds (fuel+n) l (A D) w
 | 0,rem,l,D,w,_,dt,h=>by
  simp only [Fz,Bool.and_eq_true,beq_iff_eq] at dt;rw [dt.2];rw [dt.1] at h
  exact ll D w h
 | n+1,rem,l,D,w,hs,dt,h=>by
  simp only [Fz,Bool.and_eq_true,bne_iff_ne,List.all_eq_true,List.contains_iff_mem,Bool.not_eq_true'] at dt;obtain ⟨cm,n5⟩:=dt;refine Dc rfl cm (fun i aa=> ?_);obtain ⟨⟨et,mL⟩,Um⟩:=n5 i aa;obtain ⟨c2,aT,aO,aB,hw⟩:=yt i (hs i et);refine nJ.cons aT aO (fun j3 au=> ?_) nJ.nil i List.mem_cons_self;refine hw rem D w j3 et (fun y aW hm=>by have h1:=mL y aW;rw [List.contains_iff_mem.2 hm] at h1;cases h1) h (fun v af ct=>au.out _ _ (j4 _ _ _ ct) (fun _=> ?_));rw [aB];exact Lx xy A BH rh j4 yt ll n (rem.erase i) _ _ _ (fun x az=>hs x (List.mem_of_mem_erase az)) Um ct
theorem YO {l l':Array Bool} {fuel:Nat} {w0:World} (n:Nat) (A:(Nat->Value)->Go.Act) (rh:List Nat) (De:Nat->World->Value->Prop)
  (dt:Fz md ops (fun _=> []) l' n rh l=true) (dm:∀ W,Below w0.heap.size w0 W->S W) (ja:∀ q W W1 v,De q W v->Below W.heap.size W W1->De q W1 v)
  (yt:∀ x ∈ rh,∃ c2,ops[x]? = some c2/\x ∉ ds/\(∀ D v,(A D).put c2.dst v=A (xb D x v))/\∀ D W (K:Go.Act->World->Prop),Below w0.heap.size w0 W->(∀ v W1,Below W.heap.size W W1->De x W1 v->(∃ b,v.ownBlock=some b/\W.heap.size<=b/\b < W1.heap.size)->K ((A D).put c2.dst v) W1)->if Region.wanted c2 (yielded ops (A D).tmps)=true then Oper.wp P c2 (A D) W K Q else K ((A D).put c2.dst undef) W)
  (ll:∀ D W,Below w0.heap.size w0 W->(∀ q ∈ rh,De q W (D q)/\∃ b,(D q).ownBlock=some b/\w0.heap.size<=b/\b < W.heap.size)->(∀ q ∈ rh,∀ qJ ∈ rh,q ≠ qJ->(D q).ownBlock ≠ (D qJ).ownBlock)->fM P md ops Q S ds fuel l' (A D) W) (D:Nat->Value):
  fM P md ops Q S ds (fuel+n) l (A D) w0:=by
 refine Lx (fun _=> []) A (fun rem D W=>Below w0.heap.size w0 W/\(∀ q ∈ rh,q ∉ rem->De q W (D q)/\∃ b,(D q).ownBlock=some b/\w0.heap.size<=b/\b < W.heap.size)/\∀ q ∈ rh,q ∉ rem->∀ qJ ∈ rh,qJ ∉ rem->q ≠ qJ->(D q).ownBlock ≠ (D qJ).ownBlock) rh (fun _ _ _ h=>dm _ h.1) (fun x az=> ?_)
  (fun D W h=>ll D W h.1 (fun q aF=>h.2.1 q aF (by simp)) (fun q aF qJ q3=>h.2.2 q aF (by simp) qJ q3 (by simp))) n rh l D w0 (fun _ h=>h) dt ⟨Below.refl _ _,fun q aF aS=>absurd aF aS,fun q aF aS=>absurd aF aS⟩
 obtain ⟨c2,h1,ar,aA,bR⟩:=yt x az;refine ⟨c2,h1,ar,aA,fun rem D W K acN _ h au=>bR D W K h.1 (fun v W1 I df bp=>au v W1 ⟨fb h.1 I,fun q aF Js=> ?_,fun q aF Js qJ q3 PO cm=> ?_⟩)⟩
 ·by_cases he:q=x
  ·subst he
   rw [xN];obtain ⟨b,bZ,gf,cY⟩:=bp;exact ⟨df,b,bZ,Nat.le_trans h.1.size gf,cY⟩
  ·rw [hZ he]
   obtain ⟨br,b,hp,mD,dU⟩:=h.2.1 q aF (fun hm=>Js ((List.mem_erase_of_ne he).2 hm));exact ⟨ja _ _ _ _ br I,b,hp,mD,Nat.lt_of_lt_of_le dU I.size⟩
 ·obtain ⟨b,bZ,gf,cY⟩:=bp
  by_cases he:q=x
  ·subst he
   rw [xN,hZ (Ne.symm cm),bZ];obtain ⟨br,mB,hp,mD,dU⟩:=h.2.1 qJ q3 (fun hm=>PO ((List.mem_erase_of_ne (Ne.symm cm)).2 hm));rw [hp];intro fA;injection fA with fA;omega
  ·have hm:q ∉ rem:=fun hm=>Js ((List.mem_erase_of_ne he).2 hm)
   rw [hZ he];by_cases Jt:qJ=x
   ·subst Jt
    rw [xN,bZ];obtain ⟨br,mB,hp,mD,dU⟩:=h.2.1 q aF hm;rw [hp];intro fA;injection fA with fA;omega
   ·rw [hZ Jt]
    exact h.2.2 q aF hm qJ q3 (fun DR=>PO ((List.mem_erase_of_ne Jt).2 DR)) cm
end
end Go.Proofs.YteajdhhmkjblnaaGreatDoor.Eq
namespace Go.Proofs.YteajdhhmkjblnaaGreatDoor.Eq
open Go.RowKit Go.Proofs.YteajdhhmkjblnaaGreatDoorW.PrintWords Go.Proofs.YteajdhhmkjblnaaGreatDoorW.PrintLast
structure Deed where
 kind:Int
 a:Int
 b:Int
 deriving DecidableEq
def vn:Deed:=⟨0,0,0⟩
def kDeed:Kd Deed:=Kd.w9 (Kd.pair (Kd.int .i64) (Kd.pair (Kd.int .i64) (Kd.int .i64))) (fun x:Deed=>(x.kind,x.a,x.b))
theorem C5 {w:World} {x:Deed} {cs:List Value} (h:kDeed.K w x cs):cs= [.int .i64 x.kind,.int .i64 x.a,.int .i64 x.b]:=by
 obtain ⟨_,_,rfl,rfl,⟨_,_,rfl,rfl,rfl⟩⟩:=h;exact rfl
theorem zg {w:World} {base:Nat} {ok:Nat->Prop} (x:Deed):kDeed.M w base ok x [.int .i64 x.kind,.int .i64 x.a,.int .i64 x.b]:=
 ⟨[.int .i64 x.kind], [.int .i64 x.a,.int .i64 x.b],rfl,rfl,⟨[.int .i64 x.a], [.int .i64 x.b],rfl,rfl,rfl⟩⟩
structure Act where
 kind:Int
 bP:List Deed
 kids:List Int
 eY:Int
 deriving DecidableEq
def iK:Act:=⟨0, [], [],0⟩
def kAct:Kd Act:=Kd.w9 (Kd.pair (Kd.int .i64) (Kd.pair (Kd.slice 62 kDeed) (Kd.pair (Kd.slice 3 (Kd.int .i64)) (Kd.int .i64)))) (fun x:Act=>(x.kind,x.bP,x.kids,x.eY))
theorem m0 {w:World} {x:Act} {cs:List Value} (h:kAct.K w x cs):∃ xU xV wj wk,cs= [.int .i64 x.kind,.slice xU x.bP.length xV,.slice wj x.kids.length wk,.int .i64 x.eY]/\x.bP.length<=xV/\kDeed.C w xU x.bP.length x.bP/\x.kids.length<=wk/\(Kd.int .i64).C w wj x.kids.length x.kids:=by
 obtain ⟨_,_,rfl,rfl,⟨_,_,rfl,⟨xU,xV,rfl,qz,FQ⟩,⟨_,_,rfl,⟨wj,wk,rfl,qq,FG⟩,rfl⟩⟩⟩:=h;exact ⟨xU,xV,wj,wk,rfl,qz,FQ,qq,FG⟩
theorem Q' {w:World} (x:Act) {xU:Option Addr} {xV:Nat} (qz:x.bP.length<=xV) (FQ:kDeed.C w xU x.bP.length x.bP) {wj:Option Addr} {wk:Nat} (qq:x.kids.length<=wk) (FG:(Kd.int .i64).C w wj x.kids.length x.kids):kAct.K w x [.int .i64 x.kind,.slice xU x.bP.length xV,.slice wj x.kids.length wk,.int .i64 x.eY]:=
 ⟨[.int .i64 x.kind], [.slice xU x.bP.length xV,.slice wj x.kids.length wk,.int .i64 x.eY],rfl,rfl,⟨[.slice xU x.bP.length xV], [.slice wj x.kids.length wk,.int .i64 x.eY],rfl,⟨_,_,rfl,qz,FQ⟩,⟨[.slice wj x.kids.length wk], [.int .i64 x.eY],rfl,⟨_,_,rfl,qq,FG⟩,rfl⟩⟩⟩
theorem vx {w:World} {base:Nat} {ok:Nat->Prop} (x:Act) {tl:Value} (FQ:kDeed.aC 62 w base ok tl x.bP) {sm:Value} (FG:(Kd.int .i64).aC 3 w base ok sm x.kids):kAct.M w base ok x [.int .i64 x.kind,tl,sm,.int .i64 x.eY]:=
 ⟨[.int .i64 x.kind], [tl,sm,.int .i64 x.eY],rfl,rfl,⟨[tl], [sm,.int .i64 x.eY],rfl,⟨_,rfl,FQ⟩,⟨[sm], [.int .i64 x.eY],rfl,⟨_,rfl,FG⟩,rfl⟩⟩⟩
structure Prog where
 cells:List Int
 an:List (List Act)
 deriving DecidableEq
def cN:Kd Prog:=Kd.w9 (Kd.pair (Kd.slice 3 (Kd.int .i64)) (Kd.slice 48 (Kd.slice 55 kAct))) (fun x:Prog=>(x.cells,x.an))
theorem jk {w:World} {x:Prog} {cs:List Value} (h:cN.K w x cs):∃ A_cells c_cells zc zd,cs= [.slice A_cells x.cells.length c_cells,.slice zc x.an.length zd]/\x.cells.length<=c_cells/\(Kd.int .i64).C w A_cells x.cells.length x.cells/\x.an.length<=zd/\(Kd.slice 55 kAct).C w zc x.an.length x.an:=by
 obtain ⟨_,_,rfl,⟨A_cells,c_cells,rfl,Bm,Bn⟩,⟨zc,zd,rfl,L9,L'⟩⟩:=h;exact ⟨A_cells,c_cells,zc,zd,rfl,Bm,Bn,L9,L'⟩
theorem F4 {w:World} (x:Prog) {A_cells:Option Addr} {c_cells:Nat} (Bm:x.cells.length<=c_cells) (Bn:(Kd.int .i64).C w A_cells x.cells.length x.cells) {zc:Option Addr} {zd:Nat} (L9:x.an.length<=zd) (L':(Kd.slice 55 kAct).C w zc x.an.length x.an):cN.K w x [.slice A_cells x.cells.length c_cells,.slice zc x.an.length zd]:=
 ⟨[.slice A_cells x.cells.length c_cells], [.slice zc x.an.length zd],rfl,⟨_,_,rfl,Bm,Bn⟩,⟨_,_,rfl,L9,L'⟩⟩
end Go.Proofs.YteajdhhmkjblnaaGreatDoor.Eq
namespace Go.Proofs.YteajdhhmkjblnaaGreatDoor.Eq
def bF (n hC aa:Int):Bool:=decide (hC<=n) && decide (n<=aa)
theorem e0 {n hC aa:Int}:bF n hC aa=true ↔ hC<=n/\n<=aa:=by simp [bF]
theorem YP {n hC aa:Int}:bF n hC aa=false ↔ ¬ (hC<=n/\n<=aa):=by rw [<-e0];simp
def hH (n:Nat) (f:Nat->Bool):Bool:=decide (∀ i,i < n->f i=true)
theorem hv {n:Nat} {f:Nat->Bool}:hH n f=true ↔ ∀ i,i < n->f i=true:=by simp [hH]
theorem hK {n i:Nat} {f:Nat->Bool} (aa:i < n) (h:f i=false):hH n f=false:=by
 rw [Bool.eq_false_iff];intro ct;rw [hv.1 ct i aa] at h;cases h
def lr (f:Nat->Bool):Nat->Nat
 | 0=>0
 | n+1=>lr f n+if f n then 1 else 0
theorem xX (f:Nat->Bool):∀ n,lr f n<=n
 | 0=>Nat.le_refl _
 | n+1=>by
  have:=xX f n
  unfold lr;split <;> omega
def putAt (xs:List cI) (i:Nat):cI:=xs.getD i gU
def cellAt (xs:List Cell) (i:Nat):Cell:=xs.getD i lq
def eh (xs:List Entry) (i:Nat):Entry:=xs.getD i sl
def bo (gJ:List (List Act)) (i:Nat):List Act:=gJ.getD i []
def actAt (xs:List Act) (i:Nat):Act:=xs.getD i iK
def mX (xs:List Deed) (i:Nat):Deed:=xs.getD i vn
def cC (xs:List Int) (i:Nat):Int:=xs.getD i 0
def ff (d:Deed) (cells:Int):Bool:=
 if d.kind=1 then bF d.a 0 2 && bF d.b 0 (cells - 1)
 else if d.kind=2 then bF d.a 0 (cells - 1) && bF d.b 0 2
 else if d.kind=3 then bF d.a 0 2 && bF d.b 0 99
 else if d.kind=4 then bF d.a 0 2 && bF d.b 0 2
 else if d.kind=5 then bF d.a 0 2 && decide (d.b=0)
 else false
def za (ds:List Deed) (cells:Int):Bool:=hH ds.length fun i=>ff (mX ds i) cells
def qs (aY:List Int) (body an:Int):Bool:=hH aY.length (fun i=>bF (cC aY i) (body+1) (an - 1)) && bF aY.length 1 2
def dT (cells an body:Int) (a:Act):Bool:=
 if (a.kind ≠ 1/\a.bP ≠ [])\/(a.kind ≠ 2/\a.kids ≠ [])\/(a.kind ≠ 4/\a.eY ≠ 0) then false
 else if a.kind=1 then za a.bP cells && decide (a.bP.length<=5)
 else if a.kind=2 then qs a.kids body an
 else if a.kind=3 then true
 else if a.kind=4 then bF a.eY 0 2
 else false
def qt (cells an body:Int) (cq:List Act):Bool:=decide (cq.length<=4) && hH cq.length fun k=>dT cells an body (actAt cq k)
def ia (p:Prog):Bool:=decide (p.cells.length<=3) && bF p.an.length 1 4 && hH p.cells.length (fun i=>bF (cC p.cells i) 0 99) && hH p.an.length fun i=>qt p.cells.length p.an.length i (bo p.an i)
def eP {α:Type} (f:α->Nat):List α->Nat
 | []=>0
 | a :: l=>f a+eP f l
def treeN (gJ:List (List Act)):Nat->Int->Nat
 | 0,_=>1
 | n+1,b=>1+eP (fun a:Act=>eP (treeN gJ n) a.kids) (bo gJ b.toNat)
def hz (p:Prog) (b:Int):Nat:=treeN p.an 4 b
def k2 (p:Prog):Bool:=ia p && decide (hz p 0<=7)
def hJ (xs:List cI) (cells:Int):Bool:=hH xs.length fun i=>bF (putAt xs i).cell 0 (cells - 1) && bF (putAt xs i).num 0 99 && (decide (i=0) || decide ((putAt xs (i - 1)).cell < (putAt xs i).cell))
def my (xs:List Int) (size:Int):Bool:=hH xs.length (fun i=>bF (cC xs i) 0 99) && decide ((xs.length:Int)=size)
def iD (xs:List cI) (cell:Int):Option Nat:=xs.findIdx? fun x=>decide (x.cell=cell)
def gu (dn:List Task) (task a7:Int):Nat:=lr (fun k=>decide ((aD dn k).up=task) && decide ((aD dn k).a7=a7)) dn.length
def ln (t:Task) (bP:Int):Bool:=
 if t.aE=0 then decide (t.at_=0) && decide (t.reads.length+t.ai.length=0)
 else if t.aE=1 then bF t.at_ 0 bP
 else if t.aE=3 then decide (t.at_=0) && decide (0 < t.ai.length)
 else if t.aE=4 then bF t.at_ 0 t.reads.length && decide (0 < t.ai.length)
 else bF t.at_ 0 (t.ai.length - 1)
def oc (t:Task) (s:Sys):Bool:=
 bF t.since 0 s.clock && bF t.from_ 0 s.log.length &&
  (if t.aE=0 then bF t.bw 0 (s.clock+1) else if t.aE=4\/t.aE=5 then bF t.bw (t.since+1) s.clock else decide (t.bw=0))
def we (p:Prog) (s:Sys) (i:Nat):Bool:=
 let t:=aD s.tasks i
 let cq:=bo p.an t.body.toNat
 if t.a7=0 then decide (t.aE=0) || (decide (t.aR < cq.length) && decide ((actAt cq t.aR.toNat).kind=1) && ln t (actAt cq t.aR.toNat).bP.length)
 else if t.a7=1 then decide (t.aR < cq.length) && decide ((actAt cq t.aR.toNat).kind=2) && decide ((actAt cq t.aR.toNat).kids.length<=gu s.tasks i 0+gu s.tasks i 1+gu s.tasks i 2+gu s.tasks i 3)
 else if t.a7=2 then decide (t.aR=cq.length)
 else true
def ka (s:Sys) (i:Nat):Bool:=
 let t:=aD s.tasks i
 if i=0 then decide (t.up= -1)
 else bF t.up 0 (i - 1) && (!isLive t || decide ((aD s.tasks t.up.toNat).a7=1))
def qu (p:Prog) (s:Sys) (i:Nat):Bool:=
 let t:=aD s.tasks i
 bF t.body 0 (p.an.length - 1) && bF t.aR 0 (bo p.an t.body.toNat).length && bF t.a7 0 4 && bF t.aE 0 5 &&
  (decide (t.a7=0) || decide (t.aE=0)) && my t.aL 3 && my t.bE 3 && hJ t.reads s.cells.length && hJ t.ai s.cells.length &&
  (!decide (t.aE=0) || (decide (t.at_=0) && decide (t.reads.length+t.ai.length=0))) && oc t s && ka s i && we p s i
def holds (t:Task) (cell:Int):Bool:=
 match iD t.ai cell with
 | none=>false
 | some i=>if t.aE=2 then decide ((i:Int) < t.at_) else if t.aE=3\/t.aE=4 then true else if t.aE=5 then decide (t.at_<=i) else false
def nI (s:Sys):Bool:=hH s.cells.length fun i=>
 let c:=cellAt s.cells i
 bF c.num 0 99 && bF c.time 0 s.clock && bF c.lock (-1) (s.tasks.length - 1) && hH s.tasks.length fun k=>decide (holds (aD s.tasks k) i=decide (c.lock=k))
def mU (p:Prog) (s:Sys):Bool:=hH s.log.length fun i=>
 let e:=eh s.log i
 bF e.task 0 (s.tasks.length - 1) && bF e.bw 0 s.clock && bF e.from_ 0 i && hJ e.reads s.cells.length && hJ e.ai s.cells.length &&
  bF e.act 0 ((bo p.an (aD s.tasks e.task.toNat).body.toNat).length - 1)
def jh (p:Prog) (s:Sys):Bool:=
 k2 p && decide (s.cells.length=p.cells.length) && bF s.tasks.length 1 7 && bF s.clock 0 200 && hH s.tasks.length (qu p s) && nI s && mU p s
def g8 (body up:Int):Task:=⟨body,0,up, [0,0,0],0,0,0,0, [0,0,0], [], [],0,0⟩
def kH (p:Prog):Sys:=⟨p.cells.map fun n=>⟨n,0,-1⟩, [g8 0 (-1)],0, []⟩
def b0 (s:Sys) (i:Nat) (t:Task):Sys:={s with tasks:=s.tasks.set i t}
def setCell (s:Sys) (i:Nat) (c:Cell):Sys:={s with cells:=s.cells.set i c}
def R (s:Sys) (i:Nat):Task:=aD s.tasks i
def nG (x:cI):Bool->List cI->List cI
 | fin, []=>if fin then [] else [x]
 | fin,y :: l=>(if fin=false/\x.cell<=y.cell then [x] else []) ++ (if y.cell=x.cell then [] else [y]) ++ nG x (fin || decide (x.cell<=y.cell)) l
def jH (l:List cI) (x:cI):List cI:=nG x false l
def free (s:Sys) (i:Nat):Sys:={s with cells:=s.cells.map fun c=>if c.lock=(i:Int) then {c with lock:= -1} else c}
def k4 (s:Sys) (i:Nat) (st:Int):Sys:=b0 s i {R s i with aE:=st,at_:=0}
def again (s:Sys) (i:Nat):Sys:=
 let s1:=free s i
 b0 s1 i {R s1 i with aL:=(R s1 i).bE,reads:= [],ai:= [],bw:=0,aE:=0,at_:=0}
def done (s:Sys) (i:Nat) (bw:Int):Sys:=
 let t:=R s i
 {b0 s i {t with aR:=t.aR+1,reads:= [],ai:= [],since:=0,bw:=0,from_:=0,aE:=0,at_:=0} with
  log:=s.log ++ [⟨i,t.aR,bw,t.reads,t.ai,t.from_⟩]}
def blind (s:Sys) (i:Nat) (cell:Int):Bool:=
 let c:=cellAt s.cells cell.toNat
 (decide (0<=c.lock) && !decide (c.lock=i)) || decide ((R s i).since < c.time)
def wm (s:Sys) (i:Nat):Sys:=
 let t:=R s i
 b0 s i {t with since:=s.clock,bE:=t.aL,from_:=s.log.length,bw:=0,aE:=1,at_:=0}
def load (s:Sys) (i:Nat) (d:Deed):Sys:=
 let t:=R s i
 match iD t.ai d.b with
 | some k=>b0 s i {t with aL:=t.aL.set d.a.toNat (putAt t.ai k).num,at_:=t.at_+1}
 | none=>
  if blind s i d.b then again s i
  else b0 s i {t with aL:=t.aL.set d.a.toNat (cellAt s.cells d.b.toNat).num,reads:=jH t.reads ⟨d.b,(cellAt s.cells d.b.toNat).num⟩,at_:=t.at_+1}
def pe (aL:List Int) (d:Deed):List Int:=
 if d.kind=3 then aL.set d.a.toNat d.b
 else if d.kind=4 then aL.set d.a.toNat ((cC aL d.a.toNat+cC aL d.b.toNat) % 100)
 else aL
def n7 (s:Sys) (i:Nat) (ds:List Deed):Sys:=
 let t:=R s i
 if (ds.length:Int)<=t.at_ then
  if t.ai= [] then done s i t.since else k4 s i 2
 else
  let d:=mX ds t.at_.toNat
  if d.kind=1 then load s i d
  else if d.kind=2 then b0 s i {t with ai:=jH t.ai ⟨d.a,cC t.aL d.b.toNat⟩,at_:=t.at_+1}
  else if d.kind=5/\cC t.aL d.a.toNat=0 then
   let s1:=again s i
   b0 s1 i {R s1 i with bw:=t.since+1}
  else b0 s i {t with aL:=pe t.aL d,at_:=t.at_+1}
def lock (s:Sys) (i:Nat):Sys:=
 let t:=R s i
 let c:=(putAt t.ai t.at_.toNat).cell.toNat
 if 0<=(cellAt s.cells c).lock then again s i
 else
  let s1:=setCell s c {cellAt s.cells c with lock:=i}
  b0 s1 i (if t.at_+1=t.ai.length then {t with aE:=3,at_:=0} else {t with at_:=t.at_+1})
def time (s:Sys) (i:Nat):Sys:=
 let t:=R s i
 {b0 s i {t with bw:=s.clock+1,aE:=4,at_:=0} with clock:=s.clock+1}
def check (s:Sys) (i:Nat):Sys:=
 let t:=R s i
 if (t.reads.length:Int)<=t.at_ then k4 s i 5
 else if blind s i (putAt t.reads t.at_.toNat).cell then again s i
 else b0 s i {t with at_:=t.at_+1}
def write (s:Sys) (i:Nat):Sys:=
 let t:=R s i
 let x:=putAt t.ai t.at_.toNat
 let s1:=b0 (setCell s x.cell.toNat ⟨x.num,t.bw,-1⟩) i {t with at_:=t.at_+1}
 if t.at_+1=t.ai.length then done s1 i t.bw else s1
def jT (s:Sys) (i:Nat) (ds:List Deed):Sys:=
 if (R s i).aE=0 then wm s i
 else if (R s i).aE=1 then n7 s i ds
 else if (R s i).aE=2 then lock s i
 else if (R s i).aE=3 then time s i
 else if (R s i).aE=4 then check s i
 else write s i
def writes (i:Nat):Nat->Sys->Sys
 | 0,s=>s
 | n+1,s=>if (R s i).aE=5 then writes i n (write s i) else s
def ib (s:Sys) (i:Nat) (w:Int):Sys:=b0 s i {R s i with a7:=w}
def nH (s:Sys) (i:Nat):Sys:=
 if isLive (R s i) then
  let s1:=writes i ((R s i).ai.length+1) s
  ib (if (R s1 i).aE=0 then s1 else again s1 i) i 4
 else s
def h8:Nat->Sys->Nat->Sys
 | 0,s,_=>s
 | n+1,s,i=>nH ((List.range s.tasks.length).foldl (fun s k=>if (R s k).up=i then h8 n s k else s) s) i
def off (s:Sys) (i:Nat):Sys:=h8 (s.tasks.length - i) s i
def mR (s:Sys) (i:Nat):Sys:=(List.range s.tasks.length).foldl (fun s k=>if (R s k).up=i then off s k else s) s
def fork (s:Sys) (i:Nat) (aY:List Int):Sys:=ib {s with tasks:=s.tasks ++ aY.map fun b=>g8 b i} i 1
def pg (s:Sys) (i:Nat):Sys:=
 if gu s.tasks i 3=0 then b0 s i {R s i with a7:=0,aR:=(R s i).aR+1}
 else ib (mR s i) i 3
def ready (s:Sys) (i:Nat):Bool:=
 let t:=R s i
 if 200<=s.clock then false
 else if t.a7=0 then !decide (t.aE=0) || decide (t.bw<=s.clock)
 else if t.a7=1 then decide (0 < gu s.tasks i 3) || decide (gu s.tasks i 0+gu s.tasks i 1=0)
 else false
def step (p:Prog) (s:Sys) (i:Nat):Sys:=
 let t:=R s i
 let cq:=bo p.an t.body.toNat
 let a:=actAt cq t.aR.toNat
 if t.a7=1 then pg s i
 else if (cq.length:Int)<=t.aR then ib s i 2
 else if a.kind=1 then jT s i a.bP
 else if a.kind=2 then fork s i a.kids
 else if a.kind=3\/cC t.aL a.eY.toNat ≠ 0 then ib s i 3
 else b0 s i {t with aR:=t.aR+1}
def jY (s:Sys) (k:Int):Bool:=bF k 0 (s.tasks.length - 1) && ready s k.toNat
def lK (p:Prog) (s:Sys) (k:Int):Sys:=if jY s k then step p s k.toNat else s
def turns (p:Prog) (s:Sys) (aY:List Int):Sys:=aY.foldl (lK p) s
theorem c5 (s:Sys) (i:Nat) (t:Task):(b0 s i t).tasks.length=s.tasks.length:=by simp [b0]
theorem cD {s:Sys} {i:Nat} {t:Task} (h:i < s.tasks.length):R (b0 s i t) i=t:=by simp [R,b0,aD,h]
theorem oH {s:Sys} {i k:Nat} {t:Task} (h:k ≠ i):R (b0 s i t) k=R s k:=by simp [R,b0,aD,List.getD_eq_getElem?_getD,List.getElem?_set,Ne.symm h]
theorem set_set (s:Sys) (i:Nat) (t u:Task):b0 (b0 s i t) i u=b0 s i u:=by simp [b0,List.set_set]
theorem Zy {s:Sys} {i:Nat} (h:i < s.tasks.length):b0 s i (R s i)=s:=by
 have:s.tasks.set i (R s i)=s.tasks:=by
  apply List.ext_getElem?;intro k;rw [List.getElem?_set];by_cases J:i=k
  ·subst J
   simp [h,R,aD]
  ·simp [J]
 unfold b0;rw [this]
end Go.Proofs.YteajdhhmkjblnaaGreatDoor.Eq
namespace Go.Proofs.YteajdhhmkjblnaaGreatDoor.Eq
open Go.RowKit Go.Proofs.YteajdhhmkjblnaaGreatDoorW.PrintWords Go.Proofs.YteajdhhmkjblnaaGreatDoorW.PrintLast Go.Proofs.YteajdhhmkjblnaaGreatDoorW.PrintMore
def HK {α:Type} (own:Nat->Nat) (e:Nat) (d:Kd α):Kd (List α × Nat) where
 bD:=1
 E:=e :: d.E
 K:=fun w x cs=>(Kd.slice e d).K w x.1 cs
 M:=fun w base ok x cs=>(Kd.slice e d).M w base (fun k=>ok k/\own k=x.2) x.1 cs
 tf:=(Kd.slice e d).tf
 sh:=(Kd.slice e d).sh
 bH:=(Kd.slice e d).bH
 oD:=(Kd.slice e d).oD
 k1:=fun h hm=>(Kd.slice e d).k1 (fun k J=>⟨h k J.1,J.2⟩) hm
 pR:=fun hm=>(Kd.slice e d).k1 (fun k J=>⟨⟨J.1.1,J.2.1,J.2.2.1,J.2.2.2⟩,J.1.2⟩) ((Kd.slice e d).pR hm)
 pP:=fun h hm=>(Kd.slice e d).pP (fun k J=>h k J.1) hm
 wv:=(Kd.slice e d).wv
def gg (own:Nat->Nat):Kd (Task × Nat):=Kd.w9 (Kd.pair (Kd.int .i64) (Kd.pair (Kd.int .i64) (Kd.pair (Kd.int .i64) (Kd.pair (HK own 3 (Kd.int .i64)) (Kd.pair (Kd.int .i64) (Kd.pair (Kd.int .i64) (Kd.pair (Kd.int .i64) (Kd.pair (Kd.int .i64) (Kd.pair (HK own 3 (Kd.int .i64)) (Kd.pair (HK own 52 cn) (Kd.pair (HK own 52 cn) (Kd.pair (Kd.int .i64) (Kd.int .i64)))))))))))))
 (fun y:Task × Nat=>(y.1.body,y.1.aR,y.1.up,(y.1.aL,8+8*y.2),y.1.a7,y.1.aE,y.1.at_,y.1.since,(y.1.bE,9+8*y.2),(y.1.reads,10+8*y.2),(y.1.ai,11+8*y.2),y.1.bw,y.1.from_))
theorem Iq (own:Nat->Nat):(gg own).bD=13:=rfl
theorem hA {own:Nat->Nat} {w:World} {base:Nat} {ok:Nat->Prop} {y:Task × Nat} {cs:List Value} (h:(gg own).M w base ok y cs):∃ oE kE iE hU,
  cs= [.int .i64 y.1.body,.int .i64 y.1.aR,.int .i64 y.1.up,oE,.int .i64 y.1.a7,.int .i64 y.1.aE,.int .i64 y.1.at_,.int .i64 y.1.since,kE,iE,hU,.int .i64 y.1.bw,.int .i64 y.1.from_]/\
  (Kd.int .i64).aC 3 w base (fun k=>ok k/\own k=8+8*y.2) oE y.1.aL/\(Kd.int .i64).aC 3 w base (fun k=>ok k/\own k=9+8*y.2) kE y.1.bE/\
  cn.aC 52 w base (fun k=>ok k/\own k=10+8*y.2) iE y.1.reads/\cn.aC 52 w base (fun k=>ok k/\own k=11+8*y.2) hU y.1.ai:=by
 obtain ⟨_,_,rfl,rfl,⟨_,_,rfl,rfl,⟨_,_,rfl,rfl,⟨_,_,rfl,⟨oE,rfl,Bh⟩,⟨_,_,rfl,rfl,⟨_,_,rfl,rfl,⟨_,_,rfl,rfl,⟨_,_,rfl,rfl,⟨_,_,rfl,⟨kE,rfl,A'⟩,⟨_,_,rfl,⟨iE,rfl,vu⟩,⟨_,_,rfl,⟨hU,rfl,vs⟩,⟨_,_,rfl,rfl,rfl⟩⟩⟩⟩⟩⟩⟩⟩⟩⟩⟩⟩:=h;exact ⟨oE,kE,iE,hU,rfl,Bh,A',vu,vs⟩
theorem nh {own:Nat->Nat} {w:World} {base:Nat} {ok:Nat->Prop} (x:Task) (i:Nat) {oE kE iE hU:Value}
  (Bh:(Kd.int .i64).aC 3 w base (fun k=>ok k/\own k=8+8*i) oE x.aL) (A':(Kd.int .i64).aC 3 w base (fun k=>ok k/\own k=9+8*i) kE x.bE)
  (vu:cn.aC 52 w base (fun k=>ok k/\own k=10+8*i) iE x.reads) (vs:cn.aC 52 w base (fun k=>ok k/\own k=11+8*i) hU x.ai):
  (gg own).M w base ok (x,i) [.int .i64 x.body,.int .i64 x.aR,.int .i64 x.up,oE,.int .i64 x.a7,.int .i64 x.aE,.int .i64 x.at_,.int .i64 x.since,kE,iE,hU,.int .i64 x.bw,.int .i64 x.from_]:=
 ⟨[.int .i64 x.body], [.int .i64 x.aR,.int .i64 x.up,oE,.int .i64 x.a7,.int .i64 x.aE,.int .i64 x.at_,.int .i64 x.since,kE,iE,hU,.int .i64 x.bw,.int .i64 x.from_],rfl,rfl,⟨[.int .i64 x.aR], [.int .i64 x.up,oE,.int .i64 x.a7,.int .i64 x.aE,.int .i64 x.at_,.int .i64 x.since,kE,iE,hU,.int .i64 x.bw,.int .i64 x.from_],rfl,rfl,⟨[.int .i64 x.up], [oE,.int .i64 x.a7,.int .i64 x.aE,.int .i64 x.at_,.int .i64 x.since,kE,iE,hU,.int .i64 x.bw,.int .i64 x.from_],rfl,rfl,⟨[oE], [.int .i64 x.a7,.int .i64 x.aE,.int .i64 x.at_,.int .i64 x.since,kE,iE,hU,.int .i64 x.bw,.int .i64 x.from_],rfl,⟨_,rfl,Bh⟩,⟨[.int .i64 x.a7], [.int .i64 x.aE,.int .i64 x.at_,.int .i64 x.since,kE,iE,hU,.int .i64 x.bw,.int .i64 x.from_],rfl,rfl,⟨[.int .i64 x.aE], [.int .i64 x.at_,.int .i64 x.since,kE,iE,hU,.int .i64 x.bw,.int .i64 x.from_],rfl,rfl,⟨[.int .i64 x.at_], [.int .i64 x.since,kE,iE,hU,.int .i64 x.bw,.int .i64 x.from_],rfl,rfl,⟨[.int .i64 x.since], [kE,iE,hU,.int .i64 x.bw,.int .i64 x.from_],rfl,rfl,⟨[kE], [iE,hU,.int .i64 x.bw,.int .i64 x.from_],rfl,⟨_,rfl,A'⟩,⟨[iE], [hU,.int .i64 x.bw,.int .i64 x.from_],rfl,⟨_,rfl,vu⟩,⟨[hU], [.int .i64 x.bw,.int .i64 x.from_],rfl,⟨_,rfl,vs⟩,⟨[.int .i64 x.bw], [.int .i64 x.from_],rfl,rfl,rfl⟩⟩⟩⟩⟩⟩⟩⟩⟩⟩⟩⟩
theorem C6 {own own':Nat->Nat} {w:World} {base:Nat} {ok:Nat->Prop} {y:Task × Nat} {cs:List Value} (aT:∀ k,k < w.heap.size->ok k->own' k=own k) (h:(gg own).M w base ok y cs):(gg own').M w base ok y cs:=by
 obtain ⟨x,i⟩:=y;obtain ⟨v3,bC,v9,v10,rfl,aA,dU,eb,e7⟩:=hA h
 exact nh x i (Kd.cG (Kd.fW aA) fun k J=>⟨J.1.1,(aT k J.2.2.1 J.1.1).trans J.1.2⟩) (Kd.cG (Kd.fW dU) fun k J=>⟨J.1.1,(aT k J.2.2.1 J.1.1).trans J.1.2⟩)
  (Kd.cG (Kd.fW eb) fun k J=>⟨J.1.1,(aT k J.2.2.1 J.1.1).trans J.1.2⟩) (Kd.cG (Kd.fW e7) fun k J=>⟨J.1.1,(aT k J.2.2.1 J.1.1).trans J.1.2⟩)
theorem FR (dn:List Task) (i:Nat) (t:Task):(dn.set i t).zipIdx=dn.zipIdx.set i (t,i):=by
 apply List.ext_getElem?;intro k;rw [List.getElem?_zipIdx,List.getElem?_set,List.getElem?_set];by_cases h:i=k
 ·subst h
  by_cases ak:i < dn.length
  ·simp [ak]
  ·simp [ak]
 ·simp [h,List.getElem?_zipIdx]
theorem H6 {dn:List Task} {i:Nat} (h:i < dn.length) (z:Task × Nat):dn.zipIdx.getD i z=(aD dn i,i):=by
 rw [List.getD_eq_getElem?_getD,List.getElem?_zipIdx];simp [aD,h]
theorem FH {dn:List Task} {i:Nat} {y:Task × Nat} (h:dn.zipIdx[i]? = some y):y=(aD dn i,i):=by
 rw [List.getElem?_zipIdx] at h
 cases aa:dn[i]? with
 | none=>simp [aa] at h
 | some t=>
  rw [aa] at h;simp at h;rw [<-h];simp [aD,List.getD_eq_getElem?_getD,aa]
structure Fr (B:Nat) (own own':Nat->Nat) (W bM:World):Prop where
 os:bM.os=W.os
 tape:bM.tape=W.tape
 output:bM.output=W.output
 size:W.heap.size<=bM.heap.size
 lo:∀ k,k < B->own k=0->own' k=0
 block:∀ k,k < B->own k=0->bM.heap[k]? = W.heap[k]?
theorem Fr.refl (B:Nat) (own:Nat->Nat) (W:World):Fr B own own W W:=⟨rfl,rfl,rfl,Nat.le_refl _,fun _ _ h=>h,fun _ _ _=>rfl⟩
theorem Fr.trans {B:Nat} {o wG zo:Nat->Nat} {W W1 dY:World} (h:Fr B o wG W W1) (k:Fr B wG zo W1 dY):Fr B o zo W dY:=
 ⟨k.os.trans h.os,k.tape.trans h.tape,k.output.trans h.output,Nat.le_trans h.size k.size,fun b I aT=>k.lo b I (h.lo b I aT),
  fun b I aT=>(k.block b I (h.lo b I aT)).trans (h.block b I aT)⟩
theorem Fr.less {B tu:Nat} {o wG:Nat->Nat} {W W1:World} (h:Fr B o wG W W1) (I:tu<=B):Fr tu o wG W W1:=⟨h.os,h.tape,h.output,h.size,fun k J=>h.lo k (by omega),fun k J=>h.block k (by omega)⟩
theorem Fr.below {B:Nat} {own:Nat->Nat} {W W1:World} (h:Below B W W1):Fr B own own W W1:=⟨h.os,h.tape,h.output,h.size,fun _ _ h=>h,fun k J _=>h.block k J⟩
theorem Fr.tagged {B:Nat} {own own':Nat->Nat} (W:World) (h:∀ k,k < B->own k=0->own' k=0):Fr B own own' W W:=⟨rfl,rfl,rfl,Nat.le_refl _,h,fun _ _ _=>rfl⟩
theorem Fr.set {B:Nat} {own:Nat->Nat} {W:World} {b:Nat} (h:B<=b\/own b ≠ 0) (o:Nat) (u:Value):Fr B own own W (W.setCell ⟨b,o,none⟩ u):=
 ⟨rfl,rfl,rfl,by simp [World.setCell],fun _ _ h=>h,fun k ak J=>Below.heap_setCell W ⟨b,o,none⟩ u k (fun he=>by
  have:k=b:=he
  subst this;rcases h with h | h
  ·omega
  ·exact h J)⟩
structure bI (T:Nat) (w0:World) (g:Nat) (own:Nat->Nat) (bh a8:Value) (p:Prog) (s:Sys) (aG aZ aP:Value) (W:World):Prop where
 below:Below w0.heap.size w0 W
 jU:∀ k,k < w0.heap.size->own k=0
 dk:∀ k,W.heap.size<=k->own k=0
 prog:cN.K w0 p [bh,a8]
 hI:own g=1
 bB:W.heap[g]? = some (.cells #[bh,a8,aG,aZ,.int .i64 s.clock,aP] T (0,0))
 cells:iU.aC 50 W w0.heap.size (fun k=>own k=2) aG s.cells
 tasks:(gg own).aC 38 W w0.heap.size (fun k=>own k=3\/8<=own k) aZ s.tasks.zipIdx
 fj:∀ k,aZ.ownBlock=some k->own k=3
 log:hf.aC 105 W w0.heap.size (fun k=>own k=4) aP s.log
section
variable {T:Nat} {w0:World} {g:Nat} {own:Nat->Nat} {bh a8:Value} {p:Prog} {s:Sys} {aG aZ aP:Value} {W W1:World}
theorem bI.move (h:bI T w0 g own bh a8 p s aG aZ aP W) (I:Below w0.heap.size w0 W1) (hs:W.heap.size<=W1.heap.size) (hm:∀ k,own k ≠ 0->k < W.heap.size->W1.heap[k]? = W.heap[k]?):bI T w0 g own bh a8 p s aG aZ aP W1 where
 below:=I
 jU:=h.jU
 dk:=fun k J=>h.dk k (Nat.le_trans hs J)
 prog:=h.prog
 hI:=h.hI
 bB:=(hm g (by rw [h.hI];decide) (dK h.bB)).trans h.bB
 cells:=Kd.eI h.cells (fun k J ak=>hm k (by omega) ak)
 tasks:=Kd.eI h.tasks (fun k J ak=>hm k (by omega) ak)
 fj:=h.fj
 log:=Kd.eI h.log (fun k J ak=>hm k (by omega) ak)
theorem bI.grow (h:bI T w0 g own bh a8 p s aG aZ aP W) (I:Below W.heap.size W W1):bI T w0 g own bh a8 p s aG aZ aP W1:=
 h.move (fb h.below I) I.size (fun k _ J=>I.block k J)
end
section
variable {T B:Nat} {w0:World} {g:Nat} {own own':Nat->Nat} {bh a8:Value} {p:Prog} {s:Sys} {aG aZ aP:Value} {W W1:World}
theorem oa {α:Type} {d:Kd α} {e base:Nat} {ok:Nat->Prop} {v:Value} {xs:List α} (h:d.aC e W base ok v xs) (aB:0 < xs.length):∃ b cap,v= .slice (some ⟨b,0,none⟩) xs.length cap/\ok b/\∃ cs:Array Value,W.heap[b]? = some (.cells cs e (0,0)):=by
 obtain ⟨aq,inner,aT,ao⟩:=h;rcases aT.2 with ⟨rfl,aa⟩ | ⟨b,cap,cur,rfl,I,c0,nu,hm,e4,a6⟩
 ·omega
 ·exact ⟨b,cap,rfl,aq b rfl,cur,c0⟩
theorem fH (dn:List Task):dn.zipIdx.length=dn.length:=List.length_zipIdx
theorem bI.iV (h:bI T w0 g own bh a8 p s aG aZ aP W) (aB:0 < s.tasks.length):∃ b cap,aZ= .slice (some ⟨b,0,none⟩) s.tasks.length cap/\own b=3/\b ≠ g:=by
 obtain ⟨b,cap,rfl,I,_⟩:=oa h.tasks (by rw [fH];exact aB)
 have:=h.fj b rfl
 exact ⟨b,cap,by rw [fH],this,fun he=>by rw [he,h.hI] at this;cases this⟩
theorem bI.FI (h:bI T w0 g own bh a8 p s aG aZ aP W):∃ A c,aZ= .slice A s.tasks.length c:=by
 obtain ⟨A,c,he⟩:=Kd.bt h.tasks;exact ⟨A,c,by rw [he,fH]⟩
theorem bI.kI (h:bI T w0 g own bh a8 p s aG aZ aP W):∃ A c,aG= .slice A s.cells.length c:=Kd.bt h.cells
theorem bI.hV (h:bI T w0 g own bh a8 p s aG aZ aP W):∃ A c,aP= .slice A s.log.length c:=Kd.bt h.log
theorem bI.tg (h:bI T w0 g own bh a8 p s aG aZ aP W) (aB:0 < s.cells.length):∃ b cap,aG= .slice (some ⟨b,0,none⟩) s.cells.length cap/\own b=2/\b ≠ g:=by
 obtain ⟨b,cap,rfl,I,_⟩:=oa h.cells aB;exact ⟨b,cap,rfl,I,fun he=>by rw [he,h.hI] at I;cases I⟩
theorem bI.cell {b cap n:Nat} (h:bI T w0 g own bh a8 p s (.slice (some ⟨b,0,none⟩) n cap) aZ aP W) {i:Nat} (aa:i < s.cells.length):
  (∀ j u, [Value.int .i64 (cellAt s.cells i).num,.int .i64 (cellAt s.cells i).time,.int .i64 (cellAt s.cells i).lock][j]? = some u->W.cell? ⟨b,i*3+j,none⟩=some u)/\∀ j,W.frozen? ⟨b,i*3+j,none⟩=false:=by
 have aS:=(Kd.ie h.cells).1;obtain ⟨c,_,dw,ay,bb⟩:=Kd.ob h.cells lq (i:Int) (by omega) (by omega);rw [Int.toNat_natCast] at dw ay bb;have:=Sq dw;subst this;exact ⟨ay,bb⟩
theorem bI.task {b cap n:Nat} (h:bI T w0 g own bh a8 p s aG (.slice (some ⟨b,0,none⟩) n cap) aP W) {i:Nat} (aa:i < s.tasks.length):∃ v3 bC v9 v10,
  (∀ j u, [.int .i64 (R s i).body,.int .i64 (R s i).aR,.int .i64 (R s i).up,v3,.int .i64 (R s i).a7,.int .i64 (R s i).aE,.int .i64 (R s i).at_,.int .i64 (R s i).since,bC,v9,v10,.int .i64 (R s i).bw,.int .i64 (R s i).from_][j]? = some u->W.cell? ⟨b,i*13+j,none⟩=some u)/\
  (∀ j,W.frozen? ⟨b,i*13+j,none⟩=false)/\
  (Kd.int .i64).aC 3 W w0.heap.size (fun k=>own k=8+8*i) v3 (R s i).aL/\(Kd.int .i64).aC 3 W w0.heap.size (fun k=>own k=9+8*i) bC (R s i).bE/\
  cn.aC 52 W w0.heap.size (fun k=>own k=10+8*i) v9 (R s i).reads/\cn.aC 52 W w0.heap.size (fun k=>own k=11+8*i) v10 (R s i).ai:=by
 have aS:=(Kd.ie h.tasks).1;rw [fH] at aS;obtain ⟨c,_,dw,ay,bb⟩:=Kd.ob h.tasks (dS,0) (i:Int) (by omega) (by omega);rw [Int.toNat_natCast] at dw ay bb;rw [H6 aa] at dw;obtain ⟨v3,bC,v9,v10,rfl,aA,dU,eb,e7⟩:=hA dw;exact ⟨v3,bC,v9,v10,ay,bb,Kd.cG aA (fun _ J=>J.2),Kd.cG dU (fun _ J=>J.2),Kd.cG eb (fun _ J=>J.2),Kd.cG e7 (fun _ J=>J.2)⟩
structure Tag (w0:World) (own own':Nat->Nat) (W:World):Prop where
 same:∀ k,own k ≠ 0->own' k=own k
 jU:∀ k,k < w0.heap.size->own' k=0
 dk:∀ k,W.heap.size<=k->own' k=0
def ef (own:Nat->Nat) (b:Option Nat) (t:Nat):Nat->Nat:=fun k=>if b=some k then t else own k
theorem bI.tag (h:bI T w0 g own bh a8 p s aG aZ aP W) {v:Value} {t:Nat} (bp:∀ k,v.ownBlock=some k->own k=0/\w0.heap.size<=k/\k < W.heap.size):Tag w0 own (ef own v.ownBlock t) W where
 same:=fun k J=>by
  unfold ef;split
  ·rename_i he
   exact absurd (bp k he).1 J
  ·rfl
 jU:=fun k J=>by
  unfold ef;split
  ·rename_i he
   have:=(bp k he).2.1
   omega
  ·exact h.jU k J
 dk:=fun k J=>by
  unfold ef;split
  ·rename_i he
   have:=(bp k he).2.2
   omega
  ·exact h.dk k J
theorem bI.rn (h:bI T w0 g own bh a8 p s aG aZ aP W) (a6:Tag w0 own own' W):bI T w0 g own' bh a8 p s aG aZ aP W where
 below:=h.below
 jU:=a6.jU
 dk:=a6.dk
 prog:=h.prog
 hI:=by rw [a6.same g (by rw [h.hI];decide)];exact h.hI
 bB:=h.bB
 cells:=Kd.cG h.cells (fun k J=>by rw [a6.same k (by omega)];exact J)
 tasks:=Kd.cG (d:=gg own') ⟨h.tasks.1,h.tasks.2.lJ (fun _ _ aB=>C6 (fun k _ J=>a6.same k (by have:=J.1;omega)) aB)⟩ (fun k J=>by rw [a6.same k (by omega)];exact J)
 fj:=fun k J=>by rw [a6.same k (by rw [h.fj k J];decide)];exact h.fj k J
 log:=Kd.cG h.log (fun k J=>by rw [a6.same k (by omega)];exact J)
theorem bI.seg {b cap n:Nat} (h:bI T w0 g own bh a8 p s aG (.slice (some ⟨b,0,none⟩) n cap) aP W) {i:Nat} (aa:i < s.tasks.length) {c seg:List Value} {j:Nat} {x':Task} (bQ:c.length=13)
  (aM:∀ j u,c[j]? = some u->W.cell? ⟨b,i*13+j,none⟩=some u) (aI:j+seg.length<=13) (dw:(gg own).M W w0.heap.size (fun k=>8<=own k) (x',i) (c.take j ++ seg ++ c.drop (j+seg.length))):
  bI T w0 g own bh a8 p (b0 s i x') aG (.slice (some ⟨b,0,none⟩) n cap) aP (W.setCells b (i*13+j) seg)/\Fr B own own W (W.setCells b (i*13+j) seg):=by
 have cY:own b=3:=h.fj b rfl;have dE:w0.heap.size<=b:=Nat.le_of_not_lt fun aJ=>by rw [h.jU b aJ] at cY;cases cY
 have aS:=(Kd.ie h.tasks).1;rw [fH] at aS;obtain ⟨df,hM⟩:=Kd.y3 (okp:=fun k=>8<=own k) h.tasks (i:Int) (by omega) (by omega) bQ (by rw [Int.toNat_natCast];exact aM) aI dw (fun k J=>⟨.inr J,fun he=>by rw [he] at J;omega⟩);rw [Int.toNat_natCast] at df hM;have Ju:Below w0.heap.size w0 (W.setCells b (i*13+j) seg):=h.below.trans ⟨hM.os,hM.tape,hM.output,hM.size,fun k J=>pn seg _ k (by omega)⟩;have cP:(W.setCells b (i*13+j) seg).heap.size=W.heap.size:=(pV b seg _ W).2.2.2;have gT:∀ k,own k ≠ 3->(W.setCells b (i*13+j) seg).heap[k]? = W.heap[k]? :=fun k J=>pn seg _ k (fun he=>J (by rw [he];exact cY))
 refine ⟨⟨Ju,h.jU,fun k J=>h.dk k (by omega),h.prog,h.hI,(gT g (by rw [h.hI];decide)).trans h.bB,Kd.eI h.cells (fun k J _=>gT k (by omega)), ?_,h.fj,Kd.eI h.log (fun k J _=>gT k (by omega))⟩,
  ⟨hM.os,hM.tape,hM.output,hM.size,fun _ _ J=>J,fun k _ J=>gT k (by omega)⟩⟩
 show (gg own).aC _ _ _ _ _ (s.tasks.set i x').zipIdx;rw [FR];exact df
theorem bI.AU {b cap n:Nat} (h:bI T w0 g own bh a8 p s (.slice (some ⟨b,0,none⟩) n cap) aZ aP W) {i:Nat} (aa:i < s.cells.length) {seg:List Value} {j:Nat} {x':Cell} (aI:j+seg.length<=3)
  (dw: [Value.int .i64 (cellAt s.cells i).num,.int .i64 (cellAt s.cells i).time,.int .i64 (cellAt s.cells i).lock].take j ++ seg ++ [Value.int .i64 (cellAt s.cells i).num,.int .i64 (cellAt s.cells i).time,.int .i64 (cellAt s.cells i).lock].drop (j+seg.length)= [Value.int .i64 x'.num,.int .i64 x'.time,.int .i64 x'.lock]):
  bI T w0 g own bh a8 p (setCell s i x') (.slice (some ⟨b,0,none⟩) n cap) aZ aP (W.setCells b (i*3+j) seg)/\Fr B own own W (W.setCells b (i*3+j) seg):=by
 have cY:own b=2:=h.cells.1 b rfl;have dE:w0.heap.size<=b:=Nat.le_of_not_lt fun aJ=>by rw [h.jU b aJ] at cY;cases cY
 have aS:=(Kd.ie h.cells).1;obtain ⟨ay,_⟩:=h.cell aa;obtain ⟨df,hM⟩:=Kd.y3 (d:=iU) (okp:=fun _=>False) h.cells (i:Int) (by omega) (by omega) (c:= [Value.int .i64 (cellAt s.cells i).num,.int .i64 (cellAt s.cells i).time,.int .i64 (cellAt s.cells i).lock]) rfl (by rw [Int.toNat_natCast];exact ay) aI (x':=x') (by rw [dw];exact Mk x') (fun k J=>J.elim);rw [Int.toNat_natCast] at df hM;have Ju:Below w0.heap.size w0 (W.setCells b (i*3+j) seg):=h.below.trans ⟨hM.os,hM.tape,hM.output,hM.size,fun k J=>pn seg _ k (by omega)⟩;have cP:(W.setCells b (i*3+j) seg).heap.size=W.heap.size:=(pV b seg _ W).2.2.2;have gT:∀ k,own k ≠ 2->(W.setCells b (i*3+j) seg).heap[k]? = W.heap[k]? :=fun k J=>pn seg _ k (fun he=>J (by rw [he];exact cY))
 refine ⟨⟨Ju,h.jU,fun k J=>h.dk k (by omega),h.prog,h.hI,(gT g (by rw [h.hI];decide)).trans h.bB, ?_,Kd.eI h.tasks (fun k J _=>gT k (by omega)),h.fj,Kd.eI h.log (fun k J _=>gT k (by omega))⟩,
  ⟨hM.os,hM.tape,hM.output,hM.size,fun _ _ J=>J,fun k _ J=>gT k (by omega)⟩⟩
 exact df
theorem bI.Rs (h:bI T w0 g own bh a8 p s aG aZ aP W) (u:Int):bI T w0 g own bh a8 p {s with clock:=u} aG aZ aP (W.setCell ⟨g,4,none⟩ (.int .i64 u))/\Fr B own own W (W.setCell ⟨g,4,none⟩ (.int .i64 u)):=by
 have e5:w0.heap.size<=g:=Nat.le_of_not_lt fun aJ=>by have:=h.hI;rw [h.jU g aJ] at this;cases this
 have gT:∀ k,own k ≠ 1->(W.setCell ⟨g,4,none⟩ (.int .i64 u)).heap[k]? = W.heap[k]? :=fun k J=>Below.heap_setCell W ⟨g,4,none⟩ _ k (fun he=>J (by rw [show k=g from he];exact h.hI))
 exact ⟨⟨jj h.below e5,h.jU,fun k J=>h.dk k (by simpa [World.setCell] using J),h.prog,h.hI,ku h.bB 4 _,Kd.eI h.cells (fun k J _=>gT k (by omega)),Kd.eI h.tasks (fun k J _=>gT k (by omega)),h.fj,Kd.eI h.log (fun k J _=>gT k (by omega))⟩,
  Fr.set (.inr (by rw [h.hI];decide)) 4 _⟩
theorem x0 {own:Nat->Nat} {w:World} {base:Nat} {ok:Nat->Prop} {y:Task × Nat} {cs:List Value} (h:(gg own).M w base ok y cs):(gg own).M w base (fun k=>8<=own k) y cs:=by
 obtain ⟨x,i⟩:=y;obtain ⟨v3,bC,v9,v10,rfl,aA,dU,eb,e7⟩:=hA h;exact nh x i (Kd.cG aA fun k J=>⟨by omega,J.2⟩) (Kd.cG dU fun k J=>⟨by omega,J.2⟩) (Kd.cG eb fun k J=>⟨by omega,J.2⟩) (Kd.cG e7 fun k J=>⟨by omega,J.2⟩)
theorem SK {own:Nat->Nat} {w w1:World} {base i t:Nat} {ok:Nat->Prop} {x:Task} {j:Nat} {cs:List Value} (h:(gg own).M w base ok (x,j) cs) (a6:8+8*i<=t/\t < 16+8*i) (aI:j ≠ i) (hm:∀ k,own k ≠ 0->own k ≠ t->w1.heap[k]? = w.heap[k]?):(gg own).M w1 base ok (x,j) cs:=by
 obtain ⟨v3,bC,v9,v10,rfl,aA,dU,eb,e7⟩:=hA h
 exact nh x j (Kd.eI aA fun k J _=>hm k (by have:=J.2;omega) (by have:=J.2;omega)) (Kd.eI dU fun k J _=>hm k (by have:=J.2;omega) (by have:=J.2;omega))
  (Kd.eI eb fun k J _=>hm k (by have:=J.2;omega) (by have:=J.2;omega)) (Kd.eI e7 fun k J _=>hm k (by have:=J.2;omega) (by have:=J.2;omega))
theorem bI.inner {b cap n:Nat} (h:bI T w0 g own bh a8 p s aG (.slice (some ⟨b,0,none⟩) n cap) aP W) {i:Nat} (aa:i < s.tasks.length) {x':Task} (t:Nat) (a6:8+8*i<=t/\t < 16+8*i) (hm:∀ k,own k ≠ 0->own k ≠ t->W1.heap[k]? = W.heap[k]?)
  (I:Below w0.heap.size w0 W1) (hs:W.heap.size<=W1.heap.size)
  (az:∀ cs,(∀ j u,cs[j]? = some u->W.cell? ⟨b,i*13+j,none⟩=some u)->(gg own).M W w0.heap.size (fun k=>8<=own k) (R s i,i) cs->(gg own).M W1 w0.heap.size (fun k=>8<=own k) (x',i) cs):
  bI T w0 g own bh a8 p (b0 s i x') aG (.slice (some ⟨b,0,none⟩) n cap) aP W1:=by
 have cY:own b=3:=h.fj b rfl;have aS:=(Kd.ie h.tasks).1;rw [fH] at aS;refine ⟨I,h.jU,fun k J=>h.dk k (by omega),h.prog,h.hI,(hm g (by rw [h.hI];decide) (by rw [h.hI];omega)).trans h.bB,Kd.eI h.cells (fun k J _=>hm k (by omega) (by omega)), ?_,h.fj,Kd.eI h.log (fun k J _=>hm k (by omega) (by omega))⟩;show (gg own).aC _ _ _ _ _ (s.tasks.set i x').zipIdx;obtain ⟨aq,inner,aT,ao⟩:=h.tasks;rw [FR];refine ⟨aq,inner, ?_, ?_⟩
 ·rw [List.length_set]
  exact L8 aT (fun k J=>hm k (by rw [h.fj k J];decide) (by rw [h.fj k J];omega))
 ·refine ⟨by rw [List.length_set];exact ao.1,fun j y aW=> ?_⟩
  rw [List.getElem?_set] at aW;split at aW
  ·rename_i sO
   subst sO;split at aW
   ·cases aW
    rename_i aJ;have dw:=ao.2 i _ (List.getElem?_eq_getElem aJ);have aX:s.tasks.zipIdx[i]=(R s i,i):=FH (List.getElem?_eq_getElem aJ);rw [aX] at dw;refine (gg own).k1 (fun k J=>⟨.inr J,fun he=> ?_⟩) (az _ (fun j u hu=> ?_) (x0 dw))
    ·have:k=b:=by simpa [Value.ownBlock] using he
     rw [this,cY] at J;omega
    ·rw [List.getElem?_take] at hu
     split at hu
     ·rw [List.getElem?_drop] at hu
      have:=aT.cells (g:=b) (by simp [Value.ownBlock]) _ u hu
      rwa [add_plain] at this
     ·cases hu
   ·cases aW
  ·rename_i sO
   have dw:=ao.2 j y aW;obtain rfl:=FH aW;exact SK dw a6 (fun he=>sO he.symm) hm
theorem bI.y5 {b cap n n' c gr:Nat} (h:bI T w0 g own bh a8 p s aG (.slice (some ⟨b,0,none⟩) n cap) aP W) {i:Nat} (aa:i < s.tasks.length)
  (ay:W.cell? ⟨b,i*13+3,none⟩=some (.slice (some ⟨gr,0,none⟩) n' c)) (a:Nat) (ha:a < (R s i).aL.length) (u:Int):
  bI T w0 g own bh a8 p (b0 s i {R s i with aL:=(R s i).aL.set a u}) aG (.slice (some ⟨b,0,none⟩) n cap) aP (W.setCell ⟨gr,a,none⟩ (.int .i64 u))/\Fr B own own W (W.setCell ⟨gr,a,none⟩ (.int .i64 u)):=by
 obtain ⟨v3,bC,v9,v10,aM,_,aA,_⟩:=h.task aa
 have he:v3= .slice (some ⟨gr,0,none⟩) n' c:=by
  have:=aM 3 v3 rfl
  rw [ay] at this;injection this with this;exact this.symm
 subst he;have p':own gr=8+8*i:=aA.1 gr rfl;have e5:w0.heap.size<=gr:=Nat.le_of_not_lt fun aJ=>by rw [h.jU gr aJ] at p';omega
 have gT:∀ k,own k ≠ 8+8*i->(W.setCell ⟨gr,a,none⟩ (.int .i64 u)).heap[k]? = W.heap[k]? :=fun k J=>Below.heap_setCell W ⟨gr,a,none⟩ _ k (fun he=>J (by rw [show k=gr from he];exact p'))
 have acO:=(Kd.ie aA).1;refine ⟨h.inner aa (8+8*i) ⟨by omega,by omega⟩ (fun k _ J=>gT k J) (jj h.below e5) (by simp [World.setCell]) (fun cs e4 dw=> ?_),Fr.set (.inr (by omega)) a _⟩;obtain ⟨u3,u8,u9,u10,rfl,dj,fy,hh,fi⟩:=hA dw
 have hu:u3= .slice (some ⟨gr,0,none⟩) n' c:=by
  have:=e4 3 u3 rfl
  rw [ay] at this;injection this with this;exact this.symm
 subst hu;obtain ⟨e,dC,Jv,kP,_⟩:=Kd.ob dj 0 (a:Int) (by omega) (by omega);have Un:e= [Value.int .i64 (rd (R s i).aL a)]:=Jv;obtain ⟨df,_⟩:=Kd.y3 (d:=Kd.int .i64) (okp:=fun _=>False) dj (a:Int) (by omega) (by omega) (c:=e) (seg:= [.int .i64 u]) (j:=0) (x':=u) dC kP (Nat.le_refl 1) (by subst Un;rfl) (fun k J=>J.elim)
 have hw:W.setCells gr ((a:Int).toNat*(Kd.int .i64).bD+0) [.int .i64 u]=W.setCell ⟨gr,a,none⟩ (.int .i64 u):=by
  show W.setCell ⟨gr,(a:Int).toNat*1+0,none⟩ _=_;rw [Int.toNat_natCast,Nat.mul_one,Nat.add_zero]
 rw [hw,Int.toNat_natCast] at df;refine nh {R s i with aL:=(R s i).aL.set a u} i df (Kd.eI fy fun k J _=>gT k (by have:=J.2;omega)) (Kd.eI hh fun k J _=>gT k (by have:=J.2;omega)) (Kd.eI fi fun k J _=>gT k (by have:=J.2;omega))
end
def eK (x:Task) (v3 bC v9 v10:Value):List Value:= [.int .i64 x.body,.int .i64 x.aR,.int .i64 x.up,v3,.int .i64 x.a7,.int .i64 x.aE,.int .i64 x.at_,.int .i64 x.since,bC,v9,v10,.int .i64 x.bw,.int .i64 x.from_]
section
variable {T B:Nat} {w0:World} {g:Nat} {own own':Nat->Nat} {bh a8:Value} {p:Prog} {s:Sys} {aG aZ aP:Value} {W W1:World}
theorem bI.fe {b cap n:Nat} (h:bI T w0 g own bh a8 p s aG (.slice (some ⟨b,0,none⟩) n cap) aP W) {i:Nat} (aa:i < s.tasks.length):∃ v3 bC v9 v10,
  (∀ j u,(eK (R s i) v3 bC v9 v10)[j]? = some u->W.cell? ⟨b,i*13+j,none⟩=some u)/\
  (∀ j,W.frozen? ⟨b,i*13+j,none⟩=false)/\(gg own).M W w0.heap.size (fun k=>8<=own k) (R s i,i) (eK (R s i) v3 bC v9 v10):=by
 have aS:=(Kd.ie h.tasks).1;rw [fH] at aS;obtain ⟨c,_,dw,ay,bb⟩:=Kd.ob h.tasks (dS,0) (i:Int) (by omega) (by omega);rw [Int.toNat_natCast] at dw ay bb;rw [H6 aa] at dw;have DU:=x0 dw;obtain ⟨v3,bC,v9,v10,rfl,aA,dU,eb,e7⟩:=hA dw;exact ⟨v3,bC,v9,v10,ay,bb,DU⟩
theorem bI.setInt {b cap n:Nat} (h:bI T w0 g own bh a8 p s aG (.slice (some ⟨b,0,none⟩) n cap) aP W) {i:Nat} (aa:i < s.tasks.length) (j:Nat) (aI:j < 13) (u:Int) (x':Task)
  (az:∀ v3 bC v9 v10,(eK (R s i) v3 bC v9 v10).take j ++ [.int .i64 u] ++ (eK (R s i) v3 bC v9 v10).drop (j+1)=eK x' v3 bC v9 v10)
  (hs:x'.aL=(R s i).aL/\x'.bE=(R s i).bE/\x'.reads=(R s i).reads/\x'.ai=(R s i).ai):
  bI T w0 g own bh a8 p (b0 s i x') aG (.slice (some ⟨b,0,none⟩) n cap) aP (W.setCell ⟨b,i*13+j,none⟩ (.int .i64 u))/\Fr B own own W (W.setCell ⟨b,i*13+j,none⟩ (.int .i64 u)):=by
 obtain ⟨v3,bC,v9,v10,ay,_,dw⟩:=h.fe aa;obtain ⟨u3,u8,u9,u10,he,aA,dU,eb,e7⟩:=hA dw;simp only [eK,List.cons.injEq,true_and] at he;obtain ⟨rfl,rfl,rfl,rfl,-⟩:=he;refine h.seg aa (c:=eK (R s i) v3 bC v9 v10) (seg:= [.int .i64 u]) (j:=j) (x':=x') rfl ay (by simp;omega) ?_;rw [List.length_singleton,az];exact nh x' i (by rw [hs.1];exact aA) (by rw [hs.2.1];exact dU) (by rw [hs.2.2.1];exact eb) (by rw [hs.2.2.2];exact e7)
theorem oF {α:Type} {d:Kd α} (aO:∀ w base ok ok' x cs,d.M w base ok x cs->d.M w base ok' x cs) {e base:Nat} {ok ok':Nat->Prop} {v:Value} {xs:List α} (h:d.aC e W base ok v xs) (bp:∀ k,v.ownBlock=some k->ok' k):d.aC e W base ok' v xs:=
 ⟨bp,h.2.lJ (fun _ _ aB=>aO _ _ _ _ _ _ aB)⟩
theorem Br:∀ (w:World) base ok ok' x cs,(Kd.int .i64).M w base ok x cs->(Kd.int .i64).M w base ok' x cs:=fun _ _ _ _ _ _ h=>h
theorem xY:∀ (w:World) base ok ok' x cs,cn.M w base ok x cs->cn.M w base ok' x cs:=fun _ _ _ _ _ _ h=>h
theorem RM:∀ (w:World) base ok ok' x cs,iU.M w base ok x cs->iU.M w base ok' x cs:=fun _ _ _ _ _ _ h=>h
theorem fc {α:Type} {d:Kd α} {e base:Nat} {ok:Nat->Prop} {v:Value} {xs:List α} (h:d.aC e W base ok v xs):∀ k,v.ownBlock=some k->ok k/\base<=k/\k < W.heap.size:=fun k J=>by
 obtain ⟨h1,ar,aA,_⟩:=(Kd.fW h).1 k J;exact ⟨h1,ar,aA⟩
theorem iW {own:Nat->Nat} {b:Option Nat} {t k:Nat} (h:b=some k):ef own b t k=t:=by simp [ef,h]
theorem bI.YQ {b cap n:Nat} (h:bI T w0 g own bh a8 p s aG (.slice (some ⟨b,0,none⟩) n cap) aP W) {i:Nat} (aa:i < s.tasks.length) {v:Value} {xs:List Int} (bp:(Kd.int .i64).aC 3 W w0.heap.size (fun k=>own k=0/\B<=k) v xs):
  bI T w0 g (ef own v.ownBlock (8+8*i)) bh a8 p (b0 s i {R s i with aL:=xs}) aG (.slice (some ⟨b,0,none⟩) n cap) aP (W.setCell ⟨b,i*13+3,none⟩ v)/\Fr B own (ef own v.ownBlock (8+8*i)) W (W.setCell ⟨b,i*13+3,none⟩ v)/\∀ k,own k ≠ 0->ef own v.ownBlock (8+8*i) k=own k:=by
 have a6:=h.tag (t:=8+8*i) (fun k J=>⟨(fc bp k J).1.1,(fc bp k J).2⟩);have h1:=h.rn a6;have bG:=oF Br bp (ok':=fun k=>8<=ef own v.ownBlock (8+8*i) k/\ef own v.ownBlock (8+8*i) k=8+8*i) (fun k J=>by rw [iW J];omega)
 obtain ⟨v3,bC,v9,v10,ay,_,dw⟩:=h1.fe aa;obtain ⟨u3,u8,u9,u10,he,aA,dU,eb,e7⟩:=hA dw;simp only [eK,List.cons.injEq,true_and] at he;obtain ⟨rfl,rfl,rfl,rfl,-⟩:=he;obtain ⟨aU,a1⟩:=h1.seg aa (c:=eK (R s i) v3 bC v9 v10) (seg:= [v]) (j:=3) (x':={R s i with aL:=xs}) rfl ay (by simp) (nh {R s i with aL:=xs} i bG dU eb e7);refine ⟨aU,Fr.trans (Fr.tagged W fun k J aq=> ?_) a1,a6.same⟩;unfold ef;split
 ·rename_i he
  have:=(fc bp k he).1.2
  omega
 ·exact aq
theorem bI.Ym {b cap n:Nat} (h:bI T w0 g own bh a8 p s aG (.slice (some ⟨b,0,none⟩) n cap) aP W) {i:Nat} (aa:i < s.tasks.length) {v:Value} {xs:List Int} (bp:(Kd.int .i64).aC 3 W w0.heap.size (fun k=>own k=0/\B<=k) v xs):
  bI T w0 g (ef own v.ownBlock (9+8*i)) bh a8 p (b0 s i {R s i with bE:=xs}) aG (.slice (some ⟨b,0,none⟩) n cap) aP (W.setCell ⟨b,i*13+8,none⟩ v)/\Fr B own (ef own v.ownBlock (9+8*i)) W (W.setCell ⟨b,i*13+8,none⟩ v)/\∀ k,own k ≠ 0->ef own v.ownBlock (9+8*i) k=own k:=by
 have a6:=h.tag (t:=9+8*i) (fun k J=>⟨(fc bp k J).1.1,(fc bp k J).2⟩);have h1:=h.rn a6;have bG:=oF Br bp (ok':=fun k=>8<=ef own v.ownBlock (9+8*i) k/\ef own v.ownBlock (9+8*i) k=9+8*i) (fun k J=>by rw [iW J];omega)
 obtain ⟨v3,bC,v9,v10,ay,_,dw⟩:=h1.fe aa;obtain ⟨u3,u8,u9,u10,he,aA,dU,eb,e7⟩:=hA dw;simp only [eK,List.cons.injEq,true_and] at he;obtain ⟨rfl,rfl,rfl,rfl,-⟩:=he;obtain ⟨aU,a1⟩:=h1.seg aa (c:=eK (R s i) v3 bC v9 v10) (seg:= [v]) (j:=8) (x':={R s i with bE:=xs}) rfl ay (by simp) (nh {R s i with bE:=xs} i aA bG eb e7);refine ⟨aU,Fr.trans (Fr.tagged W fun k J aq=> ?_) a1,a6.same⟩;unfold ef;split
 ·rename_i he
  have:=(fc bp k he).1.2
  omega
 ·exact aq
theorem bI.Ma {b cap n:Nat} (h:bI T w0 g own bh a8 p s aG (.slice (some ⟨b,0,none⟩) n cap) aP W) {i:Nat} (aa:i < s.tasks.length) {v:Value} {xs:List cI} (bp:cn.aC 52 W w0.heap.size (fun k=>own k=0/\B<=k) v xs):
  bI T w0 g (ef own v.ownBlock (10+8*i)) bh a8 p (b0 s i {R s i with reads:=xs}) aG (.slice (some ⟨b,0,none⟩) n cap) aP (W.setCell ⟨b,i*13+9,none⟩ v)/\Fr B own (ef own v.ownBlock (10+8*i)) W (W.setCell ⟨b,i*13+9,none⟩ v)/\∀ k,own k ≠ 0->ef own v.ownBlock (10+8*i) k=own k:=by
 have a6:=h.tag (t:=10+8*i) (fun k J=>⟨(fc bp k J).1.1,(fc bp k J).2⟩);have h1:=h.rn a6;have bG:=oF xY bp (ok':=fun k=>8<=ef own v.ownBlock (10+8*i) k/\ef own v.ownBlock (10+8*i) k=10+8*i) (fun k J=>by rw [iW J];omega)
 obtain ⟨v3,bC,v9,v10,ay,_,dw⟩:=h1.fe aa;obtain ⟨u3,u8,u9,u10,he,aA,dU,eb,e7⟩:=hA dw;simp only [eK,List.cons.injEq,true_and] at he;obtain ⟨rfl,rfl,rfl,rfl,-⟩:=he;obtain ⟨aU,a1⟩:=h1.seg aa (c:=eK (R s i) v3 bC v9 v10) (seg:= [v]) (j:=9) (x':={R s i with reads:=xs}) rfl ay (by simp) (nh {R s i with reads:=xs} i aA dU bG e7);refine ⟨aU,Fr.trans (Fr.tagged W fun k J aq=> ?_) a1,a6.same⟩;unfold ef;split
 ·rename_i he
  have:=(fc bp k he).1.2
  omega
 ·exact aq
theorem bI.CP {b cap n:Nat} (h:bI T w0 g own bh a8 p s aG (.slice (some ⟨b,0,none⟩) n cap) aP W) {i:Nat} (aa:i < s.tasks.length) {v:Value} {xs:List cI} (bp:cn.aC 52 W w0.heap.size (fun k=>own k=0/\B<=k) v xs):
  bI T w0 g (ef own v.ownBlock (11+8*i)) bh a8 p (b0 s i {R s i with ai:=xs}) aG (.slice (some ⟨b,0,none⟩) n cap) aP (W.setCell ⟨b,i*13+10,none⟩ v)/\Fr B own (ef own v.ownBlock (11+8*i)) W (W.setCell ⟨b,i*13+10,none⟩ v)/\∀ k,own k ≠ 0->ef own v.ownBlock (11+8*i) k=own k:=by
 have a6:=h.tag (t:=11+8*i) (fun k J=>⟨(fc bp k J).1.1,(fc bp k J).2⟩);have h1:=h.rn a6;have bG:=oF xY bp (ok':=fun k=>8<=ef own v.ownBlock (11+8*i) k/\ef own v.ownBlock (11+8*i) k=11+8*i) (fun k J=>by rw [iW J];omega)
 obtain ⟨v3,bC,v9,v10,ay,_,dw⟩:=h1.fe aa;obtain ⟨u3,u8,u9,u10,he,aA,dU,eb,e7⟩:=hA dw;simp only [eK,List.cons.injEq,true_and] at he;obtain ⟨rfl,rfl,rfl,rfl,-⟩:=he;obtain ⟨aU,a1⟩:=h1.seg aa (c:=eK (R s i) v3 bC v9 v10) (seg:= [v]) (j:=10) (x':={R s i with ai:=xs}) rfl ay (by simp) (nh {R s i with ai:=xs} i aA dU eb bG);refine ⟨aU,Fr.trans (Fr.tagged W fun k J aq=> ?_) a1,a6.same⟩;unfold ef;split
 ·rename_i he
  have:=(fc bp k he).1.2
  omega
 ·exact aq
theorem bI.Rt {b cap n:Nat} (h:bI T w0 g own bh a8 p s aG (.slice (some ⟨b,0,none⟩) n cap) aP W) {i:Nat} (aa:i < s.tasks.length) {v:Value} {xs:List Int} (bp:(Kd.int .i64).aC 3 W w0.heap.size (fun k=>own k=0/\B<=k) v xs):
  ∃ own',bI T w0 g own' bh a8 p (b0 s i {R s i with aL:=xs}) aG (.slice (some ⟨b,0,none⟩) n cap) aP (W.setCell ⟨b,i*13+3,none⟩ v)/\Fr B own own' W (W.setCell ⟨b,i*13+3,none⟩ v)/\∀ k,own k ≠ 0->own' k=own k:=⟨_,h.YQ aa bp⟩
theorem bI.YR {b cap n:Nat} (h:bI T w0 g own bh a8 p s aG (.slice (some ⟨b,0,none⟩) n cap) aP W) {i:Nat} (aa:i < s.tasks.length) {v:Value} {xs:List Int} (bp:(Kd.int .i64).aC 3 W w0.heap.size (fun k=>own k=0/\B<=k) v xs):
  ∃ own',bI T w0 g own' bh a8 p (b0 s i {R s i with bE:=xs}) aG (.slice (some ⟨b,0,none⟩) n cap) aP (W.setCell ⟨b,i*13+8,none⟩ v)/\Fr B own own' W (W.setCell ⟨b,i*13+8,none⟩ v)/\∀ k,own k ≠ 0->own' k=own k:=⟨_,h.Ym aa bp⟩
theorem bI.Ir {b cap n:Nat} (h:bI T w0 g own bh a8 p s aG (.slice (some ⟨b,0,none⟩) n cap) aP W) {i:Nat} (aa:i < s.tasks.length) {v:Value} {xs:List cI} (bp:cn.aC 52 W w0.heap.size (fun k=>own k=0/\B<=k) v xs):
  ∃ own',bI T w0 g own' bh a8 p (b0 s i {R s i with reads:=xs}) aG (.slice (some ⟨b,0,none⟩) n cap) aP (W.setCell ⟨b,i*13+9,none⟩ v)/\Fr B own own' W (W.setCell ⟨b,i*13+9,none⟩ v)/\∀ k,own k ≠ 0->own' k=own k:=⟨_,h.Ma aa bp⟩
theorem bI.Ig {b cap n:Nat} (h:bI T w0 g own bh a8 p s aG (.slice (some ⟨b,0,none⟩) n cap) aP W) {i:Nat} (aa:i < s.tasks.length) {v:Value} {xs:List cI} (bp:cn.aC 52 W w0.heap.size (fun k=>own k=0/\B<=k) v xs):
  ∃ own',bI T w0 g own' bh a8 p (b0 s i {R s i with ai:=xs}) aG (.slice (some ⟨b,0,none⟩) n cap) aP (W.setCell ⟨b,i*13+10,none⟩ v)/\Fr B own own' W (W.setCell ⟨b,i*13+10,none⟩ v)/\∀ k,own k ≠ 0->own' k=own k:=⟨_,h.CP aa bp⟩
end
section
variable {T B:Nat} {w0:World} {g:Nat} {own:Nat->Nat} {bh a8:Value} {p:Prog} {s:Sys} {aG aZ aP:Value} {W W1:World}
open Classical in
noncomputable def va (own:Nat->Nat) (B:Nat) (W:World) (E:List Nat) (t:Nat):Nat->Nat:=fun k=>
 if own k=0/\B<=k/\k < W.heap.size/\∃ q,q ∈ E/\∃ cells,W.heap[k]? = some (.cells cells q (0,0)) then t else own k
theorem Ru {E:List Nat} {t k:Nat} (h:own k=0/\B<=k/\k < W.heap.size/\∃ q,q ∈ E/\∃ cells,W.heap[k]? = some (.cells cells q (0,0))):va own B W E t k=t:=if_pos h
theorem Rv {E:List Nat} {t k:Nat} (h:own k ≠ 0):va own B W E t k=own k:=if_neg (fun ct=>h ct.1)
theorem H7 {E:List Nat} {t k:Nat} (h:k < B):va own B W E t k=own k:=if_neg (fun ct=>by have:=ct.2.1;omega)
theorem Ra {E:List Nat} {t k:Nat} (h:W.heap.size<=k):va own B W E t k=own k:=if_neg (fun ct=>by have:=ct.2.2.1;omega)
theorem bI.QR (h:bI T w0 g own bh a8 p s aG aZ aP W) (dt:w0.heap.size<=B) (sQ:B<=W.heap.size) (I:Below w0.heap.size w0 W1) (U:W.grownBy W1 aP.ownBlock) {v1:Value} {log':List Entry}
  (ao:hf.aC 105 W1 w0.heap.size (fun k=>own k=4\/(own k=0/\B<=k)) v1 log'):
  bI T w0 g (va own B W1 (105 :: hf.E) 4) bh a8 p {s with log:=log'} aG aZ v1 (W1.setCell ⟨g,5,none⟩ v1)/\Fr B own (va own B W1 (105 :: hf.E) 4) W (W1.setCell ⟨g,5,none⟩ v1):=by
 have yu:∀ k,aP.ownBlock=some k->own k=4:=h.log.1;have e5:w0.heap.size<=g:=Nat.le_of_not_lt fun aJ=>by have:=h.hI;rw [h.jU g aJ] at this;cases this
 have cm:∀ k,own k ≠ 4->some k ≠ aP.ownBlock:=fun k J he=>J (yu k he.symm)
 have gT:∀ k,own k ≠ 4->own k ≠ 1->k < W.heap.size->(W1.setCell ⟨g,5,none⟩ v1).heap[k]? = W.heap[k]? :=fun k bR h1 ak=>
  (Below.heap_setCell W1 ⟨g,5,none⟩ v1 k (fun he=>h1 (by rw [show k=g from he];exact h.hI))).trans (U.block k ak (cm k bR))
 have kF:∀ k,own k ≠ 0->va own B W1 (105 :: hf.E) 4 k=own k:=fun k J=>Rv J
 have iC:W1.heap[g]? = _:=(U.block g (dK h.bB) (cm g (by rw [h.hI];decide))).trans h.bB
 refine ⟨⟨jj I e5,fun k J=>(H7 (by omega)).trans (h.jU k J),fun k J=> ?_,h.prog,(kF g (by rw [h.hI];decide)).trans h.hI, ?_,
  Kd.cG (Kd.eI h.cells (fun k J ak=>gT k (by omega) (by omega) ak)) (fun k J=>by rw [kF k (by omega)];exact J),
  Kd.cG (d:=gg (va own B W1 (105 :: hf.E) 4)) ⟨(Kd.eI h.tasks (fun k J ak=>gT k (by omega) (by omega) ak)).1,(Kd.eI h.tasks (fun k J ak=>gT k (by omega) (by omega) ak)).2.lJ (fun _ _ aB=>C6 (fun k _ J=>kF k (by have:=J.1;omega)) aB)⟩ (fun k J=>by rw [kF k (by omega)];exact J),
  fun k J=>by rw [kF k (by rw [h.fj k J];decide)];exact h.fj k J, ?_⟩,
  ⟨U.os,U.tape,U.output,by simpa [World.setCell] using U.size,fun k J aq=>(H7 J).trans aq, ?_⟩⟩
 ·have rS:W1.heap.size<=k:=by simpa [World.setCell] using J
  exact (Ra rS).trans (h.dk k (Nat.le_trans U.size rS))
 ·have:=ku iC 5 v1
  simpa using this
 ·refine Kd.cG (Kd.fW (Kd.lp (p:=⟨g,5,none⟩) ao (fun k J he=> ?_) v1)) (fun k J=> ?_)
  ·rw [show k=g from he,h.hI] at J
   omega
  ·obtain ⟨h1,ar,aA,bR⟩:=J
   rcases h1 with h1 | ⟨h1,br⟩
   ·rw [kF k (by omega)]
    exact h1
   ·refine Ru ⟨h1,br,by simpa [World.setCell] using aA, ?_⟩
    obtain ⟨q,aF,cells,ay⟩:=bR;refine ⟨q,aF,cells, ?_⟩;rw [<-ay];exact (Below.heap_setCell W1 ⟨g,5,none⟩ v1 k (fun he=>by rw [show k=g from he,h.hI] at h1;cases h1)).symm
 ·intro k J aq
  rcases Nat.lt_or_ge k W.heap.size with ak | ak
  ·exact gT k (by omega) (by omega) ak
  ·omega
end
section
variable {w0:World} {g:Nat} {own:Nat->Nat} {bh a8:Value} {p:Prog} {s:Sys} {aG aZ aP:Value}
theorem MA (i:Nat) (w:World) (h:bI 88 w0 g own bh a8 p s aG aZ aP w) (aa:i < s.tasks.length) (aS:s.tasks.length<=1048576):
  Calls Tryz.prog 110 #[.pointer (some ⟨g,0,none⟩),.int .i64 i] w fun e af=>e= .returned (.tuple #[])/\bI 88 w0 g own bh a8 p (ib s i 3) aG aZ aP af/\Fr w.heap.size own own w af:=by
 obtain ⟨b,cap,rfl,cY,jb⟩:=h.iV (by omega);obtain ⟨v3,bC,v9,v10,aM,bb,_⟩:=h.fe aa;have H:=am h;have aN:=bf h.bB;obtain ⟨cX,bL,rfl⟩:=h.kI;obtain ⟨cU,bO,rfl⟩:=h.hV;have QB:=aM 4 _ rfl;have ad5:=bb 4;clear h aM bb cY;go_enter Tryz.func110,Tryz.ntmps110;have bz:(0:Int)<=(i:Int):=by omega
 have b7:(i:Int) < (s.tasks.length:Int):=by omega
 go_wp2;refine fv ?_;obtain ⟨aU,a1⟩:=H.1.setInt aa 4 (by decide) 3 {R s i with a7:=3} (fun _ _ _ _=>rfl) ⟨rfl,rfl,rfl,rfl⟩;exact ⟨rfl,aU,a1⟩
theorem BA (i:Nat) (st:Int) (w:World) (h:bI 88 w0 g own bh a8 p s aG aZ aP w) (aa:i < s.tasks.length) (aS:s.tasks.length<=1048576):
  Calls Tryz.prog 136 #[.pointer (some ⟨g,0,none⟩),.int .i64 i,.int .i64 st] w fun e af=>e= .returned (.tuple #[])/\bI 88 w0 g own bh a8 p (k4 s i st) aG aZ aP af/\Fr w.heap.size own own w af:=by
 obtain ⟨b,cap,rfl,cY,jb⟩:=h.iV (by omega);obtain ⟨v3,bC,v9,v10,aM,bb,_⟩:=h.fe aa;have H:=am h;have aN:=bf h.bB;obtain ⟨cX,bL,rfl⟩:=h.kI;obtain ⟨cU,bO,rfl⟩:=h.hV;have YS:=aM 5 _ rfl;have YT:=bb 5;have WY:=aM 6 _ rfl;have WZ:=bb 6;clear h aM bb cY;go_enter Tryz.func136,Tryz.ntmps136;have bz:(0:Int)<=(i:Int):=by omega
 have b7:(i:Int) < (s.tasks.length:Int):=by omega
 go_wp2;refine fv ?_;obtain ⟨aU,a1⟩:=H.1.setInt aa 5 (by decide) st {R s i with aE:=st} (fun _ _ _ _=>rfl) ⟨rfl,rfl,rfl,rfl⟩;obtain ⟨dz,g'⟩:=aU.setInt (i:=i) (by rw [c5];exact aa) 6 (by decide) 0 {R s i with aE:=st,at_:=0} (fun _ _ _ _=>by rw [cD aa];rfl) (by rw [cD aa];exact ⟨rfl,rfl,rfl,rfl⟩);rw [set_set] at dz;exact ⟨rfl,dz,a1.trans g'⟩
def si (s:Sys) (i k:Nat):Sys:={s with cells:=(s.cells.take k).map (fun c=>if c.lock=(i:Int) then {c with lock:= -1} else c) ++ s.cells.drop k}
theorem R6 (s:Sys) (i:Nat):si s i 0=s:=by simp [si]
theorem RN (s:Sys) (i:Nat):si s i s.cells.length=free s i:=by simp [si,free]
theorem zh (s:Sys) (i k:Nat):(si s i k).cells.length=s.cells.length:=by simp [si];omega
theorem CV {s:Sys} {i k:Nat} (h:k < s.cells.length):cellAt (si s i k).cells k=cellAt s.cells k:=by
 simp [cellAt,si,List.getD_eq_getElem?_getD,List.getElem?_append_right,Nat.min_eq_left (Nat.le_of_lt h)]
theorem R7 {s:Sys} {i k:Nat} (h:k < s.cells.length):si s i (k+1)=setCell (si s i k) k (if (cellAt s.cells k).lock=(i:Int) then {cellAt s.cells k with lock:= -1} else cellAt s.cells k):=by
 have ay:cellAt s.cells k=s.cells[k]:=by simp [cellAt,h]
 have ak:((s.cells.take k).map (fun c=>if c.lock=(i:Int) then {c with lock:= -1} else c)).length=k:=by simp;omega
 rw [ay];simp only [si,setCell];congr 1;rw [List.set_append_right _ _ (by rw [ak];exact Nat.le_refl k),ak,Nat.sub_self,List.take_succ_eq_append_getElem h,List.map_append,List.drop_eq_getElem_cons h,List.set_cons_zero,List.append_assoc];rfl
theorem SL {s:Sys} {k:Nat} (h:k < s.cells.length):setCell s k (cellAt s.cells k)=s:=by
 have:s.cells.set k (cellAt s.cells k)=s.cells:=by
  apply List.ext_getElem?;intro j;rw [List.getElem?_set];by_cases aI:k=j
  ·subst aI
   simp [h,cellAt]
  ·simp [aI]
 unfold setCell;rw [this]
theorem aaG (i:Nat) (w:World) (h:bI 88 w0 g own bh a8 p s aG aZ aP w) (aa:i < s.tasks.length) (aS:s.tasks.length<=1048576) (hm:s.cells.length<=1048576):
  Calls Tryz.prog 155 #[.pointer (some ⟨g,0,none⟩),.int .i64 i] w fun e af=>e= .returned (.tuple #[])/\bI 88 w0 g own bh a8 p (free s i) aG aZ aP af/\Fr w.heap.size own own w af:=by
 obtain ⟨cX,bL,rfl⟩:=h.kI;obtain ⟨dX,cu,rfl⟩:=h.FI;obtain ⟨cU,bO,rfl⟩:=h.hV;have H:=am h;clear h;go_enter Tryz.func155,Tryz.ntmps155;go_wp2;go_loopw [4] (fun j af=>∃ k:Nat,k<=s.cells.length/\j= .int .i64 k/\av (bI 88 w0 g own bh a8 p (si s i k) (.slice cX s.cells.length bL) (.slice dX s.tasks.length cu) (.slice cU s.log.length bO) af)/\av (Fr w.heap.size own own w af)) (fun j _=>s.cells.length - (intOf j).toNat)
 case atStart=>exact ⟨0,Nat.zero_le _,rfl,⟨by rw [R6];exact H.1⟩,⟨Fr.refl _ _ _⟩⟩
 case round=>
  clear H;obtain ⟨k,J,rfl,H,e3⟩:=hrel;have aN:=bf H.1.bB;by_cases aJ:k < s.cells.length
  ·obtain ⟨b,cap,he,gf,jb⟩:=H.1.tg (by rw [zh];omega)
   injection he with dC kP ub;subst dC;subst ub;clear kP;have cF:=am gf;obtain ⟨aM,bb⟩:=H.1.cell (i:=k) (by rw [zh];exact aJ);rw [CV aJ] at aM;have Yn:=aM 2 _ rfl;have Yo:=bb 2;clear aM bb gf;have bz:(0:Int)<=(k:Int):=by omega
   have b7:(k:Int) < (s.cells.length:Int):=by omega
   have eD:=am (R7 (i:=i) aJ);by_cases ak:(cellAt s.cells k).lock=(i:Int)
   ·have ed:((cellAt s.cells k).lock == (i:Int))=true:=by simp [ak]
    have dq:=am ak;clear ak;go_wp2;go_roundw
    case rel=>
     obtain ⟨aU,a1⟩:=H.1.AU (B:=wr.heap.size) (i:=k) (by rw [zh];exact aJ) (seg:= [.int .i64 (-1)]) (j:=2) (x':={cellAt s.cells k with lock:= -1}) (by decide) (by rw [CV aJ];rfl);rw [<-if_pos (c:=(cellAt s.cells k).lock=(i:Int)) (t:={cellAt s.cells k with lock:= -1}) (e:=cellAt s.cells k) dq.1,<-eD.1] at aU;exact ⟨k+1,by omega,by go_num,⟨aU⟩,⟨e3.1.trans (Fr.set (.inr (by rw [cF.1];decide)) _ _)⟩⟩
    case measure=>simp [intOf];omega
   ·have ed:((cellAt s.cells k).lock == (i:Int))=false:=by simp [ak]
    have dq:=am ak;clear ak;go_wp2;go_roundw
    case rel=>exact ⟨k+1,by omega,by go_num,⟨by rw [eD.1,if_neg dq.1,<-CV (i:=i) aJ,SL (by rw [zh];exact aJ)];exact H.1⟩,e3⟩
    case measure=>simp [intOf];omega
  ·go_wp2
   refine fv ?_;obtain rfl:k=s.cells.length:=by omega
   exact ⟨rfl,by rw [<-RN];exact H.1,e3.1⟩
end
section
variable {P:Program} {ops:Array Oper} {rest:List Oper} {o:Oper} {a:Go.Act} {Q:Exit->Go.Act->World->Prop}
theorem e9 {W:World} {t:TypeId} (eO:o.guard=none) (cz:o.dst=none) (p x:Operand) (aT:o.op= .store t p x) {g off:Nat} (aB:a.eval p= .pointer (some ⟨g,off,none⟩)) {u:Value} (az:a.eval x=u) (hu:u.cells= #[u]) (h1:u.oneCell'=true) (aa:(P.info? t).map (·.size)=some 1)
  (ao:(∃ u,W.cell? ⟨g,off,none⟩=some u)/\W.frozen? ⟨g,off,none⟩=false) (h:∀ w1,w1=W.setCell ⟨g,off,none⟩ u->wpList P ops Q rest a w1):wpList P ops Q (o :: rest) a W:=by
 obtain ⟨⟨z,aX⟩,bb⟩:=ao;refine wpList_plain eO fun K au=> ?_
 obtain ⟨info,ng,cP⟩:=Option.map_eq_some_iff.1 aa;unfold Oper.wp execOp
 have iT:(Instr.storeAt t (.pointer (some ⟨g,off,none⟩)) u).run P W= .ok () (W.setCell ⟨g,off,none⟩ u):=by
  have:=run_storeCells_cells (P:=P) g off [u] 0 W (fun j aI=>by
   have:j=0:=by simpa using aI
   subst this;simp [aX]) (fun j aI=>by
   have:j=0:=by simpa using aI
   subst this;simpa using bb) (fun q aF=>by rw [List.mem_singleton.1 aF];exact h1)
  simp only [Nat.add_zero] at this;simp [Instr.storeAt,Instr.sureAddr,storeVar,sizeOf,typeInfo,ng,cP,hu,this,World.setCells]
 simp only [aT,aB,az,Sem.run_bind,iT,Result.andThen_ok,Sem.run_pure,Oper.upon_skip];rw [cz];exact au _ _ (h _ rfl)
end
theorem bI.ready {T:Nat} {w0:World} {g:Nat} {own:Nat->Nat} {bh a8:Value} {p:Prog} {s:Sys} {aG aP:Value} {W:World} {b cap n:Nat} (h:bI T w0 g own bh a8 p s aG (.slice (some ⟨b,0,none⟩) n cap) aP W) {i:Nat} (aa:i < s.tasks.length) (j:Nat) (aI:j < 13):
  (∃ u,W.cell? ⟨b,i*13+j,none⟩=some u)/\W.frozen? ⟨b,i*13+j,none⟩=false:=by
 obtain ⟨v3,bC,v9,v10,aM,bb,-⟩:=h.fe aa;exact ⟨⟨_,aM j ((eK (R s i) v3 bC v9 v10)[j]'aI) (List.getElem?_eq_getElem aI)⟩,bb j⟩
section
variable {P:Program} {ops:Array Oper} {rest:List Oper} {o:Oper} {a:Go.Act} {Q:Exit->Go.Act->World->Prop}
theorem H0 {W:World} {t:TypeId} (eO:o.guard=none) (cz:o.dst=none) (p x:Operand) (aT:o.op= .store t p x) {g off:Nat} (aB:a.eval p= .pointer (some ⟨g,off,none⟩)) (seg:List Value) (az:a.eval x= .agg seg.toArray) (aa:(P.info? t).map (·.size)=some seg.length) (h1:∀ v ∈ seg,v.oneCell'=true)
  (ao:∀ j,j < seg.length->(W.cell? ⟨g,off+j,none⟩).isSome=true/\W.frozen? ⟨g,off+j,none⟩=false) (h:∀ w1,w1=W.setCells g off seg->wpList P ops Q rest a w1):wpList P ops Q (o :: rest) a W:=by
 refine wpList_store_mid eO t p x aT g off seg.toArray aB az (fun j aI=>ao j (by simpa using aI)) (by simpa using aa) (all_oneCell_toArray h1) ?_;simp only [cz,Go.Act.put];exact h _ rfl
end
theorem hW {W W1:World} (h:W.grownBy W1 none):Below W.heap.size W W1:=⟨h.os,h.tape,h.output,h.size,fun k J=>h.block k J (by simp)⟩
theorem qA {α:Type} {d:Kd α} {e base:Nat} {ok:Nat->Prop} {W:World} {v:Value} {xs:List α} (h:d.aC e W base ok v xs):v.cells= #[v]:=by
 obtain ⟨A,c,rfl⟩:=Kd.bt h;rfl
theorem qF {α:Type} {d:Kd α} {e base:Nat} {ok:Nat->Prop} {W:World} {v:Value} {xs:List α} (h:d.aC e W base ok v xs):v.oneCell'=true:=by
 obtain ⟨A,c,rfl⟩:=Kd.bt h;rfl
section
variable {w0:World} {g:Nat} {own:Nat->Nat} {bh a8:Value} {p:Prog} {s:Sys} {aG aZ aP:Value}
theorem C8 (i:Nat) (w:World) (h:bI 88 w0 g own bh a8 p s aG aZ aP w) (aa:i < s.tasks.length) (aS:s.tasks.length<=1048576) (hm:s.cells.length<=1048576) (aT:(R s i).bE.length<=1048576):
  Calls Tryz.prog 145 #[.pointer (some ⟨g,0,none⟩),.int .i64 i] w fun e af=>e= .returned (.tuple #[])/\∃ own',bI 88 w0 g own' bh a8 p (again s i) aG aZ aP af/\Fr w.heap.size own own' w af:=by
 have H:=am h;clear h;go_enter Tryz.func145,Tryz.ntmps145;go_wp2_with (go_at_call 155;refine (aaG i _ H.1 aa aS hm).mono ?_;rintro e w1 ⟨rfl,h1,f1⟩;have H1:=am h1;have pX:=am f1;clear H h1 f1)
 have cw:i < (free s i).tasks.length:=aa;have GS:(R (free s i) i).bE.length<=1048576:=aT;have m8:(free s i).tasks.length<=1048576:=aS;clear aT aa aS hm;generalize dR:free s i=s1 at H1 cw GS m8;obtain ⟨b,cap,rfl,cY,jb⟩:=H1.1.iV (by omega);obtain ⟨v3,bC,v9,v10,aM,bb,h5⟩:=H1.1.fe cw;obtain ⟨u3,u8,u9,u10,he,-,dU,-,-⟩:=hA h5;simp only [eK,List.cons.injEq,true_and] at he;obtain ⟨rfl,rfl,rfl,rfl,-⟩:=he;obtain ⟨gy,e1,rfl,Uo,BJ⟩:=Kd.fG dU;obtain ⟨cX,bL,rfl⟩:=H1.1.kI;obtain ⟨cU,bO,rfl⟩:=H1.1.hV;have A9:=aM 8 _ rfl;have bz:(0:Int)<=(i:Int):=by omega
 have b7:(i:Int) < (s1.tasks.length:Int):=by omega
 have Ny:=am BJ;clear aM bb h5 dU BJ Uo;refine kO (n:=20) (S:=fun W=>W.heap[g]? = some (.cells #[bh,a8,.slice cX s1.cells.length bL,.slice (some ⟨b,0,none⟩) s1.tasks.length cap,.int .i64 s1.clock,.slice cU s1.log.length bO] 88 (0,0))/\W.cell? ⟨b,i*13+8,none⟩=some (.slice gy (R s1 i).bE.length e1)) (ds:= [17,18,19]) (by kernel_rfl) rfl ⟨gW H1.1.bB,A9⟩ (fun aK=> ?_);have I:=ei (Below.refl w1.heap.size w1);generalize w1.drew=b' at I aK ⊢;have bn:=am (H1.1.grow I);have bA:=am (pX.1.trans (Fr.less (Fr.below I) pX.1.size));have Nz:=ks Ny I;clear H1 pX Ny I A9;refine hn 5 15 [0,1,2,3,4,5,7,8,9,10,11,12,13,14,15] aK ?_
 iterate 15 (refine hR rfl (by rintro W ⟨bU,s2⟩;have t0:=bf bU;clear bU;go_simp;with_reducible rfl) ?_)
 refine bN ?_;refine fs 6 (some 13) (fun K au=> ?_);refine Kd.qG (w0:=w0) (Kd.int .i64) w0.heap.size 3 (by rfl) (N:=13) rfl (xs:=([]:List Int)) (inner:= []) (ok:=fun k=>own k=0/\w.heap.size<=k) (okp:=fun _=>False) (by go_simp<;>rfl) (cp.none _ _) (fun _ J=>J.elim) ⟨bn.1.dk _ (Nat.le_refl _),bA.1.size⟩ bn.1.below bn.1.below.size (by simp) ?_;intro v1 eE bG W0 jD W2;have I:=hW jD;refine au.out _ _ ⟨fS aK.1 I,((pd I).1 _ _ (World.block_lt_of_cell? _ _ aK.2)).trans aK.2⟩ (fun aK=>e8 ?_);clear au K
 have gE:=am (bn.1.grow I);have rB:=am (bA.1.trans (Fr.less (Fr.below I) bA.1.size));have NA:=ks Nz I;have pq:=am bG;clear bn bA Nz I W0 jD bG;refine fs 16 (some 23) (fun K au=> ?_);refine Kd.Ta (Kd.int .i64) (Rr:=(Kd.int .i64).K eE) (w0:=w0) w0.heap.size (by rfl) (.tmp 13) (.tmp 22) 23 3 (.int .i64 0) 8 rfl Tryz.underlying23 od rfl (by decide) (by decide) v1 [] (R s1 i).bE gy (R s1 i).bE.length e1 (fun k=>own k=0/\w.heap.size<=k) (fun _=>False) rfl rfl pq.1 NA.1 (fun _ _ h=>h) (fun _ J=>J.elim) (fun k J=>⟨gE.1.dk k J,Nat.le_trans rB.1.size J⟩) gE.1.below gE.1.below.size (by simp;omega) ?_;intro v2 dJ uc z1 vO vb;have cm:∀ k,own k ≠ 0->some k ≠ v1.ownBlock:=fun k J he=>J (pq.1.1 k he.symm).1
 have PQ:some b ≠ v1.ownBlock:=cm b (by rw [cY];decide);refine au.out _ _ ⟨eQ aK.1 vO (cm g (by rw [gE.1.hI];decide)),vO.cell aK.2 PQ⟩ (fun aK=>e8 ?_);clear au K
 have nO:=am (gE.1.move z1 vO.size (fun k J ak=>vO.block k ak (cm k J)));have pY:=am (rB.1.trans ⟨vO.os,vO.tape,vO.output,vO.size,fun _ _ h=>h,fun k ak J=>vO.block k (Nat.lt_of_lt_of_le ak rB.1.size) (fun he=>by have:=(pq.1.1 k he.symm).2;omega)⟩);have Gt:=am uc;clear gE rB NA z1 vO uc vb W2 pq cm PQ;obtain ⟨u3,u8,u9,u10,aM,bb,-⟩:=nO.1.fe cw;have mW:=aM 3 _ rfl;have Yp:=bb 3;have aN:=bf nO.1.bB;clear aM bb aK;refine lM (fuel:=3) 17 (by kernel_rfl) ?_;simp only [List.drop_succ_cons,List.drop_zero];clear mW Yp;have H:=nO;have F:=pY;have V:=Gt;clear nO pY Gt;obtain ⟨dr,Ly⟩:∃ o:Nat->Nat,o=own:=⟨_,rfl⟩;rw [<-Ly] at H V;replace F:=am (show Fr w.heap.size own dr w dJ by rw [Ly];exact F.1);clear Ly
 go_wp2_with (first
 |((with_reducible refine bT 23 25 ?_);refine e9 (u:=v2) rfl rfl _ _ rfl rfl rfl (qA V.1) (qF V.1) (by kernel_rfl) (H.1.ready (i:=i) (by first|exact cw | exact aa|(rw [c5];exact cw)) 3 (by decide)) ?_;intro wn aH;obtain ⟨dr,aU,a1,-⟩:=H.1.Rt (B:=w.heap.size) (i:=i) (by first|exact cw | exact aa|(rw [c5];exact cw)) V.1;rw [<-aH] at aU a1;replace F:=am (F.1.trans a1);(try rw [set_set,cD cw] at aU);replace H:=am aU;clear aN V aU a1 aH;have aN:=bf H.1.bB)
 |((with_reducible refine aQ 32 ?_);refine Kd.jX (w0:=w0) cn w0.heap.size 52 rfl (N:=32) rfl (xs:=([]:List cI)) (inner:= []) (ok:=fun k=>dr k=0/\w.heap.size<=k) (okp:=fun _=>False) (by go_simp<;>rfl) (cp.none _ _) (fun _ J=>J.elim) ⟨H.1.dk _ (Nat.le_refl _),F.1.size⟩ H.1.below H.1.below.size (by simp) ?_;intro v1 wn bG cY jD dy;have I:=hW jD;have V:=am bG;replace H:=am (H.1.grow I);replace F:=am (F.1.trans (Fr.less (Fr.below I) F.1.size));clear aN cY jD dy I bG;have aN:=bf H.1.bB)
 |((with_reducible refine bT 36 34 ?_);refine e9 (u:=v1) rfl rfl _ _ rfl rfl rfl (qA V.1) (qF V.1) (by kernel_rfl) (H.1.ready (i:=i) (by first|exact cw | exact aa|(rw [c5];exact cw)) 9 (by decide)) ?_;intro wn aH;obtain ⟨dr,aU,a1,-⟩:=H.1.Ir (B:=w.heap.size) (i:=i) (by first|exact cw | exact aa|(rw [c5];exact cw)) V.1;rw [<-aH] at aU a1;replace F:=am (F.1.trans a1);(try rw [set_set,cD cw] at aU);replace H:=am aU;clear aN V aU a1 aH;have aN:=bf H.1.bB)
 |((with_reducible refine aQ 41 ?_);refine Kd.jX (w0:=w0) cn w0.heap.size 52 rfl (N:=41) rfl (xs:=([]:List cI)) (inner:= []) (ok:=fun k=>dr k=0/\w.heap.size<=k) (okp:=fun _=>False) (by go_simp<;>rfl) (cp.none _ _) (fun _ J=>J.elim) ⟨H.1.dk _ (Nat.le_refl _),F.1.size⟩ H.1.below H.1.below.size (by simp) ?_;intro v1 wn bG cY jD dy;have I:=hW jD;have V:=am bG;replace H:=am (H.1.grow I);replace F:=am (F.1.trans (Fr.less (Fr.below I) F.1.size));clear aN cY jD dy I bG;have aN:=bf H.1.bB)
 |((with_reducible refine bT 36 43 ?_);refine e9 (u:=v1) rfl rfl _ _ rfl rfl rfl (qA V.1) (qF V.1) (by kernel_rfl) (H.1.ready (i:=i) (by first|exact cw | exact aa|(rw [c5];exact cw)) 10 (by decide)) ?_;intro wn aH;obtain ⟨dr,aU,a1,-⟩:=H.1.Ig (B:=w.heap.size) (i:=i) (by first|exact cw | exact aa|(rw [c5];exact cw)) V.1;rw [<-aH] at aU a1;replace F:=am (F.1.trans a1);(try rw [set_set,cD cw] at aU);replace H:=am aU;clear aN V aU a1 aH;have aN:=bf H.1.bB)
 |((with_reducible refine bT 3 51 ?_);refine e9 (u:=.int .i64 0) rfl rfl _ _ rfl rfl rfl rfl rfl (by kernel_rfl) (H.1.ready (i:=i) (by first|exact cw | exact aa|(rw [c5];exact cw)) 11 (by decide)) ?_;intro wn aH;obtain ⟨aU,a1⟩:=H.1.setInt (B:=w.heap.size) (i:=i) (by first|exact cw | exact aa|(rw [c5];exact cw)) 11 (by decide) 0 {R s1 i with aL:=(R s1 i).bE,reads:= [],ai:= [],bw:=0} (fun _ _ _ _=>by first|rfl|(rw [cD (by assumption)];rfl)) (by first|exact ⟨rfl,rfl,rfl,rfl⟩|(rw [cD (by assumption)];exact ⟨rfl,rfl,rfl,rfl⟩));rw [<-aH] at aU a1;replace F:=am (F.1.trans a1);(try rw [set_set] at aU);replace H:=am aU;clear aN aU a1 aH;have aN:=bf H.1.bB)
 |(go_at_call 136;refine (BA i 0 _ H.1 (by rw [c5];exact cw) (by rw [c5];exact m8)).mono ?_;rintro e wn ⟨rfl,h1,f1⟩;have bn:=am h1;have bA:=am (F.1.trans (Fr.less f1 F.1.size));clear H F aN h1 f1))
 refine fv ?_;refine ⟨rfl,_, ?_,bA.1⟩;have h:=bn.1;unfold k4 at h;rw [set_set,cD cw] at h;unfold again;rw [dR];exact h
end
theorem aaH {P:Program} {ops:Array Oper} {w:World} {Q:Go.Act->Prop} {op:Oper} {rest:List Oper} {a:Go.Act} (eO:op.guard=none) (ty:TypeId) (x:Operand) (aT:op.op= .load ty x) (b o:Nat) (az:a.eval x= .pointer (some ⟨b,o,none⟩)) (cs:List Value) (d:TypeDesc) (ay:w.rangeAt b o cs)
  (hu:P.underlying ty=some d) (aO:d.isRow=true) (aa:(P.info? ty).map (·.size)=some cs.length) (h:wpStill P ops w Q rest (a.put op.dst (.agg cs.toArray))):wpStill P ops w Q (op :: rest) a:=by
 refine wpStill_step (fun K au=> ?_);rw [if_pos (by simp [Region.wanted,eO])];unfold Oper.still execOp;simp only [aT,az,Instr.loadAt,Instr.sureAddr,Sem.run_bind,Sem.run_pure,Result.andThen_ok,run_loadVar_mid w b o ty cs d ay hu aO aa];exact ⟨rfl,au _ h⟩
section
variable {T B:Nat} {w0:World} {g:Nat} {own:Nat->Nat} {bh a8:Value} {p:Prog} {s:Sys} {aG aZ aP:Value} {W W1:World}
theorem bI.aad {b cap n:Nat} (h:bI T w0 g own bh a8 p s aG (.slice (some ⟨b,0,none⟩) n cap) aP W) {i:Nat} (aa:i < s.tasks.length) {v:Value} {xs:List Int} (bp:(Kd.int .i64).aC 3 W w0.heap.size (fun k=>own k=0/\B<=k) v xs)
  {v3 bC v9 v10:Value} (ay:∀ j u,(eK (R s i) v3 bC v9 v10)[j]? = some u->W.cell? ⟨b,i*13+j,none⟩=some u) (x':Task) (az:x'.aL=(R s i).aL/\x'.bE=xs/\x'.reads=(R s i).reads/\x'.ai=(R s i).ai):
  ∃ own',bI T w0 g own' bh a8 p (b0 s i x') aG (.slice (some ⟨b,0,none⟩) n cap) aP (W.setCells b (i*13) (eK x' v3 v v9 v10))/\Fr B own own' W (W.setCells b (i*13) (eK x' v3 v v9 v10)):=by
 have a6:=h.tag (t:=9+8*i) (fun k J=>⟨(fc bp k J).1.1,(fc bp k J).2⟩);have h1:=h.rn a6;have bG:=oF Br bp (ok':=fun k=>8<=ef own v.ownBlock (9+8*i) k/\ef own v.ownBlock (9+8*i) k=9+8*i) (fun k J=>by rw [iW J];omega)
 obtain ⟨u3,u8,u9,u10,qa,_,dw⟩:=h1.fe aa;obtain ⟨dh,oJ,nP,sR,he,aA,dU,eb,e7⟩:=hA dw;simp only [eK,List.cons.injEq,true_and] at he;obtain ⟨rfl,rfl,rfl,rfl,-⟩:=he;have eL:u3=v3:=Option.some.inj ((qa 3 _ rfl).symm.trans (ay 3 _ rfl));have dO:u9=v9:=Option.some.inj ((qa 9 _ rfl).symm.trans (ay 9 _ rfl));have gI:u10=v10:=Option.some.inj ((qa 10 _ rfl).symm.trans (ay 10 _ rfl));subst eL dO gI
 obtain ⟨aU,a1⟩:=h1.seg aa (c:=eK (R s i) u3 u8 u9 u10) (seg:=eK x' u3 v u9 u10) (j:=0) (x':=x') rfl qa (by simp [eK]) (by
  have dw:=nh (own:=ef own v.ownBlock (9+8*i)) (w:=W) (base:=w0.heap.size) (ok:=fun k=>8<=ef own v.ownBlock (9+8*i) k) x' i (by rw [az.1];exact aA) (by rw [az.2.1];exact bG) (by rw [az.2.2.1];exact eb) (by rw [az.2.2.2];exact e7)
  simpa [eK] using dw)
 refine ⟨_,aU,Fr.trans (Fr.tagged W fun k J aq=> ?_) a1⟩;unfold ef;split
 ·rename_i he
  have:=(fc bp k he).1.2
  omega
 ·exact aq
end
structure yU (base:Nat) (W:World) (v3 bC v9 v10:Value):Prop where
 aL:(Kd.int .i64).aC 3 W base (fun _=>True) v3 [0,0,0]
 bE:(Kd.int .i64).aC 3 W base (fun _=>True) bC [0,0,0]
 reads:cn.aC 52 W base (fun _=>True) v9 []
 ai:cn.aC 52 W base (fun _=>True) v10 []
 Cw:v3.ownBlock ≠ bC.ownBlock
 Cx:v3.ownBlock ≠ v9.ownBlock
 CF:v3.ownBlock ≠ v10.ownBlock
 Cy:bC.ownBlock ≠ v9.ownBlock
 CG:bC.ownBlock ≠ v10.ownBlock
 CH:v9.ownBlock ≠ v10.ownBlock
def Ih (body up:Int) (v3 bC v9 v10:Value):Array Value:=#[.int .i64 body,.int .i64 0,.int .i64 up,v3,.int .i64 0,.int .i64 0,.int .i64 0,.int .i64 0,bC,v9,v10,.int .i64 0,.int .i64 0]
theorem SX (body up:Int) (w:World):
  Calls Tryz.prog 89 #[.int .i64 body,.int .i64 up] w fun e af=>∃ v3 bC v9 v10,e= .returned (.agg (Ih body up v3 bC v9 v10))/\yU w.heap.size af v3 bC v9 v10/\Below w.heap.size w af:=by
 go_enter Tryz.func89,Tryz.ntmps89
 go_wp2_with (first
 |((with_reducible refine aQ 4 ?_);refine hy 38 ?_;intro gt b' dN GT ab))
 refine kO (n:=8) (S:=fun W=>W.heap[gt]? = some (.cells #[.int .i64 0,.int .i64 0,.int .i64 0,.slice none 0 0,.int .i64 0,.int .i64 0,.int .i64 0,.int .i64 0,.slice none 0 0,.slice none 0 0,.slice none 0 0,.int .i64 0,.int .i64 0] 38 (0,0))) (ds:= [6,7]) (by kernel_rfl) rfl (gW dN.1) (fun aK=> ?_);have I:=ei (Below.refl b'.heap.size b');generalize b'.drew=dJ at I aK ⊢;have pC:=cf ab I;refine hn 6 2 [0,1] aK ?_
 iterate 2 (refine hR rfl (by intro W fx;go_simp;with_reducible rfl) ?_)
 refine bN ?_
 refine YO (fuel:=2) (l':=#[true,true,true,true,true,true,false,false]) 4 (fun D=>⟨#[.int .i64 body,.int .i64 up,undef,undef,.pointer (some ⟨gt,0,none⟩),.int .i64 body,.int .i64 up,D 2,D 3,D 4,D 5,undef], []⟩) [2,3,4,5]
  (fun q W v=>if q < 4 then (Kd.int .i64).aC 3 W dJ.heap.size (fun _=>True) v [0,0,0] else cn.aC 52 W dJ.heap.size (fun _=>True) v []) (by kernel_rfl) (fun W fx=>fS aK fx) (fun q W W1 v h I=> ?_) (fun x az=> ?_) (fun D W fx df cm=> ?_) (fun _=>undef)
 ·split at h
  ·rw [if_pos (by assumption)]
   exact Kd.kv h I
  ·rw [if_neg (by assumption)]
   exact Kd.kv h I
 ·simp only [List.mem_cons,List.not_mem_nil,or_false] at az
  rcases az with rfl|rfl|rfl|rfl
  ·refine ⟨_,rfl,by decide,fun D v=>rfl,fun D W K fx au=> ?_⟩
   refine Kd.Sp (w0:=W) (Kd.int .i64) W.heap.size 3 (by rfl) (N:=7) rfl 23 (.const (.int .i64 3)) (.const (.int .i64 3)) rfl 3 rfl rfl Tryz.underlying23 (.int .i64 0) 8 od rfl (by decide) (by decide) (0:Int) (ok:=fun _=>True) (okp:=fun _=>False) rfl (fun _ h=>h.elim) trivial (by decide) (by decide) (Below.refl _ _) (Nat.le_refl _) (fun v W1 df I U dy=> ?_);obtain ⟨b,bZ,gf⟩:=dy;exact au v W1 I (by rw [if_pos (by decide)];exact Kd.ft df fx.size) ⟨b,bZ,gf,(fc df b bZ).2.2⟩
  ·refine ⟨_,rfl,by decide,fun D v=>rfl,fun D W K fx au=> ?_⟩
   refine Kd.Sp (w0:=W) (Kd.int .i64) W.heap.size 3 (by rfl) (N:=8) rfl 23 (.const (.int .i64 3)) (.const (.int .i64 3)) rfl 3 rfl rfl Tryz.underlying23 (.int .i64 0) 8 od rfl (by decide) (by decide) (0:Int) (ok:=fun _=>True) (okp:=fun _=>False) rfl (fun _ h=>h.elim) trivial (by decide) (by decide) (Below.refl _ _) (Nat.le_refl _) (fun v W1 df I U dy=> ?_);obtain ⟨b,bZ,gf⟩:=dy;exact au v W1 I (by rw [if_pos (by decide)];exact Kd.ft df fx.size) ⟨b,bZ,gf,(fc df b bZ).2.2⟩
  ·refine ⟨_,rfl,by decide,fun D v=>rfl,fun D W K fx au=> ?_⟩
   refine Kd.qG (w0:=W) cn W.heap.size 52 (by rfl) (N:=9) rfl (xs:=([]:List cI)) (inner:= []) (ok:=fun _=>True) (okp:=fun _=>False) (by go_simp<;>rfl) (cp.none _ _) (fun _ h=>h.elim) trivial (Below.refl _ _) (Nat.le_refl _) (by simp) (fun v W1 df I U dy=> ?_);obtain ⟨b,bZ,gf⟩:=dy;exact au v W1 I (by rw [if_neg (by decide)];exact Kd.ft df fx.size) ⟨b,bZ,gf,(fc df b bZ).2.2⟩
  ·refine ⟨_,rfl,by decide,fun D v=>rfl,fun D W K fx au=> ?_⟩
   refine Kd.qG (w0:=W) cn W.heap.size 52 (by rfl) (N:=10) rfl (xs:=([]:List cI)) (inner:= []) (ok:=fun _=>True) (okp:=fun _=>False) (by go_simp<;>rfl) (cp.none _ _) (fun _ h=>h.elim) trivial (Below.refl _ _) (Nat.le_refl _) (by simp) (fun v W1 df I U dy=> ?_);obtain ⟨b,bZ,gf⟩:=dy;exact au v W1 I (by rw [if_neg (by decide)];exact Kd.ft df fx.size) ⟨b,bZ,gf,(fc df b bZ).2.2⟩
 ·have qK:=(df 2 (by simp)).1
  have hN:=(df 3 (by simp)).1;have l4:=(df 4 (by simp)).1;have rC:=(df 5 (by simp)).1;have n23:=cm 2 (by simp) 3 (by simp) (by decide);have n24:=cm 2 (by simp) 4 (by simp) (by decide);have n25:=cm 2 (by simp) 5 (by simp) (by decide);have n34:=cm 3 (by simp) 4 (by simp) (by decide);have n35:=cm 3 (by simp) 5 (by simp) (by decide);have NB:=cm 4 (by simp) 5 (by simp) (by decide);rw [if_pos (by decide)] at qK hN;rw [if_neg (by decide)] at l4 rC;clear df cm;generalize D 2=v3 at*;generalize D 3=bC at*;generalize D 4=v9 at*;generalize D 5=v10 at*;obtain ⟨cU,bO,eL⟩:=Kd.bt qK;obtain ⟨gy,e1,jK⟩:=Kd.bt hN;obtain ⟨ev,dp,dO⟩:=Kd.bt l4;obtain ⟨e6,dL,gI⟩:=Kd.bt rC;change v3= .slice cU 3 bO at eL;change bC= .slice gy 3 e1 at jK;change v9= .slice ev 0 dp at dO;change v10= .slice e6 0 dL at gI;subst eL jK dO gI;have Up:=am (fS aK fx);have jR:=cf pC fx;have MT:=am (And.intro n23 (And.intro n24 (And.intro n25 (And.intro n34 (And.intro n35 NB)))));have sy:=am pC.1.size;have Tc:=am (show gt < dJ.heap.size from dK aK);have Td:=am (And.intro (Kd.fW qK) (And.intro (Kd.fW hN) (And.intro (Kd.fW l4) (Kd.fW rC))));clear qK hN l4 rC n23 n24 n25 n34 n35 NB aK fx ab pC dN I;refine lM (fuel:=2) 6 (by kernel_rfl) ?_;simp only [List.drop_succ_cons,List.drop_zero]
  go_wp2_with (first
  |((with_reducible refine bT 38 4 ?_);refine dG Up ?_;intro ih ad U;have Uq:=am ad;have ij:=am U;clear ad U))
  refine bodyPost_ret (sx Tryz.results89 (.cell gt 38 #[.int .i64 body,.int .i64 0,.int .i64 up,.slice cU 3 bO,.int .i64 0,.int .i64 0,.int .i64 0,.int .i64 0,.slice gy 3 e1,.slice ev 0 dp,.slice e6 0 dL,.int .i64 0,.int .i64 0] (0,0) _ rfl Uq.1 Tryz.underlying38 rfl (by kernel_rfl) .nil)) rfl ?_;refine ⟨_,_,_,_,rfl, ?_,mA jR.1 _ jR.1.size ij.1 (fun z aX=>by cases aX;exact Nat.le_of_eq GT.1.symm)⟩;obtain ⟨hq,pZ,iF,zp,Gu,Te⟩:=MT.1;obtain ⟨jL,qK,hN,l4⟩:=Td.1;have cB:∀ k,dJ.heap.size<=k->k < W.heap.size->ih.heap[k]? = W.heap[k]? :=fun k J ak=>ij.1.block k ak (fun he=>by injection he with he;have:=Tc.1;omega)
  exact ⟨Kd.ft (Kd.cG (Kd.eI jL (fun k J ak=>cB k J.2.1 ak)) (fun _ _=>trivial)) sy.1,Kd.ft (Kd.cG (Kd.eI qK (fun k J ak=>cB k J.2.1 ak)) (fun _ _=>trivial)) sy.1,Kd.ft (Kd.cG (Kd.eI hN (fun k J ak=>cB k J.2.1 ak)) (fun _ _=>trivial)) sy.1,Kd.ft (Kd.cG (Kd.eI l4 (fun k J ak=>cB k J.2.1 ak)) (fun _ _=>trivial)) sy.1,hq,pZ,iF,zp,Gu,Te⟩
def YU (body up:Int) (v3 bC v9 v10:Value):List Value:= [.int .i64 body,.int .i64 0,.int .i64 up,v3,.int .i64 0,.int .i64 0,.int .i64 0,.int .i64 0,bC,v9,v10,.int .i64 0,.int .i64 0]
def jV (own:Nat->Nat) (v3 bC v9 v10:Value) (L:Nat):Nat->Nat:=ef (ef (ef (ef own v3.ownBlock (8+8*L)) bC.ownBlock (9+8*L)) v9.ownBlock (10+8*L)) v10.ownBlock (11+8*L)
theorem gv {own:Nat->Nat} {b:Option Nat} {t k:Nat} (h:b ≠ some k):ef own b t k=own k:=by simp [ef,h]
theorem Rb {own:Nat->Nat} {v3 bC v9 v10:Value} {L B:Nat} {W:World} (cz:yU B W v3 bC v9 v10):
  (∀ k,v3.ownBlock=some k->jV own v3 bC v9 v10 L k=8+8*L)/\(∀ k,bC.ownBlock=some k->jV own v3 bC v9 v10 L k=9+8*L)/\(∀ k,v9.ownBlock=some k->jV own v3 bC v9 v10 L k=10+8*L)/\(∀ k,v10.ownBlock=some k->jV own v3 bC v9 v10 L k=11+8*L)/\
  ∀ k,(v3.ownBlock ≠ some k/\bC.ownBlock ≠ some k/\v9.ownBlock ≠ some k/\v10.ownBlock ≠ some k)->jV own v3 bC v9 v10 L k=own k:=by
 unfold jV;refine ⟨fun k J=> ?_,fun k J=> ?_,fun k J=> ?_,fun k J=> ?_,fun k J=> ?_⟩
 ·rw [gv (by rw [<-J];exact Ne.symm cz.CF),gv (by rw [<-J];exact Ne.symm cz.Cx),gv (by rw [<-J];exact Ne.symm cz.Cw),iW J]
 ·rw [gv (by rw [<-J];exact Ne.symm cz.CG),gv (by rw [<-J];exact Ne.symm cz.Cy),iW J]
 ·rw [gv (by rw [<-J];exact Ne.symm cz.CH),iW J]
 ·rw [iW J]
 ·rw [gv J.2.2.2,gv J.2.2.1,gv J.2.1,gv J.1]
theorem yU.range {B:Nat} {W:World} {v3 bC v9 v10:Value} (h:yU B W v3 bC v9 v10) {k:Nat} (J:¬ (v3.ownBlock ≠ some k/\bC.ownBlock ≠ some k/\v9.ownBlock ≠ some k/\v10.ownBlock ≠ some k)):B<=k/\k < W.heap.size:=by
 refine Classical.byContradiction fun cm=>J ⟨fun he=>cm (fc h.aL k he).2,fun he=>cm (fc h.bE k he).2,fun he=>cm (fc h.reads k he).2,fun he=>cm (fc h.ai k he).2⟩
section
variable {T B:Nat} {w0:World} {g:Nat} {own:Nat->Nat} {bh a8:Value} {p:Prog} {s:Sys} {aG aZ aP:Value} {W W1:World}
theorem yU.row {tu L:Nat} {v3 bC v9 v10:Value} (cz:yU tu W v3 bC v9 v10) (dt:B<=tu) (body up:Int):
  (gg (jV own v3 bC v9 v10 L)).M W B (fun k=>8<=jV own v3 bC v9 v10 L k) (g8 body up,L) (YU body up v3 bC v9 v10):=by
 obtain ⟨t3,t8,t9,t10,-⟩:=Rb (own:=own) (L:=L) cz;exact nh (g8 body up) L (Kd.ft (oF Br cz.aL (fun k J=>⟨by rw [t3 k J];omega,t3 k J⟩)) dt) (Kd.ft (oF Br cz.bE (fun k J=>⟨by rw [t8 k J];omega,t8 k J⟩)) dt) (Kd.ft (oF xY cz.reads (fun k J=>⟨by rw [t9 k J];omega,t9 k J⟩)) dt) (Kd.ft (oF xY cz.ai (fun k J=>⟨by rw [t10 k J];omega,t10 k J⟩)) dt)
theorem bI.H8 {tu L:Nat} {v3 bC v9 v10:Value} (h:bI T w0 g own bh a8 p s aG aZ aP W) (cz:yU tu W v3 bC v9 v10) (aq:∀ k,tu<=k->own k=0) (dt:w0.heap.size<=tu) (NC:B<=tu):
  bI T w0 g (jV own v3 bC v9 v10 L) bh a8 p s aG aZ aP W/\Fr B own (jV own v3 bC v9 v10 L) W W:=by
 have lk:=(Rb (own:=own) (L:=L) cz).2.2.2.2;have oA:∀ k,k < tu->jV own v3 bC v9 v10 L k=own k:=fun k J=>lk k (Classical.byContradiction fun cm=>by have:=(cz.range cm).1;omega)
 have a6:Tag w0 own (jV own v3 bC v9 v10 L) W:=by
  refine ⟨fun k J=>lk k (Classical.byContradiction fun cm=>J (aq k (cz.range cm).1)),fun k J=>(oA k (by omega)).trans (h.jU k J),fun k J=>(lk k (Classical.byContradiction fun cm=>by have:=(cz.range cm).2;omega)).trans (h.dk k J)⟩
 exact ⟨h.rn a6,Fr.tagged W fun k J aX=>(oA k (by omega)).trans aX⟩
theorem bI.Rw (h:bI T w0 g own bh a8 p s aG aZ aP W) (I:Below w0.heap.size w0 W1) (sQ:B<=W.heap.size) (U:W.grownBy W1 aZ.ownBlock) {v1:Value} {ts':List Task}
  (ao:(gg own).aC 38 W1 w0.heap.size (fun k=>(own k=3\/8<=own k)\/(own k=0/\B<=k)) v1 ts'.zipIdx) (bp:v1.ownBlock=aZ.ownBlock\/∃ b,v1.ownBlock=some b/\W.heap.size<=b):
  ∃ own',bI T w0 g own' bh a8 p {s with tasks:=ts'} aG v1 aP (W1.setCell ⟨g,3,none⟩ v1)/\Fr B own own' W (W1.setCell ⟨g,3,none⟩ v1):=by
 have DV:∀ k,aZ.ownBlock=some k->own k=3:=h.fj
 have bG:∀ k,v1.ownBlock=some k->own k=3\/(own k=0/\W.heap.size<=k):=fun k J=>by
  rcases bp with he | ⟨b,he,ak⟩
  ·exact .inl (DV k (he ▸ J))
  ·rw [he] at J
   injection J with J;subst J;exact .inr ⟨h.dk _ ak,ak⟩
 have e5:w0.heap.size<=g:=Nat.le_of_not_lt fun aJ=>by have:=h.hI;rw [h.jU g aJ] at this;cases this
 have cm:∀ k,own k ≠ 3->some k ≠ aZ.ownBlock:=fun k J he=>J (DV k he.symm)
 have gT:∀ k,own k ≠ 3->own k ≠ 1->k < W.heap.size->(W1.setCell ⟨g,3,none⟩ v1).heap[k]? = W.heap[k]? :=fun k aA h1 ak=>
  (Below.heap_setCell W1 ⟨g,3,none⟩ v1 k (fun he=>h1 (by rw [show k=g from he];exact h.hI))).trans (U.block k ak (cm k aA))
 have kF:∀ k,own k ≠ 0->ef own v1.ownBlock 3 k=own k:=fun k J=>by
  by_cases he:v1.ownBlock=some k
  ·rw [iW he]
   rcases bG k he with aA | aA
   ·exact aA.symm
   ·exact absurd aA.1 J
  ·exact gv he
 have iC:W1.heap[g]? = _:=(U.block g (dK h.bB) (cm g (by rw [h.hI];decide))).trans h.bB
 have Ur:=Kd.lp (p:=⟨g,3,none⟩) ao (fun k J he=>by
  rw [show k=g from he,h.hI] at J;omega) v1
 refine ⟨ef own v1.ownBlock 3,⟨jj I e5,fun k J=> ?_,fun k J=> ?_,h.prog,(kF g (by rw [h.hI];decide)).trans h.hI, ?_,
  Kd.cG (Kd.eI h.cells (fun k J ak=>gT k (by omega) (by omega) ak)) (fun k J=>by rw [kF k (by omega)];exact J), ?_,fun k J=>iW J,
  Kd.cG (Kd.eI h.log (fun k J ak=>gT k (by omega) (by omega) ak)) (fun k J=>by rw [kF k (by omega)];exact J)⟩,
  ⟨U.os,U.tape,U.output,by simpa [World.setCell] using U.size,fun k J aq=> ?_,fun k J aq=>gT k (by omega) (by omega) (by omega)⟩⟩
 ·refine (gv fun he=> ?_).trans (h.jU k J)
  rcases bG k he with aA | aA
  ·rw [h.jU k J] at aA
   cases aA
  ·have:=h.below.size
   omega
 ·have rS:W1.heap.size<=k:=by simpa [World.setCell] using J
  refine (gv fun he=> ?_).trans (h.dk k (Nat.le_trans U.size rS))
  have:=(fc ao k he).2.2
  omega
 ·have:=ku iC 3 v1
  simpa using this
 ·refine ⟨fun k J=> .inl (iW J),Ur.2.lJ (fun x cs aB=> ?_)⟩
  have h1:=x0 aB;have ar:=C6 (own':=ef own v1.ownBlock 3) (fun k _ J=>kF k (by omega)) h1;refine (gg (ef own v1.ownBlock 3)).k1 (fun k J=> ?_) (x0 ar);refine ⟨.inr J,fun he=> ?_⟩;rw [iW he.symm] at J;omega
 ·refine (gv fun he=> ?_).trans aq
  rcases bG k he with aA | aA
  ·omega
  ·omega
end
section
variable {w0:World} {g:Nat} {own:Nat->Nat} {bh a8:Value} {p:Prog} {s:Sys} {aG aZ aP:Value}
theorem IA (i:Nat) (cell:Int) (w:World) (h:bI 88 w0 g own bh a8 p s aG aZ aP w) (aa:i < s.tasks.length) (aS:s.tasks.length<=1048576) (hm:s.cells.length<=1048576) (aq:0<=cell) (h1:cell < s.cells.length):
  Calls Tryz.prog 150 #[.pointer (some ⟨g,0,none⟩),.int .i64 i,.int .i64 cell] w fun e af=>e= .returned (.bool (blind s i cell))/\Below w.heap.size w af:=by
 obtain ⟨k,rfl⟩:=Int.eq_ofNat_of_zero_le aq;obtain ⟨b,cap,rfl,cY,jb⟩:=h.iV (by omega);obtain ⟨v3,bC,v9,v10,aM,bb,-⟩:=h.fe aa;obtain ⟨gZ,K0,rfl,gf,AV⟩:=h.tg (by omega);have J:k < s.cells.length:=by omega
 obtain ⟨bQ,_⟩:=h.cell J;obtain ⟨cU,bO,rfl⟩:=h.hV;have aN:=bf h.bB;have bL:=bQ 0 _ rfl;rw [Nat.add_zero] at bL;have cu:=bQ 1 _ rfl;have kx:=bQ 2 _ rfl;have LZ:=aM 7 _ rfl;have bz:(0:Int)<=(i:Int):=by omega
 have b7:(i:Int) < (s.tasks.length:Int):=by omega
 have bY:(0:Int)<=(k:Int):=by omega
 have l5:(k:Int) < (s.cells.length:Int):=by omega
 have Us:=dK h.bB;have Ut:=World.block_lt_of_cell? _ _ LZ;have Uu:=World.block_lt_of_cell? _ _ bL;have cb:blind s i (k:Int)=((decide (0<=(cellAt s.cells k).lock) && !decide ((cellAt s.cells k).lock=i)) || decide ((R s i).since < (cellAt s.cells k).time)):=rfl;rw [cb];clear cb h aM bb bQ cY gf;generalize mM:(cellAt s.cells k).num=MU at*;generalize DW:(cellAt s.cells k).time=IK at*;generalize sS:(cellAt s.cells k).lock=qL at*;generalize DX:(R s i).since=qM at*;by_cases ak:0<=qL
 ·have ed:decide (0<=qL)=true:=decide_eq_true ak
  by_cases he:qL=(i:Int)
  ·have cg:(qL != (i:Int))=false:=by simp [he]
   have bS:=am he;clear he ak;go_enter Tryz.func150,Tryz.ntmps150;go_wp2;go_quiet (fail);go_wp2;go_ret;exact ⟨hg (by rw [ed,decide_eq_true bS.1];simp),(by repeat (first|with_reducible exact Below.refl _ _ | with_reducible refine ei ?_ | with_reducible refine iY ?_ _ | with_reducible refine mz ?_ _ | with_reducible refine jj ?_ ?_ | omega))⟩
  ·have cg:(qL != (i:Int))=true:=by simp [he]
   have bS:=am he;clear he ak;go_enter Tryz.func150,Tryz.ntmps150;go_wp2;go_quiet (fail);go_wp2;go_ret;exact ⟨hg (by rw [ed,decide_eq_false bS.1];simp),(by repeat (first|with_reducible exact Below.refl _ _ | with_reducible refine ei ?_ | with_reducible refine iY ?_ _ | with_reducible refine mz ?_ _ | with_reducible refine jj ?_ ?_ | omega))⟩
 ·have ed:decide (0<=qL)=false:=decide_eq_false ak
  have dq:=am ak;clear ak;go_enter Tryz.func150,Tryz.ntmps150;go_wp2;go_quiet (fail);go_wp2;go_ret;exact ⟨hg (by rw [ed];simp),(by repeat (first|with_reducible exact Below.refl _ _ | with_reducible refine ei ?_ | with_reducible refine iY ?_ _ | with_reducible refine mz ?_ _ | with_reducible refine jj ?_ ?_ | omega))⟩
end
section
variable {w0:World} {g:Nat} {own:Nat->Nat} {bh a8:Value} {p:Prog} {s:Sys} {aG aZ aP:Value}
theorem aba (i:Nat) (w:World) (h:bI 88 w0 g own bh a8 p s aG aZ aP w) (aa:i < s.tasks.length) (aS:s.tasks.length<=1048576) (hm:s.cells.length<=1048576) (aT:(R s i).bE.length<=1048576) (ao:(R s i).reads.length<=1048576) (ha:0<=(R s i).at_) (aB:∀ k,k < (R s i).reads.length->0<=(putAt (R s i).reads k).cell/\(putAt (R s i).reads k).cell < s.cells.length):
  Calls Tryz.prog 137 #[.pointer (some ⟨g,0,none⟩),.int .i64 i] w fun e af=>e= .returned (.tuple #[])/\∃ own',bI 88 w0 g own' bh a8 p (check s i) aG aZ aP af/\Fr w.heap.size own own' w af:=by
 have H:=am h;clear h;obtain ⟨b,cap,rfl,cY,jb⟩:=H.1.iV (by omega);obtain ⟨cX,bL,rfl⟩:=H.1.kI;obtain ⟨cW,aw,rfl⟩:=H.1.hV;obtain ⟨v3,bC,v9,v10,aM,bb,aA,dU,eb,e7⟩:=H.1.task aa;obtain ⟨cU,bO,rfl,gz,dj⟩:=Kd.fG aA;obtain ⟨gy,e1,rfl,og,fy⟩:=Kd.fG dU;obtain ⟨ev,dp,rfl,h0,hh⟩:=Kd.fG eb;obtain ⟨e6,dL,rfl,ko,fi⟩:=Kd.fG e7;have cJ:=am aM;have aN:=bf H.1.bB;have jy:=am hh;have hc:=am fi;have bz:(0:Int)<=(i:Int):=by omega
 have b7:(i:Int) < (s.tasks.length:Int):=by omega
 clear aM bb aA dU eb e7 dj fy hh fi gz og h0 ko;obtain ⟨bx,gO⟩:=Int.eq_ofNat_of_zero_le ha;have js:=am gO;go_enter Tryz.func137,Tryz.ntmps137;by_cases aJ:bx < (R s i).reads.length
 ·have ed:decide (((R s i).reads.length:Int)<=(R s i).at_)=false:=decide_eq_false (by omega)
  have bY:(0:Int)<=(R s i).at_:=by omega
  have l5:(R s i).at_ < ((R s i).reads.length:Int):=by omega
  have lQ:(R s i).at_.toNat=bx:=by omega
  clear gO;have lx:=aB bx aJ
  cases fP:blind s i (putAt (R s i).reads bx).cell with
  | true=>
   have jt:=am fP;have DY:=am lx;clear fP lx aB
   go_wp2_with (first
  |((with_reducible refine aQ 12 ?_);refine c4 b (i*13) cJ.1 ?_)
  |((with_reducible refine aQ 4 ?_);refine hy 38 ?_;intro gt b' dM GT cF;clear aN)
  |((with_reducible refine bT 38 4 ?_);refine dG dM ?_;intro eE ad U;have bm:=am ad;have bk:=fq cF GT U;have jl:=am (show own gt=0 by rw [GT.1];exact H.1.dk _ (Nat.le_refl _));replace H:=am (H.1.grow bk);have bA:=am (Fr.below (own:=own) bk);replace jy:=ks jy bk;replace hc:=ks hc bk;clear ad U dM bk cF cJ;have F:=bA;clear bA;have aN:=bf H.1.bB;have ck:=ae bm;obtain ⟨eW,oh,sT,rfl,E6,hk,jg,-⟩:=dd jy.1 gU bx (by omega) (by decide);have dO:=mZ hk;subst dO;obtain ⟨zq,fw⟩:∃ x,x=putAt (R s i).reads bx:=⟨_,rfl⟩;rw [show List.getD (R s i).reads bx gU=zq from fw.symm] at jg;have zr:=am fw;clear fw;have Jw:=jg 0 _ rfl;have DZ:=jg 1 _ rfl;simp only [show cn.bD=2 from rfl,Nat.add_zero] at Jw DZ;clear jg hk E6)
  |(go_at_call 150;refine (IA i _ _ H.1 aa aS hm (by rw [zr.1];exact DY.1.1) (by rw [zr.1];exact DY.1.2)).mono ?_;rw [zr.1,jt.1];rintro e dJ ⟨rfl,I⟩;replace H:=am (H.1.grow I);replace F:=am (F.1.trans (Fr.less (Fr.below I) F.1.size));replace bm:=aV bm I;clear aN ck I;have aN:=bf H.1.bB;have ck:=ae bm)
  |(go_at_call 145;refine (C8 i _ H.1 aa aS hm aT).mono ?_;rintro e ih ⟨rfl,dr,h1,f1⟩;have bn:=am h1;have bA:=am (F.1.trans (Fr.less f1 F.1.size));clear H F aN bm ck h1 f1))
   refine o6 ?_;refine ⟨rfl,dr, ?_,bA.1⟩
   have oV:check s i=again s i:=by
    unfold check;rw [if_neg (by have:=js.1;omega)];have J:(R s i).at_.toNat=bx:=lQ;simp only [J,jt.1,if_true]
   rw [oV]
   exact bn.1
  | false=>
   have jt:=am fP;have DY:=am lx;clear fP lx aB
   go_wp2_with (first
  |((with_reducible refine aQ 12 ?_);refine c4 b (i*13) cJ.1 ?_)
  |((with_reducible refine aQ 4 ?_);refine hy 38 ?_;intro gt b' dM GT cF;clear aN)
  |((with_reducible refine bT 38 4 ?_);refine dG dM ?_;intro eE ad U;have bm:=am ad;have bk:=fq cF GT U;have jl:=am (show own gt=0 by rw [GT.1];exact H.1.dk _ (Nat.le_refl _));replace H:=am (H.1.grow bk);have bA:=am (Fr.below (own:=own) bk);replace jy:=ks jy bk;replace hc:=ks hc bk;clear ad U dM bk cF cJ;have F:=bA;clear bA;have aN:=bf H.1.bB;have ck:=ae bm;obtain ⟨eW,oh,sT,rfl,E6,hk,jg,-⟩:=dd jy.1 gU bx (by omega) (by decide);have dO:=mZ hk;subst dO;obtain ⟨zq,fw⟩:∃ x,x=putAt (R s i).reads bx:=⟨_,rfl⟩;rw [show List.getD (R s i).reads bx gU=zq from fw.symm] at jg;have zr:=am fw;clear fw;have Jw:=jg 0 _ rfl;have DZ:=jg 1 _ rfl;simp only [show cn.bD=2 from rfl,Nat.add_zero] at Jw DZ;clear jg hk E6)
  |(go_at_call 150;refine (IA i _ _ H.1 aa aS hm (by rw [zr.1];exact DY.1.1) (by rw [zr.1];exact DY.1.2)).mono ?_;rw [zr.1,jt.1];rintro e dJ ⟨rfl,I⟩;replace H:=am (H.1.grow I);replace F:=am (F.1.trans (Fr.less (Fr.below I) F.1.size));replace bm:=aV bm I;clear aN ck I;have aN:=bf H.1.bB;have ck:=ae bm))
   refine wp_region_still_tail 9 (by kernel_rfl) (by kernel_rfl) ?_;simp only [List.take_succ_cons,List.take_zero,List.drop_succ_cons,List.drop_zero];iterate 9 still_step
   refine wpStill_nil ?_;rw [show IntKind.i64.wrap ((R s i).at_+1)=(R s i).at_+1 from by rw [k0];unfold wrap64;omega];have I:=ei (Below.refl dJ.heap.size dJ);show wpList _ _ _ _ _ dJ.drew;generalize dJ.drew=ih at I ⊢;have bn:=am (H.1.grow I);have bA:=am (F.1.trans (Fr.less (Fr.below I) F.1.size));have yV:=aV bm I;clear H F aN bm ck I;have H:=bn;have F:=bA;have bm:=yV;clear bn bA yV;have aN:=bf H.1.bB;have ck:=ae bm
   go_wp2_with (first
  |((with_reducible refine bT 3 45 ?_);refine e9 (u:=.int .i64 ((R s i).at_+1)) rfl rfl _ _ rfl rfl rfl rfl rfl (by kernel_rfl) (H.1.ready (i:=i) (by first|exact cw | exact aa|(rw [c5];exact cw)) 6 (by decide)) ?_;intro wn aH;obtain ⟨aU,a1⟩:=H.1.setInt (B:=w.heap.size) (i:=i) (by first|exact cw | exact aa|(rw [c5];exact cw)) 6 (by decide) ((R s i).at_+1) {R s i with at_:=(R s i).at_+1} (fun _ _ _ _=>by first|rfl|(rw [cD (by assumption)];rfl)) (by first|exact ⟨rfl,rfl,rfl,rfl⟩|(rw [cD (by assumption)];exact ⟨rfl,rfl,rfl,rfl⟩));rw [<-aH] at aU a1;replace F:=am (F.1.trans a1);(try rw [set_set] at aU);replace H:=am aU;clear aN aU a1 aH;have aN:=bf H.1.bB))
   refine fv ?_;refine ⟨rfl,own, ?_,F.1⟩
   have oV:check s i=b0 s i {R s i with at_:=(R s i).at_+1}:=by
    unfold check;rw [if_neg (by have:=js.1;omega)];have J:(R s i).at_.toNat=bx:=lQ;simp [J,jt.1]
   rw [oV];exact H.1
 ·have ed:decide (((R s i).reads.length:Int)<=(R s i).at_)=true:=decide_eq_true (by omega)
  clear gO aB
  go_wp2_with (first
  |((with_reducible refine aQ 12 ?_);refine c4 b (i*13) cJ.1 ?_)
  |((with_reducible refine aQ 4 ?_);refine hy 38 ?_;intro gt b' dM GT cF;clear aN)
  |((with_reducible refine bT 38 4 ?_);refine dG dM ?_;intro eE ad U;have bm:=am ad;have bk:=fq cF GT U;have jl:=am (show own gt=0 by rw [GT.1];exact H.1.dk _ (Nat.le_refl _));replace H:=am (H.1.grow bk);have bA:=am (Fr.below (own:=own) bk);replace jy:=ks jy bk;replace hc:=ks hc bk;clear ad U dM bk cF cJ;have F:=bA;clear bA;have aN:=bf H.1.bB;have ck:=ae bm)
  |(go_at_call 136;refine (BA i 5 _ H.1 aa aS).mono ?_;rintro e ih ⟨rfl,h1,f1⟩;have bn:=am h1;have bA:=am (F.1.trans (Fr.less f1 F.1.size));clear H F aN bm ck h1 f1))
  refine o6 ?_;refine ⟨rfl,own, ?_,bA.1⟩
  have oV:check s i=k4 s i 5:=by
   unfold check;rw [if_pos (by have:=js.1;omega)]
  rw [oV];exact bn.1
end
section
variable {w0:World} {g:Nat} {own:Nat->Nat} {bh a8:Value} {p:Prog} {s:Sys} {aG aZ aP:Value}
theorem aaI (i:Nat) (w:World) (h:bI 88 w0 g own bh a8 p s aG aZ aP w) (aa:i < s.tasks.length) (aS:s.tasks.length<=1048576) (hm:s.cells.length<=1048576) (aT:(R s i).bE.length<=1048576) (ao:(R s i).ai.length<=1048576) (ha:0<=(R s i).at_) (nV:(R s i).at_ < (R s i).ai.length) (aB:0<=(putAt (R s i).ai (R s i).at_.toNat).cell/\(putAt (R s i).ai (R s i).at_.toNat).cell < s.cells.length):
  Calls Tryz.prog 135 #[.pointer (some ⟨g,0,none⟩),.int .i64 i] w fun e af=>e= .returned (.tuple #[])/\∃ own',bI 88 w0 g own' bh a8 p (lock s i) aG aZ aP af/\Fr w.heap.size own own' w af:=by
 have H:=am h;clear h;obtain ⟨bx,gO⟩:=Int.eq_ofNat_of_zero_le ha;rw [gO,Int.toNat_natCast] at aB;obtain ⟨lD,pD⟩:=aB;obtain ⟨k,jE⟩:=Int.eq_ofNat_of_zero_le lD;have J:k < s.cells.length:=by omega
 obtain ⟨b,cap,rfl,cY,jb⟩:=H.1.iV (by omega);obtain ⟨gZ,bL,rfl,gf,AV⟩:=H.1.tg (by omega);obtain ⟨cW,aw,rfl⟩:=H.1.hV;obtain ⟨v3,bC,v9,v10,aM,bb,aA,dU,eb,e7⟩:=H.1.task aa;obtain ⟨cU,bO,rfl,gz,dj⟩:=Kd.fG aA;obtain ⟨gy,e1,rfl,og,fy⟩:=Kd.fG dU;obtain ⟨ev,dp,rfl,h0,hh⟩:=Kd.fG eb;obtain ⟨e6,dL,rfl,ko,fi⟩:=Kd.fG e7;have cJ:=am aM;have aN:=bf H.1.bB;have jy:=am hh;have hc:=am fi;have bz:(0:Int)<=(i:Int):=by omega
 have b7:(i:Int) < (s.tasks.length:Int):=by omega
 clear aM bb aA dU eb e7 dj fy hh fi gz og h0 ko;have js:=am gO;have rT:=am jE;have bY:(0:Int)<=(R s i).at_:=by omega
 have l5:(R s i).at_ < ((R s i).ai.length:Int):=by omega
 have lQ:(R s i).at_.toNat=bx:=by omega
 have oK:(0:Int)<=(k:Int):=by omega
 have x6:(k:Int) < (s.cells.length:Int):=by omega
 clear gO jE lD pD;go_enter Tryz.func135,Tryz.ntmps135;by_cases ak:0<=(cellAt s.cells k).lock
 ·have ed:decide (0<=(cellAt s.cells k).lock)=true:=decide_eq_true ak
  have dq:=am ak;clear ak
  go_wp2_with (first
  |((with_reducible refine aQ 13 ?_);refine c4 b (i*13) cJ.1 ?_)
  |((with_reducible refine aQ 4 ?_);refine hy 38 ?_;intro gt b' dM GT cF;clear aN)
  |((with_reducible refine bT 38 4 ?_);refine dG dM ?_;intro eE ad U;have bm:=am ad;have bk:=fq cF GT U;have jl:=am (show own gt=0 by rw [GT.1];exact H.1.dk _ (Nat.le_refl _));replace H:=am (H.1.grow bk);have bA:=am (Fr.below (own:=own) bk);replace jy:=ks jy bk;replace hc:=ks hc bk;clear ad U dM bk cF cJ;have F:=bA;clear bA;have aN:=bf H.1.bB;have ck:=ae bm;obtain ⟨ud,sU,HL,rfl,xI,ri,l2,-⟩:=dd hc.1 gU bx (by omega) (by decide);have gI:=mZ ri;subst gI;obtain ⟨lE,n8⟩:∃ x,x=putAt (R s i).ai bx:=⟨_,rfl⟩;rw [show List.getD (R s i).ai bx gU=lE from n8.symm] at l2;have vP:=am n8;clear n8;have rj:=l2 0 _ rfl;have sb:=l2 1 _ rfl;simp only [show cn.bD=2 from rfl,Nat.add_zero] at rj sb;clear l2 ri xI;rw [vP.1,rT.1] at rj;obtain ⟨bQ,nD⟩:=H.1.cell J;have a1:=bQ 2 _ rfl;have q5:=am nD;clear bQ nD)
  |(go_at_call 145;refine (C8 i _ H.1 aa aS hm aT).mono ?_;rintro e ih ⟨rfl,dr,h1,f1⟩;have bn:=am h1;have bA:=am (F.1.trans (Fr.less f1 F.1.size));clear H F aN bm ck h1 f1))
  refine o6 ?_;refine ⟨rfl,dr, ?_,bA.1⟩
  have oV:lock s i=again s i:=by
   unfold lock;have iI:(putAt (R s i).ai (R s i).at_.toNat).cell.toNat=k:=by rw [lQ,rT.1];rfl
   simp only [iI,dq.1,if_true]
  rw [oV];exact bn.1
 ·have ed:decide (0<=(cellAt s.cells k).lock)=false:=decide_eq_false ak
  have dq:=am ak;clear ak;have iI:(putAt (R s i).ai (R s i).at_.toNat).cell.toNat=k:=by rw [lQ,rT.1];rfl
  have rU:=am iI;have cF:=am gf;have jc:=am cY;clear iI gf cY
  cases pK:((R s i).at_+1 == ((R s i).ai.length:Int)) with
  | true=>
   have e3:=am (of_decide_eq_true (by simpa using pK):(R s i).at_+1=((R s i).ai.length:Int))
   go_wp2_with (first
  |((with_reducible refine aQ 13 ?_);refine c4 b (i*13) cJ.1 ?_)
  |((with_reducible refine aQ 4 ?_);refine hy 38 ?_;intro gt b' dM GT cF;clear aN)
  |((with_reducible refine bT 38 4 ?_);refine dG dM ?_;intro eE ad U;have bm:=am ad;have bk:=fq cF GT U;have jl:=am (show own gt=0 by rw [GT.1];exact H.1.dk _ (Nat.le_refl _));replace H:=am (H.1.grow bk);have bA:=am (Fr.below (own:=own) bk);replace jy:=ks jy bk;replace hc:=ks hc bk;clear ad U dM bk cF cJ;have F:=bA;clear bA;have aN:=bf H.1.bB;have ck:=ae bm;obtain ⟨ud,sU,HL,rfl,xI,ri,l2,-⟩:=dd hc.1 gU bx (by omega) (by decide);have gI:=mZ ri;subst gI;obtain ⟨lE,n8⟩:∃ x,x=putAt (R s i).ai bx:=⟨_,rfl⟩;rw [show List.getD (R s i).ai bx gU=lE from n8.symm] at l2;have vP:=am n8;clear n8;have rj:=l2 0 _ rfl;have sb:=l2 1 _ rfl;simp only [show cn.bD=2 from rfl,Nat.add_zero] at rj sb;clear l2 ri xI;rw [vP.1,rT.1] at rj;obtain ⟨bQ,nD⟩:=H.1.cell J;have a1:=bQ 2 _ rfl;have q5:=am nD;clear bQ nD)
  |((with_reducible refine bT 3 42 ?_);refine e9 (u:=.int .i64 (i:Int)) rfl rfl _ _ rfl rfl rfl rfl rfl (by kernel_rfl) ⟨⟨_,a1⟩,q5.1 2⟩ ?_;intro dJ aH;obtain ⟨aU,dz⟩:=H.1.AU (B:=w.heap.size) J (seg:= [.int .i64 (i:Int)]) (j:=2) (x':={cellAt s.cells k with lock:=i}) (Nat.le_refl 3) rfl;replace H:=am (show bI 88 w0 g own bh a8 p (setCell s k {cellAt s.cells k with lock:=i}) (.slice (some ⟨gZ,0,none⟩) s.cells.length bL) (.slice (some ⟨b,0,none⟩) s.tasks.length cap) (.slice cW s.log.length aw) dJ by rw [aH];exact aU);replace F:=am (F.1.trans (show Fr w.heap.size own own eE dJ by rw [aH];exact dz));have j7:=eA (p:=⟨gZ,k*3+2,none⟩) bm.1 (fun he=>by have br:=jl.1;rw [show gt=gZ from he,cF.1] at br;cases br) (Value.int .i64 (i:Int));rw [<-aH] at j7;replace bm:=am j7;clear j7;clear aN ck aU dz aH a1 q5;have aN:=bf H.1.bB;have ck:=ae bm))
   refine wp_region_still_tail 9 (by kernel_rfl) (by kernel_rfl) ?_;simp only [List.take_succ_cons,List.take_zero,List.drop_succ_cons,List.drop_zero];iterate 9 still_step
   refine wpStill_nil ?_;rw [show IntKind.i64.wrap ((R s i).at_+1)=(R s i).at_+1 from by rw [k0];unfold wrap64;omega];have I:=ei (Below.refl dJ.heap.size dJ);show wpList _ _ _ _ _ dJ.drew;generalize dJ.drew=ih at I ⊢;have bn:=am (H.1.grow I);have bA:=am (F.1.trans (Fr.less (Fr.below I) F.1.size));have yV:=aV bm I;clear H F aN bm ck I;have H:=bn;have F:=bA;have bm:=yV;clear bn bA yV;have aN:=bf H.1.bB;have ck:=ae bm;obtain ⟨s1,dR⟩:∃ x,x=setCell s k {cellAt s.cells k with lock:=i}:=⟨_,rfl⟩;have cw:i < s1.tasks.length:=by rw [dR];exact aa
   have m8:s1.tasks.length<=1048576:=by rw [dR];exact aS
   have pE:R s1 i=R s i:=by rw [dR];rfl
   rw [<-dR] at H aN
   go_wp2_with (first
  |((with_reducible refine bT 3 53 ?_);refine e9 (u:=.int .i64 ((R s i).at_+1)) rfl rfl _ _ rfl rfl rfl rfl rfl (by kernel_rfl) (H.1.ready (i:=i) (by first|exact cw | exact aa|(rw [c5];exact cw)) 6 (by decide)) ?_;intro wn aH;obtain ⟨aU,a1⟩:=H.1.setInt (B:=w.heap.size) (i:=i) (by first|exact cw | exact aa|(rw [c5];exact cw)) 6 (by decide) ((R s i).at_+1) {R s i with at_:=(R s i).at_+1} (fun _ _ _ _=>by first|(rw [pE];rfl)|(rw [cD (by assumption)];rfl)) (by first|(rw [pE];exact ⟨rfl,rfl,rfl,rfl⟩)|(rw [cD (by assumption)];exact ⟨rfl,rfl,rfl,rfl⟩));rw [<-aH] at aU a1;replace F:=am (F.1.trans a1);(try rw [set_set] at aU);replace H:=am aU;have j7:=eA (p:=⟨b,i*13+6,none⟩) bm.1 (fun he=>by have br:=jl.1;rw [show gt=b from he,jc.1] at br;cases br) (Value.int .i64 ((R s i).at_+1));rw [<-aH] at j7;have AW:=am j7;clear aN aU a1 aH j7 bm ck;have ck:=ae AW;have aN:=bf H.1.bB)
  |(go_at_call 136;refine (BA i 3 _ H.1 (by rw [c5];exact cw) (by rw [c5];exact m8)).mono ?_;rintro e ih ⟨rfl,h1,f1⟩;have bn:=am h1;have bA:=am (F.1.trans (Fr.less f1 F.1.size));clear H F aN h1 f1))
   refine fv ?_;refine ⟨rfl,own, ?_,bA.1⟩;have h:=bn.1;unfold k4 at h;rw [set_set,cD (s:=s1) cw,dR] at h;unfold lock;simp only [rU.1,if_neg (show ¬ 0<=(cellAt s.cells k).lock by have:=dq.1;omega),if_pos e3.1]
   exact h
  | false=>
   have e3:=am (of_decide_eq_false (by simpa using pK):¬ (R s i).at_+1=((R s i).ai.length:Int))
   go_wp2_with (first
  |((with_reducible refine aQ 13 ?_);refine c4 b (i*13) cJ.1 ?_)
  |((with_reducible refine aQ 4 ?_);refine hy 38 ?_;intro gt b' dM GT cF;clear aN)
  |((with_reducible refine bT 38 4 ?_);refine dG dM ?_;intro eE ad U;have bm:=am ad;have bk:=fq cF GT U;have jl:=am (show own gt=0 by rw [GT.1];exact H.1.dk _ (Nat.le_refl _));replace H:=am (H.1.grow bk);have bA:=am (Fr.below (own:=own) bk);replace jy:=ks jy bk;replace hc:=ks hc bk;clear ad U dM bk cF cJ;have F:=bA;clear bA;have aN:=bf H.1.bB;have ck:=ae bm;obtain ⟨ud,sU,HL,rfl,xI,ri,l2,-⟩:=dd hc.1 gU bx (by omega) (by decide);have gI:=mZ ri;subst gI;obtain ⟨lE,n8⟩:∃ x,x=putAt (R s i).ai bx:=⟨_,rfl⟩;rw [show List.getD (R s i).ai bx gU=lE from n8.symm] at l2;have vP:=am n8;clear n8;have rj:=l2 0 _ rfl;have sb:=l2 1 _ rfl;simp only [show cn.bD=2 from rfl,Nat.add_zero] at rj sb;clear l2 ri xI;rw [vP.1,rT.1] at rj;obtain ⟨bQ,nD⟩:=H.1.cell J;have a1:=bQ 2 _ rfl;have q5:=am nD;clear bQ nD)
  |((with_reducible refine bT 3 42 ?_);refine e9 (u:=.int .i64 (i:Int)) rfl rfl _ _ rfl rfl rfl rfl rfl (by kernel_rfl) ⟨⟨_,a1⟩,q5.1 2⟩ ?_;intro dJ aH;obtain ⟨aU,dz⟩:=H.1.AU (B:=w.heap.size) J (seg:= [.int .i64 (i:Int)]) (j:=2) (x':={cellAt s.cells k with lock:=i}) (Nat.le_refl 3) rfl;replace H:=am (show bI 88 w0 g own bh a8 p (setCell s k {cellAt s.cells k with lock:=i}) (.slice (some ⟨gZ,0,none⟩) s.cells.length bL) (.slice (some ⟨b,0,none⟩) s.tasks.length cap) (.slice cW s.log.length aw) dJ by rw [aH];exact aU);replace F:=am (F.1.trans (show Fr w.heap.size own own eE dJ by rw [aH];exact dz));have j7:=eA (p:=⟨gZ,k*3+2,none⟩) bm.1 (fun he=>by have br:=jl.1;rw [show gt=gZ from he,cF.1] at br;cases br) (Value.int .i64 (i:Int));rw [<-aH] at j7;replace bm:=am j7;clear j7;clear aN ck aU dz aH a1 q5;have aN:=bf H.1.bB;have ck:=ae bm))
   refine wp_region_still_tail 9 (by kernel_rfl) (by kernel_rfl) ?_;simp only [List.take_succ_cons,List.take_zero,List.drop_succ_cons,List.drop_zero];iterate 9 still_step
   refine wpStill_nil ?_;rw [show IntKind.i64.wrap ((R s i).at_+1)=(R s i).at_+1 from by rw [k0];unfold wrap64;omega];have I:=ei (Below.refl dJ.heap.size dJ);show wpList _ _ _ _ _ dJ.drew;generalize dJ.drew=ih at I ⊢;have bn:=am (H.1.grow I);have bA:=am (F.1.trans (Fr.less (Fr.below I) F.1.size));have yV:=aV bm I;clear H F aN bm ck I;have H:=bn;have F:=bA;have bm:=yV;clear bn bA yV;have aN:=bf H.1.bB;have ck:=ae bm;obtain ⟨s1,dR⟩:∃ x,x=setCell s k {cellAt s.cells k with lock:=i}:=⟨_,rfl⟩;have cw:i < s1.tasks.length:=by rw [dR];exact aa
   have m8:s1.tasks.length<=1048576:=by rw [dR];exact aS
   have pE:R s1 i=R s i:=by rw [dR];rfl
   rw [<-dR] at H aN
   go_wp2_with (first
  |((with_reducible refine bT 3 53 ?_);refine e9 (u:=.int .i64 ((R s i).at_+1)) rfl rfl _ _ rfl rfl rfl rfl rfl (by kernel_rfl) (H.1.ready (i:=i) (by first|exact cw | exact aa|(rw [c5];exact cw)) 6 (by decide)) ?_;intro wn aH;obtain ⟨aU,a1⟩:=H.1.setInt (B:=w.heap.size) (i:=i) (by first|exact cw | exact aa|(rw [c5];exact cw)) 6 (by decide) ((R s i).at_+1) {R s i with at_:=(R s i).at_+1} (fun _ _ _ _=>by first|(rw [pE];rfl)|(rw [cD (by assumption)];rfl)) (by first|(rw [pE];exact ⟨rfl,rfl,rfl,rfl⟩)|(rw [cD (by assumption)];exact ⟨rfl,rfl,rfl,rfl⟩));rw [<-aH] at aU a1;replace F:=am (F.1.trans a1);(try rw [set_set] at aU);replace H:=am aU;have j7:=eA (p:=⟨b,i*13+6,none⟩) bm.1 (fun he=>by have br:=jl.1;rw [show gt=b from he,jc.1] at br;cases br) (Value.int .i64 ((R s i).at_+1));rw [<-aH] at j7;have AW:=am j7;clear aN aU a1 aH j7 bm ck;have ck:=ae AW;have aN:=bf H.1.bB))
   refine fv ?_;refine ⟨rfl,own, ?_,F.1⟩;unfold lock;simp only [rU.1,if_neg (show ¬ 0<=(cellAt s.cells k).lock by have:=dq.1;omega),if_neg e3.1];have h:=H.1;rw [dR] at h;exact h
end
end Go.Proofs.YteajdhhmkjblnaaGreatDoor.Eq
namespace Go.Proofs.YteajdhhmkjblnaaGreatDoor.Eq
structure k3 (n:Nat) (l:List cI):Prop where
 cell:∀ x ∈ l,0<=x.cell/\x.cell < n
 num:∀ x ∈ l,0<=x.num/\x.num<=99
 vQ:l.Pairwise fun x y=>x.cell < y.cell
theorem k3.nil (n:Nat):k3 n []:=⟨by simp,by simp,List.Pairwise.nil⟩
theorem Rc (n:Nat):∀ (l:List cI) (hC:Int),0<=hC->(∀ x ∈ l,hC<=x.cell/\x.cell < n)->l.Pairwise (fun x y=>x.cell < y.cell)->(l.length:Int)<=max 0 (n - hC)
 | [],hC,_,_,_=>by simp;omega
 | y :: l,hC,aq,h,aB=>by
  have h1:=h y (by simp);rw [List.pairwise_cons] at aB;have:=Rc n l (y.cell+1) (by omega) (fun x az=>⟨by have:=aB.1 x az;omega,(h x (by simp [az])).2⟩) aB.2;simp only [List.length_cons];omega
theorem k3.len {n:Nat} {l:List cI} (h:k3 n l):l.length<=n:=by
 have:=Rc n l 0 (by omega) h.cell h.vQ
 omega
theorem k3.at {n:Nat} {l:List cI} (h:k3 n l) {k:Nat} (J:k < l.length):(0<=(putAt l k).cell/\(putAt l k).cell < n)/\0<=(putAt l k).num/\(putAt l k).num<=99:=by
 have he:putAt l k=l[k]:=by simp [putAt,J]
 rw [he];exact ⟨h.cell _ (List.getElem_mem J),h.num _ (List.getElem_mem J)⟩
theorem St (x:cI):∀ l:List cI,(∀ y ∈ l,x.cell < y.cell)->nG x true l=l
 | [],_=>rfl
 | y :: l,h=>by
  have h1:=h y (by simp);unfold nG;rw [Bool.true_or,St x l (fun z aX=>h z (by simp [aX])),if_neg (by simp),if_neg (by omega)];rfl
theorem abv (x:cI) (y:cI) (l:List cI) (h:(y :: l).Pairwise fun x y=>x.cell < y.cell):nG x false (y :: l)=if x.cell<=y.cell then x :: (if y.cell=x.cell then l else y :: l) else y :: nG x false l:=by
 rw [List.pairwise_cons] at h;rw [nG];by_cases hle:x.cell<=y.cell
 ·rw [if_pos ⟨rfl,hle⟩,if_pos hle,show (false || decide (x.cell<=y.cell))=true by simp [hle],St x l (fun z aX=>by have:=h.1 z aX;omega)]
  split <;> simp
 ·rw [if_neg (fun h=>hle h.2),if_neg hle,show (false || decide (x.cell<=y.cell))=false by simp [hle],if_neg (by omega)]
  rfl
theorem Ix (x:cI):∀ (l:List cI) (fin:Bool),∀ z ∈ nG x fin l,z=x\/z ∈ l
 | [],fin,z,aX=>by
  unfold nG at aX
  split at aX <;> simp_all
 | y :: l,fin,z,aX=>by
  unfold nG at aX;simp only [List.mem_append] at aX;rcases aX with (aX | aX)|aX
  ·split at aX <;> simp_all
  ·split at aX <;> simp_all
  ·rcases Ix x l _ z aX with h | h
   ·exact .inl h
   ·exact .inr (by simp [h])
theorem R8 (x:cI):∀ l:List cI,l.Pairwise (fun x y=>x.cell < y.cell)->(nG x false l).Pairwise fun x y=>x.cell < y.cell
 | [],_=>by simp [nG]
 | y :: l,h=>by
  rw [abv x y l h];have ct:=h;rw [List.pairwise_cons] at h;split
  ·rename_i hle
   rw [List.pairwise_cons];split
   ·rename_i he
    exact ⟨fun z aX=>by have:=h.1 z aX;omega,h.2⟩
   ·refine ⟨fun z aX=> ?_,ct⟩
    rcases List.mem_cons.1 aX with rfl | aX
    ·omega
    ·have:=h.1 z aX
     omega
  ·rw [List.pairwise_cons]
   refine ⟨fun z aX=> ?_,R8 x l h.2⟩;rcases Ix x l false z aX with rfl | aX
   ·omega
   ·exact h.1 z aX
theorem k3.add {n:Nat} {l:List cI} (h:k3 n l) {x:cI} (ay:0<=x.cell/\x.cell < n) (aS:0<=x.num/\x.num<=99):k3 n (jH l x) where
 cell:=fun z aX=>by
  rcases Ix x l false z aX with rfl | aX
  ·exact ay
  ·exact h.cell z aX
 num:=fun z aX=>by
  rcases Ix x l false z aX with rfl | aX
  ·exact aS
  ·exact h.num z aX
 vQ:=R8 x l h.vQ
structure tj (l:List Int):Prop where
 len:l.length=3
 num:∀ k,k < 3->0<=cC l k/\cC l k<=99
theorem Bw {l:List Int} {k j:Nat} {x:Int} (J:k < l.length):cC (l.set k x) j=if k=j then x else cC l j:=by
 simp only [cC,List.getD_eq_getElem?_getD,List.getElem?_set];split
 ·rename_i h
  subst h;simp [J]
 ·rfl
theorem tj.set {l:List Int} (h:tj l) {a:Int} (ha:0<=a/\a<=2) {x:Int} (az:0<=x/\x<=99):tj (l.set a.toNat x) where
 len:=by rw [List.length_set];exact h.len
 num:=fun k J=>by
  rw [Bw (by rw [h.len];omega)];split
  ·exact az
  ·exact h.num k J
theorem tj.at {l:List Int} (h:tj l) {a:Int} (ha:0<=a/\a<=2):0<=cC l a.toNat/\cC l a.toNat<=99:=h.num _ (by omega)
theorem Zz {l:List Int} (h:tj l) {d:Deed} {cells:Int} (aO:ff d cells=true):tj (pe l d):=by
 unfold pe;unfold ff at aO;by_cases aA:d.kind=3
 ·rw [if_pos aA]
  rw [if_neg (by omega),if_neg (by omega),if_pos aA] at aO;simp only [Bool.and_eq_true,e0] at aO;exact h.set aO.1 aO.2
 ·rw [if_neg aA]
  by_cases bR:d.kind=4
  ·rw [if_pos bR]
   rw [if_neg (by omega),if_neg (by omega),if_neg aA,if_pos bR] at aO;simp only [Bool.and_eq_true,e0] at aO;exact h.set aO.1 (by omega)
  ·rw [if_neg bR]
   exact h
theorem zi {gJ:List (List Act)} {i:Nat} (h:i < gJ.length):bo gJ i=gJ[i]:=by simp [bo,h]
theorem wz {p:Prog} (h:ia p=true) {b:Int} (I:0<=b/\b < p.an.length) {k:Nat} (J:k < (bo p.an b.toNat).length):dT p.cells.length p.an.length b (actAt (bo p.an b.toNat) k)=true:=by
 simp only [ia,Bool.and_eq_true,hv] at h
 have:=h.2 b.toNat (by omega)
 simp only [qt,Bool.and_eq_true,hv] at this;have ar:=this.2 k J;rwa [show ((b.toNat:Nat):Int)=b by omega] at ar
theorem Ga {p:Prog} (h:ia p=true) {b:Int} (I:0<=b/\b < p.an.length):(bo p.an b.toNat).length<=4:=by
 simp only [ia,Bool.and_eq_true,hv] at h
 have:=h.2 b.toNat (by omega)
 simp only [qt,Bool.and_eq_true,decide_eq_true_eq] at this;exact this.1
theorem wE {p:Prog} (h:ia p=true):p.cells.length<=3/\1<=p.an.length/\p.an.length<=4:=by
 simp only [ia,Bool.and_eq_true,decide_eq_true_eq,e0] at h;omega
theorem Ii {cells an body:Int} {a:Act} (h:dT cells an body a=true) (J:a.kind=1):a.bP.length<=5/\∀ k,k < a.bP.length->ff (mX a.bP k) cells=true:=by
 unfold dT at h;split at h
 ·cases h
 ·(try rw [if_pos J] at h)
  simp only [Bool.and_eq_true,decide_eq_true_eq,za,hv] at h;exact ⟨h.2,h.1⟩
theorem F5 {cells an body:Int} {a:Act} (h:dT cells an body a=true) (J:a.kind=2):a.kids.length<=2/\1<=a.kids.length/\∀ k,k < a.kids.length->body+1<=cC a.kids k/\cC a.kids k<=an - 1:=by
 unfold dT at h;split at h
 ·cases h
 ·rw [if_neg (by omega)] at h
  (try rw [if_pos J] at h)
  simp only [Bool.and_eq_true,qs,hv,e0] at h;exact ⟨by omega,by omega,fun k J=>h.1 k J⟩
theorem L0 {cells an body:Int} {a:Act} (h:dT cells an body a=true) (h1:a.kind ≠ 1) (ar:a.kind ≠ 2) (aA:a.kind ≠ 3):a.kind=4/\0<=a.eY/\a.eY<=2:=by
 unfold dT at h;split at h
 ·cases h
 ·(try rw [if_neg h1,if_neg ar,if_neg aA] at h)
  split at h
  ·rename_i bR
   exact ⟨bR,(e0.1 h).1,(e0.1 h).2⟩
  ·cases h
structure xz (p:Prog) (clock:Int) (i:Nat) (t:Task):Prop where
 jF:0<=t.body
 jZ:t.body < p.an.length
 iv:0<=t.aR
 oW:t.aR<=(bo p.an t.body.toNat).length
 qb: -1<=t.up
 lV:t.up < i
 aL:tj t.aL
 bE:tj t.bE
 reads:k3 p.cells.length t.reads
 ai:k3 p.cells.length t.ai
 qv:0<=t.since
 qw:t.since<=clock
 hE:0<=t.at_
 qx:0<=t.aE/\t.aE<=5
 oB:t.aE ≠ 0->t.a7=0/\t.aR < (bo p.an t.body.toNat).length/\(actAt (bo p.an t.body.toNat) t.aR.toNat).kind=1
 kQ:t.aE=2\/t.aE=5->t.at_ < t.ai.length
 some:t.aE=3\/t.aE=4->t.ai ≠ []
 wait:t.a7=1->t.aR < (bo p.an t.body.toNat).length/\(actAt (bo p.an t.body.toNat) t.aR.toNat).kind=2
def busy (t:Task):Nat:=if t.aE=0 then 0 else 1
theorem YV (t:Task):busy t<=1:=by unfold busy;split <;> omega
theorem K1:(0:Int)<=0/\(0:Int)<=5:=by decide
theorem W3:(0:Int)<=1/\(1:Int)<=5:=by decide
theorem W4:(0:Int)<=4/\(4:Int)<=5:=by decide
theorem Rx {α:Type} (f:α->Nat) (d:α):∀ (l:List α) (i:Nat) (x:α),i < l.length->eP f (l.set i x)+f (l.getD i d)=eP f l+f x
 | [],i,x,h=>by simp at h
 | a :: l,0,x,_=>by simp [eP];omega
 | a :: l,i+1,x,h=>by
  have:=Rx f d l i x (by simpa using h)
  simp only [List.set_cons_succ,eP,List.getD_cons_succ];omega
theorem MB {α:Type} (f:α->Nat):∀ (l m:List α),eP f (l ++ m)=eP f l+eP f m
 | [],m=>by simp [eP]
 | a :: l,m=>by simp [eP,MB f l m];omega
theorem RO {α:Type} (f:α->Nat):∀ (l:List α),(∀ a ∈ l,f a=0)->eP f l=0
 | [],_=>rfl
 | a :: l,h=>by simp [eP,h a (by simp),RO f l (fun b I=>h b (by simp [I]))]
structure Inv (p:Prog) (s:Sys) (N:Nat):Prop where
 prog:k2 p=true
 cells:s.cells.length=p.cells.length
 nums:∀ k,k < s.cells.length->0<=(cellAt s.cells k).num/\(cellAt s.cells k).num<=99
 task:∀ i,i < s.tasks.length->xz p s.clock i (R s i)
 qy:0<=s.clock
 sn:s.clock<=200
 room:s.log.length+eP busy s.tasks<=N
 many:s.tasks.length<=N
 kX:∀ e ∈ s.log,e.reads.length<=3/\e.ai.length<=3
section
variable {p:Prog} {s:Sys} {N i:Nat}
theorem Inv.form (h:Inv p s N):ia p=true:=by
 have:=h.prog
 simp only [k2,Bool.and_eq_true] at this;exact this.1
theorem Inv.more (h:Inv p s N) {M:Nat} (hm:N<=M):Inv p s M:=⟨h.prog,h.cells,h.nums,h.task,h.qy,h.sn,Nat.le_trans h.room hm,Nat.le_trans h.many hm,h.kX⟩
theorem Inv.sz (h:Inv p s N):s.cells.length<=3:=by rw [h.cells];exact (wE h.form).1
theorem Inv.reads (h:Inv p s N) (aa:i < s.tasks.length):(R s i).reads.length<=3:=Nat.le_trans (h.task i aa).reads.len (wE h.form).1
theorem Inv.ai (h:Inv p s N) (aa:i < s.tasks.length):(R s i).ai.length<=3:=Nat.le_trans (h.task i aa).ai.len (wE h.form).1
theorem Inv.cq (h:Inv p s N) (aa:i < s.tasks.length):(bo p.an (R s i).body.toNat).length<=4:=Ga h.form ⟨(h.task i aa).jF,(h.task i aa).jZ⟩
theorem Inv.aR (h:Inv p s N) (aa:i < s.tasks.length):(R s i).aR<=4:=by
 have:=(h.task i aa).oW
 have:=h.cq aa
 omega
theorem Inv.set (h:Inv p s N) (aa:i < s.tasks.length) {t:Task} {log:List Entry} (k:Nat) (a6:xz p s.clock i t) (ao:log.length+busy t<=s.log.length+busy (R s i)+k) (HM:∀ e ∈ log,e.reads.length<=3/\e.ai.length<=3):Inv p {b0 s i t with log:=log} (N+k) where
 kX:=HM
 prog:=h.prog
 cells:=h.cells
 nums:=h.nums
 task:=fun j aI=>by
  have w8:j < s.tasks.length:=by simpa [b0] using aI
  show xz p s.clock j (R (b0 s i t) j);by_cases he:j=i
  ·subst he
   rw [cD aa];exact a6
  ·rw [oH he]
   exact h.task j w8
 qy:=h.qy
 sn:=h.sn
 room:=by
  have:=h.room
  have ar:=Rx busy dS s.tasks i t aa;have aA:s.tasks.getD i dS=R s i:=rfl;rw [aA] at ar;show log.length+eP busy (s.tasks.set i t)<=N+k;omega
 many:=by
  have:=h.many
  show (s.tasks.set i t).length<=N+k;rw [List.length_set];omega
theorem Inv.ta (h:Inv p s N) (aa:i < s.tasks.length) {t:Task} (a6:xz p s.clock i t) (ao:busy t<=busy (R s i)):Inv p (b0 s i t) N:=h.set (log:=s.log) aa 0 a6 (by omega) h.kX
theorem Inv.Re (h:Inv p s N) {k:Nat} {c:Cell} (ay:0<=c.num/\c.num<=99):Inv p (setCell s k c) N where
 prog:=h.prog
 cells:=by show (s.cells.set k c).length=_;rw [List.length_set];exact h.cells
 nums:=fun j aI=>by
  have w8:j < s.cells.length:=by simpa [setCell] using aI
  show 0<=(cellAt (s.cells.set k c) j).num/\(cellAt (s.cells.set k c) j).num<=99;simp only [cellAt,List.getD_eq_getElem?_getD,List.getElem?_set];split
  ·rename_i he
   subst he;simp [w8,ay]
  ·have:=h.nums j w8
   simpa [cellAt,List.getD_eq_getElem?_getD] using this
 task:=h.task
 qy:=h.qy
 sn:=h.sn
 room:=h.room
 many:=h.many
 kX:=h.kX
theorem Inv.free (h:Inv p s N) (i:Nat):Inv p (free s i) N where
 prog:=h.prog
 cells:=by show (s.cells.map _).length=_;rw [List.length_map];exact h.cells
 nums:=fun j aI=>by
  have w8:j < s.cells.length:=by simpa [Eq.free] using aI
  have:=h.nums j w8
  simp only [cellAt,Eq.free,List.getD_eq_getElem?_getD,List.getElem?_map,List.getElem?_eq_getElem w8,Option.map_some,Option.getD_some] at this ⊢;split <;> exact this
 task:=h.task
 qy:=h.qy
 sn:=h.sn
 room:=h.room
 many:=h.many
 kX:=h.kX
theorem Inv.again (h:Inv p s N) (aa:i < s.tasks.length):Inv p (again s i) N:=by
 have h1:=h.free i;have t:=h1.task i aa;refine h1.ta aa ⟨t.jF,t.jZ,t.iv,t.oW,t.qb,t.lV,t.bE,t.bE,k3.nil _,k3.nil _,t.qv,t.qw,Int.le_refl 0,K1,fun h=>absurd rfl h,fun h=> ?_,fun h=> ?_,t.wait⟩ (by simp [busy])
 ·rcases h with h | h <;> cases h
 ·rcases h with h | h <;> cases h
theorem pT (aa:i < s.tasks.length):R (again s i) i= {R s i with aL:=(R s i).bE,reads:= [],ai:= [],bw:=0,aE:=0,at_:=0}:=cD aa
theorem m1:(again s i).tasks.length=s.tasks.length:=c5 _ _ _
theorem xz.done {t:Task} {c:Int} (h:xz p c i t) (ay:0<=c) (hs:t.aE ≠ 0):xz p c i {t with aR:=t.aR+1,reads:= [],ai:= [],since:=0,bw:=0,from_:=0,aE:=0,at_:=0}:=by
 have h1:=h.oB hs;have aq:=h.iv;refine ⟨h.jF,h.jZ, ?_, ?_,h.qb,h.lV,h.aL,h.bE,k3.nil _,k3.nil _,Int.le_refl 0,ay,Int.le_refl 0,K1,fun h=>absurd rfl h,fun h=> ?_,fun h=> ?_,fun h=> ?_⟩
 ·show 0<=t.aR+1
  omega
 ·show t.aR+1<=((bo p.an t.body.toNat).length:Int)
  omega
 ·rcases h with h | h <;> cases h
 ·rcases h with h | h <;> cases h
 ·have ar:t.a7=1:=h
  rw [h1.1] at ar;cases ar
theorem Inv.done (h:Inv p s N) (aa:i < s.tasks.length) (hs:(R s i).aE ≠ 0) (w:Int):Inv p (done s i w) N:=
 h.set aa 0 ((h.task i aa).done h.qy hs) (by simp [busy,hs]) (fun e he=>by
  rcases List.mem_append.1 he with he | he
  ·exact h.kX e he
  ·rw [List.mem_singleton.1 he]
   exact ⟨h.reads aa,h.ai aa⟩)
theorem YW (aa:i < s.tasks.length) (a w:Int):Eq.done (b0 s i {R s i with at_:=a}) i w=Eq.done s i w:=by
 unfold Eq.done;simp only [cD aa,set_set];rfl
theorem Inv.k4 (h:Inv p s N) (aa:i < s.tasks.length) (hs:(R s i).aE ≠ 0) (st:Int) (h1:2<=st/\st<=5) (aB:(R s i).ai ≠ []):Inv p (k4 s i st) N:=by
 have t:=h.task i aa;refine h.ta aa ⟨t.jF,t.jZ,t.iv,t.oW,t.qb,t.lV,t.aL,t.bE,t.reads,t.ai,t.qv,t.qw,Int.le_refl 0,⟨?_,h1.2⟩,fun _=>t.oB hs,fun _=> ?_,fun _=>aB,t.wait⟩ ?_
 ·show 0<=st
  omega
 ·have:=List.length_pos_iff.2 aB
  show (0:Int) < ((R s i).ai.length:Int);omega
 ·unfold busy
  rw [if_neg hs];split <;> omega
theorem Inv.wm (h:Inv p s N) (aa:i < s.tasks.length) (hw:(R s i).a7=0) (mh:(R s i).aR < (bo p.an (R s i).body.toNat).length) (J:(actAt (bo p.an (R s i).body.toNat) (R s i).aR.toNat).kind=1):Inv p (wm s i) (N+1):=by
 have t:=h.task i aa;refine h.set (log:=s.log) aa 1 ⟨t.jF,t.jZ,t.iv,t.oW,t.qb,t.lV,t.aL,t.aL,t.reads,t.ai,h.qy,Int.le_refl _,Int.le_refl 0,W3,fun _=>⟨hw,mh,J⟩,fun h=> ?_,fun h=> ?_,t.wait⟩ ?_ h.kX
 ·rcases h with h | h <;> cases h
 ·rcases h with h | h <;> cases h
 ·exact Nat.le_trans (Nat.add_le_add_left (YV _) _) (by omega)
theorem Inv.next (h:Inv p s N) (aa:i < s.tasks.length) (hs:(R s i).aE=1) {aL:List Int} {reads ai:List cI} (ao:tj aL) (h1:k3 p.cells.length reads) (ar:k3 p.cells.length ai):Inv p (b0 s i {R s i with aL:=aL,reads:=reads,ai:=ai,at_:=(R s i).at_+1}) N:=by
 have t:=h.task i aa;refine h.ta aa ⟨t.jF,t.jZ,t.iv,t.oW,t.qb,t.lV,ao,t.bE,h1,ar,t.qv,t.qw, ?_,t.qx,t.oB,fun h=> ?_,fun h=> ?_,t.wait⟩ (by simp [busy])
 ·have:=t.hE
  show 0<=(R s i).at_+1;omega
 ·have ct:(R s i).aE=2\/(R s i).aE=5:=h
  omega
 ·have ct:(R s i).aE=3\/(R s i).aE=4:=h
  omega
theorem Ry {xs:List cI} {c:Int} {k:Nat} (h:iD xs c=some k):k < xs.length:=by
 unfold iD at h;rw [List.findIdx?_eq_some_iff_getElem] at h;exact h.1
theorem Inv.load (h:Inv p s N) (aa:i < s.tasks.length) (hs:(R s i).aE=1) {d:Deed} (ha:0<=d.a/\d.a<=2) (I:0<=d.b/\d.b < p.cells.length):Inv p (load s i d) N:=by
 have t:=h.task i aa;unfold Eq.load;simp only []
 cases bb:iD (R s i).ai d.b with
 | some k=>exact h.next aa hs (t.aL.set ha (t.ai.at (Ry bb)).2) t.reads t.ai
 | none=>
  have ay:=h.nums d.b.toNat (by rw [h.cells];omega);show Inv p (if blind s i d.b=true then _ else _) N;split
  ·exact h.again aa
  ·exact h.next aa hs (t.aL.set ha ay) (t.reads.add (x:=⟨d.b,(cellAt s.cells d.b.toNat).num⟩) I ay) t.ai
theorem Inv.n7 (h:Inv p s N) (aa:i < s.tasks.length) (hs:(R s i).aE=1) {ds:List Deed} (aO:∀ k,k < ds.length->ff (mX ds k) p.cells.length=true):Inv p (n7 s i ds) N:=by
 have t:=h.task i aa;have jC:(R s i).aE ≠ 0:=by omega
 unfold Eq.n7;have aq:=t.hE;simp only [];split
 ·split
  ·exact h.done aa jC _
  ·rename_i cm
   exact h.k4 aa jC 2 (by omega) cm
 ·rename_i aJ
  have c7:=aO (R s i).at_.toNat (by omega);generalize mX ds (R s i).at_.toNat=d at c7 ⊢;by_cases aU:d.kind=1
  ·rw [if_pos aU]
   unfold ff at c7;rw [if_pos aU] at c7;simp only [Bool.and_eq_true,e0] at c7;exact h.load aa hs c7.1 ⟨c7.2.1,by omega⟩
  ·rw [if_neg aU]
   by_cases a1:d.kind=2
   ·rw [if_pos a1]
    unfold ff at c7;rw [if_neg aU,if_pos a1] at c7;simp only [Bool.and_eq_true,e0] at c7;exact h.next aa hs t.aL t.reads (t.ai.add ⟨c7.1.1,by show d.a < _;omega⟩ (t.aL.at c7.2))
   ·rw [if_neg a1]
    split
    ·have h1:=h.again aa
     have t1:=h1.task i (by rw [m1];exact aa);rw [pT aa] at t1;refine h1.ta (by rw [m1];exact aa) ?_ ?_
     ·rw [pT aa]
      exact ⟨t1.jF,t1.jZ,t1.iv,t1.oW,t1.qb,t1.lV,t1.aL,t1.bE,t1.reads,t1.ai,t1.qv,t1.qw,t1.hE,t1.qx,t1.oB,t1.kQ,t1.some,t1.wait⟩
     ·rw [pT aa]
      simp [busy]
    ·exact h.next aa hs (Zz t.aL c7) t.reads t.ai
theorem Inv.lock (h:Inv p s N) (aa:i < s.tasks.length) (hs:(R s i).aE=2):Inv p (lock s i) N:=by
 have t:=h.task i aa;have jC:(R s i).aE ≠ 0:=by omega
 have ha:=t.kQ (.inl hs);have aq:=t.hE;have aB:(R s i).ai ≠ []:=fun he=>by rw [he] at ha;simp at ha;omega
 have az:=t.ai.at (k:=(R s i).at_.toNat) (by omega);unfold Eq.lock;simp only [];split
 ·exact h.again aa
 ·have ay:=h.nums (putAt (R s i).ai (R s i).at_.toNat).cell.toNat (by rw [h.cells];omega)
  have h1:=h.Re (k:=(putAt (R s i).ai (R s i).at_.toNat).cell.toNat) (c:={cellAt s.cells (putAt (R s i).ai (R s i).at_.toNat).cell.toNat with lock:=i}) ay;split
  ·exact h1.k4 aa jC 3 (by omega) aB
  ·rename_i cm
   refine h1.ta aa ⟨t.jF,t.jZ,t.iv,t.oW,t.qb,t.lV,t.aL,t.bE,t.reads,t.ai,t.qv,t.qw, ?_,t.qx,t.oB,fun _=> ?_,fun _=>aB,t.wait⟩ (by simp [busy];exact Nat.le_refl _)
   ·show 0<=(R s i).at_+1
    omega
   ·show (R s i).at_+1 < ((R s i).ai.length:Int)
    omega
theorem Inv.time (h:Inv p s N) (aa:i < s.tasks.length) (hs:(R s i).aE=3) (ay:s.clock < 200):Inv p (time s i) N:=by
 have t:=h.task i aa
 have h1:Inv p {s with clock:=s.clock+1} N:=⟨h.prog,h.cells,h.nums,fun j aI=>by
  have u:=h.task j aI;exact ⟨u.jF,u.jZ,u.iv,u.oW,u.qb,u.lV,u.aL,u.bE,u.reads,u.ai,u.qv,Int.le_trans u.qw (by show s.clock<=s.clock+1;omega),u.hE,u.qx,u.oB,u.kQ,u.some,u.wait⟩,by have:=h.qy;show 0<=s.clock+1;omega,by show s.clock+1<=200;omega,h.room,h.many,h.kX⟩
 have t1:=h1.task i aa;have I:busy {R s i with bw:=s.clock+1,aE:=4,at_:=0}<=busy (R s i):=by simp [busy,hs]
 refine h1.ta (t:={R s i with bw:=s.clock+1,aE:=4,at_:=0}) aa ⟨t1.jF,t1.jZ,t1.iv,t1.oW,t1.qb,t1.lV,t1.aL,t1.bE,t1.reads,t1.ai,t1.qv,t1.qw,Int.le_refl 0,W4,fun _=>t.oB (by omega),fun h=> ?_,fun _=>t.some (.inl hs),t1.wait⟩ I;rcases h with h | h <;> cases h
theorem Inv.check (h:Inv p s N) (aa:i < s.tasks.length) (hs:(R s i).aE=4):Inv p (check s i) N:=by
 have t:=h.task i aa;unfold Eq.check;simp only [];split
 ·exact h.k4 aa (by omega) 5 (by omega) (t.some (.inr hs))
 ·split
  ·exact h.again aa
  ·refine h.ta aa ⟨t.jF,t.jZ,t.iv,t.oW,t.qb,t.lV,t.aL,t.bE,t.reads,t.ai,t.qv,t.qw, ?_,t.qx,t.oB,fun h=> ?_,fun _=>t.some (.inr hs),t.wait⟩ (by simp [busy])
   ·have:=t.hE
    show 0<=(R s i).at_+1;omega
   ·have ct:(R s i).aE=2\/(R s i).aE=5:=h
    omega
theorem Inv.write (h:Inv p s N) (aa:i < s.tasks.length) (hs:(R s i).aE=5):Inv p (write s i) N:=by
 have t:=h.task i aa;have jC:(R s i).aE ≠ 0:=by omega
 have ha:=t.kQ (.inr hs);have aq:=t.hE;have az:=t.ai.at (k:=(R s i).at_.toNat) (by omega);have h1:=h.Re (k:=(putAt (R s i).ai (R s i).at_.toNat).cell.toNat) (c:=⟨(putAt (R s i).ai (R s i).at_.toNat).num,(R s i).bw,-1⟩) az.2;unfold Eq.write;simp only [];split
 ·rename_i he
  have ar:=h1.done aa jC (R s i).bw;exact (congrArg (fun x=>Inv p x N) (YW (s:=setCell s (putAt (R s i).ai (R s i).at_.toNat).cell.toNat ⟨(putAt (R s i).ai (R s i).at_.toNat).num,(R s i).bw,-1⟩) aa ((R s i).at_+1) (R s i).bw)).mpr ar
 ·rename_i he
  refine h1.ta aa ⟨t.jF,t.jZ,t.iv,t.oW,t.qb,t.lV,t.aL,t.bE,t.reads,t.ai,t.qv,t.qw, ?_,t.qx,t.oB,fun _=> ?_,fun h=> ?_,t.wait⟩ (by simp [busy];exact Nat.le_refl _)
  ·show 0<=(R s i).at_+1
   omega
  ·show (R s i).at_+1 < ((R s i).ai.length:Int)
   omega
  ·have ct:(R s i).aE=3\/(R s i).aE=4:=h
   omega
theorem wC:(write s i).tasks.length=s.tasks.length:=by
 unfold Eq.write Eq.done;simp only [];split <;> simp [b0,setCell]
theorem Inv.jT (h:Inv p s N) (aa:i < s.tasks.length) (ay:s.clock < 200) (hw:(R s i).a7=0) (mh:(R s i).aR < (bo p.an (R s i).body.toNat).length) (J:(actAt (bo p.an (R s i).body.toNat) (R s i).aR.toNat).kind=1):Inv p (jT s i (actAt (bo p.an (R s i).body.toNat) (R s i).aR.toNat).bP) (N+1):=by
 have t:=h.task i aa;have aq:=t.iv;unfold Eq.jT;by_cases bU:(R s i).aE=0
 ·rw [if_pos bU]
  exact h.wm aa hw mh J
 ·rw [if_neg bU]
  refine Inv.more ?_ (Nat.le_succ N);by_cases s1:(R s i).aE=1
  ·rw [if_pos s1]
   exact h.n7 aa s1 (Ii (wz h.form ⟨t.jF,t.jZ⟩ (by omega)) J).2
  ·rw [if_neg s1]
   by_cases s2:(R s i).aE=2
   ·rw [if_pos s2]
    exact h.lock aa s2
   ·rw [if_neg s2]
    by_cases ec:(R s i).aE=3
    ·rw [if_pos ec]
     exact h.time aa ec ay
    ·rw [if_neg ec]
     by_cases gx:(R s i).aE=4
     ·rw [if_pos gx]
      exact h.check aa gx
     ·rw [if_neg gx]
      exact h.write aa (by have:=t.qx;omega)
theorem Inv.a7 (h:Inv p s N) (aa:i < s.tasks.length) (hs:(R s i).aE=0) {w:Int} (hw:w ≠ 1):Inv p (ib s i w) N:=by
 have t:=h.task i aa;exact h.ta aa ⟨t.jF,t.jZ,t.iv,t.oW,t.qb,t.lV,t.aL,t.bE,t.reads,t.ai,t.qv,t.qw,t.hE,t.qx,fun h=>absurd hs h,t.kQ,t.some,fun h=>absurd h hw⟩ (by simp [busy])
theorem Gi:∀ (n:Nat) (s:Sys),(writes i n s).tasks.length=s.tasks.length
 | 0,s=>rfl
 | n+1,s=>by
  unfold writes;split
  ·rw [Gi n,wC]
  ·rfl
theorem Inv.writes:∀ (n:Nat) {s:Sys},Inv p s N->i < s.tasks.length->Inv p (writes i n s) N
 | 0,s,h,_=>h
 | n+1,s,h,aa=>by
  unfold Eq.writes;split
  ·rename_i hs
   exact Inv.writes n (h.write aa hs) (by rw [wC];exact aa)
  ·exact h
theorem aaJ:(nH s i).tasks.length=s.tasks.length:=by
 unfold nH;split
 ·simp only [ib,c5]
  split
  ·exact Gi _ _
  ·rw [m1,Gi]
 ·rfl
theorem Inv.nH (h:Inv p s N) (aa:i < s.tasks.length):Inv p (nH s i) N:=by
 unfold Eq.nH;split
 ·have h1:=Inv.writes ((R s i).ai.length+1) h aa
  have cw:i < (Eq.writes i ((R s i).ai.length+1) s).tasks.length:=by rw [Gi];exact aa
  simp only [];split
  ·rename_i hs
   exact h1.a7 cw hs (by decide)
  ·exact (h1.again cw).a7 (by rw [m1];exact cw) (by rw [pT cw]) (by decide)
 ·exact h
theorem IB (n:Nat) (aS:∀ s k,(h8 n s k).tasks.length=s.tasks.length):∀ (l:List Nat) (s:Sys),(l.foldl (fun s k=>if (R s k).up=i then h8 n s k else s) s).tasks.length=s.tasks.length
 | [],s=>rfl
 | k :: l,s=>by
  rw [List.foldl_cons,IB n aS l];split
  ·exact aS _ _
  ·rfl
theorem ze:∀ (n:Nat) (s:Sys) (i:Nat),(h8 n s i).tasks.length=s.tasks.length
 | 0,s,i=>rfl
 | n+1,s,i=>by
  unfold h8;rw [aaJ,IB n (fun s k=>ze n s k)]
theorem Inv.H9 {n i:Nat} (aS:∀ {s:Sys} {k:Nat},Inv p s N->k < s.tasks.length->Inv p (h8 n s k) N):∀ (l:List Nat) {s:Sys},Inv p s N->(∀ k ∈ l,k < s.tasks.length)->Inv p (l.foldl (fun s k=>if (R s k).up=i then h8 n s k else s) s) N
 | [],s,h,_=>h
 | k :: l,s,h,ak=>by
  rw [List.foldl_cons];split
  ·exact Inv.H9 aS l (aS h (ak k (by simp))) (fun j aI=>by rw [ze];exact ak j (by simp [aI]))
  ·exact Inv.H9 aS l h (fun j aI=>ak j (by simp [aI]))
theorem Inv.h8:∀ (n:Nat) {s:Sys} {i:Nat},Inv p s N->i < s.tasks.length->Inv p (h8 n s i) N
 | 0,s,i,h,_=>h
 | n+1,s,i,h,aa=>by
  unfold Eq.h8;have h1:=Inv.H9 (i:=i) (fun {s k} h J=>Inv.h8 n h J) (List.range s.tasks.length) h (fun k J=>by simpa using J);exact h1.nH (by rw [IB n (fun s k=>ze n s k)];exact aa)
end
section
variable {p:Prog} {s:Sys} {N i j:Nat}
theorem C9 (h:j ≠ i):R (again s i) j=R s j:=by
 unfold again;rw [oH h];rfl
theorem R9 (h:j ≠ i) (w:Int):R (done s i w) j=R s j:=oH (s:=s) h
theorem abb (h:j ≠ i):R (write s i) j=R s j:=by
 unfold write;simp only [];split
 ·rw [R9 h,oH h]
  rfl
 ·rw [oH h]
  rfl
theorem MG (h:j ≠ i):∀ (n:Nat) (s:Sys),R (writes i n s) j=R s j
 | 0,s=>rfl
 | n+1,s=>by
  unfold writes;split
  ·rw [MG h n,abb h]
  ·rfl
theorem abw (h:j ≠ i):R (nH s i) j=R s j:=by
 unfold nH;split
 ·simp only [ib]
  rw [oH h];split
  ·rw [MG h]
  ·rw [C9 h,MG h]
 ·rfl
theorem Rz:∀ (n:Nat) {s:Sys} {i:Nat},Inv p s N->i < s.tasks.length->j < i->R (h8 n s i) j=R s j
 | 0,s,i,_,_,_=>rfl
 | n+1,s,i,h,aa,aI=>by
  unfold h8;rw [abw (by omega)]
  have:∀ (l:List Nat) {s:Sys},Inv p s N->(∀ k ∈ l,k < s.tasks.length)->R (l.foldl (fun s k=>if (R s k).up=i then h8 n s k else s) s) j=R s j:=by
   intro l
   induction l with
   | nil=>intro s _ _;rfl
   | cons k l fI=>
    intro s h ak;rw [List.foldl_cons];have J:=ak k (by simp);split
    ·rename_i hu
     have:=(h.task k J).lV
     rw [fI (Inv.h8 n h J) (fun q aF=>by rw [ze];exact ak q (by simp [aF])),Rz n h J (by omega)]
    ·exact fI h (fun q aF=>ak q (by simp [aF]))
  exact this _ h (fun k J=>by simpa using J)
theorem CQ:(off s i).tasks.length=s.tasks.length:=ze _ _ _
theorem Inv.off (h:Inv p s N) (aa:i < s.tasks.length):Inv p (off s i) N:=Inv.h8 _ h aa
theorem MH:∀ (l:List Nat) (s:Sys),(l.foldl (fun s k=>if (R s k).up=i then off s k else s) s).tasks.length=s.tasks.length
 | [],s=>rfl
 | k :: l,s=>by
  rw [List.foldl_cons,MH l];split
  ·exact CQ
  ·rfl
theorem Inv.zf:∀ (l:List Nat) {s:Sys},Inv p s N->(∀ k ∈ l,k < s.tasks.length)->Inv p (l.foldl (fun s k=>if (R s k).up=i then Eq.off s k else s) s) N/\R (l.foldl (fun s k=>if (R s k).up=i then Eq.off s k else s) s) i=R s i
 | [],s,h,_=>⟨h,rfl⟩
 | k :: l,s,h,ak=>by
  rw [List.foldl_cons];have J:=ak k (by simp);split
  ·rename_i hu
   have ow:=(h.task k J).lV;obtain ⟨h1,ar⟩:=Inv.zf l (h.off J) (fun q aF=>by rw [CQ];exact ak q (by simp [aF]));exact ⟨h1,by rw [ar];exact Rz _ h J (by omega)⟩
  ·exact Inv.zf l h (fun q aF=>ak q (by simp [aF]))
theorem Ij:(mR s i).tasks.length=s.tasks.length:=MH _ _
theorem Inv.mR (h:Inv p s N):Inv p (mR s i) N/\R (Eq.mR s i) i=R s i:=Inv.zf (List.range s.tasks.length) h (fun k J=>by simpa using J)
def ph (s:Sys) (i k:Nat):Sys:=(List.range k).foldl (fun s k=>if (R s k).up=i then Eq.off s k else s) s
theorem Gm (s:Sys) (i k:Nat):ph s i (k+1)=if (R (ph s i k) k).up=i then Eq.off (ph s i k) k else ph s i k:=by
 unfold ph;rw [List.range_succ,List.foldl_append];rfl
theorem R' (k:Nat):(ph s i k).tasks.length=s.tasks.length:=MH _ _
theorem Inv.ph (h:Inv p s N) {k:Nat} (J:k<=s.tasks.length):Inv p (ph s i k) N/\R (Eq.ph s i k) i=R s i:=Inv.zf (List.range k) h (fun q aF=>by have:=List.mem_range.1 aF;omega)
theorem RP:∀ (n:Nat) {s:Sys} {i:Nat},Inv p s N->i < s.tasks.length->s.tasks.length - i<=n->h8 (n+1) s i=h8 n s i
 | 0,s,i,_,aa,aS=>by omega
 | n+1,s,i,h,aa,aS=>by
  rw [h8,h8]
  congr 1
  have:∀ (l:List Nat) {fX:Sys},Inv p fX N->fX.tasks.length=s.tasks.length->(∀ k ∈ l,k < s.tasks.length)->l.foldl (fun s k=>if (R s k).up=i then h8 (n+1) s k else s) fX=l.foldl (fun s k=>if (R s k).up=i then h8 n s k else s) fX:=by
   intro l
   induction l with
   | nil=>intro fX _ _ _;rfl
   | cons k l fI=>
    intro fX h hs ak;have J:=ak k (by simp);rw [List.foldl_cons,List.foldl_cons];by_cases hu:(R fX k).up=i
    ·rw [if_pos hu,if_pos hu]
     have ow:=(h.task k (by omega)).lV;rw [RP n h (by omega) (by omega)];exact fI (Inv.h8 n h (by omega)) (by rw [ze];exact hs) (fun q aF=>ak q (by simp [aF]))
    ·rw [if_neg hu,if_neg hu]
     exact fI h hs (fun q aF=>ak q (by simp [aF]))
  exact this _ h rfl (fun k J=>by simpa using J)
theorem RA {s:Sys} {i:Nat} (h:Inv p s N) (aa:i < s.tasks.length):∀ d,h8 (s.tasks.length - i+d) s i=Eq.off s i
 | 0=>rfl
 | d+1=>by
  rw [<-Nat.add_assoc,RP _ h aa (by omega),RA h aa d]
theorem QS (h:Inv p s N) (aa:i < s.tasks.length):Eq.off s i=Eq.nH (Eq.mR s i) i:=by
 have he:Eq.off s i=h8 (s.tasks.length - i - 1+1) s i:=by
  show h8 (s.tasks.length - i) s i=_
  congr 1
  omega
 rw [he,h8]
 congr 1
 have:∀ (l:List Nat) {fX:Sys},Inv p fX N->fX.tasks.length=s.tasks.length->(∀ k ∈ l,k < s.tasks.length)->l.foldl (fun s k=>if (R s k).up=i then h8 (fX.tasks.length - i - 1) s k else s) fX=l.foldl (fun s k=>if (R s k).up=i then Eq.off s k else s) fX:=by
  intro l
  induction l with
  | nil=>intro fX _ _ _;rfl
  | cons k l fI=>
   intro fX h hs ak;have J:=ak k (by simp);rw [List.foldl_cons,List.foldl_cons];by_cases hu:(R fX k).up=i
   ·rw [if_pos hu,if_pos hu]
    have ow:=(h.task k (by omega)).lV;have aT:=RA h (i:=k) (by omega) (k - i - 1);rw [show fX.tasks.length - k+(k - i - 1)=fX.tasks.length - i - 1 by omega] at aT;rw [aT];have:=fI (h.off (i:=k) (by omega)) (by rw [CQ];exact hs) (fun q aF=>ak q (by simp [aF]));rw [CQ] at this;exact this
   ·rw [if_neg hu,if_neg hu]
    exact fI h hs (fun q aF=>ak q (by simp [aF]))
 exact this _ h rfl (fun k J=>by simpa using J)
theorem Inv.pg (h:Inv p s N) (aa:i < s.tasks.length) (hw:(R s i).a7=1):Inv p (pg s i) N:=by
 have t:=h.task i aa;have hs:(R s i).aE=0:=Classical.byContradiction fun cm=>by have:=(t.oB cm).1;omega
 have aq:=t.iv;have h1:=t.wait hw;unfold Eq.pg;split
 ·exact h.ta aa ⟨t.jF,t.jZ,by show 0<=(R s i).aR+1;omega,by show (R s i).aR+1<=((bo p.an (R s i).body.toNat).length:Int);omega,t.qb,t.lV,t.aL,t.bE,t.reads,t.ai,t.qv,t.qw,t.hE,t.qx,fun h=>absurd hs h,t.kQ,t.some,fun h=>by cases h⟩ (by simp [busy])
 ·obtain ⟨ar,aA⟩:=h.mR (i:=i)
  exact ar.a7 (by rw [Ij];exact aa) (by rw [aA];exact hs) (by decide)
theorem FJ (s:Sys) (l:List Task) (h:j < s.tasks.length):R {s with tasks:=s.tasks ++ l} j=R s j:=by
 simp [R,aD,List.getD_eq_getElem?_getD,List.getElem?_append_left h]
theorem Inv.g8 {c:Int} (bb:0<=c) {b u:Int} (I:0<=b/\b < p.an.length) (hu: -1<=u/\u < j):xz p c j (g8 b u):=by
 have z:tj [0,0,0]:=⟨rfl,fun k J=>by
  match k,J with
  | 0,_=>decide
  | 1,_=>decide
  | 2,_=>decide⟩
 refine ⟨I.1,I.2,Int.le_refl 0,by show (0:Int)<=_;omega,hu.1,hu.2,z,z,k3.nil _,k3.nil _,Int.le_refl 0,bb,Int.le_refl 0,K1,fun h=>absurd rfl h,fun h=> ?_,fun h=> ?_,fun h=>by cases h⟩
 ·rcases h with h | h <;> cases h
 ·rcases h with h | h <;> cases h
theorem RB (aY:List Int):(fork s i aY).tasks.length=s.tasks.length+aY.length:=by simp [fork,ib,b0]
theorem Inv.fork (h:Inv p s N) (aa:i < s.tasks.length) (hw:(R s i).a7=0) (mh:(R s i).aR < (bo p.an (R s i).body.toNat).length) (J:(actAt (bo p.an (R s i).body.toNat) (R s i).aR.toNat).kind=2):Inv p (fork s i (actAt (bo p.an (R s i).body.toNat) (R s i).aR.toNat).kids) (N+2):=by
 have t:=h.task i aa;have hs:(R s i).aE=0:=Classical.byContradiction fun cm=>by have:=(t.oB cm).2.2;omega
 have aq:=t.iv;obtain ⟨a1,aU,bl⟩:=F5 (wz h.form ⟨t.jF,t.jZ⟩ (k:=(R s i).aR.toNat) (by omega)) J;have dE:=t.jF;generalize mN:(actAt (bo p.an (R s i).body.toNat) (R s i).aR.toNat).kids=aY at aU a1 bl
 have h1:Inv p {s with tasks:=s.tasks ++ aY.map fun b=>Eq.g8 b i} (N+2):=by
  refine ⟨h.prog,h.cells,h.nums,fun j aI=> ?_,h.qy,h.sn, ?_, ?_,h.kX⟩
  ·show xz p s.clock j _
   by_cases ak:j < s.tasks.length
   ·rw [FJ s _ ak]
    exact h.task j ak
   ·simp only [List.length_append,List.length_map] at aI
    have aF:j - s.tasks.length < aY.length:=by omega
    have he:R {s with tasks:=s.tasks ++ aY.map fun b=>Eq.g8 b i} j=Eq.g8 (cC aY (j - s.tasks.length)) i:=by
     simp only [R,aD,List.getD_eq_getElem?_getD];rw [List.getElem?_append_right (by omega)];simp [cC,aF]
    rw [he]
    have:=bl _ aF
    exact Inv.g8 h.qy (by omega) (by omega)
  ·have:=h.room
   show s.log.length+eP busy (s.tasks ++ aY.map fun b=>Eq.g8 b i)<=N+2
   rw [MB,RO busy (aY.map fun b=>Eq.g8 b i) (fun a ha=>by
    obtain ⟨b,_,rfl⟩:=List.mem_map.1 ha;rfl)]
   omega
  ·have:=h.many
   show (s.tasks ++ aY.map fun b=>Eq.g8 b i).length<=N+2;simp only [List.length_append,List.length_map];omega
 have cw:i < ({s with tasks:=s.tasks ++ aY.map fun b=>Eq.g8 b i}:Sys).tasks.length:=by
  show i < (s.tasks ++ aY.map fun b=>Eq.g8 b i).length;rw [List.length_append];omega
 have t1:=h1.task i cw;unfold Eq.fork ib;refine h1.ta cw ?_ (by simp [busy]);rw [FJ s _ aa];exact ⟨t.jF,t.jZ,t.iv,t.oW,t.qb,t.lV,t.aL,t.bE,t.reads,t.ai,t.qv,t.qw,t.hE,t.qx,fun h=>absurd hs h,t.kQ,t.some,fun _=>⟨mh,J⟩⟩
theorem Gb (h:ready s i=true):((R s i).a7=0\/(R s i).a7=1)/\s.clock < 200:=by
 unfold ready at h;simp only [] at h;split at h
 ·cases h
 ·split at h
  ·rename_i h1
   exact ⟨.inl h1,by omega⟩
  ·split at h
   ·rename_i h1
    exact ⟨.inr h1,by omega⟩
   ·cases h
theorem Inv.step (h:Inv p s N) (aa:i < s.tasks.length) (ao:ready s i=true):Inv p (step p s i) (N+2):=by
 have t:=h.task i aa;have aq:=t.iv;obtain ⟨hw,ay⟩:=Gb ao;unfold Eq.step;simp only [];by_cases w1:(R s i).a7=1
 ·rw [if_pos w1]
  exact (h.pg aa w1).more (by omega)
 ·rw [if_neg w1]
  have w0:(R s i).a7=0:=by omega
  by_cases mh:(((bo p.an (R s i).body.toNat).length:Int))<=(R s i).aR
  ·rw [if_pos mh]
   have hs:(R s i).aE=0:=Classical.byContradiction fun cm=>by have:=(t.oB cm).2.1;omega
   exact (h.a7 aa hs (by decide)).more (by omega)
  ·rw [if_neg mh]
   have K2:=wz h.form ⟨t.jF,t.jZ⟩ (k:=(R s i).aR.toNat) (by omega);by_cases aU:(actAt (bo p.an (R s i).body.toNat) (R s i).aR.toNat).kind=1
   ·rw [if_pos aU]
    exact (h.jT aa ay w0 (by omega) aU).more (by omega)
   ·rw [if_neg aU]
    have hs:(R s i).aE=0:=Classical.byContradiction fun cm=>aU (t.oB cm).2.2
    by_cases a1:(actAt (bo p.an (R s i).body.toNat) (R s i).aR.toNat).kind=2
    ·rw [if_pos a1]
     exact h.fork aa w0 (by omega) a1
    ·rw [if_neg a1]
     split
     ·exact (h.a7 aa hs (by decide)).more (by omega)
     ·exact (h.ta (t:={R s i with aR:=(R s i).aR+1}) aa ⟨t.jF,t.jZ,by show 0<=(R s i).aR+1;omega,by show (R s i).aR+1<=((bo p.an (R s i).body.toNat).length:Int);omega,t.qb,t.lV,t.aL,t.bE,t.reads,t.ai,t.qv,t.qw,t.hE,t.qx,fun h=>absurd hs h,t.kQ,t.some,fun h=>absurd h w1⟩ (by simp [busy])).more (by omega)
theorem Inv.lK (h:Inv p s N) (k:Int):Inv p (lK p s k) (N+2):=by
 unfold Eq.lK;split
 ·rename_i ay
  simp only [jY,Bool.and_eq_true,e0] at ay;exact h.step (by omega) ay.2
 ·exact h.more (by omega)
theorem aaK (p:Prog) (s:Sys) (aY:List Int) {k:Nat} (h:k < aY.length):turns p s (aY.take (k+1))=lK p (turns p s (aY.take k)) (cC aY k):=by
 unfold turns;rw [List.take_succ_eq_append_getElem h,List.foldl_append];simp [cC,h]
theorem Inv.turns (h:Inv p s N):∀ (aY:List Int),Inv p (turns p s aY) (N+2*aY.length):=by
 intro aY
 induction aY generalizing s N with
 | nil=>exact h.more (by simp)
 | cons k aY fI=>
  have:=fI (h.lK k)
  simp only [List.length_cons];exact this.more (by omega)
theorem Gc {xs:List cI} {n:Nat} (h:hJ xs n=true):k3 n xs:=by
 simp only [hJ,hv,Bool.and_eq_true,e0,Bool.or_eq_true,decide_eq_true_eq] at h;have dy:∀ k (J:k < xs.length),putAt xs k=xs[k]:=fun k J=>by simp [putAt,J]
 refine ⟨fun x az=> ?_,fun x az=> ?_, ?_⟩
 ·obtain ⟨k,J,rfl⟩:=List.mem_iff_getElem.1 az
  have:=(h k J).1.1
  rw [dy k J] at this;omega
 ·obtain ⟨k,J,rfl⟩:=List.mem_iff_getElem.1 az
  have:=(h k J).1.2
  rw [dy k J] at this;omega
 ·have:∀ d k,(J:k+d+1 < xs.length)->(putAt xs k).cell < (putAt xs (k+d+1)).cell:=by
   intro d
   induction d with
   | zero=>
    intro k J
    have:=(h (k+1) J).2
    simpa using this
   | succ d fI=>
    intro k J;have h1:=fI k (by omega);have ar:=(h (k+(d+1)+1) J).2;have aA:k+(d+1)+1 - 1=k+d+1:=by omega
    rw [aA] at ar;rcases ar with ar | ar
    ·omega
    ·omega
  rw [List.pairwise_iff_getElem];intro a b ha I ND;have:=this (b - a - 1) a (by omega);rw [show a+(b - a - 1)+1=b by omega,dy a ha,dy b I] at this;exact this
theorem RQ {xs:List Int} (h:my xs 3=true):tj xs:=by
 simp only [my,Bool.and_eq_true,hv,e0,decide_eq_true_eq] at h;have ak:xs.length=3:=by omega
 exact ⟨ak,fun k J=>h.1 k (by omega)⟩
theorem Inv.tb (h:jh p s=true):Inv p s (s.log.length+s.tasks.length):=by
 simp only [jh,Bool.and_eq_true,decide_eq_true_eq,e0,hv] at h;obtain ⟨⟨⟨⟨⟨⟨aB,ay⟩,a6⟩,J⟩,BK⟩,gw⟩,ke⟩:=h;refine ⟨aB,ay,fun k J=> ?_,fun i aa=> ?_,J.1,J.2, ?_,by omega,fun e he=> ?_⟩
 ·simp only [nI,hv,Bool.and_eq_true,e0] at gw
  exact (gw k J).1.1.1
 ·have h1:=BK i aa
  simp only [qu,Bool.and_eq_true,e0,decide_eq_true_eq,Bool.or_eq_true,Bool.not_eq_true',decide_eq_false_iff_not] at h1;obtain ⟨⟨⟨⟨⟨⟨⟨⟨⟨⟨⟨⟨I,mh⟩,hw⟩,ja⟩,hwr⟩,ao⟩,aT⟩,iw⟩,NF⟩,aX⟩,GX⟩,ow⟩,oX⟩:=h1;rw [ay] at iw NF;change we p s i=true at oX;unfold we at oX;simp only [] at oX;unfold oc at GX;simp only [Bool.and_eq_true,e0] at GX;unfold ka at ow;simp only [] at ow;change _/\_ at I
  have PR: -1<=(R s i).up/\(R s i).up < i:=by
   show -1<=(aD s.tasks i).up/\(aD s.tasks i).up < i;split at ow
   ·rename_i aq
    have:(aD s.tasks i).up= -1:=by simpa using ow
    omega
   ·simp only [Bool.and_eq_true,e0] at ow
    omega
  have yW:∀ hs:(R s i).aE ≠ 0,(R s i).a7=0/\((R s i).aR < (bo p.an (R s i).body.toNat).length/\(actAt (bo p.an (R s i).body.toNat) (R s i).aR.toNat).kind=1)/\ln (R s i) (actAt (bo p.an (R s i).body.toNat) (R s i).aR.toNat).bP.length=true:=by
   intro hs
   have la:(aD s.tasks i).a7=0:=by
    rcases hwr with h | h
    ·exact h
    ·exact absurd h hs
   refine ⟨la, ?_⟩;rw [if_pos la] at oX;simp only [Bool.or_eq_true,decide_eq_true_eq,Bool.and_eq_true] at oX;rcases oX with h | h
   ·exact absurd h hs
   ·exact ⟨h.1,h.2⟩
  refine ⟨I.1,by have:=I.2;show (aD s.tasks i).body < _;omega,mh.1,mh.2,PR.1,PR.2,RQ ao,RQ aT,Gc iw,Gc NF,GX.1.1.1,GX.1.1.2, ?_,ja,fun hs=>⟨(yW hs).1,(yW hs).2.1⟩,fun hs=> ?_,fun hs=> ?_,fun lF=> ?_⟩
  ·by_cases aq:(R s i).aE=0
   ·rcases aX with aX | aX
    ·exact absurd aq aX
    ·exact Int.le_of_eq aX.1.symm
   ·have ar:=(yW aq).2.2
    unfold ln at ar;rw [if_neg aq] at ar;repeat' split at ar
    all_goals simp only [Bool.and_eq_true,e0,decide_eq_true_eq] at ar
    all_goals omega
  ·have aq:(R s i).aE ≠ 0:=by omega
   have ar:=(yW aq).2.2;unfold ln at ar;rw [if_neg aq,if_neg (by omega),if_neg (by omega),if_neg (by omega)] at ar;simp only [e0] at ar;omega
  ·have aq:(R s i).aE ≠ 0:=by omega
   have ar:=(yW aq).2.2;unfold ln at ar;rw [if_neg aq,if_neg (by omega)] at ar;rcases hs with aA | bR
   ·rw [if_pos aA] at ar
    simp only [Bool.and_eq_true,decide_eq_true_eq] at ar;exact List.length_pos_iff.1 ar.2
   ·rw [if_neg (by omega),if_pos bR] at ar
    simp only [Bool.and_eq_true,decide_eq_true_eq] at ar;exact List.length_pos_iff.1 ar.2
  ·have W5:(aD s.tasks i).a7=1:=lF
   rw [if_neg (by omega),if_pos W5] at oX;simp only [Bool.and_eq_true,decide_eq_true_eq] at oX;exact oX.1
 ·have:∀ l:List Task,eP busy l<=l.length:=by
   intro l
   induction l with
   | nil=>exact Nat.le_refl _
   | cons a l fI=>
    have:busy a<=1:=by unfold busy;split <;> omega
    simp only [eP,List.length_cons];omega
  have:=this s.tasks
  omega
 ·obtain ⟨k,J,rfl⟩:=List.mem_iff_getElem.1 he
  simp only [mU,hv,Bool.and_eq_true] at ke;have h1:=ke k J;have he:eh s.log k=s.log[k]:=by simp [eh,J]
  rw [he,ay] at h1
  have bb:ia p=true:=by
   simp only [k2,Bool.and_eq_true] at aB;exact aB.1
  have aA:=(wE bb).1;exact ⟨Nat.le_trans (Gc h1.1.1.2).len aA,Nat.le_trans (Gc h1.1.2).len aA⟩
end
theorem RR {p:Prog} (h:k2 p=true):jh p (kH p)=true:=by
 have bb:ia p=true:=by
  simp only [k2,Bool.and_eq_true] at h;exact h.1
 have I:=wE bb
 have aS:∀ k,k < p.cells.length->0<=cC p.cells k/\cC p.cells k<=99:=by
  have:=bb
  simp only [ia,Bool.and_eq_true,hv,e0] at this;exact this.1.2
 have XP:my [0,0,0] 3=true:=by decide
 have XQ:∀ n,hJ [] n=true:=fun n=>by simp [hJ,hH]
 simp only [jh,Bool.and_eq_true,decide_eq_true_eq,e0,hv];refine ⟨⟨⟨⟨⟨⟨h,by simp [kH]⟩,by simp [kH]⟩,by simp [kH]⟩,fun i aa=> ?_⟩, ?_⟩,by simp [mU,hH,kH]⟩
 ·have aq:i=0:=by
   have:i < 1:=aa
   omega
  subst aq;have a6:aD (kH p).tasks 0=g8 0 (-1):=rfl;unfold qu;rw [a6]
  have h1:bF (g8 0 (-1)).body 0 ((p.an.length:Int) - 1)=true:=by
   rw [e0];show (0:Int)<=0/\(0:Int)<=_;omega
  have ar:bF (g8 0 (-1)).aR 0 (bo p.an (g8 0 (-1)).body.toNat).length=true:=by
   rw [e0];show (0:Int)<=0/\(0:Int)<=_;omega
  have aA:oc (g8 0 (-1)) (kH p)=true:=rfl;have bR:ka (kH p) 0=true:=rfl;have br:we p (kH p) 0=true:=rfl;simp only [h1,ar,aA,bR,br,show (g8 0 (-1)).aL= [0,0,0] from rfl,show (g8 0 (-1)).bE= [0,0,0] from rfl,show (g8 0 (-1)).reads= [] from rfl,show (g8 0 (-1)).ai= [] from rfl,XP,XQ];rfl
 ·simp only [nI,hv,Bool.and_eq_true,e0]
  intro i aa;have NG:i < p.cells.length:=by simpa [kH] using aa
  have ay:cellAt (kH p).cells i=⟨cC p.cells i,0,-1⟩:=by simp [cellAt,kH,cC,NG]
  rw [ay];refine ⟨⟨⟨aS i NG,(show (0:Int)<=0/\(0:Int)<=0 by decide)⟩,by simp [kH]⟩,fun k J=> ?_⟩
  have aq:k=0:=by
   have:k < 1:=J
   omega
  subst aq;rfl
theorem Inv.new {p:Prog} (h:k2 p=true):Inv p (kH p) 1:=Inv.tb (RR h)
end Go.Proofs.YteajdhhmkjblnaaGreatDoor.Eq
namespace Go.Proofs.YteajdhhmkjblnaaGreatDoor.Eq
open Go.RowKit Go.Proofs.YteajdhhmkjblnaaGreatDoorW.PrintWords Go.Proofs.YteajdhhmkjblnaaGreatDoorW.PrintLast Go.Proofs.YteajdhhmkjblnaaGreatDoorW.PrintMore
structure vA (g:Nat) (bh a8:Value) (p:Prog) (s:Sys) (aG aZ aP:Value) (W:World):Prop where
 bB:W.heap[g]? = some (.cells #[bh,a8,aG,aZ,.int .i64 s.clock,aP] 88 (0,0))
 prog:cN.K W p [bh,a8]
 sys:cS.K W s [aG,aZ,.int .i64 s.clock,aP]
theorem vA.below {g:Nat} {bh a8:Value} {p:Prog} {s:Sys} {aG aZ aP:Value} {W W1:World} (h:vA g bh a8 p s aG aZ aP W) (I:Below W.heap.size W W1):vA g bh a8 p s aG aZ aP W1:=
 ⟨fS h.bB I,cN.bH I h.prog,cS.bH I h.sys⟩
theorem H' {own:Nat->Nat} {W:World} {A:Option Addr} {n:Nat} {dn:List Task} (h:(gg own).C W A n dn.zipIdx):eV.C W A n dn:=by
 obtain ⟨h1,ar,aA⟩:=h;refine ⟨by rw [<-h1,fH],ar,fun aS=> ?_⟩;obtain ⟨cy,ha,ao⟩:=aA aS;refine ⟨cy,ha,fun j p aB=> ?_⟩;exact ao j (p,j) (by rw [List.getElem?_zipIdx,aB];simp)
theorem bI.ro {w0:World} {g:Nat} {own:Nat->Nat} {bh a8:Value} {p:Prog} {s:Sys} {aG aZ aP:Value} {W:World} (h:bI 88 w0 g own bh a8 p s aG aZ aP W):vA g bh a8 p s aG aZ aP W:=by
 obtain ⟨cX,bL,rfl,g9,fz⟩:=Kd.fG h.cells;obtain ⟨dX,cu,rfl,fU,db⟩:=Kd.fG h.tasks;obtain ⟨cU,bO,rfl,gz,dj⟩:=Kd.fG h.log;have I:=h.bB;rw [fH] at I fU db ⊢;exact ⟨I,cN.bH h.below h.prog,Bo s g9 fz fU (H' db) gz dj⟩
theorem Mv (f:Nat->Bool) (k:Nat):lr f (k+1)=lr f k+if f k then 1 else 0:=rfl
theorem Gj {g:Nat} {bh a8:Value} {p:Prog} {s:Sys} {aG aZ aP:Value} (task a7:Int) (w:World) (h:vA g bh a8 p s aG aZ aP w) (aS:s.tasks.length<=1048576):
  Calls Tryz.prog 86 #[.pointer (some ⟨g,0,none⟩),.int .i64 task,.int .i64 a7] w fun e af=>e= .returned (.int .i64 (gu s.tasks task a7))/\af=w:=by
 obtain ⟨iC,aB,hs⟩:=h;obtain ⟨cX,bL,dX,cu,cU,bO,he,g9,fz,fU,db,gz,dj⟩:=gX hs;simp only [List.cons.injEq,and_true,true_and] at he;obtain ⟨rfl,rfl,rfl⟩:=he;have G:=am db;have aN:=bf iC;clear fz db dj g9 fU gz hs aB iC;obtain ⟨f,bb⟩:∃ f:Nat->Bool,f=fun k=>decide ((aD s.tasks k).up=task) && decide ((aD s.tasks k).a7=a7):=⟨_,rfl⟩
 have nv:gu s.tasks task a7=lr f s.tasks.length:=by rw [bb];rfl
 rw [nv];have e3:=am bb;clear nv bb;go_enter Tryz.func86,Tryz.ntmps86;go_wp2;go_loopw [7,8] (fun v i af=>∃ k:Nat,k<=s.tasks.length/\i= .int .i64 k/\v= .int .i64 (lr f k)/\af=w) (fun _ i _=>s.tasks.length - (intOf i).toNat)
 case atStart=>exact ⟨0,Nat.zero_le _,rfl,rfl,rfl⟩
 case round=>
  obtain ⟨k,J,rfl,rfl,rfl⟩:=hrel;have hlen:=xX f k;by_cases aJ:k < s.tasks.length
  ·obtain ⟨b,o,cs,rfl,bQ,au,aM,iu⟩:=dd G.1 dS k aJ (by decide)
   rw [show s.tasks.getD k dS=aD s.tasks k from rfl] at au;obtain ⟨hB,d3,iZ,d8,gY,d9,gd,d10,rfl,_,_,_,_,_,_,_,_⟩:=gh au;have KZ:=aM 2 _ rfl;have QB:=aM 4 _ rfl;simp only [show eV.bD=13 from rfl] at QB KZ;clear aM iu au bQ;have bz:(0:Int)<=(k:Int):=by omega
   have b7:(k:Int) < (s.tasks.length:Int):=by omega
   by_cases aW:(aD s.tasks k).up=task
   ·have ed:((aD s.tasks k).up == task)=true:=by simp [aW]
    by_cases aX:(aD s.tasks k).a7=a7
    ·have cg:((aD s.tasks k).a7 == a7)=true:=by simp [aX]
     have fJ:=am (show f k=true by simp [e3.1,aW,aX]);clear aW aX;go_wp2;go_roundw
     case rel=>exact ⟨k+1,by omega,by go_num,by rw [Mv,fJ.1];go_num,trivial⟩
     case measure=>simp [intOf];omega
    ·have cg:((aD s.tasks k).a7 == a7)=false:=by simp [aX]
     have fJ:=am (show f k=false by simp [e3.1,aW,aX]);clear aW aX;go_wp2;go_roundw
     case rel=>exact ⟨k+1,by omega,by go_num,by rw [Mv,fJ.1];simp,trivial⟩
     case measure=>simp [intOf];omega
   ·have ed:((aD s.tasks k).up == task)=false:=by simp [aW]
    have fJ:=am (show f k=false by simp [e3.1,aW]);clear aW;go_wp2;go_roundw
    case rel=>exact ⟨k+1,by omega,by go_num,by rw [Mv,fJ.1];simp,trivial⟩
    case measure=>simp [intOf];omega
  ·go_wp2
   go_ret;obtain rfl:k=s.tasks.length:=by omega
   exact ⟨rfl,rfl⟩
theorem dD {w W:World} {b o:Nat} {v:Value} (I:Below w.heap.size w W) (h:w.cell? ⟨b,o,none⟩=some v):W.cell? ⟨b,o,none⟩=some v:=((pd I).1 _ _ (World.block_lt_of_cell? _ _ h)).trans h
theorem vo {α:Type} (d:Kd α) (w:World):d.C w none 0 []:=⟨rfl,by decide,fun h=>absurd h (by decide)⟩
section
variable {g:Nat} {bh a8:Value} {p:Prog} {s:Sys} {aG aZ aP:Value}
theorem IC (i:Nat) (w:World) (h:vA g bh a8 p s aG aZ aP w) (aa:i < s.tasks.length) (aS:s.tasks.length<=1048576):
  Calls Tryz.prog 58 #[.pointer (some ⟨g,0,none⟩),.int .i64 i] w fun e af=>e= .returned (.bool (ready s i))/\Below w.heap.size w af:=by
 have H:=am h;obtain ⟨iC,aB,hs⟩:=h;obtain ⟨cX,bL,dX,cu,cU,bO,he,g9,fz,fU,db,gz,dj⟩:=gX hs;simp only [List.cons.injEq,and_true,true_and] at he;obtain ⟨rfl,rfl,rfl⟩:=he;obtain ⟨b,o,cs,rfl,bQ,au,aM,iu⟩:=dd db dS i aa (by decide);rw [show s.tasks.getD i dS=aD s.tasks i from rfl] at au;obtain ⟨hB,d3,iZ,d8,gY,d9,gd,d10,rfl,-⟩:=gh au;have cJ:=am aM;have aN:=bf H.1.bB;have bz:(0:Int)<=(i:Int):=by omega
 have b7:(i:Int) < (s.tasks.length:Int):=by omega
 clear fz db dj g9 fU gz hs aB iC aM iu au bQ;obtain ⟨iF,D0⟩:∃ n,n=gu s.tasks i 3:=⟨_,rfl⟩;obtain ⟨kK,ue⟩:∃ n,n=gu s.tasks i 0:=⟨_,rfl⟩;obtain ⟨hq,m8⟩:∃ n,n=gu s.tasks i 1:=⟨_,rfl⟩;have tv:kK<=1048576:=by rw [ue];exact Nat.le_trans (xX _ _) aS
 have ej:hq<=1048576:=by rw [m8];exact Nat.le_trans (xX _ _) aS
 have rD:=am ue.symm;have sA:=am m8.symm;have sB:=am D0.symm;clear ue m8 D0;have cb:av (ready s i=if 200<=s.clock then false else if (aD s.tasks i).a7=0 then !decide ((aD s.tasks i).aE=0) || decide ((aD s.tasks i).bw<=s.clock) else if (aD s.tasks i).a7=1 then decide (0 < iF) || decide (kK+hq=0) else false):=⟨by rw [<-rD.1,<-sA.1,<-sB.1];rfl⟩;go_enter Tryz.func58,Tryz.ntmps58;by_cases bQ:200<=s.clock
 ·have ed:decide (200<=s.clock)=true:=decide_eq_true bQ
  have cl:=am bQ;clear bQ
  go_wp2_with (first
  |((with_reducible refine aQ 13 ?_);refine c4 b (o+i*13) cJ.1 ?_)|((with_reducible refine aQ 5 ?_);refine hy 38 ?_;intro gt b' dM GT cF;clear aN)|((with_reducible refine bT 38 5 ?_);refine dG dM ?_;intro eE ad U;have bm:=am ad;have bk:=fq cF GT U;replace H:=am (H.1.below bk);have ab:=am bk;clear ad U dM bk cF cJ;have aN:=bf H.1.bB;have ck:=ae bm))
  go_ret;have ao:ready s i=false:=by rw [cb.1,if_pos cl.1]
  rw [ao];exact ⟨rfl,ab.1⟩
 ·have ed:decide (200<=s.clock)=false:=decide_eq_false bQ
  have cl:=am bQ;clear bQ;by_cases w0:(aD s.tasks i).a7=0
  ·have cg:((aD s.tasks i).a7 == 0)=true:=by simp [w0]
   have vB:=am w0;clear w0;by_cases bU:(aD s.tasks i).aE=0
   ·have cO:((aD s.tasks i).aE != 0)=false:=by simp [bU]
    have jz:=am bU;clear bU
    go_wp2_with (first
    |((with_reducible refine aQ 13 ?_);refine c4 b (o+i*13) cJ.1 ?_)|((with_reducible refine aQ 5 ?_);refine hy 38 ?_;intro gt b' dM GT cF;clear aN)|((with_reducible refine bT 38 5 ?_);refine dG dM ?_;intro eE ad U;have bm:=am ad;have bk:=fq cF GT U;replace H:=am (H.1.below bk);have ab:=am bk;clear ad U dM bk cF cJ;have aN:=bf H.1.bB;have ck:=ae bm))
    go_quiet (fail);go_wp2;go_ret;have ao:ready s i=decide ((aD s.tasks i).bw<=s.clock):=by rw [cb.1,if_neg (Int.not_le.2 cl.1),if_pos vB.1,jz.1];rfl
    rw [ao];exact ⟨rfl,iY ab.1 _⟩
   ·have cO:((aD s.tasks i).aE != 0)=true:=by simp [bU]
    have jz:=am bU;clear bU
    go_wp2_with (first
    |((with_reducible refine aQ 13 ?_);refine c4 b (o+i*13) cJ.1 ?_)|((with_reducible refine aQ 5 ?_);refine hy 38 ?_;intro gt b' dM GT cF;clear aN)|((with_reducible refine bT 38 5 ?_);refine dG dM ?_;intro eE ad U;have bm:=am ad;have bk:=fq cF GT U;replace H:=am (H.1.below bk);have ab:=am bk;clear ad U dM bk cF cJ;have aN:=bf H.1.bB;have ck:=ae bm))
    go_quiet (fail);go_wp2;go_ret;have ao:ready s i=true:=by rw [cb.1,if_neg (Int.not_le.2 cl.1),if_pos vB.1,decide_eq_false jz.1];rfl
    rw [ao];exact ⟨rfl,iY ab.1 _⟩
  ·have cg:((aD s.tasks i).a7 == 0)=false:=by simp [w0]
   by_cases w1:(aD s.tasks i).a7=1
   ·have cO:((aD s.tasks i).a7 == 1)=true:=by simp [w1]
    have vB:=am w0;have W1:=am w1;clear w0 w1;by_cases dz:0 < iF
    ·have dh:decide (0 < iF)=true:=decide_eq_true dz
     have nQ:=am dz;clear dz
     go_wp2_with (first
     |((with_reducible refine aQ 13 ?_);refine c4 b (o+i*13) cJ.1 ?_)|((with_reducible refine aQ 5 ?_);refine hy 38 ?_;intro gt b' dM GT cF;clear aN)|((with_reducible refine bT 38 5 ?_);refine dG dM ?_;intro eE ad U;have bm:=am ad;have bk:=fq cF GT U;replace H:=am (H.1.below bk);have ab:=am bk;clear ad U dM bk cF cJ;have aN:=bf H.1.bB;have ck:=ae bm)
     |(go_at_call 86;refine Calls.mono (Gj (i:Int) _ _ H.1 aS) ?_;(first|rw [sB.1] | rw [rD.1] | rw [sA.1]);rintro _ _ ⟨rfl,rfl⟩))
     go_ret;have ao:ready s i=true:=by rw [cb.1,if_neg (Int.not_le.2 cl.1),if_neg vB.1,if_pos W1.1,decide_eq_true nQ.1];rfl
     rw [ao];exact ⟨rfl,ab.1⟩
    ·have dh:decide (0 < iF)=false:=decide_eq_false dz
     have nQ:=am dz;clear dz;have hw:wrap64 ((kK:Int)+hq)=(kK:Int)+hq:=by unfold wrap64;omega
     go_wp2_with (first
     |((with_reducible refine aQ 13 ?_);refine c4 b (o+i*13) cJ.1 ?_)|((with_reducible refine aQ 5 ?_);refine hy 38 ?_;intro gt b' dM GT cF;clear aN)|((with_reducible refine bT 38 5 ?_);refine dG dM ?_;intro eE ad U;have bm:=am ad;have bk:=fq cF GT U;replace H:=am (H.1.below bk);have ab:=am bk;clear ad U dM bk cF cJ;have aN:=bf H.1.bB;have ck:=ae bm)
     |(go_at_call 86;refine Calls.mono (Gj (i:Int) _ _ H.1 aS) ?_;(first|rw [sB.1] | rw [rD.1] | rw [sA.1]);rintro _ _ ⟨rfl,rfl⟩))
     go_ret
     have ao:ready s i=((kK:Int)+(hq:Int) == 0):=by
      rw [cb.1,if_neg (Int.not_le.2 cl.1),if_neg vB.1,if_pos W1.1,decide_eq_false nQ.1,Bool.false_or,Bool.eq_iff_iff,decide_eq_true_eq,beq_iff_eq];omega
     rw [ao];exact ⟨rfl,ab.1⟩
   ·have cO:((aD s.tasks i).a7 == 1)=false:=by simp [w1]
    have vB:=am w0;have W1:=am w1;clear w0 w1
    go_wp2_with (first
    |((with_reducible refine aQ 13 ?_);refine c4 b (o+i*13) cJ.1 ?_)|((with_reducible refine aQ 5 ?_);refine hy 38 ?_;intro gt b' dM GT cF;clear aN)|((with_reducible refine bT 38 5 ?_);refine dG dM ?_;intro eE ad U;have bm:=am ad;have bk:=fq cF GT U;replace H:=am (H.1.below bk);have ab:=am bk;clear ad U dM bk cF cJ;have aN:=bf H.1.bB;have ck:=ae bm))
    go_ret;have ao:ready s i=false:=by rw [cb.1,if_neg (Int.not_le.2 cl.1),if_neg vB.1,if_neg W1.1]
    rw [ao];exact ⟨rfl,ab.1⟩
theorem Bx (i:Nat) (wp w:World) (NH:cN.K wp p [bh,a8]) (rV:Below wp.heap.size wp w) (h:vA g bh a8 p s aG aZ aP w) (aa:i < s.tasks.length) (aS:s.tasks.length<=1048576) (dE:0<=(aD s.tasks i).body) (bZ:(aD s.tasks i).body < p.an.length) (lD:0<=(aD s.tasks i).aR) (yv:p.an.length<=1048576) (xc:(bo p.an (aD s.tasks i).body.toNat).length<=1048576):
  Calls Tryz.prog 106 #[.pointer (some ⟨g,0,none⟩),.int .i64 i] w fun e af=>∃ sV,e= .returned (.tuple #[.agg sV.toArray,.bool (decide ((aD s.tasks i).aR < (bo p.an (aD s.tasks i).body.toNat).length))])/\kAct.K wp (if (aD s.tasks i).aR < (bo p.an (aD s.tasks i).body.toNat).length then actAt (bo p.an (aD s.tasks i).body.toNat) (aD s.tasks i).aR.toNat else iK) sV/\Below w.heap.size w af:=by
 obtain ⟨bl,pL⟩:=Int.eq_ofNat_of_zero_le dE;obtain ⟨bx,Cz⟩:=Int.eq_ofNat_of_zero_le lD;have eu:bl < p.an.length:=by omega
 have MV:(aD s.tasks i).body.toNat=bl:=by omega
 have lQ:(aD s.tasks i).aR.toNat=bx:=by omega
 rw [MV] at xc ⊢;rw [lQ];have H:=am h;obtain ⟨iC,aB,hs⟩:=h;obtain ⟨cX,bL,dX,cu,cU,bO,he,g9,fz,fU,db,gz,dj⟩:=gX hs;simp only [List.cons.injEq,and_true,true_and] at he;obtain ⟨rfl,rfl,rfl⟩:=he;obtain ⟨b,o,cs,rfl,bQ,au,aM,iu⟩:=dd db dS i aa (by decide);rw [show s.tasks.getD i dS=aD s.tasks i from rfl] at au;obtain ⟨hB,d3,iZ,d8,gY,d9,gd,d10,rfl,-⟩:=gh au;have cJ:=am aM;have aN:=bf H.1.bB;have bz:(0:Int)<=(i:Int):=by omega
 have b7:(i:Int) < (s.tasks.length:Int):=by omega
 obtain ⟨ek,ey,g0,er,kP,lc,gc,eX,gb⟩:=jk NH;simp only [List.cons.injEq,and_true] at kP;obtain ⟨rfl,rfl⟩:=kP;obtain ⟨gp,cV,nW,rfl,kt,hX,en,-⟩:=dd gb ([]:List Act) bl eu (by decide);obtain ⟨k5,kf,rfl,kL,jd⟩:=hX;have c3:=en 0 _ rfl;simp only [show (Kd.slice 55 kAct).bD=1 from rfl,Nat.mul_one,Nat.add_zero] at c3;have sW:=am (show kAct.C wp k5 (bo p.an bl).length (bo p.an bl) from jd);rw [show (p.an.getD bl []).length=(bo p.an bl).length from rfl] at c3;have ni:=am (dD rV c3);clear c3 en kt jd kL;have Tf:(aD s.tasks i).body < (p.an.length:Int):=bZ;clear fz db dj g9 fU gz hs aB iC aM iu au bQ;clear lc gc eX gb;have js:=am Cz;clear pL Cz;obtain ⟨bv,B0⟩:∃ x:Bool,x=decide ((aD s.tasks i).aR < ((bo p.an bl).length:Int)):=⟨_,rfl⟩;obtain ⟨wH,B2⟩:∃ x:Act,x=if (aD s.tasks i).aR < ((bo p.an bl).length:Int) then actAt (bo p.an bl) bx else iK:=⟨_,rfl⟩
 rw [<-B0,<-B2];have sC:=am B0;have tw:=am B2;clear B0 B2;go_enter Tryz.func106,Tryz.ntmps106;by_cases aJ:(aD s.tasks i).aR < ((bo p.an bl).length:Int)
 ·have ed:decide (((bo p.an bl).length:Int)<=(aD s.tasks i).aR)=false:=decide_eq_false (by omega)
  have LT:=am aJ;obtain ⟨iL,ly,yw,rfl,sc,ix,j8,-⟩:=dd sW.1 iK bx (by omega) (by decide);obtain ⟨qM,DX⟩:∃ x,x=actAt (bo p.an bl) bx:=⟨_,rfl⟩;rw [show (bo p.an bl).getD bx iK=qM from DX.symm] at ix;have GY:=am ix;have Uv:=am DX;obtain ⟨eR,ez,eF,eJ,rfl,-⟩:=m0 ix;have uf:=am (fun j u hu=>dD rV (j8 j u hu));clear j8 ix DX sc;have jM:(aD s.tasks i).aR < ((bo p.an bl).length:Int):=aJ
  go_wp2_with (first
  |((with_reducible refine aQ 4 ?_);refine b6 55 ?_;intro ga lb w1 ad I;have oY:=am ad;have k6:=am lb;have ab:=am I;have aN:=bf (H.1.below I).bB;clear ad lb I)
  |((with_reducible refine aQ 15 ?_);refine c4 b (o+i*13) (fun j u hu=>dD ab.1 (cJ.1 j u hu)) ?_)|((with_reducible refine aQ 6 ?_);refine hy 38 ?_;intro gt b' dM GT cF)|((with_reducible refine bT 38 6 ?_);refine dG dM ?_;intro eE ad U;have bm:=am ad;have bk:=fq cF GT U;have K3:=aV oY bk;have jc:=cf ab bk;have c3:=dD jc.1 ni.1;have aN:=bf (H.1.below jc.1).bB;have ck:=ae bm;clear ad U bk dM cF))
  go_quiet (fail)
  go_wp2_with (first
  |((with_reducible refine aQ 35 ?_);refine c4 iL (ly+bx*4) (fun j u hu=>dD (iY jc.1 _) (uf.1 j u hu)) ?_)
  |((with_reducible refine bT 55 4 ?_);refine C7 rfl rfl 55 (.tmp 4) (.tmp 35) rfl rfl rfl (rz K3.1 _) rfl (by kernel_rfl) (oI rfl) ?_;intro ih ad U;have K4:=am ad;have jR:=am (mA (iY jc.1 _) _ (iY jc.1 _).size U (fun z aX=>by cases aX;exact Nat.le_of_eq k6.1.symm));clear ad U))
  have aO:bv=true:=sC.1.trans (decide_eq_true LT.1);have sX:wH=qM:=by rw [tw.1,if_pos LT.1,Uv.1]
  rw [aO,sX];exact bodyPost_ret (nK Tryz.results106 _ ih ga 55 #[.int .i64 qM.kind,.slice eR qM.bP.length ez,.slice eF qM.kids.length eJ,.int .i64 qM.eY] (0,0) _ rfl K4.1 Tryz.underlying55 rfl (by kernel_rfl)) rfl ⟨_,rfl,GY.1,jR.1⟩
 ·have ed:decide (((bo p.an bl).length:Int)<=(aD s.tasks i).aR)=true:=decide_eq_true (by omega)
  have LT:=am aJ;clear aJ
  go_wp2_with (first
  |((with_reducible refine aQ 4 ?_);refine b6 55 ?_;intro ga lb w1 ad I;have oY:=am ad;have k6:=am lb;have ab:=am I;have aN:=bf (H.1.below I).bB;clear ad lb I)
  |((with_reducible refine aQ 15 ?_);refine c4 b (o+i*13) (fun j u hu=>dD ab.1 (cJ.1 j u hu)) ?_)|((with_reducible refine aQ 6 ?_);refine hy 38 ?_;intro gt b' dM GT cF)|((with_reducible refine bT 38 6 ?_);refine dG dM ?_;intro eE ad U;have bm:=am ad;have bk:=fq cF GT U;have K3:=aV oY bk;have jc:=cf ab bk;have c3:=dD jc.1 ni.1;have aN:=bf (H.1.below jc.1).bB;have ck:=ae bm;clear ad U bk dM cF))
  go_quiet (fail)
  go_wp2_with (first
  |((with_reducible refine bT 55 4 ?_);refine C7 rfl rfl 55 (.tmp 4) (.tmp 30) rfl rfl rfl (rz K3.1 _) rfl (by kernel_rfl) (oI rfl) ?_;intro ih ad U;have K4:=am ad;have jR:=am (mA (iY jc.1 _) _ (iY jc.1 _).size U (fun z aX=>by cases aX;exact Nat.le_of_eq k6.1.symm));clear ad U))
  have aO:bv=false:=sC.1.trans (decide_eq_false (Int.not_lt.2 LT.1));have sX:wH=iK:=by rw [tw.1,if_neg (Int.not_lt.2 LT.1)]
  rw [aO,sX];exact bodyPost_ret (nK Tryz.results106 _ ih ga 55 #[.int .i64 0,.slice none 0 0,.slice none 0 0,.int .i64 0] (0,0) _ rfl K4.1 Tryz.underlying55 rfl (by kernel_rfl)) rfl ⟨_,rfl,Q' iK (Nat.zero_le _) (vo _ _) (Nat.zero_le _) (vo _ _),jR.1⟩
end
section
variable {w0:World} {g:Nat} {own:Nat->Nat} {bh a8:Value} {p:Prog} {s:Sys} {aG aZ aP:Value}
theorem abc (i:Nat) (w:World) (h:bI 88 w0 g own bh a8 p s aG aZ aP w) (aa:i < s.tasks.length) (aS:s.tasks.length<=1048576) (ao:(R s i).aL.length<=1048576) (ox:s.log.length<=1073741824):
  Calls Tryz.prog 133 #[.pointer (some ⟨g,0,none⟩),.int .i64 i] w fun e af=>e= .returned (.tuple #[])/\∃ own',bI 88 w0 g own' bh a8 p (wm s i) aG aZ aP af/\Fr w.heap.size own own' w af:=by
 have H:=am h;clear h;obtain ⟨b,cap,rfl,cY,jb⟩:=H.1.iV (by omega);obtain ⟨cX,bL,rfl⟩:=H.1.kI;obtain ⟨cW,aw,rfl⟩:=H.1.hV;obtain ⟨v3,bC,v9,v10,aM,bb,aA,dU,eb,e7⟩:=H.1.task aa;obtain ⟨cU,bO,rfl,gz,dj⟩:=Kd.fG aA;obtain ⟨gy,e1,rfl,og,fy⟩:=Kd.fG dU;obtain ⟨ev,dp,rfl,h0,hh⟩:=Kd.fG eb;obtain ⟨e6,dL,rfl,ko,fi⟩:=Kd.fG e7;have cJ:=am aM;have aN:=bf H.1.bB;have oL:=am dj;have bz:(0:Int)<=(i:Int):=by omega
 have b7:(i:Int) < (s.tasks.length:Int):=by omega
 clear aM bb aA dU eb e7 dj fy hh fi gz og h0 ko;go_enter Tryz.func133,Tryz.ntmps133
 go_wp2_with (first
 |((with_reducible refine aQ 12 ?_);refine c4 b (i*13) cJ.1 ?_)|((with_reducible refine aQ 4 ?_);refine hy 38 ?_;intro gt b' dM GT cF;clear aN)|((with_reducible refine bT 38 4 ?_);refine dG dM ?_;intro eE ad U;have bm:=am ad;have ab:=am (fq cF GT U);clear ad U dM cF;have aN:=bf (H.1.grow ab.1).bB;have ck:=ae bm)
 |((with_reducible refine bT 3 18 ?_);refine e9 (u:=.int .i64 s.clock) rfl rfl _ _ rfl rfl rfl rfl rfl (by kernel_rfl) ⟨⟨_,by rw [bf bm.1];rfl⟩,iX bm.1 _⟩ ?_;intro wn aH;have cr:=ku bm.1 7 (.int .i64 s.clock);rw [<-aH] at cr;replace bm:=am (show wn.heap[gt]? = some (.cells #[.int .i64 (R s i).body,.int .i64 (R s i).aR,.int .i64 (R s i).up,.slice cU (R s i).aL.length bO,.int .i64 (R s i).a7,.int .i64 (R s i).aE,.int .i64 (R s i).at_,.int .i64 s.clock,.slice gy (R s i).bE.length e1,.slice ev (R s i).reads.length dp,.slice e6 (R s i).ai.length dL,.int .i64 (R s i).bw,.int .i64 (R s i).from_] 38 (0,0)) from cr);replace ab:=am (show Below w.heap.size w wn by rw [aH];exact jj ab.1 (Nat.le_of_eq GT.1.symm));clear cr aH aN ck;have aN:=bf (H.1.grow ab.1).bB;have ck:=ae bm)
 |((with_reducible refine aQ 19 ?_);refine Kd.jX (w0:=w) (Kd.int .i64) w.heap.size 3 rfl (N:=19) rfl (xs:=([]:List Int)) (inner:= []) (ok:=fun k=>k ≠ gt) (okp:=fun _=>False) (by go_simp<;>rfl) (cp.none _ _) (fun _ J=>J.elim) (Nat.ne_of_gt (dK bm.1)) ab.1 ab.1.size (by simp) ?_;intro v1 wn bG bZ fO _;replace bm:=am (eQ bm.1 fO (by simp));have pq:=am bG;replace ab:=am bZ;clear bG bZ fO aN ck;have aN:=bf (H.1.grow ab.1).bB;have ck:=ae bm)
 |((with_reducible refine jJ (b:=.append) (xs:=#[.tmp 19,.tmp 21]) rfl ?_);at_builtin;refine Kd.BF (Kd.int .i64) (Rr:=(Kd.int .i64).K _) (w0:=w) w.heap.size rfl (.tmp 19) (.tmp 21) 23 3 (.int .i64 0) 8 rfl Tryz.underlying23 od rfl (by decide) (by decide) v1 [] (R s i).aL cU (R s i).aL.length bO (fun k=>k ≠ gt) (fun _=>False) rfl rfl pq.1 (Kd.bW oL.1 ab.1) (fun _ _ h=>h) (fun _ J=>J.elim) (fun k J=>Nat.ne_of_gt (Nat.lt_of_lt_of_le (dK bm.1) J)) ab.1 ab.1.size (by simp;omega) ?_;intro v2 wn uc gf lW _;replace bm:=am (eQ bm.1 lW (fun he=>pq.1.1 gt he.symm rfl));have V:=am (show (Kd.int .i64).aC 3 wn w.heap.size (fun k=>k ≠ gt) v2 (R s i).aL from uc);replace ab:=am gf;clear uc gf lW pq aN ck;have aN:=bf (H.1.grow ab.1).bB;have ck:=ae bm)
 |((with_reducible refine bT 23 23 ?_);refine e9 (u:=v2) rfl rfl _ _ rfl rfl rfl (qA V.1) (qF V.1) (by kernel_rfl) ⟨⟨_,by rw [bf bm.1];rfl⟩,iX bm.1 _⟩ ?_;intro wn aH;have cr:=ku bm.1 8 (v2);rw [<-aH] at cr;replace bm:=am (show wn.heap[gt]? = some (.cells #[.int .i64 (R s i).body,.int .i64 (R s i).aR,.int .i64 (R s i).up,.slice cU (R s i).aL.length bO,.int .i64 (R s i).a7,.int .i64 (R s i).aE,.int .i64 (R s i).at_,.int .i64 s.clock,v2,.slice ev (R s i).reads.length dp,.slice e6 (R s i).ai.length dL,.int .i64 (R s i).bw,.int .i64 (R s i).from_] 38 (0,0)) from cr);replace ab:=am (show Below w.heap.size w wn by rw [aH];exact jj ab.1 (Nat.le_of_eq GT.1.symm));replace V:=am (show (Kd.int .i64).aC 3 wn w.heap.size (fun k=>k ≠ gt) v2 (R s i).aL by rw [aH];exact Kd.lp V.1 (fun _ J=>J) _);clear cr aH aN ck;have aN:=bf (H.1.grow ab.1).bB;have ck:=ae bm)
 |((with_reducible refine bT 3 30 ?_);refine e9 (u:=.int .i64 s.log.length) rfl rfl _ _ rfl rfl rfl rfl rfl (by kernel_rfl) ⟨⟨_,by rw [bf bm.1];rfl⟩,iX bm.1 _⟩ ?_;intro wn aH;have cr:=ku bm.1 12 (.int .i64 s.log.length);rw [<-aH] at cr;replace bm:=am (show wn.heap[gt]? = some (.cells #[.int .i64 (R s i).body,.int .i64 (R s i).aR,.int .i64 (R s i).up,.slice cU (R s i).aL.length bO,.int .i64 (R s i).a7,.int .i64 (R s i).aE,.int .i64 (R s i).at_,.int .i64 s.clock,v2,.slice ev (R s i).reads.length dp,.slice e6 (R s i).ai.length dL,.int .i64 (R s i).bw,.int .i64 s.log.length] 38 (0,0)) from cr);replace ab:=am (show Below w.heap.size w wn by rw [aH];exact jj ab.1 (Nat.le_of_eq GT.1.symm));replace V:=am (show (Kd.int .i64).aC 3 wn w.heap.size (fun k=>k ≠ gt) v2 (R s i).aL by rw [aH];exact Kd.lp V.1 (fun _ J=>J) _);clear cr aH aN ck;have aN:=bf (H.1.grow ab.1).bB;have ck:=ae bm)
 |((with_reducible refine bT 3 31 ?_);refine e9 (u:=.int .i64 0) rfl rfl _ _ rfl rfl rfl rfl rfl (by kernel_rfl) ⟨⟨_,by rw [bf bm.1];rfl⟩,iX bm.1 _⟩ ?_;intro wn aH;have cr:=ku bm.1 11 (.int .i64 0);rw [<-aH] at cr;replace bm:=am (show wn.heap[gt]? = some (.cells #[.int .i64 (R s i).body,.int .i64 (R s i).aR,.int .i64 (R s i).up,.slice cU (R s i).aL.length bO,.int .i64 (R s i).a7,.int .i64 (R s i).aE,.int .i64 (R s i).at_,.int .i64 s.clock,v2,.slice ev (R s i).reads.length dp,.slice e6 (R s i).ai.length dL,.int .i64 0,.int .i64 s.log.length] 38 (0,0)) from cr);replace ab:=am (show Below w.heap.size w wn by rw [aH];exact jj ab.1 (Nat.le_of_eq GT.1.symm));replace V:=am (show (Kd.int .i64).aC 3 wn w.heap.size (fun k=>k ≠ gt) v2 (R s i).aL by rw [aH];exact Kd.lp V.1 (fun _ J=>J) _);clear cr aH aN ck;have aN:=bf (H.1.grow ab.1).bB;have ck:=ae bm))
 obtain ⟨zs,kx,eg⟩:=Kd.bt V.1;subst eg;refine wp_region_still_tail 8 (by kernel_rfl) (by kernel_rfl) ?_;simp only [List.take_succ_cons,List.take_zero,List.drop_succ_cons,List.drop_zero];iterate 6 still_step
 refine aaH rfl 38 (.tmp 4) rfl gt 0 rfl [.int .i64 (R s i).body,.int .i64 (R s i).aR,.int .i64 (R s i).up,.slice cU (R s i).aL.length bO,.int .i64 (R s i).a7,.int .i64 (R s i).aE,.int .i64 (R s i).at_,.int .i64 s.clock,.slice zs (R s i).aL.length kx,.slice ev (R s i).reads.length dp,.slice e6 (R s i).ai.length dL,.int .i64 0,.int .i64 s.log.length] _ (fR bm.1) Tryz.underlying38 rfl (by kernel_rfl) ?_;simp only [Act.put,nL,nM,nN];still_step;refine wpStill_nil ?_;have I:=ei (Below.refl wn.heap.size wn);show wpList _ _ _ _ _ wn.drew;generalize wn.drew=sD at I ⊢;have Jx:=cf ab I;have iG:=am (H.1.grow Jx.1);have l6:=am (Fr.below (own:=own) Jx.1);have oi:av ((Kd.int .i64).aC 3 sD w0.heap.size (fun k=>own k=0/\w.heap.size<=k) (.slice zs (R s i).aL.length kx) (R s i).aL):=⟨Kd.kv (Kd.ft (Kd.cG (Kd.fW V.1) (fun k J=>⟨H.1.dk k J.2.1,J.2.1⟩)) H.1.below.size) I⟩;have NI:av (∀ j u,(eK (R s i) (.slice cU (R s i).aL.length bO) (.slice gy (R s i).bE.length e1) (.slice ev (R s i).reads.length dp) (.slice e6 (R s i).ai.length dL))[j]? = some u->sD.cell? ⟨b,i*13+j,none⟩=some u):=⟨fun j u hu=>dD Jx.1 (cJ.1 j u hu)⟩;clear ab V oL bm aN ck I cJ;have aN:=bf iG.1.bB
 go_wp2_with (first
 |((with_reducible refine bT 38 39 ?_);refine H0 rfl rfl _ _ rfl (g:=b) (off:=i*13) rfl [.int .i64 (R s i).body,.int .i64 (R s i).aR,.int .i64 (R s i).up,.slice cU (R s i).aL.length bO,.int .i64 (R s i).a7,.int .i64 (R s i).aE,.int .i64 (R s i).at_,.int .i64 s.clock,.slice zs (R s i).aL.length kx,.slice ev (R s i).reads.length dp,.slice e6 (R s i).ai.length dL,.int .i64 0,.int .i64 s.log.length] rfl (by kernel_rfl) (oI rfl) (fun j aI=>⟨by obtain ⟨⟨u,hu⟩,_⟩:=iG.1.ready aa j aI;rw [hu];rfl,(iG.1.ready aa j aI).2⟩) ?_;intro b9 aH;obtain ⟨dr,aU,a1⟩:=iG.1.aad (B:=w.heap.size) aa oi.1 NI.1 {R s i with since:=s.clock,bE:=(R s i).aL,from_:=s.log.length,bw:=0} ⟨rfl,rfl,rfl,rfl⟩;rw [show eK _ _ _ _ _= [.int .i64 (R s i).body,.int .i64 (R s i).aR,.int .i64 (R s i).up,.slice cU (R s i).aL.length bO,.int .i64 (R s i).a7,.int .i64 (R s i).aE,.int .i64 (R s i).at_,.int .i64 s.clock,.slice zs (R s i).aL.length kx,.slice ev (R s i).reads.length dp,.slice e6 (R s i).ai.length dL,.int .i64 0,.int .i64 s.log.length] from rfl,<-aH] at aU a1;have gj:=am aU;have gl:=am (l6.1.trans a1);clear iG l6 aN aU a1 aH oi NI;have aN:=bf gj.1.bB)
 |(go_at_call 136;refine (BA i 1 _ gj.1 (by rw [c5];exact aa) (by rw [c5];exact aS)).mono ?_;rintro e wn ⟨rfl,h1,f1⟩;have bn:=am h1;have bA:=am (gl.1.trans (Fr.less f1 gl.1.size));clear gj gl aN h1 f1))
 refine fv ?_;have h:=bn.1;unfold k4 at h;rw [set_set,cD aa] at h;exact ⟨rfl,dr,h,bA.1⟩
end
theorem BD {W W1:World} (h:W.grownBy W1 none):Below W.heap.size W W1:=⟨h.os,h.tape,h.output,h.size,fun k J=>h.block k J (by simp)⟩
theorem xZ:(Tryz.prog.info? 52).map (fun i=>(i.zero,i.size,i.bytes))=some (some (.agg #[.int .i64 0,.int .i64 0]),2,16):=by kernel_rfl
theorem Da (A:Option Addr) (c:Nat) (xs:List cI) (w:World) (az:cn.C w A xs.length xs) (aS:xs.length<=1048576):
  Calls Tryz.prog 85 #[.slice A xs.length c] w fun e af=>∃ v,e= .returned v/\cn.aC 52 af w.heap.size (fun _=>True) v xs/\Below w.heap.size w af:=by
 have ew:=am az;clear az;go_enter Tryz.func85,Tryz.ntmps85
 go_wp2_with (first
 |((with_reducible refine aQ 3 ?_);refine Kd.jX (w0:=w) cn w.heap.size 52 rfl (N:=3) rfl (xs:=([]:List cI)) (inner:= []) (ok:=fun _=>True) (okp:=fun _=>True) (by go_simp<;>rfl) (cp.none _ _) (fun _ J=>J) trivial (Below.refl _ _) (Nat.le_refl _) (by simp) ?_;intro v0 eE aT I U _;have eB:=am aT;have ab:=am I;replace ew:=am (Kd.bW ew.1 (BD U));clear aT I U)
 |((with_reducible refine jJ (b:=.append) (xs:=#[.tmp 3,.tmp 4]) rfl ?_);at_builtin;refine Kd.BF cn (Rr:=cn.K eE) (w0:=w) w.heap.size rfl (.tmp 3) (.tmp 4) 36 52 (.agg #[.int .i64 0,.int .i64 0]) 16 rfl Tryz.underlying36 xZ rfl (by decide) (by decide) v0 [] xs A xs.length c (fun _=>True) (fun _=>False) rfl rfl eB.1 ew.1 (fun _ _ h=>h) (fun _ J=>J.elim) (fun _ _=>trivial) ab.1 (tn ab.1) (by simp;omega) ?_;intro v1 dJ aT I U _;have sP:=am aT;have gH:=am I;clear aT I U eB ab))
 go_ret;exact ⟨_,rfl,sP.1,gH.1⟩
theorem Sa {xs:List cI} {cell:Int} (h:∀ j,j < xs.length->(putAt xs j).cell ≠ cell):iD xs cell=none:=by
 unfold iD;rw [List.findIdx?_eq_none_iff];intro x az;obtain ⟨j,aI,rfl⟩:=List.mem_iff_getElem.1 az;have:=h j aI;simpa [putAt,aI] using this
theorem Sb {xs:List cI} {cell:Int} {k:Nat} (J:k < xs.length) (h:∀ j,j < k->(putAt xs j).cell ≠ cell) (he:(putAt xs k).cell=cell):iD xs cell=some k:=by
 unfold iD;rw [List.findIdx?_eq_some_iff_getElem];refine ⟨J,by simpa [putAt,J] using he,fun j aI=> ?_⟩;have:=h j aI;have DO:j < xs.length:=by omega
 simpa [putAt,DO] using this
def placeOf:Option Nat->Int
 | none=> -1
 | some k=>k
theorem x4 (A:Option Addr) (c:Nat) (xs:List cI) (cell:Int) (w:World) (az:cn.C w A xs.length xs) (aS:xs.length<=1048576):
  Calls Tryz.prog 105 #[.slice A xs.length c,.int .i64 cell] w fun e af=>e= .returned (.int .i64 (placeOf (iD xs cell)))/\w=af:=by
 have ew:=am az;clear az;go_enter Tryz.func105,Tryz.ntmps105;go_wp2;go_loopw [5] (fun j af=>∃ k:Nat,k<=xs.length/\j= .int .i64 k/\af=w/\av (∀ j,j < k->(putAt xs j).cell ≠ cell)) (fun j _=>xs.length - (intOf j).toNat)
 case atStart=>exact ⟨0,Nat.zero_le _,rfl,rfl,⟨fun j aI=>absurd aI (Nat.not_lt_zero j)⟩⟩
 case round=>
  obtain ⟨k,J,rfl,rfl,du⟩:=hrel;by_cases aJ:k < xs.length
  ·obtain ⟨b,o,cs,rfl,bQ,au,aM,-⟩:=dd ew.1 gU k aJ (by decide)
   have e:=mZ au;subst e;have bL:=aM 0 _ rfl;simp only [show cn.bD=2 from rfl,Nat.add_zero] at bL;rw [show xs.getD k gU=putAt xs k from rfl] at bL;clear aM au bQ;have bz:(0:Int)<=(k:Int):=by omega
   have b7:(k:Int) < (xs.length:Int):=by omega
   by_cases he:(putAt xs k).cell=cell
   ·have ed:((putAt xs k).cell == cell)=true:=by simp [he]
    have bS:=am he;clear he;go_wp2;go_ret;exact ⟨by rw [Sb aJ du.1 bS.1];rfl,rfl⟩
   ·have ed:((putAt xs k).cell == cell)=false:=by simp [he]
    have bS:=am he;clear he;go_wp2;go_roundw
    case rel=>exact ⟨k+1,by omega,by go_num,by first|rfl | trivial,⟨fun j aI=>by
     rcases Nat.lt_or_ge j k with h | h
     ·exact du.1 j h
     ·obtain rfl:j=k:=by omega
      exact bS.1⟩⟩
    case measure=>simp [intOf];omega
  ·go_wp2
   go_ret;obtain rfl:k=xs.length:=by omega
   exact ⟨by rw [Sa du.1];rfl,rfl⟩
def qB (x:cI) (a:List cI × Bool) (y:cI):List cI × Bool:=
 (a.1 ++ (if a.2=false/\x.cell<=y.cell then [x] else []) ++ (if y.cell=x.cell then [] else [y]),a.2 || decide (x.cell<=y.cell))
def nF (x:cI) (l:List cI) (k:Nat):List cI × Bool:=(l.take k).foldl (qB x) ([],false)
theorem Sc (x:cI) (l:List cI):nF x l 0=([],false):=by simp [nF]
theorem Sd {x:cI} {l:List cI} {k:Nat} (h:k < l.length):nF x l (k+1)=qB x (nF x l k) (putAt l k):=by
 unfold nF;rw [List.take_succ_eq_append_getElem h,List.foldl_append];simp only [List.foldl_cons,List.foldl_nil];simp [putAt,h]
theorem RS (x:cI) (l:List cI):∀ k,k<=l.length->(nF x l k).1.length<=2*k
 | 0,_=>by simp [nF]
 | k+1,h=>by
  have:=RS x l k (by omega)
  rw [Sd (by omega)];unfold qB;simp only [List.length_append];split <;> split <;> simp <;> omega
theorem Su (x:cI):∀ (l:List cI) (pre:List cI) (fin:Bool),pre ++ nG x fin l=((l.foldl (qB x) (pre,fin)).1 ++ if (l.foldl (qB x) (pre,fin)).2 then [] else [x])
 | [],pre,fin=>by cases fin <;> simp [nG]
 | y :: l,pre,fin=>by
  rw [List.foldl_cons];unfold nG;rw [<-List.append_assoc,<-List.append_assoc,Su x l];rfl
theorem RT (x:cI) (l:List cI):jH l x=(nF x l l.length).1 ++ if (nF x l l.length).2 then [] else [x]:=by
 unfold jH nF;rw [List.take_length,<-Su,List.nil_append]
theorem SM (A:Option Addr) (c:Nat) (xs:List cI) (x:cI) (w:World) (az:cn.C w A xs.length xs) (aS:xs.length<=1048576):
  Calls Tryz.prog 148 #[.slice A xs.length c,.agg #[.int .i64 x.cell,.int .i64 x.num]] w fun e af=>∃ v,e= .returned v/\cn.aC 52 af w.heap.size (fun _=>True) v (jH xs x)/\Below w.heap.size w af:=by
 have ew:=am az;clear az;go_enter Tryz.func148,Tryz.ntmps148
 go_wp2_with (first
 |((with_reducible refine aQ 3 ?_);refine b6 52 ?_;intro cL U b' ad I;have dN:=am ad;have ab:=am I;clear ad I U)
 |((with_reducible refine aQ 8 ?_);refine Kd.jX (w0:=w) cn w.heap.size 52 rfl (N:=8) rfl (xs:=([]:List cI)) (inner:= []) (ok:=fun k=>k ≠ cL) (okp:=fun _=>False) (by go_simp<;>rfl) (cp.none _ _) (fun _ J=>J.elim) (Nat.ne_of_gt (dK dN.1)) ab.1 (tn ab.1) (by simp) ?_;intro v0 eE aT I U _;replace dN:=am (eQ dN.1 U (by simp));have sP:=am aT;replace ab:=am I;clear aT I U;have eB:=sP;clear sP))
 go_loopw [5,6,7] (fun v f j af=>∃ k:Nat,k<=xs.length/\j= .int .i64 k/\f= .bool (nF x xs k).2/\av (cn.aC 52 af w.heap.size (fun k=>k ≠ cL) v (nF x xs k).1)/\av (af.heap[cL]? = some (.cells #[.int .i64 x.cell,.int .i64 x.num] 52 (0,0)))/\av (Below w.heap.size w af)) (fun _ _ j _=>xs.length - (intOf j).toNat)
 case atStart=>exact ⟨0,Nat.zero_le _,rfl,by rw [Sc],⟨by rw [Sc];exact eB.1⟩,dN,ab⟩
 case round=>
  clear eB dN ab;obtain ⟨k,J,rfl,rfl,eB,dN,ab⟩:=hrel;have hlen:=RS x xs k J;by_cases aJ:k < xs.length
  ·have E7:=dd ew.1 gU k aJ (by decide)
   obtain ⟨b,o,cs,rfl,bQ,au,aM,-⟩:=E7;have e:=mZ au;subst e;have bL:=aM 0 _ rfl;have cu:=aM 1 _ rfl;simp only [show cn.bD=2 from rfl,Nat.add_zero] at bL cu;rw [show xs.getD k gU=putAt xs k from rfl] at bL cu;clear aM au bQ;have aN:=ae dN;have fP:b < w.heap.size:=World.block_lt_of_cell? _ _ bL;have vR:=(pd ab.1).1;have bz:(0:Int)<=(k:Int):=by omega
   have b7:(k:Int) < (xs.length:Int):=by omega
   have eD:=am (Sd (x:=x) aJ)
   cases bb:(nF x xs k).2 with
   | true=>
    have e3:=am bb;clear bb;have dq:=am trivial;by_cases he:(putAt xs k).cell=x.cell
    ·have cg:((putAt xs k).cell != x.cell)=false:=by simp [he]
     have bS:=am he;clear he;go_wp2;go_quiet (fail);go_wp2;go_quiet (fail);go_wp2;go_roundw
     case rel=>exact ⟨k+1,by omega,by go_num,by rw [eD.1];unfold qB;simp [e3.1],⟨by rw [eD.1];unfold qB;simpa [e3.1,bS.1] using (Kd.Bl eB.1 _)⟩,⟨rz dN.1 _⟩,⟨iY ab.1 _⟩⟩
     case measure=>simp [intOf];omega
    ·have cg:((putAt xs k).cell != x.cell)=true:=by simp [he]
     have bS:=am he;clear he;go_wp2;go_quiet (fail);go_wp2;go_quiet (fail);go_wp2_with (first|((with_reducible refine jJ (b:=.append) (xs:=#[.tmp 39,.tmp 44]) rfl ?_);at_builtin;refine Kd.mY cn (w0:=w) w.heap.size rfl (.tmp 39) (.tmp 44) 36 52 (.agg #[.int .i64 0,.int .i64 0]) 16 rfl Tryz.underlying36 xZ rfl (by decide) (by omega) _ (nF x xs k).1 (putAt xs k) [.int .i64 (putAt xs k).cell,.int .i64 (putAt xs k).num] (fun k=>k ≠ cL) (fun _=>False) rfl rfl (xW (putAt xs k)) (fun _ J=>J.elim) (fun k J he=>by have br:=Nat.lt_of_lt_of_le (dK (rz dN.1 _)) J;omega) (Kd.Bl eB.1 _) (iY ab.1 _) (tn (iY ab.1 _)) (by (try simp only [List.length_append,List.length_singleton]);omega) ?_;intro v2 w1 aT I U _;replace dN:=am (eQ (rz dN.1 _) U (fun he=>eB.1.1 cL he.symm rfl));replace eB:=am aT;replace ab:=am I;clear aT I U aN vR;have aN:=ae dN;have vR:=(pd ab.1).1))
     go_roundw
     case rel=>exact ⟨k+1,by omega,by go_num,by rw [eD.1];unfold qB;simp [e3.1],⟨by rw [eD.1];unfold qB;simpa [e3.1,bS.1] using eB.1⟩,dN,ab⟩
     case measure=>simp [intOf];omega
   | false=>
    have e3:=am bb;clear bb;by_cases ak:x.cell<=(putAt xs k).cell
    ·have ed:decide (x.cell<=(putAt xs k).cell)=true:=decide_eq_true ak
     have dq:=am ak;clear ak;by_cases he:(putAt xs k).cell=x.cell
     ·have cg:((putAt xs k).cell != x.cell)=false:=by simp [he]
      have bS:=am he;clear he;go_wp2;go_quiet (fail);go_wp2_with (first|((with_reducible refine jJ (b:=.append) (xs:=#[.tmp 27,.tmp 29]) rfl ?_);at_builtin;refine Kd.mY cn (w0:=w) w.heap.size rfl (.tmp 27) (.tmp 29) 36 52 (.agg #[.int .i64 0,.int .i64 0]) 16 rfl Tryz.underlying36 xZ rfl (by decide) (by omega) _ (nF x xs k).1 x [.int .i64 x.cell,.int .i64 x.num] (fun k=>k ≠ cL) (fun _=>False) rfl rfl (xW x) (fun _ J=>J.elim) (fun k J he=>by have br:=Nat.lt_of_lt_of_le (dK (rz dN.1 _)) J;omega) (Kd.Bl eB.1 _) (iY ab.1 _) (tn (iY ab.1 _)) (by (try simp only [List.length_append,List.length_singleton]);omega) ?_;intro v1 w1 aT I U _;replace dN:=am (eQ (rz dN.1 _) U (fun he=>eB.1.1 cL he.symm rfl));replace eB:=am aT;replace ab:=am I;clear aT I U aN vR;have aN:=ae dN;have vR:=(pd ab.1).1))
      go_quiet (fail);go_wp2;go_roundw
      case rel=>exact ⟨k+1,by omega,by go_num,by rw [eD.1];unfold qB;simp [e3.1,dq.1],⟨by rw [eD.1];unfold qB;simpa [e3.1,dq.1,bS.1] using (Kd.Bl eB.1 _)⟩,⟨rz dN.1 _⟩,⟨iY ab.1 _⟩⟩
      case measure=>simp [intOf];omega
     ·have cg:((putAt xs k).cell != x.cell)=true:=by simp [he]
      have bS:=am he;clear he;go_wp2;go_quiet (fail);go_wp2_with (first|((with_reducible refine jJ (b:=.append) (xs:=#[.tmp 27,.tmp 29]) rfl ?_);at_builtin;refine Kd.mY cn (w0:=w) w.heap.size rfl (.tmp 27) (.tmp 29) 36 52 (.agg #[.int .i64 0,.int .i64 0]) 16 rfl Tryz.underlying36 xZ rfl (by decide) (by omega) _ (nF x xs k).1 x [.int .i64 x.cell,.int .i64 x.num] (fun k=>k ≠ cL) (fun _=>False) rfl rfl (xW x) (fun _ J=>J.elim) (fun k J he=>by have br:=Nat.lt_of_lt_of_le (dK (rz dN.1 _)) J;omega) (Kd.Bl eB.1 _) (iY ab.1 _) (tn (iY ab.1 _)) (by (try simp only [List.length_append,List.length_singleton]);omega) ?_;intro v1 w1 aT I U _;replace dN:=am (eQ (rz dN.1 _) U (fun he=>eB.1.1 cL he.symm rfl));replace eB:=am aT;replace ab:=am I;clear aT I U aN vR;have aN:=ae dN;have vR:=(pd ab.1).1))
      go_quiet (fail);go_wp2_with (first|((with_reducible refine jJ (b:=.append) (xs:=#[.tmp 39,.tmp 44]) rfl ?_);at_builtin;refine Kd.mY cn (w0:=w) w.heap.size rfl (.tmp 39) (.tmp 44) 36 52 (.agg #[.int .i64 0,.int .i64 0]) 16 rfl Tryz.underlying36 xZ rfl (by decide) (by omega) _ ((nF x xs k).1 ++ [x]) (putAt xs k) [.int .i64 (putAt xs k).cell,.int .i64 (putAt xs k).num] (fun k=>k ≠ cL) (fun _=>False) rfl rfl (xW (putAt xs k)) (fun _ J=>J.elim) (fun k J he=>by have br:=Nat.lt_of_lt_of_le (dK (rz dN.1 _)) J;omega) (Kd.Bl eB.1 _) (iY ab.1 _) (tn (iY ab.1 _)) (by (try simp only [List.length_append,List.length_singleton]);omega) ?_;intro v2 w1 aT I U _;replace dN:=am (eQ (rz dN.1 _) U (fun he=>eB.1.1 cL he.symm rfl));replace eB:=am aT;replace ab:=am I;clear aT I U aN vR;have aN:=ae dN;have vR:=(pd ab.1).1))
      go_roundw
      case rel=>exact ⟨k+1,by omega,by go_num,by rw [eD.1];unfold qB;simp [e3.1,dq.1],⟨by rw [eD.1];unfold qB;simpa [e3.1,dq.1,bS.1] using eB.1⟩,dN,ab⟩
      case measure=>simp [intOf];omega
    ·have ed:decide (x.cell<=(putAt xs k).cell)=false:=decide_eq_false ak
     have dq:=am ak;have he:(putAt xs k).cell ≠ x.cell:=by omega
     clear ak;have cg:((putAt xs k).cell != x.cell)=true:=by simp [he]
     have bS:=am he;clear he;go_wp2;go_quiet (fail);go_wp2;go_quiet (fail);go_wp2_with (first|((with_reducible refine jJ (b:=.append) (xs:=#[.tmp 39,.tmp 44]) rfl ?_);at_builtin;refine Kd.mY cn (w0:=w) w.heap.size rfl (.tmp 39) (.tmp 44) 36 52 (.agg #[.int .i64 0,.int .i64 0]) 16 rfl Tryz.underlying36 xZ rfl (by decide) (by omega) _ (nF x xs k).1 (putAt xs k) [.int .i64 (putAt xs k).cell,.int .i64 (putAt xs k).num] (fun k=>k ≠ cL) (fun _=>False) rfl rfl (xW (putAt xs k)) (fun _ J=>J.elim) (fun k J he=>by have br:=Nat.lt_of_lt_of_le (dK (rz dN.1 _)) J;omega) (Kd.Bl eB.1 _) (iY ab.1 _) (tn (iY ab.1 _)) (by (try simp only [List.length_append,List.length_singleton]);omega) ?_;intro v2 w1 aT I U _;replace dN:=am (eQ (rz dN.1 _) U (fun he=>eB.1.1 cL he.symm rfl));replace eB:=am aT;replace ab:=am I;clear aT I U aN vR;have aN:=ae dN;have vR:=(pd ab.1).1))
     go_roundw
     case rel=>exact ⟨k+1,by omega,by go_num,by rw [eD.1];unfold qB;simp [e3.1,dq.1],⟨by rw [eD.1];unfold qB;simpa [e3.1,if_neg (Int.not_le.2 dq.1),bS.1] using eB.1⟩,dN,ab⟩
     case measure=>simp [intOf];omega
  ·have aN:=ae dN
   obtain rfl:k=xs.length:=by omega
   cases bb:(nF x xs xs.length).2 with
   | true=>
    go_wp2;go_ret
    exact ⟨_,rfl,Kd.cG (by rw [RT,bb];simpa using eB.1) (fun _ _=>trivial),ab.1⟩
   | false=>
    go_wp2_with (first|((with_reducible refine jJ (b:=.append) (xs:=#[.tmp 48,.tmp 50]) rfl ?_);at_builtin;refine Kd.mY cn (w0:=w) w.heap.size rfl (.tmp 48) (.tmp 50) 36 52 (.agg #[.int .i64 0,.int .i64 0]) 16 rfl Tryz.underlying36 xZ rfl (by decide) (by omega) _ (nF x xs xs.length).1 x [.int .i64 x.cell,.int .i64 x.num] (fun k=>k ≠ cL) (fun _=>False) rfl rfl (xW x) (fun _ J=>J.elim) (fun k J he=>by have br:=Nat.lt_of_lt_of_le (dK dN.1) J;omega) eB.1 ab.1 (tn ab.1) (by (try simp only [List.length_append,List.length_singleton]);omega) ?_;intro v1 w1 aT I U _;replace dN:=am (eQ dN.1 U (fun he=>eB.1.1 cL he.symm rfl));replace eB:=am aT;replace ab:=am I;clear aT I U aN;have aN:=ae dN;skip))
    go_ret;exact ⟨_,rfl,Kd.cG (by rw [RT,bb];exact eB.1) (fun _ _=>trivial),ab.1⟩
section
variable {w0:World} {g:Nat} {own:Nat->Nat} {bh a8:Value} {p:Prog} {s:Sys} {aG aZ aP:Value}
theorem aaL (i:Nat) (d:Deed) (w:World) (h:bI 88 w0 g own bh a8 p s aG aZ aP w) (aa:i < s.tasks.length) (aS:s.tasks.length<=1048576) (hm:s.cells.length<=1048576) (aT:(R s i).bE.length<=1048576) (nX:(R s i).reads.length<=1048576) (je:(R s i).ai.length<=1048576) (B3:(R s i).aL.length=3) (yX:0<=(R s i).at_) (nc:(R s i).at_<=1048576) (Jy:0<=d.a/\d.a<=2) (GZ:0<=d.b/\d.b < s.cells.length):
  Calls Tryz.prog 147 #[.pointer (some ⟨g,0,none⟩),.int .i64 i,.agg #[.int .i64 d.kind,.int .i64 d.a,.int .i64 d.b]] w fun e af=>e= .returned (.tuple #[])/\∃ own',bI 88 w0 g own' bh a8 p (load s i d) aG aZ aP af/\Fr w.heap.size own own' w af:=by
 have H:=am h;clear h;obtain ⟨bx,gO⟩:=Int.eq_ofNat_of_zero_le Jy.1;obtain ⟨dP,jE⟩:=Int.eq_ofNat_of_zero_le GZ.1;have J:dP < s.cells.length:=by omega
 have xd:(0:Int)<=d.a:=Jy.1;have vS:d.a < ((R s i).aL.length:Int):=by omega
 have ug:d.a.toNat=bx:=by omega
 have oK:(0:Int)<=d.b:=GZ.1;have x6:d.b < (s.cells.length:Int):=GZ.2;have lQ:d.b.toNat=dP:=by omega
 clear gO jE Jy GZ B3;obtain ⟨b,cap,rfl,cY,jb⟩:=H.1.iV (by omega);obtain ⟨gZ,bL,rfl,gf,AV⟩:=H.1.tg (by omega);obtain ⟨cW,aw,rfl⟩:=H.1.hV;obtain ⟨v3,bC,v9,v10,aM,bb,aA,dU,eb,e7⟩:=H.1.task aa;obtain ⟨gr,bO,rfl,qc,-⟩:=oa aA (by omega);obtain ⟨gy,e1,rfl,-,-⟩:=Kd.fG dU;obtain ⟨ev,dp,rfl,-,-⟩:=Kd.fG eb;obtain ⟨e6,dL,rfl,-,fi⟩:=Kd.fG e7;have cJ:=am aM;have lz:=am aA;have rE:=am eb;have hc:=am fi;have wI:=am qc;have jc:=am cY;have cF:=am gf;have aN:=bf H.1.bB;have bz:(0:Int)<=(i:Int):=by omega
 have b7:(i:Int) < (s.tasks.length:Int):=by omega
 clear aM bb aA dU eb e7 fi qc cY gf;go_enter Tryz.func147,Tryz.ntmps147
 cases q6:iD (R s i).ai d.b with
 | some k=>
  have hl:=Ry q6;have e3:=am q6;have sY:av (placeOf (iD (R s i).ai d.b)=(k:Int)):=⟨by rw [q6];rfl⟩;clear q6;obtain ⟨ud,sU,HL,rfl,xI,ri,l2,-⟩:=dd hc.1 gU k (by omega) (by decide);have gI:=mZ ri;subst gI;obtain ⟨lE,n8⟩:∃ x,x=putAt (R s i).ai k:=⟨_,rfl⟩;rw [show List.getD (R s i).ai k gU=lE from n8.symm] at l2;have vP:=am n8;clear n8;have rj:=l2 0 _ rfl;have sb:=l2 1 _ rfl;simp only [show cn.bD=2 from rfl,Nat.add_zero] at rj sb;clear l2 ri xI;have B4:=am sb;have MV:(k:Int) < ((R s i).ai.length:Int):=by omega
  have Tf:(0:Int)<=(k:Int):=by omega
  clear rj sb
  go_wp2_with (first
  |((with_reducible refine aQ 5 ?_);refine hy 62 ?_;intro cQ w1 hP pr ab;have aN:=bf (H.1.grow ab.1).bB;have kY:=ae hP)
  |((with_reducible refine aQ 15 ?_);refine c4 b (i*13) (fun j u hu=>dD ab.1 (cJ.1 j u hu)) ?_)|((with_reducible refine aQ 6 ?_);refine b6 38 ?_;intro gt U b' ad I;have dM:=am ad;have GT:=am U;have rW:=am (show w.heap.size<=gt from Nat.le_trans ab.1.size (Nat.le_of_eq U.symm));have dF:=am I;clear ad I U)|((with_reducible refine bT 38 6 ?_);refine dG dM ?_;intro eE ad U;have bm:=am ad;have bk:=fq dF GT U;replace ab:=cf ab bk;replace hP:=aV hP bk;clear kY;have kY:=ae hP;clear ad U dM dF bk;have aN:=bf (H.1.grow ab.1).bB;have ck:=ae bm)
  |(go_at_call 105;refine (x4 _ dL (R s i).ai d.b _ (Kd.bW hc.1 ab.1) je).mono ?_;rw [sY.1];rintro e dJ ⟨rfl,rfl⟩))
  have mW:=dD ab.1 (cJ.1 3 _ rfl);have sb:=dD ab.1 B4.1;refine wp_region_still_tail 18 (by kernel_rfl) (by kernel_rfl) ?_;simp only [List.take_succ_cons,List.take_zero,List.drop_succ_cons,List.drop_zero];iterate 18 still_step
  refine wpStill_nil ?_;clear mW sb;have I:=ei (Below.refl eE.heap.size eE);show wpList _ _ _ _ _ eE.drew;generalize eE.drew=ih at I ⊢;have jR:=cf ab I;have oM:=am (H.1.grow jR.1);have wJ:=am (Fr.below (own:=own) jR.1);have yY:=aV bm I;have E8:=aV hP I;have D1:=c9 lz jR.1;have D2:=c9 rE jR.1;have mW:=am (dD jR.1 (cJ.1 3 _ rfl));have jl:=am (H.1.dk gt rW.1);have IL:=am (H.1.dk cQ (Nat.le_of_eq pr.1.symm));obtain ⟨rc,zt⟩:=Kd.wx 0 D1.1 d.a xd vS;rw [ug] at rc zt;have rF:=am rc;have Df:=am zt;clear rc zt I ab aN ck kY bm hP lz rE;have aN:=bf oM.1.bB
  go_wp2_with (first
  |((with_reducible refine bT 3 87 ?_);refine e9 (u:=.int .i64 lE.num) rfl rfl _ _ rfl (g:=gr) (off:=bx) rfl rfl rfl rfl (by kernel_rfl) ⟨⟨_,rF.1⟩,Df.1⟩ ?_;intro g1 aH;obtain ⟨aU,a1⟩:=oM.1.y5 (B:=w.heap.size) aa mW.out bx (by omega) lE.num;rw [<-aH] at aU a1;have kg:=am aU;have oj:=am (wJ.1.trans a1);have cZ:=eA (p:=⟨gr,bx,none⟩) yY.1 (fun he=>by have br:=jl.1;rw [show gt=gr from he,wI.1] at br;omega) (Value.int .i64 lE.num);have hx:=eA (p:=⟨gr,bx,none⟩) E8.1 (fun he=>by have br:=IL.1;rw [show cQ=gr from he,wI.1] at br;omega) (Value.int .i64 lE.num);rw [<-aH] at cZ hx;have v8:=am cZ;have E9:=am hx;have Jz:=am (show cn.aC 52 g1 w0.heap.size (fun k=>own k=10+8*i) (.slice ev (R s i).reads.length dp) (R s i).reads by rw [aH];exact Kd.lp D2.1 (fun k J he=>by have br:own k=own gr:=congrArg own he;rw [J,wI.1] at br;omega) _);clear oM wJ yY E8 D1 D2 aN aU a1 cZ hx aH rF Df mW;have aN:=bf kg.1.bB;have ck:=ae v8;have kY:=ae E9))
  obtain ⟨s1,dR⟩:∃ x:Sys,x=b0 s i {R s i with aL:=(R s i).aL.set bx lE.num}:=⟨_,rfl⟩;have cw:i < s1.tasks.length:=by rw [dR];simpa [c5] using aa
  have nV:(R s1 i).at_=(R s i).at_:=by rw [dR];simp [cD,c5,aa]
  rw [<-dR] at kg;refine wp_region_still_tail 11 (by kernel_rfl) (by kernel_rfl) ?_;simp only [List.take_succ_cons,List.take_zero,List.drop_succ_cons,List.drop_zero];iterate 11 still_step
  refine wpStill_nil ?_;rw [show IntKind.i64.wrap ((R s i).at_+1)=(R s i).at_+1 from by rw [k0];unfold wrap64;omega];have I:=ei (Below.refl g1.heap.size g1);show wpList _ _ _ _ _ g1.drew;generalize g1.drew=sD at I ⊢;have iG:=am (kg.1.grow I);have l6:=am (oj.1.trans (Fr.less (Fr.below I) oj.1.size));clear kg oj aN ck I;have aN:=bf iG.1.bB
  go_wp2_with (first
  |((with_reducible refine bT 3 107 ?_);refine e9 (u:=.int .i64 ((R s i).at_+1)) rfl rfl _ _ rfl rfl rfl rfl rfl (by kernel_rfl) (iG.1.ready (i:=i) cw 6 (by decide)) ?_;intro b9 aH;obtain ⟨aU,a1⟩:=iG.1.setInt (B:=w.heap.size) (i:=i) cw 6 (by decide) ((R s i).at_+1) {R s1 i with at_:=(R s i).at_+1} (fun _ _ _ _=>rfl) ⟨rfl,rfl,rfl,rfl⟩;rw [<-aH] at aU a1;have gj:=am aU;have gl:=am (l6.1.trans a1);clear iG l6 aN aU a1 aH))
  refine fv ?_;have h:=gj.1;rw [dR,set_set,cD aa] at h;refine ⟨rfl,own, ?_,gl.1⟩;unfold load;simp only [e3.1,ug,<-vP.1]
  exact h
 | none=>
  have e3:=am q6;have sY:av (placeOf (iD (R s i).ai d.b)= -1):=⟨by rw [q6];rfl⟩;clear q6
  cases fP:blind s i d.b with
  | true=>
   have jt:=am fP;clear fP
   go_wp2_with (first
   |((with_reducible refine aQ 5 ?_);refine hy 62 ?_;intro cQ w1 hP pr ab;have aN:=bf (H.1.grow ab.1).bB;have kY:=ae hP)
   |((with_reducible refine aQ 15 ?_);refine c4 b (i*13) (fun j u hu=>dD ab.1 (cJ.1 j u hu)) ?_)|((with_reducible refine aQ 6 ?_);refine b6 38 ?_;intro gt U b' ad I;have dM:=am ad;have GT:=am U;have rW:=am (show w.heap.size<=gt from Nat.le_trans ab.1.size (Nat.le_of_eq U.symm));have dF:=am I;clear ad I U)|((with_reducible refine bT 38 6 ?_);refine dG dM ?_;intro eE ad U;have bm:=am ad;have bk:=fq dF GT U;replace ab:=cf ab bk;replace hP:=aV hP bk;clear kY;have kY:=ae hP;clear ad U dM dF bk;have aN:=bf (H.1.grow ab.1).bB;have ck:=ae bm)
   |(go_at_call 105;refine (x4 _ dL (R s i).ai d.b _ (Kd.bW hc.1 ab.1) je).mono ?_;rw [sY.1];rintro e dJ ⟨rfl,rfl⟩)
   |(go_at_call 150;refine (IA i d.b _ (H.1.grow ab.1) aa aS hm oK x6).mono ?_;rw [jt.1];rintro e dJ ⟨rfl,I⟩;replace ab:=cf ab I;replace bm:=aV bm I;replace hP:=aV hP I;clear aN ck kY I;have aN:=bf (H.1.grow ab.1).bB;have ck:=ae bm;have kY:=ae hP)
   |(go_at_call 145;refine (C8 i _ (H.1.grow ab.1) aa aS hm aT).mono ?_;rintro e ih ⟨rfl,dr,h1,f1⟩;have bn:=am h1;have bA:=am ((Fr.below (own:=own) ab.1).trans (Fr.less f1 ab.1.size));clear H ab aN bm ck hP kY h1 f1))
   refine o6 ?_;refine ⟨rfl,dr, ?_,bA.1⟩
   have oV:load s i d=again s i:=by
    unfold load;simp only [e3.1,jt.1,if_true]
   rw [oV]
   exact bn.1
  | false=>
   have jt:=am fP;clear fP;obtain ⟨bQ,-⟩:=H.1.cell J;have MW:=am (bQ 0 _ rfl);clear bQ
   go_wp2_with (first
   |((with_reducible refine aQ 5 ?_);refine hy 62 ?_;intro cQ w1 hP pr ab;have aN:=bf (H.1.grow ab.1).bB;have kY:=ae hP)
   |((with_reducible refine aQ 15 ?_);refine c4 b (i*13) (fun j u hu=>dD ab.1 (cJ.1 j u hu)) ?_)|((with_reducible refine aQ 6 ?_);refine b6 38 ?_;intro gt U b' ad I;have dM:=am ad;have GT:=am U;have rW:=am (show w.heap.size<=gt from Nat.le_trans ab.1.size (Nat.le_of_eq U.symm));have dF:=am I;clear ad I U)|((with_reducible refine bT 38 6 ?_);refine dG dM ?_;intro eE ad U;have bm:=am ad;have bk:=fq dF GT U;replace ab:=cf ab bk;replace hP:=aV hP bk;clear kY;have kY:=ae hP;clear ad U dM dF bk;have aN:=bf (H.1.grow ab.1).bB;have ck:=ae bm)
   |(go_at_call 105;refine (x4 _ dL (R s i).ai d.b _ (Kd.bW hc.1 ab.1) je).mono ?_;rw [sY.1];rintro e dJ ⟨rfl,rfl⟩)
   |(go_at_call 150;refine (IA i d.b _ (H.1.grow ab.1) aa aS hm oK x6).mono ?_;rw [jt.1];rintro e dJ ⟨rfl,I⟩;replace ab:=cf ab I;replace bm:=aV bm I;replace hP:=aV hP I;clear aN ck kY I;have aN:=bf (H.1.grow ab.1).bB;have ck:=ae bm;have kY:=ae hP))
   have mW:=dD ab.1 (cJ.1 3 _ rfl);have ep:=dD ab.1 MW.1;rw [Nat.add_zero] at ep;refine wp_region_still_tail 22 (by kernel_rfl) (by kernel_rfl) ?_;simp only [List.take_succ_cons,List.take_zero,List.drop_succ_cons,List.drop_zero];iterate 22 still_step
   refine wpStill_nil ?_;clear mW ep;have I:=ei (Below.refl dJ.heap.size dJ);show wpList _ _ _ _ _ dJ.drew;generalize dJ.drew=ih at I ⊢;have jR:=cf ab I;have oM:=am (H.1.grow jR.1);have wJ:=am (Fr.below (own:=own) jR.1);have yY:=aV bm I;have E8:=aV hP I;have D1:=c9 lz jR.1;have D2:=c9 rE jR.1;have mW:=am (dD jR.1 (cJ.1 3 _ rfl));have jl:=am (H.1.dk gt rW.1);have IL:=am (H.1.dk cQ (Nat.le_of_eq pr.1.symm));obtain ⟨rc,zt⟩:=Kd.wx 0 D1.1 d.a xd vS;rw [ug] at rc zt;have rF:=am rc;have Df:=am zt;clear rc zt I ab aN ck kY bm hP lz rE;have aN:=bf oM.1.bB
   go_wp2_with (first
   |((with_reducible refine bT 3 42 ?_);refine e9 (u:=.int .i64 (cellAt s.cells dP).num) rfl rfl _ _ rfl (g:=gr) (off:=bx) rfl rfl rfl rfl (by kernel_rfl) ⟨⟨_,rF.1⟩,Df.1⟩ ?_;intro g1 aH;obtain ⟨aU,a1⟩:=oM.1.y5 (B:=w.heap.size) aa mW.out bx (by omega) (cellAt s.cells dP).num;rw [<-aH] at aU a1;have kg:=am aU;have oj:=am (wJ.1.trans a1);have cZ:=eA (p:=⟨gr,bx,none⟩) yY.1 (fun he=>by have br:=jl.1;rw [show gt=gr from he,wI.1] at br;omega) (Value.int .i64 (cellAt s.cells dP).num);have hx:=eA (p:=⟨gr,bx,none⟩) E8.1 (fun he=>by have br:=IL.1;rw [show cQ=gr from he,wI.1] at br;omega) (Value.int .i64 (cellAt s.cells dP).num);rw [<-aH] at cZ hx;have v8:=am cZ;have E9:=am hx;have Jz:=am (show cn.aC 52 g1 w0.heap.size (fun k=>own k=10+8*i) (.slice ev (R s i).reads.length dp) (R s i).reads by rw [aH];exact Kd.lp D2.1 (fun k J he=>by have br:own k=own gr:=congrArg own he;rw [J,wI.1] at br;omega) _);clear oM wJ yY E8 D1 D2 aN aU a1 cZ hx aH rF Df mW;have aN:=bf kg.1.bB;have ck:=ae v8;have kY:=ae E9))
   obtain ⟨vC,sZ⟩:∃ x:Sys,x=b0 s i {R s i with aL:=(R s i).aL.set bx (cellAt s.cells dP).num}:=⟨_,rfl⟩;have yx:i < vC.tasks.length:=by rw [sZ];simpa [c5] using aa
   have W6:dP < vC.cells.length:=by rw [sZ];exact J
   have G0:cellAt vC.cells dP=cellAt s.cells dP:=by rw [sZ];rfl
   have JA:(R vC i).reads=(R s i).reads:=by rw [sZ,cD aa]
   have W7:vC.clock=s.clock:=by rw [sZ];rfl
   rw [<-sZ] at kg;have D3:=am sZ;clear sZ;obtain ⟨bQ,-⟩:=kg.1.cell W6;have ep:=bQ 0 _ rfl;rw [G0,Nat.add_zero] at ep;clear bQ;obtain ⟨num,mS⟩:∃ x,x=(cellAt s.cells dP).num:=⟨_,rfl⟩;rw [<-mS] at ep;have sd:=am mS;have IM:=kg.1.bB;rw [W7] at IM;clear mS G0;refine kO (n:=25) (S:=fun W=>W.heap[g]? = some (.cells #[bh,a8,.slice (some ⟨gZ,0,none⟩) s.cells.length bL,.slice (some ⟨b,0,none⟩) s.tasks.length cap,.int .i64 s.clock,.slice cW s.log.length aw] 88 (0,0))/\W.heap[gt]? = some (.cells #[.int .i64 (R s i).body,.int .i64 (R s i).aR,.int .i64 (R s i).up,.slice (some ⟨gr,0,none⟩) (R s i).aL.length bO,.int .i64 (R s i).a7,.int .i64 (R s i).aE,.int .i64 (R s i).at_,.int .i64 (R s i).since,.slice gy (R s i).bE.length e1,.slice ev (R s i).reads.length dp,.slice e6 (R s i).ai.length dL,.int .i64 (R s i).bw,.int .i64 (R s i).from_] 38 (0,0))/\W.heap[cQ]? = some (.cells #[.int .i64 d.kind,.int .i64 d.a,.int .i64 d.b] 62 (0,0))/\W.cell? ⟨gZ,dP*3,none⟩=some (.int .i64 num)) (ds:= [22,23,24]) (by kernel_rfl) rfl ⟨gW IM,gW v8.1,gW E9.1,ep⟩ (fun aK=> ?_);have I:=ei (Below.refl g1.heap.size g1);generalize g1.drew=fN at I aK ⊢;have ky:=am (kg.1.grow I);have lA:=am (oj.1.trans (Fr.less (Fr.below I) oj.1.size));have Dg:=am (Kd.ie (Kd.kv Jz.1 I)).2.2;clear kg oj Jz I aN ck kY v8 E9 ep IM;refine hn 4 21 [0,1,2,3,4,5,6,7,8,9,10,11,12,13,14,15,16,17,18,19,20] aK ?_
   iterate 21 (refine hR rfl (by rintro W ⟨bU,s2,ec,gx⟩;have t0:=bf bU;have t2:=bf s2;have t3:=bf ec;clear bU s2 ec;go_simp;with_reducible rfl) ?_)
   refine bN ?_;refine fs 21 (some 64) (fun K au=> ?_);refine kW Tryz.func148 #[.slice ev (R s i).reads.length dp,.agg #[.int .i64 d.b,.int .i64 num]] ?_;refine (SM ev dp (R s i).reads ⟨d.b,num⟩ _ Dg.1 nX).mono ?_;rintro e wn ⟨v9,rfl,bp,I⟩;obtain ⟨gY,d9,dO⟩:=Kd.bt bp;subst dO;refine ⟨_,rfl, ?_⟩;refine au.out _ _ ⟨fS aK.1 I,fS aK.2.1 I,fS aK.2.2.1 I,dD I aK.2.2.2⟩ (fun aK=>e8 ?_);clear au K
   have V:av (cn.aC 52 wn w0.heap.size (fun k=>own k=0/\w.heap.size<=k) (.slice gY (jH (R s i).reads ⟨d.b,num⟩).length d9) (jH (R s i).reads ⟨d.b,num⟩)):=⟨Kd.ft (Kd.cG (Kd.fW bp) (fun k J=>⟨ky.1.dk k J.2.1,Nat.le_trans lA.1.size J.2.1⟩)) ky.1.below.size⟩;have wK:=am (ky.1.grow I);have Fn:=am (lA.1.trans (Fr.less (Fr.below I) lA.1.size));have yZ:=am aK.2.1;clear ky lA Dg bp I aK;have aN:=bf wK.1.bB;refine lM (fuel:=3) 22 (by kernel_rfl) ?_;simp only [List.drop_succ_cons,List.drop_zero]
   go_wp2_with (first
   |((with_reducible refine bT 36 66 ?_);refine e9 (u:=.slice gY (jH (R s i).reads ⟨d.b,num⟩).length d9) rfl rfl _ _ rfl rfl rfl rfl rfl (by kernel_rfl) (wK.1.ready (i:=i) yx 9 (by decide)) ?_;intro xe aH;obtain ⟨dr,aU,a1,-⟩:=wK.1.Ir (B:=w.heap.size) (i:=i) yx V.1;rw [<-aH] at aU a1;have xf:=am aU;have z2:=am (Fn.1.trans a1);have cZ:=eA (p:=⟨b,i*13+9,none⟩) yZ.1 (fun he=>by have br:=jl.1;rw [show gt=b from he,jc.1] at br;cases br) (.slice gY (jH (R s i).reads ⟨d.b,num⟩).length d9);rw [<-aH] at cZ;have LA:=am cZ;clear wK Fn V yZ aU a1 cZ aH aN;have aN:=bf xf.1.bB;have ck:=ae LA))
   obtain ⟨s1,dR⟩:∃ x:Sys,x=b0 vC i {R vC i with reads:=jH (R s i).reads ⟨d.b,num⟩}:=⟨_,rfl⟩;have cw:i < s1.tasks.length:=by rw [dR];simpa [c5] using yx
   have nV:(R s1 i).at_=(R s i).at_:=by rw [dR,cD yx,D3.1,cD aa]
   rw [<-dR] at xf;refine wp_region_still_tail 11 (by kernel_rfl) (by kernel_rfl) ?_;simp only [List.take_succ_cons,List.take_zero,List.drop_succ_cons,List.drop_zero];iterate 11 still_step
   refine wpStill_nil ?_;rw [show IntKind.i64.wrap ((R s i).at_+1)=(R s i).at_+1 from by rw [k0];unfold wrap64;omega];have I:=ei (Below.refl xe.heap.size xe);show wpList _ _ _ _ _ xe.drew;generalize xe.drew=sD at I ⊢;have iG:=am (xf.1.grow I);have l6:=am (z2.1.trans (Fr.less (Fr.below I) z2.1.size));clear xf z2 aN ck I;have aN:=bf iG.1.bB
   go_wp2_with (first
   |((with_reducible refine bT 3 107 ?_);refine e9 (u:=.int .i64 ((R s i).at_+1)) rfl rfl _ _ rfl rfl rfl rfl rfl (by kernel_rfl) (iG.1.ready (i:=i) cw 6 (by decide)) ?_;intro b9 aH;obtain ⟨aU,a1⟩:=iG.1.setInt (B:=w.heap.size) (i:=i) cw 6 (by decide) ((R s i).at_+1) {R s1 i with at_:=(R s i).at_+1} (fun _ _ _ _=>rfl) ⟨rfl,rfl,rfl,rfl⟩;rw [<-aH] at aU a1;have gj:=am aU;have gl:=am (l6.1.trans a1);clear iG l6 aN aU a1 aH))
   refine fv ?_;have h:=gj.1;rw [dR,set_set,cD yx,D3.1,set_set,cD aa] at h;refine ⟨rfl,dr, ?_,gl.1⟩;unfold load;simp only [e3.1,jt.1,ug,lQ,<-sd.1];rw [<-sd.1] at h;exact h
end
section
variable {w0:World} {g:Nat} {own:Nat->Nat} {bh a8:Value} {p:Prog} {s:Sys} {aG aZ aP:Value}
theorem RU (i:Nat) (bw:Int) (w:World) (h:bI 88 w0 g own bh a8 p s aG aZ aP w) (aa:i < s.tasks.length) (aS:s.tasks.length<=1048576) (ao:(R s i).reads.length<=1048576) (aB:(R s i).ai.length<=1048576) (ox:s.log.length<=1073741824) (lL:0<=(R s i).aR) (o7:(R s i).aR<=1048576):
  Calls Tryz.prog 146 #[.pointer (some ⟨g,0,none⟩),.int .i64 i,.int .i64 bw] w fun e af=>e= .returned (.tuple #[])/\∃ own' iR,bI 88 w0 g own' bh a8 p (done s i bw) aG aZ iR af/\Fr w.heap.size own own' w af:=by
 have H:=am h;clear h;obtain ⟨b,cap,rfl,cY,jb⟩:=H.1.iV (by omega);obtain ⟨cX,bL,rfl⟩:=H.1.kI;obtain ⟨cW,aw,rfl⟩:=H.1.hV;obtain ⟨v3,bC,v9,v10,aM,bb,aA,dU,eb,e7⟩:=H.1.task aa;obtain ⟨cU,bO,rfl,gz,dj⟩:=Kd.fG aA;obtain ⟨gy,e1,rfl,og,fy⟩:=Kd.fG dU;obtain ⟨ev,dp,rfl,h0,hh⟩:=Kd.fG eb;obtain ⟨e6,dL,rfl,ko,fi⟩:=Kd.fG e7;have cJ:=am aM;have aN:=bf H.1.bB;have jy:=am hh;have hc:=am fi;have bz:(0:Int)<=(i:Int):=by omega
 have b7:(i:Int) < (s.tasks.length:Int):=by omega
 clear aM bb aA dU eb e7 dj fy hh fi gz og h0 ko;have rD:=am H.1.dk;have IN:=H.1.below.size;go_enter Tryz.func146,Tryz.ntmps146
 go_wp2_with (first
  |((with_reducible refine aQ 14 ?_);refine c4 b (i*13) cJ.1 ?_)
  |((with_reducible refine aQ 6 ?_);refine hy 38 ?_;intro gt b' dM GT cF;clear aN)
  |((with_reducible refine bT 38 6 ?_);refine dG dM ?_;intro eE ad U;have bm:=am ad;have bk:=fq cF GT U;have jl:=am (show own gt=0 by rw [GT.1];exact H.1.dk _ (Nat.le_refl _));replace H:=am (H.1.grow bk);have bA:=am (Fr.below (own:=own) bk);replace jy:=ks jy bk;replace hc:=ks hc bk;clear ad U dM bk cF cJ;have F:=bA;clear bA;have aN:=bf H.1.bB;have ck:=ae bm))
 refine kO (n:=25) (S:=fun W=>W.heap[g]? = some (.cells #[bh,a8,.slice cX s.cells.length bL,.slice (some ⟨b,0,none⟩) s.tasks.length cap,.int .i64 s.clock,.slice cW s.log.length aw] 88 (0,0))/\W.heap[gt]? = some (.cells #[.int .i64 (R s i).body,.int .i64 (R s i).aR,.int .i64 (R s i).up,.slice cU (R s i).aL.length bO,.int .i64 (R s i).a7,.int .i64 (R s i).aE,.int .i64 (R s i).at_,.int .i64 (R s i).since,.slice gy (R s i).bE.length e1,.slice ev (R s i).reads.length dp,.slice e6 (R s i).ai.length dL,.int .i64 (R s i).bw,.int .i64 (R s i).from_] 38 (0,0))) (ds:= [21,22,23,24]) (by kernel_rfl) rfl ⟨gW H.1.bB,gW bm.1⟩ (fun aK=> ?_);have I:=ei (Below.refl eE.heap.size eE);generalize eE.drew=dJ at I aK ⊢;have bn:=am (H.1.grow I);have bA:=am (F.1.trans (Fr.less (Fr.below I) F.1.size));have Dg:=ks jy I;have z5:=ks hc I;clear H F jy hc I aN ck bm;refine hn 9 16 [0,1,2,3,4,5,6,7,8,9,10,11,13,14,16,17] aK ?_
 iterate 16 (refine hR rfl (by rintro W ⟨bU,s2⟩;have t0:=bf bU;have t2:=bf s2;clear bU s2;go_simp;with_reducible rfl) ?_)
 refine bN ?_;refine fs 12 (some 27) (fun K au=> ?_);refine kW Tryz.func85 #[.slice ev (R s i).reads.length dp] ?_;refine (Da ev dp _ _ Dg.1 ao).mono ?_;rintro e wn ⟨v9,rfl,bp,I⟩;obtain ⟨gY,d9,rfl⟩:=Kd.bt bp;refine ⟨_,rfl, ?_⟩;refine au.out _ _ ⟨fS aK.1 I,fS aK.2 I⟩ (fun aK=>e8 ?_);clear au K
 have cP:=bA.1.size;have gE:=am (bn.1.grow I);have rB:=am (bA.1.trans (Fr.less (Fr.below I) bA.1.size));clear bn bA;have bn:=gE;have bA:=rB;clear gE rB;replace z5:=ks z5 I;have hi:=am (show cn.aC 52 wn w.heap.size (fun _=>True) (.slice gY (R s i).reads.length d9) (R s i).reads from Kd.ft bp cP);clear cP bp I Dg;refine fs 15 (some 30) (fun K au=> ?_);refine kW Tryz.func85 #[.slice e6 (R s i).ai.length dL] ?_;refine (Da e6 dL _ _ z5.1 aB).mono ?_;rintro e wn ⟨v10,rfl,bp,I⟩;obtain ⟨gd,d10,rfl⟩:=Kd.bt bp;refine ⟨_,rfl, ?_⟩;refine au.out _ _ ⟨fS aK.1 I,fS aK.2 I⟩ (fun aK=>e8 ?_);clear au K
 have cP:=bA.1.size;have gE:=am (bn.1.grow I);have rB:=am (bA.1.trans (Fr.less (Fr.below I) bA.1.size));clear bn bA;have bn:=gE;have bA:=rB;clear gE rB;replace hi:=c9 hi I;have kA:=am (show cn.aC 52 wn w.heap.size (fun _=>True) (.slice gd (R s i).ai.length d10) (R s i).ai from Kd.ft bp cP);clear cP bp I z5;refine hn 6 1 [18] aK ?_
 iterate 1 (refine hR rfl (by intro W fx;go_simp;with_reducible rfl) ?_)
 refine bN ?_;refine fs 19 (some 34) (fun K au=> ?_);refine mV (v:=.slice (some ⟨wn.heap.size,0,none⟩) 1 1) (w1:=wn.alloc (.cells #[.int .i64 i,.int .i64 (R s i).aR,.int .i64 bw,.slice gY (R s i).reads.length d9,.slice gd (R s i).ai.length d10,.int .i64 (R s i).from_] 105 (0,0))) (by rfl) rfl (by go_simp<;>rfl) ?_;have kJ:=aK;refine au.out _ _ ⟨ss aK.1 _,ss aK.2 _⟩ (fun aK=>e8 ?_);clear au K
 refine fs 20 (some 35) (fun K au=> ?_)
 have x7:hf.M wn w0.heap.size (fun k=>own k=0/\w.heap.size<=k) (⟨i,(R s i).aR,bw,(R s i).reads,(R s i).ai,(R s i).from_⟩:Entry) [.int .i64 i,.int .i64 (R s i).aR,.int .i64 bw,.slice gY (R s i).reads.length d9,.slice gd (R s i).ai.length d10,.int .i64 (R s i).from_]:=
  Iv (⟨i,(R s i).aR,bw,(R s i).reads,(R s i).ai,(R s i).from_⟩:Entry) (Kd.ft (Kd.cG (Kd.fW hi.1) (fun k J=>⟨rD.1 k J.2.1,J.2.1⟩)) IN) (Kd.ft (Kd.cG (Kd.fW kA.1) (fun k J=>⟨rD.1 k J.2.1,J.2.1⟩)) IN)
 refine Kd.BE hf (w0:=w0) w0.heap.size (by rfl) (.tmp 20) (.tmp 34) 29 105 (.agg #[.int .i64 0,.int .i64 0,.int .i64 0,.slice none 0 0,.slice none 0 0,.int .i64 0]) 80 rfl Tryz.underlying29 (by kernel_rfl) rfl (by decide) (by decide) (.slice cW s.log.length aw) s.log _ _ (fun k=>own k=4\/(own k=0/\w.heap.size<=k)) (fun k=>own k=0/\w.heap.size<=k) rfl rfl x7 (fun k J=>⟨.inr J,fun he=>by have:=bn.1.log.1 k he.symm;omega⟩) (fun k J=> .inr ⟨bn.1.dk k J,Nat.le_trans bA.1.size J⟩) (Kd.cG bn.1.log (fun k J=> .inl J)) bn.1.below bn.1.below.size (by omega) ?_;intro v1 g1 bG lG h6 o8;have yy:some g ≠ (Value.slice cW s.log.length aw).ownBlock:=fun he=>by have br:own g=4:=bn.1.log.1 g he.symm;rw [bn.1.hI] at br;cases br
 have PS:some gt ≠ (Value.slice cW s.log.length aw).ownBlock:=fun he=>by have br:own gt=4:=bn.1.log.1 gt he.symm;rw [jl.1] at br;cases br
 refine au.out _ _ ⟨eQ kJ.1 h6 yy,eQ kJ.2 h6 PS⟩ (fun aK=>e8 ?_);clear au K
 refine lM (fuel:=4) 21 (by kernel_rfl) ?_;simp only [List.drop_succ_cons,List.drop_zero];have xg:=am aK.1;have v8:=am aK.2;have Uw:gt ≠ g:=fun he=>by have br:=jl.1;rw [he,bn.1.hI] at br;cases br
 have V:=am bG;have nY:=am h6;have rX:=am lG;have F:=bA;have dr:=own;clear aK kJ bG h6 lG o8 yy PS hi kA x7;have aN:=ae xg
 go_wp2_with (first
 |((with_reducible refine bT 29 38 ?_);refine e9 (u:=v1) rfl rfl _ _ rfl rfl rfl (qA V.1) (qF V.1) (by kernel_rfl) ⟨⟨_,by rw [bf xg.1];rfl⟩,iX xg.1 _⟩ ?_;intro fN aH;obtain ⟨aU,a1⟩:=bn.1.QR (B:=w.heap.size) IN bA.1.size rX.1 nY.1 V.1;rw [<-aH] at aU a1;have j7:=eA (p:=⟨g,5,none⟩) v8.1 Uw v1;rw [<-aH] at j7;obtain ⟨dr,ky,lA⟩:∃ o,av (bI 88 w0 g o bh a8 p {s with log:=s.log ++ [⟨i,(R s i).aR,bw,(R s i).reads,(R s i).ai,(R s i).from_⟩]} (.slice cX s.cells.length bL) (.slice (some ⟨b,0,none⟩) s.tasks.length cap) v1 fN)/\av (Fr w.heap.size own o w fN):=⟨_,⟨aU⟩,⟨bA.1.trans a1⟩⟩;have yZ:=am j7;clear j7 aU a1 aH aN xg;have aN:=bf ky.1.bB;have ck:=ae yZ))
 refine wp_region_still_tail 9 (by kernel_rfl) (by kernel_rfl) ?_;simp only [List.take_succ_cons,List.take_zero,List.drop_succ_cons,List.drop_zero];iterate 9 still_step
 refine wpStill_nil ?_;rw [show IntKind.i64.wrap ((R s i).aR+1)=(R s i).aR+1 from by rw [k0];unfold wrap64;omega];have I:=ei (Below.refl fN.heap.size fN);show wpList _ _ _ _ _ fN.drew;generalize fN.drew=sD at I ⊢;have H:=am (ky.1.grow I);have F:=am (lA.1.trans (Fr.less (Fr.below I) lA.1.size));clear ky lA aN ck yZ I V bn bA rX nY v8;obtain ⟨s1,dR⟩:∃ x:Sys,x= {s with log:=s.log ++ [⟨i,(R s i).aR,bw,(R s i).reads,(R s i).ai,(R s i).from_⟩]}:=⟨_,rfl⟩;have cw:i < s1.tasks.length:=by rw [dR];exact aa
 have m8:s1.tasks.length<=1048576:=by rw [dR];exact aS
 have pE:R s1 i=R s i:=by rw [dR];rfl
 rw [<-dR] at H;have aN:=bf H.1.bB
 go_wp2_with (first
 |((with_reducible refine bT 3 49 ?_);refine e9 (u:=.int .i64 ((R s i).aR+1)) rfl rfl _ _ rfl rfl rfl rfl rfl (by kernel_rfl) (H.1.ready (i:=i) (by first|exact cw | exact aa|(rw [c5];exact cw)) 1 (by decide)) ?_;intro wn aH;obtain ⟨aU,a1⟩:=H.1.setInt (B:=w.heap.size) (i:=i) (by first|exact cw | exact aa|(rw [c5];exact cw)) 1 (by decide) ((R s i).aR+1) {R s i with aR:=(R s i).aR+1} (fun _ _ _ _=>by first|(rw [pE];rfl)|(rw [cD (by assumption)];rfl)) (by first|(rw [pE];exact ⟨rfl,rfl,rfl,rfl⟩)|(rw [cD (by assumption)];exact ⟨rfl,rfl,rfl,rfl⟩));rw [<-aH] at aU a1;replace F:=am (F.1.trans a1);(try rw [set_set] at aU);replace H:=am aU;clear aN aU a1 aH;have aN:=bf H.1.bB)
 |((with_reducible refine aQ 56 ?_);refine Kd.jX (w0:=w0) cn w0.heap.size 52 rfl (N:=56) rfl (xs:=([]:List cI)) (inner:= []) (ok:=fun k=>dr k=0/\w.heap.size<=k) (okp:=fun _=>False) (by go_simp<;>rfl) (cp.none _ _) (fun _ J=>J.elim) ⟨H.1.dk _ (Nat.le_refl _),F.1.size⟩ H.1.below H.1.below.size (by simp) ?_;intro v1 wn bG cY jD dy;have I:=hW jD;have V:=am bG;replace H:=am (H.1.grow I);replace F:=am (F.1.trans (Fr.less (Fr.below I) F.1.size));clear aN cY jD dy I bG;have aN:=bf H.1.bB)
 |((with_reducible refine bT 36 58 ?_);refine e9 (u:=v1) rfl rfl _ _ rfl rfl rfl (qA V.1) (qF V.1) (by kernel_rfl) (H.1.ready (i:=i) (by first|exact cw | exact aa|(rw [c5];exact cw)) 9 (by decide)) ?_;intro wn aH;obtain ⟨dr,aU,a1,-⟩:=H.1.Ir (B:=w.heap.size) (i:=i) (by first|exact cw | exact aa|(rw [c5];exact cw)) V.1;rw [<-aH] at aU a1;replace F:=am (F.1.trans a1);(try rw [set_set,cD cw] at aU);replace H:=am aU;clear aN V aU a1 aH;have aN:=bf H.1.bB)
 |((with_reducible refine aQ 65 ?_);refine Kd.jX (w0:=w0) cn w0.heap.size 52 rfl (N:=65) rfl (xs:=([]:List cI)) (inner:= []) (ok:=fun k=>dr k=0/\w.heap.size<=k) (okp:=fun _=>False) (by go_simp<;>rfl) (cp.none _ _) (fun _ J=>J.elim) ⟨H.1.dk _ (Nat.le_refl _),F.1.size⟩ H.1.below H.1.below.size (by simp) ?_;intro v1 wn bG cY jD dy;have I:=hW jD;have V:=am bG;replace H:=am (H.1.grow I);replace F:=am (F.1.trans (Fr.less (Fr.below I) F.1.size));clear aN cY jD dy I bG;have aN:=bf H.1.bB)
 |((with_reducible refine bT 36 67 ?_);refine e9 (u:=v1) rfl rfl _ _ rfl rfl rfl (qA V.1) (qF V.1) (by kernel_rfl) (H.1.ready (i:=i) (by first|exact cw | exact aa|(rw [c5];exact cw)) 10 (by decide)) ?_;intro wn aH;obtain ⟨dr,aU,a1,-⟩:=H.1.Ig (B:=w.heap.size) (i:=i) (by first|exact cw | exact aa|(rw [c5];exact cw)) V.1;rw [<-aH] at aU a1;replace F:=am (F.1.trans a1);(try rw [set_set,cD cw] at aU);replace H:=am aU;clear aN V aU a1 aH;have aN:=bf H.1.bB)
 |((with_reducible refine bT 3 75 ?_);refine e9 (u:=.int .i64 0) rfl rfl _ _ rfl rfl rfl rfl rfl (by kernel_rfl) (H.1.ready (i:=i) (by first|exact cw | exact aa|(rw [c5];exact cw)) 7 (by decide)) ?_;intro wn aH;obtain ⟨aU,a1⟩:=H.1.setInt (B:=w.heap.size) (i:=i) (by first|exact cw | exact aa|(rw [c5];exact cw)) 7 (by decide) 0 {R s i with aR:=(R s i).aR+1,reads:= [],ai:= [],since:=0} (fun _ _ _ _=>by first|rfl|(rw [cD (by assumption)];rfl)) (by first|exact ⟨rfl,rfl,rfl,rfl⟩|(rw [cD (by assumption)];exact ⟨rfl,rfl,rfl,rfl⟩));rw [<-aH] at aU a1;replace F:=am (F.1.trans a1);(try rw [set_set] at aU);replace H:=am aU;clear aN aU a1 aH;have aN:=bf H.1.bB)
 |((with_reducible refine bT 3 83 ?_);refine e9 (u:=.int .i64 0) rfl rfl _ _ rfl rfl rfl rfl rfl (by kernel_rfl) (H.1.ready (i:=i) (by first|exact cw | exact aa|(rw [c5];exact cw)) 11 (by decide)) ?_;intro wn aH;obtain ⟨aU,a1⟩:=H.1.setInt (B:=w.heap.size) (i:=i) (by first|exact cw | exact aa|(rw [c5];exact cw)) 11 (by decide) 0 {R s i with aR:=(R s i).aR+1,reads:= [],ai:= [],since:=0,bw:=0} (fun _ _ _ _=>by first|rfl|(rw [cD (by assumption)];rfl)) (by first|exact ⟨rfl,rfl,rfl,rfl⟩|(rw [cD (by assumption)];exact ⟨rfl,rfl,rfl,rfl⟩));rw [<-aH] at aU a1;replace F:=am (F.1.trans a1);(try rw [set_set] at aU);replace H:=am aU;clear aN aU a1 aH;have aN:=bf H.1.bB)
 |((with_reducible refine bT 3 91 ?_);refine e9 (u:=.int .i64 0) rfl rfl _ _ rfl rfl rfl rfl rfl (by kernel_rfl) (H.1.ready (i:=i) (by first|exact cw | exact aa|(rw [c5];exact cw)) 12 (by decide)) ?_;intro wn aH;obtain ⟨aU,a1⟩:=H.1.setInt (B:=w.heap.size) (i:=i) (by first|exact cw | exact aa|(rw [c5];exact cw)) 12 (by decide) 0 {R s i with aR:=(R s i).aR+1,reads:= [],ai:= [],since:=0,bw:=0,from_:=0} (fun _ _ _ _=>by first|rfl|(rw [cD (by assumption)];rfl)) (by first|exact ⟨rfl,rfl,rfl,rfl⟩|(rw [cD (by assumption)];exact ⟨rfl,rfl,rfl,rfl⟩));rw [<-aH] at aU a1;replace F:=am (F.1.trans a1);(try rw [set_set] at aU);replace H:=am aU;clear aN aU a1 aH;have aN:=bf H.1.bB)
 |(go_at_call 136;refine (BA i 0 _ H.1 (by rw [c5];exact cw) (by rw [c5];exact m8)).mono ?_;rintro e b9 ⟨rfl,h1,f1⟩;have bn:=am h1;have bA:=am (F.1.trans (Fr.less f1 F.1.size));clear H F aN h1 f1))
 refine fv ?_;have h:=bn.1;unfold k4 at h;rw [set_set,cD cw,dR] at h;exact ⟨rfl,dr,_,h,bA.1⟩
end
end Go.Proofs.YteajdhhmkjblnaaGreatDoor.Eq
