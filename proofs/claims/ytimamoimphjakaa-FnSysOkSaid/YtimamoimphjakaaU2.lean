import Derived.Test.YtimamoimphjakaaU1
import Derived.Deep.MidRow
import Derived.StillTail
import Derived.StillTailTactics
set_option maxHeartbeats 8000000
set_option maxRecDepth 100000
set_option linter.unusedVariables false
set_option linter.unusedSimpArgs false
namespace Go.Proofs.Ytimamoimphjakaa.Eq
open Go.RowKit Go.Proofs.YtimamoimphjakaaW.PrintWords Go.Proofs.YtimamoimphjakaaW.PrintLast
structure Put where
 cell:Int
 num:Int
 deriving DecidableEq
def zPut:Put:=⟨0,0⟩
def kPut:Kd Put:=Kd.iso (Kd.pair (Kd.int .i64) (Kd.int .i64)) (fun x:Put=>(x.cell,x.num))
theorem kPut_open {w:World} {x:Put} {cs:List Value} (h:kPut.K w x cs):cs= [.int .i64 x.cell,.int .i64 x.num]:=by
 obtain ⟨_,_,rfl,rfl,rfl⟩:=h;exact rfl
theorem kPut_mkM {w:World} {base:Nat} {ok:Nat->Prop} (x:Put):kPut.M w base ok x [.int .i64 x.cell,.int .i64 x.num]:=
 ⟨[.int .i64 x.cell], [.int .i64 x.num],rfl,rfl,rfl⟩
structure Cell where
 num:Int
 time:Int
 lock:Int
 deriving DecidableEq
def zCell:Cell:=⟨0,0,0⟩
def kCell:Kd Cell:=Kd.iso (Kd.pair (Kd.int .i64) (Kd.pair (Kd.int .i64) (Kd.int .i64))) (fun x:Cell=>(x.num,x.time,x.lock))
theorem kCell_open {w:World} {x:Cell} {cs:List Value} (h:kCell.K w x cs):cs= [.int .i64 x.num,.int .i64 x.time,.int .i64 x.lock]:=by
 obtain ⟨_,_,rfl,rfl,⟨_,_,rfl,rfl,rfl⟩⟩:=h;exact rfl
theorem kCell_openM {w:World} {base:Nat} {ok:Nat->Prop} {x:Cell} {cs:List Value} (h:kCell.M w base ok x cs):cs= [.int .i64 x.num,.int .i64 x.time,.int .i64 x.lock]:=by
 obtain ⟨_,_,rfl,rfl,⟨_,_,rfl,rfl,rfl⟩⟩:=h;exact rfl
theorem kCell_mkM {w:World} {base:Nat} {ok:Nat->Prop} (x:Cell):kCell.M w base ok x [.int .i64 x.num,.int .i64 x.time,.int .i64 x.lock]:=
 ⟨[.int .i64 x.num], [.int .i64 x.time,.int .i64 x.lock],rfl,rfl,⟨[.int .i64 x.time], [.int .i64 x.lock],rfl,rfl,rfl⟩⟩
structure Task where
 body:Int
 pc:Int
 up:Int
 regs:List Int
 way:Int
 stage:Int
 at_:Int
 since:Int
 old:List Int
 reads:List Put
 puts:List Put
 when_:Int
 from_:Int
 deriving DecidableEq
def zTask:Task:=⟨0,0,0, [],0,0,0,0, [], [], [],0,0⟩
def kTask:Kd Task:=Kd.iso (Kd.pair (Kd.int .i64) (Kd.pair (Kd.int .i64) (Kd.pair (Kd.int .i64) (Kd.pair (Kd.slice 3 (Kd.int .i64)) (Kd.pair (Kd.int .i64) (Kd.pair (Kd.int .i64) (Kd.pair (Kd.int .i64) (Kd.pair (Kd.int .i64) (Kd.pair (Kd.slice 3 (Kd.int .i64)) (Kd.pair (Kd.slice 103 kPut) (Kd.pair (Kd.slice 103 kPut) (Kd.pair (Kd.int .i64) (Kd.int .i64))))))))))))) (fun x:Task=>(x.body,x.pc,x.up,x.regs,x.way,x.stage,x.at_,x.since,x.old,x.reads,x.puts,x.when_,x.from_))
theorem kTask_open {w:World} {x:Task} {cs:List Value} (h:kTask.K w x cs):∃ A_regs c_regs A_old c_old A_reads c_reads A_puts c_puts,cs= [.int .i64 x.body,.int .i64 x.pc,.int .i64 x.up,.slice A_regs x.regs.length c_regs,.int .i64 x.way,.int .i64 x.stage,.int .i64 x.at_,.int .i64 x.since,.slice A_old x.old.length c_old,.slice A_reads x.reads.length c_reads,.slice A_puts x.puts.length c_puts,.int .i64 x.when_,.int .i64 x.from_]/\x.regs.length<=c_regs/\(Kd.int .i64).C w A_regs x.regs.length x.regs/\x.old.length<=c_old/\(Kd.int .i64).C w A_old x.old.length x.old/\x.reads.length<=c_reads/\kPut.C w A_reads x.reads.length x.reads/\x.puts.length<=c_puts/\kPut.C w A_puts x.puts.length x.puts:=by
 obtain ⟨_,_,rfl,rfl,⟨_,_,rfl,rfl,⟨_,_,rfl,rfl,⟨_,_,rfl,⟨A_regs,c_regs,rfl,l_regs,g_regs⟩,⟨_,_,rfl,rfl,⟨_,_,rfl,rfl,⟨_,_,rfl,rfl,⟨_,_,rfl,rfl,⟨_,_,rfl,⟨A_old,c_old,rfl,l_old,g_old⟩,⟨_,_,rfl,⟨A_reads,c_reads,rfl,l_reads,g_reads⟩,⟨_,_,rfl,⟨A_puts,c_puts,rfl,l_puts,g_puts⟩,⟨_,_,rfl,rfl,rfl⟩⟩⟩⟩⟩⟩⟩⟩⟩⟩⟩⟩:=h;exact ⟨A_regs,c_regs,A_old,c_old,A_reads,c_reads,A_puts,c_puts,rfl,l_regs,g_regs,l_old,g_old,l_reads,g_reads,l_puts,g_puts⟩
theorem kTask_mkM {w:World} {base:Nat} {ok:Nat->Prop} (x:Task) {v_regs:Value} (g_regs:(Kd.int .i64).R 3 w base ok v_regs x.regs) {v_old:Value} (g_old:(Kd.int .i64).R 3 w base ok v_old x.old) {v_reads:Value} (g_reads:kPut.R 103 w base ok v_reads x.reads) {v_puts:Value} (g_puts:kPut.R 103 w base ok v_puts x.puts):kTask.M w base ok x [.int .i64 x.body,.int .i64 x.pc,.int .i64 x.up,v_regs,.int .i64 x.way,.int .i64 x.stage,.int .i64 x.at_,.int .i64 x.since,v_old,v_reads,v_puts,.int .i64 x.when_,.int .i64 x.from_]:=
 ⟨[.int .i64 x.body], [.int .i64 x.pc,.int .i64 x.up,v_regs,.int .i64 x.way,.int .i64 x.stage,.int .i64 x.at_,.int .i64 x.since,v_old,v_reads,v_puts,.int .i64 x.when_,.int .i64 x.from_],rfl,rfl,⟨[.int .i64 x.pc], [.int .i64 x.up,v_regs,.int .i64 x.way,.int .i64 x.stage,.int .i64 x.at_,.int .i64 x.since,v_old,v_reads,v_puts,.int .i64 x.when_,.int .i64 x.from_],rfl,rfl,⟨[.int .i64 x.up], [v_regs,.int .i64 x.way,.int .i64 x.stage,.int .i64 x.at_,.int .i64 x.since,v_old,v_reads,v_puts,.int .i64 x.when_,.int .i64 x.from_],rfl,rfl,⟨[v_regs], [.int .i64 x.way,.int .i64 x.stage,.int .i64 x.at_,.int .i64 x.since,v_old,v_reads,v_puts,.int .i64 x.when_,.int .i64 x.from_],rfl,⟨_,rfl,g_regs⟩,⟨[.int .i64 x.way], [.int .i64 x.stage,.int .i64 x.at_,.int .i64 x.since,v_old,v_reads,v_puts,.int .i64 x.when_,.int .i64 x.from_],rfl,rfl,⟨[.int .i64 x.stage], [.int .i64 x.at_,.int .i64 x.since,v_old,v_reads,v_puts,.int .i64 x.when_,.int .i64 x.from_],rfl,rfl,⟨[.int .i64 x.at_], [.int .i64 x.since,v_old,v_reads,v_puts,.int .i64 x.when_,.int .i64 x.from_],rfl,rfl,⟨[.int .i64 x.since], [v_old,v_reads,v_puts,.int .i64 x.when_,.int .i64 x.from_],rfl,rfl,⟨[v_old], [v_reads,v_puts,.int .i64 x.when_,.int .i64 x.from_],rfl,⟨_,rfl,g_old⟩,⟨[v_reads], [v_puts,.int .i64 x.when_,.int .i64 x.from_],rfl,⟨_,rfl,g_reads⟩,⟨[v_puts], [.int .i64 x.when_,.int .i64 x.from_],rfl,⟨_,rfl,g_puts⟩,⟨[.int .i64 x.when_], [.int .i64 x.from_],rfl,rfl,rfl⟩⟩⟩⟩⟩⟩⟩⟩⟩⟩⟩⟩
structure Entry where
 task:Int
 act:Int
 when_:Int
 reads:List Put
 puts:List Put
 from_:Int
 deriving DecidableEq
def zEntry:Entry:=⟨0,0,0, [], [],0⟩
def kEntry:Kd Entry:=Kd.iso (Kd.pair (Kd.int .i64) (Kd.pair (Kd.int .i64) (Kd.pair (Kd.int .i64) (Kd.pair (Kd.slice 103 kPut) (Kd.pair (Kd.slice 103 kPut) (Kd.int .i64)))))) (fun x:Entry=>(x.task,x.act,x.when_,x.reads,x.puts,x.from_))
theorem kEntry_open {w:World} {x:Entry} {cs:List Value} (h:kEntry.K w x cs):∃ A_reads c_reads A_puts c_puts,cs= [.int .i64 x.task,.int .i64 x.act,.int .i64 x.when_,.slice A_reads x.reads.length c_reads,.slice A_puts x.puts.length c_puts,.int .i64 x.from_]/\x.reads.length<=c_reads/\kPut.C w A_reads x.reads.length x.reads/\x.puts.length<=c_puts/\kPut.C w A_puts x.puts.length x.puts:=by
 obtain ⟨_,_,rfl,rfl,⟨_,_,rfl,rfl,⟨_,_,rfl,rfl,⟨_,_,rfl,⟨A_reads,c_reads,rfl,l_reads,g_reads⟩,⟨_,_,rfl,⟨A_puts,c_puts,rfl,l_puts,g_puts⟩,rfl⟩⟩⟩⟩⟩:=h;exact ⟨A_reads,c_reads,A_puts,c_puts,rfl,l_reads,g_reads,l_puts,g_puts⟩
theorem kEntry_mkM {w:World} {base:Nat} {ok:Nat->Prop} (x:Entry) {v_reads:Value} (g_reads:kPut.R 103 w base ok v_reads x.reads) {v_puts:Value} (g_puts:kPut.R 103 w base ok v_puts x.puts):kEntry.M w base ok x [.int .i64 x.task,.int .i64 x.act,.int .i64 x.when_,v_reads,v_puts,.int .i64 x.from_]:=
 ⟨[.int .i64 x.task], [.int .i64 x.act,.int .i64 x.when_,v_reads,v_puts,.int .i64 x.from_],rfl,rfl,⟨[.int .i64 x.act], [.int .i64 x.when_,v_reads,v_puts,.int .i64 x.from_],rfl,rfl,⟨[.int .i64 x.when_], [v_reads,v_puts,.int .i64 x.from_],rfl,rfl,⟨[v_reads], [v_puts,.int .i64 x.from_],rfl,⟨_,rfl,g_reads⟩,⟨[v_puts], [.int .i64 x.from_],rfl,⟨_,rfl,g_puts⟩,rfl⟩⟩⟩⟩⟩
structure Sys where
 cells:List Cell
 tasks:List Task
 clock:Int
 log:List Entry
 deriving DecidableEq
def zSys:Sys:=⟨[], [],0, []⟩
def kSys:Kd Sys:=Kd.iso (Kd.pair (Kd.slice 53 kCell) (Kd.pair (Kd.slice 38 kTask) (Kd.pair (Kd.int .i64) (Kd.slice 119 kEntry)))) (fun x:Sys=>(x.cells,x.tasks,x.clock,x.log))
theorem kSys_open {w:World} {x:Sys} {cs:List Value} (h:kSys.K w x cs):∃ A_cells c_cells A_tasks c_tasks A_log c_log,cs= [.slice A_cells x.cells.length c_cells,.slice A_tasks x.tasks.length c_tasks,.int .i64 x.clock,.slice A_log x.log.length c_log]/\x.cells.length<=c_cells/\kCell.C w A_cells x.cells.length x.cells/\x.tasks.length<=c_tasks/\kTask.C w A_tasks x.tasks.length x.tasks/\x.log.length<=c_log/\kEntry.C w A_log x.log.length x.log:=by
 obtain ⟨_,_,rfl,⟨A_cells,c_cells,rfl,l_cells,g_cells⟩,⟨_,_,rfl,⟨A_tasks,c_tasks,rfl,l_tasks,g_tasks⟩,⟨_,_,rfl,rfl,⟨A_log,c_log,rfl,l_log,g_log⟩⟩⟩⟩:=h;exact ⟨A_cells,c_cells,A_tasks,c_tasks,A_log,c_log,rfl,l_cells,g_cells,l_tasks,g_tasks,l_log,g_log⟩
theorem kSys_mk {w:World} (x:Sys) {A_cells:Option Addr} {c_cells:Nat} (l_cells:x.cells.length<=c_cells) (g_cells:kCell.C w A_cells x.cells.length x.cells) {A_tasks:Option Addr} {c_tasks:Nat} (l_tasks:x.tasks.length<=c_tasks) (g_tasks:kTask.C w A_tasks x.tasks.length x.tasks) {A_log:Option Addr} {c_log:Nat} (l_log:x.log.length<=c_log) (g_log:kEntry.C w A_log x.log.length x.log):kSys.K w x [.slice A_cells x.cells.length c_cells,.slice A_tasks x.tasks.length c_tasks,.int .i64 x.clock,.slice A_log x.log.length c_log]:=
 ⟨[.slice A_cells x.cells.length c_cells], [.slice A_tasks x.tasks.length c_tasks,.int .i64 x.clock,.slice A_log x.log.length c_log],rfl,⟨_,_,rfl,l_cells,g_cells⟩,⟨[.slice A_tasks x.tasks.length c_tasks], [.int .i64 x.clock,.slice A_log x.log.length c_log],rfl,⟨_,_,rfl,l_tasks,g_tasks⟩,⟨[.int .i64 x.clock], [.slice A_log x.log.length c_log],rfl,rfl,⟨_,_,rfl,l_log,g_log⟩⟩⟩⟩
end Go.Proofs.Ytimamoimphjakaa.Eq
namespace Go.Proofs.Ytimamoimphjakaa.Eq
open Go.RowKit Go.Proofs.YtimamoimphjakaaW.PrintWords Go.Proofs.YtimamoimphjakaaW.PrintLast Go.Proofs.YtimamoimphjakaaW.PrintMore
theorem bcell {W w1:World} (hb:Below W.heap.size W w1):(∀ b o,b < W.heap.size->w1.cell? ⟨b,o,none⟩=W.cell? ⟨b,o,none⟩)/\(∀ b o,b < W.heap.size->w1.frozen? ⟨b,o,none⟩=W.frozen? ⟨b,o,none⟩):=
 ⟨fun b o h=>hb.cell (p:=⟨b,o,none⟩) h,fun b o h=>hb.frozen (p:=⟨b,o,none⟩) h⟩
theorem ret_bool {a b:Bool} (h:a=b):Ending.returned (.bool a)= .returned (.bool b):=by rw [h]
theorem spot_of {W:World} {ad:Addr} {v:Value} (h:W.cell? ad=some v):ad.spot=none:=by
 unfold World.cell? at h;split at h
 ·split at h
  ·cases h
  ·rename_i hs;simpa using hs
 ·cases h
theorem C_field {α:Type} {d:Kd α} {w:World} {A:Option Addr} {n:Nat} {xs:List α} (h:d.C w A n xs) (z:α) (k:Nat) (hk:k < n) (hs:0 < d.sz):
  ∃ b o cs,A=some ⟨b,o,none⟩/\cs.length=d.sz/\d.K w (xs.getD k z) cs/\(∀ j u,cs[j]? = some u->w.cell? ⟨b,o+k*d.sz+j,none⟩=some u)/\(∀ u,cs[0]? = some u->w.cell? ⟨b,o+k*d.sz,none⟩=some u):=by
 obtain ⟨ad,cs,rfl,hl,hK,hc⟩:=Kd.C_get h z (k:Int) (by omega) (by omega);obtain ⟨ad',cs',he,hl',_,hc'⟩:=Kd.C_get h z (0:Int) (by omega) (by omega);cases he;simp only [Int.toNat_natCast] at hK hc
 have hsp:ad.spot=none:=by
  have h0:=spot_of (hc' 0 _ (List.getElem?_eq_getElem (by omega)));unfold Addr.add at h0;simpa using h0
 obtain ⟨b,o,s⟩:=ad;cases hsp
 have key:∀ j u,cs[j]? = some u->w.cell? ⟨b,o+k*d.sz+j,none⟩=some u:=fun j u hj=>by
  have:=hc j u hj
  rwa [add_at,<-Nat.add_assoc] at this
 exact ⟨b,o,cs,rfl,hl,hK,key,fun u hu=>key 0 u hu⟩
section
variable {P:Program} {ops:Array Oper} {rest:List Oper} {o:Oper} {a:Act} {Q:Exit->Act->World->Prop}
theorem store_block {W:World} (hgd:o.guard=none) (hN:o.dst=none) (t:TypeId) (p x:Operand) (ho:o.op= .store t p x) {g:Nat} {c0:Array Value} {e:TypeId} {cs:List Value}
  (hp:a.eval p= .pointer (some ⟨g,0,none⟩)) (hx:a.eval x= .agg cs.toArray) (hb:W.heap[g]? = some (.cells c0 e (0,0))) (hl:cs.length=c0.size) (hi:(P.info? t).map (·.size)=some cs.length) (h1:∀ v ∈ cs,v.oneCell'=true)
  (h:∀ w1,w1.heap[g]? = some (.cells cs.toArray e (0,0))->W.grownBy w1 (some g)->wpList P ops Q rest a w1):wpList P ops Q (o :: rest) a W:=by
 refine wpList_store_mid hgd t p x ho g 0 cs.toArray hp hx (fun j hj=> ?_) (by simpa using hi) (all_oneCell_toArray h1) ?_
 ·rw [Nat.zero_add,blk_cell hb j,blk_frozen hb j]
  simp at hj;simp [Array.getElem?_eq_getElem (show j < c0.size by omega)]
 ·obtain ⟨cur,hc,hsz,hcur⟩:=setCells_row cs 0 W c0 hb (by omega)
  obtain ⟨s1,s2,s3,s4⟩:=setCells_same g cs 0 W
  have e1:cur=cs.toArray:=by
   apply Array.toList_inj.1;rw [hcur,List.take_zero,List.nil_append,List.drop_eq_nil_of_le (by simp;omega),List.append_nil]
  subst e1;simp only [hN,Act.put];exact h _ hc ⟨s1,s2,s3,by rw [s4];exact Nat.le_refl _,fun i hi hne=>setCells_far cs 0 i (fun he=>hne (by rw [he]))⟩
theorem load_block {W:World} (hgd:o.guard=none) (t:TypeId) (x:Operand) (ho:o.op= .load t x) {g:Nat} {e:TypeId} {cs:List Value} (d:TypeDesc)
  (hx:a.eval x= .pointer (some ⟨g,0,none⟩)) (hb:W.heap[g]? = some (.cells cs.toArray e (0,0))) (hu:P.underlying t=some d) (hd:d.isRow=true) (hi:(P.info? t).map (·.size)=some cs.length)
  (h:wpList P ops Q rest (a.put o.dst (.agg cs.toArray)) W):wpList P ops Q (o :: rest) a W:=
 wpList_load_mid hgd t x ho g 0 hx cs d (fun j u hj=>by rw [Nat.zero_add,blk_cell hb j];simpa using hj) hu hd hi h
end
end Go.Proofs.Ytimamoimphjakaa.Eq
namespace Go.Proofs.YtimamoimphjakaaW.PrintWords
open Go.RowKit
theorem lC {W:World} {g T:Nat} {cs:List Value} (h:W.heap[g]? = some (.cells cs.toArray T (0,0))):W.rangeAt g 0 cs:=fun j u hu=>by rw [Nat.zero_add];exact (blk_cell h j).trans (List.getElem?_toArray.trans hu)
theorem zc8 {w:World} {g:Nat} {t:TypeId} {cs:Array Value} (h:w.heap[g]? = some (.cells cs t (0,0))) (i:Nat):w.cell? ⟨g,i,none⟩=cs[i]? := blk_cell h i
theorem zb8 {w w':World} {g:Nat} {o:Obj} (h:w.heap[g]? = some o) (hb:Below w.heap.size w w'):w'.heap[g]? = some o:=blk_below h hb
end Go.Proofs.YtimamoimphjakaaW.PrintWords

namespace Go.Proofs.Ytimamoimphjakaa.Eq
open Go.RowKit Go.Proofs.YtimamoimphjakaaW.PrintWords Go.Proofs.YtimamoimphjakaaW.PrintLast Go.Proofs.YtimamoimphjakaaW.PrintMore
def pickTo (p:Nat->Bool) (k:Nat):List Int:=((List.range k).filter p).map fun (i:Nat)=>(i:Int)
theorem pickTo_yes {p:Nat->Bool} {k:Nat} (h:p k=true):pickTo p (k+1)=pickTo p k ++ [(k:Int)]:=by
 simp [pickTo,List.range_succ,List.filter_append,h]
theorem pickTo_no {p:Nat->Bool} {k:Nat} (h:p k=false):pickTo p (k+1)=pickTo p k:=by
 simp [pickTo,List.range_succ,List.filter_append,h]
theorem pickTo_length (p:Nat->Bool) (k:Nat):(pickTo p k).length<=k:=by
 simp only [pickTo,List.length_map];exact Nat.le_trans (List.length_filter_le _ _) (by simp)
def taskAt (ts:List Task) (i:Nat):Task:=ts.getD i zTask
def isKid (ts:List Task) (task:Int) (i:Nat):Bool:=decide (0<=task) && decide ((taskAt ts i).up=task) && decide (task < (i:Int))
def kids (ts:List Task) (task:Int):List Int:=pickTo (isKid ts task) ts.length
def isLive (t:Task):Bool:=decide (t.way=0) || decide (t.way=1)
theorem pickTo_none {p:Nat->Bool} {k:Nat} (h:∀ i,i < k->p i=false):pickTo p k= []:=by
 induction k with
 | zero=>rfl
 | succ k ih=>rw [pickTo_no (h k (by omega)),ih (fun i hi=>h i (by omega))]
theorem kids_out {ts:List Task} {task:Int} (h:¬ (0<=task/\task < ts.length)):kids ts task= []:=by
 refine pickTo_none (fun i hi=> ?_);unfold isKid;by_cases h0:0<=task
 ·have:¬ task < (i:Int):=by omega
  simp [this]
 ·simp [h0]
theorem info_int:(Try.prog.info? 3).map (fun i=>(i.zero,i.size,i.bytes))=some (some (.int .i64 0),1,8):=by kernel_rfl
theorem isPlace_calls (a n:Int) (w:World):Calls Try.prog 51 #[.int .i64 a,.int .i64 n] w fun e w'=>e= .returned (.bool (decide (0<=a) && decide (a < n)))/\w=w':=by
 by_cases h:0<=a
 ·have hb:decide (0<=a)=true:=decide_eq_true h
  go_enter Try.func51,Try.ntmps51;go_wp2;go_ret;exact ⟨by simp [h],rfl⟩
 ·have hb:decide (0<=a)=false:=decide_eq_false h
  go_enter Try.func51,Try.ntmps51;go_wp2;go_ret;exact ⟨by simp [h],rfl⟩
theorem l6In_calls (a l h:Int) (w:World):Calls Try.prog 50 #[.int .i64 a,.int .i64 l,.int .i64 h] w fun e w'=>e= .returned (.bool (decide (l<=a) && decide (a<=h)))/\w=w':=by
 by_cases h0:l<=a
 ·have hb:decide (l<=a)=true:=decide_eq_true h0
  go_enter Try.func50,Try.ntmps50;go_wp2;go_ret;exact ⟨by simp [h0],rfl⟩
 ·have hb:decide (l<=a)=false:=decide_eq_false h0
  go_enter Try.func50,Try.ntmps50;go_wp2;go_ret;exact ⟨by simp [h0],rfl⟩
theorem live_calls (x:Task) (cs:List Value) (w:World) (hx:kTask.K w x cs):
  Calls Try.prog 46 #[.agg cs.toArray] w fun e w'=>e= .returned (.bool (isLive x))/\Below w.heap.size w w':=by
 obtain ⟨A3,c3,A8,c8,A9,c9,A10,c10,rfl,l3,g3,l8,g8,l9,g9,l10,g10⟩:=kTask_open hx;clear l3 g3 l8 g8 l9 g9 l10 g10 hx;by_cases h:x.way=0
 ·have hb:(x.way == 0)=true:=by simp [h]
  have H:=am h;clear h;go_enter Try.func46,Try.ntmps46;go_wp2;go_ret;exact ⟨ret_bool (by simp [isLive,H.out]),below_alloc (Below.refl _ _) _⟩
 ·have hb:(x.way == 0)=false:=by simp [h]
  have H:=am h;clear h;go_enter Try.func46,Try.ntmps46;go_wp2;go_ret;exact ⟨ret_bool (by simp only [isLive,decide_eq_false H.out,Bool.false_or];rw [Bool.eq_iff_iff];simp),below_alloc (Below.refl _ _) _⟩
def zeroTask:Array Value:=#[.int .i64 0,.int .i64 0,.int .i64 0,.slice none 0 0,.int .i64 0,.int .i64 0,.int .i64 0,.int .i64 0,.slice none 0 0,.slice none 0 0,.slice none 0 0,.int .i64 0,.int .i64 0]
theorem implKids_calls (s:Sys) (cs:List Value) (task:Int) (w:World) (hx:kSys.K w s cs) (hn:s.tasks.length<=1048576):
  Calls Try.prog 31 #[.agg cs.toArray,.int .i64 task] w fun e w'=>∃ v,e= .returned v/\(Kd.int .i64).R 3 w' w.heap.size (fun _=>True) v (kids s.tasks task)/\Below w.heap.size w w':=by
 obtain ⟨A0,c0,A1,c1,A3,c3,rfl,l0,g0,l1,g1,l3,g3⟩:=kSys_open hx;have G:=am g1;clear g0 g1 g3 l0 l1 l3 hx;go_enter Try.func31,Try.ntmps31;by_cases hp:0<=task/\task < s.tasks.length
 ·obtain ⟨m,rfl⟩:=Int.eq_ofNat_of_zero_le hp.1
  have hm:m < s.tasks.length:=by omega
  have HP:=am (show (decide (0<=(m:Int)) && decide ((m:Int) < (s.tasks.length:Int)))=true by simp;omega);clear hp;go_wp2_with (first|((with_reducible refine gate_dst (N:=2) rfl ?_);refine box_event rfl (N:=2) rfl (t:=27) (by go_simp<;>rfl) ?_;intro g hg w2 hbox hb;have BK:=am hbox;have HB:=am hb;have GE:=am (show w.heap.size<=g by omega);clear hbox hb hg;have hc:=zc8 BK.out)|(go_at_call 51;refine (isPlace_calls _ _ _).mono ?_;rw [HP.out];rintro e w1 ⟨rfl,rfl⟩))
  go_loopw [5,6] (fun v i w'=>∃ k:Nat,m+1<=k/\k<=s.tasks.length/\i= .int .i64 k/\Aside0 ((Kd.int .i64).R 3 w' w.heap.size (fun _=>True) v (pickTo (isKid s.tasks m) k))/\Aside0 (w'.heap[g]? = some (.cells #[.slice A0 s.cells.length c0,.slice A1 s.tasks.length c1,.int .i64 s.clock,.slice A3 s.log.length c3] 27 (0,0)))/\Aside0 (Below w.heap.size w w')) (fun _ i _=>s.tasks.length - (intOf i).toNat)
  case atStart=>exact ⟨m+1,Nat.le_refl _,hm,by go_num,⟨by rw [pickTo_none (fun i hi=>by unfold isKid;have:¬ (m:Int) < (i:Int):=(by omega);simp [this])];exact Kd.R_nil _ _ _ _ _⟩,BK,HB⟩
  case round=>
   clear BK HB hc;obtain ⟨k,hmk,hk,rfl,HO,BK,HB⟩:=hrel;have hlen:=pickTo_length (isKid s.tasks m) k;by_cases hlt:k < s.tasks.length
   · skip
     have BKc:=zc8 BK.out;obtain ⟨b,o,cs,rfl,hcl,hK,hcc,hc0⟩:=C_field (Kd.C_below G.out HB.out) zTask k hlt (by decide);rw [show s.tasks.getD k zTask=taskAt s.tasks k from rfl] at hK;obtain ⟨B3,d3,B8,d8,B9,d9,B10,d10,rfl,_,_,_,_,_,_,_,_⟩:=kTask_open hK;have h_up:=hcc 2 _ rfl;simp only [show kTask.sz=13 from rfl] at h_up;clear hcc hc0 hK hcl;have q0:(0:Int)<=(k:Int):=by omega
     have q1:(k:Int) < (s.tasks.length:Int):=by omega
     by_cases hy:(taskAt s.tasks k).up=(m:Int)
     ·have y1:((taskAt s.tasks k).up == (m:Int))=true:=by simp [hy]
      have HY:=am (show isKid s.tasks m k=true by simp [isKid,hy];omega);clear hy;go_wp2_with (first|((with_reducible refine gate_builtin (b:=.append) (xs:=#[.tmp 30,.tmp 32]) rfl ?_);at_builtin;refine Kd.R_append (Kd.int .i64) (w0:=w) w.heap.size rfl (.tmp 30) (.tmp 32) 29 3 (.int .i64 0) 8 rfl Try.underlying29 info_int rfl (by decide) (by omega) _ (pickTo (isKid s.tasks m) k) (k:Int) [.int .i64 (k:Int)] (fun _=>True) (fun _=>False) rfl rfl rfl (fun _ hk=>hk.elim) (fun _ _=>trivial) HO.out HB.out (below_size HB.out) (by omega) ?_;intro v1 w1 ho hb hg _;have BK1:=am (blk_grown BK.out hg (Kd.R_ne HO.out BK.out (by decide)));have HO1:=am ho;have HB1:=am hb;clear ho hb hg HO HB BK))
      go_roundw
      case rel=>exact ⟨k+1,by omega,by omega,by go_num,⟨by rw [pickTo_yes HY.out];exact HO1.out⟩,BK1,HB1⟩
      case measure=>simp [intOf];omega
     ·have y1:((taskAt s.tasks k).up == (m:Int))=false:=by simp [hy]
      have HY:=am (show isKid s.tasks m k=false by simp [isKid,hy]);clear hy;go_wp2;go_roundw
      case rel=>exact ⟨k+1,by omega,by omega,by go_num,⟨by rw [pickTo_no HY.out];exact HO.out⟩,BK,HB⟩
      case measure=>simp [intOf];omega
   ·have BKc:=zc8 BK.out
    go_wp2;go_ret;obtain rfl:k=s.tasks.length:=by omega
    exact ⟨_,rfl,HO.out,HB.out⟩
 ·have HP:=am (show (decide (0<=task) && decide (task < (s.tasks.length:Int)))=false by simp;omega)
  have HN:=am (kids_out hp);clear hp;go_wp2_with (first|((with_reducible refine gate_dst (N:=2) rfl ?_);refine box_event rfl (N:=2) rfl (t:=27) (by go_simp<;>rfl) ?_;intro g hg w2 hbox hb;have BK:=am hbox;have HB:=am hb;have GE:=am (show w.heap.size<=g by omega);clear hbox hb hg;have hc:=zc8 BK.out)|(go_at_call 51;refine (isPlace_calls _ _ _).mono ?_;rw [HP.out];rintro e w1 ⟨rfl,rfl⟩))
  go_ret;exact ⟨_,rfl,by rw [HN.out];exact Kd.R_nil _ _ _ _ _,HB.out⟩
def upOk (ts:List Task) (i:Nat):Bool:= !(decide (0<=(taskAt ts i).up) && decide ((taskAt ts i).up < (ts.length:Int))) || decide ((taskAt ts (taskAt ts i).up.toNat).way=1)
def treeOk (ts:List Task):Bool:=decide (∀ i,i < ts.length->isLive (taskAt ts i)=true->upOk ts i=true)
theorem implOk_calls (s:Sys) (cs:List Value) (w:World) (hx:kSys.K w s cs) (hn:s.tasks.length<=1048576):
  Calls Try.prog 24 #[.agg cs.toArray] w fun e w'=>e= .returned (.bool (treeOk s.tasks))/\Below w.heap.size w w':=by
 obtain ⟨A0,c0,A1,c1,A3,c3,rfl,l0,g0,l1,g1,l3,g3⟩:=kSys_open hx;have G:=am g1;clear g0 g1 g3 l0 l1 l3 hx;go_enter Try.func24,Try.ntmps24;go_wp2_with ((with_reducible refine gate_dst (N:=1) rfl ?_);refine box_event rfl (N:=1) rfl (t:=27) (by go_simp<;>rfl) ?_;intro g hg w2 hbox hb;have BK:=am hbox;have HB:=am hb;have GE:=am (show w.heap.size<=g by omega);clear hbox hb hg;have hc:=zc8 BK.out)
 go_loopw [8] (fun i w'=>∃ k:Nat,k<=s.tasks.length/\i= .int .i64 k/\Aside0 (∀ j,j < k->isLive (taskAt s.tasks j)=true->upOk s.tasks j=true)/\Aside0 (w'.heap[g]? = some (.cells #[.slice A0 s.cells.length c0,.slice A1 s.tasks.length c1,.int .i64 s.clock,.slice A3 s.log.length c3] 27 (0,0)))/\Aside0 (Below w.heap.size w w')) (fun i _=>s.tasks.length - (intOf i).toNat)
 case atStart=>exact ⟨0,Nat.zero_le _,rfl,⟨fun j hj=>by omega⟩,BK,HB⟩
 case round=>
  clear BK HB hc;obtain ⟨k,hk,rfl,HJ,BK,HB⟩:=hrel;by_cases hlt:k < s.tasks.length
  · skip
    have BKc:=zc8 BK.out;obtain ⟨b,o,cs,rfl,hcl,hK,hcc,hc0⟩:=C_field (Kd.C_below G.out HB.out) zTask k hlt (by decide);rw [show s.tasks.getD k zTask=taskAt s.tasks k from rfl] at hK;have HK:=am hK;have HCC:=am hcc;have q0:(0:Int)<=(k:Int):=by omega
    have q1:(k:Int) < (s.tasks.length:Int):=by omega
    clear hK hcc hc0;obtain ⟨B3,d3,B8,d8,B9,d9,B10,d10,hcs,_,_,_,_,_,_,_,_⟩:=kTask_open HK.out;have e2:cs.toArray[2]? = some (.int .i64 (taskAt s.tasks k).up):=by rw [hcs];rfl
    clear hcs;have HE2:=am e2;clear e2;by_cases hy:isLive (taskAt s.tasks k)=true
    ·have HY:=am hy
     clear hy;by_cases hu:0<=(taskAt s.tasks k).up/\(taskAt s.tasks k).up < (s.tasks.length:Int)
     ·have HU:=am (show (decide (0<=(taskAt s.tasks k).up) && decide ((taskAt s.tasks k).up < (s.tasks.length:Int)))=true by simp;omega)
      obtain ⟨m,hm⟩:=Int.eq_ofNat_of_zero_le hu.1;have hml:m < s.tasks.length:=by omega
      obtain ⟨b',o',ds,he,hdl,hK2,hdd,_⟩:=C_field (Kd.C_below G.out HB.out) zTask m hml (by decide);cases he;rw [show s.tasks.getD m zTask=taskAt s.tasks m from rfl] at hK2;obtain ⟨B3,d3,B8,d8,B9,d9,B10,d10,rfl,_,_,_,_,_,_,_,_⟩:=kTask_open hK2;have h_way:=hdd 4 _ rfl;simp only [show kTask.sz=13 from rfl] at h_way;have HWAY:=am h_way;have HM:=am hm;rw [hm] at HE2 HU;have m0:(0:Int)<=(m:Int):=by omega
      have m1:(m:Int) < (s.tasks.length:Int):=by omega
      clear hu h_way hdd hK2 hdl hm;by_cases hw:(taskAt s.tasks m).way=1
      ·have y1:((taskAt s.tasks m).way != 1)=false:=by simp [hw]
       have HX:=am (show upOk s.tasks k=true by unfold upOk;rw [HM.out];simp [hw]);clear hw;go_wp2_with (first|((with_reducible refine gate_dst (N:=11) rfl ?_);refine wpList_load_mid rfl 38 (.tmp 10) rfl b (o+k*13) rfl cs _ HCC.out Try.underlying38 rfl (by rw [hcl];kernel_rfl) ?_)|((with_reducible refine gate_dst (N:=4) rfl ?_);refine box_event rfl (N:=4) rfl (cs:=zeroTask) (t:=38) (by go_simp<;>rfl) ?_;intro g5 hg w2 hbox hb;have BK5:=am hbox;have G5:=am (show wr.heap.size<=g5 by omega);have HW:=am hb;clear hbox hb hg)|((with_reducible refine gate_store (t:=38) (p:=4) rfl ?_);refine store_block rfl rfl 38 (.tmp 4) (.tmp 11) rfl rfl rfl BK5.out (by rw [hcl];rfl) (by rw [hcl];kernel_rfl) (kTask.K_one HK.out) ?_;intro w3 hbox hg;have BT:=am hbox;have HW3:=am (pw_below_grown HW.out _ HW.out.size hg (fun z hz=>by cases hz;exact G5.out));clear hbox hg BK5 HW)|((with_reducible refine gate_dst (N:=12) rfl ?_);refine load_block rfl 38 (.tmp 4) rfl _ rfl BT.out Try.underlying38 rfl (by rw [hcl];kernel_rfl) ?_)|(go_at_call 46;refine (live_calls _ _ _ (kTask.K_below HW3.out HK.out)).mono ?_;rw [HY.out];rintro e w4 ⟨rfl,hb⟩;have HW4:=am (below_step HW3.out hb);have BT4:=am (zb8 BT.out hb);have BK1:=am (zb8 BK.out HW4.out);have HB1:=am (below_step HB.out HW4.out);have u2:=(zc8 BT4.out 2).trans HE2.out;have w4c:=(HW4.out.cell (World.block_lt_of_cell? _ _ HWAY.out)).trans HWAY.out;clear hb BK HB BKc;have BKd:=zc8 BK1.out)|(go_at_call 51;refine (isPlace_calls _ _ _).mono ?_;rw [HU.out];rintro e w1 ⟨rfl,rfl⟩))
       go_roundw
       case rel=>exact ⟨k+1,by omega,by go_num,⟨fun j hj hl=>by rcases Nat.lt_or_ge j k with h | h;exact HJ.out j h hl;obtain rfl:j=k:=(by omega);exact HX.out⟩,BK1,HB1⟩
       case measure=>simp [intOf];omega
      ·have y1:((taskAt s.tasks m).way != 1)=true:=by simp [hw]
       have HX:=am (show upOk s.tasks k=false by unfold upOk;rw [HM.out];simp [hw];omega);clear hw;go_wp2_with (first|((with_reducible refine gate_dst (N:=11) rfl ?_);refine wpList_load_mid rfl 38 (.tmp 10) rfl b (o+k*13) rfl cs _ HCC.out Try.underlying38 rfl (by rw [hcl];kernel_rfl) ?_)|((with_reducible refine gate_dst (N:=4) rfl ?_);refine box_event rfl (N:=4) rfl (cs:=zeroTask) (t:=38) (by go_simp<;>rfl) ?_;intro g5 hg w2 hbox hb;have BK5:=am hbox;have G5:=am (show wr.heap.size<=g5 by omega);have HW:=am hb;clear hbox hb hg)|((with_reducible refine gate_store (t:=38) (p:=4) rfl ?_);refine store_block rfl rfl 38 (.tmp 4) (.tmp 11) rfl rfl rfl BK5.out (by rw [hcl];rfl) (by rw [hcl];kernel_rfl) (kTask.K_one HK.out) ?_;intro w3 hbox hg;have BT:=am hbox;have HW3:=am (pw_below_grown HW.out _ HW.out.size hg (fun z hz=>by cases hz;exact G5.out));clear hbox hg BK5 HW)|((with_reducible refine gate_dst (N:=12) rfl ?_);refine load_block rfl 38 (.tmp 4) rfl _ rfl BT.out Try.underlying38 rfl (by rw [hcl];kernel_rfl) ?_)|(go_at_call 46;refine (live_calls _ _ _ (kTask.K_below HW3.out HK.out)).mono ?_;rw [HY.out];rintro e w4 ⟨rfl,hb⟩;have HW4:=am (below_step HW3.out hb);have BT4:=am (zb8 BT.out hb);have BK1:=am (zb8 BK.out HW4.out);have HB1:=am (below_step HB.out HW4.out);have u2:=(zc8 BT4.out 2).trans HE2.out;have w4c:=(HW4.out.cell (World.block_lt_of_cell? _ _ HWAY.out)).trans HWAY.out;clear hb BK HB BKc;have BKd:=zc8 BK1.out)|(go_at_call 51;refine (isPlace_calls _ _ _).mono ?_;rw [HU.out];rintro e w1 ⟨rfl,rfl⟩))
       go_ret;exact ⟨ret_bool (decide_eq_false (fun h=>by have:=h k hlt HY.out;rw [HX.out] at this;cases this)).symm,HB1.out⟩
     ·have HU:=am (show (decide (0<=(taskAt s.tasks k).up) && decide ((taskAt s.tasks k).up < (s.tasks.length:Int)))=false by simp;omega)
      have HX:=am (show upOk s.tasks k=true by unfold upOk;rw [HU.out];rfl);clear hu;go_wp2_with (first|((with_reducible refine gate_dst (N:=11) rfl ?_);refine wpList_load_mid rfl 38 (.tmp 10) rfl b (o+k*13) rfl cs _ HCC.out Try.underlying38 rfl (by rw [hcl];kernel_rfl) ?_)|((with_reducible refine gate_dst (N:=4) rfl ?_);refine box_event rfl (N:=4) rfl (cs:=zeroTask) (t:=38) (by go_simp<;>rfl) ?_;intro g5 hg w2 hbox hb;have BK5:=am hbox;have G5:=am (show wr.heap.size<=g5 by omega);have HW:=am hb;clear hbox hb hg)|((with_reducible refine gate_store (t:=38) (p:=4) rfl ?_);refine store_block rfl rfl 38 (.tmp 4) (.tmp 11) rfl rfl rfl BK5.out (by rw [hcl];rfl) (by rw [hcl];kernel_rfl) (kTask.K_one HK.out) ?_;intro w3 hbox hg;have BT:=am hbox;have HW3:=am (pw_below_grown HW.out _ HW.out.size hg (fun z hz=>by cases hz;exact G5.out));clear hbox hg BK5 HW)|((with_reducible refine gate_dst (N:=12) rfl ?_);refine load_block rfl 38 (.tmp 4) rfl _ rfl BT.out Try.underlying38 rfl (by rw [hcl];kernel_rfl) ?_)|(go_at_call 46;refine (live_calls _ _ _ (kTask.K_below HW3.out HK.out)).mono ?_;rw [HY.out];rintro e w4 ⟨rfl,hb⟩;have HW4:=am (below_step HW3.out hb);have BT4:=am (zb8 BT.out hb);have BK1:=am (zb8 BK.out HW4.out);have HB1:=am (below_step HB.out HW4.out);have u2:=(zc8 BT4.out 2).trans HE2.out;clear hb BK HB BKc;have BKd:=zc8 BK1.out)|(go_at_call 51;refine (isPlace_calls _ _ _).mono ?_;rw [HU.out];rintro e w1 ⟨rfl,rfl⟩))
      go_roundw
      case rel=>exact ⟨k+1,by omega,by go_num,⟨fun j hj hl=>by rcases Nat.lt_or_ge j k with h | h;exact HJ.out j h hl;obtain rfl:j=k:=(by omega);exact HX.out⟩,BK1,HB1⟩
      case measure=>simp [intOf];omega
    ·have HY:=am (show isLive (taskAt s.tasks k)=false by simpa using hy)
     clear hy;go_wp2_with (first|((with_reducible refine gate_dst (N:=11) rfl ?_);refine wpList_load_mid rfl 38 (.tmp 10) rfl b (o+k*13) rfl cs _ HCC.out Try.underlying38 rfl (by rw [hcl];kernel_rfl) ?_)|((with_reducible refine gate_dst (N:=4) rfl ?_);refine box_event rfl (N:=4) rfl (cs:=zeroTask) (t:=38) (by go_simp<;>rfl) ?_;intro g5 hg w2 hbox hb;have BK5:=am hbox;have G5:=am (show wr.heap.size<=g5 by omega);have HW:=am hb;clear hbox hb hg)|((with_reducible refine gate_store (t:=38) (p:=4) rfl ?_);refine store_block rfl rfl 38 (.tmp 4) (.tmp 11) rfl rfl rfl BK5.out (by rw [hcl];rfl) (by rw [hcl];kernel_rfl) (kTask.K_one HK.out) ?_;intro w3 hbox hg;have BT:=am hbox;have HW3:=am (pw_below_grown HW.out _ HW.out.size hg (fun z hz=>by cases hz;exact G5.out));clear hbox hg BK5 HW)|((with_reducible refine gate_dst (N:=12) rfl ?_);refine load_block rfl 38 (.tmp 4) rfl _ rfl BT.out Try.underlying38 rfl (by rw [hcl];kernel_rfl) ?_)|(go_at_call 46;refine (live_calls _ _ _ (kTask.K_below HW3.out HK.out)).mono ?_;rw [HY.out];rintro e w4 ⟨rfl,hb⟩;have HW4:=am (below_step HW3.out hb);have BT4:=am (zb8 BT.out hb);have BK1:=am (zb8 BK.out HW4.out);have HB1:=am (below_step HB.out HW4.out);clear hb BK HB BKc))
     go_roundw
     case rel=>exact ⟨k+1,by omega,by go_num,⟨fun j hj hl=>by rcases Nat.lt_or_ge j k with h | h;exact HJ.out j h hl;obtain rfl:j=k:=(by omega);rw [HY.out] at hl;cases hl⟩,BK1,HB1⟩
     case measure=>simp [intOf];omega
  ·have BKc:=zc8 BK.out
   go_wp2;go_ret;exact ⟨ret_bool (decide_eq_true (fun i hi=>HJ.out i (by omega))).symm,HB.out⟩
end Go.Proofs.Ytimamoimphjakaa.Eq


namespace Go.Proofs.Ytimamoimphjakaa.Eq
open Go.RowKit Go.Proofs.YtimamoimphjakaaW.PrintWords Go.Proofs.YtimamoimphjakaaW.PrintLast Go.Proofs.YtimamoimphjakaaW.PrintMore
section
variable {P:Program} {ops:Array Oper} {Q:Exit->Go.Act->World->Prop} {md:Region.Mode} {S:World->Prop} {ds:List Nat}
def stillS (P:Program) (ops:Array Oper) (S:World->Prop):List Nat->(Go.Act->Prop)->Go.Act->Prop
 | [],K,a=>K a
 | i :: is,K,a=>∃ oi v,ops[i]? = some oi/\YieldsIf P ops S oi v a/\stillS P ops S is K (a.put oi.dst v)
theorem stillS_step {i:Nat} {is:List Nat} {K:Go.Act->Prop} {a:Go.Act} {v:Value} {N:Option Tmp} {op:Op} {ty:TypeId} {ps:String} {af:Array Edge} {gd:Option (Nat × Bool)} (hi:ops[i]? = some {dst:=N,op:=op,type:=ty,pos:=ps,after:=af,guard:=gd})
  (hy:YieldsIf P ops S {dst:=N,op:=op,type:=ty,pos:=ps,after:=af,guard:=gd} v a) {a':Go.Act} (ha:a.put N v=a') (h:stillS P ops S is K a'):stillS P ops S (i :: is) K a:=by
 subst ha;exact ⟨_,v,hi,hy,h⟩
theorem stillS_nil {K:Go.Act->Prop} {a:Go.Act} (h:K a):stillS P ops S [] K a:=h
def setAll (l:Array Bool):List Nat->Array Bool
 | []=>l
 | i :: is=>setAll (l.setIfInBounds i true) is
def batchB (md:Region.Mode) (ops:Array Oper) (ds:List Nat) (l:Array Bool):List Nat->Bool
 | []=>true
 | i :: is=>takeB md ops ds l (l.setIfInBounds i true) i && batchB md ops ds (l.setIfInBounds i true) is
theorem batch_go {w:World} (hQ:∀ N v c a w,Q (.panic c) (Go.Act.put a N v) w->Q (.panic c) a w) (hS:S w) {l':Array Bool} {fuel:Nat}:∀ (is:List Nat) (l:Array Bool) (a:Go.Act),batchB md ops ds l is=true->setAll l is=l'->
  stillS P ops S is (fun a'=>wpAnyLast P md ops Q S ds fuel l' a' w) a->wpAnyLast P md ops Q S ds (fuel+is.length) l a w
 | [],l,a,_,hl,h=>by
  subst hl
  exact h
 | i :: is,l,a,hB,hl,h=>by
  obtain ⟨oi,v,hi,hy,h⟩:=h;simp only [batchB,Bool.and_eq_true] at hB;exact take_ (l.setIfInBounds i true) hi rfl hB.1 (fun c a w=>hQ _ _ c a w) hy hS rfl (batch_go hQ hS is _ _ hB.2 hl h)
theorem batch_ {w:World} {fuel n:Nat} {l:Array Bool} {a:Go.Act} (is:List Nat) (l':Array Bool) (hc:(batchB md ops ds l is && (setAll l is == l') && (is.length == n))=true) (hQ:∀ N v c a w,Q (.panic c) (Go.Act.put a N v) w->Q (.panic c) a w) (hS:S w)
  (h:stillS P ops S is (fun a'=>wpAnyLast P md ops Q S ds fuel l' a' w) a):wpAnyLast P md ops Q S ds (fuel+n) l a w:=by
 simp only [Bool.and_eq_true,beq_iff_eq] at hc;obtain ⟨⟨h1,h2⟩,h3⟩:=hc;subst h3;exact batch_go hQ hS is l a h1 h2 h
theorem last_of_seq:∀ (l:List Oper) (k:Nat) (listed:Array Bool) (a:Go.Act) (w:World),(∀ j,l[j]? = ops[k+j]?)->(∀ j,j < l.length->k+j ∈ ds)->
  Region.seqB md ops l.length k listed=true->wpList P ops Q l a w->wpAnyLast P md ops Q S ds l.length listed a w
 | [],_,_,_,_,_,_,hB,h=>⟨by simpa [Region.seqB] using hB,h⟩
 | o :: l,k,listed,a,w,hl,hd,hB,h=>by
  have h0:ops[k]? = some o:=by simpa using (hl 0).symm
  simp only [List.length_cons,Region.seqB,Bool.and_eq_true,decide_eq_true_eq] at hB;refine ⟨fun h1=>(by rw [hB.1] at h1;cases h1),fun i hi=> ?_⟩;rw [hB.1] at hi;have hik:i=k:=by simpa using hi
  subst hik;have hw:wpOp P ops Q i (wpList P ops Q l) a w:=by unfold wpOp;simp only [h0];exact h
  exact wpOp_mono (fun a' w' h'=>⟨fun hn=>absurd (hd 0 (by simp)) hn,last_of_seq l (i+1) _ a' w' (fun j=>by have:=hl (j+1);simpa [Nat.add_assoc,Nat.add_comm 1 j] using this)
   (fun j hj=>by have:=hd (j+1) (by simp;omega);simpa [Nat.add_assoc,Nat.add_comm 1 j] using this) hB.2 h'⟩) hw
theorem tail_ {fuel:Nat} {l:List Oper} {listed:Array Bool} {a:Go.Act} {w:World} (n:Nat) (hc:(Region.seqB md l.toArray fuel n listed && (l.length - n == fuel) && (List.range fuel).all fun j=>ds.contains (n+j))=true)
  (h:wpList P l.toArray Q (l.drop n) a w):wpAnyLast P md l.toArray Q S ds fuel listed a w:=by
 simp only [Bool.and_eq_true,beq_iff_eq,List.all_eq_true,List.mem_range] at hc;obtain ⟨⟨h1,h2⟩,h3⟩:=hc;have hlen:(l.drop n).length=fuel:=by rw [List.length_drop];exact h2
 have:=last_of_seq (S:=S) (ds:=ds) (l.drop n) n listed a w (fun j=>by simp [List.getElem?_drop]) (fun j hj=>by have:=h3 j (by omega);simpa using this) (by rw [hlen];exact h1) h
 rwa [hlen] at this
end
section
variable {P:Program} {ops:Array Oper} {Q:Exit->Go.Act->World->Prop} {md:Region.Mode} {S:World->Prop} {ds:List Nat}
theorem ba9 {w:World} {fuel n:Nat} {l:Array Bool} {a:Go.Act} (is:List Nat) (hc:(batchB md ops ds l is && (is.length == n)) = true) (hQ:∀ N v c a w,Q (.panic c) (Go.Act.put a N v) w->Q (.panic c) a w) (hS:S w)
  (h:stillS P ops S is (fun a'=>wpAnyLast P md ops Q S ds fuel (setAll l is) a' w) a):wpAnyLast P md ops Q S ds (fuel+n) l a w:=batch_ is _ (by simpa [and_assoc] using hc) hQ hS h
end
def upd (D:Nat->Value) (x:Nat) (v:Value):Nat->Value:=fun q=>if q=x then v else D q
theorem upd_at (D:Nat->Value) (x:Nat) (v:Value):upd D x v x=v:=if_pos rfl
theorem upd_ne {D:Nat->Value} {x q:Nat} {v:Value} (h:q ≠ x):upd D x v q=D q:=if_neg h
section
variable {P:Program} {ops:Array Oper} {Q:Exit->Go.Act->World->Prop} {md:Region.Mode} {S:World->Prop} {ds:List Nat}
def permB (md:Region.Mode) (ops:Array Oper) (need:Nat->List Nat) (l':Array Bool):Nat->List Nat->Array Bool->Bool
 | 0,rem,l=>rem == [] && l == l'
 | n+1,rem,l=>Region.ready md ops l != [] && (Region.ready md ops l).all fun x=>rem.contains x && (need x).all (fun y=> !rem.contains y) && permB md ops need l' n (rem.erase x) (l.setIfInBounds x true)
theorem perm_ {l':Array Bool} {fuel:Nat} (need:Nat->List Nat) (A:(Nat->Value)->Go.Act) (I:List Nat->(Nat->Value)->World->Prop) (rem0:List Nat) (hI:∀ rem D w,I rem D w->S w)
  (hop:∀ x ∈ rem0,∃ oi,ops[x]? = some oi/\x ∉ ds/\(∀ D v,(A D).put oi.dst v=A (upd D x v))/\∀ rem D w (K:Go.Act->World->Prop),x ∈ rem->(∀ y ∈ need x,y ∉ rem)->I rem D w->(∀ v w',I (rem.erase x) (upd D x v) w'->K ((A D).put oi.dst v) w')->if Region.wanted oi (yielded ops (A D).tmps)=true then Oper.wp P oi (A D) w K Q else K ((A D).put oi.dst undef) w)
  (hend:∀ D w,I [] D w->wpAnyLast P md ops Q S ds fuel l' (A D) w):
  ∀ (n:Nat) (rem:List Nat) (l:Array Bool) (D:Nat->Value) (w:World),(∀ x ∈ rem,x ∈ rem0)->permB md ops need l' n rem l=true->I rem D w->wpAnyLast P md ops Q S ds (fuel+n) l (A D) w
 | 0,rem,l,D,w,_,hB,h=>by
  simp only [permB,Bool.and_eq_true,beq_iff_eq] at hB;rw [hB.2];rw [hB.1] at h
  exact hend D w h
 | n+1,rem,l,D,w,hs,hB,h=>by
  simp only [permB,Bool.and_eq_true,bne_iff_ne,List.all_eq_true,List.contains_iff_mem,Bool.not_eq_true'] at hB;obtain ⟨hne,hall⟩:=hB;refine wpAnyLast_ready rfl hne (fun i hi=> ?_);obtain ⟨⟨him,hnd⟩,hBi⟩:=hall i hi;obtain ⟨oi,ho,hd,hp,hw⟩:=hop i (hs i him);refine AllReadyL.cons ho hd (fun K' hK=> ?_) AllReadyL.nil i List.mem_cons_self;refine hw rem D w K' him (fun y hy hm=>by have h1:=hnd y hy;rw [List.contains_iff_mem.2 hm] at h1;cases h1) h (fun v w' h'=>hK.out _ _ (hI _ _ _ h') (fun _=> ?_));rw [hp];exact perm_ need A I rem0 hI hop hend n (rem.erase i) _ _ _ (fun x hx=>hs x (List.mem_of_mem_erase hx)) hBi h'
theorem allocs_ {l l':Array Bool} {fuel:Nat} {w0:World} (n:Nat) (A:(Nat->Value)->Go.Act) (rem0:List Nat) (Rq:Nat->World->Value->Prop)
  (hB:permB md ops (fun _=> []) l' n rem0 l=true) (hS:∀ W,Below w0.heap.size w0 W->S W) (hst:∀ q W W1 v,Rq q W v->Below W.heap.size W W1->Rq q W1 v)
  (hop:∀ x ∈ rem0,∃ oi,ops[x]? = some oi/\x ∉ ds/\(∀ D v,(A D).put oi.dst v=A (upd D x v))/\∀ D W (K:Go.Act->World->Prop),Below w0.heap.size w0 W->(∀ v W1,Below W.heap.size W W1->Rq x W1 v->(∃ b,v.ownBlock=some b/\W.heap.size<=b/\b < W1.heap.size)->K ((A D).put oi.dst v) W1)->if Region.wanted oi (yielded ops (A D).tmps)=true then Oper.wp P oi (A D) W K Q else K ((A D).put oi.dst undef) W)
  (hend:∀ D W,Below w0.heap.size w0 W->(∀ q ∈ rem0,Rq q W (D q)/\∃ b,(D q).ownBlock=some b/\w0.heap.size<=b/\b < W.heap.size)->(∀ q ∈ rem0,∀ q' ∈ rem0,q ≠ q'->(D q).ownBlock ≠ (D q').ownBlock)->wpAnyLast P md ops Q S ds fuel l' (A D) W) (D:Nat->Value):
  wpAnyLast P md ops Q S ds (fuel+n) l (A D) w0:=by
 refine perm_ (fun _=> []) A (fun rem D W=>Below w0.heap.size w0 W/\(∀ q ∈ rem0,q ∉ rem->Rq q W (D q)/\∃ b,(D q).ownBlock=some b/\w0.heap.size<=b/\b < W.heap.size)/\∀ q ∈ rem0,q ∉ rem->∀ q' ∈ rem0,q' ∉ rem->q ≠ q'->(D q).ownBlock ≠ (D q').ownBlock) rem0 (fun _ _ _ h=>hS _ h.1) (fun x hx=> ?_)
  (fun D W h=>hend D W h.1 (fun q hq=>h.2.1 q hq (by simp)) (fun q hq q' hq'=>h.2.2 q hq (by simp) q' hq' (by simp))) n rem0 l D w0 (fun _ h=>h) hB ⟨Below.refl _ _,fun q hq hn=>absurd hq hn,fun q hq hn=>absurd hq hn⟩
 obtain ⟨oi,h1,h2,h3,h4⟩:=hop x hx;refine ⟨oi,h1,h2,h3,fun rem D W K hxr _ h hK=>h4 D W K h.1 (fun v W1 hb hR hv=>hK v W1 ⟨below_step h.1 hb,fun q hq hqr=> ?_,fun q hq hqr q' hq' hqr' hne=> ?_⟩)⟩
 ·by_cases he:q=x
  ·subst he
   rw [upd_at];obtain ⟨b,hb1,hb2,hb3⟩:=hv;exact ⟨hR,b,hb1,Nat.le_trans h.1.size hb2,hb3⟩
  ·rw [upd_ne he]
   obtain ⟨h5,b,h6,h7,h8⟩:=h.2.1 q hq (fun hm=>hqr ((List.mem_erase_of_ne he).2 hm));exact ⟨hst _ _ _ _ h5 hb,b,h6,h7,Nat.lt_of_lt_of_le h8 hb.size⟩
 ·obtain ⟨b,hb1,hb2,hb3⟩:=hv
  by_cases he:q=x
  ·subst he
   rw [upd_at,upd_ne (Ne.symm hne),hb1];obtain ⟨h5,b',h6,h7,h8⟩:=h.2.1 q' hq' (fun hm=>hqr' ((List.mem_erase_of_ne (Ne.symm hne)).2 hm));rw [h6];intro hbb;injection hbb with hbb;omega
  ·have hm:q ∉ rem:=fun hm=>hqr ((List.mem_erase_of_ne he).2 hm)
   rw [upd_ne he];by_cases he':q'=x
   ·subst he'
    rw [upd_at,hb1];obtain ⟨h5,b',h6,h7,h8⟩:=h.2.1 q hq hm;rw [h6];intro hbb;injection hbb with hbb;omega
   ·rw [upd_ne he']
    exact h.2.2 q hq hm q' hq' (fun hm'=>hqr' ((List.mem_erase_of_ne he').2 hm')) hne
end
end Go.Proofs.Ytimamoimphjakaa.Eq
namespace Go.Proofs.Ytimamoimphjakaa.Eq
open Go.RowKit Go.Proofs.YtimamoimphjakaaW.PrintWords Go.Proofs.YtimamoimphjakaaW.PrintLast
structure Deed where
 kind:Int
 a:Int
 b:Int
 deriving DecidableEq
def zDeed:Deed:=⟨0,0,0⟩
def kDeed:Kd Deed:=Kd.iso (Kd.pair (Kd.int .i64) (Kd.pair (Kd.int .i64) (Kd.int .i64))) (fun x:Deed=>(x.kind,x.a,x.b))
theorem kDeed_open {w:World} {x:Deed} {cs:List Value} (h:kDeed.K w x cs):cs= [.int .i64 x.kind,.int .i64 x.a,.int .i64 x.b]:=by
 obtain ⟨_,_,rfl,rfl,⟨_,_,rfl,rfl,rfl⟩⟩:=h;exact rfl
theorem kDeed_mkM {w:World} {base:Nat} {ok:Nat->Prop} (x:Deed):kDeed.M w base ok x [.int .i64 x.kind,.int .i64 x.a,.int .i64 x.b]:=
 ⟨[.int .i64 x.kind], [.int .i64 x.a,.int .i64 x.b],rfl,rfl,⟨[.int .i64 x.a], [.int .i64 x.b],rfl,rfl,rfl⟩⟩
structure Act where
 kind:Int
 deeds:List Deed
 kids:List Int
 reg:Int
 deriving DecidableEq
def zAct:Act:=⟨0, [], [],0⟩
def kAct:Kd Act:=Kd.iso (Kd.pair (Kd.int .i64) (Kd.pair (Kd.slice 111 kDeed) (Kd.pair (Kd.slice 3 (Kd.int .i64)) (Kd.int .i64)))) (fun x:Act=>(x.kind,x.deeds,x.kids,x.reg))
theorem kAct_open {w:World} {x:Act} {cs:List Value} (h:kAct.K w x cs):∃ A_deeds c_deeds A_kids c_kids,cs= [.int .i64 x.kind,.slice A_deeds x.deeds.length c_deeds,.slice A_kids x.kids.length c_kids,.int .i64 x.reg]/\x.deeds.length<=c_deeds/\kDeed.C w A_deeds x.deeds.length x.deeds/\x.kids.length<=c_kids/\(Kd.int .i64).C w A_kids x.kids.length x.kids:=by
 obtain ⟨_,_,rfl,rfl,⟨_,_,rfl,⟨A_deeds,c_deeds,rfl,l_deeds,g_deeds⟩,⟨_,_,rfl,⟨A_kids,c_kids,rfl,l_kids,g_kids⟩,rfl⟩⟩⟩:=h;exact ⟨A_deeds,c_deeds,A_kids,c_kids,rfl,l_deeds,g_deeds,l_kids,g_kids⟩
theorem kAct_mk {w:World} (x:Act) {A_deeds:Option Addr} {c_deeds:Nat} (l_deeds:x.deeds.length<=c_deeds) (g_deeds:kDeed.C w A_deeds x.deeds.length x.deeds) {A_kids:Option Addr} {c_kids:Nat} (l_kids:x.kids.length<=c_kids) (g_kids:(Kd.int .i64).C w A_kids x.kids.length x.kids):kAct.K w x [.int .i64 x.kind,.slice A_deeds x.deeds.length c_deeds,.slice A_kids x.kids.length c_kids,.int .i64 x.reg]:=
 ⟨[.int .i64 x.kind], [.slice A_deeds x.deeds.length c_deeds,.slice A_kids x.kids.length c_kids,.int .i64 x.reg],rfl,rfl,⟨[.slice A_deeds x.deeds.length c_deeds], [.slice A_kids x.kids.length c_kids,.int .i64 x.reg],rfl,⟨_,_,rfl,l_deeds,g_deeds⟩,⟨[.slice A_kids x.kids.length c_kids], [.int .i64 x.reg],rfl,⟨_,_,rfl,l_kids,g_kids⟩,rfl⟩⟩⟩
theorem kAct_mkM {w:World} {base:Nat} {ok:Nat->Prop} (x:Act) {v_deeds:Value} (g_deeds:kDeed.R 111 w base ok v_deeds x.deeds) {v_kids:Value} (g_kids:(Kd.int .i64).R 3 w base ok v_kids x.kids):kAct.M w base ok x [.int .i64 x.kind,v_deeds,v_kids,.int .i64 x.reg]:=
 ⟨[.int .i64 x.kind], [v_deeds,v_kids,.int .i64 x.reg],rfl,rfl,⟨[v_deeds], [v_kids,.int .i64 x.reg],rfl,⟨_,rfl,g_deeds⟩,⟨[v_kids], [.int .i64 x.reg],rfl,⟨_,rfl,g_kids⟩,rfl⟩⟩⟩
structure Prog where
 cells:List Int
 bodies:List (List Act)
 deriving DecidableEq
def kProg:Kd Prog:=Kd.iso (Kd.pair (Kd.slice 3 (Kd.int .i64)) (Kd.slice 104 (Kd.slice 108 kAct))) (fun x:Prog=>(x.cells,x.bodies))
theorem kProg_open {w:World} {x:Prog} {cs:List Value} (h:kProg.K w x cs):∃ A_cells c_cells A_bodies c_bodies,cs= [.slice A_cells x.cells.length c_cells,.slice A_bodies x.bodies.length c_bodies]/\x.cells.length<=c_cells/\(Kd.int .i64).C w A_cells x.cells.length x.cells/\x.bodies.length<=c_bodies/\(Kd.slice 108 kAct).C w A_bodies x.bodies.length x.bodies:=by
 obtain ⟨_,_,rfl,⟨A_cells,c_cells,rfl,l_cells,g_cells⟩,⟨A_bodies,c_bodies,rfl,l_bodies,g_bodies⟩⟩:=h;exact ⟨A_cells,c_cells,A_bodies,c_bodies,rfl,l_cells,g_cells,l_bodies,g_bodies⟩
theorem kProg_mk {w:World} (x:Prog) {A_cells:Option Addr} {c_cells:Nat} (l_cells:x.cells.length<=c_cells) (g_cells:(Kd.int .i64).C w A_cells x.cells.length x.cells) {A_bodies:Option Addr} {c_bodies:Nat} (l_bodies:x.bodies.length<=c_bodies) (g_bodies:(Kd.slice 108 kAct).C w A_bodies x.bodies.length x.bodies):kProg.K w x [.slice A_cells x.cells.length c_cells,.slice A_bodies x.bodies.length c_bodies]:=
 ⟨[.slice A_cells x.cells.length c_cells], [.slice A_bodies x.bodies.length c_bodies],rfl,⟨_,_,rfl,l_cells,g_cells⟩,⟨_,_,rfl,l_bodies,g_bodies⟩⟩
end Go.Proofs.Ytimamoimphjakaa.Eq
namespace Go.Proofs.Ytimamoimphjakaa.Eq
def inB (n lo hi:Int):Bool:=decide (lo<=n) && decide (n<=hi)
theorem inB_iff {n lo hi:Int}:inB n lo hi=true ↔ lo<=n/\n<=hi:=by simp [inB]
def allB (n:Nat) (f:Nat->Bool):Bool:=decide (∀ i,i < n->f i=true)
theorem allB_iff {n:Nat} {f:Nat->Bool}:allB n f=true ↔ ∀ i,i < n->f i=true:=by simp [allB]
theorem allB_no {n i:Nat} {f:Nat->Bool} (hi:i < n) (h:f i=false):allB n f=false:=by
 rw [Bool.eq_false_iff];intro h';rw [allB_iff.1 h' i hi] at h;cases h
def cntTo (f:Nat->Bool):Nat->Nat
 | 0=>0
 | n+1=>cntTo f n+if f n then 1 else 0
theorem cntTo_le (f:Nat->Bool):∀ n,cntTo f n<=n
 | 0=>Nat.le_refl _
 | n+1=>by
  have:=cntTo_le f n
  unfold cntTo;split <;> omega
def putAt (xs:List Put) (i:Nat):Put:=xs.getD i zPut
def cellAt (xs:List Cell) (i:Nat):Cell:=xs.getD i zCell
def entryAt (xs:List Entry) (i:Nat):Entry:=xs.getD i zEntry
def actsAt (bs:List (List Act)) (i:Nat):List Act:=bs.getD i []
def actAt (xs:List Act) (i:Nat):Act:=xs.getD i zAct
def deedAt (xs:List Deed) (i:Nat):Deed:=xs.getD i zDeed
def numAt (xs:List Int) (i:Nat):Int:=xs.getD i 0
def deedOk (d:Deed) (cells:Int):Bool:=
 if d.kind=1 then inB d.a 0 2 && inB d.b 0 (cells - 1)
 else if d.kind=2 then inB d.a 0 (cells - 1) && inB d.b 0 2
 else if d.kind=3 then inB d.a 0 2 && inB d.b 0 99
 else if d.kind=4 then inB d.a 0 2 && inB d.b 0 2
 else if d.kind=5 then inB d.a 0 2 && decide (d.b=0)
 else false
def deedsOk (ds:List Deed) (cells:Int):Bool:=allB ds.length fun i=>deedOk (deedAt ds i) cells
def kidsOk (ks:List Int) (body bodies:Int):Bool:=allB ks.length (fun i=>inB (numAt ks i) (body+1) (bodies - 1)) && inB ks.length 1 2
def actOk (cells bodies body:Int) (a:Act):Bool:=
 if (a.kind ≠ 1/\a.deeds ≠ [])\/(a.kind ≠ 2/\a.kids ≠ [])\/(a.kind ≠ 4/\a.reg ≠ 0) then false
 else if a.kind=1 then deedsOk a.deeds cells && decide (a.deeds.length<=5)
 else if a.kind=2 then kidsOk a.kids body bodies
 else if a.kind=3 then true
 else if a.kind=4 then inB a.reg 0 2
 else false
def bodyOk (cells bodies body:Int) (acts:List Act):Bool:=decide (acts.length<=4) && allB acts.length fun k=>actOk cells bodies body (actAt acts k)
def formOk (p:Prog):Bool:=decide (p.cells.length<=3) && inB p.bodies.length 1 4 && allB p.cells.length (fun i=>inB (numAt p.cells i) 0 99) && allB p.bodies.length fun i=>bodyOk p.cells.length p.bodies.length i (actsAt p.bodies i)
def sumL {α:Type} (f:α->Nat):List α->Nat
 | []=>0
 | a :: l=>f a+sumL f l
def treeN (bs:List (List Act)):Nat->Int->Nat
 | 0,_=>1
 | n+1,b=>1+sumL (fun a:Act=>sumL (treeN bs n) a.kids) (actsAt bs b.toNat)
def treeOf (p:Prog) (b:Int):Nat:=treeN p.bodies 4 b
def progOk (p:Prog):Bool:=formOk p && decide (treeOf p 0<=7)
def listOk (xs:List Put) (cells:Int):Bool:=allB xs.length fun i=>inB (putAt xs i).cell 0 (cells - 1) && inB (putAt xs i).num 0 99 && (decide (i=0) || decide ((putAt xs (i - 1)).cell < (putAt xs i).cell))
def numsOk (xs:List Int) (size:Int):Bool:=allB xs.length (fun i=>inB (numAt xs i) 0 99) && decide ((xs.length:Int)=size)
def findP (xs:List Put) (cell:Int):Option Nat:=xs.findIdx? fun x=>decide (x.cell=cell)
def kidsN (ts:List Task) (task way:Int):Nat:=cntTo (fun k=>decide ((taskAt ts k).up=task) && decide ((taskAt ts k).way=way)) ts.length
def stOk (t:Task) (deeds:Int):Bool:=
 if t.stage=0 then decide (t.at_=0) && decide (t.reads.length+t.puts.length=0)
 else if t.stage=1 then inB t.at_ 0 deeds
 else if t.stage=3 then decide (t.at_=0) && decide (0 < t.puts.length)
 else if t.stage=4 then inB t.at_ 0 t.reads.length && decide (0 < t.puts.length)
 else inB t.at_ 0 (t.puts.length - 1)
def timesOk (t:Task) (s:Sys):Bool:=
 inB t.since 0 s.clock && inB t.from_ 0 s.log.length &&
  (if t.stage=0 then inB t.when_ 0 (s.clock+1) else if t.stage=4\/t.stage=5 then inB t.when_ (t.since+1) s.clock else decide (t.when_=0))
def wayOk (p:Prog) (s:Sys) (i:Nat):Bool:=
 let t:=taskAt s.tasks i
 let acts:=actsAt p.bodies t.body.toNat
 if t.way=0 then decide (t.stage=0) || (decide (t.pc < acts.length) && decide ((actAt acts t.pc.toNat).kind=1) && stOk t (actAt acts t.pc.toNat).deeds.length)
 else if t.way=1 then decide (t.pc < acts.length) && decide ((actAt acts t.pc.toNat).kind=2) && decide ((actAt acts t.pc.toNat).kids.length<=kidsN s.tasks i 0+kidsN s.tasks i 1+kidsN s.tasks i 2+kidsN s.tasks i 3)
 else if t.way=2 then decide (t.pc=acts.length)
 else true
def upsOk (s:Sys) (i:Nat):Bool:=
 let t:=taskAt s.tasks i
 if i=0 then decide (t.up= -1)
 else inB t.up 0 (i - 1) && (!isLive t || decide ((taskAt s.tasks t.up.toNat).way=1))
def taskOk (p:Prog) (s:Sys) (i:Nat):Bool:=
 let t:=taskAt s.tasks i
 inB t.body 0 (p.bodies.length - 1) && inB t.pc 0 (actsAt p.bodies t.body.toNat).length && inB t.way 0 4 && inB t.stage 0 5 &&
  (decide (t.way=0) || decide (t.stage=0)) && numsOk t.regs 3 && numsOk t.old 3 && listOk t.reads s.cells.length && listOk t.puts s.cells.length &&
  (!decide (t.stage=0) || (decide (t.at_=0) && decide (t.reads.length+t.puts.length=0))) && timesOk t s && upsOk s i && wayOk p s i
def holds (t:Task) (cell:Int):Bool:=
 match findP t.puts cell with
 | none=>false
 | some i=>if t.stage=2 then decide ((i:Int) < t.at_) else if t.stage=3\/t.stage=4 then true else if t.stage=5 then decide (t.at_<=i) else false
def cellsOk (s:Sys):Bool:=allB s.cells.length fun i=>
 let c:=cellAt s.cells i
 inB c.num 0 99 && inB c.time 0 s.clock && inB c.lock (-1) (s.tasks.length - 1) && allB s.tasks.length fun k=>decide (holds (taskAt s.tasks k) i=decide (c.lock=k))
def logOk (p:Prog) (s:Sys):Bool:=allB s.log.length fun i=>
 let e:=entryAt s.log i
 inB e.task 0 (s.tasks.length - 1) && inB e.when_ 0 s.clock && inB e.from_ 0 i && listOk e.reads s.cells.length && listOk e.puts s.cells.length &&
  inB e.act 0 ((actsAt p.bodies (taskAt s.tasks e.task.toNat).body.toNat).length - 1)
def sysOk (p:Prog) (s:Sys):Bool:=
 progOk p && decide (s.cells.length=p.cells.length) && inB s.tasks.length 1 7 && inB s.clock 0 200 && allB s.tasks.length (taskOk p s) && cellsOk s && logOk p s
def newTask (body up:Int):Task:=⟨body,0,up, [0,0,0],0,0,0,0, [0,0,0], [], [],0,0⟩
def sysNew (p:Prog):Sys:=⟨p.cells.map fun n=>⟨n,0,-1⟩, [newTask 0 (-1)],0, []⟩
def setTask (s:Sys) (i:Nat) (t:Task):Sys:={s with tasks:=s.tasks.set i t}
def setCell (s:Sys) (i:Nat) (c:Cell):Sys:={s with cells:=s.cells.set i c}
def tk (s:Sys) (i:Nat):Task:=taskAt s.tasks i
def addAux (x:Put):Bool->List Put->List Put
 | fin, []=>if fin then [] else [x]
 | fin,y :: l=>(if fin=false/\x.cell<=y.cell then [x] else []) ++ (if y.cell=x.cell then [] else [y]) ++ addAux x (fin || decide (x.cell<=y.cell)) l
def addPut (l:List Put) (x:Put):List Put:=addAux x false l
def free (s:Sys) (i:Nat):Sys:={s with cells:=s.cells.map fun c=>if c.lock=(i:Int) then {c with lock:= -1} else c}
def toStage (s:Sys) (i:Nat) (st:Int):Sys:=setTask s i {tk s i with stage:=st,at_:=0}
def again (s:Sys) (i:Nat):Sys:=
 let s1:=free s i
 setTask s1 i {tk s1 i with regs:=(tk s1 i).old,reads:= [],puts:= [],when_:=0,stage:=0,at_:=0}
def done (s:Sys) (i:Nat) (when_:Int):Sys:=
 let t:=tk s i
 {setTask s i {t with pc:=t.pc+1,reads:= [],puts:= [],since:=0,when_:=0,from_:=0,stage:=0,at_:=0} with
  log:=s.log ++ [⟨i,t.pc,when_,t.reads,t.puts,t.from_⟩]}
def blind (s:Sys) (i:Nat) (cell:Int):Bool:=
 let c:=cellAt s.cells cell.toNat
 (decide (0<=c.lock) && !decide (c.lock=i)) || decide ((tk s i).since < c.time)
def begin_ (s:Sys) (i:Nat):Sys:=
 let t:=tk s i
 setTask s i {t with since:=s.clock,old:=t.regs,from_:=s.log.length,when_:=0,stage:=1,at_:=0}
def load (s:Sys) (i:Nat) (d:Deed):Sys:=
 let t:=tk s i
 match findP t.puts d.b with
 | some k=>setTask s i {t with regs:=t.regs.set d.a.toNat (putAt t.puts k).num,at_:=t.at_+1}
 | none=>
  if blind s i d.b then again s i
  else setTask s i {t with regs:=t.regs.set d.a.toNat (cellAt s.cells d.b.toNat).num,reads:=addPut t.reads ⟨d.b,(cellAt s.cells d.b.toNat).num⟩,at_:=t.at_+1}
def regDo (regs:List Int) (d:Deed):List Int:=
 if d.kind=3 then regs.set d.a.toNat d.b
 else if d.kind=4 then regs.set d.a.toNat ((numAt regs d.a.toNat+numAt regs d.b.toNat) % 100)
 else regs
def deed (s:Sys) (i:Nat) (ds:List Deed):Sys:=
 let t:=tk s i
 if (ds.length:Int)<=t.at_ then
  if t.puts= [] then done s i t.since else toStage s i 2
 else
  let d:=deedAt ds t.at_.toNat
  if d.kind=1 then load s i d
  else if d.kind=2 then setTask s i {t with puts:=addPut t.puts ⟨d.a,numAt t.regs d.b.toNat⟩,at_:=t.at_+1}
  else if d.kind=5/\numAt t.regs d.a.toNat=0 then
   let s1:=again s i
   setTask s1 i {tk s1 i with when_:=t.since+1}
  else setTask s i {t with regs:=regDo t.regs d,at_:=t.at_+1}
def lock (s:Sys) (i:Nat):Sys:=
 let t:=tk s i
 let c:=(putAt t.puts t.at_.toNat).cell.toNat
 if 0<=(cellAt s.cells c).lock then again s i
 else
  let s1:=setCell s c {cellAt s.cells c with lock:=i}
  setTask s1 i (if t.at_+1=t.puts.length then {t with stage:=3,at_:=0} else {t with at_:=t.at_+1})
def time (s:Sys) (i:Nat):Sys:=
 let t:=tk s i
 {setTask s i {t with when_:=s.clock+1,stage:=4,at_:=0} with clock:=s.clock+1}
def check (s:Sys) (i:Nat):Sys:=
 let t:=tk s i
 if (t.reads.length:Int)<=t.at_ then toStage s i 5
 else if blind s i (putAt t.reads t.at_.toNat).cell then again s i
 else setTask s i {t with at_:=t.at_+1}
def write (s:Sys) (i:Nat):Sys:=
 let t:=tk s i
 let x:=putAt t.puts t.at_.toNat
 let s1:=setTask (setCell s x.cell.toNat ⟨x.num,t.when_,-1⟩) i {t with at_:=t.at_+1}
 if t.at_+1=t.puts.length then done s1 i t.when_ else s1
def try_ (s:Sys) (i:Nat) (ds:List Deed):Sys:=
 if (tk s i).stage=0 then begin_ s i
 else if (tk s i).stage=1 then deed s i ds
 else if (tk s i).stage=2 then lock s i
 else if (tk s i).stage=3 then time s i
 else if (tk s i).stage=4 then check s i
 else write s i
def writes (i:Nat):Nat->Sys->Sys
 | 0,s=>s
 | n+1,s=>if (tk s i).stage=5 then writes i n (write s i) else s
def setWay (s:Sys) (i:Nat) (w:Int):Sys:=setTask s i {tk s i with way:=w}
def offOne (s:Sys) (i:Nat):Sys:=
 if isLive (tk s i) then
  let s1:=writes i ((tk s i).puts.length+1) s
  setWay (if (tk s1 i).stage=0 then s1 else again s1 i) i 4
 else s
def offN:Nat->Sys->Nat->Sys
 | 0,s,_=>s
 | n+1,s,i=>offOne ((List.range s.tasks.length).foldl (fun s k=>if (tk s k).up=i then offN n s k else s) s) i
def off (s:Sys) (i:Nat):Sys:=offN (s.tasks.length - i) s i
def offs (s:Sys) (i:Nat):Sys:=(List.range s.tasks.length).foldl (fun s k=>if (tk s k).up=i then off s k else s) s
def fork (s:Sys) (i:Nat) (ks:List Int):Sys:=setWay {s with tasks:=s.tasks ++ ks.map fun b=>newTask b i} i 1
def awaits (s:Sys) (i:Nat):Sys:=
 if kidsN s.tasks i 3=0 then setTask s i {tk s i with way:=0,pc:=(tk s i).pc+1}
 else setWay (offs s i) i 3
def ready (s:Sys) (i:Nat):Bool:=
 let t:=tk s i
 if 200<=s.clock then false
 else if t.way=0 then !decide (t.stage=0) || decide (t.when_<=s.clock)
 else if t.way=1 then decide (0 < kidsN s.tasks i 3) || decide (kidsN s.tasks i 0+kidsN s.tasks i 1=0)
 else false
def step (p:Prog) (s:Sys) (i:Nat):Sys:=
 let t:=tk s i
 let acts:=actsAt p.bodies t.body.toNat
 let a:=actAt acts t.pc.toNat
 if t.way=1 then awaits s i
 else if (acts.length:Int)<=t.pc then setWay s i 2
 else if a.kind=1 then try_ s i a.deeds
 else if a.kind=2 then fork s i a.kids
 else if a.kind=3\/numAt t.regs a.reg.toNat ≠ 0 then setWay s i 3
 else setTask s i {t with pc:=t.pc+1}
def canDo (s:Sys) (k:Int):Bool:=inB k 0 (s.tasks.length - 1) && ready s k.toNat
def turn (p:Prog) (s:Sys) (k:Int):Sys:=if canDo s k then step p s k.toNat else s
def turns (p:Prog) (s:Sys) (ks:List Int):Sys:=ks.foldl (turn p) s
theorem set_len (s:Sys) (i:Nat) (t:Task):(setTask s i t).tasks.length=s.tasks.length:=by simp [setTask]
theorem tk_set {s:Sys} {i:Nat} {t:Task} (h:i < s.tasks.length):tk (setTask s i t) i=t:=by simp [tk,setTask,taskAt,h]
theorem tk_other {s:Sys} {i k:Nat} {t:Task} (h:k ≠ i):tk (setTask s i t) k=tk s k:=by simp [tk,setTask,taskAt,List.getD_eq_getElem?_getD,List.getElem?_set,Ne.symm h]
theorem set_set (s:Sys) (i:Nat) (t u:Task):setTask (setTask s i t) i u=setTask s i u:=by simp [setTask,List.set_set]
theorem set_same {s:Sys} {i:Nat} (h:i < s.tasks.length):setTask s i (tk s i)=s:=by
 have:s.tasks.set i (tk s i)=s.tasks:=by
  apply List.ext_getElem?;intro k;rw [List.getElem?_set];by_cases hk:i=k
  ·subst hk
   simp [h,tk,taskAt]
  ·simp [hk]
 unfold setTask;rw [this]
end Go.Proofs.Ytimamoimphjakaa.Eq
namespace Go.Proofs.Ytimamoimphjakaa.Eq
open Go.RowKit Go.Proofs.YtimamoimphjakaaW.PrintWords Go.Proofs.YtimamoimphjakaaW.PrintLast Go.Proofs.YtimamoimphjakaaW.PrintMore
def tagS {α:Type} (own:Nat->Nat) (e:Nat) (d:Kd α):Kd (List α × Nat) where
 sz:=1
 E:=e :: d.E
 K:=fun w x cs=>(Kd.slice e d).K w x.1 cs
 M:=fun w base ok x cs=>(Kd.slice e d).M w base (fun k=>ok k/\own k=x.2) x.1 cs
 K_len:=(Kd.slice e d).K_len
 K_one:=(Kd.slice e d).K_one
 K_below:=(Kd.slice e d).K_below
 K_of_M:=(Kd.slice e d).K_of_M
 M_mono:=fun h hm=>(Kd.slice e d).M_mono (fun k hk=>⟨h k hk.1,hk.2⟩) hm
 M_bound:=fun hm=>(Kd.slice e d).M_mono (fun k hk=>⟨⟨hk.1.1,hk.2.1,hk.2.2.1,hk.2.2.2⟩,hk.1.2⟩) ((Kd.slice e d).M_bound hm)
 M_move:=fun h hm=>(Kd.slice e d).M_move (fun k hk=>h k hk.1) hm
 M_lower:=(Kd.slice e d).M_lower
def kTaskO (own:Nat->Nat):Kd (Task × Nat):=Kd.iso (Kd.pair (Kd.int .i64) (Kd.pair (Kd.int .i64) (Kd.pair (Kd.int .i64) (Kd.pair (tagS own 3 (Kd.int .i64)) (Kd.pair (Kd.int .i64) (Kd.pair (Kd.int .i64) (Kd.pair (Kd.int .i64) (Kd.pair (Kd.int .i64) (Kd.pair (tagS own 3 (Kd.int .i64)) (Kd.pair (tagS own 103 kPut) (Kd.pair (tagS own 103 kPut) (Kd.pair (Kd.int .i64) (Kd.int .i64)))))))))))))
 (fun y:Task × Nat=>(y.1.body,y.1.pc,y.1.up,(y.1.regs,8+8*y.2),y.1.way,y.1.stage,y.1.at_,y.1.since,(y.1.old,9+8*y.2),(y.1.reads,10+8*y.2),(y.1.puts,11+8*y.2),y.1.when_,y.1.from_))
theorem kTaskO_sz (own:Nat->Nat):(kTaskO own).sz=13:=rfl
theorem kTaskO_open {own:Nat->Nat} {w:World} {base:Nat} {ok:Nat->Prop} {y:Task × Nat} {cs:List Value} (h:(kTaskO own).M w base ok y cs):∃ v_regs v_old v_reads v_puts,
  cs= [.int .i64 y.1.body,.int .i64 y.1.pc,.int .i64 y.1.up,v_regs,.int .i64 y.1.way,.int .i64 y.1.stage,.int .i64 y.1.at_,.int .i64 y.1.since,v_old,v_reads,v_puts,.int .i64 y.1.when_,.int .i64 y.1.from_]/\
  (Kd.int .i64).R 3 w base (fun k=>ok k/\own k=8+8*y.2) v_regs y.1.regs/\(Kd.int .i64).R 3 w base (fun k=>ok k/\own k=9+8*y.2) v_old y.1.old/\
  kPut.R 103 w base (fun k=>ok k/\own k=10+8*y.2) v_reads y.1.reads/\kPut.R 103 w base (fun k=>ok k/\own k=11+8*y.2) v_puts y.1.puts:=by
 obtain ⟨_,_,rfl,rfl,⟨_,_,rfl,rfl,⟨_,_,rfl,rfl,⟨_,_,rfl,⟨v_regs,rfl,g_regs⟩,⟨_,_,rfl,rfl,⟨_,_,rfl,rfl,⟨_,_,rfl,rfl,⟨_,_,rfl,rfl,⟨_,_,rfl,⟨v_old,rfl,g_old⟩,⟨_,_,rfl,⟨v_reads,rfl,g_reads⟩,⟨_,_,rfl,⟨v_puts,rfl,g_puts⟩,⟨_,_,rfl,rfl,rfl⟩⟩⟩⟩⟩⟩⟩⟩⟩⟩⟩⟩:=h;exact ⟨v_regs,v_old,v_reads,v_puts,rfl,g_regs,g_old,g_reads,g_puts⟩
theorem kTaskO_mk {own:Nat->Nat} {w:World} {base:Nat} {ok:Nat->Prop} (x:Task) (i:Nat) {v_regs v_old v_reads v_puts:Value}
  (g_regs:(Kd.int .i64).R 3 w base (fun k=>ok k/\own k=8+8*i) v_regs x.regs) (g_old:(Kd.int .i64).R 3 w base (fun k=>ok k/\own k=9+8*i) v_old x.old)
  (g_reads:kPut.R 103 w base (fun k=>ok k/\own k=10+8*i) v_reads x.reads) (g_puts:kPut.R 103 w base (fun k=>ok k/\own k=11+8*i) v_puts x.puts):
  (kTaskO own).M w base ok (x,i) [.int .i64 x.body,.int .i64 x.pc,.int .i64 x.up,v_regs,.int .i64 x.way,.int .i64 x.stage,.int .i64 x.at_,.int .i64 x.since,v_old,v_reads,v_puts,.int .i64 x.when_,.int .i64 x.from_]:=
 ⟨[.int .i64 x.body], [.int .i64 x.pc,.int .i64 x.up,v_regs,.int .i64 x.way,.int .i64 x.stage,.int .i64 x.at_,.int .i64 x.since,v_old,v_reads,v_puts,.int .i64 x.when_,.int .i64 x.from_],rfl,rfl,⟨[.int .i64 x.pc], [.int .i64 x.up,v_regs,.int .i64 x.way,.int .i64 x.stage,.int .i64 x.at_,.int .i64 x.since,v_old,v_reads,v_puts,.int .i64 x.when_,.int .i64 x.from_],rfl,rfl,⟨[.int .i64 x.up], [v_regs,.int .i64 x.way,.int .i64 x.stage,.int .i64 x.at_,.int .i64 x.since,v_old,v_reads,v_puts,.int .i64 x.when_,.int .i64 x.from_],rfl,rfl,⟨[v_regs], [.int .i64 x.way,.int .i64 x.stage,.int .i64 x.at_,.int .i64 x.since,v_old,v_reads,v_puts,.int .i64 x.when_,.int .i64 x.from_],rfl,⟨_,rfl,g_regs⟩,⟨[.int .i64 x.way], [.int .i64 x.stage,.int .i64 x.at_,.int .i64 x.since,v_old,v_reads,v_puts,.int .i64 x.when_,.int .i64 x.from_],rfl,rfl,⟨[.int .i64 x.stage], [.int .i64 x.at_,.int .i64 x.since,v_old,v_reads,v_puts,.int .i64 x.when_,.int .i64 x.from_],rfl,rfl,⟨[.int .i64 x.at_], [.int .i64 x.since,v_old,v_reads,v_puts,.int .i64 x.when_,.int .i64 x.from_],rfl,rfl,⟨[.int .i64 x.since], [v_old,v_reads,v_puts,.int .i64 x.when_,.int .i64 x.from_],rfl,rfl,⟨[v_old], [v_reads,v_puts,.int .i64 x.when_,.int .i64 x.from_],rfl,⟨_,rfl,g_old⟩,⟨[v_reads], [v_puts,.int .i64 x.when_,.int .i64 x.from_],rfl,⟨_,rfl,g_reads⟩,⟨[v_puts], [.int .i64 x.when_,.int .i64 x.from_],rfl,⟨_,rfl,g_puts⟩,⟨[.int .i64 x.when_], [.int .i64 x.from_],rfl,rfl,rfl⟩⟩⟩⟩⟩⟩⟩⟩⟩⟩⟩⟩
theorem kTaskO_own {own own':Nat->Nat} {w:World} {base:Nat} {ok:Nat->Prop} {y:Task × Nat} {cs:List Value} (ho:∀ k,k < w.heap.size->ok k->own' k=own k) (h:(kTaskO own).M w base ok y cs):(kTaskO own').M w base ok y cs:=by
 obtain ⟨x,i⟩:=y;obtain ⟨v3,v8,v9,v10,rfl,h3,h8,h9,h10⟩:=kTaskO_open h
 exact kTaskO_mk x i (Kd.R_mono (Kd.R_bound h3) fun k hk=>⟨hk.1.1,(ho k hk.2.2.1 hk.1.1).trans hk.1.2⟩) (Kd.R_mono (Kd.R_bound h8) fun k hk=>⟨hk.1.1,(ho k hk.2.2.1 hk.1.1).trans hk.1.2⟩)
  (Kd.R_mono (Kd.R_bound h9) fun k hk=>⟨hk.1.1,(ho k hk.2.2.1 hk.1.1).trans hk.1.2⟩) (Kd.R_mono (Kd.R_bound h10) fun k hk=>⟨hk.1.1,(ho k hk.2.2.1 hk.1.1).trans hk.1.2⟩)
theorem zip_set (ts:List Task) (i:Nat) (t:Task):(ts.set i t).zipIdx=ts.zipIdx.set i (t,i):=by
 apply List.ext_getElem?;intro k;rw [List.getElem?_zipIdx,List.getElem?_set,List.getElem?_set];by_cases h:i=k
 ·subst h
  by_cases hl:i < ts.length
  ·simp [hl]
  ·simp [hl]
 ·simp [h,List.getElem?_zipIdx]
theorem zip_get {ts:List Task} {i:Nat} (h:i < ts.length) (z:Task × Nat):ts.zipIdx.getD i z=(taskAt ts i,i):=by
 rw [List.getD_eq_getElem?_getD,List.getElem?_zipIdx];simp [taskAt,h]
theorem zip_at {ts:List Task} {i:Nat} {y:Task × Nat} (h:ts.zipIdx[i]? = some y):y=(taskAt ts i,i):=by
 rw [List.getElem?_zipIdx] at h
 cases hi:ts[i]? with
 | none=>simp [hi] at h
 | some t=>
  rw [hi] at h;simp at h;rw [<-h];simp [taskAt,List.getD_eq_getElem?_getD,hi]
structure Fr (B:Nat) (own own':Nat->Nat) (W W':World):Prop where
 os:W'.os=W.os
 tape:W'.tape=W.tape
 output:W'.output=W.output
 size:W.heap.size<=W'.heap.size
 keep:∀ k,k < B->own k=0->own' k=0
 block:∀ k,k < B->own k=0->W'.heap[k]? = W.heap[k]?
theorem Fr.refl (B:Nat) (own:Nat->Nat) (W:World):Fr B own own W W:=⟨rfl,rfl,rfl,Nat.le_refl _,fun _ _ h=>h,fun _ _ _=>rfl⟩
theorem Fr.trans {B:Nat} {o o1 o2:Nat->Nat} {W W1 W2:World} (h:Fr B o o1 W W1) (k:Fr B o1 o2 W1 W2):Fr B o o2 W W2:=
 ⟨k.os.trans h.os,k.tape.trans h.tape,k.output.trans h.output,Nat.le_trans h.size k.size,fun b hb ho=>k.keep b hb (h.keep b hb ho),
  fun b hb ho=>(k.block b hb (h.keep b hb ho)).trans (h.block b hb ho)⟩
theorem Fr.less {B B':Nat} {o o1:Nat->Nat} {W W1:World} (h:Fr B o o1 W W1) (hb:B'<=B):Fr B' o o1 W W1:=⟨h.os,h.tape,h.output,h.size,fun k hk=>h.keep k (by omega),fun k hk=>h.block k (by omega)⟩
theorem Fr.below {B:Nat} {own:Nat->Nat} {W W1:World} (h:Below B W W1):Fr B own own W W1:=⟨h.os,h.tape,h.output,h.size,fun _ _ h=>h,fun k hk _=>h.block k hk⟩
theorem Fr.tagged {B:Nat} {own own':Nat->Nat} (W:World) (h:∀ k,k < B->own k=0->own' k=0):Fr B own own' W W:=⟨rfl,rfl,rfl,Nat.le_refl _,h,fun _ _ _=>rfl⟩
theorem Fr.set {B:Nat} {own:Nat->Nat} {W:World} {b:Nat} (h:B<=b\/own b ≠ 0) (o:Nat) (u:Value):Fr B own own W (W.setCell ⟨b,o,none⟩ u):=
 ⟨rfl,rfl,rfl,by simp [World.setCell],fun _ _ h=>h,fun k hl hk=>Below.heap_setCell W ⟨b,o,none⟩ u k (fun he=>by
  have:k=b:=he
  subst this;rcases h with h | h
  ·omega
  ·exact h hk)⟩
structure St (T:Nat) (w0:World) (g:Nat) (own:Nat->Nat) (vp vb:Value) (p:Prog) (s:Sys) (vc vt vl:Value) (W:World):Prop where
 below:Below w0.heap.size w0 W
 old0:∀ k,k < w0.heap.size->own k=0
 new0:∀ k,W.heap.size<=k->own k=0
 prog:kProg.K w0 p [vp,vb]
 gown:own g=1
 blk:W.heap[g]? = some (.cells #[vp,vb,vc,vt,.int .i64 s.clock,vl] T (0,0))
 cells:kCell.R 53 W w0.heap.size (fun k=>own k=2) vc s.cells
 tasks:(kTaskO own).R 38 W w0.heap.size (fun k=>own k=3\/8<=own k) vt s.tasks.zipIdx
 town:∀ k,vt.ownBlock=some k->own k=3
 log:kEntry.R 119 W w0.heap.size (fun k=>own k=4) vl s.log
section
variable {T:Nat} {w0:World} {g:Nat} {own:Nat->Nat} {vp vb:Value} {p:Prog} {s:Sys} {vc vt vl:Value} {W W1:World}
theorem St.move (h:St T w0 g own vp vb p s vc vt vl W) (hb:Below w0.heap.size w0 W1) (hs:W.heap.size<=W1.heap.size) (hm:∀ k,own k ≠ 0->k < W.heap.size->W1.heap[k]? = W.heap[k]?):St T w0 g own vp vb p s vc vt vl W1 where
 below:=hb
 old0:=h.old0
 new0:=fun k hk=>h.new0 k (Nat.le_trans hs hk)
 prog:=h.prog
 gown:=h.gown
 blk:=(hm g (by rw [h.gown];decide) (blk_lt h.blk)).trans h.blk
 cells:=Kd.R_step h.cells (fun k hk hl=>hm k (by omega) hl)
 tasks:=Kd.R_step h.tasks (fun k hk hl=>hm k (by omega) hl)
 town:=h.town
 log:=Kd.R_step h.log (fun k hk hl=>hm k (by omega) hl)
theorem St.grow (h:St T w0 g own vp vb p s vc vt vl W) (hb:Below W.heap.size W W1):St T w0 g own vp vb p s vc vt vl W1:=
 h.move (below_step h.below hb) hb.size (fun k _ hk=>hb.block k hk)
end
section
variable {T B:Nat} {w0:World} {g:Nat} {own own':Nat->Nat} {vp vb:Value} {p:Prog} {s:Sys} {vc vt vl:Value} {W W1:World}
theorem R_form {α:Type} {d:Kd α} {e base:Nat} {ok:Nat->Prop} {v:Value} {xs:List α} (h:d.R e W base ok v xs) (hp:0 < xs.length):∃ b cap,v= .slice (some ⟨b,0,none⟩) xs.length cap/\ok b/\∃ cs:Array Value,W.heap[b]? = some (.cells cs e (0,0)):=by
 obtain ⟨h0,inner,ho,hr⟩:=h;rcases ho.2 with ⟨rfl,hi⟩ | ⟨b,cap,cur,rfl,hb,hh,hnc,hm,hcs,ht⟩
 ·omega
 ·exact ⟨b,cap,rfl,h0 b rfl,cur,hh⟩
theorem zip_len (ts:List Task):ts.zipIdx.length=ts.length:=List.length_zipIdx
theorem St.tform (h:St T w0 g own vp vb p s vc vt vl W) (hp:0 < s.tasks.length):∃ b cap,vt= .slice (some ⟨b,0,none⟩) s.tasks.length cap/\own b=3/\b ≠ g:=by
 obtain ⟨b,cap,rfl,hb,_⟩:=R_form h.tasks (by rw [zip_len];exact hp)
 have:=h.town b rfl
 exact ⟨b,cap,by rw [zip_len],this,fun he=>by rw [he,h.gown] at this;cases this⟩
theorem St.tslice (h:St T w0 g own vp vb p s vc vt vl W):∃ A c,vt= .slice A s.tasks.length c:=by
 obtain ⟨A,c,he⟩:=Kd.R_slice h.tasks;exact ⟨A,c,by rw [he,zip_len]⟩
theorem St.cslice (h:St T w0 g own vp vb p s vc vt vl W):∃ A c,vc= .slice A s.cells.length c:=Kd.R_slice h.cells
theorem St.lslice (h:St T w0 g own vp vb p s vc vt vl W):∃ A c,vl= .slice A s.log.length c:=Kd.R_slice h.log
theorem St.cform (h:St T w0 g own vp vb p s vc vt vl W) (hp:0 < s.cells.length):∃ b cap,vc= .slice (some ⟨b,0,none⟩) s.cells.length cap/\own b=2/\b ≠ g:=by
 obtain ⟨b,cap,rfl,hb,_⟩:=R_form h.cells hp;exact ⟨b,cap,rfl,hb,fun he=>by rw [he,h.gown] at hb;cases hb⟩
theorem St.cell {b cap n:Nat} (h:St T w0 g own vp vb p s (.slice (some ⟨b,0,none⟩) n cap) vt vl W) {i:Nat} (hi:i < s.cells.length):
  (∀ j u, [Value.int .i64 (cellAt s.cells i).num,.int .i64 (cellAt s.cells i).time,.int .i64 (cellAt s.cells i).lock][j]? = some u->W.cell? ⟨b,i*3+j,none⟩=some u)/\∀ j,W.frozen? ⟨b,i*3+j,none⟩=false:=by
 have hn:=(Kd.R_reads' h.cells).1;obtain ⟨c,_,hM,hc,hf⟩:=Kd.R_elem h.cells zCell (i:Int) (by omega) (by omega);rw [Int.toNat_natCast] at hM hc hf;have:=kCell_openM hM;subst this;exact ⟨hc,hf⟩
theorem St.task {b cap n:Nat} (h:St T w0 g own vp vb p s vc (.slice (some ⟨b,0,none⟩) n cap) vl W) {i:Nat} (hi:i < s.tasks.length):∃ v3 v8 v9 v10,
  (∀ j u, [.int .i64 (tk s i).body,.int .i64 (tk s i).pc,.int .i64 (tk s i).up,v3,.int .i64 (tk s i).way,.int .i64 (tk s i).stage,.int .i64 (tk s i).at_,.int .i64 (tk s i).since,v8,v9,v10,.int .i64 (tk s i).when_,.int .i64 (tk s i).from_][j]? = some u->W.cell? ⟨b,i*13+j,none⟩=some u)/\
  (∀ j,W.frozen? ⟨b,i*13+j,none⟩=false)/\
  (Kd.int .i64).R 3 W w0.heap.size (fun k=>own k=8+8*i) v3 (tk s i).regs/\(Kd.int .i64).R 3 W w0.heap.size (fun k=>own k=9+8*i) v8 (tk s i).old/\
  kPut.R 103 W w0.heap.size (fun k=>own k=10+8*i) v9 (tk s i).reads/\kPut.R 103 W w0.heap.size (fun k=>own k=11+8*i) v10 (tk s i).puts:=by
 have hn:=(Kd.R_reads' h.tasks).1;rw [zip_len] at hn;obtain ⟨c,_,hM,hc,hf⟩:=Kd.R_elem h.tasks (zTask,0) (i:Int) (by omega) (by omega);rw [Int.toNat_natCast] at hM hc hf;rw [zip_get hi] at hM;obtain ⟨v3,v8,v9,v10,rfl,h3,h8,h9,h10⟩:=kTaskO_open hM;exact ⟨v3,v8,v9,v10,hc,hf,Kd.R_mono h3 (fun _ hk=>hk.2),Kd.R_mono h8 (fun _ hk=>hk.2),Kd.R_mono h9 (fun _ hk=>hk.2),Kd.R_mono h10 (fun _ hk=>hk.2)⟩
structure Tag (w0:World) (own own':Nat->Nat) (W:World):Prop where
 same:∀ k,own k ≠ 0->own' k=own k
 old0:∀ k,k < w0.heap.size->own' k=0
 new0:∀ k,W.heap.size<=k->own' k=0
def tagB (own:Nat->Nat) (b:Option Nat) (t:Nat):Nat->Nat:=fun k=>if b=some k then t else own k
theorem St.tag (h:St T w0 g own vp vb p s vc vt vl W) {v:Value} {t:Nat} (hv:∀ k,v.ownBlock=some k->own k=0/\w0.heap.size<=k/\k < W.heap.size):Tag w0 own (tagB own v.ownBlock t) W where
 same:=fun k hk=>by
  unfold tagB;split
  ·rename_i he
   exact absurd (hv k he).1 hk
  ·rfl
 old0:=fun k hk=>by
  unfold tagB;split
  ·rename_i he
   have:=(hv k he).2.1
   omega
  ·exact h.old0 k hk
 new0:=fun k hk=>by
  unfold tagB;split
  ·rename_i he
   have:=(hv k he).2.2
   omega
  ·exact h.new0 k hk
theorem St.retag (h:St T w0 g own vp vb p s vc vt vl W) (ht:Tag w0 own own' W):St T w0 g own' vp vb p s vc vt vl W where
 below:=h.below
 old0:=ht.old0
 new0:=ht.new0
 prog:=h.prog
 gown:=by rw [ht.same g (by rw [h.gown];decide)];exact h.gown
 blk:=h.blk
 cells:=Kd.R_mono h.cells (fun k hk=>by rw [ht.same k (by omega)];exact hk)
 tasks:=Kd.R_mono (d:=kTaskO own') ⟨h.tasks.1,h.tasks.2.imp_ (fun _ _ hp=>kTaskO_own (fun k _ hk=>ht.same k (by have:=hk.1;omega)) hp)⟩ (fun k hk=>by rw [ht.same k (by omega)];exact hk)
 town:=fun k hk=>by rw [ht.same k (by rw [h.town k hk];decide)];exact h.town k hk
 log:=Kd.R_mono h.log (fun k hk=>by rw [ht.same k (by omega)];exact hk)
theorem St.seg {b cap n:Nat} (h:St T w0 g own vp vb p s vc (.slice (some ⟨b,0,none⟩) n cap) vl W) {i:Nat} (hi:i < s.tasks.length) {c seg:List Value} {j:Nat} {x':Task} (hcl:c.length=13)
  (hcc:∀ j u,c[j]? = some u->W.cell? ⟨b,i*13+j,none⟩=some u) (hj:j+seg.length<=13) (hM:(kTaskO own).M W w0.heap.size (fun k=>8<=own k) (x',i) (c.take j ++ seg ++ c.drop (j+seg.length))):
  St T w0 g own vp vb p (setTask s i x') vc (.slice (some ⟨b,0,none⟩) n cap) vl (W.setCells b (i*13+j) seg)/\Fr B own own W (W.setCells b (i*13+j) seg):=by
 have hb3:own b=3:=h.town b rfl;have hb0:w0.heap.size<=b:=Nat.le_of_not_lt fun hlt=>by rw [h.old0 b hlt] at hb3;cases hb3
 have hn:=(Kd.R_reads' h.tasks).1;rw [zip_len] at hn;obtain ⟨hR,hG⟩:=Kd.R_seg (okp:=fun k=>8<=own k) h.tasks (i:Int) (by omega) (by omega) hcl (by rw [Int.toNat_natCast];exact hcc) hj hM (fun k hk=>⟨.inr hk,fun he=>by rw [he] at hk;omega⟩);rw [Int.toNat_natCast] at hR hG;have hbk:Below w0.heap.size w0 (W.setCells b (i*13+j) seg):=h.below.trans ⟨hG.os,hG.tape,hG.output,hG.size,fun k hk=>setCells_far seg _ k (by omega)⟩;have hsz:(W.setCells b (i*13+j) seg).heap.size=W.heap.size:=(setCells_same b seg _ W).2.2.2;have hfar:∀ k,own k ≠ 3->(W.setCells b (i*13+j) seg).heap[k]? = W.heap[k]? :=fun k hk=>setCells_far seg _ k (fun he=>hk (by rw [he];exact hb3))
 refine ⟨⟨hbk,h.old0,fun k hk=>h.new0 k (by omega),h.prog,h.gown,(hfar g (by rw [h.gown];decide)).trans h.blk,Kd.R_step h.cells (fun k hk _=>hfar k (by omega)), ?_,h.town,Kd.R_step h.log (fun k hk _=>hfar k (by omega))⟩,
  ⟨hG.os,hG.tape,hG.output,hG.size,fun _ _ hk=>hk,fun k _ hk=>hfar k (by omega)⟩⟩
 show (kTaskO own).R _ _ _ _ _ (s.tasks.set i x').zipIdx;rw [zip_set];exact hR
theorem St.cseg {b cap n:Nat} (h:St T w0 g own vp vb p s (.slice (some ⟨b,0,none⟩) n cap) vt vl W) {i:Nat} (hi:i < s.cells.length) {seg:List Value} {j:Nat} {x':Cell} (hj:j+seg.length<=3)
  (hM: [Value.int .i64 (cellAt s.cells i).num,.int .i64 (cellAt s.cells i).time,.int .i64 (cellAt s.cells i).lock].take j ++ seg ++ [Value.int .i64 (cellAt s.cells i).num,.int .i64 (cellAt s.cells i).time,.int .i64 (cellAt s.cells i).lock].drop (j+seg.length)= [Value.int .i64 x'.num,.int .i64 x'.time,.int .i64 x'.lock]):
  St T w0 g own vp vb p (setCell s i x') (.slice (some ⟨b,0,none⟩) n cap) vt vl (W.setCells b (i*3+j) seg)/\Fr B own own W (W.setCells b (i*3+j) seg):=by
 have hb3:own b=2:=h.cells.1 b rfl;have hb0:w0.heap.size<=b:=Nat.le_of_not_lt fun hlt=>by rw [h.old0 b hlt] at hb3;cases hb3
 have hn:=(Kd.R_reads' h.cells).1;obtain ⟨hc,_⟩:=h.cell hi;obtain ⟨hR,hG⟩:=Kd.R_seg (d:=kCell) (okp:=fun _=>False) h.cells (i:Int) (by omega) (by omega) (c:= [Value.int .i64 (cellAt s.cells i).num,.int .i64 (cellAt s.cells i).time,.int .i64 (cellAt s.cells i).lock]) rfl (by rw [Int.toNat_natCast];exact hc) hj (x':=x') (by rw [hM];exact kCell_mkM x') (fun k hk=>hk.elim);rw [Int.toNat_natCast] at hR hG;have hbk:Below w0.heap.size w0 (W.setCells b (i*3+j) seg):=h.below.trans ⟨hG.os,hG.tape,hG.output,hG.size,fun k hk=>setCells_far seg _ k (by omega)⟩;have hsz:(W.setCells b (i*3+j) seg).heap.size=W.heap.size:=(setCells_same b seg _ W).2.2.2;have hfar:∀ k,own k ≠ 2->(W.setCells b (i*3+j) seg).heap[k]? = W.heap[k]? :=fun k hk=>setCells_far seg _ k (fun he=>hk (by rw [he];exact hb3))
 refine ⟨⟨hbk,h.old0,fun k hk=>h.new0 k (by omega),h.prog,h.gown,(hfar g (by rw [h.gown];decide)).trans h.blk, ?_,Kd.R_step h.tasks (fun k hk _=>hfar k (by omega)),h.town,Kd.R_step h.log (fun k hk _=>hfar k (by omega))⟩,
  ⟨hG.os,hG.tape,hG.output,hG.size,fun _ _ hk=>hk,fun k _ hk=>hfar k (by omega)⟩⟩
 exact hR
theorem St.clockSet (h:St T w0 g own vp vb p s vc vt vl W) (u:Int):St T w0 g own vp vb p {s with clock:=u} vc vt vl (W.setCell ⟨g,4,none⟩ (.int .i64 u))/\Fr B own own W (W.setCell ⟨g,4,none⟩ (.int .i64 u)):=by
 have hg0:w0.heap.size<=g:=Nat.le_of_not_lt fun hlt=>by have:=h.gown;rw [h.old0 g hlt] at this;cases this
 have hfar:∀ k,own k ≠ 1->(W.setCell ⟨g,4,none⟩ (.int .i64 u)).heap[k]? = W.heap[k]? :=fun k hk=>Below.heap_setCell W ⟨g,4,none⟩ _ k (fun he=>hk (by rw [show k=g from he];exact h.gown))
 exact ⟨⟨below_set h.below hg0,h.old0,fun k hk=>h.new0 k (by simpa [World.setCell] using hk),h.prog,h.gown,blk_set h.blk 4 _,Kd.R_step h.cells (fun k hk _=>hfar k (by omega)),Kd.R_step h.tasks (fun k hk _=>hfar k (by omega)),h.town,Kd.R_step h.log (fun k hk _=>hfar k (by omega))⟩,
  Fr.set (.inr (by rw [h.gown];decide)) 4 _⟩
theorem kTaskO_ok {own:Nat->Nat} {w:World} {base:Nat} {ok:Nat->Prop} {y:Task × Nat} {cs:List Value} (h:(kTaskO own).M w base ok y cs):(kTaskO own).M w base (fun k=>8<=own k) y cs:=by
 obtain ⟨x,i⟩:=y;obtain ⟨v3,v8,v9,v10,rfl,h3,h8,h9,h10⟩:=kTaskO_open h;exact kTaskO_mk x i (Kd.R_mono h3 fun k hk=>⟨by omega,hk.2⟩) (Kd.R_mono h8 fun k hk=>⟨by omega,hk.2⟩) (Kd.R_mono h9 fun k hk=>⟨by omega,hk.2⟩) (Kd.R_mono h10 fun k hk=>⟨by omega,hk.2⟩)
theorem kTaskO_other {own:Nat->Nat} {w w1:World} {base i t:Nat} {ok:Nat->Prop} {x:Task} {j:Nat} {cs:List Value} (h:(kTaskO own).M w base ok (x,j) cs) (ht:8+8*i<=t/\t < 16+8*i) (hj:j ≠ i) (hm:∀ k,own k ≠ 0->own k ≠ t->w1.heap[k]? = w.heap[k]?):(kTaskO own).M w1 base ok (x,j) cs:=by
 obtain ⟨v3,v8,v9,v10,rfl,h3,h8,h9,h10⟩:=kTaskO_open h
 exact kTaskO_mk x j (Kd.R_step h3 fun k hk _=>hm k (by have:=hk.2;omega) (by have:=hk.2;omega)) (Kd.R_step h8 fun k hk _=>hm k (by have:=hk.2;omega) (by have:=hk.2;omega))
  (Kd.R_step h9 fun k hk _=>hm k (by have:=hk.2;omega) (by have:=hk.2;omega)) (Kd.R_step h10 fun k hk _=>hm k (by have:=hk.2;omega) (by have:=hk.2;omega))
theorem St.inner {b cap n:Nat} (h:St T w0 g own vp vb p s vc (.slice (some ⟨b,0,none⟩) n cap) vl W) {i:Nat} (hi:i < s.tasks.length) {x':Task} (t:Nat) (ht:8+8*i<=t/\t < 16+8*i) (hm:∀ k,own k ≠ 0->own k ≠ t->W1.heap[k]? = W.heap[k]?)
  (hb:Below w0.heap.size w0 W1) (hs:W.heap.size<=W1.heap.size)
  (hx:∀ cs,(∀ j u,cs[j]? = some u->W.cell? ⟨b,i*13+j,none⟩=some u)->(kTaskO own).M W w0.heap.size (fun k=>8<=own k) (tk s i,i) cs->(kTaskO own).M W1 w0.heap.size (fun k=>8<=own k) (x',i) cs):
  St T w0 g own vp vb p (setTask s i x') vc (.slice (some ⟨b,0,none⟩) n cap) vl W1:=by
 have hb3:own b=3:=h.town b rfl;have hn:=(Kd.R_reads' h.tasks).1;rw [zip_len] at hn;refine ⟨hb,h.old0,fun k hk=>h.new0 k (by omega),h.prog,h.gown,(hm g (by rw [h.gown];decide) (by rw [h.gown];omega)).trans h.blk,Kd.R_step h.cells (fun k hk _=>hm k (by omega) (by omega)), ?_,h.town,Kd.R_step h.log (fun k hk _=>hm k (by omega) (by omega))⟩;show (kTaskO own).R _ _ _ _ _ (s.tasks.set i x').zipIdx;obtain ⟨h0,inner,ho,hr⟩:=h.tasks;rw [zip_set];refine ⟨h0,inner, ?_, ?_⟩
 ·rw [List.length_set]
  exact own_move ho (fun k hk=>hm k (by rw [h.town k hk];decide) (by rw [h.town k hk];omega))
 ·refine ⟨by rw [List.length_set];exact hr.1,fun j y hy=> ?_⟩
  rw [List.getElem?_set] at hy;split at hy
  ·rename_i hij
   subst hij;split at hy
   ·cases hy
    rename_i hlt;have hM:=hr.2 i _ (List.getElem?_eq_getElem hlt);have hz:s.tasks.zipIdx[i]=(tk s i,i):=zip_at (List.getElem?_eq_getElem hlt);rw [hz] at hM;refine (kTaskO own).M_mono (fun k hk=>⟨.inr hk,fun he=> ?_⟩) (hx _ (fun j u hu=> ?_) (kTaskO_ok hM))
    ·have:k=b:=by simpa [Value.ownBlock] using he
     rw [this,hb3] at hk;omega
    ·rw [List.getElem?_take] at hu
     split at hu
     ·rw [List.getElem?_drop] at hu
      have:=ho.cells (g:=b) (by simp [Value.ownBlock]) _ u hu
      rwa [add_plain] at this
     ·cases hu
   ·cases hy
  ·rename_i hij
   have hM:=hr.2 j y hy;obtain rfl:=zip_at hy;exact kTaskO_other hM ht (fun he=>hij he.symm) hm
theorem St.regSet {b cap n n' c gr:Nat} (h:St T w0 g own vp vb p s vc (.slice (some ⟨b,0,none⟩) n cap) vl W) {i:Nat} (hi:i < s.tasks.length)
  (hc:W.cell? ⟨b,i*13+3,none⟩=some (.slice (some ⟨gr,0,none⟩) n' c)) (a:Nat) (ha:a < (tk s i).regs.length) (u:Int):
  St T w0 g own vp vb p (setTask s i {tk s i with regs:=(tk s i).regs.set a u}) vc (.slice (some ⟨b,0,none⟩) n cap) vl (W.setCell ⟨gr,a,none⟩ (.int .i64 u))/\Fr B own own W (W.setCell ⟨gr,a,none⟩ (.int .i64 u)):=by
 obtain ⟨v3,v8,v9,v10,hcc,_,h3,_⟩:=h.task hi
 have he:v3= .slice (some ⟨gr,0,none⟩) n' c:=by
  have:=hcc 3 v3 rfl
  rw [hc] at this;injection this with this;exact this.symm
 subst he;have hgr:own gr=8+8*i:=h3.1 gr rfl;have hg0:w0.heap.size<=gr:=Nat.le_of_not_lt fun hlt=>by rw [h.old0 gr hlt] at hgr;omega
 have hfar:∀ k,own k ≠ 8+8*i->(W.setCell ⟨gr,a,none⟩ (.int .i64 u)).heap[k]? = W.heap[k]? :=fun k hk=>Below.heap_setCell W ⟨gr,a,none⟩ _ k (fun he=>hk (by rw [show k=gr from he];exact hgr))
 have hn':=(Kd.R_reads' h3).1;refine ⟨h.inner hi (8+8*i) ⟨by omega,by omega⟩ (fun k _ hk=>hfar k hk) (below_set h.below hg0) (by simp [World.setCell]) (fun cs hcs hM=> ?_),Fr.set (.inr (by omega)) a _⟩;obtain ⟨u3,u8,u9,u10,rfl,g3,g8,g9,g10⟩:=kTaskO_open hM
 have hu:u3= .slice (some ⟨gr,0,none⟩) n' c:=by
  have:=hcs 3 u3 rfl
  rw [hc] at this;injection this with this;exact this.symm
 subst hu;obtain ⟨e,he1,hM1,he2,_⟩:=Kd.R_elem g3 0 (a:Int) (by omega) (by omega);have hee:e= [Value.int .i64 (rd (tk s i).regs a)]:=hM1;obtain ⟨hR,_⟩:=Kd.R_seg (d:=Kd.int .i64) (okp:=fun _=>False) g3 (a:Int) (by omega) (by omega) (c:=e) (seg:= [.int .i64 u]) (j:=0) (x':=u) he1 he2 (Nat.le_refl 1) (by subst hee;rfl) (fun k hk=>hk.elim)
 have hw:W.setCells gr ((a:Int).toNat*(Kd.int .i64).sz+0) [.int .i64 u]=W.setCell ⟨gr,a,none⟩ (.int .i64 u):=by
  show W.setCell ⟨gr,(a:Int).toNat*1+0,none⟩ _=_;rw [Int.toNat_natCast,Nat.mul_one,Nat.add_zero]
 rw [hw,Int.toNat_natCast] at hR;refine kTaskO_mk {tk s i with regs:=(tk s i).regs.set a u} i hR (Kd.R_step g8 fun k hk _=>hfar k (by have:=hk.2;omega)) (Kd.R_step g9 fun k hk _=>hfar k (by have:=hk.2;omega)) (Kd.R_step g10 fun k hk _=>hfar k (by have:=hk.2;omega))
end
def cellsT (x:Task) (v3 v8 v9 v10:Value):List Value:= [.int .i64 x.body,.int .i64 x.pc,.int .i64 x.up,v3,.int .i64 x.way,.int .i64 x.stage,.int .i64 x.at_,.int .i64 x.since,v8,v9,v10,.int .i64 x.when_,.int .i64 x.from_]
section
variable {T B:Nat} {w0:World} {g:Nat} {own own':Nat->Nat} {vp vb:Value} {p:Prog} {s:Sys} {vc vt vl:Value} {W W1:World}
theorem St.task' {b cap n:Nat} (h:St T w0 g own vp vb p s vc (.slice (some ⟨b,0,none⟩) n cap) vl W) {i:Nat} (hi:i < s.tasks.length):∃ v3 v8 v9 v10,
  (∀ j u,(cellsT (tk s i) v3 v8 v9 v10)[j]? = some u->W.cell? ⟨b,i*13+j,none⟩=some u)/\
  (∀ j,W.frozen? ⟨b,i*13+j,none⟩=false)/\(kTaskO own).M W w0.heap.size (fun k=>8<=own k) (tk s i,i) (cellsT (tk s i) v3 v8 v9 v10):=by
 have hn:=(Kd.R_reads' h.tasks).1;rw [zip_len] at hn;obtain ⟨c,_,hM,hc,hf⟩:=Kd.R_elem h.tasks (zTask,0) (i:Int) (by omega) (by omega);rw [Int.toNat_natCast] at hM hc hf;rw [zip_get hi] at hM;have hM':=kTaskO_ok hM;obtain ⟨v3,v8,v9,v10,rfl,h3,h8,h9,h10⟩:=kTaskO_open hM;exact ⟨v3,v8,v9,v10,hc,hf,hM'⟩
theorem St.setInt {b cap n:Nat} (h:St T w0 g own vp vb p s vc (.slice (some ⟨b,0,none⟩) n cap) vl W) {i:Nat} (hi:i < s.tasks.length) (j:Nat) (hj:j < 13) (u:Int) (x':Task)
  (hx:∀ v3 v8 v9 v10,(cellsT (tk s i) v3 v8 v9 v10).take j ++ [.int .i64 u] ++ (cellsT (tk s i) v3 v8 v9 v10).drop (j+1)=cellsT x' v3 v8 v9 v10)
  (hs:x'.regs=(tk s i).regs/\x'.old=(tk s i).old/\x'.reads=(tk s i).reads/\x'.puts=(tk s i).puts):
  St T w0 g own vp vb p (setTask s i x') vc (.slice (some ⟨b,0,none⟩) n cap) vl (W.setCell ⟨b,i*13+j,none⟩ (.int .i64 u))/\Fr B own own W (W.setCell ⟨b,i*13+j,none⟩ (.int .i64 u)):=by
 obtain ⟨v3,v8,v9,v10,hc,_,hM⟩:=h.task' hi;obtain ⟨u3,u8,u9,u10,he,h3,h8,h9,h10⟩:=kTaskO_open hM;simp only [cellsT,List.cons.injEq,true_and] at he;obtain ⟨rfl,rfl,rfl,rfl,-⟩:=he;refine h.seg hi (c:=cellsT (tk s i) v3 v8 v9 v10) (seg:= [.int .i64 u]) (j:=j) (x':=x') rfl hc (by simp;omega) ?_;rw [List.length_singleton,hx];exact kTaskO_mk x' i (by rw [hs.1];exact h3) (by rw [hs.2.1];exact h8) (by rw [hs.2.2.1];exact h9) (by rw [hs.2.2.2];exact h10)
theorem R_flat {α:Type} {d:Kd α} (hd:∀ w base ok ok' x cs,d.M w base ok x cs->d.M w base ok' x cs) {e base:Nat} {ok ok':Nat->Prop} {v:Value} {xs:List α} (h:d.R e W base ok v xs) (hv:∀ k,v.ownBlock=some k->ok' k):d.R e W base ok' v xs:=
 ⟨hv,h.2.imp_ (fun _ _ hp=>hd _ _ _ _ _ _ hp)⟩
theorem flat_int:∀ (w:World) base ok ok' x cs,(Kd.int .i64).M w base ok x cs->(Kd.int .i64).M w base ok' x cs:=fun _ _ _ _ _ _ h=>h
theorem flat_put:∀ (w:World) base ok ok' x cs,kPut.M w base ok x cs->kPut.M w base ok' x cs:=fun _ _ _ _ _ _ h=>h
theorem flat_cell:∀ (w:World) base ok ok' x cs,kCell.M w base ok x cs->kCell.M w base ok' x cs:=fun _ _ _ _ _ _ h=>h
theorem R_in {α:Type} {d:Kd α} {e base:Nat} {ok:Nat->Prop} {v:Value} {xs:List α} (h:d.R e W base ok v xs):∀ k,v.ownBlock=some k->ok k/\base<=k/\k < W.heap.size:=fun k hk=>by
 obtain ⟨h1,h2,h3,_⟩:=(Kd.R_bound h).1 k hk;exact ⟨h1,h2,h3⟩
theorem tagB_at {own:Nat->Nat} {b:Option Nat} {t k:Nat} (h:b=some k):tagB own b t k=t:=by simp [tagB,h]
theorem St.setRegs {b cap n:Nat} (h:St T w0 g own vp vb p s vc (.slice (some ⟨b,0,none⟩) n cap) vl W) {i:Nat} (hi:i < s.tasks.length) {v:Value} {xs:List Int} (hv:(Kd.int .i64).R 3 W w0.heap.size (fun k=>own k=0/\B<=k) v xs):
  St T w0 g (tagB own v.ownBlock (8+8*i)) vp vb p (setTask s i {tk s i with regs:=xs}) vc (.slice (some ⟨b,0,none⟩) n cap) vl (W.setCell ⟨b,i*13+3,none⟩ v)/\Fr B own (tagB own v.ownBlock (8+8*i)) W (W.setCell ⟨b,i*13+3,none⟩ v)/\∀ k,own k ≠ 0->tagB own v.ownBlock (8+8*i) k=own k:=by
 have ht:=h.tag (t:=8+8*i) (fun k hk=>⟨(R_in hv k hk).1.1,(R_in hv k hk).2⟩);have h1:=h.retag ht;have hv1:=R_flat flat_int hv (ok':=fun k=>8<=tagB own v.ownBlock (8+8*i) k/\tagB own v.ownBlock (8+8*i) k=8+8*i) (fun k hk=>by rw [tagB_at hk];omega)
 obtain ⟨v3,v8,v9,v10,hc,_,hM⟩:=h1.task' hi;obtain ⟨u3,u8,u9,u10,he,h3,h8,h9,h10⟩:=kTaskO_open hM;simp only [cellsT,List.cons.injEq,true_and] at he;obtain ⟨rfl,rfl,rfl,rfl,-⟩:=he;obtain ⟨k1,k2⟩:=h1.seg hi (c:=cellsT (tk s i) v3 v8 v9 v10) (seg:= [v]) (j:=3) (x':={tk s i with regs:=xs}) rfl hc (by simp) (kTaskO_mk {tk s i with regs:=xs} i hv1 h8 h9 h10);refine ⟨k1,Fr.trans (Fr.tagged W fun k hk h0=> ?_) k2,ht.same⟩;unfold tagB;split
 ·rename_i he
  have:=(R_in hv k he).1.2
  omega
 ·exact h0
theorem St.setReads {b cap n:Nat} (h:St T w0 g own vp vb p s vc (.slice (some ⟨b,0,none⟩) n cap) vl W) {i:Nat} (hi:i < s.tasks.length) {v:Value} {xs:List Put} (hv:kPut.R 103 W w0.heap.size (fun k=>own k=0/\B<=k) v xs):
  St T w0 g (tagB own v.ownBlock (10+8*i)) vp vb p (setTask s i {tk s i with reads:=xs}) vc (.slice (some ⟨b,0,none⟩) n cap) vl (W.setCell ⟨b,i*13+9,none⟩ v)/\Fr B own (tagB own v.ownBlock (10+8*i)) W (W.setCell ⟨b,i*13+9,none⟩ v)/\∀ k,own k ≠ 0->tagB own v.ownBlock (10+8*i) k=own k:=by
 have ht:=h.tag (t:=10+8*i) (fun k hk=>⟨(R_in hv k hk).1.1,(R_in hv k hk).2⟩);have h1:=h.retag ht;have hv1:=R_flat flat_put hv (ok':=fun k=>8<=tagB own v.ownBlock (10+8*i) k/\tagB own v.ownBlock (10+8*i) k=10+8*i) (fun k hk=>by rw [tagB_at hk];omega)
 obtain ⟨v3,v8,v9,v10,hc,_,hM⟩:=h1.task' hi;obtain ⟨u3,u8,u9,u10,he,h3,h8,h9,h10⟩:=kTaskO_open hM;simp only [cellsT,List.cons.injEq,true_and] at he;obtain ⟨rfl,rfl,rfl,rfl,-⟩:=he;obtain ⟨k1,k2⟩:=h1.seg hi (c:=cellsT (tk s i) v3 v8 v9 v10) (seg:= [v]) (j:=9) (x':={tk s i with reads:=xs}) rfl hc (by simp) (kTaskO_mk {tk s i with reads:=xs} i h3 h8 hv1 h10);refine ⟨k1,Fr.trans (Fr.tagged W fun k hk h0=> ?_) k2,ht.same⟩;unfold tagB;split
 ·rename_i he
  have:=(R_in hv k he).1.2
  omega
 ·exact h0
theorem St.setPuts {b cap n:Nat} (h:St T w0 g own vp vb p s vc (.slice (some ⟨b,0,none⟩) n cap) vl W) {i:Nat} (hi:i < s.tasks.length) {v:Value} {xs:List Put} (hv:kPut.R 103 W w0.heap.size (fun k=>own k=0/\B<=k) v xs):
  St T w0 g (tagB own v.ownBlock (11+8*i)) vp vb p (setTask s i {tk s i with puts:=xs}) vc (.slice (some ⟨b,0,none⟩) n cap) vl (W.setCell ⟨b,i*13+10,none⟩ v)/\Fr B own (tagB own v.ownBlock (11+8*i)) W (W.setCell ⟨b,i*13+10,none⟩ v)/\∀ k,own k ≠ 0->tagB own v.ownBlock (11+8*i) k=own k:=by
 have ht:=h.tag (t:=11+8*i) (fun k hk=>⟨(R_in hv k hk).1.1,(R_in hv k hk).2⟩);have h1:=h.retag ht;have hv1:=R_flat flat_put hv (ok':=fun k=>8<=tagB own v.ownBlock (11+8*i) k/\tagB own v.ownBlock (11+8*i) k=11+8*i) (fun k hk=>by rw [tagB_at hk];omega)
 obtain ⟨v3,v8,v9,v10,hc,_,hM⟩:=h1.task' hi;obtain ⟨u3,u8,u9,u10,he,h3,h8,h9,h10⟩:=kTaskO_open hM;simp only [cellsT,List.cons.injEq,true_and] at he;obtain ⟨rfl,rfl,rfl,rfl,-⟩:=he;obtain ⟨k1,k2⟩:=h1.seg hi (c:=cellsT (tk s i) v3 v8 v9 v10) (seg:= [v]) (j:=10) (x':={tk s i with puts:=xs}) rfl hc (by simp) (kTaskO_mk {tk s i with puts:=xs} i h3 h8 h9 hv1);refine ⟨k1,Fr.trans (Fr.tagged W fun k hk h0=> ?_) k2,ht.same⟩;unfold tagB;split
 ·rename_i he
  have:=(R_in hv k he).1.2
  omega
 ·exact h0
theorem St.setRegsE {b cap n:Nat} (h:St T w0 g own vp vb p s vc (.slice (some ⟨b,0,none⟩) n cap) vl W) {i:Nat} (hi:i < s.tasks.length) {v:Value} {xs:List Int} (hv:(Kd.int .i64).R 3 W w0.heap.size (fun k=>own k=0/\B<=k) v xs):
  ∃ own',St T w0 g own' vp vb p (setTask s i {tk s i with regs:=xs}) vc (.slice (some ⟨b,0,none⟩) n cap) vl (W.setCell ⟨b,i*13+3,none⟩ v)/\Fr B own own' W (W.setCell ⟨b,i*13+3,none⟩ v)/\∀ k,own k ≠ 0->own' k=own k:=⟨_,h.setRegs hi hv⟩
theorem St.setReadsE {b cap n:Nat} (h:St T w0 g own vp vb p s vc (.slice (some ⟨b,0,none⟩) n cap) vl W) {i:Nat} (hi:i < s.tasks.length) {v:Value} {xs:List Put} (hv:kPut.R 103 W w0.heap.size (fun k=>own k=0/\B<=k) v xs):
  ∃ own',St T w0 g own' vp vb p (setTask s i {tk s i with reads:=xs}) vc (.slice (some ⟨b,0,none⟩) n cap) vl (W.setCell ⟨b,i*13+9,none⟩ v)/\Fr B own own' W (W.setCell ⟨b,i*13+9,none⟩ v)/\∀ k,own k ≠ 0->own' k=own k:=⟨_,h.setReads hi hv⟩
theorem St.setPutsE {b cap n:Nat} (h:St T w0 g own vp vb p s vc (.slice (some ⟨b,0,none⟩) n cap) vl W) {i:Nat} (hi:i < s.tasks.length) {v:Value} {xs:List Put} (hv:kPut.R 103 W w0.heap.size (fun k=>own k=0/\B<=k) v xs):
  ∃ own',St T w0 g own' vp vb p (setTask s i {tk s i with puts:=xs}) vc (.slice (some ⟨b,0,none⟩) n cap) vl (W.setCell ⟨b,i*13+10,none⟩ v)/\Fr B own own' W (W.setCell ⟨b,i*13+10,none⟩ v)/\∀ k,own k ≠ 0->own' k=own k:=⟨_,h.setPuts hi hv⟩
end
section
variable {T B:Nat} {w0:World} {g:Nat} {own:Nat->Nat} {vp vb:Value} {p:Prog} {s:Sys} {vc vt vl:Value} {W W1:World}
open Classical in
noncomputable def tagZ (own:Nat->Nat) (B:Nat) (W:World) (E:List Nat) (t:Nat):Nat->Nat:=fun k=>
 if own k=0/\B<=k/\k < W.heap.size/\∃ q,q ∈ E/\∃ cells,W.heap[k]? = some (.cells cells q (0,0)) then t else own k
theorem tagZ_yes {E:List Nat} {t k:Nat} (h:own k=0/\B<=k/\k < W.heap.size/\∃ q,q ∈ E/\∃ cells,W.heap[k]? = some (.cells cells q (0,0))):tagZ own B W E t k=t:=if_pos h
theorem tagZ_own {E:List Nat} {t k:Nat} (h:own k ≠ 0):tagZ own B W E t k=own k:=if_neg (fun h'=>h h'.1)
theorem tagZ_lo {E:List Nat} {t k:Nat} (h:k < B):tagZ own B W E t k=own k:=if_neg (fun h'=>by have:=h'.2.1;omega)
theorem tagZ_hi {E:List Nat} {t k:Nat} (h:W.heap.size<=k):tagZ own B W E t k=own k:=if_neg (fun h'=>by have:=h'.2.2.1;omega)
theorem St.logSet (h:St T w0 g own vp vb p s vc vt vl W) (hB:w0.heap.size<=B) (hBW:B<=W.heap.size) (hb:Below w0.heap.size w0 W1) (hg:W.grownBy W1 vl.ownBlock) {v1:Value} {log':List Entry}
  (hr:kEntry.R 119 W1 w0.heap.size (fun k=>own k=4\/(own k=0/\B<=k)) v1 log'):
  St T w0 g (tagZ own B W1 (119 :: kEntry.E) 4) vp vb p {s with log:=log'} vc vt v1 (W1.setCell ⟨g,5,none⟩ v1)/\Fr B own (tagZ own B W1 (119 :: kEntry.E) 4) W (W1.setCell ⟨g,5,none⟩ v1):=by
 have hvl:∀ k,vl.ownBlock=some k->own k=4:=h.log.1;have hg0:w0.heap.size<=g:=Nat.le_of_not_lt fun hlt=>by have:=h.gown;rw [h.old0 g hlt] at this;cases this
 have hne:∀ k,own k ≠ 4->some k ≠ vl.ownBlock:=fun k hk he=>hk (hvl k he.symm)
 have hfar:∀ k,own k ≠ 4->own k ≠ 1->k < W.heap.size->(W1.setCell ⟨g,5,none⟩ v1).heap[k]? = W.heap[k]? :=fun k h4 h1 hl=>
  (Below.heap_setCell W1 ⟨g,5,none⟩ v1 k (fun he=>h1 (by rw [show k=g from he];exact h.gown))).trans (hg.block k hl (hne k h4))
 have hsame:∀ k,own k ≠ 0->tagZ own B W1 (119 :: kEntry.E) 4 k=own k:=fun k hk=>tagZ_own hk
 have hblk:W1.heap[g]? = _:=(hg.block g (blk_lt h.blk) (hne g (by rw [h.gown];decide))).trans h.blk
 refine ⟨⟨below_set hb hg0,fun k hk=>(tagZ_lo (by omega)).trans (h.old0 k hk),fun k hk=> ?_,h.prog,(hsame g (by rw [h.gown];decide)).trans h.gown, ?_,
  Kd.R_mono (Kd.R_step h.cells (fun k hk hl=>hfar k (by omega) (by omega) hl)) (fun k hk=>by rw [hsame k (by omega)];exact hk),
  Kd.R_mono (d:=kTaskO (tagZ own B W1 (119 :: kEntry.E) 4)) ⟨(Kd.R_step h.tasks (fun k hk hl=>hfar k (by omega) (by omega) hl)).1,(Kd.R_step h.tasks (fun k hk hl=>hfar k (by omega) (by omega) hl)).2.imp_ (fun _ _ hp=>kTaskO_own (fun k _ hk=>hsame k (by have:=hk.1;omega)) hp)⟩ (fun k hk=>by rw [hsame k (by omega)];exact hk),
  fun k hk=>by rw [hsame k (by rw [h.town k hk];decide)];exact h.town k hk, ?_⟩,
  ⟨hg.os,hg.tape,hg.output,by simpa [World.setCell] using hg.size,fun k hk h0=>(tagZ_lo hk).trans h0, ?_⟩⟩
 ·have hk':W1.heap.size<=k:=by simpa [World.setCell] using hk
  exact (tagZ_hi hk').trans (h.new0 k (Nat.le_trans hg.size hk'))
 ·have:=blk_set hblk 5 v1
  simpa using this
 ·refine Kd.R_mono (Kd.R_bound (Kd.R_far (p:=⟨g,5,none⟩) hr (fun k hk he=> ?_) v1)) (fun k hk=> ?_)
  ·rw [show k=g from he,h.gown] at hk
   omega
  ·obtain ⟨h1,h2,h3,h4⟩:=hk
   rcases h1 with h1 | ⟨h1,h5⟩
   ·rw [hsame k (by omega)]
    exact h1
   ·refine tagZ_yes ⟨h1,h5,by simpa [World.setCell] using h3, ?_⟩
    obtain ⟨q,hq,cells,hc⟩:=h4;refine ⟨q,hq,cells, ?_⟩;rw [<-hc];exact (Below.heap_setCell W1 ⟨g,5,none⟩ v1 k (fun he=>by rw [show k=g from he,h.gown] at h1;cases h1)).symm
 ·intro k hk h0
  rcases Nat.lt_or_ge k W.heap.size with hl | hl
  ·exact hfar k (by omega) (by omega) hl
  ·omega
end
section
variable {w0:World} {g:Nat} {own:Nat->Nat} {vp vb:Value} {p:Prog} {s:Sys} {vc vt vl:Value}
theorem fails_calls (i:Nat) (w:World) (h:St 152 w0 g own vp vb p s vc vt vl w) (hi:i < s.tasks.length) (hn:s.tasks.length<=1048576):
  Calls Try.prog 140 #[.pointer (some ⟨g,0,none⟩),.int .i64 i] w fun e w'=>e= .returned (.tuple #[])/\St 152 w0 g own vp vb p (setWay s i 3) vc vt vl w'/\Fr w.heap.size own own w w':=by
 obtain ⟨b,cap,rfl,hb3,hbg⟩:=h.tform (by omega);obtain ⟨v3,v8,v9,v10,hcc,hf,_⟩:=h.task' hi;have H:=am h;have BKc:=zc8 h.blk;obtain ⟨A0,c0,rfl⟩:=h.cslice;obtain ⟨A3,c3,rfl⟩:=h.lslice;have h_way:=hcc 4 _ rfl;have f_way:=hf 4;clear h hcc hf hb3;go_enter Try.func140,Try.ntmps140;have q0:(0:Int)<=(i:Int):=by omega
 have q1:(i:Int) < (s.tasks.length:Int):=by omega
 go_wp2;refine bodyPost_end (results_none rfl _ _ _) rfl ?_;obtain ⟨k1,k2⟩:=H.out.setInt hi 4 (by decide) 3 {tk s i with way:=3} (fun _ _ _ _=>rfl) ⟨rfl,rfl,rfl,rfl⟩;exact ⟨rfl,k1,k2⟩
theorem stage_calls (i:Nat) (st:Int) (w:World) (h:St 152 w0 g own vp vb p s vc vt vl w) (hi:i < s.tasks.length) (hn:s.tasks.length<=1048576):
  Calls Try.prog 154 #[.pointer (some ⟨g,0,none⟩),.int .i64 i,.int .i64 st] w fun e w'=>e= .returned (.tuple #[])/\St 152 w0 g own vp vb p (toStage s i st) vc vt vl w'/\Fr w.heap.size own own w w':=by
 obtain ⟨b,cap,rfl,hb3,hbg⟩:=h.tform (by omega);obtain ⟨v3,v8,v9,v10,hcc,hf,_⟩:=h.task' hi;have H:=am h;have BKc:=zc8 h.blk;obtain ⟨A0,c0,rfl⟩:=h.cslice;obtain ⟨A3,c3,rfl⟩:=h.lslice;have h_stage:=hcc 5 _ rfl;have f_stage:=hf 5;have h_at:=hcc 6 _ rfl;have f_at:=hf 6;clear h hcc hf hb3;go_enter Try.func154,Try.ntmps154;have q0:(0:Int)<=(i:Int):=by omega
 have q1:(i:Int) < (s.tasks.length:Int):=by omega
 go_wp2;refine bodyPost_end (results_none rfl _ _ _) rfl ?_;obtain ⟨k1,k2⟩:=H.out.setInt hi 5 (by decide) st {tk s i with stage:=st} (fun _ _ _ _=>rfl) ⟨rfl,rfl,rfl,rfl⟩;obtain ⟨k3,k4⟩:=k1.setInt (i:=i) (by rw [set_len];exact hi) 6 (by decide) 0 {tk s i with stage:=st,at_:=0} (fun _ _ _ _=>by rw [tk_set hi];rfl) (by rw [tk_set hi];exact ⟨rfl,rfl,rfl,rfl⟩);rw [set_set] at k3;exact ⟨rfl,k3,k2.trans k4⟩
def freeK (s:Sys) (i k:Nat):Sys:={s with cells:=(s.cells.take k).map (fun c=>if c.lock=(i:Int) then {c with lock:= -1} else c) ++ s.cells.drop k}
theorem freeK_zero (s:Sys) (i:Nat):freeK s i 0=s:=by simp [freeK]
theorem freeK_all (s:Sys) (i:Nat):freeK s i s.cells.length=free s i:=by simp [freeK,free]
theorem freeK_len (s:Sys) (i k:Nat):(freeK s i k).cells.length=s.cells.length:=by simp [freeK];omega
theorem freeK_at {s:Sys} {i k:Nat} (h:k < s.cells.length):cellAt (freeK s i k).cells k=cellAt s.cells k:=by
 simp [cellAt,freeK,List.getD_eq_getElem?_getD,List.getElem?_append_right,Nat.min_eq_left (Nat.le_of_lt h)]
theorem freeK_next {s:Sys} {i k:Nat} (h:k < s.cells.length):freeK s i (k+1)=setCell (freeK s i k) k (if (cellAt s.cells k).lock=(i:Int) then {cellAt s.cells k with lock:= -1} else cellAt s.cells k):=by
 have hc:cellAt s.cells k=s.cells[k]:=by simp [cellAt,h]
 have hl:((s.cells.take k).map (fun c=>if c.lock=(i:Int) then {c with lock:= -1} else c)).length=k:=by simp;omega
 rw [hc];simp only [freeK,setCell];congr 1;rw [List.set_append_right _ _ (by rw [hl];exact Nat.le_refl k),hl,Nat.sub_self,List.take_succ_eq_append_getElem h,List.map_append,List.drop_eq_getElem_cons h,List.set_cons_zero,List.append_assoc];rfl
theorem setCell_same {s:Sys} {k:Nat} (h:k < s.cells.length):setCell s k (cellAt s.cells k)=s:=by
 have:s.cells.set k (cellAt s.cells k)=s.cells:=by
  apply List.ext_getElem?;intro j;rw [List.getElem?_set];by_cases hj:k=j
  ·subst hj
   simp [h,cellAt]
  ·simp [hj]
 unfold setCell;rw [this]
theorem free_calls (i:Nat) (w:World) (h:St 152 w0 g own vp vb p s vc vt vl w) (hi:i < s.tasks.length) (hn:s.tasks.length<=1048576) (hm:s.cells.length<=1048576):
  Calls Try.prog 165 #[.pointer (some ⟨g,0,none⟩),.int .i64 i] w fun e w'=>e= .returned (.tuple #[])/\St 152 w0 g own vp vb p (free s i) vc vt vl w'/\Fr w.heap.size own own w w':=by
 obtain ⟨A0,c0,rfl⟩:=h.cslice;obtain ⟨A1,c1,rfl⟩:=h.tslice;obtain ⟨A3,c3,rfl⟩:=h.lslice;have H:=am h;clear h;go_enter Try.func165,Try.ntmps165;go_wp2;go_loopw [4] (fun j w'=>∃ k:Nat,k<=s.cells.length/\j= .int .i64 k/\Aside0 (St 152 w0 g own vp vb p (freeK s i k) (.slice A0 s.cells.length c0) (.slice A1 s.tasks.length c1) (.slice A3 s.log.length c3) w')/\Aside0 (Fr w.heap.size own own w w')) (fun j _=>s.cells.length - (intOf j).toNat)
 case atStart=>exact ⟨0,Nat.zero_le _,rfl,⟨by rw [freeK_zero];exact H.out⟩,⟨Fr.refl _ _ _⟩⟩
 case round=>
  clear H;obtain ⟨k,hk,rfl,H,HF⟩:=hrel;have BKc:=zc8 H.out.blk;by_cases hlt:k < s.cells.length
  ·obtain ⟨b,cap,he,hb2,hbg⟩:=H.out.cform (by rw [freeK_len];omega)
   injection he with he1 he2 he3;subst he1;subst he3;clear he2;have HB2:=am hb2;obtain ⟨hcc,hf⟩:=H.out.cell (i:=k) (by rw [freeK_len];exact hlt);rw [freeK_at hlt] at hcc;have h_lock:=hcc 2 _ rfl;have f_lock:=hf 2;clear hcc hf hb2;have q0:(0:Int)<=(k:Int):=by omega
   have q1:(k:Int) < (s.cells.length:Int):=by omega
   have HN:=am (freeK_next (i:=i) hlt);by_cases hl:(cellAt s.cells k).lock=(i:Int)
   ·have y0:((cellAt s.cells k).lock == (i:Int))=true:=by simp [hl]
    have HL:=am hl;clear hl;go_wp2;go_roundw
    case rel=>
     obtain ⟨k1,k2⟩:=H.out.cseg (B:=wr.heap.size) (i:=k) (by rw [freeK_len];exact hlt) (seg:= [.int .i64 (-1)]) (j:=2) (x':={cellAt s.cells k with lock:= -1}) (by decide) (by rw [freeK_at hlt];rfl);rw [<-if_pos (c:=(cellAt s.cells k).lock=(i:Int)) (t:={cellAt s.cells k with lock:= -1}) (e:=cellAt s.cells k) HL.out,<-HN.out] at k1;exact ⟨k+1,by omega,by go_num,⟨k1⟩,⟨HF.out.trans (Fr.set (.inr (by rw [HB2.out];decide)) _ _)⟩⟩
    case measure=>simp [intOf];omega
   ·have y0:((cellAt s.cells k).lock == (i:Int))=false:=by simp [hl]
    have HL:=am hl;clear hl;go_wp2;go_roundw
    case rel=>exact ⟨k+1,by omega,by go_num,⟨by rw [HN.out,if_neg HL.out,<-freeK_at (i:=i) hlt,setCell_same (by rw [freeK_len];exact hlt)];exact H.out⟩,HF⟩
    case measure=>simp [intOf];omega
  ·go_wp2
   refine bodyPost_end (results_none rfl _ _ _) rfl ?_;obtain rfl:k=s.cells.length:=by omega
   exact ⟨rfl,by rw [<-freeK_all];exact H.out,HF.out⟩
end
section
variable {P:Program} {ops:Array Oper} {rest:List Oper} {o:Oper} {a:Go.Act} {Q:Exit->Go.Act->World->Prop}
theorem set_ev {W:World} {t:TypeId} (hgd:o.guard=none) (hN:o.dst=none) (p x:Operand) (ho:o.op= .store t p x) {g off:Nat} (hp:a.eval p= .pointer (some ⟨g,off,none⟩)) {u:Value} (hx:a.eval x=u) (hu:u.cells= #[u]) (h1:u.oneCell'=true) (hi:(P.info? t).map (·.size)=some 1)
  (hr:(∃ u,W.cell? ⟨g,off,none⟩=some u)/\W.frozen? ⟨g,off,none⟩=false) (h:∀ w1,w1=W.setCell ⟨g,off,none⟩ u->wpList P ops Q rest a w1):wpList P ops Q (o :: rest) a W:=by
 obtain ⟨⟨z,hz⟩,hf⟩:=hr;refine wpList_plain hgd fun K hK=> ?_
 obtain ⟨info,hinfo,hsz⟩:=Option.map_eq_some_iff.1 hi;unfold Oper.wp execOp
 have hrun:(Instr.storeAt t (.pointer (some ⟨g,off,none⟩)) u).run P W= .ok () (W.setCell ⟨g,off,none⟩ u):=by
  have:=run_storeCells_cells (P:=P) g off [u] 0 W (fun j hj=>by
   have:j=0:=by simpa using hj
   subst this;simp [hz]) (fun j hj=>by
   have:j=0:=by simpa using hj
   subst this;simpa using hf) (fun q hq=>by rw [List.mem_singleton.1 hq];exact h1)
  simp only [Nat.add_zero] at this;simp [Instr.storeAt,Instr.sureAddr,storeVar,sizeOf,typeInfo,hinfo,hsz,hu,this,World.setCells]
 simp only [ho,hp,hx,Sem.run_bind,hrun,Result.andThen_ok,Sem.run_pure,Oper.upon_skip];rw [hN];exact hK _ _ (h _ rfl)
end
theorem St.ready {T:Nat} {w0:World} {g:Nat} {own:Nat->Nat} {vp vb:Value} {p:Prog} {s:Sys} {vc vl:Value} {W:World} {b cap n:Nat} (h:St T w0 g own vp vb p s vc (.slice (some ⟨b,0,none⟩) n cap) vl W) {i:Nat} (hi:i < s.tasks.length) (j:Nat) (hj:j < 13):
  (∃ u,W.cell? ⟨b,i*13+j,none⟩=some u)/\W.frozen? ⟨b,i*13+j,none⟩=false:=by
 obtain ⟨v3,v8,v9,v10,hcc,hf,-⟩:=h.task' hi;exact ⟨⟨_,hcc j ((cellsT (tk s i) v3 v8 v9 v10)[j]'hj) (List.getElem?_eq_getElem hj)⟩,hf j⟩
section
variable {P:Program} {ops:Array Oper} {rest:List Oper} {o:Oper} {a:Go.Act} {Q:Exit->Go.Act->World->Prop}
theorem seg_ev {W:World} {t:TypeId} (hgd:o.guard=none) (hN:o.dst=none) (p x:Operand) (ho:o.op= .store t p x) {g off:Nat} (hp:a.eval p= .pointer (some ⟨g,off,none⟩)) (seg:List Value) (hx:a.eval x= .agg seg.toArray) (hi:(P.info? t).map (·.size)=some seg.length) (h1:∀ v ∈ seg,v.oneCell'=true)
  (hr:∀ j,j < seg.length->(W.cell? ⟨g,off+j,none⟩).isSome=true/\W.frozen? ⟨g,off+j,none⟩=false) (h:∀ w1,w1=W.setCells g off seg->wpList P ops Q rest a w1):wpList P ops Q (o :: rest) a W:=by
 refine wpList_store_mid hgd t p x ho g off seg.toArray hp hx (fun j hj=>hr j (by simpa using hj)) (by simpa using hi) (all_oneCell_toArray h1) ?_;simp only [hN,Go.Act.put];exact h _ rfl
end
theorem grown_below {W W1:World} (h:W.grownBy W1 none):Below W.heap.size W W1:=⟨h.os,h.tape,h.output,h.size,fun k hk=>h.block k hk (by simp)⟩
theorem R_cells {α:Type} {d:Kd α} {e base:Nat} {ok:Nat->Prop} {W:World} {v:Value} {xs:List α} (h:d.R e W base ok v xs):v.cells= #[v]:=by
 obtain ⟨A,c,rfl⟩:=Kd.R_slice h;rfl
theorem R_oneCell {α:Type} {d:Kd α} {e base:Nat} {ok:Nat->Prop} {W:World} {v:Value} {xs:List α} (h:d.R e W base ok v xs):v.oneCell'=true:=by
 obtain ⟨A,c,rfl⟩:=Kd.R_slice h;rfl
section
variable {w0:World} {g:Nat} {own:Nat->Nat} {vp vb:Value} {p:Prog} {s:Sys} {vc vt vl:Value}
theorem again_calls (i:Nat) (w:World) (h:St 152 w0 g own vp vb p s vc vt vl w) (hi:i < s.tasks.length) (hn:s.tasks.length<=1048576) (hm:s.cells.length<=1048576) (ho:(tk s i).old.length<=1048576):
  Calls Try.prog 159 #[.pointer (some ⟨g,0,none⟩),.int .i64 i] w fun e w'=>e= .returned (.tuple #[])/\∃ own',St 152 w0 g own' vp vb p (again s i) vc vt vl w'/\Fr w.heap.size own own' w w':=by
 have H:=am h;clear h;go_enter Try.func159,Try.ntmps159;go_wp2_with (go_at_call 165;refine (free_calls i _ H.out hi hn hm).mono ?_;rintro e w1 ⟨rfl,h1,f1⟩;have H1:=am h1;have F1:=am f1;clear H h1 f1)
 have hi1:i < (free s i).tasks.length:=hi;have ho1:(tk (free s i) i).old.length<=1048576:=ho;have hn1:(free s i).tasks.length<=1048576:=hn;clear ho hi hn hm;generalize hs1:free s i=s1 at H1 hi1 ho1 hn1;obtain ⟨b,cap,rfl,hb3,hbg⟩:=H1.out.tform (by omega);obtain ⟨v3,v8,v9,v10,hcc,hf,hTM⟩:=H1.out.task' hi1;obtain ⟨u3,u8,u9,u10,he,-,h8,-,-⟩:=kTaskO_open hTM;simp only [cellsT,List.cons.injEq,true_and] at he;obtain ⟨rfl,rfl,rfl,rfl,-⟩:=he;obtain ⟨A8,c8,rfl,hl8,C8⟩:=Kd.R_reads h8;obtain ⟨A0,c0,rfl⟩:=H1.out.cslice;obtain ⟨A3,c3,rfl⟩:=H1.out.lslice;have c_old:=hcc 8 _ rfl;have q0:(0:Int)<=(i:Int):=by omega
 have q1:(i:Int) < (s1.tasks.length:Int):=by omega
 have C8a:=am C8;clear hcc hf hTM h8 C8 hl8;refine st9 (n:=20) (S:=fun W=>W.heap[g]? = some (.cells #[vp,vb,.slice A0 s1.cells.length c0,.slice (some ⟨b,0,none⟩) s1.tasks.length cap,.int .i64 s1.clock,.slice A3 s1.log.length c3] 152 (0,0))/\W.cell? ⟨b,i*13+8,none⟩=some (.slice A8 (tk s1 i).old.length c8)) (ds:= [17,18,19]) (by kernel_rfl) rfl ⟨blk_drew H1.out.blk,c_old⟩ (fun hHeld=> ?_);have hb:=below_drew (Below.refl w1.heap.size w1);generalize w1.drew=w2 at hb hHeld ⊢;have H2:=am (H1.out.grow hb);have F2:=am (F1.out.trans (Fr.less (Fr.below hb) F1.out.size));have C8b:=am (Kd.C_below C8a.out hb);clear H1 F1 C8a hb c_old;refine ba9 (fuel:=5) (n:=15) [0,1,2,3,4,5,7,8,9,10,11,12,13,14,15] (by kernel_rfl) (fun N _ _ _ _ h=>by cases N <;> exact h) hHeld ?_
 iterate 15 (
  refine stillS_step (v:= ?_) (a':= ?_) rfl (Or.inl ⟨by rfl, ?_⟩) ?_ ?_;rotate_left
  ·rintro W ⟨s0,s2⟩
   have t0:=zc8 s0;clear s0;go_simp;with_reducible rfl
  rotate_left
  ·simp only [Act.put,sA,sZ,sS,i64_w]
   rfl)
 refine stillS_nil ?_;refine on9 (i:=6) (N:=some 13) rfl rfl (by kernel_rfl) (by decide) (fun K hK=> ?_);refine Kd.R_lit_step (w0:=w0) (Kd.int .i64) w0.heap.size 3 (by rfl) (N:=13) rfl (xs:=([]:List Int)) (inner:= []) (ok:=fun k=>own k=0/\w.heap.size<=k) (okp:=fun _=>False) (by go_simp<;>rfl) (Reps.none _ _) (fun _ hk=>hk.elim) ⟨H2.out.new0 _ (Nat.le_refl _),F2.out.size⟩ H2.out.below H2.out.below.size (by simp) ?_;intro v1 w3 hv1 hb3' hg3 hat3;have hb:=grown_below hg3;refine hK.out _ _ ⟨zb8 hHeld.1 hb,((bcell hb).1 _ _ (World.block_lt_of_cell? _ _ hHeld.2)).trans hHeld.2⟩ (fun hHeld=> ?_);clear hK K;refine norm_ (a':= ?_) ?_ ?_;rotate_left
 ·show Act.put _ (some 13) _=_
  simp only [Act.put,sA,sZ,sS,i64_w];rfl
 have H3:=am (H2.out.grow hb);have F3:=am (F2.out.trans (Fr.less (Fr.below hb) F2.out.size));have C8c:=am (Kd.C_below C8b.out hb);have V1:=am hv1;clear H2 F2 C8b hb hb3' hg3 hv1;refine on9 (i:=16) (N:=some 23) rfl rfl (by kernel_rfl) (by decide) (fun K hK=> ?_);refine Kd.R_append_rows_step (Kd.int .i64) (Rr:=(Kd.int .i64).K w3) (w0:=w0) w0.heap.size (by rfl) (.tmp 13) (.tmp 22) 29 3 (.int .i64 0) 8 rfl Try.underlying29 info_int rfl (by decide) (by decide) v1 [] (tk s1 i).old A8 (tk s1 i).old.length c8 (fun k=>own k=0/\w.heap.size<=k) (fun _=>False) rfl rfl V1.out C8c.out (fun _ _ h=>h) (fun _ hk=>hk.elim) (fun k hk=>⟨H3.out.new0 k hk,Nat.le_trans F3.out.size hk⟩) H3.out.below H3.out.below.size (by simp;omega) ?_;intro v2 w4 hv2 hb4 hg4 hat4;have hne:∀ k,own k ≠ 0->some k ≠ v1.ownBlock:=fun k hk he=>hk (V1.out.1 k he.symm).1
 have hne2:some b ≠ v1.ownBlock:=hne b (by rw [hb3];decide);refine hK.out _ _ ⟨blk_grown hHeld.1 hg4 (hne g (by rw [H3.out.gown];decide)),hg4.cell hHeld.2 hne2⟩ (fun hHeld=> ?_);clear hK K;refine norm_ (a':= ?_) ?_ ?_;rotate_left
 ·show Act.put _ (some 23) _=_
  simp only [Act.put,sA,sZ,sS,i64_w];rfl
 have H4:=am (H3.out.move hb4 hg4.size (fun k hk hl=>hg4.block k hl (hne k hk)));have F4:=am (F3.out.trans ⟨hg4.os,hg4.tape,hg4.output,hg4.size,fun _ _ h=>h,fun k hl hk=>hg4.block k (Nat.lt_of_lt_of_le hl F3.out.size) (fun he=>by have:=(V1.out.1 k he.symm).2;omega)⟩);have V2:=am hv2;clear H3 F3 C8c hb4 hg4 hv2 hat4 hat3 V1 hne hne2;obtain ⟨u3,u8,u9,u10,hcc,hf,-⟩:=H4.out.task' hi1;have c_regs:=hcc 3 _ rfl;have f_regs:=hf 3;have BKc:=zc8 H4.out.blk;clear hcc hf hHeld;refine tail_ (fuel:=3) 17 (by kernel_rfl) ?_;simp only [List.drop_succ_cons,List.drop_zero];clear c_regs f_regs;have H:=H4;have F:=F4;have V:=V2;clear H4 F4 V2;obtain ⟨ownc,hownc⟩:∃ o:Nat->Nat,o=own:=⟨_,rfl⟩;rw [<-hownc] at H V;replace F:=am (show Fr w.heap.size own ownc w w4 by rw [hownc];exact F.out);clear hownc
 go_wp2_with (first
 |((with_reducible refine gate_store (t:=29) (p:=25) rfl ?_);refine set_ev (u:=v2) rfl rfl _ _ rfl rfl rfl (R_cells V.out) (R_oneCell V.out) (by kernel_rfl) (H.out.ready (i:=i) (by first|exact hi1 | exact hi|(rw [set_len];exact hi1)) 3 (by decide)) ?_;intro wn hwn;obtain ⟨ownc,k1,k2,-⟩:=H.out.setRegsE (B:=w.heap.size) (i:=i) (by first|exact hi1 | exact hi|(rw [set_len];exact hi1)) V.out;rw [<-hwn] at k1 k2;replace F:=am (F.out.trans k2);(try rw [set_set,tk_set hi1] at k1);replace H:=am k1;clear BKc V k1 k2 hwn;have BKc:=zc8 H.out.blk)
 |((with_reducible refine gate_dst (N:=32) rfl ?_);refine Kd.R_lit (w0:=w0) kPut w0.heap.size 103 rfl (N:=32) rfl (xs:=([]:List Put)) (inner:= []) (ok:=fun k=>ownc k=0/\w.heap.size<=k) (okp:=fun _=>False) (by go_simp<;>rfl) (Reps.none _ _) (fun _ hk=>hk.elim) ⟨H.out.new0 _ (Nat.le_refl _),F.out.size⟩ H.out.below H.out.below.size (by simp) ?_;intro v1 wn hv1 hb3 hg3 hat;have hb:=grown_below hg3;have V:=am hv1;replace H:=am (H.out.grow hb);replace F:=am (F.out.trans (Fr.less (Fr.below hb) F.out.size));clear BKc hb3 hg3 hat hb hv1;have BKc:=zc8 H.out.blk)
 |((with_reducible refine gate_store (t:=36) (p:=34) rfl ?_);refine set_ev (u:=v1) rfl rfl _ _ rfl rfl rfl (R_cells V.out) (R_oneCell V.out) (by kernel_rfl) (H.out.ready (i:=i) (by first|exact hi1 | exact hi|(rw [set_len];exact hi1)) 9 (by decide)) ?_;intro wn hwn;obtain ⟨ownc,k1,k2,-⟩:=H.out.setReadsE (B:=w.heap.size) (i:=i) (by first|exact hi1 | exact hi|(rw [set_len];exact hi1)) V.out;rw [<-hwn] at k1 k2;replace F:=am (F.out.trans k2);(try rw [set_set,tk_set hi1] at k1);replace H:=am k1;clear BKc V k1 k2 hwn;have BKc:=zc8 H.out.blk)
 |((with_reducible refine gate_dst (N:=41) rfl ?_);refine Kd.R_lit (w0:=w0) kPut w0.heap.size 103 rfl (N:=41) rfl (xs:=([]:List Put)) (inner:= []) (ok:=fun k=>ownc k=0/\w.heap.size<=k) (okp:=fun _=>False) (by go_simp<;>rfl) (Reps.none _ _) (fun _ hk=>hk.elim) ⟨H.out.new0 _ (Nat.le_refl _),F.out.size⟩ H.out.below H.out.below.size (by simp) ?_;intro v1 wn hv1 hb3 hg3 hat;have hb:=grown_below hg3;have V:=am hv1;replace H:=am (H.out.grow hb);replace F:=am (F.out.trans (Fr.less (Fr.below hb) F.out.size));clear BKc hb3 hg3 hat hb hv1;have BKc:=zc8 H.out.blk)
 |((with_reducible refine gate_store (t:=36) (p:=43) rfl ?_);refine set_ev (u:=v1) rfl rfl _ _ rfl rfl rfl (R_cells V.out) (R_oneCell V.out) (by kernel_rfl) (H.out.ready (i:=i) (by first|exact hi1 | exact hi|(rw [set_len];exact hi1)) 10 (by decide)) ?_;intro wn hwn;obtain ⟨ownc,k1,k2,-⟩:=H.out.setPutsE (B:=w.heap.size) (i:=i) (by first|exact hi1 | exact hi|(rw [set_len];exact hi1)) V.out;rw [<-hwn] at k1 k2;replace F:=am (F.out.trans k2);(try rw [set_set,tk_set hi1] at k1);replace H:=am k1;clear BKc V k1 k2 hwn;have BKc:=zc8 H.out.blk)
 |((with_reducible refine gate_store (t:=3) (p:=51) rfl ?_);refine set_ev (u:=.int .i64 0) rfl rfl _ _ rfl rfl rfl rfl rfl (by kernel_rfl) (H.out.ready (i:=i) (by first|exact hi1 | exact hi|(rw [set_len];exact hi1)) 11 (by decide)) ?_;intro wn hwn;obtain ⟨k1,k2⟩:=H.out.setInt (B:=w.heap.size) (i:=i) (by first|exact hi1 | exact hi|(rw [set_len];exact hi1)) 11 (by decide) 0 {tk s1 i with regs:=(tk s1 i).old,reads:= [],puts:= [],when_:=0} (fun _ _ _ _=>by first|rfl|(rw [tk_set (by assumption)];rfl)) (by first|exact ⟨rfl,rfl,rfl,rfl⟩|(rw [tk_set (by assumption)];exact ⟨rfl,rfl,rfl,rfl⟩));rw [<-hwn] at k1 k2;replace F:=am (F.out.trans k2);(try rw [set_set] at k1);replace H:=am k1;clear BKc k1 k2 hwn;have BKc:=zc8 H.out.blk)
 |(go_at_call 154;refine (stage_calls i 0 _ H.out (by rw [set_len];exact hi1) (by rw [set_len];exact hn1)).mono ?_;rintro e wn ⟨rfl,h1,f1⟩;have H2:=am h1;have F2:=am (F.out.trans (Fr.less f1 F.out.size));clear H F BKc h1 f1))
 refine bodyPost_end (results_none rfl _ _ _) rfl ?_;refine ⟨rfl,_, ?_,F2.out⟩;have h:=H2.out;unfold toStage at h;rw [set_set,tk_set hi1] at h;unfold again;rw [hs1];exact h
end
theorem still_load {P:Program} {ops:Array Oper} {w:World} {Q:Go.Act->Prop} {op:Oper} {rest:List Oper} {a:Go.Act} (hgd:op.guard=none) (ty:TypeId) (x:Operand) (ho:op.op= .load ty x) (b o:Nat) (hx:a.eval x= .pointer (some ⟨b,o,none⟩)) (cs:List Value) (d:TypeDesc) (hc:w.rangeAt b o cs)
  (hu:P.underlying ty=some d) (hd:d.isRow=true) (hi:(P.info? ty).map (·.size)=some cs.length) (h:wpStill P ops w Q rest (a.put op.dst (.agg cs.toArray))):wpStill P ops w Q (op :: rest) a:=by
 refine wpStill_step (fun K hK=> ?_);rw [if_pos (by simp [Region.wanted,hgd])];unfold Oper.still execOp;simp only [ho,hx,Instr.loadAt,Instr.sureAddr,Sem.run_bind,Sem.run_pure,Result.andThen_ok,run_loadVar_mid w b o ty cs d hc hu hd hi];exact ⟨rfl,hK _ h⟩
section
variable {T B:Nat} {w0:World} {g:Nat} {own:Nat->Nat} {vp vb:Value} {p:Prog} {s:Sys} {vc vt vl:Value} {W W1:World}
theorem St.setAllOld {b cap n:Nat} (h:St T w0 g own vp vb p s vc (.slice (some ⟨b,0,none⟩) n cap) vl W) {i:Nat} (hi:i < s.tasks.length) {v:Value} {xs:List Int} (hv:(Kd.int .i64).R 3 W w0.heap.size (fun k=>own k=0/\B<=k) v xs)
  {v3 v8 v9 v10:Value} (hc:∀ j u,(cellsT (tk s i) v3 v8 v9 v10)[j]? = some u->W.cell? ⟨b,i*13+j,none⟩=some u) (x':Task) (hx:x'.regs=(tk s i).regs/\x'.old=xs/\x'.reads=(tk s i).reads/\x'.puts=(tk s i).puts):
  ∃ own',St T w0 g own' vp vb p (setTask s i x') vc (.slice (some ⟨b,0,none⟩) n cap) vl (W.setCells b (i*13) (cellsT x' v3 v v9 v10))/\Fr B own own' W (W.setCells b (i*13) (cellsT x' v3 v v9 v10)):=by
 have ht:=h.tag (t:=9+8*i) (fun k hk=>⟨(R_in hv k hk).1.1,(R_in hv k hk).2⟩);have h1:=h.retag ht;have hv1:=R_flat flat_int hv (ok':=fun k=>8<=tagB own v.ownBlock (9+8*i) k/\tagB own v.ownBlock (9+8*i) k=9+8*i) (fun k hk=>by rw [tagB_at hk];omega)
 obtain ⟨u3,u8,u9,u10,hc1,_,hM⟩:=h1.task' hi;obtain ⟨y3,y8,y9,y10,he,h3,h8,h9,h10⟩:=kTaskO_open hM;simp only [cellsT,List.cons.injEq,true_and] at he;obtain ⟨rfl,rfl,rfl,rfl,-⟩:=he;have e3:u3=v3:=Option.some.inj ((hc1 3 _ rfl).symm.trans (hc 3 _ rfl));have e9:u9=v9:=Option.some.inj ((hc1 9 _ rfl).symm.trans (hc 9 _ rfl));have e10:u10=v10:=Option.some.inj ((hc1 10 _ rfl).symm.trans (hc 10 _ rfl));subst e3 e9 e10
 obtain ⟨k1,k2⟩:=h1.seg hi (c:=cellsT (tk s i) u3 u8 u9 u10) (seg:=cellsT x' u3 v u9 u10) (j:=0) (x':=x') rfl hc1 (by simp [cellsT]) (by
  have hM:=kTaskO_mk (own:=tagB own v.ownBlock (9+8*i)) (w:=W) (base:=w0.heap.size) (ok:=fun k=>8<=tagB own v.ownBlock (9+8*i) k) x' i (by rw [hx.1];exact h3) (by rw [hx.2.1];exact hv1) (by rw [hx.2.2.1];exact h9) (by rw [hx.2.2.2];exact h10)
  simpa [cellsT] using hM)
 refine ⟨_,k1,Fr.trans (Fr.tagged W fun k hk h0=> ?_) k2⟩;unfold tagB;split
 ·rename_i he
  have:=(R_in hv k he).1.2
  omega
 ·exact h0
end
structure New4 (base:Nat) (W:World) (v3 v8 v9 v10:Value):Prop where
 regs:(Kd.int .i64).R 3 W base (fun _=>True) v3 [0,0,0]
 old:(Kd.int .i64).R 3 W base (fun _=>True) v8 [0,0,0]
 reads:kPut.R 103 W base (fun _=>True) v9 []
 puts:kPut.R 103 W base (fun _=>True) v10 []
 ne38:v3.ownBlock ≠ v8.ownBlock
 ne39:v3.ownBlock ≠ v9.ownBlock
 ne310:v3.ownBlock ≠ v10.ownBlock
 ne89:v8.ownBlock ≠ v9.ownBlock
 ne810:v8.ownBlock ≠ v10.ownBlock
 ne910:v9.ownBlock ≠ v10.ownBlock
def newCells (body up:Int) (v3 v8 v9 v10:Value):Array Value:=#[.int .i64 body,.int .i64 0,.int .i64 up,v3,.int .i64 0,.int .i64 0,.int .i64 0,.int .i64 0,v8,v9,v10,.int .i64 0,.int .i64 0]
theorem l11Task_calls (body up:Int) (w:World):
  Calls Try.prog 135 #[.int .i64 body,.int .i64 up] w fun e w'=>∃ v3 v8 v9 v10,e= .returned (.agg (newCells body up v3 v8 v9 v10))/\New4 w.heap.size w' v3 v8 v9 v10/\Below w.heap.size w w':=by
 go_enter Try.func135,Try.ntmps135
 go_wp2_with (first
 |((with_reducible refine gate_dst (N:=4) rfl ?_);refine box_event rfl (N:=4) rfl (t:=38) (by go_simp<;>rfl) ?_;intro gt hg w2 hbox hb;have BK:=am hbox;have GT:=am hg;have HB:=am hb;clear hbox hb hg))
 refine st9 (n:=8) (S:=fun W=>W.heap[gt]? = some (.cells #[.int .i64 0,.int .i64 0,.int .i64 0,.slice none 0 0,.int .i64 0,.int .i64 0,.int .i64 0,.int .i64 0,.slice none 0 0,.slice none 0 0,.slice none 0 0,.int .i64 0,.int .i64 0] 38 (0,0))) (ds:= [6,7]) (by kernel_rfl) rfl (blk_drew BK.out) (fun hHeld=> ?_);have hb:=below_drew (Below.refl w2.heap.size w2);generalize w2.drew=w4 at hb hHeld ⊢;have HB4:=am (below_step HB.out hb);refine ba9 (fuel:=6) (n:=2) [0,1] (by kernel_rfl) (fun N _ _ _ _ h=>by cases N <;> exact h) hHeld ?_
 iterate 2 (
  refine stillS_step (v:= ?_) (a':= ?_) rfl (Or.inl ⟨by rfl, ?_⟩) ?_ ?_;rotate_left
  ·intro W hW
   go_simp
   with_reducible rfl
  rotate_left
  ·simp only [Act.put,sA,sZ,sS,i64_w]
   rfl)
 refine stillS_nil ?_
 refine allocs_ (fuel:=2) (l':=#[true,true,true,true,true,true,false,false]) 4 (fun D=>⟨#[.int .i64 body,.int .i64 up,undef,undef,.pointer (some ⟨gt,0,none⟩),.int .i64 body,.int .i64 up,D 2,D 3,D 4,D 5,undef], []⟩) [2,3,4,5]
  (fun q W v=>if q < 4 then (Kd.int .i64).R 3 W w4.heap.size (fun _=>True) v [0,0,0] else kPut.R 103 W w4.heap.size (fun _=>True) v []) (by kernel_rfl) (fun W hW=>zb8 hHeld hW) (fun q W W1 v h hb=> ?_) (fun x hx=> ?_) (fun D W hW hR hne=> ?_) (fun _=>undef)
 ·split at h
  ·rw [if_pos (by assumption)]
   exact Kd.R_below h hb
  ·rw [if_neg (by assumption)]
   exact Kd.R_below h hb
 ·simp only [List.mem_cons,List.not_mem_nil,or_false] at hx
  rcases hx with rfl|rfl|rfl|rfl
  ·refine ⟨_,rfl,by decide,fun D v=>rfl,fun D W K hW hK=> ?_⟩
   refine Kd.R_make_step (w0:=W) (Kd.int .i64) W.heap.size 3 (by rfl) (N:=7) rfl 29 (.const (.int .i64 3)) (.const (.int .i64 3)) rfl 3 rfl rfl Try.underlying29 (.int .i64 0) 8 info_int rfl (by decide) (by decide) (0:Int) (ok:=fun _=>True) (okp:=fun _=>False) rfl (fun _ h=>h.elim) trivial (by decide) (by decide) (Below.refl _ _) (Nat.le_refl _) (fun v W1 hR hb hg hat=> ?_);obtain ⟨b,hb1,hb2⟩:=hat;exact hK v W1 hb (by rw [if_pos (by decide)];exact Kd.R_lower hR hW.size) ⟨b,hb1,hb2,(R_in hR b hb1).2.2⟩
  ·refine ⟨_,rfl,by decide,fun D v=>rfl,fun D W K hW hK=> ?_⟩
   refine Kd.R_make_step (w0:=W) (Kd.int .i64) W.heap.size 3 (by rfl) (N:=8) rfl 29 (.const (.int .i64 3)) (.const (.int .i64 3)) rfl 3 rfl rfl Try.underlying29 (.int .i64 0) 8 info_int rfl (by decide) (by decide) (0:Int) (ok:=fun _=>True) (okp:=fun _=>False) rfl (fun _ h=>h.elim) trivial (by decide) (by decide) (Below.refl _ _) (Nat.le_refl _) (fun v W1 hR hb hg hat=> ?_);obtain ⟨b,hb1,hb2⟩:=hat;exact hK v W1 hb (by rw [if_pos (by decide)];exact Kd.R_lower hR hW.size) ⟨b,hb1,hb2,(R_in hR b hb1).2.2⟩
  ·refine ⟨_,rfl,by decide,fun D v=>rfl,fun D W K hW hK=> ?_⟩
   refine Kd.R_lit_step (w0:=W) kPut W.heap.size 103 (by rfl) (N:=9) rfl (xs:=([]:List Put)) (inner:= []) (ok:=fun _=>True) (okp:=fun _=>False) (by go_simp<;>rfl) (Reps.none _ _) (fun _ h=>h.elim) trivial (Below.refl _ _) (Nat.le_refl _) (by simp) (fun v W1 hR hb hg hat=> ?_);obtain ⟨b,hb1,hb2⟩:=hat;exact hK v W1 hb (by rw [if_neg (by decide)];exact Kd.R_lower hR hW.size) ⟨b,hb1,hb2,(R_in hR b hb1).2.2⟩
  ·refine ⟨_,rfl,by decide,fun D v=>rfl,fun D W K hW hK=> ?_⟩
   refine Kd.R_lit_step (w0:=W) kPut W.heap.size 103 (by rfl) (N:=10) rfl (xs:=([]:List Put)) (inner:= []) (ok:=fun _=>True) (okp:=fun _=>False) (by go_simp<;>rfl) (Reps.none _ _) (fun _ h=>h.elim) trivial (Below.refl _ _) (Nat.le_refl _) (by simp) (fun v W1 hR hb hg hat=> ?_);obtain ⟨b,hb1,hb2⟩:=hat;exact hK v W1 hb (by rw [if_neg (by decide)];exact Kd.R_lower hR hW.size) ⟨b,hb1,hb2,(R_in hR b hb1).2.2⟩
 ·have r2:=(hR 2 (by simp)).1
  have r3:=(hR 3 (by simp)).1;have r4:=(hR 4 (by simp)).1;have r5:=(hR 5 (by simp)).1;have n23:=hne 2 (by simp) 3 (by simp) (by decide);have n24:=hne 2 (by simp) 4 (by simp) (by decide);have n25:=hne 2 (by simp) 5 (by simp) (by decide);have n34:=hne 3 (by simp) 4 (by simp) (by decide);have n35:=hne 3 (by simp) 5 (by simp) (by decide);have n45:=hne 4 (by simp) 5 (by simp) (by decide);rw [if_pos (by decide)] at r2 r3;rw [if_neg (by decide)] at r4 r5;clear hR hne;generalize D 2=v3 at*;generalize D 3=v8 at*;generalize D 4=v9 at*;generalize D 5=v10 at*;obtain ⟨A3,c3,e3⟩:=Kd.R_slice r2;obtain ⟨A8,c8,e8⟩:=Kd.R_slice r3;obtain ⟨A9,c9,e9⟩:=Kd.R_slice r4;obtain ⟨A10,c10,e10⟩:=Kd.R_slice r5;change v3= .slice A3 3 c3 at e3;change v8= .slice A8 3 c8 at e8;change v9= .slice A9 0 c9 at e9;change v10= .slice A10 0 c10 at e10;subst e3 e8 e9 e10;have BK5:=am (zb8 hHeld hW);have HB5:=am (below_step HB4.out hW);have NN:=am (And.intro n23 (And.intro n24 (And.intro n25 (And.intro n34 (And.intro n35 n45)))));have SZ:=am HB4.out.size;have GL:=am (show gt < w4.heap.size from blk_lt hHeld);have RB:=am (And.intro (Kd.R_bound r2) (And.intro (Kd.R_bound r3) (And.intro (Kd.R_bound r4) (Kd.R_bound r5))));clear r2 r3 r4 r5 n23 n24 n25 n34 n35 n45 hHeld hW HB HB4 BK hb;refine tail_ (fuel:=2) 6 (by kernel_rfl) ?_;simp only [List.drop_succ_cons,List.drop_zero]
  go_wp2_with (first
  |((with_reducible refine gate_store (t:=38) (p:=4) rfl ?_);refine store_block rfl rfl 38 (.tmp 4) (.tmp 11) rfl rfl rfl BK5.out rfl (by kernel_rfl) (aB rfl) ?_;intro w5 hbox hg;have BK6:=am hbox;have HG:=am hg;clear hbox hg))
  refine bodyPost_ret (results_single Try.results135 (.cell gt 38 #[.int .i64 body,.int .i64 0,.int .i64 up,.slice A3 3 c3,.int .i64 0,.int .i64 0,.int .i64 0,.int .i64 0,.slice A8 3 c8,.slice A9 0 c9,.slice A10 0 c10,.int .i64 0,.int .i64 0] (0,0) _ rfl BK6.out Try.underlying38 rfl (by kernel_rfl) .nil)) rfl ?_;refine ⟨_,_,_,_,rfl, ?_,pw_below_grown HB5.out _ HB5.out.size HG.out (fun z hz=>by cases hz;exact Nat.le_of_eq GT.out.symm)⟩;obtain ⟨n1,n2,n3,n4,n5,n6⟩:=NN.out;obtain ⟨r1,r2,r3,r4⟩:=RB.out;have far:∀ k,w4.heap.size<=k->k < W.heap.size->w5.heap[k]? = W.heap[k]? :=fun k hk hl=>HG.out.block k hl (fun he=>by injection he with he;have:=GL.out;omega)
  exact ⟨Kd.R_lower (Kd.R_mono (Kd.R_step r1 (fun k hk hl=>far k hk.2.1 hl)) (fun _ _=>trivial)) SZ.out,Kd.R_lower (Kd.R_mono (Kd.R_step r2 (fun k hk hl=>far k hk.2.1 hl)) (fun _ _=>trivial)) SZ.out,Kd.R_lower (Kd.R_mono (Kd.R_step r3 (fun k hk hl=>far k hk.2.1 hl)) (fun _ _=>trivial)) SZ.out,Kd.R_lower (Kd.R_mono (Kd.R_step r4 (fun k hk hl=>far k hk.2.1 hl)) (fun _ _=>trivial)) SZ.out,n1,n2,n3,n4,n5,n6⟩
def newList (body up:Int) (v3 v8 v9 v10:Value):List Value:= [.int .i64 body,.int .i64 0,.int .i64 up,v3,.int .i64 0,.int .i64 0,.int .i64 0,.int .i64 0,v8,v9,v10,.int .i64 0,.int .i64 0]
def tag4 (own:Nat->Nat) (v3 v8 v9 v10:Value) (L:Nat):Nat->Nat:=tagB (tagB (tagB (tagB own v3.ownBlock (8+8*L)) v8.ownBlock (9+8*L)) v9.ownBlock (10+8*L)) v10.ownBlock (11+8*L)
theorem tagB_off {own:Nat->Nat} {b:Option Nat} {t k:Nat} (h:b ≠ some k):tagB own b t k=own k:=by simp [tagB,h]
theorem tag4_is {own:Nat->Nat} {v3 v8 v9 v10:Value} {L B:Nat} {W:World} (hN:New4 B W v3 v8 v9 v10):
  (∀ k,v3.ownBlock=some k->tag4 own v3 v8 v9 v10 L k=8+8*L)/\(∀ k,v8.ownBlock=some k->tag4 own v3 v8 v9 v10 L k=9+8*L)/\(∀ k,v9.ownBlock=some k->tag4 own v3 v8 v9 v10 L k=10+8*L)/\(∀ k,v10.ownBlock=some k->tag4 own v3 v8 v9 v10 L k=11+8*L)/\
  ∀ k,(v3.ownBlock ≠ some k/\v8.ownBlock ≠ some k/\v9.ownBlock ≠ some k/\v10.ownBlock ≠ some k)->tag4 own v3 v8 v9 v10 L k=own k:=by
 unfold tag4;refine ⟨fun k hk=> ?_,fun k hk=> ?_,fun k hk=> ?_,fun k hk=> ?_,fun k hk=> ?_⟩
 ·rw [tagB_off (by rw [<-hk];exact Ne.symm hN.ne310),tagB_off (by rw [<-hk];exact Ne.symm hN.ne39),tagB_off (by rw [<-hk];exact Ne.symm hN.ne38),tagB_at hk]
 ·rw [tagB_off (by rw [<-hk];exact Ne.symm hN.ne810),tagB_off (by rw [<-hk];exact Ne.symm hN.ne89),tagB_at hk]
 ·rw [tagB_off (by rw [<-hk];exact Ne.symm hN.ne910),tagB_at hk]
 ·rw [tagB_at hk]
 ·rw [tagB_off hk.2.2.2,tagB_off hk.2.2.1,tagB_off hk.2.1,tagB_off hk.1]
theorem New4.range {B:Nat} {W:World} {v3 v8 v9 v10:Value} (h:New4 B W v3 v8 v9 v10) {k:Nat} (hk:¬ (v3.ownBlock ≠ some k/\v8.ownBlock ≠ some k/\v9.ownBlock ≠ some k/\v10.ownBlock ≠ some k)):B<=k/\k < W.heap.size:=by
 refine Classical.byContradiction fun hne=>hk ⟨fun he=>hne (R_in h.regs k he).2,fun he=>hne (R_in h.old k he).2,fun he=>hne (R_in h.reads k he).2,fun he=>hne (R_in h.puts k he).2⟩
section
variable {T B:Nat} {w0:World} {g:Nat} {own:Nat->Nat} {vp vb:Value} {p:Prog} {s:Sys} {vc vt vl:Value} {W W1:World}
theorem New4.row {B' L:Nat} {v3 v8 v9 v10:Value} (hN:New4 B' W v3 v8 v9 v10) (hB:B<=B') (body up:Int):
  (kTaskO (tag4 own v3 v8 v9 v10 L)).M W B (fun k=>8<=tag4 own v3 v8 v9 v10 L k) (newTask body up,L) (newList body up v3 v8 v9 v10):=by
 obtain ⟨t3,t8,t9,t10,-⟩:=tag4_is (own:=own) (L:=L) hN;exact kTaskO_mk (newTask body up) L (Kd.R_lower (R_flat flat_int hN.regs (fun k hk=>⟨by rw [t3 k hk];omega,t3 k hk⟩)) hB) (Kd.R_lower (R_flat flat_int hN.old (fun k hk=>⟨by rw [t8 k hk];omega,t8 k hk⟩)) hB) (Kd.R_lower (R_flat flat_put hN.reads (fun k hk=>⟨by rw [t9 k hk];omega,t9 k hk⟩)) hB) (Kd.R_lower (R_flat flat_put hN.puts (fun k hk=>⟨by rw [t10 k hk];omega,t10 k hk⟩)) hB)
theorem St.newTags {B' L:Nat} {v3 v8 v9 v10:Value} (h:St T w0 g own vp vb p s vc vt vl W) (hN:New4 B' W v3 v8 v9 v10) (h0:∀ k,B'<=k->own k=0) (hB:w0.heap.size<=B') (hBB:B<=B'):
  St T w0 g (tag4 own v3 v8 v9 v10 L) vp vb p s vc vt vl W/\Fr B own (tag4 own v3 v8 v9 v10 L) W W:=by
 have hoff:=(tag4_is (own:=own) (L:=L) hN).2.2.2.2;have hlow:∀ k,k < B'->tag4 own v3 v8 v9 v10 L k=own k:=fun k hk=>hoff k (Classical.byContradiction fun hne=>by have:=(hN.range hne).1;omega)
 have ht:Tag w0 own (tag4 own v3 v8 v9 v10 L) W:=by
  refine ⟨fun k hk=>hoff k (Classical.byContradiction fun hne=>hk (h0 k (hN.range hne).1)),fun k hk=>(hlow k (by omega)).trans (h.old0 k hk),fun k hk=>(hoff k (Classical.byContradiction fun hne=>by have:=(hN.range hne).2;omega)).trans (h.new0 k hk)⟩
 exact ⟨h.retag ht,Fr.tagged W fun k hk hz=>(hlow k (by omega)).trans hz⟩
theorem St.tasksSet (h:St T w0 g own vp vb p s vc vt vl W) (hb:Below w0.heap.size w0 W1) (hBW:B<=W.heap.size) (hg:W.grownBy W1 vt.ownBlock) {v1:Value} {ts':List Task}
  (hr:(kTaskO own).R 38 W1 w0.heap.size (fun k=>(own k=3\/8<=own k)\/(own k=0/\B<=k)) v1 ts'.zipIdx) (hv:v1.ownBlock=vt.ownBlock\/∃ b,v1.ownBlock=some b/\W.heap.size<=b):
  ∃ own',St T w0 g own' vp vb p {s with tasks:=ts'} vc v1 vl (W1.setCell ⟨g,3,none⟩ v1)/\Fr B own own' W (W1.setCell ⟨g,3,none⟩ v1):=by
 have hvt:∀ k,vt.ownBlock=some k->own k=3:=h.town
 have hv1:∀ k,v1.ownBlock=some k->own k=3\/(own k=0/\W.heap.size<=k):=fun k hk=>by
  rcases hv with he | ⟨b,he,hl⟩
  ·exact .inl (hvt k (he ▸ hk))
  ·rw [he] at hk
   injection hk with hk;subst hk;exact .inr ⟨h.new0 _ hl,hl⟩
 have hg0:w0.heap.size<=g:=Nat.le_of_not_lt fun hlt=>by have:=h.gown;rw [h.old0 g hlt] at this;cases this
 have hne:∀ k,own k ≠ 3->some k ≠ vt.ownBlock:=fun k hk he=>hk (hvt k he.symm)
 have hfar:∀ k,own k ≠ 3->own k ≠ 1->k < W.heap.size->(W1.setCell ⟨g,3,none⟩ v1).heap[k]? = W.heap[k]? :=fun k h3 h1 hl=>
  (Below.heap_setCell W1 ⟨g,3,none⟩ v1 k (fun he=>h1 (by rw [show k=g from he];exact h.gown))).trans (hg.block k hl (hne k h3))
 have hsame:∀ k,own k ≠ 0->tagB own v1.ownBlock 3 k=own k:=fun k hk=>by
  by_cases he:v1.ownBlock=some k
  ·rw [tagB_at he]
   rcases hv1 k he with h3 | h3
   ·exact h3.symm
   ·exact absurd h3.1 hk
  ·exact tagB_off he
 have hblk:W1.heap[g]? = _:=(hg.block g (blk_lt h.blk) (hne g (by rw [h.gown];decide))).trans h.blk
 have hrf:=Kd.R_far (p:=⟨g,3,none⟩) hr (fun k hk he=>by
  rw [show k=g from he,h.gown] at hk;omega) v1
 refine ⟨tagB own v1.ownBlock 3,⟨below_set hb hg0,fun k hk=> ?_,fun k hk=> ?_,h.prog,(hsame g (by rw [h.gown];decide)).trans h.gown, ?_,
  Kd.R_mono (Kd.R_step h.cells (fun k hk hl=>hfar k (by omega) (by omega) hl)) (fun k hk=>by rw [hsame k (by omega)];exact hk), ?_,fun k hk=>tagB_at hk,
  Kd.R_mono (Kd.R_step h.log (fun k hk hl=>hfar k (by omega) (by omega) hl)) (fun k hk=>by rw [hsame k (by omega)];exact hk)⟩,
  ⟨hg.os,hg.tape,hg.output,by simpa [World.setCell] using hg.size,fun k hk h0=> ?_,fun k hk h0=>hfar k (by omega) (by omega) (by omega)⟩⟩
 ·refine (tagB_off fun he=> ?_).trans (h.old0 k hk)
  rcases hv1 k he with h3 | h3
  ·rw [h.old0 k hk] at h3
   cases h3
  ·have:=h.below.size
   omega
 ·have hk':W1.heap.size<=k:=by simpa [World.setCell] using hk
  refine (tagB_off fun he=> ?_).trans (h.new0 k (Nat.le_trans hg.size hk'))
  have:=(R_in hr k he).2.2
  omega
 ·have:=blk_set hblk 3 v1
  simpa using this
 ·refine ⟨fun k hk=> .inl (tagB_at hk),hrf.2.imp_ (fun x cs hp=> ?_)⟩
  have h1:=kTaskO_ok hp;have h2:=kTaskO_own (own':=tagB own v1.ownBlock 3) (fun k _ hk=>hsame k (by omega)) h1;refine (kTaskO (tagB own v1.ownBlock 3)).M_mono (fun k hk=> ?_) (kTaskO_ok h2);refine ⟨.inr hk,fun he=> ?_⟩;rw [tagB_at he.symm] at hk;omega
 ·refine (tagB_off fun he=> ?_).trans h0
  rcases hv1 k he with h3 | h3
  ·omega
  ·omega
end
section
variable {w0:World} {g:Nat} {own:Nat->Nat} {vp vb:Value} {p:Prog} {s:Sys} {vc vt vl:Value}
theorem blind_calls (i:Nat) (cell:Int) (w:World) (h:St 152 w0 g own vp vb p s vc vt vl w) (hi:i < s.tasks.length) (hn:s.tasks.length<=1048576) (hm:s.cells.length<=1048576) (h0:0<=cell) (h1:cell < s.cells.length):
  Calls Try.prog 164 #[.pointer (some ⟨g,0,none⟩),.int .i64 i,.int .i64 cell] w fun e w'=>e= .returned (.bool (blind s i cell))/\Below w.heap.size w w':=by
 obtain ⟨k,rfl⟩:=Int.eq_ofNat_of_zero_le h0;obtain ⟨b,cap,rfl,hb3,hbg⟩:=h.tform (by omega);obtain ⟨v3,v8,v9,v10,hcc,hf,-⟩:=h.task' hi;obtain ⟨bc,capc,rfl,hb2,hbcg⟩:=h.cform (by omega);have hk:k < s.cells.length:=by omega
 obtain ⟨hcl,_⟩:=h.cell hk;obtain ⟨A3,c3,rfl⟩:=h.lslice;have BKc:=zc8 h.blk;have c0:=hcl 0 _ rfl;rw [Nat.add_zero] at c0;have c1:=hcl 1 _ rfl;have c2:=hcl 2 _ rfl;have c_since:=hcc 7 _ rfl;have q0:(0:Int)<=(i:Int):=by omega
 have q1:(i:Int) < (s.tasks.length:Int):=by omega
 have q2:(0:Int)<=(k:Int):=by omega
 have q3:(k:Int) < (s.cells.length:Int):=by omega
 have lt1:=blk_lt h.blk;have lt2:=World.block_lt_of_cell? _ _ c_since;have lt3:=World.block_lt_of_cell? _ _ c0;have HR:blind s i (k:Int)=((decide (0<=(cellAt s.cells k).lock) && !decide ((cellAt s.cells k).lock=i)) || decide ((tk s i).since < (cellAt s.cells k).time)):=rfl;rw [HR];clear HR h hcc hf hcl hb3 hb2;generalize hx0:(cellAt s.cells k).num=x0 at*;generalize hx1:(cellAt s.cells k).time=x1 at*;generalize hx2:(cellAt s.cells k).lock=x2 at*;generalize hx3:(tk s i).since=x3 at*;by_cases hl:0<=x2
 ·have y0:decide (0<=x2)=true:=decide_eq_true hl
  by_cases he:x2=(i:Int)
  ·have y1:(x2 != (i:Int))=false:=by simp [he]
   have HE:=am he;clear he hl;go_enter Try.func164,Try.ntmps164;go_wp2;go_quiet (fail);go_wp2;go_ret;exact ⟨ret_bool (by rw [y0,decide_eq_true HE.out];simp),(by repeat (first|with_reducible exact Below.refl _ _ | with_reducible refine below_drew ?_ | with_reducible refine pw_below_drewN ?_ _ | with_reducible refine below_alloc ?_ _ | with_reducible refine below_set ?_ ?_ | omega))⟩
  ·have y1:(x2 != (i:Int))=true:=by simp [he]
   have HE:=am he;clear he hl;go_enter Try.func164,Try.ntmps164;go_wp2;go_quiet (fail);go_wp2;go_ret;exact ⟨ret_bool (by rw [y0,decide_eq_false HE.out];simp),(by repeat (first|with_reducible exact Below.refl _ _ | with_reducible refine below_drew ?_ | with_reducible refine pw_below_drewN ?_ _ | with_reducible refine below_alloc ?_ _ | with_reducible refine below_set ?_ ?_ | omega))⟩
 ·have y0:decide (0<=x2)=false:=decide_eq_false hl
  have HL:=am hl;clear hl;go_enter Try.func164,Try.ntmps164;go_wp2;go_quiet (fail);go_wp2;go_ret;exact ⟨ret_bool (by rw [y0];simp),(by repeat (first|with_reducible exact Below.refl _ _ | with_reducible refine below_drew ?_ | with_reducible refine pw_below_drewN ?_ _ | with_reducible refine below_alloc ?_ _ | with_reducible refine below_set ?_ ?_ | omega))⟩
end
section
variable {w0:World} {g:Nat} {own:Nat->Nat} {vp vb:Value} {p:Prog} {s:Sys} {vc vt vl:Value}
theorem check_calls (i:Nat) (w:World) (h:St 152 w0 g own vp vb p s vc vt vl w) (hi:i < s.tasks.length) (hn:s.tasks.length<=1048576) (hm:s.cells.length<=1048576) (ho:(tk s i).old.length<=1048576) (hr:(tk s i).reads.length<=1048576) (ha:0<=(tk s i).at_) (hp:∀ k,k < (tk s i).reads.length->0<=(putAt (tk s i).reads k).cell/\(putAt (tk s i).reads k).cell < s.cells.length):
  Calls Try.prog 155 #[.pointer (some ⟨g,0,none⟩),.int .i64 i] w fun e w'=>e= .returned (.tuple #[])/\∃ own',St 152 w0 g own' vp vb p (check s i) vc vt vl w'/\Fr w.heap.size own own' w w':=by
 have H:=am h;clear h;obtain ⟨b,cap,rfl,hb3,hbg⟩:=H.out.tform (by omega);obtain ⟨A0,c0,rfl⟩:=H.out.cslice;obtain ⟨Al,cl,rfl⟩:=H.out.lslice;obtain ⟨v3,v8,v9,v10,hcc,hf,h3,h8,h9,h10⟩:=H.out.task hi;obtain ⟨A3,c3,rfl,l3,g3⟩:=Kd.R_reads h3;obtain ⟨A8,c8,rfl,l8,g8⟩:=Kd.R_reads h8;obtain ⟨A9,c9,rfl,l9,g9⟩:=Kd.R_reads h9;obtain ⟨A10,c10,rfl,l10,g10⟩:=Kd.R_reads h10;have HCC:=am hcc;have BKc:=zc8 H.out.blk;have C9:=am g9;have C10:=am g10;have q0:(0:Int)<=(i:Int):=by omega
 have q1:(i:Int) < (s.tasks.length:Int):=by omega
 clear hcc hf h3 h8 h9 h10 g3 g8 g9 g10 l3 l8 l9 l10;obtain ⟨ka,hka⟩:=Int.eq_ofNat_of_zero_le ha;have HKA:=am hka;go_enter Try.func155,Try.ntmps155;by_cases hlt:ka < (tk s i).reads.length
 ·have y0:decide (((tk s i).reads.length:Int)<=(tk s i).at_)=false:=decide_eq_false (by omega)
  have q2:(0:Int)<=(tk s i).at_:=by omega
  have q3:(tk s i).at_ < ((tk s i).reads.length:Int):=by omega
  have q4:(tk s i).at_.toNat=ka:=by omega
  clear hka;have X0:=hp ka hlt
  cases hbl:blind s i (putAt (tk s i).reads ka).cell with
  | true=>
   have HBL:=am hbl;have HX0:=am X0;clear hbl X0 hp
   go_wp2_with (first
  |((with_reducible refine gate_dst (N:=12) rfl ?_);refine wpList_load_mid rfl 38 (.tmp 11) rfl b (i*13) rfl _ _ HCC.out Try.underlying38 rfl (by kernel_rfl) ?_)
  |((with_reducible refine gate_dst (N:=4) rfl ?_);refine box_event rfl (N:=4) rfl (t:=38) (by go_simp<;>rfl) ?_;intro gt hg w2 hbox hb;have BKt0:=am hbox;have GT:=am hg;have HB2:=am hb;clear hbox hb hg BKc)
  |((with_reducible refine gate_store (t:=38) (p:=4) rfl ?_);refine store_block rfl rfl 38 (.tmp 4) (.tmp 12) rfl rfl rfl BKt0.out rfl (by kernel_rfl) (aB rfl) ?_;intro w3 hbox hg;have BKt:=am hbox;have hbx:=pw_below_grown HB2.out _ HB2.out.size hg (fun z hz=>by cases hz;exact Nat.le_of_eq GT.out.symm);have OT:=am (show own gt=0 by rw [GT.out];exact H.out.new0 _ (Nat.le_refl _));replace H:=am (H.out.grow hbx);have F2:=am (Fr.below (own:=own) hbx);replace C9:=am (Kd.C_below C9.out hbx);replace C10:=am (Kd.C_below C10.out hbx);clear hbox hg BKt0 hbx HB2 HCC;have F:=F2;clear F2;have BKc:=zc8 H.out.blk;have BKtc:=zc8 BKt.out;obtain ⟨b9,o9,cs9,rfl,hcl9,hK9,hcc9,-⟩:=C_field C9.out zPut ka (by omega) (by decide);have e9:=kPut_open hK9;subst e9;obtain ⟨x9,hx9⟩:∃ x,x=putAt (tk s i).reads ka:=⟨_,rfl⟩;rw [show List.getD (tk s i).reads ka zPut=x9 from hx9.symm] at hcc9;have X9:=am hx9;clear hx9;have p90:=hcc9 0 _ rfl;have p91:=hcc9 1 _ rfl;simp only [show kPut.sz=2 from rfl,Nat.add_zero] at p90 p91;clear hcc9 hK9 hcl9)
  |(go_at_call 164;refine (blind_calls i _ _ H.out hi hn hm (by rw [X9.out];exact HX0.out.1) (by rw [X9.out];exact HX0.out.2)).mono ?_;rw [X9.out,HBL.out];rintro e w4 ⟨rfl,hb⟩;replace H:=am (H.out.grow hb);replace F:=am (F.out.trans (Fr.less (Fr.below hb) F.out.size));replace BKt:=am (zb8 BKt.out hb);clear BKc BKtc hb;have BKc:=zc8 H.out.blk;have BKtc:=zc8 BKt.out)
  |(go_at_call 159;refine (again_calls i _ H.out hi hn hm ho).mono ?_;rintro e w5 ⟨rfl,ownc,h1,f1⟩;have H2:=am h1;have F2:=am (F.out.trans (Fr.less f1 F.out.size));clear H F BKc BKt BKtc h1 f1))
   refine bodyPost_ret (results_none rfl _ _ _) rfl ?_;refine ⟨rfl,ownc, ?_,F2.out⟩
   have hch:check s i=again s i:=by
    unfold check;rw [if_neg (by have:=HKA.out;omega)];have hk:(tk s i).at_.toNat=ka:=q4;simp only [hk,HBL.out,if_true]
   rw [hch]
   exact H2.out
  | false=>
   have HBL:=am hbl;have HX0:=am X0;clear hbl X0 hp
   go_wp2_with (first
  |((with_reducible refine gate_dst (N:=12) rfl ?_);refine wpList_load_mid rfl 38 (.tmp 11) rfl b (i*13) rfl _ _ HCC.out Try.underlying38 rfl (by kernel_rfl) ?_)
  |((with_reducible refine gate_dst (N:=4) rfl ?_);refine box_event rfl (N:=4) rfl (t:=38) (by go_simp<;>rfl) ?_;intro gt hg w2 hbox hb;have BKt0:=am hbox;have GT:=am hg;have HB2:=am hb;clear hbox hb hg BKc)
  |((with_reducible refine gate_store (t:=38) (p:=4) rfl ?_);refine store_block rfl rfl 38 (.tmp 4) (.tmp 12) rfl rfl rfl BKt0.out rfl (by kernel_rfl) (aB rfl) ?_;intro w3 hbox hg;have BKt:=am hbox;have hbx:=pw_below_grown HB2.out _ HB2.out.size hg (fun z hz=>by cases hz;exact Nat.le_of_eq GT.out.symm);have OT:=am (show own gt=0 by rw [GT.out];exact H.out.new0 _ (Nat.le_refl _));replace H:=am (H.out.grow hbx);have F2:=am (Fr.below (own:=own) hbx);replace C9:=am (Kd.C_below C9.out hbx);replace C10:=am (Kd.C_below C10.out hbx);clear hbox hg BKt0 hbx HB2 HCC;have F:=F2;clear F2;have BKc:=zc8 H.out.blk;have BKtc:=zc8 BKt.out;obtain ⟨b9,o9,cs9,rfl,hcl9,hK9,hcc9,-⟩:=C_field C9.out zPut ka (by omega) (by decide);have e9:=kPut_open hK9;subst e9;obtain ⟨x9,hx9⟩:∃ x,x=putAt (tk s i).reads ka:=⟨_,rfl⟩;rw [show List.getD (tk s i).reads ka zPut=x9 from hx9.symm] at hcc9;have X9:=am hx9;clear hx9;have p90:=hcc9 0 _ rfl;have p91:=hcc9 1 _ rfl;simp only [show kPut.sz=2 from rfl,Nat.add_zero] at p90 p91;clear hcc9 hK9 hcl9)
  |(go_at_call 164;refine (blind_calls i _ _ H.out hi hn hm (by rw [X9.out];exact HX0.out.1) (by rw [X9.out];exact HX0.out.2)).mono ?_;rw [X9.out,HBL.out];rintro e w4 ⟨rfl,hb⟩;replace H:=am (H.out.grow hb);replace F:=am (F.out.trans (Fr.less (Fr.below hb) F.out.size));replace BKt:=am (zb8 BKt.out hb);clear BKc BKtc hb;have BKc:=zc8 H.out.blk;have BKtc:=zc8 BKt.out))
   refine wp_region_still_tail 9 (by kernel_rfl) (by kernel_rfl) ?_;simp only [List.take_succ_cons,List.take_zero,List.drop_succ_cons,List.drop_zero];iterate 9 still_step
   refine wpStill_nil ?_;rw [show IntKind.i64.wrap ((tk s i).at_+1)=(tk s i).at_+1 from by rw [i64_w];unfold wrap64;omega];have hb:=below_drew (Below.refl w4.heap.size w4);show wpList _ _ _ _ _ w4.drew;generalize w4.drew=w5 at hb ⊢;have H2:=am (H.out.grow hb);have F2:=am (F.out.trans (Fr.less (Fr.below hb) F.out.size));have BKt2:=am (zb8 BKt.out hb);clear H F BKc BKt BKtc hb;have H:=H2;have F:=F2;have BKt:=BKt2;clear H2 F2 BKt2;have BKc:=zc8 H.out.blk;have BKtc:=zc8 BKt.out
   go_wp2_with (first
  |((with_reducible refine gate_store (t:=3) (p:=45) rfl ?_);refine set_ev (u:=.int .i64 ((tk s i).at_+1)) rfl rfl _ _ rfl rfl rfl rfl rfl (by kernel_rfl) (H.out.ready (i:=i) (by first|exact hi1 | exact hi|(rw [set_len];exact hi1)) 6 (by decide)) ?_;intro wn hwn;obtain ⟨k1,k2⟩:=H.out.setInt (B:=w.heap.size) (i:=i) (by first|exact hi1 | exact hi|(rw [set_len];exact hi1)) 6 (by decide) ((tk s i).at_+1) {tk s i with at_:=(tk s i).at_+1} (fun _ _ _ _=>by first|rfl|(rw [tk_set (by assumption)];rfl)) (by first|exact ⟨rfl,rfl,rfl,rfl⟩|(rw [tk_set (by assumption)];exact ⟨rfl,rfl,rfl,rfl⟩));rw [<-hwn] at k1 k2;replace F:=am (F.out.trans k2);(try rw [set_set] at k1);replace H:=am k1;clear BKc k1 k2 hwn;have BKc:=zc8 H.out.blk))
   refine bodyPost_end (results_none rfl _ _ _) rfl ?_;refine ⟨rfl,own, ?_,F.out⟩
   have hch:check s i=setTask s i {tk s i with at_:=(tk s i).at_+1}:=by
    unfold check;rw [if_neg (by have:=HKA.out;omega)];have hk:(tk s i).at_.toNat=ka:=q4;simp [hk,HBL.out]
   rw [hch];exact H.out
 ·have y0:decide (((tk s i).reads.length:Int)<=(tk s i).at_)=true:=decide_eq_true (by omega)
  clear hka hp
  go_wp2_with (first
  |((with_reducible refine gate_dst (N:=12) rfl ?_);refine wpList_load_mid rfl 38 (.tmp 11) rfl b (i*13) rfl _ _ HCC.out Try.underlying38 rfl (by kernel_rfl) ?_)
  |((with_reducible refine gate_dst (N:=4) rfl ?_);refine box_event rfl (N:=4) rfl (t:=38) (by go_simp<;>rfl) ?_;intro gt hg w2 hbox hb;have BKt0:=am hbox;have GT:=am hg;have HB2:=am hb;clear hbox hb hg BKc)
  |((with_reducible refine gate_store (t:=38) (p:=4) rfl ?_);refine store_block rfl rfl 38 (.tmp 4) (.tmp 12) rfl rfl rfl BKt0.out rfl (by kernel_rfl) (aB rfl) ?_;intro w3 hbox hg;have BKt:=am hbox;have hbx:=pw_below_grown HB2.out _ HB2.out.size hg (fun z hz=>by cases hz;exact Nat.le_of_eq GT.out.symm);have OT:=am (show own gt=0 by rw [GT.out];exact H.out.new0 _ (Nat.le_refl _));replace H:=am (H.out.grow hbx);have F2:=am (Fr.below (own:=own) hbx);replace C9:=am (Kd.C_below C9.out hbx);replace C10:=am (Kd.C_below C10.out hbx);clear hbox hg BKt0 hbx HB2 HCC;have F:=F2;clear F2;have BKc:=zc8 H.out.blk;have BKtc:=zc8 BKt.out)
  |(go_at_call 154;refine (stage_calls i 5 _ H.out hi hn).mono ?_;rintro e w5 ⟨rfl,h1,f1⟩;have H2:=am h1;have F2:=am (F.out.trans (Fr.less f1 F.out.size));clear H F BKc BKt BKtc h1 f1))
  refine bodyPost_ret (results_none rfl _ _ _) rfl ?_;refine ⟨rfl,own, ?_,F2.out⟩
  have hch:check s i=toStage s i 5:=by
   unfold check;rw [if_pos (by have:=HKA.out;omega)]
  rw [hch];exact H2.out
end
section
variable {w0:World} {g:Nat} {own:Nat->Nat} {vp vb:Value} {p:Prog} {s:Sys} {vc vt vl:Value}
theorem lock_calls (i:Nat) (w:World) (h:St 152 w0 g own vp vb p s vc vt vl w) (hi:i < s.tasks.length) (hn:s.tasks.length<=1048576) (hm:s.cells.length<=1048576) (ho:(tk s i).old.length<=1048576) (hr:(tk s i).puts.length<=1048576) (ha:0<=(tk s i).at_) (ha1:(tk s i).at_ < (tk s i).puts.length) (hp:0<=(putAt (tk s i).puts (tk s i).at_.toNat).cell/\(putAt (tk s i).puts (tk s i).at_.toNat).cell < s.cells.length):
  Calls Try.prog 153 #[.pointer (some ⟨g,0,none⟩),.int .i64 i] w fun e w'=>e= .returned (.tuple #[])/\∃ own',St 152 w0 g own' vp vb p (lock s i) vc vt vl w'/\Fr w.heap.size own own' w w':=by
 have H:=am h;clear h;obtain ⟨ka,hka⟩:=Int.eq_ofNat_of_zero_le ha;rw [hka,Int.toNat_natCast] at hp;obtain ⟨hp0,hp1⟩:=hp;obtain ⟨k,hkc⟩:=Int.eq_ofNat_of_zero_le hp0;have hk:k < s.cells.length:=by omega
 obtain ⟨b,cap,rfl,hb3,hbg⟩:=H.out.tform (by omega);obtain ⟨bc,c0,rfl,hb2,hbcg⟩:=H.out.cform (by omega);obtain ⟨Al,cl,rfl⟩:=H.out.lslice;obtain ⟨v3,v8,v9,v10,hcc,hf,h3,h8,h9,h10⟩:=H.out.task hi;obtain ⟨A3,c3,rfl,l3,g3⟩:=Kd.R_reads h3;obtain ⟨A8,c8,rfl,l8,g8⟩:=Kd.R_reads h8;obtain ⟨A9,c9,rfl,l9,g9⟩:=Kd.R_reads h9;obtain ⟨A10,c10,rfl,l10,g10⟩:=Kd.R_reads h10;have HCC:=am hcc;have BKc:=zc8 H.out.blk;have C9:=am g9;have C10:=am g10;have q0:(0:Int)<=(i:Int):=by omega
 have q1:(i:Int) < (s.tasks.length:Int):=by omega
 clear hcc hf h3 h8 h9 h10 g3 g8 g9 g10 l3 l8 l9 l10;have HKA:=am hka;have HKC:=am hkc;have q2:(0:Int)<=(tk s i).at_:=by omega
 have q3:(tk s i).at_ < ((tk s i).puts.length:Int):=by omega
 have q4:(tk s i).at_.toNat=ka:=by omega
 have q5:(0:Int)<=(k:Int):=by omega
 have q6:(k:Int) < (s.cells.length:Int):=by omega
 clear hka hkc hp0 hp1;go_enter Try.func153,Try.ntmps153;by_cases hl:0<=(cellAt s.cells k).lock
 ·have y0:decide (0<=(cellAt s.cells k).lock)=true:=decide_eq_true hl
  have HL:=am hl;clear hl
  go_wp2_with (first
  |((with_reducible refine gate_dst (N:=13) rfl ?_);refine wpList_load_mid rfl 38 (.tmp 12) rfl b (i*13) rfl _ _ HCC.out Try.underlying38 rfl (by kernel_rfl) ?_)
  |((with_reducible refine gate_dst (N:=4) rfl ?_);refine box_event rfl (N:=4) rfl (t:=38) (by go_simp<;>rfl) ?_;intro gt hg w2 hbox hb;have BKt0:=am hbox;have GT:=am hg;have HB2:=am hb;clear hbox hb hg BKc)
  |((with_reducible refine gate_store (t:=38) (p:=4) rfl ?_);refine store_block rfl rfl 38 (.tmp 4) (.tmp 13) rfl rfl rfl BKt0.out rfl (by kernel_rfl) (aB rfl) ?_;intro w3 hbox hg;have BKt:=am hbox;have hbx:=pw_below_grown HB2.out _ HB2.out.size hg (fun z hz=>by cases hz;exact Nat.le_of_eq GT.out.symm);have OT:=am (show own gt=0 by rw [GT.out];exact H.out.new0 _ (Nat.le_refl _));replace H:=am (H.out.grow hbx);have F2:=am (Fr.below (own:=own) hbx);replace C9:=am (Kd.C_below C9.out hbx);replace C10:=am (Kd.C_below C10.out hbx);clear hbox hg BKt0 hbx HB2 HCC;have F:=F2;clear F2;have BKc:=zc8 H.out.blk;have BKtc:=zc8 BKt.out;obtain ⟨b10,o10,cs10,rfl,hcl10,hK10,hcc10,-⟩:=C_field C10.out zPut ka (by omega) (by decide);have e10:=kPut_open hK10;subst e10;obtain ⟨x10,hx10⟩:∃ x,x=putAt (tk s i).puts ka:=⟨_,rfl⟩;rw [show List.getD (tk s i).puts ka zPut=x10 from hx10.symm] at hcc10;have X10:=am hx10;clear hx10;have p100:=hcc10 0 _ rfl;have p101:=hcc10 1 _ rfl;simp only [show kPut.sz=2 from rfl,Nat.add_zero] at p100 p101;clear hcc10 hK10 hcl10;rw [X10.out,HKC.out] at p100;obtain ⟨hcl,hclf⟩:=H.out.cell hk;have k2:=hcl 2 _ rfl;have HCF:=am hclf;clear hcl hclf)
  |(go_at_call 159;refine (again_calls i _ H.out hi hn hm ho).mono ?_;rintro e w5 ⟨rfl,ownc,h1,f1⟩;have H2:=am h1;have F2:=am (F.out.trans (Fr.less f1 F.out.size));clear H F BKc BKt BKtc h1 f1))
  refine bodyPost_ret (results_none rfl _ _ _) rfl ?_;refine ⟨rfl,ownc, ?_,F2.out⟩
  have hch:lock s i=again s i:=by
   unfold lock;have hk2:(putAt (tk s i).puts (tk s i).at_.toNat).cell.toNat=k:=by rw [q4,HKC.out];rfl
   simp only [hk2,HL.out,if_true]
  rw [hch];exact H2.out
 ·have y0:decide (0<=(cellAt s.cells k).lock)=false:=decide_eq_false hl
  have HL:=am hl;clear hl;have hk2:(putAt (tk s i).puts (tk s i).at_.toNat).cell.toNat=k:=by rw [q4,HKC.out];rfl
  have HK2:=am hk2;have HB2:=am hb2;have HB3:=am hb3;clear hk2 hb2 hb3
  cases hfin:((tk s i).at_+1 == ((tk s i).puts.length:Int)) with
  | true=>
   have HF:=am (of_decide_eq_true (by simpa using hfin):(tk s i).at_+1=((tk s i).puts.length:Int))
   go_wp2_with (first
  |((with_reducible refine gate_dst (N:=13) rfl ?_);refine wpList_load_mid rfl 38 (.tmp 12) rfl b (i*13) rfl _ _ HCC.out Try.underlying38 rfl (by kernel_rfl) ?_)
  |((with_reducible refine gate_dst (N:=4) rfl ?_);refine box_event rfl (N:=4) rfl (t:=38) (by go_simp<;>rfl) ?_;intro gt hg w2 hbox hb;have BKt0:=am hbox;have GT:=am hg;have HB2:=am hb;clear hbox hb hg BKc)
  |((with_reducible refine gate_store (t:=38) (p:=4) rfl ?_);refine store_block rfl rfl 38 (.tmp 4) (.tmp 13) rfl rfl rfl BKt0.out rfl (by kernel_rfl) (aB rfl) ?_;intro w3 hbox hg;have BKt:=am hbox;have hbx:=pw_below_grown HB2.out _ HB2.out.size hg (fun z hz=>by cases hz;exact Nat.le_of_eq GT.out.symm);have OT:=am (show own gt=0 by rw [GT.out];exact H.out.new0 _ (Nat.le_refl _));replace H:=am (H.out.grow hbx);have F2:=am (Fr.below (own:=own) hbx);replace C9:=am (Kd.C_below C9.out hbx);replace C10:=am (Kd.C_below C10.out hbx);clear hbox hg BKt0 hbx HB2 HCC;have F:=F2;clear F2;have BKc:=zc8 H.out.blk;have BKtc:=zc8 BKt.out;obtain ⟨b10,o10,cs10,rfl,hcl10,hK10,hcc10,-⟩:=C_field C10.out zPut ka (by omega) (by decide);have e10:=kPut_open hK10;subst e10;obtain ⟨x10,hx10⟩:∃ x,x=putAt (tk s i).puts ka:=⟨_,rfl⟩;rw [show List.getD (tk s i).puts ka zPut=x10 from hx10.symm] at hcc10;have X10:=am hx10;clear hx10;have p100:=hcc10 0 _ rfl;have p101:=hcc10 1 _ rfl;simp only [show kPut.sz=2 from rfl,Nat.add_zero] at p100 p101;clear hcc10 hK10 hcl10;rw [X10.out,HKC.out] at p100;obtain ⟨hcl,hclf⟩:=H.out.cell hk;have k2:=hcl 2 _ rfl;have HCF:=am hclf;clear hcl hclf)
  |((with_reducible refine gate_store (t:=3) (p:=42) rfl ?_);refine set_ev (u:=.int .i64 (i:Int)) rfl rfl _ _ rfl rfl rfl rfl rfl (by kernel_rfl) ⟨⟨_,k2⟩,HCF.out 2⟩ ?_;intro w4 hwn;obtain ⟨k1,k3⟩:=H.out.cseg (B:=w.heap.size) hk (seg:= [.int .i64 (i:Int)]) (j:=2) (x':={cellAt s.cells k with lock:=i}) (Nat.le_refl 3) rfl;replace H:=am (show St 152 w0 g own vp vb p (setCell s k {cellAt s.cells k with lock:=i}) (.slice (some ⟨bc,0,none⟩) s.cells.length c0) (.slice (some ⟨b,0,none⟩) s.tasks.length cap) (.slice Al s.log.length cl) w4 by rw [hwn];exact k1);replace F:=am (F.out.trans (show Fr w.heap.size own own w3 w4 by rw [hwn];exact k3));have bkt:=blk_far (p:=⟨bc,k*3+2,none⟩) BKt.out (fun he=>by have h5:=OT.out;rw [show gt=bc from he,HB2.out] at h5;cases h5) (Value.int .i64 (i:Int));rw [<-hwn] at bkt;replace BKt:=am bkt;clear bkt;clear BKc BKtc k1 k3 hwn k2 HCF;have BKc:=zc8 H.out.blk;have BKtc:=zc8 BKt.out))
   refine wp_region_still_tail 9 (by kernel_rfl) (by kernel_rfl) ?_;simp only [List.take_succ_cons,List.take_zero,List.drop_succ_cons,List.drop_zero];iterate 9 still_step
   refine wpStill_nil ?_;rw [show IntKind.i64.wrap ((tk s i).at_+1)=(tk s i).at_+1 from by rw [i64_w];unfold wrap64;omega];have hb:=below_drew (Below.refl w4.heap.size w4);show wpList _ _ _ _ _ w4.drew;generalize w4.drew=w5 at hb ⊢;have H2:=am (H.out.grow hb);have F2:=am (F.out.trans (Fr.less (Fr.below hb) F.out.size));have BKt2:=am (zb8 BKt.out hb);clear H F BKc BKt BKtc hb;have H:=H2;have F:=F2;have BKt:=BKt2;clear H2 F2 BKt2;have BKc:=zc8 H.out.blk;have BKtc:=zc8 BKt.out;obtain ⟨s1,hs1⟩:∃ x,x=setCell s k {cellAt s.cells k with lock:=i}:=⟨_,rfl⟩;have hi1:i < s1.tasks.length:=by rw [hs1];exact hi
   have hn1:s1.tasks.length<=1048576:=by rw [hs1];exact hn
   have ht1:tk s1 i=tk s i:=by rw [hs1];rfl
   rw [<-hs1] at H BKc
   go_wp2_with (first
  |((with_reducible refine gate_store (t:=3) (p:=53) rfl ?_);refine set_ev (u:=.int .i64 ((tk s i).at_+1)) rfl rfl _ _ rfl rfl rfl rfl rfl (by kernel_rfl) (H.out.ready (i:=i) (by first|exact hi1 | exact hi|(rw [set_len];exact hi1)) 6 (by decide)) ?_;intro wn hwn;obtain ⟨k1,k2⟩:=H.out.setInt (B:=w.heap.size) (i:=i) (by first|exact hi1 | exact hi|(rw [set_len];exact hi1)) 6 (by decide) ((tk s i).at_+1) {tk s i with at_:=(tk s i).at_+1} (fun _ _ _ _=>by first|(rw [ht1];rfl)|(rw [tk_set (by assumption)];rfl)) (by first|(rw [ht1];exact ⟨rfl,rfl,rfl,rfl⟩)|(rw [tk_set (by assumption)];exact ⟨rfl,rfl,rfl,rfl⟩));rw [<-hwn] at k1 k2;replace F:=am (F.out.trans k2);(try rw [set_set] at k1);replace H:=am k1;have bkt:=blk_far (p:=⟨b,i*13+6,none⟩) BKt.out (fun he=>by have h5:=OT.out;rw [show gt=b from he,HB3.out] at h5;cases h5) (Value.int .i64 ((tk s i).at_+1));rw [<-hwn] at bkt;have BKt3:=am bkt;clear BKc k1 k2 hwn bkt BKt BKtc;have BKtc:=zc8 BKt3.out;have BKc:=zc8 H.out.blk)
  |(go_at_call 154;refine (stage_calls i 3 _ H.out (by rw [set_len];exact hi1) (by rw [set_len];exact hn1)).mono ?_;rintro e w5 ⟨rfl,h1,f1⟩;have H2:=am h1;have F2:=am (F.out.trans (Fr.less f1 F.out.size));clear H F BKc h1 f1))
   refine bodyPost_end (results_none rfl _ _ _) rfl ?_;refine ⟨rfl,own, ?_,F2.out⟩;have h:=H2.out;unfold toStage at h;rw [set_set,tk_set (s:=s1) hi1,hs1] at h;unfold lock;simp only [HK2.out,if_neg (show ¬ 0<=(cellAt s.cells k).lock by have:=HL.out;omega),if_pos HF.out]
   exact h
  | false=>
   have HF:=am (of_decide_eq_false (by simpa using hfin):¬ (tk s i).at_+1=((tk s i).puts.length:Int))
   go_wp2_with (first
  |((with_reducible refine gate_dst (N:=13) rfl ?_);refine wpList_load_mid rfl 38 (.tmp 12) rfl b (i*13) rfl _ _ HCC.out Try.underlying38 rfl (by kernel_rfl) ?_)
  |((with_reducible refine gate_dst (N:=4) rfl ?_);refine box_event rfl (N:=4) rfl (t:=38) (by go_simp<;>rfl) ?_;intro gt hg w2 hbox hb;have BKt0:=am hbox;have GT:=am hg;have HB2:=am hb;clear hbox hb hg BKc)
  |((with_reducible refine gate_store (t:=38) (p:=4) rfl ?_);refine store_block rfl rfl 38 (.tmp 4) (.tmp 13) rfl rfl rfl BKt0.out rfl (by kernel_rfl) (aB rfl) ?_;intro w3 hbox hg;have BKt:=am hbox;have hbx:=pw_below_grown HB2.out _ HB2.out.size hg (fun z hz=>by cases hz;exact Nat.le_of_eq GT.out.symm);have OT:=am (show own gt=0 by rw [GT.out];exact H.out.new0 _ (Nat.le_refl _));replace H:=am (H.out.grow hbx);have F2:=am (Fr.below (own:=own) hbx);replace C9:=am (Kd.C_below C9.out hbx);replace C10:=am (Kd.C_below C10.out hbx);clear hbox hg BKt0 hbx HB2 HCC;have F:=F2;clear F2;have BKc:=zc8 H.out.blk;have BKtc:=zc8 BKt.out;obtain ⟨b10,o10,cs10,rfl,hcl10,hK10,hcc10,-⟩:=C_field C10.out zPut ka (by omega) (by decide);have e10:=kPut_open hK10;subst e10;obtain ⟨x10,hx10⟩:∃ x,x=putAt (tk s i).puts ka:=⟨_,rfl⟩;rw [show List.getD (tk s i).puts ka zPut=x10 from hx10.symm] at hcc10;have X10:=am hx10;clear hx10;have p100:=hcc10 0 _ rfl;have p101:=hcc10 1 _ rfl;simp only [show kPut.sz=2 from rfl,Nat.add_zero] at p100 p101;clear hcc10 hK10 hcl10;rw [X10.out,HKC.out] at p100;obtain ⟨hcl,hclf⟩:=H.out.cell hk;have k2:=hcl 2 _ rfl;have HCF:=am hclf;clear hcl hclf)
  |((with_reducible refine gate_store (t:=3) (p:=42) rfl ?_);refine set_ev (u:=.int .i64 (i:Int)) rfl rfl _ _ rfl rfl rfl rfl rfl (by kernel_rfl) ⟨⟨_,k2⟩,HCF.out 2⟩ ?_;intro w4 hwn;obtain ⟨k1,k3⟩:=H.out.cseg (B:=w.heap.size) hk (seg:= [.int .i64 (i:Int)]) (j:=2) (x':={cellAt s.cells k with lock:=i}) (Nat.le_refl 3) rfl;replace H:=am (show St 152 w0 g own vp vb p (setCell s k {cellAt s.cells k with lock:=i}) (.slice (some ⟨bc,0,none⟩) s.cells.length c0) (.slice (some ⟨b,0,none⟩) s.tasks.length cap) (.slice Al s.log.length cl) w4 by rw [hwn];exact k1);replace F:=am (F.out.trans (show Fr w.heap.size own own w3 w4 by rw [hwn];exact k3));have bkt:=blk_far (p:=⟨bc,k*3+2,none⟩) BKt.out (fun he=>by have h5:=OT.out;rw [show gt=bc from he,HB2.out] at h5;cases h5) (Value.int .i64 (i:Int));rw [<-hwn] at bkt;replace BKt:=am bkt;clear bkt;clear BKc BKtc k1 k3 hwn k2 HCF;have BKc:=zc8 H.out.blk;have BKtc:=zc8 BKt.out))
   refine wp_region_still_tail 9 (by kernel_rfl) (by kernel_rfl) ?_;simp only [List.take_succ_cons,List.take_zero,List.drop_succ_cons,List.drop_zero];iterate 9 still_step
   refine wpStill_nil ?_;rw [show IntKind.i64.wrap ((tk s i).at_+1)=(tk s i).at_+1 from by rw [i64_w];unfold wrap64;omega];have hb:=below_drew (Below.refl w4.heap.size w4);show wpList _ _ _ _ _ w4.drew;generalize w4.drew=w5 at hb ⊢;have H2:=am (H.out.grow hb);have F2:=am (F.out.trans (Fr.less (Fr.below hb) F.out.size));have BKt2:=am (zb8 BKt.out hb);clear H F BKc BKt BKtc hb;have H:=H2;have F:=F2;have BKt:=BKt2;clear H2 F2 BKt2;have BKc:=zc8 H.out.blk;have BKtc:=zc8 BKt.out;obtain ⟨s1,hs1⟩:∃ x,x=setCell s k {cellAt s.cells k with lock:=i}:=⟨_,rfl⟩;have hi1:i < s1.tasks.length:=by rw [hs1];exact hi
   have hn1:s1.tasks.length<=1048576:=by rw [hs1];exact hn
   have ht1:tk s1 i=tk s i:=by rw [hs1];rfl
   rw [<-hs1] at H BKc
   go_wp2_with (first
  |((with_reducible refine gate_store (t:=3) (p:=53) rfl ?_);refine set_ev (u:=.int .i64 ((tk s i).at_+1)) rfl rfl _ _ rfl rfl rfl rfl rfl (by kernel_rfl) (H.out.ready (i:=i) (by first|exact hi1 | exact hi|(rw [set_len];exact hi1)) 6 (by decide)) ?_;intro wn hwn;obtain ⟨k1,k2⟩:=H.out.setInt (B:=w.heap.size) (i:=i) (by first|exact hi1 | exact hi|(rw [set_len];exact hi1)) 6 (by decide) ((tk s i).at_+1) {tk s i with at_:=(tk s i).at_+1} (fun _ _ _ _=>by first|(rw [ht1];rfl)|(rw [tk_set (by assumption)];rfl)) (by first|(rw [ht1];exact ⟨rfl,rfl,rfl,rfl⟩)|(rw [tk_set (by assumption)];exact ⟨rfl,rfl,rfl,rfl⟩));rw [<-hwn] at k1 k2;replace F:=am (F.out.trans k2);(try rw [set_set] at k1);replace H:=am k1;have bkt:=blk_far (p:=⟨b,i*13+6,none⟩) BKt.out (fun he=>by have h5:=OT.out;rw [show gt=b from he,HB3.out] at h5;cases h5) (Value.int .i64 ((tk s i).at_+1));rw [<-hwn] at bkt;have BKt3:=am bkt;clear BKc k1 k2 hwn bkt BKt BKtc;have BKtc:=zc8 BKt3.out;have BKc:=zc8 H.out.blk))
   refine bodyPost_end (results_none rfl _ _ _) rfl ?_;refine ⟨rfl,own, ?_,F.out⟩;unfold lock;simp only [HK2.out,if_neg (show ¬ 0<=(cellAt s.cells k).lock by have:=HL.out;omega),if_neg HF.out];have h:=H.out;rw [hs1] at h;exact h
end
end Go.Proofs.Ytimamoimphjakaa.Eq
namespace Go.Proofs.Ytimamoimphjakaa.Eq
structure PutsIn (n:Nat) (l:List Put):Prop where
 cell:∀ x ∈ l,0<=x.cell/\x.cell < n
 num:∀ x ∈ l,0<=x.num/\x.num<=99
 asc:l.Pairwise fun x y=>x.cell < y.cell
theorem PutsIn.nil (n:Nat):PutsIn n []:=⟨by simp,by simp,List.Pairwise.nil⟩
theorem asc_len (n:Nat):∀ (l:List Put) (lo:Int),0<=lo->(∀ x ∈ l,lo<=x.cell/\x.cell < n)->l.Pairwise (fun x y=>x.cell < y.cell)->(l.length:Int)<=max 0 (n - lo)
 | [],lo,_,_,_=>by simp;omega
 | y :: l,lo,h0,h,hp=>by
  have h1:=h y (by simp);rw [List.pairwise_cons] at hp;have:=asc_len n l (y.cell+1) (by omega) (fun x hx=>⟨by have:=hp.1 x hx;omega,(h x (by simp [hx])).2⟩) hp.2;simp only [List.length_cons];omega
theorem PutsIn.len {n:Nat} {l:List Put} (h:PutsIn n l):l.length<=n:=by
 have:=asc_len n l 0 (by omega) h.cell h.asc
 omega
theorem PutsIn.at {n:Nat} {l:List Put} (h:PutsIn n l) {k:Nat} (hk:k < l.length):(0<=(putAt l k).cell/\(putAt l k).cell < n)/\0<=(putAt l k).num/\(putAt l k).num<=99:=by
 have he:putAt l k=l[k]:=by simp [putAt,hk]
 rw [he];exact ⟨h.cell _ (List.getElem_mem hk),h.num _ (List.getElem_mem hk)⟩
theorem addAux_true (x:Put):∀ l:List Put,(∀ y ∈ l,x.cell < y.cell)->addAux x true l=l
 | [],_=>rfl
 | y :: l,h=>by
  have h1:=h y (by simp);unfold addAux;rw [Bool.true_or,addAux_true x l (fun z hz=>h z (by simp [hz])),if_neg (by simp),if_neg (by omega)];rfl
theorem addAux_false (x:Put) (y:Put) (l:List Put) (h:(y :: l).Pairwise fun x y=>x.cell < y.cell):addAux x false (y :: l)=if x.cell<=y.cell then x :: (if y.cell=x.cell then l else y :: l) else y :: addAux x false l:=by
 rw [List.pairwise_cons] at h;rw [addAux];by_cases hle:x.cell<=y.cell
 ·rw [if_pos ⟨rfl,hle⟩,if_pos hle,show (false || decide (x.cell<=y.cell))=true by simp [hle],addAux_true x l (fun z hz=>by have:=h.1 z hz;omega)]
  split <;> simp
 ·rw [if_neg (fun h=>hle h.2),if_neg hle,show (false || decide (x.cell<=y.cell))=false by simp [hle],if_neg (by omega)]
  rfl
theorem mem_addAux (x:Put):∀ (l:List Put) (fin:Bool),∀ z ∈ addAux x fin l,z=x\/z ∈ l
 | [],fin,z,hz=>by
  unfold addAux at hz
  split at hz <;> simp_all
 | y :: l,fin,z,hz=>by
  unfold addAux at hz;simp only [List.mem_append] at hz;rcases hz with (hz | hz)|hz
  ·split at hz <;> simp_all
  ·split at hz <;> simp_all
  ·rcases mem_addAux x l _ z hz with h | h
   ·exact .inl h
   ·exact .inr (by simp [h])
theorem addAux_asc (x:Put):∀ l:List Put,l.Pairwise (fun x y=>x.cell < y.cell)->(addAux x false l).Pairwise fun x y=>x.cell < y.cell
 | [],_=>by simp [addAux]
 | y :: l,h=>by
  rw [addAux_false x y l h];have h':=h;rw [List.pairwise_cons] at h;split
  ·rename_i hle
   rw [List.pairwise_cons];split
   ·rename_i he
    exact ⟨fun z hz=>by have:=h.1 z hz;omega,h.2⟩
   ·refine ⟨fun z hz=> ?_,h'⟩
    rcases List.mem_cons.1 hz with rfl | hz
    ·omega
    ·have:=h.1 z hz
     omega
  ·rw [List.pairwise_cons]
   refine ⟨fun z hz=> ?_,addAux_asc x l h.2⟩;rcases mem_addAux x l false z hz with rfl | hz
   ·omega
   ·exact h.1 z hz
theorem PutsIn.add {n:Nat} {l:List Put} (h:PutsIn n l) {x:Put} (hc:0<=x.cell/\x.cell < n) (hn:0<=x.num/\x.num<=99):PutsIn n (addPut l x) where
 cell:=fun z hz=>by
  rcases mem_addAux x l false z hz with rfl | hz
  ·exact hc
  ·exact h.cell z hz
 num:=fun z hz=>by
  rcases mem_addAux x l false z hz with rfl | hz
  ·exact hn
  ·exact h.num z hz
 asc:=addAux_asc x l h.asc
structure NumsIn (l:List Int):Prop where
 len:l.length=3
 num:∀ k,k < 3->0<=numAt l k/\numAt l k<=99
theorem numAt_set {l:List Int} {k j:Nat} {x:Int} (hk:k < l.length):numAt (l.set k x) j=if k=j then x else numAt l j:=by
 simp only [numAt,List.getD_eq_getElem?_getD,List.getElem?_set];split
 ·rename_i h
  subst h;simp [hk]
 ·rfl
theorem NumsIn.set {l:List Int} (h:NumsIn l) {a:Int} (ha:0<=a/\a<=2) {x:Int} (hx:0<=x/\x<=99):NumsIn (l.set a.toNat x) where
 len:=by rw [List.length_set];exact h.len
 num:=fun k hk=>by
  rw [numAt_set (by rw [h.len];omega)];split
  ·exact hx
  ·exact h.num k hk
theorem NumsIn.at {l:List Int} (h:NumsIn l) {a:Int} (ha:0<=a/\a<=2):0<=numAt l a.toNat/\numAt l a.toNat<=99:=h.num _ (by omega)
theorem regDo_in {l:List Int} (h:NumsIn l) {d:Deed} {cells:Int} (hd:deedOk d cells=true):NumsIn (regDo l d):=by
 unfold regDo;unfold deedOk at hd;by_cases h3:d.kind=3
 ·rw [if_pos h3]
  rw [if_neg (by omega),if_neg (by omega),if_pos h3] at hd;simp only [Bool.and_eq_true,inB_iff] at hd;exact h.set hd.1 hd.2
 ·rw [if_neg h3]
  by_cases h4:d.kind=4
  ·rw [if_pos h4]
   rw [if_neg (by omega),if_neg (by omega),if_neg h3,if_pos h4] at hd;simp only [Bool.and_eq_true,inB_iff] at hd;exact h.set hd.1 (by omega)
  ·rw [if_neg h4]
   exact h
theorem actsAt_eq {bs:List (List Act)} {i:Nat} (h:i < bs.length):actsAt bs i=bs[i]:=by simp [actsAt,h]
theorem form_act {p:Prog} (h:formOk p=true) {b:Int} (hb:0<=b/\b < p.bodies.length) {k:Nat} (hk:k < (actsAt p.bodies b.toNat).length):actOk p.cells.length p.bodies.length b (actAt (actsAt p.bodies b.toNat) k)=true:=by
 simp only [formOk,Bool.and_eq_true,allB_iff] at h
 have:=h.2 b.toNat (by omega)
 simp only [bodyOk,Bool.and_eq_true,allB_iff] at this;have h2:=this.2 k hk;rwa [show ((b.toNat:Nat):Int)=b by omega] at h2
theorem form_acts {p:Prog} (h:formOk p=true) {b:Int} (hb:0<=b/\b < p.bodies.length):(actsAt p.bodies b.toNat).length<=4:=by
 simp only [formOk,Bool.and_eq_true,allB_iff] at h
 have:=h.2 b.toNat (by omega)
 simp only [bodyOk,Bool.and_eq_true,decide_eq_true_eq] at this;exact this.1
theorem form_cells {p:Prog} (h:formOk p=true):p.cells.length<=3/\1<=p.bodies.length/\p.bodies.length<=4:=by
 simp only [formOk,Bool.and_eq_true,decide_eq_true_eq,inB_iff] at h;omega
theorem act_deed {cells bodies body:Int} {a:Act} (h:actOk cells bodies body a=true) (hk:a.kind=1):a.deeds.length<=5/\∀ k,k < a.deeds.length->deedOk (deedAt a.deeds k) cells=true:=by
 unfold actOk at h;split at h
 ·cases h
 ·(try rw [if_pos hk] at h)
  simp only [Bool.and_eq_true,decide_eq_true_eq,deedsOk,allB_iff] at h;exact ⟨h.2,h.1⟩
theorem act_kids {cells bodies body:Int} {a:Act} (h:actOk cells bodies body a=true) (hk:a.kind=2):a.kids.length<=2/\1<=a.kids.length/\∀ k,k < a.kids.length->body+1<=numAt a.kids k/\numAt a.kids k<=bodies - 1:=by
 unfold actOk at h;split at h
 ·cases h
 ·rw [if_neg (by omega)] at h
  (try rw [if_pos hk] at h)
  simp only [Bool.and_eq_true,kidsOk,allB_iff,inB_iff] at h;exact ⟨by omega,by omega,fun k hk=>h.1 k hk⟩
theorem act_reg {cells bodies body:Int} {a:Act} (h:actOk cells bodies body a=true) (h1:a.kind ≠ 1) (h2:a.kind ≠ 2) (h3:a.kind ≠ 3):a.kind=4/\0<=a.reg/\a.reg<=2:=by
 unfold actOk at h;split at h
 ·cases h
 ·(try rw [if_neg h1,if_neg h2,if_neg h3] at h)
  split at h
  ·rename_i h4
   exact ⟨h4,(inB_iff.1 h).1,(inB_iff.1 h).2⟩
  ·cases h
structure TInv (p:Prog) (clock:Int) (i:Nat) (t:Task):Prop where
 body0:0<=t.body
 body1:t.body < p.bodies.length
 pc0:0<=t.pc
 pc1:t.pc<=(actsAt p.bodies t.body.toNat).length
 up0: -1<=t.up
 up1:t.up < i
 regs:NumsIn t.regs
 old:NumsIn t.old
 reads:PutsIn p.cells.length t.reads
 puts:PutsIn p.cells.length t.puts
 since0:0<=t.since
 since1:t.since<=clock
 at0:0<=t.at_
 stages:0<=t.stage/\t.stage<=5
 try1:t.stage ≠ 0->t.way=0/\t.pc < (actsAt p.bodies t.body.toNat).length/\(actAt (actsAt p.bodies t.body.toNat) t.pc.toNat).kind=1
 at1:t.stage=2\/t.stage=5->t.at_ < t.puts.length
 some:t.stage=3\/t.stage=4->t.puts ≠ []
 wait:t.way=1->t.pc < (actsAt p.bodies t.body.toNat).length/\(actAt (actsAt p.bodies t.body.toNat) t.pc.toNat).kind=2
def busy (t:Task):Nat:=if t.stage=0 then 0 else 1
theorem busy_le (t:Task):busy t<=1:=by unfold busy;split <;> omega
theorem stg0:(0:Int)<=0/\(0:Int)<=5:=by decide
theorem stg1:(0:Int)<=1/\(1:Int)<=5:=by decide
theorem stg4:(0:Int)<=4/\(4:Int)<=5:=by decide
theorem sumL_set {α:Type} (f:α->Nat) (d:α):∀ (l:List α) (i:Nat) (x:α),i < l.length->sumL f (l.set i x)+f (l.getD i d)=sumL f l+f x
 | [],i,x,h=>by simp at h
 | a :: l,0,x,_=>by simp [sumL];omega
 | a :: l,i+1,x,h=>by
  have:=sumL_set f d l i x (by simpa using h)
  simp only [List.set_cons_succ,sumL,List.getD_cons_succ];omega
theorem sumL_append {α:Type} (f:α->Nat):∀ (l m:List α),sumL f (l ++ m)=sumL f l+sumL f m
 | [],m=>by simp [sumL]
 | a :: l,m=>by simp [sumL,sumL_append f l m];omega
theorem sumL_zero {α:Type} (f:α->Nat):∀ (l:List α),(∀ a ∈ l,f a=0)->sumL f l=0
 | [],_=>rfl
 | a :: l,h=>by simp [sumL,h a (by simp),sumL_zero f l (fun b hb=>h b (by simp [hb]))]
structure Inv (p:Prog) (s:Sys) (N:Nat):Prop where
 prog:progOk p=true
 cells:s.cells.length=p.cells.length
 nums:∀ k,k < s.cells.length->0<=(cellAt s.cells k).num/\(cellAt s.cells k).num<=99
 task:∀ i,i < s.tasks.length->TInv p s.clock i (tk s i)
 clock0:0<=s.clock
 clock1:s.clock<=200
 room:s.log.length+sumL busy s.tasks<=N
 many:s.tasks.length<=N
 logs:∀ e ∈ s.log,e.reads.length<=3/\e.puts.length<=3
section
variable {p:Prog} {s:Sys} {N i:Nat}
theorem Inv.form (h:Inv p s N):formOk p=true:=by
 have:=h.prog
 simp only [progOk,Bool.and_eq_true] at this;exact this.1
theorem Inv.more (h:Inv p s N) {M:Nat} (hm:N<=M):Inv p s M:=⟨h.prog,h.cells,h.nums,h.task,h.clock0,h.clock1,Nat.le_trans h.room hm,Nat.le_trans h.many hm,h.logs⟩
theorem Inv.cn (h:Inv p s N):s.cells.length<=3:=by rw [h.cells];exact (form_cells h.form).1
theorem Inv.reads (h:Inv p s N) (hi:i < s.tasks.length):(tk s i).reads.length<=3:=Nat.le_trans (h.task i hi).reads.len (form_cells h.form).1
theorem Inv.puts (h:Inv p s N) (hi:i < s.tasks.length):(tk s i).puts.length<=3:=Nat.le_trans (h.task i hi).puts.len (form_cells h.form).1
theorem Inv.acts (h:Inv p s N) (hi:i < s.tasks.length):(actsAt p.bodies (tk s i).body.toNat).length<=4:=form_acts h.form ⟨(h.task i hi).body0,(h.task i hi).body1⟩
theorem Inv.pc (h:Inv p s N) (hi:i < s.tasks.length):(tk s i).pc<=4:=by
 have:=(h.task i hi).pc1
 have:=h.acts hi
 omega
theorem Inv.set (h:Inv p s N) (hi:i < s.tasks.length) {t:Task} {log:List Entry} (k:Nat) (ht:TInv p s.clock i t) (hr:log.length+busy t<=s.log.length+busy (tk s i)+k) (hlog:∀ e ∈ log,e.reads.length<=3/\e.puts.length<=3):Inv p {setTask s i t with log:=log} (N+k) where
 logs:=hlog
 prog:=h.prog
 cells:=h.cells
 nums:=h.nums
 task:=fun j hj=>by
  have hj':j < s.tasks.length:=by simpa [setTask] using hj
  show TInv p s.clock j (tk (setTask s i t) j);by_cases he:j=i
  ·subst he
   rw [tk_set hi];exact ht
  ·rw [tk_other he]
   exact h.task j hj'
 clock0:=h.clock0
 clock1:=h.clock1
 room:=by
  have:=h.room
  have h2:=sumL_set busy zTask s.tasks i t hi;have h3:s.tasks.getD i zTask=tk s i:=rfl;rw [h3] at h2;show log.length+sumL busy (s.tasks.set i t)<=N+k;omega
 many:=by
  have:=h.many
  show (s.tasks.set i t).length<=N+k;rw [List.length_set];omega
theorem Inv.set0 (h:Inv p s N) (hi:i < s.tasks.length) {t:Task} (ht:TInv p s.clock i t) (hr:busy t<=busy (tk s i)):Inv p (setTask s i t) N:=h.set (log:=s.log) hi 0 ht (by omega) h.logs
theorem Inv.cellSet (h:Inv p s N) {k:Nat} {c:Cell} (hc:0<=c.num/\c.num<=99):Inv p (setCell s k c) N where
 prog:=h.prog
 cells:=by show (s.cells.set k c).length=_;rw [List.length_set];exact h.cells
 nums:=fun j hj=>by
  have hj':j < s.cells.length:=by simpa [setCell] using hj
  show 0<=(cellAt (s.cells.set k c) j).num/\(cellAt (s.cells.set k c) j).num<=99;simp only [cellAt,List.getD_eq_getElem?_getD,List.getElem?_set];split
  ·rename_i he
   subst he;simp [hj',hc]
  ·have:=h.nums j hj'
   simpa [cellAt,List.getD_eq_getElem?_getD] using this
 task:=h.task
 clock0:=h.clock0
 clock1:=h.clock1
 room:=h.room
 many:=h.many
 logs:=h.logs
theorem Inv.free (h:Inv p s N) (i:Nat):Inv p (free s i) N where
 prog:=h.prog
 cells:=by show (s.cells.map _).length=_;rw [List.length_map];exact h.cells
 nums:=fun j hj=>by
  have hj':j < s.cells.length:=by simpa [Eq.free] using hj
  have:=h.nums j hj'
  simp only [cellAt,Eq.free,List.getD_eq_getElem?_getD,List.getElem?_map,List.getElem?_eq_getElem hj',Option.map_some,Option.getD_some] at this ⊢;split <;> exact this
 task:=h.task
 clock0:=h.clock0
 clock1:=h.clock1
 room:=h.room
 many:=h.many
 logs:=h.logs
theorem Inv.again (h:Inv p s N) (hi:i < s.tasks.length):Inv p (again s i) N:=by
 have h1:=h.free i;have t:=h1.task i hi;refine h1.set0 hi ⟨t.body0,t.body1,t.pc0,t.pc1,t.up0,t.up1,t.old,t.old,PutsIn.nil _,PutsIn.nil _,t.since0,t.since1,Int.le_refl 0,stg0,fun h=>absurd rfl h,fun h=> ?_,fun h=> ?_,t.wait⟩ (by simp [busy])
 ·rcases h with h | h <;> cases h
 ·rcases h with h | h <;> cases h
theorem again_tk (hi:i < s.tasks.length):tk (again s i) i= {tk s i with regs:=(tk s i).old,reads:= [],puts:= [],when_:=0,stage:=0,at_:=0}:=tk_set hi
theorem again_len:(again s i).tasks.length=s.tasks.length:=set_len _ _ _
theorem TInv.done {t:Task} {c:Int} (h:TInv p c i t) (hc:0<=c) (hs:t.stage ≠ 0):TInv p c i {t with pc:=t.pc+1,reads:= [],puts:= [],since:=0,when_:=0,from_:=0,stage:=0,at_:=0}:=by
 have h1:=h.try1 hs;have h0:=h.pc0;refine ⟨h.body0,h.body1, ?_, ?_,h.up0,h.up1,h.regs,h.old,PutsIn.nil _,PutsIn.nil _,Int.le_refl 0,hc,Int.le_refl 0,stg0,fun h=>absurd rfl h,fun h=> ?_,fun h=> ?_,fun h=> ?_⟩
 ·show 0<=t.pc+1
  omega
 ·show t.pc+1<=((actsAt p.bodies t.body.toNat).length:Int)
  omega
 ·rcases h with h | h <;> cases h
 ·rcases h with h | h <;> cases h
 ·have h2:t.way=1:=h
  rw [h1.1] at h2;cases h2
theorem Inv.done (h:Inv p s N) (hi:i < s.tasks.length) (hs:(tk s i).stage ≠ 0) (w:Int):Inv p (done s i w) N:=
 h.set hi 0 ((h.task i hi).done h.clock0 hs) (by simp [busy,hs]) (fun e he=>by
  rcases List.mem_append.1 he with he | he
  ·exact h.logs e he
  ·rw [List.mem_singleton.1 he]
   exact ⟨h.reads hi,h.puts hi⟩)
theorem done_at (hi:i < s.tasks.length) (a w:Int):Eq.done (setTask s i {tk s i with at_:=a}) i w=Eq.done s i w:=by
 unfold Eq.done;simp only [tk_set hi,set_set];rfl
theorem Inv.toStage (h:Inv p s N) (hi:i < s.tasks.length) (hs:(tk s i).stage ≠ 0) (st:Int) (h1:2<=st/\st<=5) (hp:(tk s i).puts ≠ []):Inv p (toStage s i st) N:=by
 have t:=h.task i hi;refine h.set0 hi ⟨t.body0,t.body1,t.pc0,t.pc1,t.up0,t.up1,t.regs,t.old,t.reads,t.puts,t.since0,t.since1,Int.le_refl 0,⟨?_,h1.2⟩,fun _=>t.try1 hs,fun _=> ?_,fun _=>hp,t.wait⟩ ?_
 ·show 0<=st
  omega
 ·have:=List.length_pos_iff.2 hp
  show (0:Int) < ((tk s i).puts.length:Int);omega
 ·unfold busy
  rw [if_neg hs];split <;> omega
theorem Inv.begin_ (h:Inv p s N) (hi:i < s.tasks.length) (hw:(tk s i).way=0) (hpc:(tk s i).pc < (actsAt p.bodies (tk s i).body.toNat).length) (hk:(actAt (actsAt p.bodies (tk s i).body.toNat) (tk s i).pc.toNat).kind=1):Inv p (begin_ s i) (N+1):=by
 have t:=h.task i hi;refine h.set (log:=s.log) hi 1 ⟨t.body0,t.body1,t.pc0,t.pc1,t.up0,t.up1,t.regs,t.regs,t.reads,t.puts,h.clock0,Int.le_refl _,Int.le_refl 0,stg1,fun _=>⟨hw,hpc,hk⟩,fun h=> ?_,fun h=> ?_,t.wait⟩ ?_ h.logs
 ·rcases h with h | h <;> cases h
 ·rcases h with h | h <;> cases h
 ·exact Nat.le_trans (Nat.add_le_add_left (busy_le _) _) (by omega)
theorem Inv.next (h:Inv p s N) (hi:i < s.tasks.length) (hs:(tk s i).stage=1) {regs:List Int} {reads puts:List Put} (hr:NumsIn regs) (h1:PutsIn p.cells.length reads) (h2:PutsIn p.cells.length puts):Inv p (setTask s i {tk s i with regs:=regs,reads:=reads,puts:=puts,at_:=(tk s i).at_+1}) N:=by
 have t:=h.task i hi;refine h.set0 hi ⟨t.body0,t.body1,t.pc0,t.pc1,t.up0,t.up1,hr,t.old,h1,h2,t.since0,t.since1, ?_,t.stages,t.try1,fun h=> ?_,fun h=> ?_,t.wait⟩ (by simp [busy])
 ·have:=t.at0
  show 0<=(tk s i).at_+1;omega
 ·have h':(tk s i).stage=2\/(tk s i).stage=5:=h
  omega
 ·have h':(tk s i).stage=3\/(tk s i).stage=4:=h
  omega
theorem findP_lt {xs:List Put} {c:Int} {k:Nat} (h:findP xs c=some k):k < xs.length:=by
 unfold findP at h;rw [List.findIdx?_eq_some_iff_getElem] at h;exact h.1
theorem Inv.load (h:Inv p s N) (hi:i < s.tasks.length) (hs:(tk s i).stage=1) {d:Deed} (ha:0<=d.a/\d.a<=2) (hb:0<=d.b/\d.b < p.cells.length):Inv p (load s i d) N:=by
 have t:=h.task i hi;unfold Eq.load;simp only []
 cases hf:findP (tk s i).puts d.b with
 | some k=>exact h.next hi hs (t.regs.set ha (t.puts.at (findP_lt hf)).2) t.reads t.puts
 | none=>
  have hc:=h.nums d.b.toNat (by rw [h.cells];omega);show Inv p (if blind s i d.b=true then _ else _) N;split
  ·exact h.again hi
  ·exact h.next hi hs (t.regs.set ha hc) (t.reads.add (x:=⟨d.b,(cellAt s.cells d.b.toNat).num⟩) hb hc) t.puts
theorem Inv.deed (h:Inv p s N) (hi:i < s.tasks.length) (hs:(tk s i).stage=1) {ds:List Deed} (hd:∀ k,k < ds.length->deedOk (deedAt ds k) p.cells.length=true):Inv p (deed s i ds) N:=by
 have t:=h.task i hi;have hs0:(tk s i).stage ≠ 0:=by omega
 unfold Eq.deed;have h0:=t.at0;simp only [];split
 ·split
  ·exact h.done hi hs0 _
  ·rename_i hne
   exact h.toStage hi hs0 2 (by omega) hne
 ·rename_i hlt
  have hok:=hd (tk s i).at_.toNat (by omega);generalize deedAt ds (tk s i).at_.toNat=d at hok ⊢;by_cases k1:d.kind=1
  ·rw [if_pos k1]
   unfold deedOk at hok;rw [if_pos k1] at hok;simp only [Bool.and_eq_true,inB_iff] at hok;exact h.load hi hs hok.1 ⟨hok.2.1,by omega⟩
  ·rw [if_neg k1]
   by_cases k2:d.kind=2
   ·rw [if_pos k2]
    unfold deedOk at hok;rw [if_neg k1,if_pos k2] at hok;simp only [Bool.and_eq_true,inB_iff] at hok;exact h.next hi hs t.regs t.reads (t.puts.add ⟨hok.1.1,by show d.a < _;omega⟩ (t.regs.at hok.2))
   ·rw [if_neg k2]
    split
    ·have h1:=h.again hi
     have t1:=h1.task i (by rw [again_len];exact hi);rw [again_tk hi] at t1;refine h1.set0 (by rw [again_len];exact hi) ?_ ?_
     ·rw [again_tk hi]
      exact ⟨t1.body0,t1.body1,t1.pc0,t1.pc1,t1.up0,t1.up1,t1.regs,t1.old,t1.reads,t1.puts,t1.since0,t1.since1,t1.at0,t1.stages,t1.try1,t1.at1,t1.some,t1.wait⟩
     ·rw [again_tk hi]
      simp [busy]
    ·exact h.next hi hs (regDo_in t.regs hok) t.reads t.puts
theorem Inv.lock (h:Inv p s N) (hi:i < s.tasks.length) (hs:(tk s i).stage=2):Inv p (lock s i) N:=by
 have t:=h.task i hi;have hs0:(tk s i).stage ≠ 0:=by omega
 have ha:=t.at1 (.inl hs);have h0:=t.at0;have hp:(tk s i).puts ≠ []:=fun he=>by rw [he] at ha;simp at ha;omega
 have hx:=t.puts.at (k:=(tk s i).at_.toNat) (by omega);unfold Eq.lock;simp only [];split
 ·exact h.again hi
 ·have hc:=h.nums (putAt (tk s i).puts (tk s i).at_.toNat).cell.toNat (by rw [h.cells];omega)
  have h1:=h.cellSet (k:=(putAt (tk s i).puts (tk s i).at_.toNat).cell.toNat) (c:={cellAt s.cells (putAt (tk s i).puts (tk s i).at_.toNat).cell.toNat with lock:=i}) hc;split
  ·exact h1.toStage hi hs0 3 (by omega) hp
  ·rename_i hne
   refine h1.set0 hi ⟨t.body0,t.body1,t.pc0,t.pc1,t.up0,t.up1,t.regs,t.old,t.reads,t.puts,t.since0,t.since1, ?_,t.stages,t.try1,fun _=> ?_,fun _=>hp,t.wait⟩ (by simp [busy];exact Nat.le_refl _)
   ·show 0<=(tk s i).at_+1
    omega
   ·show (tk s i).at_+1 < ((tk s i).puts.length:Int)
    omega
theorem Inv.time (h:Inv p s N) (hi:i < s.tasks.length) (hs:(tk s i).stage=3) (hc:s.clock < 200):Inv p (time s i) N:=by
 have t:=h.task i hi
 have h1:Inv p {s with clock:=s.clock+1} N:=⟨h.prog,h.cells,h.nums,fun j hj=>by
  have u:=h.task j hj;exact ⟨u.body0,u.body1,u.pc0,u.pc1,u.up0,u.up1,u.regs,u.old,u.reads,u.puts,u.since0,Int.le_trans u.since1 (by show s.clock<=s.clock+1;omega),u.at0,u.stages,u.try1,u.at1,u.some,u.wait⟩,by have:=h.clock0;show 0<=s.clock+1;omega,by show s.clock+1<=200;omega,h.room,h.many,h.logs⟩
 have t1:=h1.task i hi;have hb:busy {tk s i with when_:=s.clock+1,stage:=4,at_:=0}<=busy (tk s i):=by simp [busy,hs]
 refine h1.set0 (t:={tk s i with when_:=s.clock+1,stage:=4,at_:=0}) hi ⟨t1.body0,t1.body1,t1.pc0,t1.pc1,t1.up0,t1.up1,t1.regs,t1.old,t1.reads,t1.puts,t1.since0,t1.since1,Int.le_refl 0,stg4,fun _=>t.try1 (by omega),fun h=> ?_,fun _=>t.some (.inl hs),t1.wait⟩ hb;rcases h with h | h <;> cases h
theorem Inv.check (h:Inv p s N) (hi:i < s.tasks.length) (hs:(tk s i).stage=4):Inv p (check s i) N:=by
 have t:=h.task i hi;unfold Eq.check;simp only [];split
 ·exact h.toStage hi (by omega) 5 (by omega) (t.some (.inr hs))
 ·split
  ·exact h.again hi
  ·refine h.set0 hi ⟨t.body0,t.body1,t.pc0,t.pc1,t.up0,t.up1,t.regs,t.old,t.reads,t.puts,t.since0,t.since1, ?_,t.stages,t.try1,fun h=> ?_,fun _=>t.some (.inr hs),t.wait⟩ (by simp [busy])
   ·have:=t.at0
    show 0<=(tk s i).at_+1;omega
   ·have h':(tk s i).stage=2\/(tk s i).stage=5:=h
    omega
theorem Inv.write (h:Inv p s N) (hi:i < s.tasks.length) (hs:(tk s i).stage=5):Inv p (write s i) N:=by
 have t:=h.task i hi;have hs0:(tk s i).stage ≠ 0:=by omega
 have ha:=t.at1 (.inr hs);have h0:=t.at0;have hx:=t.puts.at (k:=(tk s i).at_.toNat) (by omega);have h1:=h.cellSet (k:=(putAt (tk s i).puts (tk s i).at_.toNat).cell.toNat) (c:=⟨(putAt (tk s i).puts (tk s i).at_.toNat).num,(tk s i).when_,-1⟩) hx.2;unfold Eq.write;simp only [];split
 ·rename_i he
  have h2:=h1.done hi hs0 (tk s i).when_;exact (congrArg (fun x=>Inv p x N) (done_at (s:=setCell s (putAt (tk s i).puts (tk s i).at_.toNat).cell.toNat ⟨(putAt (tk s i).puts (tk s i).at_.toNat).num,(tk s i).when_,-1⟩) hi ((tk s i).at_+1) (tk s i).when_)).mpr h2
 ·rename_i he
  refine h1.set0 hi ⟨t.body0,t.body1,t.pc0,t.pc1,t.up0,t.up1,t.regs,t.old,t.reads,t.puts,t.since0,t.since1, ?_,t.stages,t.try1,fun _=> ?_,fun h=> ?_,t.wait⟩ (by simp [busy];exact Nat.le_refl _)
  ·show 0<=(tk s i).at_+1
   omega
  ·show (tk s i).at_+1 < ((tk s i).puts.length:Int)
   omega
  ·have h':(tk s i).stage=3\/(tk s i).stage=4:=h
   omega
theorem write_len:(write s i).tasks.length=s.tasks.length:=by
 unfold Eq.write Eq.done;simp only [];split <;> simp [setTask,setCell]
theorem Inv.try_ (h:Inv p s N) (hi:i < s.tasks.length) (hc:s.clock < 200) (hw:(tk s i).way=0) (hpc:(tk s i).pc < (actsAt p.bodies (tk s i).body.toNat).length) (hk:(actAt (actsAt p.bodies (tk s i).body.toNat) (tk s i).pc.toNat).kind=1):Inv p (try_ s i (actAt (actsAt p.bodies (tk s i).body.toNat) (tk s i).pc.toNat).deeds) (N+1):=by
 have t:=h.task i hi;have h0:=t.pc0;unfold Eq.try_;by_cases s0:(tk s i).stage=0
 ·rw [if_pos s0]
  exact h.begin_ hi hw hpc hk
 ·rw [if_neg s0]
  refine Inv.more ?_ (Nat.le_succ N);by_cases s1:(tk s i).stage=1
  ·rw [if_pos s1]
   exact h.deed hi s1 (act_deed (form_act h.form ⟨t.body0,t.body1⟩ (by omega)) hk).2
  ·rw [if_neg s1]
   by_cases s2:(tk s i).stage=2
   ·rw [if_pos s2]
    exact h.lock hi s2
   ·rw [if_neg s2]
    by_cases s3:(tk s i).stage=3
    ·rw [if_pos s3]
     exact h.time hi s3 hc
    ·rw [if_neg s3]
     by_cases s4:(tk s i).stage=4
     ·rw [if_pos s4]
      exact h.check hi s4
     ·rw [if_neg s4]
      exact h.write hi (by have:=t.stages;omega)
theorem Inv.way (h:Inv p s N) (hi:i < s.tasks.length) (hs:(tk s i).stage=0) {w:Int} (hw:w ≠ 1):Inv p (setWay s i w) N:=by
 have t:=h.task i hi;exact h.set0 hi ⟨t.body0,t.body1,t.pc0,t.pc1,t.up0,t.up1,t.regs,t.old,t.reads,t.puts,t.since0,t.since1,t.at0,t.stages,fun h=>absurd hs h,t.at1,t.some,fun h=>absurd h hw⟩ (by simp [busy])
theorem writes_len:∀ (n:Nat) (s:Sys),(writes i n s).tasks.length=s.tasks.length
 | 0,s=>rfl
 | n+1,s=>by
  unfold writes;split
  ·rw [writes_len n,write_len]
  ·rfl
theorem Inv.writes:∀ (n:Nat) {s:Sys},Inv p s N->i < s.tasks.length->Inv p (writes i n s) N
 | 0,s,h,_=>h
 | n+1,s,h,hi=>by
  unfold Eq.writes;split
  ·rename_i hs
   exact Inv.writes n (h.write hi hs) (by rw [write_len];exact hi)
  ·exact h
theorem offOne_len:(offOne s i).tasks.length=s.tasks.length:=by
 unfold offOne;split
 ·simp only [setWay,set_len]
  split
  ·exact writes_len _ _
  ·rw [again_len,writes_len]
 ·rfl
theorem Inv.offOne (h:Inv p s N) (hi:i < s.tasks.length):Inv p (offOne s i) N:=by
 unfold Eq.offOne;split
 ·have h1:=Inv.writes ((tk s i).puts.length+1) h hi
  have hi1:i < (Eq.writes i ((tk s i).puts.length+1) s).tasks.length:=by rw [writes_len];exact hi
  simp only [];split
  ·rename_i hs
   exact h1.way hi1 hs (by decide)
  ·exact (h1.again hi1).way (by rw [again_len];exact hi1) (by rw [again_tk hi1]) (by decide)
 ·exact h
theorem offFold_len (n:Nat) (hn:∀ s k,(offN n s k).tasks.length=s.tasks.length):∀ (l:List Nat) (s:Sys),(l.foldl (fun s k=>if (tk s k).up=i then offN n s k else s) s).tasks.length=s.tasks.length
 | [],s=>rfl
 | k :: l,s=>by
  rw [List.foldl_cons,offFold_len n hn l];split
  ·exact hn _ _
  ·rfl
theorem offN_len:∀ (n:Nat) (s:Sys) (i:Nat),(offN n s i).tasks.length=s.tasks.length
 | 0,s,i=>rfl
 | n+1,s,i=>by
  unfold offN;rw [offOne_len,offFold_len n (fun s k=>offN_len n s k)]
theorem Inv.offFold {n i:Nat} (hn:∀ {s:Sys} {k:Nat},Inv p s N->k < s.tasks.length->Inv p (offN n s k) N):∀ (l:List Nat) {s:Sys},Inv p s N->(∀ k ∈ l,k < s.tasks.length)->Inv p (l.foldl (fun s k=>if (tk s k).up=i then offN n s k else s) s) N
 | [],s,h,_=>h
 | k :: l,s,h,hl=>by
  rw [List.foldl_cons];split
  ·exact Inv.offFold hn l (hn h (hl k (by simp))) (fun j hj=>by rw [offN_len];exact hl j (by simp [hj]))
  ·exact Inv.offFold hn l h (fun j hj=>hl j (by simp [hj]))
theorem Inv.offN:∀ (n:Nat) {s:Sys} {i:Nat},Inv p s N->i < s.tasks.length->Inv p (offN n s i) N
 | 0,s,i,h,_=>h
 | n+1,s,i,h,hi=>by
  unfold Eq.offN;have h1:=Inv.offFold (i:=i) (fun {s k} h hk=>Inv.offN n h hk) (List.range s.tasks.length) h (fun k hk=>by simpa using hk);exact h1.offOne (by rw [offFold_len n (fun s k=>offN_len n s k)];exact hi)
end
section
variable {p:Prog} {s:Sys} {N i j:Nat}
theorem again_other (h:j ≠ i):tk (again s i) j=tk s j:=by
 unfold again;rw [tk_other h];rfl
theorem done_other (h:j ≠ i) (w:Int):tk (done s i w) j=tk s j:=tk_other (s:=s) h
theorem write_other (h:j ≠ i):tk (write s i) j=tk s j:=by
 unfold write;simp only [];split
 ·rw [done_other h,tk_other h]
  rfl
 ·rw [tk_other h]
  rfl
theorem writes_other (h:j ≠ i):∀ (n:Nat) (s:Sys),tk (writes i n s) j=tk s j
 | 0,s=>rfl
 | n+1,s=>by
  unfold writes;split
  ·rw [writes_other h n,write_other h]
  ·rfl
theorem offOne_other (h:j ≠ i):tk (offOne s i) j=tk s j:=by
 unfold offOne;split
 ·simp only [setWay]
  rw [tk_other h];split
  ·rw [writes_other h]
  ·rw [again_other h,writes_other h]
 ·rfl
theorem offN_low:∀ (n:Nat) {s:Sys} {i:Nat},Inv p s N->i < s.tasks.length->j < i->tk (offN n s i) j=tk s j
 | 0,s,i,_,_,_=>rfl
 | n+1,s,i,h,hi,hj=>by
  unfold offN;rw [offOne_other (by omega)]
  have:∀ (l:List Nat) {s:Sys},Inv p s N->(∀ k ∈ l,k < s.tasks.length)->tk (l.foldl (fun s k=>if (tk s k).up=i then offN n s k else s) s) j=tk s j:=by
   intro l
   induction l with
   | nil=>intro s _ _;rfl
   | cons k l ih=>
    intro s h hl;rw [List.foldl_cons];have hk:=hl k (by simp);split
    ·rename_i hu
     have:=(h.task k hk).up1
     rw [ih (Inv.offN n h hk) (fun q hq=>by rw [offN_len];exact hl q (by simp [hq])),offN_low n h hk (by omega)]
    ·exact ih h (fun q hq=>hl q (by simp [hq]))
  exact this _ h (fun k hk=>by simpa using hk)
theorem off_len:(off s i).tasks.length=s.tasks.length:=offN_len _ _ _
theorem Inv.off (h:Inv p s N) (hi:i < s.tasks.length):Inv p (off s i) N:=Inv.offN _ h hi
theorem offsFold_len:∀ (l:List Nat) (s:Sys),(l.foldl (fun s k=>if (tk s k).up=i then off s k else s) s).tasks.length=s.tasks.length
 | [],s=>rfl
 | k :: l,s=>by
  rw [List.foldl_cons,offsFold_len l];split
  ·exact off_len
  ·rfl
theorem Inv.offsFold:∀ (l:List Nat) {s:Sys},Inv p s N->(∀ k ∈ l,k < s.tasks.length)->Inv p (l.foldl (fun s k=>if (tk s k).up=i then Eq.off s k else s) s) N/\tk (l.foldl (fun s k=>if (tk s k).up=i then Eq.off s k else s) s) i=tk s i
 | [],s,h,_=>⟨h,rfl⟩
 | k :: l,s,h,hl=>by
  rw [List.foldl_cons];have hk:=hl k (by simp);split
  ·rename_i hu
   have hup:=(h.task k hk).up1;obtain ⟨h1,h2⟩:=Inv.offsFold l (h.off hk) (fun q hq=>by rw [off_len];exact hl q (by simp [hq]));exact ⟨h1,by rw [h2];exact offN_low _ h hk (by omega)⟩
  ·exact Inv.offsFold l h (fun q hq=>hl q (by simp [hq]))
theorem offs_len:(offs s i).tasks.length=s.tasks.length:=offsFold_len _ _
theorem Inv.offs (h:Inv p s N):Inv p (offs s i) N/\tk (Eq.offs s i) i=tk s i:=Inv.offsFold (List.range s.tasks.length) h (fun k hk=>by simpa using hk)
def offsTo (s:Sys) (i k:Nat):Sys:=(List.range k).foldl (fun s k=>if (tk s k).up=i then Eq.off s k else s) s
theorem offsTo_next (s:Sys) (i k:Nat):offsTo s i (k+1)=if (tk (offsTo s i k) k).up=i then Eq.off (offsTo s i k) k else offsTo s i k:=by
 unfold offsTo;rw [List.range_succ,List.foldl_append];rfl
theorem offsTo_len (k:Nat):(offsTo s i k).tasks.length=s.tasks.length:=offsFold_len _ _
theorem Inv.offsTo (h:Inv p s N) {k:Nat} (hk:k<=s.tasks.length):Inv p (offsTo s i k) N/\tk (Eq.offsTo s i k) i=tk s i:=Inv.offsFold (List.range k) h (fun q hq=>by have:=List.mem_range.1 hq;omega)
theorem offN_more:∀ (n:Nat) {s:Sys} {i:Nat},Inv p s N->i < s.tasks.length->s.tasks.length - i<=n->offN (n+1) s i=offN n s i
 | 0,s,i,_,hi,hn=>by omega
 | n+1,s,i,h,hi,hn=>by
  rw [offN,offN]
  congr 1
  have:∀ (l:List Nat) {s':Sys},Inv p s' N->s'.tasks.length=s.tasks.length->(∀ k ∈ l,k < s.tasks.length)->l.foldl (fun s k=>if (tk s k).up=i then offN (n+1) s k else s) s'=l.foldl (fun s k=>if (tk s k).up=i then offN n s k else s) s':=by
   intro l
   induction l with
   | nil=>intro s' _ _ _;rfl
   | cons k l ih=>
    intro s' h hs hl;have hk:=hl k (by simp);rw [List.foldl_cons,List.foldl_cons];by_cases hu:(tk s' k).up=i
    ·rw [if_pos hu,if_pos hu]
     have hup:=(h.task k (by omega)).up1;rw [offN_more n h (by omega) (by omega)];exact ih (Inv.offN n h (by omega)) (by rw [offN_len];exact hs) (fun q hq=>hl q (by simp [hq]))
    ·rw [if_neg hu,if_neg hu]
     exact ih h hs (fun q hq=>hl q (by simp [hq]))
  exact this _ h rfl (fun k hk=>by simpa using hk)
theorem offN_off {s:Sys} {i:Nat} (h:Inv p s N) (hi:i < s.tasks.length):∀ d,offN (s.tasks.length - i+d) s i=Eq.off s i
 | 0=>rfl
 | d+1=>by
  rw [<-Nat.add_assoc,offN_more _ h hi (by omega),offN_off h hi d]
theorem off_eq (h:Inv p s N) (hi:i < s.tasks.length):Eq.off s i=Eq.offOne (Eq.offs s i) i:=by
 have he:Eq.off s i=offN (s.tasks.length - i - 1+1) s i:=by
  show offN (s.tasks.length - i) s i=_
  congr 1
  omega
 rw [he,offN]
 congr 1
 have:∀ (l:List Nat) {s':Sys},Inv p s' N->s'.tasks.length=s.tasks.length->(∀ k ∈ l,k < s.tasks.length)->l.foldl (fun s k=>if (tk s k).up=i then offN (s'.tasks.length - i - 1) s k else s) s'=l.foldl (fun s k=>if (tk s k).up=i then Eq.off s k else s) s':=by
  intro l
  induction l with
  | nil=>intro s' _ _ _;rfl
  | cons k l ih=>
   intro s' h hs hl;have hk:=hl k (by simp);rw [List.foldl_cons,List.foldl_cons];by_cases hu:(tk s' k).up=i
   ·rw [if_pos hu,if_pos hu]
    have hup:=(h.task k (by omega)).up1;have ho:=offN_off h (i:=k) (by omega) (k - i - 1);rw [show s'.tasks.length - k+(k - i - 1)=s'.tasks.length - i - 1 by omega] at ho;rw [ho];have:=ih (h.off (i:=k) (by omega)) (by rw [off_len];exact hs) (fun q hq=>hl q (by simp [hq]));rw [off_len] at this;exact this
   ·rw [if_neg hu,if_neg hu]
    exact ih h hs (fun q hq=>hl q (by simp [hq]))
 exact this _ h rfl (fun k hk=>by simpa using hk)
theorem Inv.awaits (h:Inv p s N) (hi:i < s.tasks.length) (hw:(tk s i).way=1):Inv p (awaits s i) N:=by
 have t:=h.task i hi;have hs:(tk s i).stage=0:=Classical.byContradiction fun hne=>by have:=(t.try1 hne).1;omega
 have h0:=t.pc0;have h1:=t.wait hw;unfold Eq.awaits;split
 ·exact h.set0 hi ⟨t.body0,t.body1,by show 0<=(tk s i).pc+1;omega,by show (tk s i).pc+1<=((actsAt p.bodies (tk s i).body.toNat).length:Int);omega,t.up0,t.up1,t.regs,t.old,t.reads,t.puts,t.since0,t.since1,t.at0,t.stages,fun h=>absurd hs h,t.at1,t.some,fun h=>by cases h⟩ (by simp [busy])
 ·obtain ⟨h2,h3⟩:=h.offs (i:=i)
  exact h2.way (by rw [offs_len];exact hi) (by rw [h3];exact hs) (by decide)
theorem tk_app (s:Sys) (l:List Task) (h:j < s.tasks.length):tk {s with tasks:=s.tasks ++ l} j=tk s j:=by
 simp [tk,taskAt,List.getD_eq_getElem?_getD,List.getElem?_append_left h]
theorem Inv.newTask {c:Int} (hf:0<=c) {b u:Int} (hb:0<=b/\b < p.bodies.length) (hu: -1<=u/\u < j):TInv p c j (newTask b u):=by
 have z:NumsIn [0,0,0]:=⟨rfl,fun k hk=>by
  match k,hk with
  | 0,_=>decide
  | 1,_=>decide
  | 2,_=>decide⟩
 refine ⟨hb.1,hb.2,Int.le_refl 0,by show (0:Int)<=_;omega,hu.1,hu.2,z,z,PutsIn.nil _,PutsIn.nil _,Int.le_refl 0,hf,Int.le_refl 0,stg0,fun h=>absurd rfl h,fun h=> ?_,fun h=> ?_,fun h=>by cases h⟩
 ·rcases h with h | h <;> cases h
 ·rcases h with h | h <;> cases h
theorem fork_len (ks:List Int):(fork s i ks).tasks.length=s.tasks.length+ks.length:=by simp [fork,setWay,setTask]
theorem Inv.fork (h:Inv p s N) (hi:i < s.tasks.length) (hw:(tk s i).way=0) (hpc:(tk s i).pc < (actsAt p.bodies (tk s i).body.toNat).length) (hk:(actAt (actsAt p.bodies (tk s i).body.toNat) (tk s i).pc.toNat).kind=2):Inv p (fork s i (actAt (actsAt p.bodies (tk s i).body.toNat) (tk s i).pc.toNat).kids) (N+2):=by
 have t:=h.task i hi;have hs:(tk s i).stage=0:=Classical.byContradiction fun hne=>by have:=(t.try1 hne).2.2;omega
 have h0:=t.pc0;obtain ⟨k2,k1,kb⟩:=act_kids (form_act h.form ⟨t.body0,t.body1⟩ (k:=(tk s i).pc.toNat) (by omega)) hk;have hb0:=t.body0;generalize hks:(actAt (actsAt p.bodies (tk s i).body.toNat) (tk s i).pc.toNat).kids=ks at k1 k2 kb
 have h1:Inv p {s with tasks:=s.tasks ++ ks.map fun b=>Eq.newTask b i} (N+2):=by
  refine ⟨h.prog,h.cells,h.nums,fun j hj=> ?_,h.clock0,h.clock1, ?_, ?_,h.logs⟩
  ·show TInv p s.clock j _
   by_cases hl:j < s.tasks.length
   ·rw [tk_app s _ hl]
    exact h.task j hl
   ·simp only [List.length_append,List.length_map] at hj
    have hq:j - s.tasks.length < ks.length:=by omega
    have he:tk {s with tasks:=s.tasks ++ ks.map fun b=>Eq.newTask b i} j=Eq.newTask (numAt ks (j - s.tasks.length)) i:=by
     simp only [tk,taskAt,List.getD_eq_getElem?_getD];rw [List.getElem?_append_right (by omega)];simp [numAt,hq]
    rw [he]
    have:=kb _ hq
    exact Inv.newTask h.clock0 (by omega) (by omega)
  ·have:=h.room
   show s.log.length+sumL busy (s.tasks ++ ks.map fun b=>Eq.newTask b i)<=N+2
   rw [sumL_append,sumL_zero busy (ks.map fun b=>Eq.newTask b i) (fun a ha=>by
    obtain ⟨b,_,rfl⟩:=List.mem_map.1 ha;rfl)]
   omega
  ·have:=h.many
   show (s.tasks ++ ks.map fun b=>Eq.newTask b i).length<=N+2;simp only [List.length_append,List.length_map];omega
 have hi1:i < ({s with tasks:=s.tasks ++ ks.map fun b=>Eq.newTask b i}:Sys).tasks.length:=by
  show i < (s.tasks ++ ks.map fun b=>Eq.newTask b i).length;rw [List.length_append];omega
 have t1:=h1.task i hi1;unfold Eq.fork setWay;refine h1.set0 hi1 ?_ (by simp [busy]);rw [tk_app s _ hi];exact ⟨t.body0,t.body1,t.pc0,t.pc1,t.up0,t.up1,t.regs,t.old,t.reads,t.puts,t.since0,t.since1,t.at0,t.stages,fun h=>absurd hs h,t.at1,t.some,fun _=>⟨hpc,hk⟩⟩
theorem ready_way (h:ready s i=true):((tk s i).way=0\/(tk s i).way=1)/\s.clock < 200:=by
 unfold ready at h;simp only [] at h;split at h
 ·cases h
 ·split at h
  ·rename_i h1
   exact ⟨.inl h1,by omega⟩
  ·split at h
   ·rename_i h1
    exact ⟨.inr h1,by omega⟩
   ·cases h
theorem Inv.step (h:Inv p s N) (hi:i < s.tasks.length) (hr:ready s i=true):Inv p (step p s i) (N+2):=by
 have t:=h.task i hi;have h0:=t.pc0;obtain ⟨hw,hc⟩:=ready_way hr;unfold Eq.step;simp only [];by_cases w1:(tk s i).way=1
 ·rw [if_pos w1]
  exact (h.awaits hi w1).more (by omega)
 ·rw [if_neg w1]
  have w0:(tk s i).way=0:=by omega
  by_cases hpc:(((actsAt p.bodies (tk s i).body.toNat).length:Int))<=(tk s i).pc
  ·rw [if_pos hpc]
   have hs:(tk s i).stage=0:=Classical.byContradiction fun hne=>by have:=(t.try1 hne).2.1;omega
   exact (h.way hi hs (by decide)).more (by omega)
  ·rw [if_neg hpc]
   have hact:=form_act h.form ⟨t.body0,t.body1⟩ (k:=(tk s i).pc.toNat) (by omega);by_cases k1:(actAt (actsAt p.bodies (tk s i).body.toNat) (tk s i).pc.toNat).kind=1
   ·rw [if_pos k1]
    exact (h.try_ hi hc w0 (by omega) k1).more (by omega)
   ·rw [if_neg k1]
    have hs:(tk s i).stage=0:=Classical.byContradiction fun hne=>k1 (t.try1 hne).2.2
    by_cases k2:(actAt (actsAt p.bodies (tk s i).body.toNat) (tk s i).pc.toNat).kind=2
    ·rw [if_pos k2]
     exact h.fork hi w0 (by omega) k2
    ·rw [if_neg k2]
     split
     ·exact (h.way hi hs (by decide)).more (by omega)
     ·exact (h.set0 (t:={tk s i with pc:=(tk s i).pc+1}) hi ⟨t.body0,t.body1,by show 0<=(tk s i).pc+1;omega,by show (tk s i).pc+1<=((actsAt p.bodies (tk s i).body.toNat).length:Int);omega,t.up0,t.up1,t.regs,t.old,t.reads,t.puts,t.since0,t.since1,t.at0,t.stages,fun h=>absurd hs h,t.at1,t.some,fun h=>absurd h w1⟩ (by simp [busy])).more (by omega)
theorem Inv.turn (h:Inv p s N) (k:Int):Inv p (turn p s k) (N+2):=by
 unfold Eq.turn;split
 ·rename_i hc
  simp only [canDo,Bool.and_eq_true,inB_iff] at hc;exact h.step (by omega) hc.2
 ·exact h.more (by omega)
theorem turns_next (p:Prog) (s:Sys) (ks:List Int) {k:Nat} (h:k < ks.length):turns p s (ks.take (k+1))=turn p (turns p s (ks.take k)) (numAt ks k):=by
 unfold turns;rw [List.take_succ_eq_append_getElem h,List.foldl_append];simp [numAt,h]
theorem Inv.turns (h:Inv p s N):∀ (ks:List Int),Inv p (turns p s ks) (N+2*ks.length):=by
 intro ks
 induction ks generalizing s N with
 | nil=>exact h.more (by simp)
 | cons k ks ih=>
  have:=ih (h.turn k)
  simp only [List.length_cons];exact this.more (by omega)
theorem putsIn_of {xs:List Put} {n:Nat} (h:listOk xs n=true):PutsIn n xs:=by
 simp only [listOk,allB_iff,Bool.and_eq_true,inB_iff,Bool.or_eq_true,decide_eq_true_eq] at h;have hat:∀ k (hk:k < xs.length),putAt xs k=xs[k]:=fun k hk=>by simp [putAt,hk]
 refine ⟨fun x hx=> ?_,fun x hx=> ?_, ?_⟩
 ·obtain ⟨k,hk,rfl⟩:=List.mem_iff_getElem.1 hx
  have:=(h k hk).1.1
  rw [hat k hk] at this;omega
 ·obtain ⟨k,hk,rfl⟩:=List.mem_iff_getElem.1 hx
  have:=(h k hk).1.2
  rw [hat k hk] at this;omega
 ·have:∀ d k,(hk:k+d+1 < xs.length)->(putAt xs k).cell < (putAt xs (k+d+1)).cell:=by
   intro d
   induction d with
   | zero=>
    intro k hk
    have:=(h (k+1) hk).2
    simpa using this
   | succ d ih=>
    intro k hk;have h1:=ih k (by omega);have h2:=(h (k+(d+1)+1) hk).2;have h3:k+(d+1)+1 - 1=k+d+1:=by omega
    rw [h3] at h2;rcases h2 with h2 | h2
    ·omega
    ·omega
  rw [List.pairwise_iff_getElem];intro a b ha hb hab;have:=this (b - a - 1) a (by omega);rw [show a+(b - a - 1)+1=b by omega,hat a ha,hat b hb] at this;exact this
theorem numsIn_of {xs:List Int} (h:numsOk xs 3=true):NumsIn xs:=by
 simp only [numsOk,Bool.and_eq_true,allB_iff,inB_iff,decide_eq_true_eq] at h;have hl:xs.length=3:=by omega
 exact ⟨hl,fun k hk=>h.1 k (by omega)⟩
theorem Inv.ofOk (h:sysOk p s=true):Inv p s (s.log.length+s.tasks.length):=by
 simp only [sysOk,Bool.and_eq_true,decide_eq_true_eq,inB_iff,allB_iff] at h;obtain ⟨⟨⟨⟨⟨⟨hp,hc⟩,ht⟩,hk⟩,hT⟩,hC⟩,hL⟩:=h;refine ⟨hp,hc,fun k hk=> ?_,fun i hi=> ?_,hk.1,hk.2, ?_,by omega,fun e he=> ?_⟩
 ·simp only [cellsOk,allB_iff,Bool.and_eq_true,inB_iff] at hC
  exact (hC k hk).1.1.1
 ·have h1:=hT i hi
  simp only [taskOk,Bool.and_eq_true,inB_iff,decide_eq_true_eq,Bool.or_eq_true,Bool.not_eq_true',decide_eq_false_iff_not] at h1;obtain ⟨⟨⟨⟨⟨⟨⟨⟨⟨⟨⟨⟨hb,hpc⟩,hw⟩,hst⟩,hwr⟩,hr⟩,ho⟩,hrd⟩,hpt⟩,hz⟩,htm⟩,hup⟩,hwy⟩:=h1;rw [hc] at hrd hpt;change wayOk p s i=true at hwy;unfold wayOk at hwy;simp only [] at hwy;unfold timesOk at htm;simp only [Bool.and_eq_true,inB_iff] at htm;unfold upsOk at hup;simp only [] at hup;change _/\_ at hb
  have hup': -1<=(tk s i).up/\(tk s i).up < i:=by
   show -1<=(taskAt s.tasks i).up/\(taskAt s.tasks i).up < i;split at hup
   ·rename_i h0
    have:(taskAt s.tasks i).up= -1:=by simpa using hup
    omega
   ·simp only [Bool.and_eq_true,inB_iff] at hup
    omega
  have hway:∀ hs:(tk s i).stage ≠ 0,(tk s i).way=0/\((tk s i).pc < (actsAt p.bodies (tk s i).body.toNat).length/\(actAt (actsAt p.bodies (tk s i).body.toNat) (tk s i).pc.toNat).kind=1)/\stOk (tk s i) (actAt (actsAt p.bodies (tk s i).body.toNat) (tk s i).pc.toNat).deeds.length=true:=by
   intro hs
   have hw0:(taskAt s.tasks i).way=0:=by
    rcases hwr with h | h
    ·exact h
    ·exact absurd h hs
   refine ⟨hw0, ?_⟩;rw [if_pos hw0] at hwy;simp only [Bool.or_eq_true,decide_eq_true_eq,Bool.and_eq_true] at hwy;rcases hwy with h | h
   ·exact absurd h hs
   ·exact ⟨h.1,h.2⟩
  refine ⟨hb.1,by have:=hb.2;show (taskAt s.tasks i).body < _;omega,hpc.1,hpc.2,hup'.1,hup'.2,numsIn_of hr,numsIn_of ho,putsIn_of hrd,putsIn_of hpt,htm.1.1.1,htm.1.1.2, ?_,hst,fun hs=>⟨(hway hs).1,(hway hs).2.1⟩,fun hs=> ?_,fun hs=> ?_,fun hw1=> ?_⟩
  ·by_cases h0:(tk s i).stage=0
   ·rcases hz with hz | hz
    ·exact absurd h0 hz
    ·exact Int.le_of_eq hz.1.symm
   ·have h2:=(hway h0).2.2
    unfold stOk at h2;rw [if_neg h0] at h2;repeat' split at h2
    all_goals simp only [Bool.and_eq_true,inB_iff,decide_eq_true_eq] at h2
    all_goals omega
  ·have h0:(tk s i).stage ≠ 0:=by omega
   have h2:=(hway h0).2.2;unfold stOk at h2;rw [if_neg h0,if_neg (by omega),if_neg (by omega),if_neg (by omega)] at h2;simp only [inB_iff] at h2;omega
  ·have h0:(tk s i).stage ≠ 0:=by omega
   have h2:=(hway h0).2.2;unfold stOk at h2;rw [if_neg h0,if_neg (by omega)] at h2;rcases hs with h3 | h4
   ·rw [if_pos h3] at h2
    simp only [Bool.and_eq_true,decide_eq_true_eq] at h2;exact List.length_pos_iff.1 h2.2
   ·rw [if_neg (by omega),if_pos h4] at h2
    simp only [Bool.and_eq_true,decide_eq_true_eq] at h2;exact List.length_pos_iff.1 h2.2
  ·have hw1':(taskAt s.tasks i).way=1:=hw1
   rw [if_neg (by omega),if_pos hw1'] at hwy;simp only [Bool.and_eq_true,decide_eq_true_eq] at hwy;exact hwy.1
 ·have:∀ l:List Task,sumL busy l<=l.length:=by
   intro l
   induction l with
   | nil=>exact Nat.le_refl _
   | cons a l ih=>
    have:busy a<=1:=by unfold busy;split <;> omega
    simp only [sumL,List.length_cons];omega
  have:=this s.tasks
  omega
 ·obtain ⟨k,hk,rfl⟩:=List.mem_iff_getElem.1 he
  simp only [logOk,allB_iff,Bool.and_eq_true] at hL;have h1:=hL k hk;have he:entryAt s.log k=s.log[k]:=by simp [entryAt,hk]
  rw [he,hc] at h1
  have hf:formOk p=true:=by
   simp only [progOk,Bool.and_eq_true] at hp;exact hp.1
  have h3:=(form_cells hf).1;exact ⟨Nat.le_trans (putsIn_of h1.1.1.2).len h3,Nat.le_trans (putsIn_of h1.1.2).len h3⟩
end
theorem sysOk_new {p:Prog} (h:progOk p=true):sysOk p (sysNew p)=true:=by
 have hf:formOk p=true:=by
  simp only [progOk,Bool.and_eq_true] at h;exact h.1
 have hb:=form_cells hf
 have hn:∀ k,k < p.cells.length->0<=numAt p.cells k/\numAt p.cells k<=99:=by
  have:=hf
  simp only [formOk,Bool.and_eq_true,allB_iff,inB_iff] at this;exact this.1.2
 have hnums:numsOk [0,0,0] 3=true:=by decide
 have hlist:∀ n,listOk [] n=true:=fun n=>by simp [listOk,allB]
 simp only [sysOk,Bool.and_eq_true,decide_eq_true_eq,inB_iff,allB_iff];refine ⟨⟨⟨⟨⟨⟨h,by simp [sysNew]⟩,by simp [sysNew]⟩,by simp [sysNew]⟩,fun i hi=> ?_⟩, ?_⟩,by simp [logOk,allB,sysNew]⟩
 ·have h0:i=0:=by
   have:i < 1:=hi
   omega
  subst h0;have ht:taskAt (sysNew p).tasks 0=newTask 0 (-1):=rfl;unfold taskOk;rw [ht]
  have h1:inB (newTask 0 (-1)).body 0 ((p.bodies.length:Int) - 1)=true:=by
   rw [inB_iff];show (0:Int)<=0/\(0:Int)<=_;omega
  have h2:inB (newTask 0 (-1)).pc 0 (actsAt p.bodies (newTask 0 (-1)).body.toNat).length=true:=by
   rw [inB_iff];show (0:Int)<=0/\(0:Int)<=_;omega
  have h3:timesOk (newTask 0 (-1)) (sysNew p)=true:=rfl;have h4:upsOk (sysNew p) 0=true:=rfl;have h5:wayOk p (sysNew p) 0=true:=rfl;simp only [h1,h2,h3,h4,h5,show (newTask 0 (-1)).regs= [0,0,0] from rfl,show (newTask 0 (-1)).old= [0,0,0] from rfl,show (newTask 0 (-1)).reads= [] from rfl,show (newTask 0 (-1)).puts= [] from rfl,hnums,hlist];rfl
 ·simp only [cellsOk,allB_iff,Bool.and_eq_true,inB_iff]
  intro i hi;have hi':i < p.cells.length:=by simpa [sysNew] using hi
  have hc:cellAt (sysNew p).cells i=⟨numAt p.cells i,0,-1⟩:=by simp [cellAt,sysNew,numAt,hi']
  rw [hc];refine ⟨⟨⟨hn i hi',(show (0:Int)<=0/\(0:Int)<=0 by decide)⟩,by simp [sysNew]⟩,fun k hk=> ?_⟩
  have h0:k=0:=by
   have:k < 1:=hk
   omega
  subst h0;rfl
theorem Inv.new {p:Prog} (h:progOk p=true):Inv p (sysNew p) 1:=Inv.ofOk (sysOk_new h)
end Go.Proofs.Ytimamoimphjakaa.Eq
namespace Go.Proofs.Ytimamoimphjakaa.Eq
open Go.RowKit Go.Proofs.YtimamoimphjakaaW.PrintWords Go.Proofs.YtimamoimphjakaaW.PrintLast Go.Proofs.YtimamoimphjakaaW.PrintMore
structure RO (g:Nat) (vp vb:Value) (p:Prog) (s:Sys) (vc vt vl:Value) (W:World):Prop where
 blk:W.heap[g]? = some (.cells #[vp,vb,vc,vt,.int .i64 s.clock,vl] 152 (0,0))
 prog:kProg.K W p [vp,vb]
 sys:kSys.K W s [vc,vt,.int .i64 s.clock,vl]
theorem RO.below {g:Nat} {vp vb:Value} {p:Prog} {s:Sys} {vc vt vl:Value} {W W1:World} (h:RO g vp vb p s vc vt vl W) (hb:Below W.heap.size W W1):RO g vp vb p s vc vt vl W1:=
 ⟨zb8 h.blk hb,kProg.K_below hb h.prog,kSys.K_below hb h.sys⟩
theorem taskO_C {own:Nat->Nat} {W:World} {A:Option Addr} {n:Nat} {ts:List Task} (h:(kTaskO own).C W A n ts.zipIdx):kTask.C W A n ts:=by
 obtain ⟨h1,h2,h3⟩:=h;refine ⟨by rw [<-h1,zip_len],h2,fun hn=> ?_⟩;obtain ⟨ad,ha,hr⟩:=h3 hn;refine ⟨ad,ha,fun j p hp=> ?_⟩;exact hr j (p,j) (by rw [List.getElem?_zipIdx,hp];simp)
theorem St.ro {w0:World} {g:Nat} {own:Nat->Nat} {vp vb:Value} {p:Prog} {s:Sys} {vc vt vl:Value} {W:World} (h:St 152 w0 g own vp vb p s vc vt vl W):RO g vp vb p s vc vt vl W:=by
 obtain ⟨A0,c0,rfl,l0,g0⟩:=Kd.R_reads h.cells;obtain ⟨A1,c1,rfl,l1,g1⟩:=Kd.R_reads h.tasks;obtain ⟨A3,c3,rfl,l3,g3⟩:=Kd.R_reads h.log;have hb:=h.blk;rw [zip_len] at hb l1 g1 ⊢;exact ⟨hb,kProg.K_below h.below h.prog,kSys_mk s l0 g0 l1 (taskO_C g1) l3 g3⟩
theorem kidsN_next (f:Nat->Bool) (k:Nat):cntTo f (k+1)=cntTo f k+if f k then 1 else 0:=rfl
theorem kids_calls {g:Nat} {vp vb:Value} {p:Prog} {s:Sys} {vc vt vl:Value} (task way:Int) (w:World) (h:RO g vp vb p s vc vt vl w) (hn:s.tasks.length<=1048576):
  Calls Try.prog 125 #[.pointer (some ⟨g,0,none⟩),.int .i64 task,.int .i64 way] w fun e w'=>e= .returned (.int .i64 (kidsN s.tasks task way))/\w'=w:=by
 obtain ⟨hblk,hp,hs⟩:=h;obtain ⟨A0,c0,A1,c1,A3,c3,he,l0,g0,l1,g1,l3,g3⟩:=kSys_open hs;simp only [List.cons.injEq,and_true,true_and] at he;obtain ⟨rfl,rfl,rfl⟩:=he;have G:=am g1;have BKc:=zc8 hblk;clear g0 g1 g3 l0 l1 l3 hs hp hblk;obtain ⟨f,hf⟩:∃ f:Nat->Bool,f=fun k=>decide ((taskAt s.tasks k).up=task) && decide ((taskAt s.tasks k).way=way):=⟨_,rfl⟩
 have hk0:kidsN s.tasks task way=cntTo f s.tasks.length:=by rw [hf];rfl
 rw [hk0];have HF:=am hf;clear hk0 hf;go_enter Try.func125,Try.ntmps125;go_wp2;go_loopw [7,8] (fun v i w'=>∃ k:Nat,k<=s.tasks.length/\i= .int .i64 k/\v= .int .i64 (cntTo f k)/\w'=w) (fun _ i _=>s.tasks.length - (intOf i).toNat)
 case atStart=>exact ⟨0,Nat.zero_le _,rfl,rfl,rfl⟩
 case round=>
  obtain ⟨k,hk,rfl,rfl,rfl⟩:=hrel;have hlen:=cntTo_le f k;by_cases hlt:k < s.tasks.length
  ·obtain ⟨b,o,cs,rfl,hcl,hK,hcc,hc0⟩:=C_field G.out zTask k hlt (by decide)
   rw [show s.tasks.getD k zTask=taskAt s.tasks k from rfl] at hK;obtain ⟨B3,d3,B8,d8,B9,d9,B10,d10,rfl,_,_,_,_,_,_,_,_⟩:=kTask_open hK;have h_up:=hcc 2 _ rfl;have h_way:=hcc 4 _ rfl;simp only [show kTask.sz=13 from rfl] at h_way h_up;clear hcc hc0 hK hcl;have q0:(0:Int)<=(k:Int):=by omega
   have q1:(k:Int) < (s.tasks.length:Int):=by omega
   by_cases hy:(taskAt s.tasks k).up=task
   ·have y0:((taskAt s.tasks k).up == task)=true:=by simp [hy]
    by_cases hz:(taskAt s.tasks k).way=way
    ·have y1:((taskAt s.tasks k).way == way)=true:=by simp [hz]
     have HY:=am (show f k=true by simp [HF.out,hy,hz]);clear hy hz;go_wp2;go_roundw
     case rel=>exact ⟨k+1,by omega,by go_num,by rw [kidsN_next,HY.out];go_num,trivial⟩
     case measure=>simp [intOf];omega
    ·have y1:((taskAt s.tasks k).way == way)=false:=by simp [hz]
     have HY:=am (show f k=false by simp [HF.out,hy,hz]);clear hy hz;go_wp2;go_roundw
     case rel=>exact ⟨k+1,by omega,by go_num,by rw [kidsN_next,HY.out];simp,trivial⟩
     case measure=>simp [intOf];omega
   ·have y0:((taskAt s.tasks k).up == task)=false:=by simp [hy]
    have HY:=am (show f k=false by simp [HF.out,hy]);clear hy;go_wp2;go_roundw
    case rel=>exact ⟨k+1,by omega,by go_num,by rw [kidsN_next,HY.out];simp,trivial⟩
    case measure=>simp [intOf];omega
  ·go_wp2
   go_ret;obtain rfl:k=s.tasks.length:=by omega
   exact ⟨rfl,rfl⟩
theorem cellB {w W:World} {b o:Nat} {v:Value} (hb:Below w.heap.size w W) (h:w.cell? ⟨b,o,none⟩=some v):W.cell? ⟨b,o,none⟩=some v:=((bcell hb).1 _ _ (World.block_lt_of_cell? _ _ h)).trans h
theorem C_nil {α:Type} (d:Kd α) (w:World):d.C w none 0 []:=⟨rfl,by decide,fun h=>absurd h (by decide)⟩
section
variable {g:Nat} {vp vb:Value} {p:Prog} {s:Sys} {vc vt vl:Value}
theorem ready_calls (i:Nat) (w:World) (h:RO g vp vb p s vc vt vl w) (hi:i < s.tasks.length) (hn:s.tasks.length<=1048576):
  Calls Try.prog 121 #[.pointer (some ⟨g,0,none⟩),.int .i64 i] w fun e w'=>e= .returned (.bool (ready s i))/\Below w.heap.size w w':=by
 have H:=am h;obtain ⟨hblk,hp,hs⟩:=h;obtain ⟨A0,c0,A1,c1,A3,c3,he,l0,g0,l1,g1,l3,g3⟩:=kSys_open hs;simp only [List.cons.injEq,and_true,true_and] at he;obtain ⟨rfl,rfl,rfl⟩:=he;obtain ⟨b,o,cs,rfl,hcl,hK,hcc,hc0⟩:=C_field g1 zTask i hi (by decide);rw [show s.tasks.getD i zTask=taskAt s.tasks i from rfl] at hK;obtain ⟨B3,d3,B8,d8,B9,d9,B10,d10,rfl,-⟩:=kTask_open hK;have HCC:=am hcc;have BKc:=zc8 H.out.blk;have q0:(0:Int)<=(i:Int):=by omega
 have q1:(i:Int) < (s.tasks.length:Int):=by omega
 clear g0 g1 g3 l0 l1 l3 hs hp hblk hcc hc0 hK hcl;obtain ⟨n3,hn3⟩:∃ n,n=kidsN s.tasks i 3:=⟨_,rfl⟩;obtain ⟨n0,hn0⟩:∃ n,n=kidsN s.tasks i 0:=⟨_,rfl⟩;obtain ⟨n1,hn1⟩:∃ n,n=kidsN s.tasks i 1:=⟨_,rfl⟩;have b0:n0<=1048576:=by rw [hn0];exact Nat.le_trans (cntTo_le _ _) hn
 have b1:n1<=1048576:=by rw [hn1];exact Nat.le_trans (cntTo_le _ _) hn
 have N0:=am hn0.symm;have N1:=am hn1.symm;have N3:=am hn3.symm;clear hn0 hn1 hn3;have HR:Aside0 (ready s i=if 200<=s.clock then false else if (taskAt s.tasks i).way=0 then !decide ((taskAt s.tasks i).stage=0) || decide ((taskAt s.tasks i).when_<=s.clock) else if (taskAt s.tasks i).way=1 then decide (0 < n3) || decide (n0+n1=0) else false):=⟨by rw [<-N0.out,<-N1.out,<-N3.out];rfl⟩;go_enter Try.func121,Try.ntmps121;by_cases hcl:200<=s.clock
 ·have y0:decide (200<=s.clock)=true:=decide_eq_true hcl
  have HC:=am hcl;clear hcl
  go_wp2_with (first
  |((with_reducible refine gate_dst (N:=13) rfl ?_);refine wpList_load_mid rfl 38 (.tmp 12) rfl b (o+i*13) rfl _ _ HCC.out Try.underlying38 rfl (by kernel_rfl) ?_)|((with_reducible refine gate_dst (N:=5) rfl ?_);refine box_event rfl (N:=5) rfl (t:=38) (by go_simp<;>rfl) ?_;intro gt hg w2 hbox hb;have BKt0:=am hbox;have GT:=am hg;have HB2:=am hb;clear hbox hb hg BKc)|((with_reducible refine gate_store (t:=38) (p:=5) rfl ?_);refine store_block rfl rfl 38 (.tmp 5) (.tmp 13) rfl rfl rfl BKt0.out rfl (by kernel_rfl) (aB rfl) ?_;intro w3 hbox hg;have BKt:=am hbox;have hbx:=pw_below_grown HB2.out _ HB2.out.size hg (fun z hz=>by cases hz;exact Nat.le_of_eq GT.out.symm);replace H:=am (H.out.below hbx);have HB:=am hbx;clear hbox hg BKt0 hbx HB2 HCC;have BKc:=zc8 H.out.blk;have BKtc:=zc8 BKt.out))
  go_ret;have hr:ready s i=false:=by rw [HR.out,if_pos HC.out]
  rw [hr];exact ⟨rfl,HB.out⟩
 ·have y0:decide (200<=s.clock)=false:=decide_eq_false hcl
  have HC:=am hcl;clear hcl;by_cases w0:(taskAt s.tasks i).way=0
  ·have y1:((taskAt s.tasks i).way == 0)=true:=by simp [w0]
   have W0:=am w0;clear w0;by_cases s0:(taskAt s.tasks i).stage=0
   ·have y2:((taskAt s.tasks i).stage != 0)=false:=by simp [s0]
    have S0:=am s0;clear s0
    go_wp2_with (first
    |((with_reducible refine gate_dst (N:=13) rfl ?_);refine wpList_load_mid rfl 38 (.tmp 12) rfl b (o+i*13) rfl _ _ HCC.out Try.underlying38 rfl (by kernel_rfl) ?_)|((with_reducible refine gate_dst (N:=5) rfl ?_);refine box_event rfl (N:=5) rfl (t:=38) (by go_simp<;>rfl) ?_;intro gt hg w2 hbox hb;have BKt0:=am hbox;have GT:=am hg;have HB2:=am hb;clear hbox hb hg BKc)|((with_reducible refine gate_store (t:=38) (p:=5) rfl ?_);refine store_block rfl rfl 38 (.tmp 5) (.tmp 13) rfl rfl rfl BKt0.out rfl (by kernel_rfl) (aB rfl) ?_;intro w3 hbox hg;have BKt:=am hbox;have hbx:=pw_below_grown HB2.out _ HB2.out.size hg (fun z hz=>by cases hz;exact Nat.le_of_eq GT.out.symm);replace H:=am (H.out.below hbx);have HB:=am hbx;clear hbox hg BKt0 hbx HB2 HCC;have BKc:=zc8 H.out.blk;have BKtc:=zc8 BKt.out))
    go_quiet (fail);go_wp2;go_ret;have hr:ready s i=decide ((taskAt s.tasks i).when_<=s.clock):=by rw [HR.out,if_neg (Int.not_le.2 HC.out),if_pos W0.out,S0.out];rfl
    rw [hr];exact ⟨rfl,pw_below_drewN HB.out _⟩
   ·have y2:((taskAt s.tasks i).stage != 0)=true:=by simp [s0]
    have S0:=am s0;clear s0
    go_wp2_with (first
    |((with_reducible refine gate_dst (N:=13) rfl ?_);refine wpList_load_mid rfl 38 (.tmp 12) rfl b (o+i*13) rfl _ _ HCC.out Try.underlying38 rfl (by kernel_rfl) ?_)|((with_reducible refine gate_dst (N:=5) rfl ?_);refine box_event rfl (N:=5) rfl (t:=38) (by go_simp<;>rfl) ?_;intro gt hg w2 hbox hb;have BKt0:=am hbox;have GT:=am hg;have HB2:=am hb;clear hbox hb hg BKc)|((with_reducible refine gate_store (t:=38) (p:=5) rfl ?_);refine store_block rfl rfl 38 (.tmp 5) (.tmp 13) rfl rfl rfl BKt0.out rfl (by kernel_rfl) (aB rfl) ?_;intro w3 hbox hg;have BKt:=am hbox;have hbx:=pw_below_grown HB2.out _ HB2.out.size hg (fun z hz=>by cases hz;exact Nat.le_of_eq GT.out.symm);replace H:=am (H.out.below hbx);have HB:=am hbx;clear hbox hg BKt0 hbx HB2 HCC;have BKc:=zc8 H.out.blk;have BKtc:=zc8 BKt.out))
    go_quiet (fail);go_wp2;go_ret;have hr:ready s i=true:=by rw [HR.out,if_neg (Int.not_le.2 HC.out),if_pos W0.out,decide_eq_false S0.out];rfl
    rw [hr];exact ⟨rfl,pw_below_drewN HB.out _⟩
  ·have y1:((taskAt s.tasks i).way == 0)=false:=by simp [w0]
   by_cases w1:(taskAt s.tasks i).way=1
   ·have y2:((taskAt s.tasks i).way == 1)=true:=by simp [w1]
    have W0:=am w0;have W1:=am w1;clear w0 w1;by_cases k3:0 < n3
    ·have y3:decide (0 < n3)=true:=decide_eq_true k3
     have K3:=am k3;clear k3
     go_wp2_with (first
     |((with_reducible refine gate_dst (N:=13) rfl ?_);refine wpList_load_mid rfl 38 (.tmp 12) rfl b (o+i*13) rfl _ _ HCC.out Try.underlying38 rfl (by kernel_rfl) ?_)|((with_reducible refine gate_dst (N:=5) rfl ?_);refine box_event rfl (N:=5) rfl (t:=38) (by go_simp<;>rfl) ?_;intro gt hg w2 hbox hb;have BKt0:=am hbox;have GT:=am hg;have HB2:=am hb;clear hbox hb hg BKc)|((with_reducible refine gate_store (t:=38) (p:=5) rfl ?_);refine store_block rfl rfl 38 (.tmp 5) (.tmp 13) rfl rfl rfl BKt0.out rfl (by kernel_rfl) (aB rfl) ?_;intro w3 hbox hg;have BKt:=am hbox;have hbx:=pw_below_grown HB2.out _ HB2.out.size hg (fun z hz=>by cases hz;exact Nat.le_of_eq GT.out.symm);replace H:=am (H.out.below hbx);have HB:=am hbx;clear hbox hg BKt0 hbx HB2 HCC;have BKc:=zc8 H.out.blk;have BKtc:=zc8 BKt.out)
     |(go_at_call 125;refine Calls.mono (kids_calls (i:Int) _ _ H.out hn) ?_;(first|rw [N3.out] | rw [N0.out] | rw [N1.out]);rintro _ _ ⟨rfl,rfl⟩))
     go_ret;have hr:ready s i=true:=by rw [HR.out,if_neg (Int.not_le.2 HC.out),if_neg W0.out,if_pos W1.out,decide_eq_true K3.out];rfl
     rw [hr];exact ⟨rfl,HB.out⟩
    ·have y3:decide (0 < n3)=false:=decide_eq_false k3
     have K3:=am k3;clear k3;have hw:wrap64 ((n0:Int)+n1)=(n0:Int)+n1:=by unfold wrap64;omega
     go_wp2_with (first
     |((with_reducible refine gate_dst (N:=13) rfl ?_);refine wpList_load_mid rfl 38 (.tmp 12) rfl b (o+i*13) rfl _ _ HCC.out Try.underlying38 rfl (by kernel_rfl) ?_)|((with_reducible refine gate_dst (N:=5) rfl ?_);refine box_event rfl (N:=5) rfl (t:=38) (by go_simp<;>rfl) ?_;intro gt hg w2 hbox hb;have BKt0:=am hbox;have GT:=am hg;have HB2:=am hb;clear hbox hb hg BKc)|((with_reducible refine gate_store (t:=38) (p:=5) rfl ?_);refine store_block rfl rfl 38 (.tmp 5) (.tmp 13) rfl rfl rfl BKt0.out rfl (by kernel_rfl) (aB rfl) ?_;intro w3 hbox hg;have BKt:=am hbox;have hbx:=pw_below_grown HB2.out _ HB2.out.size hg (fun z hz=>by cases hz;exact Nat.le_of_eq GT.out.symm);replace H:=am (H.out.below hbx);have HB:=am hbx;clear hbox hg BKt0 hbx HB2 HCC;have BKc:=zc8 H.out.blk;have BKtc:=zc8 BKt.out)
     |(go_at_call 125;refine Calls.mono (kids_calls (i:Int) _ _ H.out hn) ?_;(first|rw [N3.out] | rw [N0.out] | rw [N1.out]);rintro _ _ ⟨rfl,rfl⟩))
     go_ret
     have hr:ready s i=((n0:Int)+(n1:Int) == 0):=by
      rw [HR.out,if_neg (Int.not_le.2 HC.out),if_neg W0.out,if_pos W1.out,decide_eq_false K3.out,Bool.false_or,Bool.eq_iff_iff,decide_eq_true_eq,beq_iff_eq];omega
     rw [hr];exact ⟨rfl,HB.out⟩
   ·have y2:((taskAt s.tasks i).way == 1)=false:=by simp [w1]
    have W0:=am w0;have W1:=am w1;clear w0 w1
    go_wp2_with (first
    |((with_reducible refine gate_dst (N:=13) rfl ?_);refine wpList_load_mid rfl 38 (.tmp 12) rfl b (o+i*13) rfl _ _ HCC.out Try.underlying38 rfl (by kernel_rfl) ?_)|((with_reducible refine gate_dst (N:=5) rfl ?_);refine box_event rfl (N:=5) rfl (t:=38) (by go_simp<;>rfl) ?_;intro gt hg w2 hbox hb;have BKt0:=am hbox;have GT:=am hg;have HB2:=am hb;clear hbox hb hg BKc)|((with_reducible refine gate_store (t:=38) (p:=5) rfl ?_);refine store_block rfl rfl 38 (.tmp 5) (.tmp 13) rfl rfl rfl BKt0.out rfl (by kernel_rfl) (aB rfl) ?_;intro w3 hbox hg;have BKt:=am hbox;have hbx:=pw_below_grown HB2.out _ HB2.out.size hg (fun z hz=>by cases hz;exact Nat.le_of_eq GT.out.symm);replace H:=am (H.out.below hbx);have HB:=am hbx;clear hbox hg BKt0 hbx HB2 HCC;have BKc:=zc8 H.out.blk;have BKtc:=zc8 BKt.out))
    go_ret;have hr:ready s i=false:=by rw [HR.out,if_neg (Int.not_le.2 HC.out),if_neg W0.out,if_neg W1.out]
    rw [hr];exact ⟨rfl,HB.out⟩
theorem act_calls (i:Nat) (wp w:World) (hwp:kProg.K wp p [vp,vb]) (hbw:Below wp.heap.size wp w) (h:RO g vp vb p s vc vt vl w) (hi:i < s.tasks.length) (hn:s.tasks.length<=1048576) (hb0:0<=(taskAt s.tasks i).body) (hb1:(taskAt s.tasks i).body < p.bodies.length) (hp0:0<=(taskAt s.tasks i).pc) (hbn:p.bodies.length<=1048576) (han:(actsAt p.bodies (taskAt s.tasks i).body.toNat).length<=1048576):
  Calls Try.prog 136 #[.pointer (some ⟨g,0,none⟩),.int .i64 i] w fun e w'=>∃ acs,e= .returned (.tuple #[.agg acs.toArray,.bool (decide ((taskAt s.tasks i).pc < (actsAt p.bodies (taskAt s.tasks i).body.toNat).length))])/\kAct.K wp (if (taskAt s.tasks i).pc < (actsAt p.bodies (taskAt s.tasks i).body.toNat).length then actAt (actsAt p.bodies (taskAt s.tasks i).body.toNat) (taskAt s.tasks i).pc.toNat else zAct) acs/\Below w.heap.size w w':=by
 obtain ⟨kb,hkb0⟩:=Int.eq_ofNat_of_zero_le hb0;obtain ⟨ka,hka0⟩:=Int.eq_ofNat_of_zero_le hp0;have hkb:kb < p.bodies.length:=by omega
 have q7:(taskAt s.tasks i).body.toNat=kb:=by omega
 have q4:(taskAt s.tasks i).pc.toNat=ka:=by omega
 rw [q7] at han ⊢;rw [q4];have H:=am h;obtain ⟨hblk,hp,hs⟩:=h;obtain ⟨A0,c0,A1,c1,A3,c3,he,l0,g0,l1,g1,l3,g3⟩:=kSys_open hs;simp only [List.cons.injEq,and_true,true_and] at he;obtain ⟨rfl,rfl,rfl⟩:=he;obtain ⟨b,o,cs,rfl,hcl,hK,hcc,hc0⟩:=C_field g1 zTask i hi (by decide);rw [show s.tasks.getD i zTask=taskAt s.tasks i from rfl] at hK;obtain ⟨B3,d3,B8,d8,B9,d9,B10,d10,rfl,-⟩:=kTask_open hK;have HCC:=am hcc;have BKc:=zc8 H.out.blk;have q0:(0:Int)<=(i:Int):=by omega
 have q1:(i:Int) < (s.tasks.length:Int):=by omega
 obtain ⟨Ac,cc,Ab,cb,he2,lc,gc,lb,gb⟩:=kProg_open hwp;simp only [List.cons.injEq,and_true] at he2;obtain ⟨rfl,rfl⟩:=he2;obtain ⟨bb,ob,cs2,rfl,hcl2,hK2,hcc2,-⟩:=C_field gb ([]:List Act) kb hkb (by decide);obtain ⟨Aa,ca,rfl,la,ga2⟩:=hK2;have p2:=hcc2 0 _ rfl;simp only [show (Kd.slice 108 kAct).sz=1 from rfl,Nat.mul_one,Nat.add_zero] at p2;have GA2:=am (show kAct.C wp Aa (actsAt p.bodies kb).length (actsAt p.bodies kb) from ga2);rw [show (p.bodies.getD kb []).length=(actsAt p.bodies kb).length from rfl] at p2;have P2:=am (cellB hbw p2);clear p2 hcc2 hcl2 ga2 la;have q8:(taskAt s.tasks i).body < (p.bodies.length:Int):=hb1;clear g0 g1 g3 l0 l1 l3 hs hp hblk hcc hc0 hK hcl;clear lc gc lb gb;have HKA:=am hka0;clear hkb0 hka0;obtain ⟨bv,hbv⟩:∃ x:Bool,x=decide ((taskAt s.tasks i).pc < ((actsAt p.bodies kb).length:Int)):=⟨_,rfl⟩;obtain ⟨av,hav⟩:∃ x:Act,x=if (taskAt s.tasks i).pc < ((actsAt p.bodies kb).length:Int) then actAt (actsAt p.bodies kb) ka else zAct:=⟨_,rfl⟩
 rw [<-hbv,<-hav];have BV:=am hbv;have AV:=am hav;clear hbv hav;go_enter Try.func136,Try.ntmps136;by_cases hlt:(taskAt s.tasks i).pc < ((actsAt p.bodies kb).length:Int)
 ·have y0:decide (((actsAt p.bodies kb).length:Int)<=(taskAt s.tasks i).pc)=false:=decide_eq_false (by omega)
  have LT:=am hlt;obtain ⟨ba,oa,cs3,rfl,hcl3,hK3,hcc3,-⟩:=C_field GA2.out zAct ka (by omega) (by decide);obtain ⟨x3,hx3⟩:∃ x,x=actAt (actsAt p.bodies kb) ka:=⟨_,rfl⟩;rw [show (actsAt p.bodies kb).getD ka zAct=x3 from hx3.symm] at hK3;have HK3:=am hK3;have HX3:=am hx3;obtain ⟨Ad,cd,Ak,ck,rfl,-⟩:=kAct_open hK3;have HC3:=am (fun j u hu=>cellB hbw (hcc3 j u hu));clear hcc3 hK3 hx3 hcl3;have q9:(taskAt s.tasks i).pc < ((actsAt p.bodies kb).length:Int):=hlt
  go_wp2_with (first
  |((with_reducible refine gate_dst (N:=4) rfl ?_);refine box_event rfl (N:=4) rfl (t:=108) (by go_simp<;>rfl) ?_;intro ga hga w1 hbox hb;have BKa:=am hbox;have GA:=am hga;have HB:=am hb;have BKc:=zc8 (H.out.below hb).blk;clear hbox hga hb)
  |((with_reducible refine gate_dst (N:=15) rfl ?_);refine wpList_load_mid rfl 38 (.tmp 14) rfl b (o+i*13) rfl _ _ (fun j u hu=>cellB HB.out (HCC.out j u hu)) Try.underlying38 rfl (by kernel_rfl) ?_)|((with_reducible refine gate_dst (N:=6) rfl ?_);refine box_event rfl (N:=6) rfl (t:=38) (by go_simp<;>rfl) ?_;intro gt hg w2 hbox hb;have BKt0:=am hbox;have GT:=am hg;have HB2:=am hb;clear hbox hb hg)|((with_reducible refine gate_store (t:=38) (p:=6) rfl ?_);refine store_block rfl rfl 38 (.tmp 6) (.tmp 15) rfl rfl rfl BKt0.out rfl (by kernel_rfl) (aB rfl) ?_;intro w3 hbox hg;have BKt:=am hbox;have hbx:=pw_below_grown HB2.out _ HB2.out.size hg (fun z hz=>by cases hz;exact Nat.le_of_eq GT.out.symm);have BKa3:=am (zb8 BKa.out hbx);have HB3:=am (below_step HB.out hbx);have p2:=cellB HB3.out P2.out;have BKc:=zc8 (H.out.below HB3.out).blk;have BKtc:=zc8 BKt.out;clear hbox hg hbx BKt0 HB2))
  go_quiet (fail)
  go_wp2_with (first
  |((with_reducible refine gate_dst (N:=35) rfl ?_);refine wpList_load_mid rfl 108 (.tmp 34) rfl ba (oa+ka*4) rfl _ _ (fun j u hu=>cellB (pw_below_drewN HB3.out _) (HC3.out j u hu)) Try.underlying108 rfl (by kernel_rfl) ?_)
  |((with_reducible refine gate_store (t:=108) (p:=4) rfl ?_);refine store_block rfl rfl 108 (.tmp 4) (.tmp 35) rfl rfl rfl (blk_drewN BKa3.out _) rfl (by kernel_rfl) (aB rfl) ?_;intro w5 hbox hg;have BKa5:=am hbox;have HB5:=am (pw_below_grown (pw_below_drewN HB3.out _) _ (pw_below_drewN HB3.out _).size hg (fun z hz=>by cases hz;exact Nat.le_of_eq GA.out.symm));clear hbox hg))
  have hd:bv=true:=BV.out.trans (decide_eq_true LT.out);have hd2:av=x3:=by rw [AV.out,if_pos LT.out,HX3.out]
  rw [hd,hd2];exact bodyPost_ret (results_ct Try.results136 _ w5 ga 108 #[.int .i64 x3.kind,.slice Ad x3.deeds.length cd,.slice Ak x3.kids.length ck,.int .i64 x3.reg] (0,0) _ rfl BKa5.out Try.underlying108 rfl (by kernel_rfl)) rfl ⟨_,rfl,HK3.out,HB5.out⟩
 ·have y0:decide (((actsAt p.bodies kb).length:Int)<=(taskAt s.tasks i).pc)=true:=decide_eq_true (by omega)
  have LT:=am hlt;clear hlt
  go_wp2_with (first
  |((with_reducible refine gate_dst (N:=4) rfl ?_);refine box_event rfl (N:=4) rfl (t:=108) (by go_simp<;>rfl) ?_;intro ga hga w1 hbox hb;have BKa:=am hbox;have GA:=am hga;have HB:=am hb;have BKc:=zc8 (H.out.below hb).blk;clear hbox hga hb)
  |((with_reducible refine gate_dst (N:=15) rfl ?_);refine wpList_load_mid rfl 38 (.tmp 14) rfl b (o+i*13) rfl _ _ (fun j u hu=>cellB HB.out (HCC.out j u hu)) Try.underlying38 rfl (by kernel_rfl) ?_)|((with_reducible refine gate_dst (N:=6) rfl ?_);refine box_event rfl (N:=6) rfl (t:=38) (by go_simp<;>rfl) ?_;intro gt hg w2 hbox hb;have BKt0:=am hbox;have GT:=am hg;have HB2:=am hb;clear hbox hb hg)|((with_reducible refine gate_store (t:=38) (p:=6) rfl ?_);refine store_block rfl rfl 38 (.tmp 6) (.tmp 15) rfl rfl rfl BKt0.out rfl (by kernel_rfl) (aB rfl) ?_;intro w3 hbox hg;have BKt:=am hbox;have hbx:=pw_below_grown HB2.out _ HB2.out.size hg (fun z hz=>by cases hz;exact Nat.le_of_eq GT.out.symm);have BKa3:=am (zb8 BKa.out hbx);have HB3:=am (below_step HB.out hbx);have p2:=cellB HB3.out P2.out;have BKc:=zc8 (H.out.below HB3.out).blk;have BKtc:=zc8 BKt.out;clear hbox hg hbx BKt0 HB2))
  go_quiet (fail)
  go_wp2_with (first
  |((with_reducible refine gate_store (t:=108) (p:=4) rfl ?_);refine store_block rfl rfl 108 (.tmp 4) (.tmp 30) rfl rfl rfl (blk_drewN BKa3.out _) rfl (by kernel_rfl) (aB rfl) ?_;intro w5 hbox hg;have BKa5:=am hbox;have HB5:=am (pw_below_grown (pw_below_drewN HB3.out _) _ (pw_below_drewN HB3.out _).size hg (fun z hz=>by cases hz;exact Nat.le_of_eq GA.out.symm));clear hbox hg))
  have hd:bv=false:=BV.out.trans (decide_eq_false (Int.not_lt.2 LT.out));have hd2:av=zAct:=by rw [AV.out,if_neg (Int.not_lt.2 LT.out)]
  rw [hd,hd2];exact bodyPost_ret (results_ct Try.results136 _ w5 ga 108 #[.int .i64 0,.slice none 0 0,.slice none 0 0,.int .i64 0] (0,0) _ rfl BKa5.out Try.underlying108 rfl (by kernel_rfl)) rfl ⟨_,rfl,kAct_mk zAct (Nat.zero_le _) (C_nil _ _) (Nat.zero_le _) (C_nil _ _),HB5.out⟩
end
section
variable {w0:World} {g:Nat} {own:Nat->Nat} {vp vb:Value} {p:Prog} {s:Sys} {vc vt vl:Value}
theorem begin_calls (i:Nat) (w:World) (h:St 152 w0 g own vp vb p s vc vt vl w) (hi:i < s.tasks.length) (hn:s.tasks.length<=1048576) (hr:(tk s i).regs.length<=1048576) (hlg:s.log.length<=1073741824):
  Calls Try.prog 151 #[.pointer (some ⟨g,0,none⟩),.int .i64 i] w fun e w'=>e= .returned (.tuple #[])/\∃ own',St 152 w0 g own' vp vb p (begin_ s i) vc vt vl w'/\Fr w.heap.size own own' w w':=by
 have H:=am h;clear h;obtain ⟨b,cap,rfl,hb3,hbg⟩:=H.out.tform (by omega);obtain ⟨A0,c0,rfl⟩:=H.out.cslice;obtain ⟨Al,cl,rfl⟩:=H.out.lslice;obtain ⟨v3,v8,v9,v10,hcc,hf,h3,h8,h9,h10⟩:=H.out.task hi;obtain ⟨A3,c3,rfl,l3,g3⟩:=Kd.R_reads h3;obtain ⟨A8,c8,rfl,l8,g8⟩:=Kd.R_reads h8;obtain ⟨A9,c9,rfl,l9,g9⟩:=Kd.R_reads h9;obtain ⟨A10,c10,rfl,l10,g10⟩:=Kd.R_reads h10;have HCC:=am hcc;have BKc:=zc8 H.out.blk;have C3:=am g3;have q0:(0:Int)<=(i:Int):=by omega
 have q1:(i:Int) < (s.tasks.length:Int):=by omega
 clear hcc hf h3 h8 h9 h10 g3 g8 g9 g10 l3 l8 l9 l10;go_enter Try.func151,Try.ntmps151
 go_wp2_with (first
 |((with_reducible refine gate_dst (N:=12) rfl ?_);refine wpList_load_mid rfl 38 (.tmp 11) rfl b (i*13) rfl _ _ HCC.out Try.underlying38 rfl (by kernel_rfl) ?_)|((with_reducible refine gate_dst (N:=4) rfl ?_);refine box_event rfl (N:=4) rfl (t:=38) (by go_simp<;>rfl) ?_;intro gt hg w2 hbox hb;have BKt0:=am hbox;have GT:=am hg;have HB2:=am hb;clear hbox hb hg BKc)|((with_reducible refine gate_store (t:=38) (p:=4) rfl ?_);refine store_block rfl rfl 38 (.tmp 4) (.tmp 12) rfl rfl rfl BKt0.out rfl (by kernel_rfl) (aB rfl) ?_;intro w3 hbox hg;have BKt:=am hbox;have HB:=am (pw_below_grown HB2.out _ HB2.out.size hg (fun z hz=>by cases hz;exact Nat.le_of_eq GT.out.symm));clear hbox hg BKt0 HB2;have BKc:=zc8 (H.out.grow HB.out).blk;have BKtc:=zc8 BKt.out)
 |((with_reducible refine gate_store (t:=3) (p:=18) rfl ?_);refine set_ev (u:=.int .i64 s.clock) rfl rfl _ _ rfl rfl rfl rfl rfl (by kernel_rfl) ⟨⟨_,by rw [zc8 BKt.out];rfl⟩,blk_frozen BKt.out _⟩ ?_;intro wn hwn;have bk:=blk_set BKt.out 7 (.int .i64 s.clock);rw [<-hwn] at bk;replace BKt:=am (show wn.heap[gt]? = some (.cells #[.int .i64 (tk s i).body,.int .i64 (tk s i).pc,.int .i64 (tk s i).up,.slice A3 (tk s i).regs.length c3,.int .i64 (tk s i).way,.int .i64 (tk s i).stage,.int .i64 (tk s i).at_,.int .i64 s.clock,.slice A8 (tk s i).old.length c8,.slice A9 (tk s i).reads.length c9,.slice A10 (tk s i).puts.length c10,.int .i64 (tk s i).when_,.int .i64 (tk s i).from_] 38 (0,0)) from bk);replace HB:=am (show Below w.heap.size w wn by rw [hwn];exact below_set HB.out (Nat.le_of_eq GT.out.symm));clear bk hwn BKc BKtc;have BKc:=zc8 (H.out.grow HB.out).blk;have BKtc:=zc8 BKt.out)
 |((with_reducible refine gate_dst (N:=19) rfl ?_);refine Kd.R_lit (w0:=w) (Kd.int .i64) w.heap.size 3 rfl (N:=19) rfl (xs:=([]:List Int)) (inner:= []) (ok:=fun k=>k ≠ gt) (okp:=fun _=>False) (by go_simp<;>rfl) (Reps.none _ _) (fun _ hk=>hk.elim) (Nat.ne_of_gt (blk_lt BKt.out)) HB.out HB.out.size (by simp) ?_;intro v1 wn hv1 hb1 hg1 _;replace BKt:=am (blk_grown BKt.out hg1 (by simp));have V1:=am hv1;replace HB:=am hb1;clear hv1 hb1 hg1 BKc BKtc;have BKc:=zc8 (H.out.grow HB.out).blk;have BKtc:=zc8 BKt.out)
 |((with_reducible refine gate_builtin (b:=.append) (xs:=#[.tmp 19,.tmp 21]) rfl ?_);at_builtin;refine Kd.R_append_rows (Kd.int .i64) (Rr:=(Kd.int .i64).K _) (w0:=w) w.heap.size rfl (.tmp 19) (.tmp 21) 29 3 (.int .i64 0) 8 rfl Try.underlying29 info_int rfl (by decide) (by decide) v1 [] (tk s i).regs A3 (tk s i).regs.length c3 (fun k=>k ≠ gt) (fun _=>False) rfl rfl V1.out (Kd.C_below C3.out HB.out) (fun _ _ h=>h) (fun _ hk=>hk.elim) (fun k hk=>Nat.ne_of_gt (Nat.lt_of_lt_of_le (blk_lt BKt.out) hk)) HB.out HB.out.size (by simp;omega) ?_;intro v2 wn hv2 hb2 hg2 _;replace BKt:=am (blk_grown BKt.out hg2 (fun he=>V1.out.1 gt he.symm rfl));have V:=am (show (Kd.int .i64).R 3 wn w.heap.size (fun k=>k ≠ gt) v2 (tk s i).regs from hv2);replace HB:=am hb2;clear hv2 hb2 hg2 V1 BKc BKtc;have BKc:=zc8 (H.out.grow HB.out).blk;have BKtc:=zc8 BKt.out)
 |((with_reducible refine gate_store (t:=29) (p:=23) rfl ?_);refine set_ev (u:=v2) rfl rfl _ _ rfl rfl rfl (R_cells V.out) (R_oneCell V.out) (by kernel_rfl) ⟨⟨_,by rw [zc8 BKt.out];rfl⟩,blk_frozen BKt.out _⟩ ?_;intro wn hwn;have bk:=blk_set BKt.out 8 (v2);rw [<-hwn] at bk;replace BKt:=am (show wn.heap[gt]? = some (.cells #[.int .i64 (tk s i).body,.int .i64 (tk s i).pc,.int .i64 (tk s i).up,.slice A3 (tk s i).regs.length c3,.int .i64 (tk s i).way,.int .i64 (tk s i).stage,.int .i64 (tk s i).at_,.int .i64 s.clock,v2,.slice A9 (tk s i).reads.length c9,.slice A10 (tk s i).puts.length c10,.int .i64 (tk s i).when_,.int .i64 (tk s i).from_] 38 (0,0)) from bk);replace HB:=am (show Below w.heap.size w wn by rw [hwn];exact below_set HB.out (Nat.le_of_eq GT.out.symm));replace V:=am (show (Kd.int .i64).R 3 wn w.heap.size (fun k=>k ≠ gt) v2 (tk s i).regs by rw [hwn];exact Kd.R_far V.out (fun _ hk=>hk) _);clear bk hwn BKc BKtc;have BKc:=zc8 (H.out.grow HB.out).blk;have BKtc:=zc8 BKt.out)
 |((with_reducible refine gate_store (t:=3) (p:=30) rfl ?_);refine set_ev (u:=.int .i64 s.log.length) rfl rfl _ _ rfl rfl rfl rfl rfl (by kernel_rfl) ⟨⟨_,by rw [zc8 BKt.out];rfl⟩,blk_frozen BKt.out _⟩ ?_;intro wn hwn;have bk:=blk_set BKt.out 12 (.int .i64 s.log.length);rw [<-hwn] at bk;replace BKt:=am (show wn.heap[gt]? = some (.cells #[.int .i64 (tk s i).body,.int .i64 (tk s i).pc,.int .i64 (tk s i).up,.slice A3 (tk s i).regs.length c3,.int .i64 (tk s i).way,.int .i64 (tk s i).stage,.int .i64 (tk s i).at_,.int .i64 s.clock,v2,.slice A9 (tk s i).reads.length c9,.slice A10 (tk s i).puts.length c10,.int .i64 (tk s i).when_,.int .i64 s.log.length] 38 (0,0)) from bk);replace HB:=am (show Below w.heap.size w wn by rw [hwn];exact below_set HB.out (Nat.le_of_eq GT.out.symm));replace V:=am (show (Kd.int .i64).R 3 wn w.heap.size (fun k=>k ≠ gt) v2 (tk s i).regs by rw [hwn];exact Kd.R_far V.out (fun _ hk=>hk) _);clear bk hwn BKc BKtc;have BKc:=zc8 (H.out.grow HB.out).blk;have BKtc:=zc8 BKt.out)
 |((with_reducible refine gate_store (t:=3) (p:=31) rfl ?_);refine set_ev (u:=.int .i64 0) rfl rfl _ _ rfl rfl rfl rfl rfl (by kernel_rfl) ⟨⟨_,by rw [zc8 BKt.out];rfl⟩,blk_frozen BKt.out _⟩ ?_;intro wn hwn;have bk:=blk_set BKt.out 11 (.int .i64 0);rw [<-hwn] at bk;replace BKt:=am (show wn.heap[gt]? = some (.cells #[.int .i64 (tk s i).body,.int .i64 (tk s i).pc,.int .i64 (tk s i).up,.slice A3 (tk s i).regs.length c3,.int .i64 (tk s i).way,.int .i64 (tk s i).stage,.int .i64 (tk s i).at_,.int .i64 s.clock,v2,.slice A9 (tk s i).reads.length c9,.slice A10 (tk s i).puts.length c10,.int .i64 0,.int .i64 s.log.length] 38 (0,0)) from bk);replace HB:=am (show Below w.heap.size w wn by rw [hwn];exact below_set HB.out (Nat.le_of_eq GT.out.symm));replace V:=am (show (Kd.int .i64).R 3 wn w.heap.size (fun k=>k ≠ gt) v2 (tk s i).regs by rw [hwn];exact Kd.R_far V.out (fun _ hk=>hk) _);clear bk hwn BKc BKtc;have BKc:=zc8 (H.out.grow HB.out).blk;have BKtc:=zc8 BKt.out))
 obtain ⟨A2,c2,e2⟩:=Kd.R_slice V.out;subst e2;refine wp_region_still_tail 8 (by kernel_rfl) (by kernel_rfl) ?_;simp only [List.take_succ_cons,List.take_zero,List.drop_succ_cons,List.drop_zero];iterate 6 still_step
 refine still_load rfl 38 (.tmp 4) rfl gt 0 rfl [.int .i64 (tk s i).body,.int .i64 (tk s i).pc,.int .i64 (tk s i).up,.slice A3 (tk s i).regs.length c3,.int .i64 (tk s i).way,.int .i64 (tk s i).stage,.int .i64 (tk s i).at_,.int .i64 s.clock,.slice A2 (tk s i).regs.length c2,.slice A9 (tk s i).reads.length c9,.slice A10 (tk s i).puts.length c10,.int .i64 0,.int .i64 s.log.length] _ (lC BKt.out) Try.underlying38 rfl (by kernel_rfl) ?_;simp only [Act.put,sA,sZ,sS];still_step;refine wpStill_nil ?_;have hb:=below_drew (Below.refl wn.heap.size wn);show wpList _ _ _ _ _ wn.drew;generalize wn.drew=w8 at hb ⊢;have HB8:=am (below_step HB.out hb);have H8:=am (H.out.grow HB8.out);have F8:=am (Fr.below (own:=own) HB8.out);have V8:Aside0 ((Kd.int .i64).R 3 w8 w0.heap.size (fun k=>own k=0/\w.heap.size<=k) (.slice A2 (tk s i).regs.length c2) (tk s i).regs):=⟨Kd.R_below (Kd.R_lower (Kd.R_mono (Kd.R_bound V.out) (fun k hk=>⟨H.out.new0 k hk.2.1,hk.2.1⟩)) H.out.below.size) hb⟩;have HC8:Aside0 (∀ j u,(cellsT (tk s i) (.slice A3 (tk s i).regs.length c3) (.slice A8 (tk s i).old.length c8) (.slice A9 (tk s i).reads.length c9) (.slice A10 (tk s i).puts.length c10))[j]? = some u->w8.cell? ⟨b,i*13+j,none⟩=some u):=⟨fun j u hu=>cellB HB8.out (HCC.out j u hu)⟩;clear HB V C3 BKt BKc BKtc hb HCC;have BKc:=zc8 H8.out.blk
 go_wp2_with (first
 |((with_reducible refine gate_store (t:=38) (p:=39) rfl ?_);refine seg_ev rfl rfl _ _ rfl (g:=b) (off:=i*13) rfl [.int .i64 (tk s i).body,.int .i64 (tk s i).pc,.int .i64 (tk s i).up,.slice A3 (tk s i).regs.length c3,.int .i64 (tk s i).way,.int .i64 (tk s i).stage,.int .i64 (tk s i).at_,.int .i64 s.clock,.slice A2 (tk s i).regs.length c2,.slice A9 (tk s i).reads.length c9,.slice A10 (tk s i).puts.length c10,.int .i64 0,.int .i64 s.log.length] rfl (by kernel_rfl) (aB rfl) (fun j hj=>⟨by obtain ⟨⟨u,hu⟩,_⟩:=H8.out.ready hi j hj;rw [hu];rfl,(H8.out.ready hi j hj).2⟩) ?_;intro w9 hwn;obtain ⟨ownc,k1,k2⟩:=H8.out.setAllOld (B:=w.heap.size) hi V8.out HC8.out {tk s i with since:=s.clock,old:=(tk s i).regs,from_:=s.log.length,when_:=0} ⟨rfl,rfl,rfl,rfl⟩;rw [show cellsT _ _ _ _ _= [.int .i64 (tk s i).body,.int .i64 (tk s i).pc,.int .i64 (tk s i).up,.slice A3 (tk s i).regs.length c3,.int .i64 (tk s i).way,.int .i64 (tk s i).stage,.int .i64 (tk s i).at_,.int .i64 s.clock,.slice A2 (tk s i).regs.length c2,.slice A9 (tk s i).reads.length c9,.slice A10 (tk s i).puts.length c10,.int .i64 0,.int .i64 s.log.length] from rfl,<-hwn] at k1 k2;have H9:=am k1;have F9:=am (F8.out.trans k2);clear H8 F8 BKc k1 k2 hwn V8 HC8;have BKc:=zc8 H9.out.blk)
 |(go_at_call 154;refine (stage_calls i 1 _ H9.out (by rw [set_len];exact hi) (by rw [set_len];exact hn)).mono ?_;rintro e wn ⟨rfl,h1,f1⟩;have H2:=am h1;have F2:=am (F9.out.trans (Fr.less f1 F9.out.size));clear H9 F9 BKc h1 f1))
 refine bodyPost_end (results_none rfl _ _ _) rfl ?_;have h:=H2.out;unfold toStage at h;rw [set_set,tk_set hi] at h;exact ⟨rfl,ownc,h,F2.out⟩
end
theorem grown_below_ {W W1:World} (h:W.grownBy W1 none):Below W.heap.size W W1:=⟨h.os,h.tape,h.output,h.size,fun k hk=>h.block k hk (by simp)⟩
theorem info_put:(Try.prog.info? 103).map (fun i=>(i.zero,i.size,i.bytes))=some (some (.agg #[.int .i64 0,.int .i64 0]),2,16):=by kernel_rfl
theorem l11Puts_calls (A:Option Addr) (c:Nat) (xs:List Put) (w:World) (hx:kPut.C w A xs.length xs) (hn:xs.length<=1048576):
  Calls Try.prog 120 #[.slice A xs.length c] w fun e w'=>∃ v,e= .returned v/\kPut.R 103 w' w.heap.size (fun _=>True) v xs/\Below w.heap.size w w':=by
 have HX:=am hx;clear hx;go_enter Try.func120,Try.ntmps120
 go_wp2_with (first
 |((with_reducible refine gate_dst (N:=3) rfl ?_);refine Kd.R_lit (w0:=w) kPut w.heap.size 103 rfl (N:=3) rfl (xs:=([]:List Put)) (inner:= []) (ok:=fun _=>True) (okp:=fun _=>True) (by go_simp<;>rfl) (Reps.none _ _) (fun _ hk=>hk) trivial (Below.refl _ _) (Nat.le_refl _) (by simp) ?_;intro v0 w3 ho hb hg _;have HO:=am ho;have HB:=am hb;replace HX:=am (Kd.C_below HX.out (grown_below_ hg));clear ho hb hg)
 |((with_reducible refine gate_builtin (b:=.append) (xs:=#[.tmp 3,.tmp 4]) rfl ?_);at_builtin;refine Kd.R_append_rows kPut (Rr:=kPut.K w3) (w0:=w) w.heap.size rfl (.tmp 3) (.tmp 4) 36 103 (.agg #[.int .i64 0,.int .i64 0]) 16 rfl Try.underlying36 info_put rfl (by decide) (by decide) v0 [] xs A xs.length c (fun _=>True) (fun _=>False) rfl rfl HO.out HX.out (fun _ _ h=>h) (fun _ hk=>hk.elim) (fun _ _=>trivial) HB.out (below_size HB.out) (by simp;omega) ?_;intro v1 w4 ho hb hg _;have HO1:=am ho;have HB1:=am hb;clear ho hb hg HO HB))
 go_ret;exact ⟨_,rfl,HO1.out,HB1.out⟩
theorem findP_none {xs:List Put} {cell:Int} (h:∀ j,j < xs.length->(putAt xs j).cell ≠ cell):findP xs cell=none:=by
 unfold findP;rw [List.findIdx?_eq_none_iff];intro x hx;obtain ⟨j,hj,rfl⟩:=List.mem_iff_getElem.1 hx;have:=h j hj;simpa [putAt,hj] using this
theorem findP_some {xs:List Put} {cell:Int} {k:Nat} (hk:k < xs.length) (h:∀ j,j < k->(putAt xs j).cell ≠ cell) (he:(putAt xs k).cell=cell):findP xs cell=some k:=by
 unfold findP;rw [List.findIdx?_eq_some_iff_getElem];refine ⟨hk,by simpa [putAt,hk] using he,fun j hj=> ?_⟩;have:=h j hj;have hjl:j < xs.length:=by omega
 simpa [putAt,hjl] using this
def placeOf:Option Nat->Int
 | none=> -1
 | some k=>k
theorem l11Find_calls (A:Option Addr) (c:Nat) (xs:List Put) (cell:Int) (w:World) (hx:kPut.C w A xs.length xs) (hn:xs.length<=1048576):
  Calls Try.prog 126 #[.slice A xs.length c,.int .i64 cell] w fun e w'=>e= .returned (.int .i64 (placeOf (findP xs cell)))/\w=w':=by
 have HX:=am hx;clear hx;go_enter Try.func126,Try.ntmps126;go_wp2;go_loopw [5] (fun j w'=>∃ k:Nat,k<=xs.length/\j= .int .i64 k/\w'=w/\Aside0 (∀ j,j < k->(putAt xs j).cell ≠ cell)) (fun j _=>xs.length - (intOf j).toNat)
 case atStart=>exact ⟨0,Nat.zero_le _,rfl,rfl,⟨fun j hj=>absurd hj (Nat.not_lt_zero j)⟩⟩
 case round=>
  obtain ⟨k,hk,rfl,rfl,HJ⟩:=hrel;by_cases hlt:k < xs.length
  ·obtain ⟨b,o,cs,rfl,hcl,hK,hcc,-⟩:=C_field HX.out zPut k hlt (by decide)
   have e:=kPut_open hK;subst e;have c0:=hcc 0 _ rfl;simp only [show kPut.sz=2 from rfl,Nat.add_zero] at c0;rw [show xs.getD k zPut=putAt xs k from rfl] at c0;clear hcc hK hcl;have q0:(0:Int)<=(k:Int):=by omega
   have q1:(k:Int) < (xs.length:Int):=by omega
   by_cases he:(putAt xs k).cell=cell
   ·have y0:((putAt xs k).cell == cell)=true:=by simp [he]
    have HE:=am he;clear he;go_wp2;go_ret;exact ⟨by rw [findP_some hlt HJ.out HE.out];rfl,rfl⟩
   ·have y0:((putAt xs k).cell == cell)=false:=by simp [he]
    have HE:=am he;clear he;go_wp2;go_roundw
    case rel=>exact ⟨k+1,by omega,by go_num,by first|rfl | trivial,⟨fun j hj=>by
     rcases Nat.lt_or_ge j k with h | h
     ·exact HJ.out j h
     ·obtain rfl:j=k:=by omega
      exact HE.out⟩⟩
    case measure=>simp [intOf];omega
  ·go_wp2
   go_ret;obtain rfl:k=xs.length:=by omega
   exact ⟨by rw [findP_none HJ.out];rfl,rfl⟩
def stepAdd (x:Put) (a:List Put × Bool) (y:Put):List Put × Bool:=
 (a.1 ++ (if a.2=false/\x.cell<=y.cell then [x] else []) ++ (if y.cell=x.cell then [] else [y]),a.2 || decide (x.cell<=y.cell))
def addSt (x:Put) (l:List Put) (k:Nat):List Put × Bool:=(l.take k).foldl (stepAdd x) ([],false)
theorem addSt_zero (x:Put) (l:List Put):addSt x l 0=([],false):=by simp [addSt]
theorem addSt_next {x:Put} {l:List Put} {k:Nat} (h:k < l.length):addSt x l (k+1)=stepAdd x (addSt x l k) (putAt l k):=by
 unfold addSt;rw [List.take_succ_eq_append_getElem h,List.foldl_append];simp only [List.foldl_cons,List.foldl_nil];simp [putAt,h]
theorem addSt_len (x:Put) (l:List Put):∀ k,k<=l.length->(addSt x l k).1.length<=2*k
 | 0,_=>by simp [addSt]
 | k+1,h=>by
  have:=addSt_len x l k (by omega)
  rw [addSt_next (by omega)];unfold stepAdd;simp only [List.length_append];split <;> split <;> simp <;> omega
theorem addAux_fold (x:Put):∀ (l:List Put) (pre:List Put) (fin:Bool),pre ++ addAux x fin l=((l.foldl (stepAdd x) (pre,fin)).1 ++ if (l.foldl (stepAdd x) (pre,fin)).2 then [] else [x])
 | [],pre,fin=>by cases fin <;> simp [addAux]
 | y :: l,pre,fin=>by
  rw [List.foldl_cons];unfold addAux;rw [<-List.append_assoc,<-List.append_assoc,addAux_fold x l];rfl
theorem addPut_st (x:Put) (l:List Put):addPut l x=(addSt x l l.length).1 ++ if (addSt x l l.length).2 then [] else [x]:=by
 unfold addPut addSt;rw [List.take_length,<-addAux_fold,List.nil_append]
theorem l11Add_calls (A:Option Addr) (c:Nat) (xs:List Put) (x:Put) (w:World) (hx:kPut.C w A xs.length xs) (hn:xs.length<=1048576):
  Calls Try.prog 162 #[.slice A xs.length c,.agg #[.int .i64 x.cell,.int .i64 x.num]] w fun e w'=>∃ v,e= .returned v/\kPut.R 103 w' w.heap.size (fun _=>True) v (addPut xs x)/\Below w.heap.size w w':=by
 have HX:=am hx;clear hx;go_enter Try.func162,Try.ntmps162
 go_wp2_with (first
 |((with_reducible refine gate_dst (N:=3) rfl ?_);refine box_event rfl (N:=3) rfl (t:=103) (by go_simp<;>rfl) ?_;intro gx hg w2 hbox hb;have BK:=am hbox;have HB:=am hb;clear hbox hb hg)
 |((with_reducible refine gate_dst (N:=8) rfl ?_);refine Kd.R_lit (w0:=w) kPut w.heap.size 103 rfl (N:=8) rfl (xs:=([]:List Put)) (inner:= []) (ok:=fun k=>k ≠ gx) (okp:=fun _=>False) (by go_simp<;>rfl) (Reps.none _ _) (fun _ hk=>hk.elim) (Nat.ne_of_gt (blk_lt BK.out)) HB.out (below_size HB.out) (by simp) ?_;intro v0 w3 ho hb hg _;replace BK:=am (blk_grown BK.out hg (by simp));have HO1:=am ho;replace HB:=am hb;clear ho hb hg;have HO:=HO1;clear HO1))
 go_loopw [5,6,7] (fun v f j w'=>∃ k:Nat,k<=xs.length/\j= .int .i64 k/\f= .bool (addSt x xs k).2/\Aside0 (kPut.R 103 w' w.heap.size (fun k=>k ≠ gx) v (addSt x xs k).1)/\Aside0 (w'.heap[gx]? = some (.cells #[.int .i64 x.cell,.int .i64 x.num] 103 (0,0)))/\Aside0 (Below w.heap.size w w')) (fun _ _ j _=>xs.length - (intOf j).toNat)
 case atStart=>exact ⟨0,Nat.zero_le _,rfl,by rw [addSt_zero],⟨by rw [addSt_zero];exact HO.out⟩,BK,HB⟩
 case round=>
  clear HO BK HB;obtain ⟨k,hk,rfl,rfl,HO,BK,HB⟩:=hrel;have hlen:=addSt_len x xs k hk;by_cases hlt:k < xs.length
  ·have hcc0:=C_field HX.out zPut k hlt (by decide)
   obtain ⟨b,o,cs,rfl,hcl,hK,hcc,-⟩:=hcc0;have e:=kPut_open hK;subst e;have c0:=hcc 0 _ rfl;have c1:=hcc 1 _ rfl;simp only [show kPut.sz=2 from rfl,Nat.add_zero] at c0 c1;rw [show xs.getD k zPut=putAt xs k from rfl] at c0 c1;clear hcc hK hcl;have BKc:=zc8 BK.out;have hbl:b < w.heap.size:=World.block_lt_of_cell? _ _ c0;have BKp:=(bcell HB.out).1;have q0:(0:Int)<=(k:Int):=by omega
   have q1:(k:Int) < (xs.length:Int):=by omega
   have HN:=am (addSt_next (x:=x) hlt)
   cases hf:(addSt x xs k).2 with
   | true=>
    have HF:=am hf;clear hf;have HL:=am trivial;by_cases he:(putAt xs k).cell=x.cell
    ·have y1:((putAt xs k).cell != x.cell)=false:=by simp [he]
     have HE:=am he;clear he;go_wp2;go_quiet (fail);go_wp2;go_quiet (fail);go_wp2;go_roundw
     case rel=>exact ⟨k+1,by omega,by go_num,by rw [HN.out];unfold stepAdd;simp [HF.out],⟨by rw [HN.out];unfold stepAdd;simpa [HF.out,HE.out] using (Kd.R_drewN HO.out _)⟩,⟨blk_drewN BK.out _⟩,⟨pw_below_drewN HB.out _⟩⟩
     case measure=>simp [intOf];omega
    ·have y1:((putAt xs k).cell != x.cell)=true:=by simp [he]
     have HE:=am he;clear he;go_wp2;go_quiet (fail);go_wp2;go_quiet (fail);go_wp2_with (first|((with_reducible refine gate_builtin (b:=.append) (xs:=#[.tmp 39,.tmp 44]) rfl ?_);at_builtin;refine Kd.R_append kPut (w0:=w) w.heap.size rfl (.tmp 39) (.tmp 44) 36 103 (.agg #[.int .i64 0,.int .i64 0]) 16 rfl Try.underlying36 info_put rfl (by decide) (by omega) _ (addSt x xs k).1 (putAt xs k) [.int .i64 (putAt xs k).cell,.int .i64 (putAt xs k).num] (fun k=>k ≠ gx) (fun _=>False) rfl rfl (kPut_mkM (putAt xs k)) (fun _ hk=>hk.elim) (fun k hk he=>by have h5:=Nat.lt_of_lt_of_le (blk_lt (blk_drewN BK.out _)) hk;omega) (Kd.R_drewN HO.out _) (pw_below_drewN HB.out _) (below_size (pw_below_drewN HB.out _)) (by (try simp only [List.length_append,List.length_singleton]);omega) ?_;intro v2 w1 ho hb hg _;replace BK:=am (blk_grown (blk_drewN BK.out _) hg (fun he=>HO.out.1 gx he.symm rfl));replace HO:=am ho;replace HB:=am hb;clear ho hb hg BKc BKp;have BKc:=zc8 BK.out;have BKp:=(bcell HB.out).1))
     go_roundw
     case rel=>exact ⟨k+1,by omega,by go_num,by rw [HN.out];unfold stepAdd;simp [HF.out],⟨by rw [HN.out];unfold stepAdd;simpa [HF.out,HE.out] using HO.out⟩,BK,HB⟩
     case measure=>simp [intOf];omega
   | false=>
    have HF:=am hf;clear hf;by_cases hl:x.cell<=(putAt xs k).cell
    ·have y0:decide (x.cell<=(putAt xs k).cell)=true:=decide_eq_true hl
     have HL:=am hl;clear hl;by_cases he:(putAt xs k).cell=x.cell
     ·have y1:((putAt xs k).cell != x.cell)=false:=by simp [he]
      have HE:=am he;clear he;go_wp2;go_quiet (fail);go_wp2_with (first|((with_reducible refine gate_builtin (b:=.append) (xs:=#[.tmp 27,.tmp 29]) rfl ?_);at_builtin;refine Kd.R_append kPut (w0:=w) w.heap.size rfl (.tmp 27) (.tmp 29) 36 103 (.agg #[.int .i64 0,.int .i64 0]) 16 rfl Try.underlying36 info_put rfl (by decide) (by omega) _ (addSt x xs k).1 x [.int .i64 x.cell,.int .i64 x.num] (fun k=>k ≠ gx) (fun _=>False) rfl rfl (kPut_mkM x) (fun _ hk=>hk.elim) (fun k hk he=>by have h5:=Nat.lt_of_lt_of_le (blk_lt (blk_drewN BK.out _)) hk;omega) (Kd.R_drewN HO.out _) (pw_below_drewN HB.out _) (below_size (pw_below_drewN HB.out _)) (by (try simp only [List.length_append,List.length_singleton]);omega) ?_;intro v1 w1 ho hb hg _;replace BK:=am (blk_grown (blk_drewN BK.out _) hg (fun he=>HO.out.1 gx he.symm rfl));replace HO:=am ho;replace HB:=am hb;clear ho hb hg BKc BKp;have BKc:=zc8 BK.out;have BKp:=(bcell HB.out).1))
      go_quiet (fail);go_wp2;go_roundw
      case rel=>exact ⟨k+1,by omega,by go_num,by rw [HN.out];unfold stepAdd;simp [HF.out,HL.out],⟨by rw [HN.out];unfold stepAdd;simpa [HF.out,HL.out,HE.out] using (Kd.R_drewN HO.out _)⟩,⟨blk_drewN BK.out _⟩,⟨pw_below_drewN HB.out _⟩⟩
      case measure=>simp [intOf];omega
     ·have y1:((putAt xs k).cell != x.cell)=true:=by simp [he]
      have HE:=am he;clear he;go_wp2;go_quiet (fail);go_wp2_with (first|((with_reducible refine gate_builtin (b:=.append) (xs:=#[.tmp 27,.tmp 29]) rfl ?_);at_builtin;refine Kd.R_append kPut (w0:=w) w.heap.size rfl (.tmp 27) (.tmp 29) 36 103 (.agg #[.int .i64 0,.int .i64 0]) 16 rfl Try.underlying36 info_put rfl (by decide) (by omega) _ (addSt x xs k).1 x [.int .i64 x.cell,.int .i64 x.num] (fun k=>k ≠ gx) (fun _=>False) rfl rfl (kPut_mkM x) (fun _ hk=>hk.elim) (fun k hk he=>by have h5:=Nat.lt_of_lt_of_le (blk_lt (blk_drewN BK.out _)) hk;omega) (Kd.R_drewN HO.out _) (pw_below_drewN HB.out _) (below_size (pw_below_drewN HB.out _)) (by (try simp only [List.length_append,List.length_singleton]);omega) ?_;intro v1 w1 ho hb hg _;replace BK:=am (blk_grown (blk_drewN BK.out _) hg (fun he=>HO.out.1 gx he.symm rfl));replace HO:=am ho;replace HB:=am hb;clear ho hb hg BKc BKp;have BKc:=zc8 BK.out;have BKp:=(bcell HB.out).1))
      go_quiet (fail);go_wp2_with (first|((with_reducible refine gate_builtin (b:=.append) (xs:=#[.tmp 39,.tmp 44]) rfl ?_);at_builtin;refine Kd.R_append kPut (w0:=w) w.heap.size rfl (.tmp 39) (.tmp 44) 36 103 (.agg #[.int .i64 0,.int .i64 0]) 16 rfl Try.underlying36 info_put rfl (by decide) (by omega) _ ((addSt x xs k).1 ++ [x]) (putAt xs k) [.int .i64 (putAt xs k).cell,.int .i64 (putAt xs k).num] (fun k=>k ≠ gx) (fun _=>False) rfl rfl (kPut_mkM (putAt xs k)) (fun _ hk=>hk.elim) (fun k hk he=>by have h5:=Nat.lt_of_lt_of_le (blk_lt (blk_drewN BK.out _)) hk;omega) (Kd.R_drewN HO.out _) (pw_below_drewN HB.out _) (below_size (pw_below_drewN HB.out _)) (by (try simp only [List.length_append,List.length_singleton]);omega) ?_;intro v2 w1 ho hb hg _;replace BK:=am (blk_grown (blk_drewN BK.out _) hg (fun he=>HO.out.1 gx he.symm rfl));replace HO:=am ho;replace HB:=am hb;clear ho hb hg BKc BKp;have BKc:=zc8 BK.out;have BKp:=(bcell HB.out).1))
      go_roundw
      case rel=>exact ⟨k+1,by omega,by go_num,by rw [HN.out];unfold stepAdd;simp [HF.out,HL.out],⟨by rw [HN.out];unfold stepAdd;simpa [HF.out,HL.out,HE.out] using HO.out⟩,BK,HB⟩
      case measure=>simp [intOf];omega
    ·have y0:decide (x.cell<=(putAt xs k).cell)=false:=decide_eq_false hl
     have HL:=am hl;have he:(putAt xs k).cell ≠ x.cell:=by omega
     clear hl;have y1:((putAt xs k).cell != x.cell)=true:=by simp [he]
     have HE:=am he;clear he;go_wp2;go_quiet (fail);go_wp2;go_quiet (fail);go_wp2_with (first|((with_reducible refine gate_builtin (b:=.append) (xs:=#[.tmp 39,.tmp 44]) rfl ?_);at_builtin;refine Kd.R_append kPut (w0:=w) w.heap.size rfl (.tmp 39) (.tmp 44) 36 103 (.agg #[.int .i64 0,.int .i64 0]) 16 rfl Try.underlying36 info_put rfl (by decide) (by omega) _ (addSt x xs k).1 (putAt xs k) [.int .i64 (putAt xs k).cell,.int .i64 (putAt xs k).num] (fun k=>k ≠ gx) (fun _=>False) rfl rfl (kPut_mkM (putAt xs k)) (fun _ hk=>hk.elim) (fun k hk he=>by have h5:=Nat.lt_of_lt_of_le (blk_lt (blk_drewN BK.out _)) hk;omega) (Kd.R_drewN HO.out _) (pw_below_drewN HB.out _) (below_size (pw_below_drewN HB.out _)) (by (try simp only [List.length_append,List.length_singleton]);omega) ?_;intro v2 w1 ho hb hg _;replace BK:=am (blk_grown (blk_drewN BK.out _) hg (fun he=>HO.out.1 gx he.symm rfl));replace HO:=am ho;replace HB:=am hb;clear ho hb hg BKc BKp;have BKc:=zc8 BK.out;have BKp:=(bcell HB.out).1))
     go_roundw
     case rel=>exact ⟨k+1,by omega,by go_num,by rw [HN.out];unfold stepAdd;simp [HF.out,HL.out],⟨by rw [HN.out];unfold stepAdd;simpa [HF.out,if_neg (Int.not_le.2 HL.out),HE.out] using HO.out⟩,BK,HB⟩
     case measure=>simp [intOf];omega
  ·have BKc:=zc8 BK.out
   obtain rfl:k=xs.length:=by omega
   cases hf:(addSt x xs xs.length).2 with
   | true=>
    go_wp2;go_ret
    exact ⟨_,rfl,Kd.R_mono (by rw [addPut_st,hf];simpa using HO.out) (fun _ _=>trivial),HB.out⟩
   | false=>
    go_wp2_with (first|((with_reducible refine gate_builtin (b:=.append) (xs:=#[.tmp 48,.tmp 50]) rfl ?_);at_builtin;refine Kd.R_append kPut (w0:=w) w.heap.size rfl (.tmp 48) (.tmp 50) 36 103 (.agg #[.int .i64 0,.int .i64 0]) 16 rfl Try.underlying36 info_put rfl (by decide) (by omega) _ (addSt x xs xs.length).1 x [.int .i64 x.cell,.int .i64 x.num] (fun k=>k ≠ gx) (fun _=>False) rfl rfl (kPut_mkM x) (fun _ hk=>hk.elim) (fun k hk he=>by have h5:=Nat.lt_of_lt_of_le (blk_lt BK.out) hk;omega) HO.out HB.out (below_size HB.out) (by (try simp only [List.length_append,List.length_singleton]);omega) ?_;intro v1 w1 ho hb hg _;replace BK:=am (blk_grown BK.out hg (fun he=>HO.out.1 gx he.symm rfl));replace HO:=am ho;replace HB:=am hb;clear ho hb hg BKc;have BKc:=zc8 BK.out;skip))
    go_ret;exact ⟨_,rfl,Kd.R_mono (by rw [addPut_st,hf];exact HO.out) (fun _ _=>trivial),HB.out⟩
section
variable {w0:World} {g:Nat} {own:Nat->Nat} {vp vb:Value} {p:Prog} {s:Sys} {vc vt vl:Value}
theorem load_calls (i:Nat) (d:Deed) (w:World) (h:St 152 w0 g own vp vb p s vc vt vl w) (hi:i < s.tasks.length) (hn:s.tasks.length<=1048576) (hm:s.cells.length<=1048576) (ho:(tk s i).old.length<=1048576) (hrn:(tk s i).reads.length<=1048576) (hpn:(tk s i).puts.length<=1048576) (hr3:(tk s i).regs.length=3) (hat0:0<=(tk s i).at_) (hat1:(tk s i).at_<=1048576) (hda:0<=d.a/\d.a<=2) (hdb:0<=d.b/\d.b < s.cells.length):
  Calls Try.prog 161 #[.pointer (some ⟨g,0,none⟩),.int .i64 i,.agg #[.int .i64 d.kind,.int .i64 d.a,.int .i64 d.b]] w fun e w'=>e= .returned (.tuple #[])/\∃ own',St 152 w0 g own' vp vb p (load s i d) vc vt vl w'/\Fr w.heap.size own own' w w':=by
 have H:=am h;clear h;obtain ⟨ka,hka⟩:=Int.eq_ofNat_of_zero_le hda.1;obtain ⟨kc,hkc⟩:=Int.eq_ofNat_of_zero_le hdb.1;have hk:kc < s.cells.length:=by omega
 have qa0:(0:Int)<=d.a:=hda.1;have qa1:d.a < ((tk s i).regs.length:Int):=by omega
 have qa4:d.a.toNat=ka:=by omega
 have q5:(0:Int)<=d.b:=hdb.1;have q6:d.b < (s.cells.length:Int):=hdb.2;have q4:d.b.toNat=kc:=by omega
 clear hka hkc hda hdb hr3;obtain ⟨b,cap,rfl,hb3,hbg⟩:=H.out.tform (by omega);obtain ⟨bc,c0,rfl,hb2,hbcg⟩:=H.out.cform (by omega);obtain ⟨Al,cl,rfl⟩:=H.out.lslice;obtain ⟨v3,v8,v9,v10,hcc,hf,h3,h8,h9,h10⟩:=H.out.task hi;obtain ⟨gr,c3,rfl,ho3,-⟩:=R_form h3 (by omega);obtain ⟨A8,c8,rfl,-,-⟩:=Kd.R_reads h8;obtain ⟨A9,c9,rfl,-,-⟩:=Kd.R_reads h9;obtain ⟨A10,c10,rfl,-,g10⟩:=Kd.R_reads h10;have HCC:=am hcc;have R3:=am h3;have R9:=am h9;have C10:=am g10;have O3:=am ho3;have HB3:=am hb3;have HB2:=am hb2;have BKc:=zc8 H.out.blk;have q0:(0:Int)<=(i:Int):=by omega
 have q1:(i:Int) < (s.tasks.length:Int):=by omega
 clear hcc hf h3 h8 h9 h10 g10 ho3 hb3 hb2;go_enter Try.func161,Try.ntmps161
 cases hfd:findP (tk s i).puts d.b with
 | some k=>
  have hkl:=findP_lt hfd;have HF:=am hfd;have HFD:Aside0 (placeOf (findP (tk s i).puts d.b)=(k:Int)):=⟨by rw [hfd];rfl⟩;clear hfd;obtain ⟨b10,o10,cs10,rfl,hcl10,hK10,hcc10,-⟩:=C_field C10.out zPut k (by omega) (by decide);have e10:=kPut_open hK10;subst e10;obtain ⟨x10,hx10⟩:∃ x,x=putAt (tk s i).puts k:=⟨_,rfl⟩;rw [show List.getD (tk s i).puts k zPut=x10 from hx10.symm] at hcc10;have X10:=am hx10;clear hx10;have p100:=hcc10 0 _ rfl;have p101:=hcc10 1 _ rfl;simp only [show kPut.sz=2 from rfl,Nat.add_zero] at p100 p101;clear hcc10 hK10 hcl10;have P10:=am p101;have q7:(k:Int) < ((tk s i).puts.length:Int):=by omega
  have q8:(0:Int)<=(k:Int):=by omega
  clear p100 p101
  go_wp2_with (first
  |((with_reducible refine gate_dst (N:=5) rfl ?_);refine box_event rfl (N:=5) rfl (t:=111) (by go_simp<;>rfl) ?_;intro gd hgd w1 hbox hb;have BKd:=am hbox;have GD:=am hgd;have HB:=am hb;clear hbox hb hgd;have BKc:=zc8 (H.out.grow HB.out).blk;have BKdc:=zc8 BKd.out)
  |((with_reducible refine gate_dst (N:=15) rfl ?_);refine wpList_load_mid rfl 38 (.tmp 14) rfl b (i*13) rfl _ _ (fun j u hu=>cellB HB.out (HCC.out j u hu)) Try.underlying38 rfl (by kernel_rfl) ?_)|((with_reducible refine gate_dst (N:=6) rfl ?_);refine box_event rfl (N:=6) rfl (t:=38) (by go_simp<;>rfl) ?_;intro gt hg w2 hbox hb;have BKt0:=am hbox;have GT:=am hg;have GTW:=am (show w.heap.size<=gt from Nat.le_trans HB.out.size (Nat.le_of_eq hg.symm));have HBT:=am hb;clear hbox hb hg)|((with_reducible refine gate_store (t:=38) (p:=6) rfl ?_);refine store_block rfl rfl 38 (.tmp 6) (.tmp 15) rfl rfl rfl BKt0.out rfl (by kernel_rfl) (aB rfl) ?_;intro w3 hbox hg;have BKt:=am hbox;have hbx:=pw_below_grown HBT.out _ HBT.out.size hg (fun z hz=>by cases hz;exact Nat.le_of_eq GT.out.symm);replace HB:=am (below_step HB.out hbx);replace BKd:=am (zb8 BKd.out hbx);clear BKdc;have BKdc:=zc8 BKd.out;clear hbox hg BKt0 HBT hbx;have BKc:=zc8 (H.out.grow HB.out).blk;have BKtc:=zc8 BKt.out)
  |(go_at_call 126;refine (l11Find_calls _ c10 (tk s i).puts d.b _ (Kd.C_below C10.out HB.out) hpn).mono ?_;rw [HFD.out];rintro e w4 ⟨rfl,rfl⟩))
  have c_regs:=cellB HB.out (HCC.out 3 _ rfl);have p101:=cellB HB.out P10.out;refine wp_region_still_tail 18 (by kernel_rfl) (by kernel_rfl) ?_;simp only [List.take_succ_cons,List.take_zero,List.drop_succ_cons,List.drop_zero];iterate 18 still_step
  refine wpStill_nil ?_;clear c_regs p101;have hb:=below_drew (Below.refl w3.heap.size w3);show wpList _ _ _ _ _ w3.drew;generalize w3.drew=w5 at hb ⊢;have HB5:=am (below_step HB.out hb);have H5:=am (H.out.grow HB5.out);have F5:=am (Fr.below (own:=own) HB5.out);have BKt5:=am (zb8 BKt.out hb);have BKd5:=am (zb8 BKd.out hb);have R35:=am (Kd.R_below R3.out HB5.out);have R95:=am (Kd.R_below R9.out HB5.out);have c_regs:=am (cellB HB5.out (HCC.out 3 _ rfl));have OT:=am (H.out.new0 gt GTW.out);have OD:=am (H.out.new0 gd (Nat.le_of_eq GD.out.symm));obtain ⟨rc,rf⟩:=Kd.R_celln 0 R35.out d.a qa0 qa1;rw [qa4] at rc rf;have RC:=am rc;have RF:=am rf;clear rc rf hb HB BKc BKtc BKdc BKt BKd R3 R9;have BKc:=zc8 H5.out.blk
  go_wp2_with (first
  |((with_reducible refine gate_store (t:=3) (p:=87) rfl ?_);refine set_ev (u:=.int .i64 x10.num) rfl rfl _ _ rfl (g:=gr) (off:=ka) rfl rfl rfl rfl (by kernel_rfl) ⟨⟨_,RC.out⟩,RF.out⟩ ?_;intro w6 hwn;obtain ⟨k1,k2⟩:=H5.out.regSet (B:=w.heap.size) hi c_regs.out ka (by omega) x10.num;rw [<-hwn] at k1 k2;have H6:=am k1;have F6:=am (F5.out.trans k2);have bt:=blk_far (p:=⟨gr,ka,none⟩) BKt5.out (fun he=>by have h5:=OT.out;rw [show gt=gr from he,O3.out] at h5;omega) (Value.int .i64 x10.num);have bd:=blk_far (p:=⟨gr,ka,none⟩) BKd5.out (fun he=>by have h5:=OD.out;rw [show gd=gr from he,O3.out] at h5;omega) (Value.int .i64 x10.num);rw [<-hwn] at bt bd;have BKt6:=am bt;have BKd6:=am bd;have R96:=am (show kPut.R 103 w6 w0.heap.size (fun k=>own k=10+8*i) (.slice A9 (tk s i).reads.length c9) (tk s i).reads by rw [hwn];exact Kd.R_far R95.out (fun k hk he=>by have h5:own k=own gr:=congrArg own he;rw [hk,O3.out] at h5;omega) _);clear H5 F5 BKt5 BKd5 R35 R95 BKc k1 k2 bt bd hwn RC RF c_regs;have BKc:=zc8 H6.out.blk;have BKtc:=zc8 BKt6.out;have BKdc:=zc8 BKd6.out))
  obtain ⟨s1,hs1⟩:∃ x:Sys,x=setTask s i {tk s i with regs:=(tk s i).regs.set ka x10.num}:=⟨_,rfl⟩;have hi1:i < s1.tasks.length:=by rw [hs1];simpa [set_len] using hi
  have ha1:(tk s1 i).at_=(tk s i).at_:=by rw [hs1];simp [tk_set,set_len,hi]
  rw [<-hs1] at H6;refine wp_region_still_tail 11 (by kernel_rfl) (by kernel_rfl) ?_;simp only [List.take_succ_cons,List.take_zero,List.drop_succ_cons,List.drop_zero];iterate 11 still_step
  refine wpStill_nil ?_;rw [show IntKind.i64.wrap ((tk s i).at_+1)=(tk s i).at_+1 from by rw [i64_w];unfold wrap64;omega];have hb:=below_drew (Below.refl w6.heap.size w6);show wpList _ _ _ _ _ w6.drew;generalize w6.drew=w8 at hb ⊢;have H8:=am (H6.out.grow hb);have F8:=am (F6.out.trans (Fr.less (Fr.below hb) F6.out.size));clear H6 F6 BKc BKtc hb;have BKc:=zc8 H8.out.blk
  go_wp2_with (first
  |((with_reducible refine gate_store (t:=3) (p:=107) rfl ?_);refine set_ev (u:=.int .i64 ((tk s i).at_+1)) rfl rfl _ _ rfl rfl rfl rfl rfl (by kernel_rfl) (H8.out.ready (i:=i) hi1 6 (by decide)) ?_;intro w9 hwn;obtain ⟨k1,k2⟩:=H8.out.setInt (B:=w.heap.size) (i:=i) hi1 6 (by decide) ((tk s i).at_+1) {tk s1 i with at_:=(tk s i).at_+1} (fun _ _ _ _=>rfl) ⟨rfl,rfl,rfl,rfl⟩;rw [<-hwn] at k1 k2;have H9:=am k1;have F9:=am (F8.out.trans k2);clear H8 F8 BKc k1 k2 hwn))
  refine bodyPost_end (results_none rfl _ _ _) rfl ?_;have h:=H9.out;rw [hs1,set_set,tk_set hi] at h;refine ⟨rfl,own, ?_,F9.out⟩;unfold load;simp only [HF.out,qa4,<-X10.out]
  exact h
 | none=>
  have HF:=am hfd;have HFD:Aside0 (placeOf (findP (tk s i).puts d.b)= -1):=⟨by rw [hfd];rfl⟩;clear hfd
  cases hbl:blind s i d.b with
  | true=>
   have HBL:=am hbl;clear hbl
   go_wp2_with (first
   |((with_reducible refine gate_dst (N:=5) rfl ?_);refine box_event rfl (N:=5) rfl (t:=111) (by go_simp<;>rfl) ?_;intro gd hgd w1 hbox hb;have BKd:=am hbox;have GD:=am hgd;have HB:=am hb;clear hbox hb hgd;have BKc:=zc8 (H.out.grow HB.out).blk;have BKdc:=zc8 BKd.out)
   |((with_reducible refine gate_dst (N:=15) rfl ?_);refine wpList_load_mid rfl 38 (.tmp 14) rfl b (i*13) rfl _ _ (fun j u hu=>cellB HB.out (HCC.out j u hu)) Try.underlying38 rfl (by kernel_rfl) ?_)|((with_reducible refine gate_dst (N:=6) rfl ?_);refine box_event rfl (N:=6) rfl (t:=38) (by go_simp<;>rfl) ?_;intro gt hg w2 hbox hb;have BKt0:=am hbox;have GT:=am hg;have GTW:=am (show w.heap.size<=gt from Nat.le_trans HB.out.size (Nat.le_of_eq hg.symm));have HBT:=am hb;clear hbox hb hg)|((with_reducible refine gate_store (t:=38) (p:=6) rfl ?_);refine store_block rfl rfl 38 (.tmp 6) (.tmp 15) rfl rfl rfl BKt0.out rfl (by kernel_rfl) (aB rfl) ?_;intro w3 hbox hg;have BKt:=am hbox;have hbx:=pw_below_grown HBT.out _ HBT.out.size hg (fun z hz=>by cases hz;exact Nat.le_of_eq GT.out.symm);replace HB:=am (below_step HB.out hbx);replace BKd:=am (zb8 BKd.out hbx);clear BKdc;have BKdc:=zc8 BKd.out;clear hbox hg BKt0 HBT hbx;have BKc:=zc8 (H.out.grow HB.out).blk;have BKtc:=zc8 BKt.out)
   |(go_at_call 126;refine (l11Find_calls _ c10 (tk s i).puts d.b _ (Kd.C_below C10.out HB.out) hpn).mono ?_;rw [HFD.out];rintro e w4 ⟨rfl,rfl⟩)
   |(go_at_call 164;refine (blind_calls i d.b _ (H.out.grow HB.out) hi hn hm q5 q6).mono ?_;rw [HBL.out];rintro e w4 ⟨rfl,hb⟩;replace HB:=am (below_step HB.out hb);replace BKt:=am (zb8 BKt.out hb);replace BKd:=am (zb8 BKd.out hb);clear BKc BKtc BKdc hb;have BKc:=zc8 (H.out.grow HB.out).blk;have BKtc:=zc8 BKt.out;have BKdc:=zc8 BKd.out)
   |(go_at_call 159;refine (again_calls i _ (H.out.grow HB.out) hi hn hm ho).mono ?_;rintro e w5 ⟨rfl,ownc,h1,f1⟩;have H2:=am h1;have F2:=am ((Fr.below (own:=own) HB.out).trans (Fr.less f1 HB.out.size));clear H HB BKc BKt BKtc BKd BKdc h1 f1))
   refine bodyPost_ret (results_none rfl _ _ _) rfl ?_;refine ⟨rfl,ownc, ?_,F2.out⟩
   have hch:load s i d=again s i:=by
    unfold load;simp only [HF.out,HBL.out,if_true]
   rw [hch]
   exact H2.out
  | false=>
   have HBL:=am hbl;clear hbl;obtain ⟨hcl,-⟩:=H.out.cell hk;have P0:=am (hcl 0 _ rfl);clear hcl
   go_wp2_with (first
   |((with_reducible refine gate_dst (N:=5) rfl ?_);refine box_event rfl (N:=5) rfl (t:=111) (by go_simp<;>rfl) ?_;intro gd hgd w1 hbox hb;have BKd:=am hbox;have GD:=am hgd;have HB:=am hb;clear hbox hb hgd;have BKc:=zc8 (H.out.grow HB.out).blk;have BKdc:=zc8 BKd.out)
   |((with_reducible refine gate_dst (N:=15) rfl ?_);refine wpList_load_mid rfl 38 (.tmp 14) rfl b (i*13) rfl _ _ (fun j u hu=>cellB HB.out (HCC.out j u hu)) Try.underlying38 rfl (by kernel_rfl) ?_)|((with_reducible refine gate_dst (N:=6) rfl ?_);refine box_event rfl (N:=6) rfl (t:=38) (by go_simp<;>rfl) ?_;intro gt hg w2 hbox hb;have BKt0:=am hbox;have GT:=am hg;have GTW:=am (show w.heap.size<=gt from Nat.le_trans HB.out.size (Nat.le_of_eq hg.symm));have HBT:=am hb;clear hbox hb hg)|((with_reducible refine gate_store (t:=38) (p:=6) rfl ?_);refine store_block rfl rfl 38 (.tmp 6) (.tmp 15) rfl rfl rfl BKt0.out rfl (by kernel_rfl) (aB rfl) ?_;intro w3 hbox hg;have BKt:=am hbox;have hbx:=pw_below_grown HBT.out _ HBT.out.size hg (fun z hz=>by cases hz;exact Nat.le_of_eq GT.out.symm);replace HB:=am (below_step HB.out hbx);replace BKd:=am (zb8 BKd.out hbx);clear BKdc;have BKdc:=zc8 BKd.out;clear hbox hg BKt0 HBT hbx;have BKc:=zc8 (H.out.grow HB.out).blk;have BKtc:=zc8 BKt.out)
   |(go_at_call 126;refine (l11Find_calls _ c10 (tk s i).puts d.b _ (Kd.C_below C10.out HB.out) hpn).mono ?_;rw [HFD.out];rintro e w4 ⟨rfl,rfl⟩)
   |(go_at_call 164;refine (blind_calls i d.b _ (H.out.grow HB.out) hi hn hm q5 q6).mono ?_;rw [HBL.out];rintro e w4 ⟨rfl,hb⟩;replace HB:=am (below_step HB.out hb);replace BKt:=am (zb8 BKt.out hb);replace BKd:=am (zb8 BKd.out hb);clear BKc BKtc BKdc hb;have BKc:=zc8 (H.out.grow HB.out).blk;have BKtc:=zc8 BKt.out;have BKdc:=zc8 BKd.out))
   have c_regs:=cellB HB.out (HCC.out 3 _ rfl);have k0:=cellB HB.out P0.out;rw [Nat.add_zero] at k0;refine wp_region_still_tail 22 (by kernel_rfl) (by kernel_rfl) ?_;simp only [List.take_succ_cons,List.take_zero,List.drop_succ_cons,List.drop_zero];iterate 22 still_step
   refine wpStill_nil ?_;clear c_regs k0;have hb:=below_drew (Below.refl w4.heap.size w4);show wpList _ _ _ _ _ w4.drew;generalize w4.drew=w5 at hb ⊢;have HB5:=am (below_step HB.out hb);have H5:=am (H.out.grow HB5.out);have F5:=am (Fr.below (own:=own) HB5.out);have BKt5:=am (zb8 BKt.out hb);have BKd5:=am (zb8 BKd.out hb);have R35:=am (Kd.R_below R3.out HB5.out);have R95:=am (Kd.R_below R9.out HB5.out);have c_regs:=am (cellB HB5.out (HCC.out 3 _ rfl));have OT:=am (H.out.new0 gt GTW.out);have OD:=am (H.out.new0 gd (Nat.le_of_eq GD.out.symm));obtain ⟨rc,rf⟩:=Kd.R_celln 0 R35.out d.a qa0 qa1;rw [qa4] at rc rf;have RC:=am rc;have RF:=am rf;clear rc rf hb HB BKc BKtc BKdc BKt BKd R3 R9;have BKc:=zc8 H5.out.blk
   go_wp2_with (first
   |((with_reducible refine gate_store (t:=3) (p:=42) rfl ?_);refine set_ev (u:=.int .i64 (cellAt s.cells kc).num) rfl rfl _ _ rfl (g:=gr) (off:=ka) rfl rfl rfl rfl (by kernel_rfl) ⟨⟨_,RC.out⟩,RF.out⟩ ?_;intro w6 hwn;obtain ⟨k1,k2⟩:=H5.out.regSet (B:=w.heap.size) hi c_regs.out ka (by omega) (cellAt s.cells kc).num;rw [<-hwn] at k1 k2;have H6:=am k1;have F6:=am (F5.out.trans k2);have bt:=blk_far (p:=⟨gr,ka,none⟩) BKt5.out (fun he=>by have h5:=OT.out;rw [show gt=gr from he,O3.out] at h5;omega) (Value.int .i64 (cellAt s.cells kc).num);have bd:=blk_far (p:=⟨gr,ka,none⟩) BKd5.out (fun he=>by have h5:=OD.out;rw [show gd=gr from he,O3.out] at h5;omega) (Value.int .i64 (cellAt s.cells kc).num);rw [<-hwn] at bt bd;have BKt6:=am bt;have BKd6:=am bd;have R96:=am (show kPut.R 103 w6 w0.heap.size (fun k=>own k=10+8*i) (.slice A9 (tk s i).reads.length c9) (tk s i).reads by rw [hwn];exact Kd.R_far R95.out (fun k hk he=>by have h5:own k=own gr:=congrArg own he;rw [hk,O3.out] at h5;omega) _);clear H5 F5 BKt5 BKd5 R35 R95 BKc k1 k2 bt bd hwn RC RF c_regs;have BKc:=zc8 H6.out.blk;have BKtc:=zc8 BKt6.out;have BKdc:=zc8 BKd6.out))
   obtain ⟨sa,hsa⟩:∃ x:Sys,x=setTask s i {tk s i with regs:=(tk s i).regs.set ka (cellAt s.cells kc).num}:=⟨_,rfl⟩;have hia:i < sa.tasks.length:=by rw [hsa];simpa [set_len] using hi
   have hkca:kc < sa.cells.length:=by rw [hsa];exact hk
   have hca:cellAt sa.cells kc=cellAt s.cells kc:=by rw [hsa];rfl
   have hra:(tk sa i).reads=(tk s i).reads:=by rw [hsa,tk_set hi]
   have hcka:sa.clock=s.clock:=by rw [hsa];rfl
   rw [<-hsa] at H6;have HSA:=am hsa;clear hsa;obtain ⟨hcl,-⟩:=H6.out.cell hkca;have k0:=hcl 0 _ rfl;rw [hca,Nat.add_zero] at k0;clear hcl;obtain ⟨num,hnum⟩:∃ x,x=(cellAt s.cells kc).num:=⟨_,rfl⟩;rw [<-hnum] at k0;have HNUM:=am hnum;have bg:=H6.out.blk;rw [hcka] at bg;clear hnum hca;refine st9 (n:=25) (S:=fun W=>W.heap[g]? = some (.cells #[vp,vb,.slice (some ⟨bc,0,none⟩) s.cells.length c0,.slice (some ⟨b,0,none⟩) s.tasks.length cap,.int .i64 s.clock,.slice Al s.log.length cl] 152 (0,0))/\W.heap[gt]? = some (.cells #[.int .i64 (tk s i).body,.int .i64 (tk s i).pc,.int .i64 (tk s i).up,.slice (some ⟨gr,0,none⟩) (tk s i).regs.length c3,.int .i64 (tk s i).way,.int .i64 (tk s i).stage,.int .i64 (tk s i).at_,.int .i64 (tk s i).since,.slice A8 (tk s i).old.length c8,.slice A9 (tk s i).reads.length c9,.slice A10 (tk s i).puts.length c10,.int .i64 (tk s i).when_,.int .i64 (tk s i).from_] 38 (0,0))/\W.heap[gd]? = some (.cells #[.int .i64 d.kind,.int .i64 d.a,.int .i64 d.b] 111 (0,0))/\W.cell? ⟨bc,kc*3,none⟩=some (.int .i64 num)) (ds:= [22,23,24]) (by kernel_rfl) rfl ⟨blk_drew bg,blk_drew BKt6.out,blk_drew BKd6.out,k0⟩ (fun hHeld=> ?_);have hb:=below_drew (Below.refl w6.heap.size w6);generalize w6.drew=w7 at hb hHeld ⊢;have H7:=am (H6.out.grow hb);have F7:=am (F6.out.trans (Fr.less (Fr.below hb) F6.out.size));have D9:=am (Kd.R_reads' (Kd.R_below R96.out hb)).2.2;clear H6 F6 R96 hb BKc BKtc BKdc BKt6 BKd6 k0 bg;refine ba9 (fuel:=4) (n:=21) [0,1,2,3,4,5,6,7,8,9,10,11,12,13,14,15,16,17,18,19,20] (by kernel_rfl) (fun N _ _ _ _ h=>by cases N <;> exact h) hHeld ?_
   iterate 21 (
    refine stillS_step (v:= ?_) (a':= ?_) rfl (Or.inl ⟨by rfl, ?_⟩) ?_ ?_;rotate_left
    ·rintro W ⟨s0,s2,s3,s4⟩
     have t0:=zc8 s0;have t2:=zc8 s2;have t3:=zc8 s3;clear s0 s2 s3;go_simp;with_reducible rfl
    rotate_left
    ·simp only [Act.put,sA,sZ,sS,i64_w]
     rfl)
   refine stillS_nil ?_;refine on9 (i:=21) (N:=some 64) rfl rfl (by kernel_rfl) (by decide) (fun K hK=> ?_);refine goes_ Try.func162 (by kernel_rfl) rfl #[.slice A9 (tk s i).reads.length c9,.agg #[.int .i64 d.b,.int .i64 num]] (by rfl) rfl rfl (by (try simp only [List.map_toArray,List.map_cons,List.map_nil]);first | done | rfl) ?_;refine (l11Add_calls A9 c9 (tk s i).reads ⟨d.b,num⟩ _ D9.out hrn).mono ?_;rintro e wn ⟨v9,rfl,hv,hb⟩;obtain ⟨B9,d9,e9⟩:=Kd.R_slice hv;subst e9;refine ⟨_,rfl, ?_⟩;refine hK.out _ _ ⟨zb8 hHeld.1 hb,zb8 hHeld.2.1 hb,zb8 hHeld.2.2.1 hb,cellB hb hHeld.2.2.2⟩ (fun hHeld=> ?_);clear hK K;refine norm_ (a':= ?_) ?_ ?_;rotate_left
   ·show Act.put _ (some 64) _=_
    simp only [Act.put,sA,sZ,sS,i64_w];rfl
   have V:Aside0 (kPut.R 103 wn w0.heap.size (fun k=>own k=0/\w.heap.size<=k) (.slice B9 (addPut (tk s i).reads ⟨d.b,num⟩).length d9) (addPut (tk s i).reads ⟨d.b,num⟩)):=⟨Kd.R_lower (Kd.R_mono (Kd.R_bound hv) (fun k hk=>⟨H7.out.new0 k hk.2.1,Nat.le_trans F7.out.size hk.2.1⟩)) H7.out.below.size⟩;have Hn:=am (H7.out.grow hb);have Fn:=am (F7.out.trans (Fr.less (Fr.below hb) F7.out.size));have BKt7:=am hHeld.2.1;clear H7 F7 D9 hv hb hHeld;have BKc:=zc8 Hn.out.blk;refine tail_ (fuel:=3) 22 (by kernel_rfl) ?_;simp only [List.drop_succ_cons,List.drop_zero]
   go_wp2_with (first
   |((with_reducible refine gate_store (t:=36) (p:=66) rfl ?_);refine set_ev (u:=.slice B9 (addPut (tk s i).reads ⟨d.b,num⟩).length d9) rfl rfl _ _ rfl rfl rfl rfl rfl (by kernel_rfl) (Hn.out.ready (i:=i) hia 9 (by decide)) ?_;intro w6b hwn;obtain ⟨ownc,k1,k2,-⟩:=Hn.out.setReadsE (B:=w.heap.size) (i:=i) hia V.out;rw [<-hwn] at k1 k2;have H6b:=am k1;have F6b:=am (Fn.out.trans k2);have bt:=blk_far (p:=⟨b,i*13+9,none⟩) BKt7.out (fun he=>by have h5:=OT.out;rw [show gt=b from he,HB3.out] at h5;cases h5) (.slice B9 (addPut (tk s i).reads ⟨d.b,num⟩).length d9);rw [<-hwn] at bt;have BKt6b:=am bt;clear Hn Fn V BKt7 k1 k2 bt hwn BKc;have BKc:=zc8 H6b.out.blk;have BKtc:=zc8 BKt6b.out))
   obtain ⟨s1,hs1⟩:∃ x:Sys,x=setTask sa i {tk sa i with reads:=addPut (tk s i).reads ⟨d.b,num⟩}:=⟨_,rfl⟩;have hi1:i < s1.tasks.length:=by rw [hs1];simpa [set_len] using hia
   have ha1:(tk s1 i).at_=(tk s i).at_:=by rw [hs1,tk_set hia,HSA.out,tk_set hi]
   rw [<-hs1] at H6b;refine wp_region_still_tail 11 (by kernel_rfl) (by kernel_rfl) ?_;simp only [List.take_succ_cons,List.take_zero,List.drop_succ_cons,List.drop_zero];iterate 11 still_step
   refine wpStill_nil ?_;rw [show IntKind.i64.wrap ((tk s i).at_+1)=(tk s i).at_+1 from by rw [i64_w];unfold wrap64;omega];have hb:=below_drew (Below.refl w6b.heap.size w6b);show wpList _ _ _ _ _ w6b.drew;generalize w6b.drew=w8 at hb ⊢;have H8:=am (H6b.out.grow hb);have F8:=am (F6b.out.trans (Fr.less (Fr.below hb) F6b.out.size));clear H6b F6b BKc BKtc hb;have BKc:=zc8 H8.out.blk
   go_wp2_with (first
   |((with_reducible refine gate_store (t:=3) (p:=107) rfl ?_);refine set_ev (u:=.int .i64 ((tk s i).at_+1)) rfl rfl _ _ rfl rfl rfl rfl rfl (by kernel_rfl) (H8.out.ready (i:=i) hi1 6 (by decide)) ?_;intro w9 hwn;obtain ⟨k1,k2⟩:=H8.out.setInt (B:=w.heap.size) (i:=i) hi1 6 (by decide) ((tk s i).at_+1) {tk s1 i with at_:=(tk s i).at_+1} (fun _ _ _ _=>rfl) ⟨rfl,rfl,rfl,rfl⟩;rw [<-hwn] at k1 k2;have H9:=am k1;have F9:=am (F8.out.trans k2);clear H8 F8 BKc k1 k2 hwn))
   refine bodyPost_end (results_none rfl _ _ _) rfl ?_;have h:=H9.out;rw [hs1,set_set,tk_set hia,HSA.out,set_set,tk_set hi] at h;refine ⟨rfl,ownc, ?_,F9.out⟩;unfold load;simp only [HF.out,HBL.out,qa4,q4,<-HNUM.out];rw [<-HNUM.out] at h;exact h
end
end Go.Proofs.Ytimamoimphjakaa.Eq
