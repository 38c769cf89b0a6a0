import Derived.Test.YtimamoimphjakaaX1
import Derived.Deep.MidRow
import Derived.StillTail
import Derived.StillTailTactics
set_option maxHeartbeats 8000000
set_option maxRecDepth 100000
set_option linter.unusedVariables false
set_option linter.unusedSimpArgs false
namespace Go.Proofs.Ytimamoimphjakaa.Eq
open Go.RowKit Go.Proofs.YtimamoimphjakaaW.PrintWords Go.Proofs.YtimamoimphjakaaW.PrintLast
structure Put where
 cell:Int
 num:Int
 deriving DecidableEq
def zPut:Put:=⟨0,0⟩
def kPut:Kd Put:=Kd.iso (Kd.pair (Kd.int .i64) (Kd.int .i64)) (fun x:Put=>(x.cell,x.num))
theorem kPut_open {w:World} {x:Put} {cs:List Value} (h:kPut.K w x cs):cs= [.int .i64 x.cell,.int .i64 x.num]:=by
 obtain ⟨_,_,rfl,rfl,rfl⟩:=h;exact rfl
theorem kPut_mkM {w:World} {base:Nat} {ok:Nat->Prop} (x:Put):kPut.M w base ok x [.int .i64 x.cell,.int .i64 x.num]:=
 ⟨[.int .i64 x.cell], [.int .i64 x.num],rfl,rfl,rfl⟩
structure Cell where
 num:Int
 time:Int
 lock:Int
 deriving DecidableEq
def zCell:Cell:=⟨0,0,0⟩
def kCell:Kd Cell:=Kd.iso (Kd.pair (Kd.int .i64) (Kd.pair (Kd.int .i64) (Kd.int .i64))) (fun x:Cell=>(x.num,x.time,x.lock))
theorem kCell_open {w:World} {x:Cell} {cs:List Value} (h:kCell.K w x cs):cs= [.int .i64 x.num,.int .i64 x.time,.int .i64 x.lock]:=by
 obtain ⟨_,_,rfl,rfl,⟨_,_,rfl,rfl,rfl⟩⟩:=h;exact rfl
theorem kCell_mkM {w:World} {base:Nat} {ok:Nat->Prop} (x:Cell):kCell.M w base ok x [.int .i64 x.num,.int .i64 x.time,.int .i64 x.lock]:=
 ⟨[.int .i64 x.num], [.int .i64 x.time,.int .i64 x.lock],rfl,rfl,⟨[.int .i64 x.time], [.int .i64 x.lock],rfl,rfl,rfl⟩⟩
structure Task where
 body:Int
 pc:Int
 up:Int
 regs:List Int
 way:Int
 stage:Int
 at_:Int
 since:Int
 old:List Int
 reads:List Put
 puts:List Put
 when_:Int
 from_:Int
 deriving DecidableEq
def zTask:Task:=⟨0,0,0, [],0,0,0,0, [], [], [],0,0⟩
def kTask:Kd Task:=Kd.iso (Kd.pair (Kd.int .i64) (Kd.pair (Kd.int .i64) (Kd.pair (Kd.int .i64) (Kd.pair (Kd.slice 3 (Kd.int .i64)) (Kd.pair (Kd.int .i64) (Kd.pair (Kd.int .i64) (Kd.pair (Kd.int .i64) (Kd.pair (Kd.int .i64) (Kd.pair (Kd.slice 3 (Kd.int .i64)) (Kd.pair (Kd.slice 103 kPut) (Kd.pair (Kd.slice 103 kPut) (Kd.pair (Kd.int .i64) (Kd.int .i64))))))))))))) (fun x:Task=>(x.body,x.pc,x.up,x.regs,x.way,x.stage,x.at_,x.since,x.old,x.reads,x.puts,x.when_,x.from_))
theorem kTask_open {w:World} {x:Task} {cs:List Value} (h:kTask.K w x cs):∃ A_regs c_regs A_old c_old A_reads c_reads A_puts c_puts,cs= [.int .i64 x.body,.int .i64 x.pc,.int .i64 x.up,.slice A_regs x.regs.length c_regs,.int .i64 x.way,.int .i64 x.stage,.int .i64 x.at_,.int .i64 x.since,.slice A_old x.old.length c_old,.slice A_reads x.reads.length c_reads,.slice A_puts x.puts.length c_puts,.int .i64 x.when_,.int .i64 x.from_]/\x.regs.length<=c_regs/\(Kd.int .i64).C w A_regs x.regs.length x.regs/\x.old.length<=c_old/\(Kd.int .i64).C w A_old x.old.length x.old/\x.reads.length<=c_reads/\kPut.C w A_reads x.reads.length x.reads/\x.puts.length<=c_puts/\kPut.C w A_puts x.puts.length x.puts:=by
 obtain ⟨_,_,rfl,rfl,⟨_,_,rfl,rfl,⟨_,_,rfl,rfl,⟨_,_,rfl,⟨A_regs,c_regs,rfl,l_regs,g_regs⟩,⟨_,_,rfl,rfl,⟨_,_,rfl,rfl,⟨_,_,rfl,rfl,⟨_,_,rfl,rfl,⟨_,_,rfl,⟨A_old,c_old,rfl,l_old,g_old⟩,⟨_,_,rfl,⟨A_reads,c_reads,rfl,l_reads,g_reads⟩,⟨_,_,rfl,⟨A_puts,c_puts,rfl,l_puts,g_puts⟩,⟨_,_,rfl,rfl,rfl⟩⟩⟩⟩⟩⟩⟩⟩⟩⟩⟩⟩:=h;exact ⟨A_regs,c_regs,A_old,c_old,A_reads,c_reads,A_puts,c_puts,rfl,l_regs,g_regs,l_old,g_old,l_reads,g_reads,l_puts,g_puts⟩
theorem kTask_mkM {w:World} {base:Nat} {ok:Nat->Prop} (x:Task) {v_regs:Value} (g_regs:(Kd.int .i64).R 3 w base ok v_regs x.regs) {v_old:Value} (g_old:(Kd.int .i64).R 3 w base ok v_old x.old) {v_reads:Value} (g_reads:kPut.R 103 w base ok v_reads x.reads) {v_puts:Value} (g_puts:kPut.R 103 w base ok v_puts x.puts):kTask.M w base ok x [.int .i64 x.body,.int .i64 x.pc,.int .i64 x.up,v_regs,.int .i64 x.way,.int .i64 x.stage,.int .i64 x.at_,.int .i64 x.since,v_old,v_reads,v_puts,.int .i64 x.when_,.int .i64 x.from_]:=
 ⟨[.int .i64 x.body], [.int .i64 x.pc,.int .i64 x.up,v_regs,.int .i64 x.way,.int .i64 x.stage,.int .i64 x.at_,.int .i64 x.since,v_old,v_reads,v_puts,.int .i64 x.when_,.int .i64 x.from_],rfl,rfl,⟨[.int .i64 x.pc], [.int .i64 x.up,v_regs,.int .i64 x.way,.int .i64 x.stage,.int .i64 x.at_,.int .i64 x.since,v_old,v_reads,v_puts,.int .i64 x.when_,.int .i64 x.from_],rfl,rfl,⟨[.int .i64 x.up], [v_regs,.int .i64 x.way,.int .i64 x.stage,.int .i64 x.at_,.int .i64 x.since,v_old,v_reads,v_puts,.int .i64 x.when_,.int .i64 x.from_],rfl,rfl,⟨[v_regs], [.int .i64 x.way,.int .i64 x.stage,.int .i64 x.at_,.int .i64 x.since,v_old,v_reads,v_puts,.int .i64 x.when_,.int .i64 x.from_],rfl,⟨_,rfl,g_regs⟩,⟨[.int .i64 x.way], [.int .i64 x.stage,.int .i64 x.at_,.int .i64 x.since,v_old,v_reads,v_puts,.int .i64 x.when_,.int .i64 x.from_],rfl,rfl,⟨[.int .i64 x.stage], [.int .i64 x.at_,.int .i64 x.since,v_old,v_reads,v_puts,.int .i64 x.when_,.int .i64 x.from_],rfl,rfl,⟨[.int .i64 x.at_], [.int .i64 x.since,v_old,v_reads,v_puts,.int .i64 x.when_,.int .i64 x.from_],rfl,rfl,⟨[.int .i64 x.since], [v_old,v_reads,v_puts,.int .i64 x.when_,.int .i64 x.from_],rfl,rfl,⟨[v_old], [v_reads,v_puts,.int .i64 x.when_,.int .i64 x.from_],rfl,⟨_,rfl,g_old⟩,⟨[v_reads], [v_puts,.int .i64 x.when_,.int .i64 x.from_],rfl,⟨_,rfl,g_reads⟩,⟨[v_puts], [.int .i64 x.when_,.int .i64 x.from_],rfl,⟨_,rfl,g_puts⟩,⟨[.int .i64 x.when_], [.int .i64 x.from_],rfl,rfl,rfl⟩⟩⟩⟩⟩⟩⟩⟩⟩⟩⟩⟩
structure Entry where
 task:Int
 act:Int
 when_:Int
 reads:List Put
 puts:List Put
 from_:Int
 deriving DecidableEq
def zEntry:Entry:=⟨0,0,0, [], [],0⟩
def kEntry:Kd Entry:=Kd.iso (Kd.pair (Kd.int .i64) (Kd.pair (Kd.int .i64) (Kd.pair (Kd.int .i64) (Kd.pair (Kd.slice 103 kPut) (Kd.pair (Kd.slice 103 kPut) (Kd.int .i64)))))) (fun x:Entry=>(x.task,x.act,x.when_,x.reads,x.puts,x.from_))
theorem kEntry_open {w:World} {x:Entry} {cs:List Value} (h:kEntry.K w x cs):∃ A_reads c_reads A_puts c_puts,cs= [.int .i64 x.task,.int .i64 x.act,.int .i64 x.when_,.slice A_reads x.reads.length c_reads,.slice A_puts x.puts.length c_puts,.int .i64 x.from_]/\x.reads.length<=c_reads/\kPut.C w A_reads x.reads.length x.reads/\x.puts.length<=c_puts/\kPut.C w A_puts x.puts.length x.puts:=by
 obtain ⟨_,_,rfl,rfl,⟨_,_,rfl,rfl,⟨_,_,rfl,rfl,⟨_,_,rfl,⟨A_reads,c_reads,rfl,l_reads,g_reads⟩,⟨_,_,rfl,⟨A_puts,c_puts,rfl,l_puts,g_puts⟩,rfl⟩⟩⟩⟩⟩:=h;exact ⟨A_reads,c_reads,A_puts,c_puts,rfl,l_reads,g_reads,l_puts,g_puts⟩
theorem kEntry_mkM {w:World} {base:Nat} {ok:Nat->Prop} (x:Entry) {v_reads:Value} (g_reads:kPut.R 103 w base ok v_reads x.reads) {v_puts:Value} (g_puts:kPut.R 103 w base ok v_puts x.puts):kEntry.M w base ok x [.int .i64 x.task,.int .i64 x.act,.int .i64 x.when_,v_reads,v_puts,.int .i64 x.from_]:=
 ⟨[.int .i64 x.task], [.int .i64 x.act,.int .i64 x.when_,v_reads,v_puts,.int .i64 x.from_],rfl,rfl,⟨[.int .i64 x.act], [.int .i64 x.when_,v_reads,v_puts,.int .i64 x.from_],rfl,rfl,⟨[.int .i64 x.when_], [v_reads,v_puts,.int .i64 x.from_],rfl,rfl,⟨[v_reads], [v_puts,.int .i64 x.from_],rfl,⟨_,rfl,g_reads⟩,⟨[v_puts], [.int .i64 x.from_],rfl,⟨_,rfl,g_puts⟩,rfl⟩⟩⟩⟩⟩
structure Sys where
 cells:List Cell
 tasks:List Task
 clock:Int
 log:List Entry
 deriving DecidableEq
def kSys:Kd Sys:=Kd.iso (Kd.pair (Kd.slice 53 kCell) (Kd.pair (Kd.slice 38 kTask) (Kd.pair (Kd.int .i64) (Kd.slice 119 kEntry)))) (fun x:Sys=>(x.cells,x.tasks,x.clock,x.log))
theorem kSys_open {w:World} {x:Sys} {cs:List Value} (h:kSys.K w x cs):∃ A_cells c_cells A_tasks c_tasks A_log c_log,cs= [.slice A_cells x.cells.length c_cells,.slice A_tasks x.tasks.length c_tasks,.int .i64 x.clock,.slice A_log x.log.length c_log]/\x.cells.length<=c_cells/\kCell.C w A_cells x.cells.length x.cells/\x.tasks.length<=c_tasks/\kTask.C w A_tasks x.tasks.length x.tasks/\x.log.length<=c_log/\kEntry.C w A_log x.log.length x.log:=by
 obtain ⟨_,_,rfl,⟨A_cells,c_cells,rfl,l_cells,g_cells⟩,⟨_,_,rfl,⟨A_tasks,c_tasks,rfl,l_tasks,g_tasks⟩,⟨_,_,rfl,rfl,⟨A_log,c_log,rfl,l_log,g_log⟩⟩⟩⟩:=h;exact ⟨A_cells,c_cells,A_tasks,c_tasks,A_log,c_log,rfl,l_cells,g_cells,l_tasks,g_tasks,l_log,g_log⟩
theorem kSys_mkM {w:World} {base:Nat} {ok:Nat->Prop} (x:Sys) {v_cells:Value} (g_cells:kCell.R 53 w base ok v_cells x.cells) {v_tasks:Value} (g_tasks:kTask.R 38 w base ok v_tasks x.tasks) {v_log:Value} (g_log:kEntry.R 119 w base ok v_log x.log):kSys.M w base ok x [v_cells,v_tasks,.int .i64 x.clock,v_log]:=
 ⟨[v_cells], [v_tasks,.int .i64 x.clock,v_log],rfl,⟨_,rfl,g_cells⟩,⟨[v_tasks], [.int .i64 x.clock,v_log],rfl,⟨_,rfl,g_tasks⟩,⟨[.int .i64 x.clock], [v_log],rfl,rfl,⟨_,rfl,g_log⟩⟩⟩⟩
def kPutL:Kd Put:=Kd.iso (Kd.pair (Kd.int .i64) (Kd.int .i64)) (fun x:Put=>(x.cell,x.num))
theorem kPutL_open {w:World} {x:Put} {cs:List Value} (h:kPutL.K w x cs):cs= [.int .i64 x.cell,.int .i64 x.num]:=by
 obtain ⟨_,_,rfl,rfl,rfl⟩:=h;exact rfl
def kCellL:Kd Cell:=Kd.iso (Kd.pair (Kd.int .i64) (Kd.pair (Kd.int .i64) (Kd.int .i64))) (fun x:Cell=>(x.num,x.time,x.lock))
theorem kCellL_open {w:World} {x:Cell} {cs:List Value} (h:kCellL.K w x cs):cs= [.int .i64 x.num,.int .i64 x.time,.int .i64 x.lock]:=by
 obtain ⟨_,_,rfl,rfl,⟨_,_,rfl,rfl,rfl⟩⟩:=h;exact rfl
def kTaskL:Kd Task:=Kd.iso (Kd.pair (Kd.int .i64) (Kd.pair (Kd.int .i64) (Kd.pair (Kd.int .i64) (Kd.pair (Kd.slice 3 (Kd.int .i64)) (Kd.pair (Kd.int .i64) (Kd.pair (Kd.int .i64) (Kd.pair (Kd.int .i64) (Kd.pair (Kd.int .i64) (Kd.pair (Kd.slice 3 (Kd.int .i64)) (Kd.pair (Kd.slice 188 kPutL) (Kd.pair (Kd.slice 188 kPutL) (Kd.pair (Kd.int .i64) (Kd.int .i64))))))))))))) (fun x:Task=>(x.body,x.pc,x.up,x.regs,x.way,x.stage,x.at_,x.since,x.old,x.reads,x.puts,x.when_,x.from_))
theorem kTaskL_open {w:World} {x:Task} {cs:List Value} (h:kTaskL.K w x cs):∃ A_regs c_regs A_old c_old A_reads c_reads A_puts c_puts,cs= [.int .i64 x.body,.int .i64 x.pc,.int .i64 x.up,.slice A_regs x.regs.length c_regs,.int .i64 x.way,.int .i64 x.stage,.int .i64 x.at_,.int .i64 x.since,.slice A_old x.old.length c_old,.slice A_reads x.reads.length c_reads,.slice A_puts x.puts.length c_puts,.int .i64 x.when_,.int .i64 x.from_]/\x.regs.length<=c_regs/\(Kd.int .i64).C w A_regs x.regs.length x.regs/\x.old.length<=c_old/\(Kd.int .i64).C w A_old x.old.length x.old/\x.reads.length<=c_reads/\kPutL.C w A_reads x.reads.length x.reads/\x.puts.length<=c_puts/\kPutL.C w A_puts x.puts.length x.puts:=by
 obtain ⟨_,_,rfl,rfl,⟨_,_,rfl,rfl,⟨_,_,rfl,rfl,⟨_,_,rfl,⟨A_regs,c_regs,rfl,l_regs,g_regs⟩,⟨_,_,rfl,rfl,⟨_,_,rfl,rfl,⟨_,_,rfl,rfl,⟨_,_,rfl,rfl,⟨_,_,rfl,⟨A_old,c_old,rfl,l_old,g_old⟩,⟨_,_,rfl,⟨A_reads,c_reads,rfl,l_reads,g_reads⟩,⟨_,_,rfl,⟨A_puts,c_puts,rfl,l_puts,g_puts⟩,⟨_,_,rfl,rfl,rfl⟩⟩⟩⟩⟩⟩⟩⟩⟩⟩⟩⟩:=h;exact ⟨A_regs,c_regs,A_old,c_old,A_reads,c_reads,A_puts,c_puts,rfl,l_regs,g_regs,l_old,g_old,l_reads,g_reads,l_puts,g_puts⟩
def kEntryL:Kd Entry:=Kd.iso (Kd.pair (Kd.int .i64) (Kd.pair (Kd.int .i64) (Kd.pair (Kd.int .i64) (Kd.pair (Kd.slice 188 kPutL) (Kd.pair (Kd.slice 188 kPutL) (Kd.int .i64)))))) (fun x:Entry=>(x.task,x.act,x.when_,x.reads,x.puts,x.from_))
theorem kEntryL_open {w:World} {x:Entry} {cs:List Value} (h:kEntryL.K w x cs):∃ A_reads c_reads A_puts c_puts,cs= [.int .i64 x.task,.int .i64 x.act,.int .i64 x.when_,.slice A_reads x.reads.length c_reads,.slice A_puts x.puts.length c_puts,.int .i64 x.from_]/\x.reads.length<=c_reads/\kPutL.C w A_reads x.reads.length x.reads/\x.puts.length<=c_puts/\kPutL.C w A_puts x.puts.length x.puts:=by
 obtain ⟨_,_,rfl,rfl,⟨_,_,rfl,rfl,⟨_,_,rfl,rfl,⟨_,_,rfl,⟨A_reads,c_reads,rfl,l_reads,g_reads⟩,⟨_,_,rfl,⟨A_puts,c_puts,rfl,l_puts,g_puts⟩,rfl⟩⟩⟩⟩⟩:=h;exact ⟨A_reads,c_reads,A_puts,c_puts,rfl,l_reads,g_reads,l_puts,g_puts⟩
def kSysL:Kd Sys:=Kd.iso (Kd.pair (Kd.slice 139 kCellL) (Kd.pair (Kd.slice 133 kTaskL) (Kd.pair (Kd.int .i64) (Kd.slice 136 kEntryL)))) (fun x:Sys=>(x.cells,x.tasks,x.clock,x.log))
theorem kSysL_open {w:World} {x:Sys} {cs:List Value} (h:kSysL.K w x cs):∃ A_cells c_cells A_tasks c_tasks A_log c_log,cs= [.slice A_cells x.cells.length c_cells,.slice A_tasks x.tasks.length c_tasks,.int .i64 x.clock,.slice A_log x.log.length c_log]/\x.cells.length<=c_cells/\kCellL.C w A_cells x.cells.length x.cells/\x.tasks.length<=c_tasks/\kTaskL.C w A_tasks x.tasks.length x.tasks/\x.log.length<=c_log/\kEntryL.C w A_log x.log.length x.log:=by
 obtain ⟨_,_,rfl,⟨A_cells,c_cells,rfl,l_cells,g_cells⟩,⟨_,_,rfl,⟨A_tasks,c_tasks,rfl,l_tasks,g_tasks⟩,⟨_,_,rfl,rfl,⟨A_log,c_log,rfl,l_log,g_log⟩⟩⟩⟩:=h;exact ⟨A_cells,c_cells,A_tasks,c_tasks,A_log,c_log,rfl,l_cells,g_cells,l_tasks,g_tasks,l_log,g_log⟩
end Go.Proofs.Ytimamoimphjakaa.Eq
namespace Go.Proofs.Ytimamoimphjakaa.Eq
open Go.RowKit Go.Proofs.YtimamoimphjakaaW.PrintWords Go.Proofs.YtimamoimphjakaaW.PrintLast Go.Proofs.YtimamoimphjakaaW.PrintMore
theorem bcell {W w1:World} (hb:Below W.heap.size W w1):(∀ b o,b < W.heap.size->w1.cell? ⟨b,o,none⟩=W.cell? ⟨b,o,none⟩)/\(∀ b o,b < W.heap.size->w1.frozen? ⟨b,o,none⟩=W.frozen? ⟨b,o,none⟩):=
 ⟨fun b o h=>hb.cell (p:=⟨b,o,none⟩) h,fun b o h=>hb.frozen (p:=⟨b,o,none⟩) h⟩
theorem bsize {W w1:World} (hb:Below W.heap.size W w1):W.heap.size<=w1.heap.size:=hb.size
theorem ret_bool {a b:Bool} (h:a=b):Ending.returned (.bool a)= .returned (.bool b):=by rw [h]
theorem add_add_ (ad:Addr) (m j:Nat):(ad.add m).add j=ad.add (m+j):=by
 unfold Addr.add;split <;> split <;> simp_all [Nat.add_assoc]
theorem spot_of {W:World} {ad:Addr} {v:Value} (h:W.cell? ad=some v):ad.spot=none:=by
 unfold World.cell? at h;split at h
 ·split at h
  ·cases h
  ·rename_i hs;simpa using hs
 ·cases h
theorem add_spot (ad:Addr) (m:Nat) (h:(ad.add m).spot=none):∀ j,(ad.add (m+j))=⟨(ad.add m).block,(ad.add m).off+j,none⟩:=by
 intro j;rw [<-add_add_];generalize ad.add m=x at h ⊢;obtain ⟨b,o,s⟩:=x
 cases s with
 | none=>exact add_at b o j
 | some s=>cases h
section
variable {P:Program} {ops:Array Oper} {rest:List Oper} {o:Oper} {a:Act} {Q:Exit->Act->World->Prop}
theorem load_struct {W:World} (hgd:o.guard=none) (ty:TypeId) (x:Operand) (ho:o.op= .load ty x) (ad:Addr) (m:Nat) (hx:a.eval x= .pointer (some (ad.add m))) (cs:List Value) (d:TypeDesc)
  (hc:∀ j u,cs[j]? = some u->W.cell? (ad.add (m+j))=some u) (hl:0 < cs.length) (hu:P.underlying ty=some d) (hd:d.isRow=true) (hi:(P.info? ty).map (·.size)=some cs.length)
  (h:wpList P ops Q rest (a.put o.dst (.agg cs.toArray)) W):wpList P ops Q (o :: rest) a W:=by
 have h0:=hc 0 _ (List.getElem?_eq_getElem hl);have hs:(ad.add m).spot=none:=spot_of h0;refine wpList_load_mid hgd ty x ho (ad.add m).block (ad.add m).off ?_ cs d (fun j u hj=> ?_) hu hd hi h
 ·rw [hx]
  generalize ad.add m=y at hs ⊢;obtain ⟨b,o,s⟩:=y;cases hs;rfl
 ·rw [<-add_spot ad m hs j]
  exact hc j u hj
end
section
variable {α:Type} {d:Kd α} {e base n:Nat} {ok:Nat->Prop} {w W w1:World} {v:Value} {xs:List α}
theorem R_up (h:d.R e w1 W.heap.size ok v xs) (hn:n < W.heap.size) (hb:base<=W.heap.size):d.R e w1 base (fun k=>n < k) v xs:=
 Kd.R_lower (Kd.R_mono (Kd.R_bound h) (fun k hk=>Nat.lt_of_lt_of_le hn hk.2.1)) hb
theorem R_farN {g j:Nat} {u:Value} (h:d.R e w base (fun k=>n < k) v xs) (hg:g<=n):d.R e (w.setCell ⟨g,j,none⟩ u) base (fun k=>n < k) v xs:=
 Kd.R_far h (fun k hk=>Nat.ne_of_gt (Nat.lt_of_le_of_lt hg hk)) u
theorem R_any (h:d.R e w base ok v xs):d.R e w base (fun _=>True) v xs:=Kd.R_mono h (fun _ _=>trivial)
end
section
variable {P:Program} {ops:Array Oper} {rest:List Oper} {o:Oper} {a:Act} {Q:Act->Prop}
theorem still_load_struct {W:World} (hgd:o.guard=none) (ty:TypeId) (x:Operand) (ho:o.op= .load ty x) (ad:Addr) (m:Nat) (hx:a.eval x= .pointer (some (ad.add m))) (cs:List Value) (d:TypeDesc)
  (hc:∀ j u,cs[j]? = some u->W.cell? (ad.add (m+j))=some u) (hl:0 < cs.length) (hu:P.underlying ty=some d) (hd:d.isRow=true) (hi:(P.info? ty).map (·.size)=some cs.length)
  (h:wpStill P ops W Q rest (a.put o.dst (.agg cs.toArray))):wpStill P ops W Q (o :: rest) a:=by
 have h0:=hc 0 _ (List.getElem?_eq_getElem hl);have hs:(ad.add m).spot=none:=spot_of h0;refine wpStill_step (fun K hK=> ?_);rw [if_pos (by simp [Region.wanted,hgd])]
 have hx':a.eval x= .pointer (some ⟨(ad.add m).block,(ad.add m).off,none⟩):=by
  rw [hx];generalize ad.add m=y at hs ⊢;obtain ⟨b,o,s⟩:=y;cases hs;rfl
 have hr:W.rangeAt (ad.add m).block (ad.add m).off cs:=fun j u hj=>by
  rw [<-add_spot ad m hs j];exact hc j u hj
 unfold Oper.still execOp;simp only [ho,hx',Sem.run_bind,run_loadAt_mid W _ _ ty cs d hr hu hd hi,Result.andThen_ok,Sem.run_pure,Oper.stillUpon_value];exact hK _ h
end
theorem C_field {α:Type} {d:Kd α} {w:World} {A:Option Addr} {n:Nat} {xs:List α} (h:d.C w A n xs) (z:α) (k:Nat) (hk:k < n) (hs:0 < d.sz):
  ∃ b o cs,A=some ⟨b,o,none⟩/\cs.length=d.sz/\d.K w (xs.getD k z) cs/\(∀ j u,cs[j]? = some u->w.cell? ⟨b,o+k*d.sz+j,none⟩=some u)/\(∀ u,cs[0]? = some u->w.cell? ⟨b,o+k*d.sz,none⟩=some u):=by
 obtain ⟨ad,cs,rfl,hl,hK,hc⟩:=Kd.C_get h z (k:Int) (by omega) (by omega);obtain ⟨ad',cs',he,hl',_,hc'⟩:=Kd.C_get h z (0:Int) (by omega) (by omega);cases he;simp only [Int.toNat_natCast] at hK hc
 have hsp:ad.spot=none:=by
  have h0:=spot_of (hc' 0 _ (List.getElem?_eq_getElem (by omega)));unfold Addr.add at h0;simpa using h0
 obtain ⟨b,o,s⟩:=ad;cases hsp
 have key:∀ j u,cs[j]? = some u->w.cell? ⟨b,o+k*d.sz+j,none⟩=some u:=fun j u hj=>by
  have:=hc j u hj
  rwa [add_at,<-Nat.add_assoc] at this
 exact ⟨b,o,cs,rfl,hl,hK,key,fun u hu=>key 0 u hu⟩
section
variable {P:Program} {ops:Array Oper} {rest:List Oper} {o:Oper} {a:Act} {Q:Exit->Act->World->Prop}
theorem store_block {W:World} (hgd:o.guard=none) (hN:o.dst=none) (t:TypeId) (p x:Operand) (ho:o.op= .store t p x) {g:Nat} {c0:Array Value} {e:TypeId} {cs:List Value}
  (hp:a.eval p= .pointer (some ⟨g,0,none⟩)) (hx:a.eval x= .agg cs.toArray) (hb:W.heap[g]? = some (.cells c0 e (0,0))) (hl:cs.length=c0.size) (hi:(P.info? t).map (·.size)=some cs.length) (h1:∀ v ∈ cs,v.oneCell'=true)
  (h:∀ w1,w1.heap[g]? = some (.cells cs.toArray e (0,0))->W.grownBy w1 (some g)->wpList P ops Q rest a w1):wpList P ops Q (o :: rest) a W:=by
 refine wpList_store_mid hgd t p x ho g 0 cs.toArray hp hx (fun j hj=> ?_) (by simpa using hi) (all_oneCell_toArray h1) ?_
 ·rw [Nat.zero_add,blk_cell hb j,blk_frozen hb j]
  simp at hj;simp [Array.getElem?_eq_getElem (show j < c0.size by omega)]
 ·obtain ⟨cur,hc,hsz,hcur⟩:=setCells_row cs 0 W c0 hb (by omega)
  obtain ⟨s1,s2,s3,s4⟩:=setCells_same g cs 0 W
  have e1:cur=cs.toArray:=by
   apply Array.toList_inj.1;rw [hcur,List.take_zero,List.nil_append,List.drop_eq_nil_of_le (by simp;omega),List.append_nil]
  subst e1;simp only [hN,Act.put];exact h _ hc ⟨s1,s2,s3,by rw [s4];exact Nat.le_refl _,fun i hi hne=>setCells_far cs 0 i (fun he=>hne (by rw [he]))⟩
theorem load_block {W:World} (hgd:o.guard=none) (t:TypeId) (x:Operand) (ho:o.op= .load t x) {g:Nat} {e:TypeId} {cs:List Value} (d:TypeDesc)
  (hx:a.eval x= .pointer (some ⟨g,0,none⟩)) (hb:W.heap[g]? = some (.cells cs.toArray e (0,0))) (hu:P.underlying t=some d) (hd:d.isRow=true) (hi:(P.info? t).map (·.size)=some cs.length)
  (h:wpList P ops Q rest (a.put o.dst (.agg cs.toArray)) W):wpList P ops Q (o :: rest) a W:=
 wpList_load_mid hgd t x ho g 0 hx cs d (fun j u hj=>by rw [Nat.zero_add,blk_cell hb j];simpa using hj) hu hd hi h
end
end Go.Proofs.Ytimamoimphjakaa.Eq
namespace Go.Proofs.YtimamoimphjakaaW.PrintWords
open Go.RowKit
theorem lC {W:World} {g T:Nat} {cs:List Value} (h:W.heap[g]? = some (.cells cs.toArray T (0,0))):W.rangeAt g 0 cs:=fun j u hu=>by rw [Nat.zero_add];exact (blk_cell h j).trans (List.getElem?_toArray.trans hu)
theorem zc8 {w:World} {g:Nat} {t:TypeId} {cs:Array Value} (h:w.heap[g]? = some (.cells cs t (0,0))) (i:Nat):w.cell? ⟨g,i,none⟩=cs[i]? := blk_cell h i
theorem zb8 {w w':World} {g:Nat} {o:Obj} (h:w.heap[g]? = some o) (hb:Below w.heap.size w w'):w'.heap[g]? = some o:=blk_below h hb
end Go.Proofs.YtimamoimphjakaaW.PrintWords
namespace Go.Proofs.Ytimamoimphjakaa.Eq
open Go.RowKit Go.Proofs.YtimamoimphjakaaW.PrintWords Go.Proofs.YtimamoimphjakaaW.PrintLast Go.Proofs.YtimamoimphjakaaW.PrintMore
def Sz (left:Int) (n:Nat) (r:Int):Prop:=((n:Int)<=left/\r=left - n)\/(left < n/\r= -1)
def szT (x:Task):Nat:=x.regs.length+x.old.length+x.reads.length+x.puts.length
def szE (x:Entry):Nat:=x.reads.length+x.puts.length
def sumOf {α:Type} (f:α->Nat) (l:List α):Nat:=(l.map f).sum
theorem sumOf_take {α:Type} (f:α->Nat) (l:List α) (k:Nat) (z:α) (h:k < l.length):sumOf f (l.take (k+1))=sumOf f (l.take k)+f (l.getD k z):=by
 unfold sumOf;rw [List.take_succ_eq_append_getElem h,List.map_append,List.sum_append];simp [List.getD_eq_getElem?_getD,List.getElem?_eq_getElem h]
theorem sumOf_le {α:Type} (f:α->Nat) (l:List α) (k:Nat):sumOf f (l.take k)<=sumOf f l:=by
 unfold sumOf
 conv=>(rhs;rw [<-List.take_append_drop k l])
 rw [List.map_append,List.sum_append];omega
theorem szIntS_calls (n c:Nat) (A:Option Addr) (left:Int) (w:World) (h0:0<=left) (h1:left<=1048576) (hn:n<=9223372036854775807):
  Calls Try.prog 69 #[.slice A n c,.int .i64 left] w fun e w'=>∃ r,e= .returned (.int .i64 r)/\Sz left n r/\w=w':=by
 go_enter Try.func69,Try.ntmps69;go_wp2
 all_goals (go_ret;exact ⟨_,rfl,by unfold Sz;omega,rfl⟩)
theorem szPutS_calls (n c:Nat) (A:Option Addr) (left:Int) (w:World) (h0:0<=left) (h1:left<=1048576) (hn:n<=9223372036854775807):
  Calls Try.prog 130 #[.slice A n c,.int .i64 left] w fun e w'=>∃ r,e= .returned (.int .i64 r)/\Sz left n r/\w=w':=by
 go_enter Try.func130,Try.ntmps130;go_wp2
 all_goals (go_ret;exact ⟨_,rfl,by unfold Sz;omega,rfl⟩)
theorem szCellS_calls (n c:Nat) (A:Option Addr) (left:Int) (w:World) (h0:0<=left) (h1:left<=1048576) (hn:n<=9223372036854775807):
  Calls Try.prog 71 #[.slice A n c,.int .i64 left] w fun e w'=>∃ r,e= .returned (.int .i64 r)/\Sz left n r/\w=w':=by
 go_enter Try.func71,Try.ntmps71;go_wp2
 all_goals (go_ret;exact ⟨_,rfl,by unfold Sz;omega,rfl⟩)
theorem szTask_calls (x:Task) (cs:List Value) (left:Int) (w:World) (hx:kTaskL.K w x cs) (h0:0<=left) (h1:left<=1048576):
  Calls Try.prog 107 #[.agg cs.toArray,.int .i64 left] w fun e w'=>∃ r,e= .returned (.int .i64 r)/\Sz left (szT x) r/\Below w.heap.size w w':=by
 obtain ⟨A3,c3,A8,c8,A9,c9,A10,c10,rfl,l3,g3,l8,g8,l9,g9,l10,g10⟩:=kTaskL_open hx;have m3:=Kd.C_max g3;have m8:=Kd.C_max g8;have m9:=Kd.C_max g9;have m10:=Kd.C_max g10;clear g3 g8 g9 g10 l3 l8 l9 l10 hx;go_enter Try.func107,Try.ntmps107
 go_wp2_with (first
 |(go_at_call 69;refine (szIntS_calls _ _ _ _ _ (by first|omega|(unfold Sz at *;omega)) (by first|omega|(unfold Sz at *;omega)) (by assumption)).mono ?_;rintro e w1 ⟨r,rfl,hs,rfl⟩)
 |(go_at_call 130;refine (szPutS_calls _ _ _ _ _ (by first|omega|(unfold Sz at *;omega)) (by first|omega|(unfold Sz at *;omega)) (by assumption)).mono ?_;rintro e w1 ⟨r,rfl,hs,rfl⟩))
 all_goals (go_ret;exact ⟨_,rfl,by unfold Sz szT at *;omega,by repeat (first|exact Below.refl _ _ | apply below_alloc)⟩)
theorem szEntry_calls (x:Entry) (cs:List Value) (left:Int) (w:World) (hx:kEntryL.K w x cs) (h0:0<=left) (h1:left<=1048576):
  Calls Try.prog 108 #[.agg cs.toArray,.int .i64 left] w fun e w'=>∃ r,e= .returned (.int .i64 r)/\Sz left (szE x) r/\Below w.heap.size w w':=by
 obtain ⟨A3,c3,A8,c8,rfl,l3,g3,l8,g8⟩:=kEntryL_open hx;have m3:=Kd.C_max g3;have m8:=Kd.C_max g8;clear g3 g8 l3 l8 hx;go_enter Try.func108,Try.ntmps108
 go_wp2_with (first
 |(go_at_call 130;refine (szPutS_calls _ _ _ _ _ (by first|omega|(unfold Sz at *;omega)) (by first|omega|(unfold Sz at *;omega)) (by assumption)).mono ?_;rintro e w1 ⟨r,rfl,hs,rfl⟩))
 all_goals (go_ret;exact ⟨_,rfl,by unfold Sz szE at *;omega,by repeat (first|exact Below.refl _ _ | apply below_alloc)⟩)
theorem szTaskS_calls (xs:List Task) (A:Option Addr) (c:Nat) (left:Int) (w:World) (hx:kTaskL.C w A xs.length xs) (h0:0<=left) (h1:left<=1048576):
  Calls Try.prog 72 #[.slice A xs.length c,.int .i64 left] w fun e w'=>∃ r,e= .returned (.int .i64 r)/\Sz left (xs.length+sumOf szT xs) r/\Below w.heap.size w w':=by
 have hm:=Kd.C_max hx;have HX:=am hx;clear hx;go_enter Try.func72,Try.ntmps72;by_cases h:left < xs.length
 ·have hb:decide (left - (xs.length:Int) < 0)=true:=decide_eq_true (by omega)
  go_wp2;go_ret;exact ⟨_,rfl,by unfold Sz;omega,Below.refl _ _⟩
 ·have hb:decide (left - (xs.length:Int) < 0)=false:=decide_eq_false (by omega)
  go_wp2;go_loopw [1,5] (fun l v w'=>∃ (k:Nat) (r:Int),k<=xs.length/\v= .int .i64 k/\l= .int .i64 r/\0<=r/\r<=1048576/\Aside0 (r=left - xs.length - sumOf szT (xs.take k))/\Aside0 (Below w.heap.size w w')) (fun _ v _=>xs.length - (intOf v).toNat)
  case atStart=>exact ⟨0,_,Nat.zero_le _,rfl,rfl,by omega,by omega,⟨by simp [sumOf]⟩,⟨Below.refl _ _⟩⟩
  case round=>
   obtain ⟨k,r,hk,rfl,rfl,hr0,hr1,HR,HB⟩:=hrel;by_cases hlt:k < xs.length
   ·obtain ⟨ad,cs,rfl,hcl,hK,hcc⟩:=Kd.C_get (Kd.C_below HX.out HB.out) zTask (k:Int) (by omega) (by omega)
    have q0:(0:Int)<=(k:Int):=by omega
    have q1:(k:Int) < (xs.length:Int):=by omega
    simp only [Int.toNat_natCast] at hK hcc;have HK:=am hK;have HCC:=am hcc;clear hK hcc;have HT:=am (sumOf_take szT xs k zTask hlt)
    go_wp2_with (first
    |((with_reducible refine gate_dst (N:=21) rfl ?_);refine load_struct rfl 133 (.tmp 20) rfl ad (k*13) rfl cs _ HCC.out (by rw [hcl];decide) Try.underlying133 rfl (by rw [hcl];kernel_rfl) ?_)
    |(go_at_call 107;refine (szTask_calls _ _ _ _ HK.out (by omega) (by omega)).mono ?_;rintro e w1 ⟨r1,rfl,hs,hb⟩;have HB1:=am (below_step HB.out hb);clear HB hb))
    ·go_ret
     have hle:=sumOf_le szT xs (k+1);exact ⟨_,rfl,by have:=HR.out;have:=HT.out;unfold Sz at *;omega,HB1.out⟩
    ·go_roundw
     case rel=>exact ⟨k+1,r1,by omega,by go_num,rfl,by omega,by unfold Sz at *;omega,⟨by have:=HR.out;have:=HT.out;unfold Sz at *;omega⟩,HB1⟩
     case measure=>simp [intOf];omega
   ·go_wp2
    go_ret;obtain rfl:k=xs.length:=by omega
    exact ⟨_,rfl,by have:=HR.out;rw [List.take_length] at this;unfold Sz;omega,HB.out⟩
theorem szEntryS_calls (xs:List Entry) (A:Option Addr) (c:Nat) (left:Int) (w:World) (hx:kEntryL.C w A xs.length xs) (h0:0<=left) (h1:left<=1048576):
  Calls Try.prog 73 #[.slice A xs.length c,.int .i64 left] w fun e w'=>∃ r,e= .returned (.int .i64 r)/\Sz left (xs.length+sumOf szE xs) r/\Below w.heap.size w w':=by
 have hm:=Kd.C_max hx;have HX:=am hx;clear hx;go_enter Try.func73,Try.ntmps73;by_cases h:left < xs.length
 ·have hb:decide (left - (xs.length:Int) < 0)=true:=decide_eq_true (by omega)
  go_wp2;go_ret;exact ⟨_,rfl,by unfold Sz;omega,Below.refl _ _⟩
 ·have hb:decide (left - (xs.length:Int) < 0)=false:=decide_eq_false (by omega)
  go_wp2;go_loopw [1,5] (fun l v w'=>∃ (k:Nat) (r:Int),k<=xs.length/\v= .int .i64 k/\l= .int .i64 r/\0<=r/\r<=1048576/\Aside0 (r=left - xs.length - sumOf szE (xs.take k))/\Aside0 (Below w.heap.size w w')) (fun _ v _=>xs.length - (intOf v).toNat)
  case atStart=>exact ⟨0,_,Nat.zero_le _,rfl,rfl,by omega,by omega,⟨by simp [sumOf]⟩,⟨Below.refl _ _⟩⟩
  case round=>
   obtain ⟨k,r,hk,rfl,rfl,hr0,hr1,HR,HB⟩:=hrel;by_cases hlt:k < xs.length
   ·obtain ⟨ad,cs,rfl,hcl,hK,hcc⟩:=Kd.C_get (Kd.C_below HX.out HB.out) zEntry (k:Int) (by omega) (by omega)
    have q0:(0:Int)<=(k:Int):=by omega
    have q1:(k:Int) < (xs.length:Int):=by omega
    simp only [Int.toNat_natCast] at hK hcc;have HK:=am hK;have HCC:=am hcc;clear hK hcc;have HT:=am (sumOf_take szE xs k zEntry hlt)
    go_wp2_with (first
    |((with_reducible refine gate_dst (N:=21) rfl ?_);refine load_struct rfl 136 (.tmp 20) rfl ad (k*6) rfl cs _ HCC.out (by rw [hcl];decide) Try.underlying136 rfl (by rw [hcl];kernel_rfl) ?_)
    |(go_at_call 108;refine (szEntry_calls _ _ _ _ HK.out (by omega) (by omega)).mono ?_;rintro e w1 ⟨r1,rfl,hs,hb⟩;have HB1:=am (below_step HB.out hb);clear HB hb))
    ·go_ret
     have hle:=sumOf_le szE xs (k+1);exact ⟨_,rfl,by have:=HR.out;have:=HT.out;unfold Sz at *;omega,HB1.out⟩
    ·go_roundw
     case rel=>exact ⟨k+1,r1,by omega,by go_num,rfl,by omega,by unfold Sz at *;omega,⟨by have:=HR.out;have:=HT.out;unfold Sz at *;omega⟩,HB1⟩
     case measure=>simp [intOf];omega
   ·go_wp2
    go_ret;obtain rfl:k=xs.length:=by omega
    exact ⟨_,rfl,by have:=HR.out;rw [List.take_length] at this;unfold Sz;omega,HB.out⟩
def szS (s:Sys):Nat:=s.cells.length+(s.tasks.length+sumOf szT s.tasks)+(s.log.length+sumOf szE s.log)
theorem szSys_calls (x:Sys) (cs:List Value) (left:Int) (w:World) (hx:kSysL.K w x cs) (h0:0<=left) (h1:left<=1048576):
  Calls Try.prog 40 #[.agg cs.toArray,.int .i64 left] w fun e w'=>∃ r,e= .returned (.int .i64 r)/\Sz left (szS x) r/\Below w.heap.size w w':=by
 obtain ⟨A0,c0,A1,c1,A3,c3,rfl,l0,g0,l1,g1,l3,g3⟩:=kSysL_open hx;have m0:=Kd.C_max g0;have HB:=am (Below.refl w.heap.size w);have G:=am (And.intro g1 g3);clear g0 g1 g3 l0 l1 l3 hx;go_enter Try.func40,Try.ntmps40
 go_wp2_with (first
 |(go_at_call 71;refine (szCellS_calls _ _ _ _ _ (by omega) (by omega) (by assumption)).mono ?_;rintro e w1 ⟨r,rfl,hs,rfl⟩)
 |(go_at_call 72;refine (szTaskS_calls _ _ _ _ _ ?h1 (by omega) (by unfold Sz at *;omega)).mono ?_;(case h1=>exact Kd.C_below G.out.1 (by repeat (first|with_reducible exact HB.out | apply below_alloc)));rintro e w1 ⟨r,rfl,hs1,hb⟩;replace HB:=am (below_step (by repeat (first|with_reducible exact HB.out | apply below_alloc)) hb);have hz:=bsize hb;(try simp at hz);have q0:w.heap.size < w1.heap.size:=(by omega);clear hz;obtain ⟨hc,hf⟩:=bcell hb;clear hb)
 |(go_at_call 73;refine (szEntryS_calls _ _ _ _ _ ?h1 (by omega) (by unfold Sz at *;omega)).mono ?_;(case h1=>exact Kd.C_below G.out.2 (by repeat (first|with_reducible exact HB.out | apply below_alloc)));rintro e w1 ⟨r,rfl,hs2,hb⟩;replace HB:=am (below_step (by repeat (first|with_reducible exact HB.out | apply below_alloc)) hb);clear hb))
 all_goals (go_ret;exact ⟨_,rfl,by unfold Sz szS at *;omega,by repeat (first|with_reducible exact HB.out | apply below_alloc)⟩)
theorem info_intT:(Try.prog.info? 3).map (fun i=>(i.zero,i.size,i.bytes))=some (some (.int .i64 0),1,8):=by kernel_rfl
def upTo {α:Type} (xs:List α) (z:α) (k:Nat):List α:=xs.take k ++ List.replicate (xs.length - k) z
theorem upTo_zero {α:Type} (xs:List α) (z:α):upTo xs z 0=List.replicate xs.length z:=by simp [upTo]
theorem upTo_all {α:Type} (xs:List α) (z:α):upTo xs z xs.length=xs:=by simp [upTo]
theorem upTo_length {α:Type} (xs:List α) (z:α) {k:Nat} (h:k<=xs.length):(upTo xs z k).length=xs.length:=by simp [upTo];omega
theorem upTo_set {α:Type} (xs:List α) (z:α) {k:Nat} (h:k < xs.length):(upTo xs z k).set k (xs.getD k z)=upTo xs z (k+1):=by
 unfold upTo;obtain ⟨m,hm⟩:∃ m,xs.length - k=m+1:=⟨xs.length - k - 1,by omega⟩;rw [List.set_append_right _ _ (by rw [List.length_take];omega),hm,show xs.length - (k+1)=m by omega,List.replicate_succ,List.length_take,Nat.min_eq_left (by omega),Nat.sub_self,List.take_succ_eq_append_getElem h];simp only [List.set_cons_zero,List.append_assoc,List.singleton_append,List.getD_eq_getElem?_getD,List.getElem?_eq_getElem h,Option.getD_some]
theorem toIntS_calls (xs:List Int) (A:Option Addr) (c:Nat) (w:World) (hx:(Kd.int .i64).C w A xs.length xs) (hn:xs.length<=1048576):
  Calls Try.prog 74 #[.slice A xs.length c] w fun e w'=>∃ v,e= .returned v/\(Kd.int .i64).R 3 w' w.heap.size (fun _=>True) v xs/\Below w.heap.size w w':=by
 have HX:=am hx;clear hx;go_enter Try.func74,Try.ntmps74;go_wp2_with ((with_reducible refine gate_dst (N:=7) rfl ?_);refine Kd.R_make (w0:=w) (Kd.int .i64) w.heap.size 3 rfl (N:=7) rfl 29 _ _ rfl (xs.length:Int) rfl rfl Try.underlying29 (.int .i64 0) 8 info_intT rfl (by decide) (by omega) 0 (ok:=fun _=>True) (okp:=fun _=>True) rfl (fun _ hk=>hk) trivial (by omega) (by omega) (Below.refl _ _) (Nat.le_refl _) ?_;intro v w1 ho hb _ _;have HO:=am ho;have HB:=am hb;clear ho hb)
 go_loopw [4] (fun i w'=>∃ k:Nat,k<=xs.length/\i= .int .i64 k/\Aside0 ((Kd.int .i64).R 3 w' w.heap.size (fun _=>True) v (upTo xs 0 k))/\Aside0 (Below w.heap.size w w')) (fun i _=>xs.length - (intOf i).toNat)
 case atStart=>exact ⟨0,Nat.zero_le _,rfl,⟨by rw [upTo_zero];simpa using HO.out⟩,HB⟩
 case round=>
  clear HO HB;obtain ⟨k,hk,rfl,HO,HB⟩:=hrel;by_cases hlt:k < xs.length
  ·have hl:=upTo_length xs 0 hk
   have HS:=am (upTo_set xs 0 hlt);have q0:(0:Int)<=(k:Int):=by omega
   have q1:(k:Int) < (xs.length:Int):=by omega
   obtain ⟨ad,rfl,gx⟩:=Kd.at_int (Kd.C_below HX.out HB.out) (k:Int) q0 q1;obtain ⟨g,cap,rfl,hg1,hg2,hg3⟩:=Kd.R_form HO.out (by omega);obtain ⟨hc,hf⟩:=Kd.R_celln 0 HO.out (k:Int) q0 (by rw [hl];exact q1);obtain ⟨hp,hgr⟩:=Kd.R_putg HO.out (k:Int) (rd xs k);have HB2:=am (below_set (j:=(k:Int).toNat) (v:=.int .i64 (rd xs k)) HB.out hg1);simp only [Int.toNat_natCast] at gx hc hf hp HB2;have HP:=am hp;clear hp hgr hg3 HB;rw [hl] at*;go_wp2;go_roundw
   case rel=>exact ⟨k+1,by omega,by go_num,⟨by have h:=HP.out;rw [show rd xs (k:Int)=xs.getD k 0 from rfl,HS.out] at h;exact h⟩,HB2⟩
   case measure=>simp [intOf];omega
  ·go_wp2
   go_ret;obtain rfl:k=xs.length:=by omega
   exact ⟨_,rfl,by rw [upTo_all] at HO;exact HO.out,HB.out⟩
theorem toPut_calls (x:Put) (cs:List Value) (w:World) (hx:kPutL.K w x cs):
  Calls Try.prog 147 #[.agg cs.toArray] w fun e w'=>∃ ds,e= .returned (.agg ds.toArray)/\kPut.M w' w.heap.size (fun _=>True) x ds/\Below w.heap.size w w':=by
 obtain rfl:=kPutL_open hx;go_enter Try.func147,Try.ntmps147;go_wp2;refine bodyPost_ret (v:=.agg #[.int .i64 x.cell,.int .i64 x.num]) (by simp [results,Try.results147,go_sem]) rfl ⟨_,rfl,kPut_mkM x, ?_⟩;repeat (first|exact Below.refl _ _ | refine below_alloc ?_ _)
theorem toCell_calls (x:Cell) (cs:List Value) (w:World) (hx:kCellL.K w x cs):
  Calls Try.prog 110 #[.agg cs.toArray] w fun e w'=>∃ ds,e= .returned (.agg ds.toArray)/\kCell.M w' w.heap.size (fun _=>True) x ds/\Below w.heap.size w w':=by
 obtain rfl:=kCellL_open hx;go_enter Try.func110,Try.ntmps110;go_wp2;refine bodyPost_ret (v:=.agg #[.int .i64 x.num,.int .i64 x.time,.int .i64 x.lock]) (by simp [results,Try.results110,go_sem]) rfl ⟨_,rfl,kCell_mkM x, ?_⟩;repeat (first|exact Below.refl _ _ | refine below_alloc ?_ _)
theorem kPut_zero (w:World) (base:Nat) (ok:Nat->Prop):kPut.M w base ok zPut [.int .i64 0,.int .i64 0]:=kPut_mkM zPut
theorem kCell_zero (w:World) (base:Nat) (ok:Nat->Prop):kCell.M w base ok zCell [.int .i64 0,.int .i64 0,.int .i64 0]:=kCell_mkM zCell
theorem kEntry_zero (w:World) (base:Nat) (ok:Nat->Prop):kEntry.M w base ok zEntry [.int .i64 0,.int .i64 0,.int .i64 0,.slice none 0 0,.slice none 0 0,.int .i64 0]:=kEntry_mkM zEntry (Kd.R_nil _ _ _ _ _) (Kd.R_nil _ _ _ _ _)
theorem kTask_zero (w:World) (base:Nat) (ok:Nat->Prop):kTask.M w base ok zTask [.int .i64 0,.int .i64 0,.int .i64 0,.slice none 0 0,.int .i64 0,.int .i64 0,.int .i64 0,.int .i64 0,.slice none 0 0,.slice none 0 0,.slice none 0 0,.int .i64 0,.int .i64 0]:=kTask_mkM zTask (Kd.R_nil _ _ _ _ _) (Kd.R_nil _ _ _ _ _) (Kd.R_nil _ _ _ _ _) (Kd.R_nil _ _ _ _ _)
theorem M_all {α:Type} {d:Kd α} {w w1:World} {base:Nat} {ok:Nat->Prop} {x:α} {ds ce:List Value} {g:Nat} (hce:ce.length<=ds.length) (hlow:base<=w.heap.size) (hg:g < w.heap.size) (h:d.M w1 w.heap.size ok x ds):d.M w1 base (fun k=>g < k) x (ce.take 0 ++ ds ++ ce.drop (0+ds.length)):=by
 rw [List.drop_eq_nil_of_le (by omega),List.take_zero,List.nil_append,List.append_nil];exact d.M_lower hlow (d.M_mono (fun k hk=>Nat.lt_of_lt_of_le hg hk.2.1) (d.M_bound h))
theorem toPutS_calls (xs:List Put) (A:Option Addr) (c:Nat) (w:World) (hx:kPutL.C w A xs.length xs) (hn:xs.length<=1048576):
  Calls Try.prog 132 #[.slice A xs.length c] w fun e w'=>∃ v,e= .returned v/\kPut.R 103 w' w.heap.size (fun _=>True) v xs/\Below w.heap.size w w':=by
 have HX:=am hx;clear hx;go_enter Try.func132,Try.ntmps132;go_wp2_with ((with_reducible refine gate_dst (N:=7) rfl ?_);refine Kd.R_make (w0:=w) kPut w.heap.size 103 rfl (N:=7) rfl 36 _ _ rfl (xs.length:Int) rfl rfl Try.underlying36 (.agg #[.int .i64 0,.int .i64 0]) 16 (by kernel_rfl) rfl (by decide) (by omega) zPut (ok:=fun _=>True) (okp:=fun _=>True) (kPut_zero _ _ _) (fun _ hk=>hk) trivial (by omega) (by omega) (Below.refl _ _) (Nat.le_refl _) ?_;intro v w1 ho hb _ _;have HO:=am ho;have HB:=am hb;clear ho hb)
 go_loopw [4] (fun i w'=>∃ k:Nat,k<=xs.length/\i= .int .i64 k/\Aside0 (kPut.R 103 w' w.heap.size (fun _=>True) v (upTo xs zPut k))/\Aside0 (Below w.heap.size w w')) (fun i _=>xs.length - (intOf i).toNat)
 case atStart=>exact ⟨0,Nat.zero_le _,rfl,⟨by rw [upTo_zero];simpa using HO.out⟩,HB⟩
 case round=>
  clear HO HB;obtain ⟨k,hk,rfl,HO,HB⟩:=hrel;by_cases hlt:k < xs.length
  ·have hl:=upTo_length xs zPut hk
   have HS:=am (upTo_set xs zPut hlt);have q0:(0:Int)<=(k:Int):=by omega
   have q1:(k:Int) < (xs.length:Int):=by omega
   obtain ⟨ad,cs,rfl,hcl,hK,hcc⟩:=Kd.C_get (Kd.C_below HX.out HB.out) zPut (k:Int) q0 q1;obtain ⟨g,cap,rfl,hg1,hg2,hg3⟩:=Kd.R_form HO.out (by omega);rw [hl] at*;simp only [Int.toNat_natCast] at hK hcc;have HK:=am hK;have HCC:=am hcc;clear hK hcc hg3
   go_wp2_with (first
   |((with_reducible refine gate_dst (N:=19) rfl ?_);refine load_struct rfl 188 (.tmp 18) rfl ad (k*2) rfl cs _ HCC.out (by rw [hcl];decide) Try.underlying188 rfl (by rw [hcl];kernel_rfl) ?_)
   |(go_at_call 147;refine (toPut_calls _ _ _ HK.out).mono ?_;rintro e w1 ⟨ds,rfl,hm,hb⟩;have HM:=am hm;have HO2:=am (Kd.R_below HO.out hb);have HB2:=am (below_step HB.out hb);clear hm hb HO HB)
   |((with_reducible refine gate_store (t:=103) (p:=21) rfl ?_);obtain ⟨ce,hce,_,hcc2,_⟩:=Kd.R_elem HO2.out zPut (k:Int) q0 q1;have hdl:=kPut.K_len (kPut.K_of_M HM.out);refine Kd.R_store (w0:=w) kPut w.heap.size rfl rfl 103 (.tmp 21) (.tmp 20) rfl 103 (k:Int) 0 (upTo xs zPut k) (xs.getD k zPut) (.agg ds.toArray) ds ce (fun _=>True) (fun k'=>g < k') rfl (by simp;rfl) rfl rfl (by rw [hdl];kernel_rfl) (kPut.K_one (kPut.K_of_M HM.out)) HO2.out q0 q1 hce hcc2 (by rw [hdl];exact Nat.le_refl _) (M_all (by rw [hce,hdl];exact Nat.le_refl _) (by omega) (by omega) HM.out) (fun k' hk'=>⟨trivial,Nat.ne_of_gt hk'⟩) HB2.out ?_;intro w2 ho hb hgr;simp only [Int.toNat_natCast] at ho;rw [HS.out] at ho;have HO3:=am ho;have HB3:=am hb;clear ho hb hgr))
   go_roundw
   case rel=>exact ⟨k+1,by omega,by go_num,HO3,HB3⟩
   case measure=>simp [intOf];omega
  ·go_wp2
   go_ret;obtain rfl:k=xs.length:=by omega
   exact ⟨_,rfl,by rw [upTo_all] at HO;exact HO.out,HB.out⟩
theorem toCellS_calls (xs:List Cell) (A:Option Addr) (c:Nat) (w:World) (hx:kCellL.C w A xs.length xs) (hn:xs.length<=1048576):
  Calls Try.prog 76 #[.slice A xs.length c] w fun e w'=>∃ v,e= .returned v/\kCell.R 53 w' w.heap.size (fun _=>True) v xs/\Below w.heap.size w w':=by
 have HX:=am hx;clear hx;go_enter Try.func76,Try.ntmps76;go_wp2_with ((with_reducible refine gate_dst (N:=7) rfl ?_);refine Kd.R_make (w0:=w) kCell w.heap.size 53 rfl (N:=7) rfl 23 _ _ rfl (xs.length:Int) rfl rfl Try.underlying23 (.agg #[.int .i64 0,.int .i64 0,.int .i64 0]) 24 (by kernel_rfl) rfl (by decide) (by omega) zCell (ok:=fun _=>True) (okp:=fun _=>True) (kCell_zero _ _ _) (fun _ hk=>hk) trivial (by omega) (by omega) (Below.refl _ _) (Nat.le_refl _) ?_;intro v w1 ho hb _ _;have HO:=am ho;have HB:=am hb;clear ho hb)
 go_loopw [4] (fun i w'=>∃ k:Nat,k<=xs.length/\i= .int .i64 k/\Aside0 (kCell.R 53 w' w.heap.size (fun _=>True) v (upTo xs zCell k))/\Aside0 (Below w.heap.size w w')) (fun i _=>xs.length - (intOf i).toNat)
 case atStart=>exact ⟨0,Nat.zero_le _,rfl,⟨by rw [upTo_zero];simpa using HO.out⟩,HB⟩
 case round=>
  clear HO HB;obtain ⟨k,hk,rfl,HO,HB⟩:=hrel;by_cases hlt:k < xs.length
  ·have hl:=upTo_length xs zCell hk
   have HS:=am (upTo_set xs zCell hlt);have q0:(0:Int)<=(k:Int):=by omega
   have q1:(k:Int) < (xs.length:Int):=by omega
   obtain ⟨ad,cs,rfl,hcl,hK,hcc⟩:=Kd.C_get (Kd.C_below HX.out HB.out) zCell (k:Int) q0 q1;obtain ⟨g,cap,rfl,hg1,hg2,hg3⟩:=Kd.R_form HO.out (by omega);rw [hl] at*;simp only [Int.toNat_natCast] at hK hcc;have HK:=am hK;have HCC:=am hcc;clear hK hcc hg3
   go_wp2_with (first
   |((with_reducible refine gate_dst (N:=19) rfl ?_);refine load_struct rfl 139 (.tmp 18) rfl ad (k*3) rfl cs _ HCC.out (by rw [hcl];decide) Try.underlying139 rfl (by rw [hcl];kernel_rfl) ?_)
   |(go_at_call 110;refine (toCell_calls _ _ _ HK.out).mono ?_;rintro e w1 ⟨ds,rfl,hm,hb⟩;have HM:=am hm;have HO2:=am (Kd.R_below HO.out hb);have HB2:=am (below_step HB.out hb);clear hm hb HO HB)
   |((with_reducible refine gate_store (t:=53) (p:=21) rfl ?_);obtain ⟨ce,hce,_,hcc2,_⟩:=Kd.R_elem HO2.out zCell (k:Int) q0 q1;have hdl:=kCell.K_len (kCell.K_of_M HM.out);refine Kd.R_store (w0:=w) kCell w.heap.size rfl rfl 53 (.tmp 21) (.tmp 20) rfl 53 (k:Int) 0 (upTo xs zCell k) (xs.getD k zCell) (.agg ds.toArray) ds ce (fun _=>True) (fun k'=>g < k') rfl (by simp;rfl) rfl rfl (by rw [hdl];kernel_rfl) (kCell.K_one (kCell.K_of_M HM.out)) HO2.out q0 q1 hce hcc2 (by rw [hdl];exact Nat.le_refl _) (M_all (by rw [hce,hdl];exact Nat.le_refl _) (by omega) (by omega) HM.out) (fun k' hk'=>⟨trivial,Nat.ne_of_gt hk'⟩) HB2.out ?_;intro w2 ho hb hgr;simp only [Int.toNat_natCast] at ho;rw [HS.out] at ho;have HO3:=am ho;have HB3:=am hb;clear ho hb hgr))
   go_roundw
   case rel=>exact ⟨k+1,by omega,by go_num,HO3,HB3⟩
   case measure=>simp [intOf];omega
  ·go_wp2
   go_ret;obtain rfl:k=xs.length:=by omega
   exact ⟨_,rfl,by rw [upTo_all] at HO;exact HO.out,HB.out⟩
theorem toEntry_calls (x:Entry) (cs:List Value) (w:World) (hx:kEntryL.K w x cs) (hn:szE x<=1048576):
  Calls Try.prog 112 #[.agg cs.toArray] w fun e w'=>∃ ds,e= .returned (.agg ds.toArray)/\kEntry.M w' w.heap.size (fun _=>True) x ds/\Below w.heap.size w w':=by
 obtain ⟨A3,c3,A8,c8,rfl,l3,g3,l8,g8⟩:=kEntryL_open hx;unfold szE at hn;have G:=am (And.intro g3 g8);have HB:=am (Below.refl w.heap.size w);clear g3 g8 l3 l8 hx;go_enter Try.func112,Try.ntmps112;go_wp2_with fail
 refine (toPutS_calls _ _ _ _ ?h1 (by omega)).mono ?_
 case h1=>exact Kd.C_below (w:=w) G.out.1 (by repeat (first|with_reducible exact HB.out | with_reducible refine below_alloc ?_ _ | with_reducible refine below_set ?_ ?_ | omega))
 rintro e w3 ⟨v3,rfl,ho,hb⟩;obtain ⟨A3',c3',rfl⟩:=Kd.R_slice ho;have O3:=am (R_up (base:=w.heap.size) (n:=w.heap.size+2) ho (by simp <;> omega) (by simp <;> omega));have hz:=bsize hb;(try simp at hz);have q30:w.heap.size < w3.heap.size:=(by omega);have q31:w.heap.size+1 < w3.heap.size:=(by omega);have q32:w.heap.size+1+1 < w3.heap.size:=(by omega);obtain ⟨hc3,hf3⟩:=bcell hb;have HB1:=am (below_step (w:=w) (by repeat (first|with_reducible exact HB.out | with_reducible refine below_alloc ?_ _ | with_reducible refine below_set ?_ ?_ | omega)) hb);clear HB;have HB:=HB1;clear HB1 hb ho hz;go_wp2_with fail
 refine (toPutS_calls _ _ _ _ ?h1 (by omega)).mono ?_
 case h1=>exact Kd.C_below (w:=w) G.out.2 (by repeat (first|with_reducible exact HB.out | with_reducible refine below_alloc ?_ _ | with_reducible refine below_set ?_ ?_ | omega))
 rintro e w8 ⟨v8,rfl,ho,hb⟩;obtain ⟨A8',c8',rfl⟩:=Kd.R_slice ho;have O8:=am (R_up (base:=w.heap.size) (n:=w.heap.size+2) ho (by simp <;> omega) (by simp <;> omega));have P3:=am (Kd.R_below (show Kd.R kPut 103 _ w.heap.size (fun k=>w.heap.size+2 < k) (.slice A3' x.reads.length c3') x.reads from by repeat (first|with_reducible exact O3.out | with_reducible refine R_farN ?_ ?_ | omega)) hb);clear O3;have O3:=P3;clear P3;have hz:=bsize hb;(try simp at hz);have q80:w.heap.size < w8.heap.size:=(by omega);have q81:w.heap.size+1 < w8.heap.size:=(by omega);have q82:w.heap.size+1+1 < w8.heap.size:=(by omega);obtain ⟨hc8,hf8⟩:=bcell hb;have HB1:=am (below_step (w:=w) (by repeat (first|with_reducible exact HB.out | with_reducible refine below_alloc ?_ _ | with_reducible refine below_set ?_ ?_ | omega)) hb);clear HB;have HB:=HB1;clear HB1 hb ho hz;go_wp2_with fail
 refine bodyPost_ret (v:=.agg #[.int .i64 x.task,.int .i64 x.act,.int .i64 x.when_,.slice A3' x.reads.length c3',.slice A8' x.puts.length c8',.int .i64 x.from_]) (by simp [results,Try.results112,go_sem,hc3,hf3,q30,q31,q32,hc8,hf8,q80,q81,q82]) rfl ⟨_,rfl,kEntry_mkM x ?_ ?_,(by repeat (first|with_reducible exact HB.out | with_reducible refine below_alloc ?_ _ | with_reducible refine below_set ?_ ?_ | omega))⟩
 ·exact R_any (show Kd.R kPut 103 _ w.heap.size (fun k=>w.heap.size+2 < k) (.slice A3' x.reads.length c3') x.reads from by repeat (first|with_reducible exact O3.out | with_reducible refine R_farN ?_ ?_ | omega))
 ·exact R_any (show Kd.R kPut 103 _ w.heap.size (fun k=>w.heap.size+2 < k) (.slice A8' x.puts.length c8') x.puts from by repeat (first|with_reducible exact O8.out | with_reducible refine R_farN ?_ ?_ | omega))
theorem toTask_calls (x:Task) (cs:List Value) (w:World) (hx:kTaskL.K w x cs) (hn:szT x<=1048576):
  Calls Try.prog 111 #[.agg cs.toArray] w fun e w'=>∃ ds,e= .returned (.agg ds.toArray)/\kTask.M w' w.heap.size (fun _=>True) x ds/\Below w.heap.size w w':=by
 obtain ⟨A3,c3,A8,c8,A9,c9,A10,c10,rfl,l3,g3,l8,g8,l9,g9,l10,g10⟩:=kTaskL_open hx;unfold szT at hn;have G:=am (And.intro g3 (And.intro g8 (And.intro g9 g10)));have HB:=am (Below.refl w.heap.size w);clear g3 g8 g9 g10 l3 l8 l9 l10 hx;go_enter Try.func111,Try.ntmps111;go_wp2_with fail
 refine (toIntS_calls _ _ _ _ ?h1 (by omega)).mono ?_
 case h1=>exact Kd.C_below (w:=w) G.out.1 (by repeat (first|with_reducible exact HB.out | with_reducible refine below_alloc ?_ _ | with_reducible refine below_set ?_ ?_ | omega))
 rintro e w3 ⟨v3,rfl,ho,hb⟩;obtain ⟨A3',c3',rfl⟩:=Kd.R_slice ho;have O3:=am (R_up (base:=w.heap.size) (n:=w.heap.size+2) ho (by simp <;> omega) (by simp <;> omega));have hz:=bsize hb;(try simp at hz);have q30:w.heap.size < w3.heap.size:=(by omega);have q31:w.heap.size+1 < w3.heap.size:=(by omega);have q32:w.heap.size+1+1 < w3.heap.size:=(by omega);obtain ⟨hc3,hf3⟩:=bcell hb;have HB1:=am (below_step (w:=w) (by repeat (first|with_reducible exact HB.out | with_reducible refine below_alloc ?_ _ | with_reducible refine below_set ?_ ?_ | omega)) hb);clear HB;have HB:=HB1;clear HB1 hb ho hz;go_wp2_with fail
 refine (toIntS_calls _ _ _ _ ?h1 (by omega)).mono ?_
 case h1=>exact Kd.C_below (w:=w) G.out.2.1 (by repeat (first|with_reducible exact HB.out | with_reducible refine below_alloc ?_ _ | with_reducible refine below_set ?_ ?_ | omega))
 rintro e w8 ⟨v8,rfl,ho,hb⟩;obtain ⟨A8',c8',rfl⟩:=Kd.R_slice ho;have O8:=am (R_up (base:=w.heap.size) (n:=w.heap.size+2) ho (by simp <;> omega) (by simp <;> omega));have P3:=am (Kd.R_below (show Kd.R (Kd.int .i64) 3 _ w.heap.size (fun k=>w.heap.size+2 < k) (.slice A3' x.regs.length c3') x.regs from by repeat (first|with_reducible exact O3.out | with_reducible refine R_farN ?_ ?_ | omega)) hb);clear O3;have O3:=P3;clear P3;have hz:=bsize hb;(try simp at hz);have q80:w.heap.size < w8.heap.size:=(by omega);have q81:w.heap.size+1 < w8.heap.size:=(by omega);have q82:w.heap.size+1+1 < w8.heap.size:=(by omega);obtain ⟨hc8,hf8⟩:=bcell hb;have HB1:=am (below_step (w:=w) (by repeat (first|with_reducible exact HB.out | with_reducible refine below_alloc ?_ _ | with_reducible refine below_set ?_ ?_ | omega)) hb);clear HB;have HB:=HB1;clear HB1 hb ho hz;go_wp2_with fail
 refine (toPutS_calls _ _ _ _ ?h1 (by omega)).mono ?_
 case h1=>exact Kd.C_below (w:=w) G.out.2.2.1 (by repeat (first|with_reducible exact HB.out | with_reducible refine below_alloc ?_ _ | with_reducible refine below_set ?_ ?_ | omega))
 rintro e w9 ⟨v9,rfl,ho,hb⟩;obtain ⟨A9',c9',rfl⟩:=Kd.R_slice ho;have O9:=am (R_up (base:=w.heap.size) (n:=w.heap.size+2) ho (by simp <;> omega) (by simp <;> omega));have P3:=am (Kd.R_below (show Kd.R (Kd.int .i64) 3 _ w.heap.size (fun k=>w.heap.size+2 < k) (.slice A3' x.regs.length c3') x.regs from by repeat (first|with_reducible exact O3.out | with_reducible refine R_farN ?_ ?_ | omega)) hb);clear O3;have O3:=P3;clear P3;have P8:=am (Kd.R_below (show Kd.R (Kd.int .i64) 3 _ w.heap.size (fun k=>w.heap.size+2 < k) (.slice A8' x.old.length c8') x.old from by repeat (first|with_reducible exact O8.out | with_reducible refine R_farN ?_ ?_ | omega)) hb);clear O8;have O8:=P8;clear P8;have hz:=bsize hb;(try simp at hz);have q90:w.heap.size < w9.heap.size:=(by omega);have q91:w.heap.size+1 < w9.heap.size:=(by omega);have q92:w.heap.size+1+1 < w9.heap.size:=(by omega);obtain ⟨hc9,hf9⟩:=bcell hb;have HB1:=am (below_step (w:=w) (by repeat (first|with_reducible exact HB.out | with_reducible refine below_alloc ?_ _ | with_reducible refine below_set ?_ ?_ | omega)) hb);clear HB;have HB:=HB1;clear HB1 hb ho hz;go_wp2_with fail
 refine (toPutS_calls _ _ _ _ ?h1 (by omega)).mono ?_
 case h1=>exact Kd.C_below (w:=w) G.out.2.2.2 (by repeat (first|with_reducible exact HB.out | with_reducible refine below_alloc ?_ _ | with_reducible refine below_set ?_ ?_ | omega))
 rintro e w10 ⟨v10,rfl,ho,hb⟩;obtain ⟨A10',c10',rfl⟩:=Kd.R_slice ho;have O10:=am (R_up (base:=w.heap.size) (n:=w.heap.size+2) ho (by simp <;> omega) (by simp <;> omega));have P3:=am (Kd.R_below (show Kd.R (Kd.int .i64) 3 _ w.heap.size (fun k=>w.heap.size+2 < k) (.slice A3' x.regs.length c3') x.regs from by repeat (first|with_reducible exact O3.out | with_reducible refine R_farN ?_ ?_ | omega)) hb);clear O3;have O3:=P3;clear P3;have P8:=am (Kd.R_below (show Kd.R (Kd.int .i64) 3 _ w.heap.size (fun k=>w.heap.size+2 < k) (.slice A8' x.old.length c8') x.old from by repeat (first|with_reducible exact O8.out | with_reducible refine R_farN ?_ ?_ | omega)) hb);clear O8;have O8:=P8;clear P8;have P9:=am (Kd.R_below (show Kd.R kPut 103 _ w.heap.size (fun k=>w.heap.size+2 < k) (.slice A9' x.reads.length c9') x.reads from by repeat (first|with_reducible exact O9.out | with_reducible refine R_farN ?_ ?_ | omega)) hb);clear O9;have O9:=P9;clear P9;have hz:=bsize hb;(try simp at hz);have q100:w.heap.size < w10.heap.size:=(by omega);have q101:w.heap.size+1 < w10.heap.size:=(by omega);have q102:w.heap.size+1+1 < w10.heap.size:=(by omega);obtain ⟨hc10,hf10⟩:=bcell hb;have HB1:=am (below_step (w:=w) (by repeat (first|with_reducible exact HB.out | with_reducible refine below_alloc ?_ _ | with_reducible refine below_set ?_ ?_ | omega)) hb);clear HB;have HB:=HB1;clear HB1 hb ho hz;go_wp2_with fail
 refine bodyPost_ret (v:=.agg #[.int .i64 x.body,.int .i64 x.pc,.int .i64 x.up,.slice A3' x.regs.length c3',.int .i64 x.way,.int .i64 x.stage,.int .i64 x.at_,.int .i64 x.since,.slice A8' x.old.length c8',.slice A9' x.reads.length c9',.slice A10' x.puts.length c10',.int .i64 x.when_,.int .i64 x.from_]) (by simp [results,Try.results111,go_sem,hc3,hf3,q30,q31,q32,hc8,hf8,q80,q81,q82,hc9,hf9,q90,q91,q92,hc10,hf10,q100,q101,q102]) rfl ⟨_,rfl,kTask_mkM x ?_ ?_ ?_ ?_,(by repeat (first|with_reducible exact HB.out | with_reducible refine below_alloc ?_ _ | with_reducible refine below_set ?_ ?_ | omega))⟩
 ·exact R_any (show Kd.R (Kd.int .i64) 3 _ w.heap.size (fun k=>w.heap.size+2 < k) (.slice A3' x.regs.length c3') x.regs from by repeat (first|with_reducible exact O3.out | with_reducible refine R_farN ?_ ?_ | omega))
 ·exact R_any (show Kd.R (Kd.int .i64) 3 _ w.heap.size (fun k=>w.heap.size+2 < k) (.slice A8' x.old.length c8') x.old from by repeat (first|with_reducible exact O8.out | with_reducible refine R_farN ?_ ?_ | omega))
 ·exact R_any (show Kd.R kPut 103 _ w.heap.size (fun k=>w.heap.size+2 < k) (.slice A9' x.reads.length c9') x.reads from by repeat (first|with_reducible exact O9.out | with_reducible refine R_farN ?_ ?_ | omega))
 ·exact R_any (show Kd.R kPut 103 _ w.heap.size (fun k=>w.heap.size+2 < k) (.slice A10' x.puts.length c10') x.puts from by repeat (first|with_reducible exact O10.out | with_reducible refine R_farN ?_ ?_ | omega))
theorem toEntryS_calls (xs:List Entry) (A:Option Addr) (c:Nat) (w:World) (hx:kEntryL.C w A xs.length xs) (hn:xs.length<=1048576) (hs:sumOf szE xs<=1048576):
  Calls Try.prog 78 #[.slice A xs.length c] w fun e w'=>∃ v,e= .returned v/\kEntry.R 119 w' w.heap.size (fun _=>True) v xs/\Below w.heap.size w w':=by
 have HX:=am hx;clear hx;go_enter Try.func78,Try.ntmps78;go_wp2_with ((with_reducible refine gate_dst (N:=7) rfl ?_);refine Kd.R_make (w0:=w) kEntry w.heap.size 119 rfl (N:=7) rfl 25 _ _ rfl (xs.length:Int) rfl rfl Try.underlying25 (.agg #[.int .i64 0,.int .i64 0,.int .i64 0,.slice none 0 0,.slice none 0 0,.int .i64 0]) 80 (by kernel_rfl) rfl (by decide) (by omega) zEntry (ok:=fun _=>True) (okp:=fun _=>True) (kEntry_zero _ _ _) (fun _ hk=>hk) trivial (by omega) (by omega) (Below.refl _ _) (Nat.le_refl _) ?_;intro v w1 ho hb _ _;have HO:=am ho;have HB:=am hb;clear ho hb)
 go_loopw [4] (fun i w'=>∃ k:Nat,k<=xs.length/\i= .int .i64 k/\Aside0 (kEntry.R 119 w' w.heap.size (fun _=>True) v (upTo xs zEntry k))/\Aside0 (Below w.heap.size w w')) (fun i _=>xs.length - (intOf i).toNat)
 case atStart=>exact ⟨0,Nat.zero_le _,rfl,⟨by rw [upTo_zero];simpa using HO.out⟩,HB⟩
 case round=>
  clear HO HB;obtain ⟨k,hk,rfl,HO,HB⟩:=hrel;by_cases hlt:k < xs.length
  ·have hl:=upTo_length xs zEntry hk
   have HS:=am (upTo_set xs zEntry hlt);have q0:(0:Int)<=(k:Int):=by omega
   have q1:(k:Int) < (xs.length:Int):=by omega
   have hsz:szE (xs.getD k zEntry)<=1048576:=by have h1:=sumOf_take szE xs k zEntry hlt;have h2:=sumOf_le szE xs (k+1);omega
   obtain ⟨ad,cs,rfl,hcl,hK,hcc⟩:=Kd.C_get (Kd.C_below HX.out HB.out) zEntry (k:Int) q0 q1;obtain ⟨g,cap,rfl,hg1,hg2,hg3⟩:=Kd.R_form HO.out (by omega);rw [hl] at*;simp only [Int.toNat_natCast] at hK hcc;have HK:=am hK;have HCC:=am hcc;clear hK hcc hg3
   go_wp2_with (first
   |((with_reducible refine gate_dst (N:=19) rfl ?_);refine load_struct rfl 136 (.tmp 18) rfl ad (k*6) rfl cs _ HCC.out (by rw [hcl];decide) Try.underlying136 rfl (by rw [hcl];kernel_rfl) ?_)
   |(go_at_call 112;refine (toEntry_calls _ _ _ HK.out hsz).mono ?_;rintro e w1 ⟨ds,rfl,hm,hb⟩;have HM:=am hm;have HO2:=am (Kd.R_below HO.out hb);have HB2:=am (below_step HB.out hb);clear hm hb HO HB)
   |((with_reducible refine gate_store (t:=119) (p:=21) rfl ?_);obtain ⟨ce,hce,_,hcc2,_⟩:=Kd.R_elem HO2.out zEntry (k:Int) q0 q1;have hdl:=kEntry.K_len (kEntry.K_of_M HM.out);refine Kd.R_store (w0:=w) kEntry w.heap.size rfl rfl 119 (.tmp 21) (.tmp 20) rfl 119 (k:Int) 0 (upTo xs zEntry k) (xs.getD k zEntry) (.agg ds.toArray) ds ce (fun _=>True) (fun k'=>g < k') rfl (by simp;rfl) rfl rfl (by rw [hdl];kernel_rfl) (kEntry.K_one (kEntry.K_of_M HM.out)) HO2.out q0 q1 hce hcc2 (by rw [hdl];exact Nat.le_refl _) (M_all (by rw [hce,hdl];exact Nat.le_refl _) (by omega) (by omega) HM.out) (fun k' hk'=>⟨trivial,Nat.ne_of_gt hk'⟩) HB2.out ?_;intro w2 ho hb hgr;simp only [Int.toNat_natCast] at ho;rw [HS.out] at ho;have HO3:=am ho;have HB3:=am hb;clear ho hb hgr))
   go_roundw
   case rel=>exact ⟨k+1,by omega,by go_num,HO3,HB3⟩
   case measure=>simp [intOf];omega
  ·go_wp2
   go_ret;obtain rfl:k=xs.length:=by omega
   exact ⟨_,rfl,by rw [upTo_all] at HO;exact HO.out,HB.out⟩
theorem toTaskS_calls (xs:List Task) (A:Option Addr) (c:Nat) (w:World) (hx:kTaskL.C w A xs.length xs) (hn:xs.length<=1048576) (hs:sumOf szT xs<=1048576):
  Calls Try.prog 77 #[.slice A xs.length c] w fun e w'=>∃ v,e= .returned v/\kTask.R 38 w' w.heap.size (fun _=>True) v xs/\Below w.heap.size w w':=by
 have HX:=am hx;clear hx;go_enter Try.func77,Try.ntmps77;go_wp2_with ((with_reducible refine gate_dst (N:=7) rfl ?_);refine Kd.R_make (w0:=w) kTask w.heap.size 38 rfl (N:=7) rfl 24 _ _ rfl (xs.length:Int) rfl rfl Try.underlying24 (.agg #[.int .i64 0,.int .i64 0,.int .i64 0,.slice none 0 0,.int .i64 0,.int .i64 0,.int .i64 0,.int .i64 0,.slice none 0 0,.slice none 0 0,.slice none 0 0,.int .i64 0,.int .i64 0]) 168 (by kernel_rfl) rfl (by decide) (by omega) zTask (ok:=fun _=>True) (okp:=fun _=>True) (kTask_zero _ _ _) (fun _ hk=>hk) trivial (by omega) (by omega) (Below.refl _ _) (Nat.le_refl _) ?_;intro v w1 ho hb _ _;have HO:=am ho;have HB:=am hb;clear ho hb)
 go_loopw [4] (fun i w'=>∃ k:Nat,k<=xs.length/\i= .int .i64 k/\Aside0 (kTask.R 38 w' w.heap.size (fun _=>True) v (upTo xs zTask k))/\Aside0 (Below w.heap.size w w')) (fun i _=>xs.length - (intOf i).toNat)
 case atStart=>exact ⟨0,Nat.zero_le _,rfl,⟨by rw [upTo_zero];simpa using HO.out⟩,HB⟩
 case round=>
  clear HO HB;obtain ⟨k,hk,rfl,HO,HB⟩:=hrel;by_cases hlt:k < xs.length
  ·have hl:=upTo_length xs zTask hk
   have HS:=am (upTo_set xs zTask hlt);have q0:(0:Int)<=(k:Int):=by omega
   have q1:(k:Int) < (xs.length:Int):=by omega
   have hsz:szT (xs.getD k zTask)<=1048576:=by have h1:=sumOf_take szT xs k zTask hlt;have h2:=sumOf_le szT xs (k+1);omega
   obtain ⟨ad,cs,rfl,hcl,hK,hcc⟩:=Kd.C_get (Kd.C_below HX.out HB.out) zTask (k:Int) q0 q1;obtain ⟨g,cap,rfl,hg1,hg2,hg3⟩:=Kd.R_form HO.out (by omega);rw [hl] at*;simp only [Int.toNat_natCast] at hK hcc;have HK:=am hK;have HCC:=am hcc;clear hK hcc hg3
   go_wp2_with (first
   |((with_reducible refine gate_dst (N:=19) rfl ?_);refine load_struct rfl 133 (.tmp 18) rfl ad (k*13) rfl cs _ HCC.out (by rw [hcl];decide) Try.underlying133 rfl (by rw [hcl];kernel_rfl) ?_)
   |(go_at_call 111;refine (toTask_calls _ _ _ HK.out hsz).mono ?_;rintro e w1 ⟨ds,rfl,hm,hb⟩;have HM:=am hm;have HO2:=am (Kd.R_below HO.out hb);have HB2:=am (below_step HB.out hb);clear hm hb HO HB)
   |((with_reducible refine gate_store (t:=38) (p:=21) rfl ?_);obtain ⟨ce,hce,_,hcc2,_⟩:=Kd.R_elem HO2.out zTask (k:Int) q0 q1;have hdl:=kTask.K_len (kTask.K_of_M HM.out);refine Kd.R_store (w0:=w) kTask w.heap.size rfl rfl 38 (.tmp 21) (.tmp 20) rfl 38 (k:Int) 0 (upTo xs zTask k) (xs.getD k zTask) (.agg ds.toArray) ds ce (fun _=>True) (fun k'=>g < k') rfl (by simp;rfl) rfl rfl (by rw [hdl];kernel_rfl) (kTask.K_one (kTask.K_of_M HM.out)) HO2.out q0 q1 hce hcc2 (by rw [hdl];exact Nat.le_refl _) (M_all (by rw [hce,hdl];exact Nat.le_refl _) (by omega) (by omega) HM.out) (fun k' hk'=>⟨trivial,Nat.ne_of_gt hk'⟩) HB2.out ?_;intro w2 ho hb hgr;simp only [Int.toNat_natCast] at ho;rw [HS.out] at ho;have HO3:=am ho;have HB3:=am hb;clear ho hb hgr))
   go_roundw
   case rel=>exact ⟨k+1,by omega,by go_num,HO3,HB3⟩
   case measure=>simp [intOf];omega
  ·go_wp2
   go_ret;obtain rfl:k=xs.length:=by omega
   exact ⟨_,rfl,by rw [upTo_all] at HO;exact HO.out,HB.out⟩
theorem toSys_calls (x:Sys) (cs:List Value) (w:World) (hx:kSysL.K w x cs) (hn:szS x<=1048576):
  Calls Try.prog 42 #[.agg cs.toArray] w fun e w'=>∃ ds,e= .returned (.agg ds.toArray)/\kSys.M w' w.heap.size (fun _=>True) x ds/\Below w.heap.size w w':=by
 obtain ⟨A0,c0,A1,c1,A3,c3,rfl,l0,g0,l1,g1,l3,g3⟩:=kSysL_open hx;unfold szS at hn;have G:=am (And.intro g0 (And.intro g1 g3));have HB:=am (Below.refl w.heap.size w);clear g0 g1 g3 l0 l1 l3 hx;go_enter Try.func42,Try.ntmps42;go_wp2_with fail
 refine (toCellS_calls _ _ _ _ ?h1 (by omega)).mono ?_
 case h1=>exact Kd.C_below (w:=w) G.out.1 (by repeat (first|with_reducible exact HB.out | with_reducible refine below_alloc ?_ _ | with_reducible refine below_set ?_ ?_ | omega))
 rintro e w0 ⟨v0,rfl,ho,hb⟩;obtain ⟨A0',c0',rfl⟩:=Kd.R_slice ho;have O0:=am (R_up (base:=w.heap.size) (n:=w.heap.size+2) ho (by simp <;> omega) (by simp <;> omega));have hz:=bsize hb;(try simp at hz);have q00:w.heap.size < w0.heap.size:=(by omega);have q01:w.heap.size+1 < w0.heap.size:=(by omega);have q02:w.heap.size+1+1 < w0.heap.size:=(by omega);obtain ⟨hc0,hf0⟩:=bcell hb;have HB1:=am (below_step (w:=w) (by repeat (first|with_reducible exact HB.out | with_reducible refine below_alloc ?_ _ | with_reducible refine below_set ?_ ?_ | omega)) hb);clear HB;have HB:=HB1;clear HB1 hb ho hz;go_wp2_with fail
 refine (toTaskS_calls _ _ _ _ ?h1 (by omega) (by omega)).mono ?_
 case h1=>exact Kd.C_below (w:=w) G.out.2.1 (by repeat (first|with_reducible exact HB.out | with_reducible refine below_alloc ?_ _ | with_reducible refine below_set ?_ ?_ | omega))
 rintro e w1 ⟨v1,rfl,ho,hb⟩;obtain ⟨A1',c1',rfl⟩:=Kd.R_slice ho;have O1:=am (R_up (base:=w.heap.size) (n:=w.heap.size+2) ho (by simp <;> omega) (by simp <;> omega));have P0:=am (Kd.R_below (show Kd.R kCell 53 _ w.heap.size (fun k=>w.heap.size+2 < k) (.slice A0' x.cells.length c0') x.cells from by repeat (first|with_reducible exact O0.out | with_reducible refine R_farN ?_ ?_ | omega)) hb);clear O0;have O0:=P0;clear P0;have hz:=bsize hb;(try simp at hz);have q10:w.heap.size < w1.heap.size:=(by omega);have q11:w.heap.size+1 < w1.heap.size:=(by omega);have q12:w.heap.size+1+1 < w1.heap.size:=(by omega);obtain ⟨hc1,hf1⟩:=bcell hb;have HB1:=am (below_step (w:=w) (by repeat (first|with_reducible exact HB.out | with_reducible refine below_alloc ?_ _ | with_reducible refine below_set ?_ ?_ | omega)) hb);clear HB;have HB:=HB1;clear HB1 hb ho hz;go_wp2_with fail
 refine (toEntryS_calls _ _ _ _ ?h1 (by omega) (by omega)).mono ?_
 case h1=>exact Kd.C_below (w:=w) G.out.2.2 (by repeat (first|with_reducible exact HB.out | with_reducible refine below_alloc ?_ _ | with_reducible refine below_set ?_ ?_ | omega))
 rintro e w3 ⟨v3,rfl,ho,hb⟩;obtain ⟨A3',c3',rfl⟩:=Kd.R_slice ho;have O3:=am (R_up (base:=w.heap.size) (n:=w.heap.size+2) ho (by simp <;> omega) (by simp <;> omega));have P0:=am (Kd.R_below (show Kd.R kCell 53 _ w.heap.size (fun k=>w.heap.size+2 < k) (.slice A0' x.cells.length c0') x.cells from by repeat (first|with_reducible exact O0.out | with_reducible refine R_farN ?_ ?_ | omega)) hb);clear O0;have O0:=P0;clear P0;have P1:=am (Kd.R_below (show Kd.R kTask 38 _ w.heap.size (fun k=>w.heap.size+2 < k) (.slice A1' x.tasks.length c1') x.tasks from by repeat (first|with_reducible exact O1.out | with_reducible refine R_farN ?_ ?_ | omega)) hb);clear O1;have O1:=P1;clear P1;have hz:=bsize hb;(try simp at hz);have q30:w.heap.size < w3.heap.size:=(by omega);have q31:w.heap.size+1 < w3.heap.size:=(by omega);have q32:w.heap.size+1+1 < w3.heap.size:=(by omega);obtain ⟨hc3,hf3⟩:=bcell hb;have HB1:=am (below_step (w:=w) (by repeat (first|with_reducible exact HB.out | with_reducible refine below_alloc ?_ _ | with_reducible refine below_set ?_ ?_ | omega)) hb);clear HB;have HB:=HB1;clear HB1 hb ho hz;go_wp2_with fail
 refine bodyPost_ret (v:=.agg #[.slice A0' x.cells.length c0',.slice A1' x.tasks.length c1',.int .i64 x.clock,.slice A3' x.log.length c3']) (by simp [results,Try.results42,go_sem,hc0,hf0,q00,q01,q02,hc1,hf1,q10,q11,q12,hc3,hf3,q30,q31,q32]) rfl ⟨_,rfl,kSys_mkM x ?_ ?_ ?_,(by repeat (first|with_reducible exact HB.out | with_reducible refine below_alloc ?_ _ | with_reducible refine below_set ?_ ?_ | omega))⟩
 ·exact R_any (show Kd.R kCell 53 _ w.heap.size (fun k=>w.heap.size+2 < k) (.slice A0' x.cells.length c0') x.cells from by repeat (first|with_reducible exact O0.out | with_reducible refine R_farN ?_ ?_ | omega))
 ·exact R_any (show Kd.R kTask 38 _ w.heap.size (fun k=>w.heap.size+2 < k) (.slice A1' x.tasks.length c1') x.tasks from by repeat (first|with_reducible exact O1.out | with_reducible refine R_farN ?_ ?_ | omega))
 ·exact R_any (show Kd.R kEntry 119 _ w.heap.size (fun k=>w.heap.size+2 < k) (.slice A3' x.log.length c3') x.log from by repeat (first|with_reducible exact O3.out | with_reducible refine R_farN ?_ ?_ | omega))
theorem agree_all {α:Type} (xs ys:List α) (hl:xs.length=ys.length) (h:∀ j,j < xs.length->xs[j]? = ys[j]?):xs=ys:=by
 apply List.ext_getElem?;intro j;by_cases hj:j < xs.length
 ·exact h j hj
 ·rw [List.getElem?_eq_none (by omega),List.getElem?_eq_none (by omega)]
theorem agree_step {α:Type} {xs ys:List α} {k:Nat} {z:α} (H:∀ j,j < k->xs[j]? = ys[j]?) (h1:k < xs.length) (h2:k < ys.length) (he:xs.getD k z=ys.getD k z) {j:Nat} (hj:j < k+1):xs[j]? = ys[j]? :=by
 by_cases h:j < k
 ·exact H j h
 ·obtain rfl:j=k:=by omega
  simp only [List.getD_eq_getElem?_getD] at he;rw [List.getElem?_eq_getElem (by omega),List.getElem?_eq_getElem (by omega)] at he ⊢;simpa using he
theorem eqIntS_calls (xs ys:List Int) (A B:Option Addr) (c d:Nat) (w:World) (hx:(Kd.int .i64).C w A xs.length xs) (hy:(Kd.int .i64).C w B ys.length ys):
  Calls Try.prog 79 #[.slice A xs.length c,.slice B ys.length d] w fun e w'=>e= .returned (.bool (decide (xs=ys)))/\Drawn0 w w':=by
 have HX:=am hx;have HY:=am hy;have hm:=Kd.C_max hx;clear hx hy;by_cases hl:xs.length=ys.length
 ·have hlb:((xs.length:Int) != (ys.length:Int))=false:=by rw [hl];simp
  have HL:=am hl;clear hl;go_enter Try.func79,Try.ntmps79;go_wp2;have HLB:=am hlb;clear hlb;go_loopw [5] (fun v w'=>∃ k:Nat,k<=xs.length/\v= .int .i64 k/\Aside0 (∀ j,j < k->xs[j]? = ys[j]?)/\Drawn0 w w') (fun v _=>xs.length - (intOf v).toNat)
  case atStart=>exact ⟨0,Nat.zero_le _,rfl,⟨fun j hj=>by omega⟩,Drawn0.refl _⟩
  case round=>
   obtain ⟨k,hk,rfl,HJ,HD⟩:=hrel;obtain ⟨n,rfl⟩:=HD.out;clear HD;by_cases hlt:k < xs.length
   ·have hlt2:k < ys.length:=by rw [<-HL.out];exact hlt
    have h0:(0:Int)<=(k:Int):=by omega
    have h1:(k:Int) < (xs.length:Int):=by omega
    have h2:(k:Int) < (ys.length:Int):=by omega
    obtain ⟨ax,rfl,gx⟩:=Kd.at_int HX.out (k:Int) (by omega) h1;obtain ⟨ay,rfl,gy⟩:=Kd.at_int HY.out (k:Int) (by omega) h2;simp only [Int.toNat_natCast] at gx gy;by_cases he:rd xs k=rd ys k
    ·have heb:(rd xs k != rd ys k)=false:=by simp [he]
     have HE:=am he;clear he;go_wp2;go_quiet (fail);go_wp2;go_roundw
     case rel=>exact ⟨k+1,by omega,by go_num,⟨fun j hj=>agree_step HJ.out hlt hlt2 HE.out hj⟩,⟨⟨_,rfl⟩⟩⟩
     case measure=>simp [intOf];omega
    ·have heb:(rd xs k != rd ys k)=true:=by simp [he]
     have HE:=am he;clear he;go_wp2;go_quiet (fail);go_wp2;go_ret;exact ⟨ret_bool (decide_eq_false (fun h=>HE.out (by rw [h]))).symm,Drawn0.step ⟨⟨n,rfl⟩⟩ _⟩
   ·go_wp2
    go_ret;exact ⟨ret_bool (decide_eq_true (agree_all xs ys HL.out (fun j hj=>HJ.out j (by omega)))).symm,⟨⟨n,rfl⟩⟩⟩
 ·have hlb:((xs.length:Int) != (ys.length:Int))=true:=by simp;omega
  have hlc:(xs.length != ys.length)=true:=by simp;omega
  have hld:(xs.length == ys.length)=false:=by simp;omega
  have HL:=am hl;clear hl;go_enter Try.func79,Try.ntmps79;go_wp2;go_ret;exact ⟨ret_bool (decide_eq_false (fun h=>HL.out (by rw [h]))).symm,Drawn0.refl _⟩
theorem Put_ext (x y:Put):x=y ↔ x.cell=y.cell/\x.num=y.num:=by cases x;cases y;simp
theorem eqPut_calls (x y:Put) (cs ds:List Value) (w:World) (hx:kPut.K w x cs) (hy:kPut.K w y ds):
  Calls Try.prog 149 #[.agg cs.toArray,.agg ds.toArray] w fun e w'=>e= .returned (.bool (decide (x=y)))/\Below w.heap.size w w':=by
 obtain rfl:=kPut_open hx;obtain rfl:=kPut_open hy;clear hx hy;have HB:=am (Below.refl w.heap.size w);go_enter Try.func149,Try.ntmps149;go_wp2_with fail
 all_goals (go_ret;refine ⟨ret_bool ?_,(by repeat (first|with_reducible exact HB.out | with_reducible refine below_alloc ?_ _ | with_reducible refine pw_below_drewN ?_ _))⟩)
 all_goals (first|(rw [decide_eq_true];simp_all [Put_ext];done)|(rw [decide_eq_false];simp_all [Put_ext];done))
theorem Cell_ext (x y:Cell):x=y ↔ x.num=y.num/\x.time=y.time/\x.lock=y.lock:=by cases x;cases y;simp
theorem eqCell_calls (x y:Cell) (cs ds:List Value) (w:World) (hx:kCell.K w x cs) (hy:kCell.K w y ds):
  Calls Try.prog 114 #[.agg cs.toArray,.agg ds.toArray] w fun e w'=>e= .returned (.bool (decide (x=y)))/\Below w.heap.size w w':=by
 obtain rfl:=kCell_open hx;obtain rfl:=kCell_open hy;clear hx hy;have HB:=am (Below.refl w.heap.size w);go_enter Try.func114,Try.ntmps114;go_wp2_with fail
 all_goals (go_ret;refine ⟨ret_bool ?_,(by repeat (first|with_reducible exact HB.out | with_reducible refine below_alloc ?_ _ | with_reducible refine pw_below_drewN ?_ _))⟩)
 all_goals (first|(rw [decide_eq_true];simp_all [Cell_ext];done)|(rw [decide_eq_false];simp_all [Cell_ext];done))
theorem eqPutS_calls (xs ys:List Put) (A B:Option Addr) (c d:Nat) (w:World) (hx:kPut.C w A xs.length xs) (hy:kPut.C w B ys.length ys):
  Calls Try.prog 134 #[.slice A xs.length c,.slice B ys.length d] w fun e w'=>e= .returned (.bool (decide (xs=ys)))/\Below w.heap.size w w':=by
 have HX:=am hx;have HY:=am hy;have hm:=Kd.C_max hx;clear hx hy;by_cases hl:xs.length=ys.length
 ·have hlb:((xs.length:Int) != (ys.length:Int))=false:=by rw [hl];simp
  have HL:=am hl;clear hl;go_enter Try.func134,Try.ntmps134;go_wp2;have HLB:=am hlb;clear hlb;go_loopw [5] (fun v w'=>∃ k:Nat,k<=xs.length/\v= .int .i64 k/\Aside0 (∀ j,j < k->xs[j]? = ys[j]?)/\Aside0 (Below w.heap.size w w')) (fun v _=>xs.length - (intOf v).toNat)
  case atStart=>exact ⟨0,Nat.zero_le _,rfl,⟨fun j hj=>by omega⟩,⟨Below.refl _ _⟩⟩
  case round=>
   obtain ⟨k,hk,rfl,HJ,HB⟩:=hrel;by_cases hlt:k < xs.length
   ·have hlt2:k < ys.length:=by rw [<-HL.out];exact hlt
    have h0:(0:Int)<=(k:Int):=by omega
    have h1:(k:Int) < (xs.length:Int):=by omega
    have h2:(k:Int) < (ys.length:Int):=by omega
    obtain ⟨ax,cs,rfl,hcl,hK,hcc⟩:=Kd.C_get (Kd.C_below HX.out HB.out) zPut (k:Int) h0 h1;obtain ⟨ay,ds,rfl,hdl,hL,hdd⟩:=Kd.C_get (Kd.C_below HY.out HB.out) zPut (k:Int) h0 h2;simp only [Int.toNat_natCast] at hK hcc hL hdd;have HK:=am hK;have HCC:=am hcc;have HK2:=am hL;have HDD:=am hdd;clear hK hcc hL hdd;go_wp2;refine wp_region_still_tail 8 (by kernel_rfl) (by kernel_rfl) ?_;simp only [List.take_succ_cons,List.take_zero,List.drop_succ_cons,List.drop_zero];iterate 3 still_step
    refine still_load_struct rfl 103 (.tmp 19) rfl ax (k*2) rfl cs _ HCC.out (by rw [hcl];decide) Try.underlying103 rfl (by rw [hcl];kernel_rfl) ?_;iterate 3 still_step
    refine still_load_struct rfl 103 (.tmp 23) rfl ay (k*2) rfl ds _ HDD.out (by rw [hdl];decide) Try.underlying103 rfl (by rw [hdl];kernel_rfl) ?_;refine wpStill_nil ?_;by_cases he:xs.getD k zPut=ys.getD k zPut
    ·have HE:=am he
     clear he;go_wp2_with (go_at_call 149;refine (eqPut_calls _ _ _ _ _ (kPut.K_below (below_drew (Below.refl _ _)) HK.out) (kPut.K_below (below_drew (Below.refl _ _)) HK2.out)).mono ?_;rw [decide_eq_true HE.out];rintro e w1 ⟨rfl,hb⟩;have HB1:=am (below_step (below_drew HB.out) hb);clear hb HB)
     go_roundw
     case rel=>exact ⟨k+1,by omega,by go_num,⟨fun j hj=>agree_step HJ.out hlt hlt2 HE.out hj⟩,HB1⟩
     case measure=>simp [intOf];omega
    ·have HE:=am he
     clear he;go_wp2_with (go_at_call 149;refine (eqPut_calls _ _ _ _ _ (kPut.K_below (below_drew (Below.refl _ _)) HK.out) (kPut.K_below (below_drew (Below.refl _ _)) HK2.out)).mono ?_;rw [decide_eq_false HE.out];rintro e w1 ⟨rfl,hb⟩;have HB1:=am (below_step (below_drew HB.out) hb);clear hb HB)
     go_ret;exact ⟨ret_bool (decide_eq_false (fun h=>HE.out (by rw [h]))).symm,HB1.out⟩
   ·go_wp2
    go_ret;exact ⟨ret_bool (decide_eq_true (agree_all xs ys HL.out (fun j hj=>HJ.out j (by omega)))).symm,HB.out⟩
 ·have hlb:((xs.length:Int) != (ys.length:Int))=true:=by simp;omega
  have hlc:(xs.length != ys.length)=true:=by simp;omega
  have hld:(xs.length == ys.length)=false:=by simp;omega
  have HL:=am hl;clear hl;go_enter Try.func134,Try.ntmps134;go_wp2;go_ret;exact ⟨ret_bool (decide_eq_false (fun h=>HL.out (by rw [h]))).symm,Below.refl _ _⟩
theorem eqCellS_calls (xs ys:List Cell) (A B:Option Addr) (c d:Nat) (w:World) (hx:kCell.C w A xs.length xs) (hy:kCell.C w B ys.length ys):
  Calls Try.prog 81 #[.slice A xs.length c,.slice B ys.length d] w fun e w'=>e= .returned (.bool (decide (xs=ys)))/\Below w.heap.size w w':=by
 have HX:=am hx;have HY:=am hy;have hm:=Kd.C_max hx;clear hx hy;by_cases hl:xs.length=ys.length
 ·have hlb:((xs.length:Int) != (ys.length:Int))=false:=by rw [hl];simp
  have HL:=am hl;clear hl;go_enter Try.func81,Try.ntmps81;go_wp2;have HLB:=am hlb;clear hlb;go_loopw [5] (fun v w'=>∃ k:Nat,k<=xs.length/\v= .int .i64 k/\Aside0 (∀ j,j < k->xs[j]? = ys[j]?)/\Aside0 (Below w.heap.size w w')) (fun v _=>xs.length - (intOf v).toNat)
  case atStart=>exact ⟨0,Nat.zero_le _,rfl,⟨fun j hj=>by omega⟩,⟨Below.refl _ _⟩⟩
  case round=>
   obtain ⟨k,hk,rfl,HJ,HB⟩:=hrel;by_cases hlt:k < xs.length
   ·have hlt2:k < ys.length:=by rw [<-HL.out];exact hlt
    have h0:(0:Int)<=(k:Int):=by omega
    have h1:(k:Int) < (xs.length:Int):=by omega
    have h2:(k:Int) < (ys.length:Int):=by omega
    obtain ⟨ax,cs,rfl,hcl,hK,hcc⟩:=Kd.C_get (Kd.C_below HX.out HB.out) zCell (k:Int) h0 h1;obtain ⟨ay,ds,rfl,hdl,hL,hdd⟩:=Kd.C_get (Kd.C_below HY.out HB.out) zCell (k:Int) h0 h2;simp only [Int.toNat_natCast] at hK hcc hL hdd;have HK:=am hK;have HCC:=am hcc;have HK2:=am hL;have HDD:=am hdd;clear hK hcc hL hdd;go_wp2;refine wp_region_still_tail 8 (by kernel_rfl) (by kernel_rfl) ?_;simp only [List.take_succ_cons,List.take_zero,List.drop_succ_cons,List.drop_zero];iterate 3 still_step
    refine still_load_struct rfl 53 (.tmp 19) rfl ax (k*3) rfl cs _ HCC.out (by rw [hcl];decide) Try.underlying53 rfl (by rw [hcl];kernel_rfl) ?_;iterate 3 still_step
    refine still_load_struct rfl 53 (.tmp 23) rfl ay (k*3) rfl ds _ HDD.out (by rw [hdl];decide) Try.underlying53 rfl (by rw [hdl];kernel_rfl) ?_;refine wpStill_nil ?_;by_cases he:xs.getD k zCell=ys.getD k zCell
    ·have HE:=am he
     clear he;go_wp2_with (go_at_call 114;refine (eqCell_calls _ _ _ _ _ (kCell.K_below (below_drew (Below.refl _ _)) HK.out) (kCell.K_below (below_drew (Below.refl _ _)) HK2.out)).mono ?_;rw [decide_eq_true HE.out];rintro e w1 ⟨rfl,hb⟩;have HB1:=am (below_step (below_drew HB.out) hb);clear hb HB)
     go_roundw
     case rel=>exact ⟨k+1,by omega,by go_num,⟨fun j hj=>agree_step HJ.out hlt hlt2 HE.out hj⟩,HB1⟩
     case measure=>simp [intOf];omega
    ·have HE:=am he
     clear he;go_wp2_with (go_at_call 114;refine (eqCell_calls _ _ _ _ _ (kCell.K_below (below_drew (Below.refl _ _)) HK.out) (kCell.K_below (below_drew (Below.refl _ _)) HK2.out)).mono ?_;rw [decide_eq_false HE.out];rintro e w1 ⟨rfl,hb⟩;have HB1:=am (below_step (below_drew HB.out) hb);clear hb HB)
     go_ret;exact ⟨ret_bool (decide_eq_false (fun h=>HE.out (by rw [h]))).symm,HB1.out⟩
   ·go_wp2
    go_ret;exact ⟨ret_bool (decide_eq_true (agree_all xs ys HL.out (fun j hj=>HJ.out j (by omega)))).symm,HB.out⟩
 ·have hlb:((xs.length:Int) != (ys.length:Int))=true:=by simp;omega
  have hlc:(xs.length != ys.length)=true:=by simp;omega
  have hld:(xs.length == ys.length)=false:=by simp;omega
  have HL:=am hl;clear hl;go_enter Try.func81,Try.ntmps81;go_wp2;go_ret;exact ⟨ret_bool (decide_eq_false (fun h=>HL.out (by rw [h]))).symm,Below.refl _ _⟩
theorem Task_ext (x y:Task):x=y ↔ x.body=y.body/\x.pc=y.pc/\x.up=y.up/\x.regs=y.regs/\x.way=y.way/\x.stage=y.stage/\x.at_=y.at_/\x.since=y.since/\x.old=y.old/\x.reads=y.reads/\x.puts=y.puts/\x.when_=y.when_/\x.from_=y.from_:=by cases x;cases y;simp
theorem eqTask_calls (x y:Task) (cs ds:List Value) (w:World) (hx:kTask.K w x cs) (hy:kTask.K w y ds):
  Calls Try.prog 115 #[.agg cs.toArray,.agg ds.toArray] w fun e w'=>e= .returned (.bool (decide (x=y)))/\Below w.heap.size w w':=by
 obtain ⟨A3,c3,A8,c8,A9,c9,A10,c10,rfl,l3,g3,l8,g8,l9,g9,l10,g10⟩:=kTask_open hx;obtain ⟨B3,d3,B8,d8,B9,d9,B10,d10,rfl,m3,h3,m8,h8,m9,h9,m10,h10⟩:=kTask_open hy;have G:=am (And.intro g3 (And.intro g8 (And.intro g9 g10)));have H:=am (And.intro h3 (And.intro h8 (And.intro h9 h10)));clear g3 g8 g9 g10 h3 h8 h9 h10 l3 l8 l9 l10 m3 m8 m9 m10 hx hy;go_enter Try.func115,Try.ntmps115;have HB:=am (Below.refl w.heap.size w)
 go_wp2_with (first
 |(go_at_call 79;refine (eqIntS_calls _ _ _ _ _ _ _ ?h1 ?h2).mono ?_;(case h1=>exact Kd.C_below (w:=w) (by first|exact G.out.1 | exact G.out.2.1) (by repeat (first|with_reducible exact HB.out | with_reducible refine below_alloc ?_ _ | with_reducible refine pw_below_drewN ?_ _)));(case h2=>exact Kd.C_below (w:=w) (by first|exact H.out.1 | exact H.out.2.1) (by repeat (first|with_reducible exact HB.out | with_reducible refine below_alloc ?_ _ | with_reducible refine pw_below_drewN ?_ _)));rintro e w1 ⟨rfl,⟨n,rfl⟩⟩)
 |(go_at_call 134;refine (eqPutS_calls _ _ _ _ _ _ _ ?h1 ?h2).mono ?_;(case h1=>exact Kd.C_below (w:=w) (by first|exact G.out.2.2.1 | exact G.out.2.2.2) (by repeat (first|with_reducible exact HB.out | with_reducible refine below_alloc ?_ _ | with_reducible refine pw_below_drewN ?_ _)));(case h2=>exact Kd.C_below (w:=w) (by first|exact H.out.2.2.1 | exact H.out.2.2.2) (by repeat (first|with_reducible exact HB.out | with_reducible refine below_alloc ?_ _ | with_reducible refine pw_below_drewN ?_ _)));rintro e w1 ⟨rfl,hb⟩;replace HB:=am (below_step (w:=w) (by repeat (first|with_reducible exact HB.out | with_reducible refine below_alloc ?_ _ | with_reducible refine pw_below_drewN ?_ _)) hb);have hz:=bsize hb;(try simp at hz);have q0:w.heap.size < w1.heap.size:=(by omega);have q1:w.heap.size+1 < w1.heap.size:=(by omega);clear hz;obtain ⟨hc,hf⟩:=bcell hb;clear hb))
 all_goals (go_ret;refine ⟨ret_bool ?_,(by repeat (first|with_reducible exact HB.out | with_reducible refine below_alloc ?_ _ | with_reducible refine pw_below_drewN ?_ _))⟩)
 all_goals (first|(rw [decide_eq_true];simp_all [Task_ext];done)|(rw [decide_eq_false];simp_all [Task_ext];done))
theorem Entry_ext (x y:Entry):x=y ↔ x.task=y.task/\x.act=y.act/\x.when_=y.when_/\x.reads=y.reads/\x.puts=y.puts/\x.from_=y.from_:=by cases x;cases y;simp
theorem eqEntry_calls (x y:Entry) (cs ds:List Value) (w:World) (hx:kEntry.K w x cs) (hy:kEntry.K w y ds):
  Calls Try.prog 116 #[.agg cs.toArray,.agg ds.toArray] w fun e w'=>e= .returned (.bool (decide (x=y)))/\Below w.heap.size w w':=by
 obtain ⟨A3,c3,A8,c8,rfl,l3,g3,l8,g8⟩:=kEntry_open hx;obtain ⟨B3,d3,B8,d8,rfl,m3,h3,m8,h8⟩:=kEntry_open hy;have G:=am (And.intro g3 g8);have H:=am (And.intro h3 h8);clear g3 g8 h3 h8 l3 l8 m3 m8 hx hy;go_enter Try.func116,Try.ntmps116;have HB:=am (Below.refl w.heap.size w)
 go_wp2_with (first
 |(go_at_call 134;refine (eqPutS_calls _ _ _ _ _ _ _ ?h1 ?h2).mono ?_;(case h1=>exact Kd.C_below (w:=w) (by first|exact G.out.1 | exact G.out.2) (by repeat (first|with_reducible exact HB.out | with_reducible refine below_alloc ?_ _ | with_reducible refine pw_below_drewN ?_ _)));(case h2=>exact Kd.C_below (w:=w) (by first|exact H.out.1 | exact H.out.2) (by repeat (first|with_reducible exact HB.out | with_reducible refine below_alloc ?_ _ | with_reducible refine pw_below_drewN ?_ _)));rintro e w1 ⟨rfl,hb⟩;replace HB:=am (below_step (w:=w) (by repeat (first|with_reducible exact HB.out | with_reducible refine below_alloc ?_ _ | with_reducible refine pw_below_drewN ?_ _)) hb);have hz:=bsize hb;(try simp at hz);have q0:w.heap.size < w1.heap.size:=(by omega);have q1:w.heap.size+1 < w1.heap.size:=(by omega);clear hz;obtain ⟨hc,hf⟩:=bcell hb;clear hb))
 all_goals (go_ret;refine ⟨ret_bool ?_,(by repeat (first|with_reducible exact HB.out | with_reducible refine below_alloc ?_ _ | with_reducible refine pw_below_drewN ?_ _))⟩)
 all_goals (first|(rw [decide_eq_true];simp_all [Entry_ext];done)|(rw [decide_eq_false];simp_all [Entry_ext];done))
theorem eqTaskS_calls (xs ys:List Task) (A B:Option Addr) (c d:Nat) (w:World) (hx:kTask.C w A xs.length xs) (hy:kTask.C w B ys.length ys):
  Calls Try.prog 82 #[.slice A xs.length c,.slice B ys.length d] w fun e w'=>e= .returned (.bool (decide (xs=ys)))/\Below w.heap.size w w':=by
 have HX:=am hx;have HY:=am hy;have hm:=Kd.C_max hx;clear hx hy;by_cases hl:xs.length=ys.length
 ·have hlb:((xs.length:Int) != (ys.length:Int))=false:=by rw [hl];simp
  have HL:=am hl;clear hl;go_enter Try.func82,Try.ntmps82;go_wp2;have HLB:=am hlb;clear hlb;go_loopw [5] (fun v w'=>∃ k:Nat,k<=xs.length/\v= .int .i64 k/\Aside0 (∀ j,j < k->xs[j]? = ys[j]?)/\Aside0 (Below w.heap.size w w')) (fun v _=>xs.length - (intOf v).toNat)
  case atStart=>exact ⟨0,Nat.zero_le _,rfl,⟨fun j hj=>by omega⟩,⟨Below.refl _ _⟩⟩
  case round=>
   obtain ⟨k,hk,rfl,HJ,HB⟩:=hrel;by_cases hlt:k < xs.length
   ·have hlt2:k < ys.length:=by rw [<-HL.out];exact hlt
    have h0:(0:Int)<=(k:Int):=by omega
    have h1:(k:Int) < (xs.length:Int):=by omega
    have h2:(k:Int) < (ys.length:Int):=by omega
    obtain ⟨ax,cs,rfl,hcl,hK,hcc⟩:=Kd.C_get (Kd.C_below HX.out HB.out) zTask (k:Int) h0 h1;obtain ⟨ay,ds,rfl,hdl,hL,hdd⟩:=Kd.C_get (Kd.C_below HY.out HB.out) zTask (k:Int) h0 h2;simp only [Int.toNat_natCast] at hK hcc hL hdd;have HK:=am hK;have HCC:=am hcc;have HK2:=am hL;have HDD:=am hdd;clear hK hcc hL hdd;go_wp2;refine wp_region_still_tail 8 (by kernel_rfl) (by kernel_rfl) ?_;simp only [List.take_succ_cons,List.take_zero,List.drop_succ_cons,List.drop_zero];iterate 3 still_step
    refine still_load_struct rfl 38 (.tmp 19) rfl ax (k*13) rfl cs _ HCC.out (by rw [hcl];decide) Try.underlying38 rfl (by rw [hcl];kernel_rfl) ?_;iterate 3 still_step
    refine still_load_struct rfl 38 (.tmp 23) rfl ay (k*13) rfl ds _ HDD.out (by rw [hdl];decide) Try.underlying38 rfl (by rw [hdl];kernel_rfl) ?_;refine wpStill_nil ?_;by_cases he:xs.getD k zTask=ys.getD k zTask
    ·have HE:=am he
     clear he;go_wp2_with (go_at_call 115;refine (eqTask_calls _ _ _ _ _ (kTask.K_below (below_drew (Below.refl _ _)) HK.out) (kTask.K_below (below_drew (Below.refl _ _)) HK2.out)).mono ?_;rw [decide_eq_true HE.out];rintro e w1 ⟨rfl,hb⟩;have HB1:=am (below_step (below_drew HB.out) hb);clear hb HB)
     go_roundw
     case rel=>exact ⟨k+1,by omega,by go_num,⟨fun j hj=>agree_step HJ.out hlt hlt2 HE.out hj⟩,HB1⟩
     case measure=>simp [intOf];omega
    ·have HE:=am he
     clear he;go_wp2_with (go_at_call 115;refine (eqTask_calls _ _ _ _ _ (kTask.K_below (below_drew (Below.refl _ _)) HK.out) (kTask.K_below (below_drew (Below.refl _ _)) HK2.out)).mono ?_;rw [decide_eq_false HE.out];rintro e w1 ⟨rfl,hb⟩;have HB1:=am (below_step (below_drew HB.out) hb);clear hb HB)
     go_ret;exact ⟨ret_bool (decide_eq_false (fun h=>HE.out (by rw [h]))).symm,HB1.out⟩
   ·go_wp2
    go_ret;exact ⟨ret_bool (decide_eq_true (agree_all xs ys HL.out (fun j hj=>HJ.out j (by omega)))).symm,HB.out⟩
 ·have hlb:((xs.length:Int) != (ys.length:Int))=true:=by simp;omega
  have hlc:(xs.length != ys.length)=true:=by simp;omega
  have hld:(xs.length == ys.length)=false:=by simp;omega
  have HL:=am hl;clear hl;go_enter Try.func82,Try.ntmps82;go_wp2;go_ret;exact ⟨ret_bool (decide_eq_false (fun h=>HL.out (by rw [h]))).symm,Below.refl _ _⟩
theorem eqEntryS_calls (xs ys:List Entry) (A B:Option Addr) (c d:Nat) (w:World) (hx:kEntry.C w A xs.length xs) (hy:kEntry.C w B ys.length ys):
  Calls Try.prog 83 #[.slice A xs.length c,.slice B ys.length d] w fun e w'=>e= .returned (.bool (decide (xs=ys)))/\Below w.heap.size w w':=by
 have HX:=am hx;have HY:=am hy;have hm:=Kd.C_max hx;clear hx hy;by_cases hl:xs.length=ys.length
 ·have hlb:((xs.length:Int) != (ys.length:Int))=false:=by rw [hl];simp
  have HL:=am hl;clear hl;go_enter Try.func83,Try.ntmps83;go_wp2;have HLB:=am hlb;clear hlb;go_loopw [5] (fun v w'=>∃ k:Nat,k<=xs.length/\v= .int .i64 k/\Aside0 (∀ j,j < k->xs[j]? = ys[j]?)/\Aside0 (Below w.heap.size w w')) (fun v _=>xs.length - (intOf v).toNat)
  case atStart=>exact ⟨0,Nat.zero_le _,rfl,⟨fun j hj=>by omega⟩,⟨Below.refl _ _⟩⟩
  case round=>
   obtain ⟨k,hk,rfl,HJ,HB⟩:=hrel;by_cases hlt:k < xs.length
   ·have hlt2:k < ys.length:=by rw [<-HL.out];exact hlt
    have h0:(0:Int)<=(k:Int):=by omega
    have h1:(k:Int) < (xs.length:Int):=by omega
    have h2:(k:Int) < (ys.length:Int):=by omega
    obtain ⟨ax,cs,rfl,hcl,hK,hcc⟩:=Kd.C_get (Kd.C_below HX.out HB.out) zEntry (k:Int) h0 h1;obtain ⟨ay,ds,rfl,hdl,hL,hdd⟩:=Kd.C_get (Kd.C_below HY.out HB.out) zEntry (k:Int) h0 h2;simp only [Int.toNat_natCast] at hK hcc hL hdd;have HK:=am hK;have HCC:=am hcc;have HK2:=am hL;have HDD:=am hdd;clear hK hcc hL hdd;go_wp2;refine wp_region_still_tail 8 (by kernel_rfl) (by kernel_rfl) ?_;simp only [List.take_succ_cons,List.take_zero,List.drop_succ_cons,List.drop_zero];iterate 3 still_step
    refine still_load_struct rfl 119 (.tmp 19) rfl ax (k*6) rfl cs _ HCC.out (by rw [hcl];decide) Try.underlying119 rfl (by rw [hcl];kernel_rfl) ?_;iterate 3 still_step
    refine still_load_struct rfl 119 (.tmp 23) rfl ay (k*6) rfl ds _ HDD.out (by rw [hdl];decide) Try.underlying119 rfl (by rw [hdl];kernel_rfl) ?_;refine wpStill_nil ?_;by_cases he:xs.getD k zEntry=ys.getD k zEntry
    ·have HE:=am he
     clear he;go_wp2_with (go_at_call 116;refine (eqEntry_calls _ _ _ _ _ (kEntry.K_below (below_drew (Below.refl _ _)) HK.out) (kEntry.K_below (below_drew (Below.refl _ _)) HK2.out)).mono ?_;rw [decide_eq_true HE.out];rintro e w1 ⟨rfl,hb⟩;have HB1:=am (below_step (below_drew HB.out) hb);clear hb HB)
     go_roundw
     case rel=>exact ⟨k+1,by omega,by go_num,⟨fun j hj=>agree_step HJ.out hlt hlt2 HE.out hj⟩,HB1⟩
     case measure=>simp [intOf];omega
    ·have HE:=am he
     clear he;go_wp2_with (go_at_call 116;refine (eqEntry_calls _ _ _ _ _ (kEntry.K_below (below_drew (Below.refl _ _)) HK.out) (kEntry.K_below (below_drew (Below.refl _ _)) HK2.out)).mono ?_;rw [decide_eq_false HE.out];rintro e w1 ⟨rfl,hb⟩;have HB1:=am (below_step (below_drew HB.out) hb);clear hb HB)
     go_ret;exact ⟨ret_bool (decide_eq_false (fun h=>HE.out (by rw [h]))).symm,HB1.out⟩
   ·go_wp2
    go_ret;exact ⟨ret_bool (decide_eq_true (agree_all xs ys HL.out (fun j hj=>HJ.out j (by omega)))).symm,HB.out⟩
 ·have hlb:((xs.length:Int) != (ys.length:Int))=true:=by simp;omega
  have hlc:(xs.length != ys.length)=true:=by simp;omega
  have hld:(xs.length == ys.length)=false:=by simp;omega
  have HL:=am hl;clear hl;go_enter Try.func83,Try.ntmps83;go_wp2;go_ret;exact ⟨ret_bool (decide_eq_false (fun h=>HL.out (by rw [h]))).symm,Below.refl _ _⟩
theorem Sys_ext (x y:Sys):x=y ↔ x.cells=y.cells/\x.tasks=y.tasks/\x.clock=y.clock/\x.log=y.log:=by cases x;cases y;simp
theorem eqSys_calls (x y:Sys) (cs ds:List Value) (w:World) (hx:kSys.K w x cs) (hy:kSys.K w y ds):
  Calls Try.prog 44 #[.agg cs.toArray,.agg ds.toArray] w fun e w'=>e= .returned (.bool (decide (x=y)))/\Below w.heap.size w w':=by
 obtain ⟨A0,c0,A1,c1,A3,c3,rfl,l0,g0,l1,g1,l3,g3⟩:=kSys_open hx;obtain ⟨B0,d0,B1,d1,B3,d3,rfl,m0,h0,m1,h1,m3,h3⟩:=kSys_open hy;have G:=am (And.intro g0 (And.intro g1 g3));have H:=am (And.intro h0 (And.intro h1 h3));clear g0 g1 g3 h0 h1 h3 l0 l1 l3 m0 m1 m3 hx hy;go_enter Try.func44,Try.ntmps44;have HB:=am (Below.refl w.heap.size w)
 go_wp2_with (first
 |(go_at_call 81;refine (eqCellS_calls _ _ _ _ _ _ _ ?h1 ?h2).mono ?_;(case h1=>exact Kd.C_below (w:=w) (by first|exact G.out.1) (by repeat (first|with_reducible exact HB.out | with_reducible refine below_alloc ?_ _ | with_reducible refine pw_below_drewN ?_ _)));(case h2=>exact Kd.C_below (w:=w) (by first|exact H.out.1) (by repeat (first|with_reducible exact HB.out | with_reducible refine below_alloc ?_ _ | with_reducible refine pw_below_drewN ?_ _)));rintro e w1 ⟨rfl,hb⟩;replace HB:=am (below_step (w:=w) (by repeat (first|with_reducible exact HB.out | with_reducible refine below_alloc ?_ _ | with_reducible refine pw_below_drewN ?_ _)) hb);have hz:=bsize hb;(try simp at hz);have q0:w.heap.size < w1.heap.size:=(by omega);have q1:w.heap.size+1 < w1.heap.size:=(by omega);clear hz;obtain ⟨hc,hf⟩:=bcell hb;clear hb)
 |(go_at_call 82;refine (eqTaskS_calls _ _ _ _ _ _ _ ?h1 ?h2).mono ?_;(case h1=>exact Kd.C_below (w:=w) (by first|exact G.out.2.1) (by repeat (first|with_reducible exact HB.out | with_reducible refine below_alloc ?_ _ | with_reducible refine pw_below_drewN ?_ _)));(case h2=>exact Kd.C_below (w:=w) (by first|exact H.out.2.1) (by repeat (first|with_reducible exact HB.out | with_reducible refine below_alloc ?_ _ | with_reducible refine pw_below_drewN ?_ _)));rintro e w1 ⟨rfl,hb⟩;replace HB:=am (below_step (w:=w) (by repeat (first|with_reducible exact HB.out | with_reducible refine below_alloc ?_ _ | with_reducible refine pw_below_drewN ?_ _)) hb);have hz:=bsize hb;(try simp at hz);have q0:w.heap.size < w1.heap.size:=(by omega);have q1:w.heap.size+1 < w1.heap.size:=(by omega);clear hz;obtain ⟨hc,hf⟩:=bcell hb;clear hb)
 |(go_at_call 83;refine (eqEntryS_calls _ _ _ _ _ _ _ ?h1 ?h2).mono ?_;(case h1=>exact Kd.C_below (w:=w) (by first|exact G.out.2.2) (by repeat (first|with_reducible exact HB.out | with_reducible refine below_alloc ?_ _ | with_reducible refine pw_below_drewN ?_ _)));(case h2=>exact Kd.C_below (w:=w) (by first|exact H.out.2.2) (by repeat (first|with_reducible exact HB.out | with_reducible refine below_alloc ?_ _ | with_reducible refine pw_below_drewN ?_ _)));rintro e w1 ⟨rfl,hb⟩;replace HB:=am (below_step (w:=w) (by repeat (first|with_reducible exact HB.out | with_reducible refine below_alloc ?_ _ | with_reducible refine pw_below_drewN ?_ _)) hb);have hz:=bsize hb;(try simp at hz);have q0:w.heap.size < w1.heap.size:=(by omega);have q1:w.heap.size+1 < w1.heap.size:=(by omega);clear hz;obtain ⟨hc,hf⟩:=bcell hb;clear hb))
 all_goals (go_ret;refine ⟨ret_bool ?_,(by repeat (first|with_reducible exact HB.out | with_reducible refine below_alloc ?_ _ | with_reducible refine pw_below_drewN ?_ _))⟩)
 all_goals (first|(rw [decide_eq_true];simp_all [Sys_ext];done)|(rw [decide_eq_false];simp_all [Sys_ext];done))
def pickTo (p:Nat->Bool) (k:Nat):List Int:=((List.range k).filter p).map fun (i:Nat)=>(i:Int)
theorem pickTo_yes {p:Nat->Bool} {k:Nat} (h:p k=true):pickTo p (k+1)=pickTo p k ++ [(k:Int)]:=by
 simp [pickTo,List.range_succ,List.filter_append,h]
theorem pickTo_no {p:Nat->Bool} {k:Nat} (h:p k=false):pickTo p (k+1)=pickTo p k:=by
 simp [pickTo,List.range_succ,List.filter_append,h]
theorem pickTo_length (p:Nat->Bool) (k:Nat):(pickTo p k).length<=k:=by
 simp only [pickTo,List.length_map];exact Nat.le_trans (List.length_filter_le _ _) (by simp)
def taskAt (ts:List Task) (i:Nat):Task:=ts.getD i zTask
def isKid (ts:List Task) (task:Int) (i:Nat):Bool:=decide (0<=task) && decide ((taskAt ts i).up=task) && decide (task < (i:Int))
def kids (ts:List Task) (task:Int):List Int:=pickTo (isKid ts task) ts.length
def isLive (t:Task):Bool:=decide (t.way=0) || decide (t.way=1)
theorem pickTo_none {p:Nat->Bool} {k:Nat} (h:∀ i,i < k->p i=false):pickTo p k= []:=by
 induction k with
 | zero=>rfl
 | succ k ih=>rw [pickTo_no (h k (by omega)),ih (fun i hi=>h i (by omega))]
theorem kids_out {ts:List Task} {task:Int} (h:¬ (0<=task/\task < ts.length)):kids ts task= []:=by
 refine pickTo_none (fun i hi=> ?_);unfold isKid;by_cases h0:0<=task
 ·have:¬ task < (i:Int):=by omega
  simp [this]
 ·simp [h0]
theorem info_int:(Try.prog.info? 3).map (fun i=>(i.zero,i.size,i.bytes))=some (some (.int .i64 0),1,8):=by kernel_rfl
theorem isPlace_calls (a n:Int) (w:World):Calls Try.prog 51 #[.int .i64 a,.int .i64 n] w fun e w'=>e= .returned (.bool (decide (0<=a) && decide (a < n)))/\w=w':=by
 by_cases h:0<=a
 ·have hb:decide (0<=a)=true:=decide_eq_true h
  go_enter Try.func51,Try.ntmps51;go_wp2;go_ret;exact ⟨by simp [h],rfl⟩
 ·have hb:decide (0<=a)=false:=decide_eq_false h
  go_enter Try.func51,Try.ntmps51;go_wp2;go_ret;exact ⟨by simp [h],rfl⟩
theorem l6In_calls (a l h:Int) (w:World):Calls Try.prog 50 #[.int .i64 a,.int .i64 l,.int .i64 h] w fun e w'=>e= .returned (.bool (decide (l<=a) && decide (a<=h)))/\w=w':=by
 by_cases h0:l<=a
 ·have hb:decide (l<=a)=true:=decide_eq_true h0
  go_enter Try.func50,Try.ntmps50;go_wp2;go_ret;exact ⟨by simp [h0],rfl⟩
 ·have hb:decide (l<=a)=false:=decide_eq_false h0
  go_enter Try.func50,Try.ntmps50;go_wp2;go_ret;exact ⟨by simp [h0],rfl⟩
theorem live_calls (x:Task) (cs:List Value) (w:World) (hx:kTask.K w x cs):
  Calls Try.prog 46 #[.agg cs.toArray] w fun e w'=>e= .returned (.bool (isLive x))/\Below w.heap.size w w':=by
 obtain ⟨A3,c3,A8,c8,A9,c9,A10,c10,rfl,l3,g3,l8,g8,l9,g9,l10,g10⟩:=kTask_open hx;clear l3 g3 l8 g8 l9 g9 l10 g10 hx;by_cases h:x.way=0
 ·have hb:(x.way == 0)=true:=by simp [h]
  have H:=am h;clear h;go_enter Try.func46,Try.ntmps46;go_wp2;go_ret;exact ⟨ret_bool (by simp [isLive,H.out]),below_alloc (Below.refl _ _) _⟩
 ·have hb:(x.way == 0)=false:=by simp [h]
  have H:=am h;clear h;go_enter Try.func46,Try.ntmps46;go_wp2;go_ret;exact ⟨ret_bool (by simp only [isLive,decide_eq_false H.out,Bool.false_or];rw [Bool.eq_iff_iff];simp),below_alloc (Below.refl _ _) _⟩
end Go.Proofs.Ytimamoimphjakaa.Eq

namespace Go.Proofs.Ytimamoimphjakaa.Eq
open Go.RowKit Go.Proofs.YtimamoimphjakaaW.PrintWords Go.Proofs.YtimamoimphjakaaW.PrintLast Go.Proofs.YtimamoimphjakaaW.PrintMore
theorem implKids_calls (s:Sys) (cs:List Value) (task:Int) (w:World) (hx:kSys.K w s cs) (hn:s.tasks.length<=1048576):
  Calls Try.prog 31 #[.agg cs.toArray,.int .i64 task] w fun e w'=>∃ v,e= .returned v/\(Kd.int .i64).R 3 w' w.heap.size (fun _=>True) v (kids s.tasks task)/\Below w.heap.size w w':=by
 obtain ⟨A0,c0,A1,c1,A3,c3,rfl,l0,g0,l1,g1,l3,g3⟩:=kSys_open hx;have G:=am g1;clear g0 g1 g3 l0 l1 l3 hx;go_enter Try.func31,Try.ntmps31;by_cases hp:0<=task/\task < s.tasks.length
 ·obtain ⟨m,rfl⟩:=Int.eq_ofNat_of_zero_le hp.1
  have hm:m < s.tasks.length:=by omega
  have HP:=am (show (decide (0<=(m:Int)) && decide ((m:Int) < (s.tasks.length:Int)))=true by simp;omega);clear hp;go_wp2_with (first|((with_reducible refine gate_dst (N:=2) rfl ?_);refine box_event rfl (N:=2) rfl (t:=27) (by go_simp<;>rfl) ?_;intro g hg w2 hbox hb;have BK:=am hbox;have HB:=am hb;have GE:=am (show w.heap.size<=g by omega);clear hbox hb hg;have hc:=zc8 BK.out)|(go_at_call 51;refine (isPlace_calls _ _ _).mono ?_;rw [HP.out];rintro e w1 ⟨rfl,rfl⟩))
  go_loopw [5,6] (fun v i w'=>∃ k:Nat,m+1<=k/\k<=s.tasks.length/\i= .int .i64 k/\Aside0 ((Kd.int .i64).R 3 w' w.heap.size (fun _=>True) v (pickTo (isKid s.tasks m) k))/\Aside0 (w'.heap[g]? = some (.cells #[.slice A0 s.cells.length c0,.slice A1 s.tasks.length c1,.int .i64 s.clock,.slice A3 s.log.length c3] 27 (0,0)))/\Aside0 (Below w.heap.size w w')) (fun _ i _=>s.tasks.length - (intOf i).toNat)
  case atStart=>exact ⟨m+1,Nat.le_refl _,hm,by go_num,⟨by rw [pickTo_none (fun i hi=>by unfold isKid;have:¬ (m:Int) < (i:Int):=(by omega);simp [this])];exact Kd.R_nil _ _ _ _ _⟩,BK,HB⟩
  case round=>
   clear BK HB hc;obtain ⟨k,hmk,hk,rfl,HO,BK,HB⟩:=hrel;have hlen:=pickTo_length (isKid s.tasks m) k;by_cases hlt:k < s.tasks.length
   · skip
     have BKc:=zc8 BK.out;obtain ⟨b,o,cs,rfl,hcl,hK,hcc,hc0⟩:=C_field (Kd.C_below G.out HB.out) zTask k hlt (by decide);rw [show s.tasks.getD k zTask=taskAt s.tasks k from rfl] at hK;obtain ⟨B3,d3,B8,d8,B9,d9,B10,d10,rfl,_,_,_,_,_,_,_,_⟩:=kTask_open hK;have h_up:=hcc 2 _ rfl;simp only [show kTask.sz=13 from rfl] at h_up;clear hcc hc0 hK hcl;have q0:(0:Int)<=(k:Int):=by omega
     have q1:(k:Int) < (s.tasks.length:Int):=by omega
     by_cases hy:(taskAt s.tasks k).up=(m:Int)
     ·have y1:((taskAt s.tasks k).up == (m:Int))=true:=by simp [hy]
      have HY:=am (show isKid s.tasks m k=true by simp [isKid,hy];omega);clear hy;go_wp2_with (first|((with_reducible refine gate_builtin (b:=.append) (xs:=#[.tmp 30,.tmp 32]) rfl ?_);at_builtin;refine Kd.R_append (Kd.int .i64) (w0:=w) w.heap.size rfl (.tmp 30) (.tmp 32) 29 3 (.int .i64 0) 8 rfl Try.underlying29 info_int rfl (by decide) (by omega) _ (pickTo (isKid s.tasks m) k) (k:Int) [.int .i64 (k:Int)] (fun _=>True) (fun _=>False) rfl rfl rfl (fun _ hk=>hk.elim) (fun _ _=>trivial) HO.out HB.out (below_size HB.out) (by omega) ?_;intro v1 w1 ho hb hg _;have BK1:=am (blk_grown BK.out hg (Kd.R_ne HO.out BK.out (by decide)));have HO1:=am ho;have HB1:=am hb;clear ho hb hg HO HB BK))
      go_roundw
      case rel=>exact ⟨k+1,by omega,by omega,by go_num,⟨by rw [pickTo_yes HY.out];exact HO1.out⟩,BK1,HB1⟩
      case measure=>simp [intOf];omega
     ·have y1:((taskAt s.tasks k).up == (m:Int))=false:=by simp [hy]
      have HY:=am (show isKid s.tasks m k=false by simp [isKid,hy]);clear hy;go_wp2;go_roundw
      case rel=>exact ⟨k+1,by omega,by omega,by go_num,⟨by rw [pickTo_no HY.out];exact HO.out⟩,BK,HB⟩
      case measure=>simp [intOf];omega
   ·have BKc:=zc8 BK.out
    go_wp2;go_ret;obtain rfl:k=s.tasks.length:=by omega
    exact ⟨_,rfl,HO.out,HB.out⟩
 ·have HP:=am (show (decide (0<=task) && decide (task < (s.tasks.length:Int)))=false by simp;omega)
  have HN:=am (kids_out hp);clear hp;go_wp2_with (first|((with_reducible refine gate_dst (N:=2) rfl ?_);refine box_event rfl (N:=2) rfl (t:=27) (by go_simp<;>rfl) ?_;intro g hg w2 hbox hb;have BK:=am hbox;have HB:=am hb;have GE:=am (show w.heap.size<=g by omega);clear hbox hb hg;have hc:=zc8 BK.out)|(go_at_call 51;refine (isPlace_calls _ _ _).mono ?_;rw [HP.out];rintro e w1 ⟨rfl,rfl⟩))
  go_ret;exact ⟨_,rfl,by rw [HN.out];exact Kd.R_nil _ _ _ _ _,HB.out⟩
section
variable {P:Program} {ops:Array Oper} {Q:Exit->Go.Act->World->Prop} {md:Region.Mode} {S:World->Prop} {ds:List Nat}
def stillS (P:Program) (ops:Array Oper) (S:World->Prop):List Nat->(Go.Act->Prop)->Go.Act->Prop
 | [],K,a=>K a
 | i :: is,K,a=>∃ oi v,ops[i]? = some oi/\YieldsIf P ops S oi v a/\stillS P ops S is K (a.put oi.dst v)
theorem stillS_step {i:Nat} {is:List Nat} {K:Go.Act->Prop} {a:Go.Act} {v:Value} {N:Option Tmp} {op:Op} {ty:TypeId} {ps:String} {af:Array Edge} {gd:Option (Nat × Bool)} (hi:ops[i]? = some {dst:=N,op:=op,type:=ty,pos:=ps,after:=af,guard:=gd})
  (hy:YieldsIf P ops S {dst:=N,op:=op,type:=ty,pos:=ps,after:=af,guard:=gd} v a) {a':Go.Act} (ha:a.put N v=a') (h:stillS P ops S is K a'):stillS P ops S (i :: is) K a:=by
 subst ha;exact ⟨_,v,hi,hy,h⟩
theorem stillS_nil {K:Go.Act->Prop} {a:Go.Act} (h:K a):stillS P ops S [] K a:=h
def setAll (l:Array Bool):List Nat->Array Bool
 | []=>l
 | i :: is=>setAll (l.setIfInBounds i true) is
def batchB (md:Region.Mode) (ops:Array Oper) (ds:List Nat) (l:Array Bool):List Nat->Bool
 | []=>true
 | i :: is=>takeB md ops ds l (l.setIfInBounds i true) i && batchB md ops ds (l.setIfInBounds i true) is
theorem batch_go {w:World} (hQ:∀ N v c a w,Q (.panic c) (Go.Act.put a N v) w->Q (.panic c) a w) (hS:S w) {l':Array Bool} {fuel:Nat}:∀ (is:List Nat) (l:Array Bool) (a:Go.Act),batchB md ops ds l is=true->setAll l is=l'->
  stillS P ops S is (fun a'=>wpAnyLast P md ops Q S ds fuel l' a' w) a->wpAnyLast P md ops Q S ds (fuel+is.length) l a w
 | [],l,a,_,hl,h=>by
  subst hl
  exact h
 | i :: is,l,a,hB,hl,h=>by
  obtain ⟨oi,v,hi,hy,h⟩:=h;simp only [batchB,Bool.and_eq_true] at hB;exact take_ (l.setIfInBounds i true) hi rfl hB.1 (fun c a w=>hQ _ _ c a w) hy hS rfl (batch_go hQ hS is _ _ hB.2 hl h)
theorem batch_ {w:World} {fuel n:Nat} {l:Array Bool} {a:Go.Act} (is:List Nat) (l':Array Bool) (hc:(batchB md ops ds l is && (setAll l is == l') && (is.length == n))=true) (hQ:∀ N v c a w,Q (.panic c) (Go.Act.put a N v) w->Q (.panic c) a w) (hS:S w)
  (h:stillS P ops S is (fun a'=>wpAnyLast P md ops Q S ds fuel l' a' w) a):wpAnyLast P md ops Q S ds (fuel+n) l a w:=by
 simp only [Bool.and_eq_true,beq_iff_eq] at hc;obtain ⟨⟨h1,h2⟩,h3⟩:=hc;subst h3;exact batch_go hQ hS is l a h1 h2 h
end
section
variable {P:Program} {ops:Array Oper} {Q:Exit->Go.Act->World->Prop} {md:Region.Mode} {S:World->Prop} {ds:List Nat}
theorem ba9 {w:World} {fuel n:Nat} {l:Array Bool} {a:Go.Act} (is:List Nat) (hc:(batchB md ops ds l is && (is.length == n)) = true) (hQ:∀ N v c a w,Q (.panic c) (Go.Act.put a N v) w->Q (.panic c) a w) (hS:S w)
  (h:stillS P ops S is (fun a'=>wpAnyLast P md ops Q S ds fuel (setAll l is) a' w) a):wpAnyLast P md ops Q S ds (fuel+n) l a w:=batch_ is _ (by simpa [and_assoc] using hc) hQ hS h
end
end Go.Proofs.Ytimamoimphjakaa.Eq

namespace Go.Proofs.Ytimamoimphjakaa.Eq
open Go.RowKit Go.Proofs.YtimamoimphjakaaW.PrintWords Go.Proofs.YtimamoimphjakaaW.PrintLast
structure Deed where
 kind:Int
 a:Int
 b:Int
 deriving DecidableEq
def zDeed:Deed:=⟨0,0,0⟩
def kDeed:Kd Deed:=Kd.iso (Kd.pair (Kd.int .i64) (Kd.pair (Kd.int .i64) (Kd.int .i64))) (fun x:Deed=>(x.kind,x.a,x.b))
theorem kDeed_open {w:World} {x:Deed} {cs:List Value} (h:kDeed.K w x cs):cs= [.int .i64 x.kind,.int .i64 x.a,.int .i64 x.b]:=by
 obtain ⟨_,_,rfl,rfl,⟨_,_,rfl,rfl,rfl⟩⟩:=h;exact rfl
theorem kDeed_mkM {w:World} {base:Nat} {ok:Nat->Prop} (x:Deed):kDeed.M w base ok x [.int .i64 x.kind,.int .i64 x.a,.int .i64 x.b]:=
 ⟨[.int .i64 x.kind], [.int .i64 x.a,.int .i64 x.b],rfl,rfl,⟨[.int .i64 x.a], [.int .i64 x.b],rfl,rfl,rfl⟩⟩
structure Act where
 kind:Int
 deeds:List Deed
 kids:List Int
 reg:Int
 deriving DecidableEq
def zAct:Act:=⟨0, [], [],0⟩
def kAct:Kd Act:=Kd.iso (Kd.pair (Kd.int .i64) (Kd.pair (Kd.slice 111 kDeed) (Kd.pair (Kd.slice 3 (Kd.int .i64)) (Kd.int .i64)))) (fun x:Act=>(x.kind,x.deeds,x.kids,x.reg))
theorem kAct_open {w:World} {x:Act} {cs:List Value} (h:kAct.K w x cs):∃ A_deeds c_deeds A_kids c_kids,cs= [.int .i64 x.kind,.slice A_deeds x.deeds.length c_deeds,.slice A_kids x.kids.length c_kids,.int .i64 x.reg]/\x.deeds.length<=c_deeds/\kDeed.C w A_deeds x.deeds.length x.deeds/\x.kids.length<=c_kids/\(Kd.int .i64).C w A_kids x.kids.length x.kids:=by
 obtain ⟨_,_,rfl,rfl,⟨_,_,rfl,⟨A_deeds,c_deeds,rfl,l_deeds,g_deeds⟩,⟨_,_,rfl,⟨A_kids,c_kids,rfl,l_kids,g_kids⟩,rfl⟩⟩⟩:=h;exact ⟨A_deeds,c_deeds,A_kids,c_kids,rfl,l_deeds,g_deeds,l_kids,g_kids⟩
theorem kAct_mk {w:World} (x:Act) {A_deeds:Option Addr} {c_deeds:Nat} (l_deeds:x.deeds.length<=c_deeds) (g_deeds:kDeed.C w A_deeds x.deeds.length x.deeds) {A_kids:Option Addr} {c_kids:Nat} (l_kids:x.kids.length<=c_kids) (g_kids:(Kd.int .i64).C w A_kids x.kids.length x.kids):kAct.K w x [.int .i64 x.kind,.slice A_deeds x.deeds.length c_deeds,.slice A_kids x.kids.length c_kids,.int .i64 x.reg]:=
 ⟨[.int .i64 x.kind], [.slice A_deeds x.deeds.length c_deeds,.slice A_kids x.kids.length c_kids,.int .i64 x.reg],rfl,rfl,⟨[.slice A_deeds x.deeds.length c_deeds], [.slice A_kids x.kids.length c_kids,.int .i64 x.reg],rfl,⟨_,_,rfl,l_deeds,g_deeds⟩,⟨[.slice A_kids x.kids.length c_kids], [.int .i64 x.reg],rfl,⟨_,_,rfl,l_kids,g_kids⟩,rfl⟩⟩⟩
theorem kAct_mkM {w:World} {base:Nat} {ok:Nat->Prop} (x:Act) {v_deeds:Value} (g_deeds:kDeed.R 111 w base ok v_deeds x.deeds) {v_kids:Value} (g_kids:(Kd.int .i64).R 3 w base ok v_kids x.kids):kAct.M w base ok x [.int .i64 x.kind,v_deeds,v_kids,.int .i64 x.reg]:=
 ⟨[.int .i64 x.kind], [v_deeds,v_kids,.int .i64 x.reg],rfl,rfl,⟨[v_deeds], [v_kids,.int .i64 x.reg],rfl,⟨_,rfl,g_deeds⟩,⟨[v_kids], [.int .i64 x.reg],rfl,⟨_,rfl,g_kids⟩,rfl⟩⟩⟩
structure Prog where
 cells:List Int
 bodies:List (List Act)
 deriving DecidableEq
def kProg:Kd Prog:=Kd.iso (Kd.pair (Kd.slice 3 (Kd.int .i64)) (Kd.slice 104 (Kd.slice 108 kAct))) (fun x:Prog=>(x.cells,x.bodies))
theorem kProg_open {w:World} {x:Prog} {cs:List Value} (h:kProg.K w x cs):∃ A_cells c_cells A_bodies c_bodies,cs= [.slice A_cells x.cells.length c_cells,.slice A_bodies x.bodies.length c_bodies]/\x.cells.length<=c_cells/\(Kd.int .i64).C w A_cells x.cells.length x.cells/\x.bodies.length<=c_bodies/\(Kd.slice 108 kAct).C w A_bodies x.bodies.length x.bodies:=by
 obtain ⟨_,_,rfl,⟨A_cells,c_cells,rfl,l_cells,g_cells⟩,⟨A_bodies,c_bodies,rfl,l_bodies,g_bodies⟩⟩:=h;exact ⟨A_cells,c_cells,A_bodies,c_bodies,rfl,l_cells,g_cells,l_bodies,g_bodies⟩
theorem kProg_mkM {w:World} {base:Nat} {ok:Nat->Prop} (x:Prog) {v_cells:Value} (g_cells:(Kd.int .i64).R 3 w base ok v_cells x.cells) {v_bodies:Value} (g_bodies:(Kd.slice 108 kAct).R 104 w base ok v_bodies x.bodies):kProg.M w base ok x [v_cells,v_bodies]:=
 ⟨[v_cells], [v_bodies],rfl,⟨_,rfl,g_cells⟩,⟨_,rfl,g_bodies⟩⟩
end Go.Proofs.Ytimamoimphjakaa.Eq
namespace Go.Proofs.Ytimamoimphjakaa.Eq
def inB (n lo hi:Int):Bool:=decide (lo<=n) && decide (n<=hi)
theorem inB_iff {n lo hi:Int}:inB n lo hi=true ↔ lo<=n/\n<=hi:=by simp [inB]
def allB (n:Nat) (f:Nat->Bool):Bool:=decide (∀ i,i < n->f i=true)
theorem allB_iff {n:Nat} {f:Nat->Bool}:allB n f=true ↔ ∀ i,i < n->f i=true:=by simp [allB]
theorem allB_no {n i:Nat} {f:Nat->Bool} (hi:i < n) (h:f i=false):allB n f=false:=by
 rw [Bool.eq_false_iff];intro h';rw [allB_iff.1 h' i hi] at h;cases h
def cntTo (f:Nat->Bool):Nat->Nat
 | 0=>0
 | n+1=>cntTo f n+if f n then 1 else 0
theorem cntTo_le (f:Nat->Bool):∀ n,cntTo f n<=n
 | 0=>Nat.le_refl _
 | n+1=>by
  have:=cntTo_le f n
  unfold cntTo;split <;> omega
def putAt (xs:List Put) (i:Nat):Put:=xs.getD i zPut
def cellAt (xs:List Cell) (i:Nat):Cell:=xs.getD i zCell
def entryAt (xs:List Entry) (i:Nat):Entry:=xs.getD i zEntry
def actsAt (bs:List (List Act)) (i:Nat):List Act:=bs.getD i []
def actAt (xs:List Act) (i:Nat):Act:=xs.getD i zAct
def deedAt (xs:List Deed) (i:Nat):Deed:=xs.getD i zDeed
def numAt (xs:List Int) (i:Nat):Int:=xs.getD i 0
def deedOk (d:Deed) (cells:Int):Bool:=
 if d.kind=1 then inB d.a 0 2 && inB d.b 0 (cells - 1)
 else if d.kind=2 then inB d.a 0 (cells - 1) && inB d.b 0 2
 else if d.kind=3 then inB d.a 0 2 && inB d.b 0 99
 else if d.kind=4 then inB d.a 0 2 && inB d.b 0 2
 else if d.kind=5 then inB d.a 0 2 && decide (d.b=0)
 else false
def deedsOk (ds:List Deed) (cells:Int):Bool:=allB ds.length fun i=>deedOk (deedAt ds i) cells
def kidsOk (ks:List Int) (body bodies:Int):Bool:=allB ks.length (fun i=>inB (numAt ks i) (body+1) (bodies - 1)) && inB ks.length 1 2
def actOk (cells bodies body:Int) (a:Act):Bool:=
 if (a.kind ≠ 1/\a.deeds ≠ [])\/(a.kind ≠ 2/\a.kids ≠ [])\/(a.kind ≠ 4/\a.reg ≠ 0) then false
 else if a.kind=1 then deedsOk a.deeds cells && decide (a.deeds.length<=5)
 else if a.kind=2 then kidsOk a.kids body bodies
 else if a.kind=3 then true
 else if a.kind=4 then inB a.reg 0 2
 else false
def bodyOk (cells bodies body:Int) (acts:List Act):Bool:=decide (acts.length<=4) && allB acts.length fun k=>actOk cells bodies body (actAt acts k)
def formOk (p:Prog):Bool:=decide (p.cells.length<=3) && inB p.bodies.length 1 4 && allB p.cells.length (fun i=>inB (numAt p.cells i) 0 99) && allB p.bodies.length fun i=>bodyOk p.cells.length p.bodies.length i (actsAt p.bodies i)
def sumL {α:Type} (f:α->Nat):List α->Nat
 | []=>0
 | a :: l=>f a+sumL f l
def treeN (bs:List (List Act)):Nat->Int->Nat
 | 0,_=>1
 | n+1,b=>1+sumL (fun a:Act=>sumL (treeN bs n) a.kids) (actsAt bs b.toNat)
def treeOf (p:Prog) (b:Int):Nat:=treeN p.bodies 4 b
def progOk (p:Prog):Bool:=formOk p && decide (treeOf p 0<=7)
def listOk (xs:List Put) (cells:Int):Bool:=allB xs.length fun i=>inB (putAt xs i).cell 0 (cells - 1) && inB (putAt xs i).num 0 99 && (decide (i=0) || decide ((putAt xs (i - 1)).cell < (putAt xs i).cell))
def numsOk (xs:List Int) (size:Int):Bool:=allB xs.length (fun i=>inB (numAt xs i) 0 99) && decide ((xs.length:Int)=size)
def findP (xs:List Put) (cell:Int):Option Nat:=xs.findIdx? fun x=>decide (x.cell=cell)
def kidsN (ts:List Task) (task way:Int):Nat:=cntTo (fun k=>decide ((taskAt ts k).up=task) && decide ((taskAt ts k).way=way)) ts.length
def stOk (t:Task) (deeds:Int):Bool:=
 if t.stage=0 then decide (t.at_=0) && decide (t.reads.length+t.puts.length=0)
 else if t.stage=1 then inB t.at_ 0 deeds
 else if t.stage=3 then decide (t.at_=0) && decide (0 < t.puts.length)
 else if t.stage=4 then inB t.at_ 0 t.reads.length && decide (0 < t.puts.length)
 else inB t.at_ 0 (t.puts.length - 1)
def timesOk (t:Task) (s:Sys):Bool:=
 inB t.since 0 s.clock && inB t.from_ 0 s.log.length &&
  (if t.stage=0 then inB t.when_ 0 (s.clock+1) else if t.stage=4\/t.stage=5 then inB t.when_ (t.since+1) s.clock else decide (t.when_=0))
def wayOk (p:Prog) (s:Sys) (i:Nat):Bool:=
 let t:=taskAt s.tasks i
 let acts:=actsAt p.bodies t.body.toNat
 if t.way=0 then decide (t.stage=0) || (decide (t.pc < acts.length) && decide ((actAt acts t.pc.toNat).kind=1) && stOk t (actAt acts t.pc.toNat).deeds.length)
 else if t.way=1 then decide (t.pc < acts.length) && decide ((actAt acts t.pc.toNat).kind=2) && decide ((actAt acts t.pc.toNat).kids.length<=kidsN s.tasks i 0+kidsN s.tasks i 1+kidsN s.tasks i 2+kidsN s.tasks i 3)
 else if t.way=2 then decide (t.pc=acts.length)
 else true
def upsOk (s:Sys) (i:Nat):Bool:=
 let t:=taskAt s.tasks i
 if i=0 then decide (t.up= -1)
 else inB t.up 0 (i - 1) && (!isLive t || decide ((taskAt s.tasks t.up.toNat).way=1))
def taskOk (p:Prog) (s:Sys) (i:Nat):Bool:=
 let t:=taskAt s.tasks i
 inB t.body 0 (p.bodies.length - 1) && inB t.pc 0 (actsAt p.bodies t.body.toNat).length && inB t.way 0 4 && inB t.stage 0 5 &&
  (decide (t.way=0) || decide (t.stage=0)) && numsOk t.regs 3 && numsOk t.old 3 && listOk t.reads s.cells.length && listOk t.puts s.cells.length &&
  (!decide (t.stage=0) || (decide (t.at_=0) && decide (t.reads.length+t.puts.length=0))) && timesOk t s && upsOk s i && wayOk p s i
def holds (t:Task) (cell:Int):Bool:=
 match findP t.puts cell with
 | none=>false
 | some i=>if t.stage=2 then decide ((i:Int) < t.at_) else if t.stage=3\/t.stage=4 then true else if t.stage=5 then decide (t.at_<=i) else false
def cellsOk (s:Sys):Bool:=allB s.cells.length fun i=>
 let c:=cellAt s.cells i
 inB c.num 0 99 && inB c.time 0 s.clock && inB c.lock (-1) (s.tasks.length - 1) && allB s.tasks.length fun k=>decide (holds (taskAt s.tasks k) i=decide (c.lock=k))
def logOk (p:Prog) (s:Sys):Bool:=allB s.log.length fun i=>
 let e:=entryAt s.log i
 inB e.task 0 (s.tasks.length - 1) && inB e.when_ 0 s.clock && inB e.from_ 0 i && listOk e.reads s.cells.length && listOk e.puts s.cells.length &&
  inB e.act 0 ((actsAt p.bodies (taskAt s.tasks e.task.toNat).body.toNat).length - 1)
def sysOk (p:Prog) (s:Sys):Bool:=
 progOk p && decide (s.cells.length=p.cells.length) && inB s.tasks.length 1 7 && inB s.clock 0 200 && allB s.tasks.length (taskOk p s) && cellsOk s && logOk p s
end Go.Proofs.Ytimamoimphjakaa.Eq












namespace Go.Proofs.Ytimamoimphjakaa.Eq
structure PutsIn (n:Nat) (l:List Put):Prop where
 cell:∀ x ∈ l,0<=x.cell/\x.cell < n
 num:∀ x ∈ l,0<=x.num/\x.num<=99
 asc:l.Pairwise fun x y=>x.cell < y.cell
theorem numAt_set {l:List Int} {k j:Nat} {x:Int} (hk:k < l.length):numAt (l.set k x) j=if k=j then x else numAt l j:=by
 simp only [numAt,List.getD_eq_getElem?_getD,List.getElem?_set];split
 ·rename_i h
  subst h;simp [hk]
 ·rfl
theorem actsAt_eq {bs:List (List Act)} {i:Nat} (h:i < bs.length):actsAt bs i=bs[i]:=by simp [actsAt,h]
theorem form_act {p:Prog} (h:formOk p=true) {b:Int} (hb:0<=b/\b < p.bodies.length) {k:Nat} (hk:k < (actsAt p.bodies b.toNat).length):actOk p.cells.length p.bodies.length b (actAt (actsAt p.bodies b.toNat) k)=true:=by
 simp only [formOk,Bool.and_eq_true,allB_iff] at h
 have:=h.2 b.toNat (by omega)
 simp only [bodyOk,Bool.and_eq_true,allB_iff] at this;have h2:=this.2 k hk;rwa [show ((b.toNat:Nat):Int)=b by omega] at h2
theorem form_acts {p:Prog} (h:formOk p=true) {b:Int} (hb:0<=b/\b < p.bodies.length):(actsAt p.bodies b.toNat).length<=4:=by
 simp only [formOk,Bool.and_eq_true,allB_iff] at h
 have:=h.2 b.toNat (by omega)
 simp only [bodyOk,Bool.and_eq_true,decide_eq_true_eq] at this;exact this.1
theorem form_cells {p:Prog} (h:formOk p=true):p.cells.length<=3/\1<=p.bodies.length/\p.bodies.length<=4:=by
 simp only [formOk,Bool.and_eq_true,decide_eq_true_eq,inB_iff] at h;omega
theorem act_kids {cells bodies body:Int} {a:Act} (h:actOk cells bodies body a=true) (hk:a.kind=2):a.kids.length<=2/\1<=a.kids.length/\∀ k,k < a.kids.length->body+1<=numAt a.kids k/\numAt a.kids k<=bodies - 1:=by
 unfold actOk at h;split at h
 ·cases h
 ·rw [if_neg (by omega)] at h
  (try rw [if_pos hk] at h)
  simp only [Bool.and_eq_true,kidsOk,allB_iff,inB_iff] at h;exact ⟨by omega,by omega,fun k hk=>h.1 k hk⟩
theorem sumL_append {α:Type} (f:α->Nat):∀ (l m:List α),sumL f (l ++ m)=sumL f l+sumL f m
 | [],m=>by simp [sumL]
 | a :: l,m=>by simp [sumL,sumL_append f l m];omega
section
variable {p:Prog} {s:Sys} {N i j:Nat}
theorem putsIn_of {xs:List Put} {n:Nat} (h:listOk xs n=true):PutsIn n xs:=by
 simp only [listOk,allB_iff,Bool.and_eq_true,inB_iff,Bool.or_eq_true,decide_eq_true_eq] at h;have hat:∀ k (hk:k < xs.length),putAt xs k=xs[k]:=fun k hk=>by simp [putAt,hk]
 refine ⟨fun x hx=> ?_,fun x hx=> ?_, ?_⟩
 ·obtain ⟨k,hk,rfl⟩:=List.mem_iff_getElem.1 hx
  have:=(h k hk).1.1
  rw [hat k hk] at this;omega
 ·obtain ⟨k,hk,rfl⟩:=List.mem_iff_getElem.1 hx
  have:=(h k hk).1.2
  rw [hat k hk] at this;omega
 ·have:∀ d k,(hk:k+d+1 < xs.length)->(putAt xs k).cell < (putAt xs (k+d+1)).cell:=by
   intro d
   induction d with
   | zero=>
    intro k hk
    have:=(h (k+1) hk).2
    simpa using this
   | succ d ih=>
    intro k hk;have h1:=ih k (by omega);have h2:=(h (k+(d+1)+1) hk).2;have h3:k+(d+1)+1 - 1=k+d+1:=by omega
    rw [h3] at h2;rcases h2 with h2 | h2
    ·omega
    ·omega
  rw [List.pairwise_iff_getElem];intro a b ha hb hab;have:=this (b - a - 1) a (by omega);rw [show a+(b - a - 1)+1=b by omega,hat a ha,hat b hb] at this;exact this
end
end Go.Proofs.Ytimamoimphjakaa.Eq

namespace Go.Proofs.Ytimamoimphjakaa.Eq
open Go.RowKit Go.Proofs.YtimamoimphjakaaW.PrintWords Go.Proofs.YtimamoimphjakaaW.PrintLast Go.Proofs.YtimamoimphjakaaW.PrintMore
structure RO (g:Nat) (vp vb:Value) (p:Prog) (s:Sys) (vc vt vl:Value) (W:World):Prop where
 blk:W.heap[g]? = some (.cells #[vp,vb,vc,vt,.int .i64 s.clock,vl] 152 (0,0))
 prog:kProg.K W p [vp,vb]
 sys:kSys.K W s [vc,vt,.int .i64 s.clock,vl]
theorem kidsN_next (f:Nat->Bool) (k:Nat):cntTo f (k+1)=cntTo f k+if f k then 1 else 0:=rfl
theorem kids_calls {g:Nat} {vp vb:Value} {p:Prog} {s:Sys} {vc vt vl:Value} (task way:Int) (w:World) (h:RO g vp vb p s vc vt vl w) (hn:s.tasks.length<=1048576):
  Calls Try.prog 125 #[.pointer (some ⟨g,0,none⟩),.int .i64 task,.int .i64 way] w fun e w'=>e= .returned (.int .i64 (kidsN s.tasks task way))/\w'=w:=by
 obtain ⟨hblk,hp,hs⟩:=h;obtain ⟨A0,c0,A1,c1,A3,c3,he,l0,g0,l1,g1,l3,g3⟩:=kSys_open hs;simp only [List.cons.injEq,and_true,true_and] at he;obtain ⟨rfl,rfl,rfl⟩:=he;have G:=am g1;have BKc:=zc8 hblk;clear g0 g1 g3 l0 l1 l3 hs hp hblk;obtain ⟨f,hf⟩:∃ f:Nat->Bool,f=fun k=>decide ((taskAt s.tasks k).up=task) && decide ((taskAt s.tasks k).way=way):=⟨_,rfl⟩
 have hk0:kidsN s.tasks task way=cntTo f s.tasks.length:=by rw [hf];rfl
 rw [hk0];have HF:=am hf;clear hk0 hf;go_enter Try.func125,Try.ntmps125;go_wp2;go_loopw [7,8] (fun v i w'=>∃ k:Nat,k<=s.tasks.length/\i= .int .i64 k/\v= .int .i64 (cntTo f k)/\w'=w) (fun _ i _=>s.tasks.length - (intOf i).toNat)
 case atStart=>exact ⟨0,Nat.zero_le _,rfl,rfl,rfl⟩
 case round=>
  obtain ⟨k,hk,rfl,rfl,rfl⟩:=hrel;have hlen:=cntTo_le f k;by_cases hlt:k < s.tasks.length
  ·obtain ⟨b,o,cs,rfl,hcl,hK,hcc,hc0⟩:=C_field G.out zTask k hlt (by decide)
   rw [show s.tasks.getD k zTask=taskAt s.tasks k from rfl] at hK;obtain ⟨B3,d3,B8,d8,B9,d9,B10,d10,rfl,_,_,_,_,_,_,_,_⟩:=kTask_open hK;have h_up:=hcc 2 _ rfl;have h_way:=hcc 4 _ rfl;simp only [show kTask.sz=13 from rfl] at h_way h_up;clear hcc hc0 hK hcl;have q0:(0:Int)<=(k:Int):=by omega
   have q1:(k:Int) < (s.tasks.length:Int):=by omega
   by_cases hy:(taskAt s.tasks k).up=task
   ·have y0:((taskAt s.tasks k).up == task)=true:=by simp [hy]
    by_cases hz:(taskAt s.tasks k).way=way
    ·have y1:((taskAt s.tasks k).way == way)=true:=by simp [hz]
     have HY:=am (show f k=true by simp [HF.out,hy,hz]);clear hy hz;go_wp2;go_roundw
     case rel=>exact ⟨k+1,by omega,by go_num,by rw [kidsN_next,HY.out];go_num,trivial⟩
     case measure=>simp [intOf];omega
    ·have y1:((taskAt s.tasks k).way == way)=false:=by simp [hz]
     have HY:=am (show f k=false by simp [HF.out,hy,hz]);clear hy hz;go_wp2;go_roundw
     case rel=>exact ⟨k+1,by omega,by go_num,by rw [kidsN_next,HY.out];simp,trivial⟩
     case measure=>simp [intOf];omega
   ·have y0:((taskAt s.tasks k).up == task)=false:=by simp [hy]
    have HY:=am (show f k=false by simp [HF.out,hy]);clear hy;go_wp2;go_roundw
    case rel=>exact ⟨k+1,by omega,by go_num,by rw [kidsN_next,HY.out];simp,trivial⟩
    case measure=>simp [intOf];omega
  ·go_wp2
   go_ret;obtain rfl:k=s.tasks.length:=by omega
   exact ⟨rfl,rfl⟩
theorem cellB {w W:World} {b o:Nat} {v:Value} (hb:Below w.heap.size w W) (h:w.cell? ⟨b,o,none⟩=some v):W.cell? ⟨b,o,none⟩=some v:=((bcell hb).1 _ _ (World.block_lt_of_cell? _ _ h)).trans h
theorem C_nil {α:Type} (d:Kd α) (w:World):d.C w none 0 []:=⟨rfl,by decide,fun h=>absurd h (by decide)⟩
end Go.Proofs.Ytimamoimphjakaa.Eq

namespace Go.Proofs.Ytimamoimphjakaa.Eq
open Go.RowKit Go.Proofs.YtimamoimphjakaaW.PrintWords Go.Proofs.YtimamoimphjakaaW.PrintLast Go.Proofs.YtimamoimphjakaaW.PrintMore
theorem info_put:(Try.prog.info? 103).map (fun i=>(i.zero,i.size,i.bytes))=some (some (.agg #[.int .i64 0,.int .i64 0]),2,16):=by kernel_rfl
theorem findP_none {xs:List Put} {cell:Int} (h:∀ j,j < xs.length->(putAt xs j).cell ≠ cell):findP xs cell=none:=by
 unfold findP;rw [List.findIdx?_eq_none_iff];intro x hx;obtain ⟨j,hj,rfl⟩:=List.mem_iff_getElem.1 hx;have:=h j hj;simpa [putAt,hj] using this
theorem findP_some {xs:List Put} {cell:Int} {k:Nat} (hk:k < xs.length) (h:∀ j,j < k->(putAt xs j).cell ≠ cell) (he:(putAt xs k).cell=cell):findP xs cell=some k:=by
 unfold findP;rw [List.findIdx?_eq_some_iff_getElem];refine ⟨hk,by simpa [putAt,hk] using he,fun j hj=> ?_⟩;have:=h j hj;have hjl:j < xs.length:=by omega
 simpa [putAt,hjl] using this
def placeOf:Option Nat->Int
 | none=> -1
 | some k=>k
theorem l11Find_calls (A:Option Addr) (c:Nat) (xs:List Put) (cell:Int) (w:World) (hx:kPut.C w A xs.length xs) (hn:xs.length<=1048576):
  Calls Try.prog 126 #[.slice A xs.length c,.int .i64 cell] w fun e w'=>e= .returned (.int .i64 (placeOf (findP xs cell)))/\w=w':=by
 have HX:=am hx;clear hx;go_enter Try.func126,Try.ntmps126;go_wp2;go_loopw [5] (fun j w'=>∃ k:Nat,k<=xs.length/\j= .int .i64 k/\w'=w/\Aside0 (∀ j,j < k->(putAt xs j).cell ≠ cell)) (fun j _=>xs.length - (intOf j).toNat)
 case atStart=>exact ⟨0,Nat.zero_le _,rfl,rfl,⟨fun j hj=>absurd hj (Nat.not_lt_zero j)⟩⟩
 case round=>
  obtain ⟨k,hk,rfl,rfl,HJ⟩:=hrel;by_cases hlt:k < xs.length
  ·obtain ⟨b,o,cs,rfl,hcl,hK,hcc,-⟩:=C_field HX.out zPut k hlt (by decide)
   have e:=kPut_open hK;subst e;have c0:=hcc 0 _ rfl;simp only [show kPut.sz=2 from rfl,Nat.add_zero] at c0;rw [show xs.getD k zPut=putAt xs k from rfl] at c0;clear hcc hK hcl;have q0:(0:Int)<=(k:Int):=by omega
   have q1:(k:Int) < (xs.length:Int):=by omega
   by_cases he:(putAt xs k).cell=cell
   ·have y0:((putAt xs k).cell == cell)=true:=by simp [he]
    have HE:=am he;clear he;go_wp2;go_ret;exact ⟨by rw [findP_some hlt HJ.out HE.out];rfl,rfl⟩
   ·have y0:((putAt xs k).cell == cell)=false:=by simp [he]
    have HE:=am he;clear he;go_wp2;go_roundw
    case rel=>exact ⟨k+1,by omega,by go_num,by first|rfl | trivial,⟨fun j hj=>by
     rcases Nat.lt_or_ge j k with h | h
     ·exact HJ.out j h
     ·obtain rfl:j=k:=by omega
      exact HE.out⟩⟩
    case measure=>simp [intOf];omega
  ·go_wp2
   go_ret;obtain rfl:k=xs.length:=by omega
   exact ⟨by rw [findP_none HJ.out];rfl,rfl⟩
end Go.Proofs.Ytimamoimphjakaa.Eq














namespace Go.Proofs.Ytimamoimphjakaa.Eq
theorem sumL_take {α:Type} (f:α->Nat) (d:α) (l:List α) {k:Nat} (h:k < l.length):sumL f (l.take (k+1))=sumL f (l.take k)+f (l.getD k d):=by
 rw [List.take_succ_eq_append_getElem h,sumL_append];simp [sumL,h]
theorem sumL_congr {α:Type} {f g:α->Nat}:∀ {l:List α},(∀ a ∈ l,f a=g a)->sumL f l=sumL g l
 | [],_=>rfl
 | a :: l,h=>by
  unfold sumL;rw [h a (by simp),sumL_congr (fun b hb=>h b (by simp [hb]))]
theorem sumL_le {α:Type} {f:α->Nat} {m:Nat}:∀ {l:List α},(∀ a ∈ l,f a<=m)->sumL f l<=l.length*m
 | [],_=>by simp [sumL]
 | a :: l,h=>by
  have h1:=h a (by simp);have h2:=sumL_le (l:=l) (fun b hb=>h b (by simp [hb]));simp only [sumL,List.length_cons,Nat.add_mul,Nat.one_mul];omega
theorem act_mem {p:Prog} (h:formOk p=true) {b:Int} (hb:0<=b/\b < p.bodies.length) {a:Act} (ha:a ∈ actsAt p.bodies b.toNat):actOk p.cells.length p.bodies.length b a=true:=by
 obtain ⟨k,hk,rfl⟩:=List.mem_iff_getElem.1 ha
 have:=form_act h hb hk
 simpa [actAt,hk] using this
theorem kid_behind {p:Prog} (h:formOk p=true) {b:Int} (hb:0<=b/\b < p.bodies.length) {a:Act} (ha:a ∈ actsAt p.bodies b.toNat):a.kids.length<=2/\∀ k ∈ a.kids,b+1<=k/\k < p.bodies.length:=by
 have hok:=act_mem h hb ha;by_cases h2:a.kind=2
 ·obtain ⟨h3,_,h4⟩:=act_kids hok h2
  refine ⟨h3,fun k hk=> ?_⟩;obtain ⟨j,hj,rfl⟩:=List.mem_iff_getElem.1 hk;have:=h4 j hj;simp only [numAt,List.getD_eq_getElem?_getD,List.getElem?_eq_getElem hj,Option.getD_some] at this;omega
 ·have:a.kids= []:=by
   unfold actOk at hok;split at hok
   ·cases hok
   ·rename_i hn
    exact Classical.byContradiction fun hne=>hn (.inr (.inl ⟨h2,hne⟩))
  rw [this];exact ⟨by simp,fun k hk=>by simp at hk⟩
theorem treeN_more {p:Prog} (h:formOk p=true):∀ (n:Nat) (b:Int),0<=b->b < p.bodies.length->(p.bodies.length:Int) - b<=n->treeN p.bodies (n+1) b=treeN p.bodies n b
 | 0,b,h0,h1,hn=>by omega
 | n+1,b,h0,h1,hn=>by
  rw [treeN,treeN]
  congr 1
  refine sumL_congr fun a ha=>sumL_congr fun k hk=> ?_
  have:=(kid_behind h ⟨h0,h1⟩ ha).2 k hk
  exact treeN_more h n k (by omega) (by omega) (by omega)
theorem treeOf_eq {p:Prog} (h:formOk p=true) {b:Int} (h0:0<=b) (h1:b < p.bodies.length):treeOf p b=1+sumL (fun a:Act=>sumL (treeOf p) a.kids) (actsAt p.bodies b.toNat):=by
 have hl:=form_cells h;unfold treeOf;rw [<-treeN_more h 4 b h0 h1 (by omega),treeN]
def treeMax:Nat->Nat
 | 0=>1
 | n+1=>1+8*treeMax n
theorem treeN_le {p:Prog} (h:formOk p=true):∀ (n:Nat) (b:Int),0<=b->b < p.bodies.length->treeN p.bodies n b<=treeMax n
 | 0,b,_,_=>Nat.le_refl _
 | n+1,b,h0,h1=>by
  rw [treeN,treeMax];have h4:=form_acts h ⟨h0,h1⟩
  have:sumL (fun a:Act=>sumL (treeN p.bodies n) a.kids) (actsAt p.bodies b.toNat)<=(actsAt p.bodies b.toNat).length*(2*treeMax n):=by
   refine sumL_le fun a ha=> ?_
   obtain ⟨h2,h3⟩:=kid_behind h ⟨h0,h1⟩ ha;refine Nat.le_trans (sumL_le (m:=treeMax n) fun k hk=>treeN_le h n k (by have:=h3 k hk;omega) (h3 k hk).2) ?_;exact Nat.mul_le_mul_right _ h2
  have h5:(actsAt p.bodies b.toNat).length*(2*treeMax n)<=4*(2*treeMax n):=Nat.mul_le_mul_right _ h4;omega
theorem treeOf_le {p:Prog} (h:formOk p=true) {b:Int} (h0:0<=b) (h1:b < p.bodies.length):treeOf p b<=4681:=treeN_le h 4 b h0 h1
end Go.Proofs.Ytimamoimphjakaa.Eq
namespace Go.Proofs.Ytimamoimphjakaa.Eq
open Go.RowKit Go.Proofs.YtimamoimphjakaaW.PrintWords Go.Proofs.YtimamoimphjakaaW.PrintLast Go.Proofs.YtimamoimphjakaaW.PrintMore
theorem l1Deed_calls (d:Deed) (cells:Int) (w:World) (h0:0<=cells) (h1:cells<=1048576):
  Calls Try.prog 141 #[.agg #[.int .i64 d.kind,.int .i64 d.a,.int .i64 d.b],.int .i64 cells] w fun e w'=>e= .returned (.bool (deedOk d cells))/\Below w.heap.size w w':=by
 go_enter Try.func141,Try.ntmps141;obtain ⟨ba,hba⟩:∃ b,inB d.a 0 2=b:=⟨_,rfl⟩;have HA:Aside0 ((decide ((0:Int)<=d.a) && decide (d.a<=2))=ba):=⟨hba⟩;clear hba;by_cases k1:d.kind=1
 ·have y1:(d.kind == 1)=true:=by simp [k1]
  have K1:=am k1;clear k1;obtain ⟨bz,hbz⟩:∃ b,inB d.b 0 (cells - 1)=b:=⟨_,rfl⟩;have HY:Aside0 ((decide ((0:Int)<=d.b) && decide (d.b<=(cells - 1)))=bz):=⟨hbz⟩;clear hbz
  cases ba with
  | false=>
   go_wp2_with (first
   |((with_reducible refine gate_dst (N:=2) rfl ?_);refine box_event rfl (N:=2) rfl (t:=111) (by go_simp<;>rfl) ?_;intro gd hg w2 hbox hb;have BK:=am hbox;have HB:=am hb;have BKc:=zc8 BK.out;clear hbox hb hg)
   |(go_at_call 50;refine (l6In_calls _ _ _ _).mono ?_;(first|rw [HA.out] | rw [HY.out]);rintro e w9 ⟨rfl,rfl⟩))
   go_ret
   have hr:deedOk d cells=false:=by
    unfold deedOk;rw [if_pos K1.out,show inB d.a 0 2=false from HA.out,Bool.false_and]
   rw [hr]
   exact ⟨rfl,HB.out⟩
  | true=>
   go_wp2_with (first
   |((with_reducible refine gate_dst (N:=2) rfl ?_);refine box_event rfl (N:=2) rfl (t:=111) (by go_simp<;>rfl) ?_;intro gd hg w2 hbox hb;have BK:=am hbox;have HB:=am hb;have BKc:=zc8 BK.out;clear hbox hb hg)
   |(go_at_call 50;refine (l6In_calls _ _ _ _).mono ?_;(first|rw [HA.out] | rw [HY.out]);rintro e w9 ⟨rfl,rfl⟩))
   go_ret
   have hr:deedOk d cells=bz:=by
    unfold deedOk;rw [if_pos K1.out,show inB d.a 0 2=true from HA.out,show inB d.b 0 (cells - 1)=bz from HY.out,Bool.true_and]
   rw [hr];exact ⟨rfl,HB.out⟩
 ·have y1:(d.kind == 1)=false:=by simp [k1]
  have K1:=am k1;clear k1;by_cases k2:d.kind=2
  ·have y2:(d.kind == 2)=true:=by simp [k2]
   have K2:=am k2;clear k2;obtain ⟨bx,hbx⟩:∃ b,inB d.a 0 (cells - 1)=b:=⟨_,rfl⟩;have HX:Aside0 ((decide ((0:Int)<=d.a) && decide (d.a<=(cells - 1)))=bx):=⟨hbx⟩;clear hbx;obtain ⟨bz,hbz⟩:∃ b,inB d.b 0 2=b:=⟨_,rfl⟩;have HY:Aside0 ((decide ((0:Int)<=d.b) && decide (d.b<=2))=bz):=⟨hbz⟩;clear hbz
   cases bx with
   | false=>
    go_wp2_with (first
    |((with_reducible refine gate_dst (N:=2) rfl ?_);refine box_event rfl (N:=2) rfl (t:=111) (by go_simp<;>rfl) ?_;intro gd hg w2 hbox hb;have BK:=am hbox;have HB:=am hb;have BKc:=zc8 BK.out;clear hbox hb hg)
    |(go_at_call 50;refine (l6In_calls _ _ _ _).mono ?_;(first|rw [HA.out] | rw [HX.out] | rw [HY.out]);rintro e w9 ⟨rfl,rfl⟩))
    go_ret
    have hr:deedOk d cells=false:=by
     unfold deedOk;rw [if_neg K1.out,if_pos K2.out,show inB d.a 0 (cells - 1)=false from HX.out,Bool.false_and]
    rw [hr]
    exact ⟨rfl,HB.out⟩
   | true=>
    go_wp2_with (first
    |((with_reducible refine gate_dst (N:=2) rfl ?_);refine box_event rfl (N:=2) rfl (t:=111) (by go_simp<;>rfl) ?_;intro gd hg w2 hbox hb;have BK:=am hbox;have HB:=am hb;have BKc:=zc8 BK.out;clear hbox hb hg)
    |(go_at_call 50;refine (l6In_calls _ _ _ _).mono ?_;(first|rw [HA.out] | rw [HX.out] | rw [HY.out]);rintro e w9 ⟨rfl,rfl⟩))
    go_ret
    have hr:deedOk d cells=bz:=by
     unfold deedOk;rw [if_neg K1.out,if_pos K2.out,show inB d.a 0 (cells - 1)=true from HX.out,show inB d.b 0 2=bz from HY.out,Bool.true_and]
    rw [hr];exact ⟨rfl,HB.out⟩
  ·have y2:(d.kind == 2)=false:=by simp [k2]
   have K2:=am k2;clear k2;by_cases k3:d.kind=3
   ·have y3:(d.kind == 3)=true:=by simp [k3]
    have K3:=am k3;clear k3;obtain ⟨bz,hbz⟩:∃ b,inB d.b 0 99=b:=⟨_,rfl⟩;have HY:Aside0 ((decide ((0:Int)<=d.b) && decide (d.b<=99))=bz):=⟨hbz⟩;clear hbz
    cases ba with
    | false=>
     go_wp2_with (first
     |((with_reducible refine gate_dst (N:=2) rfl ?_);refine box_event rfl (N:=2) rfl (t:=111) (by go_simp<;>rfl) ?_;intro gd hg w2 hbox hb;have BK:=am hbox;have HB:=am hb;have BKc:=zc8 BK.out;clear hbox hb hg)
     |(go_at_call 50;refine (l6In_calls _ _ _ _).mono ?_;(first|rw [HA.out] | rw [HY.out]);rintro e w9 ⟨rfl,rfl⟩))
     go_ret
     have hr:deedOk d cells=false:=by
      unfold deedOk;rw [if_neg K1.out,if_neg K2.out,if_pos K3.out,show inB d.a 0 2=false from HA.out,Bool.false_and]
     rw [hr]
     exact ⟨rfl,HB.out⟩
    | true=>
     go_wp2_with (first
     |((with_reducible refine gate_dst (N:=2) rfl ?_);refine box_event rfl (N:=2) rfl (t:=111) (by go_simp<;>rfl) ?_;intro gd hg w2 hbox hb;have BK:=am hbox;have HB:=am hb;have BKc:=zc8 BK.out;clear hbox hb hg)
     |(go_at_call 50;refine (l6In_calls _ _ _ _).mono ?_;(first|rw [HA.out] | rw [HY.out]);rintro e w9 ⟨rfl,rfl⟩))
     go_ret
     have hr:deedOk d cells=bz:=by
      unfold deedOk;rw [if_neg K1.out,if_neg K2.out,if_pos K3.out,show inB d.a 0 2=true from HA.out,show inB d.b 0 99=bz from HY.out,Bool.true_and]
     rw [hr];exact ⟨rfl,HB.out⟩
   ·have y3:(d.kind == 3)=false:=by simp [k3]
    have K3:=am k3;clear k3;by_cases k4:d.kind=4
    ·have y4:(d.kind == 4)=true:=by simp [k4]
     have K4:=am k4;clear k4;obtain ⟨bz,hbz⟩:∃ b,inB d.b 0 2=b:=⟨_,rfl⟩;have HY:Aside0 ((decide ((0:Int)<=d.b) && decide (d.b<=2))=bz):=⟨hbz⟩;clear hbz
     cases ba with
     | false=>
      go_wp2_with (first
      |((with_reducible refine gate_dst (N:=2) rfl ?_);refine box_event rfl (N:=2) rfl (t:=111) (by go_simp<;>rfl) ?_;intro gd hg w2 hbox hb;have BK:=am hbox;have HB:=am hb;have BKc:=zc8 BK.out;clear hbox hb hg)
      |(go_at_call 50;refine (l6In_calls _ _ _ _).mono ?_;(first|rw [HA.out] | rw [HY.out]);rintro e w9 ⟨rfl,rfl⟩))
      go_ret
      have hr:deedOk d cells=false:=by
       unfold deedOk;rw [if_neg K1.out,if_neg K2.out,if_neg K3.out,if_pos K4.out,show inB d.a 0 2=false from HA.out,Bool.false_and]
      rw [hr]
      exact ⟨rfl,HB.out⟩
     | true=>
      go_wp2_with (first
      |((with_reducible refine gate_dst (N:=2) rfl ?_);refine box_event rfl (N:=2) rfl (t:=111) (by go_simp<;>rfl) ?_;intro gd hg w2 hbox hb;have BK:=am hbox;have HB:=am hb;have BKc:=zc8 BK.out;clear hbox hb hg)
      |(go_at_call 50;refine (l6In_calls _ _ _ _).mono ?_;(first|rw [HA.out] | rw [HY.out]);rintro e w9 ⟨rfl,rfl⟩))
      go_ret
      have hr:deedOk d cells=bz:=by
       unfold deedOk;rw [if_neg K1.out,if_neg K2.out,if_neg K3.out,if_pos K4.out,show inB d.a 0 2=true from HA.out,show inB d.b 0 2=bz from HY.out,Bool.true_and]
      rw [hr];exact ⟨rfl,HB.out⟩
    ·have y4:(d.kind == 4)=false:=by simp [k4]
     have K4:=am k4;clear k4;by_cases k5:d.kind=5
     ·have y5:(d.kind == 5)=true:=by simp [k5]
      have K5:=am k5;clear k5
      cases ba with
      | false=>
       go_wp2_with (first
       |((with_reducible refine gate_dst (N:=2) rfl ?_);refine box_event rfl (N:=2) rfl (t:=111) (by go_simp<;>rfl) ?_;intro gd hg w2 hbox hb;have BK:=am hbox;have HB:=am hb;have BKc:=zc8 BK.out;clear hbox hb hg)
       |(go_at_call 50;refine (l6In_calls _ _ _ _).mono ?_;(first|rw [HA.out]);rintro e w9 ⟨rfl,rfl⟩))
       go_ret
       have hr:deedOk d cells=false:=by
        unfold deedOk;rw [if_neg K1.out,if_neg K2.out,if_neg K3.out,if_neg K4.out,if_pos K5.out,show inB d.a 0 2=false from HA.out,Bool.false_and]
       rw [hr]
       exact ⟨rfl,HB.out⟩
      | true=>
       by_cases z:d.b=0
       ·have yz:(d.b == 0)=true:=by simp [z]
        have Z:=am z;clear z
        go_wp2_with (first
        |((with_reducible refine gate_dst (N:=2) rfl ?_);refine box_event rfl (N:=2) rfl (t:=111) (by go_simp<;>rfl) ?_;intro gd hg w2 hbox hb;have BK:=am hbox;have HB:=am hb;have BKc:=zc8 BK.out;clear hbox hb hg)
        |(go_at_call 50;refine (l6In_calls _ _ _ _).mono ?_;(first|rw [HA.out]);rintro e w9 ⟨rfl,rfl⟩))
        go_ret
        have hr:deedOk d cells=true:=by
         unfold deedOk;rw [if_neg K1.out,if_neg K2.out,if_neg K3.out,if_neg K4.out,if_pos K5.out,show inB d.a 0 2=true from HA.out,decide_eq_true Z.out,Bool.true_and]
        rw [hr];exact ⟨rfl,HB.out⟩
       ·have yz:(d.b == 0)=false:=by simp [z]
        have Z:=am z;clear z
        go_wp2_with (first
        |((with_reducible refine gate_dst (N:=2) rfl ?_);refine box_event rfl (N:=2) rfl (t:=111) (by go_simp<;>rfl) ?_;intro gd hg w2 hbox hb;have BK:=am hbox;have HB:=am hb;have BKc:=zc8 BK.out;clear hbox hb hg)
        |(go_at_call 50;refine (l6In_calls _ _ _ _).mono ?_;(first|rw [HA.out]);rintro e w9 ⟨rfl,rfl⟩))
        go_ret
        have hr:deedOk d cells=false:=by
         unfold deedOk;rw [if_neg K1.out,if_neg K2.out,if_neg K3.out,if_neg K4.out,if_pos K5.out,show inB d.a 0 2=true from HA.out,decide_eq_false Z.out,Bool.true_and]
        rw [hr];exact ⟨rfl,HB.out⟩
     ·have y5:(d.kind == 5)=false:=by simp [k5]
      have K5:=am k5;clear k5
      go_wp2_with (first
      |((with_reducible refine gate_dst (N:=2) rfl ?_);refine box_event rfl (N:=2) rfl (t:=111) (by go_simp<;>rfl) ?_;intro gd hg w2 hbox hb;have BK:=am hbox;have HB:=am hb;have BKc:=zc8 BK.out;clear hbox hb hg)
      |(go_at_call 50;refine (l6In_calls _ _ _ _).mono ?_;(first|rw [HA.out]);rintro e w9 ⟨rfl,rfl⟩))
      go_ret
      have hr:deedOk d cells=false:=by
       unfold deedOk;rw [if_neg K1.out,if_neg K2.out,if_neg K3.out,if_neg K4.out,if_neg K5.out]
      rw [hr];exact ⟨rfl,HB.out⟩
theorem l1Kids_calls (A:Option Addr) (c:Nat) (ks:List Int) (body bodies:Int) (w:World) (hx:(Kd.int .i64).C w A ks.length ks) (hn:ks.length<=1048576) (h0:0<=body/\body<=1048576) (h1:0<=bodies/\bodies<=1048576):
  Calls Try.prog 142 #[.slice A ks.length c,.int .i64 body,.int .i64 bodies] w fun e w'=>e= .returned (.bool (kidsOk ks body bodies))/\w=w':=by
 have HX:=am hx;clear hx;obtain ⟨h00,h01⟩:=h0;obtain ⟨h10,h11⟩:=h1;go_enter Try.func142,Try.ntmps142;go_wp2;go_loopw [7] (fun j w'=>∃ k:Nat,k<=ks.length/\j= .int .i64 k/\Aside0 (∀ i,i < k->inB (numAt ks i) (body+1) (bodies - 1)=true)/\w=w') (fun j _=>ks.length - (intOf j).toNat)
 case atStart=>exact ⟨0,Nat.zero_le _,rfl,⟨fun i hi=>by omega⟩,rfl⟩
 case round=>
  obtain ⟨k,hk,rfl,HJ,rfl⟩:=hrel;by_cases hlt:k < ks.length
  ·have q0:(0:Int)<=(k:Int):=by omega
   have q1:(k:Int) < (ks.length:Int):=by omega
   obtain ⟨ad,rfl,gx⟩:=Kd.at_int HX.out (k:Int) q0 q1;simp only [Int.toNat_natCast] at gx;obtain ⟨x,hxx⟩:∃ x,x=numAt ks k:=⟨_,rfl⟩;rw [show rd ks (k:Int)=x from hxx.symm] at gx;have HXX:=am hxx;clear hxx
   cases hb:inB x (body+1) (bodies - 1) with
   | true=>
    have HI:Aside0 ((decide (body+1<=x) && decide (x<=bodies - 1))=true):=⟨hb⟩;clear hb;go_wp2_with (first|(go_at_call 50;refine (l6In_calls _ _ _ _).mono ?_;(first|rw [HI.out]);rintro e w9 ⟨rfl,rfl⟩))
    go_roundw
    case rel=>exact ⟨k+1,by omega,by go_num,⟨fun i hi=>by rcases Nat.lt_or_ge i k with h | h;exact HJ.out i h;obtain rfl:i=k:=(by omega);rw [<-HXX.out];exact HI.out⟩,trivial⟩
    case measure=>simp [intOf];omega
   | false=>
    have HI:Aside0 ((decide (body+1<=x) && decide (x<=bodies - 1))=false):=⟨hb⟩;clear hb;go_wp2_with (first|(go_at_call 50;refine (l6In_calls _ _ _ _).mono ?_;(first|rw [HI.out]);rintro e w9 ⟨rfl,rfl⟩))
    go_ret
    have hr:kidsOk ks body bodies=false:=by
     unfold kidsOk;rw [allB_no hlt (by rw [<-HXX.out];exact HI.out),Bool.false_and]
    rw [hr];exact ⟨rfl,rfl⟩
  ·obtain rfl:k=ks.length:=by omega
   obtain ⟨bz,hbz⟩:∃ b,inB (ks.length:Int) 1 2=b:=⟨_,rfl⟩;have HI:Aside0 ((decide ((1:Int)<=(ks.length:Int)) && decide ((ks.length:Int)<=2))=bz):=⟨hbz⟩;clear hbz;go_wp2_with (first|(go_at_call 50;refine (l6In_calls _ _ _ _).mono ?_;(first|rw [HI.out]);rintro e w9 ⟨rfl,rfl⟩))
   go_ret
   have hr:kidsOk ks body bodies=bz:=by
    unfold kidsOk;rw [allB_iff.2 HJ.out,Bool.true_and];exact HI.out
   rw [hr];exact ⟨rfl,rfl⟩
theorem l1Act_calls (p:Prog) (a:Act) (pcs acs:List Value) (body:Int) (w:World) (hp:kProg.K w p pcs) (ha:kAct.K w a acs) (hc:p.cells.length<=1048576) (hbd:p.bodies.length<=1048576) (hb0:0<=body) (hb1:body<=1048576) (hdn:a.deeds.length<=1048576) (hkn:a.kids.length<=1048576):
  Calls Try.prog 123 #[.agg pcs.toArray,.int .i64 body,.agg acs.toArray] w fun e w'=>e= .returned (.bool (actOk p.cells.length p.bodies.length body a))/\Below w.heap.size w w':=by
 obtain ⟨Ac,cc,Ab,cb,rfl,-⟩:=kProg_open hp;obtain ⟨Ad,cd,Ak,ck,rfl,-,gd,-,gk⟩:=kAct_open ha;have HDS:=am gd;have HKS:=am gk;clear hp ha gd gk;go_enter Try.func123,Try.ntmps123;by_cases kk:a.kind=1
 ·skip
  have z1:(a.kind != 1)=false:=by simp [kk]
  have z2:(a.kind != 2)=true:=by simp [kk]
  have z4:(a.kind != 4)=true:=by simp [kk]
  have y1:(a.kind == 1)=true:=by simp [kk]
  have KK:=am kk;clear kk;by_cases e_kids:a.kids= []
  ·have u_kids:decide (0 < a.kids.length)=false:=by rw [e_kids];rfl
   have v_kids:decide (0 < (a.kids.length:Int))=false:=by rw [e_kids];rfl
   have E_kids:=am e_kids;clear e_kids;by_cases r0:a.reg=0
   ·have u_reg:(a.reg != 0)=false:=by simp [r0]
    have E_reg:=am r0;clear r0
    go_wp2_with (first
    |((with_reducible refine gate_dst (N:=3) rfl ?_);refine box_event rfl (N:=3) rfl (t:=48) (by go_simp<;>rfl) ?_;intro gp hg w1 hbox hb;have BP:=am hbox;have HB:=am hb;have BPc:=zc8 BP.out;clear hbox hb hg)
    |((with_reducible refine gate_dst (N:=5) rfl ?_);refine box_event rfl (N:=5) rfl (t:=108) (by go_simp<;>rfl) ?_;intro ga hg w2 hbox hb;have BA:=am hbox;replace HB:=am (below_step HB.out hb);replace BP:=am (zb8 BP.out hb);clear BPc hbox hb hg;have BPc:=zc8 BP.out;have BAc:=zc8 BA.out))
    go_loopw [7] (fun j w'=>∃ k:Nat,k<=a.deeds.length/\j= .int .i64 k/\Aside0 (∀ i,i < k->deedOk (deedAt a.deeds i) p.cells.length=true)/\Aside0 (w'.heap[gp]? = some (.cells #[.slice Ac p.cells.length cc,.slice Ab p.bodies.length cb] 48 (0,0)))/\Aside0 (w'.heap[ga]? = some (.cells #[.int .i64 a.kind,.slice Ad a.deeds.length cd,.slice Ak a.kids.length ck,.int .i64 a.reg] 108 (0,0)))/\Aside0 (Below w.heap.size w w')) (fun j _=>a.deeds.length - (intOf j).toNat)
    case atStart=>exact ⟨0,Nat.zero_le _,rfl,⟨fun i hi=>by omega⟩,BP,BA,HB⟩
    case round=>
     clear BP BA HB BPc BAc;obtain ⟨k,hk,rfl,HJ,BP,BA,HB⟩:=hrel;have BPc:=zc8 BP.out;have BAc:=zc8 BA.out;by_cases hlt:k < a.deeds.length
     ·obtain ⟨bd,od,cs,rfl,hcl,hK,hcc,-⟩:=C_field HDS.out zDeed k hlt (by decide)
      obtain ⟨d,hd⟩:∃ d,d=deedAt a.deeds k:=⟨_,rfl⟩;rw [show a.deeds.getD k zDeed=d from hd.symm] at hK;have e:=kDeed_open hK;subst e;have p0:=hcc 0 _ rfl;have p1:=hcc 1 _ rfl;have p2:=hcc 2 _ rfl;simp only [show kDeed.sz=3 from rfl,Nat.add_zero] at p0 p1 p2;have D0:=am p0;have D1:=am p1;have D2:=am p2;have DX:=am hd;have q0:(0:Int)<=(k:Int):=by omega
      have q1:(k:Int) < (a.deeds.length:Int):=by omega
      clear hcc hK hcl hd p0 p1 p2
      cases hdo:deedOk d p.cells.length with
      | true=>
       have HD:=am hdo;clear hdo;go_wp2;refine st9 (n:=10) (S:=fun W=>W.heap[gp]? = some (.cells #[.slice Ac p.cells.length cc,.slice Ab p.bodies.length cb] 48 (0,0))/\W.heap[ga]? = some (.cells #[.int .i64 a.kind,.slice (some ⟨bd,od,none⟩) a.deeds.length cd,.slice Ak a.kids.length ck,.int .i64 a.reg] 108 (0,0))/\W.cell? ⟨bd,od+k*3,none⟩=some (.int .i64 d.kind)/\W.cell? ⟨bd,od+k*3+1,none⟩=some (.int .i64 d.a)/\W.cell? ⟨bd,od+k*3+2,none⟩=some (.int .i64 d.b)) (ds:= []) (by kernel_rfl) rfl ⟨blk_drew BP.out,blk_drew BA.out,(show wr.cell? ⟨bd,od+k*3,none⟩=_ from cellB HB.out D0.out),(show wr.cell? ⟨bd,od+k*3+1,none⟩=_ from cellB HB.out D1.out),(show wr.cell? ⟨bd,od+k*3+2,none⟩=_ from cellB HB.out D2.out)⟩ (fun hHeld=> ?_);have hb:=below_drew (Below.refl wr.heap.size wr);generalize wr.drew=w7 at hb hHeld ⊢;have HB7:=am (below_step HB.out hb);clear hb HB BP BA BPc BAc;refine ba9 (fuel:=2) (n:=8) [0,1,2,3,4,5,6,7] (by kernel_rfl) (fun N _ _ _ _ h=>by cases N <;> exact h) hHeld ?_
       iterate 8 (
        refine stillS_step (v:= ?_) (a':= ?_) rfl (Or.inl ⟨by rfl, ?_⟩) ?_ ?_;rotate_left
        ·rintro W ⟨s0,s2,s3,s4,s5⟩
         have t0:=zc8 s0;have t2:=zc8 s2;clear s0 s2;go_simp;with_reducible rfl
        rotate_left
        ·simp only [Act.put,sA,sZ,sS,i64_w]
         rfl)
       refine stillS_nil ?_;refine on9 (i:=8) (N:=some 57) rfl rfl (by kernel_rfl) (by decide) (fun K hK=> ?_);refine goes_ Try.func141 (by kernel_rfl) rfl #[.agg #[.int .i64 d.kind,.int .i64 d.a,.int .i64 d.b],.int .i64 p.cells.length] (by rfl) rfl rfl (by (try simp only [List.map_toArray,List.map_cons,List.map_nil]);first | done | rfl) ?_;refine (l1Deed_calls d p.cells.length _ (by omega) (by omega)).mono ?_;rw [HD.out];rintro e wn ⟨rfl,hb⟩;refine ⟨_,rfl, ?_⟩;refine hK.out _ _ ⟨zb8 hHeld.1 hb,zb8 hHeld.2.1 hb,cellB hb hHeld.2.2.1,cellB hb hHeld.2.2.2.1,cellB hb hHeld.2.2.2.2⟩ (fun hHeld=> ?_);clear hK K;refine norm_ (a':= ?_) ?_ ?_;rotate_left
       ·show Act.put _ (some 57) _=_
        simp only [Act.put,sA,sZ,sS,i64_w];rfl
       have HB:=am (below_step HB7.out hb);refine ba9 (fuel:=0) (n:=1) [9] (by kernel_rfl) (fun N _ _ _ _ h=>by cases N <;> exact h) hHeld ?_
       iterate 1 (
        refine stillS_step (v:= ?_) (a':= ?_) rfl (Or.inl ⟨by rfl, ?_⟩) ?_ ?_;rotate_left
        ·intro W hW
         go_simp
         with_reducible rfl
        rotate_left
        ·simp only [Act.put,sA,sZ,sS,i64_w]
         rfl)
       refine stillS_nil ?_;have BP:=am hHeld.1;have BA:=am hHeld.2.1;clear hHeld HB7 hb;have BPc:=zc8 BP.out;have BAc:=zc8 BA.out;refine done_ (by kernel_rfl) ?_;go_wp2;go_roundw
       case rel=>exact ⟨k+1,by omega,by go_num,⟨fun i hi=>by rcases Nat.lt_or_ge i k with h | h;exact HJ.out i h;obtain rfl:i=k:=(by omega);rw [<-DX.out];exact HD.out⟩,BP,BA,HB⟩
       case measure=>simp [intOf];omega
      | false=>
       have HD:=am hdo;clear hdo;go_wp2;refine st9 (n:=10) (S:=fun W=>W.heap[gp]? = some (.cells #[.slice Ac p.cells.length cc,.slice Ab p.bodies.length cb] 48 (0,0))/\W.heap[ga]? = some (.cells #[.int .i64 a.kind,.slice (some ⟨bd,od,none⟩) a.deeds.length cd,.slice Ak a.kids.length ck,.int .i64 a.reg] 108 (0,0))/\W.cell? ⟨bd,od+k*3,none⟩=some (.int .i64 d.kind)/\W.cell? ⟨bd,od+k*3+1,none⟩=some (.int .i64 d.a)/\W.cell? ⟨bd,od+k*3+2,none⟩=some (.int .i64 d.b)) (ds:= []) (by kernel_rfl) rfl ⟨blk_drew BP.out,blk_drew BA.out,(show wr.cell? ⟨bd,od+k*3,none⟩=_ from cellB HB.out D0.out),(show wr.cell? ⟨bd,od+k*3+1,none⟩=_ from cellB HB.out D1.out),(show wr.cell? ⟨bd,od+k*3+2,none⟩=_ from cellB HB.out D2.out)⟩ (fun hHeld=> ?_);have hb:=below_drew (Below.refl wr.heap.size wr);generalize wr.drew=w7 at hb hHeld ⊢;have HB7:=am (below_step HB.out hb);clear hb HB BP BA BPc BAc;refine ba9 (fuel:=2) (n:=8) [0,1,2,3,4,5,6,7] (by kernel_rfl) (fun N _ _ _ _ h=>by cases N <;> exact h) hHeld ?_
       iterate 8 (
        refine stillS_step (v:= ?_) (a':= ?_) rfl (Or.inl ⟨by rfl, ?_⟩) ?_ ?_;rotate_left
        ·rintro W ⟨s0,s2,s3,s4,s5⟩
         have t0:=zc8 s0;have t2:=zc8 s2;clear s0 s2;go_simp;with_reducible rfl
        rotate_left
        ·simp only [Act.put,sA,sZ,sS,i64_w]
         rfl)
       refine stillS_nil ?_;refine on9 (i:=8) (N:=some 57) rfl rfl (by kernel_rfl) (by decide) (fun K hK=> ?_);refine goes_ Try.func141 (by kernel_rfl) rfl #[.agg #[.int .i64 d.kind,.int .i64 d.a,.int .i64 d.b],.int .i64 p.cells.length] (by rfl) rfl rfl (by (try simp only [List.map_toArray,List.map_cons,List.map_nil]);first | done | rfl) ?_;refine (l1Deed_calls d p.cells.length _ (by omega) (by omega)).mono ?_;rw [HD.out];rintro e wn ⟨rfl,hb⟩;refine ⟨_,rfl, ?_⟩;refine hK.out _ _ ⟨zb8 hHeld.1 hb,zb8 hHeld.2.1 hb,cellB hb hHeld.2.2.1,cellB hb hHeld.2.2.2.1,cellB hb hHeld.2.2.2.2⟩ (fun hHeld=> ?_);clear hK K;refine norm_ (a':= ?_) ?_ ?_;rotate_left
       ·show Act.put _ (some 57) _=_
        simp only [Act.put,sA,sZ,sS,i64_w];rfl
       have HB:=am (below_step HB7.out hb);refine ba9 (fuel:=0) (n:=1) [9] (by kernel_rfl) (fun N _ _ _ _ h=>by cases N <;> exact h) hHeld ?_
       iterate 1 (
        refine stillS_step (v:= ?_) (a':= ?_) rfl (Or.inl ⟨by rfl, ?_⟩) ?_ ?_;rotate_left
        ·intro W hW
         go_simp
         with_reducible rfl
        rotate_left
        ·simp only [Act.put,sA,sZ,sS,i64_w]
         rfl)
       refine stillS_nil ?_;have BP:=am hHeld.1;have BA:=am hHeld.2.1;clear hHeld HB7 hb;have BPc:=zc8 BP.out;have BAc:=zc8 BA.out;refine done_ (by kernel_rfl) ?_;go_wp2;go_ret
       have hr:actOk p.cells.length p.bodies.length body a=false:=by
        unfold actOk;rw [if_neg (fun h=>by rcases h with h | h | h;exact (fun h=>h.1 KK.out) h;exact (fun h=>h.2 E_kids.out) h;exact (fun h=>h.2 E_reg.out) h),if_pos KK.out];unfold deedsOk;rw [allB_no hlt (by rw [<-DX.out];exact HD.out),Bool.false_and]
       rw [hr];exact ⟨rfl,HB.out⟩
     ·obtain rfl:k=a.deeds.length:=by omega
      go_wp2;go_ret
      have hr:actOk p.cells.length p.bodies.length body a=decide ((a.deeds.length:Int)<=5):=by
       unfold actOk;rw [if_neg (fun h=>by rcases h with h | h | h;exact (fun h=>h.1 KK.out) h;exact (fun h=>h.2 E_kids.out) h;exact (fun h=>h.2 E_reg.out) h),if_pos KK.out];unfold deedsOk;rw [allB_iff.2 HJ.out,Bool.true_and];exact decide_eq_decide.2 (by omega)
      rw [hr];exact ⟨rfl,HB.out⟩
   ·have u_reg:(a.reg != 0)=true:=by simp [r0]
    have E_reg:=am r0;clear r0
    go_wp2_with (first
    |((with_reducible refine gate_dst (N:=3) rfl ?_);refine box_event rfl (N:=3) rfl (t:=48) (by go_simp<;>rfl) ?_;intro gp hg w1 hbox hb;have BP:=am hbox;have HB:=am hb;have BPc:=zc8 BP.out;clear hbox hb hg)
    |((with_reducible refine gate_dst (N:=5) rfl ?_);refine box_event rfl (N:=5) rfl (t:=108) (by go_simp<;>rfl) ?_;intro ga hg w2 hbox hb;have BA:=am hbox;replace HB:=am (below_step HB.out hb);replace BP:=am (zb8 BP.out hb);clear BPc hbox hb hg;have BPc:=zc8 BP.out;have BAc:=zc8 BA.out))
    go_ret
    have hr:actOk p.cells.length p.bodies.length body a=false:=by
     unfold actOk;rw [if_pos (.inr (.inr ⟨(by have:=KK.out;omega),E_reg.out⟩))]
    rw [hr];exact ⟨rfl,HB.out⟩
  ·have l_kids:=List.length_pos_iff.2 e_kids
   have u_kids:decide (0 < a.kids.length)=true:=decide_eq_true l_kids;have v_kids:decide (0 < (a.kids.length:Int))=true:=decide_eq_true (by omega);have E_kids:=am e_kids;clear e_kids l_kids
   go_wp2_with (first
   |((with_reducible refine gate_dst (N:=3) rfl ?_);refine box_event rfl (N:=3) rfl (t:=48) (by go_simp<;>rfl) ?_;intro gp hg w1 hbox hb;have BP:=am hbox;have HB:=am hb;have BPc:=zc8 BP.out;clear hbox hb hg)
   |((with_reducible refine gate_dst (N:=5) rfl ?_);refine box_event rfl (N:=5) rfl (t:=108) (by go_simp<;>rfl) ?_;intro ga hg w2 hbox hb;have BA:=am hbox;replace HB:=am (below_step HB.out hb);replace BP:=am (zb8 BP.out hb);clear BPc hbox hb hg;have BPc:=zc8 BP.out;have BAc:=zc8 BA.out))
   go_ret
   have hr:actOk p.cells.length p.bodies.length body a=false:=by
    unfold actOk;rw [if_pos (.inr (.inl ⟨(by have:=KK.out;omega),E_kids.out⟩))]
   rw [hr];exact ⟨rfl,HB.out⟩
 ·have n1:=kk
  clear kk;by_cases kk:a.kind=2
  ·skip
   have z1:(a.kind != 1)=true:=by simp [kk]
   have z2:(a.kind != 2)=false:=by simp [kk]
   have z4:(a.kind != 4)=true:=by simp [kk]
   have y1:(a.kind == 1)=false:=by simp [kk]
   have y2:(a.kind == 2)=true:=by simp [kk]
   have KK:=am kk;clear kk n1;by_cases e_deeds:a.deeds= []
   ·have u_deeds:decide (0 < a.deeds.length)=false:=by rw [e_deeds];rfl
    have v_deeds:decide (0 < (a.deeds.length:Int))=false:=by rw [e_deeds];rfl
    have E_deeds:=am e_deeds;clear e_deeds;by_cases r0:a.reg=0
    ·have u_reg:(a.reg != 0)=false:=by simp [r0]
     have E_reg:=am r0;clear r0;obtain ⟨bz,hbz⟩:∃ b,kidsOk a.kids body p.bodies.length=b:=⟨_,rfl⟩;have HZ:=am hbz;clear hbz
     go_wp2_with (first
     |((with_reducible refine gate_dst (N:=3) rfl ?_);refine box_event rfl (N:=3) rfl (t:=48) (by go_simp<;>rfl) ?_;intro gp hg w1 hbox hb;have BP:=am hbox;have HB:=am hb;have BPc:=zc8 BP.out;clear hbox hb hg)
     |((with_reducible refine gate_dst (N:=5) rfl ?_);refine box_event rfl (N:=5) rfl (t:=108) (by go_simp<;>rfl) ?_;intro ga hg w2 hbox hb;have BA:=am hbox;replace HB:=am (below_step HB.out hb);replace BP:=am (zb8 BP.out hb);clear BPc hbox hb hg;have BPc:=zc8 BP.out;have BAc:=zc8 BA.out)
     |(go_at_call 142;refine (l1Kids_calls Ak ck a.kids body p.bodies.length _ (Kd.C_below HKS.out HB.out) hkn ⟨hb0,hb1⟩ ⟨by omega,by omega⟩).mono ?_;rw [HZ.out];rintro e w9 ⟨rfl,rfl⟩))
     go_ret
     have hr:actOk p.cells.length p.bodies.length body a=bz:=by
      unfold actOk;rw [if_neg (fun h=>by rcases h with h | h | h;exact (fun h=>h.2 E_deeds.out) h;exact (fun h=>h.1 KK.out) h;exact (fun h=>h.2 E_reg.out) h),if_neg (by have:=KK.out;omega),if_pos KK.out];exact HZ.out
     rw [hr];exact ⟨rfl,HB.out⟩
    ·have u_reg:(a.reg != 0)=true:=by simp [r0]
     have E_reg:=am r0;clear r0
     go_wp2_with (first
     |((with_reducible refine gate_dst (N:=3) rfl ?_);refine box_event rfl (N:=3) rfl (t:=48) (by go_simp<;>rfl) ?_;intro gp hg w1 hbox hb;have BP:=am hbox;have HB:=am hb;have BPc:=zc8 BP.out;clear hbox hb hg)
     |((with_reducible refine gate_dst (N:=5) rfl ?_);refine box_event rfl (N:=5) rfl (t:=108) (by go_simp<;>rfl) ?_;intro ga hg w2 hbox hb;have BA:=am hbox;replace HB:=am (below_step HB.out hb);replace BP:=am (zb8 BP.out hb);clear BPc hbox hb hg;have BPc:=zc8 BP.out;have BAc:=zc8 BA.out))
     go_ret
     have hr:actOk p.cells.length p.bodies.length body a=false:=by
      unfold actOk;rw [if_pos (.inr (.inr ⟨(by have:=KK.out;omega),E_reg.out⟩))]
     rw [hr];exact ⟨rfl,HB.out⟩
   ·have l_deeds:=List.length_pos_iff.2 e_deeds
    have u_deeds:decide (0 < a.deeds.length)=true:=decide_eq_true l_deeds;have v_deeds:decide (0 < (a.deeds.length:Int))=true:=decide_eq_true (by omega);have E_deeds:=am e_deeds;clear e_deeds l_deeds
    go_wp2_with (first
    |((with_reducible refine gate_dst (N:=3) rfl ?_);refine box_event rfl (N:=3) rfl (t:=48) (by go_simp<;>rfl) ?_;intro gp hg w1 hbox hb;have BP:=am hbox;have HB:=am hb;have BPc:=zc8 BP.out;clear hbox hb hg)
    |((with_reducible refine gate_dst (N:=5) rfl ?_);refine box_event rfl (N:=5) rfl (t:=108) (by go_simp<;>rfl) ?_;intro ga hg w2 hbox hb;have BA:=am hbox;replace HB:=am (below_step HB.out hb);replace BP:=am (zb8 BP.out hb);clear BPc hbox hb hg;have BPc:=zc8 BP.out;have BAc:=zc8 BA.out))
    go_ret
    have hr:actOk p.cells.length p.bodies.length body a=false:=by
     unfold actOk;rw [if_pos (.inl ⟨(by have:=KK.out;omega),E_deeds.out⟩)]
    rw [hr];exact ⟨rfl,HB.out⟩
  ·have n2:=kk
   clear kk;by_cases kk:a.kind=3
   ·skip
    have z1:(a.kind != 1)=true:=by simp [kk]
    have z2:(a.kind != 2)=true:=by simp [kk]
    have z4:(a.kind != 4)=true:=by simp [kk]
    have y1:(a.kind == 1)=false:=by simp [kk]
    have y2:(a.kind == 2)=false:=by simp [kk]
    have y3:(a.kind == 3)=true:=by simp [kk]
    have KK:=am kk;clear kk n1 n2;by_cases e_deeds:a.deeds= []
    ·have u_deeds:decide (0 < a.deeds.length)=false:=by rw [e_deeds];rfl
     have v_deeds:decide (0 < (a.deeds.length:Int))=false:=by rw [e_deeds];rfl
     have E_deeds:=am e_deeds;clear e_deeds;by_cases e_kids:a.kids= []
     ·have u_kids:decide (0 < a.kids.length)=false:=by rw [e_kids];rfl
      have v_kids:decide (0 < (a.kids.length:Int))=false:=by rw [e_kids];rfl
      have E_kids:=am e_kids;clear e_kids;by_cases r0:a.reg=0
      ·have u_reg:(a.reg != 0)=false:=by simp [r0]
       have E_reg:=am r0;clear r0
       go_wp2_with (first
       |((with_reducible refine gate_dst (N:=3) rfl ?_);refine box_event rfl (N:=3) rfl (t:=48) (by go_simp<;>rfl) ?_;intro gp hg w1 hbox hb;have BP:=am hbox;have HB:=am hb;have BPc:=zc8 BP.out;clear hbox hb hg)
       |((with_reducible refine gate_dst (N:=5) rfl ?_);refine box_event rfl (N:=5) rfl (t:=108) (by go_simp<;>rfl) ?_;intro ga hg w2 hbox hb;have BA:=am hbox;replace HB:=am (below_step HB.out hb);replace BP:=am (zb8 BP.out hb);clear BPc hbox hb hg;have BPc:=zc8 BP.out;have BAc:=zc8 BA.out))
       go_ret
       have hr:actOk p.cells.length p.bodies.length body a=true:=by
        unfold actOk;rw [if_neg (fun h=>by rcases h with h | h | h;exact (fun h=>h.2 E_deeds.out) h;exact (fun h=>h.2 E_kids.out) h;exact (fun h=>h.2 E_reg.out) h),if_neg (by have:=KK.out;omega),if_neg (by have:=KK.out;omega),if_pos KK.out]
       rw [hr];exact ⟨rfl,HB.out⟩
      ·have u_reg:(a.reg != 0)=true:=by simp [r0]
       have E_reg:=am r0;clear r0
       go_wp2_with (first
       |((with_reducible refine gate_dst (N:=3) rfl ?_);refine box_event rfl (N:=3) rfl (t:=48) (by go_simp<;>rfl) ?_;intro gp hg w1 hbox hb;have BP:=am hbox;have HB:=am hb;have BPc:=zc8 BP.out;clear hbox hb hg)
       |((with_reducible refine gate_dst (N:=5) rfl ?_);refine box_event rfl (N:=5) rfl (t:=108) (by go_simp<;>rfl) ?_;intro ga hg w2 hbox hb;have BA:=am hbox;replace HB:=am (below_step HB.out hb);replace BP:=am (zb8 BP.out hb);clear BPc hbox hb hg;have BPc:=zc8 BP.out;have BAc:=zc8 BA.out))
       go_ret
       have hr:actOk p.cells.length p.bodies.length body a=false:=by
        unfold actOk;rw [if_pos (.inr (.inr ⟨(by have:=KK.out;omega),E_reg.out⟩))]
       rw [hr];exact ⟨rfl,HB.out⟩
     ·have l_kids:=List.length_pos_iff.2 e_kids
      have u_kids:decide (0 < a.kids.length)=true:=decide_eq_true l_kids;have v_kids:decide (0 < (a.kids.length:Int))=true:=decide_eq_true (by omega);have E_kids:=am e_kids;clear e_kids l_kids
      go_wp2_with (first
      |((with_reducible refine gate_dst (N:=3) rfl ?_);refine box_event rfl (N:=3) rfl (t:=48) (by go_simp<;>rfl) ?_;intro gp hg w1 hbox hb;have BP:=am hbox;have HB:=am hb;have BPc:=zc8 BP.out;clear hbox hb hg)
      |((with_reducible refine gate_dst (N:=5) rfl ?_);refine box_event rfl (N:=5) rfl (t:=108) (by go_simp<;>rfl) ?_;intro ga hg w2 hbox hb;have BA:=am hbox;replace HB:=am (below_step HB.out hb);replace BP:=am (zb8 BP.out hb);clear BPc hbox hb hg;have BPc:=zc8 BP.out;have BAc:=zc8 BA.out))
      go_ret
      have hr:actOk p.cells.length p.bodies.length body a=false:=by
       unfold actOk;rw [if_pos (.inr (.inl ⟨(by have:=KK.out;omega),E_kids.out⟩))]
      rw [hr];exact ⟨rfl,HB.out⟩
    ·have l_deeds:=List.length_pos_iff.2 e_deeds
     have u_deeds:decide (0 < a.deeds.length)=true:=decide_eq_true l_deeds;have v_deeds:decide (0 < (a.deeds.length:Int))=true:=decide_eq_true (by omega);have E_deeds:=am e_deeds;clear e_deeds l_deeds
     go_wp2_with (first
     |((with_reducible refine gate_dst (N:=3) rfl ?_);refine box_event rfl (N:=3) rfl (t:=48) (by go_simp<;>rfl) ?_;intro gp hg w1 hbox hb;have BP:=am hbox;have HB:=am hb;have BPc:=zc8 BP.out;clear hbox hb hg)
     |((with_reducible refine gate_dst (N:=5) rfl ?_);refine box_event rfl (N:=5) rfl (t:=108) (by go_simp<;>rfl) ?_;intro ga hg w2 hbox hb;have BA:=am hbox;replace HB:=am (below_step HB.out hb);replace BP:=am (zb8 BP.out hb);clear BPc hbox hb hg;have BPc:=zc8 BP.out;have BAc:=zc8 BA.out))
     go_ret
     have hr:actOk p.cells.length p.bodies.length body a=false:=by
      unfold actOk;rw [if_pos (.inl ⟨(by have:=KK.out;omega),E_deeds.out⟩)]
     rw [hr];exact ⟨rfl,HB.out⟩
   ·have n3:=kk
    clear kk;by_cases kk:a.kind=4
    ·skip
     have z1:(a.kind != 1)=true:=by simp [kk]
     have z2:(a.kind != 2)=true:=by simp [kk]
     have z4:(a.kind != 4)=false:=by simp [kk]
     have y1:(a.kind == 1)=false:=by simp [kk]
     have y2:(a.kind == 2)=false:=by simp [kk]
     have y3:(a.kind == 3)=false:=by simp [kk]
     have y4:(a.kind == 4)=true:=by simp [kk]
     have KK:=am kk;clear kk n1 n2 n3;by_cases e_deeds:a.deeds= []
     ·have u_deeds:decide (0 < a.deeds.length)=false:=by rw [e_deeds];rfl
      have v_deeds:decide (0 < (a.deeds.length:Int))=false:=by rw [e_deeds];rfl
      have E_deeds:=am e_deeds;clear e_deeds;by_cases e_kids:a.kids= []
      ·have u_kids:decide (0 < a.kids.length)=false:=by rw [e_kids];rfl
       have v_kids:decide (0 < (a.kids.length:Int))=false:=by rw [e_kids];rfl
       have E_kids:=am e_kids;clear e_kids;obtain ⟨bz,hbz⟩:∃ b,inB a.reg 0 2=b:=⟨_,rfl⟩;have HI:Aside0 ((decide ((0:Int)<=a.reg) && decide (a.reg<=2))=bz):=⟨hbz⟩;clear hbz
       go_wp2_with (first
       |((with_reducible refine gate_dst (N:=3) rfl ?_);refine box_event rfl (N:=3) rfl (t:=48) (by go_simp<;>rfl) ?_;intro gp hg w1 hbox hb;have BP:=am hbox;have HB:=am hb;have BPc:=zc8 BP.out;clear hbox hb hg)
       |((with_reducible refine gate_dst (N:=5) rfl ?_);refine box_event rfl (N:=5) rfl (t:=108) (by go_simp<;>rfl) ?_;intro ga hg w2 hbox hb;have BA:=am hbox;replace HB:=am (below_step HB.out hb);replace BP:=am (zb8 BP.out hb);clear BPc hbox hb hg;have BPc:=zc8 BP.out;have BAc:=zc8 BA.out)
       |(go_at_call 50;refine (l6In_calls _ _ _ _).mono ?_;(first|rw [HI.out]);rintro e w9 ⟨rfl,rfl⟩))
       go_ret
       have hr:actOk p.cells.length p.bodies.length body a=bz:=by
        unfold actOk;rw [if_neg (fun h=>by rcases h with h | h | h;exact (fun h=>h.2 E_deeds.out) h;exact (fun h=>h.2 E_kids.out) h;exact (fun h=>h.1 KK.out) h),if_neg (by have:=KK.out;omega),if_neg (by have:=KK.out;omega),if_neg (by have:=KK.out;omega),if_pos KK.out];exact HI.out
       rw [hr];exact ⟨rfl,HB.out⟩
      ·have l_kids:=List.length_pos_iff.2 e_kids
       have u_kids:decide (0 < a.kids.length)=true:=decide_eq_true l_kids;have v_kids:decide (0 < (a.kids.length:Int))=true:=decide_eq_true (by omega);have E_kids:=am e_kids;clear e_kids l_kids
       go_wp2_with (first
       |((with_reducible refine gate_dst (N:=3) rfl ?_);refine box_event rfl (N:=3) rfl (t:=48) (by go_simp<;>rfl) ?_;intro gp hg w1 hbox hb;have BP:=am hbox;have HB:=am hb;have BPc:=zc8 BP.out;clear hbox hb hg)
       |((with_reducible refine gate_dst (N:=5) rfl ?_);refine box_event rfl (N:=5) rfl (t:=108) (by go_simp<;>rfl) ?_;intro ga hg w2 hbox hb;have BA:=am hbox;replace HB:=am (below_step HB.out hb);replace BP:=am (zb8 BP.out hb);clear BPc hbox hb hg;have BPc:=zc8 BP.out;have BAc:=zc8 BA.out))
       go_ret
       have hr:actOk p.cells.length p.bodies.length body a=false:=by
        unfold actOk;rw [if_pos (.inr (.inl ⟨(by have:=KK.out;omega),E_kids.out⟩))]
       rw [hr];exact ⟨rfl,HB.out⟩
     ·have l_deeds:=List.length_pos_iff.2 e_deeds
      have u_deeds:decide (0 < a.deeds.length)=true:=decide_eq_true l_deeds;have v_deeds:decide (0 < (a.deeds.length:Int))=true:=decide_eq_true (by omega);have E_deeds:=am e_deeds;clear e_deeds l_deeds
      go_wp2_with (first
      |((with_reducible refine gate_dst (N:=3) rfl ?_);refine box_event rfl (N:=3) rfl (t:=48) (by go_simp<;>rfl) ?_;intro gp hg w1 hbox hb;have BP:=am hbox;have HB:=am hb;have BPc:=zc8 BP.out;clear hbox hb hg)
      |((with_reducible refine gate_dst (N:=5) rfl ?_);refine box_event rfl (N:=5) rfl (t:=108) (by go_simp<;>rfl) ?_;intro ga hg w2 hbox hb;have BA:=am hbox;replace HB:=am (below_step HB.out hb);replace BP:=am (zb8 BP.out hb);clear BPc hbox hb hg;have BPc:=zc8 BP.out;have BAc:=zc8 BA.out))
      go_ret
      have hr:actOk p.cells.length p.bodies.length body a=false:=by
       unfold actOk;rw [if_pos (.inl ⟨(by have:=KK.out;omega),E_deeds.out⟩)]
      rw [hr];exact ⟨rfl,HB.out⟩
    ·have n4:=kk
     clear kk;have N1:=am n1;have N2:=am n2;have N3:=am n3;have N4:=am n4;have z1:(a.kind != 1)=true:=by simp [n1]
     have z2:(a.kind != 2)=true:=by simp [n2]
     have z4:(a.kind != 4)=true:=by simp [n4]
     have y1:(a.kind == 1)=false:=by simp [n1]
     have y2:(a.kind == 2)=false:=by simp [n2]
     have y3:(a.kind == 3)=false:=by simp [n3]
     have y4:(a.kind == 4)=false:=by simp [n4]
     clear n1 n2 n3 n4;by_cases e_deeds:a.deeds= []
     ·have u_deeds:decide (0 < a.deeds.length)=false:=by rw [e_deeds];rfl
      have v_deeds:decide (0 < (a.deeds.length:Int))=false:=by rw [e_deeds];rfl
      have E_deeds:=am e_deeds;clear e_deeds;by_cases e_kids:a.kids= []
      ·have u_kids:decide (0 < a.kids.length)=false:=by rw [e_kids];rfl
       have v_kids:decide (0 < (a.kids.length:Int))=false:=by rw [e_kids];rfl
       have E_kids:=am e_kids;clear e_kids;by_cases r0:a.reg=0
       ·have u_reg:(a.reg != 0)=false:=by simp [r0]
        have E_reg:=am r0;clear r0
        go_wp2_with (first
        |((with_reducible refine gate_dst (N:=3) rfl ?_);refine box_event rfl (N:=3) rfl (t:=48) (by go_simp<;>rfl) ?_;intro gp hg w1 hbox hb;have BP:=am hbox;have HB:=am hb;have BPc:=zc8 BP.out;clear hbox hb hg)
        |((with_reducible refine gate_dst (N:=5) rfl ?_);refine box_event rfl (N:=5) rfl (t:=108) (by go_simp<;>rfl) ?_;intro ga hg w2 hbox hb;have BA:=am hbox;replace HB:=am (below_step HB.out hb);replace BP:=am (zb8 BP.out hb);clear BPc hbox hb hg;have BPc:=zc8 BP.out;have BAc:=zc8 BA.out))
        go_ret
        have hr:actOk p.cells.length p.bodies.length body a=false:=by
         unfold actOk;rw [if_neg (fun h=>by rcases h with h | h | h;exact (fun h=>h.2 E_deeds.out) h;exact (fun h=>h.2 E_kids.out) h;exact (fun h=>h.2 E_reg.out) h),if_neg N1.out,if_neg N2.out,if_neg N3.out,if_neg N4.out]
        rw [hr];exact ⟨rfl,HB.out⟩
       ·have u_reg:(a.reg != 0)=true:=by simp [r0]
        have E_reg:=am r0;clear r0
        go_wp2_with (first
        |((with_reducible refine gate_dst (N:=3) rfl ?_);refine box_event rfl (N:=3) rfl (t:=48) (by go_simp<;>rfl) ?_;intro gp hg w1 hbox hb;have BP:=am hbox;have HB:=am hb;have BPc:=zc8 BP.out;clear hbox hb hg)
        |((with_reducible refine gate_dst (N:=5) rfl ?_);refine box_event rfl (N:=5) rfl (t:=108) (by go_simp<;>rfl) ?_;intro ga hg w2 hbox hb;have BA:=am hbox;replace HB:=am (below_step HB.out hb);replace BP:=am (zb8 BP.out hb);clear BPc hbox hb hg;have BPc:=zc8 BP.out;have BAc:=zc8 BA.out))
        go_ret
        have hr:actOk p.cells.length p.bodies.length body a=false:=by
         unfold actOk;rw [if_pos (.inr (.inr ⟨N4.out,E_reg.out⟩))]
        rw [hr];exact ⟨rfl,HB.out⟩
      ·have l_kids:=List.length_pos_iff.2 e_kids
       have u_kids:decide (0 < a.kids.length)=true:=decide_eq_true l_kids;have v_kids:decide (0 < (a.kids.length:Int))=true:=decide_eq_true (by omega);have E_kids:=am e_kids;clear e_kids l_kids
       go_wp2_with (first
       |((with_reducible refine gate_dst (N:=3) rfl ?_);refine box_event rfl (N:=3) rfl (t:=48) (by go_simp<;>rfl) ?_;intro gp hg w1 hbox hb;have BP:=am hbox;have HB:=am hb;have BPc:=zc8 BP.out;clear hbox hb hg)
       |((with_reducible refine gate_dst (N:=5) rfl ?_);refine box_event rfl (N:=5) rfl (t:=108) (by go_simp<;>rfl) ?_;intro ga hg w2 hbox hb;have BA:=am hbox;replace HB:=am (below_step HB.out hb);replace BP:=am (zb8 BP.out hb);clear BPc hbox hb hg;have BPc:=zc8 BP.out;have BAc:=zc8 BA.out))
       go_ret
       have hr:actOk p.cells.length p.bodies.length body a=false:=by
        unfold actOk;rw [if_pos (.inr (.inl ⟨N2.out,E_kids.out⟩))]
       rw [hr];exact ⟨rfl,HB.out⟩
     ·have l_deeds:=List.length_pos_iff.2 e_deeds
      have u_deeds:decide (0 < a.deeds.length)=true:=decide_eq_true l_deeds;have v_deeds:decide (0 < (a.deeds.length:Int))=true:=decide_eq_true (by omega);have E_deeds:=am e_deeds;clear e_deeds l_deeds
      go_wp2_with (first
      |((with_reducible refine gate_dst (N:=3) rfl ?_);refine box_event rfl (N:=3) rfl (t:=48) (by go_simp<;>rfl) ?_;intro gp hg w1 hbox hb;have BP:=am hbox;have HB:=am hb;have BPc:=zc8 BP.out;clear hbox hb hg)
      |((with_reducible refine gate_dst (N:=5) rfl ?_);refine box_event rfl (N:=5) rfl (t:=108) (by go_simp<;>rfl) ?_;intro ga hg w2 hbox hb;have BA:=am hbox;replace HB:=am (below_step HB.out hb);replace BP:=am (zb8 BP.out hb);clear BPc hbox hb hg;have BPc:=zc8 BP.out;have BAc:=zc8 BA.out))
      go_ret
      have hr:actOk p.cells.length p.bodies.length body a=false:=by
       unfold actOk;rw [if_pos (.inl ⟨N1.out,E_deeds.out⟩)]
      rw [hr];exact ⟨rfl,HB.out⟩
structure ProgSz (p:Prog):Prop where
 cells:p.cells.length<=1048576
 bodies:p.bodies.length<=1048576
 acts:∀ b ∈ p.bodies,b.length<=1048576/\∀ a ∈ b,a.deeds.length<=1048576/\a.kids.length<=1048576
theorem l1Form_calls (p:Prog) (pcs:List Value) (w:World) (hp:kProg.K w p pcs) (hz:ProgSz p):
  Calls Try.prog 89 #[.agg pcs.toArray] w fun e w'=>e= .returned (.bool (formOk p))/\Below w.heap.size w w':=by
 have HPK:=am hp;obtain ⟨Ac,cc,Ab,cb,rfl,-,gc,-,gb⟩:=kProg_open hp;have HCL:=am gc;have HBD:=am gb;have hzc:=hz.cells;have hzb:=hz.bodies;have HZ:=am hz.acts;clear hp gc gb hz;go_enter Try.func89,Try.ntmps89;by_cases c3:p.cells.length<=3
 ·have u3:decide (3 < p.cells.length)=false:=decide_eq_false (by omega)
  have v3:decide ((3:Int) < (p.cells.length:Int))=false:=decide_eq_false (by omega);have C3:=am c3
  cases hbi:inB (p.bodies.length:Int) 1 4 with
  | false=>
   have HI:Aside0 ((decide ((1:Int)<=(p.bodies.length:Int)) && decide ((p.bodies.length:Int)<=4))=false):=⟨hbi⟩;clear hbi
   go_wp2_with (first
   |((with_reducible refine gate_dst (N:=1) rfl ?_);refine box_event rfl (N:=1) rfl (t:=48) (by go_simp<;>rfl) ?_;intro gp hg w1 hbox hb;have BP:=am hbox;have HB:=am hb;have BPc:=zc8 BP.out;clear hbox hb hg)
   |(go_at_call 50;refine (l6In_calls _ _ _ _).mono ?_;(first|rw [HI.out]);rintro e w9 ⟨rfl,rfl⟩))
   go_ret
   have hr:formOk p=false:=by
    unfold formOk;rw [show inB (p.bodies.length:Int) 1 4=false from HI.out,Bool.and_false,Bool.false_and,Bool.false_and]
   rw [hr]
   exact ⟨rfl,HB.out⟩
  | true=>
   have HI:Aside0 ((decide ((1:Int)<=(p.bodies.length:Int)) && decide ((p.bodies.length:Int)<=4))=true):=⟨hbi⟩;have hb4:=(inB_iff.1 hbi).2;clear hbi
   go_wp2_with (first
   |((with_reducible refine gate_dst (N:=1) rfl ?_);refine box_event rfl (N:=1) rfl (t:=48) (by go_simp<;>rfl) ?_;intro gp hg w1 hbox hb;have BP:=am hbox;have HB:=am hb;have BPc:=zc8 BP.out;clear hbox hb hg)
   |(go_at_call 50;refine (l6In_calls _ _ _ _).mono ?_;(first|rw [HI.out]);rintro e w9 ⟨rfl,rfl⟩))
   go_loopw [3] (fun j w'=>∃ k:Nat,k<=p.cells.length/\j= .int .i64 k/\Aside0 (∀ i,i < k->inB (numAt p.cells i) 0 99=true)/\Aside0 (w'.heap[gp]? = some (.cells #[.slice Ac p.cells.length cc,.slice Ab p.bodies.length cb] 48 (0,0)))/\Aside0 (Below w.heap.size w w')) (fun j _=>p.cells.length - (intOf j).toNat)
   case atStart=>exact ⟨0,Nat.zero_le _,rfl,⟨fun i hi=>by omega⟩,BP,HB⟩
   case round=>
    clear BP HB BPc;obtain ⟨k,hk,rfl,HJ,BP,HB⟩:=hrel;have BPc:=zc8 BP.out;by_cases hlt:k < p.cells.length
    ·have q0:(0:Int)<=(k:Int):=by omega
     have q1:(k:Int) < (p.cells.length:Int):=by omega
     obtain ⟨ad,rfl,gx⟩:=Kd.at_int (Kd.C_below HCL.out HB.out) (k:Int) q0 q1;simp only [Int.toNat_natCast] at gx;obtain ⟨x,hxx⟩:∃ x,x=numAt p.cells k:=⟨_,rfl⟩;rw [show rd p.cells (k:Int)=x from hxx.symm] at gx;have HXX:=am hxx;clear hxx
     cases hbx:inB x 0 99 with
     | true=>
      have HX:Aside0 ((decide ((0:Int)<=x) && decide (x<=99))=true):=⟨hbx⟩;clear hbx
      go_wp2_with (first
      |(go_at_call 50;refine (l6In_calls _ _ _ _).mono ?_;(first|rw [HX.out]);rintro e w9 ⟨rfl,rfl⟩))
      go_roundw
      case rel=>exact ⟨k+1,by omega,by go_num,⟨fun i hi=>by rcases Nat.lt_or_ge i k with h | h;exact HJ.out i h;obtain rfl:i=k:=(by omega);rw [<-HXX.out];exact HX.out⟩,BP,HB⟩
      case measure=>simp [intOf];omega
     | false=>
      have HX:Aside0 ((decide ((0:Int)<=x) && decide (x<=99))=false):=⟨hbx⟩;clear hbx
      go_wp2_with (first
      |(go_at_call 50;refine (l6In_calls _ _ _ _).mono ?_;(first|rw [HX.out]);rintro e w9 ⟨rfl,rfl⟩))
      go_ret
      have hr:formOk p=false:=by
       unfold formOk;rw [allB_no (n:=p.cells.length) hlt (by rw [<-HXX.out];exact HX.out),Bool.and_false,Bool.false_and]
      rw [hr];exact ⟨rfl,HB.out⟩
    ·obtain rfl:k=p.cells.length:=by omega
     have HCS:=am (allB_iff.2 HJ.out);clear HJ hlt hk;go_wp2;go_loopw [4] (fun j w'=>∃ k:Nat,k<=p.bodies.length/\j= .int .i64 k/\Aside0 (∀ i,i < k->bodyOk p.cells.length p.bodies.length i (actsAt p.bodies i)=true)/\Aside0 (w'.heap[gp]? = some (.cells #[.slice Ac p.cells.length cc,.slice Ab p.bodies.length cb] 48 (0,0)))/\Aside0 (Below w.heap.size w w')) (fun j _=>p.bodies.length - (intOf j).toNat)
     case atStart=>exact ⟨0,Nat.zero_le _,rfl,⟨fun i hi=>by omega⟩,BP,HB⟩
     case round=>
      clear BP HB BPc;obtain ⟨k,hk,rfl,HJ,BP,HB⟩:=hrel;have BPc:=zc8 BP.out;by_cases hlt:k < p.bodies.length
      ·obtain ⟨bb,ob,cs2,rfl,hcl2,hK2,hcc2,-⟩:=C_field HBD.out ([]:List Act) k hlt (by decide)
       obtain ⟨Aa,ca,rfl,la,ga2⟩:=hK2;have p2:=hcc2 0 _ rfl;simp only [show (Kd.slice 108 kAct).sz=1 from rfl,Nat.mul_one,Nat.add_zero] at p2;have GA2:=am (show kAct.C w Aa (actsAt p.bodies k).length (actsAt p.bodies k) from ga2);rw [show (p.bodies.getD k []).length=(actsAt p.bodies k).length from rfl] at p2;have P2:=am p2;have hmem:actsAt p.bodies k ∈ p.bodies:=by rw [actsAt_eq hlt];exact List.getElem_mem hlt
       have HZk:=am (HZ.out _ hmem);have p2w:=cellB HB.out p2;have q0:(0:Int)<=(k:Int):=by omega
       have q1:(k:Int) < (p.bodies.length:Int):=by omega
       clear hcc2 hcl2 ga2 la p2 hmem;by_cases c4:(actsAt p.bodies k).length<=4
       ·have u4:decide (4 < (actsAt p.bodies k).length)=false:=decide_eq_false (by omega)
        have v4:decide ((4:Int) < ((actsAt p.bodies k).length:Int))=false:=decide_eq_false (by omega);go_wp2;go_loopw [5] (fun j w'=>∃ m:Nat,m<=(actsAt p.bodies k).length/\j= .int .i64 m/\Aside0 (∀ i,i < m->actOk p.cells.length p.bodies.length k (actAt (actsAt p.bodies k) i)=true)/\Aside0 (w'.heap[gp]? = some (.cells #[.slice Ac p.cells.length cc,.slice (some ⟨bb,ob,none⟩) p.bodies.length cb] 48 (0,0)))/\Aside0 (Below w.heap.size w w')) (fun j _=>(actsAt p.bodies k).length - (intOf j).toNat)
        case atStart=>exact ⟨0,Nat.zero_le _,rfl,⟨fun i hi=>by omega⟩,BP,HB⟩
        case round=>
         clear BP HB BPc p2w;obtain ⟨m,hm,rfl,HM,BP,HB⟩:=hrel;have BPc:=zc8 BP.out;have p2w:=cellB HB.out P2.out;by_cases hmt:m < (actsAt p.bodies k).length
         ·obtain ⟨ba,oa,cs3,rfl,hcl3,hK3,hcc3,-⟩:=C_field GA2.out zAct m hmt (by decide)
          obtain ⟨a,hax⟩:∃ x,x=actAt (actsAt p.bodies k) m:=⟨_,rfl⟩;rw [show (actsAt p.bodies k).getD m zAct=a from hax.symm] at hK3;have HK:=am hK3;have AX:=am hax;have SZ:Aside0 _:=⟨HZk.out.2 a (by rw [hax];have h9:actAt (actsAt p.bodies k) m=(actsAt p.bodies k)[m]:=(by simp [actAt,hmt]);rw [h9];exact List.getElem_mem hmt)⟩;obtain ⟨Ad,cd,Ak,ck,rfl,-⟩:=kAct_open hK3;have HC:=am hcc3;have r0:(0:Int)<=(m:Int):=by omega
          have r1:(m:Int) < ((actsAt p.bodies k).length:Int):=by omega
          clear hcc3 hK3 hcl3 hax
          cases hao:actOk p.cells.length p.bodies.length k a with
          | true=>
           have HD:=am hao;clear hao;go_wp2;clear p2w;refine st9 (n:=12) (S:=fun W=>W.heap[gp]? = some (.cells #[.slice Ac p.cells.length cc,.slice (some ⟨bb,ob,none⟩) p.bodies.length cb] 48 (0,0))/\W.cell? ⟨bb,ob+k,none⟩=some (.slice (some ⟨ba,oa,none⟩) (actsAt p.bodies k).length ca)/\∀ j u, [.int .i64 a.kind,.slice Ad a.deeds.length cd,.slice Ak a.kids.length ck,.int .i64 a.reg][j]? = some u->W.cell? ⟨ba,oa+m*4+j,none⟩=some u) (ds:= []) (by kernel_rfl) rfl ⟨blk_drew BP.out,(show wr.cell? ⟨bb,ob+k,none⟩=_ from cellB HB.out P2.out),fun j u hu=>(show wr.cell? ⟨ba,oa+m*4+j,none⟩=_ from cellB HB.out (HC.out j u hu))⟩ (fun hHeld=> ?_);have hb:=below_drew (Below.refl wr.heap.size wr);generalize wr.drew=w7 at hb hHeld ⊢;have HB7:=am (below_step HB.out hb);clear hb HB BP BPc;refine ba9 (fuel:=2) (n:=10) [0,1,2,3,4,5,6,7,8,9] (by kernel_rfl) (fun N _ _ _ _ h=>by cases N <;> exact h) hHeld ?_
           iterate 10 (
            refine stillS_step (v:= ?_) (a':= ?_) rfl (Or.inl ⟨by rfl, ?_⟩) ?_ ?_;rotate_left
            ·rintro W ⟨s0,s2,s3⟩
             have t0:=zc8 s0;have u0:=s3 0 _ rfl;have u1:=s3 1 _ rfl;have u2:=s3 2 _ rfl;have u3:=s3 3 _ rfl;rw [Nat.add_zero] at u0;clear s0 s3;go_simp;with_reducible rfl
            rotate_left
            ·simp only [Act.put,sA,sZ,sS,i64_w]
             rfl)
           refine stillS_nil ?_;refine on9 (i:=10) (N:=some 65) rfl rfl (by kernel_rfl) (by decide) (fun K hK=> ?_);refine goes_ Try.func123 (by kernel_rfl) rfl #[.agg #[.slice Ac p.cells.length cc,.slice (some ⟨bb,ob,none⟩) p.bodies.length cb],.int .i64 k,.agg #[.int .i64 a.kind,.slice Ad a.deeds.length cd,.slice Ak a.kids.length ck,.int .i64 a.reg]] (by rfl) rfl rfl (by (try simp only [List.map_toArray,List.map_cons,List.map_nil]);first | done | rfl) ?_;refine (l1Act_calls p a _ _ (k:Int) _ (kProg.K_below HB7.out HPK.out) (kAct.K_below HB7.out HK.out) (by omega) (by omega) (by omega) (by omega) SZ.out.1 SZ.out.2).mono ?_;rw [HD.out];rintro e wn ⟨rfl,hb⟩;refine ⟨_,rfl, ?_⟩;refine hK.out _ _ ⟨zb8 hHeld.1 hb,cellB hb hHeld.2.1,fun j u hu=>cellB hb (hHeld.2.2 j u hu)⟩ (fun hHeld=> ?_);clear hK K;refine norm_ (a':= ?_) ?_ ?_;rotate_left
           ·show Act.put _ (some 65) _=_
            simp only [Act.put,sA,sZ,sS,i64_w];rfl
           have HB:=am (below_step HB7.out hb);refine ba9 (fuel:=0) (n:=1) [11] (by kernel_rfl) (fun N _ _ _ _ h=>by cases N <;> exact h) hHeld ?_
           iterate 1 (
            refine stillS_step (v:= ?_) (a':= ?_) rfl (Or.inl ⟨by rfl, ?_⟩) ?_ ?_;rotate_left
            ·intro W hW
             go_simp
             with_reducible rfl
            rotate_left
            ·simp only [Act.put,sA,sZ,sS,i64_w]
             rfl)
           refine stillS_nil ?_;have BP:=am hHeld.1;clear hHeld HB7 hb;have BPc:=zc8 BP.out;refine done_ (by kernel_rfl) ?_;go_wp2;go_roundw
           case rel=>exact ⟨m+1,by omega,by go_num,⟨fun i hi=>by rcases Nat.lt_or_ge i m with h | h;exact HM.out i h;obtain rfl:i=m:=(by omega);rw [<-AX.out];exact HD.out⟩,BP,HB⟩
           case measure=>simp [intOf];omega
          | false=>
           have HD:=am hao;clear hao;go_wp2;clear p2w;refine st9 (n:=12) (S:=fun W=>W.heap[gp]? = some (.cells #[.slice Ac p.cells.length cc,.slice (some ⟨bb,ob,none⟩) p.bodies.length cb] 48 (0,0))/\W.cell? ⟨bb,ob+k,none⟩=some (.slice (some ⟨ba,oa,none⟩) (actsAt p.bodies k).length ca)/\∀ j u, [.int .i64 a.kind,.slice Ad a.deeds.length cd,.slice Ak a.kids.length ck,.int .i64 a.reg][j]? = some u->W.cell? ⟨ba,oa+m*4+j,none⟩=some u) (ds:= []) (by kernel_rfl) rfl ⟨blk_drew BP.out,(show wr.cell? ⟨bb,ob+k,none⟩=_ from cellB HB.out P2.out),fun j u hu=>(show wr.cell? ⟨ba,oa+m*4+j,none⟩=_ from cellB HB.out (HC.out j u hu))⟩ (fun hHeld=> ?_);have hb:=below_drew (Below.refl wr.heap.size wr);generalize wr.drew=w7 at hb hHeld ⊢;have HB7:=am (below_step HB.out hb);clear hb HB BP BPc;refine ba9 (fuel:=2) (n:=10) [0,1,2,3,4,5,6,7,8,9] (by kernel_rfl) (fun N _ _ _ _ h=>by cases N <;> exact h) hHeld ?_
           iterate 10 (
            refine stillS_step (v:= ?_) (a':= ?_) rfl (Or.inl ⟨by rfl, ?_⟩) ?_ ?_;rotate_left
            ·rintro W ⟨s0,s2,s3⟩
             have t0:=zc8 s0;have u0:=s3 0 _ rfl;have u1:=s3 1 _ rfl;have u2:=s3 2 _ rfl;have u3:=s3 3 _ rfl;rw [Nat.add_zero] at u0;clear s0 s3;go_simp;with_reducible rfl
            rotate_left
            ·simp only [Act.put,sA,sZ,sS,i64_w]
             rfl)
           refine stillS_nil ?_;refine on9 (i:=10) (N:=some 65) rfl rfl (by kernel_rfl) (by decide) (fun K hK=> ?_);refine goes_ Try.func123 (by kernel_rfl) rfl #[.agg #[.slice Ac p.cells.length cc,.slice (some ⟨bb,ob,none⟩) p.bodies.length cb],.int .i64 k,.agg #[.int .i64 a.kind,.slice Ad a.deeds.length cd,.slice Ak a.kids.length ck,.int .i64 a.reg]] (by rfl) rfl rfl (by (try simp only [List.map_toArray,List.map_cons,List.map_nil]);first | done | rfl) ?_;refine (l1Act_calls p a _ _ (k:Int) _ (kProg.K_below HB7.out HPK.out) (kAct.K_below HB7.out HK.out) (by omega) (by omega) (by omega) (by omega) SZ.out.1 SZ.out.2).mono ?_;rw [HD.out];rintro e wn ⟨rfl,hb⟩;refine ⟨_,rfl, ?_⟩;refine hK.out _ _ ⟨zb8 hHeld.1 hb,cellB hb hHeld.2.1,fun j u hu=>cellB hb (hHeld.2.2 j u hu)⟩ (fun hHeld=> ?_);clear hK K;refine norm_ (a':= ?_) ?_ ?_;rotate_left
           ·show Act.put _ (some 65) _=_
            simp only [Act.put,sA,sZ,sS,i64_w];rfl
           have HB:=am (below_step HB7.out hb);refine ba9 (fuel:=0) (n:=1) [11] (by kernel_rfl) (fun N _ _ _ _ h=>by cases N <;> exact h) hHeld ?_
           iterate 1 (
            refine stillS_step (v:= ?_) (a':= ?_) rfl (Or.inl ⟨by rfl, ?_⟩) ?_ ?_;rotate_left
            ·intro W hW
             go_simp
             with_reducible rfl
            rotate_left
            ·simp only [Act.put,sA,sZ,sS,i64_w]
             rfl)
           refine stillS_nil ?_;have BP:=am hHeld.1;clear hHeld HB7 hb;have BPc:=zc8 BP.out;refine done_ (by kernel_rfl) ?_;go_wp2;go_ret
           have hr:formOk p=false:=by
            unfold formOk;rw [allB_no (n:=p.bodies.length) hlt (by unfold bodyOk;rw [allB_no hmt (by rw [<-AX.out];exact HD.out),Bool.and_false]),Bool.and_false]
           rw [hr];exact ⟨rfl,HB.out⟩
         ·obtain rfl:m=(actsAt p.bodies k).length:=by omega
          go_wp2;go_roundw
          case rel=>exact ⟨k+1,by omega,by go_num,⟨fun i hi=>by rcases Nat.lt_or_ge i k with h | h;exact HJ.out i h;obtain rfl:i=k:=(by omega);unfold bodyOk;rw [allB_iff.2 HM.out,decide_eq_true c4];rfl⟩,BP,HB⟩
          case measure=>simp [intOf];omega
       ·have u4:decide (4 < (actsAt p.bodies k).length)=true:=decide_eq_true (by omega)
        have v4:decide ((4:Int) < ((actsAt p.bodies k).length:Int))=true:=decide_eq_true (by omega);have C4:=am c4;clear c4;go_wp2;go_ret
        have hr:formOk p=false:=by
         unfold formOk;rw [allB_no (n:=p.bodies.length) hlt (by unfold bodyOk;rw [decide_eq_false C4.out,Bool.false_and]),Bool.and_false]
        rw [hr];exact ⟨rfl,HB.out⟩
      ·obtain rfl:k=p.bodies.length:=by omega
       go_wp2;go_ret
       have hr:formOk p=true:=by
        unfold formOk;rw [allB_iff.2 HJ.out,HCS.out,show inB (p.bodies.length:Int) 1 4=true from HI.out,decide_eq_true C3.out];rfl
       rw [hr];exact ⟨rfl,HB.out⟩
 ·have u3:decide (3 < p.cells.length)=true:=decide_eq_true (by omega)
  have v3:decide ((3:Int) < (p.cells.length:Int))=true:=decide_eq_true (by omega);have C3:=am c3;clear c3
  go_wp2_with (first
  |((with_reducible refine gate_dst (N:=1) rfl ?_);refine box_event rfl (N:=1) rfl (t:=48) (by go_simp<;>rfl) ?_;intro gp hg w1 hbox hb;have BP:=am hbox;have HB:=am hb;have BPc:=zc8 BP.out;clear hbox hb hg))
  go_ret
  have hr:formOk p=false:=by
   unfold formOk;rw [decide_eq_false C3.out,Bool.false_and,Bool.false_and,Bool.false_and]
  rw [hr];exact ⟨rfl,HB.out⟩
theorem acc_le {p:Prog} (hf:formOk p=true) {b:Int} (h0:0<=b) (h1:b < p.bodies.length) (k:Nat):sumL (fun a:Act=>sumL (treeOf p) a.kids) ((actsAt p.bodies b.toNat).take k)<=37448:=by
 have h4:=form_acts hf ⟨h0,h1⟩;refine Nat.le_trans (sumL_le (m:=9362) fun a ha=> ?_) ?_
 ·obtain ⟨h2,h3⟩:=kid_behind hf ⟨h0,h1⟩ (List.mem_of_mem_take ha)
  refine Nat.le_trans (sumL_le (m:=4681) fun x hx=>treeOf_le hf (by have:=h3 x hx;omega) (h3 x hx).2) ?_;omega
 ·rw [List.length_take]
  have:min k (actsAt p.bodies b.toNat).length<=4:=by omega
  omega
theorem kid_le {p:Prog} (hf:formOk p=true) {b:Int} (h0:0<=b) (h1:b < p.bodies.length) {a:Act} (ha:a ∈ actsAt p.bodies b.toNat) (m:Nat):sumL (treeOf p) (a.kids.take m)<=9362:=by
 obtain ⟨h2,h3⟩:=kid_behind hf ⟨h0,h1⟩ ha;refine Nat.le_trans (sumL_le (m:=4681) fun x hx=>treeOf_le hf (by have:=h3 x (List.mem_of_mem_take hx);omega) (h3 x (List.mem_of_mem_take hx)).2) ?_;rw [List.length_take];have:min m a.kids.length<=2:=by omega
 omega
theorem l1Tree_calls (p:Prog) (pcs:List Value) (hf:formOk p=true):∀ (n:Nat) (b:Int) (w:World),kProg.K w p pcs->0<=b->b < p.bodies.length->(p.bodies.length:Int) - b<=n->
  Calls Try.prog 90 #[.agg pcs.toArray,.int .i64 b] w fun e w'=>e= .returned (.int .i64 (treeOf p b))/\Below w.heap.size w w':=by
 intro n
 induction n with
 | zero=>intro b w _ h0 h1 hn;omega
 | succ n ih=>
 intro b w hp h0 h1 hn;have IH:=am ih;clear ih;obtain ⟨kb,rfl⟩:=Int.eq_ofNat_of_zero_le h0;have hkb:kb < p.bodies.length:=by omega
 have HAC:Aside0 (∀ k,sumL (fun a:Act=>sumL (treeOf p) a.kids) ((actsAt p.bodies kb).take k)<=37448):=⟨fun k=>acc_le hf h0 h1 k⟩;have HTR:Aside0 (treeOf p (kb:Int)=1+sumL (fun a:Act=>sumL (treeOf p) a.kids) (actsAt p.bodies kb)):=⟨treeOf_eq hf h0 h1⟩;have HPK:=am hp;have HF:=am hf;have hb4:=(form_cells hf).2.2;have ha4:(actsAt p.bodies kb).length<=4:=form_acts hf ⟨h0,h1⟩;obtain ⟨Ac,cc,Ab,cb,rfl,-,gc,-,gb⟩:=kProg_open hp;obtain ⟨bb,ob,cs2,rfl,hcl2,hK2,hcc2,-⟩:=C_field gb ([]:List Act) kb hkb (by decide);obtain ⟨Aa,ca,rfl,la,ga2⟩:=hK2;have p2:=hcc2 0 _ rfl;simp only [show (Kd.slice 108 kAct).sz=1 from rfl,Nat.mul_one,Nat.add_zero] at p2;have GA2:=am (show kAct.C w Aa (actsAt p.bodies kb).length (actsAt p.bodies kb) from ga2);rw [show (p.bodies.getD kb []).length=(actsAt p.bodies kb).length from rfl] at p2;have P2:=am p2;have q0:(0:Int)<=(kb:Int):=by omega
 have q1:(kb:Int) < (p.bodies.length:Int):=by omega
 clear hp hf gc gb hcc2 hcl2 ga2 la p2 h0 h1;go_enter Try.func90,Try.ntmps90
 go_wp2_with (first
 |((with_reducible refine gate_dst (N:=2) rfl ?_);refine box_event rfl (N:=2) rfl (t:=48) (by go_simp<;>rfl) ?_;intro gp hg w1 hbox hb;have BP:=am hbox;have HB:=am hb;have BPc:=zc8 BP.out;clear hbox hb hg))
 go_loopw [5,6] (fun v j w'=>∃ k:Nat,k<=(actsAt p.bodies kb).length/\j= .int .i64 k/\v= .int .i64 ((1+sumL (fun a:Act=>sumL (treeOf p) a.kids) ((actsAt p.bodies kb).take k):Nat))/\Aside0 (w'.heap[gp]? = some (.cells #[.slice Ac p.cells.length cc,.slice (some ⟨bb,ob,none⟩) p.bodies.length cb] 48 (0,0)))/\Aside0 (Below w.heap.size w w')) (fun _ j _=>(actsAt p.bodies kb).length - (intOf j).toNat)
 case atStart=>exact ⟨0,Nat.zero_le _,rfl,by simp [sumL],BP,HB⟩
 case round=>
  clear BP HB BPc;obtain ⟨k,hk,rfl,rfl,BP,HB⟩:=hrel;obtain ⟨acc,hacc⟩:∃ x:Nat,x=(1+sumL (fun a:Act=>sumL (treeOf p) a.kids) ((actsAt p.bodies kb).take k):Nat):=⟨_,rfl⟩;have hacl:acc<=37449:=by have:=HAC.out k;omega
  simp only [<-hacc];have HACC:=am hacc;clear hacc;have BPc:=zc8 BP.out;have p2w:=cellB HB.out P2.out;by_cases hmt:k < (actsAt p.bodies kb).length
  ·obtain ⟨ba,oa,cs3,rfl,hcl3,hK3,hcc3,-⟩:=C_field GA2.out zAct k hmt (by decide)
   obtain ⟨a,hax⟩:∃ x,x=actAt (actsAt p.bodies kb) k:=⟨_,rfl⟩;rw [show (actsAt p.bodies kb).getD k zAct=a from hax.symm] at hK3
   have hmem:a ∈ actsAt p.bodies kb:=by
    have h9:actAt (actsAt p.bodies kb) k=(actsAt p.bodies kb)[k]:=by simp [actAt,hmt]
    rw [hax,h9];exact List.getElem_mem hmt
   have AX:=am hax;have KB:=am (kid_behind HF.out (b:=(kb:Int)) ⟨q0,q1⟩ hmem);have KL:Aside0 (∀ m,sumL (treeOf p) (a.kids.take m)<=9362):=⟨fun m=>kid_le HF.out (b:=(kb:Int)) q0 q1 hmem m⟩;have hk2:a.kids.length<=2:=KB.out.1;obtain ⟨Ad,cd,Ak,ck,rfl,-,-,-,gk⟩:=kAct_open hK3;have HKS:=am gk;have pk:=hcc3 2 _ rfl;simp only [show kAct.sz=4 from rfl] at pk;have PK:=am pk;have pkw:=cellB HB.out pk;have r0:(0:Int)<=(k:Int):=by omega
   have r1:(k:Int) < ((actsAt p.bodies kb).length:Int):=by omega
   clear hcc3 hK3 hcl3 hax hmem pk gk;go_wp2;go_loopw [5,8] (fun v j w'=>∃ m:Nat,m<=a.kids.length/\j= .int .i64 m/\v= .int .i64 ((acc+sumL (treeOf p) (a.kids.take m):Nat):Int)/\Aside0 (w'.heap[gp]? = some (.cells #[.slice Ac p.cells.length cc,.slice (some ⟨bb,ob,none⟩) p.bodies.length cb] 48 (0,0)))/\Aside0 (Below w.heap.size w w')) (fun _ j _=>a.kids.length - (intOf j).toNat)
   case atStart=>exact ⟨0,Nat.zero_le _,rfl,by simp [sumL],BP,HB⟩
   case round=>
    clear BP HB BPc p2w pkw;obtain ⟨m,hm,rfl,rfl,BP,HB⟩:=hrel;obtain ⟨ac2,hac2⟩:∃ x:Nat,x=acc+sumL (treeOf p) (a.kids.take m):=⟨_,rfl⟩;have hac2l:ac2<=50000:=by have:=KL.out m;omega
    simp only [<-hac2];have HAC2:=am hac2;clear hac2;have BPc:=zc8 BP.out;by_cases hlt:m < a.kids.length
    ·have s0:(0:Int)<=(m:Int):=by omega
     have s1:(m:Int) < (a.kids.length:Int):=by omega
     obtain ⟨kid,hkid⟩:∃ x,x=numAt a.kids m:=⟨_,rfl⟩;have hkr:=KB.out.2 kid (by rw [hkid];have h9:numAt a.kids m=a.kids[m]:=(by simp [numAt,hlt]);rw [h9];exact List.getElem_mem hlt);have KR:=am hkr;obtain ⟨tk0,htk⟩:∃ x,x=treeOf p kid:=⟨_,rfl⟩;have htl:tk0<=4681:=by rw [htk];exact treeOf_le HF.out (by omega) hkr.2
     have HTK:=am htk.symm;have HKD:=am hkid;obtain ⟨ad,had,-⟩:=Kd.at_int HKS.out (m:Int) s0 s1;subst had;clear hkid htk hkr;go_wp2;refine st9 (n:=9) (S:=fun W=>W.heap[gp]? = some (.cells #[.slice Ac p.cells.length cc,.slice (some ⟨bb,ob,none⟩) p.bodies.length cb] 48 (0,0))/\(Kd.int .i64).C W (some ad) a.kids.length a.kids) (ds:= []) (by kernel_rfl) rfl ⟨blk_drew BP.out,Kd.C_below (Kd.C_below HKS.out HB.out) (below_drew (Below.refl _ _))⟩ (fun hHeld=> ?_);have hb:=below_drew (Below.refl wr.heap.size wr);generalize wr.drew=w7 at hb hHeld ⊢;have HB7:=am (below_step HB.out hb);clear hb HB BP BPc;refine ba9 (fuel:=3) (n:=6) [0,1,2,3,4,5] (by kernel_rfl) (fun N _ _ _ _ h=>by cases N <;> exact h) hHeld ?_
     iterate 6 (
      refine stillS_step (v:= ?_) (a':= ?_) rfl (Or.inl ⟨by rfl, ?_⟩) ?_ ?_;rotate_left
      ·rintro W ⟨s00,s2⟩
       have t0:=zc8 s00;obtain ⟨ad1,hh,gx⟩:=Kd.at_int s2 (m:Int) s0 s1;cases hh;simp only [Int.toNat_natCast] at gx;rw [show rd a.kids (m:Int)=kid from HKD.out.symm] at gx;clear s00 s2;go_simp;with_reducible rfl
      rotate_left
      ·simp only [Act.put,sA,sZ,sS,i64_w]
       rfl)
     refine stillS_nil ?_;refine on9 (i:=6) (N:=some 40) rfl rfl (by kernel_rfl) (by decide) (fun K hK=> ?_);refine goes_ Try.func90 (by kernel_rfl) rfl #[.agg #[.slice Ac p.cells.length cc,.slice (some ⟨bb,ob,none⟩) p.bodies.length cb],.int .i64 kid] (by rfl) rfl rfl (by (try simp only [List.map_toArray,List.map_cons,List.map_nil]);first | done | rfl) ?_;refine (IH.out kid _ (kProg.K_below HB7.out HPK.out) (by have:=KR.out;omega) KR.out.2 (by have:=KR.out;omega)).mono ?_;rw [HTK.out];rintro e wn ⟨rfl,hb⟩;refine ⟨_,rfl, ?_⟩;refine hK.out _ _ ⟨zb8 hHeld.1 hb,Kd.C_below hHeld.2 hb⟩ (fun hHeld=> ?_);clear hK K;refine norm_ (a':= ?_) ?_ ?_;rotate_left
     ·show Act.put _ (some 40) _=_
      simp only [Act.put,sA,sZ,sS,i64_w];rfl
     have HB:=am (below_step HB7.out hb);refine ba9 (fuel:=0) (n:=2) [7,8] (by kernel_rfl) (fun N _ _ _ _ h=>by cases N <;> exact h) hHeld ?_
     iterate 2 (
      refine stillS_step (v:= ?_) (a':= ?_) rfl (Or.inl ⟨by rfl, ?_⟩) ?_ ?_;rotate_left
      ·intro W hW
       go_simp
       with_reducible rfl
      rotate_left
      ·simp only [Act.put,sA,sZ,sS,i64_w]
       rfl)
     refine stillS_nil ?_;have BP:=am hHeld.1;clear hHeld HB7 hb;have BPc:=zc8 BP.out;refine done_ (by kernel_rfl) ?_;go_wp2;go_roundw
     case rel=>exact ⟨m+1,by omega,by go_num,by rw [show ((acc+sumL (treeOf p) (a.kids.take (m+1)):Nat):Int)=(ac2:Int)+(tk0:Int) by rw [sumL_take (treeOf p) 0 a.kids hlt,show a.kids.getD m 0=kid from HKD.out.symm,HTK.out,HAC2.out];omega,show wrap64 ((ac2:Int)+(tk0:Int))=(ac2:Int)+(tk0:Int) from (by unfold wrap64;omega)],BP,HB⟩
     case measure=>simp [intOf];omega
    ·obtain rfl:m=a.kids.length:=by omega
     have hfin:ac2=(1+sumL (fun a:Act=>sumL (treeOf p) a.kids) ((actsAt p.bodies kb).take (k+1)):Nat):=by
      rw [HAC2.out,List.take_length,HACC.out,sumL_take (fun a:Act=>sumL (treeOf p) a.kids) zAct (actsAt p.bodies kb) hmt,show (actsAt p.bodies kb).getD k zAct=a from AX.out.symm];omega
     have HFIN:=am hfin;clear hfin;go_wp2;go_roundw
     case rel=>exact ⟨k+1,by omega,by go_num,by rw [HFIN.out],BP,HB⟩
     case measure=>simp [intOf];omega
  ·obtain rfl:k=(actsAt p.bodies kb).length:=by omega
   go_wp2;go_ret;have hr:treeOf p (kb:Int)=acc:=by rw [HTR.out,HACC.out,List.take_length]
   rw [hr];exact ⟨rfl,HB.out⟩
theorem progOk_calls (p:Prog) (pcs:List Value) (w:World) (hp:kProg.K w p pcs) (hz:ProgSz p):
  Calls Try.prog 56 #[.agg pcs.toArray] w fun e w'=>e= .returned (.bool (progOk p))/\Below w.heap.size w w':=by
 have HPK:=am hp;obtain ⟨Ac,cc,Ab,cb,rfl,-⟩:=kProg_open hp;have HZ:=am hz;clear hp hz;go_enter Try.func56,Try.ntmps56
 cases hf:formOk p with
 | false=>
  have HF:=am hf;clear hf
  go_wp2_with (first
  |((with_reducible refine gate_dst (N:=1) rfl ?_);refine box_event rfl (N:=1) rfl (t:=48) (by go_simp<;>rfl) ?_;intro gp hg w1 hbox hb;have BP:=am hbox;have HB:=am hb;have BPc:=zc8 BP.out;clear hbox hb hg)
  |(go_at_call 89;refine (l1Form_calls p _ _ (kProg.K_below HB.out HPK.out) HZ.out).mono ?_;rw [HF.out];rintro e w9 ⟨rfl,hb⟩;replace HB:=am (below_step HB.out hb);replace BP:=am (zb8 BP.out hb);clear hb BPc;have BPc:=zc8 BP.out))
  go_ret;have hr:progOk p=false:=by unfold progOk;rw [HF.out,Bool.false_and]
  rw [hr]
  exact ⟨rfl,HB.out⟩
 | true=>
  have HF:=am hf;have hb1:=(form_cells hf).2.1;have HB1:=am hb1;obtain ⟨n,hn⟩:∃ x,x=treeOf p 0:=⟨_,rfl⟩;have HN:=am hn.symm;clear hf hn hb1
  go_wp2_with (first
  |((with_reducible refine gate_dst (N:=1) rfl ?_);refine box_event rfl (N:=1) rfl (t:=48) (by go_simp<;>rfl) ?_;intro gp hg w1 hbox hb;have BP:=am hbox;have HB:=am hb;have BPc:=zc8 BP.out;clear hbox hb hg)
  |(go_at_call 89;refine (l1Form_calls p _ _ (kProg.K_below HB.out HPK.out) HZ.out).mono ?_;rw [HF.out];rintro e w9 ⟨rfl,hb⟩;replace HB:=am (below_step HB.out hb);replace BP:=am (zb8 BP.out hb);clear hb BPc;have BPc:=zc8 BP.out)
  |(go_at_call 90;refine (l1Tree_calls p _ HF.out p.bodies.length 0 _ (kProg.K_below HB.out HPK.out) (by omega) (by have:=HB1.out;omega) (by omega)).mono ?_;rw [HN.out];rintro e w9 ⟨rfl,hb⟩;replace HB:=am (below_step HB.out hb);clear hb BP BPc))
  go_ret
  have hr:progOk p=decide ((n:Int)<=7):=by
   unfold progOk;rw [HF.out,HN.out,Bool.true_and];exact decide_eq_decide.2 (by omega)
  rw [hr];exact ⟨rfl,HB.out⟩
inductive En
 | b (g:Nat) (cs:Array Value) (t:TypeId)
 | kp (g:Nat) (cs:Array Value) (t:TypeId)
 | f (ad:Addr) (v:Value)
abbrev Bx:=List En
def Nix (_:World):Prop:=True
def Lies (W:World):Bx->Prop
 | []=>True
 | .b g cs t :: l=>W.heap[g]? = some (.cells cs t (0,0))/\Lies W l
 | .kp g cs t :: l=>W.heap[g]? = some (.cells cs t (0,0))/\Lies W l
 | .f ad v :: l=>W.cell? ad=some v/\Lies W l
def Cl (W:World):Bx->Prop
 | []=>Nix W
 | .b g cs _ :: l=>(∀ i,W.cell? ⟨g,i,none⟩=cs[i]?)/\Cl W l
 | .kp g cs _ :: l=>(∀ i,W.cell? ⟨g,i,none⟩=cs[i]?)/\Cl W l
 | .f ad v :: l=>W.cell? ad=some v/\Cl W l
def En.ok (w:World):En->Prop
 | .b g _ _=>w.heap.size<=g
 | .kp g _ _=>g < w.heap.size
 | .f ad _=>ad.block < w.heap.size
def En.key:En->Nat->Prop
 | .b g _ _,k=>k=g
 | _,_=>False
def Apart (a b:En):Prop:=∀ k,a.key k->¬ b.key k
structure Own (w W:World) (l:Bx):Prop where
 below:Below w.heap.size w W
 lies:Lies W l
 fresh:∀ e ∈ l,e.ok w
 apart:l.Pairwise Apart
inductive At:Bx->Nat->Array Value->TypeId->Prop
 | here {g cs t l}:At (.b g cs t :: l) g cs t
 | kept {g cs t l}:At (.kp g cs t :: l) g cs t
 | there {g cs t l e}:At l g cs t->At (e :: l) g cs t
inductive Upd:Bx->Nat->Array Value->Array Value->TypeId->Bx->Prop
 | here {g cs cs' t l}:Upd (.b g cs t :: l) g cs cs' t (.b g cs' t :: l)
 | there {g cs cs' t l l' e}:Upd l g cs cs' t l'->Upd (e :: l) g cs cs' t (e :: l')
theorem Lies.cl {W:World}:∀ {l:Bx},Lies W l->Cl W l
 | [],_=>trivial
 | .b _ _ _ :: _,h=>⟨fun i=>zc8 h.1 i,h.2.cl⟩
 | .kp _ _ _ :: _,h=>⟨fun i=>zc8 h.1 i,h.2.cl⟩
 | .f _ _ :: _,h=>⟨h.1,h.2.cl⟩
theorem Own.cl {w W:World} {l:Bx} (h:Own w W l):Cl W l:=h.lies.cl
theorem Own.nil (w:World):Own w w []:=⟨Below.refl _ _,trivial,fun e h=>(by cases h),List.Pairwise.nil⟩
theorem Own.far {w W:World} {l:Bx} (h:Own w W l) {ad:Addr} {v:Value} (hc:w.cell? ad=some v):Own w W (.f ad v :: l):=
 ⟨h.below,⟨pw_cell_below h.below hc,h.lies⟩,fun e he=>by
  rcases List.mem_cons.1 he with rfl | he
  ·exact World.block_lt_of_cell? _ _ hc
  ·exact h.fresh e he,List.Pairwise.cons (fun e he k hk=>by cases hk) h.apart⟩
theorem Lies.below {W W':World} (hb:Below W.heap.size W W'):∀ {l:Bx},Lies W l->Lies W' l
 | [],_=>trivial
 | .b _ _ _ :: _,h=>⟨zb8 h.1 hb,h.2.below hb⟩
 | .kp _ _ _ :: _,h=>⟨zb8 h.1 hb,h.2.below hb⟩
 | .f _ _ :: _,h=>⟨pw_cell_below hb h.1,h.2.below hb⟩
theorem Lies.grown {w W W':World} {g:Nat} (hg:W.grownBy W' (some g)) (hw:w.heap.size<=g) (hW:w.heap.size<=W.heap.size):∀ {l:Bx},Lies W l->(∀ e ∈ l,e.ok w)->(∀ e ∈ l,¬ e.key g)->Lies W' l
 | [],_,_,_=>trivial
 | .b _ _ _ :: _,h,hf,hn=>⟨blk_grown h.1 hg (fun he=>hn _ List.mem_cons_self (by injection he with he;exact he.symm)),Lies.grown hg hw hW h.2 (fun e he=>hf e (List.mem_cons_of_mem _ he)) (fun e he=>hn e (List.mem_cons_of_mem _ he))⟩
 | .kp k _ _ :: _,h,hf,hn=>by
  have hlt:k < w.heap.size:=hf _ List.mem_cons_self
  exact ⟨blk_grown h.1 hg (fun he=>by injection he with he;omega),Lies.grown hg hw hW h.2 (fun e he=>hf e (List.mem_cons_of_mem _ he)) (fun e he=>hn e (List.mem_cons_of_mem _ he))⟩
 | .f ad _ :: _,h,hf,hn=>by
  have hlt:ad.block < w.heap.size:=hf _ List.mem_cons_self;exact ⟨(hg.cell h.1 (fun he=>by injection he with he;omega)),Lies.grown hg hw hW h.2 (fun e he=>hf e (List.mem_cons_of_mem _ he)) (fun e he=>hn e (List.mem_cons_of_mem _ he))⟩
theorem Lies.at_ {W:World} {g:Nat} {cs:Array Value} {t:TypeId}:∀ {l:Bx},Lies W l->At l g cs t->W.heap[g]? = some (.cells cs t (0,0))
 | _,h,.here=>h.1
 | _,h,.kept=>h.1
 | .b _ _ _ :: _,h,.there h'=>Lies.at_ h.2 h'
 | .kp _ _ _ :: _,h,.there h'=>Lies.at_ h.2 h'
 | .f _ _ :: _,h,.there h'=>Lies.at_ h.2 h'
theorem Lies.lt {W:World} {k:Nat}:∀ {l:Bx},Lies W l->∀ e ∈ l,e.key k->k < W.heap.size
 | .b _ _ _ :: _,h,e,he,hk=>by
  rcases List.mem_cons.1 he with rfl | he
  ·cases hk;exact blk_lt h.1
  ·exact Lies.lt h.2 e he hk
 | .kp _ _ _ :: _,h,e,he,hk=>by
  rcases List.mem_cons.1 he with rfl | he
  ·cases hk
  ·exact Lies.lt h.2 e he hk
 | .f _ _ :: _,h,e,he,hk=>by
  rcases List.mem_cons.1 he with rfl | he
  ·cases hk
  ·exact Lies.lt h.2 e he hk
theorem Own.step {w W W':World} {l:Bx} (h:Own w W l) (hb:Below W.heap.size W W'):Own w W' l:=⟨below_step h.below hb,h.lies.below hb,h.fresh,h.apart⟩
theorem Own.push {w W W':World} {l:Bx} (h:Own w W l) (hb:Below W.heap.size W W') {cs:Array Value} {t:TypeId} (hg:W'.heap[W.heap.size]? = some (.cells cs t (0,0))):Own w W' (.b W.heap.size cs t :: l):=
 ⟨below_step h.below hb,⟨hg,h.lies.below hb⟩,fun e he=>by
  rcases List.mem_cons.1 he with rfl | he
  ·exact h.below.size
  ·exact h.fresh e he,List.Pairwise.cons (fun e he k hk hk2=>by cases hk;exact Nat.lt_irrefl _ (h.lies.lt e he hk2)) h.apart⟩
theorem Upd.at_ {g:Nat} {cs cs':Array Value} {t:TypeId}:∀ {l l':Bx},Upd l g cs cs' t l'->At l g cs t
 | _,_,.here=> .here
 | _,_,.there h=> .there h.at_
theorem Upd.in_ {g:Nat} {cs cs':Array Value} {t:TypeId}:∀ {l l':Bx},Upd l g cs cs' t l'-> .b g cs t ∈ l
 | _,_,.here=>List.mem_cons_self
 | _,_,.there h=>List.mem_cons_of_mem _ h.in_
theorem Upd.mem {w:World} {g:Nat} {cs cs':Array Value} {t:TypeId}:∀ {l l':Bx},Upd l g cs cs' t l'->∀ e ∈ l',∃ e' ∈ l,(∀ k,e.key k->e'.key k)/\(e'.ok w->e.ok w)
 | _,_,.here,e,he=>by
  rcases List.mem_cons.1 he with rfl | he
  ·exact ⟨_,List.mem_cons_self,fun _ h=>h,fun h=>h⟩
  ·exact ⟨e,List.mem_cons_of_mem _ he,fun _ h=>h,fun h=>h⟩
 | _,_,.there h,e,he=>by
  rcases List.mem_cons.1 he with rfl | he
  ·exact ⟨_,List.mem_cons_self,fun _ h=>h,fun h=>h⟩
  ·obtain ⟨e',h1,h2⟩:=h.mem e he
   exact ⟨e',List.mem_cons_of_mem _ h1,h2⟩
theorem Upd.lies {w W W':World} {g:Nat} {cs cs':Array Value} {t:TypeId} (hg:W.grownBy W' (some g)) (hw:w.heap.size<=g) (hW:w.heap.size<=W.heap.size) (hc:W'.heap[g]? = some (.cells cs' t (0,0))):∀ {l l':Bx},Upd l g cs cs' t l'->Lies W l->(∀ e ∈ l,e.ok w)->l.Pairwise Apart->Lies W' l'
 | _,_,.here,h,hf,hp=>⟨hc,h.2.grown hg hw hW (fun e he=>hf e (List.mem_cons_of_mem _ he)) (fun e he hk=>(List.pairwise_cons.1 hp).1 e he g rfl hk)⟩
 | .b _ _ _ :: _,_,.there h',h,hf,hp=>⟨blk_grown h.1 hg (fun he=>(List.pairwise_cons.1 hp).1 _ h'.in_ g (by injection he with he;exact he.symm) rfl),h'.lies hg hw hW hc h.2 (fun e he=>hf e (List.mem_cons_of_mem _ he)) (List.pairwise_cons.1 hp).2⟩
 | .kp k _ _ :: _,_,.there h',h,hf,hp=>by
  have hlt:k < w.heap.size:=hf _ List.mem_cons_self
  exact ⟨blk_grown h.1 hg (fun he=>by injection he with he;omega),h'.lies hg hw hW hc h.2 (fun e he=>hf e (List.mem_cons_of_mem _ he)) (List.pairwise_cons.1 hp).2⟩
 | .f ad _ :: _,_,.there h',h,hf,hp=>by
  have hlt:ad.block < w.heap.size:=hf _ List.mem_cons_self;exact ⟨(hg.cell h.1 (fun he=>by injection he with he;omega)),h'.lies hg hw hW hc h.2 (fun e he=>hf e (List.mem_cons_of_mem _ he)) (List.pairwise_cons.1 hp).2⟩
theorem Upd.apart {g:Nat} {cs cs':Array Value} {t:TypeId} (w:World):∀ {l l':Bx},Upd l g cs cs' t l'->l.Pairwise Apart->l'.Pairwise Apart
 | _,_,.here,hp=>List.pairwise_cons.2 ⟨fun e he k hk=>(List.pairwise_cons.1 hp).1 e he k hk,(List.pairwise_cons.1 hp).2⟩
 | _,_,.there h',hp=>List.pairwise_cons.2 ⟨fun e he k hk hk2=>by obtain ⟨e',h1,h2,-⟩:=h'.mem (w:=w) e he;exact (List.pairwise_cons.1 hp).1 e' h1 k hk (h2 k hk2),h'.apart w (List.pairwise_cons.1 hp).2⟩
theorem Own.upd {w W W':World} {l l':Bx} {g:Nat} {cs cs':Array Value} {t:TypeId} (h:Own w W l) (hg:W.grownBy W' (some g)) (hc:W'.heap[g]? = some (.cells cs' t (0,0))) (hu:Upd l g cs cs' t l'):Own w W' l':=
 have hw:w.heap.size<=g:=h.fresh _ hu.in_
 ⟨pw_below_grown h.below _ h.below.size hg (fun z hz=>by cases hz;exact hw),hu.lies hg hw h.below.size hc h.lies h.fresh h.apart,fun e he=>by obtain ⟨e',h1,-,h2⟩:=hu.mem (w:=w) e he;exact h2 (h.fresh e' h1),hu.apart w h.apart⟩
theorem Own.pop {w W:World} {e:En} {l:Bx} (h:Own w W (e :: l)):Own w W l:=
 ⟨h.below,by cases e <;> exact h.lies.2,fun e he=>h.fresh e (List.mem_cons_of_mem _ he),(List.pairwise_cons.1 h.apart).2⟩
def En.old:En->En
 | .b g cs t=> .kp g cs t
 | .kp g cs t=> .kp g cs t
 | .f ad v=> .f ad v
theorem Lies.old {W:World}:∀ {l:Bx},Lies W l->Lies W (l.map En.old)
 | [],_=>trivial
 | .b _ _ _ :: _,h=>⟨h.1,h.2.old⟩
 | .kp _ _ _ :: _,h=>⟨h.1,h.2.old⟩
 | .f _ _ :: _,h=>⟨h.1,h.2.old⟩
theorem Lies.old_ok {W:World}:∀ {l:Bx},Lies W l->∀ e ∈ l.map En.old,e.ok W
 | .b _ _ _ :: _,h,e,he=>by
  rcases List.mem_cons.1 he with rfl | he
  ·exact blk_lt h.1
  ·exact Lies.old_ok h.2 e he
 | .kp _ _ _ :: _,h,e,he=>by
  rcases List.mem_cons.1 he with rfl | he
  ·exact blk_lt h.1
  ·exact Lies.old_ok h.2 e he
 | .f _ _ :: _,h,e,he=>by
  rcases List.mem_cons.1 he with rfl | he
  ·exact World.block_lt_of_cell? _ _ h.1
  ·exact Lies.old_ok h.2 e he
theorem old_key (e:En) (k:Nat):¬ e.old.key k:=by cases e <;> exact fun h=>h
theorem Own.rebase {w W:World} {l:Bx} (h:Own w W l):Own W W (l.map En.old):=
 ⟨Below.refl _ _,h.lies.old,h.lies.old_ok,List.pairwise_iff_forall_sublist.2 fun {a b} hs k hk=>by
  have hm:a ∈ l.map En.old:=hs.subset List.mem_cons_self;obtain ⟨e,-,rfl⟩:=List.mem_map.1 hm;exact absurd hk (old_key e k)⟩
theorem Own.named {w W:World} {l:Bx} (h:Aside0 (Own w W l)):∃ L,Aside0 (l=L)/\Aside0 (Own w W L):=⟨l,⟨rfl⟩,h⟩
theorem Own.namedT {w W:World} {e:En} {l:Bx} (h:Aside0 (Own w W (e :: l))):∃ L,Aside0 (l=L)/\Aside0 (Own w W (e :: L)):=⟨l,⟨rfl⟩,h⟩
theorem Own.namedX {w W:World} {e b:En} {l:Bx} (h:Aside0 (Own w W (e :: b :: l))):∃ E L,Aside0 (e=E)/\Aside0 (l=L)/\Aside0 (Own w W (E :: b :: L)):=⟨e,l,⟨rfl⟩,⟨rfl⟩,h⟩
theorem Own.drew {w W:World} {l:Bx} (h:Own w W l):Own w W.drew l:=h.step (below_drew (Below.refl _ _))
def isBox:Op->Bool
 | .alloc _=>true
 | .box _ _=>true
 | _=>false
section
variable {P:Program} {ops:Array Oper} {rest:List Oper} {o:Oper} {a:Go.Act} {Q:Exit->Go.Act->World->Prop} {w W:World} {l:Bx}
theorem gB {t:TypeId} {x:Operand} {N:Tmp} {ty:TypeId} {ps:String} {af:Array Edge} (h:wpList P ops Q ({dst:=some N,op:=.box t x,type:=ty,pos:=ps,after:=af,guard:=none} :: rest) a W):wpList P ops Q ({dst:=some N,op:=.box t x,type:=ty,pos:=ps,after:=af,guard:=none} :: rest) a W:=h
theorem gA {t:TypeId} {N:Tmp} {ty:TypeId} {ps:String} {af:Array Edge} (h:wpList P ops Q ({dst:=some N,op:=.alloc t,type:=ty,pos:=ps,after:=af,guard:=none} :: rest) a W):wpList P ops Q ({dst:=some N,op:=.alloc t,type:=ty,pos:=ps,after:=af,guard:=none} :: rest) a W:=h
theorem gL {t:TypeId} {x:Operand} {N:Tmp} {ty:TypeId} {ps:String} {af:Array Edge} (h:wpList P ops Q ({dst:=some N,op:=.load t x,type:=ty,pos:=ps,after:=af,guard:=none} :: rest) a W):wpList P ops Q ({dst:=some N,op:=.load t x,type:=ty,pos:=ps,after:=af,guard:=none} :: rest) a W:=h
theorem gS {t:TypeId} {p x:Operand} {ty:TypeId} {ps:String} {af:Array Edge} (h:wpList P ops Q ({dst:=none,op:=.store t p x,type:=ty,pos:=ps,after:=af,guard:=none} :: rest) a W):wpList P ops Q ({dst:=none,op:=.store t p x,type:=ty,pos:=ps,after:=af,guard:=none} :: rest) a W:=h
theorem oB {cs:Array Value} {t:TypeId} {N:Tmp} (hb:isBox o.op=true) (M:Own w W l) (h:∀ g W',Aside0 (Own w W' (.b g cs t :: l))->Cl W' (.b g cs t :: l)->wpList P ops Q rest (a.put (some N) (.pointer (some ⟨g,0,none⟩))) W')
  (hd:o.dst=some N:=by rfl) (hgd:o.guard=none:=by rfl)
  (hrun:(execOp a.eval o).run P W= .ok (.value (.pointer (some ⟨W.heap.size,0,none⟩))) (W.alloc (.cells cs t (0,0))):=by go_simp <;> rfl):wpList P ops Q (o :: rest) a W:=
 Kd.event_run hgd hrun (by rw [hd];exact h _ _ ⟨M.push (below_alloc (Below.refl _ _) _) (blk_new W _)⟩ (M.push (below_alloc (Below.refl _ _) _) (blk_new W _)).cl)
theorem oL {t:TypeId} {x:Operand} {g:Nat} {cs:Array Value} {N:Tmp} (ho:o.op= .load t x) (hx:a.eval x= .pointer (some ⟨g,0,none⟩)) (M:Own w W l) (h:wpList P ops Q rest (a.put (some N) (.agg cs)) W)
  (hin:At l g cs t:=by repeat (first|exact .here | exact .kept | apply At.there)) (hd:o.dst=some N:=by rfl) (hgd:o.guard=none:=by rfl)
  (hu:(match P.underlying t with | some d=>d.isRow && ((P.info? t).map (·.size) == some cs.size)|none=>false)=true:=by kernel_rfl):wpList P ops Q (o :: rest) a W:=by
 cases hp:P.underlying t with
 | none=>rw [hp] at hu;cases hu
 | some d=>
  rw [hp] at hu;simp only [Bool.and_eq_true,beq_iff_eq] at hu;refine load_block (cs:=cs.toList) hgd t x ho d hx (by simpa using M.lies.at_ hin) hp hu.1 (by simpa using hu.2) ?_;rw [hd];simpa using h
theorem oS {t:TypeId} {p x:Operand} {g:Nat} {cs cs':Array Value} {l':Bx} (ho:o.op= .store t p x) (hp:a.eval p= .pointer (some ⟨g,0,none⟩)) (hx:a.eval x= .agg cs') (M:Own w W l)
  (h:∀ W',Aside0 (Own w W' l')->Cl W' l'->wpList P ops Q rest a W') (hin:Upd l g cs cs' t l':=by repeat (first|exact .here | apply Upd.there)) (hs:((cs'.size == cs.size) && ((P.info? t).map (·.size) == some cs'.size) && cs'.all (·.oneCell'))=true:=by kernel_rfl)
  (hN:o.dst=none:=by rfl) (hgd:o.guard=none:=by rfl):wpList P ops Q (o :: rest) a W:=by
 simp only [Bool.and_eq_true,beq_iff_eq,Array.all_eq_true_iff_forall_mem] at hs;refine store_block (cs:=cs'.toList) hgd hN t p x ho hp (by simpa using hx) (M.lies.at_ hin.at_) (by simpa using hs.1.1) (by simpa using hs.1.2) (fun v hv=>hs.2 v (by simpa using hv)) ?_;intro w1 h1 hg;have hm:=M.upd hg (by simpa using h1) hin;exact h _ ⟨hm⟩ hm.cl
theorem oF0 {t e:TypeId} {p x:Operand} {g j:Nat} {v:Value} {cs:Array Value} {l':Bx} (ho:o.op= .store t p x) (hp:a.eval p= .pointer (some ⟨g,j,none⟩)) (hx:a.eval x=v) (M:Own w W l) (hin:Upd l g cs (cs.setIfInBounds j v) e l')
  (h:∀ W',Aside0 (Own w W' l')->Cl W' l'->wpList P ops Q rest a W') (hj:j < cs.size) (hi:(P.info? t).map (·.size)=some 1) (hv:v.cells= #[v]) (h1:v.oneCell'=true) (hN:o.dst=none) (hgd:o.guard=none):wpList P ops Q (o :: rest) a W:=by
 have hh:=M.lies.at_ hin.at_;refine wpList_plain hgd fun K hK=> ?_
 obtain ⟨info,hinfo,hsz⟩:=Option.map_eq_some_iff.1 hi;unfold Oper.wp execOp
 have hrun:(Instr.storeAt t (.pointer (some ⟨g,j,none⟩)) v).run P W= .ok () (W.setCell ⟨g,j,none⟩ v):=by
  have:=run_storeCells_cells (P:=P) g j [v] 0 W (fun k hk=>by
   have:k=0:=by simpa using hk
   subst this;simp [zc8 hh j,Array.getElem?_eq_getElem hj]) (fun k hk=>by
   have:k=0:=by simpa using hk
   subst this;exact blk_frozen hh j) (fun q hq=>by rw [List.mem_singleton.1 hq];exact h1)
  simp only [Nat.add_zero] at this;simp [Instr.storeAt,Instr.sureAddr,storeVar,sizeOf,typeInfo,hinfo,hsz,hv,this,World.setCells]
 simp only [ho,hp,hx,Sem.run_bind,hrun,Result.andThen_ok,Sem.run_pure,Oper.upon_skip];rw [hN];obtain ⟨s1,s2,s3,s4⟩:=setCells_same g [v] j W;have hg:W.grownBy (W.setCell ⟨g,j,none⟩ v) (some g):=⟨s1,s2,s3,Nat.le_of_eq s4.symm,fun i hi hne=>Below.heap_setCell W ⟨g,j,none⟩ v i (fun he=>hne (by rw [he]))⟩;have hm:=M.upd hg (blk_set hh j v) hin;exact hK _ _ (h _ ⟨hm⟩ hm.cl)
theorem nums_set (hs:List Int) (j:Nat) (v:Int):(nums .i64 hs).toArray.setIfInBounds j (.int .i64 v)=(nums .i64 (hs.set j v)).toArray:=by
 rw [List.setIfInBounds_toArray];unfold nums;rw [List.map_set]
theorem nums_get {hs:List Int} {j:Nat} (h:j < hs.length):(nums .i64 hs).toArray[j]? = some (.int .i64 (hs.getD j 0)):=by
 rw [List.getElem?_toArray];unfold nums;simp [h]
theorem oM {t e:TypeId} {x y:Operand} {N:Tmp} {m:Nat} (ho:o.op= .makeSlice t x y) (hx:a.eval x= .int .i64 (m:Int)) (hy:a.eval y= .int .i64 (m:Int)) (ht:P.underlying t=some (.slice e)) (hinfo:(P.info? e).map (fun i=>(i.zero,i.size,i.bytes))=some (some (.int .i64 0),1,8)) (M:Own w W l) (hm:m<=1048576)
  (h:∀ g W',Aside0 (Own w W' (.b g (nums .i64 (List.replicate m 0)).toArray e :: l))->Cl W' (.b g (nums .i64 (List.replicate m 0)).toArray e :: l)->wpList P ops Q rest (a.put (some N) (.slice (some ⟨g,0,none⟩) m m)) W')
  (hd:o.dst=some N:=by rfl) (hgd:o.guard=none:=by rfl):wpList P ops Q (o :: rest) a W:=by
 have hl:madeCells #[Value.int .i64 0] m=(nums .i64 (List.replicate m 0)).toArray:=by
  apply Array.toList_inj.1;apply List.ext_getElem
  ·simp [nums,madeCells]
  ·intro i h1 h2
   simp [nums,madeCells,Nat.mod_one]
 have hr:=print_make t e .i64 8 ht hinfo (by decide) m (by omega) W;rw [hl] at hr;have hm2:=M.push (cs:=(nums .i64 (List.replicate m 0)).toArray) (t:=e) (below_alloc (Below.refl _ _) (.cells (nums .i64 (List.replicate m 0)).toArray e)) (blk_new W _);refine Kd.event_run hgd (v:=.slice (some ⟨W.heap.size,0,none⟩) m m) (w1:=W.alloc (.cells (nums .i64 (List.replicate m 0)).toArray e)) ?_ (by rw [hd];exact h _ _ ⟨hm2⟩ hm2.cl);unfold execOp;simp only [ho,hx,hy,Sem.run_bind,hr,Result.andThen_ok,Sem.run_pure]
theorem oI {t e:TypeId} {p x:Operand} {g j:Nat} {v:Int} {hs:List Int} {l':Bx} (ho:o.op= .store t p x) (hp:a.eval p= .pointer (some ⟨g,j,none⟩)) (hx:a.eval x= .int .i64 v) (M:Own w W l) (hin:Upd l g (nums .i64 hs).toArray (nums .i64 (hs.set j v)).toArray e l') (hj:j < hs.length)
  (h:∀ W',Aside0 (Own w W' l')->Cl W' l'->wpList P ops Q rest a W') (hs:(P.info? t).map (·.size)=some 1:=by kernel_rfl)
  (hN:o.dst=none:=by rfl) (hgd:o.guard=none:=by rfl):wpList P ops Q (o :: rest) a W:=
 oF0 ho hp hx M (by rw [nums_set];exact hin) h (by simpa [nums] using hj) hs rfl rfl hN hgd
theorem oR {t:TypeId} {x:Operand} {b off:Nat} {cs:List Value} {N:Tmp} (ho:o.op= .load t x) (hx:a.eval x= .pointer (some ⟨b,off,none⟩)) (M:Own w W l) (hc:∀ j u,cs[j]? = some u->w.cell? ⟨b,off+j,none⟩=some u) (h:wpList P ops Q rest (a.put (some N) (.agg cs.toArray)) W)
  (hd:o.dst=some N:=by rfl) (hgd:o.guard=none:=by rfl)
  (hu:(match P.underlying t with | some d=>d.isRow && ((P.info? t).map (·.size) == some cs.length)|none=>false)=true:=by kernel_rfl):wpList P ops Q (o :: rest) a W:=by
 cases hp:P.underlying t with
 | none=>rw [hp] at hu;cases hu
 | some d=>
  rw [hp] at hu;simp only [Bool.and_eq_true,beq_iff_eq] at hu;refine wpList_load_mid hgd t x ho b off hx cs d (fun j u hj=>pw_cell_below M.below (hc j u hj)) hp hu.1 hu.2 ?_;rw [hd];exact h
end
theorem oC {P:Program} {f:FuncId} {args:Array Value} {w W:World} {l:Bx} {r:Ending} {Q:Ending->World->Prop} (M:Own w W l) (hc:Calls P f args W fun e W'=>e=r/\Below W.heap.size W W') (h:∀ W',Aside0 (Own w W' l)->Cl W' l->Q r W'):Calls P f args W Q:=
 hc.mono fun e W' ⟨he,hb⟩=>by subst he;exact h _ ⟨M.step hb⟩ (M.step hb).cl
theorem oE {P:Program} {f:FuncId} {args:Array Value} {W:World} {r:Ending} {Q:Ending->World->Prop} (hc:Calls P f args W fun e W'=>e=r/\W=W') (h:Q r W):Calls P f args W Q:=
 hc.mono fun e W' ⟨he,hb⟩=>by subst he;subst hb;exact h
theorem oEb {P:Program} {f:FuncId} {args:Array Value} {W:World} {x b:Bool} {Q:Ending->World->Prop} (hc:Calls P f args W fun e W'=>e= .returned (.bool x)/\W=W') (hx:x=b) (h:Q (.returned (.bool b)) W):Calls P f args W Q:=
 by subst hx;exact oE hc h
theorem oCb {P:Program} {f:FuncId} {args:Array Value} {w W:World} {l:Bx} {x b:Bool} {Q:Ending->World->Prop} (M:Own w W l) (hc:Calls P f args W fun e W'=>e= .returned (.bool x)/\Below W.heap.size W W') (hx:x=b) (h:∀ W',Aside0 (Own w W' l)->Cl W' l->Q (.returned (.bool b)) W'):Calls P f args W Q:=
 by subst hx;exact oC M hc h
def dG (P:Program) (ops:Array Oper) (Q:Exit->Go.Act->World->Prop) (w:World) (l:Bx) (n:Nat) (is:List Nat) (a:Go.Act) (W:World):Prop:=
 wpAnyLast P .any ops Q (fun V=>Own w V l) [] (n - is.length) (setAll (Array.replicate n false) is) a W
theorem setAll_app:∀ (is js:List Nat) (x:Array Bool),setAll x (is ++ js)=setAll (setAll x is) js
 | [],_,_=>rfl
 | i :: is,js,x=>setAll_app is js _
section
variable {P:Program} {ops:Array Oper} {o:Oper} {a:Go.Act} {Q:Exit->Go.Act->World->Prop} {w W:World} {l:Bx} {n:Nat}
theorem dS {id:Nat} (M:Own w W l) (h:∀ W',Aside0 (Own w W' l)->dG P ops Q w l n [] a W') (hm:P.follows .mixedOrders=true:=by kernel_rfl) (hn:ops.size=n:=by rfl):(Code.region id ops true).wp P Q a W:=
 start_ (S:=fun V=>Own w V l) (ds:= []) _ hm hn rfl M.drew (fun hh=>h _ ⟨hh⟩)
theorem dN {js:List Nat} (is:List Nat) (M:Own w W l) (h:stillS P ops (fun V=>Cl V l) is (fun a'=>dG P ops Q w l n (js ++ is) a' W) a)
  (hc:(batchB .any ops [] (setAll (Array.replicate n false) js) is && (n - js.length == n - (js ++ is).length+is.length))=true:=by kernel_rfl)
  (hQ:∀ N v c a w,Q (.panic c) (Go.Act.put a N v) w->Q (.panic c) a w:=by (intro N _ _ _ _ h;cases N <;> exact h)):dG P ops Q w l n js a W:=by
 simp only [Bool.and_eq_true,beq_iff_eq] at hc;unfold dG;rw [hc.2];refine batch_go (S:=fun V=>Own w V l) hQ M is _ a hc.1 rfl ?_
 have key:∀ (is:List Nat) (K K':Go.Act->Prop) (a:Go.Act),(∀ a,K a->K' a)->stillS P ops (fun V=>Cl V l) is K a->stillS P ops (fun V=>Own w V l) is K' a:=by
  intro is
  induction is with
  | nil=>exact fun K K' a hk h=>hk _ h
  | cons i is ih=>
   rintro K K' a hk ⟨oi,v,h1,h2,h3⟩;exact ⟨oi,v,h1,h2.imp (fun h=>⟨h.1,fun V hV=>h.2 V hV.cl⟩) id,ih _ _ _ hk h3⟩
 exact key _ _ _ _ (fun a' h=>by unfold dG at h;rw [setAll_app] at h;exact h) h
theorem wanted_none {o:Oper} {y:Nat->Option Bool} (h:o.guard=none):Region.wanted o y=true:=by simp [Region.wanted,h]
theorem wanted_some {o:Oper} {y:Nat->Option Bool} {j:Nat} {b b':Bool} (h:o.guard=some (j,b)) (hy:y j=some b'):Region.wanted o y=(b' == b):=by cases b <;> cases b' <;> simp [Region.wanted,h,hy]
theorem sP {i:Nat} {is:List Nat} {K:Go.Act->Prop} {N:Option Tmp} {op:Op} {ty:TypeId} {ps:String} {af:Array Edge} {gd:Option (Nat × Bool)} {a':Go.Act} {v:Value} (hi:ops[i]? = some {dst:=N,op:=op,type:=ty,pos:=ps,after:=af,guard:=gd}) (h:stillS P ops (fun V=>Cl V l) is K a') (hg:gd=none:=by rfl)
  (hr:∀ V,Cl V l->(execOp a.eval {dst:=N,op:=op,type:=ty,pos:=ps,after:=af,guard:=gd}).run P V= .ok (.value v) V:=by intro V C;simp only [Cl] at C;go_simp;with_reducible rfl)
  (ha:a.put N v=a':=by simp only [Act.put,sA,sZ,sS,i64_w];rfl):stillS P ops (fun V=>Cl V l) (i :: is) K a:=
 ⟨_,v,hi,Or.inl ⟨wanted_none hg,hr⟩,ha ▸ h⟩
theorem sG {i:Nat} {is:List Nat} {K:Go.Act->Prop} {N:Option Tmp} {op:Op} {ty:TypeId} {ps:String} {af:Array Edge} {gd:Option (Nat × Bool)} {a':Go.Act} {v:Value} {j:Nat} {b b':Bool} (hi:ops[i]? = some {dst:=N,op:=op,type:=ty,pos:=ps,after:=af,guard:=gd}) (h:stillS P ops (fun V=>Cl V l) is K a') (hg:gd=some (j,b):=by rfl) (hy:yielded ops a.tmps j=some b':=by rfl) (hb:b'=b:=by rfl)
  (hr:∀ V,Cl V l->(execOp a.eval {dst:=N,op:=op,type:=ty,pos:=ps,after:=af,guard:=gd}).run P V= .ok (.value v) V:=by intro V C;simp only [Cl] at C;go_simp;with_reducible rfl)
  (ha:a.put N v=a':=by simp only [Act.put,sA,sZ,sS,i64_w];rfl):stillS P ops (fun V=>Cl V l) (i :: is) K a:=
 ⟨_,v,hi,Or.inl ⟨by rw [wanted_some hg hy,hb,beq_self_eq_true],hr⟩,ha ▸ h⟩
theorem sU {i:Nat} {is:List Nat} {K:Go.Act->Prop} {N:Option Tmp} {op:Op} {ty:TypeId} {ps:String} {af:Array Edge} {gd:Option (Nat × Bool)} {a':Go.Act} {j:Nat} {b b':Bool} (hi:ops[i]? = some {dst:=N,op:=op,type:=ty,pos:=ps,after:=af,guard:=gd}) (h:stillS P ops (fun V=>Cl V l) is K a') (hg:gd=some (j,b):=by rfl) (hy:yielded ops a.tmps j=some b':=by rfl) (hb:b'= !b:=by rfl)
  (ha:a.put N undef=a':=by simp only [Act.put,sA,sZ,sS];rfl):stillS P ops (fun V=>Cl V l) (i :: is) K a:=
 ⟨_,undef,hi,Or.inr ⟨by rw [wanted_some hg hy,hb];cases b <;> rfl,rfl⟩,ha ▸ h⟩
theorem sN {i:Nat} {is:List Nat} {K:Go.Act->Prop} {N:Option Tmp} {op:Op} {ty:TypeId} {ps:String} {af:Array Edge} {gd:Option (Nat × Bool)} {a':Go.Act} {j:Nat} {b:Bool} (hi:ops[i]? = some {dst:=N,op:=op,type:=ty,pos:=ps,after:=af,guard:=gd}) (h:stillS P ops (fun V=>Cl V l) is K a') (hg:gd=some (j,b):=by rfl) (hy:yielded ops a.tmps j=none:=by rfl)
  (ha:a.put N undef=a':=by simp only [Act.put,sA,sZ,sS];rfl):stillS P ops (fun V=>Cl V l) (i :: is) K a:=
 ⟨_,undef,hi,Or.inr ⟨by simp [Region.wanted,hg,hy],rfl⟩,ha ▸ h⟩
theorem Cl.at_ {W:World} {g:Nat} {cs:Array Value} {t:TypeId}:∀ {l:Bx},Cl W l->At l g cs t->∀ i,W.cell? ⟨g,i,none⟩=cs[i]?
 | _,h,.here=>h.1
 | _,h,.kept=>h.1
 | .b _ _ _ :: _,h,.there h'=>Cl.at_ h.2 h'
 | .kp _ _ _ :: _,h,.there h'=>Cl.at_ h.2 h'
 | .f _ _ :: _,h,.there h'=>Cl.at_ h.2 h'
theorem sL {i:Nat} {is:List Nat} {K:Go.Act->Prop} {N:Option Tmp} {t:TypeId} {x:Operand} {ty:TypeId} {ps:String} {af:Array Edge} {a':Go.Act} {g:Nat} {cs:Array Value} (hi:ops[i]? = some {dst:=N,op:=.load t x,type:=ty,pos:=ps,after:=af,guard:=none}) (hx:a.eval x= .pointer (some ⟨g,0,none⟩)) (h:stillS P ops (fun V=>Cl V l) is K a')
  (hin:At l g cs t:=by repeat (first|exact .here | exact .kept | apply At.there)) (hu:(match P.underlying t with | some d=>d.isRow && ((P.info? t).map (·.size) == some cs.size)|none=>false)=true:=by kernel_rfl)
  (ha:a.put N (.agg cs)=a':=by simp only [Act.put,sA,sZ,sS];rfl):stillS P ops (fun V=>Cl V l) (i :: is) K a:=by
 cases hp:P.underlying t with
 | none=>rw [hp] at hu;cases hu
 | some d=>
  rw [hp] at hu;simp only [Bool.and_eq_true,beq_iff_eq] at hu;refine ⟨_,.agg cs,hi, ?_,ha ▸ h⟩;have:=yieldsIf_load_mid (ops:=ops) (S:=fun V=>Cl V l) (op:={dst:=N,op:=.load t x,type:=ty,pos:=ps,after:=af,guard:=none}) (a:=a) (wanted_none rfl) t x rfl g 0 hx cs.toList d (fun V hV j u hj=>by rw [Nat.zero_add,Cl.at_ hV hin j];simpa using hj) hp hu.1 (by simpa using hu.2);simpa using this
theorem sLg {i:Nat} {is:List Nat} {K:Go.Act->Prop} {N:Option Tmp} {t:TypeId} {x:Operand} {ty:TypeId} {ps:String} {af:Array Edge} {a':Go.Act} {g:Nat} {cs:Array Value} {j:Nat} {b b':Bool} (hi:ops[i]? = some {dst:=N,op:=.load t x,type:=ty,pos:=ps,after:=af,guard:=some (j,b)}) (hx:a.eval x= .pointer (some ⟨g,0,none⟩)) (h:stillS P ops (fun V=>Cl V l) is K a')
  (hy:yielded ops a.tmps j=some b':=by rfl) (hb:b'=b:=by rfl) (hin:At l g cs t:=by repeat (first|exact .here | exact .kept | apply At.there)) (hu:(match P.underlying t with | some d=>d.isRow && ((P.info? t).map (·.size) == some cs.size)|none=>false)=true:=by kernel_rfl)
  (ha:a.put N (.agg cs)=a':=by simp only [Act.put,sA,sZ,sS];rfl):stillS P ops (fun V=>Cl V l) (i :: is) K a:=by
 cases hp:P.underlying t with
 | none=>rw [hp] at hu;cases hu
 | some d=>
  rw [hp] at hu;simp only [Bool.and_eq_true,beq_iff_eq] at hu;refine ⟨_,.agg cs,hi, ?_,ha ▸ h⟩;have:=yieldsIf_load_mid (ops:=ops) (S:=fun V=>Cl V l) (op:={dst:=N,op:=.load t x,type:=ty,pos:=ps,after:=af,guard:=some (j,b)}) (a:=a) (by rw [wanted_some rfl hy,hb,beq_self_eq_true]) t x rfl g 0 hx cs.toList d (fun V hV j u hj=>by rw [Nat.zero_add,Cl.at_ hV hin j];simpa using hj) hp hu.1 (by simpa using hu.2);simpa using this
theorem dC {js:List Nat} (i:Nat) {N:Option Tmp} {f:FuncId} {ar:Array Operand} {ts:Array TypeId} {args:Array Value} {ty:TypeId} {ps:String} {af:Array Edge} {gd:Option (Nat × Bool)} (hi:ops[i]? = some {dst:=N,op:=.call {callee:=.value (.func f),args:=ar,argTypes:=ts},type:=ty,pos:=ps,after:=af,guard:=gd})
  (h:Calls P f args W fun e W'=>∃ v,e= .returned v/\Aside0 (Own w W' l)/\dG P ops Q w l n (js ++ [i]) (a.put N v) W')
  (hw:Region.wanted {dst:=N,op:=.call {callee:=.value (.func f),args:=ar,argTypes:=ts},type:=ty,pos:=ps,after:=af,guard:=gd} (yielded ops a.tmps)=true:=by rfl)
  (hargs:ar.map a.eval=args:=by (try simp only [List.map_toArray,List.map_cons,List.map_nil]);first | done | rfl)
  (hc:((Region.ready .any ops (setAll (Array.replicate n false) js) == [i]) && (n - js.length == n - (js ++ [i]).length+1) && (match P.funcs[f]? with | some fn=> !(fn.name == "runtime.NumGoroutine") && fn.body.isSome | none=>false))=true:=by kernel_rfl):dG P ops Q w l n js a W:=by
 simp only [Bool.and_eq_true,beq_iff_eq] at hc;unfold dG;rw [hc.1.2]
 cases hf:P.funcs[f]? with
 | none=>rw [hf] at hc;cases hc.2
 | some fn=>
  rw [hf] at hc;simp only [Bool.and_eq_true,Bool.not_eq_true'] at hc;refine one_ (N:=N) ((setAll (Array.replicate n false) js).setIfInBounds i true) hi rfl (by simp [readyB,hc.1.1]) (by simp) (fun K hK=> ?_);refine goes_ (fn:=fn) hf hc.2.1 hc.2.2 args hw rfl rfl hargs ?_;refine h.mono ?_;rintro e W' ⟨v,rfl,hm,hd⟩;refine ⟨v,rfl, ?_⟩;refine hK.out _ _ hm.out (fun _=> ?_);unfold dG at hd;rw [setAll_app] at hd;exact hd
theorem dU {js:List Nat} (i:Nat) {N:Option Tmp} {op:Op} {ty:TypeId} {ps:String} {af:Array Edge} {gd:Option (Nat × Bool)} (hi:ops[i]? = some {dst:=N,op:=op,type:=ty,pos:=ps,after:=af,guard:=gd}) (hw:Region.wanted {dst:=N,op:=op,type:=ty,pos:=ps,after:=af,guard:=gd} (yielded ops a.tmps)=false) (M:Own w W l)
  (h:dG P ops Q w l n (js ++ [i]) (a.put N undef) W)
  (hc:((Region.ready .any ops (setAll (Array.replicate n false) js) == [i]) && (n - js.length == n - (js ++ [i]).length+1))=true:=by kernel_rfl):dG P ops Q w l n js a W:=by
 simp only [Bool.and_eq_true,beq_iff_eq] at hc;unfold dG;rw [hc.2];refine one_ (N:=N) ((setAll (Array.replicate n false) js).setIfInBounds i true) hi rfl (by simp [readyB,hc.1]) (by simp) (fun K hK=> ?_);rw [if_neg (by rw [hw];exact Bool.false_ne_true)];refine hK.out _ _ M (fun _=> ?_);unfold dG at h;rw [setAll_app] at h;exact h
theorem dD {js:List Nat} (h:Q .normal a W) (hr:(Region.ready .any ops (setAll (Array.replicate n false) js) == [])=true:=by kernel_rfl):dG P ops Q w l n js a W:=done_ hr h
theorem dA {js:List Nat} {a':Go.Act} (h:dG P ops Q w l n js a' W) (ha:a=a':=by simp only [Act.put,sA,sZ,sS,i64_w];rfl):dG P ops Q w l n js a W:=by
 subst ha;exact h
end
theorem put_cells {w:World} {A:Option Addr} {xs:List Put} (h:kPut.C w A xs.length xs):∃ b o,(0 < xs.length->A=some ⟨b,o,none⟩)/\∀ k,k < xs.length->w.cell? ⟨b,o+k*2,none⟩=some (.int .i64 (putAt xs k).cell)/\w.cell? ⟨b,o+k*2+1,none⟩=some (.int .i64 (putAt xs k).num):=by
 by_cases h0:0 < xs.length
 ·obtain ⟨b,o,cs,rfl,-⟩:=C_field h zPut 0 h0 (by decide)
  refine ⟨b,o,fun _=>rfl,fun k hk=> ?_⟩;obtain ⟨b',o',cs,he,hcl,hK,hcc,-⟩:=C_field h zPut k hk (by decide);cases he;have e:=kPut_open hK;subst e;have p0:=hcc 0 _ rfl;have p1:=hcc 1 _ rfl;simp only [show kPut.sz=2 from rfl,Nat.add_zero] at p0 p1;exact ⟨p0,p1⟩
 ·exact ⟨0,0,fun h=>absurd h h0,fun k hk=>by omega⟩
theorem l12List_calls (A:Option Addr) (c:Nat) (xs:List Put) (cells:Int) (w:World) (hx:kPut.C w A xs.length xs) (hn:xs.length<=1048576) (h0:0<=cells) (h1:cells<=1048576):
  Calls Try.prog 92 #[.slice A xs.length c,.int .i64 cells] w fun e w'=>e= .returned (.bool (listOk xs cells))/\Below w.heap.size w w':=by
 obtain ⟨b,o,hA,hcell⟩:=put_cells hx;have HC:=am hcell;have M:=am (Own.nil w);have C:=M.out.cl;clear hx hcell;go_enter Try.func92,Try.ntmps92;go_wp2;go_loopw [5] (fun j w'=>∃ k:Nat,k<=xs.length/\j= .int .i64 k/\Aside0 (∀ i,i < k->(inB (putAt xs i).cell 0 (cells - 1) && inB (putAt xs i).num 0 99 && (decide (i=0) || decide ((putAt xs (i - 1)).cell < (putAt xs i).cell)))=true)/\Aside0 (Own w w' [])) (fun j _=>xs.length - (intOf j).toNat)
 case atStart=>exact ⟨0,Nat.zero_le _,rfl,⟨fun i hi=>by omega⟩,M⟩
 case round=>
  obtain ⟨k,hk,rfl,HJ,M2⟩:=hrel;clear M C;have M:=M2;clear M2;by_cases hlt:k < xs.length
  ·obtain rfl:=hA (by omega)
   have q0:(0:Int)<=(k:Int):=by omega
   have q1:(k:Int) < (xs.length:Int):=by omega
   obtain ⟨x,hxx⟩:∃ x,x=putAt xs k:=⟨_,rfl⟩;have p0:=(HC.out k hlt).1;have p1:=(HC.out k hlt).2;rw [<-hxx] at p0 p1;have HXX:=am hxx;have w1:wrap64 (cells - 1)=cells - 1:=by unfold wrap64;omega
   obtain ⟨b1,y1⟩:∃ b,inB x.cell 0 (cells - 1)=b:=⟨_,rfl⟩;obtain ⟨b2,y2⟩:∃ b,inB x.num 0 99=b:=⟨_,rfl⟩;have H1:=am y1;have H2:=am y2;have Y1:Aside0 ((decide (0<=x.cell) && decide (x.cell<=wrap64 (cells - 1)))=b1):=⟨by rw [w1];exact y1⟩;have Y2:Aside0 ((decide (0<=x.num) && decide (x.num<=99))=b2):=⟨y2⟩;replace M:=am ((M.out.far p0).far p1);have C:=M.out.cl;simp only [Cl] at C;clear hxx y1 y2 p0 p1;go_wp2;cases b1
   case false=>
    refine dS M.out ?_;clear M C;intro W M;refine dN [0,1,2,3,4,5,6] M.out ?_;iterate 7 (first|refine sP rfl ?_ | refine sG rfl ?_ | refine sU rfl ?_ | refine sN rfl ?_)
    refine stillS_nil ?_;refine dC 7 rfl ?_;refine oEb (l6In_calls _ _ _ _) Y1.out ?_;refine ⟨_,rfl,M,dA ?_⟩;refine dN [8,9,10,11,12,13,14] M.out ?_;iterate 7 (first|refine sP rfl ?_ | refine sG rfl ?_ | refine sU rfl ?_ | refine sN rfl ?_)
    refine stillS_nil ?_;refine dU 15 rfl rfl M.out (dA ?_);refine dN [16,17,18,19,20,21,22,23,24,25,26,27,28,29,30,31,32,33,34,35] M.out ?_;iterate 20 (first|refine sP rfl ?_ | refine sG rfl ?_ | refine sU rfl ?_ | refine sN rfl ?_)
    refine stillS_nil ?_;refine dD ?_;have C:=M.out.cl;simp only [Cl] at C;go_wp2;go_ret;rw [show listOk xs cells=false from allB_no hlt (by rw [<-HXX.out,H1.out,Bool.false_and,Bool.false_and])];exact ⟨rfl,M.out.below⟩
   cases b2
   case false=>
    refine dS M.out ?_;clear M C;intro W M;refine dN [0,1,2,3,4,5,6] M.out ?_;iterate 7 (first|refine sP rfl ?_ | refine sG rfl ?_ | refine sU rfl ?_ | refine sN rfl ?_)
    refine stillS_nil ?_;refine dC 7 rfl ?_;refine oEb (l6In_calls _ _ _ _) Y1.out ?_;refine ⟨_,rfl,M,dA ?_⟩;refine dN [8,9,10,11,12,13,14] M.out ?_;iterate 7 (first|refine sP rfl ?_ | refine sG rfl ?_ | refine sU rfl ?_ | refine sN rfl ?_)
    refine stillS_nil ?_;refine dC 15 rfl ?_;refine oEb (l6In_calls _ _ _ _) Y2.out ?_;refine ⟨_,rfl,M,dA ?_⟩;refine dN [16,17,18,19,20,21,22,23,24,25,26,27,28,29,30,31,32,33,34,35] M.out ?_;iterate 20 (first|refine sP rfl ?_ | refine sG rfl ?_ | refine sU rfl ?_ | refine sN rfl ?_)
    refine stillS_nil ?_;refine dD ?_;have C:=M.out.cl;simp only [Cl] at C;go_wp2;go_ret;rw [show listOk xs cells=false from allB_no hlt (by rw [<-HXX.out,H2.out,Bool.and_false,Bool.false_and])];exact ⟨rfl,M.out.below⟩
   by_cases hk0:k=0
   ·have y0:decide ((0:Int) < (k:Int))=false:=decide_eq_false (by omega)
    have y0':decide (0 < k)=false:=decide_eq_false (by omega);have HK0:=am hk0;clear hk0;refine dS M.out ?_;clear M C;intro W M;refine dN [0,1,2,3,4,5,6] M.out ?_;iterate 7 (first|refine sP rfl ?_ | refine sG rfl ?_ | refine sU rfl ?_ | refine sN rfl ?_)
    refine stillS_nil ?_;refine dC 7 rfl ?_;refine oEb (l6In_calls _ _ _ _) Y1.out ?_;refine ⟨_,rfl,M,dA ?_⟩;refine dN [8,9,10,11,12,13,14] M.out ?_;iterate 7 (first|refine sP rfl ?_ | refine sG rfl ?_ | refine sU rfl ?_ | refine sN rfl ?_)
    refine stillS_nil ?_;refine dC 15 rfl ?_;refine oEb (l6In_calls _ _ _ _) Y2.out ?_;refine ⟨_,rfl,M,dA ?_⟩;refine dN [16,17,18,19,20,21,22,23,24,25,26,27,28,29,30,31,32,33,34,35] M.out ?_;iterate 20 (first|refine sP rfl ?_ | refine sG rfl ?_ | refine sU rfl ?_ | refine sN rfl ?_)
    refine stillS_nil ?_;refine dD ?_;have C:=M.out.cl;simp only [Cl] at C;go_wp2;go_roundw
    case rel=>exact ⟨k+1,by omega,by go_num,⟨fun i hi=>by rcases Nat.lt_or_ge i k with h | h;exact HJ.out i h;obtain rfl:i=k:=(by omega);rw [<-HXX.out,H1.out,H2.out,decide_eq_true HK0.out,Bool.true_or];rfl⟩,⟨M.out.pop.pop⟩⟩
    case measure=>simp [intOf];omega
   ·have y0:decide ((0:Int) < (k:Int))=true:=decide_eq_true (by omega)
    have y0':decide (0 < k)=true:=decide_eq_true (by omega);obtain ⟨xp,hxp⟩:∃ x,x=putAt xs (k - 1):=⟨_,rfl⟩;have p0:=(HC.out (k - 1) (by omega)).1;rw [<-hxp] at p0;have HXP:=am hxp;have s0:(0:Int)<=(k:Int) - 1:=by omega
    have s1:(k:Int) - 1 < (xs.length:Int):=by omega
    have s2:((k:Int) - 1).toNat=k - 1:=by omega
    have s3:(1:Int)<=(k:Int):=by omega
    have s4:1<=k:=by omega
    have w2:wrap64 ((k:Int) - 1)=(k:Int) - 1:=by unfold wrap64;omega
    replace M:=am (M.out.far p0);clear C;have C:=M.out.cl;simp only [Cl] at C;clear p0 hxp;obtain ⟨b3,y3⟩:∃ b,decide (x.cell<=xp.cell)=b:=⟨_,rfl⟩;have Y3:=am y3;cases b3
    ·refine dS M.out ?_
     clear M C;intro W M;refine dN [0,1,2,3,4,5,6] M.out ?_;iterate 7 (first|refine sP rfl ?_ | refine sG rfl ?_ | refine sU rfl ?_ | refine sN rfl ?_)
     refine stillS_nil ?_;refine dC 7 rfl ?_;refine oEb (l6In_calls _ _ _ _) Y1.out ?_;refine ⟨_,rfl,M,dA ?_⟩;refine dN [8,9,10,11,12,13,14] M.out ?_;iterate 7 (first|refine sP rfl ?_ | refine sG rfl ?_ | refine sU rfl ?_ | refine sN rfl ?_)
     refine stillS_nil ?_;refine dC 15 rfl ?_;refine oEb (l6In_calls _ _ _ _) Y2.out ?_;refine ⟨_,rfl,M,dA ?_⟩;refine dN [16,17,18,19,20,21,22,23,24,25,26,27,28,29,30,31,32,33,34,35] M.out ?_;iterate 20 (first|refine sP rfl ?_ | refine sG rfl ?_ | refine sU rfl ?_ | refine sN rfl ?_)
     refine stillS_nil ?_;refine dD ?_;have C:=M.out.cl;simp only [Cl] at C;go_wp2;go_roundw
     case rel=>exact ⟨k+1,by omega,by go_num,⟨fun i hi=>by rcases Nat.lt_or_ge i k with h | h;exact HJ.out i h;obtain rfl:i=k:=(by omega);rw [<-HXX.out,H1.out,H2.out,<-HXP.out,decide_eq_true (show xp.cell < x.cell from Int.not_le.1 (of_decide_eq_false Y3.out)),Bool.or_true];rfl⟩,⟨M.out.pop.pop.pop⟩⟩
     case measure=>simp [intOf];omega
    ·refine dS M.out ?_
     clear M C;intro W M;refine dN [0,1,2,3,4,5,6] M.out ?_;iterate 7 (first|refine sP rfl ?_ | refine sG rfl ?_ | refine sU rfl ?_ | refine sN rfl ?_)
     refine stillS_nil ?_;refine dC 7 rfl ?_;refine oEb (l6In_calls _ _ _ _) Y1.out ?_;refine ⟨_,rfl,M,dA ?_⟩;refine dN [8,9,10,11,12,13,14] M.out ?_;iterate 7 (first|refine sP rfl ?_ | refine sG rfl ?_ | refine sU rfl ?_ | refine sN rfl ?_)
     refine stillS_nil ?_;refine dC 15 rfl ?_;refine oEb (l6In_calls _ _ _ _) Y2.out ?_;refine ⟨_,rfl,M,dA ?_⟩;refine dN [16,17,18,19,20,21,22,23,24,25,26,27,28,29,30,31,32,33,34,35] M.out ?_;iterate 20 (first|refine sP rfl ?_ | refine sG rfl ?_ | refine sU rfl ?_ | refine sN rfl ?_)
     refine stillS_nil ?_;refine dD ?_;have C:=M.out.cl;simp only [Cl] at C;go_wp2;go_ret;rw [show listOk xs cells=false from allB_no hlt (by rw [<-HXX.out,<-HXP.out,decide_eq_false hk0,decide_eq_false (show ¬ xp.cell < x.cell from Int.not_lt.2 (of_decide_eq_true Y3.out)),Bool.false_or,Bool.and_false])];exact ⟨rfl,M.out.below⟩
  ·obtain rfl:k=xs.length:=by omega
   have q1:¬ (xs.length:Int) < (xs.length:Int):=by omega
   go_wp2;go_ret;rw [show listOk xs cells=true from allB_iff.2 HJ.out];exact ⟨rfl,M.out.below⟩
theorem l2Nums_calls (A:Option Addr) (c:Nat) (ks:List Int) (size:Int) (w:World) (hx:(Kd.int .i64).C w A ks.length ks) (hn:ks.length<=1048576):
  Calls Try.prog 91 #[.slice A ks.length c,.int .i64 size] w fun e w'=>e= .returned (.bool (numsOk ks size))/\w=w':=by
 have HX:=am hx;clear hx;go_enter Try.func91,Try.ntmps91;go_wp2;go_loopw [5] (fun j w'=>∃ k:Nat,k<=ks.length/\j= .int .i64 k/\Aside0 (∀ i,i < k->inB (numAt ks i) 0 99=true)/\w=w') (fun j _=>ks.length - (intOf j).toNat)
 case atStart=>exact ⟨0,Nat.zero_le _,rfl,⟨fun i hi=>by omega⟩,rfl⟩
 case round=>
  obtain ⟨k,hk,rfl,HJ,rfl⟩:=hrel;by_cases hlt:k < ks.length
  ·have q0:(0:Int)<=(k:Int):=by omega
   have q1:(k:Int) < (ks.length:Int):=by omega
   obtain ⟨ad,rfl,gx⟩:=Kd.at_int HX.out (k:Int) q0 q1;simp only [Int.toNat_natCast] at gx;obtain ⟨x,hxx⟩:∃ x,x=numAt ks k:=⟨_,rfl⟩;rw [show rd ks (k:Int)=x from hxx.symm] at gx;have HXX:=am hxx;clear hxx
   cases hb:inB x 0 99 with
   | true=>
    have HI:Aside0 ((decide ((0:Int)<=x) && decide (x<=99))=true):=⟨hb⟩;clear hb;go_wp2_with (first|(go_at_call 50;refine (l6In_calls _ _ _ _).mono ?_;(first|rw [HI.out]);rintro e w9 ⟨rfl,rfl⟩))
    go_roundw
    case rel=>exact ⟨k+1,by omega,by go_num,⟨fun i hi=>by rcases Nat.lt_or_ge i k with h | h;exact HJ.out i h;obtain rfl:i=k:=(by omega);rw [<-HXX.out];exact HI.out⟩,trivial⟩
    case measure=>simp [intOf];omega
   | false=>
    have HI:Aside0 ((decide ((0:Int)<=x) && decide (x<=99))=false):=⟨hb⟩;clear hb;go_wp2_with (first|(go_at_call 50;refine (l6In_calls _ _ _ _).mono ?_;(first|rw [HI.out]);rintro e w9 ⟨rfl,rfl⟩))
    go_ret
    have hr:numsOk ks size=false:=by
     unfold numsOk;rw [allB_no hlt (by rw [<-HXX.out];exact HI.out),Bool.false_and]
    rw [hr];exact ⟨rfl,rfl⟩
  ·obtain rfl:k=ks.length:=by omega
   go_wp2;go_ret
   have hr:numsOk ks size=((ks.length:Int) == size):=by
    unfold numsOk;rw [allB_iff.2 HJ.out,Bool.true_and];rw [Bool.eq_iff_iff];simp
   rw [hr];exact ⟨rfl,rfl⟩
theorem l12Holds_calls (t:Task) (cs:List Value) (cell:Int) (w:World) (hx:kTask.K w t cs) (hpn:t.puts.length<=1048576):
  Calls Try.prog 96 #[.agg cs.toArray,.int .i64 cell] w fun e w'=>e= .returned (.bool (holds t cell))/\Below w.heap.size w w':=by
 obtain ⟨B3,d3,B8,d8,B9,d9,B10,d10,rfl,-,-,-,-,-,-,-,g10⟩:=kTask_open hx;have C10:=am g10;clear hx g10;go_enter Try.func96,Try.ntmps96
 cases hfd:findP t.puts cell with
 | none=>
  have HF:=am hfd;have HFD:Aside0 (placeOf (findP t.puts cell)= -1):=⟨by rw [hfd];rfl⟩;clear hfd
  go_wp2_with (first
  |((with_reducible refine gate_dst (N:=2) rfl ?_);refine box_event rfl (N:=2) rfl (t:=38) (by go_simp<;>rfl) ?_;intro gt hg w2 hbox hb;have BT:=am hbox;have HB:=am hb;have BTc:=zc8 BT.out;clear hbox hb hg)
  |(go_at_call 126;refine (l11Find_calls B10 d10 t.puts cell _ (Kd.C_below C10.out HB.out) hpn).mono ?_;rw [HFD.out];rintro e w9 ⟨rfl,rfl⟩))
  go_ret
  have hr:holds t cell=false:=by
   unfold holds;rw [HF.out]
  rw [hr]
  exact ⟨rfl,HB.out⟩
 | some kp=>
  have HO:Aside0 (holds t cell=if t.stage=2 then decide ((kp:Int) < t.at_) else if t.stage=3\/t.stage=4 then true else if t.stage=5 then decide (t.at_<=(kp:Int)) else false):=⟨by unfold holds;rw [hfd]⟩;have HFD:Aside0 (placeOf (findP t.puts cell)=(kp:Int)):=⟨by rw [hfd];rfl⟩;clear hfd;by_cases s2:t.stage=2
  ·have y2:(t.stage == 2)=true:=by simp [s2]
   have S2:=am s2;clear s2
   go_wp2_with (first
   |((with_reducible refine gate_dst (N:=2) rfl ?_);refine box_event rfl (N:=2) rfl (t:=38) (by go_simp<;>rfl) ?_;intro gt hg w2 hbox hb;have BT:=am hbox;have HB:=am hb;have BTc:=zc8 BT.out;clear hbox hb hg)
   |(go_at_call 126;refine (l11Find_calls B10 d10 t.puts cell _ (Kd.C_below C10.out HB.out) hpn).mono ?_;rw [HFD.out];rintro e w9 ⟨rfl,rfl⟩))
   go_ret
   have hr:holds t cell=decide ((kp:Int) < t.at_):=by
    rw [HO.out];rw [if_pos S2.out]
   rw [hr];exact ⟨rfl,HB.out⟩
  ·have y2:(t.stage == 2)=false:=by simp [s2]
   have S2:=am s2;clear s2;by_cases s3:t.stage=3
   ·have y3:(t.stage == 3)=true:=by simp [s3]
    have S3:=am s3;clear s3
    go_wp2_with (first
    |((with_reducible refine gate_dst (N:=2) rfl ?_);refine box_event rfl (N:=2) rfl (t:=38) (by go_simp<;>rfl) ?_;intro gt hg w2 hbox hb;have BT:=am hbox;have HB:=am hb;have BTc:=zc8 BT.out;clear hbox hb hg)
    |(go_at_call 126;refine (l11Find_calls B10 d10 t.puts cell _ (Kd.C_below C10.out HB.out) hpn).mono ?_;rw [HFD.out];rintro e w9 ⟨rfl,rfl⟩))
    go_ret
    have hr:holds t cell=true:=by
     rw [HO.out];rw [if_neg S2.out,if_pos (.inl S3.out)]
    rw [hr];exact ⟨rfl,HB.out⟩
   ·have y3:(t.stage == 3)=false:=by simp [s3]
    have S3:=am s3;clear s3;by_cases s4:t.stage=4
    ·have y4:(t.stage == 4)=true:=by simp [s4]
     have S4:=am s4;clear s4
     go_wp2_with (first
     |((with_reducible refine gate_dst (N:=2) rfl ?_);refine box_event rfl (N:=2) rfl (t:=38) (by go_simp<;>rfl) ?_;intro gt hg w2 hbox hb;have BT:=am hbox;have HB:=am hb;have BTc:=zc8 BT.out;clear hbox hb hg)
     |(go_at_call 126;refine (l11Find_calls B10 d10 t.puts cell _ (Kd.C_below C10.out HB.out) hpn).mono ?_;rw [HFD.out];rintro e w9 ⟨rfl,rfl⟩))
     go_ret
     have hr:holds t cell=true:=by
      rw [HO.out];rw [if_neg S2.out,if_pos (.inr S4.out)]
     rw [hr];exact ⟨rfl,HB.out⟩
    ·have y4:(t.stage == 4)=false:=by simp [s4]
     have S4:=am s4;clear s4;by_cases s5:t.stage=5
     ·have y5:(t.stage == 5)=true:=by simp [s5]
      have S5:=am s5;clear s5
      go_wp2_with (first
      |((with_reducible refine gate_dst (N:=2) rfl ?_);refine box_event rfl (N:=2) rfl (t:=38) (by go_simp<;>rfl) ?_;intro gt hg w2 hbox hb;have BT:=am hbox;have HB:=am hb;have BTc:=zc8 BT.out;clear hbox hb hg)
      |(go_at_call 126;refine (l11Find_calls B10 d10 t.puts cell _ (Kd.C_below C10.out HB.out) hpn).mono ?_;rw [HFD.out];rintro e w9 ⟨rfl,rfl⟩))
      go_ret
      have hr:holds t cell=decide (t.at_<=(kp:Int)):=by
       rw [HO.out];rw [if_neg S2.out,if_neg (fun h=>h.elim S3.out S4.out),if_pos S5.out]
      rw [hr];exact ⟨rfl,HB.out⟩
     ·have y5:(t.stage == 5)=false:=by simp [s5]
      have S5:=am s5;clear s5
      go_wp2_with (first
      |((with_reducible refine gate_dst (N:=2) rfl ?_);refine box_event rfl (N:=2) rfl (t:=38) (by go_simp<;>rfl) ?_;intro gt hg w2 hbox hb;have BT:=am hbox;have HB:=am hb;have BTc:=zc8 BT.out;clear hbox hb hg)
      |(go_at_call 126;refine (l11Find_calls B10 d10 t.puts cell _ (Kd.C_below C10.out HB.out) hpn).mono ?_;rw [HFD.out];rintro e w9 ⟨rfl,rfl⟩))
      go_ret
      have hr:holds t cell=false:=by
       rw [HO.out];rw [if_neg S2.out,if_neg (fun h=>h.elim S3.out S4.out),if_neg S5.out]
      rw [hr];exact ⟨rfl,HB.out⟩
theorem l12At_calls (t:Task) (cs:List Value) (deeds:Int) (w:World) (hx:kTask.K w t cs) (hrn:t.reads.length<=1048576) (hpn:t.puts.length<=1048576):
  Calls Try.prog 124 #[.agg cs.toArray,.int .i64 deeds] w fun e w'=>e= .returned (.bool (stOk t deeds))/\Below w.heap.size w w':=by
 obtain ⟨B3,d3,B8,d8,B9,d9,B10,d10,rfl,-⟩:=kTask_open hx;clear hx;go_enter Try.func124,Try.ntmps124;by_cases s0:t.stage=0
 ·have y0:(t.stage == 0)=true:=by simp [s0]
  have S0:=am s0;clear s0;by_cases za:t.at_=0
  ·have y_za:(t.at_ == 0)=true:=by simp [za]
   have Zza:=am za;clear za
   go_wp2_with (first
   |((with_reducible refine gate_dst (N:=2) rfl ?_);refine box_event rfl (N:=2) rfl (t:=38) (by go_simp<;>rfl) ?_;intro gt hg w2 hbox hb;have BT:=am hbox;have HB:=am hb;have BTc:=zc8 BT.out;clear hbox hb hg))
   go_ret
   have hr:stOk t deeds=((t.reads.length:Int)+(t.puts.length:Int) == 0):=by
    unfold stOk;rw [if_pos S0.out];rw [decide_eq_true Zza.out,Bool.true_and,Bool.eq_iff_iff,decide_eq_true_eq,beq_iff_eq];omega
   rw [hr];exact ⟨rfl,HB.out⟩
  ·have y_za:(t.at_ == 0)=false:=by simp [za]
   have Zza:=am za;clear za
   go_wp2_with (first
   |((with_reducible refine gate_dst (N:=2) rfl ?_);refine box_event rfl (N:=2) rfl (t:=38) (by go_simp<;>rfl) ?_;intro gt hg w2 hbox hb;have BT:=am hbox;have HB:=am hb;have BTc:=zc8 BT.out;clear hbox hb hg))
   go_ret
   have hr:stOk t deeds=false:=by
    unfold stOk;rw [if_pos S0.out];rw [decide_eq_false Zza.out,Bool.false_and]
   rw [hr];exact ⟨rfl,HB.out⟩
 ·have y0:(t.stage == 0)=false:=by simp [s0]
  have S0:=am s0;clear s0;by_cases s1:t.stage=1
  ·have y1:(t.stage == 1)=true:=by simp [s1]
   have S1:=am s1;clear s1;obtain ⟨bHI,hbHI⟩:∃ b,inB t.at_ 0 deeds=b:=⟨_,rfl⟩;have HI:Aside0 ((decide ((0:Int)<=t.at_) && decide (t.at_<=deeds))=bHI):=⟨hbHI⟩;clear hbHI
   go_wp2_with (first
   |((with_reducible refine gate_dst (N:=2) rfl ?_);refine box_event rfl (N:=2) rfl (t:=38) (by go_simp<;>rfl) ?_;intro gt hg w2 hbox hb;have BT:=am hbox;have HB:=am hb;have BTc:=zc8 BT.out;clear hbox hb hg)
   |(go_at_call 50;refine (l6In_calls _ _ _ _).mono ?_;(first|rw [HI.out]);rintro e w9 ⟨rfl,rfl⟩))
   go_ret
   have hr:stOk t deeds=bHI:=by
    unfold stOk;rw [if_neg S0.out,if_pos S1.out];exact HI.out
   rw [hr];exact ⟨rfl,HB.out⟩
  ·have y1:(t.stage == 1)=false:=by simp [s1]
   have S1:=am s1;clear s1;by_cases s3:t.stage=3
   ·have y3:(t.stage == 3)=true:=by simp [s3]
    have S3:=am s3;clear s3;by_cases za:t.at_=0
    ·have y_za:(t.at_ == 0)=true:=by simp [za]
     have Zza:=am za;clear za
     go_wp2_with (first
     |((with_reducible refine gate_dst (N:=2) rfl ?_);refine box_event rfl (N:=2) rfl (t:=38) (by go_simp<;>rfl) ?_;intro gt hg w2 hbox hb;have BT:=am hbox;have HB:=am hb;have BTc:=zc8 BT.out;clear hbox hb hg))
     go_ret
     have hr:stOk t deeds=decide (0 < t.puts.length):=by
      unfold stOk;rw [if_neg S0.out,if_neg S1.out,if_pos S3.out];rw [decide_eq_true Zza.out,Bool.true_and]
     rw [hr];exact ⟨rfl,HB.out⟩
    ·have y_za:(t.at_ == 0)=false:=by simp [za]
     have Zza:=am za;clear za
     go_wp2_with (first
     |((with_reducible refine gate_dst (N:=2) rfl ?_);refine box_event rfl (N:=2) rfl (t:=38) (by go_simp<;>rfl) ?_;intro gt hg w2 hbox hb;have BT:=am hbox;have HB:=am hb;have BTc:=zc8 BT.out;clear hbox hb hg))
     go_ret
     have hr:stOk t deeds=false:=by
      unfold stOk;rw [if_neg S0.out,if_neg S1.out,if_pos S3.out];rw [decide_eq_false Zza.out,Bool.false_and]
     rw [hr];exact ⟨rfl,HB.out⟩
   ·have y3:(t.stage == 3)=false:=by simp [s3]
    have S3:=am s3;clear s3;by_cases s4:t.stage=4
    ·have y4:(t.stage == 4)=true:=by simp [s4]
     have S4:=am s4;clear s4;obtain ⟨bHI,hbHI⟩:∃ b,inB t.at_ 0 (t.reads.length:Int)=b:=⟨_,rfl⟩;have HI:Aside0 ((decide ((0:Int)<=t.at_) && decide (t.at_<=(t.reads.length:Int)))=bHI):=⟨hbHI⟩;clear hbHI
     cases bHI with
     | false=>
      go_wp2_with (first
      |((with_reducible refine gate_dst (N:=2) rfl ?_);refine box_event rfl (N:=2) rfl (t:=38) (by go_simp<;>rfl) ?_;intro gt hg w2 hbox hb;have BT:=am hbox;have HB:=am hb;have BTc:=zc8 BT.out;clear hbox hb hg)
      |(go_at_call 50;refine (l6In_calls _ _ _ _).mono ?_;(first|rw [HI.out]);rintro e w9 ⟨rfl,rfl⟩))
      go_ret
      have hr:stOk t deeds=false:=by
       unfold stOk;rw [if_neg S0.out,if_neg S1.out,if_neg S3.out,if_pos S4.out];rw [show inB t.at_ 0 (t.reads.length:Int)=false from HI.out,Bool.false_and]
      rw [hr]
      exact ⟨rfl,HB.out⟩
     | true=>
      go_wp2_with (first
      |((with_reducible refine gate_dst (N:=2) rfl ?_);refine box_event rfl (N:=2) rfl (t:=38) (by go_simp<;>rfl) ?_;intro gt hg w2 hbox hb;have BT:=am hbox;have HB:=am hb;have BTc:=zc8 BT.out;clear hbox hb hg)
      |(go_at_call 50;refine (l6In_calls _ _ _ _).mono ?_;(first|rw [HI.out]);rintro e w9 ⟨rfl,rfl⟩))
      go_ret
      have hr:stOk t deeds=decide (0 < t.puts.length):=by
       unfold stOk;rw [if_neg S0.out,if_neg S1.out,if_neg S3.out,if_pos S4.out];rw [show inB t.at_ 0 (t.reads.length:Int)=true from HI.out,Bool.true_and]
      rw [hr];exact ⟨rfl,HB.out⟩
    ·have y4:(t.stage == 4)=false:=by simp [s4]
     have S4:=am s4;clear s4;obtain ⟨bHI,hbHI⟩:∃ b,inB t.at_ 0 ((t.puts.length:Int) - 1)=b:=⟨_,rfl⟩;have HI:Aside0 ((decide ((0:Int)<=t.at_) && decide (t.at_<=((t.puts.length:Int) - 1)))=bHI):=⟨hbHI⟩;clear hbHI
     go_wp2_with (first
     |((with_reducible refine gate_dst (N:=2) rfl ?_);refine box_event rfl (N:=2) rfl (t:=38) (by go_simp<;>rfl) ?_;intro gt hg w2 hbox hb;have BT:=am hbox;have HB:=am hb;have BTc:=zc8 BT.out;clear hbox hb hg)
     |(go_at_call 50;refine (l6In_calls _ _ _ _).mono ?_;(first|rw [HI.out]);rintro e w9 ⟨rfl,rfl⟩))
     go_ret
     have hr:stOk t deeds=bHI:=by
      unfold stOk;rw [if_neg S0.out,if_neg S1.out,if_neg S3.out,if_neg S4.out];exact HI.out
     rw [hr];exact ⟨rfl,HB.out⟩
theorem l12Times_calls (t:Task) (s:Sys) (cs ss:List Value) (w:World) (hx:kTask.K w t cs) (hs:kSys.K w s ss) (hc0:0<=s.clock) (hc1:s.clock<=200) (hl:s.log.length<=1048576):
  Calls Try.prog 93 #[.agg cs.toArray,.agg ss.toArray] w fun e w'=>e= .returned (.bool (timesOk t s))/\Below w.heap.size w w':=by
 obtain ⟨B3,d3,B8,d8,B9,d9,B10,d10,rfl,-⟩:=kTask_open hx;obtain ⟨A0,c0,A1,c1,A3,c3,rfl,-⟩:=kSys_open hs;clear hx hs;go_enter Try.func93,Try.ntmps93;obtain ⟨bH1,hbH1⟩:∃ b,inB t.since 0 s.clock=b:=⟨_,rfl⟩;have H1:Aside0 ((decide ((0:Int)<=t.since) && decide (t.since<=s.clock))=bH1):=⟨hbH1⟩;clear hbH1
 cases hx1:bH1 with
 | false=>
  subst hx1
  go_wp2_with (first
  |((with_reducible refine gate_dst (N:=2) rfl ?_);refine box_event rfl (N:=2) rfl (t:=38) (by go_simp<;>rfl) ?_;intro gt hg w2 hbox hb;have BT:=am hbox;have HB:=am hb;have BTc:=zc8 BT.out;clear hbox hb hg)
  |((with_reducible refine gate_dst (N:=3) rfl ?_);refine box_event rfl (N:=3) rfl (t:=27) (by go_simp<;>rfl) ?_;intro gs hg w3 hbox hb;have BS:=am hbox;replace HB:=am (below_step HB.out hb);replace BT:=am (zb8 BT.out hb);clear BTc hbox hb hg;have BTc:=zc8 BT.out;have BSc:=zc8 BS.out)
  |(go_at_call 50;refine (l6In_calls _ _ _ _).mono ?_;(first|rw [H1.out]);rintro e w9 ⟨rfl,rfl⟩))
  go_ret
  have hr:timesOk t s=false:=by
   unfold timesOk;rw [show inB t.since 0 s.clock=false from H1.out,Bool.false_and,Bool.false_and]
  rw [hr]
  exact ⟨rfl,HB.out⟩
 | true=>
  subst hx1;have hs01:=inB_iff.1 (show inB t.since 0 s.clock=true from H1.out);have hsA:=hs01.1;have hsB:=hs01.2;clear hs01;obtain ⟨bH2,hbH2⟩:∃ b,inB t.from_ 0 (s.log.length:Int)=b:=⟨_,rfl⟩;have H2:Aside0 ((decide ((0:Int)<=t.from_) && decide (t.from_<=(s.log.length:Int)))=bH2):=⟨hbH2⟩;clear hbH2
  cases hx2:bH2 with
  | false=>
   subst hx2
   go_wp2_with (first
   |((with_reducible refine gate_dst (N:=2) rfl ?_);refine box_event rfl (N:=2) rfl (t:=38) (by go_simp<;>rfl) ?_;intro gt hg w2 hbox hb;have BT:=am hbox;have HB:=am hb;have BTc:=zc8 BT.out;clear hbox hb hg)
   |((with_reducible refine gate_dst (N:=3) rfl ?_);refine box_event rfl (N:=3) rfl (t:=27) (by go_simp<;>rfl) ?_;intro gs hg w3 hbox hb;have BS:=am hbox;replace HB:=am (below_step HB.out hb);replace BT:=am (zb8 BT.out hb);clear BTc hbox hb hg;have BTc:=zc8 BT.out;have BSc:=zc8 BS.out)
   |(go_at_call 50;refine (l6In_calls _ _ _ _).mono ?_;(first|rw [H1.out] | rw [H2.out]);rintro e w9 ⟨rfl,rfl⟩))
   go_ret
   have hr:timesOk t s=false:=by
    unfold timesOk;rw [show inB t.from_ 0 (s.log.length:Int)=false from H2.out,Bool.and_false,Bool.false_and]
   rw [hr]
   exact ⟨rfl,HB.out⟩
  | true=>
   subst hx2;by_cases s0:t.stage=0
   ·have y0:(t.stage == 0)=true:=by simp [s0]
    have S0:=am s0;clear s0;obtain ⟨bHI,hbHI⟩:∃ b,inB t.when_ 0 (s.clock+1)=b:=⟨_,rfl⟩;have HI:Aside0 ((decide ((0:Int)<=t.when_) && decide (t.when_<=(s.clock+1)))=bHI):=⟨hbHI⟩;clear hbHI
    go_wp2_with (first
    |((with_reducible refine gate_dst (N:=2) rfl ?_);refine box_event rfl (N:=2) rfl (t:=38) (by go_simp<;>rfl) ?_;intro gt hg w2 hbox hb;have BT:=am hbox;have HB:=am hb;have BTc:=zc8 BT.out;clear hbox hb hg)
    |((with_reducible refine gate_dst (N:=3) rfl ?_);refine box_event rfl (N:=3) rfl (t:=27) (by go_simp<;>rfl) ?_;intro gs hg w3 hbox hb;have BS:=am hbox;replace HB:=am (below_step HB.out hb);replace BT:=am (zb8 BT.out hb);clear BTc hbox hb hg;have BTc:=zc8 BT.out;have BSc:=zc8 BS.out)
    |(go_at_call 50;refine (l6In_calls _ _ _ _).mono ?_;(first|rw [H1.out] | rw [H2.out] | rw [HI.out]);rintro e w9 ⟨rfl,rfl⟩))
    go_ret
    have hr:timesOk t s=bHI:=by
     unfold timesOk;rw [show inB t.since 0 s.clock=true from H1.out,show inB t.from_ 0 (s.log.length:Int)=true from H2.out,Bool.true_and,Bool.true_and];rw [if_pos S0.out];exact HI.out
    rw [hr];exact ⟨rfl,HB.out⟩
   ·have y0:(t.stage == 0)=false:=by simp [s0]
    have S0:=am s0;clear s0;by_cases s4:t.stage=4
    ·have y4:(t.stage == 4)=true:=by simp [s4]
     have S4:=am s4;clear s4;obtain ⟨bHI,hbHI⟩:∃ b,inB t.when_ (t.since+1) s.clock=b:=⟨_,rfl⟩;have HI:Aside0 ((decide (((t.since+1):Int)<=t.when_) && decide (t.when_<=s.clock))=bHI):=⟨hbHI⟩;clear hbHI
     go_wp2_with (first
     |((with_reducible refine gate_dst (N:=2) rfl ?_);refine box_event rfl (N:=2) rfl (t:=38) (by go_simp<;>rfl) ?_;intro gt hg w2 hbox hb;have BT:=am hbox;have HB:=am hb;have BTc:=zc8 BT.out;clear hbox hb hg)
     |((with_reducible refine gate_dst (N:=3) rfl ?_);refine box_event rfl (N:=3) rfl (t:=27) (by go_simp<;>rfl) ?_;intro gs hg w3 hbox hb;have BS:=am hbox;replace HB:=am (below_step HB.out hb);replace BT:=am (zb8 BT.out hb);clear BTc hbox hb hg;have BTc:=zc8 BT.out;have BSc:=zc8 BS.out)
     |(go_at_call 50;refine (l6In_calls _ _ _ _).mono ?_;(first|rw [H1.out] | rw [H2.out] | rw [HI.out]);rintro e w9 ⟨rfl,rfl⟩))
     go_ret
     have hr:timesOk t s=bHI:=by
      unfold timesOk;rw [show inB t.since 0 s.clock=true from H1.out,show inB t.from_ 0 (s.log.length:Int)=true from H2.out,Bool.true_and,Bool.true_and];rw [if_neg S0.out,if_pos (.inl S4.out)];exact HI.out
     rw [hr];exact ⟨rfl,HB.out⟩
    ·have y4:(t.stage == 4)=false:=by simp [s4]
     have S4:=am s4;clear s4;by_cases s5:t.stage=5
     ·have y5:(t.stage == 5)=true:=by simp [s5]
      have S5:=am s5;clear s5;obtain ⟨bHI,hbHI⟩:∃ b,inB t.when_ (t.since+1) s.clock=b:=⟨_,rfl⟩;have HI:Aside0 ((decide (((t.since+1):Int)<=t.when_) && decide (t.when_<=s.clock))=bHI):=⟨hbHI⟩;clear hbHI
      go_wp2_with (first
      |((with_reducible refine gate_dst (N:=2) rfl ?_);refine box_event rfl (N:=2) rfl (t:=38) (by go_simp<;>rfl) ?_;intro gt hg w2 hbox hb;have BT:=am hbox;have HB:=am hb;have BTc:=zc8 BT.out;clear hbox hb hg)
      |((with_reducible refine gate_dst (N:=3) rfl ?_);refine box_event rfl (N:=3) rfl (t:=27) (by go_simp<;>rfl) ?_;intro gs hg w3 hbox hb;have BS:=am hbox;replace HB:=am (below_step HB.out hb);replace BT:=am (zb8 BT.out hb);clear BTc hbox hb hg;have BTc:=zc8 BT.out;have BSc:=zc8 BS.out)
      |(go_at_call 50;refine (l6In_calls _ _ _ _).mono ?_;(first|rw [H1.out] | rw [H2.out] | rw [HI.out]);rintro e w9 ⟨rfl,rfl⟩))
      go_ret
      have hr:timesOk t s=bHI:=by
       unfold timesOk;rw [show inB t.since 0 s.clock=true from H1.out,show inB t.from_ 0 (s.log.length:Int)=true from H2.out,Bool.true_and,Bool.true_and];rw [if_neg S0.out,if_pos (.inr S5.out)];exact HI.out
      rw [hr];exact ⟨rfl,HB.out⟩
     ·have y5:(t.stage == 5)=false:=by simp [s5]
      have S5:=am s5;clear s5;have HI:=H1
      go_wp2_with (first
      |((with_reducible refine gate_dst (N:=2) rfl ?_);refine box_event rfl (N:=2) rfl (t:=38) (by go_simp<;>rfl) ?_;intro gt hg w2 hbox hb;have BT:=am hbox;have HB:=am hb;have BTc:=zc8 BT.out;clear hbox hb hg)
      |((with_reducible refine gate_dst (N:=3) rfl ?_);refine box_event rfl (N:=3) rfl (t:=27) (by go_simp<;>rfl) ?_;intro gs hg w3 hbox hb;have BS:=am hbox;replace HB:=am (below_step HB.out hb);replace BT:=am (zb8 BT.out hb);clear BTc hbox hb hg;have BTc:=zc8 BT.out;have BSc:=zc8 BS.out)
      |(go_at_call 50;refine (l6In_calls _ _ _ _).mono ?_;(first|rw [H1.out] | rw [H2.out] | rw [HI.out]);rintro e w9 ⟨rfl,rfl⟩))
      go_ret
      have hr:timesOk t s=(t.when_ == 0):=by
       unfold timesOk;rw [show inB t.since 0 s.clock=true from H1.out,show inB t.from_ 0 (s.log.length:Int)=true from H2.out,Bool.true_and,Bool.true_and];rw [if_neg S0.out,if_neg (fun h=>h.elim S4.out S5.out),Bool.eq_iff_iff,decide_eq_true_eq,beq_iff_eq]
      rw [hr];exact ⟨rfl,HB.out⟩
theorem l12Up_calls (s:Sys) (ss:List Value) (i:Nat) (w:World) (hs:kSys.K w s ss) (hi:i < s.tasks.length) (hn:s.tasks.length<=1048576):
  Calls Try.prog 94 #[.agg ss.toArray,.int .i64 i] w fun e w'=>e= .returned (.bool (upsOk s i))/\Below w.heap.size w w':=by
 obtain ⟨A0,c0,A1,c1,A3,c3,rfl,-,-,-,g1,-⟩:=kSys_open hs;have G1:=am g1;obtain ⟨b,o,cs,rfl,hcl,hK,hcc,-⟩:=C_field g1 zTask i hi (by decide);obtain ⟨t,ht⟩:∃ x,x=taskAt s.tasks i:=⟨_,rfl⟩;rw [show s.tasks.getD i zTask=t from ht.symm] at hK;obtain ⟨B3,d3,B8,d8,B9,d9,B10,d10,rfl,-⟩:=kTask_open hK;have HCC:=am hcc;have q0:(0:Int)<=(i:Int):=by omega
 have q1:(i:Int) < (s.tasks.length:Int):=by omega
 have HU:Aside0 (upsOk s i=if i=0 then decide (t.up= -1) else inB t.up 0 (i - 1) && (!isLive t || decide ((taskAt s.tasks t.up.toNat).way=1))):=⟨by rw [ht];rfl⟩;clear hs g1 hcl hK hcc ht;go_enter Try.func94,Try.ntmps94;by_cases h0:i=0
 ·have y0:((i:Int) == 0)=true:=by simp [h0]
  have y0':(i == 0)=true:=by simp [h0]
  have H0:=am h0;clear h0
  go_wp2_with (first
  |((with_reducible refine gate_dst (N:=2) rfl ?_);refine box_event rfl (N:=2) rfl (t:=27) (by go_simp<;>rfl) ?_;intro gs hg w2 hbox hb;have BS:=am hbox;have HB:=am hb;have BSc:=zc8 BS.out;clear hbox hb hg)
  |((with_reducible refine gate_dst (N:=11) rfl ?_);refine wpList_load_mid rfl 38 (.tmp 10) rfl b (o+i*13) rfl _ _ (fun j u hu=>cellB HB.out (HCC.out j u hu)) Try.underlying38 rfl (by kernel_rfl) ?_)|((with_reducible refine gate_dst (N:=5) rfl ?_);refine box_event rfl (N:=5) rfl (t:=38) (by go_simp<;>rfl) ?_;intro gt hg wt hbox hb;have BT0:=am hbox;have GT:=am hg;have HBT:=am hb;clear hbox hb hg)|((with_reducible refine gate_store (t:=38) (p:=5) rfl ?_);refine store_block rfl rfl 38 (.tmp 5) (.tmp 11) rfl rfl rfl BT0.out rfl (by kernel_rfl) (aB rfl) ?_;intro wn hbox hg;have BT:=am hbox;have hbx:=pw_below_grown HBT.out _ HBT.out.size hg (fun z hz=>by cases hz;exact Nat.le_of_eq GT.out.symm);replace BS:=am (zb8 BS.out hbx);replace HB:=am (below_step HB.out hbx);clear BSc BT0 HBT hbx hbox hg;have BSc:=zc8 BS.out;have BTc:=zc8 BT.out))
  go_ret
  have hr:upsOk s i=(t.up == -1):=by
   rw [HU.out];rw [if_pos H0.out,Bool.eq_iff_iff,decide_eq_true_eq,beq_iff_eq]
  rw [hr];exact ⟨rfl,HB.out⟩
 ·have y0:((i:Int) == 0)=false:=by simp [h0]
  have y0':(i == 0)=false:=by simp [h0]
  have H0:=am h0;clear h0
  cases hb1:inB t.up 0 ((i:Int) - 1) with
  | false=>
   have H1:Aside0 ((decide ((0:Int)<=t.up) && decide (t.up<=(i:Int) - 1))=false):=⟨hb1⟩;clear hb1
   go_wp2_with (first
   |((with_reducible refine gate_dst (N:=2) rfl ?_);refine box_event rfl (N:=2) rfl (t:=27) (by go_simp<;>rfl) ?_;intro gs hg w2 hbox hb;have BS:=am hbox;have HB:=am hb;have BSc:=zc8 BS.out;clear hbox hb hg)
   |((with_reducible refine gate_dst (N:=11) rfl ?_);refine wpList_load_mid rfl 38 (.tmp 10) rfl b (o+i*13) rfl _ _ (fun j u hu=>cellB HB.out (HCC.out j u hu)) Try.underlying38 rfl (by kernel_rfl) ?_)|((with_reducible refine gate_dst (N:=5) rfl ?_);refine box_event rfl (N:=5) rfl (t:=38) (by go_simp<;>rfl) ?_;intro gt hg wt hbox hb;have BT0:=am hbox;have GT:=am hg;have HBT:=am hb;clear hbox hb hg)|((with_reducible refine gate_store (t:=38) (p:=5) rfl ?_);refine store_block rfl rfl 38 (.tmp 5) (.tmp 11) rfl rfl rfl BT0.out rfl (by kernel_rfl) (aB rfl) ?_;intro wn hbox hg;have BT:=am hbox;have hbx:=pw_below_grown HBT.out _ HBT.out.size hg (fun z hz=>by cases hz;exact Nat.le_of_eq GT.out.symm);replace BS:=am (zb8 BS.out hbx);replace HB:=am (below_step HB.out hbx);clear BSc BT0 HBT hbx hbox hg;have BSc:=zc8 BS.out;have BTc:=zc8 BT.out)
   |(go_at_call 50;refine (l6In_calls _ _ _ _).mono ?_;(first|rw [H1.out]);rintro e w9 ⟨rfl,rfl⟩))
   go_ret
   have hr:upsOk s i=false:=by
    rw [HU.out];rw [if_neg H0.out,show inB t.up 0 ((i:Int) - 1)=false from H1.out,Bool.false_and]
   rw [hr]
   exact ⟨rfl,HB.out⟩
  | true=>
   have H1:Aside0 ((decide ((0:Int)<=t.up) && decide (t.up<=(i:Int) - 1))=true):=⟨hb1⟩;have hu:=inB_iff.1 hb1;clear hb1;obtain ⟨u,hu0⟩:=Int.eq_ofNat_of_zero_le hu.1;have hul:u < s.tasks.length:=by omega
   have r0:(0:Int)<=t.up:=hu.1;have r1:t.up < (s.tasks.length:Int):=by omega
   have r4:t.up.toNat=u:=by omega
   obtain ⟨b',o',cs',he,hcl,hK,hcc,-⟩:=C_field G1.out zTask u hul (by decide);cases he;obtain ⟨wy,hwy⟩:∃ x,x=(taskAt s.tasks u).way:=⟨_,rfl⟩;rw [show s.tasks.getD u zTask=taskAt s.tasks u from rfl] at hK;obtain ⟨E3,f3,E8,f8,E9,f9,E10,f10,rfl,-⟩:=kTask_open hK;have pw:=hcc 4 _ rfl;simp only [show kTask.sz=13 from rfl] at pw;rw [<-hwy] at pw;have PW:=am pw;have HWY:=am hwy;clear hcl hK hcc pw hwy hu hu0;by_cases w0:t.way=0
   ·have z0:(t.way == 0)=true:=by simp [w0]
    have W0:=am w0;clear w0
    go_wp2_with (first
    |((with_reducible refine gate_dst (N:=2) rfl ?_);refine box_event rfl (N:=2) rfl (t:=27) (by go_simp<;>rfl) ?_;intro gs hg w2 hbox hb;have BS:=am hbox;have HB:=am hb;have BSc:=zc8 BS.out;clear hbox hb hg)
    |((with_reducible refine gate_dst (N:=11) rfl ?_);refine wpList_load_mid rfl 38 (.tmp 10) rfl b (o+i*13) rfl _ _ (fun j u hu=>cellB HB.out (HCC.out j u hu)) Try.underlying38 rfl (by kernel_rfl) ?_)|((with_reducible refine gate_dst (N:=5) rfl ?_);refine box_event rfl (N:=5) rfl (t:=38) (by go_simp<;>rfl) ?_;intro gt hg wt hbox hb;have BT0:=am hbox;have GT:=am hg;have HBT:=am hb;clear hbox hb hg)|((with_reducible refine gate_store (t:=38) (p:=5) rfl ?_);refine store_block rfl rfl 38 (.tmp 5) (.tmp 11) rfl rfl rfl BT0.out rfl (by kernel_rfl) (aB rfl) ?_;intro wn hbox hg;have BT:=am hbox;have hbx:=pw_below_grown HBT.out _ HBT.out.size hg (fun z hz=>by cases hz;exact Nat.le_of_eq GT.out.symm);replace BS:=am (zb8 BS.out hbx);replace HB:=am (below_step HB.out hbx);clear BSc BT0 HBT hbx hbox hg;have BSc:=zc8 BS.out;have BTc:=zc8 BT.out;have pww:=cellB HB.out PW.out)
    |(go_at_call 50;refine (l6In_calls _ _ _ _).mono ?_;(first|rw [H1.out]);rintro e w9 ⟨rfl,rfl⟩))
    go_ret
    have hr:upsOk s i=(wy == 1):=by
     rw [HU.out];rw [if_neg H0.out,show inB t.up 0 ((i:Int) - 1)=true from H1.out,r4,<-HWY.out,show isLive t=true by simp [isLive,W0.out]];rw [Bool.true_and,Bool.not_true,Bool.false_or,Bool.eq_iff_iff,decide_eq_true_eq,beq_iff_eq]
    rw [hr];exact ⟨rfl,HB.out⟩
   ·have z0:(t.way == 0)=false:=by simp [w0]
    by_cases w1:t.way=1
    ·have z1:(t.way == 1)=true:=by simp [w1]
     have W1:=am w1;clear w0 w1
     go_wp2_with (first
     |((with_reducible refine gate_dst (N:=2) rfl ?_);refine box_event rfl (N:=2) rfl (t:=27) (by go_simp<;>rfl) ?_;intro gs hg w2 hbox hb;have BS:=am hbox;have HB:=am hb;have BSc:=zc8 BS.out;clear hbox hb hg)
     |((with_reducible refine gate_dst (N:=11) rfl ?_);refine wpList_load_mid rfl 38 (.tmp 10) rfl b (o+i*13) rfl _ _ (fun j u hu=>cellB HB.out (HCC.out j u hu)) Try.underlying38 rfl (by kernel_rfl) ?_)|((with_reducible refine gate_dst (N:=5) rfl ?_);refine box_event rfl (N:=5) rfl (t:=38) (by go_simp<;>rfl) ?_;intro gt hg wt hbox hb;have BT0:=am hbox;have GT:=am hg;have HBT:=am hb;clear hbox hb hg)|((with_reducible refine gate_store (t:=38) (p:=5) rfl ?_);refine store_block rfl rfl 38 (.tmp 5) (.tmp 11) rfl rfl rfl BT0.out rfl (by kernel_rfl) (aB rfl) ?_;intro wn hbox hg;have BT:=am hbox;have hbx:=pw_below_grown HBT.out _ HBT.out.size hg (fun z hz=>by cases hz;exact Nat.le_of_eq GT.out.symm);replace BS:=am (zb8 BS.out hbx);replace HB:=am (below_step HB.out hbx);clear BSc BT0 HBT hbx hbox hg;have BSc:=zc8 BS.out;have BTc:=zc8 BT.out;have pww:=cellB HB.out PW.out)
     |(go_at_call 50;refine (l6In_calls _ _ _ _).mono ?_;(first|rw [H1.out]);rintro e w9 ⟨rfl,rfl⟩))
     go_ret
     have hr:upsOk s i=(wy == 1):=by
      rw [HU.out];rw [if_neg H0.out,show inB t.up 0 ((i:Int) - 1)=true from H1.out,r4,<-HWY.out,show isLive t=true by simp [isLive,W1.out]];rw [Bool.true_and,Bool.not_true,Bool.false_or,Bool.eq_iff_iff,decide_eq_true_eq,beq_iff_eq]
     rw [hr];exact ⟨rfl,HB.out⟩
    ·have z1:(t.way == 1)=false:=by simp [w1]
     have WN:Aside0 (isLive t=false):=⟨by simp [isLive,w0,w1]⟩;clear w0 w1
     go_wp2_with (first
     |((with_reducible refine gate_dst (N:=2) rfl ?_);refine box_event rfl (N:=2) rfl (t:=27) (by go_simp<;>rfl) ?_;intro gs hg w2 hbox hb;have BS:=am hbox;have HB:=am hb;have BSc:=zc8 BS.out;clear hbox hb hg)
     |((with_reducible refine gate_dst (N:=11) rfl ?_);refine wpList_load_mid rfl 38 (.tmp 10) rfl b (o+i*13) rfl _ _ (fun j u hu=>cellB HB.out (HCC.out j u hu)) Try.underlying38 rfl (by kernel_rfl) ?_)|((with_reducible refine gate_dst (N:=5) rfl ?_);refine box_event rfl (N:=5) rfl (t:=38) (by go_simp<;>rfl) ?_;intro gt hg wt hbox hb;have BT0:=am hbox;have GT:=am hg;have HBT:=am hb;clear hbox hb hg)|((with_reducible refine gate_store (t:=38) (p:=5) rfl ?_);refine store_block rfl rfl 38 (.tmp 5) (.tmp 11) rfl rfl rfl BT0.out rfl (by kernel_rfl) (aB rfl) ?_;intro wn hbox hg;have BT:=am hbox;have hbx:=pw_below_grown HBT.out _ HBT.out.size hg (fun z hz=>by cases hz;exact Nat.le_of_eq GT.out.symm);replace BS:=am (zb8 BS.out hbx);replace HB:=am (below_step HB.out hbx);clear BSc BT0 HBT hbx hbox hg;have BSc:=zc8 BS.out;have BTc:=zc8 BT.out;have pww:=cellB HB.out PW.out)
     |(go_at_call 50;refine (l6In_calls _ _ _ _).mono ?_;(first|rw [H1.out]);rintro e w9 ⟨rfl,rfl⟩))
     go_ret
     have hr:upsOk s i=true:=by
      rw [HU.out];rw [if_neg H0.out,show inB t.up 0 ((i:Int) - 1)=true from H1.out,WN.out];rfl
     rw [hr];exact ⟨rfl,HB.out⟩
theorem l12Cells_calls (s:Sys) (ss:List Value) (w:World) (hs:kSys.K w s ss) (hm:s.cells.length<=1048576) (hn:s.tasks.length<=1048576) (hz:∀ i,i < s.tasks.length->(taskAt s.tasks i).puts.length<=1048576):
  Calls Try.prog 58 #[.agg ss.toArray] w fun e w'=>e= .returned (.bool (cellsOk s))/\Below w.heap.size w w':=by
 obtain ⟨A0,c0,A1,c1,A3,c3,rfl,-,g0,-,g1,-⟩:=kSys_open hs;have G0:=am g0;have G1:=am g1;have HZ:=am hz;clear hs g0 g1 hz;go_enter Try.func58,Try.ntmps58
 go_wp2_with (first
 |((with_reducible refine gate_dst (N:=1) rfl ?_);refine box_event rfl (N:=1) rfl (t:=27) (by go_simp<;>rfl) ?_;intro gs hg w2 hbox hb;have BS:=am hbox;have HB:=am hb;have BSc:=zc8 BS.out;clear hbox hb hg))
 go_loopw [3] (fun j w'=>∃ k:Nat,k<=s.cells.length/\j= .int .i64 k/\Aside0 (∀ i,i < k->(inB (cellAt s.cells i).num 0 99 && inB (cellAt s.cells i).time 0 s.clock && inB (cellAt s.cells i).lock (-1) (s.tasks.length - 1) && allB s.tasks.length fun k=>decide (holds (taskAt s.tasks k) i=decide ((cellAt s.cells i).lock=k)))=true)/\Aside0 (w'.heap[gs]? = some (.cells #[.slice A0 s.cells.length c0,.slice A1 s.tasks.length c1,.int .i64 s.clock,.slice A3 s.log.length c3] 27 (0,0)))/\Aside0 (Below w.heap.size w w')) (fun j _=>s.cells.length - (intOf j).toNat)
 case atStart=>exact ⟨0,Nat.zero_le _,rfl,⟨fun i hi=>by omega⟩,BS,HB⟩
 case round=>
  clear BS HB BSc;obtain ⟨k,hk,rfl,HJ,BS,HB⟩:=hrel;have BSc:=zc8 BS.out;by_cases hlt:k < s.cells.length
  ·obtain ⟨bc,oc,cs,rfl,hcl,hK,hcc,-⟩:=C_field G0.out zCell k hlt (by decide)
   obtain ⟨c,hcx⟩:∃ x,x=cellAt s.cells k:=⟨_,rfl⟩;rw [show s.cells.getD k zCell=c from hcx.symm] at hK;have e:=kCell_open hK;subst e;have HC:=am hcc;have CX:=am hcx;have q0:(0:Int)<=(k:Int):=by omega
   have q1:(k:Int) < (s.cells.length:Int):=by omega
   clear hcl hK hcc hcx;obtain ⟨bH1,hbH1⟩:∃ b,inB c.num 0 99=b:=⟨_,rfl⟩;have H1:Aside0 ((decide ((0:Int)<=c.num) && decide (c.num<=99))=bH1):=⟨hbH1⟩;clear hbH1;obtain ⟨bH2,hbH2⟩:∃ b,inB c.time 0 s.clock=b:=⟨_,rfl⟩;have H2:Aside0 ((decide ((0:Int)<=c.time) && decide (c.time<=s.clock))=bH2):=⟨hbH2⟩;clear hbH2;obtain ⟨bH3,hbH3⟩:∃ b,inB c.lock (-1) ((s.tasks.length:Int) - 1)=b:=⟨_,rfl⟩;have H3:Aside0 ((decide ((-1:Int)<=c.lock) && decide (c.lock<=(s.tasks.length:Int) - 1))=bH3):=⟨hbH3⟩;clear hbH3
   cases bH1 with
   | false=>
    go_wp2_with (first
    |((with_reducible refine gate_dst (N:=17) rfl ?_);refine wpList_load_mid rfl 53 (.tmp 16) rfl bc (oc+k*3) rfl _ _ (fun j u hu=>cellB HB.out (HC.out j u hu)) Try.underlying53 rfl (by kernel_rfl) ?_)|((with_reducible refine gate_dst (N:=4) rfl ?_);refine box_event rfl (N:=4) rfl (t:=53) (by go_simp<;>rfl) ?_;intro gc hg wt hbox hb;have BC0:=am hbox;have GC:=am hg;have HBT:=am hb;clear hbox hb hg)|((with_reducible refine gate_store (t:=53) (p:=4) rfl ?_);refine store_block rfl rfl 53 (.tmp 4) (.tmp 17) rfl rfl rfl BC0.out rfl (by kernel_rfl) (aB rfl) ?_;intro wn hbox hg;have BC:=am hbox;have hbx:=pw_below_grown HBT.out _ HBT.out.size hg (fun z hz=>by cases hz;exact Nat.le_of_eq GC.out.symm);replace BS:=am (zb8 BS.out hbx);replace HB:=am (below_step HB.out hbx);clear BSc BC0 HBT hbx hbox hg;have BSc:=zc8 BS.out;have BCc:=zc8 BC.out)
    |(go_at_call 50;refine (l6In_calls _ _ _ _).mono ?_;(first|rw [H1.out] | rw [H2.out] | rw [H3.out]);rintro e w9 ⟨rfl,rfl⟩))
    go_ret
    have hr:cellsOk s=false:=by
     unfold cellsOk;exact allB_no hlt (by rw [<-CX.out];simp only [];rw [show inB c.num 0 99=false from H1.out,Bool.false_and,Bool.false_and,Bool.false_and])
    rw [hr]
    exact ⟨rfl,HB.out⟩
   | true=>
    cases bH2 with
    | false=>
     go_wp2_with (first
     |((with_reducible refine gate_dst (N:=17) rfl ?_);refine wpList_load_mid rfl 53 (.tmp 16) rfl bc (oc+k*3) rfl _ _ (fun j u hu=>cellB HB.out (HC.out j u hu)) Try.underlying53 rfl (by kernel_rfl) ?_)|((with_reducible refine gate_dst (N:=4) rfl ?_);refine box_event rfl (N:=4) rfl (t:=53) (by go_simp<;>rfl) ?_;intro gc hg wt hbox hb;have BC0:=am hbox;have GC:=am hg;have HBT:=am hb;clear hbox hb hg)|((with_reducible refine gate_store (t:=53) (p:=4) rfl ?_);refine store_block rfl rfl 53 (.tmp 4) (.tmp 17) rfl rfl rfl BC0.out rfl (by kernel_rfl) (aB rfl) ?_;intro wn hbox hg;have BC:=am hbox;have hbx:=pw_below_grown HBT.out _ HBT.out.size hg (fun z hz=>by cases hz;exact Nat.le_of_eq GC.out.symm);replace BS:=am (zb8 BS.out hbx);replace HB:=am (below_step HB.out hbx);clear BSc BC0 HBT hbx hbox hg;have BSc:=zc8 BS.out;have BCc:=zc8 BC.out)
     |(go_at_call 50;refine (l6In_calls _ _ _ _).mono ?_;(first|rw [H1.out] | rw [H2.out] | rw [H3.out]);rintro e w9 ⟨rfl,rfl⟩))
     go_ret
     have hr:cellsOk s=false:=by
      unfold cellsOk;exact allB_no hlt (by rw [<-CX.out];simp only [];rw [show inB c.time 0 s.clock=false from H2.out,Bool.and_false,Bool.false_and,Bool.false_and])
     rw [hr]
     exact ⟨rfl,HB.out⟩
    | true=>
     cases bH3 with
     | false=>
      go_wp2_with (first
      |((with_reducible refine gate_dst (N:=17) rfl ?_);refine wpList_load_mid rfl 53 (.tmp 16) rfl bc (oc+k*3) rfl _ _ (fun j u hu=>cellB HB.out (HC.out j u hu)) Try.underlying53 rfl (by kernel_rfl) ?_)|((with_reducible refine gate_dst (N:=4) rfl ?_);refine box_event rfl (N:=4) rfl (t:=53) (by go_simp<;>rfl) ?_;intro gc hg wt hbox hb;have BC0:=am hbox;have GC:=am hg;have HBT:=am hb;clear hbox hb hg)|((with_reducible refine gate_store (t:=53) (p:=4) rfl ?_);refine store_block rfl rfl 53 (.tmp 4) (.tmp 17) rfl rfl rfl BC0.out rfl (by kernel_rfl) (aB rfl) ?_;intro wn hbox hg;have BC:=am hbox;have hbx:=pw_below_grown HBT.out _ HBT.out.size hg (fun z hz=>by cases hz;exact Nat.le_of_eq GC.out.symm);replace BS:=am (zb8 BS.out hbx);replace HB:=am (below_step HB.out hbx);clear BSc BC0 HBT hbx hbox hg;have BSc:=zc8 BS.out;have BCc:=zc8 BC.out)
      |(go_at_call 50;refine (l6In_calls _ _ _ _).mono ?_;(first|rw [H1.out] | rw [H2.out] | rw [H3.out]);rintro e w9 ⟨rfl,rfl⟩))
      go_ret
      have hr:cellsOk s=false:=by
       unfold cellsOk;exact allB_no hlt (by rw [<-CX.out];simp only [];rw [show inB c.lock (-1) ((s.tasks.length:Int) - 1)=false from H3.out,Bool.and_false,Bool.false_and])
      rw [hr]
      exact ⟨rfl,HB.out⟩
     | true=>
      go_wp2_with (first
      |((with_reducible refine gate_dst (N:=17) rfl ?_);refine wpList_load_mid rfl 53 (.tmp 16) rfl bc (oc+k*3) rfl _ _ (fun j u hu=>cellB HB.out (HC.out j u hu)) Try.underlying53 rfl (by kernel_rfl) ?_)|((with_reducible refine gate_dst (N:=4) rfl ?_);refine box_event rfl (N:=4) rfl (t:=53) (by go_simp<;>rfl) ?_;intro gc hg wt hbox hb;have BC0:=am hbox;have GC:=am hg;have HBT:=am hb;clear hbox hb hg)|((with_reducible refine gate_store (t:=53) (p:=4) rfl ?_);refine store_block rfl rfl 53 (.tmp 4) (.tmp 17) rfl rfl rfl BC0.out rfl (by kernel_rfl) (aB rfl) ?_;intro wn hbox hg;have BC:=am hbox;have hbx:=pw_below_grown HBT.out _ HBT.out.size hg (fun z hz=>by cases hz;exact Nat.le_of_eq GC.out.symm);replace BS:=am (zb8 BS.out hbx);replace HB:=am (below_step HB.out hbx);clear BSc BC0 HBT hbx hbox hg;have BSc:=zc8 BS.out;have BCc:=zc8 BC.out)
      |(go_at_call 50;refine (l6In_calls _ _ _ _).mono ?_;(first|rw [H1.out] | rw [H2.out] | rw [H3.out]);rintro e w9 ⟨rfl,rfl⟩))
      go_loopw [5] (fun j w'=>∃ m:Nat,m<=s.tasks.length/\j= .int .i64 m/\Aside0 (∀ i,i < m->decide (holds (taskAt s.tasks i) k=decide (c.lock=i))=true)/\Aside0 (w'.heap[gs]? = some (.cells #[.slice (some ⟨bc,oc,none⟩) s.cells.length c0,.slice A1 s.tasks.length c1,.int .i64 s.clock,.slice A3 s.log.length c3] 27 (0,0)))/\Aside0 (w'.heap[gc]? = some (.cells #[.int .i64 c.num,.int .i64 c.time,.int .i64 c.lock] 53 (0,0)))/\Aside0 (Below w.heap.size w w')) (fun j _=>s.tasks.length - (intOf j).toNat)
      case atStart=>exact ⟨0,Nat.zero_le _,rfl,⟨fun i hi=>by omega⟩,BS,BC,HB⟩
      case round=>
       clear BS BC HB BSc BCc;obtain ⟨m,hm',rfl,HM,BS,BC,HB⟩:=hrel;have BSc:=zc8 BS.out;have BCc:=zc8 BC.out;by_cases hmt:m < s.tasks.length
       ·obtain ⟨b,o,cs,rfl,hcl,hK,hcc,-⟩:=C_field G1.out zTask m hmt (by decide)
        have HPN:=am (HZ.out m hmt);obtain ⟨t,htx⟩:∃ x,x=taskAt s.tasks m:=⟨_,rfl⟩;rw [<-htx] at HPN;rw [show s.tasks.getD m zTask=t from htx.symm] at hK;have HK:=am hK;have TX:=am htx;obtain ⟨B3,d3,B8,d8,B9,d9,B10,d10,rfl,-⟩:=kTask_open hK;have HT:=am hcc;have r0:(0:Int)<=(m:Int):=by omega
        have r1:(m:Int) < (s.tasks.length:Int):=by omega
        clear hcl hK hcc htx
        cases hbh:holds t (k:Int) with
        | true=>
         have HH:=am hbh;clear hbh;by_cases hl:c.lock=(m:Int)
         ·have yl:(c.lock == (m:Int))=true:=by simp [hl]
          have HL:Aside0 (decide (c.lock=(m:Int))=true):=⟨decide_eq_true hl⟩;clear hl;go_wp2;refine st9 (n:=12) (S:=fun W=>W.heap[gs]? = some (.cells #[.slice (some ⟨bc,oc,none⟩) s.cells.length c0,.slice (some ⟨b,o,none⟩) s.tasks.length c1,.int .i64 s.clock,.slice A3 s.log.length c3] 27 (0,0))/\W.heap[gc]? = some (.cells #[.int .i64 c.num,.int .i64 c.time,.int .i64 c.lock] 53 (0,0))/\∀ j u, [.int .i64 t.body,.int .i64 t.pc,.int .i64 t.up,.slice B3 t.regs.length d3,.int .i64 t.way,.int .i64 t.stage,.int .i64 t.at_,.int .i64 t.since,.slice B8 t.old.length d8,.slice B9 t.reads.length d9,.slice B10 t.puts.length d10,.int .i64 t.when_,.int .i64 t.from_][j]? = some u->W.cell? ⟨b,o+m*13+j,none⟩=some u) (ds:= []) (by kernel_rfl) rfl ⟨blk_drew BS.out,blk_drew BC.out,fun j u hu=>(show wr.cell? ⟨b,o+m*13+j,none⟩=_ from cellB HB.out (HT.out j u hu))⟩ (fun hHeld=> ?_);have hb:=below_drew (Below.refl wr.heap.size wr);generalize wr.drew=w7 at hb hHeld ⊢;have HB7:=am (below_step HB.out hb);clear hb HB BS BC BSc BCc;refine ba9 (fuel:=2) (n:=10) [0,1,2,3,4,5,7,8,9,10] (by kernel_rfl) (fun N _ _ _ _ h=>by cases N <;> exact h) hHeld ?_
          iterate 10 (
           refine stillS_step (v:= ?_) (a':= ?_) rfl (Or.inl ⟨by rfl, ?_⟩) ?_ ?_;rotate_left
           ·rintro W ⟨s0,s2,s3⟩
            have t0:=zc8 s0;have t2:=zc8 s2;have u0:=s3 0 _ rfl;have u1:=s3 1 _ rfl;have u2:=s3 2 _ rfl;have u3:=s3 3 _ rfl;have u4:=s3 4 _ rfl;have u5:=s3 5 _ rfl;have u6:=s3 6 _ rfl;have u7:=s3 7 _ rfl;have u8:=s3 8 _ rfl;have u9:=s3 9 _ rfl;have u10:=s3 10 _ rfl;have u11:=s3 11 _ rfl;have u12:=s3 12 _ rfl;rw [Nat.add_zero] at u0;clear s0 s2 s3;go_simp;with_reducible rfl
           rotate_left
           ·simp only [Act.put,sA,sZ,sS,i64_w]
            rfl)
          refine stillS_nil ?_;refine on9 (i:=6) (N:=some 53) rfl rfl (by kernel_rfl) (by decide) (fun K hK=> ?_);refine goes_ Try.func96 (by kernel_rfl) rfl #[.agg #[.int .i64 t.body,.int .i64 t.pc,.int .i64 t.up,.slice B3 t.regs.length d3,.int .i64 t.way,.int .i64 t.stage,.int .i64 t.at_,.int .i64 t.since,.slice B8 t.old.length d8,.slice B9 t.reads.length d9,.slice B10 t.puts.length d10,.int .i64 t.when_,.int .i64 t.from_],.int .i64 k] (by rfl) rfl rfl (by (try simp only [List.map_toArray,List.map_cons,List.map_nil]);first | done | rfl) ?_;refine (l12Holds_calls t _ (k:Int) _ (kTask.K_below HB7.out HK.out) HPN.out).mono ?_;rw [HH.out];rintro e wn ⟨rfl,hb⟩;refine ⟨_,rfl, ?_⟩;refine hK.out _ _ ⟨zb8 hHeld.1 hb,zb8 hHeld.2.1 hb,fun j u hu=>cellB hb (hHeld.2.2 j u hu)⟩ (fun hHeld=> ?_);clear hK K;refine norm_ (a':= ?_) ?_ ?_;rotate_left
          ·show Act.put _ (some 53) _=_
           simp only [Act.put,sA,sZ,sS,i64_w];rfl
          have HB:=am (below_step HB7.out hb);refine ba9 (fuel:=0) (n:=1) [11] (by kernel_rfl) (fun N _ _ _ _ h=>by cases N <;> exact h) hHeld ?_
          iterate 1 (
           refine stillS_step (v:= ?_) (a':= ?_) rfl (Or.inl ⟨by rfl, ?_⟩) ?_ ?_;rotate_left
           ·intro W hW
            go_simp
            with_reducible rfl
           rotate_left
           ·simp only [Act.put,sA,sZ,sS,i64_w]
            rfl)
          refine stillS_nil ?_;have BS:=am hHeld.1;have BC:=am hHeld.2.1;clear hHeld HB7 hb;have BSc:=zc8 BS.out;have BCc:=zc8 BC.out;refine done_ (by kernel_rfl) ?_;go_wp2;go_roundw
          case rel=>exact ⟨m+1,by omega,by go_num,⟨fun i hi=>by rcases Nat.lt_or_ge i m with h | h;exact HM.out i h;obtain rfl:i=m:=(by omega);rw [<-TX.out,HH.out,HL.out];rfl⟩,BS,BC,HB⟩
          case measure=>simp [intOf];omega
         ·have yl:(c.lock == (m:Int))=false:=by simp [hl]
          have HL:Aside0 (decide (c.lock=(m:Int))=false):=⟨decide_eq_false hl⟩;clear hl;go_wp2;refine st9 (n:=12) (S:=fun W=>W.heap[gs]? = some (.cells #[.slice (some ⟨bc,oc,none⟩) s.cells.length c0,.slice (some ⟨b,o,none⟩) s.tasks.length c1,.int .i64 s.clock,.slice A3 s.log.length c3] 27 (0,0))/\W.heap[gc]? = some (.cells #[.int .i64 c.num,.int .i64 c.time,.int .i64 c.lock] 53 (0,0))/\∀ j u, [.int .i64 t.body,.int .i64 t.pc,.int .i64 t.up,.slice B3 t.regs.length d3,.int .i64 t.way,.int .i64 t.stage,.int .i64 t.at_,.int .i64 t.since,.slice B8 t.old.length d8,.slice B9 t.reads.length d9,.slice B10 t.puts.length d10,.int .i64 t.when_,.int .i64 t.from_][j]? = some u->W.cell? ⟨b,o+m*13+j,none⟩=some u) (ds:= []) (by kernel_rfl) rfl ⟨blk_drew BS.out,blk_drew BC.out,fun j u hu=>(show wr.cell? ⟨b,o+m*13+j,none⟩=_ from cellB HB.out (HT.out j u hu))⟩ (fun hHeld=> ?_);have hb:=below_drew (Below.refl wr.heap.size wr);generalize wr.drew=w7 at hb hHeld ⊢;have HB7:=am (below_step HB.out hb);clear hb HB BS BC BSc BCc;refine ba9 (fuel:=2) (n:=10) [0,1,2,3,4,5,7,8,9,10] (by kernel_rfl) (fun N _ _ _ _ h=>by cases N <;> exact h) hHeld ?_
          iterate 10 (
           refine stillS_step (v:= ?_) (a':= ?_) rfl (Or.inl ⟨by rfl, ?_⟩) ?_ ?_;rotate_left
           ·rintro W ⟨s0,s2,s3⟩
            have t0:=zc8 s0;have t2:=zc8 s2;have u0:=s3 0 _ rfl;have u1:=s3 1 _ rfl;have u2:=s3 2 _ rfl;have u3:=s3 3 _ rfl;have u4:=s3 4 _ rfl;have u5:=s3 5 _ rfl;have u6:=s3 6 _ rfl;have u7:=s3 7 _ rfl;have u8:=s3 8 _ rfl;have u9:=s3 9 _ rfl;have u10:=s3 10 _ rfl;have u11:=s3 11 _ rfl;have u12:=s3 12 _ rfl;rw [Nat.add_zero] at u0;clear s0 s2 s3;go_simp;with_reducible rfl
           rotate_left
           ·simp only [Act.put,sA,sZ,sS,i64_w]
            rfl)
          refine stillS_nil ?_;refine on9 (i:=6) (N:=some 53) rfl rfl (by kernel_rfl) (by decide) (fun K hK=> ?_);refine goes_ Try.func96 (by kernel_rfl) rfl #[.agg #[.int .i64 t.body,.int .i64 t.pc,.int .i64 t.up,.slice B3 t.regs.length d3,.int .i64 t.way,.int .i64 t.stage,.int .i64 t.at_,.int .i64 t.since,.slice B8 t.old.length d8,.slice B9 t.reads.length d9,.slice B10 t.puts.length d10,.int .i64 t.when_,.int .i64 t.from_],.int .i64 k] (by rfl) rfl rfl (by (try simp only [List.map_toArray,List.map_cons,List.map_nil]);first | done | rfl) ?_;refine (l12Holds_calls t _ (k:Int) _ (kTask.K_below HB7.out HK.out) HPN.out).mono ?_;rw [HH.out];rintro e wn ⟨rfl,hb⟩;refine ⟨_,rfl, ?_⟩;refine hK.out _ _ ⟨zb8 hHeld.1 hb,zb8 hHeld.2.1 hb,fun j u hu=>cellB hb (hHeld.2.2 j u hu)⟩ (fun hHeld=> ?_);clear hK K;refine norm_ (a':= ?_) ?_ ?_;rotate_left
          ·show Act.put _ (some 53) _=_
           simp only [Act.put,sA,sZ,sS,i64_w];rfl
          have HB:=am (below_step HB7.out hb);refine ba9 (fuel:=0) (n:=1) [11] (by kernel_rfl) (fun N _ _ _ _ h=>by cases N <;> exact h) hHeld ?_
          iterate 1 (
           refine stillS_step (v:= ?_) (a':= ?_) rfl (Or.inl ⟨by rfl, ?_⟩) ?_ ?_;rotate_left
           ·intro W hW
            go_simp
            with_reducible rfl
           rotate_left
           ·simp only [Act.put,sA,sZ,sS,i64_w]
            rfl)
          refine stillS_nil ?_;have BS:=am hHeld.1;have BC:=am hHeld.2.1;clear hHeld HB7 hb;have BSc:=zc8 BS.out;have BCc:=zc8 BC.out;refine done_ (by kernel_rfl) ?_;go_wp2;go_ret
          have hr:cellsOk s=false:=by
           unfold cellsOk;exact allB_no hlt (by rw [<-CX.out];simp only [];rw [allB_no hmt (by rw [<-TX.out,HH.out,HL.out];rfl),Bool.and_false])
          rw [hr]
          exact ⟨rfl,HB.out⟩
        | false=>
         have HH:=am hbh;clear hbh;by_cases hl:c.lock=(m:Int)
         ·have yl:(c.lock == (m:Int))=true:=by simp [hl]
          have HL:Aside0 (decide (c.lock=(m:Int))=true):=⟨decide_eq_true hl⟩;clear hl;go_wp2;refine st9 (n:=12) (S:=fun W=>W.heap[gs]? = some (.cells #[.slice (some ⟨bc,oc,none⟩) s.cells.length c0,.slice (some ⟨b,o,none⟩) s.tasks.length c1,.int .i64 s.clock,.slice A3 s.log.length c3] 27 (0,0))/\W.heap[gc]? = some (.cells #[.int .i64 c.num,.int .i64 c.time,.int .i64 c.lock] 53 (0,0))/\∀ j u, [.int .i64 t.body,.int .i64 t.pc,.int .i64 t.up,.slice B3 t.regs.length d3,.int .i64 t.way,.int .i64 t.stage,.int .i64 t.at_,.int .i64 t.since,.slice B8 t.old.length d8,.slice B9 t.reads.length d9,.slice B10 t.puts.length d10,.int .i64 t.when_,.int .i64 t.from_][j]? = some u->W.cell? ⟨b,o+m*13+j,none⟩=some u) (ds:= []) (by kernel_rfl) rfl ⟨blk_drew BS.out,blk_drew BC.out,fun j u hu=>(show wr.cell? ⟨b,o+m*13+j,none⟩=_ from cellB HB.out (HT.out j u hu))⟩ (fun hHeld=> ?_);have hb:=below_drew (Below.refl wr.heap.size wr);generalize wr.drew=w7 at hb hHeld ⊢;have HB7:=am (below_step HB.out hb);clear hb HB BS BC BSc BCc;refine ba9 (fuel:=2) (n:=10) [0,1,2,3,4,5,7,8,9,10] (by kernel_rfl) (fun N _ _ _ _ h=>by cases N <;> exact h) hHeld ?_
          iterate 10 (
           refine stillS_step (v:= ?_) (a':= ?_) rfl (Or.inl ⟨by rfl, ?_⟩) ?_ ?_;rotate_left
           ·rintro W ⟨s0,s2,s3⟩
            have t0:=zc8 s0;have t2:=zc8 s2;have u0:=s3 0 _ rfl;have u1:=s3 1 _ rfl;have u2:=s3 2 _ rfl;have u3:=s3 3 _ rfl;have u4:=s3 4 _ rfl;have u5:=s3 5 _ rfl;have u6:=s3 6 _ rfl;have u7:=s3 7 _ rfl;have u8:=s3 8 _ rfl;have u9:=s3 9 _ rfl;have u10:=s3 10 _ rfl;have u11:=s3 11 _ rfl;have u12:=s3 12 _ rfl;rw [Nat.add_zero] at u0;clear s0 s2 s3;go_simp;with_reducible rfl
           rotate_left
           ·simp only [Act.put,sA,sZ,sS,i64_w]
            rfl)
          refine stillS_nil ?_;refine on9 (i:=6) (N:=some 53) rfl rfl (by kernel_rfl) (by decide) (fun K hK=> ?_);refine goes_ Try.func96 (by kernel_rfl) rfl #[.agg #[.int .i64 t.body,.int .i64 t.pc,.int .i64 t.up,.slice B3 t.regs.length d3,.int .i64 t.way,.int .i64 t.stage,.int .i64 t.at_,.int .i64 t.since,.slice B8 t.old.length d8,.slice B9 t.reads.length d9,.slice B10 t.puts.length d10,.int .i64 t.when_,.int .i64 t.from_],.int .i64 k] (by rfl) rfl rfl (by (try simp only [List.map_toArray,List.map_cons,List.map_nil]);first | done | rfl) ?_;refine (l12Holds_calls t _ (k:Int) _ (kTask.K_below HB7.out HK.out) HPN.out).mono ?_;rw [HH.out];rintro e wn ⟨rfl,hb⟩;refine ⟨_,rfl, ?_⟩;refine hK.out _ _ ⟨zb8 hHeld.1 hb,zb8 hHeld.2.1 hb,fun j u hu=>cellB hb (hHeld.2.2 j u hu)⟩ (fun hHeld=> ?_);clear hK K;refine norm_ (a':= ?_) ?_ ?_;rotate_left
          ·show Act.put _ (some 53) _=_
           simp only [Act.put,sA,sZ,sS,i64_w];rfl
          have HB:=am (below_step HB7.out hb);refine ba9 (fuel:=0) (n:=1) [11] (by kernel_rfl) (fun N _ _ _ _ h=>by cases N <;> exact h) hHeld ?_
          iterate 1 (
           refine stillS_step (v:= ?_) (a':= ?_) rfl (Or.inl ⟨by rfl, ?_⟩) ?_ ?_;rotate_left
           ·intro W hW
            go_simp
            with_reducible rfl
           rotate_left
           ·simp only [Act.put,sA,sZ,sS,i64_w]
            rfl)
          refine stillS_nil ?_;have BS:=am hHeld.1;have BC:=am hHeld.2.1;clear hHeld HB7 hb;have BSc:=zc8 BS.out;have BCc:=zc8 BC.out;refine done_ (by kernel_rfl) ?_;go_wp2;go_ret
          have hr:cellsOk s=false:=by
           unfold cellsOk;exact allB_no hlt (by rw [<-CX.out];simp only [];rw [allB_no hmt (by rw [<-TX.out,HH.out,HL.out];rfl),Bool.and_false])
          rw [hr];exact ⟨rfl,HB.out⟩
         ·have yl:(c.lock == (m:Int))=false:=by simp [hl]
          have HL:Aside0 (decide (c.lock=(m:Int))=false):=⟨decide_eq_false hl⟩;clear hl;go_wp2;refine st9 (n:=12) (S:=fun W=>W.heap[gs]? = some (.cells #[.slice (some ⟨bc,oc,none⟩) s.cells.length c0,.slice (some ⟨b,o,none⟩) s.tasks.length c1,.int .i64 s.clock,.slice A3 s.log.length c3] 27 (0,0))/\W.heap[gc]? = some (.cells #[.int .i64 c.num,.int .i64 c.time,.int .i64 c.lock] 53 (0,0))/\∀ j u, [.int .i64 t.body,.int .i64 t.pc,.int .i64 t.up,.slice B3 t.regs.length d3,.int .i64 t.way,.int .i64 t.stage,.int .i64 t.at_,.int .i64 t.since,.slice B8 t.old.length d8,.slice B9 t.reads.length d9,.slice B10 t.puts.length d10,.int .i64 t.when_,.int .i64 t.from_][j]? = some u->W.cell? ⟨b,o+m*13+j,none⟩=some u) (ds:= []) (by kernel_rfl) rfl ⟨blk_drew BS.out,blk_drew BC.out,fun j u hu=>(show wr.cell? ⟨b,o+m*13+j,none⟩=_ from cellB HB.out (HT.out j u hu))⟩ (fun hHeld=> ?_);have hb:=below_drew (Below.refl wr.heap.size wr);generalize wr.drew=w7 at hb hHeld ⊢;have HB7:=am (below_step HB.out hb);clear hb HB BS BC BSc BCc;refine ba9 (fuel:=2) (n:=10) [0,1,2,3,4,5,7,8,9,10] (by kernel_rfl) (fun N _ _ _ _ h=>by cases N <;> exact h) hHeld ?_
          iterate 10 (
           refine stillS_step (v:= ?_) (a':= ?_) rfl (Or.inl ⟨by rfl, ?_⟩) ?_ ?_;rotate_left
           ·rintro W ⟨s0,s2,s3⟩
            have t0:=zc8 s0;have t2:=zc8 s2;have u0:=s3 0 _ rfl;have u1:=s3 1 _ rfl;have u2:=s3 2 _ rfl;have u3:=s3 3 _ rfl;have u4:=s3 4 _ rfl;have u5:=s3 5 _ rfl;have u6:=s3 6 _ rfl;have u7:=s3 7 _ rfl;have u8:=s3 8 _ rfl;have u9:=s3 9 _ rfl;have u10:=s3 10 _ rfl;have u11:=s3 11 _ rfl;have u12:=s3 12 _ rfl;rw [Nat.add_zero] at u0;clear s0 s2 s3;go_simp;with_reducible rfl
           rotate_left
           ·simp only [Act.put,sA,sZ,sS,i64_w]
            rfl)
          refine stillS_nil ?_;refine on9 (i:=6) (N:=some 53) rfl rfl (by kernel_rfl) (by decide) (fun K hK=> ?_);refine goes_ Try.func96 (by kernel_rfl) rfl #[.agg #[.int .i64 t.body,.int .i64 t.pc,.int .i64 t.up,.slice B3 t.regs.length d3,.int .i64 t.way,.int .i64 t.stage,.int .i64 t.at_,.int .i64 t.since,.slice B8 t.old.length d8,.slice B9 t.reads.length d9,.slice B10 t.puts.length d10,.int .i64 t.when_,.int .i64 t.from_],.int .i64 k] (by rfl) rfl rfl (by (try simp only [List.map_toArray,List.map_cons,List.map_nil]);first | done | rfl) ?_;refine (l12Holds_calls t _ (k:Int) _ (kTask.K_below HB7.out HK.out) HPN.out).mono ?_;rw [HH.out];rintro e wn ⟨rfl,hb⟩;refine ⟨_,rfl, ?_⟩;refine hK.out _ _ ⟨zb8 hHeld.1 hb,zb8 hHeld.2.1 hb,fun j u hu=>cellB hb (hHeld.2.2 j u hu)⟩ (fun hHeld=> ?_);clear hK K;refine norm_ (a':= ?_) ?_ ?_;rotate_left
          ·show Act.put _ (some 53) _=_
           simp only [Act.put,sA,sZ,sS,i64_w];rfl
          have HB:=am (below_step HB7.out hb);refine ba9 (fuel:=0) (n:=1) [11] (by kernel_rfl) (fun N _ _ _ _ h=>by cases N <;> exact h) hHeld ?_
          iterate 1 (
           refine stillS_step (v:= ?_) (a':= ?_) rfl (Or.inl ⟨by rfl, ?_⟩) ?_ ?_;rotate_left
           ·intro W hW
            go_simp
            with_reducible rfl
           rotate_left
           ·simp only [Act.put,sA,sZ,sS,i64_w]
            rfl)
          refine stillS_nil ?_;have BS:=am hHeld.1;have BC:=am hHeld.2.1;clear hHeld HB7 hb;have BSc:=zc8 BS.out;have BCc:=zc8 BC.out;refine done_ (by kernel_rfl) ?_;go_wp2;go_roundw
          case rel=>exact ⟨m+1,by omega,by go_num,⟨fun i hi=>by rcases Nat.lt_or_ge i m with h | h;exact HM.out i h;obtain rfl:i=m:=(by omega);rw [<-TX.out,HH.out,HL.out];rfl⟩,BS,BC,HB⟩
          case measure=>simp [intOf];omega
       ·obtain rfl:m=s.tasks.length:=by omega
        go_wp2;go_roundw
        case rel=>exact ⟨k+1,by omega,by go_num,⟨fun i hi=>by rcases Nat.lt_or_ge i k with h | h;exact HJ.out i h;obtain rfl:i=k:=(by omega);rw [<-CX.out,show inB c.num 0 99=true from H1.out,show inB c.time 0 s.clock=true from H2.out,show inB c.lock (-1) ((s.tasks.length:Int) - 1)=true from H3.out,allB_iff.2 HM.out];rfl⟩,BS,HB⟩
        case measure=>simp [intOf];omega
  ·obtain rfl:k=s.cells.length:=by omega
   go_wp2;go_ret
   have hr:cellsOk s=true:=by
    unfold cellsOk;exact allB_iff.2 HJ.out
   rw [hr];exact ⟨rfl,HB.out⟩
end Go.Proofs.Ytimamoimphjakaa.Eq
