import Derived.Test.YtclangliilnijaaGreatDoorY1
import Derived.Deep.MidRow
import Derived.LaidEql
import Derived.Lib.SliceRun
import Derived.RowKitTokens
import Derived.StillTail
import Derived.StillTailTactics
import Derived.Stop.Asserts
set_option maxHeartbeats 8000000
set_option maxRecDepth 100000
set_option linter.unusedVariables false
set_option linter.unusedSimpArgs false
namespace Go.Proofs.YtclangliilnijaaGreatDoor.Eq
open Go.RowKit Go.Proofs.YtclangliilnijaaGreatDoorW.PrintWords Go.Proofs.YtclangliilnijaaGreatDoorW.PrintLast
structure Put where
 cell:Int
 num:Int
 deriving DecidableEq
def zPut:Put:=⟨0,0⟩
def kPut:Kd Put:=Kd.iso (Kd.pair (Kd.int .i64) (Kd.int .i64)) (fun x:Put=>(x.cell,x.num))
theorem kPut_open {w:World} {x:Put} {cs:List Value} (h:kPut.K w x cs):cs= [.int .i64 x.cell,.int .i64 x.num]:=by
 obtain ⟨_,_,rfl,rfl,rfl⟩:=h;exact rfl
theorem kPut_mkM {w:World} {base:Nat} {ok:Nat->Prop} (x:Put):kPut.M w base ok x [.int .i64 x.cell,.int .i64 x.num]:=
 ⟨[.int .i64 x.cell], [.int .i64 x.num],rfl,rfl,rfl⟩
structure Cell where
 num:Int
 time:Int
 lock:Int
 deriving DecidableEq
def zCell:Cell:=⟨0,0,0⟩
def kCell:Kd Cell:=Kd.iso (Kd.pair (Kd.int .i64) (Kd.pair (Kd.int .i64) (Kd.int .i64))) (fun x:Cell=>(x.num,x.time,x.lock))
theorem kCell_open {w:World} {x:Cell} {cs:List Value} (h:kCell.K w x cs):cs= [.int .i64 x.num,.int .i64 x.time,.int .i64 x.lock]:=by
 obtain ⟨_,_,rfl,rfl,⟨_,_,rfl,rfl,rfl⟩⟩:=h;exact rfl
theorem kCell_mkM {w:World} {base:Nat} {ok:Nat->Prop} (x:Cell):kCell.M w base ok x [.int .i64 x.num,.int .i64 x.time,.int .i64 x.lock]:=
 ⟨[.int .i64 x.num], [.int .i64 x.time,.int .i64 x.lock],rfl,rfl,⟨[.int .i64 x.time], [.int .i64 x.lock],rfl,rfl,rfl⟩⟩
structure Task where
 body:Int
 pc:Int
 up:Int
 regs:List Int
 way:Int
 stage:Int
 at_:Int
 since:Int
 old:List Int
 reads:List Put
 puts:List Put
 when_:Int
 from_:Int
 deriving DecidableEq
def zTask:Task:=⟨0,0,0, [],0,0,0,0, [], [], [],0,0⟩
def kTask:Kd Task:=Kd.iso (Kd.pair (Kd.int .i64) (Kd.pair (Kd.int .i64) (Kd.pair (Kd.int .i64) (Kd.pair (Kd.slice 3 (Kd.int .i64)) (Kd.pair (Kd.int .i64) (Kd.pair (Kd.int .i64) (Kd.pair (Kd.int .i64) (Kd.pair (Kd.int .i64) (Kd.pair (Kd.slice 3 (Kd.int .i64)) (Kd.pair (Kd.slice 65 kPut) (Kd.pair (Kd.slice 65 kPut) (Kd.pair (Kd.int .i64) (Kd.int .i64))))))))))))) (fun x:Task=>(x.body,x.pc,x.up,x.regs,x.way,x.stage,x.at_,x.since,x.old,x.reads,x.puts,x.when_,x.from_))
theorem kTask_open {w:World} {x:Task} {cs:List Value} (h:kTask.K w x cs):∃ A_regs c_regs A_old c_old A_reads c_reads A_puts c_puts,cs= [.int .i64 x.body,.int .i64 x.pc,.int .i64 x.up,.slice A_regs x.regs.length c_regs,.int .i64 x.way,.int .i64 x.stage,.int .i64 x.at_,.int .i64 x.since,.slice A_old x.old.length c_old,.slice A_reads x.reads.length c_reads,.slice A_puts x.puts.length c_puts,.int .i64 x.when_,.int .i64 x.from_]/\x.regs.length<=c_regs/\(Kd.int .i64).C w A_regs x.regs.length x.regs/\x.old.length<=c_old/\(Kd.int .i64).C w A_old x.old.length x.old/\x.reads.length<=c_reads/\kPut.C w A_reads x.reads.length x.reads/\x.puts.length<=c_puts/\kPut.C w A_puts x.puts.length x.puts:=by
 obtain ⟨_,_,rfl,rfl,⟨_,_,rfl,rfl,⟨_,_,rfl,rfl,⟨_,_,rfl,⟨A_regs,c_regs,rfl,l_regs,g_regs⟩,⟨_,_,rfl,rfl,⟨_,_,rfl,rfl,⟨_,_,rfl,rfl,⟨_,_,rfl,rfl,⟨_,_,rfl,⟨A_old,c_old,rfl,l_old,g_old⟩,⟨_,_,rfl,⟨A_reads,c_reads,rfl,l_reads,g_reads⟩,⟨_,_,rfl,⟨A_puts,c_puts,rfl,l_puts,g_puts⟩,⟨_,_,rfl,rfl,rfl⟩⟩⟩⟩⟩⟩⟩⟩⟩⟩⟩⟩:=h;exact ⟨A_regs,c_regs,A_old,c_old,A_reads,c_reads,A_puts,c_puts,rfl,l_regs,g_regs,l_old,g_old,l_reads,g_reads,l_puts,g_puts⟩
theorem kTask_openM {w:World} {base:Nat} {ok:Nat->Prop} {x:Task} {cs:List Value} (h:kTask.M w base ok x cs):∃ v_regs v_old v_reads v_puts,cs= [.int .i64 x.body,.int .i64 x.pc,.int .i64 x.up,v_regs,.int .i64 x.way,.int .i64 x.stage,.int .i64 x.at_,.int .i64 x.since,v_old,v_reads,v_puts,.int .i64 x.when_,.int .i64 x.from_]/\(Kd.int .i64).R 3 w base ok v_regs x.regs/\(Kd.int .i64).R 3 w base ok v_old x.old/\kPut.R 65 w base ok v_reads x.reads/\kPut.R 65 w base ok v_puts x.puts:=by
 obtain ⟨_,_,rfl,rfl,⟨_,_,rfl,rfl,⟨_,_,rfl,rfl,⟨_,_,rfl,⟨v_regs,rfl,g_regs⟩,⟨_,_,rfl,rfl,⟨_,_,rfl,rfl,⟨_,_,rfl,rfl,⟨_,_,rfl,rfl,⟨_,_,rfl,⟨v_old,rfl,g_old⟩,⟨_,_,rfl,⟨v_reads,rfl,g_reads⟩,⟨_,_,rfl,⟨v_puts,rfl,g_puts⟩,⟨_,_,rfl,rfl,rfl⟩⟩⟩⟩⟩⟩⟩⟩⟩⟩⟩⟩:=h;exact ⟨v_regs,v_old,v_reads,v_puts,rfl,g_regs,g_old,g_reads,g_puts⟩
theorem kTask_mkM {w:World} {base:Nat} {ok:Nat->Prop} (x:Task) {v_regs:Value} (g_regs:(Kd.int .i64).R 3 w base ok v_regs x.regs) {v_old:Value} (g_old:(Kd.int .i64).R 3 w base ok v_old x.old) {v_reads:Value} (g_reads:kPut.R 65 w base ok v_reads x.reads) {v_puts:Value} (g_puts:kPut.R 65 w base ok v_puts x.puts):kTask.M w base ok x [.int .i64 x.body,.int .i64 x.pc,.int .i64 x.up,v_regs,.int .i64 x.way,.int .i64 x.stage,.int .i64 x.at_,.int .i64 x.since,v_old,v_reads,v_puts,.int .i64 x.when_,.int .i64 x.from_]:=
 ⟨[.int .i64 x.body], [.int .i64 x.pc,.int .i64 x.up,v_regs,.int .i64 x.way,.int .i64 x.stage,.int .i64 x.at_,.int .i64 x.since,v_old,v_reads,v_puts,.int .i64 x.when_,.int .i64 x.from_],rfl,rfl,⟨[.int .i64 x.pc], [.int .i64 x.up,v_regs,.int .i64 x.way,.int .i64 x.stage,.int .i64 x.at_,.int .i64 x.since,v_old,v_reads,v_puts,.int .i64 x.when_,.int .i64 x.from_],rfl,rfl,⟨[.int .i64 x.up], [v_regs,.int .i64 x.way,.int .i64 x.stage,.int .i64 x.at_,.int .i64 x.since,v_old,v_reads,v_puts,.int .i64 x.when_,.int .i64 x.from_],rfl,rfl,⟨[v_regs], [.int .i64 x.way,.int .i64 x.stage,.int .i64 x.at_,.int .i64 x.since,v_old,v_reads,v_puts,.int .i64 x.when_,.int .i64 x.from_],rfl,⟨_,rfl,g_regs⟩,⟨[.int .i64 x.way], [.int .i64 x.stage,.int .i64 x.at_,.int .i64 x.since,v_old,v_reads,v_puts,.int .i64 x.when_,.int .i64 x.from_],rfl,rfl,⟨[.int .i64 x.stage], [.int .i64 x.at_,.int .i64 x.since,v_old,v_reads,v_puts,.int .i64 x.when_,.int .i64 x.from_],rfl,rfl,⟨[.int .i64 x.at_], [.int .i64 x.since,v_old,v_reads,v_puts,.int .i64 x.when_,.int .i64 x.from_],rfl,rfl,⟨[.int .i64 x.since], [v_old,v_reads,v_puts,.int .i64 x.when_,.int .i64 x.from_],rfl,rfl,⟨[v_old], [v_reads,v_puts,.int .i64 x.when_,.int .i64 x.from_],rfl,⟨_,rfl,g_old⟩,⟨[v_reads], [v_puts,.int .i64 x.when_,.int .i64 x.from_],rfl,⟨_,rfl,g_reads⟩,⟨[v_puts], [.int .i64 x.when_,.int .i64 x.from_],rfl,⟨_,rfl,g_puts⟩,⟨[.int .i64 x.when_], [.int .i64 x.from_],rfl,rfl,rfl⟩⟩⟩⟩⟩⟩⟩⟩⟩⟩⟩⟩
structure Entry where
 task:Int
 act:Int
 when_:Int
 reads:List Put
 puts:List Put
 from_:Int
 deriving DecidableEq
def zEntry:Entry:=⟨0,0,0, [], [],0⟩
def kEntry:Kd Entry:=Kd.iso (Kd.pair (Kd.int .i64) (Kd.pair (Kd.int .i64) (Kd.pair (Kd.int .i64) (Kd.pair (Kd.slice 65 kPut) (Kd.pair (Kd.slice 65 kPut) (Kd.int .i64)))))) (fun x:Entry=>(x.task,x.act,x.when_,x.reads,x.puts,x.from_))
theorem kEntry_open {w:World} {x:Entry} {cs:List Value} (h:kEntry.K w x cs):∃ A_reads c_reads A_puts c_puts,cs= [.int .i64 x.task,.int .i64 x.act,.int .i64 x.when_,.slice A_reads x.reads.length c_reads,.slice A_puts x.puts.length c_puts,.int .i64 x.from_]/\x.reads.length<=c_reads/\kPut.C w A_reads x.reads.length x.reads/\x.puts.length<=c_puts/\kPut.C w A_puts x.puts.length x.puts:=by
 obtain ⟨_,_,rfl,rfl,⟨_,_,rfl,rfl,⟨_,_,rfl,rfl,⟨_,_,rfl,⟨A_reads,c_reads,rfl,l_reads,g_reads⟩,⟨_,_,rfl,⟨A_puts,c_puts,rfl,l_puts,g_puts⟩,rfl⟩⟩⟩⟩⟩:=h;exact ⟨A_reads,c_reads,A_puts,c_puts,rfl,l_reads,g_reads,l_puts,g_puts⟩
theorem kEntry_openM {w:World} {base:Nat} {ok:Nat->Prop} {x:Entry} {cs:List Value} (h:kEntry.M w base ok x cs):∃ v_reads v_puts,cs= [.int .i64 x.task,.int .i64 x.act,.int .i64 x.when_,v_reads,v_puts,.int .i64 x.from_]/\kPut.R 65 w base ok v_reads x.reads/\kPut.R 65 w base ok v_puts x.puts:=by
 obtain ⟨_,_,rfl,rfl,⟨_,_,rfl,rfl,⟨_,_,rfl,rfl,⟨_,_,rfl,⟨v_reads,rfl,g_reads⟩,⟨_,_,rfl,⟨v_puts,rfl,g_puts⟩,rfl⟩⟩⟩⟩⟩:=h;exact ⟨v_reads,v_puts,rfl,g_reads,g_puts⟩
theorem kEntry_mkM {w:World} {base:Nat} {ok:Nat->Prop} (x:Entry) {v_reads:Value} (g_reads:kPut.R 65 w base ok v_reads x.reads) {v_puts:Value} (g_puts:kPut.R 65 w base ok v_puts x.puts):kEntry.M w base ok x [.int .i64 x.task,.int .i64 x.act,.int .i64 x.when_,v_reads,v_puts,.int .i64 x.from_]:=
 ⟨[.int .i64 x.task], [.int .i64 x.act,.int .i64 x.when_,v_reads,v_puts,.int .i64 x.from_],rfl,rfl,⟨[.int .i64 x.act], [.int .i64 x.when_,v_reads,v_puts,.int .i64 x.from_],rfl,rfl,⟨[.int .i64 x.when_], [v_reads,v_puts,.int .i64 x.from_],rfl,rfl,⟨[v_reads], [v_puts,.int .i64 x.from_],rfl,⟨_,rfl,g_reads⟩,⟨[v_puts], [.int .i64 x.from_],rfl,⟨_,rfl,g_puts⟩,rfl⟩⟩⟩⟩⟩
structure Sys where
 cells:List Cell
 tasks:List Task
 clock:Int
 log:List Entry
 deriving DecidableEq
def kSys:Kd Sys:=Kd.iso (Kd.pair (Kd.slice 63 kCell) (Kd.pair (Kd.slice 59 kTask) (Kd.pair (Kd.int .i64) (Kd.slice 136 kEntry)))) (fun x:Sys=>(x.cells,x.tasks,x.clock,x.log))
theorem kSys_open {w:World} {x:Sys} {cs:List Value} (h:kSys.K w x cs):∃ A_cells c_cells A_tasks c_tasks A_log c_log,cs= [.slice A_cells x.cells.length c_cells,.slice A_tasks x.tasks.length c_tasks,.int .i64 x.clock,.slice A_log x.log.length c_log]/\x.cells.length<=c_cells/\kCell.C w A_cells x.cells.length x.cells/\x.tasks.length<=c_tasks/\kTask.C w A_tasks x.tasks.length x.tasks/\x.log.length<=c_log/\kEntry.C w A_log x.log.length x.log:=by
 obtain ⟨_,_,rfl,⟨A_cells,c_cells,rfl,l_cells,g_cells⟩,⟨_,_,rfl,⟨A_tasks,c_tasks,rfl,l_tasks,g_tasks⟩,⟨_,_,rfl,rfl,⟨A_log,c_log,rfl,l_log,g_log⟩⟩⟩⟩:=h;exact ⟨A_cells,c_cells,A_tasks,c_tasks,A_log,c_log,rfl,l_cells,g_cells,l_tasks,g_tasks,l_log,g_log⟩
theorem kSys_mk {w:World} (x:Sys) {A_cells:Option Addr} {c_cells:Nat} (l_cells:x.cells.length<=c_cells) (g_cells:kCell.C w A_cells x.cells.length x.cells) {A_tasks:Option Addr} {c_tasks:Nat} (l_tasks:x.tasks.length<=c_tasks) (g_tasks:kTask.C w A_tasks x.tasks.length x.tasks) {A_log:Option Addr} {c_log:Nat} (l_log:x.log.length<=c_log) (g_log:kEntry.C w A_log x.log.length x.log):kSys.K w x [.slice A_cells x.cells.length c_cells,.slice A_tasks x.tasks.length c_tasks,.int .i64 x.clock,.slice A_log x.log.length c_log]:=
 ⟨[.slice A_cells x.cells.length c_cells], [.slice A_tasks x.tasks.length c_tasks,.int .i64 x.clock,.slice A_log x.log.length c_log],rfl,⟨_,_,rfl,l_cells,g_cells⟩,⟨[.slice A_tasks x.tasks.length c_tasks], [.int .i64 x.clock,.slice A_log x.log.length c_log],rfl,⟨_,_,rfl,l_tasks,g_tasks⟩,⟨[.int .i64 x.clock], [.slice A_log x.log.length c_log],rfl,rfl,⟨_,_,rfl,l_log,g_log⟩⟩⟩⟩
theorem kSys_openM {w:World} {base:Nat} {ok:Nat->Prop} {x:Sys} {cs:List Value} (h:kSys.M w base ok x cs):∃ v_cells v_tasks v_log,cs= [v_cells,v_tasks,.int .i64 x.clock,v_log]/\kCell.R 63 w base ok v_cells x.cells/\kTask.R 59 w base ok v_tasks x.tasks/\kEntry.R 136 w base ok v_log x.log:=by
 obtain ⟨_,_,rfl,⟨v_cells,rfl,g_cells⟩,⟨_,_,rfl,⟨v_tasks,rfl,g_tasks⟩,⟨_,_,rfl,rfl,⟨v_log,rfl,g_log⟩⟩⟩⟩:=h;exact ⟨v_cells,v_tasks,v_log,rfl,g_cells,g_tasks,g_log⟩
theorem kSys_mkM {w:World} {base:Nat} {ok:Nat->Prop} (x:Sys) {v_cells:Value} (g_cells:kCell.R 63 w base ok v_cells x.cells) {v_tasks:Value} (g_tasks:kTask.R 59 w base ok v_tasks x.tasks) {v_log:Value} (g_log:kEntry.R 136 w base ok v_log x.log):kSys.M w base ok x [v_cells,v_tasks,.int .i64 x.clock,v_log]:=
 ⟨[v_cells], [v_tasks,.int .i64 x.clock,v_log],rfl,⟨_,rfl,g_cells⟩,⟨[v_tasks], [.int .i64 x.clock,v_log],rfl,⟨_,rfl,g_tasks⟩,⟨[.int .i64 x.clock], [v_log],rfl,rfl,⟨_,rfl,g_log⟩⟩⟩⟩
def kPutL:Kd Put:=Kd.iso (Kd.pair (Kd.int .i64) (Kd.int .i64)) (fun x:Put=>(x.cell,x.num))
theorem kPutL_open {w:World} {x:Put} {cs:List Value} (h:kPutL.K w x cs):cs= [.int .i64 x.cell,.int .i64 x.num]:=by
 obtain ⟨_,_,rfl,rfl,rfl⟩:=h;exact rfl
def kCellL:Kd Cell:=Kd.iso (Kd.pair (Kd.int .i64) (Kd.pair (Kd.int .i64) (Kd.int .i64))) (fun x:Cell=>(x.num,x.time,x.lock))
theorem kCellL_open {w:World} {x:Cell} {cs:List Value} (h:kCellL.K w x cs):cs= [.int .i64 x.num,.int .i64 x.time,.int .i64 x.lock]:=by
 obtain ⟨_,_,rfl,rfl,⟨_,_,rfl,rfl,rfl⟩⟩:=h;exact rfl
def kTaskL:Kd Task:=Kd.iso (Kd.pair (Kd.int .i64) (Kd.pair (Kd.int .i64) (Kd.pair (Kd.int .i64) (Kd.pair (Kd.slice 3 (Kd.int .i64)) (Kd.pair (Kd.int .i64) (Kd.pair (Kd.int .i64) (Kd.pair (Kd.int .i64) (Kd.pair (Kd.int .i64) (Kd.pair (Kd.slice 3 (Kd.int .i64)) (Kd.pair (Kd.slice 204 kPutL) (Kd.pair (Kd.slice 204 kPutL) (Kd.pair (Kd.int .i64) (Kd.int .i64))))))))))))) (fun x:Task=>(x.body,x.pc,x.up,x.regs,x.way,x.stage,x.at_,x.since,x.old,x.reads,x.puts,x.when_,x.from_))
theorem kTaskL_open {w:World} {x:Task} {cs:List Value} (h:kTaskL.K w x cs):∃ A_regs c_regs A_old c_old A_reads c_reads A_puts c_puts,cs= [.int .i64 x.body,.int .i64 x.pc,.int .i64 x.up,.slice A_regs x.regs.length c_regs,.int .i64 x.way,.int .i64 x.stage,.int .i64 x.at_,.int .i64 x.since,.slice A_old x.old.length c_old,.slice A_reads x.reads.length c_reads,.slice A_puts x.puts.length c_puts,.int .i64 x.when_,.int .i64 x.from_]/\x.regs.length<=c_regs/\(Kd.int .i64).C w A_regs x.regs.length x.regs/\x.old.length<=c_old/\(Kd.int .i64).C w A_old x.old.length x.old/\x.reads.length<=c_reads/\kPutL.C w A_reads x.reads.length x.reads/\x.puts.length<=c_puts/\kPutL.C w A_puts x.puts.length x.puts:=by
 obtain ⟨_,_,rfl,rfl,⟨_,_,rfl,rfl,⟨_,_,rfl,rfl,⟨_,_,rfl,⟨A_regs,c_regs,rfl,l_regs,g_regs⟩,⟨_,_,rfl,rfl,⟨_,_,rfl,rfl,⟨_,_,rfl,rfl,⟨_,_,rfl,rfl,⟨_,_,rfl,⟨A_old,c_old,rfl,l_old,g_old⟩,⟨_,_,rfl,⟨A_reads,c_reads,rfl,l_reads,g_reads⟩,⟨_,_,rfl,⟨A_puts,c_puts,rfl,l_puts,g_puts⟩,⟨_,_,rfl,rfl,rfl⟩⟩⟩⟩⟩⟩⟩⟩⟩⟩⟩⟩:=h;exact ⟨A_regs,c_regs,A_old,c_old,A_reads,c_reads,A_puts,c_puts,rfl,l_regs,g_regs,l_old,g_old,l_reads,g_reads,l_puts,g_puts⟩
def kEntryL:Kd Entry:=Kd.iso (Kd.pair (Kd.int .i64) (Kd.pair (Kd.int .i64) (Kd.pair (Kd.int .i64) (Kd.pair (Kd.slice 204 kPutL) (Kd.pair (Kd.slice 204 kPutL) (Kd.int .i64)))))) (fun x:Entry=>(x.task,x.act,x.when_,x.reads,x.puts,x.from_))
theorem kEntryL_open {w:World} {x:Entry} {cs:List Value} (h:kEntryL.K w x cs):∃ A_reads c_reads A_puts c_puts,cs= [.int .i64 x.task,.int .i64 x.act,.int .i64 x.when_,.slice A_reads x.reads.length c_reads,.slice A_puts x.puts.length c_puts,.int .i64 x.from_]/\x.reads.length<=c_reads/\kPutL.C w A_reads x.reads.length x.reads/\x.puts.length<=c_puts/\kPutL.C w A_puts x.puts.length x.puts:=by
 obtain ⟨_,_,rfl,rfl,⟨_,_,rfl,rfl,⟨_,_,rfl,rfl,⟨_,_,rfl,⟨A_reads,c_reads,rfl,l_reads,g_reads⟩,⟨_,_,rfl,⟨A_puts,c_puts,rfl,l_puts,g_puts⟩,rfl⟩⟩⟩⟩⟩:=h;exact ⟨A_reads,c_reads,A_puts,c_puts,rfl,l_reads,g_reads,l_puts,g_puts⟩
def kSysL:Kd Sys:=Kd.iso (Kd.pair (Kd.slice 133 kCellL) (Kd.pair (Kd.slice 126 kTaskL) (Kd.pair (Kd.int .i64) (Kd.slice 129 kEntryL)))) (fun x:Sys=>(x.cells,x.tasks,x.clock,x.log))
theorem kSysL_open {w:World} {x:Sys} {cs:List Value} (h:kSysL.K w x cs):∃ A_cells c_cells A_tasks c_tasks A_log c_log,cs= [.slice A_cells x.cells.length c_cells,.slice A_tasks x.tasks.length c_tasks,.int .i64 x.clock,.slice A_log x.log.length c_log]/\x.cells.length<=c_cells/\kCellL.C w A_cells x.cells.length x.cells/\x.tasks.length<=c_tasks/\kTaskL.C w A_tasks x.tasks.length x.tasks/\x.log.length<=c_log/\kEntryL.C w A_log x.log.length x.log:=by
 obtain ⟨_,_,rfl,⟨A_cells,c_cells,rfl,l_cells,g_cells⟩,⟨_,_,rfl,⟨A_tasks,c_tasks,rfl,l_tasks,g_tasks⟩,⟨_,_,rfl,rfl,⟨A_log,c_log,rfl,l_log,g_log⟩⟩⟩⟩:=h;exact ⟨A_cells,c_cells,A_tasks,c_tasks,A_log,c_log,rfl,l_cells,g_cells,l_tasks,g_tasks,l_log,g_log⟩
end Go.Proofs.YtclangliilnijaaGreatDoor.Eq
namespace Go.Proofs.YtclangliilnijaaGreatDoor.Eq
open Go.RowKit Go.Proofs.YtclangliilnijaaGreatDoorW.PrintWords Go.Proofs.YtclangliilnijaaGreatDoorW.PrintLast Go.Proofs.YtclangliilnijaaGreatDoorW.PrintMore
theorem bcell {W w1:World} (hb:Below W.heap.size W w1):(∀ b o,b < W.heap.size->w1.cell? ⟨b,o,none⟩=W.cell? ⟨b,o,none⟩)/\(∀ b o,b < W.heap.size->w1.frozen? ⟨b,o,none⟩=W.frozen? ⟨b,o,none⟩):=
 ⟨fun b o h=>hb.cell (p:=⟨b,o,none⟩) h,fun b o h=>hb.frozen (p:=⟨b,o,none⟩) h⟩
theorem bsize {W w1:World} (hb:Below W.heap.size W w1):W.heap.size<=w1.heap.size:=hb.size
theorem ret_bool {a b:Bool} (h:a=b):Ending.returned (.bool a)= .returned (.bool b):=by rw [h]
theorem add_add_ (ad:Addr) (m j:Nat):(ad.add m).add j=ad.add (m+j):=by
 unfold Addr.add;split <;> split <;> simp_all [Nat.add_assoc]
theorem spot_of {W:World} {ad:Addr} {v:Value} (h:W.cell? ad=some v):ad.spot=none:=by
 unfold World.cell? at h;split at h
 ·split at h
  ·cases h
  ·rename_i hs;simpa using hs
 ·cases h
theorem add_spot (ad:Addr) (m:Nat) (h:(ad.add m).spot=none):∀ j,(ad.add (m+j))=⟨(ad.add m).block,(ad.add m).off+j,none⟩:=by
 intro j;rw [<-add_add_];generalize ad.add m=x at h ⊢;obtain ⟨b,o,s⟩:=x
 cases s with
 | none=>exact add_at b o j
 | some s=>cases h
section
variable {P:Program} {ops:Array Oper} {rest:List Oper} {o:Oper} {a:Act} {Q:Exit->Act->World->Prop}
theorem load_struct {W:World} (hgd:o.guard=none) (ty:TypeId) (x:Operand) (ho:o.op= .load ty x) (ad:Addr) (m:Nat) (hx:a.eval x= .pointer (some (ad.add m))) (cs:List Value) (d:TypeDesc)
  (hc:∀ j u,cs[j]? = some u->W.cell? (ad.add (m+j))=some u) (hl:0 < cs.length) (hu:P.underlying ty=some d) (hd:d.isRow=true) (hi:(P.info? ty).map (·.size)=some cs.length)
  (h:wpList P ops Q rest (a.put o.dst (.agg cs.toArray)) W):wpList P ops Q (o :: rest) a W:=by
 have h0:=hc 0 _ (List.getElem?_eq_getElem hl);have hs:(ad.add m).spot=none:=spot_of h0;refine wpList_load_mid hgd ty x ho (ad.add m).block (ad.add m).off ?_ cs d (fun j u hj=> ?_) hu hd hi h
 ·rw [hx]
  generalize ad.add m=y at hs ⊢;obtain ⟨b,o,s⟩:=y;cases hs;rfl
 ·rw [<-add_spot ad m hs j]
  exact hc j u hj
end
section
variable {α:Type} {d:Kd α} {e base n:Nat} {ok:Nat->Prop} {w W w1:World} {v:Value} {xs:List α}
theorem R_up (h:d.R e w1 W.heap.size ok v xs) (hn:n < W.heap.size) (hb:base<=W.heap.size):d.R e w1 base (fun k=>n < k) v xs:=
 Kd.R_lower (Kd.R_mono (Kd.R_bound h) (fun k hk=>Nat.lt_of_lt_of_le hn hk.2.1)) hb
theorem R_farN {g j:Nat} {u:Value} (h:d.R e w base (fun k=>n < k) v xs) (hg:g<=n):d.R e (w.setCell ⟨g,j,none⟩ u) base (fun k=>n < k) v xs:=
 Kd.R_far h (fun k hk=>Nat.ne_of_gt (Nat.lt_of_le_of_lt hg hk)) u
theorem R_any (h:d.R e w base ok v xs):d.R e w base (fun _=>True) v xs:=Kd.R_mono h (fun _ _=>trivial)
end
section
variable {P:Program} {ops:Array Oper} {rest:List Oper} {o:Oper} {a:Act} {Q:Act->Prop}
theorem still_load_struct {W:World} (hgd:o.guard=none) (ty:TypeId) (x:Operand) (ho:o.op= .load ty x) (ad:Addr) (m:Nat) (hx:a.eval x= .pointer (some (ad.add m))) (cs:List Value) (d:TypeDesc)
  (hc:∀ j u,cs[j]? = some u->W.cell? (ad.add (m+j))=some u) (hl:0 < cs.length) (hu:P.underlying ty=some d) (hd:d.isRow=true) (hi:(P.info? ty).map (·.size)=some cs.length)
  (h:wpStill P ops W Q rest (a.put o.dst (.agg cs.toArray))):wpStill P ops W Q (o :: rest) a:=by
 have h0:=hc 0 _ (List.getElem?_eq_getElem hl);have hs:(ad.add m).spot=none:=spot_of h0;refine wpStill_step (fun K hK=> ?_);rw [if_pos (by simp [Region.wanted,hgd])]
 have hx':a.eval x= .pointer (some ⟨(ad.add m).block,(ad.add m).off,none⟩):=by
  rw [hx];generalize ad.add m=y at hs ⊢;obtain ⟨b,o,s⟩:=y;cases hs;rfl
 have hr:W.rangeAt (ad.add m).block (ad.add m).off cs:=fun j u hj=>by
  rw [<-add_spot ad m hs j];exact hc j u hj
 unfold Oper.still execOp;simp only [ho,hx',Sem.run_bind,run_loadAt_mid W _ _ ty cs d hr hu hd hi,Result.andThen_ok,Sem.run_pure,Oper.stillUpon_value];exact hK _ h
end
theorem C_field {α:Type} {d:Kd α} {w:World} {A:Option Addr} {n:Nat} {xs:List α} (h:d.C w A n xs) (z:α) (k:Nat) (hk:k < n) (hs:0 < d.sz):
  ∃ b o cs,A=some ⟨b,o,none⟩/\cs.length=d.sz/\d.K w (xs.getD k z) cs/\(∀ j u,cs[j]? = some u->w.cell? ⟨b,o+k*d.sz+j,none⟩=some u)/\(∀ u,cs[0]? = some u->w.cell? ⟨b,o+k*d.sz,none⟩=some u):=by
 obtain ⟨ad,cs,rfl,hl,hK,hc⟩:=Kd.C_get h z (k:Int) (by omega) (by omega);obtain ⟨ad',cs',he,hl',_,hc'⟩:=Kd.C_get h z (0:Int) (by omega) (by omega);cases he;simp only [Int.toNat_natCast] at hK hc
 have hsp:ad.spot=none:=by
  have h0:=spot_of (hc' 0 _ (List.getElem?_eq_getElem (by omega)));unfold Addr.add at h0;simpa using h0
 obtain ⟨b,o,s⟩:=ad;cases hsp
 have key:∀ j u,cs[j]? = some u->w.cell? ⟨b,o+k*d.sz+j,none⟩=some u:=fun j u hj=>by
  have:=hc j u hj
  rwa [add_at,<-Nat.add_assoc] at this
 exact ⟨b,o,cs,rfl,hl,hK,key,fun u hu=>key 0 u hu⟩
section
variable {P:Program} {ops:Array Oper} {rest:List Oper} {o:Oper} {a:Act} {Q:Exit->Act->World->Prop}
theorem store_block {W:World} (hgd:o.guard=none) (hN:o.dst=none) (t:TypeId) (p x:Operand) (ho:o.op= .store t p x) {g:Nat} {c0:Array Value} {e:TypeId} {cs:List Value}
  (hp:a.eval p= .pointer (some ⟨g,0,none⟩)) (hx:a.eval x= .agg cs.toArray) (hb:W.heap[g]? = some (.cells c0 e (0,0))) (hl:cs.length=c0.size) (hi:(P.info? t).map (·.size)=some cs.length) (h1:∀ v ∈ cs,v.oneCell'=true)
  (h:∀ w1,w1.heap[g]? = some (.cells cs.toArray e (0,0))->W.grownBy w1 (some g)->wpList P ops Q rest a w1):wpList P ops Q (o :: rest) a W:=by
 refine wpList_store_mid hgd t p x ho g 0 cs.toArray hp hx (fun j hj=> ?_) (by simpa using hi) (all_oneCell_toArray h1) ?_
 ·rw [Nat.zero_add,blk_cell hb j,blk_frozen hb j]
  simp at hj;simp [Array.getElem?_eq_getElem (show j < c0.size by omega)]
 ·obtain ⟨cur,hc,hsz,hcur⟩:=setCells_row cs 0 W c0 hb (by omega)
  obtain ⟨s1,s2,s3,s4⟩:=setCells_same g cs 0 W
  have e1:cur=cs.toArray:=by
   apply Array.toList_inj.1;rw [hcur,List.take_zero,List.nil_append,List.drop_eq_nil_of_le (by simp;omega),List.append_nil]
  subst e1;simp only [hN,Act.put];exact h _ hc ⟨s1,s2,s3,by rw [s4];exact Nat.le_refl _,fun i hi hne=>setCells_far cs 0 i (fun he=>hne (by rw [he]))⟩
theorem load_block {W:World} (hgd:o.guard=none) (t:TypeId) (x:Operand) (ho:o.op= .load t x) {g:Nat} {e:TypeId} {cs:List Value} (d:TypeDesc)
  (hx:a.eval x= .pointer (some ⟨g,0,none⟩)) (hb:W.heap[g]? = some (.cells cs.toArray e (0,0))) (hu:P.underlying t=some d) (hd:d.isRow=true) (hi:(P.info? t).map (·.size)=some cs.length)
  (h:wpList P ops Q rest (a.put o.dst (.agg cs.toArray)) W):wpList P ops Q (o :: rest) a W:=
 wpList_load_mid hgd t x ho g 0 hx cs d (fun j u hj=>by rw [Nat.zero_add,blk_cell hb j];simpa using hj) hu hd hi h
end
end Go.Proofs.YtclangliilnijaaGreatDoor.Eq
namespace Go.Proofs.YtclangliilnijaaGreatDoorW.PrintWords
open Go.RowKit
theorem lC {W:World} {g T:Nat} {cs:List Value} (h:W.heap[g]? = some (.cells cs.toArray T (0,0))):W.rangeAt g 0 cs:=fun j u hu=>by rw [Nat.zero_add];exact (blk_cell h j).trans (List.getElem?_toArray.trans hu)
theorem zc8 {w:World} {g:Nat} {t:TypeId} {cs:Array Value} (h:w.heap[g]? = some (.cells cs t (0,0))) (i:Nat):w.cell? ⟨g,i,none⟩=cs[i]? := blk_cell h i
theorem zb8 {w w':World} {g:Nat} {o:Obj} (h:w.heap[g]? = some o) (hb:Below w.heap.size w w'):w'.heap[g]? = some o:=blk_below h hb
end Go.Proofs.YtclangliilnijaaGreatDoorW.PrintWords
namespace Go.Proofs.YtclangliilnijaaGreatDoor.Eq
open Go.RowKit Go.Proofs.YtclangliilnijaaGreatDoorW.PrintWords Go.Proofs.YtclangliilnijaaGreatDoorW.PrintLast Go.Proofs.YtclangliilnijaaGreatDoorW.PrintMore
def Sz (left:Int) (n:Nat) (r:Int):Prop:=((n:Int)<=left/\r=left - n)\/(left < n/\r= -1)
def szT (x:Task):Nat:=x.regs.length+x.old.length+x.reads.length+x.puts.length
def szE (x:Entry):Nat:=x.reads.length+x.puts.length
def sumOf {α:Type} (f:α->Nat) (l:List α):Nat:=(l.map f).sum
theorem sumOf_take {α:Type} (f:α->Nat) (l:List α) (k:Nat) (z:α) (h:k < l.length):sumOf f (l.take (k+1))=sumOf f (l.take k)+f (l.getD k z):=by
 unfold sumOf;rw [List.take_succ_eq_append_getElem h,List.map_append,List.sum_append];simp [List.getD_eq_getElem?_getD,List.getElem?_eq_getElem h]
theorem sumOf_le {α:Type} (f:α->Nat) (l:List α) (k:Nat):sumOf f (l.take k)<=sumOf f l:=by
 unfold sumOf
 conv=>(rhs;rw [<-List.take_append_drop k l])
 rw [List.map_append,List.sum_append];omega
theorem szIntS_calls (n c:Nat) (A:Option Addr) (left:Int) (w:World) (h0:0<=left) (h1:left<=1048576) (hn:n<=9223372036854775807):
  Calls Tryz.prog 44 #[.slice A n c,.int .i64 left] w fun e w'=>∃ r,e= .returned (.int .i64 r)/\Sz left n r/\w=w':=by
 go_enter Tryz.func44,Tryz.ntmps44;go_wp2
 all_goals (go_ret;exact ⟨_,rfl,by unfold Sz;omega,rfl⟩)
theorem szPutS_calls (n c:Nat) (A:Option Addr) (left:Int) (w:World) (h0:0<=left) (h1:left<=1048576) (hn:n<=9223372036854775807):
  Calls Tryz.prog 122 #[.slice A n c,.int .i64 left] w fun e w'=>∃ r,e= .returned (.int .i64 r)/\Sz left n r/\w=w':=by
 go_enter Tryz.func122,Tryz.ntmps122;go_wp2
 all_goals (go_ret;exact ⟨_,rfl,by unfold Sz;omega,rfl⟩)
theorem szCellS_calls (n c:Nat) (A:Option Addr) (left:Int) (w:World) (h0:0<=left) (h1:left<=1048576) (hn:n<=9223372036854775807):
  Calls Tryz.prog 46 #[.slice A n c,.int .i64 left] w fun e w'=>∃ r,e= .returned (.int .i64 r)/\Sz left n r/\w=w':=by
 go_enter Tryz.func46,Tryz.ntmps46;go_wp2
 all_goals (go_ret;exact ⟨_,rfl,by unfold Sz;omega,rfl⟩)
theorem szTask_calls (x:Task) (cs:List Value) (left:Int) (w:World) (hx:kTaskL.K w x cs) (h0:0<=left) (h1:left<=1048576):
  Calls Tryz.prog 82 #[.agg cs.toArray,.int .i64 left] w fun e w'=>∃ r,e= .returned (.int .i64 r)/\Sz left (szT x) r/\Below w.heap.size w w':=by
 obtain ⟨A3,c3,A8,c8,A9,c9,A10,c10,rfl,l3,g3,l8,g8,l9,g9,l10,g10⟩:=kTaskL_open hx;have m3:=Kd.C_max g3;have m8:=Kd.C_max g8;have m9:=Kd.C_max g9;have m10:=Kd.C_max g10;clear g3 g8 g9 g10 l3 l8 l9 l10 hx;go_enter Tryz.func82,Tryz.ntmps82
 go_wp2_with (first
 |(go_at_call 44;refine (szIntS_calls _ _ _ _ _ (by first|omega|(unfold Sz at *;omega)) (by first|omega|(unfold Sz at *;omega)) (by assumption)).mono ?_;rintro e w1 ⟨r,rfl,hs,rfl⟩)
 |(go_at_call 122;refine (szPutS_calls _ _ _ _ _ (by first|omega|(unfold Sz at *;omega)) (by first|omega|(unfold Sz at *;omega)) (by assumption)).mono ?_;rintro e w1 ⟨r,rfl,hs,rfl⟩))
 all_goals (go_ret;exact ⟨_,rfl,by unfold Sz szT at *;omega,by repeat (first|exact Below.refl _ _ | apply below_alloc)⟩)
theorem szEntry_calls (x:Entry) (cs:List Value) (left:Int) (w:World) (hx:kEntryL.K w x cs) (h0:0<=left) (h1:left<=1048576):
  Calls Tryz.prog 83 #[.agg cs.toArray,.int .i64 left] w fun e w'=>∃ r,e= .returned (.int .i64 r)/\Sz left (szE x) r/\Below w.heap.size w w':=by
 obtain ⟨A3,c3,A8,c8,rfl,l3,g3,l8,g8⟩:=kEntryL_open hx;have m3:=Kd.C_max g3;have m8:=Kd.C_max g8;clear g3 g8 l3 l8 hx;go_enter Tryz.func83,Tryz.ntmps83
 go_wp2_with (first
 |(go_at_call 122;refine (szPutS_calls _ _ _ _ _ (by first|omega|(unfold Sz at *;omega)) (by first|omega|(unfold Sz at *;omega)) (by assumption)).mono ?_;rintro e w1 ⟨r,rfl,hs,rfl⟩))
 all_goals (go_ret;exact ⟨_,rfl,by unfold Sz szE at *;omega,by repeat (first|exact Below.refl _ _ | apply below_alloc)⟩)
theorem szTaskS_calls (xs:List Task) (A:Option Addr) (c:Nat) (left:Int) (w:World) (hx:kTaskL.C w A xs.length xs) (h0:0<=left) (h1:left<=1048576):
  Calls Tryz.prog 47 #[.slice A xs.length c,.int .i64 left] w fun e w'=>∃ r,e= .returned (.int .i64 r)/\Sz left (xs.length+sumOf szT xs) r/\Below w.heap.size w w':=by
 have hm:=Kd.C_max hx;have HX:=am hx;clear hx;go_enter Tryz.func47,Tryz.ntmps47;by_cases h:left < xs.length
 ·have hb:decide (left - (xs.length:Int) < 0)=true:=decide_eq_true (by omega)
  go_wp2;go_ret;exact ⟨_,rfl,by unfold Sz;omega,Below.refl _ _⟩
 ·have hb:decide (left - (xs.length:Int) < 0)=false:=decide_eq_false (by omega)
  go_wp2;go_loopw [1,5] (fun l v w'=>∃ (k:Nat) (r:Int),k<=xs.length/\v= .int .i64 k/\l= .int .i64 r/\0<=r/\r<=1048576/\Aside0 (r=left - xs.length - sumOf szT (xs.take k))/\Aside0 (Below w.heap.size w w')) (fun _ v _=>xs.length - (intOf v).toNat)
  case atStart=>exact ⟨0,_,Nat.zero_le _,rfl,rfl,by omega,by omega,⟨by simp [sumOf]⟩,⟨Below.refl _ _⟩⟩
  case round=>
   obtain ⟨k,r,hk,rfl,rfl,hr0,hr1,HR,HB⟩:=hrel;by_cases hlt:k < xs.length
   ·obtain ⟨ad,cs,rfl,hcl,hK,hcc⟩:=Kd.C_get (Kd.C_below HX.out HB.out) zTask (k:Int) (by omega) (by omega)
    have q0:(0:Int)<=(k:Int):=by omega
    have q1:(k:Int) < (xs.length:Int):=by omega
    simp only [Int.toNat_natCast] at hK hcc;have HK:=am hK;have HCC:=am hcc;clear hK hcc;have HT:=am (sumOf_take szT xs k zTask hlt)
    go_wp2_with (first
    |((with_reducible refine gate_dst (N:=21) rfl ?_);refine load_struct rfl 126 (.tmp 20) rfl ad (k*13) rfl cs _ HCC.out (by rw [hcl];decide) Tryz.underlying126 rfl (by rw [hcl];kernel_rfl) ?_)
    |(go_at_call 82;refine (szTask_calls _ _ _ _ HK.out (by omega) (by omega)).mono ?_;rintro e w1 ⟨r1,rfl,hs,hb⟩;have HB1:=am (below_step HB.out hb);clear HB hb))
    ·go_ret
     have hle:=sumOf_le szT xs (k+1);exact ⟨_,rfl,by have:=HR.out;have:=HT.out;unfold Sz at *;omega,HB1.out⟩
    ·go_roundw
     case rel=>exact ⟨k+1,r1,by omega,by go_num,rfl,by omega,by unfold Sz at *;omega,⟨by have:=HR.out;have:=HT.out;unfold Sz at *;omega⟩,HB1⟩
     case measure=>simp [intOf];omega
   ·go_wp2
    go_ret;obtain rfl:k=xs.length:=by omega
    exact ⟨_,rfl,by have:=HR.out;rw [List.take_length] at this;unfold Sz;omega,HB.out⟩
theorem szEntryS_calls (xs:List Entry) (A:Option Addr) (c:Nat) (left:Int) (w:World) (hx:kEntryL.C w A xs.length xs) (h0:0<=left) (h1:left<=1048576):
  Calls Tryz.prog 48 #[.slice A xs.length c,.int .i64 left] w fun e w'=>∃ r,e= .returned (.int .i64 r)/\Sz left (xs.length+sumOf szE xs) r/\Below w.heap.size w w':=by
 have hm:=Kd.C_max hx;have HX:=am hx;clear hx;go_enter Tryz.func48,Tryz.ntmps48;by_cases h:left < xs.length
 ·have hb:decide (left - (xs.length:Int) < 0)=true:=decide_eq_true (by omega)
  go_wp2;go_ret;exact ⟨_,rfl,by unfold Sz;omega,Below.refl _ _⟩
 ·have hb:decide (left - (xs.length:Int) < 0)=false:=decide_eq_false (by omega)
  go_wp2;go_loopw [1,5] (fun l v w'=>∃ (k:Nat) (r:Int),k<=xs.length/\v= .int .i64 k/\l= .int .i64 r/\0<=r/\r<=1048576/\Aside0 (r=left - xs.length - sumOf szE (xs.take k))/\Aside0 (Below w.heap.size w w')) (fun _ v _=>xs.length - (intOf v).toNat)
  case atStart=>exact ⟨0,_,Nat.zero_le _,rfl,rfl,by omega,by omega,⟨by simp [sumOf]⟩,⟨Below.refl _ _⟩⟩
  case round=>
   obtain ⟨k,r,hk,rfl,rfl,hr0,hr1,HR,HB⟩:=hrel;by_cases hlt:k < xs.length
   ·obtain ⟨ad,cs,rfl,hcl,hK,hcc⟩:=Kd.C_get (Kd.C_below HX.out HB.out) zEntry (k:Int) (by omega) (by omega)
    have q0:(0:Int)<=(k:Int):=by omega
    have q1:(k:Int) < (xs.length:Int):=by omega
    simp only [Int.toNat_natCast] at hK hcc;have HK:=am hK;have HCC:=am hcc;clear hK hcc;have HT:=am (sumOf_take szE xs k zEntry hlt)
    go_wp2_with (first
    |((with_reducible refine gate_dst (N:=21) rfl ?_);refine load_struct rfl 129 (.tmp 20) rfl ad (k*6) rfl cs _ HCC.out (by rw [hcl];decide) Tryz.underlying129 rfl (by rw [hcl];kernel_rfl) ?_)
    |(go_at_call 83;refine (szEntry_calls _ _ _ _ HK.out (by omega) (by omega)).mono ?_;rintro e w1 ⟨r1,rfl,hs,hb⟩;have HB1:=am (below_step HB.out hb);clear HB hb))
    ·go_ret
     have hle:=sumOf_le szE xs (k+1);exact ⟨_,rfl,by have:=HR.out;have:=HT.out;unfold Sz at *;omega,HB1.out⟩
    ·go_roundw
     case rel=>exact ⟨k+1,r1,by omega,by go_num,rfl,by omega,by unfold Sz at *;omega,⟨by have:=HR.out;have:=HT.out;unfold Sz at *;omega⟩,HB1⟩
     case measure=>simp [intOf];omega
   ·go_wp2
    go_ret;obtain rfl:k=xs.length:=by omega
    exact ⟨_,rfl,by have:=HR.out;rw [List.take_length] at this;unfold Sz;omega,HB.out⟩
def szS (s:Sys):Nat:=s.cells.length+(s.tasks.length+sumOf szT s.tasks)+(s.log.length+sumOf szE s.log)
theorem szSys_calls (x:Sys) (cs:List Value) (left:Int) (w:World) (hx:kSysL.K w x cs) (h0:0<=left) (h1:left<=1048576):
  Calls Tryz.prog 15 #[.agg cs.toArray,.int .i64 left] w fun e w'=>∃ r,e= .returned (.int .i64 r)/\Sz left (szS x) r/\Below w.heap.size w w':=by
 obtain ⟨A0,c0,A1,c1,A3,c3,rfl,l0,g0,l1,g1,l3,g3⟩:=kSysL_open hx;have m0:=Kd.C_max g0;have HB:=am (Below.refl w.heap.size w);have G:=am (And.intro g1 g3);clear g0 g1 g3 l0 l1 l3 hx;go_enter Tryz.func15,Tryz.ntmps15
 go_wp2_with (first
 |(go_at_call 46;refine (szCellS_calls _ _ _ _ _ (by omega) (by omega) (by assumption)).mono ?_;rintro e w1 ⟨r,rfl,hs,rfl⟩)
 |(go_at_call 47;refine (szTaskS_calls _ _ _ _ _ ?h1 (by omega) (by unfold Sz at *;omega)).mono ?_;(case h1=>exact Kd.C_below G.out.1 (by repeat (first|with_reducible exact HB.out | apply below_alloc)));rintro e w1 ⟨r,rfl,hs1,hb⟩;replace HB:=am (below_step (by repeat (first|with_reducible exact HB.out | apply below_alloc)) hb);have hz:=bsize hb;(try simp at hz);have q0:w.heap.size < w1.heap.size:=(by omega);clear hz;obtain ⟨hc,hf⟩:=bcell hb;clear hb)
 |(go_at_call 48;refine (szEntryS_calls _ _ _ _ _ ?h1 (by omega) (by unfold Sz at *;omega)).mono ?_;(case h1=>exact Kd.C_below G.out.2 (by repeat (first|with_reducible exact HB.out | apply below_alloc)));rintro e w1 ⟨r,rfl,hs2,hb⟩;replace HB:=am (below_step (by repeat (first|with_reducible exact HB.out | apply below_alloc)) hb);clear hb))
 all_goals (go_ret;exact ⟨_,rfl,by unfold Sz szS at *;omega,by repeat (first|with_reducible exact HB.out | apply below_alloc)⟩)
theorem info_intT:(Tryz.prog.info? 3).map (fun i=>(i.zero,i.size,i.bytes))=some (some (.int .i64 0),1,8):=by kernel_rfl
def upTo {α:Type} (xs:List α) (z:α) (k:Nat):List α:=xs.take k ++ List.replicate (xs.length - k) z
theorem upTo_zero {α:Type} (xs:List α) (z:α):upTo xs z 0=List.replicate xs.length z:=by simp [upTo]
theorem upTo_all {α:Type} (xs:List α) (z:α):upTo xs z xs.length=xs:=by simp [upTo]
theorem upTo_length {α:Type} (xs:List α) (z:α) {k:Nat} (h:k<=xs.length):(upTo xs z k).length=xs.length:=by simp [upTo];omega
theorem upTo_set {α:Type} (xs:List α) (z:α) {k:Nat} (h:k < xs.length):(upTo xs z k).set k (xs.getD k z)=upTo xs z (k+1):=by
 unfold upTo;obtain ⟨m,hm⟩:∃ m,xs.length - k=m+1:=⟨xs.length - k - 1,by omega⟩;rw [List.set_append_right _ _ (by rw [List.length_take];omega),hm,show xs.length - (k+1)=m by omega,List.replicate_succ,List.length_take,Nat.min_eq_left (by omega),Nat.sub_self,List.take_succ_eq_append_getElem h];simp only [List.set_cons_zero,List.append_assoc,List.singleton_append,List.getD_eq_getElem?_getD,List.getElem?_eq_getElem h,Option.getD_some]
theorem toIntS_calls (xs:List Int) (A:Option Addr) (c:Nat) (w:World) (hx:(Kd.int .i64).C w A xs.length xs) (hn:xs.length<=1048576):
  Calls Tryz.prog 50 #[.slice A xs.length c] w fun e w'=>∃ v,e= .returned v/\(Kd.int .i64).R 3 w' w.heap.size (fun _=>True) v xs/\Below w.heap.size w w':=by
 have HX:=am hx;clear hx;go_enter Tryz.func50,Tryz.ntmps50;go_wp2_with ((with_reducible refine gate_dst (N:=7) rfl ?_);refine Kd.R_make (w0:=w) (Kd.int .i64) w.heap.size 3 rfl (N:=7) rfl 22 _ _ rfl (xs.length:Int) rfl rfl Tryz.underlying22 (.int .i64 0) 8 info_intT rfl (by decide) (by omega) 0 (ok:=fun _=>True) (okp:=fun _=>True) rfl (fun _ hk=>hk) trivial (by omega) (by omega) (Below.refl _ _) (Nat.le_refl _) ?_;intro v w1 ho hb _ _;have HO:=am ho;have HB:=am hb;clear ho hb)
 go_loopw [4] (fun i w'=>∃ k:Nat,k<=xs.length/\i= .int .i64 k/\Aside0 ((Kd.int .i64).R 3 w' w.heap.size (fun _=>True) v (upTo xs 0 k))/\Aside0 (Below w.heap.size w w')) (fun i _=>xs.length - (intOf i).toNat)
 case atStart=>exact ⟨0,Nat.zero_le _,rfl,⟨by rw [upTo_zero];simpa using HO.out⟩,HB⟩
 case round=>
  clear HO HB;obtain ⟨k,hk,rfl,HO,HB⟩:=hrel;by_cases hlt:k < xs.length
  ·have hl:=upTo_length xs 0 hk
   have HS:=am (upTo_set xs 0 hlt);have q0:(0:Int)<=(k:Int):=by omega
   have q1:(k:Int) < (xs.length:Int):=by omega
   obtain ⟨ad,rfl,gx⟩:=Kd.at_int (Kd.C_below HX.out HB.out) (k:Int) q0 q1;obtain ⟨g,cap,rfl,hg1,hg2,hg3⟩:=Kd.R_form HO.out (by omega);obtain ⟨hc,hf⟩:=Kd.R_celln 0 HO.out (k:Int) q0 (by rw [hl];exact q1);obtain ⟨hp,hgr⟩:=Kd.R_putg HO.out (k:Int) (rd xs k);have HB2:=am (below_set (j:=(k:Int).toNat) (v:=.int .i64 (rd xs k)) HB.out hg1);simp only [Int.toNat_natCast] at gx hc hf hp HB2;have HP:=am hp;clear hp hgr hg3 HB;rw [hl] at*;go_wp2;go_roundw
   case rel=>exact ⟨k+1,by omega,by go_num,⟨by have h:=HP.out;rw [show rd xs (k:Int)=xs.getD k 0 from rfl,HS.out] at h;exact h⟩,HB2⟩
   case measure=>simp [intOf];omega
  ·go_wp2
   go_ret;obtain rfl:k=xs.length:=by omega
   exact ⟨_,rfl,by rw [upTo_all] at HO;exact HO.out,HB.out⟩
theorem toPut_calls (x:Put) (cs:List Value) (w:World) (hx:kPutL.K w x cs):
  Calls Tryz.prog 162 #[.agg cs.toArray] w fun e w'=>∃ ds,e= .returned (.agg ds.toArray)/\kPut.M w' w.heap.size (fun _=>True) x ds/\Below w.heap.size w w':=by
 obtain rfl:=kPutL_open hx;go_enter Tryz.func162,Tryz.ntmps162;go_wp2;refine bodyPost_ret (v:=.agg #[.int .i64 x.cell,.int .i64 x.num]) (by simp [results,Tryz.results162,go_sem]) rfl ⟨_,rfl,kPut_mkM x, ?_⟩;repeat (first|exact Below.refl _ _ | refine below_alloc ?_ _)
theorem toCell_calls (x:Cell) (cs:List Value) (w:World) (hx:kCellL.K w x cs):
  Calls Tryz.prog 86 #[.agg cs.toArray] w fun e w'=>∃ ds,e= .returned (.agg ds.toArray)/\kCell.M w' w.heap.size (fun _=>True) x ds/\Below w.heap.size w w':=by
 obtain rfl:=kCellL_open hx;go_enter Tryz.func86,Tryz.ntmps86;go_wp2;refine bodyPost_ret (v:=.agg #[.int .i64 x.num,.int .i64 x.time,.int .i64 x.lock]) (by simp [results,Tryz.results86,go_sem]) rfl ⟨_,rfl,kCell_mkM x, ?_⟩;repeat (first|exact Below.refl _ _ | refine below_alloc ?_ _)
theorem kPut_zero (w:World) (base:Nat) (ok:Nat->Prop):kPut.M w base ok zPut [.int .i64 0,.int .i64 0]:=kPut_mkM zPut
theorem kCell_zero (w:World) (base:Nat) (ok:Nat->Prop):kCell.M w base ok zCell [.int .i64 0,.int .i64 0,.int .i64 0]:=kCell_mkM zCell
theorem kEntry_zero (w:World) (base:Nat) (ok:Nat->Prop):kEntry.M w base ok zEntry [.int .i64 0,.int .i64 0,.int .i64 0,.slice none 0 0,.slice none 0 0,.int .i64 0]:=kEntry_mkM zEntry (Kd.R_nil _ _ _ _ _) (Kd.R_nil _ _ _ _ _)
theorem kTask_zero (w:World) (base:Nat) (ok:Nat->Prop):kTask.M w base ok zTask [.int .i64 0,.int .i64 0,.int .i64 0,.slice none 0 0,.int .i64 0,.int .i64 0,.int .i64 0,.int .i64 0,.slice none 0 0,.slice none 0 0,.slice none 0 0,.int .i64 0,.int .i64 0]:=kTask_mkM zTask (Kd.R_nil _ _ _ _ _) (Kd.R_nil _ _ _ _ _) (Kd.R_nil _ _ _ _ _) (Kd.R_nil _ _ _ _ _)
theorem M_all {α:Type} {d:Kd α} {w w1:World} {base:Nat} {ok:Nat->Prop} {x:α} {ds ce:List Value} {g:Nat} (hce:ce.length<=ds.length) (hlow:base<=w.heap.size) (hg:g < w.heap.size) (h:d.M w1 w.heap.size ok x ds):d.M w1 base (fun k=>g < k) x (ce.take 0 ++ ds ++ ce.drop (0+ds.length)):=by
 rw [List.drop_eq_nil_of_le (by omega),List.take_zero,List.nil_append,List.append_nil];exact d.M_lower hlow (d.M_mono (fun k hk=>Nat.lt_of_lt_of_le hg hk.2.1) (d.M_bound h))
theorem toPutS_calls (xs:List Put) (A:Option Addr) (c:Nat) (w:World) (hx:kPutL.C w A xs.length xs) (hn:xs.length<=1048576):
  Calls Tryz.prog 124 #[.slice A xs.length c] w fun e w'=>∃ v,e= .returned v/\kPut.R 65 w' w.heap.size (fun _=>True) v xs/\Below w.heap.size w w':=by
 have HX:=am hx;clear hx;go_enter Tryz.func124,Tryz.ntmps124;go_wp2_with ((with_reducible refine gate_dst (N:=7) rfl ?_);refine Kd.R_make (w0:=w) kPut w.heap.size 65 rfl (N:=7) rfl 57 _ _ rfl (xs.length:Int) rfl rfl Tryz.underlying57 (.agg #[.int .i64 0,.int .i64 0]) 16 (by kernel_rfl) rfl (by decide) (by omega) zPut (ok:=fun _=>True) (okp:=fun _=>True) (kPut_zero _ _ _) (fun _ hk=>hk) trivial (by omega) (by omega) (Below.refl _ _) (Nat.le_refl _) ?_;intro v w1 ho hb _ _;have HO:=am ho;have HB:=am hb;clear ho hb)
 go_loopw [4] (fun i w'=>∃ k:Nat,k<=xs.length/\i= .int .i64 k/\Aside0 (kPut.R 65 w' w.heap.size (fun _=>True) v (upTo xs zPut k))/\Aside0 (Below w.heap.size w w')) (fun i _=>xs.length - (intOf i).toNat)
 case atStart=>exact ⟨0,Nat.zero_le _,rfl,⟨by rw [upTo_zero];simpa using HO.out⟩,HB⟩
 case round=>
  clear HO HB;obtain ⟨k,hk,rfl,HO,HB⟩:=hrel;by_cases hlt:k < xs.length
  ·have hl:=upTo_length xs zPut hk
   have HS:=am (upTo_set xs zPut hlt);have q0:(0:Int)<=(k:Int):=by omega
   have q1:(k:Int) < (xs.length:Int):=by omega
   obtain ⟨ad,cs,rfl,hcl,hK,hcc⟩:=Kd.C_get (Kd.C_below HX.out HB.out) zPut (k:Int) q0 q1;obtain ⟨g,cap,rfl,hg1,hg2,hg3⟩:=Kd.R_form HO.out (by omega);rw [hl] at*;simp only [Int.toNat_natCast] at hK hcc;have HK:=am hK;have HCC:=am hcc;clear hK hcc hg3
   go_wp2_with (first
   |((with_reducible refine gate_dst (N:=19) rfl ?_);refine load_struct rfl 204 (.tmp 18) rfl ad (k*2) rfl cs _ HCC.out (by rw [hcl];decide) Tryz.underlying204 rfl (by rw [hcl];kernel_rfl) ?_)
   |(go_at_call 162;refine (toPut_calls _ _ _ HK.out).mono ?_;rintro e w1 ⟨ds,rfl,hm,hb⟩;have HM:=am hm;have HO2:=am (Kd.R_below HO.out hb);have HB2:=am (below_step HB.out hb);clear hm hb HO HB)
   |((with_reducible refine gate_store (t:=65) (p:=21) rfl ?_);obtain ⟨ce,hce,_,hcc2,_⟩:=Kd.R_elem HO2.out zPut (k:Int) q0 q1;have hdl:=kPut.K_len (kPut.K_of_M HM.out);refine Kd.R_store (w0:=w) kPut w.heap.size rfl rfl 65 (.tmp 21) (.tmp 20) rfl 65 (k:Int) 0 (upTo xs zPut k) (xs.getD k zPut) (.agg ds.toArray) ds ce (fun _=>True) (fun k'=>g < k') rfl (by simp;rfl) rfl rfl (by rw [hdl];kernel_rfl) (kPut.K_one (kPut.K_of_M HM.out)) HO2.out q0 q1 hce hcc2 (by rw [hdl];exact Nat.le_refl _) (M_all (by rw [hce,hdl];exact Nat.le_refl _) (by omega) (by omega) HM.out) (fun k' hk'=>⟨trivial,Nat.ne_of_gt hk'⟩) HB2.out ?_;intro w2 ho hb hgr;simp only [Int.toNat_natCast] at ho;rw [HS.out] at ho;have HO3:=am ho;have HB3:=am hb;clear ho hb hgr))
   go_roundw
   case rel=>exact ⟨k+1,by omega,by go_num,HO3,HB3⟩
   case measure=>simp [intOf];omega
  ·go_wp2
   go_ret;obtain rfl:k=xs.length:=by omega
   exact ⟨_,rfl,by rw [upTo_all] at HO;exact HO.out,HB.out⟩
theorem toCellS_calls (xs:List Cell) (A:Option Addr) (c:Nat) (w:World) (hx:kCellL.C w A xs.length xs) (hn:xs.length<=1048576):
  Calls Tryz.prog 52 #[.slice A xs.length c] w fun e w'=>∃ v,e= .returned v/\kCell.R 63 w' w.heap.size (fun _=>True) v xs/\Below w.heap.size w w':=by
 have HX:=am hx;clear hx;go_enter Tryz.func52,Tryz.ntmps52;go_wp2_with ((with_reducible refine gate_dst (N:=7) rfl ?_);refine Kd.R_make (w0:=w) kCell w.heap.size 63 rfl (N:=7) rfl 38 _ _ rfl (xs.length:Int) rfl rfl Tryz.underlying38 (.agg #[.int .i64 0,.int .i64 0,.int .i64 0]) 24 (by kernel_rfl) rfl (by decide) (by omega) zCell (ok:=fun _=>True) (okp:=fun _=>True) (kCell_zero _ _ _) (fun _ hk=>hk) trivial (by omega) (by omega) (Below.refl _ _) (Nat.le_refl _) ?_;intro v w1 ho hb _ _;have HO:=am ho;have HB:=am hb;clear ho hb)
 go_loopw [4] (fun i w'=>∃ k:Nat,k<=xs.length/\i= .int .i64 k/\Aside0 (kCell.R 63 w' w.heap.size (fun _=>True) v (upTo xs zCell k))/\Aside0 (Below w.heap.size w w')) (fun i _=>xs.length - (intOf i).toNat)
 case atStart=>exact ⟨0,Nat.zero_le _,rfl,⟨by rw [upTo_zero];simpa using HO.out⟩,HB⟩
 case round=>
  clear HO HB;obtain ⟨k,hk,rfl,HO,HB⟩:=hrel;by_cases hlt:k < xs.length
  ·have hl:=upTo_length xs zCell hk
   have HS:=am (upTo_set xs zCell hlt);have q0:(0:Int)<=(k:Int):=by omega
   have q1:(k:Int) < (xs.length:Int):=by omega
   obtain ⟨ad,cs,rfl,hcl,hK,hcc⟩:=Kd.C_get (Kd.C_below HX.out HB.out) zCell (k:Int) q0 q1;obtain ⟨g,cap,rfl,hg1,hg2,hg3⟩:=Kd.R_form HO.out (by omega);rw [hl] at*;simp only [Int.toNat_natCast] at hK hcc;have HK:=am hK;have HCC:=am hcc;clear hK hcc hg3
   go_wp2_with (first
   |((with_reducible refine gate_dst (N:=19) rfl ?_);refine load_struct rfl 133 (.tmp 18) rfl ad (k*3) rfl cs _ HCC.out (by rw [hcl];decide) Tryz.underlying133 rfl (by rw [hcl];kernel_rfl) ?_)
   |(go_at_call 86;refine (toCell_calls _ _ _ HK.out).mono ?_;rintro e w1 ⟨ds,rfl,hm,hb⟩;have HM:=am hm;have HO2:=am (Kd.R_below HO.out hb);have HB2:=am (below_step HB.out hb);clear hm hb HO HB)
   |((with_reducible refine gate_store (t:=63) (p:=21) rfl ?_);obtain ⟨ce,hce,_,hcc2,_⟩:=Kd.R_elem HO2.out zCell (k:Int) q0 q1;have hdl:=kCell.K_len (kCell.K_of_M HM.out);refine Kd.R_store (w0:=w) kCell w.heap.size rfl rfl 63 (.tmp 21) (.tmp 20) rfl 63 (k:Int) 0 (upTo xs zCell k) (xs.getD k zCell) (.agg ds.toArray) ds ce (fun _=>True) (fun k'=>g < k') rfl (by simp;rfl) rfl rfl (by rw [hdl];kernel_rfl) (kCell.K_one (kCell.K_of_M HM.out)) HO2.out q0 q1 hce hcc2 (by rw [hdl];exact Nat.le_refl _) (M_all (by rw [hce,hdl];exact Nat.le_refl _) (by omega) (by omega) HM.out) (fun k' hk'=>⟨trivial,Nat.ne_of_gt hk'⟩) HB2.out ?_;intro w2 ho hb hgr;simp only [Int.toNat_natCast] at ho;rw [HS.out] at ho;have HO3:=am ho;have HB3:=am hb;clear ho hb hgr))
   go_roundw
   case rel=>exact ⟨k+1,by omega,by go_num,HO3,HB3⟩
   case measure=>simp [intOf];omega
  ·go_wp2
   go_ret;obtain rfl:k=xs.length:=by omega
   exact ⟨_,rfl,by rw [upTo_all] at HO;exact HO.out,HB.out⟩
theorem toEntry_calls (x:Entry) (cs:List Value) (w:World) (hx:kEntryL.K w x cs) (hn:szE x<=1048576):
  Calls Tryz.prog 88 #[.agg cs.toArray] w fun e w'=>∃ ds,e= .returned (.agg ds.toArray)/\kEntry.M w' w.heap.size (fun _=>True) x ds/\Below w.heap.size w w':=by
 obtain ⟨A3,c3,A8,c8,rfl,l3,g3,l8,g8⟩:=kEntryL_open hx;unfold szE at hn;have G:=am (And.intro g3 g8);have HB:=am (Below.refl w.heap.size w);clear g3 g8 l3 l8 hx;go_enter Tryz.func88,Tryz.ntmps88;go_wp2_with fail
 refine (toPutS_calls _ _ _ _ ?h1 (by omega)).mono ?_
 case h1=>exact Kd.C_below (w:=w) G.out.1 (by repeat (first|with_reducible exact HB.out | with_reducible refine below_alloc ?_ _ | with_reducible refine below_set ?_ ?_ | omega))
 rintro e w3 ⟨v3,rfl,ho,hb⟩;obtain ⟨A3',c3',rfl⟩:=Kd.R_slice ho;have O3:=am (R_up (base:=w.heap.size) (n:=w.heap.size+2) ho (by simp <;> omega) (by simp <;> omega));have hz:=bsize hb;(try simp at hz);have q30:w.heap.size < w3.heap.size:=(by omega);have q31:w.heap.size+1 < w3.heap.size:=(by omega);have q32:w.heap.size+1+1 < w3.heap.size:=(by omega);obtain ⟨hc3,hf3⟩:=bcell hb;have HB1:=am (below_step (w:=w) (by repeat (first|with_reducible exact HB.out | with_reducible refine below_alloc ?_ _ | with_reducible refine below_set ?_ ?_ | omega)) hb);clear HB;have HB:=HB1;clear HB1 hb ho hz;go_wp2_with fail
 refine (toPutS_calls _ _ _ _ ?h1 (by omega)).mono ?_
 case h1=>exact Kd.C_below (w:=w) G.out.2 (by repeat (first|with_reducible exact HB.out | with_reducible refine below_alloc ?_ _ | with_reducible refine below_set ?_ ?_ | omega))
 rintro e w8 ⟨v8,rfl,ho,hb⟩;obtain ⟨A8',c8',rfl⟩:=Kd.R_slice ho;have O8:=am (R_up (base:=w.heap.size) (n:=w.heap.size+2) ho (by simp <;> omega) (by simp <;> omega));have P3:=am (Kd.R_below (show Kd.R kPut 65 _ w.heap.size (fun k=>w.heap.size+2 < k) (.slice A3' x.reads.length c3') x.reads from by repeat (first|with_reducible exact O3.out | with_reducible refine R_farN ?_ ?_ | omega)) hb);clear O3;have O3:=P3;clear P3;have hz:=bsize hb;(try simp at hz);have q80:w.heap.size < w8.heap.size:=(by omega);have q81:w.heap.size+1 < w8.heap.size:=(by omega);have q82:w.heap.size+1+1 < w8.heap.size:=(by omega);obtain ⟨hc8,hf8⟩:=bcell hb;have HB1:=am (below_step (w:=w) (by repeat (first|with_reducible exact HB.out | with_reducible refine below_alloc ?_ _ | with_reducible refine below_set ?_ ?_ | omega)) hb);clear HB;have HB:=HB1;clear HB1 hb ho hz;go_wp2_with fail
 refine bodyPost_ret (v:=.agg #[.int .i64 x.task,.int .i64 x.act,.int .i64 x.when_,.slice A3' x.reads.length c3',.slice A8' x.puts.length c8',.int .i64 x.from_]) (by simp [results,Tryz.results88,go_sem,hc3,hf3,q30,q31,q32,hc8,hf8,q80,q81,q82]) rfl ⟨_,rfl,kEntry_mkM x ?_ ?_,(by repeat (first|with_reducible exact HB.out | with_reducible refine below_alloc ?_ _ | with_reducible refine below_set ?_ ?_ | omega))⟩
 ·exact R_any (show Kd.R kPut 65 _ w.heap.size (fun k=>w.heap.size+2 < k) (.slice A3' x.reads.length c3') x.reads from by repeat (first|with_reducible exact O3.out | with_reducible refine R_farN ?_ ?_ | omega))
 ·exact R_any (show Kd.R kPut 65 _ w.heap.size (fun k=>w.heap.size+2 < k) (.slice A8' x.puts.length c8') x.puts from by repeat (first|with_reducible exact O8.out | with_reducible refine R_farN ?_ ?_ | omega))
theorem toTask_calls (x:Task) (cs:List Value) (w:World) (hx:kTaskL.K w x cs) (hn:szT x<=1048576):
  Calls Tryz.prog 87 #[.agg cs.toArray] w fun e w'=>∃ ds,e= .returned (.agg ds.toArray)/\kTask.M w' w.heap.size (fun _=>True) x ds/\Below w.heap.size w w':=by
 obtain ⟨A3,c3,A8,c8,A9,c9,A10,c10,rfl,l3,g3,l8,g8,l9,g9,l10,g10⟩:=kTaskL_open hx;unfold szT at hn;have G:=am (And.intro g3 (And.intro g8 (And.intro g9 g10)));have HB:=am (Below.refl w.heap.size w);clear g3 g8 g9 g10 l3 l8 l9 l10 hx;go_enter Tryz.func87,Tryz.ntmps87;go_wp2_with fail
 refine (toIntS_calls _ _ _ _ ?h1 (by omega)).mono ?_
 case h1=>exact Kd.C_below (w:=w) G.out.1 (by repeat (first|with_reducible exact HB.out | with_reducible refine below_alloc ?_ _ | with_reducible refine below_set ?_ ?_ | omega))
 rintro e w3 ⟨v3,rfl,ho,hb⟩;obtain ⟨A3',c3',rfl⟩:=Kd.R_slice ho;have O3:=am (R_up (base:=w.heap.size) (n:=w.heap.size+2) ho (by simp <;> omega) (by simp <;> omega));have hz:=bsize hb;(try simp at hz);have q30:w.heap.size < w3.heap.size:=(by omega);have q31:w.heap.size+1 < w3.heap.size:=(by omega);have q32:w.heap.size+1+1 < w3.heap.size:=(by omega);obtain ⟨hc3,hf3⟩:=bcell hb;have HB1:=am (below_step (w:=w) (by repeat (first|with_reducible exact HB.out | with_reducible refine below_alloc ?_ _ | with_reducible refine below_set ?_ ?_ | omega)) hb);clear HB;have HB:=HB1;clear HB1 hb ho hz;go_wp2_with fail
 refine (toIntS_calls _ _ _ _ ?h1 (by omega)).mono ?_
 case h1=>exact Kd.C_below (w:=w) G.out.2.1 (by repeat (first|with_reducible exact HB.out | with_reducible refine below_alloc ?_ _ | with_reducible refine below_set ?_ ?_ | omega))
 rintro e w8 ⟨v8,rfl,ho,hb⟩;obtain ⟨A8',c8',rfl⟩:=Kd.R_slice ho;have O8:=am (R_up (base:=w.heap.size) (n:=w.heap.size+2) ho (by simp <;> omega) (by simp <;> omega));have P3:=am (Kd.R_below (show Kd.R (Kd.int .i64) 3 _ w.heap.size (fun k=>w.heap.size+2 < k) (.slice A3' x.regs.length c3') x.regs from by repeat (first|with_reducible exact O3.out | with_reducible refine R_farN ?_ ?_ | omega)) hb);clear O3;have O3:=P3;clear P3;have hz:=bsize hb;(try simp at hz);have q80:w.heap.size < w8.heap.size:=(by omega);have q81:w.heap.size+1 < w8.heap.size:=(by omega);have q82:w.heap.size+1+1 < w8.heap.size:=(by omega);obtain ⟨hc8,hf8⟩:=bcell hb;have HB1:=am (below_step (w:=w) (by repeat (first|with_reducible exact HB.out | with_reducible refine below_alloc ?_ _ | with_reducible refine below_set ?_ ?_ | omega)) hb);clear HB;have HB:=HB1;clear HB1 hb ho hz;go_wp2_with fail
 refine (toPutS_calls _ _ _ _ ?h1 (by omega)).mono ?_
 case h1=>exact Kd.C_below (w:=w) G.out.2.2.1 (by repeat (first|with_reducible exact HB.out | with_reducible refine below_alloc ?_ _ | with_reducible refine below_set ?_ ?_ | omega))
 rintro e w9 ⟨v9,rfl,ho,hb⟩;obtain ⟨A9',c9',rfl⟩:=Kd.R_slice ho;have O9:=am (R_up (base:=w.heap.size) (n:=w.heap.size+2) ho (by simp <;> omega) (by simp <;> omega));have P3:=am (Kd.R_below (show Kd.R (Kd.int .i64) 3 _ w.heap.size (fun k=>w.heap.size+2 < k) (.slice A3' x.regs.length c3') x.regs from by repeat (first|with_reducible exact O3.out | with_reducible refine R_farN ?_ ?_ | omega)) hb);clear O3;have O3:=P3;clear P3;have P8:=am (Kd.R_below (show Kd.R (Kd.int .i64) 3 _ w.heap.size (fun k=>w.heap.size+2 < k) (.slice A8' x.old.length c8') x.old from by repeat (first|with_reducible exact O8.out | with_reducible refine R_farN ?_ ?_ | omega)) hb);clear O8;have O8:=P8;clear P8;have hz:=bsize hb;(try simp at hz);have q90:w.heap.size < w9.heap.size:=(by omega);have q91:w.heap.size+1 < w9.heap.size:=(by omega);have q92:w.heap.size+1+1 < w9.heap.size:=(by omega);obtain ⟨hc9,hf9⟩:=bcell hb;have HB1:=am (below_step (w:=w) (by repeat (first|with_reducible exact HB.out | with_reducible refine below_alloc ?_ _ | with_reducible refine below_set ?_ ?_ | omega)) hb);clear HB;have HB:=HB1;clear HB1 hb ho hz;go_wp2_with fail
 refine (toPutS_calls _ _ _ _ ?h1 (by omega)).mono ?_
 case h1=>exact Kd.C_below (w:=w) G.out.2.2.2 (by repeat (first|with_reducible exact HB.out | with_reducible refine below_alloc ?_ _ | with_reducible refine below_set ?_ ?_ | omega))
 rintro e w10 ⟨v10,rfl,ho,hb⟩;obtain ⟨A10',c10',rfl⟩:=Kd.R_slice ho;have O10:=am (R_up (base:=w.heap.size) (n:=w.heap.size+2) ho (by simp <;> omega) (by simp <;> omega));have P3:=am (Kd.R_below (show Kd.R (Kd.int .i64) 3 _ w.heap.size (fun k=>w.heap.size+2 < k) (.slice A3' x.regs.length c3') x.regs from by repeat (first|with_reducible exact O3.out | with_reducible refine R_farN ?_ ?_ | omega)) hb);clear O3;have O3:=P3;clear P3;have P8:=am (Kd.R_below (show Kd.R (Kd.int .i64) 3 _ w.heap.size (fun k=>w.heap.size+2 < k) (.slice A8' x.old.length c8') x.old from by repeat (first|with_reducible exact O8.out | with_reducible refine R_farN ?_ ?_ | omega)) hb);clear O8;have O8:=P8;clear P8;have P9:=am (Kd.R_below (show Kd.R kPut 65 _ w.heap.size (fun k=>w.heap.size+2 < k) (.slice A9' x.reads.length c9') x.reads from by repeat (first|with_reducible exact O9.out | with_reducible refine R_farN ?_ ?_ | omega)) hb);clear O9;have O9:=P9;clear P9;have hz:=bsize hb;(try simp at hz);have q100:w.heap.size < w10.heap.size:=(by omega);have q101:w.heap.size+1 < w10.heap.size:=(by omega);have q102:w.heap.size+1+1 < w10.heap.size:=(by omega);obtain ⟨hc10,hf10⟩:=bcell hb;have HB1:=am (below_step (w:=w) (by repeat (first|with_reducible exact HB.out | with_reducible refine below_alloc ?_ _ | with_reducible refine below_set ?_ ?_ | omega)) hb);clear HB;have HB:=HB1;clear HB1 hb ho hz;go_wp2_with fail
 refine bodyPost_ret (v:=.agg #[.int .i64 x.body,.int .i64 x.pc,.int .i64 x.up,.slice A3' x.regs.length c3',.int .i64 x.way,.int .i64 x.stage,.int .i64 x.at_,.int .i64 x.since,.slice A8' x.old.length c8',.slice A9' x.reads.length c9',.slice A10' x.puts.length c10',.int .i64 x.when_,.int .i64 x.from_]) (by simp [results,Tryz.results87,go_sem,hc3,hf3,q30,q31,q32,hc8,hf8,q80,q81,q82,hc9,hf9,q90,q91,q92,hc10,hf10,q100,q101,q102]) rfl ⟨_,rfl,kTask_mkM x ?_ ?_ ?_ ?_,(by repeat (first|with_reducible exact HB.out | with_reducible refine below_alloc ?_ _ | with_reducible refine below_set ?_ ?_ | omega))⟩
 ·exact R_any (show Kd.R (Kd.int .i64) 3 _ w.heap.size (fun k=>w.heap.size+2 < k) (.slice A3' x.regs.length c3') x.regs from by repeat (first|with_reducible exact O3.out | with_reducible refine R_farN ?_ ?_ | omega))
 ·exact R_any (show Kd.R (Kd.int .i64) 3 _ w.heap.size (fun k=>w.heap.size+2 < k) (.slice A8' x.old.length c8') x.old from by repeat (first|with_reducible exact O8.out | with_reducible refine R_farN ?_ ?_ | omega))
 ·exact R_any (show Kd.R kPut 65 _ w.heap.size (fun k=>w.heap.size+2 < k) (.slice A9' x.reads.length c9') x.reads from by repeat (first|with_reducible exact O9.out | with_reducible refine R_farN ?_ ?_ | omega))
 ·exact R_any (show Kd.R kPut 65 _ w.heap.size (fun k=>w.heap.size+2 < k) (.slice A10' x.puts.length c10') x.puts from by repeat (first|with_reducible exact O10.out | with_reducible refine R_farN ?_ ?_ | omega))
theorem toEntryS_calls (xs:List Entry) (A:Option Addr) (c:Nat) (w:World) (hx:kEntryL.C w A xs.length xs) (hn:xs.length<=1048576) (hs:sumOf szE xs<=1048576):
  Calls Tryz.prog 54 #[.slice A xs.length c] w fun e w'=>∃ v,e= .returned v/\kEntry.R 136 w' w.heap.size (fun _=>True) v xs/\Below w.heap.size w w':=by
 have HX:=am hx;clear hx;go_enter Tryz.func54,Tryz.ntmps54;go_wp2_with ((with_reducible refine gate_dst (N:=7) rfl ?_);refine Kd.R_make (w0:=w) kEntry w.heap.size 136 rfl (N:=7) rfl 40 _ _ rfl (xs.length:Int) rfl rfl Tryz.underlying40 (.agg #[.int .i64 0,.int .i64 0,.int .i64 0,.slice none 0 0,.slice none 0 0,.int .i64 0]) 80 (by kernel_rfl) rfl (by decide) (by omega) zEntry (ok:=fun _=>True) (okp:=fun _=>True) (kEntry_zero _ _ _) (fun _ hk=>hk) trivial (by omega) (by omega) (Below.refl _ _) (Nat.le_refl _) ?_;intro v w1 ho hb _ _;have HO:=am ho;have HB:=am hb;clear ho hb)
 go_loopw [4] (fun i w'=>∃ k:Nat,k<=xs.length/\i= .int .i64 k/\Aside0 (kEntry.R 136 w' w.heap.size (fun _=>True) v (upTo xs zEntry k))/\Aside0 (Below w.heap.size w w')) (fun i _=>xs.length - (intOf i).toNat)
 case atStart=>exact ⟨0,Nat.zero_le _,rfl,⟨by rw [upTo_zero];simpa using HO.out⟩,HB⟩
 case round=>
  clear HO HB;obtain ⟨k,hk,rfl,HO,HB⟩:=hrel;by_cases hlt:k < xs.length
  ·have hl:=upTo_length xs zEntry hk
   have HS:=am (upTo_set xs zEntry hlt);have q0:(0:Int)<=(k:Int):=by omega
   have q1:(k:Int) < (xs.length:Int):=by omega
   have hsz:szE (xs.getD k zEntry)<=1048576:=by have h1:=sumOf_take szE xs k zEntry hlt;have h2:=sumOf_le szE xs (k+1);omega
   obtain ⟨ad,cs,rfl,hcl,hK,hcc⟩:=Kd.C_get (Kd.C_below HX.out HB.out) zEntry (k:Int) q0 q1;obtain ⟨g,cap,rfl,hg1,hg2,hg3⟩:=Kd.R_form HO.out (by omega);rw [hl] at*;simp only [Int.toNat_natCast] at hK hcc;have HK:=am hK;have HCC:=am hcc;clear hK hcc hg3
   go_wp2_with (first
   |((with_reducible refine gate_dst (N:=19) rfl ?_);refine load_struct rfl 129 (.tmp 18) rfl ad (k*6) rfl cs _ HCC.out (by rw [hcl];decide) Tryz.underlying129 rfl (by rw [hcl];kernel_rfl) ?_)
   |(go_at_call 88;refine (toEntry_calls _ _ _ HK.out hsz).mono ?_;rintro e w1 ⟨ds,rfl,hm,hb⟩;have HM:=am hm;have HO2:=am (Kd.R_below HO.out hb);have HB2:=am (below_step HB.out hb);clear hm hb HO HB)
   |((with_reducible refine gate_store (t:=136) (p:=21) rfl ?_);obtain ⟨ce,hce,_,hcc2,_⟩:=Kd.R_elem HO2.out zEntry (k:Int) q0 q1;have hdl:=kEntry.K_len (kEntry.K_of_M HM.out);refine Kd.R_store (w0:=w) kEntry w.heap.size rfl rfl 136 (.tmp 21) (.tmp 20) rfl 136 (k:Int) 0 (upTo xs zEntry k) (xs.getD k zEntry) (.agg ds.toArray) ds ce (fun _=>True) (fun k'=>g < k') rfl (by simp;rfl) rfl rfl (by rw [hdl];kernel_rfl) (kEntry.K_one (kEntry.K_of_M HM.out)) HO2.out q0 q1 hce hcc2 (by rw [hdl];exact Nat.le_refl _) (M_all (by rw [hce,hdl];exact Nat.le_refl _) (by omega) (by omega) HM.out) (fun k' hk'=>⟨trivial,Nat.ne_of_gt hk'⟩) HB2.out ?_;intro w2 ho hb hgr;simp only [Int.toNat_natCast] at ho;rw [HS.out] at ho;have HO3:=am ho;have HB3:=am hb;clear ho hb hgr))
   go_roundw
   case rel=>exact ⟨k+1,by omega,by go_num,HO3,HB3⟩
   case measure=>simp [intOf];omega
  ·go_wp2
   go_ret;obtain rfl:k=xs.length:=by omega
   exact ⟨_,rfl,by rw [upTo_all] at HO;exact HO.out,HB.out⟩
theorem toTaskS_calls (xs:List Task) (A:Option Addr) (c:Nat) (w:World) (hx:kTaskL.C w A xs.length xs) (hn:xs.length<=1048576) (hs:sumOf szT xs<=1048576):
  Calls Tryz.prog 53 #[.slice A xs.length c] w fun e w'=>∃ v,e= .returned v/\kTask.R 59 w' w.heap.size (fun _=>True) v xs/\Below w.heap.size w w':=by
 have HX:=am hx;clear hx;go_enter Tryz.func53,Tryz.ntmps53;go_wp2_with ((with_reducible refine gate_dst (N:=7) rfl ?_);refine Kd.R_make (w0:=w) kTask w.heap.size 59 rfl (N:=7) rfl 39 _ _ rfl (xs.length:Int) rfl rfl Tryz.underlying39 (.agg #[.int .i64 0,.int .i64 0,.int .i64 0,.slice none 0 0,.int .i64 0,.int .i64 0,.int .i64 0,.int .i64 0,.slice none 0 0,.slice none 0 0,.slice none 0 0,.int .i64 0,.int .i64 0]) 168 (by kernel_rfl) rfl (by decide) (by omega) zTask (ok:=fun _=>True) (okp:=fun _=>True) (kTask_zero _ _ _) (fun _ hk=>hk) trivial (by omega) (by omega) (Below.refl _ _) (Nat.le_refl _) ?_;intro v w1 ho hb _ _;have HO:=am ho;have HB:=am hb;clear ho hb)
 go_loopw [4] (fun i w'=>∃ k:Nat,k<=xs.length/\i= .int .i64 k/\Aside0 (kTask.R 59 w' w.heap.size (fun _=>True) v (upTo xs zTask k))/\Aside0 (Below w.heap.size w w')) (fun i _=>xs.length - (intOf i).toNat)
 case atStart=>exact ⟨0,Nat.zero_le _,rfl,⟨by rw [upTo_zero];simpa using HO.out⟩,HB⟩
 case round=>
  clear HO HB;obtain ⟨k,hk,rfl,HO,HB⟩:=hrel;by_cases hlt:k < xs.length
  ·have hl:=upTo_length xs zTask hk
   have HS:=am (upTo_set xs zTask hlt);have q0:(0:Int)<=(k:Int):=by omega
   have q1:(k:Int) < (xs.length:Int):=by omega
   have hsz:szT (xs.getD k zTask)<=1048576:=by have h1:=sumOf_take szT xs k zTask hlt;have h2:=sumOf_le szT xs (k+1);omega
   obtain ⟨ad,cs,rfl,hcl,hK,hcc⟩:=Kd.C_get (Kd.C_below HX.out HB.out) zTask (k:Int) q0 q1;obtain ⟨g,cap,rfl,hg1,hg2,hg3⟩:=Kd.R_form HO.out (by omega);rw [hl] at*;simp only [Int.toNat_natCast] at hK hcc;have HK:=am hK;have HCC:=am hcc;clear hK hcc hg3
   go_wp2_with (first
   |((with_reducible refine gate_dst (N:=19) rfl ?_);refine load_struct rfl 126 (.tmp 18) rfl ad (k*13) rfl cs _ HCC.out (by rw [hcl];decide) Tryz.underlying126 rfl (by rw [hcl];kernel_rfl) ?_)
   |(go_at_call 87;refine (toTask_calls _ _ _ HK.out hsz).mono ?_;rintro e w1 ⟨ds,rfl,hm,hb⟩;have HM:=am hm;have HO2:=am (Kd.R_below HO.out hb);have HB2:=am (below_step HB.out hb);clear hm hb HO HB)
   |((with_reducible refine gate_store (t:=59) (p:=21) rfl ?_);obtain ⟨ce,hce,_,hcc2,_⟩:=Kd.R_elem HO2.out zTask (k:Int) q0 q1;have hdl:=kTask.K_len (kTask.K_of_M HM.out);refine Kd.R_store (w0:=w) kTask w.heap.size rfl rfl 59 (.tmp 21) (.tmp 20) rfl 59 (k:Int) 0 (upTo xs zTask k) (xs.getD k zTask) (.agg ds.toArray) ds ce (fun _=>True) (fun k'=>g < k') rfl (by simp;rfl) rfl rfl (by rw [hdl];kernel_rfl) (kTask.K_one (kTask.K_of_M HM.out)) HO2.out q0 q1 hce hcc2 (by rw [hdl];exact Nat.le_refl _) (M_all (by rw [hce,hdl];exact Nat.le_refl _) (by omega) (by omega) HM.out) (fun k' hk'=>⟨trivial,Nat.ne_of_gt hk'⟩) HB2.out ?_;intro w2 ho hb hgr;simp only [Int.toNat_natCast] at ho;rw [HS.out] at ho;have HO3:=am ho;have HB3:=am hb;clear ho hb hgr))
   go_roundw
   case rel=>exact ⟨k+1,by omega,by go_num,HO3,HB3⟩
   case measure=>simp [intOf];omega
  ·go_wp2
   go_ret;obtain rfl:k=xs.length:=by omega
   exact ⟨_,rfl,by rw [upTo_all] at HO;exact HO.out,HB.out⟩
theorem toSys_calls (x:Sys) (cs:List Value) (w:World) (hx:kSysL.K w x cs) (hn:szS x<=1048576):
  Calls Tryz.prog 18 #[.agg cs.toArray] w fun e w'=>∃ ds,e= .returned (.agg ds.toArray)/\kSys.M w' w.heap.size (fun _=>True) x ds/\Below w.heap.size w w':=by
 obtain ⟨A0,c0,A1,c1,A3,c3,rfl,l0,g0,l1,g1,l3,g3⟩:=kSysL_open hx;unfold szS at hn;have G:=am (And.intro g0 (And.intro g1 g3));have HB:=am (Below.refl w.heap.size w);clear g0 g1 g3 l0 l1 l3 hx;go_enter Tryz.func18,Tryz.ntmps18;go_wp2_with fail
 refine (toCellS_calls _ _ _ _ ?h1 (by omega)).mono ?_
 case h1=>exact Kd.C_below (w:=w) G.out.1 (by repeat (first|with_reducible exact HB.out | with_reducible refine below_alloc ?_ _ | with_reducible refine below_set ?_ ?_ | omega))
 rintro e w0 ⟨v0,rfl,ho,hb⟩;obtain ⟨A0',c0',rfl⟩:=Kd.R_slice ho;have O0:=am (R_up (base:=w.heap.size) (n:=w.heap.size+2) ho (by simp <;> omega) (by simp <;> omega));have hz:=bsize hb;(try simp at hz);have q00:w.heap.size < w0.heap.size:=(by omega);have q01:w.heap.size+1 < w0.heap.size:=(by omega);have q02:w.heap.size+1+1 < w0.heap.size:=(by omega);obtain ⟨hc0,hf0⟩:=bcell hb;have HB1:=am (below_step (w:=w) (by repeat (first|with_reducible exact HB.out | with_reducible refine below_alloc ?_ _ | with_reducible refine below_set ?_ ?_ | omega)) hb);clear HB;have HB:=HB1;clear HB1 hb ho hz;go_wp2_with fail
 refine (toTaskS_calls _ _ _ _ ?h1 (by omega) (by omega)).mono ?_
 case h1=>exact Kd.C_below (w:=w) G.out.2.1 (by repeat (first|with_reducible exact HB.out | with_reducible refine below_alloc ?_ _ | with_reducible refine below_set ?_ ?_ | omega))
 rintro e w1 ⟨v1,rfl,ho,hb⟩;obtain ⟨A1',c1',rfl⟩:=Kd.R_slice ho;have O1:=am (R_up (base:=w.heap.size) (n:=w.heap.size+2) ho (by simp <;> omega) (by simp <;> omega));have P0:=am (Kd.R_below (show Kd.R kCell 63 _ w.heap.size (fun k=>w.heap.size+2 < k) (.slice A0' x.cells.length c0') x.cells from by repeat (first|with_reducible exact O0.out | with_reducible refine R_farN ?_ ?_ | omega)) hb);clear O0;have O0:=P0;clear P0;have hz:=bsize hb;(try simp at hz);have q10:w.heap.size < w1.heap.size:=(by omega);have q11:w.heap.size+1 < w1.heap.size:=(by omega);have q12:w.heap.size+1+1 < w1.heap.size:=(by omega);obtain ⟨hc1,hf1⟩:=bcell hb;have HB1:=am (below_step (w:=w) (by repeat (first|with_reducible exact HB.out | with_reducible refine below_alloc ?_ _ | with_reducible refine below_set ?_ ?_ | omega)) hb);clear HB;have HB:=HB1;clear HB1 hb ho hz;go_wp2_with fail
 refine (toEntryS_calls _ _ _ _ ?h1 (by omega) (by omega)).mono ?_
 case h1=>exact Kd.C_below (w:=w) G.out.2.2 (by repeat (first|with_reducible exact HB.out | with_reducible refine below_alloc ?_ _ | with_reducible refine below_set ?_ ?_ | omega))
 rintro e w3 ⟨v3,rfl,ho,hb⟩;obtain ⟨A3',c3',rfl⟩:=Kd.R_slice ho;have O3:=am (R_up (base:=w.heap.size) (n:=w.heap.size+2) ho (by simp <;> omega) (by simp <;> omega));have P0:=am (Kd.R_below (show Kd.R kCell 63 _ w.heap.size (fun k=>w.heap.size+2 < k) (.slice A0' x.cells.length c0') x.cells from by repeat (first|with_reducible exact O0.out | with_reducible refine R_farN ?_ ?_ | omega)) hb);clear O0;have O0:=P0;clear P0;have P1:=am (Kd.R_below (show Kd.R kTask 59 _ w.heap.size (fun k=>w.heap.size+2 < k) (.slice A1' x.tasks.length c1') x.tasks from by repeat (first|with_reducible exact O1.out | with_reducible refine R_farN ?_ ?_ | omega)) hb);clear O1;have O1:=P1;clear P1;have hz:=bsize hb;(try simp at hz);have q30:w.heap.size < w3.heap.size:=(by omega);have q31:w.heap.size+1 < w3.heap.size:=(by omega);have q32:w.heap.size+1+1 < w3.heap.size:=(by omega);obtain ⟨hc3,hf3⟩:=bcell hb;have HB1:=am (below_step (w:=w) (by repeat (first|with_reducible exact HB.out | with_reducible refine below_alloc ?_ _ | with_reducible refine below_set ?_ ?_ | omega)) hb);clear HB;have HB:=HB1;clear HB1 hb ho hz;go_wp2_with fail
 refine bodyPost_ret (v:=.agg #[.slice A0' x.cells.length c0',.slice A1' x.tasks.length c1',.int .i64 x.clock,.slice A3' x.log.length c3']) (by simp [results,Tryz.results18,go_sem,hc0,hf0,q00,q01,q02,hc1,hf1,q10,q11,q12,hc3,hf3,q30,q31,q32]) rfl ⟨_,rfl,kSys_mkM x ?_ ?_ ?_,(by repeat (first|with_reducible exact HB.out | with_reducible refine below_alloc ?_ _ | with_reducible refine below_set ?_ ?_ | omega))⟩
 ·exact R_any (show Kd.R kCell 63 _ w.heap.size (fun k=>w.heap.size+2 < k) (.slice A0' x.cells.length c0') x.cells from by repeat (first|with_reducible exact O0.out | with_reducible refine R_farN ?_ ?_ | omega))
 ·exact R_any (show Kd.R kTask 59 _ w.heap.size (fun k=>w.heap.size+2 < k) (.slice A1' x.tasks.length c1') x.tasks from by repeat (first|with_reducible exact O1.out | with_reducible refine R_farN ?_ ?_ | omega))
 ·exact R_any (show Kd.R kEntry 136 _ w.heap.size (fun k=>w.heap.size+2 < k) (.slice A3' x.log.length c3') x.log from by repeat (first|with_reducible exact O3.out | with_reducible refine R_farN ?_ ?_ | omega))
theorem agree_all {α:Type} (xs ys:List α) (hl:xs.length=ys.length) (h:∀ j,j < xs.length->xs[j]? = ys[j]?):xs=ys:=by
 apply List.ext_getElem?;intro j;by_cases hj:j < xs.length
 ·exact h j hj
 ·rw [List.getElem?_eq_none (by omega),List.getElem?_eq_none (by omega)]
theorem agree_step {α:Type} {xs ys:List α} {k:Nat} {z:α} (H:∀ j,j < k->xs[j]? = ys[j]?) (h1:k < xs.length) (h2:k < ys.length) (he:xs.getD k z=ys.getD k z) {j:Nat} (hj:j < k+1):xs[j]? = ys[j]? :=by
 by_cases h:j < k
 ·exact H j h
 ·obtain rfl:j=k:=by omega
  simp only [List.getD_eq_getElem?_getD] at he;rw [List.getElem?_eq_getElem (by omega),List.getElem?_eq_getElem (by omega)] at he ⊢;simpa using he
theorem eqIntS_calls (xs ys:List Int) (A B:Option Addr) (c d:Nat) (w:World) (hx:(Kd.int .i64).C w A xs.length xs) (hy:(Kd.int .i64).C w B ys.length ys):
  Calls Tryz.prog 20 #[.slice A xs.length c,.slice B ys.length d] w fun e w'=>e= .returned (.bool (decide (xs=ys)))/\Drawn0 w w':=by
 have HX:=am hx;have HY:=am hy;have hm:=Kd.C_max hx;clear hx hy;by_cases hl:xs.length=ys.length
 ·have hlb:((xs.length:Int) != (ys.length:Int))=false:=by rw [hl];simp
  have HL:=am hl;clear hl;go_enter Tryz.func20,Tryz.ntmps20;go_wp2;have HLB:=am hlb;clear hlb;go_loopw [5] (fun v w'=>∃ k:Nat,k<=xs.length/\v= .int .i64 k/\Aside0 (∀ j,j < k->xs[j]? = ys[j]?)/\Drawn0 w w') (fun v _=>xs.length - (intOf v).toNat)
  case atStart=>exact ⟨0,Nat.zero_le _,rfl,⟨fun j hj=>by omega⟩,Drawn0.refl _⟩
  case round=>
   obtain ⟨k,hk,rfl,HJ,HD⟩:=hrel;obtain ⟨n,rfl⟩:=HD.out;clear HD;by_cases hlt:k < xs.length
   ·have hlt2:k < ys.length:=by rw [<-HL.out];exact hlt
    have h0:(0:Int)<=(k:Int):=by omega
    have h1:(k:Int) < (xs.length:Int):=by omega
    have h2:(k:Int) < (ys.length:Int):=by omega
    obtain ⟨ax,rfl,gx⟩:=Kd.at_int HX.out (k:Int) (by omega) h1;obtain ⟨ay,rfl,gy⟩:=Kd.at_int HY.out (k:Int) (by omega) h2;simp only [Int.toNat_natCast] at gx gy;by_cases he:rd xs k=rd ys k
    ·have heb:(rd xs k != rd ys k)=false:=by simp [he]
     have HE:=am he;clear he;go_wp2;go_quiet (fail);go_wp2;go_roundw
     case rel=>exact ⟨k+1,by omega,by go_num,⟨fun j hj=>agree_step HJ.out hlt hlt2 HE.out hj⟩,⟨⟨_,rfl⟩⟩⟩
     case measure=>simp [intOf];omega
    ·have heb:(rd xs k != rd ys k)=true:=by simp [he]
     have HE:=am he;clear he;go_wp2;go_quiet (fail);go_wp2;go_ret;exact ⟨ret_bool (decide_eq_false (fun h=>HE.out (by rw [h]))).symm,Drawn0.step ⟨⟨n,rfl⟩⟩ _⟩
   ·go_wp2
    go_ret;exact ⟨ret_bool (decide_eq_true (agree_all xs ys HL.out (fun j hj=>HJ.out j (by omega)))).symm,⟨⟨n,rfl⟩⟩⟩
 ·have hlb:((xs.length:Int) != (ys.length:Int))=true:=by simp;omega
  have hlc:(xs.length != ys.length)=true:=by simp;omega
  have hld:(xs.length == ys.length)=false:=by simp;omega
  have HL:=am hl;clear hl;go_enter Tryz.func20,Tryz.ntmps20;go_wp2;go_ret;exact ⟨ret_bool (decide_eq_false (fun h=>HL.out (by rw [h]))).symm,Drawn0.refl _⟩
theorem Put_ext (x y:Put):x=y ↔ x.cell=y.cell/\x.num=y.num:=by cases x;cases y;simp
theorem eqPut_calls (x y:Put) (cs ds:List Value) (w:World) (hx:kPut.K w x cs) (hy:kPut.K w y ds):
  Calls Tryz.prog 173 #[.agg cs.toArray,.agg ds.toArray] w fun e w'=>e= .returned (.bool (decide (x=y)))/\Below w.heap.size w w':=by
 obtain rfl:=kPut_open hx;obtain rfl:=kPut_open hy;clear hx hy;have HB:=am (Below.refl w.heap.size w);go_enter Tryz.func173,Tryz.ntmps173;go_wp2_with fail
 all_goals (go_ret;refine ⟨ret_bool ?_,(by repeat (first|with_reducible exact HB.out | with_reducible refine below_alloc ?_ _ | with_reducible refine pw_below_drewN ?_ _))⟩)
 all_goals (first|(rw [decide_eq_true];simp_all [Put_ext];done)|(rw [decide_eq_false];simp_all [Put_ext];done))
theorem Cell_ext (x y:Cell):x=y ↔ x.num=y.num/\x.time=y.time/\x.lock=y.lock:=by cases x;cases y;simp
theorem eqCell_calls (x y:Cell) (cs ds:List Value) (w:World) (hx:kCell.K w x cs) (hy:kCell.K w y ds):
  Calls Tryz.prog 95 #[.agg cs.toArray,.agg ds.toArray] w fun e w'=>e= .returned (.bool (decide (x=y)))/\Below w.heap.size w w':=by
 obtain rfl:=kCell_open hx;obtain rfl:=kCell_open hy;clear hx hy;have HB:=am (Below.refl w.heap.size w);go_enter Tryz.func95,Tryz.ntmps95;go_wp2_with fail
 all_goals (go_ret;refine ⟨ret_bool ?_,(by repeat (first|with_reducible exact HB.out | with_reducible refine below_alloc ?_ _ | with_reducible refine pw_below_drewN ?_ _))⟩)
 all_goals (first|(rw [decide_eq_true];simp_all [Cell_ext];done)|(rw [decide_eq_false];simp_all [Cell_ext];done))
theorem eqPutS_calls (xs ys:List Put) (A B:Option Addr) (c d:Nat) (w:World) (hx:kPut.C w A xs.length xs) (hy:kPut.C w B ys.length ys):
  Calls Tryz.prog 139 #[.slice A xs.length c,.slice B ys.length d] w fun e w'=>e= .returned (.bool (decide (xs=ys)))/\Below w.heap.size w w':=by
 have HX:=am hx;have HY:=am hy;have hm:=Kd.C_max hx;clear hx hy;by_cases hl:xs.length=ys.length
 ·have hlb:((xs.length:Int) != (ys.length:Int))=false:=by rw [hl];simp
  have HL:=am hl;clear hl;go_enter Tryz.func139,Tryz.ntmps139;go_wp2;have HLB:=am hlb;clear hlb;go_loopw [5] (fun v w'=>∃ k:Nat,k<=xs.length/\v= .int .i64 k/\Aside0 (∀ j,j < k->xs[j]? = ys[j]?)/\Aside0 (Below w.heap.size w w')) (fun v _=>xs.length - (intOf v).toNat)
  case atStart=>exact ⟨0,Nat.zero_le _,rfl,⟨fun j hj=>by omega⟩,⟨Below.refl _ _⟩⟩
  case round=>
   obtain ⟨k,hk,rfl,HJ,HB⟩:=hrel;by_cases hlt:k < xs.length
   ·have hlt2:k < ys.length:=by rw [<-HL.out];exact hlt
    have h0:(0:Int)<=(k:Int):=by omega
    have h1:(k:Int) < (xs.length:Int):=by omega
    have h2:(k:Int) < (ys.length:Int):=by omega
    obtain ⟨ax,cs,rfl,hcl,hK,hcc⟩:=Kd.C_get (Kd.C_below HX.out HB.out) zPut (k:Int) h0 h1;obtain ⟨ay,ds,rfl,hdl,hL,hdd⟩:=Kd.C_get (Kd.C_below HY.out HB.out) zPut (k:Int) h0 h2;simp only [Int.toNat_natCast] at hK hcc hL hdd;have HK:=am hK;have HCC:=am hcc;have HK2:=am hL;have HDD:=am hdd;clear hK hcc hL hdd;go_wp2;refine wp_region_still_tail 8 (by kernel_rfl) (by kernel_rfl) ?_;simp only [List.take_succ_cons,List.take_zero,List.drop_succ_cons,List.drop_zero];iterate 3 still_step
    refine still_load_struct rfl 65 (.tmp 19) rfl ax (k*2) rfl cs _ HCC.out (by rw [hcl];decide) Tryz.underlying65 rfl (by rw [hcl];kernel_rfl) ?_;iterate 3 still_step
    refine still_load_struct rfl 65 (.tmp 23) rfl ay (k*2) rfl ds _ HDD.out (by rw [hdl];decide) Tryz.underlying65 rfl (by rw [hdl];kernel_rfl) ?_;refine wpStill_nil ?_;by_cases he:xs.getD k zPut=ys.getD k zPut
    ·have HE:=am he
     clear he;go_wp2_with (go_at_call 173;refine (eqPut_calls _ _ _ _ _ (kPut.K_below (below_drew (Below.refl _ _)) HK.out) (kPut.K_below (below_drew (Below.refl _ _)) HK2.out)).mono ?_;rw [decide_eq_true HE.out];rintro e w1 ⟨rfl,hb⟩;have HB1:=am (below_step (below_drew HB.out) hb);clear hb HB)
     go_roundw
     case rel=>exact ⟨k+1,by omega,by go_num,⟨fun j hj=>agree_step HJ.out hlt hlt2 HE.out hj⟩,HB1⟩
     case measure=>simp [intOf];omega
    ·have HE:=am he
     clear he;go_wp2_with (go_at_call 173;refine (eqPut_calls _ _ _ _ _ (kPut.K_below (below_drew (Below.refl _ _)) HK.out) (kPut.K_below (below_drew (Below.refl _ _)) HK2.out)).mono ?_;rw [decide_eq_false HE.out];rintro e w1 ⟨rfl,hb⟩;have HB1:=am (below_step (below_drew HB.out) hb);clear hb HB)
     go_ret;exact ⟨ret_bool (decide_eq_false (fun h=>HE.out (by rw [h]))).symm,HB1.out⟩
   ·go_wp2
    go_ret;exact ⟨ret_bool (decide_eq_true (agree_all xs ys HL.out (fun j hj=>HJ.out j (by omega)))).symm,HB.out⟩
 ·have hlb:((xs.length:Int) != (ys.length:Int))=true:=by simp;omega
  have hlc:(xs.length != ys.length)=true:=by simp;omega
  have hld:(xs.length == ys.length)=false:=by simp;omega
  have HL:=am hl;clear hl;go_enter Tryz.func139,Tryz.ntmps139;go_wp2;go_ret;exact ⟨ret_bool (decide_eq_false (fun h=>HL.out (by rw [h]))).symm,Below.refl _ _⟩
theorem eqCellS_calls (xs ys:List Cell) (A B:Option Addr) (c d:Nat) (w:World) (hx:kCell.C w A xs.length xs) (hy:kCell.C w B ys.length ys):
  Calls Tryz.prog 59 #[.slice A xs.length c,.slice B ys.length d] w fun e w'=>e= .returned (.bool (decide (xs=ys)))/\Below w.heap.size w w':=by
 have HX:=am hx;have HY:=am hy;have hm:=Kd.C_max hx;clear hx hy;by_cases hl:xs.length=ys.length
 ·have hlb:((xs.length:Int) != (ys.length:Int))=false:=by rw [hl];simp
  have HL:=am hl;clear hl;go_enter Tryz.func59,Tryz.ntmps59;go_wp2;have HLB:=am hlb;clear hlb;go_loopw [5] (fun v w'=>∃ k:Nat,k<=xs.length/\v= .int .i64 k/\Aside0 (∀ j,j < k->xs[j]? = ys[j]?)/\Aside0 (Below w.heap.size w w')) (fun v _=>xs.length - (intOf v).toNat)
  case atStart=>exact ⟨0,Nat.zero_le _,rfl,⟨fun j hj=>by omega⟩,⟨Below.refl _ _⟩⟩
  case round=>
   obtain ⟨k,hk,rfl,HJ,HB⟩:=hrel;by_cases hlt:k < xs.length
   ·have hlt2:k < ys.length:=by rw [<-HL.out];exact hlt
    have h0:(0:Int)<=(k:Int):=by omega
    have h1:(k:Int) < (xs.length:Int):=by omega
    have h2:(k:Int) < (ys.length:Int):=by omega
    obtain ⟨ax,cs,rfl,hcl,hK,hcc⟩:=Kd.C_get (Kd.C_below HX.out HB.out) zCell (k:Int) h0 h1;obtain ⟨ay,ds,rfl,hdl,hL,hdd⟩:=Kd.C_get (Kd.C_below HY.out HB.out) zCell (k:Int) h0 h2;simp only [Int.toNat_natCast] at hK hcc hL hdd;have HK:=am hK;have HCC:=am hcc;have HK2:=am hL;have HDD:=am hdd;clear hK hcc hL hdd;go_wp2;refine wp_region_still_tail 8 (by kernel_rfl) (by kernel_rfl) ?_;simp only [List.take_succ_cons,List.take_zero,List.drop_succ_cons,List.drop_zero];iterate 3 still_step
    refine still_load_struct rfl 63 (.tmp 19) rfl ax (k*3) rfl cs _ HCC.out (by rw [hcl];decide) Tryz.underlying63 rfl (by rw [hcl];kernel_rfl) ?_;iterate 3 still_step
    refine still_load_struct rfl 63 (.tmp 23) rfl ay (k*3) rfl ds _ HDD.out (by rw [hdl];decide) Tryz.underlying63 rfl (by rw [hdl];kernel_rfl) ?_;refine wpStill_nil ?_;by_cases he:xs.getD k zCell=ys.getD k zCell
    ·have HE:=am he
     clear he;go_wp2_with (go_at_call 95;refine (eqCell_calls _ _ _ _ _ (kCell.K_below (below_drew (Below.refl _ _)) HK.out) (kCell.K_below (below_drew (Below.refl _ _)) HK2.out)).mono ?_;rw [decide_eq_true HE.out];rintro e w1 ⟨rfl,hb⟩;have HB1:=am (below_step (below_drew HB.out) hb);clear hb HB)
     go_roundw
     case rel=>exact ⟨k+1,by omega,by go_num,⟨fun j hj=>agree_step HJ.out hlt hlt2 HE.out hj⟩,HB1⟩
     case measure=>simp [intOf];omega
    ·have HE:=am he
     clear he;go_wp2_with (go_at_call 95;refine (eqCell_calls _ _ _ _ _ (kCell.K_below (below_drew (Below.refl _ _)) HK.out) (kCell.K_below (below_drew (Below.refl _ _)) HK2.out)).mono ?_;rw [decide_eq_false HE.out];rintro e w1 ⟨rfl,hb⟩;have HB1:=am (below_step (below_drew HB.out) hb);clear hb HB)
     go_ret;exact ⟨ret_bool (decide_eq_false (fun h=>HE.out (by rw [h]))).symm,HB1.out⟩
   ·go_wp2
    go_ret;exact ⟨ret_bool (decide_eq_true (agree_all xs ys HL.out (fun j hj=>HJ.out j (by omega)))).symm,HB.out⟩
 ·have hlb:((xs.length:Int) != (ys.length:Int))=true:=by simp;omega
  have hlc:(xs.length != ys.length)=true:=by simp;omega
  have hld:(xs.length == ys.length)=false:=by simp;omega
  have HL:=am hl;clear hl;go_enter Tryz.func59,Tryz.ntmps59;go_wp2;go_ret;exact ⟨ret_bool (decide_eq_false (fun h=>HL.out (by rw [h]))).symm,Below.refl _ _⟩
theorem Task_ext (x y:Task):x=y ↔ x.body=y.body/\x.pc=y.pc/\x.up=y.up/\x.regs=y.regs/\x.way=y.way/\x.stage=y.stage/\x.at_=y.at_/\x.since=y.since/\x.old=y.old/\x.reads=y.reads/\x.puts=y.puts/\x.when_=y.when_/\x.from_=y.from_:=by cases x;cases y;simp
theorem eqTask_calls (x y:Task) (cs ds:List Value) (w:World) (hx:kTask.K w x cs) (hy:kTask.K w y ds):
  Calls Tryz.prog 96 #[.agg cs.toArray,.agg ds.toArray] w fun e w'=>e= .returned (.bool (decide (x=y)))/\Below w.heap.size w w':=by
 obtain ⟨A3,c3,A8,c8,A9,c9,A10,c10,rfl,l3,g3,l8,g8,l9,g9,l10,g10⟩:=kTask_open hx;obtain ⟨B3,d3,B8,d8,B9,d9,B10,d10,rfl,m3,h3,m8,h8,m9,h9,m10,h10⟩:=kTask_open hy;have G:=am (And.intro g3 (And.intro g8 (And.intro g9 g10)));have H:=am (And.intro h3 (And.intro h8 (And.intro h9 h10)));clear g3 g8 g9 g10 h3 h8 h9 h10 l3 l8 l9 l10 m3 m8 m9 m10 hx hy;go_enter Tryz.func96,Tryz.ntmps96;have HB:=am (Below.refl w.heap.size w)
 go_wp2_with (first
 |(go_at_call 20;refine (eqIntS_calls _ _ _ _ _ _ _ ?h1 ?h2).mono ?_;(case h1=>exact Kd.C_below (w:=w) (by first|exact G.out.1 | exact G.out.2.1) (by repeat (first|with_reducible exact HB.out | with_reducible refine below_alloc ?_ _ | with_reducible refine pw_below_drewN ?_ _)));(case h2=>exact Kd.C_below (w:=w) (by first|exact H.out.1 | exact H.out.2.1) (by repeat (first|with_reducible exact HB.out | with_reducible refine below_alloc ?_ _ | with_reducible refine pw_below_drewN ?_ _)));rintro e w1 ⟨rfl,⟨n,rfl⟩⟩)
 |(go_at_call 139;refine (eqPutS_calls _ _ _ _ _ _ _ ?h1 ?h2).mono ?_;(case h1=>exact Kd.C_below (w:=w) (by first|exact G.out.2.2.1 | exact G.out.2.2.2) (by repeat (first|with_reducible exact HB.out | with_reducible refine below_alloc ?_ _ | with_reducible refine pw_below_drewN ?_ _)));(case h2=>exact Kd.C_below (w:=w) (by first|exact H.out.2.2.1 | exact H.out.2.2.2) (by repeat (first|with_reducible exact HB.out | with_reducible refine below_alloc ?_ _ | with_reducible refine pw_below_drewN ?_ _)));rintro e w1 ⟨rfl,hb⟩;replace HB:=am (below_step (w:=w) (by repeat (first|with_reducible exact HB.out | with_reducible refine below_alloc ?_ _ | with_reducible refine pw_below_drewN ?_ _)) hb);have hz:=bsize hb;(try simp at hz);have q0:w.heap.size < w1.heap.size:=(by omega);have q1:w.heap.size+1 < w1.heap.size:=(by omega);clear hz;obtain ⟨hc,hf⟩:=bcell hb;clear hb))
 all_goals (go_ret;refine ⟨ret_bool ?_,(by repeat (first|with_reducible exact HB.out | with_reducible refine below_alloc ?_ _ | with_reducible refine pw_below_drewN ?_ _))⟩)
 all_goals (first|(rw [decide_eq_true];simp_all [Task_ext];done)|(rw [decide_eq_false];simp_all [Task_ext];done))
theorem Entry_ext (x y:Entry):x=y ↔ x.task=y.task/\x.act=y.act/\x.when_=y.when_/\x.reads=y.reads/\x.puts=y.puts/\x.from_=y.from_:=by cases x;cases y;simp
theorem eqEntry_calls (x y:Entry) (cs ds:List Value) (w:World) (hx:kEntry.K w x cs) (hy:kEntry.K w y ds):
  Calls Tryz.prog 97 #[.agg cs.toArray,.agg ds.toArray] w fun e w'=>e= .returned (.bool (decide (x=y)))/\Below w.heap.size w w':=by
 obtain ⟨A3,c3,A8,c8,rfl,l3,g3,l8,g8⟩:=kEntry_open hx;obtain ⟨B3,d3,B8,d8,rfl,m3,h3,m8,h8⟩:=kEntry_open hy;have G:=am (And.intro g3 g8);have H:=am (And.intro h3 h8);clear g3 g8 h3 h8 l3 l8 m3 m8 hx hy;go_enter Tryz.func97,Tryz.ntmps97;have HB:=am (Below.refl w.heap.size w)
 go_wp2_with (first
 |(go_at_call 139;refine (eqPutS_calls _ _ _ _ _ _ _ ?h1 ?h2).mono ?_;(case h1=>exact Kd.C_below (w:=w) (by first|exact G.out.1 | exact G.out.2) (by repeat (first|with_reducible exact HB.out | with_reducible refine below_alloc ?_ _ | with_reducible refine pw_below_drewN ?_ _)));(case h2=>exact Kd.C_below (w:=w) (by first|exact H.out.1 | exact H.out.2) (by repeat (first|with_reducible exact HB.out | with_reducible refine below_alloc ?_ _ | with_reducible refine pw_below_drewN ?_ _)));rintro e w1 ⟨rfl,hb⟩;replace HB:=am (below_step (w:=w) (by repeat (first|with_reducible exact HB.out | with_reducible refine below_alloc ?_ _ | with_reducible refine pw_below_drewN ?_ _)) hb);have hz:=bsize hb;(try simp at hz);have q0:w.heap.size < w1.heap.size:=(by omega);have q1:w.heap.size+1 < w1.heap.size:=(by omega);clear hz;obtain ⟨hc,hf⟩:=bcell hb;clear hb))
 all_goals (go_ret;refine ⟨ret_bool ?_,(by repeat (first|with_reducible exact HB.out | with_reducible refine below_alloc ?_ _ | with_reducible refine pw_below_drewN ?_ _))⟩)
 all_goals (first|(rw [decide_eq_true];simp_all [Entry_ext];done)|(rw [decide_eq_false];simp_all [Entry_ext];done))
theorem eqTaskS_calls (xs ys:List Task) (A B:Option Addr) (c d:Nat) (w:World) (hx:kTask.C w A xs.length xs) (hy:kTask.C w B ys.length ys):
  Calls Tryz.prog 60 #[.slice A xs.length c,.slice B ys.length d] w fun e w'=>e= .returned (.bool (decide (xs=ys)))/\Below w.heap.size w w':=by
 have HX:=am hx;have HY:=am hy;have hm:=Kd.C_max hx;clear hx hy;by_cases hl:xs.length=ys.length
 ·have hlb:((xs.length:Int) != (ys.length:Int))=false:=by rw [hl];simp
  have HL:=am hl;clear hl;go_enter Tryz.func60,Tryz.ntmps60;go_wp2;have HLB:=am hlb;clear hlb;go_loopw [5] (fun v w'=>∃ k:Nat,k<=xs.length/\v= .int .i64 k/\Aside0 (∀ j,j < k->xs[j]? = ys[j]?)/\Aside0 (Below w.heap.size w w')) (fun v _=>xs.length - (intOf v).toNat)
  case atStart=>exact ⟨0,Nat.zero_le _,rfl,⟨fun j hj=>by omega⟩,⟨Below.refl _ _⟩⟩
  case round=>
   obtain ⟨k,hk,rfl,HJ,HB⟩:=hrel;by_cases hlt:k < xs.length
   ·have hlt2:k < ys.length:=by rw [<-HL.out];exact hlt
    have h0:(0:Int)<=(k:Int):=by omega
    have h1:(k:Int) < (xs.length:Int):=by omega
    have h2:(k:Int) < (ys.length:Int):=by omega
    obtain ⟨ax,cs,rfl,hcl,hK,hcc⟩:=Kd.C_get (Kd.C_below HX.out HB.out) zTask (k:Int) h0 h1;obtain ⟨ay,ds,rfl,hdl,hL,hdd⟩:=Kd.C_get (Kd.C_below HY.out HB.out) zTask (k:Int) h0 h2;simp only [Int.toNat_natCast] at hK hcc hL hdd;have HK:=am hK;have HCC:=am hcc;have HK2:=am hL;have HDD:=am hdd;clear hK hcc hL hdd;go_wp2;refine wp_region_still_tail 8 (by kernel_rfl) (by kernel_rfl) ?_;simp only [List.take_succ_cons,List.take_zero,List.drop_succ_cons,List.drop_zero];iterate 3 still_step
    refine still_load_struct rfl 59 (.tmp 19) rfl ax (k*13) rfl cs _ HCC.out (by rw [hcl];decide) Tryz.underlying59 rfl (by rw [hcl];kernel_rfl) ?_;iterate 3 still_step
    refine still_load_struct rfl 59 (.tmp 23) rfl ay (k*13) rfl ds _ HDD.out (by rw [hdl];decide) Tryz.underlying59 rfl (by rw [hdl];kernel_rfl) ?_;refine wpStill_nil ?_;by_cases he:xs.getD k zTask=ys.getD k zTask
    ·have HE:=am he
     clear he;go_wp2_with (go_at_call 96;refine (eqTask_calls _ _ _ _ _ (kTask.K_below (below_drew (Below.refl _ _)) HK.out) (kTask.K_below (below_drew (Below.refl _ _)) HK2.out)).mono ?_;rw [decide_eq_true HE.out];rintro e w1 ⟨rfl,hb⟩;have HB1:=am (below_step (below_drew HB.out) hb);clear hb HB)
     go_roundw
     case rel=>exact ⟨k+1,by omega,by go_num,⟨fun j hj=>agree_step HJ.out hlt hlt2 HE.out hj⟩,HB1⟩
     case measure=>simp [intOf];omega
    ·have HE:=am he
     clear he;go_wp2_with (go_at_call 96;refine (eqTask_calls _ _ _ _ _ (kTask.K_below (below_drew (Below.refl _ _)) HK.out) (kTask.K_below (below_drew (Below.refl _ _)) HK2.out)).mono ?_;rw [decide_eq_false HE.out];rintro e w1 ⟨rfl,hb⟩;have HB1:=am (below_step (below_drew HB.out) hb);clear hb HB)
     go_ret;exact ⟨ret_bool (decide_eq_false (fun h=>HE.out (by rw [h]))).symm,HB1.out⟩
   ·go_wp2
    go_ret;exact ⟨ret_bool (decide_eq_true (agree_all xs ys HL.out (fun j hj=>HJ.out j (by omega)))).symm,HB.out⟩
 ·have hlb:((xs.length:Int) != (ys.length:Int))=true:=by simp;omega
  have hlc:(xs.length != ys.length)=true:=by simp;omega
  have hld:(xs.length == ys.length)=false:=by simp;omega
  have HL:=am hl;clear hl;go_enter Tryz.func60,Tryz.ntmps60;go_wp2;go_ret;exact ⟨ret_bool (decide_eq_false (fun h=>HL.out (by rw [h]))).symm,Below.refl _ _⟩
theorem eqEntryS_calls (xs ys:List Entry) (A B:Option Addr) (c d:Nat) (w:World) (hx:kEntry.C w A xs.length xs) (hy:kEntry.C w B ys.length ys):
  Calls Tryz.prog 61 #[.slice A xs.length c,.slice B ys.length d] w fun e w'=>e= .returned (.bool (decide (xs=ys)))/\Below w.heap.size w w':=by
 have HX:=am hx;have HY:=am hy;have hm:=Kd.C_max hx;clear hx hy;by_cases hl:xs.length=ys.length
 ·have hlb:((xs.length:Int) != (ys.length:Int))=false:=by rw [hl];simp
  have HL:=am hl;clear hl;go_enter Tryz.func61,Tryz.ntmps61;go_wp2;have HLB:=am hlb;clear hlb;go_loopw [5] (fun v w'=>∃ k:Nat,k<=xs.length/\v= .int .i64 k/\Aside0 (∀ j,j < k->xs[j]? = ys[j]?)/\Aside0 (Below w.heap.size w w')) (fun v _=>xs.length - (intOf v).toNat)
  case atStart=>exact ⟨0,Nat.zero_le _,rfl,⟨fun j hj=>by omega⟩,⟨Below.refl _ _⟩⟩
  case round=>
   obtain ⟨k,hk,rfl,HJ,HB⟩:=hrel;by_cases hlt:k < xs.length
   ·have hlt2:k < ys.length:=by rw [<-HL.out];exact hlt
    have h0:(0:Int)<=(k:Int):=by omega
    have h1:(k:Int) < (xs.length:Int):=by omega
    have h2:(k:Int) < (ys.length:Int):=by omega
    obtain ⟨ax,cs,rfl,hcl,hK,hcc⟩:=Kd.C_get (Kd.C_below HX.out HB.out) zEntry (k:Int) h0 h1;obtain ⟨ay,ds,rfl,hdl,hL,hdd⟩:=Kd.C_get (Kd.C_below HY.out HB.out) zEntry (k:Int) h0 h2;simp only [Int.toNat_natCast] at hK hcc hL hdd;have HK:=am hK;have HCC:=am hcc;have HK2:=am hL;have HDD:=am hdd;clear hK hcc hL hdd;go_wp2;refine wp_region_still_tail 8 (by kernel_rfl) (by kernel_rfl) ?_;simp only [List.take_succ_cons,List.take_zero,List.drop_succ_cons,List.drop_zero];iterate 3 still_step
    refine still_load_struct rfl 136 (.tmp 19) rfl ax (k*6) rfl cs _ HCC.out (by rw [hcl];decide) Tryz.underlying136 rfl (by rw [hcl];kernel_rfl) ?_;iterate 3 still_step
    refine still_load_struct rfl 136 (.tmp 23) rfl ay (k*6) rfl ds _ HDD.out (by rw [hdl];decide) Tryz.underlying136 rfl (by rw [hdl];kernel_rfl) ?_;refine wpStill_nil ?_;by_cases he:xs.getD k zEntry=ys.getD k zEntry
    ·have HE:=am he
     clear he;go_wp2_with (go_at_call 97;refine (eqEntry_calls _ _ _ _ _ (kEntry.K_below (below_drew (Below.refl _ _)) HK.out) (kEntry.K_below (below_drew (Below.refl _ _)) HK2.out)).mono ?_;rw [decide_eq_true HE.out];rintro e w1 ⟨rfl,hb⟩;have HB1:=am (below_step (below_drew HB.out) hb);clear hb HB)
     go_roundw
     case rel=>exact ⟨k+1,by omega,by go_num,⟨fun j hj=>agree_step HJ.out hlt hlt2 HE.out hj⟩,HB1⟩
     case measure=>simp [intOf];omega
    ·have HE:=am he
     clear he;go_wp2_with (go_at_call 97;refine (eqEntry_calls _ _ _ _ _ (kEntry.K_below (below_drew (Below.refl _ _)) HK.out) (kEntry.K_below (below_drew (Below.refl _ _)) HK2.out)).mono ?_;rw [decide_eq_false HE.out];rintro e w1 ⟨rfl,hb⟩;have HB1:=am (below_step (below_drew HB.out) hb);clear hb HB)
     go_ret;exact ⟨ret_bool (decide_eq_false (fun h=>HE.out (by rw [h]))).symm,HB1.out⟩
   ·go_wp2
    go_ret;exact ⟨ret_bool (decide_eq_true (agree_all xs ys HL.out (fun j hj=>HJ.out j (by omega)))).symm,HB.out⟩
 ·have hlb:((xs.length:Int) != (ys.length:Int))=true:=by simp;omega
  have hlc:(xs.length != ys.length)=true:=by simp;omega
  have hld:(xs.length == ys.length)=false:=by simp;omega
  have HL:=am hl;clear hl;go_enter Tryz.func61,Tryz.ntmps61;go_wp2;go_ret;exact ⟨ret_bool (decide_eq_false (fun h=>HL.out (by rw [h]))).symm,Below.refl _ _⟩
theorem Sys_ext (x y:Sys):x=y ↔ x.cells=y.cells/\x.tasks=y.tasks/\x.clock=y.clock/\x.log=y.log:=by cases x;cases y;simp
theorem eqSys_calls (x y:Sys) (cs ds:List Value) (w:World) (hx:kSys.K w x cs) (hy:kSys.K w y ds):
  Calls Tryz.prog 22 #[.agg cs.toArray,.agg ds.toArray] w fun e w'=>e= .returned (.bool (decide (x=y)))/\Below w.heap.size w w':=by
 obtain ⟨A0,c0,A1,c1,A3,c3,rfl,l0,g0,l1,g1,l3,g3⟩:=kSys_open hx;obtain ⟨B0,d0,B1,d1,B3,d3,rfl,m0,h0,m1,h1,m3,h3⟩:=kSys_open hy;have G:=am (And.intro g0 (And.intro g1 g3));have H:=am (And.intro h0 (And.intro h1 h3));clear g0 g1 g3 h0 h1 h3 l0 l1 l3 m0 m1 m3 hx hy;go_enter Tryz.func22,Tryz.ntmps22;have HB:=am (Below.refl w.heap.size w)
 go_wp2_with (first
 |(go_at_call 59;refine (eqCellS_calls _ _ _ _ _ _ _ ?h1 ?h2).mono ?_;(case h1=>exact Kd.C_below (w:=w) (by first|exact G.out.1) (by repeat (first|with_reducible exact HB.out | with_reducible refine below_alloc ?_ _ | with_reducible refine pw_below_drewN ?_ _)));(case h2=>exact Kd.C_below (w:=w) (by first|exact H.out.1) (by repeat (first|with_reducible exact HB.out | with_reducible refine below_alloc ?_ _ | with_reducible refine pw_below_drewN ?_ _)));rintro e w1 ⟨rfl,hb⟩;replace HB:=am (below_step (w:=w) (by repeat (first|with_reducible exact HB.out | with_reducible refine below_alloc ?_ _ | with_reducible refine pw_below_drewN ?_ _)) hb);have hz:=bsize hb;(try simp at hz);have q0:w.heap.size < w1.heap.size:=(by omega);have q1:w.heap.size+1 < w1.heap.size:=(by omega);clear hz;obtain ⟨hc,hf⟩:=bcell hb;clear hb)
 |(go_at_call 60;refine (eqTaskS_calls _ _ _ _ _ _ _ ?h1 ?h2).mono ?_;(case h1=>exact Kd.C_below (w:=w) (by first|exact G.out.2.1) (by repeat (first|with_reducible exact HB.out | with_reducible refine below_alloc ?_ _ | with_reducible refine pw_below_drewN ?_ _)));(case h2=>exact Kd.C_below (w:=w) (by first|exact H.out.2.1) (by repeat (first|with_reducible exact HB.out | with_reducible refine below_alloc ?_ _ | with_reducible refine pw_below_drewN ?_ _)));rintro e w1 ⟨rfl,hb⟩;replace HB:=am (below_step (w:=w) (by repeat (first|with_reducible exact HB.out | with_reducible refine below_alloc ?_ _ | with_reducible refine pw_below_drewN ?_ _)) hb);have hz:=bsize hb;(try simp at hz);have q0:w.heap.size < w1.heap.size:=(by omega);have q1:w.heap.size+1 < w1.heap.size:=(by omega);clear hz;obtain ⟨hc,hf⟩:=bcell hb;clear hb)
 |(go_at_call 61;refine (eqEntryS_calls _ _ _ _ _ _ _ ?h1 ?h2).mono ?_;(case h1=>exact Kd.C_below (w:=w) (by first|exact G.out.2.2) (by repeat (first|with_reducible exact HB.out | with_reducible refine below_alloc ?_ _ | with_reducible refine pw_below_drewN ?_ _)));(case h2=>exact Kd.C_below (w:=w) (by first|exact H.out.2.2) (by repeat (first|with_reducible exact HB.out | with_reducible refine below_alloc ?_ _ | with_reducible refine pw_below_drewN ?_ _)));rintro e w1 ⟨rfl,hb⟩;replace HB:=am (below_step (w:=w) (by repeat (first|with_reducible exact HB.out | with_reducible refine below_alloc ?_ _ | with_reducible refine pw_below_drewN ?_ _)) hb);have hz:=bsize hb;(try simp at hz);have q0:w.heap.size < w1.heap.size:=(by omega);have q1:w.heap.size+1 < w1.heap.size:=(by omega);clear hz;obtain ⟨hc,hf⟩:=bcell hb;clear hb))
 all_goals (go_ret;refine ⟨ret_bool ?_,(by repeat (first|with_reducible exact HB.out | with_reducible refine below_alloc ?_ _ | with_reducible refine pw_below_drewN ?_ _))⟩)
 all_goals (first|(rw [decide_eq_true];simp_all [Sys_ext];done)|(rw [decide_eq_false];simp_all [Sys_ext];done))
def pickTo (p:Nat->Bool) (k:Nat):List Int:=((List.range k).filter p).map fun (i:Nat)=>(i:Int)
theorem pickTo_yes {p:Nat->Bool} {k:Nat} (h:p k=true):pickTo p (k+1)=pickTo p k ++ [(k:Int)]:=by
 simp [pickTo,List.range_succ,List.filter_append,h]
theorem pickTo_no {p:Nat->Bool} {k:Nat} (h:p k=false):pickTo p (k+1)=pickTo p k:=by
 simp [pickTo,List.range_succ,List.filter_append,h]
theorem pickTo_length (p:Nat->Bool) (k:Nat):(pickTo p k).length<=k:=by
 simp only [pickTo,List.length_map];exact Nat.le_trans (List.length_filter_le _ _) (by simp)
def taskAt (ts:List Task) (i:Nat):Task:=ts.getD i zTask
def isKid (ts:List Task) (task:Int) (i:Nat):Bool:=decide (0<=task) && decide ((taskAt ts i).up=task) && decide (task < (i:Int))
def kids (ts:List Task) (task:Int):List Int:=pickTo (isKid ts task) ts.length
def isLive (t:Task):Bool:=decide (t.way=0) || decide (t.way=1)
theorem pickTo_none {p:Nat->Bool} {k:Nat} (h:∀ i,i < k->p i=false):pickTo p k= []:=by
 induction k with
 | zero=>rfl
 | succ k ih=>rw [pickTo_no (h k (by omega)),ih (fun i hi=>h i (by omega))]
theorem kids_out {ts:List Task} {task:Int} (h:¬ (0<=task/\task < ts.length)):kids ts task= []:=by
 refine pickTo_none (fun i hi=> ?_);unfold isKid;by_cases h0:0<=task
 ·have:¬ task < (i:Int):=by omega
  simp [this]
 ·simp [h0]
theorem info_int:(Tryz.prog.info? 3).map (fun i=>(i.zero,i.size,i.bytes))=some (some (.int .i64 0),1,8):=by kernel_rfl
theorem isPlace_calls (a n:Int) (w:World):Calls Tryz.prog 136 #[.int .i64 a,.int .i64 n] w fun e w'=>e= .returned (.bool (decide (0<=a) && decide (a < n)))/\w=w':=by
 by_cases h:0<=a
 ·have hb:decide (0<=a)=true:=decide_eq_true h
  go_enter Tryz.func136,Tryz.ntmps136;go_wp2;go_ret;exact ⟨by simp [h],rfl⟩
 ·have hb:decide (0<=a)=false:=decide_eq_false h
  go_enter Tryz.func136,Tryz.ntmps136;go_wp2;go_ret;exact ⟨by simp [h],rfl⟩
theorem l6In_calls (a l h:Int) (w:World):Calls Tryz.prog 76 #[.int .i64 a,.int .i64 l,.int .i64 h] w fun e w'=>e= .returned (.bool (decide (l<=a) && decide (a<=h)))/\w=w':=by
 by_cases h0:l<=a
 ·have hb:decide (l<=a)=true:=decide_eq_true h0
  go_enter Tryz.func76,Tryz.ntmps76;go_wp2;go_ret;exact ⟨by simp [h0],rfl⟩
 ·have hb:decide (l<=a)=false:=decide_eq_false h0
  go_enter Tryz.func76,Tryz.ntmps76;go_wp2;go_ret;exact ⟨by simp [h0],rfl⟩
theorem live_calls (x:Task) (cs:List Value) (w:World) (hx:kTask.K w x cs):
  Calls Tryz.prog 80 #[.agg cs.toArray] w fun e w'=>e= .returned (.bool (isLive x))/\Below w.heap.size w w':=by
 obtain ⟨A3,c3,A8,c8,A9,c9,A10,c10,rfl,l3,g3,l8,g8,l9,g9,l10,g10⟩:=kTask_open hx;clear l3 g3 l8 g8 l9 g9 l10 g10 hx;by_cases h:x.way=0
 ·have hb:(x.way == 0)=true:=by simp [h]
  have H:=am h;clear h;go_enter Tryz.func80,Tryz.ntmps80;go_wp2;go_ret;exact ⟨ret_bool (by simp [isLive,H.out]),below_alloc (Below.refl _ _) _⟩
 ·have hb:(x.way == 0)=false:=by simp [h]
  have H:=am h;clear h;go_enter Tryz.func80,Tryz.ntmps80;go_wp2;go_ret;exact ⟨ret_bool (by simp only [isLive,decide_eq_false H.out,Bool.false_or];rw [Bool.eq_iff_iff];simp),below_alloc (Below.refl _ _) _⟩
end Go.Proofs.YtclangliilnijaaGreatDoor.Eq

namespace Go.Proofs.YtclangliilnijaaGreatDoor.Eq
open Go.RowKit Go.Proofs.YtclangliilnijaaGreatDoorW.PrintWords Go.Proofs.YtclangliilnijaaGreatDoorW.PrintLast Go.Proofs.YtclangliilnijaaGreatDoorW.PrintMore
theorem implKids_calls (s:Sys) (cs:List Value) (task:Int) (w:World) (hx:kSys.K w s cs) (hn:s.tasks.length<=1048576):
  Calls Tryz.prog 148 #[.agg cs.toArray,.int .i64 task] w fun e w'=>∃ v,e= .returned v/\(Kd.int .i64).R 3 w' w.heap.size (fun _=>True) v (kids s.tasks task)/\Below w.heap.size w w':=by
 obtain ⟨A0,c0,A1,c1,A3,c3,rfl,l0,g0,l1,g1,l3,g3⟩:=kSys_open hx;have G:=am g1;clear g0 g1 g3 l0 l1 l3 hx;go_enter Tryz.func148,Tryz.ntmps148;by_cases hp:0<=task/\task < s.tasks.length
 ·obtain ⟨m,rfl⟩:=Int.eq_ofNat_of_zero_le hp.1
  have hm:m < s.tasks.length:=by omega
  have HP:=am (show (decide (0<=(m:Int)) && decide ((m:Int) < (s.tasks.length:Int)))=true by simp;omega);clear hp;go_wp2_with (first|((with_reducible refine gate_dst (N:=2) rfl ?_);refine box_event rfl (N:=2) rfl (t:=42) (by go_simp<;>rfl) ?_;intro g hg w2 hbox hb;have BK:=am hbox;have HB:=am hb;have GE:=am (show w.heap.size<=g by omega);clear hbox hb hg;have hc:=zc8 BK.out)|(go_at_call 136;refine (isPlace_calls _ _ _).mono ?_;rw [HP.out];rintro e w1 ⟨rfl,rfl⟩))
  go_loopw [5,6] (fun v i w'=>∃ k:Nat,m+1<=k/\k<=s.tasks.length/\i= .int .i64 k/\Aside0 ((Kd.int .i64).R 3 w' w.heap.size (fun _=>True) v (pickTo (isKid s.tasks m) k))/\Aside0 (w'.heap[g]? = some (.cells #[.slice A0 s.cells.length c0,.slice A1 s.tasks.length c1,.int .i64 s.clock,.slice A3 s.log.length c3] 42 (0,0)))/\Aside0 (Below w.heap.size w w')) (fun _ i _=>s.tasks.length - (intOf i).toNat)
  case atStart=>exact ⟨m+1,Nat.le_refl _,hm,by go_num,⟨by rw [pickTo_none (fun i hi=>by unfold isKid;have:¬ (m:Int) < (i:Int):=(by omega);simp [this])];exact Kd.R_nil _ _ _ _ _⟩,BK,HB⟩
  case round=>
   clear BK HB hc;obtain ⟨k,hmk,hk,rfl,HO,BK,HB⟩:=hrel;have hlen:=pickTo_length (isKid s.tasks m) k;by_cases hlt:k < s.tasks.length
   · skip
     have BKc:=zc8 BK.out;obtain ⟨b,o,cs,rfl,hcl,hK,hcc,hc0⟩:=C_field (Kd.C_below G.out HB.out) zTask k hlt (by decide);rw [show s.tasks.getD k zTask=taskAt s.tasks k from rfl] at hK;obtain ⟨B3,d3,B8,d8,B9,d9,B10,d10,rfl,_,_,_,_,_,_,_,_⟩:=kTask_open hK;have h_up:=hcc 2 _ rfl;simp only [show kTask.sz=13 from rfl] at h_up;clear hcc hc0 hK hcl;have q0:(0:Int)<=(k:Int):=by omega
     have q1:(k:Int) < (s.tasks.length:Int):=by omega
     by_cases hy:(taskAt s.tasks k).up=(m:Int)
     ·have y1:((taskAt s.tasks k).up == (m:Int))=true:=by simp [hy]
      have HY:=am (show isKid s.tasks m k=true by simp [isKid,hy];omega);clear hy;go_wp2_with (first|((with_reducible refine gate_builtin (b:=.append) (xs:=#[.tmp 30,.tmp 32]) rfl ?_);at_builtin;refine Kd.R_append (Kd.int .i64) (w0:=w) w.heap.size rfl (.tmp 30) (.tmp 32) 22 3 (.int .i64 0) 8 rfl Tryz.underlying22 info_int rfl (by decide) (by omega) _ (pickTo (isKid s.tasks m) k) (k:Int) [.int .i64 (k:Int)] (fun _=>True) (fun _=>False) rfl rfl rfl (fun _ hk=>hk.elim) (fun _ _=>trivial) HO.out HB.out (below_size HB.out) (by omega) ?_;intro v1 w1 ho hb hg _;have BK1:=am (blk_grown BK.out hg (Kd.R_ne HO.out BK.out (by decide)));have HO1:=am ho;have HB1:=am hb;clear ho hb hg HO HB BK))
      go_roundw
      case rel=>exact ⟨k+1,by omega,by omega,by go_num,⟨by rw [pickTo_yes HY.out];exact HO1.out⟩,BK1,HB1⟩
      case measure=>simp [intOf];omega
     ·have y1:((taskAt s.tasks k).up == (m:Int))=false:=by simp [hy]
      have HY:=am (show isKid s.tasks m k=false by simp [isKid,hy]);clear hy;go_wp2;go_roundw
      case rel=>exact ⟨k+1,by omega,by omega,by go_num,⟨by rw [pickTo_no HY.out];exact HO.out⟩,BK,HB⟩
      case measure=>simp [intOf];omega
   ·have BKc:=zc8 BK.out
    go_wp2;go_ret;obtain rfl:k=s.tasks.length:=by omega
    exact ⟨_,rfl,HO.out,HB.out⟩
 ·have HP:=am (show (decide (0<=task) && decide (task < (s.tasks.length:Int)))=false by simp;omega)
  have HN:=am (kids_out hp);clear hp;go_wp2_with (first|((with_reducible refine gate_dst (N:=2) rfl ?_);refine box_event rfl (N:=2) rfl (t:=42) (by go_simp<;>rfl) ?_;intro g hg w2 hbox hb;have BK:=am hbox;have HB:=am hb;have GE:=am (show w.heap.size<=g by omega);clear hbox hb hg;have hc:=zc8 BK.out)|(go_at_call 136;refine (isPlace_calls _ _ _).mono ?_;rw [HP.out];rintro e w1 ⟨rfl,rfl⟩))
  go_ret;exact ⟨_,rfl,by rw [HN.out];exact Kd.R_nil _ _ _ _ _,HB.out⟩
end Go.Proofs.YtclangliilnijaaGreatDoor.Eq

namespace Go.Proofs.YtclangliilnijaaGreatDoor.Eq
open Go.RowKit Go.Proofs.YtclangliilnijaaGreatDoorW.PrintWords Go.Proofs.YtclangliilnijaaGreatDoorW.PrintLast Go.Proofs.YtclangliilnijaaGreatDoorW.PrintMore
section
variable {P:Program} {ops:Array Oper} {Q:Exit->Go.Act->World->Prop} {md:Region.Mode} {S:World->Prop} {ds:List Nat}
def stillS (P:Program) (ops:Array Oper) (S:World->Prop):List Nat->(Go.Act->Prop)->Go.Act->Prop
 | [],K,a=>K a
 | i :: is,K,a=>∃ oi v,ops[i]? = some oi/\YieldsIf P ops S oi v a/\stillS P ops S is K (a.put oi.dst v)
theorem stillS_step {i:Nat} {is:List Nat} {K:Go.Act->Prop} {a:Go.Act} {v:Value} {N:Option Tmp} {op:Op} {ty:TypeId} {ps:String} {af:Array Edge} {gd:Option (Nat × Bool)} (hi:ops[i]? = some {dst:=N,op:=op,type:=ty,pos:=ps,after:=af,guard:=gd})
  (hy:YieldsIf P ops S {dst:=N,op:=op,type:=ty,pos:=ps,after:=af,guard:=gd} v a) {a':Go.Act} (ha:a.put N v=a') (h:stillS P ops S is K a'):stillS P ops S (i :: is) K a:=by
 subst ha;exact ⟨_,v,hi,hy,h⟩
theorem stillS_nil {K:Go.Act->Prop} {a:Go.Act} (h:K a):stillS P ops S [] K a:=h
def setAll (l:Array Bool):List Nat->Array Bool
 | []=>l
 | i :: is=>setAll (l.setIfInBounds i true) is
def batchB (md:Region.Mode) (ops:Array Oper) (ds:List Nat) (l:Array Bool):List Nat->Bool
 | []=>true
 | i :: is=>takeB md ops ds l (l.setIfInBounds i true) i && batchB md ops ds (l.setIfInBounds i true) is
theorem batch_go {w:World} (hQ:∀ N v c a w,Q (.panic c) (Go.Act.put a N v) w->Q (.panic c) a w) (hS:S w) {l':Array Bool} {fuel:Nat}:∀ (is:List Nat) (l:Array Bool) (a:Go.Act),batchB md ops ds l is=true->setAll l is=l'->
  stillS P ops S is (fun a'=>wpAnyLast P md ops Q S ds fuel l' a' w) a->wpAnyLast P md ops Q S ds (fuel+is.length) l a w
 | [],l,a,_,hl,h=>by
  subst hl
  exact h
 | i :: is,l,a,hB,hl,h=>by
  obtain ⟨oi,v,hi,hy,h⟩:=h;simp only [batchB,Bool.and_eq_true] at hB;exact take_ (l.setIfInBounds i true) hi rfl hB.1 (fun c a w=>hQ _ _ c a w) hy hS rfl (batch_go hQ hS is _ _ hB.2 hl h)
theorem batch_ {w:World} {fuel n:Nat} {l:Array Bool} {a:Go.Act} (is:List Nat) (l':Array Bool) (hc:(batchB md ops ds l is && (setAll l is == l') && (is.length == n))=true) (hQ:∀ N v c a w,Q (.panic c) (Go.Act.put a N v) w->Q (.panic c) a w) (hS:S w)
  (h:stillS P ops S is (fun a'=>wpAnyLast P md ops Q S ds fuel l' a' w) a):wpAnyLast P md ops Q S ds (fuel+n) l a w:=by
 simp only [Bool.and_eq_true,beq_iff_eq] at hc;obtain ⟨⟨h1,h2⟩,h3⟩:=hc;subst h3;exact batch_go hQ hS is l a h1 h2 h
end
section
variable {P:Program} {ops:Array Oper} {Q:Exit->Go.Act->World->Prop} {md:Region.Mode} {S:World->Prop} {ds:List Nat}
theorem ba9 {w:World} {fuel n:Nat} {l:Array Bool} {a:Go.Act} (is:List Nat) (hc:(batchB md ops ds l is && (is.length == n)) = true) (hQ:∀ N v c a w,Q (.panic c) (Go.Act.put a N v) w->Q (.panic c) a w) (hS:S w)
  (h:stillS P ops S is (fun a'=>wpAnyLast P md ops Q S ds fuel (setAll l is) a' w) a):wpAnyLast P md ops Q S ds (fuel+n) l a w:=batch_ is _ (by simpa [and_assoc] using hc) hQ hS h
end
end Go.Proofs.YtclangliilnijaaGreatDoor.Eq

namespace Go.Proofs.YtclangliilnijaaGreatDoor.Eq
open Go.RowKit Go.Proofs.YtclangliilnijaaGreatDoorW.PrintWords Go.Proofs.YtclangliilnijaaGreatDoorW.PrintLast
structure Deed where
 kind:Int
 a:Int
 b:Int
 deriving DecidableEq
def zDeed:Deed:=⟨0,0,0⟩
def kDeed:Kd Deed:=Kd.iso (Kd.pair (Kd.int .i64) (Kd.pair (Kd.int .i64) (Kd.int .i64))) (fun x:Deed=>(x.kind,x.a,x.b))
theorem kDeed_open {w:World} {x:Deed} {cs:List Value} (h:kDeed.K w x cs):cs= [.int .i64 x.kind,.int .i64 x.a,.int .i64 x.b]:=by
 obtain ⟨_,_,rfl,rfl,⟨_,_,rfl,rfl,rfl⟩⟩:=h;exact rfl
theorem kDeed_mkM {w:World} {base:Nat} {ok:Nat->Prop} (x:Deed):kDeed.M w base ok x [.int .i64 x.kind,.int .i64 x.a,.int .i64 x.b]:=
 ⟨[.int .i64 x.kind], [.int .i64 x.a,.int .i64 x.b],rfl,rfl,⟨[.int .i64 x.a], [.int .i64 x.b],rfl,rfl,rfl⟩⟩
structure Act where
 kind:Int
 deeds:List Deed
 kids:List Int
 reg:Int
 deriving DecidableEq
def zAct:Act:=⟨0, [], [],0⟩
def kAct:Kd Act:=Kd.iso (Kd.pair (Kd.int .i64) (Kd.pair (Kd.slice 197 kDeed) (Kd.pair (Kd.slice 3 (Kd.int .i64)) (Kd.int .i64)))) (fun x:Act=>(x.kind,x.deeds,x.kids,x.reg))
theorem kAct_open {w:World} {x:Act} {cs:List Value} (h:kAct.K w x cs):∃ A_deeds c_deeds A_kids c_kids,cs= [.int .i64 x.kind,.slice A_deeds x.deeds.length c_deeds,.slice A_kids x.kids.length c_kids,.int .i64 x.reg]/\x.deeds.length<=c_deeds/\kDeed.C w A_deeds x.deeds.length x.deeds/\x.kids.length<=c_kids/\(Kd.int .i64).C w A_kids x.kids.length x.kids:=by
 obtain ⟨_,_,rfl,rfl,⟨_,_,rfl,⟨A_deeds,c_deeds,rfl,l_deeds,g_deeds⟩,⟨_,_,rfl,⟨A_kids,c_kids,rfl,l_kids,g_kids⟩,rfl⟩⟩⟩:=h;exact ⟨A_deeds,c_deeds,A_kids,c_kids,rfl,l_deeds,g_deeds,l_kids,g_kids⟩
theorem kAct_mk {w:World} (x:Act) {A_deeds:Option Addr} {c_deeds:Nat} (l_deeds:x.deeds.length<=c_deeds) (g_deeds:kDeed.C w A_deeds x.deeds.length x.deeds) {A_kids:Option Addr} {c_kids:Nat} (l_kids:x.kids.length<=c_kids) (g_kids:(Kd.int .i64).C w A_kids x.kids.length x.kids):kAct.K w x [.int .i64 x.kind,.slice A_deeds x.deeds.length c_deeds,.slice A_kids x.kids.length c_kids,.int .i64 x.reg]:=
 ⟨[.int .i64 x.kind], [.slice A_deeds x.deeds.length c_deeds,.slice A_kids x.kids.length c_kids,.int .i64 x.reg],rfl,rfl,⟨[.slice A_deeds x.deeds.length c_deeds], [.slice A_kids x.kids.length c_kids,.int .i64 x.reg],rfl,⟨_,_,rfl,l_deeds,g_deeds⟩,⟨[.slice A_kids x.kids.length c_kids], [.int .i64 x.reg],rfl,⟨_,_,rfl,l_kids,g_kids⟩,rfl⟩⟩⟩
theorem kAct_openM {w:World} {base:Nat} {ok:Nat->Prop} {x:Act} {cs:List Value} (h:kAct.M w base ok x cs):∃ v_deeds v_kids,cs= [.int .i64 x.kind,v_deeds,v_kids,.int .i64 x.reg]/\kDeed.R 197 w base ok v_deeds x.deeds/\(Kd.int .i64).R 3 w base ok v_kids x.kids:=by
 obtain ⟨_,_,rfl,rfl,⟨_,_,rfl,⟨v_deeds,rfl,g_deeds⟩,⟨_,_,rfl,⟨v_kids,rfl,g_kids⟩,rfl⟩⟩⟩:=h;exact ⟨v_deeds,v_kids,rfl,g_deeds,g_kids⟩
theorem kAct_mkM {w:World} {base:Nat} {ok:Nat->Prop} (x:Act) {v_deeds:Value} (g_deeds:kDeed.R 197 w base ok v_deeds x.deeds) {v_kids:Value} (g_kids:(Kd.int .i64).R 3 w base ok v_kids x.kids):kAct.M w base ok x [.int .i64 x.kind,v_deeds,v_kids,.int .i64 x.reg]:=
 ⟨[.int .i64 x.kind], [v_deeds,v_kids,.int .i64 x.reg],rfl,rfl,⟨[v_deeds], [v_kids,.int .i64 x.reg],rfl,⟨_,rfl,g_deeds⟩,⟨[v_kids], [.int .i64 x.reg],rfl,⟨_,rfl,g_kids⟩,rfl⟩⟩⟩
structure Prog where
 cells:List Int
 bodies:List (List Act)
 deriving DecidableEq
def kProg:Kd Prog:=Kd.iso (Kd.pair (Kd.slice 3 (Kd.int .i64)) (Kd.slice 60 (Kd.slice 68 kAct))) (fun x:Prog=>(x.cells,x.bodies))
theorem kProg_open {w:World} {x:Prog} {cs:List Value} (h:kProg.K w x cs):∃ A_cells c_cells A_bodies c_bodies,cs= [.slice A_cells x.cells.length c_cells,.slice A_bodies x.bodies.length c_bodies]/\x.cells.length<=c_cells/\(Kd.int .i64).C w A_cells x.cells.length x.cells/\x.bodies.length<=c_bodies/\(Kd.slice 68 kAct).C w A_bodies x.bodies.length x.bodies:=by
 obtain ⟨_,_,rfl,⟨A_cells,c_cells,rfl,l_cells,g_cells⟩,⟨A_bodies,c_bodies,rfl,l_bodies,g_bodies⟩⟩:=h;exact ⟨A_cells,c_cells,A_bodies,c_bodies,rfl,l_cells,g_cells,l_bodies,g_bodies⟩
theorem kProg_openM {w:World} {base:Nat} {ok:Nat->Prop} {x:Prog} {cs:List Value} (h:kProg.M w base ok x cs):∃ v_cells v_bodies,cs= [v_cells,v_bodies]/\(Kd.int .i64).R 3 w base ok v_cells x.cells/\(Kd.slice 68 kAct).R 60 w base ok v_bodies x.bodies:=by
 obtain ⟨_,_,rfl,⟨v_cells,rfl,g_cells⟩,⟨v_bodies,rfl,g_bodies⟩⟩:=h;exact ⟨v_cells,v_bodies,rfl,g_cells,g_bodies⟩
theorem kProg_mkM {w:World} {base:Nat} {ok:Nat->Prop} (x:Prog) {v_cells:Value} (g_cells:(Kd.int .i64).R 3 w base ok v_cells x.cells) {v_bodies:Value} (g_bodies:(Kd.slice 68 kAct).R 60 w base ok v_bodies x.bodies):kProg.M w base ok x [v_cells,v_bodies]:=
 ⟨[v_cells], [v_bodies],rfl,⟨_,rfl,g_cells⟩,⟨_,rfl,g_bodies⟩⟩
end Go.Proofs.YtclangliilnijaaGreatDoor.Eq
namespace Go.Proofs.YtclangliilnijaaGreatDoor.Eq
def inB (n lo hi:Int):Bool:=decide (lo<=n) && decide (n<=hi)
theorem inB_iff {n lo hi:Int}:inB n lo hi=true ↔ lo<=n/\n<=hi:=by simp [inB]
theorem inB_not {n lo hi:Int}:inB n lo hi=false ↔ ¬ (lo<=n/\n<=hi):=by rw [<-inB_iff];simp
def allB (n:Nat) (f:Nat->Bool):Bool:=decide (∀ i,i < n->f i=true)
theorem allB_iff {n:Nat} {f:Nat->Bool}:allB n f=true ↔ ∀ i,i < n->f i=true:=by simp [allB]
theorem allB_no {n i:Nat} {f:Nat->Bool} (hi:i < n) (h:f i=false):allB n f=false:=by
 rw [Bool.eq_false_iff];intro h';rw [allB_iff.1 h' i hi] at h;cases h
def cntTo (f:Nat->Bool):Nat->Nat
 | 0=>0
 | n+1=>cntTo f n+if f n then 1 else 0
theorem cntTo_le (f:Nat->Bool):∀ n,cntTo f n<=n
 | 0=>Nat.le_refl _
 | n+1=>by
  have:=cntTo_le f n
  unfold cntTo;split <;> omega
def putAt (xs:List Put) (i:Nat):Put:=xs.getD i zPut
def cellAt (xs:List Cell) (i:Nat):Cell:=xs.getD i zCell
def entryAt (xs:List Entry) (i:Nat):Entry:=xs.getD i zEntry
def actsAt (bs:List (List Act)) (i:Nat):List Act:=bs.getD i []
def actAt (xs:List Act) (i:Nat):Act:=xs.getD i zAct
def deedAt (xs:List Deed) (i:Nat):Deed:=xs.getD i zDeed
def numAt (xs:List Int) (i:Nat):Int:=xs.getD i 0
def deedOk (d:Deed) (cells:Int):Bool:=
 if d.kind=1 then inB d.a 0 2 && inB d.b 0 (cells - 1)
 else if d.kind=2 then inB d.a 0 (cells - 1) && inB d.b 0 2
 else if d.kind=3 then inB d.a 0 2 && inB d.b 0 99
 else if d.kind=4 then inB d.a 0 2 && inB d.b 0 2
 else if d.kind=5 then inB d.a 0 2 && decide (d.b=0)
 else false
def deedsOk (ds:List Deed) (cells:Int):Bool:=allB ds.length fun i=>deedOk (deedAt ds i) cells
def kidsOk (ks:List Int) (body bodies:Int):Bool:=allB ks.length (fun i=>inB (numAt ks i) (body+1) (bodies - 1)) && inB ks.length 1 2
def actOk (cells bodies body:Int) (a:Act):Bool:=
 if (a.kind ≠ 1/\a.deeds ≠ [])\/(a.kind ≠ 2/\a.kids ≠ [])\/(a.kind ≠ 4/\a.reg ≠ 0) then false
 else if a.kind=1 then deedsOk a.deeds cells && decide (a.deeds.length<=5)
 else if a.kind=2 then kidsOk a.kids body bodies
 else if a.kind=3 then true
 else if a.kind=4 then inB a.reg 0 2
 else false
def bodyOk (cells bodies body:Int) (acts:List Act):Bool:=decide (acts.length<=4) && allB acts.length fun k=>actOk cells bodies body (actAt acts k)
def formOk (p:Prog):Bool:=decide (p.cells.length<=3) && inB p.bodies.length 1 4 && allB p.cells.length (fun i=>inB (numAt p.cells i) 0 99) && allB p.bodies.length fun i=>bodyOk p.cells.length p.bodies.length i (actsAt p.bodies i)
def sumL {α:Type} (f:α->Nat):List α->Nat
 | []=>0
 | a :: l=>f a+sumL f l
def treeN (bs:List (List Act)):Nat->Int->Nat
 | 0,_=>1
 | n+1,b=>1+sumL (fun a:Act=>sumL (treeN bs n) a.kids) (actsAt bs b.toNat)
def treeOf (p:Prog) (b:Int):Nat:=treeN p.bodies 4 b
def progOk (p:Prog):Bool:=formOk p && decide (treeOf p 0<=7)
def listOk (xs:List Put) (cells:Int):Bool:=allB xs.length fun i=>inB (putAt xs i).cell 0 (cells - 1) && inB (putAt xs i).num 0 99 && (decide (i=0) || decide ((putAt xs (i - 1)).cell < (putAt xs i).cell))
def numsOk (xs:List Int) (size:Int):Bool:=allB xs.length (fun i=>inB (numAt xs i) 0 99) && decide ((xs.length:Int)=size)
def findP (xs:List Put) (cell:Int):Option Nat:=xs.findIdx? fun x=>decide (x.cell=cell)
def kidsN (ts:List Task) (task way:Int):Nat:=cntTo (fun k=>decide ((taskAt ts k).up=task) && decide ((taskAt ts k).way=way)) ts.length
def stOk (t:Task) (deeds:Int):Bool:=
 if t.stage=0 then decide (t.at_=0) && decide (t.reads.length+t.puts.length=0)
 else if t.stage=1 then inB t.at_ 0 deeds
 else if t.stage=3 then decide (t.at_=0) && decide (0 < t.puts.length)
 else if t.stage=4 then inB t.at_ 0 t.reads.length && decide (0 < t.puts.length)
 else inB t.at_ 0 (t.puts.length - 1)
def timesOk (t:Task) (s:Sys):Bool:=
 inB t.since 0 s.clock && inB t.from_ 0 s.log.length &&
  (if t.stage=0 then inB t.when_ 0 (s.clock+1) else if t.stage=4\/t.stage=5 then inB t.when_ (t.since+1) s.clock else decide (t.when_=0))
def wayOk (p:Prog) (s:Sys) (i:Nat):Bool:=
 let t:=taskAt s.tasks i
 let acts:=actsAt p.bodies t.body.toNat
 if t.way=0 then decide (t.stage=0) || (decide (t.pc < acts.length) && decide ((actAt acts t.pc.toNat).kind=1) && stOk t (actAt acts t.pc.toNat).deeds.length)
 else if t.way=1 then decide (t.pc < acts.length) && decide ((actAt acts t.pc.toNat).kind=2) && decide ((actAt acts t.pc.toNat).kids.length<=kidsN s.tasks i 0+kidsN s.tasks i 1+kidsN s.tasks i 2+kidsN s.tasks i 3)
 else if t.way=2 then decide (t.pc=acts.length)
 else true
def upsOk (s:Sys) (i:Nat):Bool:=
 let t:=taskAt s.tasks i
 if i=0 then decide (t.up= -1)
 else inB t.up 0 (i - 1) && (!isLive t || decide ((taskAt s.tasks t.up.toNat).way=1))
def taskOk (p:Prog) (s:Sys) (i:Nat):Bool:=
 let t:=taskAt s.tasks i
 inB t.body 0 (p.bodies.length - 1) && inB t.pc 0 (actsAt p.bodies t.body.toNat).length && inB t.way 0 4 && inB t.stage 0 5 &&
  (decide (t.way=0) || decide (t.stage=0)) && numsOk t.regs 3 && numsOk t.old 3 && listOk t.reads s.cells.length && listOk t.puts s.cells.length &&
  (!decide (t.stage=0) || (decide (t.at_=0) && decide (t.reads.length+t.puts.length=0))) && timesOk t s && upsOk s i && wayOk p s i
def holds (t:Task) (cell:Int):Bool:=
 match findP t.puts cell with
 | none=>false
 | some i=>if t.stage=2 then decide ((i:Int) < t.at_) else if t.stage=3\/t.stage=4 then true else if t.stage=5 then decide (t.at_<=i) else false
def cellsOk (s:Sys):Bool:=allB s.cells.length fun i=>
 let c:=cellAt s.cells i
 inB c.num 0 99 && inB c.time 0 s.clock && inB c.lock (-1) (s.tasks.length - 1) && allB s.tasks.length fun k=>decide (holds (taskAt s.tasks k) i=decide (c.lock=k))
def logOk (p:Prog) (s:Sys):Bool:=allB s.log.length fun i=>
 let e:=entryAt s.log i
 inB e.task 0 (s.tasks.length - 1) && inB e.when_ 0 s.clock && inB e.from_ 0 i && listOk e.reads s.cells.length && listOk e.puts s.cells.length &&
  inB e.act 0 ((actsAt p.bodies (taskAt s.tasks e.task.toNat).body.toNat).length - 1)
def sysOk (p:Prog) (s:Sys):Bool:=
 progOk p && decide (s.cells.length=p.cells.length) && inB s.tasks.length 1 7 && inB s.clock 0 200 && allB s.tasks.length (taskOk p s) && cellsOk s && logOk p s
def tk (s:Sys) (i:Nat):Task:=taskAt s.tasks i
def ready (s:Sys) (i:Nat):Bool:=
 let t:=tk s i
 if 200<=s.clock then false
 else if t.way=0 then !decide (t.stage=0) || decide (t.when_<=s.clock)
 else if t.way=1 then decide (0 < kidsN s.tasks i 3) || decide (kidsN s.tasks i 0+kidsN s.tasks i 1=0)
 else false
def canDo (s:Sys) (k:Int):Bool:=inB k 0 (s.tasks.length - 1) && ready s k.toNat
end Go.Proofs.YtclangliilnijaaGreatDoor.Eq
namespace Go.Proofs.YtclangliilnijaaGreatDoor.Eq
open Go.RowKit Go.Proofs.YtclangliilnijaaGreatDoorW.PrintWords Go.Proofs.YtclangliilnijaaGreatDoorW.PrintLast Go.Proofs.YtclangliilnijaaGreatDoorW.PrintMore
def tagS {α:Type} (own:Nat->Nat) (e:Nat) (d:Kd α):Kd (List α × Nat) where
 sz:=1
 E:=e :: d.E
 K:=fun w x cs=>(Kd.slice e d).K w x.1 cs
 M:=fun w base ok x cs=>(Kd.slice e d).M w base (fun k=>ok k/\own k=x.2) x.1 cs
 K_len:=(Kd.slice e d).K_len
 K_one:=(Kd.slice e d).K_one
 K_below:=(Kd.slice e d).K_below
 K_of_M:=(Kd.slice e d).K_of_M
 M_mono:=fun h hm=>(Kd.slice e d).M_mono (fun k hk=>⟨h k hk.1,hk.2⟩) hm
 M_bound:=fun hm=>(Kd.slice e d).M_mono (fun k hk=>⟨⟨hk.1.1,hk.2.1,hk.2.2.1,hk.2.2.2⟩,hk.1.2⟩) ((Kd.slice e d).M_bound hm)
 M_move:=fun h hm=>(Kd.slice e d).M_move (fun k hk=>h k hk.1) hm
 M_lower:=(Kd.slice e d).M_lower
def kTaskO (own:Nat->Nat):Kd (Task × Nat):=Kd.iso (Kd.pair (Kd.int .i64) (Kd.pair (Kd.int .i64) (Kd.pair (Kd.int .i64) (Kd.pair (tagS own 3 (Kd.int .i64)) (Kd.pair (Kd.int .i64) (Kd.pair (Kd.int .i64) (Kd.pair (Kd.int .i64) (Kd.pair (Kd.int .i64) (Kd.pair (tagS own 3 (Kd.int .i64)) (Kd.pair (tagS own 65 kPut) (Kd.pair (tagS own 65 kPut) (Kd.pair (Kd.int .i64) (Kd.int .i64)))))))))))))
 (fun y:Task × Nat=>(y.1.body,y.1.pc,y.1.up,(y.1.regs,8+8*y.2),y.1.way,y.1.stage,y.1.at_,y.1.since,(y.1.old,9+8*y.2),(y.1.reads,10+8*y.2),(y.1.puts,11+8*y.2),y.1.when_,y.1.from_))
theorem kTaskO_sz (own:Nat->Nat):(kTaskO own).sz=13:=rfl
theorem kTaskO_open {own:Nat->Nat} {w:World} {base:Nat} {ok:Nat->Prop} {y:Task × Nat} {cs:List Value} (h:(kTaskO own).M w base ok y cs):∃ v_regs v_old v_reads v_puts,
  cs= [.int .i64 y.1.body,.int .i64 y.1.pc,.int .i64 y.1.up,v_regs,.int .i64 y.1.way,.int .i64 y.1.stage,.int .i64 y.1.at_,.int .i64 y.1.since,v_old,v_reads,v_puts,.int .i64 y.1.when_,.int .i64 y.1.from_]/\
  (Kd.int .i64).R 3 w base (fun k=>ok k/\own k=8+8*y.2) v_regs y.1.regs/\(Kd.int .i64).R 3 w base (fun k=>ok k/\own k=9+8*y.2) v_old y.1.old/\
  kPut.R 65 w base (fun k=>ok k/\own k=10+8*y.2) v_reads y.1.reads/\kPut.R 65 w base (fun k=>ok k/\own k=11+8*y.2) v_puts y.1.puts:=by
 obtain ⟨_,_,rfl,rfl,⟨_,_,rfl,rfl,⟨_,_,rfl,rfl,⟨_,_,rfl,⟨v_regs,rfl,g_regs⟩,⟨_,_,rfl,rfl,⟨_,_,rfl,rfl,⟨_,_,rfl,rfl,⟨_,_,rfl,rfl,⟨_,_,rfl,⟨v_old,rfl,g_old⟩,⟨_,_,rfl,⟨v_reads,rfl,g_reads⟩,⟨_,_,rfl,⟨v_puts,rfl,g_puts⟩,⟨_,_,rfl,rfl,rfl⟩⟩⟩⟩⟩⟩⟩⟩⟩⟩⟩⟩:=h;exact ⟨v_regs,v_old,v_reads,v_puts,rfl,g_regs,g_old,g_reads,g_puts⟩
theorem kTaskO_mk {own:Nat->Nat} {w:World} {base:Nat} {ok:Nat->Prop} (x:Task) (i:Nat) {v_regs v_old v_reads v_puts:Value}
  (g_regs:(Kd.int .i64).R 3 w base (fun k=>ok k/\own k=8+8*i) v_regs x.regs) (g_old:(Kd.int .i64).R 3 w base (fun k=>ok k/\own k=9+8*i) v_old x.old)
  (g_reads:kPut.R 65 w base (fun k=>ok k/\own k=10+8*i) v_reads x.reads) (g_puts:kPut.R 65 w base (fun k=>ok k/\own k=11+8*i) v_puts x.puts):
  (kTaskO own).M w base ok (x,i) [.int .i64 x.body,.int .i64 x.pc,.int .i64 x.up,v_regs,.int .i64 x.way,.int .i64 x.stage,.int .i64 x.at_,.int .i64 x.since,v_old,v_reads,v_puts,.int .i64 x.when_,.int .i64 x.from_]:=
 ⟨[.int .i64 x.body], [.int .i64 x.pc,.int .i64 x.up,v_regs,.int .i64 x.way,.int .i64 x.stage,.int .i64 x.at_,.int .i64 x.since,v_old,v_reads,v_puts,.int .i64 x.when_,.int .i64 x.from_],rfl,rfl,⟨[.int .i64 x.pc], [.int .i64 x.up,v_regs,.int .i64 x.way,.int .i64 x.stage,.int .i64 x.at_,.int .i64 x.since,v_old,v_reads,v_puts,.int .i64 x.when_,.int .i64 x.from_],rfl,rfl,⟨[.int .i64 x.up], [v_regs,.int .i64 x.way,.int .i64 x.stage,.int .i64 x.at_,.int .i64 x.since,v_old,v_reads,v_puts,.int .i64 x.when_,.int .i64 x.from_],rfl,rfl,⟨[v_regs], [.int .i64 x.way,.int .i64 x.stage,.int .i64 x.at_,.int .i64 x.since,v_old,v_reads,v_puts,.int .i64 x.when_,.int .i64 x.from_],rfl,⟨_,rfl,g_regs⟩,⟨[.int .i64 x.way], [.int .i64 x.stage,.int .i64 x.at_,.int .i64 x.since,v_old,v_reads,v_puts,.int .i64 x.when_,.int .i64 x.from_],rfl,rfl,⟨[.int .i64 x.stage], [.int .i64 x.at_,.int .i64 x.since,v_old,v_reads,v_puts,.int .i64 x.when_,.int .i64 x.from_],rfl,rfl,⟨[.int .i64 x.at_], [.int .i64 x.since,v_old,v_reads,v_puts,.int .i64 x.when_,.int .i64 x.from_],rfl,rfl,⟨[.int .i64 x.since], [v_old,v_reads,v_puts,.int .i64 x.when_,.int .i64 x.from_],rfl,rfl,⟨[v_old], [v_reads,v_puts,.int .i64 x.when_,.int .i64 x.from_],rfl,⟨_,rfl,g_old⟩,⟨[v_reads], [v_puts,.int .i64 x.when_,.int .i64 x.from_],rfl,⟨_,rfl,g_reads⟩,⟨[v_puts], [.int .i64 x.when_,.int .i64 x.from_],rfl,⟨_,rfl,g_puts⟩,⟨[.int .i64 x.when_], [.int .i64 x.from_],rfl,rfl,rfl⟩⟩⟩⟩⟩⟩⟩⟩⟩⟩⟩⟩
theorem kTaskO_own {own own':Nat->Nat} {w:World} {base:Nat} {ok:Nat->Prop} {y:Task × Nat} {cs:List Value} (ho:∀ k,k < w.heap.size->ok k->own' k=own k) (h:(kTaskO own).M w base ok y cs):(kTaskO own').M w base ok y cs:=by
 obtain ⟨x,i⟩:=y;obtain ⟨v3,v8,v9,v10,rfl,h3,h8,h9,h10⟩:=kTaskO_open h
 exact kTaskO_mk x i (Kd.R_mono (Kd.R_bound h3) fun k hk=>⟨hk.1.1,(ho k hk.2.2.1 hk.1.1).trans hk.1.2⟩) (Kd.R_mono (Kd.R_bound h8) fun k hk=>⟨hk.1.1,(ho k hk.2.2.1 hk.1.1).trans hk.1.2⟩)
  (Kd.R_mono (Kd.R_bound h9) fun k hk=>⟨hk.1.1,(ho k hk.2.2.1 hk.1.1).trans hk.1.2⟩) (Kd.R_mono (Kd.R_bound h10) fun k hk=>⟨hk.1.1,(ho k hk.2.2.1 hk.1.1).trans hk.1.2⟩)
section
variable {T B:Nat} {w0:World} {g:Nat} {own own':Nat->Nat} {vp vb:Value} {p:Prog} {s:Sys} {vc vt vl:Value} {W W1:World}
theorem zip_len (ts:List Task):ts.zipIdx.length=ts.length:=List.length_zipIdx
def tagB (own:Nat->Nat) (b:Option Nat) (t:Nat):Nat->Nat:=fun k=>if b=some k then t else own k
theorem kTaskO_ok {own:Nat->Nat} {w:World} {base:Nat} {ok:Nat->Prop} {y:Task × Nat} {cs:List Value} (h:(kTaskO own).M w base ok y cs):(kTaskO own).M w base (fun k=>8<=own k) y cs:=by
 obtain ⟨x,i⟩:=y;obtain ⟨v3,v8,v9,v10,rfl,h3,h8,h9,h10⟩:=kTaskO_open h;exact kTaskO_mk x i (Kd.R_mono h3 fun k hk=>⟨by omega,hk.2⟩) (Kd.R_mono h8 fun k hk=>⟨by omega,hk.2⟩) (Kd.R_mono h9 fun k hk=>⟨by omega,hk.2⟩) (Kd.R_mono h10 fun k hk=>⟨by omega,hk.2⟩)
end
def cellsT (x:Task) (v3 v8 v9 v10:Value):List Value:= [.int .i64 x.body,.int .i64 x.pc,.int .i64 x.up,v3,.int .i64 x.way,.int .i64 x.stage,.int .i64 x.at_,.int .i64 x.since,v8,v9,v10,.int .i64 x.when_,.int .i64 x.from_]
section
variable {T B:Nat} {w0:World} {g:Nat} {own own':Nat->Nat} {vp vb:Value} {p:Prog} {s:Sys} {vc vt vl:Value} {W W1:World}
theorem R_flat {α:Type} {d:Kd α} (hd:∀ w base ok ok' x cs,d.M w base ok x cs->d.M w base ok' x cs) {e base:Nat} {ok ok':Nat->Prop} {v:Value} {xs:List α} (h:d.R e W base ok v xs) (hv:∀ k,v.ownBlock=some k->ok' k):d.R e W base ok' v xs:=
 ⟨hv,h.2.imp_ (fun _ _ hp=>hd _ _ _ _ _ _ hp)⟩
theorem flat_int:∀ (w:World) base ok ok' x cs,(Kd.int .i64).M w base ok x cs->(Kd.int .i64).M w base ok' x cs:=fun _ _ _ _ _ _ h=>h
theorem flat_put:∀ (w:World) base ok ok' x cs,kPut.M w base ok x cs->kPut.M w base ok' x cs:=fun _ _ _ _ _ _ h=>h
theorem flat_cell:∀ (w:World) base ok ok' x cs,kCell.M w base ok x cs->kCell.M w base ok' x cs:=fun _ _ _ _ _ _ h=>h
theorem R_in {α:Type} {d:Kd α} {e base:Nat} {ok:Nat->Prop} {v:Value} {xs:List α} (h:d.R e W base ok v xs):∀ k,v.ownBlock=some k->ok k/\base<=k/\k < W.heap.size:=fun k hk=>by
 obtain ⟨h1,h2,h3,_⟩:=(Kd.R_bound h).1 k hk;exact ⟨h1,h2,h3⟩
theorem tagB_at {own:Nat->Nat} {b:Option Nat} {t k:Nat} (h:b=some k):tagB own b t k=t:=by simp [tagB,h]
end
section
variable {T B:Nat} {w0:World} {g:Nat} {own:Nat->Nat} {vp vb:Value} {p:Prog} {s:Sys} {vc vt vl:Value} {W W1:World}
open Classical in
noncomputable def tagZ (own:Nat->Nat) (B:Nat) (W:World) (E:List Nat) (t:Nat):Nat->Nat:=fun k=>
 if own k=0/\B<=k/\k < W.heap.size/\∃ q,q ∈ E/\∃ cells,W.heap[k]? = some (.cells cells q (0,0)) then t else own k
theorem tagZ_yes {E:List Nat} {t k:Nat} (h:own k=0/\B<=k/\k < W.heap.size/\∃ q,q ∈ E/\∃ cells,W.heap[k]? = some (.cells cells q (0,0))):tagZ own B W E t k=t:=if_pos h
theorem tagZ_own {E:List Nat} {t k:Nat} (h:own k ≠ 0):tagZ own B W E t k=own k:=if_neg (fun h'=>h h'.1)
theorem tagZ_lo {E:List Nat} {t k:Nat} (h:k < B):tagZ own B W E t k=own k:=if_neg (fun h'=>by have:=h'.2.1;omega)
theorem tagZ_hi {E:List Nat} {t k:Nat} (h:W.heap.size<=k):tagZ own B W E t k=own k:=if_neg (fun h'=>by have:=h'.2.2.1;omega)
end
end Go.Proofs.YtclangliilnijaaGreatDoor.Eq




namespace Go.Proofs.YtclangliilnijaaGreatDoor.Eq
open Go.RowKit Go.Proofs.YtclangliilnijaaGreatDoorW.PrintWords Go.Proofs.YtclangliilnijaaGreatDoorW.PrintLast Go.Proofs.YtclangliilnijaaGreatDoorW.PrintMore
def tag4 (own:Nat->Nat) (v3 v8 v9 v10:Value) (L:Nat):Nat->Nat:=tagB (tagB (tagB (tagB own v3.ownBlock (8+8*L)) v8.ownBlock (9+8*L)) v9.ownBlock (10+8*L)) v10.ownBlock (11+8*L)
theorem tagB_off {own:Nat->Nat} {b:Option Nat} {t k:Nat} (h:b ≠ some k):tagB own b t k=own k:=by simp [tagB,h]
end Go.Proofs.YtclangliilnijaaGreatDoor.Eq



namespace Go.Proofs.YtclangliilnijaaGreatDoor.Eq
structure PutsIn (n:Nat) (l:List Put):Prop where
 cell:∀ x ∈ l,0<=x.cell/\x.cell < n
 num:∀ x ∈ l,0<=x.num/\x.num<=99
 asc:l.Pairwise fun x y=>x.cell < y.cell
theorem asc_len (n:Nat):∀ (l:List Put) (lo:Int),0<=lo->(∀ x ∈ l,lo<=x.cell/\x.cell < n)->l.Pairwise (fun x y=>x.cell < y.cell)->(l.length:Int)<=max 0 (n - lo)
 | [],lo,_,_,_=>by simp;omega
 | y :: l,lo,h0,h,hp=>by
  have h1:=h y (by simp);rw [List.pairwise_cons] at hp;have:=asc_len n l (y.cell+1) (by omega) (fun x hx=>⟨by have:=hp.1 x hx;omega,(h x (by simp [hx])).2⟩) hp.2;simp only [List.length_cons];omega
theorem PutsIn.len {n:Nat} {l:List Put} (h:PutsIn n l):l.length<=n:=by
 have:=asc_len n l 0 (by omega) h.cell h.asc
 omega
structure NumsIn (l:List Int):Prop where
 len:l.length=3
 num:∀ k,k < 3->0<=numAt l k/\numAt l k<=99
theorem numAt_set {l:List Int} {k j:Nat} {x:Int} (hk:k < l.length):numAt (l.set k x) j=if k=j then x else numAt l j:=by
 simp only [numAt,List.getD_eq_getElem?_getD,List.getElem?_set];split
 ·rename_i h
  subst h;simp [hk]
 ·rfl
theorem actsAt_eq {bs:List (List Act)} {i:Nat} (h:i < bs.length):actsAt bs i=bs[i]:=by simp [actsAt,h]
theorem form_act {p:Prog} (h:formOk p=true) {b:Int} (hb:0<=b/\b < p.bodies.length) {k:Nat} (hk:k < (actsAt p.bodies b.toNat).length):actOk p.cells.length p.bodies.length b (actAt (actsAt p.bodies b.toNat) k)=true:=by
 simp only [formOk,Bool.and_eq_true,allB_iff] at h
 have:=h.2 b.toNat (by omega)
 simp only [bodyOk,Bool.and_eq_true,allB_iff] at this;have h2:=this.2 k hk;rwa [show ((b.toNat:Nat):Int)=b by omega] at h2
theorem form_acts {p:Prog} (h:formOk p=true) {b:Int} (hb:0<=b/\b < p.bodies.length):(actsAt p.bodies b.toNat).length<=4:=by
 simp only [formOk,Bool.and_eq_true,allB_iff] at h
 have:=h.2 b.toNat (by omega)
 simp only [bodyOk,Bool.and_eq_true,decide_eq_true_eq] at this;exact this.1
theorem form_cells {p:Prog} (h:formOk p=true):p.cells.length<=3/\1<=p.bodies.length/\p.bodies.length<=4:=by
 simp only [formOk,Bool.and_eq_true,decide_eq_true_eq,inB_iff] at h;omega
theorem act_kids {cells bodies body:Int} {a:Act} (h:actOk cells bodies body a=true) (hk:a.kind=2):a.kids.length<=2/\1<=a.kids.length/\∀ k,k < a.kids.length->body+1<=numAt a.kids k/\numAt a.kids k<=bodies - 1:=by
 unfold actOk at h;split at h
 ·cases h
 ·rw [if_neg (by omega)] at h
  (try rw [if_pos hk] at h)
  simp only [Bool.and_eq_true,kidsOk,allB_iff,inB_iff] at h;exact ⟨by omega,by omega,fun k hk=>h.1 k hk⟩
structure TInv (p:Prog) (clock:Int) (i:Nat) (t:Task):Prop where
 body0:0<=t.body
 body1:t.body < p.bodies.length
 pc0:0<=t.pc
 pc1:t.pc<=(actsAt p.bodies t.body.toNat).length
 up0: -1<=t.up
 up1:t.up < i
 regs:NumsIn t.regs
 old:NumsIn t.old
 reads:PutsIn p.cells.length t.reads
 puts:PutsIn p.cells.length t.puts
 since0:0<=t.since
 since1:t.since<=clock
 at0:0<=t.at_
 stages:0<=t.stage/\t.stage<=5
 try1:t.stage ≠ 0->t.way=0/\t.pc < (actsAt p.bodies t.body.toNat).length/\(actAt (actsAt p.bodies t.body.toNat) t.pc.toNat).kind=1
 at1:t.stage=2\/t.stage=5->t.at_ < t.puts.length
 some:t.stage=3\/t.stage=4->t.puts ≠ []
 wait:t.way=1->t.pc < (actsAt p.bodies t.body.toNat).length/\(actAt (actsAt p.bodies t.body.toNat) t.pc.toNat).kind=2
def busy (t:Task):Nat:=if t.stage=0 then 0 else 1
theorem sumL_append {α:Type} (f:α->Nat):∀ (l m:List α),sumL f (l ++ m)=sumL f l+sumL f m
 | [],m=>by simp [sumL]
 | a :: l,m=>by simp [sumL,sumL_append f l m];omega
structure Inv (p:Prog) (s:Sys) (N:Nat):Prop where
 prog:progOk p=true
 cells:s.cells.length=p.cells.length
 nums:∀ k,k < s.cells.length->0<=(cellAt s.cells k).num/\(cellAt s.cells k).num<=99
 task:∀ i,i < s.tasks.length->TInv p s.clock i (tk s i)
 clock0:0<=s.clock
 clock1:s.clock<=200
 room:s.log.length+sumL busy s.tasks<=N
 many:s.tasks.length<=N
 logs:∀ e ∈ s.log,e.reads.length<=3/\e.puts.length<=3
section
variable {p:Prog} {s:Sys} {N i j:Nat}
theorem putsIn_of {xs:List Put} {n:Nat} (h:listOk xs n=true):PutsIn n xs:=by
 simp only [listOk,allB_iff,Bool.and_eq_true,inB_iff,Bool.or_eq_true,decide_eq_true_eq] at h;have hat:∀ k (hk:k < xs.length),putAt xs k=xs[k]:=fun k hk=>by simp [putAt,hk]
 refine ⟨fun x hx=> ?_,fun x hx=> ?_, ?_⟩
 ·obtain ⟨k,hk,rfl⟩:=List.mem_iff_getElem.1 hx
  have:=(h k hk).1.1
  rw [hat k hk] at this;omega
 ·obtain ⟨k,hk,rfl⟩:=List.mem_iff_getElem.1 hx
  have:=(h k hk).1.2
  rw [hat k hk] at this;omega
 ·have:∀ d k,(hk:k+d+1 < xs.length)->(putAt xs k).cell < (putAt xs (k+d+1)).cell:=by
   intro d
   induction d with
   | zero=>
    intro k hk
    have:=(h (k+1) hk).2
    simpa using this
   | succ d ih=>
    intro k hk;have h1:=ih k (by omega);have h2:=(h (k+(d+1)+1) hk).2;have h3:k+(d+1)+1 - 1=k+d+1:=by omega
    rw [h3] at h2;rcases h2 with h2 | h2
    ·omega
    ·omega
  rw [List.pairwise_iff_getElem];intro a b ha hb hab;have:=this (b - a - 1) a (by omega);rw [show a+(b - a - 1)+1=b by omega,hat a ha,hat b hb] at this;exact this
theorem numsIn_of {xs:List Int} (h:numsOk xs 3=true):NumsIn xs:=by
 simp only [numsOk,Bool.and_eq_true,allB_iff,inB_iff,decide_eq_true_eq] at h;have hl:xs.length=3:=by omega
 exact ⟨hl,fun k hk=>h.1 k (by omega)⟩
theorem Inv.ofOk (h:sysOk p s=true):Inv p s (s.log.length+s.tasks.length):=by
 simp only [sysOk,Bool.and_eq_true,decide_eq_true_eq,inB_iff,allB_iff] at h;obtain ⟨⟨⟨⟨⟨⟨hp,hc⟩,ht⟩,hk⟩,hT⟩,hC⟩,hL⟩:=h;refine ⟨hp,hc,fun k hk=> ?_,fun i hi=> ?_,hk.1,hk.2, ?_,by omega,fun e he=> ?_⟩
 ·simp only [cellsOk,allB_iff,Bool.and_eq_true,inB_iff] at hC
  exact (hC k hk).1.1.1
 ·have h1:=hT i hi
  simp only [taskOk,Bool.and_eq_true,inB_iff,decide_eq_true_eq,Bool.or_eq_true,Bool.not_eq_true',decide_eq_false_iff_not] at h1;obtain ⟨⟨⟨⟨⟨⟨⟨⟨⟨⟨⟨⟨hb,hpc⟩,hw⟩,hst⟩,hwr⟩,hr⟩,ho⟩,hrd⟩,hpt⟩,hz⟩,htm⟩,hup⟩,hwy⟩:=h1;rw [hc] at hrd hpt;change wayOk p s i=true at hwy;unfold wayOk at hwy;simp only [] at hwy;unfold timesOk at htm;simp only [Bool.and_eq_true,inB_iff] at htm;unfold upsOk at hup;simp only [] at hup;change _/\_ at hb
  have hup': -1<=(tk s i).up/\(tk s i).up < i:=by
   show -1<=(taskAt s.tasks i).up/\(taskAt s.tasks i).up < i;split at hup
   ·rename_i h0
    have:(taskAt s.tasks i).up= -1:=by simpa using hup
    omega
   ·simp only [Bool.and_eq_true,inB_iff] at hup
    omega
  have hway:∀ hs:(tk s i).stage ≠ 0,(tk s i).way=0/\((tk s i).pc < (actsAt p.bodies (tk s i).body.toNat).length/\(actAt (actsAt p.bodies (tk s i).body.toNat) (tk s i).pc.toNat).kind=1)/\stOk (tk s i) (actAt (actsAt p.bodies (tk s i).body.toNat) (tk s i).pc.toNat).deeds.length=true:=by
   intro hs
   have hw0:(taskAt s.tasks i).way=0:=by
    rcases hwr with h | h
    ·exact h
    ·exact absurd h hs
   refine ⟨hw0, ?_⟩;rw [if_pos hw0] at hwy;simp only [Bool.or_eq_true,decide_eq_true_eq,Bool.and_eq_true] at hwy;rcases hwy with h | h
   ·exact absurd h hs
   ·exact ⟨h.1,h.2⟩
  refine ⟨hb.1,by have:=hb.2;show (taskAt s.tasks i).body < _;omega,hpc.1,hpc.2,hup'.1,hup'.2,numsIn_of hr,numsIn_of ho,putsIn_of hrd,putsIn_of hpt,htm.1.1.1,htm.1.1.2, ?_,hst,fun hs=>⟨(hway hs).1,(hway hs).2.1⟩,fun hs=> ?_,fun hs=> ?_,fun hw1=> ?_⟩
  ·by_cases h0:(tk s i).stage=0
   ·rcases hz with hz | hz
    ·exact absurd h0 hz
    ·exact Int.le_of_eq hz.1.symm
   ·have h2:=(hway h0).2.2
    unfold stOk at h2;rw [if_neg h0] at h2;repeat' split at h2
    all_goals simp only [Bool.and_eq_true,inB_iff,decide_eq_true_eq] at h2
    all_goals omega
  ·have h0:(tk s i).stage ≠ 0:=by omega
   have h2:=(hway h0).2.2;unfold stOk at h2;rw [if_neg h0,if_neg (by omega),if_neg (by omega),if_neg (by omega)] at h2;simp only [inB_iff] at h2;omega
  ·have h0:(tk s i).stage ≠ 0:=by omega
   have h2:=(hway h0).2.2;unfold stOk at h2;rw [if_neg h0,if_neg (by omega)] at h2;rcases hs with h3 | h4
   ·rw [if_pos h3] at h2
    simp only [Bool.and_eq_true,decide_eq_true_eq] at h2;exact List.length_pos_iff.1 h2.2
   ·rw [if_neg (by omega),if_pos h4] at h2
    simp only [Bool.and_eq_true,decide_eq_true_eq] at h2;exact List.length_pos_iff.1 h2.2
  ·have hw1':(taskAt s.tasks i).way=1:=hw1
   rw [if_neg (by omega),if_pos hw1'] at hwy;simp only [Bool.and_eq_true,decide_eq_true_eq] at hwy;exact hwy.1
 ·have:∀ l:List Task,sumL busy l<=l.length:=by
   intro l
   induction l with
   | nil=>exact Nat.le_refl _
   | cons a l ih=>
    have:busy a<=1:=by unfold busy;split <;> omega
    simp only [sumL,List.length_cons];omega
  have:=this s.tasks
  omega
 ·obtain ⟨k,hk,rfl⟩:=List.mem_iff_getElem.1 he
  simp only [logOk,allB_iff,Bool.and_eq_true] at hL;have h1:=hL k hk;have he:entryAt s.log k=s.log[k]:=by simp [entryAt,hk]
  rw [he,hc] at h1
  have hf:formOk p=true:=by
   simp only [progOk,Bool.and_eq_true] at hp;exact hp.1
  have h3:=(form_cells hf).1;exact ⟨Nat.le_trans (putsIn_of h1.1.1.2).len h3,Nat.le_trans (putsIn_of h1.1.2).len h3⟩
end
end Go.Proofs.YtclangliilnijaaGreatDoor.Eq

namespace Go.Proofs.YtclangliilnijaaGreatDoor.Eq
open Go.RowKit Go.Proofs.YtclangliilnijaaGreatDoorW.PrintWords Go.Proofs.YtclangliilnijaaGreatDoorW.PrintLast Go.Proofs.YtclangliilnijaaGreatDoorW.PrintMore
structure RO (g:Nat) (vp vb:Value) (p:Prog) (s:Sys) (vc vt vl:Value) (W:World):Prop where
 blk:W.heap[g]? = some (.cells #[vp,vb,vc,vt,.int .i64 s.clock,vl] 84 (0,0))
 prog:kProg.K W p [vp,vb]
 sys:kSys.K W s [vc,vt,.int .i64 s.clock,vl]
theorem RO.below {g:Nat} {vp vb:Value} {p:Prog} {s:Sys} {vc vt vl:Value} {W W1:World} (h:RO g vp vb p s vc vt vl W) (hb:Below W.heap.size W W1):RO g vp vb p s vc vt vl W1:=
 ⟨zb8 h.blk hb,kProg.K_below hb h.prog,kSys.K_below hb h.sys⟩
theorem taskO_C {own:Nat->Nat} {W:World} {A:Option Addr} {n:Nat} {ts:List Task} (h:(kTaskO own).C W A n ts.zipIdx):kTask.C W A n ts:=by
 obtain ⟨h1,h2,h3⟩:=h;refine ⟨by rw [<-h1,zip_len],h2,fun hn=> ?_⟩;obtain ⟨ad,ha,hr⟩:=h3 hn;refine ⟨ad,ha,fun j p hp=> ?_⟩;exact hr j (p,j) (by rw [List.getElem?_zipIdx,hp];simp)
theorem kidsN_next (f:Nat->Bool) (k:Nat):cntTo f (k+1)=cntTo f k+if f k then 1 else 0:=rfl
theorem kids_calls {g:Nat} {vp vb:Value} {p:Prog} {s:Sys} {vc vt vl:Value} (task way:Int) (w:World) (h:RO g vp vb p s vc vt vl w) (hn:s.tasks.length<=1048576):
  Calls Tryz.prog 84 #[.pointer (some ⟨g,0,none⟩),.int .i64 task,.int .i64 way] w fun e w'=>e= .returned (.int .i64 (kidsN s.tasks task way))/\w'=w:=by
 obtain ⟨hblk,hp,hs⟩:=h;obtain ⟨A0,c0,A1,c1,A3,c3,he,l0,g0,l1,g1,l3,g3⟩:=kSys_open hs;simp only [List.cons.injEq,and_true,true_and] at he;obtain ⟨rfl,rfl,rfl⟩:=he;have G:=am g1;have BKc:=zc8 hblk;clear g0 g1 g3 l0 l1 l3 hs hp hblk;obtain ⟨f,hf⟩:∃ f:Nat->Bool,f=fun k=>decide ((taskAt s.tasks k).up=task) && decide ((taskAt s.tasks k).way=way):=⟨_,rfl⟩
 have hk0:kidsN s.tasks task way=cntTo f s.tasks.length:=by rw [hf];rfl
 rw [hk0];have HF:=am hf;clear hk0 hf;go_enter Tryz.func84,Tryz.ntmps84;go_wp2;go_loopw [7,8] (fun v i w'=>∃ k:Nat,k<=s.tasks.length/\i= .int .i64 k/\v= .int .i64 (cntTo f k)/\w'=w) (fun _ i _=>s.tasks.length - (intOf i).toNat)
 case atStart=>exact ⟨0,Nat.zero_le _,rfl,rfl,rfl⟩
 case round=>
  obtain ⟨k,hk,rfl,rfl,rfl⟩:=hrel;have hlen:=cntTo_le f k;by_cases hlt:k < s.tasks.length
  ·obtain ⟨b,o,cs,rfl,hcl,hK,hcc,hc0⟩:=C_field G.out zTask k hlt (by decide)
   rw [show s.tasks.getD k zTask=taskAt s.tasks k from rfl] at hK;obtain ⟨B3,d3,B8,d8,B9,d9,B10,d10,rfl,_,_,_,_,_,_,_,_⟩:=kTask_open hK;have h_up:=hcc 2 _ rfl;have h_way:=hcc 4 _ rfl;simp only [show kTask.sz=13 from rfl] at h_way h_up;clear hcc hc0 hK hcl;have q0:(0:Int)<=(k:Int):=by omega
   have q1:(k:Int) < (s.tasks.length:Int):=by omega
   by_cases hy:(taskAt s.tasks k).up=task
   ·have y0:((taskAt s.tasks k).up == task)=true:=by simp [hy]
    by_cases hz:(taskAt s.tasks k).way=way
    ·have y1:((taskAt s.tasks k).way == way)=true:=by simp [hz]
     have HY:=am (show f k=true by simp [HF.out,hy,hz]);clear hy hz;go_wp2;go_roundw
     case rel=>exact ⟨k+1,by omega,by go_num,by rw [kidsN_next,HY.out];go_num,trivial⟩
     case measure=>simp [intOf];omega
    ·have y1:((taskAt s.tasks k).way == way)=false:=by simp [hz]
     have HY:=am (show f k=false by simp [HF.out,hy,hz]);clear hy hz;go_wp2;go_roundw
     case rel=>exact ⟨k+1,by omega,by go_num,by rw [kidsN_next,HY.out];simp,trivial⟩
     case measure=>simp [intOf];omega
   ·have y0:((taskAt s.tasks k).up == task)=false:=by simp [hy]
    have HY:=am (show f k=false by simp [HF.out,hy]);clear hy;go_wp2;go_roundw
    case rel=>exact ⟨k+1,by omega,by go_num,by rw [kidsN_next,HY.out];simp,trivial⟩
    case measure=>simp [intOf];omega
  ·go_wp2
   go_ret;obtain rfl:k=s.tasks.length:=by omega
   exact ⟨rfl,rfl⟩
theorem cellB {w W:World} {b o:Nat} {v:Value} (hb:Below w.heap.size w W) (h:w.cell? ⟨b,o,none⟩=some v):W.cell? ⟨b,o,none⟩=some v:=((bcell hb).1 _ _ (World.block_lt_of_cell? _ _ h)).trans h
theorem C_nil {α:Type} (d:Kd α) (w:World):d.C w none 0 []:=⟨rfl,by decide,fun h=>absurd h (by decide)⟩
section
variable {g:Nat} {vp vb:Value} {p:Prog} {s:Sys} {vc vt vl:Value}
theorem ready_calls (i:Nat) (w:World) (h:RO g vp vb p s vc vt vl w) (hi:i < s.tasks.length) (hn:s.tasks.length<=1048576):
  Calls Tryz.prog 49 #[.pointer (some ⟨g,0,none⟩),.int .i64 i] w fun e w'=>e= .returned (.bool (ready s i))/\Below w.heap.size w w':=by
 have H:=am h;obtain ⟨hblk,hp,hs⟩:=h;obtain ⟨A0,c0,A1,c1,A3,c3,he,l0,g0,l1,g1,l3,g3⟩:=kSys_open hs;simp only [List.cons.injEq,and_true,true_and] at he;obtain ⟨rfl,rfl,rfl⟩:=he;obtain ⟨b,o,cs,rfl,hcl,hK,hcc,hc0⟩:=C_field g1 zTask i hi (by decide);rw [show s.tasks.getD i zTask=taskAt s.tasks i from rfl] at hK;obtain ⟨B3,d3,B8,d8,B9,d9,B10,d10,rfl,-⟩:=kTask_open hK;have HCC:=am hcc;have BKc:=zc8 H.out.blk;have q0:(0:Int)<=(i:Int):=by omega
 have q1:(i:Int) < (s.tasks.length:Int):=by omega
 clear g0 g1 g3 l0 l1 l3 hs hp hblk hcc hc0 hK hcl;obtain ⟨n3,hn3⟩:∃ n,n=kidsN s.tasks i 3:=⟨_,rfl⟩;obtain ⟨n0,hn0⟩:∃ n,n=kidsN s.tasks i 0:=⟨_,rfl⟩;obtain ⟨n1,hn1⟩:∃ n,n=kidsN s.tasks i 1:=⟨_,rfl⟩;have b0:n0<=1048576:=by rw [hn0];exact Nat.le_trans (cntTo_le _ _) hn
 have b1:n1<=1048576:=by rw [hn1];exact Nat.le_trans (cntTo_le _ _) hn
 have N0:=am hn0.symm;have N1:=am hn1.symm;have N3:=am hn3.symm;clear hn0 hn1 hn3;have HR:Aside0 (ready s i=if 200<=s.clock then false else if (taskAt s.tasks i).way=0 then !decide ((taskAt s.tasks i).stage=0) || decide ((taskAt s.tasks i).when_<=s.clock) else if (taskAt s.tasks i).way=1 then decide (0 < n3) || decide (n0+n1=0) else false):=⟨by rw [<-N0.out,<-N1.out,<-N3.out];rfl⟩;go_enter Tryz.func49,Tryz.ntmps49;by_cases hcl:200<=s.clock
 ·have y0:decide (200<=s.clock)=true:=decide_eq_true hcl
  have HC:=am hcl;clear hcl
  go_wp2_with (first
  |((with_reducible refine gate_dst (N:=13) rfl ?_);refine wpList_load_mid rfl 59 (.tmp 12) rfl b (o+i*13) rfl _ _ HCC.out Tryz.underlying59 rfl (by kernel_rfl) ?_)|((with_reducible refine gate_dst (N:=5) rfl ?_);refine box_event rfl (N:=5) rfl (t:=59) (by go_simp<;>rfl) ?_;intro gt hg w2 hbox hb;have BKt0:=am hbox;have GT:=am hg;have HB2:=am hb;clear hbox hb hg BKc)|((with_reducible refine gate_store (t:=59) (p:=5) rfl ?_);refine store_block rfl rfl 59 (.tmp 5) (.tmp 13) rfl rfl rfl BKt0.out rfl (by kernel_rfl) (aB rfl) ?_;intro w3 hbox hg;have BKt:=am hbox;have hbx:=pw_below_grown HB2.out _ HB2.out.size hg (fun z hz=>by cases hz;exact Nat.le_of_eq GT.out.symm);replace H:=am (H.out.below hbx);have HB:=am hbx;clear hbox hg BKt0 hbx HB2 HCC;have BKc:=zc8 H.out.blk;have BKtc:=zc8 BKt.out))
  go_ret;have hr:ready s i=false:=by rw [HR.out,if_pos HC.out]
  rw [hr];exact ⟨rfl,HB.out⟩
 ·have y0:decide (200<=s.clock)=false:=decide_eq_false hcl
  have HC:=am hcl;clear hcl;by_cases w0:(taskAt s.tasks i).way=0
  ·have y1:((taskAt s.tasks i).way == 0)=true:=by simp [w0]
   have W0:=am w0;clear w0;by_cases s0:(taskAt s.tasks i).stage=0
   ·have y2:((taskAt s.tasks i).stage != 0)=false:=by simp [s0]
    have S0:=am s0;clear s0
    go_wp2_with (first
    |((with_reducible refine gate_dst (N:=13) rfl ?_);refine wpList_load_mid rfl 59 (.tmp 12) rfl b (o+i*13) rfl _ _ HCC.out Tryz.underlying59 rfl (by kernel_rfl) ?_)|((with_reducible refine gate_dst (N:=5) rfl ?_);refine box_event rfl (N:=5) rfl (t:=59) (by go_simp<;>rfl) ?_;intro gt hg w2 hbox hb;have BKt0:=am hbox;have GT:=am hg;have HB2:=am hb;clear hbox hb hg BKc)|((with_reducible refine gate_store (t:=59) (p:=5) rfl ?_);refine store_block rfl rfl 59 (.tmp 5) (.tmp 13) rfl rfl rfl BKt0.out rfl (by kernel_rfl) (aB rfl) ?_;intro w3 hbox hg;have BKt:=am hbox;have hbx:=pw_below_grown HB2.out _ HB2.out.size hg (fun z hz=>by cases hz;exact Nat.le_of_eq GT.out.symm);replace H:=am (H.out.below hbx);have HB:=am hbx;clear hbox hg BKt0 hbx HB2 HCC;have BKc:=zc8 H.out.blk;have BKtc:=zc8 BKt.out))
    go_quiet (fail);go_wp2;go_ret;have hr:ready s i=decide ((taskAt s.tasks i).when_<=s.clock):=by rw [HR.out,if_neg (Int.not_le.2 HC.out),if_pos W0.out,S0.out];rfl
    rw [hr];exact ⟨rfl,pw_below_drewN HB.out _⟩
   ·have y2:((taskAt s.tasks i).stage != 0)=true:=by simp [s0]
    have S0:=am s0;clear s0
    go_wp2_with (first
    |((with_reducible refine gate_dst (N:=13) rfl ?_);refine wpList_load_mid rfl 59 (.tmp 12) rfl b (o+i*13) rfl _ _ HCC.out Tryz.underlying59 rfl (by kernel_rfl) ?_)|((with_reducible refine gate_dst (N:=5) rfl ?_);refine box_event rfl (N:=5) rfl (t:=59) (by go_simp<;>rfl) ?_;intro gt hg w2 hbox hb;have BKt0:=am hbox;have GT:=am hg;have HB2:=am hb;clear hbox hb hg BKc)|((with_reducible refine gate_store (t:=59) (p:=5) rfl ?_);refine store_block rfl rfl 59 (.tmp 5) (.tmp 13) rfl rfl rfl BKt0.out rfl (by kernel_rfl) (aB rfl) ?_;intro w3 hbox hg;have BKt:=am hbox;have hbx:=pw_below_grown HB2.out _ HB2.out.size hg (fun z hz=>by cases hz;exact Nat.le_of_eq GT.out.symm);replace H:=am (H.out.below hbx);have HB:=am hbx;clear hbox hg BKt0 hbx HB2 HCC;have BKc:=zc8 H.out.blk;have BKtc:=zc8 BKt.out))
    go_quiet (fail);go_wp2;go_ret;have hr:ready s i=true:=by rw [HR.out,if_neg (Int.not_le.2 HC.out),if_pos W0.out,decide_eq_false S0.out];rfl
    rw [hr];exact ⟨rfl,pw_below_drewN HB.out _⟩
  ·have y1:((taskAt s.tasks i).way == 0)=false:=by simp [w0]
   by_cases w1:(taskAt s.tasks i).way=1
   ·have y2:((taskAt s.tasks i).way == 1)=true:=by simp [w1]
    have W0:=am w0;have W1:=am w1;clear w0 w1;by_cases k3:0 < n3
    ·have y3:decide (0 < n3)=true:=decide_eq_true k3
     have K3:=am k3;clear k3
     go_wp2_with (first
     |((with_reducible refine gate_dst (N:=13) rfl ?_);refine wpList_load_mid rfl 59 (.tmp 12) rfl b (o+i*13) rfl _ _ HCC.out Tryz.underlying59 rfl (by kernel_rfl) ?_)|((with_reducible refine gate_dst (N:=5) rfl ?_);refine box_event rfl (N:=5) rfl (t:=59) (by go_simp<;>rfl) ?_;intro gt hg w2 hbox hb;have BKt0:=am hbox;have GT:=am hg;have HB2:=am hb;clear hbox hb hg BKc)|((with_reducible refine gate_store (t:=59) (p:=5) rfl ?_);refine store_block rfl rfl 59 (.tmp 5) (.tmp 13) rfl rfl rfl BKt0.out rfl (by kernel_rfl) (aB rfl) ?_;intro w3 hbox hg;have BKt:=am hbox;have hbx:=pw_below_grown HB2.out _ HB2.out.size hg (fun z hz=>by cases hz;exact Nat.le_of_eq GT.out.symm);replace H:=am (H.out.below hbx);have HB:=am hbx;clear hbox hg BKt0 hbx HB2 HCC;have BKc:=zc8 H.out.blk;have BKtc:=zc8 BKt.out)
     |(go_at_call 84;refine Calls.mono (kids_calls (i:Int) _ _ H.out hn) ?_;(first|rw [N3.out] | rw [N0.out] | rw [N1.out]);rintro _ _ ⟨rfl,rfl⟩))
     go_ret;have hr:ready s i=true:=by rw [HR.out,if_neg (Int.not_le.2 HC.out),if_neg W0.out,if_pos W1.out,decide_eq_true K3.out];rfl
     rw [hr];exact ⟨rfl,HB.out⟩
    ·have y3:decide (0 < n3)=false:=decide_eq_false k3
     have K3:=am k3;clear k3;have hw:wrap64 ((n0:Int)+n1)=(n0:Int)+n1:=by unfold wrap64;omega
     go_wp2_with (first
     |((with_reducible refine gate_dst (N:=13) rfl ?_);refine wpList_load_mid rfl 59 (.tmp 12) rfl b (o+i*13) rfl _ _ HCC.out Tryz.underlying59 rfl (by kernel_rfl) ?_)|((with_reducible refine gate_dst (N:=5) rfl ?_);refine box_event rfl (N:=5) rfl (t:=59) (by go_simp<;>rfl) ?_;intro gt hg w2 hbox hb;have BKt0:=am hbox;have GT:=am hg;have HB2:=am hb;clear hbox hb hg BKc)|((with_reducible refine gate_store (t:=59) (p:=5) rfl ?_);refine store_block rfl rfl 59 (.tmp 5) (.tmp 13) rfl rfl rfl BKt0.out rfl (by kernel_rfl) (aB rfl) ?_;intro w3 hbox hg;have BKt:=am hbox;have hbx:=pw_below_grown HB2.out _ HB2.out.size hg (fun z hz=>by cases hz;exact Nat.le_of_eq GT.out.symm);replace H:=am (H.out.below hbx);have HB:=am hbx;clear hbox hg BKt0 hbx HB2 HCC;have BKc:=zc8 H.out.blk;have BKtc:=zc8 BKt.out)
     |(go_at_call 84;refine Calls.mono (kids_calls (i:Int) _ _ H.out hn) ?_;(first|rw [N3.out] | rw [N0.out] | rw [N1.out]);rintro _ _ ⟨rfl,rfl⟩))
     go_ret
     have hr:ready s i=((n0:Int)+(n1:Int) == 0):=by
      rw [HR.out,if_neg (Int.not_le.2 HC.out),if_neg W0.out,if_pos W1.out,decide_eq_false K3.out,Bool.false_or,Bool.eq_iff_iff,decide_eq_true_eq,beq_iff_eq];omega
     rw [hr];exact ⟨rfl,HB.out⟩
   ·have y2:((taskAt s.tasks i).way == 1)=false:=by simp [w1]
    have W0:=am w0;have W1:=am w1;clear w0 w1
    go_wp2_with (first
    |((with_reducible refine gate_dst (N:=13) rfl ?_);refine wpList_load_mid rfl 59 (.tmp 12) rfl b (o+i*13) rfl _ _ HCC.out Tryz.underlying59 rfl (by kernel_rfl) ?_)|((with_reducible refine gate_dst (N:=5) rfl ?_);refine box_event rfl (N:=5) rfl (t:=59) (by go_simp<;>rfl) ?_;intro gt hg w2 hbox hb;have BKt0:=am hbox;have GT:=am hg;have HB2:=am hb;clear hbox hb hg BKc)|((with_reducible refine gate_store (t:=59) (p:=5) rfl ?_);refine store_block rfl rfl 59 (.tmp 5) (.tmp 13) rfl rfl rfl BKt0.out rfl (by kernel_rfl) (aB rfl) ?_;intro w3 hbox hg;have BKt:=am hbox;have hbx:=pw_below_grown HB2.out _ HB2.out.size hg (fun z hz=>by cases hz;exact Nat.le_of_eq GT.out.symm);replace H:=am (H.out.below hbx);have HB:=am hbx;clear hbox hg BKt0 hbx HB2 HCC;have BKc:=zc8 H.out.blk;have BKtc:=zc8 BKt.out))
    go_ret;have hr:ready s i=false:=by rw [HR.out,if_neg (Int.not_le.2 HC.out),if_neg W0.out,if_neg W1.out]
    rw [hr];exact ⟨rfl,HB.out⟩
end
end Go.Proofs.YtclangliilnijaaGreatDoor.Eq

namespace Go.Proofs.YtclangliilnijaaGreatDoor.Eq
open Go.RowKit Go.Proofs.YtclangliilnijaaGreatDoorW.PrintWords Go.Proofs.YtclangliilnijaaGreatDoorW.PrintLast Go.Proofs.YtclangliilnijaaGreatDoorW.PrintMore
theorem grown_below_ {W W1:World} (h:W.grownBy W1 none):Below W.heap.size W W1:=⟨h.os,h.tape,h.output,h.size,fun k hk=>h.block k hk (by simp)⟩
theorem info_put:(Tryz.prog.info? 65).map (fun i=>(i.zero,i.size,i.bytes))=some (some (.agg #[.int .i64 0,.int .i64 0]),2,16):=by kernel_rfl
theorem findP_none {xs:List Put} {cell:Int} (h:∀ j,j < xs.length->(putAt xs j).cell ≠ cell):findP xs cell=none:=by
 unfold findP;rw [List.findIdx?_eq_none_iff];intro x hx;obtain ⟨j,hj,rfl⟩:=List.mem_iff_getElem.1 hx;have:=h j hj;simpa [putAt,hj] using this
theorem findP_some {xs:List Put} {cell:Int} {k:Nat} (hk:k < xs.length) (h:∀ j,j < k->(putAt xs j).cell ≠ cell) (he:(putAt xs k).cell=cell):findP xs cell=some k:=by
 unfold findP;rw [List.findIdx?_eq_some_iff_getElem];refine ⟨hk,by simpa [putAt,hk] using he,fun j hj=> ?_⟩;have:=h j hj;have hjl:j < xs.length:=by omega
 simpa [putAt,hjl] using this
def placeOf:Option Nat->Int
 | none=> -1
 | some k=>k
theorem l11Find_calls (A:Option Addr) (c:Nat) (xs:List Put) (cell:Int) (w:World) (hx:kPut.C w A xs.length xs) (hn:xs.length<=1048576):
  Calls Tryz.prog 159 #[.slice A xs.length c,.int .i64 cell] w fun e w'=>e= .returned (.int .i64 (placeOf (findP xs cell)))/\w=w':=by
 have HX:=am hx;clear hx;go_enter Tryz.func159,Tryz.ntmps159;go_wp2;go_loopw [5] (fun j w'=>∃ k:Nat,k<=xs.length/\j= .int .i64 k/\w'=w/\Aside0 (∀ j,j < k->(putAt xs j).cell ≠ cell)) (fun j _=>xs.length - (intOf j).toNat)
 case atStart=>exact ⟨0,Nat.zero_le _,rfl,rfl,⟨fun j hj=>absurd hj (Nat.not_lt_zero j)⟩⟩
 case round=>
  obtain ⟨k,hk,rfl,rfl,HJ⟩:=hrel;by_cases hlt:k < xs.length
  ·obtain ⟨b,o,cs,rfl,hcl,hK,hcc,-⟩:=C_field HX.out zPut k hlt (by decide)
   have e:=kPut_open hK;subst e;have c0:=hcc 0 _ rfl;simp only [show kPut.sz=2 from rfl,Nat.add_zero] at c0;rw [show xs.getD k zPut=putAt xs k from rfl] at c0;clear hcc hK hcl;have q0:(0:Int)<=(k:Int):=by omega
   have q1:(k:Int) < (xs.length:Int):=by omega
   by_cases he:(putAt xs k).cell=cell
   ·have y0:((putAt xs k).cell == cell)=true:=by simp [he]
    have HE:=am he;clear he;go_wp2;go_ret;exact ⟨by rw [findP_some hlt HJ.out HE.out];rfl,rfl⟩
   ·have y0:((putAt xs k).cell == cell)=false:=by simp [he]
    have HE:=am he;clear he;go_wp2;go_roundw
    case rel=>exact ⟨k+1,by omega,by go_num,by first|rfl | trivial,⟨fun j hj=>by
     rcases Nat.lt_or_ge j k with h | h
     ·exact HJ.out j h
     ·obtain rfl:j=k:=by omega
      exact HE.out⟩⟩
    case measure=>simp [intOf];omega
  ·go_wp2
   go_ret;obtain rfl:k=xs.length:=by omega
   exact ⟨by rw [findP_none HJ.out];rfl,rfl⟩
end Go.Proofs.YtclangliilnijaaGreatDoor.Eq









namespace Go.Proofs.YtclangliilnijaaGreatDoor.Eq
open Go.RowKit Go.Proofs.YtclangliilnijaaGreatDoorW.PrintWords Go.Proofs.YtclangliilnijaaGreatDoorW.PrintLast Go.Proofs.YtclangliilnijaaGreatDoorW.PrintMore
theorem zip_snoc (ts:List Task) (t:Task):(ts ++ [t]).zipIdx=ts.zipIdx ++ [(t,ts.length)]:=by
 rw [List.zipIdx_append];simp
end Go.Proofs.YtclangliilnijaaGreatDoor.Eq

namespace Go.Proofs.YtclangliilnijaaGreatDoor.Eq
open Go.RowKit Go.Proofs.YtclangliilnijaaGreatDoorW.PrintWords Go.Proofs.YtclangliilnijaaGreatDoorW.PrintLast Go.Proofs.YtclangliilnijaaGreatDoorW.PrintMore
structure Sy (B:Nat) (own:Nat->Nat) (s:Sys) (vc vt vl:Value) (W:World):Prop where
 low:∀ k,k < B->own k=0
 new0:∀ k,W.heap.size<=k->own k=0
 cells:kCell.R 63 W B (fun k=>own k=2) vc s.cells
 tasks:(kTaskO own).R 59 W B (fun k=>own k=3\/8<=own k) vt s.tasks.zipIdx
 town:∀ k,vt.ownBlock=some k->own k=3
 log:kEntry.R 136 W B (fun k=>own k=4) vl s.log
section
variable {B B1:Nat} {own:Nat->Nat} {s:Sys} {vc vt vl:Value} {W W1:World}
theorem Sy.read (h:Sy B own s vc vt vl W):kSys.K W s [vc,vt,.int .i64 s.clock,vl]:=by
 obtain ⟨A0,c0,rfl,l0,g0⟩:=Kd.R_reads h.cells;obtain ⟨A1,c1,rfl,l1,g1⟩:=Kd.R_reads h.tasks;obtain ⟨A3,c3,rfl,l3,g3⟩:=Kd.R_reads h.log;rw [zip_len] at l1 g1 ⊢;exact kSys_mk s l0 g0 l1 (taskO_C g1) l3 g3
theorem Sy.move (h:Sy B own s vc vt vl W) (hs:W.heap.size<=W1.heap.size) (hm:∀ k,own k ≠ 0->k < W.heap.size->W1.heap[k]? = W.heap[k]?):Sy B own s vc vt vl W1:=
 ⟨h.low,fun k hk=>h.new0 k (Nat.le_trans hs hk),Kd.R_step h.cells (fun k hk hl=>hm k (by omega) hl),Kd.R_step h.tasks (fun k hk hl=>hm k (by omega) hl),h.town,Kd.R_step h.log (fun k hk hl=>hm k (by omega) hl)⟩
theorem Sy.lower (h:Sy B own s vc vt vl W) (hb:B1<=B):Sy B1 own s vc vt vl W:=
 ⟨fun k hk=>h.low k (by omega),h.new0,Kd.R_lower h.cells hb,Kd.R_lower h.tasks hb,h.town,Kd.R_lower h.log hb⟩
structure Own4 (t:Task) (base:Nat) (W:World) (v3 v8 v9 v10:Value):Prop where
 regs:(Kd.int .i64).R 3 W base (fun _=>True) v3 t.regs
 old:(Kd.int .i64).R 3 W base (fun _=>True) v8 t.old
 reads:kPut.R 65 W base (fun _=>True) v9 t.reads
 puts:kPut.R 65 W base (fun _=>True) v10 t.puts
 ne38:∀ k,v3.ownBlock=some k->v8.ownBlock ≠ some k
 ne39:∀ k,v3.ownBlock=some k->v9.ownBlock ≠ some k
 ne310:∀ k,v3.ownBlock=some k->v10.ownBlock ≠ some k
 ne89:∀ k,v8.ownBlock=some k->v9.ownBlock ≠ some k
 ne810:∀ k,v8.ownBlock=some k->v10.ownBlock ≠ some k
 ne910:∀ k,v9.ownBlock=some k->v10.ownBlock ≠ some k
theorem own4_is {t:Task} {v3 v8 v9 v10:Value} {L:Nat} (hN:Own4 t B1 W v3 v8 v9 v10):
  (∀ k,v3.ownBlock=some k->tag4 own v3 v8 v9 v10 L k=8+8*L)/\(∀ k,v8.ownBlock=some k->tag4 own v3 v8 v9 v10 L k=9+8*L)/\(∀ k,v9.ownBlock=some k->tag4 own v3 v8 v9 v10 L k=10+8*L)/\(∀ k,v10.ownBlock=some k->tag4 own v3 v8 v9 v10 L k=11+8*L)/\
  ∀ k,(v3.ownBlock ≠ some k/\v8.ownBlock ≠ some k/\v9.ownBlock ≠ some k/\v10.ownBlock ≠ some k)->tag4 own v3 v8 v9 v10 L k=own k:=by
 unfold tag4;refine ⟨fun k hk=> ?_,fun k hk=> ?_,fun k hk=> ?_,fun k hk=> ?_,fun k hk=> ?_⟩
 ·rw [tagB_off (hN.ne310 k hk),tagB_off (hN.ne39 k hk),tagB_off (hN.ne38 k hk),tagB_at hk]
 ·rw [tagB_off (hN.ne810 k hk),tagB_off (hN.ne89 k hk),tagB_at hk]
 ·rw [tagB_off (hN.ne910 k hk),tagB_at hk]
 ·rw [tagB_at hk]
 ·rw [tagB_off hk.2.2.2,tagB_off hk.2.2.1,tagB_off hk.2.1,tagB_off hk.1]
theorem Own4.range {t:Task} {v3 v8 v9 v10:Value} (h:Own4 t B1 W v3 v8 v9 v10) {k:Nat} (hk:¬ (v3.ownBlock ≠ some k/\v8.ownBlock ≠ some k/\v9.ownBlock ≠ some k/\v10.ownBlock ≠ some k)):B1<=k/\k < W.heap.size:=by
 refine Classical.byContradiction fun hne=>hk ⟨fun he=>hne (R_in h.regs k he).2,fun he=>hne (R_in h.old k he).2,fun he=>hne (R_in h.reads k he).2,fun he=>hne (R_in h.puts k he).2⟩
theorem Own4.row {t:Task} {L:Nat} {v3 v8 v9 v10:Value} (hN:Own4 t B1 W v3 v8 v9 v10) (hB:B<=B1):(kTaskO (tag4 own v3 v8 v9 v10 L)).M W B (fun k=>8<=tag4 own v3 v8 v9 v10 L k) (t,L) (cellsT t v3 v8 v9 v10):=by
 obtain ⟨t3,t8,t9,t10,-⟩:=own4_is (own:=own) (L:=L) hN;exact kTaskO_mk t L (Kd.R_lower (R_flat flat_int hN.regs (fun k hk=>⟨by rw [t3 k hk];omega,t3 k hk⟩)) hB) (Kd.R_lower (R_flat flat_int hN.old (fun k hk=>⟨by rw [t8 k hk];omega,t8 k hk⟩)) hB) (Kd.R_lower (R_flat flat_put hN.reads (fun k hk=>⟨by rw [t9 k hk];omega,t9 k hk⟩)) hB) (Kd.R_lower (R_flat flat_put hN.puts (fun k hk=>⟨by rw [t10 k hk];omega,t10 k hk⟩)) hB)
theorem Sy.retag {own':Nat->Nat} (h:Sy B own s vc vt vl W) (hl:∀ k,k < B->own' k=0) (hn:∀ k,W.heap.size<=k->own' k=0) (hs:∀ k,own k ≠ 0->own' k=own k):Sy B own' s vc vt vl W:=
 ⟨hl,hn,Kd.R_mono h.cells (fun k hk=>by rw [hs k (by omega)];exact hk),
  Kd.R_mono (d:=kTaskO own') ⟨h.tasks.1,h.tasks.2.imp_ (fun _ _ hp=>kTaskO_own (fun k _ hk=>hs k (by have:=hk.1;omega)) hp)⟩ (fun k hk=>by rw [hs k (by omega)];exact hk),
  fun k hk=>by rw [hs k (by rw [h.town k hk];decide)];exact h.town k hk,Kd.R_mono h.log (fun k hk=>by rw [hs k (by omega)];exact hk)⟩
theorem Sy.newTags {t:Task} {L:Nat} {v3 v8 v9 v10:Value} (h:Sy B own s vc vt vl W) (hN:Own4 t B1 W v3 v8 v9 v10) (h0:∀ k,B1<=k->own k=0) (hB:B<=B1):
  Sy B (tag4 own v3 v8 v9 v10 L) s vc vt vl W/\∀ k,k < B1->tag4 own v3 v8 v9 v10 L k=own k:=by
 have hoff:=(own4_is (own:=own) (L:=L) hN).2.2.2.2;have hlow:∀ k,k < B1->tag4 own v3 v8 v9 v10 L k=own k:=fun k hk=>hoff k (Classical.byContradiction fun hne=>by have:=(hN.range hne).1;omega)
 exact ⟨h.retag (fun k hk=>(hlow k (by omega)).trans (h.low k hk)) (fun k hk=>(hoff k (Classical.byContradiction fun hne=>by have:=(hN.range hne).2;omega)).trans (h.new0 k hk))
  (fun k hk=>hoff k (Classical.byContradiction fun hne=>hk (h0 k (hN.range hne).1))),hlow⟩
theorem Sy.tasksGrow (h:Sy B own s vc vt vl W) (hg:W.grownBy W1 vt.ownBlock) {v1:Value} {ts':List Task}
  (hr:(kTaskO own).R 59 W1 B (fun k=>(own k=3\/8<=own k)\/own k=0) v1 ts'.zipIdx) (hv:v1.ownBlock=vt.ownBlock\/∃ b,v1.ownBlock=some b/\W.heap.size<=b) (hBW:B<=W.heap.size):
  ∃ own',Sy B own' {s with tasks:=ts'} vc v1 vl W1/\∀ k,k < W.heap.size->own' k=own k:=by
 have hvt:∀ k,vt.ownBlock=some k->own k=3:=h.town
 have hv1:∀ k,v1.ownBlock=some k->own k=3\/(own k=0/\W.heap.size<=k):=fun k hk=>by
  rcases hv with he | ⟨b,he,hl⟩
  ·exact .inl (hvt k (he ▸ hk))
  ·rw [he] at hk
   injection hk with hk;subst hk;exact .inr ⟨h.new0 _ hl,hl⟩
 have hfar:∀ k,own k ≠ 3->k < W.heap.size->W1.heap[k]? = W.heap[k]? :=fun k h3 hl=>hg.block k hl (fun he=>h3 (hvt k he.symm))
 have hsame:∀ k,own k ≠ 0->tagB own v1.ownBlock 3 k=own k:=fun k hk=>by
  by_cases he:v1.ownBlock=some k
  ·rw [tagB_at he]
   rcases hv1 k he with h3 | h3
   ·exact h3.symm
   ·exact absurd h3.1 hk
  ·exact tagB_off he
 have hlow:∀ k,k < W.heap.size->tagB own v1.ownBlock 3 k=own k:=fun k hk=>by
  by_cases he:v1.ownBlock=some k
  ·rw [tagB_at he]
   rcases hv1 k he with h3 | h3
   ·exact h3.symm
   ·omega
  ·exact tagB_off he
 refine ⟨tagB own v1.ownBlock 3,⟨fun k hk=>(hlow k (by omega)).trans (h.low k hk),fun k hk=> ?_,
  Kd.R_mono (Kd.R_step h.cells (fun k hk hl=>hfar k (by omega) hl)) (fun k hk=>by rw [hsame k (by omega)];exact hk), ?_,fun k hk=>tagB_at hk,
  Kd.R_mono (Kd.R_step h.log (fun k hk hl=>hfar k (by omega) hl)) (fun k hk=>by rw [hsame k (by omega)];exact hk)⟩,hlow⟩
 ·refine (tagB_off fun he=> ?_).trans (h.new0 k (Nat.le_trans hg.size hk))
  have:=(R_in hr k he).2.2
  omega
 ·refine ⟨fun k hk=> .inl (tagB_at hk),hr.2.imp_ (fun x cs hp=> ?_)⟩
  have h1:=kTaskO_ok hp;have h2:=kTaskO_own (own':=tagB own v1.ownBlock 3) (fun k _ hk=>hsame k (by omega)) h1;refine (kTaskO (tagB own v1.ownBlock 3)).M_mono (fun k hk=> ?_) (kTaskO_ok h2);refine ⟨.inr hk,fun he=> ?_⟩;rw [tagB_at he.symm] at hk;omega
theorem Sy.logGrow (h:Sy B own s vc vt vl W) (hB:B1<=W.heap.size) (hg:W.grownBy W1 vl.ownBlock) {v1:Value} {log':List Entry} (h0:∀ k,B1<=k->own k=0) (hBB:B<=B1)
  (hr:kEntry.R 136 W1 B (fun k=>own k=4\/(own k=0/\B1<=k)) v1 log'):
  ∃ own',Sy B own' {s with log:=log'} vc vt v1 W1/\∀ k,k < B1->own' k=own k:=by
 have hvl:∀ k,vl.ownBlock=some k->own k=4:=h.log.1;have hfar:∀ k,own k ≠ 4->k < W.heap.size->W1.heap[k]? = W.heap[k]? :=fun k h4 hl=>hg.block k hl (fun he=>h4 (hvl k he.symm))
 have hsame:∀ k,own k ≠ 0->tagZ own B1 W1 (136 :: kEntry.E) 4 k=own k:=fun k hk=>tagZ_own hk
 refine ⟨tagZ own B1 W1 (136 :: kEntry.E) 4,⟨fun k hk=>(tagZ_lo (by omega)).trans (h.low k hk),fun k hk=>(tagZ_hi hk).trans (h.new0 k (Nat.le_trans hg.size hk)),
  Kd.R_mono (Kd.R_step h.cells (fun k hk hl=>hfar k (by omega) hl)) (fun k hk=>by rw [hsame k (by omega)];exact hk),
  Kd.R_mono (d:=kTaskO (tagZ own B1 W1 (136 :: kEntry.E) 4)) ⟨(Kd.R_step h.tasks (fun k hk hl=>hfar k (by omega) hl)).1,(Kd.R_step h.tasks (fun k hk hl=>hfar k (by omega) hl)).2.imp_ (fun _ _ hp=>kTaskO_own (fun k _ hk=>hsame k (by have:=hk.1;omega)) hp)⟩ (fun k hk=>by rw [hsame k (by omega)];exact hk),
  fun k hk=>by rw [hsame k (by rw [h.town k hk];decide)];exact h.town k hk, ?_⟩,fun k hk=>tagZ_lo hk⟩
 refine Kd.R_mono (Kd.R_bound hr) (fun k hk=> ?_);obtain ⟨h1,h2,h3,h4⟩:=hk;rcases h1 with h1 | ⟨h1,h5⟩
 ·rw [hsame k (by omega)]
  exact h1
 ·obtain ⟨q,hq,cells,hc⟩:=h4
  exact tagZ_yes ⟨h1,h5,h3,q,hq,cells,hc⟩
end
inductive En
 | b (g:Nat) (cs:Array Value) (t:TypeId)
 | kp (g:Nat) (cs:Array Value) (t:TypeId)
 | f (ad:Addr) (v:Value)
 | r (ok:Nat->Prop) (F:World->Prop)
 | rk (ok:Nat->Prop) (F:World->Prop)
abbrev Bx:=List En
def Nix (_:World):Prop:=True
def Stab (ok:Nat->Prop) (F:World->Prop):Prop:=∀ W W':World,W.heap.size<=W'.heap.size->(∀ k,ok k->k < W.heap.size->W'.heap[k]? = W.heap[k]?)->F W->F W'
def Lies (W:World):Bx->Prop
 | []=>True
 | .b g cs t :: l=>W.heap[g]? = some (.cells cs t (0,0))/\Lies W l
 | .kp g cs t :: l=>W.heap[g]? = some (.cells cs t (0,0))/\Lies W l
 | .f ad v :: l=>W.cell? ad=some v/\Lies W l
 | .r ok F :: l=>((∀ k,ok k->k < W.heap.size)/\Stab ok F/\F W)/\Lies W l
 | .rk ok F :: l=>((∀ k,ok k->k < W.heap.size)/\Stab ok F/\F W)/\Lies W l
def Cl (W:World):Bx->Prop
 | []=>Nix W
 | .b g cs _ :: l=>(∀ i,W.cell? ⟨g,i,none⟩=cs[i]?)/\Cl W l
 | .kp g cs _ :: l=>(∀ i,W.cell? ⟨g,i,none⟩=cs[i]?)/\Cl W l
 | .f ad v :: l=>W.cell? ad=some v/\Cl W l
 | .r _ _ :: l=>Cl W l
 | .rk _ _ :: l=>Cl W l
def En.ok (w:World):En->Prop
 | .b g _ _=>w.heap.size<=g
 | .kp g _ _=>g < w.heap.size
 | .f ad _=>ad.block < w.heap.size
 | .r ok _=>∀ k,ok k->w.heap.size<=k
 | .rk ok _=>∀ k,ok k->k < w.heap.size
def En.key:En->Nat->Prop
 | .b g _ _,k=>k=g
 | .r ok _,k=>ok k
 | _,_=>False
def Apart (a b:En):Prop:=∀ k,a.key k->¬ b.key k
structure Own (w W:World) (l:Bx):Prop where
 below:Below w.heap.size w W
 lies:Lies W l
 fresh:∀ e ∈ l,e.ok w
 apart:l.Pairwise Apart
inductive At:Bx->Nat->Array Value->TypeId->Prop
 | here {g cs t l}:At (.b g cs t :: l) g cs t
 | kept {g cs t l}:At (.kp g cs t :: l) g cs t
 | there {g cs t l e}:At l g cs t->At (e :: l) g cs t
inductive Upd:Bx->Nat->Array Value->Array Value->TypeId->Bx->Prop
 | here {g cs cs' t l}:Upd (.b g cs t :: l) g cs cs' t (.b g cs' t :: l)
 | there {g cs cs' t l l' e}:Upd l g cs cs' t l'->Upd (e :: l) g cs cs' t (e :: l')
theorem Lies.cl {W:World}:∀ {l:Bx},Lies W l->Cl W l
 | [],_=>trivial
 | .b _ _ _ :: _,h=>⟨fun i=>zc8 h.1 i,h.2.cl⟩
 | .kp _ _ _ :: _,h=>⟨fun i=>zc8 h.1 i,h.2.cl⟩
 | .f _ _ :: _,h=>⟨h.1,h.2.cl⟩
 | .r _ _ :: _,h=>h.2.cl
 | .rk _ _ :: _,h=>h.2.cl
theorem Own.cl {w W:World} {l:Bx} (h:Own w W l):Cl W l:=h.lies.cl
theorem Own.nil (w:World):Own w w []:=⟨Below.refl _ _,trivial,fun e h=>(by cases h),List.Pairwise.nil⟩
theorem Own.far {w W:World} {l:Bx} (h:Own w W l) {ad:Addr} {v:Value} (hc:w.cell? ad=some v):Own w W (.f ad v :: l):=
 ⟨h.below,⟨pw_cell_below h.below hc,h.lies⟩,fun e he=>by
  rcases List.mem_cons.1 he with rfl | he
  ·exact World.block_lt_of_cell? _ _ hc
  ·exact h.fresh e he,List.Pairwise.cons (fun e he k hk=>by cases hk) h.apart⟩
theorem Lies.below {W W':World} (hb:Below W.heap.size W W'):∀ {l:Bx},Lies W l->Lies W' l
 | [],_=>trivial
 | .b _ _ _ :: _,h=>⟨zb8 h.1 hb,h.2.below hb⟩
 | .kp _ _ _ :: _,h=>⟨zb8 h.1 hb,h.2.below hb⟩
 | .f _ _ :: _,h=>⟨pw_cell_below hb h.1,h.2.below hb⟩
 | .r _ _ :: _,h=>⟨⟨fun k hk=>Nat.lt_of_lt_of_le (h.1.1 k hk) hb.size,h.1.2.1,h.1.2.1 _ _ hb.size (fun k _ hk=>hb.block k hk) h.1.2.2⟩,h.2.below hb⟩
 | .rk _ _ :: _,h=>⟨⟨fun k hk=>Nat.lt_of_lt_of_le (h.1.1 k hk) hb.size,h.1.2.1,h.1.2.1 _ _ hb.size (fun k _ hk=>hb.block k hk) h.1.2.2⟩,h.2.below hb⟩
theorem Lies.grown {w W W':World} {g:Nat} (hg:W.grownBy W' (some g)) (hw:w.heap.size<=g) (hW:w.heap.size<=W.heap.size):∀ {l:Bx},Lies W l->(∀ e ∈ l,e.ok w)->(∀ e ∈ l,¬ e.key g)->Lies W' l
 | [],_,_,_=>trivial
 | .b _ _ _ :: _,h,hf,hn=>⟨blk_grown h.1 hg (fun he=>hn _ List.mem_cons_self (by injection he with he;exact he.symm)),Lies.grown hg hw hW h.2 (fun e he=>hf e (List.mem_cons_of_mem _ he)) (fun e he=>hn e (List.mem_cons_of_mem _ he))⟩
 | .kp k _ _ :: _,h,hf,hn=>by
  have hlt:k < w.heap.size:=hf _ List.mem_cons_self
  exact ⟨blk_grown h.1 hg (fun he=>by injection he with he;omega),Lies.grown hg hw hW h.2 (fun e he=>hf e (List.mem_cons_of_mem _ he)) (fun e he=>hn e (List.mem_cons_of_mem _ he))⟩
 | .f ad _ :: _,h,hf,hn=>by
  have hlt:ad.block < w.heap.size:=hf _ List.mem_cons_self
  exact ⟨(hg.cell h.1 (fun he=>by injection he with he;omega)),Lies.grown hg hw hW h.2 (fun e he=>hf e (List.mem_cons_of_mem _ he)) (fun e he=>hn e (List.mem_cons_of_mem _ he))⟩
 | .r ok _ :: _,h,hf,hn=>⟨⟨fun k hk=>Nat.lt_of_lt_of_le (h.1.1 k hk) hg.size,h.1.2.1,h.1.2.1 _ _ hg.size (fun k h1 h2=>hg.block k h2 (fun he=>hn _ List.mem_cons_self (by injection he with he;subst he;exact h1))) h.1.2.2⟩,Lies.grown hg hw hW h.2 (fun e he=>hf e (List.mem_cons_of_mem _ he)) (fun e he=>hn e (List.mem_cons_of_mem _ he))⟩
 | .rk ok _ :: _,h,hf,hn=>by
  have hlt:∀ k,ok k->k < w.heap.size:=hf _ List.mem_cons_self;exact ⟨⟨fun k hk=>Nat.lt_of_lt_of_le (h.1.1 k hk) hg.size,h.1.2.1,h.1.2.1 _ _ hg.size (fun k h1 h2=>hg.block k h2 (fun he=>by injection he with he;have:=hlt k h1;omega)) h.1.2.2⟩,Lies.grown hg hw hW h.2 (fun e he=>hf e (List.mem_cons_of_mem _ he)) (fun e he=>hn e (List.mem_cons_of_mem _ he))⟩
theorem Lies.at_ {W:World} {g:Nat} {cs:Array Value} {t:TypeId}:∀ {l:Bx},Lies W l->At l g cs t->W.heap[g]? = some (.cells cs t (0,0))
 | _,h,.here=>h.1
 | _,h,.kept=>h.1
 | .b _ _ _ :: _,h,.there h'=>Lies.at_ h.2 h'
 | .kp _ _ _ :: _,h,.there h'=>Lies.at_ h.2 h'
 | .f _ _ :: _,h,.there h'=>Lies.at_ h.2 h'
 | .r _ _ :: _,h,.there h'=>Lies.at_ h.2 h'
 | .rk _ _ :: _,h,.there h'=>Lies.at_ h.2 h'
theorem Lies.lt {W:World} {k:Nat}:∀ {l:Bx},Lies W l->∀ e ∈ l,e.key k->k < W.heap.size
 | .b _ _ _ :: _,h,e,he,hk=>by
  rcases List.mem_cons.1 he with rfl | he
  ·cases hk;exact blk_lt h.1
  ·exact Lies.lt h.2 e he hk
 | .kp _ _ _ :: _,h,e,he,hk=>by
  rcases List.mem_cons.1 he with rfl | he
  ·cases hk
  ·exact Lies.lt h.2 e he hk
 | .f _ _ :: _,h,e,he,hk=>by
  rcases List.mem_cons.1 he with rfl | he
  ·cases hk
  ·exact Lies.lt h.2 e he hk
 | .r _ _ :: _,h,e,he,hk=>by
  rcases List.mem_cons.1 he with rfl | he
  ·exact h.1.1 _ hk
  ·exact Lies.lt h.2 e he hk
 | .rk _ _ :: _,h,e,he,hk=>by
  rcases List.mem_cons.1 he with rfl | he
  ·cases hk
  ·exact Lies.lt h.2 e he hk
theorem Own.step {w W W':World} {l:Bx} (h:Own w W l) (hb:Below W.heap.size W W'):Own w W' l:=⟨below_step h.below hb,h.lies.below hb,h.fresh,h.apart⟩
theorem Own.push {w W W':World} {l:Bx} (h:Own w W l) (hb:Below W.heap.size W W') {cs:Array Value} {t:TypeId} (hg:W'.heap[W.heap.size]? = some (.cells cs t (0,0))):Own w W' (.b W.heap.size cs t :: l):=
 ⟨below_step h.below hb,⟨hg,h.lies.below hb⟩,fun e he=>by
  rcases List.mem_cons.1 he with rfl | he
  ·exact h.below.size
  ·exact h.fresh e he,List.Pairwise.cons (fun e he k hk hk2=>by cases hk;exact Nat.lt_irrefl _ (h.lies.lt e he hk2)) h.apart⟩
theorem Upd.at_ {g:Nat} {cs cs':Array Value} {t:TypeId}:∀ {l l':Bx},Upd l g cs cs' t l'->At l g cs t
 | _,_,.here=> .here
 | _,_,.there h=> .there h.at_
theorem Upd.in_ {g:Nat} {cs cs':Array Value} {t:TypeId}:∀ {l l':Bx},Upd l g cs cs' t l'-> .b g cs t ∈ l
 | _,_,.here=>List.mem_cons_self
 | _,_,.there h=>List.mem_cons_of_mem _ h.in_
theorem Upd.mem {w:World} {g:Nat} {cs cs':Array Value} {t:TypeId}:∀ {l l':Bx},Upd l g cs cs' t l'->∀ e ∈ l',∃ e' ∈ l,(∀ k,e.key k->e'.key k)/\(e'.ok w->e.ok w)
 | _,_,.here,e,he=>by
  rcases List.mem_cons.1 he with rfl | he
  ·exact ⟨_,List.mem_cons_self,fun _ h=>h,fun h=>h⟩
  ·exact ⟨e,List.mem_cons_of_mem _ he,fun _ h=>h,fun h=>h⟩
 | _,_,.there h,e,he=>by
  rcases List.mem_cons.1 he with rfl | he
  ·exact ⟨_,List.mem_cons_self,fun _ h=>h,fun h=>h⟩
  ·obtain ⟨e',h1,h2⟩:=h.mem e he
   exact ⟨e',List.mem_cons_of_mem _ h1,h2⟩
theorem Upd.lies {w W W':World} {g:Nat} {cs cs':Array Value} {t:TypeId} (hg:W.grownBy W' (some g)) (hw:w.heap.size<=g) (hW:w.heap.size<=W.heap.size) (hc:W'.heap[g]? = some (.cells cs' t (0,0))):∀ {l l':Bx},Upd l g cs cs' t l'->Lies W l->(∀ e ∈ l,e.ok w)->l.Pairwise Apart->Lies W' l'
 | _,_,.here,h,hf,hp=>⟨hc,h.2.grown hg hw hW (fun e he=>hf e (List.mem_cons_of_mem _ he)) (fun e he hk=>(List.pairwise_cons.1 hp).1 e he g rfl hk)⟩
 | .b _ _ _ :: _,_,.there h',h,hf,hp=>⟨blk_grown h.1 hg (fun he=>(List.pairwise_cons.1 hp).1 _ h'.in_ g (by injection he with he;exact he.symm) rfl),h'.lies hg hw hW hc h.2 (fun e he=>hf e (List.mem_cons_of_mem _ he)) (List.pairwise_cons.1 hp).2⟩
 | .kp k _ _ :: _,_,.there h',h,hf,hp=>by
  have hlt:k < w.heap.size:=hf _ List.mem_cons_self
  exact ⟨blk_grown h.1 hg (fun he=>by injection he with he;omega),h'.lies hg hw hW hc h.2 (fun e he=>hf e (List.mem_cons_of_mem _ he)) (List.pairwise_cons.1 hp).2⟩
 | .f ad _ :: _,_,.there h',h,hf,hp=>by
  have hlt:ad.block < w.heap.size:=hf _ List.mem_cons_self
  exact ⟨(hg.cell h.1 (fun he=>by injection he with he;omega)),h'.lies hg hw hW hc h.2 (fun e he=>hf e (List.mem_cons_of_mem _ he)) (List.pairwise_cons.1 hp).2⟩
 | .r ok _ :: _,_,.there h',h,hf,hp=>⟨⟨fun k hk=>Nat.lt_of_lt_of_le (h.1.1 k hk) hg.size,h.1.2.1,h.1.2.1 _ _ hg.size (fun k h1 h2=>hg.block k h2 (fun he=>(List.pairwise_cons.1 hp).1 _ h'.in_ k h1 (by injection he))) h.1.2.2⟩,h'.lies hg hw hW hc h.2 (fun e he=>hf e (List.mem_cons_of_mem _ he)) (List.pairwise_cons.1 hp).2⟩
 | .rk ok _ :: _,_,.there h',h,hf,hp=>by
  have hlt:∀ k,ok k->k < w.heap.size:=hf _ List.mem_cons_self;exact ⟨⟨fun k hk=>Nat.lt_of_lt_of_le (h.1.1 k hk) hg.size,h.1.2.1,h.1.2.1 _ _ hg.size (fun k h1 h2=>hg.block k h2 (fun he=>by injection he with he;have:=hlt k h1;omega)) h.1.2.2⟩,h'.lies hg hw hW hc h.2 (fun e he=>hf e (List.mem_cons_of_mem _ he)) (List.pairwise_cons.1 hp).2⟩
theorem Upd.apart {g:Nat} {cs cs':Array Value} {t:TypeId} (w:World):∀ {l l':Bx},Upd l g cs cs' t l'->l.Pairwise Apart->l'.Pairwise Apart
 | _,_,.here,hp=>List.pairwise_cons.2 ⟨fun e he k hk=>(List.pairwise_cons.1 hp).1 e he k hk,(List.pairwise_cons.1 hp).2⟩
 | _,_,.there h',hp=>List.pairwise_cons.2 ⟨fun e he k hk hk2=>by obtain ⟨e',h1,h2,-⟩:=h'.mem (w:=w) e he;exact (List.pairwise_cons.1 hp).1 e' h1 k hk (h2 k hk2),h'.apart w (List.pairwise_cons.1 hp).2⟩
theorem Own.upd {w W W':World} {l l':Bx} {g:Nat} {cs cs':Array Value} {t:TypeId} (h:Own w W l) (hg:W.grownBy W' (some g)) (hc:W'.heap[g]? = some (.cells cs' t (0,0))) (hu:Upd l g cs cs' t l'):Own w W' l':=
 have hw:w.heap.size<=g:=h.fresh _ hu.in_
 ⟨pw_below_grown h.below _ h.below.size hg (fun z hz=>by cases hz;exact hw),hu.lies hg hw h.below.size hc h.lies h.fresh h.apart,fun e he=>by obtain ⟨e',h1,-,h2⟩:=hu.mem (w:=w) e he;exact h2 (h.fresh e' h1),hu.apart w h.apart⟩
theorem Own.pop {w W:World} {e:En} {l:Bx} (h:Own w W (e :: l)):Own w W l:=
 ⟨h.below,by cases e <;> exact h.lies.2,fun e he=>h.fresh e (List.mem_cons_of_mem _ he),(List.pairwise_cons.1 h.apart).2⟩
def En.old:En->En
 | .b g cs t=> .kp g cs t
 | .kp g cs t=> .kp g cs t
 | .f ad v=> .f ad v
 | .r ok F=> .rk ok F
 | .rk ok F=> .rk ok F
theorem Lies.old {W:World}:∀ {l:Bx},Lies W l->Lies W (l.map En.old)
 | [],_=>trivial
 | .b _ _ _ :: _,h=>⟨h.1,h.2.old⟩
 | .kp _ _ _ :: _,h=>⟨h.1,h.2.old⟩
 | .f _ _ :: _,h=>⟨h.1,h.2.old⟩
 | .r _ _ :: _,h=>⟨h.1,h.2.old⟩
 | .rk _ _ :: _,h=>⟨h.1,h.2.old⟩
theorem Lies.old_ok {W:World}:∀ {l:Bx},Lies W l->∀ e ∈ l.map En.old,e.ok W
 | .b _ _ _ :: _,h,e,he=>by
  rcases List.mem_cons.1 he with rfl | he
  ·exact blk_lt h.1
  ·exact Lies.old_ok h.2 e he
 | .kp _ _ _ :: _,h,e,he=>by
  rcases List.mem_cons.1 he with rfl | he
  ·exact blk_lt h.1
  ·exact Lies.old_ok h.2 e he
 | .f _ _ :: _,h,e,he=>by
  rcases List.mem_cons.1 he with rfl | he
  ·exact World.block_lt_of_cell? _ _ h.1
  ·exact Lies.old_ok h.2 e he
 | .r _ _ :: _,h,e,he=>by
  rcases List.mem_cons.1 he with rfl | he
  ·exact h.1.1
  ·exact Lies.old_ok h.2 e he
 | .rk _ _ :: _,h,e,he=>by
  rcases List.mem_cons.1 he with rfl | he
  ·exact h.1.1
  ·exact Lies.old_ok h.2 e he
theorem old_key (e:En) (k:Nat):¬ e.old.key k:=by cases e <;> exact fun h=>h
theorem Own.rebase {w W:World} {l:Bx} (h:Own w W l):Own W W (l.map En.old):=
 ⟨Below.refl _ _,h.lies.old,h.lies.old_ok,List.pairwise_iff_forall_sublist.2 fun {a b} hs k hk=>by
  have hm:a ∈ l.map En.old:=hs.subset List.mem_cons_self;obtain ⟨e,-,rfl⟩:=List.mem_map.1 hm;exact absurd hk (old_key e k)⟩
theorem Own.row {w W W':World} {l:Bx} {ok:Nat->Prop} {F:World->Prop} (h:Own w W l) (hb:Below W.heap.size W W') (hk:∀ k,ok k->W.heap.size<=k/\k < W'.heap.size) (hs:Stab ok F) (hF:F W'):Own w W' (.r ok F :: l):=
 ⟨below_step h.below hb,⟨⟨fun k h=>(hk k h).2,hs,hF⟩,h.lies.below hb⟩,fun e he=>by
  rcases List.mem_cons.1 he with rfl | he
  ·exact fun k h2=>Nat.le_trans h.below.size (hk k h2).1
  ·exact h.fresh e he,List.Pairwise.cons (fun e he k h1 h2=>Nat.lt_irrefl _ (Nat.lt_of_lt_of_le (h.lies.lt e he h2) (hk k h1).1)) h.apart⟩
def Rng (lo hi:Nat):Nat->Prop:=fun k=>lo<=k/\k < hi
def Rw {α:Type} (d:Kd α) (e lo:Nat) (ok:Nat->Prop) (v:Value) (xs:List α):World->Prop:=fun V=>d.R e V lo ok v xs
theorem Own.made {α:Type} {d:Kd α} {e:Nat} {v:Value} {xs:List α} {w W W':World} {l:Bx} (h:Own w W l) (hb:Below W.heap.size W W') (hr:d.R e W' W.heap.size (fun _=>True) v xs):Own w W' (.r (Rng W.heap.size W'.heap.size) (Rw d e w.heap.size (Rng W.heap.size W'.heap.size) v xs) :: l):=
 h.row hb (fun k hk=>hk) (fun V V' hs hk hV=>Kd.R_step hV (fun k h1 h2=>hk k h1 h2)) (Kd.R_lower (Kd.R_mono (Kd.R_bound hr) (fun k hk=>⟨hk.2.1,hk.2.2.1⟩)) h.below.size)
theorem Own.turn {w W W':World} {l:Bx} {ok ok':Nat->Prop} {F F':World->Prop} {row:Option Nat} (h:Own w W (.r ok F :: l)) (hg:W.grownBy W' row) (hrow:∀ k,row=some k->ok k) (hk:∀ k,ok' k->(ok k\/W.heap.size<=k)/\k < W'.heap.size) (hs:Stab ok' F') (hF:F' W'):Own w W' (.r ok' F' :: l):=by
 have hfr:∀ k,ok k->w.heap.size<=k:=h.fresh (.r ok F) List.mem_cons_self;have hap:=List.pairwise_cons.1 h.apart;have hbel:Below w.heap.size w W':=pw_below_grown h.below _ h.below.size hg (fun z hz=>hfr z (hrow z hz));refine ⟨hbel,⟨⟨fun k h1=>(hk k h1).2,hs,hF⟩, ?_⟩,fun e he=> ?_,List.Pairwise.cons (fun e he k h1 h2=> ?_) hap.2⟩
 ·cases row with
  | none=>exact h.lies.2.below ⟨hg.os,hg.tape,hg.output,hg.size,fun k hk=>hg.block k hk (by simp)⟩
  | some g=>exact h.lies.2.grown hg (hfr g (hrow g rfl)) h.below.size (fun e he=>h.fresh e (List.mem_cons_of_mem _ he)) (fun e he hk=>hap.1 e he g (hrow g rfl) hk)
 ·rcases List.mem_cons.1 he with rfl | he
  ·intro k h2
   rcases (hk k h2).1 with h3 | h3
   ·exact hfr k h3
   ·exact Nat.le_trans h.below.size h3
  ·exact h.fresh e (List.mem_cons_of_mem _ he)
 ·rcases (hk k h1).1 with h3 | h3
  ·exact hap.1 e he k h3 h2
  ·exact Nat.lt_irrefl _ (Nat.lt_of_lt_of_le (h.lies.2.lt e he h2) h3)
theorem Own.perm {w W:World} {l l':Bx} (h:Own w W l) (hp:l.Perm l'):Own w W l':=by
 have key:∀ {l l':Bx},l.Perm l'->Lies W l->Lies W l':=by
  intro l l' hp
  induction hp with
  | nil=>exact id
  | cons x _ ih=>intro h;cases x <;> exact ⟨h.1,ih h.2⟩
  | swap x y l=>intro h;cases x <;> cases y <;> exact ⟨h.2.1,h.1,h.2.2⟩
  | trans _ _ h1 h2=>exact fun h=>h2 (h1 h)
 exact ⟨h.below,key hp h.lies,fun e he=>h.fresh e (hp.mem_iff.2 he),h.apart.perm hp (fun h k h1 h2=>h k h2 h1)⟩
inductive Has:Bx->(World->Prop)->Prop
 | here {ok F l}:Has (.r ok F :: l) F
 | kept {ok F l}:Has (.rk ok F :: l) F
 | there {F e l}:Has l F->Has (e :: l) F
theorem Lies.get {W:World} {F:World->Prop}:∀ {l:Bx},Lies W l->Has l F->F W
 | _,h,.here=>h.1.2.2
 | _,h,.kept=>h.1.2.2
 | .b _ _ _ :: _,h,.there h'=>Lies.get h.2 h'
 | .kp _ _ _ :: _,h,.there h'=>Lies.get h.2 h'
 | .f _ _ :: _,h,.there h'=>Lies.get h.2 h'
 | .r _ _ :: _,h,.there h'=>Lies.get h.2 h'
 | .rk _ _ :: _,h,.there h'=>Lies.get h.2 h'
theorem Own.get {w W:World} {l:Bx} {F:World->Prop} (h:Own w W l) (hh:Has l F:=by repeat (first|exact .here | exact .kept | apply Has.there)):F W:=h.lies.get hh
theorem Own.gotten {w W:World} {l:Bx} {α:Type} {d:Kd α} {e lo:Nat} {ok:Nat->Prop} {v:Value} {xs:List α} (h:Own w W l) (hh:Has l (Rw d e lo ok v xs):=by repeat (first|exact .here | exact .kept | apply Has.there)):d.R e W lo ok v xs:=h.lies.get hh
theorem Own.named {w W:World} {l:Bx} (h:Aside0 (Own w W l)):∃ L,Aside0 (l=L)/\Aside0 (Own w W L):=⟨l,⟨rfl⟩,h⟩
theorem Own.namedT {w W:World} {e:En} {l:Bx} (h:Aside0 (Own w W (e :: l))):∃ L,Aside0 (l=L)/\Aside0 (Own w W (e :: L)):=⟨l,⟨rfl⟩,h⟩
theorem Own.namedX {w W:World} {e b:En} {l:Bx} (h:Aside0 (Own w W (e :: b :: l))):∃ E L,Aside0 (e=E)/\Aside0 (l=L)/\Aside0 (Own w W (E :: b :: L)):=⟨e,l,⟨rfl⟩,⟨rfl⟩,h⟩
theorem Own.drew {w W:World} {l:Bx} (h:Own w W l):Own w W.drew l:=h.step (below_drew (Below.refl _ _))
def isBox:Op->Bool
 | .alloc _=>true
 | .box _ _=>true
 | _=>false
section
variable {P:Program} {ops:Array Oper} {rest:List Oper} {o:Oper} {a:Go.Act} {Q:Exit->Go.Act->World->Prop} {w W:World} {l:Bx}
theorem gB {t:TypeId} {x:Operand} {N:Tmp} {ty:TypeId} {ps:String} {af:Array Edge} (h:wpList P ops Q ({dst:=some N,op:=.box t x,type:=ty,pos:=ps,after:=af,guard:=none} :: rest) a W):wpList P ops Q ({dst:=some N,op:=.box t x,type:=ty,pos:=ps,after:=af,guard:=none} :: rest) a W:=h
theorem gA {t:TypeId} {N:Tmp} {ty:TypeId} {ps:String} {af:Array Edge} (h:wpList P ops Q ({dst:=some N,op:=.alloc t,type:=ty,pos:=ps,after:=af,guard:=none} :: rest) a W):wpList P ops Q ({dst:=some N,op:=.alloc t,type:=ty,pos:=ps,after:=af,guard:=none} :: rest) a W:=h
theorem gL {t:TypeId} {x:Operand} {N:Tmp} {ty:TypeId} {ps:String} {af:Array Edge} (h:wpList P ops Q ({dst:=some N,op:=.load t x,type:=ty,pos:=ps,after:=af,guard:=none} :: rest) a W):wpList P ops Q ({dst:=some N,op:=.load t x,type:=ty,pos:=ps,after:=af,guard:=none} :: rest) a W:=h
theorem gS {t:TypeId} {p x:Operand} {ty:TypeId} {ps:String} {af:Array Edge} (h:wpList P ops Q ({dst:=none,op:=.store t p x,type:=ty,pos:=ps,after:=af,guard:=none} :: rest) a W):wpList P ops Q ({dst:=none,op:=.store t p x,type:=ty,pos:=ps,after:=af,guard:=none} :: rest) a W:=h
theorem oB {cs:Array Value} {t:TypeId} {N:Tmp} (hb:isBox o.op=true) (M:Own w W l) (h:∀ g W',Aside0 (Own w W' (.b g cs t :: l))->Cl W' (.b g cs t :: l)->wpList P ops Q rest (a.put (some N) (.pointer (some ⟨g,0,none⟩))) W')
  (hd:o.dst=some N:=by rfl) (hgd:o.guard=none:=by rfl)
  (hrun:(execOp a.eval o).run P W= .ok (.value (.pointer (some ⟨W.heap.size,0,none⟩))) (W.alloc (.cells cs t (0,0))):=by go_simp <;> rfl):wpList P ops Q (o :: rest) a W:=
 Kd.event_run hgd hrun (by rw [hd];exact h _ _ ⟨M.push (below_alloc (Below.refl _ _) _) (blk_new W _)⟩ (M.push (below_alloc (Below.refl _ _) _) (blk_new W _)).cl)
theorem oL {t:TypeId} {x:Operand} {g:Nat} {cs:Array Value} {N:Tmp} (ho:o.op= .load t x) (hx:a.eval x= .pointer (some ⟨g,0,none⟩)) (M:Own w W l) (h:wpList P ops Q rest (a.put (some N) (.agg cs)) W)
  (hin:At l g cs t:=by repeat (first|exact .here | exact .kept | apply At.there)) (hd:o.dst=some N:=by rfl) (hgd:o.guard=none:=by rfl)
  (hu:(match P.underlying t with | some d=>d.isRow && ((P.info? t).map (·.size) == some cs.size)|none=>false)=true:=by kernel_rfl):wpList P ops Q (o :: rest) a W:=by
 cases hp:P.underlying t with
 | none=>rw [hp] at hu;cases hu
 | some d=>
  rw [hp] at hu;simp only [Bool.and_eq_true,beq_iff_eq] at hu;refine load_block (cs:=cs.toList) hgd t x ho d hx (by simpa using M.lies.at_ hin) hp hu.1 (by simpa using hu.2) ?_;rw [hd];simpa using h
theorem oS {t:TypeId} {p x:Operand} {g:Nat} {cs cs':Array Value} {l':Bx} (ho:o.op= .store t p x) (hp:a.eval p= .pointer (some ⟨g,0,none⟩)) (hx:a.eval x= .agg cs') (M:Own w W l)
  (h:∀ W',Aside0 (Own w W' l')->Cl W' l'->wpList P ops Q rest a W') (hin:Upd l g cs cs' t l':=by repeat (first|exact .here | apply Upd.there)) (hs:((cs'.size == cs.size) && ((P.info? t).map (·.size) == some cs'.size) && cs'.all (·.oneCell'))=true:=by kernel_rfl)
  (hN:o.dst=none:=by rfl) (hgd:o.guard=none:=by rfl):wpList P ops Q (o :: rest) a W:=by
 simp only [Bool.and_eq_true,beq_iff_eq,Array.all_eq_true_iff_forall_mem] at hs;refine store_block (cs:=cs'.toList) hgd hN t p x ho hp (by simpa using hx) (M.lies.at_ hin.at_) (by simpa using hs.1.1) (by simpa using hs.1.2) (fun v hv=>hs.2 v (by simpa using hv)) ?_;intro w1 h1 hg;have hm:=M.upd hg (by simpa using h1) hin;exact h _ ⟨hm⟩ hm.cl
theorem oF0 {t e:TypeId} {p x:Operand} {g j:Nat} {v:Value} {cs:Array Value} {l':Bx} (ho:o.op= .store t p x) (hp:a.eval p= .pointer (some ⟨g,j,none⟩)) (hx:a.eval x=v) (M:Own w W l) (hin:Upd l g cs (cs.setIfInBounds j v) e l')
  (h:∀ W',Aside0 (Own w W' l')->Cl W' l'->wpList P ops Q rest a W') (hj:j < cs.size) (hi:(P.info? t).map (·.size)=some 1) (hv:v.cells= #[v]) (h1:v.oneCell'=true) (hN:o.dst=none) (hgd:o.guard=none):wpList P ops Q (o :: rest) a W:=by
 have hh:=M.lies.at_ hin.at_;refine wpList_plain hgd fun K hK=> ?_
 obtain ⟨info,hinfo,hsz⟩:=Option.map_eq_some_iff.1 hi;unfold Oper.wp execOp
 have hrun:(Instr.storeAt t (.pointer (some ⟨g,j,none⟩)) v).run P W= .ok () (W.setCell ⟨g,j,none⟩ v):=by
  have:=run_storeCells_cells (P:=P) g j [v] 0 W (fun k hk=>by
   have:k=0:=by simpa using hk
   subst this;simp [zc8 hh j,Array.getElem?_eq_getElem hj]) (fun k hk=>by
   have:k=0:=by simpa using hk
   subst this;exact blk_frozen hh j) (fun q hq=>by rw [List.mem_singleton.1 hq];exact h1)
  simp only [Nat.add_zero] at this;simp [Instr.storeAt,Instr.sureAddr,storeVar,sizeOf,typeInfo,hinfo,hsz,hv,this,World.setCells]
 simp only [ho,hp,hx,Sem.run_bind,hrun,Result.andThen_ok,Sem.run_pure,Oper.upon_skip];rw [hN];obtain ⟨s1,s2,s3,s4⟩:=setCells_same g [v] j W;have hg:W.grownBy (W.setCell ⟨g,j,none⟩ v) (some g):=⟨s1,s2,s3,Nat.le_of_eq s4.symm,fun i hi hne=>Below.heap_setCell W ⟨g,j,none⟩ v i (fun he=>hne (by rw [he]))⟩;have hm:=M.upd hg (blk_set hh j v) hin;exact hK _ _ (h _ ⟨hm⟩ hm.cl)
theorem oG {t e:TypeId} {p x:Operand} {g j:Nat} {v:Value} {cs cs':Array Value} {l':Bx} (ho:o.op= .store t p x) (hp:a.eval p= .pointer (some ⟨g,j,none⟩)) (hx:a.eval x=v) (M:Own w W l)
  (h:∀ W',Aside0 (Own w W' l')->Cl W' l'->wpList P ops Q rest a W') (hat:At l g cs e:=by repeat (first|exact .here | apply At.there)) (hc:cs'=cs.setIfInBounds j v:=by simp only [List.setIfInBounds_toArray,List.set_cons_zero,List.set_cons_succ];rfl) (hin:Upd l g cs cs' e l':=by repeat (first|exact .here | apply Upd.there))
  (hv:v.cells= #[v]:=by rfl) (hs:(decide (j < cs.size) && ((P.info? t).map (·.size) == some 1) && v.oneCell')=true:=by kernel_rfl)
  (hN:o.dst=none:=by rfl) (hgd:o.guard=none:=by rfl):wpList P ops Q (o :: rest) a W:=by
 subst hc;simp only [Bool.and_eq_true,beq_iff_eq,decide_eq_true_eq] at hs;exact oF0 ho hp hx M hin h hs.1.1 hs.1.2 hv hs.2 hN hgd
theorem nums_set (hs:List Int) (j:Nat) (v:Int):(nums .i64 hs).toArray.setIfInBounds j (.int .i64 v)=(nums .i64 (hs.set j v)).toArray:=by
 rw [List.setIfInBounds_toArray];unfold nums;rw [List.map_set]
theorem nums_get {hs:List Int} {j:Nat} (h:j < hs.length):(nums .i64 hs).toArray[j]? = some (.int .i64 (hs.getD j 0)):=by
 rw [List.getElem?_toArray];unfold nums;simp [h]
theorem oM {t e:TypeId} {x y:Operand} {N:Tmp} {m:Nat} (ho:o.op= .makeSlice t x y) (hx:a.eval x= .int .i64 (m:Int)) (hy:a.eval y= .int .i64 (m:Int)) (ht:P.underlying t=some (.slice e)) (hinfo:(P.info? e).map (fun i=>(i.zero,i.size,i.bytes))=some (some (.int .i64 0),1,8)) (M:Own w W l) (hm:m<=1048576)
  (h:∀ g W',Aside0 (Own w W' (.b g (nums .i64 (List.replicate m 0)).toArray e :: l))->Cl W' (.b g (nums .i64 (List.replicate m 0)).toArray e :: l)->wpList P ops Q rest (a.put (some N) (.slice (some ⟨g,0,none⟩) m m)) W')
  (hd:o.dst=some N:=by rfl) (hgd:o.guard=none:=by rfl):wpList P ops Q (o :: rest) a W:=by
 have hl:madeCells #[Value.int .i64 0] m=(nums .i64 (List.replicate m 0)).toArray:=by
  apply Array.toList_inj.1;apply List.ext_getElem
  ·simp [nums,madeCells]
  ·intro i h1 h2
   simp [nums,madeCells,Nat.mod_one]
 have hr:=print_make t e .i64 8 ht hinfo (by decide) m (by omega) W;rw [hl] at hr;have hm2:=M.push (cs:=(nums .i64 (List.replicate m 0)).toArray) (t:=e) (below_alloc (Below.refl _ _) (.cells (nums .i64 (List.replicate m 0)).toArray e)) (blk_new W _);refine Kd.event_run hgd (v:=.slice (some ⟨W.heap.size,0,none⟩) m m) (w1:=W.alloc (.cells (nums .i64 (List.replicate m 0)).toArray e)) ?_ (by rw [hd];exact h _ _ ⟨hm2⟩ hm2.cl);unfold execOp;simp only [ho,hx,hy,Sem.run_bind,hr,Result.andThen_ok,Sem.run_pure]
theorem oI {t e:TypeId} {p x:Operand} {g j:Nat} {v:Int} {hs:List Int} {l':Bx} (ho:o.op= .store t p x) (hp:a.eval p= .pointer (some ⟨g,j,none⟩)) (hx:a.eval x= .int .i64 v) (M:Own w W l) (hin:Upd l g (nums .i64 hs).toArray (nums .i64 (hs.set j v)).toArray e l') (hj:j < hs.length)
  (h:∀ W',Aside0 (Own w W' l')->Cl W' l'->wpList P ops Q rest a W') (hs:(P.info? t).map (·.size)=some 1:=by kernel_rfl)
  (hN:o.dst=none:=by rfl) (hgd:o.guard=none:=by rfl):wpList P ops Q (o :: rest) a W:=
 oF0 ho hp hx M (by rw [nums_set];exact hin) h (by simpa [nums] using hj) hs rfl rfl hN hgd
theorem oR {t:TypeId} {x:Operand} {b off:Nat} {cs:List Value} {N:Tmp} (ho:o.op= .load t x) (hx:a.eval x= .pointer (some ⟨b,off,none⟩)) (M:Own w W l) (hc:∀ j u,cs[j]? = some u->w.cell? ⟨b,off+j,none⟩=some u) (h:wpList P ops Q rest (a.put (some N) (.agg cs.toArray)) W)
  (hd:o.dst=some N:=by rfl) (hgd:o.guard=none:=by rfl)
  (hu:(match P.underlying t with | some d=>d.isRow && ((P.info? t).map (·.size) == some cs.length)|none=>false)=true:=by kernel_rfl):wpList P ops Q (o :: rest) a W:=by
 cases hp:P.underlying t with
 | none=>rw [hp] at hu;cases hu
 | some d=>
  rw [hp] at hu;simp only [Bool.and_eq_true,beq_iff_eq] at hu;refine wpList_load_mid hgd t x ho b off hx cs d (fun j u hj=>pw_cell_below M.below (hc j u hj)) hp hu.1 hu.2 ?_;rw [hd];exact h
end
theorem oC {P:Program} {f:FuncId} {args:Array Value} {w W:World} {l:Bx} {r:Ending} {Q:Ending->World->Prop} (M:Own w W l) (hc:Calls P f args W fun e W'=>e=r/\Below W.heap.size W W') (h:∀ W',Aside0 (Own w W' l)->Cl W' l->Q r W'):Calls P f args W Q:=
 hc.mono fun e W' ⟨he,hb⟩=>by subst he;exact h _ ⟨M.step hb⟩ (M.step hb).cl
theorem oE {P:Program} {f:FuncId} {args:Array Value} {W:World} {r:Ending} {Q:Ending->World->Prop} (hc:Calls P f args W fun e W'=>e=r/\W=W') (h:Q r W):Calls P f args W Q:=
 hc.mono fun e W' ⟨he,hb⟩=>by subst he;subst hb;exact h
theorem oEb {P:Program} {f:FuncId} {args:Array Value} {W:World} {x b:Bool} {Q:Ending->World->Prop} (hc:Calls P f args W fun e W'=>e= .returned (.bool x)/\W=W') (hx:x=b) (h:Q (.returned (.bool b)) W):Calls P f args W Q:=
 by subst hx;exact oE hc h
theorem oCb {P:Program} {f:FuncId} {args:Array Value} {w W:World} {l:Bx} {x b:Bool} {Q:Ending->World->Prop} (M:Own w W l) (hc:Calls P f args W fun e W'=>e= .returned (.bool x)/\Below W.heap.size W W') (hx:x=b) (h:∀ W',Aside0 (Own w W' l)->Cl W' l->Q (.returned (.bool b)) W'):Calls P f args W Q:=
 by subst hx;exact oC M hc h
def dG (P:Program) (ops:Array Oper) (Q:Exit->Go.Act->World->Prop) (w:World) (l:Bx) (n:Nat) (is:List Nat) (a:Go.Act) (W:World):Prop:=
 wpAnyLast P .any ops Q (fun V=>Own w V l) [] (n - is.length) (setAll (Array.replicate n false) is) a W
theorem setAll_app:∀ (is js:List Nat) (x:Array Bool),setAll x (is ++ js)=setAll (setAll x is) js
 | [],_,_=>rfl
 | i :: is,js,x=>setAll_app is js _
section
variable {P:Program} {ops:Array Oper} {o:Oper} {a:Go.Act} {Q:Exit->Go.Act->World->Prop} {w W:World} {l:Bx} {n:Nat}
theorem dS {id:Nat} (M:Own w W l) (h:∀ W',Aside0 (Own w W' l)->dG P ops Q w l n [] a W') (hm:P.follows .mixedOrders=true:=by kernel_rfl) (hn:ops.size=n:=by rfl):(Code.region id ops true).wp P Q a W:=
 start_ (S:=fun V=>Own w V l) (ds:= []) _ hm hn rfl M.drew (fun hh=>h _ ⟨hh⟩)
theorem dN {js:List Nat} (is:List Nat) (M:Own w W l) (h:stillS P ops (fun V=>Cl V l) is (fun a'=>dG P ops Q w l n (js ++ is) a' W) a)
  (hc:(batchB .any ops [] (setAll (Array.replicate n false) js) is && (n - js.length == n - (js ++ is).length+is.length))=true:=by kernel_rfl)
  (hQ:∀ N v c a w,Q (.panic c) (Go.Act.put a N v) w->Q (.panic c) a w:=by (intro N _ _ _ _ h;cases N <;> exact h)):dG P ops Q w l n js a W:=by
 simp only [Bool.and_eq_true,beq_iff_eq] at hc;unfold dG;rw [hc.2];refine batch_go (S:=fun V=>Own w V l) hQ M is _ a hc.1 rfl ?_
 have key:∀ (is:List Nat) (K K':Go.Act->Prop) (a:Go.Act),(∀ a,K a->K' a)->stillS P ops (fun V=>Cl V l) is K a->stillS P ops (fun V=>Own w V l) is K' a:=by
  intro is
  induction is with
  | nil=>exact fun K K' a hk h=>hk _ h
  | cons i is ih=>
   rintro K K' a hk ⟨oi,v,h1,h2,h3⟩;exact ⟨oi,v,h1,h2.imp (fun h=>⟨h.1,fun V hV=>h.2 V hV.cl⟩) id,ih _ _ _ hk h3⟩
 exact key _ _ _ _ (fun a' h=>by unfold dG at h;rw [setAll_app] at h;exact h) h
theorem wanted_none {o:Oper} {y:Nat->Option Bool} (h:o.guard=none):Region.wanted o y=true:=by simp [Region.wanted,h]
theorem wanted_some {o:Oper} {y:Nat->Option Bool} {j:Nat} {b b':Bool} (h:o.guard=some (j,b)) (hy:y j=some b'):Region.wanted o y=(b' == b):=by cases b <;> cases b' <;> simp [Region.wanted,h,hy]
theorem sP {i:Nat} {is:List Nat} {K:Go.Act->Prop} {N:Option Tmp} {op:Op} {ty:TypeId} {ps:String} {af:Array Edge} {gd:Option (Nat × Bool)} {a':Go.Act} {v:Value} (hi:ops[i]? = some {dst:=N,op:=op,type:=ty,pos:=ps,after:=af,guard:=gd}) (h:stillS P ops (fun V=>Cl V l) is K a') (hg:gd=none:=by rfl)
  (hr:∀ V,Cl V l->(execOp a.eval {dst:=N,op:=op,type:=ty,pos:=ps,after:=af,guard:=gd}).run P V= .ok (.value v) V:=by intro V C;simp only [Cl] at C;go_simp;with_reducible rfl)
  (ha:a.put N v=a':=by simp only [Act.put,sA,sZ,sS,i64_w];rfl):stillS P ops (fun V=>Cl V l) (i :: is) K a:=
 ⟨_,v,hi,Or.inl ⟨wanted_none hg,hr⟩,ha ▸ h⟩
theorem sG {i:Nat} {is:List Nat} {K:Go.Act->Prop} {N:Option Tmp} {op:Op} {ty:TypeId} {ps:String} {af:Array Edge} {gd:Option (Nat × Bool)} {a':Go.Act} {v:Value} {j:Nat} {b b':Bool} (hi:ops[i]? = some {dst:=N,op:=op,type:=ty,pos:=ps,after:=af,guard:=gd}) (h:stillS P ops (fun V=>Cl V l) is K a') (hg:gd=some (j,b):=by rfl) (hy:yielded ops a.tmps j=some b':=by rfl) (hb:b'=b:=by rfl)
  (hr:∀ V,Cl V l->(execOp a.eval {dst:=N,op:=op,type:=ty,pos:=ps,after:=af,guard:=gd}).run P V= .ok (.value v) V:=by intro V C;simp only [Cl] at C;go_simp;with_reducible rfl)
  (ha:a.put N v=a':=by simp only [Act.put,sA,sZ,sS,i64_w];rfl):stillS P ops (fun V=>Cl V l) (i :: is) K a:=
 ⟨_,v,hi,Or.inl ⟨by rw [wanted_some hg hy,hb,beq_self_eq_true],hr⟩,ha ▸ h⟩
theorem sU {i:Nat} {is:List Nat} {K:Go.Act->Prop} {N:Option Tmp} {op:Op} {ty:TypeId} {ps:String} {af:Array Edge} {gd:Option (Nat × Bool)} {a':Go.Act} {j:Nat} {b b':Bool} (hi:ops[i]? = some {dst:=N,op:=op,type:=ty,pos:=ps,after:=af,guard:=gd}) (h:stillS P ops (fun V=>Cl V l) is K a') (hg:gd=some (j,b):=by rfl) (hy:yielded ops a.tmps j=some b':=by rfl) (hb:b'= !b:=by rfl)
  (ha:a.put N undef=a':=by simp only [Act.put,sA,sZ,sS];rfl):stillS P ops (fun V=>Cl V l) (i :: is) K a:=
 ⟨_,undef,hi,Or.inr ⟨by rw [wanted_some hg hy,hb];cases b <;> rfl,rfl⟩,ha ▸ h⟩
theorem sN {i:Nat} {is:List Nat} {K:Go.Act->Prop} {N:Option Tmp} {op:Op} {ty:TypeId} {ps:String} {af:Array Edge} {gd:Option (Nat × Bool)} {a':Go.Act} {j:Nat} {b:Bool} (hi:ops[i]? = some {dst:=N,op:=op,type:=ty,pos:=ps,after:=af,guard:=gd}) (h:stillS P ops (fun V=>Cl V l) is K a') (hg:gd=some (j,b):=by rfl) (hy:yielded ops a.tmps j=none:=by rfl)
  (ha:a.put N undef=a':=by simp only [Act.put,sA,sZ,sS];rfl):stillS P ops (fun V=>Cl V l) (i :: is) K a:=
 ⟨_,undef,hi,Or.inr ⟨by simp [Region.wanted,hg,hy],rfl⟩,ha ▸ h⟩
theorem Cl.at_ {W:World} {g:Nat} {cs:Array Value} {t:TypeId}:∀ {l:Bx},Cl W l->At l g cs t->∀ i,W.cell? ⟨g,i,none⟩=cs[i]?
 | _,h,.here=>h.1
 | _,h,.kept=>h.1
 | .b _ _ _ :: _,h,.there h'=>Cl.at_ h.2 h'
 | .kp _ _ _ :: _,h,.there h'=>Cl.at_ h.2 h'
 | .f _ _ :: _,h,.there h'=>Cl.at_ h.2 h'
 | .r _ _ :: l,h,.there h'=>Cl.at_ (l:=l) h h'
 | .rk _ _ :: l,h,.there h'=>Cl.at_ (l:=l) h h'
theorem sL {i:Nat} {is:List Nat} {K:Go.Act->Prop} {N:Option Tmp} {t:TypeId} {x:Operand} {ty:TypeId} {ps:String} {af:Array Edge} {a':Go.Act} {g:Nat} {cs:Array Value} (hi:ops[i]? = some {dst:=N,op:=.load t x,type:=ty,pos:=ps,after:=af,guard:=none}) (hx:a.eval x= .pointer (some ⟨g,0,none⟩)) (h:stillS P ops (fun V=>Cl V l) is K a')
  (hin:At l g cs t:=by repeat (first|exact .here | exact .kept | apply At.there)) (hu:(match P.underlying t with | some d=>d.isRow && ((P.info? t).map (·.size) == some cs.size)|none=>false)=true:=by kernel_rfl)
  (ha:a.put N (.agg cs)=a':=by simp only [Act.put,sA,sZ,sS];rfl):stillS P ops (fun V=>Cl V l) (i :: is) K a:=by
 cases hp:P.underlying t with
 | none=>rw [hp] at hu;cases hu
 | some d=>
  rw [hp] at hu;simp only [Bool.and_eq_true,beq_iff_eq] at hu;refine ⟨_,.agg cs,hi, ?_,ha ▸ h⟩;have:=yieldsIf_load_mid (ops:=ops) (S:=fun V=>Cl V l) (op:={dst:=N,op:=.load t x,type:=ty,pos:=ps,after:=af,guard:=none}) (a:=a) (wanted_none rfl) t x rfl g 0 hx cs.toList d (fun V hV j u hj=>by rw [Nat.zero_add,Cl.at_ hV hin j];simpa using hj) hp hu.1 (by simpa using hu.2);simpa using this
theorem sLg {i:Nat} {is:List Nat} {K:Go.Act->Prop} {N:Option Tmp} {t:TypeId} {x:Operand} {ty:TypeId} {ps:String} {af:Array Edge} {a':Go.Act} {g:Nat} {cs:Array Value} {j:Nat} {b b':Bool} (hi:ops[i]? = some {dst:=N,op:=.load t x,type:=ty,pos:=ps,after:=af,guard:=some (j,b)}) (hx:a.eval x= .pointer (some ⟨g,0,none⟩)) (h:stillS P ops (fun V=>Cl V l) is K a')
  (hy:yielded ops a.tmps j=some b':=by rfl) (hb:b'=b:=by rfl) (hin:At l g cs t:=by repeat (first|exact .here | exact .kept | apply At.there)) (hu:(match P.underlying t with | some d=>d.isRow && ((P.info? t).map (·.size) == some cs.size)|none=>false)=true:=by kernel_rfl)
  (ha:a.put N (.agg cs)=a':=by simp only [Act.put,sA,sZ,sS];rfl):stillS P ops (fun V=>Cl V l) (i :: is) K a:=by
 cases hp:P.underlying t with
 | none=>rw [hp] at hu;cases hu
 | some d=>
  rw [hp] at hu;simp only [Bool.and_eq_true,beq_iff_eq] at hu;refine ⟨_,.agg cs,hi, ?_,ha ▸ h⟩;have:=yieldsIf_load_mid (ops:=ops) (S:=fun V=>Cl V l) (op:={dst:=N,op:=.load t x,type:=ty,pos:=ps,after:=af,guard:=some (j,b)}) (a:=a) (by rw [wanted_some rfl hy,hb,beq_self_eq_true]) t x rfl g 0 hx cs.toList d (fun V hV j u hj=>by rw [Nat.zero_add,Cl.at_ hV hin j];simpa using hj) hp hu.1 (by simpa using hu.2);simpa using this
theorem dC {js:List Nat} (i:Nat) {N:Option Tmp} {f:FuncId} {ar:Array Operand} {ts:Array TypeId} {args:Array Value} {ty:TypeId} {ps:String} {af:Array Edge} {gd:Option (Nat × Bool)} (hi:ops[i]? = some {dst:=N,op:=.call {callee:=.value (.func f),args:=ar,argTypes:=ts},type:=ty,pos:=ps,after:=af,guard:=gd})
  (h:Calls P f args W fun e W'=>∃ v,e= .returned v/\Aside0 (Own w W' l)/\dG P ops Q w l n (js ++ [i]) (a.put N v) W')
  (hw:Region.wanted {dst:=N,op:=.call {callee:=.value (.func f),args:=ar,argTypes:=ts},type:=ty,pos:=ps,after:=af,guard:=gd} (yielded ops a.tmps)=true:=by rfl)
  (hargs:ar.map a.eval=args:=by (try simp only [List.map_toArray,List.map_cons,List.map_nil]);first | done | rfl)
  (hc:((Region.ready .any ops (setAll (Array.replicate n false) js) == [i]) && (n - js.length == n - (js ++ [i]).length+1) && (match P.funcs[f]? with | some fn=> !(fn.name == "runtime.NumGoroutine") && fn.body.isSome | none=>false))=true:=by kernel_rfl):dG P ops Q w l n js a W:=by
 simp only [Bool.and_eq_true,beq_iff_eq] at hc;unfold dG;rw [hc.1.2]
 cases hf:P.funcs[f]? with
 | none=>rw [hf] at hc;cases hc.2
 | some fn=>
  rw [hf] at hc;simp only [Bool.and_eq_true,Bool.not_eq_true'] at hc;refine one_ (N:=N) ((setAll (Array.replicate n false) js).setIfInBounds i true) hi rfl (by simp [readyB,hc.1.1]) (by simp) (fun K hK=> ?_);refine goes_ (fn:=fn) hf hc.2.1 hc.2.2 args hw rfl rfl hargs ?_;refine h.mono ?_;rintro e W' ⟨v,rfl,hm,hd⟩;refine ⟨v,rfl, ?_⟩;refine hK.out _ _ hm.out (fun _=> ?_);unfold dG at hd;rw [setAll_app] at hd;exact hd
theorem dU {js:List Nat} (i:Nat) {N:Option Tmp} {op:Op} {ty:TypeId} {ps:String} {af:Array Edge} {gd:Option (Nat × Bool)} (hi:ops[i]? = some {dst:=N,op:=op,type:=ty,pos:=ps,after:=af,guard:=gd}) (hw:Region.wanted {dst:=N,op:=op,type:=ty,pos:=ps,after:=af,guard:=gd} (yielded ops a.tmps)=false) (M:Own w W l)
  (h:dG P ops Q w l n (js ++ [i]) (a.put N undef) W)
  (hc:((Region.ready .any ops (setAll (Array.replicate n false) js) == [i]) && (n - js.length == n - (js ++ [i]).length+1))=true:=by kernel_rfl):dG P ops Q w l n js a W:=by
 simp only [Bool.and_eq_true,beq_iff_eq] at hc;unfold dG;rw [hc.2];refine one_ (N:=N) ((setAll (Array.replicate n false) js).setIfInBounds i true) hi rfl (by simp [readyB,hc.1]) (by simp) (fun K hK=> ?_);rw [if_neg (by rw [hw];exact Bool.false_ne_true)];refine hK.out _ _ M (fun _=> ?_);unfold dG at h;rw [setAll_app] at h;exact h
theorem dD {js:List Nat} (h:Q .normal a W) (hr:(Region.ready .any ops (setAll (Array.replicate n false) js) == [])=true:=by kernel_rfl):dG P ops Q w l n js a W:=done_ hr h
theorem dA {js:List Nat} {a':Go.Act} (h:dG P ops Q w l n js a' W) (ha:a=a':=by simp only [Act.put,sA,sZ,sS,i64_w];rfl):dG P ops Q w l n js a W:=by
 subst ha;exact h
end
theorem info_cellN:(Tryz.prog.info? 63).map (fun i=>(i.zero,i.size,i.bytes))=some (some (.agg #[.int .i64 0,.int .i64 0,.int .i64 0]),3,24):=by kernel_rfl
theorem cloneInts_calls (A:Option Addr) (c:Nat) (xs:List Int) (w:World) (hx:(Kd.int .i64).C w A xs.length xs) (hn:xs.length<=1048576):
  Calls Tryz.prog 150 #[.slice A xs.length c] w fun e w'=>∃ v,e= .returned v/\(Kd.int .i64).R 3 w' w.heap.size (fun _=>True) v xs/\Below w.heap.size w w':=by
 have q22:∀ (w:World) (a:Option Addr) (n c n' c':Nat),(binOp .eql 22 (.slice a n c) (.slice none n' c')).run Tryz.prog w= .ok (.bool a.isNone) w:=fun w a n c n' c'=>Lib.run_eql_slice_nil w _ _ a n c n' c' Tryz.underlying22
 have HX:=am hx;obtain ⟨h1,h2,h3⟩:=hx
 cases A with
 | none=>
  obtain rfl:xs= []:=by
   cases xs with
   | nil=>rfl
   | cons x l=>obtain ⟨ad,ha,-⟩:=h3 (by simp);cases ha
  clear h1 h2 h3;go_enter Tryz.func150,Tryz.ntmps150;go_wp2;go_ret
  exact ⟨_,rfl,Kd.R_nil _ _ _ _ _,Below.refl _ _⟩
 | some ad=>
  clear h1 h2 h3;go_enter Tryz.func150,Tryz.ntmps150
  go_wp2_with (first
  |((with_reducible refine gate_dst (N:=5) rfl ?_);refine Kd.R_lit (w0:=w) (Kd.int .i64) w.heap.size 3 rfl (N:=5) rfl (xs:=([]:List Int)) (inner:= []) (ok:=fun _=>True) (okp:=fun _=>True) (by go_simp<;>rfl) (Reps.none _ _) (fun _ hk=>hk) trivial (Below.refl _ _) (Nat.le_refl _) (by simp) ?_;intro v0 w3 ho hb hg _;have HO:=am ho;have HB:=am hb;replace HX:=am (Kd.C_below HX.out (grown_below_ hg));clear ho hb hg)
  |((with_reducible refine gate_builtin (b:=.append) (xs:=#[.tmp 5,.tmp 6]) rfl ?_);at_builtin;refine Kd.R_append_rows (Kd.int .i64) (Rr:=(Kd.int .i64).K w3) (w0:=w) w.heap.size rfl (.tmp 5) (.tmp 6) 22 3 (.int .i64 0) 8 rfl Tryz.underlying22 info_int rfl (by decide) (by decide) v0 [] xs (some ad) xs.length c (fun _=>True) (fun _=>False) rfl rfl HO.out HX.out (fun _ _ h=>h) (fun _ hk=>hk.elim) (fun _ _=>trivial) HB.out (below_size HB.out) (by simp;omega) ?_;intro v1 w4 ho hb hg _;have HO1:=am ho;have HB1:=am hb;clear ho hb hg HO HB))
  go_ret;exact ⟨_,rfl,HO1.out,HB1.out⟩
theorem clonePuts_calls (A:Option Addr) (c:Nat) (xs:List Put) (w:World) (hx:kPut.C w A xs.length xs) (hn:xs.length<=1048576):
  Calls Tryz.prog 171 #[.slice A xs.length c] w fun e w'=>∃ v,e= .returned v/\kPut.R 65 w' w.heap.size (fun _=>True) v xs/\Below w.heap.size w w':=by
 have q22:∀ (w:World) (a:Option Addr) (n c n' c':Nat),(binOp .eql 57 (.slice a n c) (.slice none n' c')).run Tryz.prog w= .ok (.bool a.isNone) w:=fun w a n c n' c'=>Lib.run_eql_slice_nil w _ _ a n c n' c' Tryz.underlying57
 have HX:=am hx;obtain ⟨h1,h2,h3⟩:=hx
 cases A with
 | none=>
  obtain rfl:xs= []:=by
   cases xs with
   | nil=>rfl
   | cons x l=>obtain ⟨ad,ha,-⟩:=h3 (by simp);cases ha
  clear h1 h2 h3;go_enter Tryz.func171,Tryz.ntmps171;go_wp2;go_ret
  exact ⟨_,rfl,Kd.R_nil _ _ _ _ _,Below.refl _ _⟩
 | some ad=>
  clear h1 h2 h3;go_enter Tryz.func171,Tryz.ntmps171
  go_wp2_with (first
  |((with_reducible refine gate_dst (N:=5) rfl ?_);refine Kd.R_lit (w0:=w) kPut w.heap.size 65 rfl (N:=5) rfl (xs:=([]:List Put)) (inner:= []) (ok:=fun _=>True) (okp:=fun _=>True) (by go_simp<;>rfl) (Reps.none _ _) (fun _ hk=>hk) trivial (Below.refl _ _) (Nat.le_refl _) (by simp) ?_;intro v0 w3 ho hb hg _;have HO:=am ho;have HB:=am hb;replace HX:=am (Kd.C_below HX.out (grown_below_ hg));clear ho hb hg)
  |((with_reducible refine gate_builtin (b:=.append) (xs:=#[.tmp 5,.tmp 6]) rfl ?_);at_builtin;refine Kd.R_append_rows kPut (Rr:=kPut.K w3) (w0:=w) w.heap.size rfl (.tmp 5) (.tmp 6) 57 65 (.agg #[.int .i64 0,.int .i64 0]) 16 rfl Tryz.underlying57 info_put rfl (by decide) (by decide) v0 [] xs (some ad) xs.length c (fun _=>True) (fun _=>False) rfl rfl HO.out HX.out (fun _ _ h=>h) (fun _ hk=>hk.elim) (fun _ _=>trivial) HB.out (below_size HB.out) (by simp;omega) ?_;intro v1 w4 ho hb hg _;have HO1:=am ho;have HB1:=am hb;clear ho hb hg HO HB))
  go_ret;exact ⟨_,rfl,HO1.out,HB1.out⟩
theorem cloneCells_calls (A:Option Addr) (c:Nat) (xs:List Cell) (w:World) (hx:kCell.C w A xs.length xs) (hn:xs.length<=1048576):
  Calls Tryz.prog 133 #[.slice A xs.length c] w fun e w'=>∃ v,e= .returned v/\kCell.R 63 w' w.heap.size (fun _=>True) v xs/\Below w.heap.size w w':=by
 have q22:∀ (w:World) (a:Option Addr) (n c n' c':Nat),(binOp .eql 38 (.slice a n c) (.slice none n' c')).run Tryz.prog w= .ok (.bool a.isNone) w:=fun w a n c n' c'=>Lib.run_eql_slice_nil w _ _ a n c n' c' Tryz.underlying38
 have HX:=am hx;obtain ⟨h1,h2,h3⟩:=hx
 cases A with
 | none=>
  obtain rfl:xs= []:=by
   cases xs with
   | nil=>rfl
   | cons x l=>obtain ⟨ad,ha,-⟩:=h3 (by simp);cases ha
  clear h1 h2 h3;go_enter Tryz.func133,Tryz.ntmps133;go_wp2;go_ret
  exact ⟨_,rfl,Kd.R_nil _ _ _ _ _,Below.refl _ _⟩
 | some ad=>
  clear h1 h2 h3;go_enter Tryz.func133,Tryz.ntmps133
  go_wp2_with (first
  |((with_reducible refine gate_dst (N:=5) rfl ?_);refine Kd.R_lit (w0:=w) kCell w.heap.size 63 rfl (N:=5) rfl (xs:=([]:List Cell)) (inner:= []) (ok:=fun _=>True) (okp:=fun _=>True) (by go_simp<;>rfl) (Reps.none _ _) (fun _ hk=>hk) trivial (Below.refl _ _) (Nat.le_refl _) (by simp) ?_;intro v0 w3 ho hb hg _;have HO:=am ho;have HB:=am hb;replace HX:=am (Kd.C_below HX.out (grown_below_ hg));clear ho hb hg)
  |((with_reducible refine gate_builtin (b:=.append) (xs:=#[.tmp 5,.tmp 6]) rfl ?_);at_builtin;refine Kd.R_append_rows kCell (Rr:=kCell.K w3) (w0:=w) w.heap.size rfl (.tmp 5) (.tmp 6) 38 63 (.agg #[.int .i64 0,.int .i64 0,.int .i64 0]) 24 rfl Tryz.underlying38 info_cellN rfl (by decide) (by decide) v0 [] xs (some ad) xs.length c (fun _=>True) (fun _=>False) rfl rfl HO.out HX.out (fun _ _ h=>h) (fun _ hk=>hk.elim) (fun _ _=>trivial) HB.out (below_size HB.out) (by simp;omega) ?_;intro v1 w4 ho hb hg _;have HO1:=am ho;have HB1:=am hb;clear ho hb hg HO HB))
  go_ret;exact ⟨_,rfl,HO1.out,HB1.out⟩
open Go.Extern.Stop Go.Stop Go.Extern
theorem isTypeOf (v:Value) (w:World):(Extern.ReflectliteType.typeOf #[.iface 253 v]).run Tryz.prog w= .ok (.iface 174 (.agg #[.pointer (some ⟨2,253,none⟩)])) w:=by kernel_rfl
theorem isComparable (w:World):((Extern.ReflectliteType.method fun t=>do Go.Extern.Rtype.noPackHeld "Comparable" t;(fun a=>Value.bool a.comparable) <$> typeInfo t) #[.agg #[.pointer (some ⟨2,253,none⟩)]]).run Tryz.prog w= .ok (.bool true) w:=by kernel_rfl
theorem isMethod (v:Value) (w:World):(Go.method 391 174 v "Comparable").run Tryz.prog w= .ok (226,v) w:=by kernel_rfl
theorem isComp:(Tryz.prog.info? 253).map (·.comparable)=some true:=by kernel_rfl
theorem isSize:(Tryz.prog.info? 279).map (·.size)=some 1:=by kernel_rfl
theorem is_same (a:Addr) (w:World):
  Calls Tryz.prog 56 #[.iface 253 (.pointer (some a)),.iface 253 (.pointer (some a))] w fun e w'=>e= .returned (.bool true)/\w=w':=by
 obtain ⟨i,hi,hcmp⟩:=Option.map_eq_some_iff.1 isComp;obtain ⟨j,hj,hjs⟩:=Option.map_eq_some_iff.1 isSize;have h8:=@run_callFunc_extern Tryz.prog 91 _ Extern.ReflectliteType.typeOf Tryz.func91 (by kernel_rfl) (by kernel_rfl) (by kernel_rfl) (by kernel_rfl);have h32:=@run_callFunc_extern Tryz.prog 226 _ (Extern.ReflectliteType.method fun t=>do Go.Extern.Rtype.noPackHeld "Comparable" t;pure (.bool (<-typeInfo t).comparable)) Tryz.func226 (by kernel_rfl) (by kernel_rfl) (by kernel_rfl) (by kernel_rfl);have tT:=isTypeOf;have cT:=isComparable;have mR:=isMethod;have heq:=run_eql_iface_ptr_same (P:=Tryz.prog) w a Tryz.underlying93 Tryz.underlying253 hi hcmp hj;go_enter Tryz.func56,Tryz.ntmps56;go_wp2;refine wp_loop_rounds 1 ?_;rw [rounds_succ];go_wp2;go_ret;exact ⟨rfl,rfl⟩
theorem is_nil (b:Addr) (w:World):
  Calls Tryz.prog 56 #[.nilIface,.iface 253 (.pointer (some b))] w fun e w'=>e= .returned (.bool false)/\w=w':=by
 have hn:=run_eql_iface_nil_left (P:=Tryz.prog) w 253 (.pointer (some b)) Tryz.underlying93;go_enter Tryz.func56,Tryz.ntmps56;go_wp2;go_ret;exact ⟨rfl,rfl⟩
theorem own4_of {t:Task} {w W:World} {l:Bx} {o3 o8 o9 o10:Nat->Prop} {v3 v8 v9 v10:Value} (h:Own w W (.r o10 (Rw kPut 65 w.heap.size o10 v10 t.puts) :: .r o9 (Rw kPut 65 w.heap.size o9 v9 t.reads) :: .r o8 (Rw (Kd.int .i64) 3 w.heap.size o8 v8 t.old) :: .r o3 (Rw (Kd.int .i64) 3 w.heap.size o3 v3 t.regs) :: l)):Own4 t w.heap.size W v3 v8 v9 v10:=by
 have r10:kPut.R 65 W w.heap.size o10 v10 t.puts:=h.gotten;have r9:kPut.R 65 W w.heap.size o9 v9 t.reads:=h.gotten;have r8:(Kd.int .i64).R 3 W w.heap.size o8 v8 t.old:=h.gotten;have r3:(Kd.int .i64).R 3 W w.heap.size o3 v3 t.regs:=h.gotten;have ha:=h.apart;simp only [List.pairwise_cons] at ha;obtain ⟨p10,p9,p8,-,-⟩:=ha;have q8_3:∀ k,o8 k->¬ o3 k:=p8 (.r o3 (Rw (Kd.int .i64) 3 w.heap.size o3 v3 t.regs)) (by simp);have q9_3:∀ k,o9 k->¬ o3 k:=p9 (.r o3 (Rw (Kd.int .i64) 3 w.heap.size o3 v3 t.regs)) (by simp);have q10_3:∀ k,o10 k->¬ o3 k:=p10 (.r o3 (Rw (Kd.int .i64) 3 w.heap.size o3 v3 t.regs)) (by simp);have q9_8:∀ k,o9 k->¬ o8 k:=p9 (.r o8 (Rw (Kd.int .i64) 3 w.heap.size o8 v8 t.old)) (by simp);have q10_8:∀ k,o10 k->¬ o8 k:=p10 (.r o8 (Rw (Kd.int .i64) 3 w.heap.size o8 v8 t.old)) (by simp);have q10_9:∀ k,o10 k->¬ o9 k:=p10 (.r o9 (Rw kPut 65 w.heap.size o9 v9 t.reads)) (by simp);have n {v u:Value} {a b:Nat->Prop} (hv:∀ k,v.ownBlock=some k->a k) (hu:∀ k,u.ownBlock=some k->b k) (hp:∀ k,b k->¬ a k):∀ k,v.ownBlock=some k->u.ownBlock ≠ some k:=fun k h1 h2=>hp k (hu k h2) (hv k h1)
 exact ⟨Kd.R_mono r3 (fun _ _=>trivial),Kd.R_mono r8 (fun _ _=>trivial),Kd.R_mono r9 (fun _ _=>trivial),Kd.R_mono r10 (fun _ _=>trivial),
  n r3.1 r8.1 q8_3,n r3.1 r9.1 q9_3,n r3.1 r10.1 q10_3,n r8.1 r9.1 q9_8,n r8.1 r10.1 q10_8,n r9.1 r10.1 q10_9⟩
theorem taskCopy_calls (t:Task) (ts:List Value) (w:World) (ht:kTask.K w t ts) (h3:t.regs.length<=1048576) (h8:t.old.length<=1048576) (h9:t.reads.length<=1048576) (h10:t.puts.length<=1048576):
  Calls Tryz.prog 134 #[.agg ts.toArray] w fun e w'=>∃ v3 v8 v9 v10,e= .returned (.agg #[.int .i64 t.body,.int .i64 t.pc,.int .i64 t.up,v3,.int .i64 t.way,.int .i64 t.stage,.int .i64 t.at_,.int .i64 t.since,v8,v9,v10,.int .i64 t.when_,.int .i64 t.from_])/\Own4 t w.heap.size w' v3 v8 v9 v10/\Below w.heap.size w w':=by
 obtain ⟨A3,c3,A8,c8,A9,c9,A10,c10,rfl,l3,g3,l8,g8,l9,g9,l10,g10⟩:=kTask_open ht;have G3:=am g3;have G8:=am g8;have G9:=am g9;have G10:=am g10;have M:=am (Own.nil w);have C:=M.out.cl;clear ht g3 g8 g9 g10 l3 l8 l9 l10;go_enter Tryz.func134,Tryz.ntmps134
 go_upto_region 2 with (first
 |((first|with_reducible refine gB ?_ | with_reducible refine gA ?_);refine oB rfl M.out ?_;clear M C;intro g W M C;simp only [Cl] at C)
 |(go_at_call 150;refine (cloneInts_calls _ _ _ _ (Kd.C_below G3.out M.out.below) h3).mono ?_;rintro e W1 ⟨v,rfl,hr,hb⟩;obtain ⟨A,c,rfl⟩:=Kd.R_slice hr;replace M:=am (M.out.made hb hr);clear C;have C:=M.out.cl;simp only [Cl] at C;clear hb hr)
 |((with_reducible refine gS ?_);refine oG rfl rfl (by go_simp <;> rfl) M.out ?_;clear M C;intro W M C;simp only [Cl] at C))
 go_upto_region 3 with (first
 |(go_at_call 150;refine (cloneInts_calls _ _ _ _ (Kd.C_below G8.out M.out.below) h8).mono ?_;rintro e W1 ⟨v,rfl,hr,hb⟩;obtain ⟨A,c,rfl⟩:=Kd.R_slice hr;replace M:=am (M.out.made hb hr);clear C;have C:=M.out.cl;simp only [Cl] at C;clear hb hr)
 |((with_reducible refine gS ?_);refine oG rfl rfl (by go_simp <;> rfl) M.out ?_;clear M C;intro W M C;simp only [Cl] at C))
 go_upto_region 4 with (first
 |(go_at_call 171;refine (clonePuts_calls _ _ _ _ (Kd.C_below G9.out M.out.below) h9).mono ?_;rintro e W1 ⟨v,rfl,hr,hb⟩;obtain ⟨A,c,rfl⟩:=Kd.R_slice hr;replace M:=am (M.out.made hb hr);clear C;have C:=M.out.cl;simp only [Cl] at C;clear hb hr)
 |((with_reducible refine gS ?_);refine oG rfl rfl (by go_simp <;> rfl) M.out ?_;clear M C;intro W M C;simp only [Cl] at C))
 go_wp2_with (first
 |(go_at_call 171;refine (clonePuts_calls _ _ _ _ (Kd.C_below G10.out M.out.below) h10).mono ?_;rintro e W1 ⟨v,rfl,hr,hb⟩;obtain ⟨A,c,rfl⟩:=Kd.R_slice hr;replace M:=am (M.out.made hb hr);clear C;have C:=M.out.cl;simp only [Cl] at C;clear hb hr)
 |((with_reducible refine gS ?_);refine oG rfl rfl (by go_simp <;> rfl) M.out ?_;clear M C;intro W M C;simp only [Cl] at C)
 |((with_reducible refine gL ?_);refine oL rfl rfl M.out ?_)
 |((with_reducible refine gS ?_);refine oS rfl rfl rfl M.out ?_;clear M C;intro W M C;simp only [Cl] at C))
 refine bodyPost_ret (results_single Tryz.results134 (.cell _ _ _ (0,0) _ rfl (M.out.lies.at_ (by repeat (first|exact .here | exact .kept | apply At.there))) Tryz.underlying59 rfl (by kernel_rfl) .nil)) rfl ?_;exact ⟨_,_,_,_,rfl,own4_of M.out,M.out.below⟩
theorem entryCopy_calls (e:Entry) (es:List Value) (w:World) (he:kEntry.K w e es) (h3:e.reads.length<=1048576) (h4:e.puts.length<=1048576):
  Calls Tryz.prog 135 #[.agg es.toArray] w fun r w'=>∃ v3 v4,r= .returned (.agg #[.int .i64 e.task,.int .i64 e.act,.int .i64 e.when_,v3,v4,.int .i64 e.from_])/\kPut.R 65 w' w.heap.size (fun _=>True) v3 e.reads/\kPut.R 65 w' w.heap.size (fun _=>True) v4 e.puts/\Below w.heap.size w w':=by
 obtain ⟨A3,c3,A4,c4,rfl,l3,g3,l4,g4⟩:=kEntry_open he;have G3:=am g3;have G4:=am g4;have M:=am (Own.nil w);have C:=M.out.cl;clear he g3 g4 l3 l4;go_enter Tryz.func135,Tryz.ntmps135
 go_upto_region 2 with (first
 |((first|with_reducible refine gB ?_ | with_reducible refine gA ?_);refine oB rfl M.out ?_;clear M C;intro g W M C;simp only [Cl] at C)
 |(go_at_call 171;refine (clonePuts_calls _ _ _ _ (Kd.C_below G3.out M.out.below) h3).mono ?_;rintro e W1 ⟨v,rfl,hr,hb⟩;obtain ⟨A,c,rfl⟩:=Kd.R_slice hr;replace M:=am (M.out.made hb hr);clear C;have C:=M.out.cl;simp only [Cl] at C;clear hb hr)
 |((with_reducible refine gS ?_);refine oG rfl rfl (by go_simp <;> rfl) M.out ?_;clear M C;intro W M C;simp only [Cl] at C))
 go_wp2_with (first
 |(go_at_call 171;refine (clonePuts_calls _ _ _ _ (Kd.C_below G4.out M.out.below) h4).mono ?_;rintro e W1 ⟨v,rfl,hr,hb⟩;obtain ⟨A,c,rfl⟩:=Kd.R_slice hr;replace M:=am (M.out.made hb hr);clear C;have C:=M.out.cl;simp only [Cl] at C;clear hb hr)
 |((with_reducible refine gS ?_);refine oG rfl rfl (by go_simp <;> rfl) M.out ?_;clear M C;intro W M C;simp only [Cl] at C)
 |((with_reducible refine gL ?_);refine oL rfl rfl M.out ?_)
 |((with_reducible refine gS ?_);refine oS rfl rfl rfl M.out ?_;clear M C;intro W M C;simp only [Cl] at C))
 refine bodyPost_ret (results_single Tryz.results135 (.cell _ _ _ (0,0) _ rfl (M.out.lies.at_ (by repeat (first|exact .here | exact .kept | apply At.there))) Tryz.underlying136 rfl (by kernel_rfl) .nil)) rfl ?_;exact ⟨_,_,rfl,Kd.R_mono M.out.gotten (fun _ _=>trivial),Kd.R_mono M.out.gotten (fun _ _=>trivial),M.out.below⟩
def withN (Q:Exit->Go.Act->World->Prop) (K:Go.Act->World->Prop):Exit->Go.Act->World->Prop
 | .normal,a,w=>K a w
 | e,a,w=>Q e a w
section
variable {P:Program} {ops:Array Oper} {o:Oper} {a:Go.Act} {Q:Exit->Go.Act->World->Prop} {K:Go.Act->World->Prop} {w W:World} {l:Bx} {n:Nat}
theorem wp_withN {next:Go.Act->World->Prop} (h:Oper.wp P o a W next (withN Q K)):Oper.wp P o a W next Q:=by
 unfold Oper.wp at*;generalize (execOp a.eval o).run P W=r at*
 cases r with
 | ok n w'=>
  cases n <;> simp only [Oper.upon] at h ⊢ <;> first | exact h | exact Calls.mono h (fun e w'' he=>by cases e <;> exact he)
 | halt x w'=>cases x <;> simp only [Oper.upon] at h ⊢ <;> exact h
theorem wpOp_one {i:Nat} (hi:ops[i]? = some o) (h:wpList P ops (withN Q K) [o] a W):wpOp P ops Q i K a W:=by
 unfold wpOp;simp only [hi];unfold wpList at h;split at h
 ·rename_i hw
  rw [if_pos hw];rcases h with h | ⟨h1,h2⟩
  ·exact .inl (wp_withN h)
  ·exact .inr ⟨h1,h2⟩
 ·rename_i hw
  rw [if_neg hw];exact h
theorem nI (h1:Own w W l) {D:Prop} (h2:D):Own w W l/\D:=⟨h1,h2⟩
def eG (P:Program) (ops:Array Oper) (Q:Exit->Go.Act->World->Prop) (w:World) (l:Bx) (ds:List Nat) (n:Nat) (is:List Nat) (a:Go.Act) (W:World):Prop:=
 wpAnyLast P .any ops Q (fun V=>Own w V l) ds (n - is.length) (setAll (Array.replicate n false) is) a W
variable {ds:List Nat}
theorem eS {id:Nat} {l2:Bx} (ds:List Nat) (hsub:∀ V,Own w V l2->Own w V l) (M:Own w W l2) (h:∀ W',Aside0 (Own w W' l2)->eG P ops Q w l ds n [] a W') (hm:P.follows .mixedOrders=true:=by kernel_rfl) (hn:ops.size=n:=by rfl):(Code.region id ops true).wp P Q a W:=
 start_ (S:=fun V=>Own w V l) (ds:=ds) _ hm hn rfl (hsub _ M.drew) (fun _=>h _ ⟨M.drew⟩)
theorem eN {js:List Nat} (is:List Nat) (M:Own w W l) (h:stillS P ops (fun V=>Cl V l) is (fun a'=>eG P ops Q w l ds n (js ++ is) a' W) a)
  (hc:(batchB .any ops ds (setAll (Array.replicate n false) js) is && (n - js.length == n - (js ++ is).length+is.length))=true:=by kernel_rfl)
  (hQ:∀ N v c a w,Q (.panic c) (Go.Act.put a N v) w->Q (.panic c) a w:=by (intro N _ _ _ _ h;cases N <;> exact h)):eG P ops Q w l ds n js a W:=by
 simp only [Bool.and_eq_true,beq_iff_eq] at hc;unfold eG;rw [hc.2];refine batch_go (S:=fun V=>Own w V l) hQ M is _ a hc.1 rfl ?_
 have key:∀ (is:List Nat) (K K':Go.Act->Prop) (a:Go.Act),(∀ a,K a->K' a)->stillS P ops (fun V=>Cl V l) is K a->stillS P ops (fun V=>Own w V l) is K' a:=by
  intro is
  induction is with
  | nil=>exact fun K K' a hk h=>hk _ h
  | cons i is ih=>
   rintro K K' a hk ⟨oi,v,h1,h2,h3⟩;exact ⟨oi,v,h1,h2.imp (fun h=>⟨h.1,fun V hV=>h.2 V hV.cl⟩) id,ih _ _ _ hk h3⟩
 exact key _ _ _ _ (fun a' h=>by unfold eG at h;rw [setAll_app] at h;exact h) h
theorem eO {js:List Nat} (i:Nat) {N:Option Tmp} {op:Op} {ty:TypeId} {ps:String} {af:Array Edge} {gd:Option (Nat × Bool)} (hi:ops[i]? = some {dst:=N,op:=op,type:=ty,pos:=ps,after:=af,guard:=gd}) (h:wpList P ops (withN Q (fun a' W'=>Own w W' l/\eG P ops Q w l ds n (js ++ [i]) a' W')) [{dst:=N,op:=op,type:=ty,pos:=ps,after:=af,guard:=gd}] a W)
  (hc:((Region.ready .any ops (setAll (Array.replicate n false) js) == [i]) && (n - js.length == n - (js ++ [i]).length+1))=true:=by kernel_rfl):eG P ops Q w l ds n js a W:=by
 simp only [Bool.and_eq_true,beq_iff_eq] at hc;unfold eG;rw [hc.2];refine ⟨fun h0=>(by rw [hc.1] at h0;cases h0),fun j hj=> ?_⟩;rw [hc.1] at hj;obtain rfl:j=i:=by simpa using hj
 refine wpOp_mono ?_ (wpOp_one hi h);rintro a' W' ⟨hm,hd⟩;refine ⟨fun _ _=>hm, ?_⟩;unfold eG at hd;rw [setAll_app] at hd;exact hd
theorem eL {js:List Nat} (i:Nat) {N:Option Tmp} {op:Op} {ty:TypeId} {ps:String} {af:Array Edge} {gd:Option (Nat × Bool)} (hi:ops[i]? = some {dst:=N,op:=op,type:=ty,pos:=ps,after:=af,guard:=gd}) (h:wpList P ops (withN Q (fun a' W'=>eG P ops Q w l ds n (js ++ [i]) a' W')) [{dst:=N,op:=op,type:=ty,pos:=ps,after:=af,guard:=gd}] a W)
  (hc:((Region.ready .any ops (setAll (Array.replicate n false) js) == [i]) && (n - js.length == n - (js ++ [i]).length+1) && ds.contains i)=true:=by kernel_rfl):eG P ops Q w l ds n js a W:=by
 simp only [Bool.and_eq_true,beq_iff_eq,List.contains_iff_mem] at hc;unfold eG;rw [hc.1.2];refine ⟨fun h0=>(by rw [hc.1.1] at h0;cases h0),fun j hj=> ?_⟩;rw [hc.1.1] at hj;obtain rfl:j=i:=by simpa using hj
 refine wpOp_mono ?_ (wpOp_one hi h);intro a' W' hd;refine ⟨fun hn=>absurd hc.2 hn, ?_⟩;unfold eG at hd;rw [setAll_app] at hd;exact hd
theorem eO2 {js:List Nat} (i j:Nat) {N:Option Tmp} {op:Op} {ty:TypeId} {ps:String} {af:Array Edge} {gd:Option (Nat × Bool)} {N2:Option Tmp} {op2:Op} {ty2:TypeId} {ps2:String} {af2:Array Edge} {gd2:Option (Nat × Bool)} (hi:ops[i]? = some {dst:=N,op:=op,type:=ty,pos:=ps,after:=af,guard:=gd}) (hj:ops[j]? = some {dst:=N2,op:=op2,type:=ty2,pos:=ps2,after:=af2,guard:=gd2}) (h1:wpList P ops (withN Q (fun a' W'=>Own w W' l/\eG P ops Q w l ds n (js ++ [i]) a' W')) [{dst:=N,op:=op,type:=ty,pos:=ps,after:=af,guard:=gd}] a W) (h2:wpList P ops (withN Q (fun a' W'=>Own w W' l/\eG P ops Q w l ds n (js ++ [j]) a' W')) [{dst:=N2,op:=op2,type:=ty2,pos:=ps2,after:=af2,guard:=gd2}] a W)
  (hc:((Region.ready .any ops (setAll (Array.replicate n false) js) == [i,j]) && (n - js.length == n - (js ++ [i]).length+1))=true:=by kernel_rfl):eG P ops Q w l ds n js a W:=by
 simp only [Bool.and_eq_true,beq_iff_eq] at hc;unfold eG;rw [hc.2];refine ⟨fun h0=>(by rw [hc.1] at h0;cases h0),fun q hq=> ?_⟩;rw [hc.1] at hq;simp only [List.mem_cons,List.not_mem_nil,or_false] at hq;rcases hq with rfl|rfl
 ·refine wpOp_mono ?_ (wpOp_one hi h1)
  rintro a' W' ⟨hm,hd⟩;refine ⟨fun _ _=>hm, ?_⟩;unfold eG at hd;rw [setAll_app] at hd;exact hd
 ·refine wpOp_mono ?_ (wpOp_one hj h2)
  rintro a' W' ⟨hm,hd⟩;refine ⟨fun _ _=>hm, ?_⟩;unfold eG at hd;rw [setAll_app] at hd;rw [show (js ++ [i]).length=(js ++ [q]).length by simp];exact hd
theorem eD {js:List Nat} (h:Q .normal a W) (hr:(Region.ready .any ops (setAll (Array.replicate n false) js) == [])=true:=by kernel_rfl):eG P ops Q w l ds n js a W:=done_ hr h
theorem eA {js:List Nat} {a':Go.Act} (h:eG P ops Q w l ds n js a' W) (ha:a=a':=by simp only [Act.put,sA,sZ,sS,i64_w];rfl):eG P ops Q w l ds n js a W:=by
 subst ha;exact h
end
end Go.Proofs.YtclangliilnijaaGreatDoor.Eq

namespace Go.Proofs.YtclangliilnijaaGreatDoor.Eq
open Go.RowKit Go.Proofs.YtclangliilnijaaGreatDoorW.PrintWords Go.Proofs.YtclangliilnijaaGreatDoorW.PrintLast Go.Proofs.YtclangliilnijaaGreatDoorW.PrintMore
theorem seg6 {W:World} {g:Nat} {a0 a1 a2 a3 a4 a5:Value} {T:TypeId} (h:W.heap[g]? = some (.cells #[a0,a1,a2,a3,a4,a5] T (0,0))) {j:Nat} {u:Value} (hu: [a2,a3,a4,a5][j]? = some u):W.cell? ⟨g,2+j,none⟩=some u:=by
 rw [zc8 h (2+j)]
 match j,hu with
 | 0,hu=>exact hu
 | 1,hu=>exact hu
 | 2,hu=>exact hu
 | 3,hu=>exact hu
def Tagged (own:Nat->Nat):Nat->Prop:=fun k=>own k ≠ 0
def SyF (B:Nat) (own:Nat->Nat) (s:Sys) (vc vt vl:Value):World->Prop:=fun V=>Sy B own s vc vt vl V
theorem sy_stab {B:Nat} {own:Nat->Nat} {s:Sys} {vc vt vl:Value}:Stab (Tagged own) (SyF B own s vc vt vl):=fun V V' hs hk h=>Sy.move h hs (fun k h1 h2=>hk k h1 h2)
theorem Own.named2 {w W:World} {e b:En} {l:Bx} (h:Aside0 (Own w W (e :: b :: l))):∃ L,Aside0 (l=L)/\Aside0 (Own w W (e :: b :: L)):=⟨l,⟨rfl⟩,h⟩
theorem grown_same (W:World):W.grownBy W none:=⟨rfl,rfl,rfl,Nat.le_refl _,fun _ _ _=>rfl⟩
section
variable {w W W1:World} {l:Bx} {own:Nat->Nat} {vc vt vl v1:Value} {cs:List Cell} {ts:List Task} {es:List Entry} {B1 hi:Nat}
theorem Own.merge {o1 o2:Nat->Prop} {F1 F2:World->Prop} (M:Own w W (.r o1 F1 :: .r o2 F2 :: l)):Own w W (.r (fun k=>o1 k\/o2 k) (fun V=>F1 V/\F2 V) :: l):=by
 obtain ⟨h1,h2,h3,h4⟩:=M;obtain ⟨⟨a1,a2,a3⟩,⟨b1,b2,b3⟩,hl⟩:=h2;have f1:=h3 (.r o1 F1) (by simp);have f2:=h3 (.r o2 F2) (by simp);rw [List.pairwise_cons,List.pairwise_cons] at h4;refine ⟨h1,⟨⟨fun k hk=>hk.elim (a1 k) (b1 k),fun V V' hs hk hV=>⟨a2 V V' hs (fun k h=>hk k (.inl h)) hV.1,b2 V V' hs (fun k h=>hk k (.inr h)) hV.2⟩,a3,b3⟩,hl⟩,fun e he=> ?_,List.pairwise_cons.2 ⟨fun e he k hk hk2=> ?_,h4.2.2⟩⟩
 ·rcases List.mem_cons.1 he with rfl | he
  ·exact fun k hk=>hk.elim (f1 k) (f2 k)
  ·exact h3 e (by simp [he])
 ·rcases hk with hk | hk
  ·exact h4.1 e (by simp [he]) k hk hk2
  ·exact h4.2.1 e he k hk hk2
theorem Own.sy0 {ok:Nat->Prop} (M:Own w W (.r ok (Rw kCell 63 w.heap.size ok vc cs) :: l)):∃ own,Own w W (.r (Tagged own) (SyF w.heap.size own ⟨cs, [],0, []⟩ vc (.slice none 0 0) (.slice none 0 0)) :: l):=by
 have hR:kCell.R 63 W w.heap.size ok vc cs:=M.gotten;have hz:∀ k,¬ vc.ownBlock=some k->tagB (fun _=>0) vc.ownBlock 2 k=0:=fun k hk=>tagB_off hk
 refine ⟨tagB (fun _=>0) vc.ownBlock 2,M.turn (grown_same W) (fun k hk=>by cases hk) (fun k hk=> ?_) sy_stab ?_⟩
 ·have hk':vc.ownBlock=some k:=Classical.byContradiction fun hne=>hk (hz k hne)
  have:=R_in hR k hk'
  exact ⟨.inl this.1,this.2.2⟩
 ·refine ⟨fun k hk=>hz k (fun he=> ?_),fun k hk=>hz k (fun he=> ?_),R_flat flat_cell hR (fun k hk=>tagB_at hk),Kd.R_nil _ _ _ _ _,fun k hk=>(by simp [Value.ownBlock] at hk),Kd.R_nil _ _ _ _ _⟩
  ·have:=(R_in hR k he).2.1
   omega
  ·have:=(R_in hR k he).2.2
   omega
theorem Sy.slice3 {B:Nat} {s:Sys} (h:Sy B own s vc vt vl W):∃ A n c,vt= .slice A n c:=by
 obtain ⟨A,c,he⟩:=Kd.R_slice h.tasks;exact ⟨A,_,c,he⟩
theorem Sy.slice4 {B:Nat} {s:Sys} (h:Sy B own s vc vt vl W):∃ A n c,vl= .slice A n c:=by
 obtain ⟨A,c,he⟩:=Kd.R_slice h.log;exact ⟨A,_,c,he⟩
structure Ne4 (v3 v8 v9 v10:Value):Prop where
 ne38:∀ k,v3.ownBlock=some k->v8.ownBlock ≠ some k
 ne39:∀ k,v3.ownBlock=some k->v9.ownBlock ≠ some k
 ne310:∀ k,v3.ownBlock=some k->v10.ownBlock ≠ some k
 ne89:∀ k,v8.ownBlock=some k->v9.ownBlock ≠ some k
 ne810:∀ k,v8.ownBlock=some k->v10.ownBlock ≠ some k
 ne910:∀ k,v9.ownBlock=some k->v10.ownBlock ≠ some k
def F4 (t:Task) (B:Nat) (ok:Nat->Prop) (v3 v8 v9 v10:Value):World->Prop:=fun V=>(Kd.int .i64).R 3 V B ok v3 t.regs/\(Kd.int .i64).R 3 V B ok v8 t.old/\kPut.R 65 V B ok v9 t.reads/\kPut.R 65 V B ok v10 t.puts
theorem f4_stab {t:Task} {B:Nat} {ok:Nat->Prop} {v3 v8 v9 v10:Value}:Stab ok (F4 t B ok v3 v8 v9 v10):=fun V V' hs hk h=>
 ⟨Kd.R_step h.1 (fun k h1 h2=>hk k h1 h2),Kd.R_step h.2.1 (fun k h1 h2=>hk k h1 h2),Kd.R_step h.2.2.1 (fun k h1 h2=>hk k h1 h2),Kd.R_step h.2.2.2 (fun k h1 h2=>hk k h1 h2)⟩
theorem Own.task4 {t:Task} {v3 v8 v9 v10:Value} (M:Own w W l) (hb:Below W.heap.size W W1) (h:Own4 t W.heap.size W1 v3 v8 v9 v10):Own w W1 (.r (Rng W.heap.size W1.heap.size) (F4 t W.heap.size (Rng W.heap.size W1.heap.size) v3 v8 v9 v10) :: l)/\Ne4 v3 v8 v9 v10:=
 ⟨M.row hb (fun k hk=>hk) f4_stab ⟨Kd.R_mono (Kd.R_bound h.regs) (fun k hk=>⟨hk.2.1,hk.2.2.1⟩),Kd.R_mono (Kd.R_bound h.old) (fun k hk=>⟨hk.2.1,hk.2.2.1⟩),Kd.R_mono (Kd.R_bound h.reads) (fun k hk=>⟨hk.2.1,hk.2.2.1⟩),Kd.R_mono (Kd.R_bound h.puts) (fun k hk=>⟨hk.2.1,hk.2.2.1⟩)⟩,
  ⟨h.ne38,h.ne39,h.ne310,h.ne89,h.ne810,h.ne910⟩⟩
theorem Own.taskRow {t:Task} {v3 v8 v9 v10:Value} (M:Own w W (.r (Rng B1 hi) (F4 t B1 (Rng B1 hi) v3 v8 v9 v10) :: .r (Tagged own) (SyF w.heap.size own ⟨cs,ts,0,es⟩ vc vt vl) :: l)) (hB:w.heap.size<=B1) (h0:∀ k,B1<=k->own k=0) (ne:Ne4 v3 v8 v9 v10):
  ∃ own2,Sy w.heap.size own2 ⟨cs,ts,0,es⟩ vc vt vl W/\(kTaskO own2).M W w.heap.size (fun q=>8<=own2 q) (t,ts.length) (cellsT t v3 v8 v9 v10)/\∀ W1 v1,W.grownBy W1 vt.ownBlock->(kTaskO own2).R 59 W1 w.heap.size (fun q=>(own2 q=3\/8<=own2 q)\/own2 q=0) v1 (ts.zipIdx ++ [(t,ts.length)])->(v1.ownBlock=vt.ownBlock\/∃ b,v1.ownBlock=some b/\W.heap.size<=b)->
   ∃ own3,Own w W1 (.r (Tagged own3) (SyF w.heap.size own3 ⟨cs,ts ++ [t],0,es⟩ vc v1 vl) :: l):=by
 have hS:Sy w.heap.size own ⟨cs,ts,0,es⟩ vc vt vl W:=M.pop.get (F:=SyF w.heap.size own ⟨cs,ts,0,es⟩ vc vt vl);have h4:F4 t B1 (Rng B1 hi) v3 v8 v9 v10 W:=M.get;have o4:Own4 t B1 W v3 v8 v9 v10:=⟨Kd.R_mono h4.1 (fun _ _=>trivial),Kd.R_mono h4.2.1 (fun _ _=>trivial),Kd.R_mono h4.2.2.1 (fun _ _=>trivial),Kd.R_mono h4.2.2.2 (fun _ _=>trivial),ne.ne38,ne.ne39,ne.ne310,ne.ne89,ne.ne810,ne.ne910⟩;obtain ⟨hs2,hlow2⟩:=hS.newTags (L:=ts.length) o4 h0 hB;have hrow:=Own4.row (own:=own) (L:=ts.length) (B:=w.heap.size) o4 hB;have hoff:=(own4_is (own:=own) (L:=ts.length) o4).2.2.2.2;refine ⟨_,hs2,hrow,fun W1 v1 hg hr hat=> ?_⟩;obtain ⟨own3,hs3,hlow3⟩:=hs2.tasksGrow hg (ts':=ts ++ [t]) (by rw [zip_snoc];exact hr) hat M.below.size;refine ⟨own3,M.merge.turn hg (fun k hk=> .inr (by show own k ≠ 0;rw [hS.town k hk];decide)) (fun k hk=> ?_) sy_stab hs3⟩;have hlt:k < W1.heap.size:=Nat.lt_of_not_le fun hle=>hk (hs3.new0 k hle)
 refine ⟨?_,hlt⟩;rcases Nat.lt_or_ge k W.heap.size with hlt2 | hge
 ·left
  have h1:tag4 own v3 v8 v9 v10 ts.length k ≠ 0:=by rw [<-hlow3 k hlt2];exact hk
  refine Classical.byContradiction fun hne=>h1 ?_
  rw [not_or] at hne;rw [hoff k ⟨fun he=>hne.1 (h4.1.1 k he),fun he=>hne.1 (h4.2.1.1 k he),fun he=>hne.1 (h4.2.2.1.1 k he),fun he=>hne.1 (h4.2.2.2.1 k he)⟩];exact Classical.byContradiction fun h=>hne.2 h
 ·exact .inr hge
def F2 (e:Entry) (B:Nat) (ok:Nat->Prop) (v3 v4:Value):World->Prop:=fun V=>kPut.R 65 V B ok v3 e.reads/\kPut.R 65 V B ok v4 e.puts
theorem f2_stab {e:Entry} {B:Nat} {ok:Nat->Prop} {v3 v4:Value}:Stab ok (F2 e B ok v3 v4):=fun V V' hs hk h=>⟨Kd.R_step h.1 (fun k h1 h2=>hk k h1 h2),Kd.R_step h.2 (fun k h1 h2=>hk k h1 h2)⟩
theorem Own.entry2 {e:Entry} {v3 v4:Value} (M:Own w W l) (hb:Below W.heap.size W W1) (h3:kPut.R 65 W1 W.heap.size (fun _=>True) v3 e.reads) (h4:kPut.R 65 W1 W.heap.size (fun _=>True) v4 e.puts):Own w W1 (.r (Rng W.heap.size W1.heap.size) (F2 e W.heap.size (Rng W.heap.size W1.heap.size) v3 v4) :: l):=
 M.row hb (fun k hk=>hk) f2_stab ⟨Kd.R_mono (Kd.R_bound h3) (fun k hk=>⟨hk.2.1,hk.2.2.1⟩),Kd.R_mono (Kd.R_bound h4) (fun k hk=>⟨hk.2.1,hk.2.2.1⟩)⟩
theorem Own.entryRow {e:Entry} {v3 v4:Value} (M:Own w W (.r (Rng B1 hi) (F2 e B1 (Rng B1 hi) v3 v4) :: .r (Tagged own) (SyF w.heap.size own ⟨cs,ts,0,es⟩ vc vt vl) :: l)) (hB:w.heap.size<=B1) (h0:∀ k,B1<=k->own k=0) (hhi:W.heap.size<=hi):
  Sy w.heap.size own ⟨cs,ts,0,es⟩ vc vt vl W/\kEntry.M W w.heap.size (fun q=>own q=0/\B1<=q) e [.int .i64 e.task,.int .i64 e.act,.int .i64 e.when_,v3,v4,.int .i64 e.from_]/\∀ W1 v1,W.grownBy W1 vl.ownBlock->kEntry.R 136 W1 w.heap.size (fun q=>own q=4\/(own q=0/\B1<=q)) v1 (es ++ [e])->
   ∃ own3,Own w W1 (.r (Tagged own3) (SyF w.heap.size own3 ⟨cs,ts,0,es ++ [e]⟩ vc vt v1) :: l):=by
 have hS:Sy w.heap.size own ⟨cs,ts,0,es⟩ vc vt vl W:=M.pop.get (F:=SyF w.heap.size own ⟨cs,ts,0,es⟩ vc vt vl);have h4:F2 e B1 (Rng B1 hi) v3 v4 W:=M.get;have h5:∀ k,Rng B1 hi k->own k=0/\B1<=k:=fun k hk=>⟨h0 k hk.1,hk.1⟩
 refine ⟨hS,kEntry_mkM e (Kd.R_lower (Kd.R_mono h4.1 h5) hB) (Kd.R_lower (Kd.R_mono h4.2 h5) hB),fun W1 v1 hg hr=> ?_⟩;have hBW:B1<=W.heap.size\/W.heap.size < B1:=by omega
 rcases hBW with hBW | hBW
 ·obtain ⟨own3,hs3,hlow3⟩:=hS.logGrow hBW hg h0 hB hr
  refine ⟨own3,M.merge.turn hg (fun k hk=> .inr (by show own k ≠ 0;rw [hS.log.1 k hk];decide)) (fun k hk=> ?_) sy_stab hs3⟩;have hlt:k < W1.heap.size:=Nat.lt_of_not_le fun hle=>hk (hs3.new0 k hle)
  refine ⟨?_,hlt⟩;rcases Nat.lt_or_ge k B1 with h1 | h1
  ·exact .inl (.inr (by show own k ≠ 0;rw [<-hlow3 k h1];exact hk))
  ·rcases Nat.lt_or_ge k hi with h2 | h2
   ·exact .inl (.inl ⟨h1,h2⟩)
   ·exact .inr (by omega)
 ·have hr':kEntry.R 136 W1 w.heap.size (fun q=>own q=4\/(own q=0/\W.heap.size<=q)) v1 (es ++ [e]):=Kd.R_mono hr (fun k hk=>hk.imp id (fun h=>⟨h.1,by omega⟩))
  obtain ⟨own3,hs3,hlow3⟩:=hS.logGrow (Nat.le_refl _) hg (fun k hk=>hS.new0 k hk) M.below.size hr';refine ⟨own3,M.merge.turn hg (fun k hk=> .inr (by show own k ≠ 0;rw [hS.log.1 k hk];decide)) (fun k hk=> ?_) sy_stab hs3⟩;have hlt:k < W1.heap.size:=Nat.lt_of_not_le fun hle=>hk (hs3.new0 k hle)
  refine ⟨?_,hlt⟩;rcases Nat.lt_or_ge k W.heap.size with h1 | h1
  ·exact .inl (.inr (by show own k ≠ 0;rw [<-hlow3 k h1];exact hk))
  ·exact .inr h1
end
theorem sysCopy_calls (s:Sys) (ss:List Value) (w:World) (hs:kSys.K w s ss) (hc:s.cells.length<=1048576) (hn:s.tasks.length<=1048576) (hl:s.log.length<=1048576) (ht:∀ i,i < s.tasks.length->(tk s i).regs.length<=1048576/\(tk s i).old.length<=1048576/\(tk s i).reads.length<=1048576/\(tk s i).puts.length<=1048576) (he:∀ i,i < s.log.length->(entryAt s.log i).reads.length<=1048576/\(entryAt s.log i).puts.length<=1048576):
  Calls Tryz.prog 90 #[.agg ss.toArray] w fun e w'=>∃ own vc vt vl,e= .returned (.agg #[vc,vt,.int .i64 s.clock,vl])/\Sy w.heap.size own s vc vt vl w'/\Below w.heap.size w w':=by
 obtain ⟨A0,c0,A1,c1,A3,c3,rfl,-,g0,-,g1,-,g3⟩:=kSys_open hs;have G0:=am g0;have G1:=am g1;have G3:=am g3;have HC:=am hc;have HN:=am hn;have HL:=am hl;have HT:=am ht;have HE:=am he;have M:=am (Own.nil w);have C:=M.out.cl;clear hs g0 g1 g3 ht he;go_enter Tryz.func90,Tryz.ntmps90
 go_upto_region 1 with (first
 |((first|with_reducible refine gB ?_ | with_reducible refine gA ?_);refine oB rfl M.out ?_;clear M C;intro g W M C;simp only [Cl] at C))
 refine eS [] (fun _ h=>h) M.out ?_;clear M C;intro W M;refine eN [0,1,3,4] M.out ?_;iterate 4 (first|refine sP rfl ?_ | refine sG rfl ?_ | refine sU rfl ?_ | refine sN rfl ?_)
 refine stillS_nil ?_;have C:=M.out.cl;simp only [Cl] at C;refine eO2 2 6 rfl rfl ?ga ?gb
 case' ga=>
  go_wp2_with (first
  |(go_at_call 133;refine (cloneCells_calls _ _ _ _ (Kd.C_below G0.out M.out.below) HC.out).mono ?_;rintro e W1 ⟨v,rfl,hr,hb⟩;obtain ⟨A,c,rfl⟩:=Kd.R_slice hr;replace M:=am (M.out.made hb hr);clear C;have C:=M.out.cl;simp only [Cl] at C;clear hb hr))
  refine nI M.out.pop ?_;refine eN [5] M.out.pop ?_;(first|refine sP rfl ?_ | refine sG rfl ?_ | refine sU rfl ?_ | refine sN rfl ?_);refine stillS_nil ?_;refine eO 6 rfl ?_
  go_wp2_with (first
  |((first|with_reducible refine gB ?_ | with_reducible refine gA ?_);refine oB rfl M.out ?_;clear M C;intro g W M C;simp only [Cl] at C))
  refine nI M.out.pop.pop ?_;refine eO 7 rfl ?_
  go_wp2_with (first
  |((with_reducible refine gS ?_);refine oS rfl rfl rfl M.out ?_;clear M C;intro W M C;simp only [Cl] at C))
  refine nI M.out.pop.pop ?_
  try refine eA ?_
  refine eD ?_;replace M:=am (M.out.perm (List.Perm.swap _ _ _));clear C;have C:=M.out.cl;simp only [Cl] at C
 case' gb=>
  go_wp2_with (first
  |((first|with_reducible refine gB ?_ | with_reducible refine gA ?_);refine oB rfl M.out ?_;clear M C;intro g W M C;simp only [Cl] at C))
  refine nI M.out.pop ?_;refine eO 2 rfl ?_
  go_wp2_with (first
  |(go_at_call 133;refine (cloneCells_calls _ _ _ _ (Kd.C_below G0.out M.out.below) HC.out).mono ?_;rintro e W1 ⟨v,rfl,hr,hb⟩;obtain ⟨A,c,rfl⟩:=Kd.R_slice hr;replace M:=am (M.out.made hb hr);clear C;have C:=M.out.cl;simp only [Cl] at C;clear hb hr))
  refine nI M.out.pop.pop ?_;refine eN [5] M.out.pop.pop ?_;(first|refine sP rfl ?_ | refine sG rfl ?_ | refine sU rfl ?_ | refine sN rfl ?_);refine stillS_nil ?_;refine eO 7 rfl ?_
  go_wp2_with (first
  |((with_reducible refine gS ?_);refine oS rfl rfl rfl M.out ?_;clear M C;intro W M C;simp only [Cl] at C))
  refine nI M.out.pop.pop ?_
  try refine eA ?_
  refine eD ?_
 all_goals
  obtain ⟨own,M1⟩:=Own.sy0 M.out;obtain ⟨L,EL,ML⟩:=Own.named2 (am M1);clear M1
  go_wp2_with (first
   | fail)
  go_loopw [17] (fun j w'=>∃ (k:Nat) (own:Nat->Nat) (vt:Value),k<=s.tasks.length/\j= .int .i64 k/\Aside0 (Own w w' (.r (Tagged own) (SyF w.heap.size own ⟨s.cells,s.tasks.take k,0, []⟩ (.slice A s.cells.length c) vt (.slice none 0 0)) :: .b g #[.slice A s.cells.length c,vt,.int .i64 s.clock,(.slice none 0 0)] 42 :: L))) (fun j _=>s.tasks.length - (intOf j).toNat)
  case atStart=>exact ⟨0,own,_,Nat.zero_le _,rfl,ML⟩
  case round=>
   obtain ⟨k,own,vt,hk,rfl,M2⟩:=hrel;have eL:=EL.out;subst eL;clear M C ML EL;have M:=M2;clear M2;have C:=M.out.cl;simp only [Cl] at C;by_cases hlt:k < s.tasks.length
   ·have q0:(0:Int)<=(k:Int):=by omega
    have q1:(k:Int) < (s.tasks.length:Int):=by omega
    obtain ⟨b,o,cs,rfl,hcl,hK,hcc,-⟩:=C_field G1.out zTask k hlt (by decide);obtain ⟨x,hx⟩:∃ x,x=tk s k:=⟨_,rfl⟩;rw [show s.tasks.getD k zTask=x from hx.symm] at hK;have hsz:=HT.out k hlt;rw [<-hx] at hsz;have HTK:=am (show s.tasks.take (k+1)=s.tasks.take k ++ [x] by rw [List.take_succ_eq_append_getElem hlt,hx];simp [tk,taskAt,hlt]);have HK:=am hK;have HCC:=am hcc;obtain ⟨B3,d3,B8,d8,B9,d9,B10,d10,rfl,-⟩:=kTask_open hK
    obtain ⟨Aq,ct,rfl⟩:∃ A c,vt= .slice A k c:=by
     have hS:Sy w.heap.size own ⟨s.cells,s.tasks.take k,0, []⟩ (.slice A s.cells.length c) vt (.slice none 0 0) _:=M.out.get (F:=SyF _ _ _ _ _ _);obtain ⟨A,c,he⟩:=Kd.R_slice hS.tasks;exact ⟨A,c,by rw [he,zip_len];simp;omega⟩
    clear hx hK hcc hcl
    go_upto_region 5 with (first
    |((with_reducible refine gL ?_);refine oR rfl rfl M.out HCC.out ?_)
    |((first|with_reducible refine gB ?_ | with_reducible refine gA ?_);refine oB rfl M.out ?_;clear M C;intro g W M C;simp only [Cl] at C)
    |((with_reducible refine gS ?_);refine oS rfl rfl rfl M.out ?_;clear M C;intro W M C;simp only [Cl] at C))
    refine eS [7] (fun _ h=>(h.perm (List.Perm.swap _ _ _)).pop) M.out ?_;clear M C;intro W M;have HNW:=am (show ∀ q,W.heap.size<=q->own q=0 from (show Sy w.heap.size own _ _ _ _ W from M.out.get (F:=SyF _ _ _ _ _ _)).new0);have HBW:=am M.out.below.size;refine eN [0,1,2] (M.out.perm (List.Perm.swap _ _ _)).pop ?_;(first|refine sP rfl ?_ | refine sG rfl ?_ | refine sU rfl ?_ | refine sN rfl ?_);(first|refine sP rfl ?_ | refine sG rfl ?_ | refine sU rfl ?_ | refine sN rfl ?_);refine sL rfl rfl ?_;refine stillS_nil ?_;have C:=M.out.cl;simp only [Cl] at C;refine eO 3 rfl ?_
    go_wp2_with (first
    |(go_at_call 134;refine (taskCopy_calls x _ _ (kTask.K_below M.out.below HK.out) hsz.1 hsz.2.1 hsz.2.2.1 hsz.2.2.2).mono ?_;rintro e W1 ⟨v3,v8,v9,v10,rfl,h4,hb⟩;obtain ⟨a3,d3,rfl⟩:=Kd.R_slice h4.regs;obtain ⟨a8,d8,rfl⟩:=Kd.R_slice h4.old;obtain ⟨a9,d9,rfl⟩:=Kd.R_slice h4.reads;obtain ⟨a10,d10,rfl⟩:=Kd.R_slice h4.puts;obtain ⟨m4,ne⟩:=M.out.task4 hb h4;have NE:=am ne;replace M:=am (m4);clear C;have C:=M.out.cl;simp only [Cl] at C;clear m4 h4 hb ne))
    refine nI ((M.out.pop.perm (List.Perm.swap _ _ _)).pop) ?_
    try refine eA ?_
    refine eO 4 rfl ?_
    go_wp2_with (first
     | fail)
    refine nI (((M.out.pop.perm (List.Perm.swap _ _ _)).pop).step (below_alloc (Below.refl _ _) _)) ?_
    try refine eA ?_
    refine eO 5 rfl ?_;obtain ⟨own2,hs2,hrow,hgo⟩:=(M.out.perm (List.Perm.cons _ (List.Perm.swap _ _ _))).taskRow HBW.out HNW.out NE.out;have HS2:=am hs2;have HRO:=am hrow;have HGO:=am hgo;clear hs2 hrow hgo
    go_wp2_with (first
    |((with_reducible refine gate_builtin (b:=.append) (xs:=#[.tmp 22,.tmp 25]) rfl ?_);at_builtin;refine Kd.R_append (kTaskO own2) (w0:=w) w.heap.size rfl (.tmp 22) (.tmp 25) 39 59 (.agg #[.int .i64 0,.int .i64 0,.int .i64 0,.slice none 0 0,.int .i64 0,.int .i64 0,.int .i64 0,.int .i64 0,.slice none 0 0,.slice none 0 0,.slice none 0 0,.int .i64 0,.int .i64 0]) 168 rfl Tryz.underlying39 (by kernel_rfl) rfl (by rw [kTaskO_sz];decide) (by decide) (.slice Aq k ct) (List.take k s.tasks).zipIdx (x,(List.take k s.tasks).length) _ (fun q=>(own2 q=3\/8<=own2 q)\/own2 q=0) (fun q=>8<=own2 q) rfl rfl HRO.out (fun q hq=>⟨.inl (.inr hq),fun he=>by have:=HS2.out.town q he.symm;omega⟩) (fun q hq=> .inr (HS2.out.new0 q hq)) (Kd.R_mono HS2.out.tasks (fun q hq=> .inl hq)) M.out.below M.out.below.size (by rw [zip_len];simp;omega) ?_;intro v1 wn hv hb hg hat;obtain ⟨own3,m3⟩:=HGO.out wn v1 hg hv hat;clear HS2 HRO HGO NE HNW HBW hv hb hg hat;obtain ⟨A5,n5,c5,rfl⟩:∃ A n c,v1= .slice A n c:=(show Sy w.heap.size own3 _ _ v1 _ wn from m3.get (F:=SyF _ _ _ _ _ _)).slice3;replace M:=am (m3);clear C;have C:=M.out.cl;simp only [Cl] at C;clear m3))
    refine nI M.out.pop ?_
    try refine eA ?_
    refine eN [6] M.out.pop ?_
    (first|refine sP rfl ?_ | refine sG rfl ?_ | refine sU rfl ?_ | refine sN rfl ?_)
    refine stillS_nil ?_;refine eL 7 rfl ?_
    go_wp2_with (first
    |((with_reducible refine gS ?_);refine oG rfl rfl (by go_simp <;> rfl) M.out ?_;clear M C;intro W M C;simp only [Cl] at C))
    try refine eA ?_
    refine eD ?_
    go_wp2_with (first
     | fail)
    go_roundw
    case rel=>exact ⟨k+1,own3,_,by omega,by go_num,⟨by rw [HTK.out];exact (M.out.perm (List.Perm.swap _ _ _)).pop⟩⟩
    case measure=>simp [intOf];omega
   ·obtain ⟨Aq,ct,rfl⟩:∃ A c,vt= .slice A k c:=by
     have hS:Sy w.heap.size own ⟨s.cells,s.tasks.take k,0, []⟩ (.slice A s.cells.length c) vt (.slice none 0 0) _:=M.out.get (F:=SyF _ _ _ _ _ _);obtain ⟨A,c,he⟩:=Kd.R_slice hS.tasks;exact ⟨A,c,by rw [he,zip_len];simp;omega⟩
    obtain rfl:k=s.tasks.length:=by omega
    have q1:¬ (s.tasks.length:Int) < (s.tasks.length:Int):=by omega
    obtain ⟨L,EL,ML⟩:=Own.named2 M
    go_wp2_with (first
     | fail)
    clear q1;go_loopw [32] (fun j w'=>∃ (k:Nat) (own:Nat->Nat) (vl:Value),k<=s.log.length/\j= .int .i64 k/\Aside0 (Own w w' (.r (Tagged own) (SyF w.heap.size own ⟨s.cells,s.tasks.take s.tasks.length,0,s.log.take k⟩ (.slice A s.cells.length c) (.slice Aq s.tasks.length ct) vl) :: .b g #[.slice A s.cells.length c,(.slice Aq s.tasks.length ct),.int .i64 s.clock,vl] 42 :: L))) (fun j _=>s.log.length - (intOf j).toNat)
    case atStart=>exact ⟨0,own,_,Nat.zero_le _,rfl,ML⟩
    case round=>
     obtain ⟨k,own,vl,hk,rfl,M2⟩:=hrel;have eL:=EL.out;subst eL;clear M C ML EL;have M:=M2;clear M2;have C:=M.out.cl;simp only [Cl] at C
     obtain ⟨Al,cl,rfl⟩:∃ A c,vl= .slice A k c:=by
      have hS:Sy w.heap.size own ⟨s.cells,s.tasks.take s.tasks.length,0,s.log.take k⟩ _ _ vl _:=M.out.get (F:=SyF _ _ _ _ _ _);obtain ⟨A,c,he⟩:=Kd.R_slice hS.log;exact ⟨A,c,by rw [he];simp;omega⟩
     by_cases hlt:k < s.log.length
     ·have q0:(0:Int)<=(k:Int):=by omega
      have q1:(k:Int) < (s.log.length:Int):=by omega
      obtain ⟨b,o,cs,rfl,hcl,hK,hcc,-⟩:=C_field G3.out zEntry k hlt (by decide);obtain ⟨x,hx⟩:∃ x,x=entryAt s.log k:=⟨_,rfl⟩;rw [show s.log.getD k zEntry=x from hx.symm] at hK;have hsz:=HE.out k hlt;rw [<-hx] at hsz;have HTK:=am (show s.log.take (k+1)=s.log.take k ++ [x] by rw [List.take_succ_eq_append_getElem hlt,hx];simp [entryAt,hlt]);have HK:=am hK;have HCC:=am hcc;obtain ⟨B3,d3,B4,d4,rfl,-⟩:=kEntry_open hK;clear hx hK hcc hcl
      go_upto_region 10 with (first
      |((with_reducible refine gL ?_);refine oR rfl rfl M.out HCC.out ?_)
      |((first|with_reducible refine gB ?_ | with_reducible refine gA ?_);refine oB rfl M.out ?_;clear M C;intro g W M C;simp only [Cl] at C)
      |((with_reducible refine gS ?_);refine oS rfl rfl rfl M.out ?_;clear M C;intro W M C;simp only [Cl] at C))
      refine eS [7] (fun _ h=>(h.perm (List.Perm.swap _ _ _)).pop) M.out ?_;clear M C;intro W M;have HNW:=am (show ∀ q,W.heap.size<=q->own q=0 from (show Sy w.heap.size own _ _ _ _ W from M.out.get (F:=SyF _ _ _ _ _ _)).new0);have HBW:=am M.out.below.size;obtain ⟨B1,hB1⟩:∃ B,W.heap.size=B:=⟨_,rfl⟩;refine eN [0,1,2] (M.out.perm (List.Perm.swap _ _ _)).pop ?_;(first|refine sP rfl ?_ | refine sG rfl ?_ | refine sU rfl ?_ | refine sN rfl ?_);(first|refine sP rfl ?_ | refine sG rfl ?_ | refine sU rfl ?_ | refine sN rfl ?_);refine sL rfl rfl ?_;refine stillS_nil ?_;have C:=M.out.cl;simp only [Cl] at C;refine eO 3 rfl ?_
      go_wp2_with (first
      |(go_at_call 135;refine (entryCopy_calls x _ _ (kEntry.K_below M.out.below HK.out) hsz.1 hsz.2).mono ?_;rintro e W1 ⟨v3,v4,rfl,h3,h4,hb⟩;obtain ⟨a3,d3,rfl⟩:=Kd.R_slice h3;obtain ⟨a4,d4,rfl⟩:=Kd.R_slice h4;have HSB:=am hb.size;replace M:=am (M.out.entry2 hb h3 h4);clear C;have C:=M.out.cl;simp only [Cl] at C;clear h3 h4 hb))
      refine nI ((M.out.pop.perm (List.Perm.swap _ _ _)).pop) ?_
      try refine eA ?_
      refine eO 4 rfl ?_
      go_wp2_with (first
       | fail)
      refine nI (((M.out.pop.perm (List.Perm.swap _ _ _)).pop).step (below_alloc (Below.refl _ _) _)) ?_
      try refine eA ?_
      refine eO 5 rfl ?_;obtain ⟨hs2,hrow,hgo⟩:=(M.out.perm (List.Perm.cons _ (List.Perm.swap _ _ _))).entryRow HBW.out HNW.out (Nat.le_refl _);have HS2:=am hs2;have HRO:=am hrow;have HGO:=am hgo;clear hs2 hrow hgo
      go_wp2_with (first
      |((with_reducible refine gate_builtin (b:=.append) (xs:=#[.tmp 37,.tmp 40]) rfl ?_);at_builtin;refine Kd.R_append kEntry (w0:=w) w.heap.size rfl (.tmp 37) (.tmp 40) 40 136 (.agg #[.int .i64 0,.int .i64 0,.int .i64 0,.slice none 0 0,.slice none 0 0,.int .i64 0]) 80 rfl Tryz.underlying40 (by kernel_rfl) rfl (by decide) (by decide) (.slice Al k cl) (List.take k s.log) x _ (fun q=>own q=4\/(own q=0/\W.heap.size<=q)) (fun q=>own q=0/\W.heap.size<=q) rfl rfl HRO.out (fun q hq=>⟨.inr hq,fun he=>by have h1:own q=4:=HS2.out.log.1 q he.symm;omega⟩) (fun q hq=> .inr ⟨HS2.out.new0 q hq,Nat.le_trans HSB.out hq⟩) (Kd.R_mono HS2.out.log (fun q hq=> .inl hq)) M.out.below M.out.below.size (by simp;omega) ?_;intro v1 wn hv hb hg hat;obtain ⟨own3,m3⟩:=HGO.out wn v1 hg hv;clear HS2 HRO HGO HNW HBW hv hb hg hat;obtain ⟨A5,n5,c5,rfl⟩:∃ A n c,v1= .slice A n c:=(show Sy w.heap.size own3 _ _ _ v1 wn from m3.get (F:=SyF _ _ _ _ _ _)).slice4;replace M:=am (m3);clear C;have C:=M.out.cl;simp only [Cl] at C;clear m3))
      refine nI M.out.pop ?_
      try refine eA ?_
      refine eN [6] M.out.pop ?_
      (first|refine sP rfl ?_ | refine sG rfl ?_ | refine sU rfl ?_ | refine sN rfl ?_)
      refine stillS_nil ?_;refine eL 7 rfl ?_
      go_wp2_with (first
      |((with_reducible refine gS ?_);refine oG rfl rfl (by go_simp <;> rfl) M.out ?_;clear M C;intro W M C;simp only [Cl] at C))
      try refine eA ?_
      refine eD ?_
      go_wp2_with (first
       | fail)
      go_roundw
      case rel=>exact ⟨k+1,own3,_,by omega,by go_num,⟨by rw [HTK.out];exact (M.out.perm (List.Perm.swap _ _ _)).pop⟩⟩
      case measure=>simp [intOf];omega
     ·obtain rfl:k=s.log.length:=by omega
      have q1:¬ (s.log.length:Int) < (s.log.length:Int):=by omega
      go_wp2_with (first
      |((with_reducible refine gL ?_);refine oL rfl rfl M.out ?_)
      |((with_reducible refine gS ?_);refine oS rfl rfl rfl M.out ?_;clear M C;intro W M C;simp only [Cl] at C))
      refine bodyPost_ret (results_single Tryz.results90 (.cell _ _ _ (0,0) _ rfl (M.out.lies.at_ (by repeat (first|exact .here | exact .kept | apply At.there))) Tryz.underlying42 rfl (by kernel_rfl) .nil)) rfl ?_;have hS:Sy w.heap.size own ⟨s.cells,s.tasks.take s.tasks.length,0,s.log.take s.log.length⟩ _ _ _ _:=M.out.get (F:=SyF _ _ _ _ _ _);rw [List.take_length,List.take_length] at hS;exact ⟨own,_,_,_,rfl,⟨hS.low,hS.new0,hS.cells,hS.tasks,hS.town,hS.log⟩,M.out.below⟩
end Go.Proofs.YtclangliilnijaaGreatDoor.Eq
namespace Go.Proofs.YtclangliilnijaaGreatDoor.Eq
theorem sumL_take {α:Type} (f:α->Nat) (d:α) (l:List α) {k:Nat} (h:k < l.length):sumL f (l.take (k+1))=sumL f (l.take k)+f (l.getD k d):=by
 rw [List.take_succ_eq_append_getElem h,sumL_append];simp [sumL,h]
theorem sumL_congr {α:Type} {f g:α->Nat}:∀ {l:List α},(∀ a ∈ l,f a=g a)->sumL f l=sumL g l
 | [],_=>rfl
 | a :: l,h=>by
  unfold sumL;rw [h a (by simp),sumL_congr (fun b hb=>h b (by simp [hb]))]
theorem sumL_le {α:Type} {f:α->Nat} {m:Nat}:∀ {l:List α},(∀ a ∈ l,f a<=m)->sumL f l<=l.length*m
 | [],_=>by simp [sumL]
 | a :: l,h=>by
  have h1:=h a (by simp);have h2:=sumL_le (l:=l) (fun b hb=>h b (by simp [hb]));simp only [sumL,List.length_cons,Nat.add_mul,Nat.one_mul];omega
theorem act_mem {p:Prog} (h:formOk p=true) {b:Int} (hb:0<=b/\b < p.bodies.length) {a:Act} (ha:a ∈ actsAt p.bodies b.toNat):actOk p.cells.length p.bodies.length b a=true:=by
 obtain ⟨k,hk,rfl⟩:=List.mem_iff_getElem.1 ha
 have:=form_act h hb hk
 simpa [actAt,hk] using this
theorem kid_behind {p:Prog} (h:formOk p=true) {b:Int} (hb:0<=b/\b < p.bodies.length) {a:Act} (ha:a ∈ actsAt p.bodies b.toNat):a.kids.length<=2/\∀ k ∈ a.kids,b+1<=k/\k < p.bodies.length:=by
 have hok:=act_mem h hb ha;by_cases h2:a.kind=2
 ·obtain ⟨h3,_,h4⟩:=act_kids hok h2
  refine ⟨h3,fun k hk=> ?_⟩;obtain ⟨j,hj,rfl⟩:=List.mem_iff_getElem.1 hk;have:=h4 j hj;simp only [numAt,List.getD_eq_getElem?_getD,List.getElem?_eq_getElem hj,Option.getD_some] at this;omega
 ·have:a.kids= []:=by
   unfold actOk at hok;split at hok
   ·cases hok
   ·rename_i hn
    exact Classical.byContradiction fun hne=>hn (.inr (.inl ⟨h2,hne⟩))
  rw [this];exact ⟨by simp,fun k hk=>by simp at hk⟩
theorem treeN_more {p:Prog} (h:formOk p=true):∀ (n:Nat) (b:Int),0<=b->b < p.bodies.length->(p.bodies.length:Int) - b<=n->treeN p.bodies (n+1) b=treeN p.bodies n b
 | 0,b,h0,h1,hn=>by omega
 | n+1,b,h0,h1,hn=>by
  rw [treeN,treeN]
  congr 1
  refine sumL_congr fun a ha=>sumL_congr fun k hk=> ?_
  have:=(kid_behind h ⟨h0,h1⟩ ha).2 k hk
  exact treeN_more h n k (by omega) (by omega) (by omega)
theorem treeOf_eq {p:Prog} (h:formOk p=true) {b:Int} (h0:0<=b) (h1:b < p.bodies.length):treeOf p b=1+sumL (fun a:Act=>sumL (treeOf p) a.kids) (actsAt p.bodies b.toNat):=by
 have hl:=form_cells h;unfold treeOf;rw [<-treeN_more h 4 b h0 h1 (by omega),treeN]
def treeMax:Nat->Nat
 | 0=>1
 | n+1=>1+8*treeMax n
theorem treeN_le {p:Prog} (h:formOk p=true):∀ (n:Nat) (b:Int),0<=b->b < p.bodies.length->treeN p.bodies n b<=treeMax n
 | 0,b,_,_=>Nat.le_refl _
 | n+1,b,h0,h1=>by
  rw [treeN,treeMax];have h4:=form_acts h ⟨h0,h1⟩
  have:sumL (fun a:Act=>sumL (treeN p.bodies n) a.kids) (actsAt p.bodies b.toNat)<=(actsAt p.bodies b.toNat).length*(2*treeMax n):=by
   refine sumL_le fun a ha=> ?_
   obtain ⟨h2,h3⟩:=kid_behind h ⟨h0,h1⟩ ha;refine Nat.le_trans (sumL_le (m:=treeMax n) fun k hk=>treeN_le h n k (by have:=h3 k hk;omega) (h3 k hk).2) ?_;exact Nat.mul_le_mul_right _ h2
  have h5:(actsAt p.bodies b.toNat).length*(2*treeMax n)<=4*(2*treeMax n):=Nat.mul_le_mul_right _ h4;omega
theorem treeOf_le {p:Prog} (h:formOk p=true) {b:Int} (h0:0<=b) (h1:b < p.bodies.length):treeOf p b<=4681:=treeN_le h 4 b h0 h1
end Go.Proofs.YtclangliilnijaaGreatDoor.Eq
namespace Go.Proofs.YtclangliilnijaaGreatDoor.Eq
open Go.RowKit Go.Proofs.YtclangliilnijaaGreatDoorW.PrintWords Go.Proofs.YtclangliilnijaaGreatDoorW.PrintLast Go.Proofs.YtclangliilnijaaGreatDoorW.PrintMore
theorem l1Deed_calls (d:Deed) (cells:Int) (w:World) (h0:0<=cells) (h1:cells<=1048576):
  Calls Tryz.prog 188 #[.agg #[.int .i64 d.kind,.int .i64 d.a,.int .i64 d.b],.int .i64 cells] w fun e w'=>e= .returned (.bool (deedOk d cells))/\Below w.heap.size w w':=by
 go_enter Tryz.func188,Tryz.ntmps188;obtain ⟨ba,hba⟩:∃ b,inB d.a 0 2=b:=⟨_,rfl⟩;have HA:Aside0 ((decide ((0:Int)<=d.a) && decide (d.a<=2))=ba):=⟨hba⟩;clear hba;by_cases k1:d.kind=1
 ·have y1:(d.kind == 1)=true:=by simp [k1]
  have K1:=am k1;clear k1;obtain ⟨bz,hbz⟩:∃ b,inB d.b 0 (cells - 1)=b:=⟨_,rfl⟩;have HY:Aside0 ((decide ((0:Int)<=d.b) && decide (d.b<=(cells - 1)))=bz):=⟨hbz⟩;clear hbz
  cases ba with
  | false=>
   go_wp2_with (first
   |((with_reducible refine gate_dst (N:=2) rfl ?_);refine box_event rfl (N:=2) rfl (t:=197) (by go_simp<;>rfl) ?_;intro gd hg w2 hbox hb;have BK:=am hbox;have HB:=am hb;have BKc:=zc8 BK.out;clear hbox hb hg)
   |(go_at_call 76;refine (l6In_calls _ _ _ _).mono ?_;(first|rw [HA.out] | rw [HY.out]);rintro e w9 ⟨rfl,rfl⟩))
   go_ret
   have hr:deedOk d cells=false:=by
    unfold deedOk;rw [if_pos K1.out,show inB d.a 0 2=false from HA.out,Bool.false_and]
   rw [hr]
   exact ⟨rfl,HB.out⟩
  | true=>
   go_wp2_with (first
   |((with_reducible refine gate_dst (N:=2) rfl ?_);refine box_event rfl (N:=2) rfl (t:=197) (by go_simp<;>rfl) ?_;intro gd hg w2 hbox hb;have BK:=am hbox;have HB:=am hb;have BKc:=zc8 BK.out;clear hbox hb hg)
   |(go_at_call 76;refine (l6In_calls _ _ _ _).mono ?_;(first|rw [HA.out] | rw [HY.out]);rintro e w9 ⟨rfl,rfl⟩))
   go_ret
   have hr:deedOk d cells=bz:=by
    unfold deedOk;rw [if_pos K1.out,show inB d.a 0 2=true from HA.out,show inB d.b 0 (cells - 1)=bz from HY.out,Bool.true_and]
   rw [hr];exact ⟨rfl,HB.out⟩
 ·have y1:(d.kind == 1)=false:=by simp [k1]
  have K1:=am k1;clear k1;by_cases k2:d.kind=2
  ·have y2:(d.kind == 2)=true:=by simp [k2]
   have K2:=am k2;clear k2;obtain ⟨bx,hbx⟩:∃ b,inB d.a 0 (cells - 1)=b:=⟨_,rfl⟩;have HX:Aside0 ((decide ((0:Int)<=d.a) && decide (d.a<=(cells - 1)))=bx):=⟨hbx⟩;clear hbx;obtain ⟨bz,hbz⟩:∃ b,inB d.b 0 2=b:=⟨_,rfl⟩;have HY:Aside0 ((decide ((0:Int)<=d.b) && decide (d.b<=2))=bz):=⟨hbz⟩;clear hbz
   cases bx with
   | false=>
    go_wp2_with (first
    |((with_reducible refine gate_dst (N:=2) rfl ?_);refine box_event rfl (N:=2) rfl (t:=197) (by go_simp<;>rfl) ?_;intro gd hg w2 hbox hb;have BK:=am hbox;have HB:=am hb;have BKc:=zc8 BK.out;clear hbox hb hg)
    |(go_at_call 76;refine (l6In_calls _ _ _ _).mono ?_;(first|rw [HA.out] | rw [HX.out] | rw [HY.out]);rintro e w9 ⟨rfl,rfl⟩))
    go_ret
    have hr:deedOk d cells=false:=by
     unfold deedOk;rw [if_neg K1.out,if_pos K2.out,show inB d.a 0 (cells - 1)=false from HX.out,Bool.false_and]
    rw [hr]
    exact ⟨rfl,HB.out⟩
   | true=>
    go_wp2_with (first
    |((with_reducible refine gate_dst (N:=2) rfl ?_);refine box_event rfl (N:=2) rfl (t:=197) (by go_simp<;>rfl) ?_;intro gd hg w2 hbox hb;have BK:=am hbox;have HB:=am hb;have BKc:=zc8 BK.out;clear hbox hb hg)
    |(go_at_call 76;refine (l6In_calls _ _ _ _).mono ?_;(first|rw [HA.out] | rw [HX.out] | rw [HY.out]);rintro e w9 ⟨rfl,rfl⟩))
    go_ret
    have hr:deedOk d cells=bz:=by
     unfold deedOk;rw [if_neg K1.out,if_pos K2.out,show inB d.a 0 (cells - 1)=true from HX.out,show inB d.b 0 2=bz from HY.out,Bool.true_and]
    rw [hr];exact ⟨rfl,HB.out⟩
  ·have y2:(d.kind == 2)=false:=by simp [k2]
   have K2:=am k2;clear k2;by_cases k3:d.kind=3
   ·have y3:(d.kind == 3)=true:=by simp [k3]
    have K3:=am k3;clear k3;obtain ⟨bz,hbz⟩:∃ b,inB d.b 0 99=b:=⟨_,rfl⟩;have HY:Aside0 ((decide ((0:Int)<=d.b) && decide (d.b<=99))=bz):=⟨hbz⟩;clear hbz
    cases ba with
    | false=>
     go_wp2_with (first
     |((with_reducible refine gate_dst (N:=2) rfl ?_);refine box_event rfl (N:=2) rfl (t:=197) (by go_simp<;>rfl) ?_;intro gd hg w2 hbox hb;have BK:=am hbox;have HB:=am hb;have BKc:=zc8 BK.out;clear hbox hb hg)
     |(go_at_call 76;refine (l6In_calls _ _ _ _).mono ?_;(first|rw [HA.out] | rw [HY.out]);rintro e w9 ⟨rfl,rfl⟩))
     go_ret
     have hr:deedOk d cells=false:=by
      unfold deedOk;rw [if_neg K1.out,if_neg K2.out,if_pos K3.out,show inB d.a 0 2=false from HA.out,Bool.false_and]
     rw [hr]
     exact ⟨rfl,HB.out⟩
    | true=>
     go_wp2_with (first
     |((with_reducible refine gate_dst (N:=2) rfl ?_);refine box_event rfl (N:=2) rfl (t:=197) (by go_simp<;>rfl) ?_;intro gd hg w2 hbox hb;have BK:=am hbox;have HB:=am hb;have BKc:=zc8 BK.out;clear hbox hb hg)
     |(go_at_call 76;refine (l6In_calls _ _ _ _).mono ?_;(first|rw [HA.out] | rw [HY.out]);rintro e w9 ⟨rfl,rfl⟩))
     go_ret
     have hr:deedOk d cells=bz:=by
      unfold deedOk;rw [if_neg K1.out,if_neg K2.out,if_pos K3.out,show inB d.a 0 2=true from HA.out,show inB d.b 0 99=bz from HY.out,Bool.true_and]
     rw [hr];exact ⟨rfl,HB.out⟩
   ·have y3:(d.kind == 3)=false:=by simp [k3]
    have K3:=am k3;clear k3;by_cases k4:d.kind=4
    ·have y4:(d.kind == 4)=true:=by simp [k4]
     have K4:=am k4;clear k4;obtain ⟨bz,hbz⟩:∃ b,inB d.b 0 2=b:=⟨_,rfl⟩;have HY:Aside0 ((decide ((0:Int)<=d.b) && decide (d.b<=2))=bz):=⟨hbz⟩;clear hbz
     cases ba with
     | false=>
      go_wp2_with (first
      |((with_reducible refine gate_dst (N:=2) rfl ?_);refine box_event rfl (N:=2) rfl (t:=197) (by go_simp<;>rfl) ?_;intro gd hg w2 hbox hb;have BK:=am hbox;have HB:=am hb;have BKc:=zc8 BK.out;clear hbox hb hg)
      |(go_at_call 76;refine (l6In_calls _ _ _ _).mono ?_;(first|rw [HA.out] | rw [HY.out]);rintro e w9 ⟨rfl,rfl⟩))
      go_ret
      have hr:deedOk d cells=false:=by
       unfold deedOk;rw [if_neg K1.out,if_neg K2.out,if_neg K3.out,if_pos K4.out,show inB d.a 0 2=false from HA.out,Bool.false_and]
      rw [hr]
      exact ⟨rfl,HB.out⟩
     | true=>
      go_wp2_with (first
      |((with_reducible refine gate_dst (N:=2) rfl ?_);refine box_event rfl (N:=2) rfl (t:=197) (by go_simp<;>rfl) ?_;intro gd hg w2 hbox hb;have BK:=am hbox;have HB:=am hb;have BKc:=zc8 BK.out;clear hbox hb hg)
      |(go_at_call 76;refine (l6In_calls _ _ _ _).mono ?_;(first|rw [HA.out] | rw [HY.out]);rintro e w9 ⟨rfl,rfl⟩))
      go_ret
      have hr:deedOk d cells=bz:=by
       unfold deedOk;rw [if_neg K1.out,if_neg K2.out,if_neg K3.out,if_pos K4.out,show inB d.a 0 2=true from HA.out,show inB d.b 0 2=bz from HY.out,Bool.true_and]
      rw [hr];exact ⟨rfl,HB.out⟩
    ·have y4:(d.kind == 4)=false:=by simp [k4]
     have K4:=am k4;clear k4;by_cases k5:d.kind=5
     ·have y5:(d.kind == 5)=true:=by simp [k5]
      have K5:=am k5;clear k5
      cases ba with
      | false=>
       go_wp2_with (first
       |((with_reducible refine gate_dst (N:=2) rfl ?_);refine box_event rfl (N:=2) rfl (t:=197) (by go_simp<;>rfl) ?_;intro gd hg w2 hbox hb;have BK:=am hbox;have HB:=am hb;have BKc:=zc8 BK.out;clear hbox hb hg)
       |(go_at_call 76;refine (l6In_calls _ _ _ _).mono ?_;(first|rw [HA.out]);rintro e w9 ⟨rfl,rfl⟩))
       go_ret
       have hr:deedOk d cells=false:=by
        unfold deedOk;rw [if_neg K1.out,if_neg K2.out,if_neg K3.out,if_neg K4.out,if_pos K5.out,show inB d.a 0 2=false from HA.out,Bool.false_and]
       rw [hr]
       exact ⟨rfl,HB.out⟩
      | true=>
       by_cases z:d.b=0
       ·have yz:(d.b == 0)=true:=by simp [z]
        have Z:=am z;clear z
        go_wp2_with (first
        |((with_reducible refine gate_dst (N:=2) rfl ?_);refine box_event rfl (N:=2) rfl (t:=197) (by go_simp<;>rfl) ?_;intro gd hg w2 hbox hb;have BK:=am hbox;have HB:=am hb;have BKc:=zc8 BK.out;clear hbox hb hg)
        |(go_at_call 76;refine (l6In_calls _ _ _ _).mono ?_;(first|rw [HA.out]);rintro e w9 ⟨rfl,rfl⟩))
        go_ret
        have hr:deedOk d cells=true:=by
         unfold deedOk;rw [if_neg K1.out,if_neg K2.out,if_neg K3.out,if_neg K4.out,if_pos K5.out,show inB d.a 0 2=true from HA.out,decide_eq_true Z.out,Bool.true_and]
        rw [hr];exact ⟨rfl,HB.out⟩
       ·have yz:(d.b == 0)=false:=by simp [z]
        have Z:=am z;clear z
        go_wp2_with (first
        |((with_reducible refine gate_dst (N:=2) rfl ?_);refine box_event rfl (N:=2) rfl (t:=197) (by go_simp<;>rfl) ?_;intro gd hg w2 hbox hb;have BK:=am hbox;have HB:=am hb;have BKc:=zc8 BK.out;clear hbox hb hg)
        |(go_at_call 76;refine (l6In_calls _ _ _ _).mono ?_;(first|rw [HA.out]);rintro e w9 ⟨rfl,rfl⟩))
        go_ret
        have hr:deedOk d cells=false:=by
         unfold deedOk;rw [if_neg K1.out,if_neg K2.out,if_neg K3.out,if_neg K4.out,if_pos K5.out,show inB d.a 0 2=true from HA.out,decide_eq_false Z.out,Bool.true_and]
        rw [hr];exact ⟨rfl,HB.out⟩
     ·have y5:(d.kind == 5)=false:=by simp [k5]
      have K5:=am k5;clear k5
      go_wp2_with (first
      |((with_reducible refine gate_dst (N:=2) rfl ?_);refine box_event rfl (N:=2) rfl (t:=197) (by go_simp<;>rfl) ?_;intro gd hg w2 hbox hb;have BK:=am hbox;have HB:=am hb;have BKc:=zc8 BK.out;clear hbox hb hg)
      |(go_at_call 76;refine (l6In_calls _ _ _ _).mono ?_;(first|rw [HA.out]);rintro e w9 ⟨rfl,rfl⟩))
      go_ret
      have hr:deedOk d cells=false:=by
       unfold deedOk;rw [if_neg K1.out,if_neg K2.out,if_neg K3.out,if_neg K4.out,if_neg K5.out]
      rw [hr];exact ⟨rfl,HB.out⟩
theorem l1Kids_calls (A:Option Addr) (c:Nat) (ks:List Int) (body bodies:Int) (w:World) (hx:(Kd.int .i64).C w A ks.length ks) (hn:ks.length<=1048576) (h0:0<=body/\body<=1048576) (h1:0<=bodies/\bodies<=1048576):
  Calls Tryz.prog 189 #[.slice A ks.length c,.int .i64 body,.int .i64 bodies] w fun e w'=>e= .returned (.bool (kidsOk ks body bodies))/\w=w':=by
 have HX:=am hx;clear hx;obtain ⟨h00,h01⟩:=h0;obtain ⟨h10,h11⟩:=h1;go_enter Tryz.func189,Tryz.ntmps189;go_wp2;go_loopw [7] (fun j w'=>∃ k:Nat,k<=ks.length/\j= .int .i64 k/\Aside0 (∀ i,i < k->inB (numAt ks i) (body+1) (bodies - 1)=true)/\w=w') (fun j _=>ks.length - (intOf j).toNat)
 case atStart=>exact ⟨0,Nat.zero_le _,rfl,⟨fun i hi=>by omega⟩,rfl⟩
 case round=>
  obtain ⟨k,hk,rfl,HJ,rfl⟩:=hrel;by_cases hlt:k < ks.length
  ·have q0:(0:Int)<=(k:Int):=by omega
   have q1:(k:Int) < (ks.length:Int):=by omega
   obtain ⟨ad,rfl,gx⟩:=Kd.at_int HX.out (k:Int) q0 q1;simp only [Int.toNat_natCast] at gx;obtain ⟨x,hxx⟩:∃ x,x=numAt ks k:=⟨_,rfl⟩;rw [show rd ks (k:Int)=x from hxx.symm] at gx;have HXX:=am hxx;clear hxx
   cases hb:inB x (body+1) (bodies - 1) with
   | true=>
    have HI:Aside0 ((decide (body+1<=x) && decide (x<=bodies - 1))=true):=⟨hb⟩;clear hb;go_wp2_with (first|(go_at_call 76;refine (l6In_calls _ _ _ _).mono ?_;(first|rw [HI.out]);rintro e w9 ⟨rfl,rfl⟩))
    go_roundw
    case rel=>exact ⟨k+1,by omega,by go_num,⟨fun i hi=>by rcases Nat.lt_or_ge i k with h | h;exact HJ.out i h;obtain rfl:i=k:=(by omega);rw [<-HXX.out];exact HI.out⟩,trivial⟩
    case measure=>simp [intOf];omega
   | false=>
    have HI:Aside0 ((decide (body+1<=x) && decide (x<=bodies - 1))=false):=⟨hb⟩;clear hb;go_wp2_with (first|(go_at_call 76;refine (l6In_calls _ _ _ _).mono ?_;(first|rw [HI.out]);rintro e w9 ⟨rfl,rfl⟩))
    go_ret
    have hr:kidsOk ks body bodies=false:=by
     unfold kidsOk;rw [allB_no hlt (by rw [<-HXX.out];exact HI.out),Bool.false_and]
    rw [hr];exact ⟨rfl,rfl⟩
  ·obtain rfl:k=ks.length:=by omega
   obtain ⟨bz,hbz⟩:∃ b,inB (ks.length:Int) 1 2=b:=⟨_,rfl⟩;have HI:Aside0 ((decide ((1:Int)<=(ks.length:Int)) && decide ((ks.length:Int)<=2))=bz):=⟨hbz⟩;clear hbz;go_wp2_with (first|(go_at_call 76;refine (l6In_calls _ _ _ _).mono ?_;(first|rw [HI.out]);rintro e w9 ⟨rfl,rfl⟩))
   go_ret
   have hr:kidsOk ks body bodies=bz:=by
    unfold kidsOk;rw [allB_iff.2 HJ.out,Bool.true_and];exact HI.out
   rw [hr];exact ⟨rfl,rfl⟩
end Go.Proofs.YtclangliilnijaaGreatDoor.Eq
