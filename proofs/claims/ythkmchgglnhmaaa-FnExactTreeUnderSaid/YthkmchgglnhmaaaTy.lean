import Derived.Test.YthkmchgglnhmaaaProg
import Derived.Test.YthkmchgglnhmaaaWWords
import Derived.Test.YthkmchgglnhmaaaWLast
import Derived.Test.YthkmchgglnhmaaaWApart
import Derived.Test.YthkmchgglnhmaaaWKept
import Derived.Test.YthkmchgglnhmaaaWMore
import Derived.Test.YthkmchgglnhmaaaWFoot
import Derived.Deep.MidRow
import Derived.KernelRfl
/- The program's structs as Lean structures and kinds. Printed by gen_types.py (own). -/
namespace Go.Proofs.Ythkmchgglnhmaaa.Eq
open Go.RowKit Go.Proofs.YthkmchgglnhmaaaW.PrintWords Go.Proofs.YthkmchgglnhmaaaW.PrintLast
set_option linter.unusedVariables false
structure Put where
  cell : Int
  num : Int
  deriving DecidableEq
def zPut : Put := ⟨0, 0⟩
def kPut : Kd Put := Kd.iso (Kd.pair (Kd.int .i64) (Kd.int .i64)) (fun x : Put => (x.cell, x.num))
theorem kPut_open {w : World} {x : Put} {cs : List Value} (h : kPut.K w x cs) : cs = [.int .i64 x.cell, .int .i64 x.num] := by
  obtain ⟨_, _, rfl, rfl, rfl⟩ := h
  exact rfl
theorem kPut_mk {w : World} (x : Put)  : kPut.K w x [.int .i64 x.cell, .int .i64 x.num] :=
  ⟨[.int .i64 x.cell], [.int .i64 x.num], rfl, rfl, rfl⟩
theorem kPut_openM {w : World} {base : Nat} {ok : Nat → Prop} {x : Put} {cs : List Value} (h : kPut.M w base ok x cs) : cs = [.int .i64 x.cell, .int .i64 x.num] := by
  obtain ⟨_, _, rfl, rfl, rfl⟩ := h
  exact rfl
theorem kPut_mkM {w : World} {base : Nat} {ok : Nat → Prop} (x : Put)  : kPut.M w base ok x [.int .i64 x.cell, .int .i64 x.num] :=
  ⟨[.int .i64 x.cell], [.int .i64 x.num], rfl, rfl, rfl⟩
theorem kPut_heap : Kd.Heap kPut := Kd.heap_iso _ (Kd.heap_pair (Kd.heap_int .i64) (Kd.heap_int .i64))

structure Cell where
  num : Int
  time : Int
  lock : Int
  deriving DecidableEq
def zCell : Cell := ⟨0, 0, 0⟩
def kCell : Kd Cell := Kd.iso (Kd.pair (Kd.int .i64) (Kd.pair (Kd.int .i64) (Kd.int .i64))) (fun x : Cell => (x.num, x.time, x.lock))
theorem kCell_open {w : World} {x : Cell} {cs : List Value} (h : kCell.K w x cs) : cs = [.int .i64 x.num, .int .i64 x.time, .int .i64 x.lock] := by
  obtain ⟨_, _, rfl, rfl, ⟨_, _, rfl, rfl, rfl⟩⟩ := h
  exact rfl
theorem kCell_mk {w : World} (x : Cell)  : kCell.K w x [.int .i64 x.num, .int .i64 x.time, .int .i64 x.lock] :=
  ⟨[.int .i64 x.num], [.int .i64 x.time, .int .i64 x.lock], rfl, rfl, ⟨[.int .i64 x.time], [.int .i64 x.lock], rfl, rfl, rfl⟩⟩
theorem kCell_openM {w : World} {base : Nat} {ok : Nat → Prop} {x : Cell} {cs : List Value} (h : kCell.M w base ok x cs) : cs = [.int .i64 x.num, .int .i64 x.time, .int .i64 x.lock] := by
  obtain ⟨_, _, rfl, rfl, ⟨_, _, rfl, rfl, rfl⟩⟩ := h
  exact rfl
theorem kCell_mkM {w : World} {base : Nat} {ok : Nat → Prop} (x : Cell)  : kCell.M w base ok x [.int .i64 x.num, .int .i64 x.time, .int .i64 x.lock] :=
  ⟨[.int .i64 x.num], [.int .i64 x.time, .int .i64 x.lock], rfl, rfl, ⟨[.int .i64 x.time], [.int .i64 x.lock], rfl, rfl, rfl⟩⟩
theorem kCell_heap : Kd.Heap kCell := Kd.heap_iso _ (Kd.heap_pair (Kd.heap_int .i64) (Kd.heap_pair (Kd.heap_int .i64) (Kd.heap_int .i64)))

structure Task where
  body : Int
  pc : Int
  up : Int
  regs : List Int
  way : Int
  stage : Int
  at_ : Int
  since : Int
  old : List Int
  reads : List Put
  puts : List Put
  when_ : Int
  from_ : Int
  deriving DecidableEq
def zTask : Task := ⟨0, 0, 0, [], 0, 0, 0, 0, [], [], [], 0, 0⟩
def kTask : Kd Task := Kd.iso (Kd.pair (Kd.int .i64) (Kd.pair (Kd.int .i64) (Kd.pair (Kd.int .i64) (Kd.pair (Kd.slice 3 (Kd.int .i64)) (Kd.pair (Kd.int .i64) (Kd.pair (Kd.int .i64) (Kd.pair (Kd.int .i64) (Kd.pair (Kd.int .i64) (Kd.pair (Kd.slice 3 (Kd.int .i64)) (Kd.pair (Kd.slice 91 kPut) (Kd.pair (Kd.slice 91 kPut) (Kd.pair (Kd.int .i64) (Kd.int .i64))))))))))))) (fun x : Task => (x.body, x.pc, x.up, x.regs, x.way, x.stage, x.at_, x.since, x.old, x.reads, x.puts, x.when_, x.from_))
theorem kTask_open {w : World} {x : Task} {cs : List Value} (h : kTask.K w x cs) : ∃ A_regs c_regs A_old c_old A_reads c_reads A_puts c_puts, cs = [.int .i64 x.body, .int .i64 x.pc, .int .i64 x.up, .slice A_regs x.regs.length c_regs, .int .i64 x.way, .int .i64 x.stage, .int .i64 x.at_, .int .i64 x.since, .slice A_old x.old.length c_old, .slice A_reads x.reads.length c_reads, .slice A_puts x.puts.length c_puts, .int .i64 x.when_, .int .i64 x.from_] ∧ x.regs.length ≤ c_regs ∧ (Kd.int .i64).C w A_regs x.regs.length x.regs ∧ x.old.length ≤ c_old ∧ (Kd.int .i64).C w A_old x.old.length x.old ∧ x.reads.length ≤ c_reads ∧ kPut.C w A_reads x.reads.length x.reads ∧ x.puts.length ≤ c_puts ∧ kPut.C w A_puts x.puts.length x.puts := by
  obtain ⟨_, _, rfl, rfl, ⟨_, _, rfl, rfl, ⟨_, _, rfl, rfl, ⟨_, _, rfl, ⟨A_regs, c_regs, rfl, l_regs, g_regs⟩, ⟨_, _, rfl, rfl, ⟨_, _, rfl, rfl, ⟨_, _, rfl, rfl, ⟨_, _, rfl, rfl, ⟨_, _, rfl, ⟨A_old, c_old, rfl, l_old, g_old⟩, ⟨_, _, rfl, ⟨A_reads, c_reads, rfl, l_reads, g_reads⟩, ⟨_, _, rfl, ⟨A_puts, c_puts, rfl, l_puts, g_puts⟩, ⟨_, _, rfl, rfl, rfl⟩⟩⟩⟩⟩⟩⟩⟩⟩⟩⟩⟩ := h
  exact ⟨A_regs, c_regs, A_old, c_old, A_reads, c_reads, A_puts, c_puts, rfl, l_regs, g_regs, l_old, g_old, l_reads, g_reads, l_puts, g_puts⟩
theorem kTask_mk {w : World} (x : Task) {A_regs : Option Addr} {c_regs : Nat} (l_regs : x.regs.length ≤ c_regs) (g_regs : (Kd.int .i64).C w A_regs x.regs.length x.regs) {A_old : Option Addr} {c_old : Nat} (l_old : x.old.length ≤ c_old) (g_old : (Kd.int .i64).C w A_old x.old.length x.old) {A_reads : Option Addr} {c_reads : Nat} (l_reads : x.reads.length ≤ c_reads) (g_reads : kPut.C w A_reads x.reads.length x.reads) {A_puts : Option Addr} {c_puts : Nat} (l_puts : x.puts.length ≤ c_puts) (g_puts : kPut.C w A_puts x.puts.length x.puts) : kTask.K w x [.int .i64 x.body, .int .i64 x.pc, .int .i64 x.up, .slice A_regs x.regs.length c_regs, .int .i64 x.way, .int .i64 x.stage, .int .i64 x.at_, .int .i64 x.since, .slice A_old x.old.length c_old, .slice A_reads x.reads.length c_reads, .slice A_puts x.puts.length c_puts, .int .i64 x.when_, .int .i64 x.from_] :=
  ⟨[.int .i64 x.body], [.int .i64 x.pc, .int .i64 x.up, .slice A_regs x.regs.length c_regs, .int .i64 x.way, .int .i64 x.stage, .int .i64 x.at_, .int .i64 x.since, .slice A_old x.old.length c_old, .slice A_reads x.reads.length c_reads, .slice A_puts x.puts.length c_puts, .int .i64 x.when_, .int .i64 x.from_], rfl, rfl, ⟨[.int .i64 x.pc], [.int .i64 x.up, .slice A_regs x.regs.length c_regs, .int .i64 x.way, .int .i64 x.stage, .int .i64 x.at_, .int .i64 x.since, .slice A_old x.old.length c_old, .slice A_reads x.reads.length c_reads, .slice A_puts x.puts.length c_puts, .int .i64 x.when_, .int .i64 x.from_], rfl, rfl, ⟨[.int .i64 x.up], [.slice A_regs x.regs.length c_regs, .int .i64 x.way, .int .i64 x.stage, .int .i64 x.at_, .int .i64 x.since, .slice A_old x.old.length c_old, .slice A_reads x.reads.length c_reads, .slice A_puts x.puts.length c_puts, .int .i64 x.when_, .int .i64 x.from_], rfl, rfl, ⟨[.slice A_regs x.regs.length c_regs], [.int .i64 x.way, .int .i64 x.stage, .int .i64 x.at_, .int .i64 x.since, .slice A_old x.old.length c_old, .slice A_reads x.reads.length c_reads, .slice A_puts x.puts.length c_puts, .int .i64 x.when_, .int .i64 x.from_], rfl, ⟨_, _, rfl, l_regs, g_regs⟩, ⟨[.int .i64 x.way], [.int .i64 x.stage, .int .i64 x.at_, .int .i64 x.since, .slice A_old x.old.length c_old, .slice A_reads x.reads.length c_reads, .slice A_puts x.puts.length c_puts, .int .i64 x.when_, .int .i64 x.from_], rfl, rfl, ⟨[.int .i64 x.stage], [.int .i64 x.at_, .int .i64 x.since, .slice A_old x.old.length c_old, .slice A_reads x.reads.length c_reads, .slice A_puts x.puts.length c_puts, .int .i64 x.when_, .int .i64 x.from_], rfl, rfl, ⟨[.int .i64 x.at_], [.int .i64 x.since, .slice A_old x.old.length c_old, .slice A_reads x.reads.length c_reads, .slice A_puts x.puts.length c_puts, .int .i64 x.when_, .int .i64 x.from_], rfl, rfl, ⟨[.int .i64 x.since], [.slice A_old x.old.length c_old, .slice A_reads x.reads.length c_reads, .slice A_puts x.puts.length c_puts, .int .i64 x.when_, .int .i64 x.from_], rfl, rfl, ⟨[.slice A_old x.old.length c_old], [.slice A_reads x.reads.length c_reads, .slice A_puts x.puts.length c_puts, .int .i64 x.when_, .int .i64 x.from_], rfl, ⟨_, _, rfl, l_old, g_old⟩, ⟨[.slice A_reads x.reads.length c_reads], [.slice A_puts x.puts.length c_puts, .int .i64 x.when_, .int .i64 x.from_], rfl, ⟨_, _, rfl, l_reads, g_reads⟩, ⟨[.slice A_puts x.puts.length c_puts], [.int .i64 x.when_, .int .i64 x.from_], rfl, ⟨_, _, rfl, l_puts, g_puts⟩, ⟨[.int .i64 x.when_], [.int .i64 x.from_], rfl, rfl, rfl⟩⟩⟩⟩⟩⟩⟩⟩⟩⟩⟩⟩
theorem kTask_openM {w : World} {base : Nat} {ok : Nat → Prop} {x : Task} {cs : List Value} (h : kTask.M w base ok x cs) : ∃ v_regs v_old v_reads v_puts, cs = [.int .i64 x.body, .int .i64 x.pc, .int .i64 x.up, v_regs, .int .i64 x.way, .int .i64 x.stage, .int .i64 x.at_, .int .i64 x.since, v_old, v_reads, v_puts, .int .i64 x.when_, .int .i64 x.from_] ∧ (Kd.int .i64).R 3 w base ok v_regs x.regs ∧ (Kd.int .i64).R 3 w base ok v_old x.old ∧ kPut.R 91 w base ok v_reads x.reads ∧ kPut.R 91 w base ok v_puts x.puts := by
  obtain ⟨_, _, rfl, rfl, ⟨_, _, rfl, rfl, ⟨_, _, rfl, rfl, ⟨_, _, rfl, ⟨v_regs, rfl, g_regs⟩, ⟨_, _, rfl, rfl, ⟨_, _, rfl, rfl, ⟨_, _, rfl, rfl, ⟨_, _, rfl, rfl, ⟨_, _, rfl, ⟨v_old, rfl, g_old⟩, ⟨_, _, rfl, ⟨v_reads, rfl, g_reads⟩, ⟨_, _, rfl, ⟨v_puts, rfl, g_puts⟩, ⟨_, _, rfl, rfl, rfl⟩⟩⟩⟩⟩⟩⟩⟩⟩⟩⟩⟩ := h
  exact ⟨v_regs, v_old, v_reads, v_puts, rfl, g_regs, g_old, g_reads, g_puts⟩
theorem kTask_mkM {w : World} {base : Nat} {ok : Nat → Prop} (x : Task) {v_regs : Value} (g_regs : (Kd.int .i64).R 3 w base ok v_regs x.regs) {v_old : Value} (g_old : (Kd.int .i64).R 3 w base ok v_old x.old) {v_reads : Value} (g_reads : kPut.R 91 w base ok v_reads x.reads) {v_puts : Value} (g_puts : kPut.R 91 w base ok v_puts x.puts) : kTask.M w base ok x [.int .i64 x.body, .int .i64 x.pc, .int .i64 x.up, v_regs, .int .i64 x.way, .int .i64 x.stage, .int .i64 x.at_, .int .i64 x.since, v_old, v_reads, v_puts, .int .i64 x.when_, .int .i64 x.from_] :=
  ⟨[.int .i64 x.body], [.int .i64 x.pc, .int .i64 x.up, v_regs, .int .i64 x.way, .int .i64 x.stage, .int .i64 x.at_, .int .i64 x.since, v_old, v_reads, v_puts, .int .i64 x.when_, .int .i64 x.from_], rfl, rfl, ⟨[.int .i64 x.pc], [.int .i64 x.up, v_regs, .int .i64 x.way, .int .i64 x.stage, .int .i64 x.at_, .int .i64 x.since, v_old, v_reads, v_puts, .int .i64 x.when_, .int .i64 x.from_], rfl, rfl, ⟨[.int .i64 x.up], [v_regs, .int .i64 x.way, .int .i64 x.stage, .int .i64 x.at_, .int .i64 x.since, v_old, v_reads, v_puts, .int .i64 x.when_, .int .i64 x.from_], rfl, rfl, ⟨[v_regs], [.int .i64 x.way, .int .i64 x.stage, .int .i64 x.at_, .int .i64 x.since, v_old, v_reads, v_puts, .int .i64 x.when_, .int .i64 x.from_], rfl, ⟨_, rfl, g_regs⟩, ⟨[.int .i64 x.way], [.int .i64 x.stage, .int .i64 x.at_, .int .i64 x.since, v_old, v_reads, v_puts, .int .i64 x.when_, .int .i64 x.from_], rfl, rfl, ⟨[.int .i64 x.stage], [.int .i64 x.at_, .int .i64 x.since, v_old, v_reads, v_puts, .int .i64 x.when_, .int .i64 x.from_], rfl, rfl, ⟨[.int .i64 x.at_], [.int .i64 x.since, v_old, v_reads, v_puts, .int .i64 x.when_, .int .i64 x.from_], rfl, rfl, ⟨[.int .i64 x.since], [v_old, v_reads, v_puts, .int .i64 x.when_, .int .i64 x.from_], rfl, rfl, ⟨[v_old], [v_reads, v_puts, .int .i64 x.when_, .int .i64 x.from_], rfl, ⟨_, rfl, g_old⟩, ⟨[v_reads], [v_puts, .int .i64 x.when_, .int .i64 x.from_], rfl, ⟨_, rfl, g_reads⟩, ⟨[v_puts], [.int .i64 x.when_, .int .i64 x.from_], rfl, ⟨_, rfl, g_puts⟩, ⟨[.int .i64 x.when_], [.int .i64 x.from_], rfl, rfl, rfl⟩⟩⟩⟩⟩⟩⟩⟩⟩⟩⟩⟩
theorem kTask_heap : Kd.Heap kTask := Kd.heap_iso _ (Kd.heap_pair (Kd.heap_int .i64) (Kd.heap_pair (Kd.heap_int .i64) (Kd.heap_pair (Kd.heap_int .i64) (Kd.heap_pair (Kd.heap_slice 3 (Kd.heap_int .i64)) (Kd.heap_pair (Kd.heap_int .i64) (Kd.heap_pair (Kd.heap_int .i64) (Kd.heap_pair (Kd.heap_int .i64) (Kd.heap_pair (Kd.heap_int .i64) (Kd.heap_pair (Kd.heap_slice 3 (Kd.heap_int .i64)) (Kd.heap_pair (Kd.heap_slice 91 kPut_heap) (Kd.heap_pair (Kd.heap_slice 91 kPut_heap) (Kd.heap_pair (Kd.heap_int .i64) (Kd.heap_int .i64)))))))))))))

structure Entry where
  task : Int
  act : Int
  when_ : Int
  reads : List Put
  puts : List Put
  from_ : Int
  deriving DecidableEq
def zEntry : Entry := ⟨0, 0, 0, [], [], 0⟩
def kEntry : Kd Entry := Kd.iso (Kd.pair (Kd.int .i64) (Kd.pair (Kd.int .i64) (Kd.pair (Kd.int .i64) (Kd.pair (Kd.slice 91 kPut) (Kd.pair (Kd.slice 91 kPut) (Kd.int .i64)))))) (fun x : Entry => (x.task, x.act, x.when_, x.reads, x.puts, x.from_))
theorem kEntry_open {w : World} {x : Entry} {cs : List Value} (h : kEntry.K w x cs) : ∃ A_reads c_reads A_puts c_puts, cs = [.int .i64 x.task, .int .i64 x.act, .int .i64 x.when_, .slice A_reads x.reads.length c_reads, .slice A_puts x.puts.length c_puts, .int .i64 x.from_] ∧ x.reads.length ≤ c_reads ∧ kPut.C w A_reads x.reads.length x.reads ∧ x.puts.length ≤ c_puts ∧ kPut.C w A_puts x.puts.length x.puts := by
  obtain ⟨_, _, rfl, rfl, ⟨_, _, rfl, rfl, ⟨_, _, rfl, rfl, ⟨_, _, rfl, ⟨A_reads, c_reads, rfl, l_reads, g_reads⟩, ⟨_, _, rfl, ⟨A_puts, c_puts, rfl, l_puts, g_puts⟩, rfl⟩⟩⟩⟩⟩ := h
  exact ⟨A_reads, c_reads, A_puts, c_puts, rfl, l_reads, g_reads, l_puts, g_puts⟩
theorem kEntry_mk {w : World} (x : Entry) {A_reads : Option Addr} {c_reads : Nat} (l_reads : x.reads.length ≤ c_reads) (g_reads : kPut.C w A_reads x.reads.length x.reads) {A_puts : Option Addr} {c_puts : Nat} (l_puts : x.puts.length ≤ c_puts) (g_puts : kPut.C w A_puts x.puts.length x.puts) : kEntry.K w x [.int .i64 x.task, .int .i64 x.act, .int .i64 x.when_, .slice A_reads x.reads.length c_reads, .slice A_puts x.puts.length c_puts, .int .i64 x.from_] :=
  ⟨[.int .i64 x.task], [.int .i64 x.act, .int .i64 x.when_, .slice A_reads x.reads.length c_reads, .slice A_puts x.puts.length c_puts, .int .i64 x.from_], rfl, rfl, ⟨[.int .i64 x.act], [.int .i64 x.when_, .slice A_reads x.reads.length c_reads, .slice A_puts x.puts.length c_puts, .int .i64 x.from_], rfl, rfl, ⟨[.int .i64 x.when_], [.slice A_reads x.reads.length c_reads, .slice A_puts x.puts.length c_puts, .int .i64 x.from_], rfl, rfl, ⟨[.slice A_reads x.reads.length c_reads], [.slice A_puts x.puts.length c_puts, .int .i64 x.from_], rfl, ⟨_, _, rfl, l_reads, g_reads⟩, ⟨[.slice A_puts x.puts.length c_puts], [.int .i64 x.from_], rfl, ⟨_, _, rfl, l_puts, g_puts⟩, rfl⟩⟩⟩⟩⟩
theorem kEntry_openM {w : World} {base : Nat} {ok : Nat → Prop} {x : Entry} {cs : List Value} (h : kEntry.M w base ok x cs) : ∃ v_reads v_puts, cs = [.int .i64 x.task, .int .i64 x.act, .int .i64 x.when_, v_reads, v_puts, .int .i64 x.from_] ∧ kPut.R 91 w base ok v_reads x.reads ∧ kPut.R 91 w base ok v_puts x.puts := by
  obtain ⟨_, _, rfl, rfl, ⟨_, _, rfl, rfl, ⟨_, _, rfl, rfl, ⟨_, _, rfl, ⟨v_reads, rfl, g_reads⟩, ⟨_, _, rfl, ⟨v_puts, rfl, g_puts⟩, rfl⟩⟩⟩⟩⟩ := h
  exact ⟨v_reads, v_puts, rfl, g_reads, g_puts⟩
theorem kEntry_mkM {w : World} {base : Nat} {ok : Nat → Prop} (x : Entry) {v_reads : Value} (g_reads : kPut.R 91 w base ok v_reads x.reads) {v_puts : Value} (g_puts : kPut.R 91 w base ok v_puts x.puts) : kEntry.M w base ok x [.int .i64 x.task, .int .i64 x.act, .int .i64 x.when_, v_reads, v_puts, .int .i64 x.from_] :=
  ⟨[.int .i64 x.task], [.int .i64 x.act, .int .i64 x.when_, v_reads, v_puts, .int .i64 x.from_], rfl, rfl, ⟨[.int .i64 x.act], [.int .i64 x.when_, v_reads, v_puts, .int .i64 x.from_], rfl, rfl, ⟨[.int .i64 x.when_], [v_reads, v_puts, .int .i64 x.from_], rfl, rfl, ⟨[v_reads], [v_puts, .int .i64 x.from_], rfl, ⟨_, rfl, g_reads⟩, ⟨[v_puts], [.int .i64 x.from_], rfl, ⟨_, rfl, g_puts⟩, rfl⟩⟩⟩⟩⟩
theorem kEntry_heap : Kd.Heap kEntry := Kd.heap_iso _ (Kd.heap_pair (Kd.heap_int .i64) (Kd.heap_pair (Kd.heap_int .i64) (Kd.heap_pair (Kd.heap_int .i64) (Kd.heap_pair (Kd.heap_slice 91 kPut_heap) (Kd.heap_pair (Kd.heap_slice 91 kPut_heap) (Kd.heap_int .i64))))))

structure Sys where
  cells : List Cell
  tasks : List Task
  clock : Int
  log : List Entry
  deriving DecidableEq
def zSys : Sys := ⟨[], [], 0, []⟩
def kSys : Kd Sys := Kd.iso (Kd.pair (Kd.slice 75 kCell) (Kd.pair (Kd.slice 52 kTask) (Kd.pair (Kd.int .i64) (Kd.slice 80 kEntry)))) (fun x : Sys => (x.cells, x.tasks, x.clock, x.log))
theorem kSys_open {w : World} {x : Sys} {cs : List Value} (h : kSys.K w x cs) : ∃ A_cells c_cells A_tasks c_tasks A_log c_log, cs = [.slice A_cells x.cells.length c_cells, .slice A_tasks x.tasks.length c_tasks, .int .i64 x.clock, .slice A_log x.log.length c_log] ∧ x.cells.length ≤ c_cells ∧ kCell.C w A_cells x.cells.length x.cells ∧ x.tasks.length ≤ c_tasks ∧ kTask.C w A_tasks x.tasks.length x.tasks ∧ x.log.length ≤ c_log ∧ kEntry.C w A_log x.log.length x.log := by
  obtain ⟨_, _, rfl, ⟨A_cells, c_cells, rfl, l_cells, g_cells⟩, ⟨_, _, rfl, ⟨A_tasks, c_tasks, rfl, l_tasks, g_tasks⟩, ⟨_, _, rfl, rfl, ⟨A_log, c_log, rfl, l_log, g_log⟩⟩⟩⟩ := h
  exact ⟨A_cells, c_cells, A_tasks, c_tasks, A_log, c_log, rfl, l_cells, g_cells, l_tasks, g_tasks, l_log, g_log⟩
theorem kSys_mk {w : World} (x : Sys) {A_cells : Option Addr} {c_cells : Nat} (l_cells : x.cells.length ≤ c_cells) (g_cells : kCell.C w A_cells x.cells.length x.cells) {A_tasks : Option Addr} {c_tasks : Nat} (l_tasks : x.tasks.length ≤ c_tasks) (g_tasks : kTask.C w A_tasks x.tasks.length x.tasks) {A_log : Option Addr} {c_log : Nat} (l_log : x.log.length ≤ c_log) (g_log : kEntry.C w A_log x.log.length x.log) : kSys.K w x [.slice A_cells x.cells.length c_cells, .slice A_tasks x.tasks.length c_tasks, .int .i64 x.clock, .slice A_log x.log.length c_log] :=
  ⟨[.slice A_cells x.cells.length c_cells], [.slice A_tasks x.tasks.length c_tasks, .int .i64 x.clock, .slice A_log x.log.length c_log], rfl, ⟨_, _, rfl, l_cells, g_cells⟩, ⟨[.slice A_tasks x.tasks.length c_tasks], [.int .i64 x.clock, .slice A_log x.log.length c_log], rfl, ⟨_, _, rfl, l_tasks, g_tasks⟩, ⟨[.int .i64 x.clock], [.slice A_log x.log.length c_log], rfl, rfl, ⟨_, _, rfl, l_log, g_log⟩⟩⟩⟩
theorem kSys_openM {w : World} {base : Nat} {ok : Nat → Prop} {x : Sys} {cs : List Value} (h : kSys.M w base ok x cs) : ∃ v_cells v_tasks v_log, cs = [v_cells, v_tasks, .int .i64 x.clock, v_log] ∧ kCell.R 75 w base ok v_cells x.cells ∧ kTask.R 52 w base ok v_tasks x.tasks ∧ kEntry.R 80 w base ok v_log x.log := by
  obtain ⟨_, _, rfl, ⟨v_cells, rfl, g_cells⟩, ⟨_, _, rfl, ⟨v_tasks, rfl, g_tasks⟩, ⟨_, _, rfl, rfl, ⟨v_log, rfl, g_log⟩⟩⟩⟩ := h
  exact ⟨v_cells, v_tasks, v_log, rfl, g_cells, g_tasks, g_log⟩
theorem kSys_mkM {w : World} {base : Nat} {ok : Nat → Prop} (x : Sys) {v_cells : Value} (g_cells : kCell.R 75 w base ok v_cells x.cells) {v_tasks : Value} (g_tasks : kTask.R 52 w base ok v_tasks x.tasks) {v_log : Value} (g_log : kEntry.R 80 w base ok v_log x.log) : kSys.M w base ok x [v_cells, v_tasks, .int .i64 x.clock, v_log] :=
  ⟨[v_cells], [v_tasks, .int .i64 x.clock, v_log], rfl, ⟨_, rfl, g_cells⟩, ⟨[v_tasks], [.int .i64 x.clock, v_log], rfl, ⟨_, rfl, g_tasks⟩, ⟨[.int .i64 x.clock], [v_log], rfl, rfl, ⟨_, rfl, g_log⟩⟩⟩⟩
theorem kSys_heap : Kd.Heap kSys := Kd.heap_iso _ (Kd.heap_pair (Kd.heap_slice 75 kCell_heap) (Kd.heap_pair (Kd.heap_slice 52 kTask_heap) (Kd.heap_pair (Kd.heap_int .i64) (Kd.heap_slice 80 kEntry_heap))))

end Go.Proofs.Ythkmchgglnhmaaa.Eq
