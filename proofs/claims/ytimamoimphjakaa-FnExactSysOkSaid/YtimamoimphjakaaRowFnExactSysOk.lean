/- The law FnExactSysOk: it returns true whatever the input, and the input reads as it did. No conditions. -/
import Derived.Test.YtimamoimphjakaaRows
import Derived.Test.YtimamoimphjakaaX4
import Derived.ChangeOld
import Derived.ChangeSame
import Derived.ChangeShapes
import Derived.Deep.Fields
import Derived.Deep.Slices
import Derived.OpenShut
import Derived.ProofKit
import Derived.ShutString
import Derived.SizedLaws
import Derived.WideShapes
set_option maxHeartbeats 8000000
set_option maxRecDepth 100000
set_option linter.unusedVariables false
set_option linter.unusedSimpArgs false
namespace Go.Proofs.Ytimamoimphjakaa.Eq
open Go.RowKit Go.Proofs.YtimamoimphjakaaW.PrintWords Go.Proofs.YtimamoimphjakaaW.PrintLast
def kPutL:Kd Put:=Kd.iso (Kd.pair (Kd.int .i64) (Kd.int .i64)) (fun x:Put=>(x.cell,x.num))
theorem kPutL_open {w:World} {x:Put} {cs:List Value} (h:kPutL.K w x cs):cs= [.int .i64 x.cell,.int .i64 x.num]:=by
 obtain ⟨_,_,rfl,rfl,rfl⟩:=h;exact rfl
def kCellL:Kd Cell:=Kd.iso (Kd.pair (Kd.int .i64) (Kd.pair (Kd.int .i64) (Kd.int .i64))) (fun x:Cell=>(x.num,x.time,x.lock))
theorem kCellL_open {w:World} {x:Cell} {cs:List Value} (h:kCellL.K w x cs):cs= [.int .i64 x.num,.int .i64 x.time,.int .i64 x.lock]:=by
 obtain ⟨_,_,rfl,rfl,⟨_,_,rfl,rfl,rfl⟩⟩:=h;exact rfl
def kTaskL:Kd Task:=Kd.iso (Kd.pair (Kd.int .i64) (Kd.pair (Kd.int .i64) (Kd.pair (Kd.int .i64) (Kd.pair (Kd.slice 3 (Kd.int .i64)) (Kd.pair (Kd.int .i64) (Kd.pair (Kd.int .i64) (Kd.pair (Kd.int .i64) (Kd.pair (Kd.int .i64) (Kd.pair (Kd.slice 3 (Kd.int .i64)) (Kd.pair (Kd.slice 188 kPutL) (Kd.pair (Kd.slice 188 kPutL) (Kd.pair (Kd.int .i64) (Kd.int .i64))))))))))))) (fun x:Task=>(x.body,x.pc,x.up,x.regs,x.way,x.stage,x.at_,x.since,x.old,x.reads,x.puts,x.when_,x.from_))
theorem kTaskL_open {w:World} {x:Task} {cs:List Value} (h:kTaskL.K w x cs):∃ A_regs c_regs A_old c_old A_reads c_reads A_puts c_puts,cs= [.int .i64 x.body,.int .i64 x.pc,.int .i64 x.up,.slice A_regs x.regs.length c_regs,.int .i64 x.way,.int .i64 x.stage,.int .i64 x.at_,.int .i64 x.since,.slice A_old x.old.length c_old,.slice A_reads x.reads.length c_reads,.slice A_puts x.puts.length c_puts,.int .i64 x.when_,.int .i64 x.from_]/\x.regs.length<=c_regs/\(Kd.int .i64).C w A_regs x.regs.length x.regs/\x.old.length<=c_old/\(Kd.int .i64).C w A_old x.old.length x.old/\x.reads.length<=c_reads/\kPutL.C w A_reads x.reads.length x.reads/\x.puts.length<=c_puts/\kPutL.C w A_puts x.puts.length x.puts:=by
 obtain ⟨_,_,rfl,rfl,⟨_,_,rfl,rfl,⟨_,_,rfl,rfl,⟨_,_,rfl,⟨A_regs,c_regs,rfl,l_regs,g_regs⟩,⟨_,_,rfl,rfl,⟨_,_,rfl,rfl,⟨_,_,rfl,rfl,⟨_,_,rfl,rfl,⟨_,_,rfl,⟨A_old,c_old,rfl,l_old,g_old⟩,⟨_,_,rfl,⟨A_reads,c_reads,rfl,l_reads,g_reads⟩,⟨_,_,rfl,⟨A_puts,c_puts,rfl,l_puts,g_puts⟩,⟨_,_,rfl,rfl,rfl⟩⟩⟩⟩⟩⟩⟩⟩⟩⟩⟩⟩:=h;exact ⟨A_regs,c_regs,A_old,c_old,A_reads,c_reads,A_puts,c_puts,rfl,l_regs,g_regs,l_old,g_old,l_reads,g_reads,l_puts,g_puts⟩
def kEntryL:Kd Entry:=Kd.iso (Kd.pair (Kd.int .i64) (Kd.pair (Kd.int .i64) (Kd.pair (Kd.int .i64) (Kd.pair (Kd.slice 188 kPutL) (Kd.pair (Kd.slice 188 kPutL) (Kd.int .i64)))))) (fun x:Entry=>(x.task,x.act,x.when_,x.reads,x.puts,x.from_))
theorem kEntryL_open {w:World} {x:Entry} {cs:List Value} (h:kEntryL.K w x cs):∃ A_reads c_reads A_puts c_puts,cs= [.int .i64 x.task,.int .i64 x.act,.int .i64 x.when_,.slice A_reads x.reads.length c_reads,.slice A_puts x.puts.length c_puts,.int .i64 x.from_]/\x.reads.length<=c_reads/\kPutL.C w A_reads x.reads.length x.reads/\x.puts.length<=c_puts/\kPutL.C w A_puts x.puts.length x.puts:=by
 obtain ⟨_,_,rfl,rfl,⟨_,_,rfl,rfl,⟨_,_,rfl,rfl,⟨_,_,rfl,⟨A_reads,c_reads,rfl,l_reads,g_reads⟩,⟨_,_,rfl,⟨A_puts,c_puts,rfl,l_puts,g_puts⟩,rfl⟩⟩⟩⟩⟩:=h;exact ⟨A_reads,c_reads,A_puts,c_puts,rfl,l_reads,g_reads,l_puts,g_puts⟩
def kSysL:Kd Sys:=Kd.iso (Kd.pair (Kd.slice 139 kCellL) (Kd.pair (Kd.slice 133 kTaskL) (Kd.pair (Kd.int .i64) (Kd.slice 136 kEntryL)))) (fun x:Sys=>(x.cells,x.tasks,x.clock,x.log))
theorem kSysL_open {w:World} {x:Sys} {cs:List Value} (h:kSysL.K w x cs):∃ A_cells c_cells A_tasks c_tasks A_log c_log,cs= [.slice A_cells x.cells.length c_cells,.slice A_tasks x.tasks.length c_tasks,.int .i64 x.clock,.slice A_log x.log.length c_log]/\x.cells.length<=c_cells/\kCellL.C w A_cells x.cells.length x.cells/\x.tasks.length<=c_tasks/\kTaskL.C w A_tasks x.tasks.length x.tasks/\x.log.length<=c_log/\kEntryL.C w A_log x.log.length x.log:=by
 obtain ⟨_,_,rfl,⟨A_cells,c_cells,rfl,l_cells,g_cells⟩,⟨_,_,rfl,⟨A_tasks,c_tasks,rfl,l_tasks,g_tasks⟩,⟨_,_,rfl,rfl,⟨A_log,c_log,rfl,l_log,g_log⟩⟩⟩⟩:=h;exact ⟨A_cells,c_cells,A_tasks,c_tasks,A_log,c_log,rfl,l_cells,g_cells,l_tasks,g_tasks,l_log,g_log⟩
end Go.Proofs.Ytimamoimphjakaa.Eq
namespace Go.Proofs.Ytimamoimphjakaa.Eq
open Go.RowKit Go.Proofs.YtimamoimphjakaaW.PrintWords Go.Proofs.YtimamoimphjakaaW.PrintLast Go.Proofs.YtimamoimphjakaaW.PrintMore
def Sz (left:Int) (n:Nat) (r:Int):Prop:=((n:Int)<=left/\r=left - n)\/(left < n/\r= -1)
def szT (x:Task):Nat:=x.regs.length+x.old.length+x.reads.length+x.puts.length
def szE (x:Entry):Nat:=x.reads.length+x.puts.length
def sumOf {α:Type} (f:α->Nat) (l:List α):Nat:=(l.map f).sum
theorem sumOf_take {α:Type} (f:α->Nat) (l:List α) (k:Nat) (z:α) (h:k < l.length):sumOf f (l.take (k+1))=sumOf f (l.take k)+f (l.getD k z):=by
 unfold sumOf;rw [List.take_succ_eq_append_getElem h,List.map_append,List.sum_append];simp [List.getD_eq_getElem?_getD,List.getElem?_eq_getElem h]
theorem sumOf_le {α:Type} (f:α->Nat) (l:List α) (k:Nat):sumOf f (l.take k)<=sumOf f l:=by
 unfold sumOf
 conv=>(rhs;rw [<-List.take_append_drop k l])
 rw [List.map_append,List.sum_append];omega
theorem szIntS_calls (n c:Nat) (A:Option Addr) (left:Int) (w:World) (h0:0<=left) (h1:left<=1048576) (hn:n<=9223372036854775807):
  Calls Try.prog 69 #[.slice A n c,.int .i64 left] w fun e w'=>∃ r,e= .returned (.int .i64 r)/\Sz left n r/\w=w':=by
 go_enter Try.func69,Try.ntmps69;go_wp2
 all_goals (go_ret;exact ⟨_,rfl,by unfold Sz;omega,rfl⟩)
theorem szPutS_calls (n c:Nat) (A:Option Addr) (left:Int) (w:World) (h0:0<=left) (h1:left<=1048576) (hn:n<=9223372036854775807):
  Calls Try.prog 130 #[.slice A n c,.int .i64 left] w fun e w'=>∃ r,e= .returned (.int .i64 r)/\Sz left n r/\w=w':=by
 go_enter Try.func130,Try.ntmps130;go_wp2
 all_goals (go_ret;exact ⟨_,rfl,by unfold Sz;omega,rfl⟩)
theorem szCellS_calls (n c:Nat) (A:Option Addr) (left:Int) (w:World) (h0:0<=left) (h1:left<=1048576) (hn:n<=9223372036854775807):
  Calls Try.prog 71 #[.slice A n c,.int .i64 left] w fun e w'=>∃ r,e= .returned (.int .i64 r)/\Sz left n r/\w=w':=by
 go_enter Try.func71,Try.ntmps71;go_wp2
 all_goals (go_ret;exact ⟨_,rfl,by unfold Sz;omega,rfl⟩)
theorem szTask_calls (x:Task) (cs:List Value) (left:Int) (w:World) (hx:kTaskL.K w x cs) (h0:0<=left) (h1:left<=1048576):
  Calls Try.prog 107 #[.agg cs.toArray,.int .i64 left] w fun e w'=>∃ r,e= .returned (.int .i64 r)/\Sz left (szT x) r/\Below w.heap.size w w':=by
 obtain ⟨A3,c3,A8,c8,A9,c9,A10,c10,rfl,l3,g3,l8,g8,l9,g9,l10,g10⟩:=kTaskL_open hx;have m3:=Kd.C_max g3;have m8:=Kd.C_max g8;have m9:=Kd.C_max g9;have m10:=Kd.C_max g10;clear g3 g8 g9 g10 l3 l8 l9 l10 hx;go_enter Try.func107,Try.ntmps107
 go_wp2_with (first
 |(go_at_call 69;refine (szIntS_calls _ _ _ _ _ (by first|omega|(unfold Sz at *;omega)) (by first|omega|(unfold Sz at *;omega)) (by assumption)).mono ?_;rintro e w1 ⟨r,rfl,hs,rfl⟩)
 |(go_at_call 130;refine (szPutS_calls _ _ _ _ _ (by first|omega|(unfold Sz at *;omega)) (by first|omega|(unfold Sz at *;omega)) (by assumption)).mono ?_;rintro e w1 ⟨r,rfl,hs,rfl⟩))
 all_goals (go_ret;exact ⟨_,rfl,by unfold Sz szT at *;omega,by repeat (first|exact Below.refl _ _ | apply below_alloc)⟩)
theorem szEntry_calls (x:Entry) (cs:List Value) (left:Int) (w:World) (hx:kEntryL.K w x cs) (h0:0<=left) (h1:left<=1048576):
  Calls Try.prog 108 #[.agg cs.toArray,.int .i64 left] w fun e w'=>∃ r,e= .returned (.int .i64 r)/\Sz left (szE x) r/\Below w.heap.size w w':=by
 obtain ⟨A3,c3,A8,c8,rfl,l3,g3,l8,g8⟩:=kEntryL_open hx;have m3:=Kd.C_max g3;have m8:=Kd.C_max g8;clear g3 g8 l3 l8 hx;go_enter Try.func108,Try.ntmps108
 go_wp2_with (first
 |(go_at_call 130;refine (szPutS_calls _ _ _ _ _ (by first|omega|(unfold Sz at *;omega)) (by first|omega|(unfold Sz at *;omega)) (by assumption)).mono ?_;rintro e w1 ⟨r,rfl,hs,rfl⟩))
 all_goals (go_ret;exact ⟨_,rfl,by unfold Sz szE at *;omega,by repeat (first|exact Below.refl _ _ | apply below_alloc)⟩)
theorem szTaskS_calls (xs:List Task) (A:Option Addr) (c:Nat) (left:Int) (w:World) (hx:kTaskL.C w A xs.length xs) (h0:0<=left) (h1:left<=1048576):
  Calls Try.prog 72 #[.slice A xs.length c,.int .i64 left] w fun e w'=>∃ r,e= .returned (.int .i64 r)/\Sz left (xs.length+sumOf szT xs) r/\Below w.heap.size w w':=by
 have hm:=Kd.C_max hx;have HX:=am hx;clear hx;go_enter Try.func72,Try.ntmps72;by_cases h:left < xs.length
 ·have hb:decide (left - (xs.length:Int) < 0)=true:=decide_eq_true (by omega)
  go_wp2;go_ret;exact ⟨_,rfl,by unfold Sz;omega,Below.refl _ _⟩
 ·have hb:decide (left - (xs.length:Int) < 0)=false:=decide_eq_false (by omega)
  go_wp2;go_loopw [1,5] (fun l v w'=>∃ (k:Nat) (r:Int),k<=xs.length/\v= .int .i64 k/\l= .int .i64 r/\0<=r/\r<=1048576/\Aside0 (r=left - xs.length - sumOf szT (xs.take k))/\Aside0 (Below w.heap.size w w')) (fun _ v _=>xs.length - (intOf v).toNat)
  case atStart=>exact ⟨0,_,Nat.zero_le _,rfl,rfl,by omega,by omega,⟨by simp [sumOf]⟩,⟨Below.refl _ _⟩⟩
  case round=>
   obtain ⟨k,r,hk,rfl,rfl,hr0,hr1,HR,HB⟩:=hrel;by_cases hlt:k < xs.length
   ·obtain ⟨ad,cs,rfl,hcl,hK,hcc⟩:=Kd.C_get (Kd.C_below HX.out HB.out) zTask (k:Int) (by omega) (by omega)
    have q0:(0:Int)<=(k:Int):=by omega
    have q1:(k:Int) < (xs.length:Int):=by omega
    simp only [Int.toNat_natCast] at hK hcc;have HK:=am hK;have HCC:=am hcc;clear hK hcc;have HT:=am (sumOf_take szT xs k zTask hlt)
    go_wp2_with (first
    |((with_reducible refine gate_dst (N:=21) rfl ?_);refine load_struct rfl 133 (.tmp 20) rfl ad (k*13) rfl cs _ HCC.out (by rw [hcl];decide) Try.underlying133 rfl (by rw [hcl];kernel_rfl) ?_)
    |(go_at_call 107;refine (szTask_calls _ _ _ _ HK.out (by omega) (by omega)).mono ?_;rintro e w1 ⟨r1,rfl,hs,hb⟩;have HB1:=am (below_step HB.out hb);clear HB hb))
    ·go_ret
     have hle:=sumOf_le szT xs (k+1);exact ⟨_,rfl,by have:=HR.out;have:=HT.out;unfold Sz at *;omega,HB1.out⟩
    ·go_roundw
     case rel=>exact ⟨k+1,r1,by omega,by go_num,rfl,by omega,by unfold Sz at *;omega,⟨by have:=HR.out;have:=HT.out;unfold Sz at *;omega⟩,HB1⟩
     case measure=>simp [intOf];omega
   ·go_wp2
    go_ret;obtain rfl:k=xs.length:=by omega
    exact ⟨_,rfl,by have:=HR.out;rw [List.take_length] at this;unfold Sz;omega,HB.out⟩
theorem szEntryS_calls (xs:List Entry) (A:Option Addr) (c:Nat) (left:Int) (w:World) (hx:kEntryL.C w A xs.length xs) (h0:0<=left) (h1:left<=1048576):
  Calls Try.prog 73 #[.slice A xs.length c,.int .i64 left] w fun e w'=>∃ r,e= .returned (.int .i64 r)/\Sz left (xs.length+sumOf szE xs) r/\Below w.heap.size w w':=by
 have hm:=Kd.C_max hx;have HX:=am hx;clear hx;go_enter Try.func73,Try.ntmps73;by_cases h:left < xs.length
 ·have hb:decide (left - (xs.length:Int) < 0)=true:=decide_eq_true (by omega)
  go_wp2;go_ret;exact ⟨_,rfl,by unfold Sz;omega,Below.refl _ _⟩
 ·have hb:decide (left - (xs.length:Int) < 0)=false:=decide_eq_false (by omega)
  go_wp2;go_loopw [1,5] (fun l v w'=>∃ (k:Nat) (r:Int),k<=xs.length/\v= .int .i64 k/\l= .int .i64 r/\0<=r/\r<=1048576/\Aside0 (r=left - xs.length - sumOf szE (xs.take k))/\Aside0 (Below w.heap.size w w')) (fun _ v _=>xs.length - (intOf v).toNat)
  case atStart=>exact ⟨0,_,Nat.zero_le _,rfl,rfl,by omega,by omega,⟨by simp [sumOf]⟩,⟨Below.refl _ _⟩⟩
  case round=>
   obtain ⟨k,r,hk,rfl,rfl,hr0,hr1,HR,HB⟩:=hrel;by_cases hlt:k < xs.length
   ·obtain ⟨ad,cs,rfl,hcl,hK,hcc⟩:=Kd.C_get (Kd.C_below HX.out HB.out) zEntry (k:Int) (by omega) (by omega)
    have q0:(0:Int)<=(k:Int):=by omega
    have q1:(k:Int) < (xs.length:Int):=by omega
    simp only [Int.toNat_natCast] at hK hcc;have HK:=am hK;have HCC:=am hcc;clear hK hcc;have HT:=am (sumOf_take szE xs k zEntry hlt)
    go_wp2_with (first
    |((with_reducible refine gate_dst (N:=21) rfl ?_);refine load_struct rfl 136 (.tmp 20) rfl ad (k*6) rfl cs _ HCC.out (by rw [hcl];decide) Try.underlying136 rfl (by rw [hcl];kernel_rfl) ?_)
    |(go_at_call 108;refine (szEntry_calls _ _ _ _ HK.out (by omega) (by omega)).mono ?_;rintro e w1 ⟨r1,rfl,hs,hb⟩;have HB1:=am (below_step HB.out hb);clear HB hb))
    ·go_ret
     have hle:=sumOf_le szE xs (k+1);exact ⟨_,rfl,by have:=HR.out;have:=HT.out;unfold Sz at *;omega,HB1.out⟩
    ·go_roundw
     case rel=>exact ⟨k+1,r1,by omega,by go_num,rfl,by omega,by unfold Sz at *;omega,⟨by have:=HR.out;have:=HT.out;unfold Sz at *;omega⟩,HB1⟩
     case measure=>simp [intOf];omega
   ·go_wp2
    go_ret;obtain rfl:k=xs.length:=by omega
    exact ⟨_,rfl,by have:=HR.out;rw [List.take_length] at this;unfold Sz;omega,HB.out⟩
def szS (s:Sys):Nat:=s.cells.length+(s.tasks.length+sumOf szT s.tasks)+(s.log.length+sumOf szE s.log)
theorem szSys_calls (x:Sys) (cs:List Value) (left:Int) (w:World) (hx:kSysL.K w x cs) (h0:0<=left) (h1:left<=1048576):
  Calls Try.prog 40 #[.agg cs.toArray,.int .i64 left] w fun e w'=>∃ r,e= .returned (.int .i64 r)/\Sz left (szS x) r/\Below w.heap.size w w':=by
 obtain ⟨A0,c0,A1,c1,A3,c3,rfl,l0,g0,l1,g1,l3,g3⟩:=kSysL_open hx;have m0:=Kd.C_max g0;have HB:=am (Below.refl w.heap.size w);have G:=am (And.intro g1 g3);clear g0 g1 g3 l0 l1 l3 hx;go_enter Try.func40,Try.ntmps40
 go_wp2_with (first
 |(go_at_call 71;refine (szCellS_calls _ _ _ _ _ (by omega) (by omega) (by assumption)).mono ?_;rintro e w1 ⟨r,rfl,hs,rfl⟩)
 |(go_at_call 72;refine (szTaskS_calls _ _ _ _ _ ?h1 (by omega) (by unfold Sz at *;omega)).mono ?_;(case h1=>exact Kd.C_below G.out.1 (by repeat (first|with_reducible exact HB.out | apply below_alloc)));rintro e w1 ⟨r,rfl,hs1,hb⟩;replace HB:=am (below_step (by repeat (first|with_reducible exact HB.out | apply below_alloc)) hb);have hz:=bsize hb;(try simp at hz);have q0:w.heap.size < w1.heap.size:=(by omega);clear hz;obtain ⟨hc,hf⟩:=bcell hb;clear hb)
 |(go_at_call 73;refine (szEntryS_calls _ _ _ _ _ ?h1 (by omega) (by unfold Sz at *;omega)).mono ?_;(case h1=>exact Kd.C_below G.out.2 (by repeat (first|with_reducible exact HB.out | apply below_alloc)));rintro e w1 ⟨r,rfl,hs2,hb⟩;replace HB:=am (below_step (by repeat (first|with_reducible exact HB.out | apply below_alloc)) hb);clear hb))
 all_goals (go_ret;exact ⟨_,rfl,by unfold Sz szS at *;omega,by repeat (first|with_reducible exact HB.out | apply below_alloc)⟩)
theorem info_int:(Try.prog.info? 3).map (fun i=>(i.zero,i.size,i.bytes))=some (some (.int .i64 0),1,8):=by kernel_rfl
def upTo {α:Type} (xs:List α) (z:α) (k:Nat):List α:=xs.take k ++ List.replicate (xs.length - k) z
theorem upTo_zero {α:Type} (xs:List α) (z:α):upTo xs z 0=List.replicate xs.length z:=by simp [upTo]
theorem upTo_all {α:Type} (xs:List α) (z:α):upTo xs z xs.length=xs:=by simp [upTo]
theorem upTo_length {α:Type} (xs:List α) (z:α) {k:Nat} (h:k<=xs.length):(upTo xs z k).length=xs.length:=by simp [upTo];omega
theorem upTo_set {α:Type} (xs:List α) (z:α) {k:Nat} (h:k < xs.length):(upTo xs z k).set k (xs.getD k z)=upTo xs z (k+1):=by
 unfold upTo;obtain ⟨m,hm⟩:∃ m,xs.length - k=m+1:=⟨xs.length - k - 1,by omega⟩;rw [List.set_append_right _ _ (by rw [List.length_take];omega),hm,show xs.length - (k+1)=m by omega,List.replicate_succ,List.length_take,Nat.min_eq_left (by omega),Nat.sub_self,List.take_succ_eq_append_getElem h];simp only [List.set_cons_zero,List.append_assoc,List.singleton_append,List.getD_eq_getElem?_getD,List.getElem?_eq_getElem h,Option.getD_some]
theorem toIntS_calls (xs:List Int) (A:Option Addr) (c:Nat) (w:World) (hx:(Kd.int .i64).C w A xs.length xs) (hn:xs.length<=1048576):
  Calls Try.prog 74 #[.slice A xs.length c] w fun e w'=>∃ v,e= .returned v/\(Kd.int .i64).R 3 w' w.heap.size (fun _=>True) v xs/\Below w.heap.size w w':=by
 have HX:=am hx;clear hx;go_enter Try.func74,Try.ntmps74;go_wp2_with ((with_reducible refine gate_dst (N:=7) rfl ?_);refine Kd.R_make (w0:=w) (Kd.int .i64) w.heap.size 3 rfl (N:=7) rfl 29 _ _ rfl (xs.length:Int) rfl rfl Try.underlying29 (.int .i64 0) 8 info_int rfl (by decide) (by omega) 0 (ok:=fun _=>True) (okp:=fun _=>True) rfl (fun _ hk=>hk) trivial (by omega) (by omega) (Below.refl _ _) (Nat.le_refl _) ?_;intro v w1 ho hb _ _;have HO:=am ho;have HB:=am hb;clear ho hb)
 go_loopw [4] (fun i w'=>∃ k:Nat,k<=xs.length/\i= .int .i64 k/\Aside0 ((Kd.int .i64).R 3 w' w.heap.size (fun _=>True) v (upTo xs 0 k))/\Aside0 (Below w.heap.size w w')) (fun i _=>xs.length - (intOf i).toNat)
 case atStart=>exact ⟨0,Nat.zero_le _,rfl,⟨by rw [upTo_zero];simpa using HO.out⟩,HB⟩
 case round=>
  clear HO HB;obtain ⟨k,hk,rfl,HO,HB⟩:=hrel;by_cases hlt:k < xs.length
  ·have hl:=upTo_length xs 0 hk
   have HS:=am (upTo_set xs 0 hlt);have q0:(0:Int)<=(k:Int):=by omega
   have q1:(k:Int) < (xs.length:Int):=by omega
   obtain ⟨ad,rfl,gx⟩:=Kd.at_int (Kd.C_below HX.out HB.out) (k:Int) q0 q1;obtain ⟨g,cap,rfl,hg1,hg2,hg3⟩:=Kd.R_form HO.out (by omega);obtain ⟨hc,hf⟩:=Kd.R_celln 0 HO.out (k:Int) q0 (by rw [hl];exact q1);obtain ⟨hp,hgr⟩:=Kd.R_putg HO.out (k:Int) (rd xs k);have HB2:=am (below_set (j:=(k:Int).toNat) (v:=.int .i64 (rd xs k)) HB.out hg1);simp only [Int.toNat_natCast] at gx hc hf hp HB2;have HP:=am hp;clear hp hgr hg3 HB;rw [hl] at*;go_wp2;go_roundw
   case rel=>exact ⟨k+1,by omega,by go_num,⟨by have h:=HP.out;rw [show rd xs (k:Int)=xs.getD k 0 from rfl,HS.out] at h;exact h⟩,HB2⟩
   case measure=>simp [intOf];omega
  ·go_wp2
   go_ret;obtain rfl:k=xs.length:=by omega
   exact ⟨_,rfl,by rw [upTo_all] at HO;exact HO.out,HB.out⟩
theorem toPut_calls (x:Put) (cs:List Value) (w:World) (hx:kPutL.K w x cs):
  Calls Try.prog 147 #[.agg cs.toArray] w fun e w'=>∃ ds,e= .returned (.agg ds.toArray)/\kPut.M w' w.heap.size (fun _=>True) x ds/\Below w.heap.size w w':=by
 obtain rfl:=kPutL_open hx;go_enter Try.func147,Try.ntmps147;go_wp2;refine bodyPost_ret (v:=.agg #[.int .i64 x.cell,.int .i64 x.num]) (by simp [results,Try.results147,go_sem]) rfl ⟨_,rfl,kPut_mkM x, ?_⟩;repeat (first|exact Below.refl _ _ | refine below_alloc ?_ _)
theorem toCell_calls (x:Cell) (cs:List Value) (w:World) (hx:kCellL.K w x cs):
  Calls Try.prog 110 #[.agg cs.toArray] w fun e w'=>∃ ds,e= .returned (.agg ds.toArray)/\kCell.M w' w.heap.size (fun _=>True) x ds/\Below w.heap.size w w':=by
 obtain rfl:=kCellL_open hx;go_enter Try.func110,Try.ntmps110;go_wp2;refine bodyPost_ret (v:=.agg #[.int .i64 x.num,.int .i64 x.time,.int .i64 x.lock]) (by simp [results,Try.results110,go_sem]) rfl ⟨_,rfl,kCell_mkM x, ?_⟩;repeat (first|exact Below.refl _ _ | refine below_alloc ?_ _)
theorem kPut_zero (w:World) (base:Nat) (ok:Nat->Prop):kPut.M w base ok zPut [.int .i64 0,.int .i64 0]:=kPut_mkM zPut
theorem kCell_zero (w:World) (base:Nat) (ok:Nat->Prop):kCell.M w base ok zCell [.int .i64 0,.int .i64 0,.int .i64 0]:=kCell_mkM zCell
theorem kEntry_zero (w:World) (base:Nat) (ok:Nat->Prop):kEntry.M w base ok zEntry [.int .i64 0,.int .i64 0,.int .i64 0,.slice none 0 0,.slice none 0 0,.int .i64 0]:=kEntry_mkM zEntry (Kd.R_nil _ _ _ _ _) (Kd.R_nil _ _ _ _ _)
theorem kTask_zero (w:World) (base:Nat) (ok:Nat->Prop):kTask.M w base ok zTask [.int .i64 0,.int .i64 0,.int .i64 0,.slice none 0 0,.int .i64 0,.int .i64 0,.int .i64 0,.int .i64 0,.slice none 0 0,.slice none 0 0,.slice none 0 0,.int .i64 0,.int .i64 0]:=kTask_mkM zTask (Kd.R_nil _ _ _ _ _) (Kd.R_nil _ _ _ _ _) (Kd.R_nil _ _ _ _ _) (Kd.R_nil _ _ _ _ _)
theorem M_all {α:Type} {d:Kd α} {w w1:World} {base:Nat} {ok:Nat->Prop} {x:α} {ds ce:List Value} {g:Nat} (hce:ce.length<=ds.length) (hlow:base<=w.heap.size) (hg:g < w.heap.size) (h:d.M w1 w.heap.size ok x ds):d.M w1 base (fun k=>g < k) x (ce.take 0 ++ ds ++ ce.drop (0+ds.length)):=by
 rw [List.drop_eq_nil_of_le (by omega),List.take_zero,List.nil_append,List.append_nil];exact d.M_lower hlow (d.M_mono (fun k hk=>Nat.lt_of_lt_of_le hg hk.2.1) (d.M_bound h))
theorem toPutS_calls (xs:List Put) (A:Option Addr) (c:Nat) (w:World) (hx:kPutL.C w A xs.length xs) (hn:xs.length<=1048576):
  Calls Try.prog 132 #[.slice A xs.length c] w fun e w'=>∃ v,e= .returned v/\kPut.R 103 w' w.heap.size (fun _=>True) v xs/\Below w.heap.size w w':=by
 have HX:=am hx;clear hx;go_enter Try.func132,Try.ntmps132;go_wp2_with ((with_reducible refine gate_dst (N:=7) rfl ?_);refine Kd.R_make (w0:=w) kPut w.heap.size 103 rfl (N:=7) rfl 36 _ _ rfl (xs.length:Int) rfl rfl Try.underlying36 (.agg #[.int .i64 0,.int .i64 0]) 16 (by kernel_rfl) rfl (by decide) (by omega) zPut (ok:=fun _=>True) (okp:=fun _=>True) (kPut_zero _ _ _) (fun _ hk=>hk) trivial (by omega) (by omega) (Below.refl _ _) (Nat.le_refl _) ?_;intro v w1 ho hb _ _;have HO:=am ho;have HB:=am hb;clear ho hb)
 go_loopw [4] (fun i w'=>∃ k:Nat,k<=xs.length/\i= .int .i64 k/\Aside0 (kPut.R 103 w' w.heap.size (fun _=>True) v (upTo xs zPut k))/\Aside0 (Below w.heap.size w w')) (fun i _=>xs.length - (intOf i).toNat)
 case atStart=>exact ⟨0,Nat.zero_le _,rfl,⟨by rw [upTo_zero];simpa using HO.out⟩,HB⟩
 case round=>
  clear HO HB;obtain ⟨k,hk,rfl,HO,HB⟩:=hrel;by_cases hlt:k < xs.length
  ·have hl:=upTo_length xs zPut hk
   have HS:=am (upTo_set xs zPut hlt);have q0:(0:Int)<=(k:Int):=by omega
   have q1:(k:Int) < (xs.length:Int):=by omega
   obtain ⟨ad,cs,rfl,hcl,hK,hcc⟩:=Kd.C_get (Kd.C_below HX.out HB.out) zPut (k:Int) q0 q1;obtain ⟨g,cap,rfl,hg1,hg2,hg3⟩:=Kd.R_form HO.out (by omega);rw [hl] at*;simp only [Int.toNat_natCast] at hK hcc;have HK:=am hK;have HCC:=am hcc;clear hK hcc hg3
   go_wp2_with (first
   |((with_reducible refine gate_dst (N:=19) rfl ?_);refine load_struct rfl 188 (.tmp 18) rfl ad (k*2) rfl cs _ HCC.out (by rw [hcl];decide) Try.underlying188 rfl (by rw [hcl];kernel_rfl) ?_)
   |(go_at_call 147;refine (toPut_calls _ _ _ HK.out).mono ?_;rintro e w1 ⟨ds,rfl,hm,hb⟩;have HM:=am hm;have HO2:=am (Kd.R_below HO.out hb);have HB2:=am (below_step HB.out hb);clear hm hb HO HB)
   |((with_reducible refine gate_store (t:=103) (p:=21) rfl ?_);obtain ⟨ce,hce,_,hcc2,_⟩:=Kd.R_elem HO2.out zPut (k:Int) q0 q1;have hdl:=kPut.K_len (kPut.K_of_M HM.out);refine Kd.R_store (w0:=w) kPut w.heap.size rfl rfl 103 (.tmp 21) (.tmp 20) rfl 103 (k:Int) 0 (upTo xs zPut k) (xs.getD k zPut) (.agg ds.toArray) ds ce (fun _=>True) (fun k'=>g < k') rfl (by simp;rfl) rfl rfl (by rw [hdl];kernel_rfl) (kPut.K_one (kPut.K_of_M HM.out)) HO2.out q0 q1 hce hcc2 (by rw [hdl];exact Nat.le_refl _) (M_all (by rw [hce,hdl];exact Nat.le_refl _) (by omega) (by omega) HM.out) (fun k' hk'=>⟨trivial,Nat.ne_of_gt hk'⟩) HB2.out ?_;intro w2 ho hb hgr;simp only [Int.toNat_natCast] at ho;rw [HS.out] at ho;have HO3:=am ho;have HB3:=am hb;clear ho hb hgr))
   go_roundw
   case rel=>exact ⟨k+1,by omega,by go_num,HO3,HB3⟩
   case measure=>simp [intOf];omega
  ·go_wp2
   go_ret;obtain rfl:k=xs.length:=by omega
   exact ⟨_,rfl,by rw [upTo_all] at HO;exact HO.out,HB.out⟩
theorem toCellS_calls (xs:List Cell) (A:Option Addr) (c:Nat) (w:World) (hx:kCellL.C w A xs.length xs) (hn:xs.length<=1048576):
  Calls Try.prog 76 #[.slice A xs.length c] w fun e w'=>∃ v,e= .returned v/\kCell.R 53 w' w.heap.size (fun _=>True) v xs/\Below w.heap.size w w':=by
 have HX:=am hx;clear hx;go_enter Try.func76,Try.ntmps76;go_wp2_with ((with_reducible refine gate_dst (N:=7) rfl ?_);refine Kd.R_make (w0:=w) kCell w.heap.size 53 rfl (N:=7) rfl 23 _ _ rfl (xs.length:Int) rfl rfl Try.underlying23 (.agg #[.int .i64 0,.int .i64 0,.int .i64 0]) 24 (by kernel_rfl) rfl (by decide) (by omega) zCell (ok:=fun _=>True) (okp:=fun _=>True) (kCell_zero _ _ _) (fun _ hk=>hk) trivial (by omega) (by omega) (Below.refl _ _) (Nat.le_refl _) ?_;intro v w1 ho hb _ _;have HO:=am ho;have HB:=am hb;clear ho hb)
 go_loopw [4] (fun i w'=>∃ k:Nat,k<=xs.length/\i= .int .i64 k/\Aside0 (kCell.R 53 w' w.heap.size (fun _=>True) v (upTo xs zCell k))/\Aside0 (Below w.heap.size w w')) (fun i _=>xs.length - (intOf i).toNat)
 case atStart=>exact ⟨0,Nat.zero_le _,rfl,⟨by rw [upTo_zero];simpa using HO.out⟩,HB⟩
 case round=>
  clear HO HB;obtain ⟨k,hk,rfl,HO,HB⟩:=hrel;by_cases hlt:k < xs.length
  ·have hl:=upTo_length xs zCell hk
   have HS:=am (upTo_set xs zCell hlt);have q0:(0:Int)<=(k:Int):=by omega
   have q1:(k:Int) < (xs.length:Int):=by omega
   obtain ⟨ad,cs,rfl,hcl,hK,hcc⟩:=Kd.C_get (Kd.C_below HX.out HB.out) zCell (k:Int) q0 q1;obtain ⟨g,cap,rfl,hg1,hg2,hg3⟩:=Kd.R_form HO.out (by omega);rw [hl] at*;simp only [Int.toNat_natCast] at hK hcc;have HK:=am hK;have HCC:=am hcc;clear hK hcc hg3
   go_wp2_with (first
   |((with_reducible refine gate_dst (N:=19) rfl ?_);refine load_struct rfl 139 (.tmp 18) rfl ad (k*3) rfl cs _ HCC.out (by rw [hcl];decide) Try.underlying139 rfl (by rw [hcl];kernel_rfl) ?_)
   |(go_at_call 110;refine (toCell_calls _ _ _ HK.out).mono ?_;rintro e w1 ⟨ds,rfl,hm,hb⟩;have HM:=am hm;have HO2:=am (Kd.R_below HO.out hb);have HB2:=am (below_step HB.out hb);clear hm hb HO HB)
   |((with_reducible refine gate_store (t:=53) (p:=21) rfl ?_);obtain ⟨ce,hce,_,hcc2,_⟩:=Kd.R_elem HO2.out zCell (k:Int) q0 q1;have hdl:=kCell.K_len (kCell.K_of_M HM.out);refine Kd.R_store (w0:=w) kCell w.heap.size rfl rfl 53 (.tmp 21) (.tmp 20) rfl 53 (k:Int) 0 (upTo xs zCell k) (xs.getD k zCell) (.agg ds.toArray) ds ce (fun _=>True) (fun k'=>g < k') rfl (by simp;rfl) rfl rfl (by rw [hdl];kernel_rfl) (kCell.K_one (kCell.K_of_M HM.out)) HO2.out q0 q1 hce hcc2 (by rw [hdl];exact Nat.le_refl _) (M_all (by rw [hce,hdl];exact Nat.le_refl _) (by omega) (by omega) HM.out) (fun k' hk'=>⟨trivial,Nat.ne_of_gt hk'⟩) HB2.out ?_;intro w2 ho hb hgr;simp only [Int.toNat_natCast] at ho;rw [HS.out] at ho;have HO3:=am ho;have HB3:=am hb;clear ho hb hgr))
   go_roundw
   case rel=>exact ⟨k+1,by omega,by go_num,HO3,HB3⟩
   case measure=>simp [intOf];omega
  ·go_wp2
   go_ret;obtain rfl:k=xs.length:=by omega
   exact ⟨_,rfl,by rw [upTo_all] at HO;exact HO.out,HB.out⟩
theorem toEntry_calls (x:Entry) (cs:List Value) (w:World) (hx:kEntryL.K w x cs) (hn:szE x<=1048576):
  Calls Try.prog 112 #[.agg cs.toArray] w fun e w'=>∃ ds,e= .returned (.agg ds.toArray)/\kEntry.M w' w.heap.size (fun _=>True) x ds/\Below w.heap.size w w':=by
 obtain ⟨A3,c3,A8,c8,rfl,l3,g3,l8,g8⟩:=kEntryL_open hx;unfold szE at hn;have G:=am (And.intro g3 g8);have HB:=am (Below.refl w.heap.size w);clear g3 g8 l3 l8 hx;go_enter Try.func112,Try.ntmps112;go_wp2_with fail
 refine (toPutS_calls _ _ _ _ ?h1 (by omega)).mono ?_
 case h1=>exact Kd.C_below (w:=w) G.out.1 (by repeat (first|with_reducible exact HB.out | with_reducible refine below_alloc ?_ _ | with_reducible refine below_set ?_ ?_ | omega))
 rintro e w3 ⟨v3,rfl,ho,hb⟩;obtain ⟨A3',c3',rfl⟩:=Kd.R_slice ho;have O3:=am (R_up (base:=w.heap.size) (n:=w.heap.size+2) ho (by simp <;> omega) (by simp <;> omega));have hz:=bsize hb;(try simp at hz);have q30:w.heap.size < w3.heap.size:=(by omega);have q31:w.heap.size+1 < w3.heap.size:=(by omega);have q32:w.heap.size+1+1 < w3.heap.size:=(by omega);obtain ⟨hc3,hf3⟩:=bcell hb;have HB1:=am (below_step (w:=w) (by repeat (first|with_reducible exact HB.out | with_reducible refine below_alloc ?_ _ | with_reducible refine below_set ?_ ?_ | omega)) hb);clear HB;have HB:=HB1;clear HB1 hb ho hz;go_wp2_with fail
 refine (toPutS_calls _ _ _ _ ?h1 (by omega)).mono ?_
 case h1=>exact Kd.C_below (w:=w) G.out.2 (by repeat (first|with_reducible exact HB.out | with_reducible refine below_alloc ?_ _ | with_reducible refine below_set ?_ ?_ | omega))
 rintro e w8 ⟨v8,rfl,ho,hb⟩;obtain ⟨A8',c8',rfl⟩:=Kd.R_slice ho;have O8:=am (R_up (base:=w.heap.size) (n:=w.heap.size+2) ho (by simp <;> omega) (by simp <;> omega));have P3:=am (Kd.R_below (show Kd.R kPut 103 _ w.heap.size (fun k=>w.heap.size+2 < k) (.slice A3' x.reads.length c3') x.reads from by repeat (first|with_reducible exact O3.out | with_reducible refine R_farN ?_ ?_ | omega)) hb);clear O3;have O3:=P3;clear P3;have hz:=bsize hb;(try simp at hz);have q80:w.heap.size < w8.heap.size:=(by omega);have q81:w.heap.size+1 < w8.heap.size:=(by omega);have q82:w.heap.size+1+1 < w8.heap.size:=(by omega);obtain ⟨hc8,hf8⟩:=bcell hb;have HB1:=am (below_step (w:=w) (by repeat (first|with_reducible exact HB.out | with_reducible refine below_alloc ?_ _ | with_reducible refine below_set ?_ ?_ | omega)) hb);clear HB;have HB:=HB1;clear HB1 hb ho hz;go_wp2_with fail
 refine bodyPost_ret (v:=.agg #[.int .i64 x.task,.int .i64 x.act,.int .i64 x.when_,.slice A3' x.reads.length c3',.slice A8' x.puts.length c8',.int .i64 x.from_]) (by simp [results,Try.results112,go_sem,hc3,hf3,q30,q31,q32,hc8,hf8,q80,q81,q82]) rfl ⟨_,rfl,kEntry_mkM x ?_ ?_,(by repeat (first|with_reducible exact HB.out | with_reducible refine below_alloc ?_ _ | with_reducible refine below_set ?_ ?_ | omega))⟩
 ·exact R_any (show Kd.R kPut 103 _ w.heap.size (fun k=>w.heap.size+2 < k) (.slice A3' x.reads.length c3') x.reads from by repeat (first|with_reducible exact O3.out | with_reducible refine R_farN ?_ ?_ | omega))
 ·exact R_any (show Kd.R kPut 103 _ w.heap.size (fun k=>w.heap.size+2 < k) (.slice A8' x.puts.length c8') x.puts from by repeat (first|with_reducible exact O8.out | with_reducible refine R_farN ?_ ?_ | omega))
theorem toTask_calls (x:Task) (cs:List Value) (w:World) (hx:kTaskL.K w x cs) (hn:szT x<=1048576):
  Calls Try.prog 111 #[.agg cs.toArray] w fun e w'=>∃ ds,e= .returned (.agg ds.toArray)/\kTask.M w' w.heap.size (fun _=>True) x ds/\Below w.heap.size w w':=by
 obtain ⟨A3,c3,A8,c8,A9,c9,A10,c10,rfl,l3,g3,l8,g8,l9,g9,l10,g10⟩:=kTaskL_open hx;unfold szT at hn;have G:=am (And.intro g3 (And.intro g8 (And.intro g9 g10)));have HB:=am (Below.refl w.heap.size w);clear g3 g8 g9 g10 l3 l8 l9 l10 hx;go_enter Try.func111,Try.ntmps111;go_wp2_with fail
 refine (toIntS_calls _ _ _ _ ?h1 (by omega)).mono ?_
 case h1=>exact Kd.C_below (w:=w) G.out.1 (by repeat (first|with_reducible exact HB.out | with_reducible refine below_alloc ?_ _ | with_reducible refine below_set ?_ ?_ | omega))
 rintro e w3 ⟨v3,rfl,ho,hb⟩;obtain ⟨A3',c3',rfl⟩:=Kd.R_slice ho;have O3:=am (R_up (base:=w.heap.size) (n:=w.heap.size+2) ho (by simp <;> omega) (by simp <;> omega));have hz:=bsize hb;(try simp at hz);have q30:w.heap.size < w3.heap.size:=(by omega);have q31:w.heap.size+1 < w3.heap.size:=(by omega);have q32:w.heap.size+1+1 < w3.heap.size:=(by omega);obtain ⟨hc3,hf3⟩:=bcell hb;have HB1:=am (below_step (w:=w) (by repeat (first|with_reducible exact HB.out | with_reducible refine below_alloc ?_ _ | with_reducible refine below_set ?_ ?_ | omega)) hb);clear HB;have HB:=HB1;clear HB1 hb ho hz;go_wp2_with fail
 refine (toIntS_calls _ _ _ _ ?h1 (by omega)).mono ?_
 case h1=>exact Kd.C_below (w:=w) G.out.2.1 (by repeat (first|with_reducible exact HB.out | with_reducible refine below_alloc ?_ _ | with_reducible refine below_set ?_ ?_ | omega))
 rintro e w8 ⟨v8,rfl,ho,hb⟩;obtain ⟨A8',c8',rfl⟩:=Kd.R_slice ho;have O8:=am (R_up (base:=w.heap.size) (n:=w.heap.size+2) ho (by simp <;> omega) (by simp <;> omega));have P3:=am (Kd.R_below (show Kd.R (Kd.int .i64) 3 _ w.heap.size (fun k=>w.heap.size+2 < k) (.slice A3' x.regs.length c3') x.regs from by repeat (first|with_reducible exact O3.out | with_reducible refine R_farN ?_ ?_ | omega)) hb);clear O3;have O3:=P3;clear P3;have hz:=bsize hb;(try simp at hz);have q80:w.heap.size < w8.heap.size:=(by omega);have q81:w.heap.size+1 < w8.heap.size:=(by omega);have q82:w.heap.size+1+1 < w8.heap.size:=(by omega);obtain ⟨hc8,hf8⟩:=bcell hb;have HB1:=am (below_step (w:=w) (by repeat (first|with_reducible exact HB.out | with_reducible refine below_alloc ?_ _ | with_reducible refine below_set ?_ ?_ | omega)) hb);clear HB;have HB:=HB1;clear HB1 hb ho hz;go_wp2_with fail
 refine (toPutS_calls _ _ _ _ ?h1 (by omega)).mono ?_
 case h1=>exact Kd.C_below (w:=w) G.out.2.2.1 (by repeat (first|with_reducible exact HB.out | with_reducible refine below_alloc ?_ _ | with_reducible refine below_set ?_ ?_ | omega))
 rintro e w9 ⟨v9,rfl,ho,hb⟩;obtain ⟨A9',c9',rfl⟩:=Kd.R_slice ho;have O9:=am (R_up (base:=w.heap.size) (n:=w.heap.size+2) ho (by simp <;> omega) (by simp <;> omega));have P3:=am (Kd.R_below (show Kd.R (Kd.int .i64) 3 _ w.heap.size (fun k=>w.heap.size+2 < k) (.slice A3' x.regs.length c3') x.regs from by repeat (first|with_reducible exact O3.out | with_reducible refine R_farN ?_ ?_ | omega)) hb);clear O3;have O3:=P3;clear P3;have P8:=am (Kd.R_below (show Kd.R (Kd.int .i64) 3 _ w.heap.size (fun k=>w.heap.size+2 < k) (.slice A8' x.old.length c8') x.old from by repeat (first|with_reducible exact O8.out | with_reducible refine R_farN ?_ ?_ | omega)) hb);clear O8;have O8:=P8;clear P8;have hz:=bsize hb;(try simp at hz);have q90:w.heap.size < w9.heap.size:=(by omega);have q91:w.heap.size+1 < w9.heap.size:=(by omega);have q92:w.heap.size+1+1 < w9.heap.size:=(by omega);obtain ⟨hc9,hf9⟩:=bcell hb;have HB1:=am (below_step (w:=w) (by repeat (first|with_reducible exact HB.out | with_reducible refine below_alloc ?_ _ | with_reducible refine below_set ?_ ?_ | omega)) hb);clear HB;have HB:=HB1;clear HB1 hb ho hz;go_wp2_with fail
 refine (toPutS_calls _ _ _ _ ?h1 (by omega)).mono ?_
 case h1=>exact Kd.C_below (w:=w) G.out.2.2.2 (by repeat (first|with_reducible exact HB.out | with_reducible refine below_alloc ?_ _ | with_reducible refine below_set ?_ ?_ | omega))
 rintro e w10 ⟨v10,rfl,ho,hb⟩;obtain ⟨A10',c10',rfl⟩:=Kd.R_slice ho;have O10:=am (R_up (base:=w.heap.size) (n:=w.heap.size+2) ho (by simp <;> omega) (by simp <;> omega));have P3:=am (Kd.R_below (show Kd.R (Kd.int .i64) 3 _ w.heap.size (fun k=>w.heap.size+2 < k) (.slice A3' x.regs.length c3') x.regs from by repeat (first|with_reducible exact O3.out | with_reducible refine R_farN ?_ ?_ | omega)) hb);clear O3;have O3:=P3;clear P3;have P8:=am (Kd.R_below (show Kd.R (Kd.int .i64) 3 _ w.heap.size (fun k=>w.heap.size+2 < k) (.slice A8' x.old.length c8') x.old from by repeat (first|with_reducible exact O8.out | with_reducible refine R_farN ?_ ?_ | omega)) hb);clear O8;have O8:=P8;clear P8;have P9:=am (Kd.R_below (show Kd.R kPut 103 _ w.heap.size (fun k=>w.heap.size+2 < k) (.slice A9' x.reads.length c9') x.reads from by repeat (first|with_reducible exact O9.out | with_reducible refine R_farN ?_ ?_ | omega)) hb);clear O9;have O9:=P9;clear P9;have hz:=bsize hb;(try simp at hz);have q100:w.heap.size < w10.heap.size:=(by omega);have q101:w.heap.size+1 < w10.heap.size:=(by omega);have q102:w.heap.size+1+1 < w10.heap.size:=(by omega);obtain ⟨hc10,hf10⟩:=bcell hb;have HB1:=am (below_step (w:=w) (by repeat (first|with_reducible exact HB.out | with_reducible refine below_alloc ?_ _ | with_reducible refine below_set ?_ ?_ | omega)) hb);clear HB;have HB:=HB1;clear HB1 hb ho hz;go_wp2_with fail
 refine bodyPost_ret (v:=.agg #[.int .i64 x.body,.int .i64 x.pc,.int .i64 x.up,.slice A3' x.regs.length c3',.int .i64 x.way,.int .i64 x.stage,.int .i64 x.at_,.int .i64 x.since,.slice A8' x.old.length c8',.slice A9' x.reads.length c9',.slice A10' x.puts.length c10',.int .i64 x.when_,.int .i64 x.from_]) (by simp [results,Try.results111,go_sem,hc3,hf3,q30,q31,q32,hc8,hf8,q80,q81,q82,hc9,hf9,q90,q91,q92,hc10,hf10,q100,q101,q102]) rfl ⟨_,rfl,kTask_mkM x ?_ ?_ ?_ ?_,(by repeat (first|with_reducible exact HB.out | with_reducible refine below_alloc ?_ _ | with_reducible refine below_set ?_ ?_ | omega))⟩
 ·exact R_any (show Kd.R (Kd.int .i64) 3 _ w.heap.size (fun k=>w.heap.size+2 < k) (.slice A3' x.regs.length c3') x.regs from by repeat (first|with_reducible exact O3.out | with_reducible refine R_farN ?_ ?_ | omega))
 ·exact R_any (show Kd.R (Kd.int .i64) 3 _ w.heap.size (fun k=>w.heap.size+2 < k) (.slice A8' x.old.length c8') x.old from by repeat (first|with_reducible exact O8.out | with_reducible refine R_farN ?_ ?_ | omega))
 ·exact R_any (show Kd.R kPut 103 _ w.heap.size (fun k=>w.heap.size+2 < k) (.slice A9' x.reads.length c9') x.reads from by repeat (first|with_reducible exact O9.out | with_reducible refine R_farN ?_ ?_ | omega))
 ·exact R_any (show Kd.R kPut 103 _ w.heap.size (fun k=>w.heap.size+2 < k) (.slice A10' x.puts.length c10') x.puts from by repeat (first|with_reducible exact O10.out | with_reducible refine R_farN ?_ ?_ | omega))
theorem toEntryS_calls (xs:List Entry) (A:Option Addr) (c:Nat) (w:World) (hx:kEntryL.C w A xs.length xs) (hn:xs.length<=1048576) (hs:sumOf szE xs<=1048576):
  Calls Try.prog 78 #[.slice A xs.length c] w fun e w'=>∃ v,e= .returned v/\kEntry.R 119 w' w.heap.size (fun _=>True) v xs/\Below w.heap.size w w':=by
 have HX:=am hx;clear hx;go_enter Try.func78,Try.ntmps78;go_wp2_with ((with_reducible refine gate_dst (N:=7) rfl ?_);refine Kd.R_make (w0:=w) kEntry w.heap.size 119 rfl (N:=7) rfl 25 _ _ rfl (xs.length:Int) rfl rfl Try.underlying25 (.agg #[.int .i64 0,.int .i64 0,.int .i64 0,.slice none 0 0,.slice none 0 0,.int .i64 0]) 80 (by kernel_rfl) rfl (by decide) (by omega) zEntry (ok:=fun _=>True) (okp:=fun _=>True) (kEntry_zero _ _ _) (fun _ hk=>hk) trivial (by omega) (by omega) (Below.refl _ _) (Nat.le_refl _) ?_;intro v w1 ho hb _ _;have HO:=am ho;have HB:=am hb;clear ho hb)
 go_loopw [4] (fun i w'=>∃ k:Nat,k<=xs.length/\i= .int .i64 k/\Aside0 (kEntry.R 119 w' w.heap.size (fun _=>True) v (upTo xs zEntry k))/\Aside0 (Below w.heap.size w w')) (fun i _=>xs.length - (intOf i).toNat)
 case atStart=>exact ⟨0,Nat.zero_le _,rfl,⟨by rw [upTo_zero];simpa using HO.out⟩,HB⟩
 case round=>
  clear HO HB;obtain ⟨k,hk,rfl,HO,HB⟩:=hrel;by_cases hlt:k < xs.length
  ·have hl:=upTo_length xs zEntry hk
   have HS:=am (upTo_set xs zEntry hlt);have q0:(0:Int)<=(k:Int):=by omega
   have q1:(k:Int) < (xs.length:Int):=by omega
   have hsz:szE (xs.getD k zEntry)<=1048576:=by have h1:=sumOf_take szE xs k zEntry hlt;have h2:=sumOf_le szE xs (k+1);omega
   obtain ⟨ad,cs,rfl,hcl,hK,hcc⟩:=Kd.C_get (Kd.C_below HX.out HB.out) zEntry (k:Int) q0 q1;obtain ⟨g,cap,rfl,hg1,hg2,hg3⟩:=Kd.R_form HO.out (by omega);rw [hl] at*;simp only [Int.toNat_natCast] at hK hcc;have HK:=am hK;have HCC:=am hcc;clear hK hcc hg3
   go_wp2_with (first
   |((with_reducible refine gate_dst (N:=19) rfl ?_);refine load_struct rfl 136 (.tmp 18) rfl ad (k*6) rfl cs _ HCC.out (by rw [hcl];decide) Try.underlying136 rfl (by rw [hcl];kernel_rfl) ?_)
   |(go_at_call 112;refine (toEntry_calls _ _ _ HK.out hsz).mono ?_;rintro e w1 ⟨ds,rfl,hm,hb⟩;have HM:=am hm;have HO2:=am (Kd.R_below HO.out hb);have HB2:=am (below_step HB.out hb);clear hm hb HO HB)
   |((with_reducible refine gate_store (t:=119) (p:=21) rfl ?_);obtain ⟨ce,hce,_,hcc2,_⟩:=Kd.R_elem HO2.out zEntry (k:Int) q0 q1;have hdl:=kEntry.K_len (kEntry.K_of_M HM.out);refine Kd.R_store (w0:=w) kEntry w.heap.size rfl rfl 119 (.tmp 21) (.tmp 20) rfl 119 (k:Int) 0 (upTo xs zEntry k) (xs.getD k zEntry) (.agg ds.toArray) ds ce (fun _=>True) (fun k'=>g < k') rfl (by simp;rfl) rfl rfl (by rw [hdl];kernel_rfl) (kEntry.K_one (kEntry.K_of_M HM.out)) HO2.out q0 q1 hce hcc2 (by rw [hdl];exact Nat.le_refl _) (M_all (by rw [hce,hdl];exact Nat.le_refl _) (by omega) (by omega) HM.out) (fun k' hk'=>⟨trivial,Nat.ne_of_gt hk'⟩) HB2.out ?_;intro w2 ho hb hgr;simp only [Int.toNat_natCast] at ho;rw [HS.out] at ho;have HO3:=am ho;have HB3:=am hb;clear ho hb hgr))
   go_roundw
   case rel=>exact ⟨k+1,by omega,by go_num,HO3,HB3⟩
   case measure=>simp [intOf];omega
  ·go_wp2
   go_ret;obtain rfl:k=xs.length:=by omega
   exact ⟨_,rfl,by rw [upTo_all] at HO;exact HO.out,HB.out⟩
theorem toTaskS_calls (xs:List Task) (A:Option Addr) (c:Nat) (w:World) (hx:kTaskL.C w A xs.length xs) (hn:xs.length<=1048576) (hs:sumOf szT xs<=1048576):
  Calls Try.prog 77 #[.slice A xs.length c] w fun e w'=>∃ v,e= .returned v/\kTask.R 38 w' w.heap.size (fun _=>True) v xs/\Below w.heap.size w w':=by
 have HX:=am hx;clear hx;go_enter Try.func77,Try.ntmps77;go_wp2_with ((with_reducible refine gate_dst (N:=7) rfl ?_);refine Kd.R_make (w0:=w) kTask w.heap.size 38 rfl (N:=7) rfl 24 _ _ rfl (xs.length:Int) rfl rfl Try.underlying24 (.agg #[.int .i64 0,.int .i64 0,.int .i64 0,.slice none 0 0,.int .i64 0,.int .i64 0,.int .i64 0,.int .i64 0,.slice none 0 0,.slice none 0 0,.slice none 0 0,.int .i64 0,.int .i64 0]) 168 (by kernel_rfl) rfl (by decide) (by omega) zTask (ok:=fun _=>True) (okp:=fun _=>True) (kTask_zero _ _ _) (fun _ hk=>hk) trivial (by omega) (by omega) (Below.refl _ _) (Nat.le_refl _) ?_;intro v w1 ho hb _ _;have HO:=am ho;have HB:=am hb;clear ho hb)
 go_loopw [4] (fun i w'=>∃ k:Nat,k<=xs.length/\i= .int .i64 k/\Aside0 (kTask.R 38 w' w.heap.size (fun _=>True) v (upTo xs zTask k))/\Aside0 (Below w.heap.size w w')) (fun i _=>xs.length - (intOf i).toNat)
 case atStart=>exact ⟨0,Nat.zero_le _,rfl,⟨by rw [upTo_zero];simpa using HO.out⟩,HB⟩
 case round=>
  clear HO HB;obtain ⟨k,hk,rfl,HO,HB⟩:=hrel;by_cases hlt:k < xs.length
  ·have hl:=upTo_length xs zTask hk
   have HS:=am (upTo_set xs zTask hlt);have q0:(0:Int)<=(k:Int):=by omega
   have q1:(k:Int) < (xs.length:Int):=by omega
   have hsz:szT (xs.getD k zTask)<=1048576:=by have h1:=sumOf_take szT xs k zTask hlt;have h2:=sumOf_le szT xs (k+1);omega
   obtain ⟨ad,cs,rfl,hcl,hK,hcc⟩:=Kd.C_get (Kd.C_below HX.out HB.out) zTask (k:Int) q0 q1;obtain ⟨g,cap,rfl,hg1,hg2,hg3⟩:=Kd.R_form HO.out (by omega);rw [hl] at*;simp only [Int.toNat_natCast] at hK hcc;have HK:=am hK;have HCC:=am hcc;clear hK hcc hg3
   go_wp2_with (first
   |((with_reducible refine gate_dst (N:=19) rfl ?_);refine load_struct rfl 133 (.tmp 18) rfl ad (k*13) rfl cs _ HCC.out (by rw [hcl];decide) Try.underlying133 rfl (by rw [hcl];kernel_rfl) ?_)
   |(go_at_call 111;refine (toTask_calls _ _ _ HK.out hsz).mono ?_;rintro e w1 ⟨ds,rfl,hm,hb⟩;have HM:=am hm;have HO2:=am (Kd.R_below HO.out hb);have HB2:=am (below_step HB.out hb);clear hm hb HO HB)
   |((with_reducible refine gate_store (t:=38) (p:=21) rfl ?_);obtain ⟨ce,hce,_,hcc2,_⟩:=Kd.R_elem HO2.out zTask (k:Int) q0 q1;have hdl:=kTask.K_len (kTask.K_of_M HM.out);refine Kd.R_store (w0:=w) kTask w.heap.size rfl rfl 38 (.tmp 21) (.tmp 20) rfl 38 (k:Int) 0 (upTo xs zTask k) (xs.getD k zTask) (.agg ds.toArray) ds ce (fun _=>True) (fun k'=>g < k') rfl (by simp;rfl) rfl rfl (by rw [hdl];kernel_rfl) (kTask.K_one (kTask.K_of_M HM.out)) HO2.out q0 q1 hce hcc2 (by rw [hdl];exact Nat.le_refl _) (M_all (by rw [hce,hdl];exact Nat.le_refl _) (by omega) (by omega) HM.out) (fun k' hk'=>⟨trivial,Nat.ne_of_gt hk'⟩) HB2.out ?_;intro w2 ho hb hgr;simp only [Int.toNat_natCast] at ho;rw [HS.out] at ho;have HO3:=am ho;have HB3:=am hb;clear ho hb hgr))
   go_roundw
   case rel=>exact ⟨k+1,by omega,by go_num,HO3,HB3⟩
   case measure=>simp [intOf];omega
  ·go_wp2
   go_ret;obtain rfl:k=xs.length:=by omega
   exact ⟨_,rfl,by rw [upTo_all] at HO;exact HO.out,HB.out⟩
theorem toSys_calls (x:Sys) (cs:List Value) (w:World) (hx:kSysL.K w x cs) (hn:szS x<=1048576):
  Calls Try.prog 42 #[.agg cs.toArray] w fun e w'=>∃ ds,e= .returned (.agg ds.toArray)/\kSys.M w' w.heap.size (fun _=>True) x ds/\Below w.heap.size w w':=by
 obtain ⟨A0,c0,A1,c1,A3,c3,rfl,l0,g0,l1,g1,l3,g3⟩:=kSysL_open hx;unfold szS at hn;have G:=am (And.intro g0 (And.intro g1 g3));have HB:=am (Below.refl w.heap.size w);clear g0 g1 g3 l0 l1 l3 hx;go_enter Try.func42,Try.ntmps42;go_wp2_with fail
 refine (toCellS_calls _ _ _ _ ?h1 (by omega)).mono ?_
 case h1=>exact Kd.C_below (w:=w) G.out.1 (by repeat (first|with_reducible exact HB.out | with_reducible refine below_alloc ?_ _ | with_reducible refine below_set ?_ ?_ | omega))
 rintro e w0 ⟨v0,rfl,ho,hb⟩;obtain ⟨A0',c0',rfl⟩:=Kd.R_slice ho;have O0:=am (R_up (base:=w.heap.size) (n:=w.heap.size+2) ho (by simp <;> omega) (by simp <;> omega));have hz:=bsize hb;(try simp at hz);have q00:w.heap.size < w0.heap.size:=(by omega);have q01:w.heap.size+1 < w0.heap.size:=(by omega);have q02:w.heap.size+1+1 < w0.heap.size:=(by omega);obtain ⟨hc0,hf0⟩:=bcell hb;have HB1:=am (below_step (w:=w) (by repeat (first|with_reducible exact HB.out | with_reducible refine below_alloc ?_ _ | with_reducible refine below_set ?_ ?_ | omega)) hb);clear HB;have HB:=HB1;clear HB1 hb ho hz;go_wp2_with fail
 refine (toTaskS_calls _ _ _ _ ?h1 (by omega) (by omega)).mono ?_
 case h1=>exact Kd.C_below (w:=w) G.out.2.1 (by repeat (first|with_reducible exact HB.out | with_reducible refine below_alloc ?_ _ | with_reducible refine below_set ?_ ?_ | omega))
 rintro e w1 ⟨v1,rfl,ho,hb⟩;obtain ⟨A1',c1',rfl⟩:=Kd.R_slice ho;have O1:=am (R_up (base:=w.heap.size) (n:=w.heap.size+2) ho (by simp <;> omega) (by simp <;> omega));have P0:=am (Kd.R_below (show Kd.R kCell 53 _ w.heap.size (fun k=>w.heap.size+2 < k) (.slice A0' x.cells.length c0') x.cells from by repeat (first|with_reducible exact O0.out | with_reducible refine R_farN ?_ ?_ | omega)) hb);clear O0;have O0:=P0;clear P0;have hz:=bsize hb;(try simp at hz);have q10:w.heap.size < w1.heap.size:=(by omega);have q11:w.heap.size+1 < w1.heap.size:=(by omega);have q12:w.heap.size+1+1 < w1.heap.size:=(by omega);obtain ⟨hc1,hf1⟩:=bcell hb;have HB1:=am (below_step (w:=w) (by repeat (first|with_reducible exact HB.out | with_reducible refine below_alloc ?_ _ | with_reducible refine below_set ?_ ?_ | omega)) hb);clear HB;have HB:=HB1;clear HB1 hb ho hz;go_wp2_with fail
 refine (toEntryS_calls _ _ _ _ ?h1 (by omega) (by omega)).mono ?_
 case h1=>exact Kd.C_below (w:=w) G.out.2.2 (by repeat (first|with_reducible exact HB.out | with_reducible refine below_alloc ?_ _ | with_reducible refine below_set ?_ ?_ | omega))
 rintro e w3 ⟨v3,rfl,ho,hb⟩;obtain ⟨A3',c3',rfl⟩:=Kd.R_slice ho;have O3:=am (R_up (base:=w.heap.size) (n:=w.heap.size+2) ho (by simp <;> omega) (by simp <;> omega));have P0:=am (Kd.R_below (show Kd.R kCell 53 _ w.heap.size (fun k=>w.heap.size+2 < k) (.slice A0' x.cells.length c0') x.cells from by repeat (first|with_reducible exact O0.out | with_reducible refine R_farN ?_ ?_ | omega)) hb);clear O0;have O0:=P0;clear P0;have P1:=am (Kd.R_below (show Kd.R kTask 38 _ w.heap.size (fun k=>w.heap.size+2 < k) (.slice A1' x.tasks.length c1') x.tasks from by repeat (first|with_reducible exact O1.out | with_reducible refine R_farN ?_ ?_ | omega)) hb);clear O1;have O1:=P1;clear P1;have hz:=bsize hb;(try simp at hz);have q30:w.heap.size < w3.heap.size:=(by omega);have q31:w.heap.size+1 < w3.heap.size:=(by omega);have q32:w.heap.size+1+1 < w3.heap.size:=(by omega);obtain ⟨hc3,hf3⟩:=bcell hb;have HB1:=am (below_step (w:=w) (by repeat (first|with_reducible exact HB.out | with_reducible refine below_alloc ?_ _ | with_reducible refine below_set ?_ ?_ | omega)) hb);clear HB;have HB:=HB1;clear HB1 hb ho hz;go_wp2_with fail
 refine bodyPost_ret (v:=.agg #[.slice A0' x.cells.length c0',.slice A1' x.tasks.length c1',.int .i64 x.clock,.slice A3' x.log.length c3']) (by simp [results,Try.results42,go_sem,hc0,hf0,q00,q01,q02,hc1,hf1,q10,q11,q12,hc3,hf3,q30,q31,q32]) rfl ⟨_,rfl,kSys_mkM x ?_ ?_ ?_,(by repeat (first|with_reducible exact HB.out | with_reducible refine below_alloc ?_ _ | with_reducible refine below_set ?_ ?_ | omega))⟩
 ·exact R_any (show Kd.R kCell 53 _ w.heap.size (fun k=>w.heap.size+2 < k) (.slice A0' x.cells.length c0') x.cells from by repeat (first|with_reducible exact O0.out | with_reducible refine R_farN ?_ ?_ | omega))
 ·exact R_any (show Kd.R kTask 38 _ w.heap.size (fun k=>w.heap.size+2 < k) (.slice A1' x.tasks.length c1') x.tasks from by repeat (first|with_reducible exact O1.out | with_reducible refine R_farN ?_ ?_ | omega))
 ·exact R_any (show Kd.R kEntry 119 _ w.heap.size (fun k=>w.heap.size+2 < k) (.slice A3' x.log.length c3') x.log from by repeat (first|with_reducible exact O3.out | with_reducible refine R_farN ?_ ?_ | omega))
end Go.Proofs.Ytimamoimphjakaa.Eq
namespace Go.Proofs.Ytimamoimphjakaa.Eq
open Go.RowKit Go.Proofs.YtimamoimphjakaaW.PrintWords Go.Proofs.YtimamoimphjakaaW.PrintLast
def kDeedL:Kd Deed:=Kd.iso (Kd.pair (Kd.int .i64) (Kd.pair (Kd.int .i64) (Kd.int .i64))) (fun x:Deed=>(x.kind,x.a,x.b))
theorem kDeedL_open {w:World} {x:Deed} {cs:List Value} (h:kDeedL.K w x cs):cs= [.int .i64 x.kind,.int .i64 x.a,.int .i64 x.b]:=by
 obtain ⟨_,_,rfl,rfl,⟨_,_,rfl,rfl,rfl⟩⟩:=h;exact rfl
def kActL:Kd Act:=Kd.iso (Kd.pair (Kd.int .i64) (Kd.pair (Kd.slice 202 kDeedL) (Kd.pair (Kd.slice 3 (Kd.int .i64)) (Kd.int .i64)))) (fun x:Act=>(x.kind,x.deeds,x.kids,x.reg))
theorem kActL_open {w:World} {x:Act} {cs:List Value} (h:kActL.K w x cs):∃ A_deeds c_deeds A_kids c_kids,cs= [.int .i64 x.kind,.slice A_deeds x.deeds.length c_deeds,.slice A_kids x.kids.length c_kids,.int .i64 x.reg]/\x.deeds.length<=c_deeds/\kDeedL.C w A_deeds x.deeds.length x.deeds/\x.kids.length<=c_kids/\(Kd.int .i64).C w A_kids x.kids.length x.kids:=by
 obtain ⟨_,_,rfl,rfl,⟨_,_,rfl,⟨A_deeds,c_deeds,rfl,l_deeds,g_deeds⟩,⟨_,_,rfl,⟨A_kids,c_kids,rfl,l_kids,g_kids⟩,rfl⟩⟩⟩:=h;exact ⟨A_deeds,c_deeds,A_kids,c_kids,rfl,l_deeds,g_deeds,l_kids,g_kids⟩
def kProgL:Kd Prog:=Kd.iso (Kd.pair (Kd.slice 3 (Kd.int .i64)) (Kd.slice 129 (Kd.slice 171 kActL))) (fun x:Prog=>(x.cells,x.bodies))
theorem kProgL_open {w:World} {x:Prog} {cs:List Value} (h:kProgL.K w x cs):∃ A_cells c_cells A_bodies c_bodies,cs= [.slice A_cells x.cells.length c_cells,.slice A_bodies x.bodies.length c_bodies]/\x.cells.length<=c_cells/\(Kd.int .i64).C w A_cells x.cells.length x.cells/\x.bodies.length<=c_bodies/\(Kd.slice 171 kActL).C w A_bodies x.bodies.length x.bodies:=by
 obtain ⟨_,_,rfl,⟨A_cells,c_cells,rfl,l_cells,g_cells⟩,⟨A_bodies,c_bodies,rfl,l_bodies,g_bodies⟩⟩:=h;exact ⟨A_cells,c_cells,A_bodies,c_bodies,rfl,l_cells,g_cells,l_bodies,g_bodies⟩
end Go.Proofs.Ytimamoimphjakaa.Eq
namespace Go.Proofs.Ytimamoimphjakaa.Eq
open Go.RowKit Go.Proofs.YtimamoimphjakaaW.PrintWords Go.Proofs.YtimamoimphjakaaW.PrintLast Go.Proofs.YtimamoimphjakaaW.PrintMore
def szA (x:Act):Nat:=x.deeds.length+x.kids.length
def szAS (x:List Act):Nat:=x.length+sumOf szA x
def szP (p:Prog):Nat:=p.cells.length+(p.bodies.length+sumOf szAS p.bodies)
theorem szDeedS_calls (n c:Nat) (A:Option Addr) (left:Int) (w:World) (h0:0<=left) (h1:left<=1048576) (hn:n<=9223372036854775807):
  Calls Try.prog 145 #[.slice A n c,.int .i64 left] w fun e w'=>∃ r,e= .returned (.int .i64 r)/\Sz left n r/\w=w':=by
 go_enter Try.func145,Try.ntmps145;go_wp2
 all_goals (go_ret;exact ⟨_,rfl,by unfold Sz;omega,rfl⟩)
theorem szAct_calls (x:Act) (cs:List Value) (left:Int) (w:World) (hx:kActL.K w x cs) (h0:0<=left) (h1:left<=1048576):
  Calls Try.prog 129 #[.agg cs.toArray,.int .i64 left] w fun e w'=>∃ r,e= .returned (.int .i64 r)/\Sz left (szA x) r/\Below w.heap.size w w':=by
 obtain ⟨Ad,cd,Ak,ck,rfl,-,gd,-,gk⟩:=kActL_open hx;have md:=Kd.C_max gd;have mk:=Kd.C_max gk;clear gd gk hx;go_enter Try.func129,Try.ntmps129
 go_wp2_with (first
 |(go_at_call 145;refine (szDeedS_calls _ _ _ _ _ (by first|omega|(unfold Sz at *;omega)) (by first|omega|(unfold Sz at *;omega)) (by assumption)).mono ?_;rintro e w1 ⟨r,rfl,hs,rfl⟩)
 |(go_at_call 69;refine (szIntS_calls _ _ _ _ _ (by first|omega|(unfold Sz at *;omega)) (by first|omega|(unfold Sz at *;omega)) (by assumption)).mono ?_;rintro e w1 ⟨r,rfl,hs,rfl⟩))
 all_goals (go_ret;exact ⟨_,rfl,by unfold Sz szA at *;omega,by repeat (first|exact Below.refl _ _ | apply below_alloc)⟩)
theorem szActS_calls (xs:List Act) (A:Option Addr) (c:Nat) (left:Int) (w:World) (hx:kActL.C w A xs.length xs) (h0:0<=left) (h1:left<=1048576):
  Calls Try.prog 106 #[.slice A xs.length c,.int .i64 left] w fun e w'=>∃ r,e= .returned (.int .i64 r)/\Sz left (xs.length+sumOf szA xs) r/\Below w.heap.size w w':=by
 have hm:=Kd.C_max hx;have HX:=am hx;clear hx;go_enter Try.func106,Try.ntmps106;by_cases h:left < xs.length
 ·have hb:decide (left - (xs.length:Int) < 0)=true:=decide_eq_true (by omega)
  go_wp2;go_ret;exact ⟨_,rfl,by unfold Sz;omega,Below.refl _ _⟩
 ·have hb:decide (left - (xs.length:Int) < 0)=false:=decide_eq_false (by omega)
  go_wp2;go_loopw [1,5] (fun l v w'=>∃ (k:Nat) (r:Int),k<=xs.length/\v= .int .i64 k/\l= .int .i64 r/\0<=r/\r<=1048576/\Aside0 (r=left - xs.length - sumOf szA (xs.take k))/\Aside0 (Own w w' [])) (fun _ v _=>xs.length - (intOf v).toNat)
  case atStart=>exact ⟨0,_,Nat.zero_le _,rfl,rfl,by omega,by omega,⟨by simp [sumOf]⟩,⟨Own.nil w⟩⟩
  case round=>
   obtain ⟨k,r,hk,rfl,rfl,hr0,hr1,HR,M⟩:=hrel;have C:=M.out.cl;simp only [Cl] at C;by_cases hlt:k < xs.length
   ·have q0:(0:Int)<=(k:Int):=by omega
    have q1:(k:Int) < (xs.length:Int):=by omega
    obtain ⟨b,o,cs,rfl,hcl,hK,hcc,-⟩:=C_field HX.out zAct k hlt (by decide);have HT:=am (sumOf_take szA xs k zAct hlt);have HC:=am hcc;have HK:=am hK;clear hcc hK
    go_wp2_with (first
    |((with_reducible refine gL ?_);refine oR rfl rfl M.out HC.out ?_ (hu:=by rw [hcl];kernel_rfl))
    |(go_at_call 129;refine (szAct_calls _ _ _ _ (kActL.K_below M.out.below HK.out) (by omega) (by omega)).mono ?_;rintro e W ⟨r1,rfl,hs,hb⟩;have HS:=am hs;have hs1:=hs;clear hs;replace M:=am (M.out.step hb);clear C;have C:=M.out.cl;simp only [Cl] at C;clear hb))
    ·go_ret
     have hle:=sumOf_le szA xs (k+1);exact ⟨_,rfl,by have:=HR.out;have:=HT.out;have:=HS.out;unfold Sz at *;omega,M.out.below⟩
    ·go_roundw
     case rel=>exact ⟨k+1,r1,by omega,by go_num,rfl,by omega,by have:=HS.out;unfold Sz at *;omega,⟨by have:=HR.out;have:=HT.out;have:=HS.out;unfold Sz at *;omega⟩,⟨M.out⟩⟩
     case measure=>simp [intOf];omega
   ·obtain rfl:k=xs.length:=by omega
    have q1:¬ (xs.length:Int) < (xs.length:Int):=by omega
    go_wp2;go_ret;exact ⟨_,rfl,by have:=HR.out;rw [List.take_length] at this;unfold Sz;omega,M.out.below⟩
theorem szActSS_calls (xs:List (List Act)) (A:Option Addr) (c:Nat) (left:Int) (w:World) (hx:(Kd.slice 171 kActL).C w A xs.length xs) (h0:0<=left) (h1:left<=1048576):
  Calls Try.prog 70 #[.slice A xs.length c,.int .i64 left] w fun e w'=>∃ r,e= .returned (.int .i64 r)/\Sz left (xs.length+sumOf szAS xs) r/\Below w.heap.size w w':=by
 have hm:=Kd.C_max hx;have HX:=am hx;clear hx;go_enter Try.func70,Try.ntmps70;by_cases h:left < xs.length
 ·have hb:decide (left - (xs.length:Int) < 0)=true:=decide_eq_true (by omega)
  go_wp2;go_ret;exact ⟨_,rfl,by unfold Sz;omega,Below.refl _ _⟩
 ·have hb:decide (left - (xs.length:Int) < 0)=false:=decide_eq_false (by omega)
  go_wp2;go_loopw [1,5] (fun l v w'=>∃ (k:Nat) (r:Int),k<=xs.length/\v= .int .i64 k/\l= .int .i64 r/\0<=r/\r<=1048576/\Aside0 (r=left - xs.length - sumOf szAS (xs.take k))/\Aside0 (Own w w' [])) (fun _ v _=>xs.length - (intOf v).toNat)
  case atStart=>exact ⟨0,_,Nat.zero_le _,rfl,rfl,by omega,by omega,⟨by simp [sumOf]⟩,⟨Own.nil w⟩⟩
  case round=>
   obtain ⟨k,r,hk,rfl,rfl,hr0,hr1,HR,M⟩:=hrel;have C:=M.out.cl;simp only [Cl] at C;by_cases hlt:k < xs.length
   ·have q0:(0:Int)<=(k:Int):=by omega
    have q1:(k:Int) < (xs.length:Int):=by omega
    obtain ⟨b,o,cs,rfl,hcl,hK,hcc,-⟩:=C_field HX.out ([]:List Act) k hlt (by decide);have HT:=am (sumOf_take szAS xs k ([]:List Act) hlt);obtain ⟨x,hxx⟩:∃ x,x=xs.getD k []:=⟨_,rfl⟩;rw [<-hxx] at hK HT;clear hxx;have hsa:szAS x=x.length+sumOf szA x:=rfl;obtain ⟨Aa,ca,rfl,la,ga2⟩:=hK;have p2:=hcc 0 _ rfl;simp only [show (Kd.slice 171 kActL).sz=1 from rfl,Nat.mul_one,Nat.add_zero] at p2;have GA:=am ga2;replace M:=am (M.out.far p2);clear C p2 hcc hcl ga2 la;have C:=M.out.cl;simp only [Cl] at C
    go_wp2_with (first
    |(go_at_call 106;refine (szActS_calls _ _ _ _ _ (Kd.C_below GA.out M.out.below) (by omega) (by omega)).mono ?_;rintro e W ⟨r1,rfl,hs,hb⟩;have HS:=am hs;have hs1:=hs;clear hs;replace M:=am (M.out.step hb);clear C;have C:=M.out.cl;simp only [Cl] at C;clear hb))
    ·go_ret
     have hle:=sumOf_le szAS xs (k+1);exact ⟨_,rfl,by have:=HR.out;have:=HT.out;have:=HS.out;unfold Sz at *;omega,M.out.below⟩
    ·go_roundw
     case rel=>exact ⟨k+1,r1,by omega,by go_num,rfl,by omega,by have:=HS.out;unfold Sz at *;omega,⟨by have:=HR.out;have:=HT.out;have:=HS.out;unfold Sz at *;omega⟩,⟨M.out.pop⟩⟩
     case measure=>simp [intOf];omega
   ·obtain rfl:k=xs.length:=by omega
    have q1:¬ (xs.length:Int) < (xs.length:Int):=by omega
    go_wp2;go_ret;exact ⟨_,rfl,by have:=HR.out;rw [List.take_length] at this;unfold Sz;omega,M.out.below⟩
theorem szProg_calls (x:Prog) (cs:List Value) (left:Int) (w:World) (hx:kProgL.K w x cs) (h0:0<=left) (h1:left<=1048576):
  Calls Try.prog 39 #[.agg cs.toArray,.int .i64 left] w fun e w'=>∃ r,e= .returned (.int .i64 r)/\Sz left (szP x) r/\Below w.heap.size w w':=by
 obtain ⟨Ac,cc,Ab,cb,rfl,-,gc,-,gb⟩:=kProgL_open hx;have mc:=Kd.C_max gc;have GB:=am gb;have M:=am (Own.nil w);have C:=M.out.cl;clear gc gb hx;go_enter Try.func39,Try.ntmps39
 go_wp2_with (first
 |((first|with_reducible refine gB ?_ | with_reducible refine gA ?_);refine oB rfl M.out ?_;clear M C;intro g W M C;simp only [Cl] at C)
 |(go_at_call 69;refine (szIntS_calls _ _ _ _ _ (by first|omega|(unfold Sz at *;omega)) (by first|omega|(unfold Sz at *;omega)) (by assumption)).mono ?_;rintro e w1 ⟨r,rfl,hs,rfl⟩)
 |(go_at_call 70;refine (szActSS_calls _ _ _ _ _ (Kd.C_below GB.out M.out.below) (by first|omega|(unfold Sz at *;omega)) (by first|omega|(unfold Sz at *;omega))).mono ?_;rintro e W ⟨r1,rfl,hs,hb⟩;have HS:=am hs;have hs1:=hs;clear hs;replace M:=am (M.out.step hb);clear C;have C:=M.out.cl;simp only [Cl] at C;clear hb))
 all_goals (go_ret;exact ⟨_,rfl,by unfold Sz szP at *;omega,M.out.below⟩)
theorem toDeed_calls (x:Deed) (cs:List Value) (w:World) (hx:kDeedL.K w x cs):
  Calls Try.prog 157 #[.agg cs.toArray] w fun e w'=>∃ ds,e= .returned (.agg ds.toArray)/\kDeed.M w' w.heap.size (fun _=>True) x ds/\Below w.heap.size w w':=by
 obtain rfl:=kDeedL_open hx;go_enter Try.func157,Try.ntmps157;go_wp2;refine bodyPost_ret (v:=.agg #[.int .i64 x.kind,.int .i64 x.a,.int .i64 x.b]) (by simp [results,Try.results157,go_sem]) rfl ⟨_,rfl,kDeed_mkM x, ?_⟩;repeat (first|exact Below.refl _ _ | refine below_alloc ?_ _)
theorem kDeed_zero (w:World) (base:Nat) (ok:Nat->Prop):kDeed.M w base ok zDeed [.int .i64 0,.int .i64 0,.int .i64 0]:=kDeed_mkM zDeed
theorem kAct_zero (w:World) (base:Nat) (ok:Nat->Prop):kAct.M w base ok zAct [.int .i64 0,.slice none 0 0,.slice none 0 0,.int .i64 0]:=kAct_mkM zAct (Kd.R_nil _ _ _ _ _) (Kd.R_nil _ _ _ _ _)
theorem kActs_zero (w:World) (base:Nat) (ok:Nat->Prop):(Kd.slice 108 kAct).M w base ok ([]:List Act) [.slice none 0 0]:=⟨_,rfl,Kd.R_nil _ _ _ _ _⟩
theorem toDeedS_calls (xs:List Deed) (A:Option Addr) (c:Nat) (w:World) (hx:kDeedL.C w A xs.length xs) (hn:xs.length<=1048576):
  Calls Try.prog 146 #[.slice A xs.length c] w fun e w'=>∃ v,e= .returned v/\kDeed.R 111 w' w.heap.size (fun _=>True) v xs/\Below w.heap.size w w':=by
 have HX:=am hx;clear hx;go_enter Try.func146,Try.ntmps146;go_wp2_with ((with_reducible refine gate_dst (N:=7) rfl ?_);refine Kd.R_make (w0:=w) kDeed w.heap.size 111 rfl (N:=7) rfl 106 _ _ rfl (xs.length:Int) rfl rfl Try.underlying106 (.agg #[.int .i64 0,.int .i64 0,.int .i64 0]) 24 (by kernel_rfl) rfl (by decide) (by omega) zDeed (ok:=fun _=>True) (okp:=fun _=>True) (kDeed_zero _ _ _) (fun _ hk=>hk) trivial (by omega) (by omega) (Below.refl _ _) (Nat.le_refl _) ?_;intro v w1 ho hb _ _;have HO:=am ho;have HB:=am hb;clear ho hb)
 go_loopw [4] (fun i w'=>∃ k:Nat,k<=xs.length/\i= .int .i64 k/\Aside0 (kDeed.R 111 w' w.heap.size (fun _=>True) v (upTo xs zDeed k))/\Aside0 (Below w.heap.size w w')) (fun i _=>xs.length - (intOf i).toNat)
 case atStart=>exact ⟨0,Nat.zero_le _,rfl,⟨by rw [upTo_zero];simpa using HO.out⟩,HB⟩
 case round=>
  clear HO HB;obtain ⟨k,hk,rfl,HO,HB⟩:=hrel;by_cases hlt:k < xs.length
  ·have hl:=upTo_length xs zDeed hk
   have HS:=am (upTo_set xs zDeed hlt);have q0:(0:Int)<=(k:Int):=by omega
   have q1:(k:Int) < (xs.length:Int):=by omega
   obtain ⟨ad,cs,rfl,hcl,hK,hcc⟩:=Kd.C_get (Kd.C_below HX.out HB.out) zDeed (k:Int) q0 q1;obtain ⟨g,cap,rfl,hg1,hg2,hg3⟩:=Kd.R_form HO.out (by omega);rw [hl] at*;simp only [Int.toNat_natCast] at hK hcc;have HK:=am hK;have HCC:=am hcc;clear hK hcc hg3
   go_wp2_with (first
   |((with_reducible refine gate_dst (N:=19) rfl ?_);refine load_struct rfl 202 (.tmp 18) rfl ad (k*3) rfl cs _ HCC.out (by rw [hcl];decide) Try.underlying202 rfl (by rw [hcl];kernel_rfl) ?_)
   |(go_at_call 157;refine (toDeed_calls _ _ _ HK.out).mono ?_;rintro e w1 ⟨ds,rfl,hm,hb⟩;have HM:=am hm;have HO2:=am (Kd.R_below HO.out hb);have HB2:=am (below_step HB.out hb);clear hm hb HO HB)
   |((with_reducible refine gate_store (t:=111) (p:=21) rfl ?_);obtain ⟨ce,hce,_,hcc2,_⟩:=Kd.R_elem HO2.out zDeed (k:Int) q0 q1;have hdl:=kDeed.K_len (kDeed.K_of_M HM.out);refine Kd.R_store (w0:=w) kDeed w.heap.size rfl rfl 111 (.tmp 21) (.tmp 20) rfl 111 (k:Int) 0 (upTo xs zDeed k) (xs.getD k zDeed) (.agg ds.toArray) ds ce (fun _=>True) (fun k'=>g < k') rfl (by simp;rfl) rfl rfl (by rw [hdl];kernel_rfl) (kDeed.K_one (kDeed.K_of_M HM.out)) HO2.out q0 q1 hce hcc2 (by rw [hdl];exact Nat.le_refl _) (M_all (by rw [hce,hdl];exact Nat.le_refl _) (by omega) (by omega) HM.out) (fun k' hk'=>⟨trivial,Nat.ne_of_gt hk'⟩) HB2.out ?_;intro w2 ho hb hgr;simp only [Int.toNat_natCast] at ho;rw [HS.out] at ho;have HO3:=am ho;have HB3:=am hb;clear ho hb hgr))
   go_roundw
   case rel=>exact ⟨k+1,by omega,by go_num,HO3,HB3⟩
   case measure=>simp [intOf];omega
  ·go_wp2
   go_ret;obtain rfl:k=xs.length:=by omega
   exact ⟨_,rfl,by rw [upTo_all] at HO;exact HO.out,HB.out⟩
theorem toAct_calls (x:Act) (cs:List Value) (w:World) (hx:kActL.K w x cs) (hn:szA x<=1048576):
  Calls Try.prog 131 #[.agg cs.toArray] w fun e w'=>∃ ds,e= .returned (.agg ds.toArray)/\kAct.M w' w.heap.size (fun _=>True) x ds/\Below w.heap.size w w':=by
 obtain ⟨A1,c1,A2,c2,rfl,l1,g1,l2,g2⟩:=kActL_open hx;unfold szA at hn;have G:=am (And.intro g1 g2);have HB:=am (Below.refl w.heap.size w);clear g1 g2 l1 l2 hx;go_enter Try.func131,Try.ntmps131;go_wp2_with fail
 refine (toDeedS_calls _ _ _ _ ?h1 (by omega)).mono ?_
 case h1=>exact Kd.C_below (w:=w) G.out.1 (by repeat (first|with_reducible exact HB.out | with_reducible refine below_alloc ?_ _ | with_reducible refine below_set ?_ ?_ | omega))
 rintro e w1 ⟨v1,rfl,ho,hb⟩;obtain ⟨A1',c1',rfl⟩:=Kd.R_slice ho;have O1:=am (R_up (base:=w.heap.size) (n:=w.heap.size+2) ho (by simp <;> omega) (by simp <;> omega));have hz:=bsize hb;(try simp at hz);have q10:w.heap.size < w1.heap.size:=(by omega);have q11:w.heap.size+1 < w1.heap.size:=(by omega);have q12:w.heap.size+1+1 < w1.heap.size:=(by omega);obtain ⟨hc1,hf1⟩:=bcell hb;have HB1:=am (below_step (w:=w) (by repeat (first|with_reducible exact HB.out | with_reducible refine below_alloc ?_ _ | with_reducible refine below_set ?_ ?_ | omega)) hb);clear HB;have HB:=HB1;clear HB1 hb ho hz;go_wp2_with fail
 refine (toIntS_calls _ _ _ _ ?h1 (by omega)).mono ?_
 case h1=>exact Kd.C_below (w:=w) G.out.2 (by repeat (first|with_reducible exact HB.out | with_reducible refine below_alloc ?_ _ | with_reducible refine below_set ?_ ?_ | omega))
 rintro e w2 ⟨v2,rfl,ho,hb⟩;obtain ⟨A2',c2',rfl⟩:=Kd.R_slice ho;have O2:=am (R_up (base:=w.heap.size) (n:=w.heap.size+2) ho (by simp <;> omega) (by simp <;> omega));have P1:=am (Kd.R_below (show Kd.R kDeed 111 _ w.heap.size (fun k=>w.heap.size+2 < k) (.slice A1' x.deeds.length c1') x.deeds from by repeat (first|with_reducible exact O1.out | with_reducible refine R_farN ?_ ?_ | omega)) hb);clear O1;have O1:=P1;clear P1;have hz:=bsize hb;(try simp at hz);have q20:w.heap.size < w2.heap.size:=(by omega);have q21:w.heap.size+1 < w2.heap.size:=(by omega);have q22:w.heap.size+1+1 < w2.heap.size:=(by omega);obtain ⟨hc2,hf2⟩:=bcell hb;have HB1:=am (below_step (w:=w) (by repeat (first|with_reducible exact HB.out | with_reducible refine below_alloc ?_ _ | with_reducible refine below_set ?_ ?_ | omega)) hb);clear HB;have HB:=HB1;clear HB1 hb ho hz;go_wp2_with fail
 refine bodyPost_ret (v:=.agg #[.int .i64 x.kind,.slice A1' x.deeds.length c1',.slice A2' x.kids.length c2',.int .i64 x.reg]) (by simp [results,Try.results131,go_sem,hc1,hf1,q10,q11,q12,hc2,hf2,q20,q21,q22]) rfl ⟨_,rfl,kAct_mkM x ?_ ?_,(by repeat (first|with_reducible exact HB.out | with_reducible refine below_alloc ?_ _ | with_reducible refine below_set ?_ ?_ | omega))⟩
 ·exact R_any (show Kd.R kDeed 111 _ w.heap.size (fun k=>w.heap.size+2 < k) (.slice A1' x.deeds.length c1') x.deeds from by repeat (first|with_reducible exact O1.out | with_reducible refine R_farN ?_ ?_ | omega))
 ·exact R_any (show Kd.R (Kd.int .i64) 3 _ w.heap.size (fun k=>w.heap.size+2 < k) (.slice A2' x.kids.length c2') x.kids from by repeat (first|with_reducible exact O2.out | with_reducible refine R_farN ?_ ?_ | omega))
theorem toActS_calls (xs:List Act) (A:Option Addr) (c:Nat) (w:World) (hx:kActL.C w A xs.length xs) (hn:xs.length<=1048576) (hs:sumOf szA xs<=1048576):
  Calls Try.prog 109 #[.slice A xs.length c] w fun e w'=>∃ v,e= .returned v/\kAct.R 108 w' w.heap.size (fun _=>True) v xs/\Below w.heap.size w w':=by
 have HX:=am hx;clear hx;go_enter Try.func109,Try.ntmps109;go_wp2_with ((with_reducible refine gate_dst (N:=7) rfl ?_);refine Kd.R_make (w0:=w) kAct w.heap.size 108 rfl (N:=7) rfl 104 _ _ rfl (xs.length:Int) rfl rfl Try.underlying104 (.agg #[.int .i64 0,.slice none 0 0,.slice none 0 0,.int .i64 0]) 64 (by kernel_rfl) rfl (by decide) (by omega) zAct (ok:=fun _=>True) (okp:=fun _=>True) (kAct_zero _ _ _) (fun _ hk=>hk) trivial (by omega) (by omega) (Below.refl _ _) (Nat.le_refl _) ?_;intro v w1 ho hb _ _;have HO:=am ho;have HB:=am hb;clear ho hb)
 go_loopw [4] (fun i w'=>∃ k:Nat,k<=xs.length/\i= .int .i64 k/\Aside0 (kAct.R 108 w' w.heap.size (fun _=>True) v (upTo xs zAct k))/\Aside0 (Below w.heap.size w w')) (fun i _=>xs.length - (intOf i).toNat)
 case atStart=>exact ⟨0,Nat.zero_le _,rfl,⟨by rw [upTo_zero];simpa using HO.out⟩,HB⟩
 case round=>
  clear HO HB;obtain ⟨k,hk,rfl,HO,HB⟩:=hrel;by_cases hlt:k < xs.length
  ·have hl:=upTo_length xs zAct hk
   have HS:=am (upTo_set xs zAct hlt);have q0:(0:Int)<=(k:Int):=by omega
   have q1:(k:Int) < (xs.length:Int):=by omega
   have hsz:szA (xs.getD k zAct)<=1048576:=by have h1:=sumOf_take szA xs k zAct hlt;have h2:=sumOf_le szA xs (k+1);omega
   obtain ⟨ad,cs,rfl,hcl,hK,hcc⟩:=Kd.C_get (Kd.C_below HX.out HB.out) zAct (k:Int) q0 q1;obtain ⟨g,cap,rfl,hg1,hg2,hg3⟩:=Kd.R_form HO.out (by omega);rw [hl] at*;simp only [Int.toNat_natCast] at hK hcc;have HK:=am hK;have HCC:=am hcc;clear hK hcc hg3
   go_wp2_with (first
   |((with_reducible refine gate_dst (N:=19) rfl ?_);refine load_struct rfl 171 (.tmp 18) rfl ad (k*4) rfl cs _ HCC.out (by rw [hcl];decide) Try.underlying171 rfl (by rw [hcl];kernel_rfl) ?_)
   |(go_at_call 131;refine (toAct_calls _ _ _ HK.out hsz).mono ?_;rintro e w1 ⟨ds,rfl,hm,hb⟩;have HM:=am hm;have HO2:=am (Kd.R_below HO.out hb);have HB2:=am (below_step HB.out hb);clear hm hb HO HB)
   |((with_reducible refine gate_store (t:=108) (p:=21) rfl ?_);obtain ⟨ce,hce,_,hcc2,_⟩:=Kd.R_elem HO2.out zAct (k:Int) q0 q1;have hdl:=kAct.K_len (kAct.K_of_M HM.out);refine Kd.R_store (w0:=w) kAct w.heap.size rfl rfl 108 (.tmp 21) (.tmp 20) rfl 108 (k:Int) 0 (upTo xs zAct k) (xs.getD k zAct) (.agg ds.toArray) ds ce (fun _=>True) (fun k'=>g < k') rfl (by simp;rfl) rfl rfl (by rw [hdl];kernel_rfl) (kAct.K_one (kAct.K_of_M HM.out)) HO2.out q0 q1 hce hcc2 (by rw [hdl];exact Nat.le_refl _) (M_all (by rw [hce,hdl];exact Nat.le_refl _) (by omega) (by omega) HM.out) (fun k' hk'=>⟨trivial,Nat.ne_of_gt hk'⟩) HB2.out ?_;intro w2 ho hb hgr;simp only [Int.toNat_natCast] at ho;rw [HS.out] at ho;have HO3:=am ho;have HB3:=am hb;clear ho hb hgr))
   go_roundw
   case rel=>exact ⟨k+1,by omega,by go_num,HO3,HB3⟩
   case measure=>simp [intOf];omega
  ·go_wp2
   go_ret;obtain rfl:k=xs.length:=by omega
   exact ⟨_,rfl,by rw [upTo_all] at HO;exact HO.out,HB.out⟩
theorem toActSS_calls (xs:List (List Act)) (A:Option Addr) (c:Nat) (w:World) (hx:(Kd.slice 171 kActL).C w A xs.length xs) (hn:xs.length<=1048576) (hs:sumOf szAS xs<=1048576):
  Calls Try.prog 75 #[.slice A xs.length c] w fun e w'=>∃ v,e= .returned v/\(Kd.slice 108 kAct).R 104 w' w.heap.size (fun _=>True) v xs/\Below w.heap.size w w':=by
 have HX:=am hx;clear hx;go_enter Try.func75,Try.ntmps75;go_wp2_with ((with_reducible refine gate_dst (N:=7) rfl ?_);refine Kd.R_make (w0:=w) (Kd.slice 108 kAct) w.heap.size 104 rfl (N:=7) rfl 46 _ _ rfl (xs.length:Int) rfl rfl Try.underlying46 (.slice none 0 0) 24 (by kernel_rfl) rfl (by decide) (by omega) ([]:List Act) (ok:=fun _=>True) (okp:=fun _=>True) (kActs_zero _ _ _) (fun _ hk=>hk) trivial (by omega) (by omega) (Below.refl _ _) (Nat.le_refl _) ?_;intro v w1 ho hb _ _;have HO:=am ho;have HB:=am hb;clear ho hb)
 go_loopw [4] (fun i w'=>∃ k:Nat,k<=xs.length/\i= .int .i64 k/\Aside0 ((Kd.slice 108 kAct).R 104 w' w.heap.size (fun _=>True) v (upTo xs ([]:List Act) k))/\Aside0 (Below w.heap.size w w')) (fun i _=>xs.length - (intOf i).toNat)
 case atStart=>exact ⟨0,Nat.zero_le _,rfl,⟨by rw [upTo_zero];simpa using HO.out⟩,HB⟩
 case round=>
  clear HO HB;obtain ⟨k,hk,rfl,HO,HB⟩:=hrel;by_cases hlt:k < xs.length
  ·have hl:=upTo_length xs ([]:List Act) hk
   have HS:=am (upTo_set xs ([]:List Act) hlt);have q0:(0:Int)<=(k:Int):=by omega
   have q1:(k:Int) < (xs.length:Int):=by omega
   have hsz:szAS (xs.getD k ([]:List Act))<=1048576:=by have h1:=sumOf_take szAS xs k ([]:List Act) hlt;have h2:=sumOf_le szAS xs (k+1);omega
   obtain ⟨ad,cs,rfl,hcl,hK,hcc⟩:=Kd.C_get (Kd.C_below HX.out HB.out) ([]:List Act) (k:Int) q0 q1;obtain ⟨g,cap,rfl,hg1,hg2,hg3⟩:=Kd.R_form HO.out (by omega);rw [hl] at*;simp only [Int.toNat_natCast] at hK hcc;obtain ⟨x,hxx⟩:∃ x,x=xs.getD k ([]:List Act):=⟨_,rfl⟩;rw [<-hxx] at hK hsz HS;have hsa:x.length<=1048576/\sumOf szA x<=1048576:=by unfold szAS at hsz;omega
   clear hxx hsz;obtain ⟨Aa,ca,rfl,la,ga2⟩:=hK;have p2:=hcc 0 _ rfl;simp only [show (Kd.slice 171 kActL).sz=1 from rfl,Nat.mul_one,Nat.add_zero] at p2;have GA:=am ga2;clear hcc hcl ga2 la hg3
   go_wp2_with (first
   |(go_at_call 109;refine (toActS_calls _ _ _ _ GA.out hsa.1 hsa.2).mono ?_;rintro e w1 ⟨v1,rfl,hm,hb⟩;obtain ⟨A9,c9,rfl⟩:=Kd.R_slice hm;have HM:=am hm;have HO2:=am (Kd.R_below HO.out hb);have HB2:=am (below_step HB.out hb);clear hm hb HO HB)
   |((with_reducible refine gate_store (t:=104) (p:=21) rfl ?_);obtain ⟨ce,hce,_,hcc2,_⟩:=Kd.R_elem HO2.out ([]:List Act) (k:Int) q0 q1;(refine Kd.R_store (w0:=w) (Kd.slice 108 kAct) w.heap.size rfl rfl 104 (.tmp 21) (.tmp 20) rfl 104 (k:Int) 0 (upTo xs ([]:List Act) k) x (.slice A9 x.length c9) [.slice A9 x.length c9] ce (fun _=>True) (fun k'=>g < k') rfl (by simp [show (Kd.slice 108 kAct).sz=1 from rfl]) rfl rfl (by kernel_rfl) (fun q hq=>by rw [List.mem_singleton.1 hq];rfl) HO2.out q0 q1 hce hcc2 (Nat.le_refl _) (M_all (by rw [hce];exact Nat.le_refl _) (by omega) (by omega) ⟨_,rfl,HM.out⟩) (fun k' hk'=>⟨trivial,Nat.ne_of_gt hk'⟩) HB2.out ?_);intro w2 ho hb hgr;simp only [Int.toNat_natCast] at ho;rw [HS.out] at ho;have HO3:=am ho;have HB3:=am hb;clear ho hb hgr))
   go_roundw
   case rel=>exact ⟨k+1,by omega,by go_num,HO3,HB3⟩
   case measure=>simp [intOf];omega
  ·go_wp2
   go_ret;obtain rfl:k=xs.length:=by omega
   exact ⟨_,rfl,by rw [upTo_all] at HO;exact HO.out,HB.out⟩
theorem toProg_calls (x:Prog) (cs:List Value) (w:World) (hx:kProgL.K w x cs) (hn:szP x<=1048576):
  Calls Try.prog 41 #[.agg cs.toArray] w fun e w'=>∃ ds,e= .returned (.agg ds.toArray)/\kProg.M w' w.heap.size (fun _=>True) x ds/\Below w.heap.size w w':=by
 obtain ⟨A0,c0,A1,c1,rfl,l0,g0,l1,g1⟩:=kProgL_open hx;unfold szP at hn;have G:=am (And.intro g0 g1);have HB:=am (Below.refl w.heap.size w);clear g0 g1 l0 l1 hx;go_enter Try.func41,Try.ntmps41;go_wp2_with fail
 refine (toIntS_calls _ _ _ _ ?h1 (by omega)).mono ?_
 case h1=>exact Kd.C_below (w:=w) G.out.1 (by repeat (first|with_reducible exact HB.out | with_reducible refine below_alloc ?_ _ | with_reducible refine below_set ?_ ?_ | omega))
 rintro e w0 ⟨v0,rfl,ho,hb⟩;obtain ⟨A0',c0',rfl⟩:=Kd.R_slice ho;have O0:=am (R_up (base:=w.heap.size) (n:=w.heap.size+2) ho (by simp <;> omega) (by simp <;> omega));have hz:=bsize hb;(try simp at hz);have q00:w.heap.size < w0.heap.size:=(by omega);have q01:w.heap.size+1 < w0.heap.size:=(by omega);have q02:w.heap.size+1+1 < w0.heap.size:=(by omega);obtain ⟨hc0,hf0⟩:=bcell hb;have HB1:=am (below_step (w:=w) (by repeat (first|with_reducible exact HB.out | with_reducible refine below_alloc ?_ _ | with_reducible refine below_set ?_ ?_ | omega)) hb);clear HB;have HB:=HB1;clear HB1 hb ho hz;go_wp2_with fail
 refine (toActSS_calls _ _ _ _ ?h1 (by omega) (by omega)).mono ?_
 case h1=>exact Kd.C_below (w:=w) G.out.2 (by repeat (first|with_reducible exact HB.out | with_reducible refine below_alloc ?_ _ | with_reducible refine below_set ?_ ?_ | omega))
 rintro e w1 ⟨v1,rfl,ho,hb⟩;obtain ⟨A1',c1',rfl⟩:=Kd.R_slice ho;have O1:=am (R_up (base:=w.heap.size) (n:=w.heap.size+2) ho (by simp <;> omega) (by simp <;> omega));have P0:=am (Kd.R_below (show Kd.R (Kd.int .i64) 3 _ w.heap.size (fun k=>w.heap.size+2 < k) (.slice A0' x.cells.length c0') x.cells from by repeat (first|with_reducible exact O0.out | with_reducible refine R_farN ?_ ?_ | omega)) hb);clear O0;have O0:=P0;clear P0;have hz:=bsize hb;(try simp at hz);have q10:w.heap.size < w1.heap.size:=(by omega);have q11:w.heap.size+1 < w1.heap.size:=(by omega);have q12:w.heap.size+1+1 < w1.heap.size:=(by omega);obtain ⟨hc1,hf1⟩:=bcell hb;have HB1:=am (below_step (w:=w) (by repeat (first|with_reducible exact HB.out | with_reducible refine below_alloc ?_ _ | with_reducible refine below_set ?_ ?_ | omega)) hb);clear HB;have HB:=HB1;clear HB1 hb ho hz;go_wp2_with fail
 refine bodyPost_ret (v:=.agg #[.slice A0' x.cells.length c0',.slice A1' x.bodies.length c1']) (by simp [results,Try.results41,go_sem,hc0,hf0,q00,q01,q02,hc1,hf1,q10,q11,q12]) rfl ⟨_,rfl,kProg_mkM x ?_ ?_,(by repeat (first|with_reducible exact HB.out | with_reducible refine below_alloc ?_ _ | with_reducible refine below_set ?_ ?_ | omega))⟩
 ·exact R_any (show Kd.R (Kd.int .i64) 3 _ w.heap.size (fun k=>w.heap.size+2 < k) (.slice A0' x.cells.length c0') x.cells from by repeat (first|with_reducible exact O0.out | with_reducible refine R_farN ?_ ?_ | omega))
 ·exact R_any (show Kd.R (Kd.slice 108 kAct) 104 _ w.heap.size (fun k=>w.heap.size+2 < k) (.slice A1' x.bodies.length c1') x.bodies from by repeat (first|with_reducible exact O1.out | with_reducible refine R_farN ?_ ?_ | omega))
theorem agree_all {α:Type} (xs ys:List α) (hl:xs.length=ys.length) (h:∀ j,j < xs.length->xs[j]? = ys[j]?):xs=ys:=by
 apply List.ext_getElem?;intro j;by_cases hj:j < xs.length
 ·exact h j hj
 ·rw [List.getElem?_eq_none (by omega),List.getElem?_eq_none (by omega)]
theorem agree_step {α:Type} {xs ys:List α} {k:Nat} {z:α} (H:∀ j,j < k->xs[j]? = ys[j]?) (h1:k < xs.length) (h2:k < ys.length) (he:xs.getD k z=ys.getD k z) {j:Nat} (hj:j < k+1):xs[j]? = ys[j]? :=by
 by_cases h:j < k
 ·exact H j h
 ·obtain rfl:j=k:=by omega
  simp only [List.getD_eq_getElem?_getD] at he;rw [List.getElem?_eq_getElem (by omega),List.getElem?_eq_getElem (by omega)] at he ⊢;simpa using he
theorem eqIntS_calls (xs ys:List Int) (A B:Option Addr) (c d:Nat) (w:World) (hx:(Kd.int .i64).C w A xs.length xs) (hy:(Kd.int .i64).C w B ys.length ys):
  Calls Try.prog 79 #[.slice A xs.length c,.slice B ys.length d] w fun e w'=>e= .returned (.bool (decide (xs=ys)))/\Drawn0 w w':=by
 have HX:=am hx;have HY:=am hy;have hm:=Kd.C_max hx;clear hx hy;by_cases hl:xs.length=ys.length
 ·have hlb:((xs.length:Int) != (ys.length:Int))=false:=by rw [hl];simp
  have HL:=am hl;clear hl;go_enter Try.func79,Try.ntmps79;go_wp2;have HLB:=am hlb;clear hlb;go_loopw [5] (fun v w'=>∃ k:Nat,k<=xs.length/\v= .int .i64 k/\Aside0 (∀ j,j < k->xs[j]? = ys[j]?)/\Drawn0 w w') (fun v _=>xs.length - (intOf v).toNat)
  case atStart=>exact ⟨0,Nat.zero_le _,rfl,⟨fun j hj=>by omega⟩,Drawn0.refl _⟩
  case round=>
   obtain ⟨k,hk,rfl,HJ,HD⟩:=hrel;obtain ⟨n,rfl⟩:=HD.out;clear HD;by_cases hlt:k < xs.length
   ·have hlt2:k < ys.length:=by rw [<-HL.out];exact hlt
    have h0:(0:Int)<=(k:Int):=by omega
    have h1:(k:Int) < (xs.length:Int):=by omega
    have h2:(k:Int) < (ys.length:Int):=by omega
    obtain ⟨ax,rfl,gx⟩:=Kd.at_int HX.out (k:Int) (by omega) h1;obtain ⟨ay,rfl,gy⟩:=Kd.at_int HY.out (k:Int) (by omega) h2;simp only [Int.toNat_natCast] at gx gy;by_cases he:rd xs k=rd ys k
    ·have heb:(rd xs k != rd ys k)=false:=by simp [he]
     have HE:=am he;clear he;go_wp2;go_quiet (fail);go_wp2;go_roundw
     case rel=>exact ⟨k+1,by omega,by go_num,⟨fun j hj=>agree_step HJ.out hlt hlt2 HE.out hj⟩,⟨⟨_,rfl⟩⟩⟩
     case measure=>simp [intOf];omega
    ·have heb:(rd xs k != rd ys k)=true:=by simp [he]
     have HE:=am he;clear he;go_wp2;go_quiet (fail);go_wp2;go_ret;exact ⟨ret_bool (decide_eq_false (fun h=>HE.out (by rw [h]))).symm,Drawn0.step ⟨⟨n,rfl⟩⟩ _⟩
   ·go_wp2
    go_ret;exact ⟨ret_bool (decide_eq_true (agree_all xs ys HL.out (fun j hj=>HJ.out j (by omega)))).symm,⟨⟨n,rfl⟩⟩⟩
 ·have hlb:((xs.length:Int) != (ys.length:Int))=true:=by simp;omega
  have hlc:(xs.length != ys.length)=true:=by simp;omega
  have hld:(xs.length == ys.length)=false:=by simp;omega
  have HL:=am hl;clear hl;go_enter Try.func79,Try.ntmps79;go_wp2;go_ret;exact ⟨ret_bool (decide_eq_false (fun h=>HL.out (by rw [h]))).symm,Drawn0.refl _⟩
theorem Put_ext (x y:Put):x=y ↔ x.cell=y.cell/\x.num=y.num:=by cases x;cases y;simp
theorem eqPut_calls (x y:Put) (cs ds:List Value) (w:World) (hx:kPut.K w x cs) (hy:kPut.K w y ds):
  Calls Try.prog 149 #[.agg cs.toArray,.agg ds.toArray] w fun e w'=>e= .returned (.bool (decide (x=y)))/\Below w.heap.size w w':=by
 obtain rfl:=kPut_open hx;obtain rfl:=kPut_open hy;clear hx hy;have HB:=am (Below.refl w.heap.size w);go_enter Try.func149,Try.ntmps149;go_wp2_with fail
 all_goals (go_ret;refine ⟨ret_bool ?_,(by repeat (first|with_reducible exact HB.out | with_reducible refine below_alloc ?_ _ | with_reducible refine pw_below_drewN ?_ _))⟩)
 all_goals (first|(rw [decide_eq_true];simp_all [Put_ext];done)|(rw [decide_eq_false];simp_all [Put_ext];done))
theorem Cell_ext (x y:Cell):x=y ↔ x.num=y.num/\x.time=y.time/\x.lock=y.lock:=by cases x;cases y;simp
theorem eqCell_calls (x y:Cell) (cs ds:List Value) (w:World) (hx:kCell.K w x cs) (hy:kCell.K w y ds):
  Calls Try.prog 114 #[.agg cs.toArray,.agg ds.toArray] w fun e w'=>e= .returned (.bool (decide (x=y)))/\Below w.heap.size w w':=by
 obtain rfl:=kCell_open hx;obtain rfl:=kCell_open hy;clear hx hy;have HB:=am (Below.refl w.heap.size w);go_enter Try.func114,Try.ntmps114;go_wp2_with fail
 all_goals (go_ret;refine ⟨ret_bool ?_,(by repeat (first|with_reducible exact HB.out | with_reducible refine below_alloc ?_ _ | with_reducible refine pw_below_drewN ?_ _))⟩)
 all_goals (first|(rw [decide_eq_true];simp_all [Cell_ext];done)|(rw [decide_eq_false];simp_all [Cell_ext];done))
theorem eqPutS_calls (xs ys:List Put) (A B:Option Addr) (c d:Nat) (w:World) (hx:kPut.C w A xs.length xs) (hy:kPut.C w B ys.length ys):
  Calls Try.prog 134 #[.slice A xs.length c,.slice B ys.length d] w fun e w'=>e= .returned (.bool (decide (xs=ys)))/\Below w.heap.size w w':=by
 have HX:=am hx;have HY:=am hy;have hm:=Kd.C_max hx;clear hx hy;by_cases hl:xs.length=ys.length
 ·have hlb:((xs.length:Int) != (ys.length:Int))=false:=by rw [hl];simp
  have HL:=am hl;clear hl;go_enter Try.func134,Try.ntmps134;go_wp2;have HLB:=am hlb;clear hlb;go_loopw [5] (fun v w'=>∃ k:Nat,k<=xs.length/\v= .int .i64 k/\Aside0 (∀ j,j < k->xs[j]? = ys[j]?)/\Aside0 (Below w.heap.size w w')) (fun v _=>xs.length - (intOf v).toNat)
  case atStart=>exact ⟨0,Nat.zero_le _,rfl,⟨fun j hj=>by omega⟩,⟨Below.refl _ _⟩⟩
  case round=>
   obtain ⟨k,hk,rfl,HJ,HB⟩:=hrel;by_cases hlt:k < xs.length
   ·have hlt2:k < ys.length:=by rw [<-HL.out];exact hlt
    have h0:(0:Int)<=(k:Int):=by omega
    have h1:(k:Int) < (xs.length:Int):=by omega
    have h2:(k:Int) < (ys.length:Int):=by omega
    obtain ⟨ax,cs,rfl,hcl,hK,hcc⟩:=Kd.C_get (Kd.C_below HX.out HB.out) zPut (k:Int) h0 h1;obtain ⟨ay,ds,rfl,hdl,hL,hdd⟩:=Kd.C_get (Kd.C_below HY.out HB.out) zPut (k:Int) h0 h2;simp only [Int.toNat_natCast] at hK hcc hL hdd;have HK:=am hK;have HCC:=am hcc;have HK2:=am hL;have HDD:=am hdd;clear hK hcc hL hdd;go_wp2;refine wp_region_still_tail 8 (by kernel_rfl) (by kernel_rfl) ?_;simp only [List.take_succ_cons,List.take_zero,List.drop_succ_cons,List.drop_zero];iterate 3 still_step
    refine still_load_struct rfl 103 (.tmp 19) rfl ax (k*2) rfl cs _ HCC.out (by rw [hcl];decide) Try.underlying103 rfl (by rw [hcl];kernel_rfl) ?_;iterate 3 still_step
    refine still_load_struct rfl 103 (.tmp 23) rfl ay (k*2) rfl ds _ HDD.out (by rw [hdl];decide) Try.underlying103 rfl (by rw [hdl];kernel_rfl) ?_;refine wpStill_nil ?_;by_cases he:xs.getD k zPut=ys.getD k zPut
    ·have HE:=am he
     clear he;go_wp2_with (go_at_call 149;refine (eqPut_calls _ _ _ _ _ (kPut.K_below (below_drew (Below.refl _ _)) HK.out) (kPut.K_below (below_drew (Below.refl _ _)) HK2.out)).mono ?_;rw [decide_eq_true HE.out];rintro e w1 ⟨rfl,hb⟩;have HB1:=am (below_step (below_drew HB.out) hb);clear hb HB)
     go_roundw
     case rel=>exact ⟨k+1,by omega,by go_num,⟨fun j hj=>agree_step HJ.out hlt hlt2 HE.out hj⟩,HB1⟩
     case measure=>simp [intOf];omega
    ·have HE:=am he
     clear he;go_wp2_with (go_at_call 149;refine (eqPut_calls _ _ _ _ _ (kPut.K_below (below_drew (Below.refl _ _)) HK.out) (kPut.K_below (below_drew (Below.refl _ _)) HK2.out)).mono ?_;rw [decide_eq_false HE.out];rintro e w1 ⟨rfl,hb⟩;have HB1:=am (below_step (below_drew HB.out) hb);clear hb HB)
     go_ret;exact ⟨ret_bool (decide_eq_false (fun h=>HE.out (by rw [h]))).symm,HB1.out⟩
   ·go_wp2
    go_ret;exact ⟨ret_bool (decide_eq_true (agree_all xs ys HL.out (fun j hj=>HJ.out j (by omega)))).symm,HB.out⟩
 ·have hlb:((xs.length:Int) != (ys.length:Int))=true:=by simp;omega
  have hlc:(xs.length != ys.length)=true:=by simp;omega
  have hld:(xs.length == ys.length)=false:=by simp;omega
  have HL:=am hl;clear hl;go_enter Try.func134,Try.ntmps134;go_wp2;go_ret;exact ⟨ret_bool (decide_eq_false (fun h=>HL.out (by rw [h]))).symm,Below.refl _ _⟩
theorem eqCellS_calls (xs ys:List Cell) (A B:Option Addr) (c d:Nat) (w:World) (hx:kCell.C w A xs.length xs) (hy:kCell.C w B ys.length ys):
  Calls Try.prog 81 #[.slice A xs.length c,.slice B ys.length d] w fun e w'=>e= .returned (.bool (decide (xs=ys)))/\Below w.heap.size w w':=by
 have HX:=am hx;have HY:=am hy;have hm:=Kd.C_max hx;clear hx hy;by_cases hl:xs.length=ys.length
 ·have hlb:((xs.length:Int) != (ys.length:Int))=false:=by rw [hl];simp
  have HL:=am hl;clear hl;go_enter Try.func81,Try.ntmps81;go_wp2;have HLB:=am hlb;clear hlb;go_loopw [5] (fun v w'=>∃ k:Nat,k<=xs.length/\v= .int .i64 k/\Aside0 (∀ j,j < k->xs[j]? = ys[j]?)/\Aside0 (Below w.heap.size w w')) (fun v _=>xs.length - (intOf v).toNat)
  case atStart=>exact ⟨0,Nat.zero_le _,rfl,⟨fun j hj=>by omega⟩,⟨Below.refl _ _⟩⟩
  case round=>
   obtain ⟨k,hk,rfl,HJ,HB⟩:=hrel;by_cases hlt:k < xs.length
   ·have hlt2:k < ys.length:=by rw [<-HL.out];exact hlt
    have h0:(0:Int)<=(k:Int):=by omega
    have h1:(k:Int) < (xs.length:Int):=by omega
    have h2:(k:Int) < (ys.length:Int):=by omega
    obtain ⟨ax,cs,rfl,hcl,hK,hcc⟩:=Kd.C_get (Kd.C_below HX.out HB.out) zCell (k:Int) h0 h1;obtain ⟨ay,ds,rfl,hdl,hL,hdd⟩:=Kd.C_get (Kd.C_below HY.out HB.out) zCell (k:Int) h0 h2;simp only [Int.toNat_natCast] at hK hcc hL hdd;have HK:=am hK;have HCC:=am hcc;have HK2:=am hL;have HDD:=am hdd;clear hK hcc hL hdd;go_wp2;refine wp_region_still_tail 8 (by kernel_rfl) (by kernel_rfl) ?_;simp only [List.take_succ_cons,List.take_zero,List.drop_succ_cons,List.drop_zero];iterate 3 still_step
    refine still_load_struct rfl 53 (.tmp 19) rfl ax (k*3) rfl cs _ HCC.out (by rw [hcl];decide) Try.underlying53 rfl (by rw [hcl];kernel_rfl) ?_;iterate 3 still_step
    refine still_load_struct rfl 53 (.tmp 23) rfl ay (k*3) rfl ds _ HDD.out (by rw [hdl];decide) Try.underlying53 rfl (by rw [hdl];kernel_rfl) ?_;refine wpStill_nil ?_;by_cases he:xs.getD k zCell=ys.getD k zCell
    ·have HE:=am he
     clear he;go_wp2_with (go_at_call 114;refine (eqCell_calls _ _ _ _ _ (kCell.K_below (below_drew (Below.refl _ _)) HK.out) (kCell.K_below (below_drew (Below.refl _ _)) HK2.out)).mono ?_;rw [decide_eq_true HE.out];rintro e w1 ⟨rfl,hb⟩;have HB1:=am (below_step (below_drew HB.out) hb);clear hb HB)
     go_roundw
     case rel=>exact ⟨k+1,by omega,by go_num,⟨fun j hj=>agree_step HJ.out hlt hlt2 HE.out hj⟩,HB1⟩
     case measure=>simp [intOf];omega
    ·have HE:=am he
     clear he;go_wp2_with (go_at_call 114;refine (eqCell_calls _ _ _ _ _ (kCell.K_below (below_drew (Below.refl _ _)) HK.out) (kCell.K_below (below_drew (Below.refl _ _)) HK2.out)).mono ?_;rw [decide_eq_false HE.out];rintro e w1 ⟨rfl,hb⟩;have HB1:=am (below_step (below_drew HB.out) hb);clear hb HB)
     go_ret;exact ⟨ret_bool (decide_eq_false (fun h=>HE.out (by rw [h]))).symm,HB1.out⟩
   ·go_wp2
    go_ret;exact ⟨ret_bool (decide_eq_true (agree_all xs ys HL.out (fun j hj=>HJ.out j (by omega)))).symm,HB.out⟩
 ·have hlb:((xs.length:Int) != (ys.length:Int))=true:=by simp;omega
  have hlc:(xs.length != ys.length)=true:=by simp;omega
  have hld:(xs.length == ys.length)=false:=by simp;omega
  have HL:=am hl;clear hl;go_enter Try.func81,Try.ntmps81;go_wp2;go_ret;exact ⟨ret_bool (decide_eq_false (fun h=>HL.out (by rw [h]))).symm,Below.refl _ _⟩
theorem Task_ext (x y:Task):x=y ↔ x.body=y.body/\x.pc=y.pc/\x.up=y.up/\x.regs=y.regs/\x.way=y.way/\x.stage=y.stage/\x.at_=y.at_/\x.since=y.since/\x.old=y.old/\x.reads=y.reads/\x.puts=y.puts/\x.when_=y.when_/\x.from_=y.from_:=by cases x;cases y;simp
theorem eqTask_calls (x y:Task) (cs ds:List Value) (w:World) (hx:kTask.K w x cs) (hy:kTask.K w y ds):
  Calls Try.prog 115 #[.agg cs.toArray,.agg ds.toArray] w fun e w'=>e= .returned (.bool (decide (x=y)))/\Below w.heap.size w w':=by
 obtain ⟨A3,c3,A8,c8,A9,c9,A10,c10,rfl,l3,g3,l8,g8,l9,g9,l10,g10⟩:=kTask_open hx;obtain ⟨B3,d3,B8,d8,B9,d9,B10,d10,rfl,m3,h3,m8,h8,m9,h9,m10,h10⟩:=kTask_open hy;have G:=am (And.intro g3 (And.intro g8 (And.intro g9 g10)));have H:=am (And.intro h3 (And.intro h8 (And.intro h9 h10)));clear g3 g8 g9 g10 h3 h8 h9 h10 l3 l8 l9 l10 m3 m8 m9 m10 hx hy;go_enter Try.func115,Try.ntmps115;have HB:=am (Below.refl w.heap.size w)
 go_wp2_with (first
 |(go_at_call 79;refine (eqIntS_calls _ _ _ _ _ _ _ ?h1 ?h2).mono ?_;(case h1=>exact Kd.C_below (w:=w) (by first|exact G.out.1 | exact G.out.2.1) (by repeat (first|with_reducible exact HB.out | with_reducible refine below_alloc ?_ _ | with_reducible refine pw_below_drewN ?_ _)));(case h2=>exact Kd.C_below (w:=w) (by first|exact H.out.1 | exact H.out.2.1) (by repeat (first|with_reducible exact HB.out | with_reducible refine below_alloc ?_ _ | with_reducible refine pw_below_drewN ?_ _)));rintro e w1 ⟨rfl,⟨n,rfl⟩⟩)
 |(go_at_call 134;refine (eqPutS_calls _ _ _ _ _ _ _ ?h1 ?h2).mono ?_;(case h1=>exact Kd.C_below (w:=w) (by first|exact G.out.2.2.1 | exact G.out.2.2.2) (by repeat (first|with_reducible exact HB.out | with_reducible refine below_alloc ?_ _ | with_reducible refine pw_below_drewN ?_ _)));(case h2=>exact Kd.C_below (w:=w) (by first|exact H.out.2.2.1 | exact H.out.2.2.2) (by repeat (first|with_reducible exact HB.out | with_reducible refine below_alloc ?_ _ | with_reducible refine pw_below_drewN ?_ _)));rintro e w1 ⟨rfl,hb⟩;replace HB:=am (below_step (w:=w) (by repeat (first|with_reducible exact HB.out | with_reducible refine below_alloc ?_ _ | with_reducible refine pw_below_drewN ?_ _)) hb);have hz:=bsize hb;(try simp at hz);have q0:w.heap.size < w1.heap.size:=(by omega);have q1:w.heap.size+1 < w1.heap.size:=(by omega);clear hz;obtain ⟨hc,hf⟩:=bcell hb;clear hb))
 all_goals (go_ret;refine ⟨ret_bool ?_,(by repeat (first|with_reducible exact HB.out | with_reducible refine below_alloc ?_ _ | with_reducible refine pw_below_drewN ?_ _))⟩)
 all_goals (first|(rw [decide_eq_true];simp_all [Task_ext];done)|(rw [decide_eq_false];simp_all [Task_ext];done))
theorem Entry_ext (x y:Entry):x=y ↔ x.task=y.task/\x.act=y.act/\x.when_=y.when_/\x.reads=y.reads/\x.puts=y.puts/\x.from_=y.from_:=by cases x;cases y;simp
theorem eqEntry_calls (x y:Entry) (cs ds:List Value) (w:World) (hx:kEntry.K w x cs) (hy:kEntry.K w y ds):
  Calls Try.prog 116 #[.agg cs.toArray,.agg ds.toArray] w fun e w'=>e= .returned (.bool (decide (x=y)))/\Below w.heap.size w w':=by
 obtain ⟨A3,c3,A8,c8,rfl,l3,g3,l8,g8⟩:=kEntry_open hx;obtain ⟨B3,d3,B8,d8,rfl,m3,h3,m8,h8⟩:=kEntry_open hy;have G:=am (And.intro g3 g8);have H:=am (And.intro h3 h8);clear g3 g8 h3 h8 l3 l8 m3 m8 hx hy;go_enter Try.func116,Try.ntmps116;have HB:=am (Below.refl w.heap.size w)
 go_wp2_with (first
 |(go_at_call 134;refine (eqPutS_calls _ _ _ _ _ _ _ ?h1 ?h2).mono ?_;(case h1=>exact Kd.C_below (w:=w) (by first|exact G.out.1 | exact G.out.2) (by repeat (first|with_reducible exact HB.out | with_reducible refine below_alloc ?_ _ | with_reducible refine pw_below_drewN ?_ _)));(case h2=>exact Kd.C_below (w:=w) (by first|exact H.out.1 | exact H.out.2) (by repeat (first|with_reducible exact HB.out | with_reducible refine below_alloc ?_ _ | with_reducible refine pw_below_drewN ?_ _)));rintro e w1 ⟨rfl,hb⟩;replace HB:=am (below_step (w:=w) (by repeat (first|with_reducible exact HB.out | with_reducible refine below_alloc ?_ _ | with_reducible refine pw_below_drewN ?_ _)) hb);have hz:=bsize hb;(try simp at hz);have q0:w.heap.size < w1.heap.size:=(by omega);have q1:w.heap.size+1 < w1.heap.size:=(by omega);clear hz;obtain ⟨hc,hf⟩:=bcell hb;clear hb))
 all_goals (go_ret;refine ⟨ret_bool ?_,(by repeat (first|with_reducible exact HB.out | with_reducible refine below_alloc ?_ _ | with_reducible refine pw_below_drewN ?_ _))⟩)
 all_goals (first|(rw [decide_eq_true];simp_all [Entry_ext];done)|(rw [decide_eq_false];simp_all [Entry_ext];done))
theorem eqTaskS_calls (xs ys:List Task) (A B:Option Addr) (c d:Nat) (w:World) (hx:kTask.C w A xs.length xs) (hy:kTask.C w B ys.length ys):
  Calls Try.prog 82 #[.slice A xs.length c,.slice B ys.length d] w fun e w'=>e= .returned (.bool (decide (xs=ys)))/\Below w.heap.size w w':=by
 have HX:=am hx;have HY:=am hy;have hm:=Kd.C_max hx;clear hx hy;by_cases hl:xs.length=ys.length
 ·have hlb:((xs.length:Int) != (ys.length:Int))=false:=by rw [hl];simp
  have HL:=am hl;clear hl;go_enter Try.func82,Try.ntmps82;go_wp2;have HLB:=am hlb;clear hlb;go_loopw [5] (fun v w'=>∃ k:Nat,k<=xs.length/\v= .int .i64 k/\Aside0 (∀ j,j < k->xs[j]? = ys[j]?)/\Aside0 (Below w.heap.size w w')) (fun v _=>xs.length - (intOf v).toNat)
  case atStart=>exact ⟨0,Nat.zero_le _,rfl,⟨fun j hj=>by omega⟩,⟨Below.refl _ _⟩⟩
  case round=>
   obtain ⟨k,hk,rfl,HJ,HB⟩:=hrel;by_cases hlt:k < xs.length
   ·have hlt2:k < ys.length:=by rw [<-HL.out];exact hlt
    have h0:(0:Int)<=(k:Int):=by omega
    have h1:(k:Int) < (xs.length:Int):=by omega
    have h2:(k:Int) < (ys.length:Int):=by omega
    obtain ⟨ax,cs,rfl,hcl,hK,hcc⟩:=Kd.C_get (Kd.C_below HX.out HB.out) zTask (k:Int) h0 h1;obtain ⟨ay,ds,rfl,hdl,hL,hdd⟩:=Kd.C_get (Kd.C_below HY.out HB.out) zTask (k:Int) h0 h2;simp only [Int.toNat_natCast] at hK hcc hL hdd;have HK:=am hK;have HCC:=am hcc;have HK2:=am hL;have HDD:=am hdd;clear hK hcc hL hdd;go_wp2;refine wp_region_still_tail 8 (by kernel_rfl) (by kernel_rfl) ?_;simp only [List.take_succ_cons,List.take_zero,List.drop_succ_cons,List.drop_zero];iterate 3 still_step
    refine still_load_struct rfl 38 (.tmp 19) rfl ax (k*13) rfl cs _ HCC.out (by rw [hcl];decide) Try.underlying38 rfl (by rw [hcl];kernel_rfl) ?_;iterate 3 still_step
    refine still_load_struct rfl 38 (.tmp 23) rfl ay (k*13) rfl ds _ HDD.out (by rw [hdl];decide) Try.underlying38 rfl (by rw [hdl];kernel_rfl) ?_;refine wpStill_nil ?_;by_cases he:xs.getD k zTask=ys.getD k zTask
    ·have HE:=am he
     clear he;go_wp2_with (go_at_call 115;refine (eqTask_calls _ _ _ _ _ (kTask.K_below (below_drew (Below.refl _ _)) HK.out) (kTask.K_below (below_drew (Below.refl _ _)) HK2.out)).mono ?_;rw [decide_eq_true HE.out];rintro e w1 ⟨rfl,hb⟩;have HB1:=am (below_step (below_drew HB.out) hb);clear hb HB)
     go_roundw
     case rel=>exact ⟨k+1,by omega,by go_num,⟨fun j hj=>agree_step HJ.out hlt hlt2 HE.out hj⟩,HB1⟩
     case measure=>simp [intOf];omega
    ·have HE:=am he
     clear he;go_wp2_with (go_at_call 115;refine (eqTask_calls _ _ _ _ _ (kTask.K_below (below_drew (Below.refl _ _)) HK.out) (kTask.K_below (below_drew (Below.refl _ _)) HK2.out)).mono ?_;rw [decide_eq_false HE.out];rintro e w1 ⟨rfl,hb⟩;have HB1:=am (below_step (below_drew HB.out) hb);clear hb HB)
     go_ret;exact ⟨ret_bool (decide_eq_false (fun h=>HE.out (by rw [h]))).symm,HB1.out⟩
   ·go_wp2
    go_ret;exact ⟨ret_bool (decide_eq_true (agree_all xs ys HL.out (fun j hj=>HJ.out j (by omega)))).symm,HB.out⟩
 ·have hlb:((xs.length:Int) != (ys.length:Int))=true:=by simp;omega
  have hlc:(xs.length != ys.length)=true:=by simp;omega
  have hld:(xs.length == ys.length)=false:=by simp;omega
  have HL:=am hl;clear hl;go_enter Try.func82,Try.ntmps82;go_wp2;go_ret;exact ⟨ret_bool (decide_eq_false (fun h=>HL.out (by rw [h]))).symm,Below.refl _ _⟩
theorem eqEntryS_calls (xs ys:List Entry) (A B:Option Addr) (c d:Nat) (w:World) (hx:kEntry.C w A xs.length xs) (hy:kEntry.C w B ys.length ys):
  Calls Try.prog 83 #[.slice A xs.length c,.slice B ys.length d] w fun e w'=>e= .returned (.bool (decide (xs=ys)))/\Below w.heap.size w w':=by
 have HX:=am hx;have HY:=am hy;have hm:=Kd.C_max hx;clear hx hy;by_cases hl:xs.length=ys.length
 ·have hlb:((xs.length:Int) != (ys.length:Int))=false:=by rw [hl];simp
  have HL:=am hl;clear hl;go_enter Try.func83,Try.ntmps83;go_wp2;have HLB:=am hlb;clear hlb;go_loopw [5] (fun v w'=>∃ k:Nat,k<=xs.length/\v= .int .i64 k/\Aside0 (∀ j,j < k->xs[j]? = ys[j]?)/\Aside0 (Below w.heap.size w w')) (fun v _=>xs.length - (intOf v).toNat)
  case atStart=>exact ⟨0,Nat.zero_le _,rfl,⟨fun j hj=>by omega⟩,⟨Below.refl _ _⟩⟩
  case round=>
   obtain ⟨k,hk,rfl,HJ,HB⟩:=hrel;by_cases hlt:k < xs.length
   ·have hlt2:k < ys.length:=by rw [<-HL.out];exact hlt
    have h0:(0:Int)<=(k:Int):=by omega
    have h1:(k:Int) < (xs.length:Int):=by omega
    have h2:(k:Int) < (ys.length:Int):=by omega
    obtain ⟨ax,cs,rfl,hcl,hK,hcc⟩:=Kd.C_get (Kd.C_below HX.out HB.out) zEntry (k:Int) h0 h1;obtain ⟨ay,ds,rfl,hdl,hL,hdd⟩:=Kd.C_get (Kd.C_below HY.out HB.out) zEntry (k:Int) h0 h2;simp only [Int.toNat_natCast] at hK hcc hL hdd;have HK:=am hK;have HCC:=am hcc;have HK2:=am hL;have HDD:=am hdd;clear hK hcc hL hdd;go_wp2;refine wp_region_still_tail 8 (by kernel_rfl) (by kernel_rfl) ?_;simp only [List.take_succ_cons,List.take_zero,List.drop_succ_cons,List.drop_zero];iterate 3 still_step
    refine still_load_struct rfl 119 (.tmp 19) rfl ax (k*6) rfl cs _ HCC.out (by rw [hcl];decide) Try.underlying119 rfl (by rw [hcl];kernel_rfl) ?_;iterate 3 still_step
    refine still_load_struct rfl 119 (.tmp 23) rfl ay (k*6) rfl ds _ HDD.out (by rw [hdl];decide) Try.underlying119 rfl (by rw [hdl];kernel_rfl) ?_;refine wpStill_nil ?_;by_cases he:xs.getD k zEntry=ys.getD k zEntry
    ·have HE:=am he
     clear he;go_wp2_with (go_at_call 116;refine (eqEntry_calls _ _ _ _ _ (kEntry.K_below (below_drew (Below.refl _ _)) HK.out) (kEntry.K_below (below_drew (Below.refl _ _)) HK2.out)).mono ?_;rw [decide_eq_true HE.out];rintro e w1 ⟨rfl,hb⟩;have HB1:=am (below_step (below_drew HB.out) hb);clear hb HB)
     go_roundw
     case rel=>exact ⟨k+1,by omega,by go_num,⟨fun j hj=>agree_step HJ.out hlt hlt2 HE.out hj⟩,HB1⟩
     case measure=>simp [intOf];omega
    ·have HE:=am he
     clear he;go_wp2_with (go_at_call 116;refine (eqEntry_calls _ _ _ _ _ (kEntry.K_below (below_drew (Below.refl _ _)) HK.out) (kEntry.K_below (below_drew (Below.refl _ _)) HK2.out)).mono ?_;rw [decide_eq_false HE.out];rintro e w1 ⟨rfl,hb⟩;have HB1:=am (below_step (below_drew HB.out) hb);clear hb HB)
     go_ret;exact ⟨ret_bool (decide_eq_false (fun h=>HE.out (by rw [h]))).symm,HB1.out⟩
   ·go_wp2
    go_ret;exact ⟨ret_bool (decide_eq_true (agree_all xs ys HL.out (fun j hj=>HJ.out j (by omega)))).symm,HB.out⟩
 ·have hlb:((xs.length:Int) != (ys.length:Int))=true:=by simp;omega
  have hlc:(xs.length != ys.length)=true:=by simp;omega
  have hld:(xs.length == ys.length)=false:=by simp;omega
  have HL:=am hl;clear hl;go_enter Try.func83,Try.ntmps83;go_wp2;go_ret;exact ⟨ret_bool (decide_eq_false (fun h=>HL.out (by rw [h]))).symm,Below.refl _ _⟩
theorem Sys_ext (x y:Sys):x=y ↔ x.cells=y.cells/\x.tasks=y.tasks/\x.clock=y.clock/\x.log=y.log:=by cases x;cases y;simp
theorem eqSys_calls (x y:Sys) (cs ds:List Value) (w:World) (hx:kSys.K w x cs) (hy:kSys.K w y ds):
  Calls Try.prog 44 #[.agg cs.toArray,.agg ds.toArray] w fun e w'=>e= .returned (.bool (decide (x=y)))/\Below w.heap.size w w':=by
 obtain ⟨A0,c0,A1,c1,A3,c3,rfl,l0,g0,l1,g1,l3,g3⟩:=kSys_open hx;obtain ⟨B0,d0,B1,d1,B3,d3,rfl,m0,h0,m1,h1,m3,h3⟩:=kSys_open hy;have G:=am (And.intro g0 (And.intro g1 g3));have H:=am (And.intro h0 (And.intro h1 h3));clear g0 g1 g3 h0 h1 h3 l0 l1 l3 m0 m1 m3 hx hy;go_enter Try.func44,Try.ntmps44;have HB:=am (Below.refl w.heap.size w)
 go_wp2_with (first
 |(go_at_call 81;refine (eqCellS_calls _ _ _ _ _ _ _ ?h1 ?h2).mono ?_;(case h1=>exact Kd.C_below (w:=w) (by first|exact G.out.1) (by repeat (first|with_reducible exact HB.out | with_reducible refine below_alloc ?_ _ | with_reducible refine pw_below_drewN ?_ _)));(case h2=>exact Kd.C_below (w:=w) (by first|exact H.out.1) (by repeat (first|with_reducible exact HB.out | with_reducible refine below_alloc ?_ _ | with_reducible refine pw_below_drewN ?_ _)));rintro e w1 ⟨rfl,hb⟩;replace HB:=am (below_step (w:=w) (by repeat (first|with_reducible exact HB.out | with_reducible refine below_alloc ?_ _ | with_reducible refine pw_below_drewN ?_ _)) hb);have hz:=bsize hb;(try simp at hz);have q0:w.heap.size < w1.heap.size:=(by omega);have q1:w.heap.size+1 < w1.heap.size:=(by omega);clear hz;obtain ⟨hc,hf⟩:=bcell hb;clear hb)
 |(go_at_call 82;refine (eqTaskS_calls _ _ _ _ _ _ _ ?h1 ?h2).mono ?_;(case h1=>exact Kd.C_below (w:=w) (by first|exact G.out.2.1) (by repeat (first|with_reducible exact HB.out | with_reducible refine below_alloc ?_ _ | with_reducible refine pw_below_drewN ?_ _)));(case h2=>exact Kd.C_below (w:=w) (by first|exact H.out.2.1) (by repeat (first|with_reducible exact HB.out | with_reducible refine below_alloc ?_ _ | with_reducible refine pw_below_drewN ?_ _)));rintro e w1 ⟨rfl,hb⟩;replace HB:=am (below_step (w:=w) (by repeat (first|with_reducible exact HB.out | with_reducible refine below_alloc ?_ _ | with_reducible refine pw_below_drewN ?_ _)) hb);have hz:=bsize hb;(try simp at hz);have q0:w.heap.size < w1.heap.size:=(by omega);have q1:w.heap.size+1 < w1.heap.size:=(by omega);clear hz;obtain ⟨hc,hf⟩:=bcell hb;clear hb)
 |(go_at_call 83;refine (eqEntryS_calls _ _ _ _ _ _ _ ?h1 ?h2).mono ?_;(case h1=>exact Kd.C_below (w:=w) (by first|exact G.out.2.2) (by repeat (first|with_reducible exact HB.out | with_reducible refine below_alloc ?_ _ | with_reducible refine pw_below_drewN ?_ _)));(case h2=>exact Kd.C_below (w:=w) (by first|exact H.out.2.2) (by repeat (first|with_reducible exact HB.out | with_reducible refine below_alloc ?_ _ | with_reducible refine pw_below_drewN ?_ _)));rintro e w1 ⟨rfl,hb⟩;replace HB:=am (below_step (w:=w) (by repeat (first|with_reducible exact HB.out | with_reducible refine below_alloc ?_ _ | with_reducible refine pw_below_drewN ?_ _)) hb);have hz:=bsize hb;(try simp at hz);have q0:w.heap.size < w1.heap.size:=(by omega);have q1:w.heap.size+1 < w1.heap.size:=(by omega);clear hz;obtain ⟨hc,hf⟩:=bcell hb;clear hb))
 all_goals (go_ret;refine ⟨ret_bool ?_,(by repeat (first|with_reducible exact HB.out | with_reducible refine below_alloc ?_ _ | with_reducible refine pw_below_drewN ?_ _))⟩)
 all_goals (first|(rw [decide_eq_true];simp_all [Sys_ext];done)|(rw [decide_eq_false];simp_all [Sys_ext];done))
theorem Deed_ext (x y:Deed):x=y ↔ x.kind=y.kind/\x.a=y.a/\x.b=y.b:=by cases x;cases y;simp
theorem eqDeed_calls (x y:Deed) (cs ds:List Value) (w:World) (hx:kDeed.K w x cs) (hy:kDeed.K w y ds):
  Calls Try.prog 158 #[.agg cs.toArray,.agg ds.toArray] w fun e w'=>e= .returned (.bool (decide (x=y)))/\Below w.heap.size w w':=by
 obtain rfl:=kDeed_open hx;obtain rfl:=kDeed_open hy;clear hx hy;have HB:=am (Below.refl w.heap.size w);go_enter Try.func158,Try.ntmps158;go_wp2_with fail
 all_goals (go_ret;refine ⟨ret_bool ?_,(by repeat (first|with_reducible exact HB.out | with_reducible refine below_alloc ?_ _ | with_reducible refine pw_below_drewN ?_ _))⟩)
 all_goals (first|(rw [decide_eq_true];simp_all [Deed_ext];done)|(rw [decide_eq_false];simp_all [Deed_ext];done))
theorem eqDeedS_calls (xs ys:List Deed) (A B:Option Addr) (c d:Nat) (w:World) (hx:kDeed.C w A xs.length xs) (hy:kDeed.C w B ys.length ys):
  Calls Try.prog 148 #[.slice A xs.length c,.slice B ys.length d] w fun e w'=>e= .returned (.bool (decide (xs=ys)))/\Below w.heap.size w w':=by
 have HX:=am hx;have HY:=am hy;have hm:=Kd.C_max hx;clear hx hy;by_cases hl:xs.length=ys.length
 ·have hlb:((xs.length:Int) != (ys.length:Int))=false:=by rw [hl];simp
  have HL:=am hl;clear hl;go_enter Try.func148,Try.ntmps148;go_wp2;have HLB:=am hlb;clear hlb;go_loopw [5] (fun v w'=>∃ k:Nat,k<=xs.length/\v= .int .i64 k/\Aside0 (∀ j,j < k->xs[j]? = ys[j]?)/\Aside0 (Below w.heap.size w w')) (fun v _=>xs.length - (intOf v).toNat)
  case atStart=>exact ⟨0,Nat.zero_le _,rfl,⟨fun j hj=>by omega⟩,⟨Below.refl _ _⟩⟩
  case round=>
   obtain ⟨k,hk,rfl,HJ,HB⟩:=hrel;by_cases hlt:k < xs.length
   ·have hlt2:k < ys.length:=by rw [<-HL.out];exact hlt
    have h0:(0:Int)<=(k:Int):=by omega
    have h1:(k:Int) < (xs.length:Int):=by omega
    have h2:(k:Int) < (ys.length:Int):=by omega
    obtain ⟨ax,cs,rfl,hcl,hK,hcc⟩:=Kd.C_get (Kd.C_below HX.out HB.out) zDeed (k:Int) h0 h1;obtain ⟨ay,ds,rfl,hdl,hL,hdd⟩:=Kd.C_get (Kd.C_below HY.out HB.out) zDeed (k:Int) h0 h2;simp only [Int.toNat_natCast] at hK hcc hL hdd;have HK:=am hK;have HCC:=am hcc;have HK2:=am hL;have HDD:=am hdd;clear hK hcc hL hdd;go_wp2;refine wp_region_still_tail 8 (by kernel_rfl) (by kernel_rfl) ?_;simp only [List.take_succ_cons,List.take_zero,List.drop_succ_cons,List.drop_zero];iterate 3 still_step
    refine still_load_struct rfl 111 (.tmp 19) rfl ax (k*3) rfl cs _ HCC.out (by rw [hcl];decide) Try.underlying111 rfl (by rw [hcl];kernel_rfl) ?_;iterate 3 still_step
    refine still_load_struct rfl 111 (.tmp 23) rfl ay (k*3) rfl ds _ HDD.out (by rw [hdl];decide) Try.underlying111 rfl (by rw [hdl];kernel_rfl) ?_;refine wpStill_nil ?_;by_cases he:xs.getD k zDeed=ys.getD k zDeed
    ·have HE:=am he
     clear he;go_wp2_with (go_at_call 158;refine (eqDeed_calls _ _ _ _ _ (kDeed.K_below (below_drew (Below.refl _ _)) HK.out) (kDeed.K_below (below_drew (Below.refl _ _)) HK2.out)).mono ?_;rw [decide_eq_true HE.out];rintro e w1 ⟨rfl,hb⟩;have HB1:=am (below_step (below_drew HB.out) hb);clear hb HB)
     go_roundw
     case rel=>exact ⟨k+1,by omega,by go_num,⟨fun j hj=>agree_step HJ.out hlt hlt2 HE.out hj⟩,HB1⟩
     case measure=>simp [intOf];omega
    ·have HE:=am he
     clear he;go_wp2_with (go_at_call 158;refine (eqDeed_calls _ _ _ _ _ (kDeed.K_below (below_drew (Below.refl _ _)) HK.out) (kDeed.K_below (below_drew (Below.refl _ _)) HK2.out)).mono ?_;rw [decide_eq_false HE.out];rintro e w1 ⟨rfl,hb⟩;have HB1:=am (below_step (below_drew HB.out) hb);clear hb HB)
     go_ret;exact ⟨ret_bool (decide_eq_false (fun h=>HE.out (by rw [h]))).symm,HB1.out⟩
   ·go_wp2
    go_ret;exact ⟨ret_bool (decide_eq_true (agree_all xs ys HL.out (fun j hj=>HJ.out j (by omega)))).symm,HB.out⟩
 ·have hlb:((xs.length:Int) != (ys.length:Int))=true:=by simp;omega
  have hlc:(xs.length != ys.length)=true:=by simp;omega
  have hld:(xs.length == ys.length)=false:=by simp;omega
  have HL:=am hl;clear hl;go_enter Try.func148,Try.ntmps148;go_wp2;go_ret;exact ⟨ret_bool (decide_eq_false (fun h=>HL.out (by rw [h]))).symm,Below.refl _ _⟩
theorem Act_ext (x y:Act):x=y ↔ x.kind=y.kind/\x.deeds=y.deeds/\x.kids=y.kids/\x.reg=y.reg:=by cases x;cases y;simp
theorem eqAct_calls (x y:Act) (cs ds:List Value) (w:World) (hx:kAct.K w x cs) (hy:kAct.K w y ds):
  Calls Try.prog 133 #[.agg cs.toArray,.agg ds.toArray] w fun e w'=>e= .returned (.bool (decide (x=y)))/\Below w.heap.size w w':=by
 obtain ⟨A3,c3,A8,c8,rfl,l3,g3,l8,g8⟩:=kAct_open hx;obtain ⟨B3,d3,B8,d8,rfl,m3,h3,m8,h8⟩:=kAct_open hy;have G:=am (And.intro g3 g8);have H:=am (And.intro h3 h8);clear g3 g8 h3 h8 l3 l8 m3 m8 hx hy;go_enter Try.func133,Try.ntmps133;have HB:=am (Below.refl w.heap.size w)
 go_wp2_with (first
 |(go_at_call 148;refine (eqDeedS_calls _ _ _ _ _ _ _ ?h1 ?h2).mono ?_;(case h1=>exact Kd.C_below (w:=w) (by first|exact G.out.1) (by repeat (first|with_reducible exact HB.out | with_reducible refine below_alloc ?_ _ | with_reducible refine pw_below_drewN ?_ _)));(case h2=>exact Kd.C_below (w:=w) (by first|exact H.out.1) (by repeat (first|with_reducible exact HB.out | with_reducible refine below_alloc ?_ _ | with_reducible refine pw_below_drewN ?_ _)));rintro e w1 ⟨rfl,hb⟩;replace HB:=am (below_step (w:=w) (by repeat (first|with_reducible exact HB.out | with_reducible refine below_alloc ?_ _ | with_reducible refine pw_below_drewN ?_ _)) hb);have hz:=bsize hb;(try simp at hz);have q0:w.heap.size < w1.heap.size:=(by omega);have q1:w.heap.size+1 < w1.heap.size:=(by omega);clear hz;obtain ⟨hc,hf⟩:=bcell hb;clear hb)
 |(go_at_call 79;refine (eqIntS_calls _ _ _ _ _ _ _ ?h1 ?h2).mono ?_;(case h1=>exact Kd.C_below (w:=w) (by first|exact G.out.2) (by repeat (first|with_reducible exact HB.out | with_reducible refine below_alloc ?_ _ | with_reducible refine pw_below_drewN ?_ _)));(case h2=>exact Kd.C_below (w:=w) (by first|exact H.out.2) (by repeat (first|with_reducible exact HB.out | with_reducible refine below_alloc ?_ _ | with_reducible refine pw_below_drewN ?_ _)));rintro e w1 ⟨rfl,⟨n,rfl⟩⟩))
 all_goals (go_ret;refine ⟨ret_bool ?_,(by repeat (first|with_reducible exact HB.out | with_reducible refine below_alloc ?_ _ | with_reducible refine pw_below_drewN ?_ _))⟩)
 all_goals (first|(rw [decide_eq_true];simp_all [Act_ext];done)|(rw [decide_eq_false];simp_all [Act_ext];done))
theorem eqActS_calls (xs ys:List Act) (A B:Option Addr) (c d:Nat) (w:World) (hx:kAct.C w A xs.length xs) (hy:kAct.C w B ys.length ys):
  Calls Try.prog 113 #[.slice A xs.length c,.slice B ys.length d] w fun e w'=>e= .returned (.bool (decide (xs=ys)))/\Below w.heap.size w w':=by
 have HX:=am hx;have HY:=am hy;have hm:=Kd.C_max hx;clear hx hy;by_cases hl:xs.length=ys.length
 ·have hlb:((xs.length:Int) != (ys.length:Int))=false:=by rw [hl];simp
  have HL:=am hl;clear hl;go_enter Try.func113,Try.ntmps113;go_wp2;have HLB:=am hlb;clear hlb;go_loopw [5] (fun v w'=>∃ k:Nat,k<=xs.length/\v= .int .i64 k/\Aside0 (∀ j,j < k->xs[j]? = ys[j]?)/\Aside0 (Below w.heap.size w w')) (fun v _=>xs.length - (intOf v).toNat)
  case atStart=>exact ⟨0,Nat.zero_le _,rfl,⟨fun j hj=>by omega⟩,⟨Below.refl _ _⟩⟩
  case round=>
   obtain ⟨k,hk,rfl,HJ,HB⟩:=hrel;by_cases hlt:k < xs.length
   ·have hlt2:k < ys.length:=by rw [<-HL.out];exact hlt
    have h0:(0:Int)<=(k:Int):=by omega
    have h1:(k:Int) < (xs.length:Int):=by omega
    have h2:(k:Int) < (ys.length:Int):=by omega
    obtain ⟨ax,cs,rfl,hcl,hK,hcc⟩:=Kd.C_get (Kd.C_below HX.out HB.out) zAct (k:Int) h0 h1;obtain ⟨ay,ds,rfl,hdl,hL,hdd⟩:=Kd.C_get (Kd.C_below HY.out HB.out) zAct (k:Int) h0 h2;simp only [Int.toNat_natCast] at hK hcc hL hdd;have HK:=am hK;have HCC:=am hcc;have HK2:=am hL;have HDD:=am hdd;clear hK hcc hL hdd;go_wp2;refine wp_region_still_tail 8 (by kernel_rfl) (by kernel_rfl) ?_;simp only [List.take_succ_cons,List.take_zero,List.drop_succ_cons,List.drop_zero];iterate 3 still_step
    refine still_load_struct rfl 108 (.tmp 19) rfl ax (k*4) rfl cs _ HCC.out (by rw [hcl];decide) Try.underlying108 rfl (by rw [hcl];kernel_rfl) ?_;iterate 3 still_step
    refine still_load_struct rfl 108 (.tmp 23) rfl ay (k*4) rfl ds _ HDD.out (by rw [hdl];decide) Try.underlying108 rfl (by rw [hdl];kernel_rfl) ?_;refine wpStill_nil ?_;by_cases he:xs.getD k zAct=ys.getD k zAct
    ·have HE:=am he
     clear he;go_wp2_with (go_at_call 133;refine (eqAct_calls _ _ _ _ _ (kAct.K_below (below_drew (Below.refl _ _)) HK.out) (kAct.K_below (below_drew (Below.refl _ _)) HK2.out)).mono ?_;rw [decide_eq_true HE.out];rintro e w1 ⟨rfl,hb⟩;have HB1:=am (below_step (below_drew HB.out) hb);clear hb HB)
     go_roundw
     case rel=>exact ⟨k+1,by omega,by go_num,⟨fun j hj=>agree_step HJ.out hlt hlt2 HE.out hj⟩,HB1⟩
     case measure=>simp [intOf];omega
    ·have HE:=am he
     clear he;go_wp2_with (go_at_call 133;refine (eqAct_calls _ _ _ _ _ (kAct.K_below (below_drew (Below.refl _ _)) HK.out) (kAct.K_below (below_drew (Below.refl _ _)) HK2.out)).mono ?_;rw [decide_eq_false HE.out];rintro e w1 ⟨rfl,hb⟩;have HB1:=am (below_step (below_drew HB.out) hb);clear hb HB)
     go_ret;exact ⟨ret_bool (decide_eq_false (fun h=>HE.out (by rw [h]))).symm,HB1.out⟩
   ·go_wp2
    go_ret;exact ⟨ret_bool (decide_eq_true (agree_all xs ys HL.out (fun j hj=>HJ.out j (by omega)))).symm,HB.out⟩
 ·have hlb:((xs.length:Int) != (ys.length:Int))=true:=by simp;omega
  have hlc:(xs.length != ys.length)=true:=by simp;omega
  have hld:(xs.length == ys.length)=false:=by simp;omega
  have HL:=am hl;clear hl;go_enter Try.func113,Try.ntmps113;go_wp2;go_ret;exact ⟨ret_bool (decide_eq_false (fun h=>HL.out (by rw [h]))).symm,Below.refl _ _⟩
theorem eqActSS_calls (xs ys:List (List Act)) (A B:Option Addr) (c d:Nat) (w:World) (hx:(Kd.slice 108 kAct).C w A xs.length xs) (hy:(Kd.slice 108 kAct).C w B ys.length ys):
  Calls Try.prog 80 #[.slice A xs.length c,.slice B ys.length d] w fun e w'=>e= .returned (.bool (decide (xs=ys)))/\Below w.heap.size w w':=by
 have HX:=am hx;have HY:=am hy;have hm:=Kd.C_max hx;clear hx hy;by_cases hl:xs.length=ys.length
 ·have hlb:((xs.length:Int) != (ys.length:Int))=false:=by rw [hl];simp
  have HL:=am hl;clear hl;go_enter Try.func80,Try.ntmps80;go_wp2;have HLB:=am hlb;clear hlb;go_loopw [5] (fun v w'=>∃ k:Nat,k<=xs.length/\v= .int .i64 k/\Aside0 (∀ j,j < k->xs[j]? = ys[j]?)/\Aside0 (Below w.heap.size w w')) (fun v _=>xs.length - (intOf v).toNat)
  case atStart=>exact ⟨0,Nat.zero_le _,rfl,⟨fun j hj=>by omega⟩,⟨Below.refl _ _⟩⟩
  case round=>
   obtain ⟨k,hk,rfl,HJ,HB⟩:=hrel;by_cases hlt:k < xs.length
   ·have hlt2:k < ys.length:=by rw [<-HL.out];exact hlt
    have h0:(0:Int)<=(k:Int):=by omega
    have h1:(k:Int) < (xs.length:Int):=by omega
    have h2:(k:Int) < (ys.length:Int):=by omega
    obtain ⟨ax,cs,rfl,hcl,hK,hcc⟩:=Kd.C_get (Kd.C_below HX.out HB.out) ([]:List Act) (k:Int) h0 h1;obtain ⟨ay,ds,rfl,hdl,hL,hdd⟩:=Kd.C_get (Kd.C_below HY.out HB.out) ([]:List Act) (k:Int) h0 h2;simp only [Int.toNat_natCast] at hK hcc hL hdd;obtain ⟨x,hxx⟩:∃ x,x=xs.getD k ([]:List Act):=⟨_,rfl⟩;obtain ⟨y,hyy⟩:∃ y,y=ys.getD k ([]:List Act):=⟨_,rfl⟩;rw [<-hxx] at hK;rw [<-hyy] at hL;obtain ⟨Aa,ca,rfl,-,ga⟩:=hK;obtain ⟨Ba,da,rfl,-,gb⟩:=hL;have p1:=hcc 0 _ rfl;have p2:=hdd 0 _ rfl;simp only [show (Kd.slice 108 kAct).sz=1 from rfl,Nat.mul_one,Nat.add_zero] at p1 p2;have HK:=am ga;have HK2:=am gb;have HXX:=am hxx;have HYY:=am hyy;clear hcc hdd ga gb hcl hdl hxx hyy;go_wp2;refine wp_region_still_tail 8 (by kernel_rfl) (by kernel_rfl) ?_;simp only [List.take_succ_cons,List.take_zero,List.drop_succ_cons,List.drop_zero];iterate 8 still_step
    refine wpStill_nil ?_;clear p1 p2;by_cases he:x=y
    ·have HE:=am he
     clear he;go_wp2_with (go_at_call 113;refine (eqActS_calls _ _ _ _ _ _ _ (Kd.C_below HK.out (below_drew (Below.refl _ _))) (Kd.C_below HK2.out (below_drew (Below.refl _ _)))).mono ?_;rw [decide_eq_true HE.out];rintro e w1 ⟨rfl,hb⟩;have HB1:=am (below_step (below_drew HB.out) hb);clear hb HB)
     go_roundw
     case rel=>exact ⟨k+1,by omega,by go_num,⟨fun j hj=>agree_step HJ.out hlt hlt2 (HXX.out ▸ HYY.out ▸ HE.out) hj⟩,HB1⟩
     case measure=>simp [intOf];omega
    ·have HE:=am he
     clear he;go_wp2_with (go_at_call 113;refine (eqActS_calls _ _ _ _ _ _ _ (Kd.C_below HK.out (below_drew (Below.refl _ _))) (Kd.C_below HK2.out (below_drew (Below.refl _ _)))).mono ?_;rw [decide_eq_false HE.out];rintro e w1 ⟨rfl,hb⟩;have HB1:=am (below_step (below_drew HB.out) hb);clear hb HB)
     go_ret;exact ⟨ret_bool (decide_eq_false (fun h=>HE.out (by rw [HXX.out,HYY.out,h]))).symm,HB1.out⟩
   ·go_wp2
    go_ret;exact ⟨ret_bool (decide_eq_true (agree_all xs ys HL.out (fun j hj=>HJ.out j (by omega)))).symm,HB.out⟩
 ·have hlb:((xs.length:Int) != (ys.length:Int))=true:=by simp;omega
  have hlc:(xs.length != ys.length)=true:=by simp;omega
  have hld:(xs.length == ys.length)=false:=by simp;omega
  have HL:=am hl;clear hl;go_enter Try.func80,Try.ntmps80;go_wp2;go_ret;exact ⟨ret_bool (decide_eq_false (fun h=>HL.out (by rw [h]))).symm,Below.refl _ _⟩
theorem Prog_ext (x y:Prog):x=y ↔ x.cells=y.cells/\x.bodies=y.bodies:=by cases x;cases y;simp
theorem eqProg_calls (x y:Prog) (cs ds:List Value) (w:World) (hx:kProg.K w x cs) (hy:kProg.K w y ds):
  Calls Try.prog 43 #[.agg cs.toArray,.agg ds.toArray] w fun e w'=>e= .returned (.bool (decide (x=y)))/\Below w.heap.size w w':=by
 obtain ⟨A0,c0,A1,c1,rfl,l0,g0,l1,g1⟩:=kProg_open hx;obtain ⟨B0,d0,B1,d1,rfl,m0,h0,m1,h1⟩:=kProg_open hy;have G:=am (And.intro g0 g1);have H:=am (And.intro h0 h1);clear g0 g1 h0 h1 l0 l1 m0 m1 hx hy;go_enter Try.func43,Try.ntmps43;have HB:=am (Below.refl w.heap.size w)
 go_wp2_with (first
 |(go_at_call 79;refine (eqIntS_calls _ _ _ _ _ _ _ ?h1 ?h2).mono ?_;(case h1=>exact Kd.C_below (w:=w) (by first|exact G.out.1) (by repeat (first|with_reducible exact HB.out | with_reducible refine below_alloc ?_ _ | with_reducible refine pw_below_drewN ?_ _)));(case h2=>exact Kd.C_below (w:=w) (by first|exact H.out.1) (by repeat (first|with_reducible exact HB.out | with_reducible refine below_alloc ?_ _ | with_reducible refine pw_below_drewN ?_ _)));rintro e w1 ⟨rfl,⟨n,rfl⟩⟩)
 |(go_at_call 80;refine (eqActSS_calls _ _ _ _ _ _ _ ?h1 ?h2).mono ?_;(case h1=>exact Kd.C_below (w:=w) (by first|exact G.out.2) (by repeat (first|with_reducible exact HB.out | with_reducible refine below_alloc ?_ _ | with_reducible refine pw_below_drewN ?_ _)));(case h2=>exact Kd.C_below (w:=w) (by first|exact H.out.2) (by repeat (first|with_reducible exact HB.out | with_reducible refine below_alloc ?_ _ | with_reducible refine pw_below_drewN ?_ _)));rintro e w1 ⟨rfl,hb⟩;replace HB:=am (below_step (w:=w) (by repeat (first|with_reducible exact HB.out | with_reducible refine below_alloc ?_ _ | with_reducible refine pw_below_drewN ?_ _)) hb);have hz:=bsize hb;(try simp at hz);have q0:w.heap.size < w1.heap.size:=(by omega);have q1:w.heap.size+1 < w1.heap.size:=(by omega);clear hz;obtain ⟨hc,hf⟩:=bcell hb;clear hb))
 all_goals (go_ret;refine ⟨ret_bool ?_,(by repeat (first|with_reducible exact HB.out | with_reducible refine below_alloc ?_ _ | with_reducible refine pw_below_drewN ?_ _))⟩)
 all_goals (first|(rw [decide_eq_true];simp_all [Prog_ext];done)|(rw [decide_eq_false];simp_all [Prog_ext];done))
theorem sumOf_get {α:Type} (f:α->Nat) (l:List α) {k:Nat} (z:α) (h:k < l.length):f (l.getD k z)<=sumOf f l:=by
 have h1:=sumOf_take f l k z h;have h2:=sumOf_le f l (k+1);omega
theorem sumOf_mem {α:Type} (f:α->Nat) {l:List α} {x:α} (h:x ∈ l):f x<=sumOf f l:=by
 obtain ⟨k,hk,rfl⟩:=List.mem_iff_getElem.1 h
 have:=sumOf_get f l l[k] hk
 simpa [hk] using this
theorem sysSz_of {s:Sys} (h:szS s<=1048576):SysSz s:=by
 unfold szS at h;refine ⟨by omega,by omega,by omega,fun i hi=> ?_,fun i hi=> ?_⟩
 ·have h1:szT (taskAt s.tasks i)<=sumOf szT s.tasks:=sumOf_get szT s.tasks zTask hi
  have h2:szT (taskAt s.tasks i)=(taskAt s.tasks i).regs.length+(taskAt s.tasks i).old.length+(taskAt s.tasks i).reads.length+(taskAt s.tasks i).puts.length:=rfl;refine ⟨by omega,by omega,by omega,by omega⟩
 ·have h1:szE (entryAt s.log i)<=sumOf szE s.log:=sumOf_get szE s.log zEntry hi
  have h2:szE (entryAt s.log i)=(entryAt s.log i).reads.length+(entryAt s.log i).puts.length:=rfl;exact ⟨by omega,by omega⟩
theorem progSz_of {p:Prog} (h:szP p<=1048576):ProgSz p:=by
 unfold szP at h;refine ⟨by omega,by omega,fun b hb=> ?_⟩;have h1:=sumOf_mem szAS hb;have h3:szAS b=b.length+sumOf szA b:=rfl;refine ⟨by omega,fun a ha=> ?_⟩;have h2:=sumOf_mem szA ha;have h4:szA a=a.deeds.length+a.kids.length:=rfl;exact ⟨by omega,by omega⟩
theorem exEF {q:Prop} (h:q:=by
  go_wp2;go_ret;exact ⟨rfl,M.out.below⟩):q:=h
theorem fnExactSysOk_calls (p:Prog) (pcs:List Value) (s:Sys) (cs:List Value) (w:World) (hp:kProgL.K w p pcs) (hs:kSysL.K w s cs):
  Calls Try.prog 14 #[.agg pcs.toArray,.agg cs.toArray] w fun e w'=>e= .returned (.bool true)/\Below w.heap.size w w':=by
 have HPL:=am hp;have HSL:=am hs;obtain ⟨Ac,cc,Ab,cb,rfl,-⟩:=kProgL_open hp;obtain ⟨A0,c0,A1,c1,A3,c3,rfl,-⟩:=kSysL_open hs;have M:=am (Own.nil w);have C:=M.out.cl;clear hp hs;go_enter Try.func14,Try.ntmps14
 go_upto_if 14 with (first
 |((first|with_reducible refine gB ?_ | with_reducible refine gA ?_);refine oB rfl M.out ?_;clear M C;intro g W M C;simp only [Cl] at C)
 |((with_reducible refine gL ?_);refine oL rfl rfl M.out ?_)
 |(go_at_call 39;refine (szProg_calls p _ 1048576 _ (kProgL.K_below M.out.below HPL.out) (by omega) (by omega)).mono ?_;rintro e W ⟨r,rfl,hr,hb⟩;have HR:=am hr;clear hr;replace M:=am (M.out.step hb);clear C;have C:=M.out.cl;simp only [Cl] at C;clear hb))
 by_cases hneg:r < 0
 ·have yr:decide (r < 0)=true:=decide_eq_true hneg
  exact exEF
 have yr:decide (r < 0)=false:=decide_eq_false hneg;have hr0:0<=r:=by omega
 have hr1:r<=1048576:=by have:=HR.out;unfold Sz at this;omega
 have HP:=am (show szP p<=1048576 by have:=HR.out;unfold Sz at this;omega);clear hneg
 go_upto_if 19 with (first
 |((with_reducible refine gL ?_);refine oL rfl rfl M.out ?_)
 |(go_at_call 40;refine (szSys_calls s _ r _ (kSysL.K_below M.out.below HSL.out) hr0 hr1).mono ?_;rintro e W ⟨r2,rfl,hr2,hb⟩;have HR2:=am hr2;clear hr2;replace M:=am (M.out.step hb);clear C;have C:=M.out.cl;simp only [Cl] at C;clear hb))
 by_cases hneg:r2 < 0
 ·have yr2:decide (r2 < 0)=true:=decide_eq_true hneg
  exact exEF
 have yr2:decide (r2 < 0)=false:=decide_eq_false hneg;have HS:=am (show szS s<=1048576 by have:=HR2.out;unfold Sz at this;omega);have HPZ:=am (progSz_of HP.out);have HSZ:=am (sysSz_of HS.out);clear hneg;simp only [yr2]
 go_wp2_with (first
  | fail)
 refine dS M.out ?_;clear M C;intro W M;refine dN [0,2] M.out ?_;refine sL rfl rfl ?_;refine sL rfl rfl ?_;refine stillS_nil ?_;refine dC 1 rfl ?_;refine (toProg_calls p _ _ (kProgL.K_below M.out.below HPL.out) HP.out).mono ?_;rintro e W2 ⟨d1,rfl,hm,hb⟩;have K1:=am (kProg.K_of_M hm);clear hm;replace M:=am (M.out.step hb);clear hb;refine ⟨_,rfl,M,dA ?_⟩;refine dC 3 rfl ?_;refine (toSys_calls s _ _ (kSysL.K_below M.out.below HSL.out) HS.out).mono ?_;rintro e W2 ⟨d2,rfl,hm,hb⟩;have K2:=am (kSys.K_of_M hm);replace K1:=am (kProg.K_below hb K1.out);clear hm;replace M:=am (M.out.step hb);clear hb;refine ⟨_,rfl,M,dA ?_⟩;refine dC 4 rfl ?_;refine (sysOk_calls p d1 s d2 _ K1.out K2.out HPZ.out HSZ.out).mono ?_;rintro e W2 ⟨rfl,hb⟩;clear K1 K2;replace M:=am (M.out.step hb);clear hb;refine ⟨_,rfl,M,dA ?_⟩;refine dN [5] M.out ?_;iterate 1 (first|refine sP rfl ?_ | refine sG rfl ?_ | refine sU rfl ?_ | refine sN rfl ?_)
 refine stillS_nil ?_;refine dD ?_;obtain ⟨ok,hok⟩:∃ b,sysOk p s=b:=⟨_,rfl⟩;simp only [hok];have YO:=am hok;clear hok;have C:=M.out.cl;simp only [Cl] at C;have HB0:=am (Below.refl w.heap.size w)
 go_upto_region 10 with (first
 |((first|with_reducible refine gB ?_ | with_reducible refine gA ?_);refine oB rfl M.out ?_;clear M C;intro g W M C;simp only [Cl] at C)
 |((with_reducible refine gS ?_);refine oS rfl rfl rfl M.out ?_;clear M C;intro W M C;simp only [Cl] at C)
 |((with_reducible refine gL ?_);refine oL rfl rfl M.out ?_)
 |(go_at_call 41;refine (toProg_calls p _ _ (kProgL.K_below M.out.below HPL.out) HP.out).mono ?_;rintro e W2 ⟨ds,rfl,hm,hb⟩;have hB:=below_step M.out.below hb;replace HB0:=am (below_step HB0.out hB);replace HPL:=am (kProgL.K_below hB HPL.out);replace HSL:=am (kSysL.K_below hB HSL.out);have HPX:=am (kProg.K_of_M hm);obtain ⟨Xc,xc,Xb,xb,rfl,-⟩:=kProg_open HPX.out;clear hm hB;have M1:=am (M.out.step hb).rebase;simp only [List.map_cons,List.map_nil,En.old] at M1;clear M C hb;have M:=M1;clear M1;have C:=M.out.cl;simp only [Cl] at C))
 go_upto_region 11 with (first
 |((first|with_reducible refine gB ?_ | with_reducible refine gA ?_);refine oB rfl M.out ?_;clear M C;intro g W M C;simp only [Cl] at C)
 |((with_reducible refine gS ?_);refine oS rfl rfl rfl M.out ?_;clear M C;intro W M C;simp only [Cl] at C)
 |((with_reducible refine gL ?_);refine oL rfl rfl M.out ?_)
 |(go_at_call 42;refine (toSys_calls s _ _ (kSysL.K_below M.out.below HSL.out) HS.out).mono ?_;rintro e W2 ⟨ds,rfl,hm,hb⟩;have hB:=below_step M.out.below hb;replace HB0:=am (below_step HB0.out hB);replace HPL:=am (kProgL.K_below hB HPL.out);replace HSL:=am (kSysL.K_below hB HSL.out);replace HPX:=am (kProg.K_below hB HPX.out);have HSX:=am (kSys.K_of_M hm);obtain ⟨X0,x0,X1,x1,X3,x3,rfl,-⟩:=kSys_open HSX.out;clear hm hB;have M1:=am (M.out.step hb).rebase;simp only [List.map_cons,List.map_nil,En.old] at M1;clear M C hb;have M:=M1;clear M1;have C:=M.out.cl;simp only [Cl] at C))
 go_upto_region 14 with (first
 |((with_reducible refine gL ?_);refine oL rfl rfl M.out ?_)
 |(go_at_call 38;refine oCb M.out (isysOk_calls p _ s _ _ (kProg.K_below M.out.below HPX.out) (kSys.K_below M.out.below HSX.out) HPZ.out HSZ.out) ((isys_eq p s).trans YO.out) ?_;clear M C;intro W M C;simp only [Cl] at C))
 refine dS M.out ?_;clear M C;intro W M;refine dN [0,1] M.out ?_;refine sL rfl rfl ?_;refine sL rfl rfl ?_;refine stillS_nil ?_;refine dC 2 rfl ?_;refine (toProg_calls p _ _ (kProgL.K_below M.out.below HPL.out) HP.out).mono ?_;rintro e W2 ⟨d1,rfl,hm,hb⟩;have K1:=am (kProg.K_of_M hm);clear hm;replace M:=am (M.out.step hb);clear hb;refine ⟨_,rfl,M,dA ?_⟩;refine dC 3 rfl ?_;refine oCb M.out (eqProg_calls p p _ d1 _ (kProg.K_below M.out.below HPX.out) K1.out) (decide_eq_true rfl) ?_;intro W M C;clear K1;refine ⟨_,rfl,M,dA ?_⟩;refine dN [4] M.out ?_;iterate 1 (first|refine sP rfl ?_ | refine sG rfl ?_ | refine sU rfl ?_ | refine sN rfl ?_)
 refine stillS_nil ?_;refine dD ?_;clear C;have C:=M.out.cl;simp only [Cl] at C
 go_wp2_with (first
  | fail)
 refine dS M.out ?_;clear M C;intro W M;refine dN [0,1] M.out ?_;refine sL rfl rfl ?_;refine sL rfl rfl ?_;refine stillS_nil ?_;refine dC 2 rfl ?_;refine (toSys_calls s _ _ (kSysL.K_below M.out.below HSL.out) HS.out).mono ?_;rintro e W2 ⟨d2,rfl,hm,hb⟩;have K2:=am (kSys.K_of_M hm);clear hm;replace M:=am (M.out.step hb);clear hb;refine ⟨_,rfl,M,dA ?_⟩;refine dC 3 rfl ?_;refine oCb M.out (eqSys_calls s s _ d2 _ (kSys.K_below M.out.below HSX.out) K2.out) (decide_eq_true rfl) ?_;intro W M C;clear K2;refine ⟨_,rfl,M,dA ?_⟩;refine dN [4] M.out ?_;iterate 1 (first|refine sP rfl ?_ | refine sG rfl ?_ | refine sU rfl ?_ | refine sN rfl ?_)
 refine stillS_nil ?_;refine dD ?_;clear C;have C:=M.out.cl;simp only [Cl] at C;go_wp2;go_ret;exact ⟨rfl,below_step HB0.out M.out.below⟩
end Go.Proofs.Ytimamoimphjakaa.Eq
namespace Go.Proofs.Ytimamoimphjakaa.Eq
open Go.RowKit Go.Proofs.YtimamoimphjakaaW.PrintWords Go.Proofs.YtimamoimphjakaaW.PrintLast
open Go.ChangeShapes Go.WideShapes Go.Deep
section
variable {H:Type} (enc:TypeId × Value->H) (P:Program) (w:World) (base:Nat) (spare:Nat->Bool) (held:Bool)
def Opens {α:Type} (t:Nat) (d:Kd α):Prop:=∀ (fuel:Nat) (cs:List Value) (x:DataW H × List MemPlace),DataW.trod enc P w base spare held fuel t cs=some x->∃ a,d.K w a cs
variable {enc P w base spare held}
theorem opens_int {t:Nat} (ht:P.underlying t=some (.int .i64)):Opens enc P w base spare held t (Kd.int .i64):=fun fuel cs x h=>by
 obtain ⟨n,rfl,_⟩:=DataW.trod_int ht h;exact ⟨n,rfl⟩
theorem choose_list {α:Type} {p:Nat->α->Prop}:∀ (n:Nat),(∀ i,i < n->∃ a,p i a)->∃ xs:List α,xs.length=n/\∀ i a,xs[i]? = some a->p i a
 | 0,_=>⟨[],rfl,fun i a h=>by simp at h⟩
 | n+1,h=>by
  obtain ⟨xs,h1,h2⟩:=choose_list n (fun i hi=>h i (by omega));obtain ⟨a,ha⟩:=h n (by omega);refine ⟨xs ++ [a],by simp [h1],fun i b hb=> ?_⟩;rw [List.getElem?_append] at hb;split at hb
  ·exact h2 i b hb
  ·have:i=n:=by
    have:=(List.getElem?_eq_some_iff.1 hb).1
    simp at this;omega
   subst this;rw [h1,Nat.sub_self] at hb;cases hb;exact ha
theorem opens_slice {α:Type} {t e e':Nat} {d:Kd α} (ht:P.underlying t=some (.slice e)) (hC:P.cellsOf e=d.sz) (hE:Opens enc P w base spare held e d):Opens enc P w base spare held t (Kd.slice e' d):=fun fuel cs x h=>by
 rcases open_slice ht h with ⟨rfl,_⟩ | ⟨a,len,cap,m,n,D,Pl,rfl,_,hl,hm,hmm,_,hi⟩
 ·exact ⟨[],none,0,rfl,Nat.le_refl _,Kd.C_nil d w⟩
 ·have hlm:len<=m:=by rw [hmm];split <;> omega
  obtain ⟨xs,hx1,hx2⟩:=choose_list (p:=fun i (b:α)=>∃ cs',w.cells? base (a.add (i*P.cellsOf e)) (P.cellsOf e)=some cs'/\d.K w b cs') len (fun i hlt=>by
   obtain ⟨cs',h1,h2⟩:=hi i (by omega);obtain ⟨b,hb⟩:=hE _ _ _ h2;exact ⟨b,cs',h1,hb⟩)
  subst hx1;refine ⟨xs,some a,cap,rfl,hl,rfl,by unfold maxLen at hm;omega,fun _=>⟨a,rfl,fun j p hj=> ?_⟩⟩;obtain ⟨cs',h1,h2⟩:=hx2 j p hj;obtain ⟨_,hcl,hat⟩:=World.cells?_some h1;refine ⟨cs',hcl.trans hC,h2,fun i u hu=> ?_⟩;have hil:i < cs'.length:=(List.getElem?_eq_some_iff.1 hu).1;have:=hat i (by omega);rw [hu] at this;rw [<-this,<-hC,Eq.add_add_]
def OpensAt {β:Type} (enc:TypeId × Value->H) (P:Program) (w:World) (base:Nat) (spare:Nat->Bool) (held:Bool) (ts:List Nat) (d:Kd β):Prop:=
 ∀ (n:Nat) (cs:List Value),cs.length=ts.length->(∀ j t,ts[j]? = some t->∃ x,DataW.trod enc P w base spare held n t ((cs.drop j).take 1)=some x)->∃ a,d.K w a cs
theorem opensAt_one {β:Type} {t:Nat} {d:Kd β} (h:Opens enc P w base spare held t d):OpensAt enc P w base spare held [t] d:=fun n cs hl hj=>by
 obtain ⟨x,hx⟩:=hj 0 t rfl;rw [List.drop_zero,List.take_of_length_le (by simp at hl;omega)] at hx;exact h _ _ _ hx
theorem opensAt_cons {β γ:Type} {t:Nat} {ts:List Nat} {d:Kd β} {d':Kd γ} (h:Opens enc P w base spare held t d) (k:OpensAt enc P w base spare held ts d'):OpensAt enc P w base spare held (t :: ts) (Kd.pair d d'):=fun n cs hl hj=>by
 match cs,hl with
 | c :: cs,hl=>
  obtain ⟨x,hx⟩:=hj 0 t rfl;obtain ⟨a,ha⟩:=h _ _ _ hx;obtain ⟨b,hb⟩:=k n cs (by simpa using hl) (fun j t' ht=>by simpa using hj (j+1) t' (by simpa using ht));exact ⟨(a,b), [c],cs,rfl,by simpa using ha,hb⟩
theorem opens_struct {β γ:Type} {t:Nat} {fs:Array Field} {ts:List Nat} {d:Kd γ} {f:β->γ} (g:γ->β) (hfg:∀ c,f (g c)=c) (ht:P.underlying t=some (.struct fs)) (hone:oneCellFields P fs=true) (hC:P.cellsOf t=fs.size) (hts:fs.toList.map (·.type)=ts)
  (h:OpensAt enc P w base spare held ts d):Opens enc P w base spare held t (Kd.iso d f):=fun fuel cs x hx=>by
 obtain ⟨xs,n,_,_,hlen,hxl,hg⟩:=DataW.trod_struct ht hx;have hl:ts.length=fs.size:=by rw [<-hts];simp
 obtain ⟨c,hc⟩:=h n cs (by rw [hlen,hC,hl]) (fun j t' hj=>by
  rw [<-hts,List.getElem?_map,Option.map_eq_some_iff] at hj;obtain ⟨fl,hfl,rfl⟩:=hj;have hfl':fs[j]? = some fl:=by simpa using hfl
  obtain ⟨h1,h2⟩:=hone_of hone j fl hfl'
  have:=hg j fl hfl'
  rw [h1,h2] at this;have hj2:j < fs.size:=(Array.getElem?_eq_some_iff.1 hfl').1;exact ⟨xs[j]'(by omega),this.trans (List.getElem?_eq_getElem (by omega))⟩)
 exact ⟨g c,show d.K w (f (g c)) cs by rw [hfg];exact hc⟩
end
section
variable {H:Type} {enc:TypeId × Value->H} {w:World} {base:Nat} {spare:Nat->Bool} {held:Bool}
theorem open_i:Opens enc Try.prog w base spare held 3 (Kd.int .i64):=opens_int Try.underlying3
theorem open_Put:Opens enc Try.prog w base spare held 188 kPutL:=
 opens_struct (g:=fun c=>⟨c.1,c.2⟩) (fun c=>rfl) Try.underlying188 (by kernel_rfl) (by kernel_rfl) rfl
  (opensAt_cons open_i (opensAt_one open_i))
theorem open_Cell:Opens enc Try.prog w base spare held 139 kCellL:=
 opens_struct (g:=fun c=>⟨c.1,c.2.1,c.2.2⟩) (fun c=>rfl) Try.underlying139 (by kernel_rfl) (by kernel_rfl) rfl
  (opensAt_cons open_i (opensAt_cons open_i (opensAt_one open_i)))
theorem open_Task:Opens enc Try.prog w base spare held 133 kTaskL:=
 opens_struct (g:=fun c=>⟨c.1,c.2.1,c.2.2.1,c.2.2.2.1,c.2.2.2.2.1,c.2.2.2.2.2.1,c.2.2.2.2.2.2.1,c.2.2.2.2.2.2.2.1,c.2.2.2.2.2.2.2.2.1,c.2.2.2.2.2.2.2.2.2.1,c.2.2.2.2.2.2.2.2.2.2.1,c.2.2.2.2.2.2.2.2.2.2.2.1,c.2.2.2.2.2.2.2.2.2.2.2.2⟩) (fun c=>rfl) Try.underlying133 (by kernel_rfl) (by kernel_rfl) rfl
  (opensAt_cons open_i (opensAt_cons open_i (opensAt_cons open_i (opensAt_cons (opens_slice (by kernel_rfl) (by kernel_rfl) open_i) (opensAt_cons open_i (opensAt_cons open_i (opensAt_cons open_i (opensAt_cons open_i (opensAt_cons (opens_slice (by kernel_rfl) (by kernel_rfl) open_i) (opensAt_cons (opens_slice (by kernel_rfl) (by kernel_rfl) open_Put) (opensAt_cons (opens_slice (by kernel_rfl) (by kernel_rfl) open_Put) (opensAt_cons open_i (opensAt_one open_i)))))))))))))
theorem open_Entry:Opens enc Try.prog w base spare held 136 kEntryL:=
 opens_struct (g:=fun c=>⟨c.1,c.2.1,c.2.2.1,c.2.2.2.1,c.2.2.2.2.1,c.2.2.2.2.2⟩) (fun c=>rfl) Try.underlying136 (by kernel_rfl) (by kernel_rfl) rfl
  (opensAt_cons open_i (opensAt_cons open_i (opensAt_cons open_i (opensAt_cons (opens_slice (by kernel_rfl) (by kernel_rfl) open_Put) (opensAt_cons (opens_slice (by kernel_rfl) (by kernel_rfl) open_Put) (opensAt_one open_i))))))
theorem open_Sys:Opens enc Try.prog w base spare held 61 kSysL:=
 opens_struct (g:=fun c=>⟨c.1,c.2.1,c.2.2.1,c.2.2.2⟩) (fun c=>rfl) Try.underlying61 (by kernel_rfl) (by kernel_rfl) rfl
  (opensAt_cons (opens_slice (by kernel_rfl) (by kernel_rfl) open_Cell) (opensAt_cons (opens_slice (by kernel_rfl) (by kernel_rfl) open_Task) (opensAt_cons open_i (opensAt_one (opens_slice (by kernel_rfl) (by kernel_rfl) open_Entry)))))
end
section
variable {H:Type} {enc:TypeId × Value->H} {w:World} {base:Nat} {spare:Nat->Bool} {held:Bool}
theorem open_Deed:Opens enc Try.prog w base spare held 202 kDeedL:=
 opens_struct (g:=fun c=>⟨c.1,c.2.1,c.2.2⟩) (fun c=>rfl) Try.underlying202 (by kernel_rfl) (by kernel_rfl) rfl
  (opensAt_cons open_i (opensAt_cons open_i (opensAt_one open_i)))
theorem open_Act:Opens enc Try.prog w base spare held 171 kActL:=
 opens_struct (g:=fun c=>⟨c.1,c.2.1,c.2.2.1,c.2.2.2⟩) (fun c=>rfl) Try.underlying171 (by kernel_rfl) (by kernel_rfl) rfl
  (opensAt_cons open_i (opensAt_cons (opens_slice (by kernel_rfl) (by kernel_rfl) open_Deed) (opensAt_cons (opens_slice (by kernel_rfl) (by kernel_rfl) open_i) (opensAt_one open_i))))
theorem open_Prog:Opens enc Try.prog w base spare held 56 kProgL:=
 opens_struct (g:=fun c=>⟨c.1,c.2⟩) (fun c=>rfl) Try.underlying56 (by kernel_rfl) (by kernel_rfl) rfl
  (opensAt_cons (opens_slice (by kernel_rfl) (by kernel_rfl) open_i) (opensAt_one (opens_slice (by kernel_rfl) (by kernel_rfl) (opens_slice (t:=129) (e:=171) (by kernel_rfl) (by kernel_rfl) open_Act))))
end
end Go.Proofs.Ytimamoimphjakaa.Eq
namespace Go.Proofs.Ytimamoimphjakaa.fnExactSysOk
open Go.ChangeShapes Go.WideShapes Go.ChangeAt Go.RowKit
theorem own:ownKnob Try.prog.godebug=none:=by kernel_rfl
theorem laidOut:laidOutB Try.prog=true:=by kernel_rfl
theorem lifted (os:Os) (started:os.Started) (H:Type) (enc:TypeId × Value->H):
  ReturnsInHanded {} Try.checked os 14 .any (Rows.fnExactSysOkSpec.pre6 enc Try.prog Try.f14 Rows.fnExactSysOkRow.domain false) (Rows.fnExactSysOkSpec.post enc Try.prog Try.f14 false true false false):=by
 refine returnsInHanded_of_change_sized (C:=Try.checked) own started (by kernel_rfl) Try.func14
  (ChangeSpec.witness6 (enc:=enc) (C:=Try.checked) false ⟨#[],#[.agg #[.slice none 0 0,.slice none 0 0],.agg #[.slice none 0 0,.slice none 0 0,.int .i64 0,.slice none 0 0]], []⟩ 8 (by kernel_rfl) (by kernel_rfl) (by kernel_rfl) (by kernel_rfl)) ?_
 intro W base args ds gs before hval0 hW hcnd hsz0 _;have hval:∀ (j:Nat) t v,Try.f14.params[j]? = some t->args[j]? = some v->Value.okWide Try.prog W .any base t v:=hval0;have hW':=hW;obtain ⟨p,q,hA0,hV,rfl,hfz,hnd⟩:=hW;have hA:DataW.TrodAll enc Try.prog W 0 (fun _=>true) true Try.f14.params.toList args.toList ds p:=hA0;rw [Try.params14] at hA hval;obtain ⟨v0,vs0,d0,ds0,p0,q0,hargs,rfl,rfl,h0,r0⟩:=trodAll_cons hA;obtain ⟨v1,vs1,d1,ds1,p1,q1,rfl,rfl,rfl,h1,r1⟩:=trodAll_cons r0;obtain ⟨rfl,rfl,rfl⟩:=trodAll_nil r1;obtain rfl:args= #[v0,v1]:=by cases args;simp_all
 obtain ⟨rfl,rfl⟩:=trodVars_none hV;obtain ⟨cs0,rfl,z0⟩:=okWide_struct Try.underlying56 (hval 0 56 v0 rfl rfl);have k0:=h0;have lt0:∀ x ∈ p0,x.block < W.heap.size:=by obtain ⟨m,hm⟩:=k0;exact DataW.trod_lt m _ _ _ hm
 obtain ⟨s0,S0⟩:∃ s,Eq.kProgL.K W s cs0.toList:=by obtain ⟨m,hm⟩:=h0;exact Eq.open_Prog m _ _ hm
 obtain ⟨cs1,rfl,z1⟩:=okWide_struct Try.underlying61 (hval 1 61 v1 rfl rfl);have k1:=h1;have lt1:∀ x ∈ p1,x.block < W.heap.size:=by obtain ⟨m,hm⟩:=k1;exact DataW.trod_lt m _ _ _ hm
 obtain ⟨s1,S1⟩:∃ s,Eq.kSysL.K W s cs1.toList:=by obtain ⟨m,hm⟩:=h1;exact Eq.open_Sys m _ _ hm
 refine (Eq.fnExactSysOk_calls s0 cs0.toList s1 cs1.toList W S0 S1).mono fun e W' ⟨he,bel⟩=> ?_
 subst he;exact ⟨_,rfl,_,_,_, [],_, [],hW',trodAll_mk1 (shut_bool Try.underlying4 _),(trodAll_cons_mk (Below.trod laidOut (by kernel_rfl) (of_decide_eq_true (by kernel_rfl)) k0 bel lt0) (trodAll_cons_mk (Below.trod laidOut (by kernel_rfl) (of_decide_eq_true (by kernel_rfl)) k1 bel lt1) trodAll_mk0)),rfl,bel.frame _,fun h=>by cases h⟩
theorem over:Rows.fnExactSysOkRow.holds Try.pinned (OpenSpec.ofChange Rows.fnExactSysOkSpec):=
 OpenClaim.holds_of_wide 14 Try.f14 rfl rfl rfl rfl rfl rfl rfl ⟨rfl,rfl,rfl,rfl,rfl⟩ rfl rfl rfl rfl rfl (by kernel_rfl) Try.func14 (by kernel_rfl)
  (of_decide_eq_true (by kernel_rfl)) (by unfold Func.isWrapper;first|(rw [if_pos (by decide +kernel)];kernel_rfl)|(rw [if_neg (by decide +kernel)];exact ⟨rfl,rfl⟩))
  (fun os started H enc _=>lifted os started H enc)
theorem proved:Rows.FnExactSysOkSaid:=over
end Go.Proofs.Ytimamoimphjakaa.fnExactSysOk
namespace Go.Proofs.Ytimamoimphjakaa
theorem fnExactSysOk_holds:Rows.FnExactSysOkSaid:=fnExactSysOk.proved
end Go.Proofs.Ytimamoimphjakaa
