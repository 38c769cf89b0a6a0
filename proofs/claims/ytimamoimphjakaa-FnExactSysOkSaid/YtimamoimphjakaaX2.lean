import Derived.Test.YtimamoimphjakaaX1
import Derived.Deep.MidRow
import Derived.StillTail
import Derived.StillTailTactics
set_option maxHeartbeats 8000000
set_option maxRecDepth 100000
set_option linter.unusedVariables false
set_option linter.unusedSimpArgs false
namespace Go.Proofs.Ytimamoimphjakaa.Eq
open Go.RowKit Go.Proofs.YtimamoimphjakaaW.PrintWords Go.Proofs.YtimamoimphjakaaW.PrintLast
structure Put where
 cell:Int
 num:Int
 deriving DecidableEq
def zPut:Put:=⟨0,0⟩
def kPut:Kd Put:=Kd.iso (Kd.pair (Kd.int .i64) (Kd.int .i64)) (fun x:Put=>(x.cell,x.num))
theorem kPut_open {w:World} {x:Put} {cs:List Value} (h:kPut.K w x cs):cs= [.int .i64 x.cell,.int .i64 x.num]:=by
 obtain ⟨_,_,rfl,rfl,rfl⟩:=h;exact rfl
theorem kPut_mkM {w:World} {base:Nat} {ok:Nat->Prop} (x:Put):kPut.M w base ok x [.int .i64 x.cell,.int .i64 x.num]:=
 ⟨[.int .i64 x.cell], [.int .i64 x.num],rfl,rfl,rfl⟩
structure Cell where
 num:Int
 time:Int
 lock:Int
 deriving DecidableEq
def zCell:Cell:=⟨0,0,0⟩
def kCell:Kd Cell:=Kd.iso (Kd.pair (Kd.int .i64) (Kd.pair (Kd.int .i64) (Kd.int .i64))) (fun x:Cell=>(x.num,x.time,x.lock))
theorem kCell_open {w:World} {x:Cell} {cs:List Value} (h:kCell.K w x cs):cs= [.int .i64 x.num,.int .i64 x.time,.int .i64 x.lock]:=by
 obtain ⟨_,_,rfl,rfl,⟨_,_,rfl,rfl,rfl⟩⟩:=h;exact rfl
theorem kCell_mkM {w:World} {base:Nat} {ok:Nat->Prop} (x:Cell):kCell.M w base ok x [.int .i64 x.num,.int .i64 x.time,.int .i64 x.lock]:=
 ⟨[.int .i64 x.num], [.int .i64 x.time,.int .i64 x.lock],rfl,rfl,⟨[.int .i64 x.time], [.int .i64 x.lock],rfl,rfl,rfl⟩⟩
structure Task where
 body:Int
 pc:Int
 up:Int
 regs:List Int
 way:Int
 stage:Int
 at_:Int
 since:Int
 old:List Int
 reads:List Put
 puts:List Put
 when_:Int
 from_:Int
 deriving DecidableEq
def zTask:Task:=⟨0,0,0, [],0,0,0,0, [], [], [],0,0⟩
def kTask:Kd Task:=Kd.iso (Kd.pair (Kd.int .i64) (Kd.pair (Kd.int .i64) (Kd.pair (Kd.int .i64) (Kd.pair (Kd.slice 3 (Kd.int .i64)) (Kd.pair (Kd.int .i64) (Kd.pair (Kd.int .i64) (Kd.pair (Kd.int .i64) (Kd.pair (Kd.int .i64) (Kd.pair (Kd.slice 3 (Kd.int .i64)) (Kd.pair (Kd.slice 103 kPut) (Kd.pair (Kd.slice 103 kPut) (Kd.pair (Kd.int .i64) (Kd.int .i64))))))))))))) (fun x:Task=>(x.body,x.pc,x.up,x.regs,x.way,x.stage,x.at_,x.since,x.old,x.reads,x.puts,x.when_,x.from_))
theorem kTask_open {w:World} {x:Task} {cs:List Value} (h:kTask.K w x cs):∃ A_regs c_regs A_old c_old A_reads c_reads A_puts c_puts,cs= [.int .i64 x.body,.int .i64 x.pc,.int .i64 x.up,.slice A_regs x.regs.length c_regs,.int .i64 x.way,.int .i64 x.stage,.int .i64 x.at_,.int .i64 x.since,.slice A_old x.old.length c_old,.slice A_reads x.reads.length c_reads,.slice A_puts x.puts.length c_puts,.int .i64 x.when_,.int .i64 x.from_]/\x.regs.length<=c_regs/\(Kd.int .i64).C w A_regs x.regs.length x.regs/\x.old.length<=c_old/\(Kd.int .i64).C w A_old x.old.length x.old/\x.reads.length<=c_reads/\kPut.C w A_reads x.reads.length x.reads/\x.puts.length<=c_puts/\kPut.C w A_puts x.puts.length x.puts:=by
 obtain ⟨_,_,rfl,rfl,⟨_,_,rfl,rfl,⟨_,_,rfl,rfl,⟨_,_,rfl,⟨A_regs,c_regs,rfl,l_regs,g_regs⟩,⟨_,_,rfl,rfl,⟨_,_,rfl,rfl,⟨_,_,rfl,rfl,⟨_,_,rfl,rfl,⟨_,_,rfl,⟨A_old,c_old,rfl,l_old,g_old⟩,⟨_,_,rfl,⟨A_reads,c_reads,rfl,l_reads,g_reads⟩,⟨_,_,rfl,⟨A_puts,c_puts,rfl,l_puts,g_puts⟩,⟨_,_,rfl,rfl,rfl⟩⟩⟩⟩⟩⟩⟩⟩⟩⟩⟩⟩:=h;exact ⟨A_regs,c_regs,A_old,c_old,A_reads,c_reads,A_puts,c_puts,rfl,l_regs,g_regs,l_old,g_old,l_reads,g_reads,l_puts,g_puts⟩
theorem kTask_mkM {w:World} {base:Nat} {ok:Nat->Prop} (x:Task) {v_regs:Value} (g_regs:(Kd.int .i64).R 3 w base ok v_regs x.regs) {v_old:Value} (g_old:(Kd.int .i64).R 3 w base ok v_old x.old) {v_reads:Value} (g_reads:kPut.R 103 w base ok v_reads x.reads) {v_puts:Value} (g_puts:kPut.R 103 w base ok v_puts x.puts):kTask.M w base ok x [.int .i64 x.body,.int .i64 x.pc,.int .i64 x.up,v_regs,.int .i64 x.way,.int .i64 x.stage,.int .i64 x.at_,.int .i64 x.since,v_old,v_reads,v_puts,.int .i64 x.when_,.int .i64 x.from_]:=
 ⟨[.int .i64 x.body], [.int .i64 x.pc,.int .i64 x.up,v_regs,.int .i64 x.way,.int .i64 x.stage,.int .i64 x.at_,.int .i64 x.since,v_old,v_reads,v_puts,.int .i64 x.when_,.int .i64 x.from_],rfl,rfl,⟨[.int .i64 x.pc], [.int .i64 x.up,v_regs,.int .i64 x.way,.int .i64 x.stage,.int .i64 x.at_,.int .i64 x.since,v_old,v_reads,v_puts,.int .i64 x.when_,.int .i64 x.from_],rfl,rfl,⟨[.int .i64 x.up], [v_regs,.int .i64 x.way,.int .i64 x.stage,.int .i64 x.at_,.int .i64 x.since,v_old,v_reads,v_puts,.int .i64 x.when_,.int .i64 x.from_],rfl,rfl,⟨[v_regs], [.int .i64 x.way,.int .i64 x.stage,.int .i64 x.at_,.int .i64 x.since,v_old,v_reads,v_puts,.int .i64 x.when_,.int .i64 x.from_],rfl,⟨_,rfl,g_regs⟩,⟨[.int .i64 x.way], [.int .i64 x.stage,.int .i64 x.at_,.int .i64 x.since,v_old,v_reads,v_puts,.int .i64 x.when_,.int .i64 x.from_],rfl,rfl,⟨[.int .i64 x.stage], [.int .i64 x.at_,.int .i64 x.since,v_old,v_reads,v_puts,.int .i64 x.when_,.int .i64 x.from_],rfl,rfl,⟨[.int .i64 x.at_], [.int .i64 x.since,v_old,v_reads,v_puts,.int .i64 x.when_,.int .i64 x.from_],rfl,rfl,⟨[.int .i64 x.since], [v_old,v_reads,v_puts,.int .i64 x.when_,.int .i64 x.from_],rfl,rfl,⟨[v_old], [v_reads,v_puts,.int .i64 x.when_,.int .i64 x.from_],rfl,⟨_,rfl,g_old⟩,⟨[v_reads], [v_puts,.int .i64 x.when_,.int .i64 x.from_],rfl,⟨_,rfl,g_reads⟩,⟨[v_puts], [.int .i64 x.when_,.int .i64 x.from_],rfl,⟨_,rfl,g_puts⟩,⟨[.int .i64 x.when_], [.int .i64 x.from_],rfl,rfl,rfl⟩⟩⟩⟩⟩⟩⟩⟩⟩⟩⟩⟩
structure Entry where
 task:Int
 act:Int
 when_:Int
 reads:List Put
 puts:List Put
 from_:Int
 deriving DecidableEq
def zEntry:Entry:=⟨0,0,0, [], [],0⟩
def kEntry:Kd Entry:=Kd.iso (Kd.pair (Kd.int .i64) (Kd.pair (Kd.int .i64) (Kd.pair (Kd.int .i64) (Kd.pair (Kd.slice 103 kPut) (Kd.pair (Kd.slice 103 kPut) (Kd.int .i64)))))) (fun x:Entry=>(x.task,x.act,x.when_,x.reads,x.puts,x.from_))
theorem kEntry_open {w:World} {x:Entry} {cs:List Value} (h:kEntry.K w x cs):∃ A_reads c_reads A_puts c_puts,cs= [.int .i64 x.task,.int .i64 x.act,.int .i64 x.when_,.slice A_reads x.reads.length c_reads,.slice A_puts x.puts.length c_puts,.int .i64 x.from_]/\x.reads.length<=c_reads/\kPut.C w A_reads x.reads.length x.reads/\x.puts.length<=c_puts/\kPut.C w A_puts x.puts.length x.puts:=by
 obtain ⟨_,_,rfl,rfl,⟨_,_,rfl,rfl,⟨_,_,rfl,rfl,⟨_,_,rfl,⟨A_reads,c_reads,rfl,l_reads,g_reads⟩,⟨_,_,rfl,⟨A_puts,c_puts,rfl,l_puts,g_puts⟩,rfl⟩⟩⟩⟩⟩:=h;exact ⟨A_reads,c_reads,A_puts,c_puts,rfl,l_reads,g_reads,l_puts,g_puts⟩
theorem kEntry_mkM {w:World} {base:Nat} {ok:Nat->Prop} (x:Entry) {v_reads:Value} (g_reads:kPut.R 103 w base ok v_reads x.reads) {v_puts:Value} (g_puts:kPut.R 103 w base ok v_puts x.puts):kEntry.M w base ok x [.int .i64 x.task,.int .i64 x.act,.int .i64 x.when_,v_reads,v_puts,.int .i64 x.from_]:=
 ⟨[.int .i64 x.task], [.int .i64 x.act,.int .i64 x.when_,v_reads,v_puts,.int .i64 x.from_],rfl,rfl,⟨[.int .i64 x.act], [.int .i64 x.when_,v_reads,v_puts,.int .i64 x.from_],rfl,rfl,⟨[.int .i64 x.when_], [v_reads,v_puts,.int .i64 x.from_],rfl,rfl,⟨[v_reads], [v_puts,.int .i64 x.from_],rfl,⟨_,rfl,g_reads⟩,⟨[v_puts], [.int .i64 x.from_],rfl,⟨_,rfl,g_puts⟩,rfl⟩⟩⟩⟩⟩
structure Sys where
 cells:List Cell
 tasks:List Task
 clock:Int
 log:List Entry
 deriving DecidableEq
def kSys:Kd Sys:=Kd.iso (Kd.pair (Kd.slice 53 kCell) (Kd.pair (Kd.slice 38 kTask) (Kd.pair (Kd.int .i64) (Kd.slice 119 kEntry)))) (fun x:Sys=>(x.cells,x.tasks,x.clock,x.log))
theorem kSys_open {w:World} {x:Sys} {cs:List Value} (h:kSys.K w x cs):∃ A_cells c_cells A_tasks c_tasks A_log c_log,cs= [.slice A_cells x.cells.length c_cells,.slice A_tasks x.tasks.length c_tasks,.int .i64 x.clock,.slice A_log x.log.length c_log]/\x.cells.length<=c_cells/\kCell.C w A_cells x.cells.length x.cells/\x.tasks.length<=c_tasks/\kTask.C w A_tasks x.tasks.length x.tasks/\x.log.length<=c_log/\kEntry.C w A_log x.log.length x.log:=by
 obtain ⟨_,_,rfl,⟨A_cells,c_cells,rfl,l_cells,g_cells⟩,⟨_,_,rfl,⟨A_tasks,c_tasks,rfl,l_tasks,g_tasks⟩,⟨_,_,rfl,rfl,⟨A_log,c_log,rfl,l_log,g_log⟩⟩⟩⟩:=h;exact ⟨A_cells,c_cells,A_tasks,c_tasks,A_log,c_log,rfl,l_cells,g_cells,l_tasks,g_tasks,l_log,g_log⟩
theorem kSys_mkM {w:World} {base:Nat} {ok:Nat->Prop} (x:Sys) {v_cells:Value} (g_cells:kCell.R 53 w base ok v_cells x.cells) {v_tasks:Value} (g_tasks:kTask.R 38 w base ok v_tasks x.tasks) {v_log:Value} (g_log:kEntry.R 119 w base ok v_log x.log):kSys.M w base ok x [v_cells,v_tasks,.int .i64 x.clock,v_log]:=
 ⟨[v_cells], [v_tasks,.int .i64 x.clock,v_log],rfl,⟨_,rfl,g_cells⟩,⟨[v_tasks], [.int .i64 x.clock,v_log],rfl,⟨_,rfl,g_tasks⟩,⟨[.int .i64 x.clock], [v_log],rfl,rfl,⟨_,rfl,g_log⟩⟩⟩⟩
end Go.Proofs.Ytimamoimphjakaa.Eq
namespace Go.Proofs.Ytimamoimphjakaa.Eq
open Go.RowKit Go.Proofs.YtimamoimphjakaaW.PrintWords Go.Proofs.YtimamoimphjakaaW.PrintLast Go.Proofs.YtimamoimphjakaaW.PrintMore
theorem bcell {W w1:World} (hb:Below W.heap.size W w1):(∀ b o,b < W.heap.size->w1.cell? ⟨b,o,none⟩=W.cell? ⟨b,o,none⟩)/\(∀ b o,b < W.heap.size->w1.frozen? ⟨b,o,none⟩=W.frozen? ⟨b,o,none⟩):=
 ⟨fun b o h=>hb.cell (p:=⟨b,o,none⟩) h,fun b o h=>hb.frozen (p:=⟨b,o,none⟩) h⟩
theorem bsize {W w1:World} (hb:Below W.heap.size W w1):W.heap.size<=w1.heap.size:=hb.size
theorem ret_bool {a b:Bool} (h:a=b):Ending.returned (.bool a)= .returned (.bool b):=by rw [h]
theorem add_add_ (ad:Addr) (m j:Nat):(ad.add m).add j=ad.add (m+j):=by
 unfold Addr.add;split <;> split <;> simp_all [Nat.add_assoc]
theorem spot_of {W:World} {ad:Addr} {v:Value} (h:W.cell? ad=some v):ad.spot=none:=by
 unfold World.cell? at h;split at h
 ·split at h
  ·cases h
  ·rename_i hs;simpa using hs
 ·cases h
theorem add_spot (ad:Addr) (m:Nat) (h:(ad.add m).spot=none):∀ j,(ad.add (m+j))=⟨(ad.add m).block,(ad.add m).off+j,none⟩:=by
 intro j;rw [<-add_add_];generalize ad.add m=x at h ⊢;obtain ⟨b,o,s⟩:=x
 cases s with
 | none=>exact add_at b o j
 | some s=>cases h
section
variable {P:Program} {ops:Array Oper} {rest:List Oper} {o:Oper} {a:Act} {Q:Exit->Act->World->Prop}
theorem load_struct {W:World} (hgd:o.guard=none) (ty:TypeId) (x:Operand) (ho:o.op= .load ty x) (ad:Addr) (m:Nat) (hx:a.eval x= .pointer (some (ad.add m))) (cs:List Value) (d:TypeDesc)
  (hc:∀ j u,cs[j]? = some u->W.cell? (ad.add (m+j))=some u) (hl:0 < cs.length) (hu:P.underlying ty=some d) (hd:d.isRow=true) (hi:(P.info? ty).map (·.size)=some cs.length)
  (h:wpList P ops Q rest (a.put o.dst (.agg cs.toArray)) W):wpList P ops Q (o :: rest) a W:=by
 have h0:=hc 0 _ (List.getElem?_eq_getElem hl);have hs:(ad.add m).spot=none:=spot_of h0;refine wpList_load_mid hgd ty x ho (ad.add m).block (ad.add m).off ?_ cs d (fun j u hj=> ?_) hu hd hi h
 ·rw [hx]
  generalize ad.add m=y at hs ⊢;obtain ⟨b,o,s⟩:=y;cases hs;rfl
 ·rw [<-add_spot ad m hs j]
  exact hc j u hj
end
section
variable {α:Type} {d:Kd α} {e base n:Nat} {ok:Nat->Prop} {w W w1:World} {v:Value} {xs:List α}
theorem R_up (h:d.R e w1 W.heap.size ok v xs) (hn:n < W.heap.size) (hb:base<=W.heap.size):d.R e w1 base (fun k=>n < k) v xs:=
 Kd.R_lower (Kd.R_mono (Kd.R_bound h) (fun k hk=>Nat.lt_of_lt_of_le hn hk.2.1)) hb
theorem R_farN {g j:Nat} {u:Value} (h:d.R e w base (fun k=>n < k) v xs) (hg:g<=n):d.R e (w.setCell ⟨g,j,none⟩ u) base (fun k=>n < k) v xs:=
 Kd.R_far h (fun k hk=>Nat.ne_of_gt (Nat.lt_of_le_of_lt hg hk)) u
theorem R_any (h:d.R e w base ok v xs):d.R e w base (fun _=>True) v xs:=Kd.R_mono h (fun _ _=>trivial)
end
section
variable {P:Program} {ops:Array Oper} {rest:List Oper} {o:Oper} {a:Act} {Q:Act->Prop}
theorem still_load_struct {W:World} (hgd:o.guard=none) (ty:TypeId) (x:Operand) (ho:o.op= .load ty x) (ad:Addr) (m:Nat) (hx:a.eval x= .pointer (some (ad.add m))) (cs:List Value) (d:TypeDesc)
  (hc:∀ j u,cs[j]? = some u->W.cell? (ad.add (m+j))=some u) (hl:0 < cs.length) (hu:P.underlying ty=some d) (hd:d.isRow=true) (hi:(P.info? ty).map (·.size)=some cs.length)
  (h:wpStill P ops W Q rest (a.put o.dst (.agg cs.toArray))):wpStill P ops W Q (o :: rest) a:=by
 have h0:=hc 0 _ (List.getElem?_eq_getElem hl);have hs:(ad.add m).spot=none:=spot_of h0;refine wpStill_step (fun K hK=> ?_);rw [if_pos (by simp [Region.wanted,hgd])]
 have hx':a.eval x= .pointer (some ⟨(ad.add m).block,(ad.add m).off,none⟩):=by
  rw [hx];generalize ad.add m=y at hs ⊢;obtain ⟨b,o,s⟩:=y;cases hs;rfl
 have hr:W.rangeAt (ad.add m).block (ad.add m).off cs:=fun j u hj=>by
  rw [<-add_spot ad m hs j];exact hc j u hj
 unfold Oper.still execOp;simp only [ho,hx',Sem.run_bind,run_loadAt_mid W _ _ ty cs d hr hu hd hi,Result.andThen_ok,Sem.run_pure,Oper.stillUpon_value];exact hK _ h
end
theorem C_field {α:Type} {d:Kd α} {w:World} {A:Option Addr} {n:Nat} {xs:List α} (h:d.C w A n xs) (z:α) (k:Nat) (hk:k < n) (hs:0 < d.sz):
  ∃ b o cs,A=some ⟨b,o,none⟩/\cs.length=d.sz/\d.K w (xs.getD k z) cs/\(∀ j u,cs[j]? = some u->w.cell? ⟨b,o+k*d.sz+j,none⟩=some u)/\(∀ u,cs[0]? = some u->w.cell? ⟨b,o+k*d.sz,none⟩=some u):=by
 obtain ⟨ad,cs,rfl,hl,hK,hc⟩:=Kd.C_get h z (k:Int) (by omega) (by omega);obtain ⟨ad',cs',he,hl',_,hc'⟩:=Kd.C_get h z (0:Int) (by omega) (by omega);cases he;simp only [Int.toNat_natCast] at hK hc
 have hsp:ad.spot=none:=by
  have h0:=spot_of (hc' 0 _ (List.getElem?_eq_getElem (by omega)));unfold Addr.add at h0;simpa using h0
 obtain ⟨b,o,s⟩:=ad;cases hsp
 have key:∀ j u,cs[j]? = some u->w.cell? ⟨b,o+k*d.sz+j,none⟩=some u:=fun j u hj=>by
  have:=hc j u hj
  rwa [add_at,<-Nat.add_assoc] at this
 exact ⟨b,o,cs,rfl,hl,hK,key,fun u hu=>key 0 u hu⟩
section
variable {P:Program} {ops:Array Oper} {rest:List Oper} {o:Oper} {a:Act} {Q:Exit->Act->World->Prop}
theorem store_block {W:World} (hgd:o.guard=none) (hN:o.dst=none) (t:TypeId) (p x:Operand) (ho:o.op= .store t p x) {g:Nat} {c0:Array Value} {e:TypeId} {cs:List Value}
  (hp:a.eval p= .pointer (some ⟨g,0,none⟩)) (hx:a.eval x= .agg cs.toArray) (hb:W.heap[g]? = some (.cells c0 e (0,0))) (hl:cs.length=c0.size) (hi:(P.info? t).map (·.size)=some cs.length) (h1:∀ v ∈ cs,v.oneCell'=true)
  (h:∀ w1,w1.heap[g]? = some (.cells cs.toArray e (0,0))->W.grownBy w1 (some g)->wpList P ops Q rest a w1):wpList P ops Q (o :: rest) a W:=by
 refine wpList_store_mid hgd t p x ho g 0 cs.toArray hp hx (fun j hj=> ?_) (by simpa using hi) (all_oneCell_toArray h1) ?_
 ·rw [Nat.zero_add,blk_cell hb j,blk_frozen hb j]
  simp at hj;simp [Array.getElem?_eq_getElem (show j < c0.size by omega)]
 ·obtain ⟨cur,hc,hsz,hcur⟩:=setCells_row cs 0 W c0 hb (by omega)
  obtain ⟨s1,s2,s3,s4⟩:=setCells_same g cs 0 W
  have e1:cur=cs.toArray:=by
   apply Array.toList_inj.1;rw [hcur,List.take_zero,List.nil_append,List.drop_eq_nil_of_le (by simp;omega),List.append_nil]
  subst e1;simp only [hN,Act.put];exact h _ hc ⟨s1,s2,s3,by rw [s4];exact Nat.le_refl _,fun i hi hne=>setCells_far cs 0 i (fun he=>hne (by rw [he]))⟩
theorem load_block {W:World} (hgd:o.guard=none) (t:TypeId) (x:Operand) (ho:o.op= .load t x) {g:Nat} {e:TypeId} {cs:List Value} (d:TypeDesc)
  (hx:a.eval x= .pointer (some ⟨g,0,none⟩)) (hb:W.heap[g]? = some (.cells cs.toArray e (0,0))) (hu:P.underlying t=some d) (hd:d.isRow=true) (hi:(P.info? t).map (·.size)=some cs.length)
  (h:wpList P ops Q rest (a.put o.dst (.agg cs.toArray)) W):wpList P ops Q (o :: rest) a W:=
 wpList_load_mid hgd t x ho g 0 hx cs d (fun j u hj=>by rw [Nat.zero_add,blk_cell hb j];simpa using hj) hu hd hi h
end
end Go.Proofs.Ytimamoimphjakaa.Eq
namespace Go.Proofs.YtimamoimphjakaaW.PrintWords
open Go.RowKit
theorem lC {W:World} {g T:Nat} {cs:List Value} (h:W.heap[g]? = some (.cells cs.toArray T (0,0))):W.rangeAt g 0 cs:=fun j u hu=>by rw [Nat.zero_add];exact (blk_cell h j).trans (List.getElem?_toArray.trans hu)
theorem zc8 {w:World} {g:Nat} {t:TypeId} {cs:Array Value} (h:w.heap[g]? = some (.cells cs t (0,0))) (i:Nat):w.cell? ⟨g,i,none⟩=cs[i]? := blk_cell h i
theorem zb8 {w w':World} {g:Nat} {o:Obj} (h:w.heap[g]? = some o) (hb:Below w.heap.size w w'):w'.heap[g]? = some o:=blk_below h hb
end Go.Proofs.YtimamoimphjakaaW.PrintWords
namespace Go.Proofs.Ytimamoimphjakaa.Eq
open Go.RowKit Go.Proofs.YtimamoimphjakaaW.PrintWords Go.Proofs.YtimamoimphjakaaW.PrintLast Go.Proofs.YtimamoimphjakaaW.PrintMore
def pickTo (p:Nat->Bool) (k:Nat):List Int:=((List.range k).filter p).map fun (i:Nat)=>(i:Int)
theorem pickTo_yes {p:Nat->Bool} {k:Nat} (h:p k=true):pickTo p (k+1)=pickTo p k ++ [(k:Int)]:=by
 simp [pickTo,List.range_succ,List.filter_append,h]
theorem pickTo_no {p:Nat->Bool} {k:Nat} (h:p k=false):pickTo p (k+1)=pickTo p k:=by
 simp [pickTo,List.range_succ,List.filter_append,h]
theorem pickTo_length (p:Nat->Bool) (k:Nat):(pickTo p k).length<=k:=by
 simp only [pickTo,List.length_map];exact Nat.le_trans (List.length_filter_le _ _) (by simp)
def taskAt (ts:List Task) (i:Nat):Task:=ts.getD i zTask
def isKid (ts:List Task) (task:Int) (i:Nat):Bool:=decide (0<=task) && decide ((taskAt ts i).up=task) && decide (task < (i:Int))
def kids (ts:List Task) (task:Int):List Int:=pickTo (isKid ts task) ts.length
def isLive (t:Task):Bool:=decide (t.way=0) || decide (t.way=1)
theorem pickTo_none {p:Nat->Bool} {k:Nat} (h:∀ i,i < k->p i=false):pickTo p k= []:=by
 induction k with
 | zero=>rfl
 | succ k ih=>rw [pickTo_no (h k (by omega)),ih (fun i hi=>h i (by omega))]
theorem kids_out {ts:List Task} {task:Int} (h:¬ (0<=task/\task < ts.length)):kids ts task= []:=by
 refine pickTo_none (fun i hi=> ?_);unfold isKid;by_cases h0:0<=task
 ·have:¬ task < (i:Int):=by omega
  simp [this]
 ·simp [h0]
theorem info_int:(Try.prog.info? 3).map (fun i=>(i.zero,i.size,i.bytes))=some (some (.int .i64 0),1,8):=by kernel_rfl
theorem isPlace_calls (a n:Int) (w:World):Calls Try.prog 51 #[.int .i64 a,.int .i64 n] w fun e w'=>e= .returned (.bool (decide (0<=a) && decide (a < n)))/\w=w':=by
 by_cases h:0<=a
 ·have hb:decide (0<=a)=true:=decide_eq_true h
  go_enter Try.func51,Try.ntmps51;go_wp2;go_ret;exact ⟨by simp [h],rfl⟩
 ·have hb:decide (0<=a)=false:=decide_eq_false h
  go_enter Try.func51,Try.ntmps51;go_wp2;go_ret;exact ⟨by simp [h],rfl⟩
theorem l6In_calls (a l h:Int) (w:World):Calls Try.prog 50 #[.int .i64 a,.int .i64 l,.int .i64 h] w fun e w'=>e= .returned (.bool (decide (l<=a) && decide (a<=h)))/\w=w':=by
 by_cases h0:l<=a
 ·have hb:decide (l<=a)=true:=decide_eq_true h0
  go_enter Try.func50,Try.ntmps50;go_wp2;go_ret;exact ⟨by simp [h0],rfl⟩
 ·have hb:decide (l<=a)=false:=decide_eq_false h0
  go_enter Try.func50,Try.ntmps50;go_wp2;go_ret;exact ⟨by simp [h0],rfl⟩
theorem live_calls (x:Task) (cs:List Value) (w:World) (hx:kTask.K w x cs):
  Calls Try.prog 46 #[.agg cs.toArray] w fun e w'=>e= .returned (.bool (isLive x))/\Below w.heap.size w w':=by
 obtain ⟨A3,c3,A8,c8,A9,c9,A10,c10,rfl,l3,g3,l8,g8,l9,g9,l10,g10⟩:=kTask_open hx;clear l3 g3 l8 g8 l9 g9 l10 g10 hx;by_cases h:x.way=0
 ·have hb:(x.way == 0)=true:=by simp [h]
  have H:=am h;clear h;go_enter Try.func46,Try.ntmps46;go_wp2;go_ret;exact ⟨ret_bool (by simp [isLive,H.out]),below_alloc (Below.refl _ _) _⟩
 ·have hb:(x.way == 0)=false:=by simp [h]
  have H:=am h;clear h;go_enter Try.func46,Try.ntmps46;go_wp2;go_ret;exact ⟨ret_bool (by simp only [isLive,decide_eq_false H.out,Bool.false_or];rw [Bool.eq_iff_iff];simp),below_alloc (Below.refl _ _) _⟩
end Go.Proofs.Ytimamoimphjakaa.Eq

namespace Go.Proofs.Ytimamoimphjakaa.Eq
open Go.RowKit Go.Proofs.YtimamoimphjakaaW.PrintWords Go.Proofs.YtimamoimphjakaaW.PrintLast Go.Proofs.YtimamoimphjakaaW.PrintMore
theorem implKids_calls (s:Sys) (cs:List Value) (task:Int) (w:World) (hx:kSys.K w s cs) (hn:s.tasks.length<=1048576):
  Calls Try.prog 31 #[.agg cs.toArray,.int .i64 task] w fun e w'=>∃ v,e= .returned v/\(Kd.int .i64).R 3 w' w.heap.size (fun _=>True) v (kids s.tasks task)/\Below w.heap.size w w':=by
 obtain ⟨A0,c0,A1,c1,A3,c3,rfl,l0,g0,l1,g1,l3,g3⟩:=kSys_open hx;have G:=am g1;clear g0 g1 g3 l0 l1 l3 hx;go_enter Try.func31,Try.ntmps31;by_cases hp:0<=task/\task < s.tasks.length
 ·obtain ⟨m,rfl⟩:=Int.eq_ofNat_of_zero_le hp.1
  have hm:m < s.tasks.length:=by omega
  have HP:=am (show (decide (0<=(m:Int)) && decide ((m:Int) < (s.tasks.length:Int)))=true by simp;omega);clear hp;go_wp2_with (first|((with_reducible refine gate_dst (N:=2) rfl ?_);refine box_event rfl (N:=2) rfl (t:=27) (by go_simp<;>rfl) ?_;intro g hg w2 hbox hb;have BK:=am hbox;have HB:=am hb;have GE:=am (show w.heap.size<=g by omega);clear hbox hb hg;have hc:=zc8 BK.out)|(go_at_call 51;refine (isPlace_calls _ _ _).mono ?_;rw [HP.out];rintro e w1 ⟨rfl,rfl⟩))
  go_loopw [5,6] (fun v i w'=>∃ k:Nat,m+1<=k/\k<=s.tasks.length/\i= .int .i64 k/\Aside0 ((Kd.int .i64).R 3 w' w.heap.size (fun _=>True) v (pickTo (isKid s.tasks m) k))/\Aside0 (w'.heap[g]? = some (.cells #[.slice A0 s.cells.length c0,.slice A1 s.tasks.length c1,.int .i64 s.clock,.slice A3 s.log.length c3] 27 (0,0)))/\Aside0 (Below w.heap.size w w')) (fun _ i _=>s.tasks.length - (intOf i).toNat)
  case atStart=>exact ⟨m+1,Nat.le_refl _,hm,by go_num,⟨by rw [pickTo_none (fun i hi=>by unfold isKid;have:¬ (m:Int) < (i:Int):=(by omega);simp [this])];exact Kd.R_nil _ _ _ _ _⟩,BK,HB⟩
  case round=>
   clear BK HB hc;obtain ⟨k,hmk,hk,rfl,HO,BK,HB⟩:=hrel;have hlen:=pickTo_length (isKid s.tasks m) k;by_cases hlt:k < s.tasks.length
   · skip
     have BKc:=zc8 BK.out;obtain ⟨b,o,cs,rfl,hcl,hK,hcc,hc0⟩:=C_field (Kd.C_below G.out HB.out) zTask k hlt (by decide);rw [show s.tasks.getD k zTask=taskAt s.tasks k from rfl] at hK;obtain ⟨B3,d3,B8,d8,B9,d9,B10,d10,rfl,_,_,_,_,_,_,_,_⟩:=kTask_open hK;have h_up:=hcc 2 _ rfl;simp only [show kTask.sz=13 from rfl] at h_up;clear hcc hc0 hK hcl;have q0:(0:Int)<=(k:Int):=by omega
     have q1:(k:Int) < (s.tasks.length:Int):=by omega
     by_cases hy:(taskAt s.tasks k).up=(m:Int)
     ·have y1:((taskAt s.tasks k).up == (m:Int))=true:=by simp [hy]
      have HY:=am (show isKid s.tasks m k=true by simp [isKid,hy];omega);clear hy;go_wp2_with (first|((with_reducible refine gate_builtin (b:=.append) (xs:=#[.tmp 30,.tmp 32]) rfl ?_);at_builtin;refine Kd.R_append (Kd.int .i64) (w0:=w) w.heap.size rfl (.tmp 30) (.tmp 32) 29 3 (.int .i64 0) 8 rfl Try.underlying29 info_int rfl (by decide) (by omega) _ (pickTo (isKid s.tasks m) k) (k:Int) [.int .i64 (k:Int)] (fun _=>True) (fun _=>False) rfl rfl rfl (fun _ hk=>hk.elim) (fun _ _=>trivial) HO.out HB.out (below_size HB.out) (by omega) ?_;intro v1 w1 ho hb hg _;have BK1:=am (blk_grown BK.out hg (Kd.R_ne HO.out BK.out (by decide)));have HO1:=am ho;have HB1:=am hb;clear ho hb hg HO HB BK))
      go_roundw
      case rel=>exact ⟨k+1,by omega,by omega,by go_num,⟨by rw [pickTo_yes HY.out];exact HO1.out⟩,BK1,HB1⟩
      case measure=>simp [intOf];omega
     ·have y1:((taskAt s.tasks k).up == (m:Int))=false:=by simp [hy]
      have HY:=am (show isKid s.tasks m k=false by simp [isKid,hy]);clear hy;go_wp2;go_roundw
      case rel=>exact ⟨k+1,by omega,by omega,by go_num,⟨by rw [pickTo_no HY.out];exact HO.out⟩,BK,HB⟩
      case measure=>simp [intOf];omega
   ·have BKc:=zc8 BK.out
    go_wp2;go_ret;obtain rfl:k=s.tasks.length:=by omega
    exact ⟨_,rfl,HO.out,HB.out⟩
 ·have HP:=am (show (decide (0<=task) && decide (task < (s.tasks.length:Int)))=false by simp;omega)
  have HN:=am (kids_out hp);clear hp;go_wp2_with (first|((with_reducible refine gate_dst (N:=2) rfl ?_);refine box_event rfl (N:=2) rfl (t:=27) (by go_simp<;>rfl) ?_;intro g hg w2 hbox hb;have BK:=am hbox;have HB:=am hb;have GE:=am (show w.heap.size<=g by omega);clear hbox hb hg;have hc:=zc8 BK.out)|(go_at_call 51;refine (isPlace_calls _ _ _).mono ?_;rw [HP.out];rintro e w1 ⟨rfl,rfl⟩))
  go_ret;exact ⟨_,rfl,by rw [HN.out];exact Kd.R_nil _ _ _ _ _,HB.out⟩
section
variable {P:Program} {ops:Array Oper} {Q:Exit->Go.Act->World->Prop} {md:Region.Mode} {S:World->Prop} {ds:List Nat}
def stillS (P:Program) (ops:Array Oper) (S:World->Prop):List Nat->(Go.Act->Prop)->Go.Act->Prop
 | [],K,a=>K a
 | i :: is,K,a=>∃ oi v,ops[i]? = some oi/\YieldsIf P ops S oi v a/\stillS P ops S is K (a.put oi.dst v)
theorem stillS_step {i:Nat} {is:List Nat} {K:Go.Act->Prop} {a:Go.Act} {v:Value} {N:Option Tmp} {op:Op} {ty:TypeId} {ps:String} {af:Array Edge} {gd:Option (Nat × Bool)} (hi:ops[i]? = some {dst:=N,op:=op,type:=ty,pos:=ps,after:=af,guard:=gd})
  (hy:YieldsIf P ops S {dst:=N,op:=op,type:=ty,pos:=ps,after:=af,guard:=gd} v a) {a':Go.Act} (ha:a.put N v=a') (h:stillS P ops S is K a'):stillS P ops S (i :: is) K a:=by
 subst ha;exact ⟨_,v,hi,hy,h⟩
theorem stillS_nil {K:Go.Act->Prop} {a:Go.Act} (h:K a):stillS P ops S [] K a:=h
def setAll (l:Array Bool):List Nat->Array Bool
 | []=>l
 | i :: is=>setAll (l.setIfInBounds i true) is
def batchB (md:Region.Mode) (ops:Array Oper) (ds:List Nat) (l:Array Bool):List Nat->Bool
 | []=>true
 | i :: is=>takeB md ops ds l (l.setIfInBounds i true) i && batchB md ops ds (l.setIfInBounds i true) is
theorem batch_go {w:World} (hQ:∀ N v c a w,Q (.panic c) (Go.Act.put a N v) w->Q (.panic c) a w) (hS:S w) {l':Array Bool} {fuel:Nat}:∀ (is:List Nat) (l:Array Bool) (a:Go.Act),batchB md ops ds l is=true->setAll l is=l'->
  stillS P ops S is (fun a'=>wpAnyLast P md ops Q S ds fuel l' a' w) a->wpAnyLast P md ops Q S ds (fuel+is.length) l a w
 | [],l,a,_,hl,h=>by
  subst hl
  exact h
 | i :: is,l,a,hB,hl,h=>by
  obtain ⟨oi,v,hi,hy,h⟩:=h;simp only [batchB,Bool.and_eq_true] at hB;exact take_ (l.setIfInBounds i true) hi rfl hB.1 (fun c a w=>hQ _ _ c a w) hy hS rfl (batch_go hQ hS is _ _ hB.2 hl h)
theorem batch_ {w:World} {fuel n:Nat} {l:Array Bool} {a:Go.Act} (is:List Nat) (l':Array Bool) (hc:(batchB md ops ds l is && (setAll l is == l') && (is.length == n))=true) (hQ:∀ N v c a w,Q (.panic c) (Go.Act.put a N v) w->Q (.panic c) a w) (hS:S w)
  (h:stillS P ops S is (fun a'=>wpAnyLast P md ops Q S ds fuel l' a' w) a):wpAnyLast P md ops Q S ds (fuel+n) l a w:=by
 simp only [Bool.and_eq_true,beq_iff_eq] at hc;obtain ⟨⟨h1,h2⟩,h3⟩:=hc;subst h3;exact batch_go hQ hS is l a h1 h2 h
end
section
variable {P:Program} {ops:Array Oper} {Q:Exit->Go.Act->World->Prop} {md:Region.Mode} {S:World->Prop} {ds:List Nat}
theorem ba9 {w:World} {fuel n:Nat} {l:Array Bool} {a:Go.Act} (is:List Nat) (hc:(batchB md ops ds l is && (is.length == n)) = true) (hQ:∀ N v c a w,Q (.panic c) (Go.Act.put a N v) w->Q (.panic c) a w) (hS:S w)
  (h:stillS P ops S is (fun a'=>wpAnyLast P md ops Q S ds fuel (setAll l is) a' w) a):wpAnyLast P md ops Q S ds (fuel+n) l a w:=batch_ is _ (by simpa [and_assoc] using hc) hQ hS h
end
end Go.Proofs.Ytimamoimphjakaa.Eq

namespace Go.Proofs.Ytimamoimphjakaa.Eq
open Go.RowKit Go.Proofs.YtimamoimphjakaaW.PrintWords Go.Proofs.YtimamoimphjakaaW.PrintLast
structure Deed where
 kind:Int
 a:Int
 b:Int
 deriving DecidableEq
def zDeed:Deed:=⟨0,0,0⟩
def kDeed:Kd Deed:=Kd.iso (Kd.pair (Kd.int .i64) (Kd.pair (Kd.int .i64) (Kd.int .i64))) (fun x:Deed=>(x.kind,x.a,x.b))
theorem kDeed_open {w:World} {x:Deed} {cs:List Value} (h:kDeed.K w x cs):cs= [.int .i64 x.kind,.int .i64 x.a,.int .i64 x.b]:=by
 obtain ⟨_,_,rfl,rfl,⟨_,_,rfl,rfl,rfl⟩⟩:=h;exact rfl
theorem kDeed_mkM {w:World} {base:Nat} {ok:Nat->Prop} (x:Deed):kDeed.M w base ok x [.int .i64 x.kind,.int .i64 x.a,.int .i64 x.b]:=
 ⟨[.int .i64 x.kind], [.int .i64 x.a,.int .i64 x.b],rfl,rfl,⟨[.int .i64 x.a], [.int .i64 x.b],rfl,rfl,rfl⟩⟩
structure Act where
 kind:Int
 deeds:List Deed
 kids:List Int
 reg:Int
 deriving DecidableEq
def zAct:Act:=⟨0, [], [],0⟩
def kAct:Kd Act:=Kd.iso (Kd.pair (Kd.int .i64) (Kd.pair (Kd.slice 111 kDeed) (Kd.pair (Kd.slice 3 (Kd.int .i64)) (Kd.int .i64)))) (fun x:Act=>(x.kind,x.deeds,x.kids,x.reg))
theorem kAct_open {w:World} {x:Act} {cs:List Value} (h:kAct.K w x cs):∃ A_deeds c_deeds A_kids c_kids,cs= [.int .i64 x.kind,.slice A_deeds x.deeds.length c_deeds,.slice A_kids x.kids.length c_kids,.int .i64 x.reg]/\x.deeds.length<=c_deeds/\kDeed.C w A_deeds x.deeds.length x.deeds/\x.kids.length<=c_kids/\(Kd.int .i64).C w A_kids x.kids.length x.kids:=by
 obtain ⟨_,_,rfl,rfl,⟨_,_,rfl,⟨A_deeds,c_deeds,rfl,l_deeds,g_deeds⟩,⟨_,_,rfl,⟨A_kids,c_kids,rfl,l_kids,g_kids⟩,rfl⟩⟩⟩:=h;exact ⟨A_deeds,c_deeds,A_kids,c_kids,rfl,l_deeds,g_deeds,l_kids,g_kids⟩
theorem kAct_mk {w:World} (x:Act) {A_deeds:Option Addr} {c_deeds:Nat} (l_deeds:x.deeds.length<=c_deeds) (g_deeds:kDeed.C w A_deeds x.deeds.length x.deeds) {A_kids:Option Addr} {c_kids:Nat} (l_kids:x.kids.length<=c_kids) (g_kids:(Kd.int .i64).C w A_kids x.kids.length x.kids):kAct.K w x [.int .i64 x.kind,.slice A_deeds x.deeds.length c_deeds,.slice A_kids x.kids.length c_kids,.int .i64 x.reg]:=
 ⟨[.int .i64 x.kind], [.slice A_deeds x.deeds.length c_deeds,.slice A_kids x.kids.length c_kids,.int .i64 x.reg],rfl,rfl,⟨[.slice A_deeds x.deeds.length c_deeds], [.slice A_kids x.kids.length c_kids,.int .i64 x.reg],rfl,⟨_,_,rfl,l_deeds,g_deeds⟩,⟨[.slice A_kids x.kids.length c_kids], [.int .i64 x.reg],rfl,⟨_,_,rfl,l_kids,g_kids⟩,rfl⟩⟩⟩
theorem kAct_mkM {w:World} {base:Nat} {ok:Nat->Prop} (x:Act) {v_deeds:Value} (g_deeds:kDeed.R 111 w base ok v_deeds x.deeds) {v_kids:Value} (g_kids:(Kd.int .i64).R 3 w base ok v_kids x.kids):kAct.M w base ok x [.int .i64 x.kind,v_deeds,v_kids,.int .i64 x.reg]:=
 ⟨[.int .i64 x.kind], [v_deeds,v_kids,.int .i64 x.reg],rfl,rfl,⟨[v_deeds], [v_kids,.int .i64 x.reg],rfl,⟨_,rfl,g_deeds⟩,⟨[v_kids], [.int .i64 x.reg],rfl,⟨_,rfl,g_kids⟩,rfl⟩⟩⟩
structure Prog where
 cells:List Int
 bodies:List (List Act)
 deriving DecidableEq
def kProg:Kd Prog:=Kd.iso (Kd.pair (Kd.slice 3 (Kd.int .i64)) (Kd.slice 104 (Kd.slice 108 kAct))) (fun x:Prog=>(x.cells,x.bodies))
theorem kProg_open {w:World} {x:Prog} {cs:List Value} (h:kProg.K w x cs):∃ A_cells c_cells A_bodies c_bodies,cs= [.slice A_cells x.cells.length c_cells,.slice A_bodies x.bodies.length c_bodies]/\x.cells.length<=c_cells/\(Kd.int .i64).C w A_cells x.cells.length x.cells/\x.bodies.length<=c_bodies/\(Kd.slice 108 kAct).C w A_bodies x.bodies.length x.bodies:=by
 obtain ⟨_,_,rfl,⟨A_cells,c_cells,rfl,l_cells,g_cells⟩,⟨A_bodies,c_bodies,rfl,l_bodies,g_bodies⟩⟩:=h;exact ⟨A_cells,c_cells,A_bodies,c_bodies,rfl,l_cells,g_cells,l_bodies,g_bodies⟩
theorem kProg_mkM {w:World} {base:Nat} {ok:Nat->Prop} (x:Prog) {v_cells:Value} (g_cells:(Kd.int .i64).R 3 w base ok v_cells x.cells) {v_bodies:Value} (g_bodies:(Kd.slice 108 kAct).R 104 w base ok v_bodies x.bodies):kProg.M w base ok x [v_cells,v_bodies]:=
 ⟨[v_cells], [v_bodies],rfl,⟨_,rfl,g_cells⟩,⟨_,rfl,g_bodies⟩⟩
end Go.Proofs.Ytimamoimphjakaa.Eq
namespace Go.Proofs.Ytimamoimphjakaa.Eq
def inB (n lo hi:Int):Bool:=decide (lo<=n) && decide (n<=hi)
theorem inB_iff {n lo hi:Int}:inB n lo hi=true ↔ lo<=n/\n<=hi:=by simp [inB]
def allB (n:Nat) (f:Nat->Bool):Bool:=decide (∀ i,i < n->f i=true)
theorem allB_iff {n:Nat} {f:Nat->Bool}:allB n f=true ↔ ∀ i,i < n->f i=true:=by simp [allB]
theorem allB_no {n i:Nat} {f:Nat->Bool} (hi:i < n) (h:f i=false):allB n f=false:=by
 rw [Bool.eq_false_iff];intro h';rw [allB_iff.1 h' i hi] at h;cases h
def cntTo (f:Nat->Bool):Nat->Nat
 | 0=>0
 | n+1=>cntTo f n+if f n then 1 else 0
theorem cntTo_le (f:Nat->Bool):∀ n,cntTo f n<=n
 | 0=>Nat.le_refl _
 | n+1=>by
  have:=cntTo_le f n
  unfold cntTo;split <;> omega
def putAt (xs:List Put) (i:Nat):Put:=xs.getD i zPut
def cellAt (xs:List Cell) (i:Nat):Cell:=xs.getD i zCell
def entryAt (xs:List Entry) (i:Nat):Entry:=xs.getD i zEntry
def actsAt (bs:List (List Act)) (i:Nat):List Act:=bs.getD i []
def actAt (xs:List Act) (i:Nat):Act:=xs.getD i zAct
def deedAt (xs:List Deed) (i:Nat):Deed:=xs.getD i zDeed
def numAt (xs:List Int) (i:Nat):Int:=xs.getD i 0
def deedOk (d:Deed) (cells:Int):Bool:=
 if d.kind=1 then inB d.a 0 2 && inB d.b 0 (cells - 1)
 else if d.kind=2 then inB d.a 0 (cells - 1) && inB d.b 0 2
 else if d.kind=3 then inB d.a 0 2 && inB d.b 0 99
 else if d.kind=4 then inB d.a 0 2 && inB d.b 0 2
 else if d.kind=5 then inB d.a 0 2 && decide (d.b=0)
 else false
def deedsOk (ds:List Deed) (cells:Int):Bool:=allB ds.length fun i=>deedOk (deedAt ds i) cells
def kidsOk (ks:List Int) (body bodies:Int):Bool:=allB ks.length (fun i=>inB (numAt ks i) (body+1) (bodies - 1)) && inB ks.length 1 2
def actOk (cells bodies body:Int) (a:Act):Bool:=
 if (a.kind ≠ 1/\a.deeds ≠ [])\/(a.kind ≠ 2/\a.kids ≠ [])\/(a.kind ≠ 4/\a.reg ≠ 0) then false
 else if a.kind=1 then deedsOk a.deeds cells && decide (a.deeds.length<=5)
 else if a.kind=2 then kidsOk a.kids body bodies
 else if a.kind=3 then true
 else if a.kind=4 then inB a.reg 0 2
 else false
def bodyOk (cells bodies body:Int) (acts:List Act):Bool:=decide (acts.length<=4) && allB acts.length fun k=>actOk cells bodies body (actAt acts k)
def formOk (p:Prog):Bool:=decide (p.cells.length<=3) && inB p.bodies.length 1 4 && allB p.cells.length (fun i=>inB (numAt p.cells i) 0 99) && allB p.bodies.length fun i=>bodyOk p.cells.length p.bodies.length i (actsAt p.bodies i)
def sumL {α:Type} (f:α->Nat):List α->Nat
 | []=>0
 | a :: l=>f a+sumL f l
def treeN (bs:List (List Act)):Nat->Int->Nat
 | 0,_=>1
 | n+1,b=>1+sumL (fun a:Act=>sumL (treeN bs n) a.kids) (actsAt bs b.toNat)
def treeOf (p:Prog) (b:Int):Nat:=treeN p.bodies 4 b
def progOk (p:Prog):Bool:=formOk p && decide (treeOf p 0<=7)
def listOk (xs:List Put) (cells:Int):Bool:=allB xs.length fun i=>inB (putAt xs i).cell 0 (cells - 1) && inB (putAt xs i).num 0 99 && (decide (i=0) || decide ((putAt xs (i - 1)).cell < (putAt xs i).cell))
def numsOk (xs:List Int) (size:Int):Bool:=allB xs.length (fun i=>inB (numAt xs i) 0 99) && decide ((xs.length:Int)=size)
def findP (xs:List Put) (cell:Int):Option Nat:=xs.findIdx? fun x=>decide (x.cell=cell)
def kidsN (ts:List Task) (task way:Int):Nat:=cntTo (fun k=>decide ((taskAt ts k).up=task) && decide ((taskAt ts k).way=way)) ts.length
def stOk (t:Task) (deeds:Int):Bool:=
 if t.stage=0 then decide (t.at_=0) && decide (t.reads.length+t.puts.length=0)
 else if t.stage=1 then inB t.at_ 0 deeds
 else if t.stage=3 then decide (t.at_=0) && decide (0 < t.puts.length)
 else if t.stage=4 then inB t.at_ 0 t.reads.length && decide (0 < t.puts.length)
 else inB t.at_ 0 (t.puts.length - 1)
def timesOk (t:Task) (s:Sys):Bool:=
 inB t.since 0 s.clock && inB t.from_ 0 s.log.length &&
  (if t.stage=0 then inB t.when_ 0 (s.clock+1) else if t.stage=4\/t.stage=5 then inB t.when_ (t.since+1) s.clock else decide (t.when_=0))
def wayOk (p:Prog) (s:Sys) (i:Nat):Bool:=
 let t:=taskAt s.tasks i
 let acts:=actsAt p.bodies t.body.toNat
 if t.way=0 then decide (t.stage=0) || (decide (t.pc < acts.length) && decide ((actAt acts t.pc.toNat).kind=1) && stOk t (actAt acts t.pc.toNat).deeds.length)
 else if t.way=1 then decide (t.pc < acts.length) && decide ((actAt acts t.pc.toNat).kind=2) && decide ((actAt acts t.pc.toNat).kids.length<=kidsN s.tasks i 0+kidsN s.tasks i 1+kidsN s.tasks i 2+kidsN s.tasks i 3)
 else if t.way=2 then decide (t.pc=acts.length)
 else true
def upsOk (s:Sys) (i:Nat):Bool:=
 let t:=taskAt s.tasks i
 if i=0 then decide (t.up= -1)
 else inB t.up 0 (i - 1) && (!isLive t || decide ((taskAt s.tasks t.up.toNat).way=1))
def taskOk (p:Prog) (s:Sys) (i:Nat):Bool:=
 let t:=taskAt s.tasks i
 inB t.body 0 (p.bodies.length - 1) && inB t.pc 0 (actsAt p.bodies t.body.toNat).length && inB t.way 0 4 && inB t.stage 0 5 &&
  (decide (t.way=0) || decide (t.stage=0)) && numsOk t.regs 3 && numsOk t.old 3 && listOk t.reads s.cells.length && listOk t.puts s.cells.length &&
  (!decide (t.stage=0) || (decide (t.at_=0) && decide (t.reads.length+t.puts.length=0))) && timesOk t s && upsOk s i && wayOk p s i
def holds (t:Task) (cell:Int):Bool:=
 match findP t.puts cell with
 | none=>false
 | some i=>if t.stage=2 then decide ((i:Int) < t.at_) else if t.stage=3\/t.stage=4 then true else if t.stage=5 then decide (t.at_<=i) else false
def cellsOk (s:Sys):Bool:=allB s.cells.length fun i=>
 let c:=cellAt s.cells i
 inB c.num 0 99 && inB c.time 0 s.clock && inB c.lock (-1) (s.tasks.length - 1) && allB s.tasks.length fun k=>decide (holds (taskAt s.tasks k) i=decide (c.lock=k))
def logOk (p:Prog) (s:Sys):Bool:=allB s.log.length fun i=>
 let e:=entryAt s.log i
 inB e.task 0 (s.tasks.length - 1) && inB e.when_ 0 s.clock && inB e.from_ 0 i && listOk e.reads s.cells.length && listOk e.puts s.cells.length &&
  inB e.act 0 ((actsAt p.bodies (taskAt s.tasks e.task.toNat).body.toNat).length - 1)
def sysOk (p:Prog) (s:Sys):Bool:=
 progOk p && decide (s.cells.length=p.cells.length) && inB s.tasks.length 1 7 && inB s.clock 0 200 && allB s.tasks.length (taskOk p s) && cellsOk s && logOk p s
end Go.Proofs.Ytimamoimphjakaa.Eq












namespace Go.Proofs.Ytimamoimphjakaa.Eq
structure PutsIn (n:Nat) (l:List Put):Prop where
 cell:∀ x ∈ l,0<=x.cell/\x.cell < n
 num:∀ x ∈ l,0<=x.num/\x.num<=99
 asc:l.Pairwise fun x y=>x.cell < y.cell
theorem numAt_set {l:List Int} {k j:Nat} {x:Int} (hk:k < l.length):numAt (l.set k x) j=if k=j then x else numAt l j:=by
 simp only [numAt,List.getD_eq_getElem?_getD,List.getElem?_set];split
 ·rename_i h
  subst h;simp [hk]
 ·rfl
theorem actsAt_eq {bs:List (List Act)} {i:Nat} (h:i < bs.length):actsAt bs i=bs[i]:=by simp [actsAt,h]
theorem form_act {p:Prog} (h:formOk p=true) {b:Int} (hb:0<=b/\b < p.bodies.length) {k:Nat} (hk:k < (actsAt p.bodies b.toNat).length):actOk p.cells.length p.bodies.length b (actAt (actsAt p.bodies b.toNat) k)=true:=by
 simp only [formOk,Bool.and_eq_true,allB_iff] at h
 have:=h.2 b.toNat (by omega)
 simp only [bodyOk,Bool.and_eq_true,allB_iff] at this;have h2:=this.2 k hk;rwa [show ((b.toNat:Nat):Int)=b by omega] at h2
theorem form_acts {p:Prog} (h:formOk p=true) {b:Int} (hb:0<=b/\b < p.bodies.length):(actsAt p.bodies b.toNat).length<=4:=by
 simp only [formOk,Bool.and_eq_true,allB_iff] at h
 have:=h.2 b.toNat (by omega)
 simp only [bodyOk,Bool.and_eq_true,decide_eq_true_eq] at this;exact this.1
theorem form_cells {p:Prog} (h:formOk p=true):p.cells.length<=3/\1<=p.bodies.length/\p.bodies.length<=4:=by
 simp only [formOk,Bool.and_eq_true,decide_eq_true_eq,inB_iff] at h;omega
theorem act_kids {cells bodies body:Int} {a:Act} (h:actOk cells bodies body a=true) (hk:a.kind=2):a.kids.length<=2/\1<=a.kids.length/\∀ k,k < a.kids.length->body+1<=numAt a.kids k/\numAt a.kids k<=bodies - 1:=by
 unfold actOk at h;split at h
 ·cases h
 ·rw [if_neg (by omega)] at h
  (try rw [if_pos hk] at h)
  simp only [Bool.and_eq_true,kidsOk,allB_iff,inB_iff] at h;exact ⟨by omega,by omega,fun k hk=>h.1 k hk⟩
theorem sumL_append {α:Type} (f:α->Nat):∀ (l m:List α),sumL f (l ++ m)=sumL f l+sumL f m
 | [],m=>by simp [sumL]
 | a :: l,m=>by simp [sumL,sumL_append f l m];omega
section
variable {p:Prog} {s:Sys} {N i j:Nat}
theorem putsIn_of {xs:List Put} {n:Nat} (h:listOk xs n=true):PutsIn n xs:=by
 simp only [listOk,allB_iff,Bool.and_eq_true,inB_iff,Bool.or_eq_true,decide_eq_true_eq] at h;have hat:∀ k (hk:k < xs.length),putAt xs k=xs[k]:=fun k hk=>by simp [putAt,hk]
 refine ⟨fun x hx=> ?_,fun x hx=> ?_, ?_⟩
 ·obtain ⟨k,hk,rfl⟩:=List.mem_iff_getElem.1 hx
  have:=(h k hk).1.1
  rw [hat k hk] at this;omega
 ·obtain ⟨k,hk,rfl⟩:=List.mem_iff_getElem.1 hx
  have:=(h k hk).1.2
  rw [hat k hk] at this;omega
 ·have:∀ d k,(hk:k+d+1 < xs.length)->(putAt xs k).cell < (putAt xs (k+d+1)).cell:=by
   intro d
   induction d with
   | zero=>
    intro k hk
    have:=(h (k+1) hk).2
    simpa using this
   | succ d ih=>
    intro k hk;have h1:=ih k (by omega);have h2:=(h (k+(d+1)+1) hk).2;have h3:k+(d+1)+1 - 1=k+d+1:=by omega
    rw [h3] at h2;rcases h2 with h2 | h2
    ·omega
    ·omega
  rw [List.pairwise_iff_getElem];intro a b ha hb hab;have:=this (b - a - 1) a (by omega);rw [show a+(b - a - 1)+1=b by omega,hat a ha,hat b hb] at this;exact this
end
end Go.Proofs.Ytimamoimphjakaa.Eq

namespace Go.Proofs.Ytimamoimphjakaa.Eq
open Go.RowKit Go.Proofs.YtimamoimphjakaaW.PrintWords Go.Proofs.YtimamoimphjakaaW.PrintLast Go.Proofs.YtimamoimphjakaaW.PrintMore
structure RO (g:Nat) (vp vb:Value) (p:Prog) (s:Sys) (vc vt vl:Value) (W:World):Prop where
 blk:W.heap[g]? = some (.cells #[vp,vb,vc,vt,.int .i64 s.clock,vl] 152 (0,0))
 prog:kProg.K W p [vp,vb]
 sys:kSys.K W s [vc,vt,.int .i64 s.clock,vl]
theorem kidsN_next (f:Nat->Bool) (k:Nat):cntTo f (k+1)=cntTo f k+if f k then 1 else 0:=rfl
theorem kids_calls {g:Nat} {vp vb:Value} {p:Prog} {s:Sys} {vc vt vl:Value} (task way:Int) (w:World) (h:RO g vp vb p s vc vt vl w) (hn:s.tasks.length<=1048576):
  Calls Try.prog 125 #[.pointer (some ⟨g,0,none⟩),.int .i64 task,.int .i64 way] w fun e w'=>e= .returned (.int .i64 (kidsN s.tasks task way))/\w'=w:=by
 obtain ⟨hblk,hp,hs⟩:=h;obtain ⟨A0,c0,A1,c1,A3,c3,he,l0,g0,l1,g1,l3,g3⟩:=kSys_open hs;simp only [List.cons.injEq,and_true,true_and] at he;obtain ⟨rfl,rfl,rfl⟩:=he;have G:=am g1;have BKc:=zc8 hblk;clear g0 g1 g3 l0 l1 l3 hs hp hblk;obtain ⟨f,hf⟩:∃ f:Nat->Bool,f=fun k=>decide ((taskAt s.tasks k).up=task) && decide ((taskAt s.tasks k).way=way):=⟨_,rfl⟩
 have hk0:kidsN s.tasks task way=cntTo f s.tasks.length:=by rw [hf];rfl
 rw [hk0];have HF:=am hf;clear hk0 hf;go_enter Try.func125,Try.ntmps125;go_wp2;go_loopw [7,8] (fun v i w'=>∃ k:Nat,k<=s.tasks.length/\i= .int .i64 k/\v= .int .i64 (cntTo f k)/\w'=w) (fun _ i _=>s.tasks.length - (intOf i).toNat)
 case atStart=>exact ⟨0,Nat.zero_le _,rfl,rfl,rfl⟩
 case round=>
  obtain ⟨k,hk,rfl,rfl,rfl⟩:=hrel;have hlen:=cntTo_le f k;by_cases hlt:k < s.tasks.length
  ·obtain ⟨b,o,cs,rfl,hcl,hK,hcc,hc0⟩:=C_field G.out zTask k hlt (by decide)
   rw [show s.tasks.getD k zTask=taskAt s.tasks k from rfl] at hK;obtain ⟨B3,d3,B8,d8,B9,d9,B10,d10,rfl,_,_,_,_,_,_,_,_⟩:=kTask_open hK;have h_up:=hcc 2 _ rfl;have h_way:=hcc 4 _ rfl;simp only [show kTask.sz=13 from rfl] at h_way h_up;clear hcc hc0 hK hcl;have q0:(0:Int)<=(k:Int):=by omega
   have q1:(k:Int) < (s.tasks.length:Int):=by omega
   by_cases hy:(taskAt s.tasks k).up=task
   ·have y0:((taskAt s.tasks k).up == task)=true:=by simp [hy]
    by_cases hz:(taskAt s.tasks k).way=way
    ·have y1:((taskAt s.tasks k).way == way)=true:=by simp [hz]
     have HY:=am (show f k=true by simp [HF.out,hy,hz]);clear hy hz;go_wp2;go_roundw
     case rel=>exact ⟨k+1,by omega,by go_num,by rw [kidsN_next,HY.out];go_num,trivial⟩
     case measure=>simp [intOf];omega
    ·have y1:((taskAt s.tasks k).way == way)=false:=by simp [hz]
     have HY:=am (show f k=false by simp [HF.out,hy,hz]);clear hy hz;go_wp2;go_roundw
     case rel=>exact ⟨k+1,by omega,by go_num,by rw [kidsN_next,HY.out];simp,trivial⟩
     case measure=>simp [intOf];omega
   ·have y0:((taskAt s.tasks k).up == task)=false:=by simp [hy]
    have HY:=am (show f k=false by simp [HF.out,hy]);clear hy;go_wp2;go_roundw
    case rel=>exact ⟨k+1,by omega,by go_num,by rw [kidsN_next,HY.out];simp,trivial⟩
    case measure=>simp [intOf];omega
  ·go_wp2
   go_ret;obtain rfl:k=s.tasks.length:=by omega
   exact ⟨rfl,rfl⟩
theorem cellB {w W:World} {b o:Nat} {v:Value} (hb:Below w.heap.size w W) (h:w.cell? ⟨b,o,none⟩=some v):W.cell? ⟨b,o,none⟩=some v:=((bcell hb).1 _ _ (World.block_lt_of_cell? _ _ h)).trans h
theorem C_nil {α:Type} (d:Kd α) (w:World):d.C w none 0 []:=⟨rfl,by decide,fun h=>absurd h (by decide)⟩
end Go.Proofs.Ytimamoimphjakaa.Eq

namespace Go.Proofs.Ytimamoimphjakaa.Eq
open Go.RowKit Go.Proofs.YtimamoimphjakaaW.PrintWords Go.Proofs.YtimamoimphjakaaW.PrintLast Go.Proofs.YtimamoimphjakaaW.PrintMore
theorem info_put:(Try.prog.info? 103).map (fun i=>(i.zero,i.size,i.bytes))=some (some (.agg #[.int .i64 0,.int .i64 0]),2,16):=by kernel_rfl
theorem findP_none {xs:List Put} {cell:Int} (h:∀ j,j < xs.length->(putAt xs j).cell ≠ cell):findP xs cell=none:=by
 unfold findP;rw [List.findIdx?_eq_none_iff];intro x hx;obtain ⟨j,hj,rfl⟩:=List.mem_iff_getElem.1 hx;have:=h j hj;simpa [putAt,hj] using this
theorem findP_some {xs:List Put} {cell:Int} {k:Nat} (hk:k < xs.length) (h:∀ j,j < k->(putAt xs j).cell ≠ cell) (he:(putAt xs k).cell=cell):findP xs cell=some k:=by
 unfold findP;rw [List.findIdx?_eq_some_iff_getElem];refine ⟨hk,by simpa [putAt,hk] using he,fun j hj=> ?_⟩;have:=h j hj;have hjl:j < xs.length:=by omega
 simpa [putAt,hjl] using this
def placeOf:Option Nat->Int
 | none=> -1
 | some k=>k
theorem l11Find_calls (A:Option Addr) (c:Nat) (xs:List Put) (cell:Int) (w:World) (hx:kPut.C w A xs.length xs) (hn:xs.length<=1048576):
  Calls Try.prog 126 #[.slice A xs.length c,.int .i64 cell] w fun e w'=>e= .returned (.int .i64 (placeOf (findP xs cell)))/\w=w':=by
 have HX:=am hx;clear hx;go_enter Try.func126,Try.ntmps126;go_wp2;go_loopw [5] (fun j w'=>∃ k:Nat,k<=xs.length/\j= .int .i64 k/\w'=w/\Aside0 (∀ j,j < k->(putAt xs j).cell ≠ cell)) (fun j _=>xs.length - (intOf j).toNat)
 case atStart=>exact ⟨0,Nat.zero_le _,rfl,rfl,⟨fun j hj=>absurd hj (Nat.not_lt_zero j)⟩⟩
 case round=>
  obtain ⟨k,hk,rfl,rfl,HJ⟩:=hrel;by_cases hlt:k < xs.length
  ·obtain ⟨b,o,cs,rfl,hcl,hK,hcc,-⟩:=C_field HX.out zPut k hlt (by decide)
   have e:=kPut_open hK;subst e;have c0:=hcc 0 _ rfl;simp only [show kPut.sz=2 from rfl,Nat.add_zero] at c0;rw [show xs.getD k zPut=putAt xs k from rfl] at c0;clear hcc hK hcl;have q0:(0:Int)<=(k:Int):=by omega
   have q1:(k:Int) < (xs.length:Int):=by omega
   by_cases he:(putAt xs k).cell=cell
   ·have y0:((putAt xs k).cell == cell)=true:=by simp [he]
    have HE:=am he;clear he;go_wp2;go_ret;exact ⟨by rw [findP_some hlt HJ.out HE.out];rfl,rfl⟩
   ·have y0:((putAt xs k).cell == cell)=false:=by simp [he]
    have HE:=am he;clear he;go_wp2;go_roundw
    case rel=>exact ⟨k+1,by omega,by go_num,by first|rfl | trivial,⟨fun j hj=>by
     rcases Nat.lt_or_ge j k with h | h
     ·exact HJ.out j h
     ·obtain rfl:j=k:=by omega
      exact HE.out⟩⟩
    case measure=>simp [intOf];omega
  ·go_wp2
   go_ret;obtain rfl:k=xs.length:=by omega
   exact ⟨by rw [findP_none HJ.out];rfl,rfl⟩
end Go.Proofs.Ytimamoimphjakaa.Eq














namespace Go.Proofs.Ytimamoimphjakaa.Eq
theorem sumL_take {α:Type} (f:α->Nat) (d:α) (l:List α) {k:Nat} (h:k < l.length):sumL f (l.take (k+1))=sumL f (l.take k)+f (l.getD k d):=by
 rw [List.take_succ_eq_append_getElem h,sumL_append];simp [sumL,h]
theorem sumL_congr {α:Type} {f g:α->Nat}:∀ {l:List α},(∀ a ∈ l,f a=g a)->sumL f l=sumL g l
 | [],_=>rfl
 | a :: l,h=>by
  unfold sumL;rw [h a (by simp),sumL_congr (fun b hb=>h b (by simp [hb]))]
theorem sumL_le {α:Type} {f:α->Nat} {m:Nat}:∀ {l:List α},(∀ a ∈ l,f a<=m)->sumL f l<=l.length*m
 | [],_=>by simp [sumL]
 | a :: l,h=>by
  have h1:=h a (by simp);have h2:=sumL_le (l:=l) (fun b hb=>h b (by simp [hb]));simp only [sumL,List.length_cons,Nat.add_mul,Nat.one_mul];omega
theorem act_mem {p:Prog} (h:formOk p=true) {b:Int} (hb:0<=b/\b < p.bodies.length) {a:Act} (ha:a ∈ actsAt p.bodies b.toNat):actOk p.cells.length p.bodies.length b a=true:=by
 obtain ⟨k,hk,rfl⟩:=List.mem_iff_getElem.1 ha
 have:=form_act h hb hk
 simpa [actAt,hk] using this
theorem kid_behind {p:Prog} (h:formOk p=true) {b:Int} (hb:0<=b/\b < p.bodies.length) {a:Act} (ha:a ∈ actsAt p.bodies b.toNat):a.kids.length<=2/\∀ k ∈ a.kids,b+1<=k/\k < p.bodies.length:=by
 have hok:=act_mem h hb ha;by_cases h2:a.kind=2
 ·obtain ⟨h3,_,h4⟩:=act_kids hok h2
  refine ⟨h3,fun k hk=> ?_⟩;obtain ⟨j,hj,rfl⟩:=List.mem_iff_getElem.1 hk;have:=h4 j hj;simp only [numAt,List.getD_eq_getElem?_getD,List.getElem?_eq_getElem hj,Option.getD_some] at this;omega
 ·have:a.kids= []:=by
   unfold actOk at hok;split at hok
   ·cases hok
   ·rename_i hn
    exact Classical.byContradiction fun hne=>hn (.inr (.inl ⟨h2,hne⟩))
  rw [this];exact ⟨by simp,fun k hk=>by simp at hk⟩
theorem treeN_more {p:Prog} (h:formOk p=true):∀ (n:Nat) (b:Int),0<=b->b < p.bodies.length->(p.bodies.length:Int) - b<=n->treeN p.bodies (n+1) b=treeN p.bodies n b
 | 0,b,h0,h1,hn=>by omega
 | n+1,b,h0,h1,hn=>by
  rw [treeN,treeN]
  congr 1
  refine sumL_congr fun a ha=>sumL_congr fun k hk=> ?_
  have:=(kid_behind h ⟨h0,h1⟩ ha).2 k hk
  exact treeN_more h n k (by omega) (by omega) (by omega)
theorem treeOf_eq {p:Prog} (h:formOk p=true) {b:Int} (h0:0<=b) (h1:b < p.bodies.length):treeOf p b=1+sumL (fun a:Act=>sumL (treeOf p) a.kids) (actsAt p.bodies b.toNat):=by
 have hl:=form_cells h;unfold treeOf;rw [<-treeN_more h 4 b h0 h1 (by omega),treeN]
def treeMax:Nat->Nat
 | 0=>1
 | n+1=>1+8*treeMax n
theorem treeN_le {p:Prog} (h:formOk p=true):∀ (n:Nat) (b:Int),0<=b->b < p.bodies.length->treeN p.bodies n b<=treeMax n
 | 0,b,_,_=>Nat.le_refl _
 | n+1,b,h0,h1=>by
  rw [treeN,treeMax];have h4:=form_acts h ⟨h0,h1⟩
  have:sumL (fun a:Act=>sumL (treeN p.bodies n) a.kids) (actsAt p.bodies b.toNat)<=(actsAt p.bodies b.toNat).length*(2*treeMax n):=by
   refine sumL_le fun a ha=> ?_
   obtain ⟨h2,h3⟩:=kid_behind h ⟨h0,h1⟩ ha;refine Nat.le_trans (sumL_le (m:=treeMax n) fun k hk=>treeN_le h n k (by have:=h3 k hk;omega) (h3 k hk).2) ?_;exact Nat.mul_le_mul_right _ h2
  have h5:(actsAt p.bodies b.toNat).length*(2*treeMax n)<=4*(2*treeMax n):=Nat.mul_le_mul_right _ h4;omega
theorem treeOf_le {p:Prog} (h:formOk p=true) {b:Int} (h0:0<=b) (h1:b < p.bodies.length):treeOf p b<=4681:=treeN_le h 4 b h0 h1
end Go.Proofs.Ytimamoimphjakaa.Eq
namespace Go.Proofs.Ytimamoimphjakaa.Eq
open Go.RowKit Go.Proofs.YtimamoimphjakaaW.PrintWords Go.Proofs.YtimamoimphjakaaW.PrintLast Go.Proofs.YtimamoimphjakaaW.PrintMore
theorem l1Deed_calls (d:Deed) (cells:Int) (w:World) (h0:0<=cells) (h1:cells<=1048576):
  Calls Try.prog 141 #[.agg #[.int .i64 d.kind,.int .i64 d.a,.int .i64 d.b],.int .i64 cells] w fun e w'=>e= .returned (.bool (deedOk d cells))/\Below w.heap.size w w':=by
 go_enter Try.func141,Try.ntmps141;obtain ⟨ba,hba⟩:∃ b,inB d.a 0 2=b:=⟨_,rfl⟩;have HA:Aside0 ((decide ((0:Int)<=d.a) && decide (d.a<=2))=ba):=⟨hba⟩;clear hba;by_cases k1:d.kind=1
 ·have y1:(d.kind == 1)=true:=by simp [k1]
  have K1:=am k1;clear k1;obtain ⟨bz,hbz⟩:∃ b,inB d.b 0 (cells - 1)=b:=⟨_,rfl⟩;have HY:Aside0 ((decide ((0:Int)<=d.b) && decide (d.b<=(cells - 1)))=bz):=⟨hbz⟩;clear hbz
  cases ba with
  | false=>
   go_wp2_with (first
   |((with_reducible refine gate_dst (N:=2) rfl ?_);refine box_event rfl (N:=2) rfl (t:=111) (by go_simp<;>rfl) ?_;intro gd hg w2 hbox hb;have BK:=am hbox;have HB:=am hb;have BKc:=zc8 BK.out;clear hbox hb hg)
   |(go_at_call 50;refine (l6In_calls _ _ _ _).mono ?_;(first|rw [HA.out] | rw [HY.out]);rintro e w9 ⟨rfl,rfl⟩))
   go_ret
   have hr:deedOk d cells=false:=by
    unfold deedOk;rw [if_pos K1.out,show inB d.a 0 2=false from HA.out,Bool.false_and]
   rw [hr]
   exact ⟨rfl,HB.out⟩
  | true=>
   go_wp2_with (first
   |((with_reducible refine gate_dst (N:=2) rfl ?_);refine box_event rfl (N:=2) rfl (t:=111) (by go_simp<;>rfl) ?_;intro gd hg w2 hbox hb;have BK:=am hbox;have HB:=am hb;have BKc:=zc8 BK.out;clear hbox hb hg)
   |(go_at_call 50;refine (l6In_calls _ _ _ _).mono ?_;(first|rw [HA.out] | rw [HY.out]);rintro e w9 ⟨rfl,rfl⟩))
   go_ret
   have hr:deedOk d cells=bz:=by
    unfold deedOk;rw [if_pos K1.out,show inB d.a 0 2=true from HA.out,show inB d.b 0 (cells - 1)=bz from HY.out,Bool.true_and]
   rw [hr];exact ⟨rfl,HB.out⟩
 ·have y1:(d.kind == 1)=false:=by simp [k1]
  have K1:=am k1;clear k1;by_cases k2:d.kind=2
  ·have y2:(d.kind == 2)=true:=by simp [k2]
   have K2:=am k2;clear k2;obtain ⟨bx,hbx⟩:∃ b,inB d.a 0 (cells - 1)=b:=⟨_,rfl⟩;have HX:Aside0 ((decide ((0:Int)<=d.a) && decide (d.a<=(cells - 1)))=bx):=⟨hbx⟩;clear hbx;obtain ⟨bz,hbz⟩:∃ b,inB d.b 0 2=b:=⟨_,rfl⟩;have HY:Aside0 ((decide ((0:Int)<=d.b) && decide (d.b<=2))=bz):=⟨hbz⟩;clear hbz
   cases bx with
   | false=>
    go_wp2_with (first
    |((with_reducible refine gate_dst (N:=2) rfl ?_);refine box_event rfl (N:=2) rfl (t:=111) (by go_simp<;>rfl) ?_;intro gd hg w2 hbox hb;have BK:=am hbox;have HB:=am hb;have BKc:=zc8 BK.out;clear hbox hb hg)
    |(go_at_call 50;refine (l6In_calls _ _ _ _).mono ?_;(first|rw [HA.out] | rw [HX.out] | rw [HY.out]);rintro e w9 ⟨rfl,rfl⟩))
    go_ret
    have hr:deedOk d cells=false:=by
     unfold deedOk;rw [if_neg K1.out,if_pos K2.out,show inB d.a 0 (cells - 1)=false from HX.out,Bool.false_and]
    rw [hr]
    exact ⟨rfl,HB.out⟩
   | true=>
    go_wp2_with (first
    |((with_reducible refine gate_dst (N:=2) rfl ?_);refine box_event rfl (N:=2) rfl (t:=111) (by go_simp<;>rfl) ?_;intro gd hg w2 hbox hb;have BK:=am hbox;have HB:=am hb;have BKc:=zc8 BK.out;clear hbox hb hg)
    |(go_at_call 50;refine (l6In_calls _ _ _ _).mono ?_;(first|rw [HA.out] | rw [HX.out] | rw [HY.out]);rintro e w9 ⟨rfl,rfl⟩))
    go_ret
    have hr:deedOk d cells=bz:=by
     unfold deedOk;rw [if_neg K1.out,if_pos K2.out,show inB d.a 0 (cells - 1)=true from HX.out,show inB d.b 0 2=bz from HY.out,Bool.true_and]
    rw [hr];exact ⟨rfl,HB.out⟩
  ·have y2:(d.kind == 2)=false:=by simp [k2]
   have K2:=am k2;clear k2;by_cases k3:d.kind=3
   ·have y3:(d.kind == 3)=true:=by simp [k3]
    have K3:=am k3;clear k3;obtain ⟨bz,hbz⟩:∃ b,inB d.b 0 99=b:=⟨_,rfl⟩;have HY:Aside0 ((decide ((0:Int)<=d.b) && decide (d.b<=99))=bz):=⟨hbz⟩;clear hbz
    cases ba with
    | false=>
     go_wp2_with (first
     |((with_reducible refine gate_dst (N:=2) rfl ?_);refine box_event rfl (N:=2) rfl (t:=111) (by go_simp<;>rfl) ?_;intro gd hg w2 hbox hb;have BK:=am hbox;have HB:=am hb;have BKc:=zc8 BK.out;clear hbox hb hg)
     |(go_at_call 50;refine (l6In_calls _ _ _ _).mono ?_;(first|rw [HA.out] | rw [HY.out]);rintro e w9 ⟨rfl,rfl⟩))
     go_ret
     have hr:deedOk d cells=false:=by
      unfold deedOk;rw [if_neg K1.out,if_neg K2.out,if_pos K3.out,show inB d.a 0 2=false from HA.out,Bool.false_and]
     rw [hr]
     exact ⟨rfl,HB.out⟩
    | true=>
     go_wp2_with (first
     |((with_reducible refine gate_dst (N:=2) rfl ?_);refine box_event rfl (N:=2) rfl (t:=111) (by go_simp<;>rfl) ?_;intro gd hg w2 hbox hb;have BK:=am hbox;have HB:=am hb;have BKc:=zc8 BK.out;clear hbox hb hg)
     |(go_at_call 50;refine (l6In_calls _ _ _ _).mono ?_;(first|rw [HA.out] | rw [HY.out]);rintro e w9 ⟨rfl,rfl⟩))
     go_ret
     have hr:deedOk d cells=bz:=by
      unfold deedOk;rw [if_neg K1.out,if_neg K2.out,if_pos K3.out,show inB d.a 0 2=true from HA.out,show inB d.b 0 99=bz from HY.out,Bool.true_and]
     rw [hr];exact ⟨rfl,HB.out⟩
   ·have y3:(d.kind == 3)=false:=by simp [k3]
    have K3:=am k3;clear k3;by_cases k4:d.kind=4
    ·have y4:(d.kind == 4)=true:=by simp [k4]
     have K4:=am k4;clear k4;obtain ⟨bz,hbz⟩:∃ b,inB d.b 0 2=b:=⟨_,rfl⟩;have HY:Aside0 ((decide ((0:Int)<=d.b) && decide (d.b<=2))=bz):=⟨hbz⟩;clear hbz
     cases ba with
     | false=>
      go_wp2_with (first
      |((with_reducible refine gate_dst (N:=2) rfl ?_);refine box_event rfl (N:=2) rfl (t:=111) (by go_simp<;>rfl) ?_;intro gd hg w2 hbox hb;have BK:=am hbox;have HB:=am hb;have BKc:=zc8 BK.out;clear hbox hb hg)
      |(go_at_call 50;refine (l6In_calls _ _ _ _).mono ?_;(first|rw [HA.out] | rw [HY.out]);rintro e w9 ⟨rfl,rfl⟩))
      go_ret
      have hr:deedOk d cells=false:=by
       unfold deedOk;rw [if_neg K1.out,if_neg K2.out,if_neg K3.out,if_pos K4.out,show inB d.a 0 2=false from HA.out,Bool.false_and]
      rw [hr]
      exact ⟨rfl,HB.out⟩
     | true=>
      go_wp2_with (first
      |((with_reducible refine gate_dst (N:=2) rfl ?_);refine box_event rfl (N:=2) rfl (t:=111) (by go_simp<;>rfl) ?_;intro gd hg w2 hbox hb;have BK:=am hbox;have HB:=am hb;have BKc:=zc8 BK.out;clear hbox hb hg)
      |(go_at_call 50;refine (l6In_calls _ _ _ _).mono ?_;(first|rw [HA.out] | rw [HY.out]);rintro e w9 ⟨rfl,rfl⟩))
      go_ret
      have hr:deedOk d cells=bz:=by
       unfold deedOk;rw [if_neg K1.out,if_neg K2.out,if_neg K3.out,if_pos K4.out,show inB d.a 0 2=true from HA.out,show inB d.b 0 2=bz from HY.out,Bool.true_and]
      rw [hr];exact ⟨rfl,HB.out⟩
    ·have y4:(d.kind == 4)=false:=by simp [k4]
     have K4:=am k4;clear k4;by_cases k5:d.kind=5
     ·have y5:(d.kind == 5)=true:=by simp [k5]
      have K5:=am k5;clear k5
      cases ba with
      | false=>
       go_wp2_with (first
       |((with_reducible refine gate_dst (N:=2) rfl ?_);refine box_event rfl (N:=2) rfl (t:=111) (by go_simp<;>rfl) ?_;intro gd hg w2 hbox hb;have BK:=am hbox;have HB:=am hb;have BKc:=zc8 BK.out;clear hbox hb hg)
       |(go_at_call 50;refine (l6In_calls _ _ _ _).mono ?_;(first|rw [HA.out]);rintro e w9 ⟨rfl,rfl⟩))
       go_ret
       have hr:deedOk d cells=false:=by
        unfold deedOk;rw [if_neg K1.out,if_neg K2.out,if_neg K3.out,if_neg K4.out,if_pos K5.out,show inB d.a 0 2=false from HA.out,Bool.false_and]
       rw [hr]
       exact ⟨rfl,HB.out⟩
      | true=>
       by_cases z:d.b=0
       ·have yz:(d.b == 0)=true:=by simp [z]
        have Z:=am z;clear z
        go_wp2_with (first
        |((with_reducible refine gate_dst (N:=2) rfl ?_);refine box_event rfl (N:=2) rfl (t:=111) (by go_simp<;>rfl) ?_;intro gd hg w2 hbox hb;have BK:=am hbox;have HB:=am hb;have BKc:=zc8 BK.out;clear hbox hb hg)
        |(go_at_call 50;refine (l6In_calls _ _ _ _).mono ?_;(first|rw [HA.out]);rintro e w9 ⟨rfl,rfl⟩))
        go_ret
        have hr:deedOk d cells=true:=by
         unfold deedOk;rw [if_neg K1.out,if_neg K2.out,if_neg K3.out,if_neg K4.out,if_pos K5.out,show inB d.a 0 2=true from HA.out,decide_eq_true Z.out,Bool.true_and]
        rw [hr];exact ⟨rfl,HB.out⟩
       ·have yz:(d.b == 0)=false:=by simp [z]
        have Z:=am z;clear z
        go_wp2_with (first
        |((with_reducible refine gate_dst (N:=2) rfl ?_);refine box_event rfl (N:=2) rfl (t:=111) (by go_simp<;>rfl) ?_;intro gd hg w2 hbox hb;have BK:=am hbox;have HB:=am hb;have BKc:=zc8 BK.out;clear hbox hb hg)
        |(go_at_call 50;refine (l6In_calls _ _ _ _).mono ?_;(first|rw [HA.out]);rintro e w9 ⟨rfl,rfl⟩))
        go_ret
        have hr:deedOk d cells=false:=by
         unfold deedOk;rw [if_neg K1.out,if_neg K2.out,if_neg K3.out,if_neg K4.out,if_pos K5.out,show inB d.a 0 2=true from HA.out,decide_eq_false Z.out,Bool.true_and]
        rw [hr];exact ⟨rfl,HB.out⟩
     ·have y5:(d.kind == 5)=false:=by simp [k5]
      have K5:=am k5;clear k5
      go_wp2_with (first
      |((with_reducible refine gate_dst (N:=2) rfl ?_);refine box_event rfl (N:=2) rfl (t:=111) (by go_simp<;>rfl) ?_;intro gd hg w2 hbox hb;have BK:=am hbox;have HB:=am hb;have BKc:=zc8 BK.out;clear hbox hb hg)
      |(go_at_call 50;refine (l6In_calls _ _ _ _).mono ?_;(first|rw [HA.out]);rintro e w9 ⟨rfl,rfl⟩))
      go_ret
      have hr:deedOk d cells=false:=by
       unfold deedOk;rw [if_neg K1.out,if_neg K2.out,if_neg K3.out,if_neg K4.out,if_neg K5.out]
      rw [hr];exact ⟨rfl,HB.out⟩
theorem l1Kids_calls (A:Option Addr) (c:Nat) (ks:List Int) (body bodies:Int) (w:World) (hx:(Kd.int .i64).C w A ks.length ks) (hn:ks.length<=1048576) (h0:0<=body/\body<=1048576) (h1:0<=bodies/\bodies<=1048576):
  Calls Try.prog 142 #[.slice A ks.length c,.int .i64 body,.int .i64 bodies] w fun e w'=>e= .returned (.bool (kidsOk ks body bodies))/\w=w':=by
 have HX:=am hx;clear hx;obtain ⟨h00,h01⟩:=h0;obtain ⟨h10,h11⟩:=h1;go_enter Try.func142,Try.ntmps142;go_wp2;go_loopw [7] (fun j w'=>∃ k:Nat,k<=ks.length/\j= .int .i64 k/\Aside0 (∀ i,i < k->inB (numAt ks i) (body+1) (bodies - 1)=true)/\w=w') (fun j _=>ks.length - (intOf j).toNat)
 case atStart=>exact ⟨0,Nat.zero_le _,rfl,⟨fun i hi=>by omega⟩,rfl⟩
 case round=>
  obtain ⟨k,hk,rfl,HJ,rfl⟩:=hrel;by_cases hlt:k < ks.length
  ·have q0:(0:Int)<=(k:Int):=by omega
   have q1:(k:Int) < (ks.length:Int):=by omega
   obtain ⟨ad,rfl,gx⟩:=Kd.at_int HX.out (k:Int) q0 q1;simp only [Int.toNat_natCast] at gx;obtain ⟨x,hxx⟩:∃ x,x=numAt ks k:=⟨_,rfl⟩;rw [show rd ks (k:Int)=x from hxx.symm] at gx;have HXX:=am hxx;clear hxx
   cases hb:inB x (body+1) (bodies - 1) with
   | true=>
    have HI:Aside0 ((decide (body+1<=x) && decide (x<=bodies - 1))=true):=⟨hb⟩;clear hb;go_wp2_with (first|(go_at_call 50;refine (l6In_calls _ _ _ _).mono ?_;(first|rw [HI.out]);rintro e w9 ⟨rfl,rfl⟩))
    go_roundw
    case rel=>exact ⟨k+1,by omega,by go_num,⟨fun i hi=>by rcases Nat.lt_or_ge i k with h | h;exact HJ.out i h;obtain rfl:i=k:=(by omega);rw [<-HXX.out];exact HI.out⟩,trivial⟩
    case measure=>simp [intOf];omega
   | false=>
    have HI:Aside0 ((decide (body+1<=x) && decide (x<=bodies - 1))=false):=⟨hb⟩;clear hb;go_wp2_with (first|(go_at_call 50;refine (l6In_calls _ _ _ _).mono ?_;(first|rw [HI.out]);rintro e w9 ⟨rfl,rfl⟩))
    go_ret
    have hr:kidsOk ks body bodies=false:=by
     unfold kidsOk;rw [allB_no hlt (by rw [<-HXX.out];exact HI.out),Bool.false_and]
    rw [hr];exact ⟨rfl,rfl⟩
  ·obtain rfl:k=ks.length:=by omega
   obtain ⟨bz,hbz⟩:∃ b,inB (ks.length:Int) 1 2=b:=⟨_,rfl⟩;have HI:Aside0 ((decide ((1:Int)<=(ks.length:Int)) && decide ((ks.length:Int)<=2))=bz):=⟨hbz⟩;clear hbz;go_wp2_with (first|(go_at_call 50;refine (l6In_calls _ _ _ _).mono ?_;(first|rw [HI.out]);rintro e w9 ⟨rfl,rfl⟩))
   go_ret
   have hr:kidsOk ks body bodies=bz:=by
    unfold kidsOk;rw [allB_iff.2 HJ.out,Bool.true_and];exact HI.out
   rw [hr];exact ⟨rfl,rfl⟩
theorem l1Act_calls (p:Prog) (a:Act) (pcs acs:List Value) (body:Int) (w:World) (hp:kProg.K w p pcs) (ha:kAct.K w a acs) (hc:p.cells.length<=1048576) (hbd:p.bodies.length<=1048576) (hb0:0<=body) (hb1:body<=1048576) (hdn:a.deeds.length<=1048576) (hkn:a.kids.length<=1048576):
  Calls Try.prog 123 #[.agg pcs.toArray,.int .i64 body,.agg acs.toArray] w fun e w'=>e= .returned (.bool (actOk p.cells.length p.bodies.length body a))/\Below w.heap.size w w':=by
 obtain ⟨Ac,cc,Ab,cb,rfl,-⟩:=kProg_open hp;obtain ⟨Ad,cd,Ak,ck,rfl,-,gd,-,gk⟩:=kAct_open ha;have HDS:=am gd;have HKS:=am gk;clear hp ha gd gk;go_enter Try.func123,Try.ntmps123;by_cases kk:a.kind=1
 ·skip
  have z1:(a.kind != 1)=false:=by simp [kk]
  have z2:(a.kind != 2)=true:=by simp [kk]
  have z4:(a.kind != 4)=true:=by simp [kk]
  have y1:(a.kind == 1)=true:=by simp [kk]
  have KK:=am kk;clear kk;by_cases e_kids:a.kids= []
  ·have u_kids:decide (0 < a.kids.length)=false:=by rw [e_kids];rfl
   have v_kids:decide (0 < (a.kids.length:Int))=false:=by rw [e_kids];rfl
   have E_kids:=am e_kids;clear e_kids;by_cases r0:a.reg=0
   ·have u_reg:(a.reg != 0)=false:=by simp [r0]
    have E_reg:=am r0;clear r0
    go_wp2_with (first
    |((with_reducible refine gate_dst (N:=3) rfl ?_);refine box_event rfl (N:=3) rfl (t:=48) (by go_simp<;>rfl) ?_;intro gp hg w1 hbox hb;have BP:=am hbox;have HB:=am hb;have BPc:=zc8 BP.out;clear hbox hb hg)
    |((with_reducible refine gate_dst (N:=5) rfl ?_);refine box_event rfl (N:=5) rfl (t:=108) (by go_simp<;>rfl) ?_;intro ga hg w2 hbox hb;have BA:=am hbox;replace HB:=am (below_step HB.out hb);replace BP:=am (zb8 BP.out hb);clear BPc hbox hb hg;have BPc:=zc8 BP.out;have BAc:=zc8 BA.out))
    go_loopw [7] (fun j w'=>∃ k:Nat,k<=a.deeds.length/\j= .int .i64 k/\Aside0 (∀ i,i < k->deedOk (deedAt a.deeds i) p.cells.length=true)/\Aside0 (w'.heap[gp]? = some (.cells #[.slice Ac p.cells.length cc,.slice Ab p.bodies.length cb] 48 (0,0)))/\Aside0 (w'.heap[ga]? = some (.cells #[.int .i64 a.kind,.slice Ad a.deeds.length cd,.slice Ak a.kids.length ck,.int .i64 a.reg] 108 (0,0)))/\Aside0 (Below w.heap.size w w')) (fun j _=>a.deeds.length - (intOf j).toNat)
    case atStart=>exact ⟨0,Nat.zero_le _,rfl,⟨fun i hi=>by omega⟩,BP,BA,HB⟩
    case round=>
     clear BP BA HB BPc BAc;obtain ⟨k,hk,rfl,HJ,BP,BA,HB⟩:=hrel;have BPc:=zc8 BP.out;have BAc:=zc8 BA.out;by_cases hlt:k < a.deeds.length
     ·obtain ⟨bd,od,cs,rfl,hcl,hK,hcc,-⟩:=C_field HDS.out zDeed k hlt (by decide)
      obtain ⟨d,hd⟩:∃ d,d=deedAt a.deeds k:=⟨_,rfl⟩;rw [show a.deeds.getD k zDeed=d from hd.symm] at hK;have e:=kDeed_open hK;subst e;have p0:=hcc 0 _ rfl;have p1:=hcc 1 _ rfl;have p2:=hcc 2 _ rfl;simp only [show kDeed.sz=3 from rfl,Nat.add_zero] at p0 p1 p2;have D0:=am p0;have D1:=am p1;have D2:=am p2;have DX:=am hd;have q0:(0:Int)<=(k:Int):=by omega
      have q1:(k:Int) < (a.deeds.length:Int):=by omega
      clear hcc hK hcl hd p0 p1 p2
      cases hdo:deedOk d p.cells.length with
      | true=>
       have HD:=am hdo;clear hdo;go_wp2;refine st9 (n:=10) (S:=fun W=>W.heap[gp]? = some (.cells #[.slice Ac p.cells.length cc,.slice Ab p.bodies.length cb] 48 (0,0))/\W.heap[ga]? = some (.cells #[.int .i64 a.kind,.slice (some ⟨bd,od,none⟩) a.deeds.length cd,.slice Ak a.kids.length ck,.int .i64 a.reg] 108 (0,0))/\W.cell? ⟨bd,od+k*3,none⟩=some (.int .i64 d.kind)/\W.cell? ⟨bd,od+k*3+1,none⟩=some (.int .i64 d.a)/\W.cell? ⟨bd,od+k*3+2,none⟩=some (.int .i64 d.b)) (ds:= []) (by kernel_rfl) rfl ⟨blk_drew BP.out,blk_drew BA.out,(show wr.cell? ⟨bd,od+k*3,none⟩=_ from cellB HB.out D0.out),(show wr.cell? ⟨bd,od+k*3+1,none⟩=_ from cellB HB.out D1.out),(show wr.cell? ⟨bd,od+k*3+2,none⟩=_ from cellB HB.out D2.out)⟩ (fun hHeld=> ?_);have hb:=below_drew (Below.refl wr.heap.size wr);generalize wr.drew=w7 at hb hHeld ⊢;have HB7:=am (below_step HB.out hb);clear hb HB BP BA BPc BAc;refine ba9 (fuel:=2) (n:=8) [0,1,2,3,4,5,6,7] (by kernel_rfl) (fun N _ _ _ _ h=>by cases N <;> exact h) hHeld ?_
       iterate 8 (
        refine stillS_step (v:= ?_) (a':= ?_) rfl (Or.inl ⟨by rfl, ?_⟩) ?_ ?_;rotate_left
        ·rintro W ⟨s0,s2,s3,s4,s5⟩
         have t0:=zc8 s0;have t2:=zc8 s2;clear s0 s2;go_simp;with_reducible rfl
        rotate_left
        ·simp only [Act.put,sA,sZ,sS,i64_w]
         rfl)
       refine stillS_nil ?_;refine on9 (i:=8) (N:=some 57) rfl rfl (by kernel_rfl) (by decide) (fun K hK=> ?_);refine goes_ Try.func141 (by kernel_rfl) rfl #[.agg #[.int .i64 d.kind,.int .i64 d.a,.int .i64 d.b],.int .i64 p.cells.length] (by rfl) rfl rfl (by (try simp only [List.map_toArray,List.map_cons,List.map_nil]);first | done | rfl) ?_;refine (l1Deed_calls d p.cells.length _ (by omega) (by omega)).mono ?_;rw [HD.out];rintro e wn ⟨rfl,hb⟩;refine ⟨_,rfl, ?_⟩;refine hK.out _ _ ⟨zb8 hHeld.1 hb,zb8 hHeld.2.1 hb,cellB hb hHeld.2.2.1,cellB hb hHeld.2.2.2.1,cellB hb hHeld.2.2.2.2⟩ (fun hHeld=> ?_);clear hK K;refine norm_ (a':= ?_) ?_ ?_;rotate_left
       ·show Act.put _ (some 57) _=_
        simp only [Act.put,sA,sZ,sS,i64_w];rfl
       have HB:=am (below_step HB7.out hb);refine ba9 (fuel:=0) (n:=1) [9] (by kernel_rfl) (fun N _ _ _ _ h=>by cases N <;> exact h) hHeld ?_
       iterate 1 (
        refine stillS_step (v:= ?_) (a':= ?_) rfl (Or.inl ⟨by rfl, ?_⟩) ?_ ?_;rotate_left
        ·intro W hW
         go_simp
         with_reducible rfl
        rotate_left
        ·simp only [Act.put,sA,sZ,sS,i64_w]
         rfl)
       refine stillS_nil ?_;have BP:=am hHeld.1;have BA:=am hHeld.2.1;clear hHeld HB7 hb;have BPc:=zc8 BP.out;have BAc:=zc8 BA.out;refine done_ (by kernel_rfl) ?_;go_wp2;go_roundw
       case rel=>exact ⟨k+1,by omega,by go_num,⟨fun i hi=>by rcases Nat.lt_or_ge i k with h | h;exact HJ.out i h;obtain rfl:i=k:=(by omega);rw [<-DX.out];exact HD.out⟩,BP,BA,HB⟩
       case measure=>simp [intOf];omega
      | false=>
       have HD:=am hdo;clear hdo;go_wp2;refine st9 (n:=10) (S:=fun W=>W.heap[gp]? = some (.cells #[.slice Ac p.cells.length cc,.slice Ab p.bodies.length cb] 48 (0,0))/\W.heap[ga]? = some (.cells #[.int .i64 a.kind,.slice (some ⟨bd,od,none⟩) a.deeds.length cd,.slice Ak a.kids.length ck,.int .i64 a.reg] 108 (0,0))/\W.cell? ⟨bd,od+k*3,none⟩=some (.int .i64 d.kind)/\W.cell? ⟨bd,od+k*3+1,none⟩=some (.int .i64 d.a)/\W.cell? ⟨bd,od+k*3+2,none⟩=some (.int .i64 d.b)) (ds:= []) (by kernel_rfl) rfl ⟨blk_drew BP.out,blk_drew BA.out,(show wr.cell? ⟨bd,od+k*3,none⟩=_ from cellB HB.out D0.out),(show wr.cell? ⟨bd,od+k*3+1,none⟩=_ from cellB HB.out D1.out),(show wr.cell? ⟨bd,od+k*3+2,none⟩=_ from cellB HB.out D2.out)⟩ (fun hHeld=> ?_);have hb:=below_drew (Below.refl wr.heap.size wr);generalize wr.drew=w7 at hb hHeld ⊢;have HB7:=am (below_step HB.out hb);clear hb HB BP BA BPc BAc;refine ba9 (fuel:=2) (n:=8) [0,1,2,3,4,5,6,7] (by kernel_rfl) (fun N _ _ _ _ h=>by cases N <;> exact h) hHeld ?_
       iterate 8 (
        refine stillS_step (v:= ?_) (a':= ?_) rfl (Or.inl ⟨by rfl, ?_⟩) ?_ ?_;rotate_left
        ·rintro W ⟨s0,s2,s3,s4,s5⟩
         have t0:=zc8 s0;have t2:=zc8 s2;clear s0 s2;go_simp;with_reducible rfl
        rotate_left
        ·simp only [Act.put,sA,sZ,sS,i64_w]
         rfl)
       refine stillS_nil ?_;refine on9 (i:=8) (N:=some 57) rfl rfl (by kernel_rfl) (by decide) (fun K hK=> ?_);refine goes_ Try.func141 (by kernel_rfl) rfl #[.agg #[.int .i64 d.kind,.int .i64 d.a,.int .i64 d.b],.int .i64 p.cells.length] (by rfl) rfl rfl (by (try simp only [List.map_toArray,List.map_cons,List.map_nil]);first | done | rfl) ?_;refine (l1Deed_calls d p.cells.length _ (by omega) (by omega)).mono ?_;rw [HD.out];rintro e wn ⟨rfl,hb⟩;refine ⟨_,rfl, ?_⟩;refine hK.out _ _ ⟨zb8 hHeld.1 hb,zb8 hHeld.2.1 hb,cellB hb hHeld.2.2.1,cellB hb hHeld.2.2.2.1,cellB hb hHeld.2.2.2.2⟩ (fun hHeld=> ?_);clear hK K;refine norm_ (a':= ?_) ?_ ?_;rotate_left
       ·show Act.put _ (some 57) _=_
        simp only [Act.put,sA,sZ,sS,i64_w];rfl
       have HB:=am (below_step HB7.out hb);refine ba9 (fuel:=0) (n:=1) [9] (by kernel_rfl) (fun N _ _ _ _ h=>by cases N <;> exact h) hHeld ?_
       iterate 1 (
        refine stillS_step (v:= ?_) (a':= ?_) rfl (Or.inl ⟨by rfl, ?_⟩) ?_ ?_;rotate_left
        ·intro W hW
         go_simp
         with_reducible rfl
        rotate_left
        ·simp only [Act.put,sA,sZ,sS,i64_w]
         rfl)
       refine stillS_nil ?_;have BP:=am hHeld.1;have BA:=am hHeld.2.1;clear hHeld HB7 hb;have BPc:=zc8 BP.out;have BAc:=zc8 BA.out;refine done_ (by kernel_rfl) ?_;go_wp2;go_ret
       have hr:actOk p.cells.length p.bodies.length body a=false:=by
        unfold actOk;rw [if_neg (fun h=>by rcases h with h | h | h;exact (fun h=>h.1 KK.out) h;exact (fun h=>h.2 E_kids.out) h;exact (fun h=>h.2 E_reg.out) h),if_pos KK.out];unfold deedsOk;rw [allB_no hlt (by rw [<-DX.out];exact HD.out),Bool.false_and]
       rw [hr];exact ⟨rfl,HB.out⟩
     ·obtain rfl:k=a.deeds.length:=by omega
      go_wp2;go_ret
      have hr:actOk p.cells.length p.bodies.length body a=decide ((a.deeds.length:Int)<=5):=by
       unfold actOk;rw [if_neg (fun h=>by rcases h with h | h | h;exact (fun h=>h.1 KK.out) h;exact (fun h=>h.2 E_kids.out) h;exact (fun h=>h.2 E_reg.out) h),if_pos KK.out];unfold deedsOk;rw [allB_iff.2 HJ.out,Bool.true_and];exact decide_eq_decide.2 (by omega)
      rw [hr];exact ⟨rfl,HB.out⟩
   ·have u_reg:(a.reg != 0)=true:=by simp [r0]
    have E_reg:=am r0;clear r0
    go_wp2_with (first
    |((with_reducible refine gate_dst (N:=3) rfl ?_);refine box_event rfl (N:=3) rfl (t:=48) (by go_simp<;>rfl) ?_;intro gp hg w1 hbox hb;have BP:=am hbox;have HB:=am hb;have BPc:=zc8 BP.out;clear hbox hb hg)
    |((with_reducible refine gate_dst (N:=5) rfl ?_);refine box_event rfl (N:=5) rfl (t:=108) (by go_simp<;>rfl) ?_;intro ga hg w2 hbox hb;have BA:=am hbox;replace HB:=am (below_step HB.out hb);replace BP:=am (zb8 BP.out hb);clear BPc hbox hb hg;have BPc:=zc8 BP.out;have BAc:=zc8 BA.out))
    go_ret
    have hr:actOk p.cells.length p.bodies.length body a=false:=by
     unfold actOk;rw [if_pos (.inr (.inr ⟨(by have:=KK.out;omega),E_reg.out⟩))]
    rw [hr];exact ⟨rfl,HB.out⟩
  ·have l_kids:=List.length_pos_iff.2 e_kids
   have u_kids:decide (0 < a.kids.length)=true:=decide_eq_true l_kids;have v_kids:decide (0 < (a.kids.length:Int))=true:=decide_eq_true (by omega);have E_kids:=am e_kids;clear e_kids l_kids
   go_wp2_with (first
   |((with_reducible refine gate_dst (N:=3) rfl ?_);refine box_event rfl (N:=3) rfl (t:=48) (by go_simp<;>rfl) ?_;intro gp hg w1 hbox hb;have BP:=am hbox;have HB:=am hb;have BPc:=zc8 BP.out;clear hbox hb hg)
   |((with_reducible refine gate_dst (N:=5) rfl ?_);refine box_event rfl (N:=5) rfl (t:=108) (by go_simp<;>rfl) ?_;intro ga hg w2 hbox hb;have BA:=am hbox;replace HB:=am (below_step HB.out hb);replace BP:=am (zb8 BP.out hb);clear BPc hbox hb hg;have BPc:=zc8 BP.out;have BAc:=zc8 BA.out))
   go_ret
   have hr:actOk p.cells.length p.bodies.length body a=false:=by
    unfold actOk;rw [if_pos (.inr (.inl ⟨(by have:=KK.out;omega),E_kids.out⟩))]
   rw [hr];exact ⟨rfl,HB.out⟩
 ·have n1:=kk
  clear kk;by_cases kk:a.kind=2
  ·skip
   have z1:(a.kind != 1)=true:=by simp [kk]
   have z2:(a.kind != 2)=false:=by simp [kk]
   have z4:(a.kind != 4)=true:=by simp [kk]
   have y1:(a.kind == 1)=false:=by simp [kk]
   have y2:(a.kind == 2)=true:=by simp [kk]
   have KK:=am kk;clear kk n1;by_cases e_deeds:a.deeds= []
   ·have u_deeds:decide (0 < a.deeds.length)=false:=by rw [e_deeds];rfl
    have v_deeds:decide (0 < (a.deeds.length:Int))=false:=by rw [e_deeds];rfl
    have E_deeds:=am e_deeds;clear e_deeds;by_cases r0:a.reg=0
    ·have u_reg:(a.reg != 0)=false:=by simp [r0]
     have E_reg:=am r0;clear r0;obtain ⟨bz,hbz⟩:∃ b,kidsOk a.kids body p.bodies.length=b:=⟨_,rfl⟩;have HZ:=am hbz;clear hbz
     go_wp2_with (first
     |((with_reducible refine gate_dst (N:=3) rfl ?_);refine box_event rfl (N:=3) rfl (t:=48) (by go_simp<;>rfl) ?_;intro gp hg w1 hbox hb;have BP:=am hbox;have HB:=am hb;have BPc:=zc8 BP.out;clear hbox hb hg)
     |((with_reducible refine gate_dst (N:=5) rfl ?_);refine box_event rfl (N:=5) rfl (t:=108) (by go_simp<;>rfl) ?_;intro ga hg w2 hbox hb;have BA:=am hbox;replace HB:=am (below_step HB.out hb);replace BP:=am (zb8 BP.out hb);clear BPc hbox hb hg;have BPc:=zc8 BP.out;have BAc:=zc8 BA.out)
     |(go_at_call 142;refine (l1Kids_calls Ak ck a.kids body p.bodies.length _ (Kd.C_below HKS.out HB.out) hkn ⟨hb0,hb1⟩ ⟨by omega,by omega⟩).mono ?_;rw [HZ.out];rintro e w9 ⟨rfl,rfl⟩))
     go_ret
     have hr:actOk p.cells.length p.bodies.length body a=bz:=by
      unfold actOk;rw [if_neg (fun h=>by rcases h with h | h | h;exact (fun h=>h.2 E_deeds.out) h;exact (fun h=>h.1 KK.out) h;exact (fun h=>h.2 E_reg.out) h),if_neg (by have:=KK.out;omega),if_pos KK.out];exact HZ.out
     rw [hr];exact ⟨rfl,HB.out⟩
    ·have u_reg:(a.reg != 0)=true:=by simp [r0]
     have E_reg:=am r0;clear r0
     go_wp2_with (first
     |((with_reducible refine gate_dst (N:=3) rfl ?_);refine box_event rfl (N:=3) rfl (t:=48) (by go_simp<;>rfl) ?_;intro gp hg w1 hbox hb;have BP:=am hbox;have HB:=am hb;have BPc:=zc8 BP.out;clear hbox hb hg)
     |((with_reducible refine gate_dst (N:=5) rfl ?_);refine box_event rfl (N:=5) rfl (t:=108) (by go_simp<;>rfl) ?_;intro ga hg w2 hbox hb;have BA:=am hbox;replace HB:=am (below_step HB.out hb);replace BP:=am (zb8 BP.out hb);clear BPc hbox hb hg;have BPc:=zc8 BP.out;have BAc:=zc8 BA.out))
     go_ret
     have hr:actOk p.cells.length p.bodies.length body a=false:=by
      unfold actOk;rw [if_pos (.inr (.inr ⟨(by have:=KK.out;omega),E_reg.out⟩))]
     rw [hr];exact ⟨rfl,HB.out⟩
   ·have l_deeds:=List.length_pos_iff.2 e_deeds
    have u_deeds:decide (0 < a.deeds.length)=true:=decide_eq_true l_deeds;have v_deeds:decide (0 < (a.deeds.length:Int))=true:=decide_eq_true (by omega);have E_deeds:=am e_deeds;clear e_deeds l_deeds
    go_wp2_with (first
    |((with_reducible refine gate_dst (N:=3) rfl ?_);refine box_event rfl (N:=3) rfl (t:=48) (by go_simp<;>rfl) ?_;intro gp hg w1 hbox hb;have BP:=am hbox;have HB:=am hb;have BPc:=zc8 BP.out;clear hbox hb hg)
    |((with_reducible refine gate_dst (N:=5) rfl ?_);refine box_event rfl (N:=5) rfl (t:=108) (by go_simp<;>rfl) ?_;intro ga hg w2 hbox hb;have BA:=am hbox;replace HB:=am (below_step HB.out hb);replace BP:=am (zb8 BP.out hb);clear BPc hbox hb hg;have BPc:=zc8 BP.out;have BAc:=zc8 BA.out))
    go_ret
    have hr:actOk p.cells.length p.bodies.length body a=false:=by
     unfold actOk;rw [if_pos (.inl ⟨(by have:=KK.out;omega),E_deeds.out⟩)]
    rw [hr];exact ⟨rfl,HB.out⟩
  ·have n2:=kk
   clear kk;by_cases kk:a.kind=3
   ·skip
    have z1:(a.kind != 1)=true:=by simp [kk]
    have z2:(a.kind != 2)=true:=by simp [kk]
    have z4:(a.kind != 4)=true:=by simp [kk]
    have y1:(a.kind == 1)=false:=by simp [kk]
    have y2:(a.kind == 2)=false:=by simp [kk]
    have y3:(a.kind == 3)=true:=by simp [kk]
    have KK:=am kk;clear kk n1 n2;by_cases e_deeds:a.deeds= []
    ·have u_deeds:decide (0 < a.deeds.length)=false:=by rw [e_deeds];rfl
     have v_deeds:decide (0 < (a.deeds.length:Int))=false:=by rw [e_deeds];rfl
     have E_deeds:=am e_deeds;clear e_deeds;by_cases e_kids:a.kids= []
     ·have u_kids:decide (0 < a.kids.length)=false:=by rw [e_kids];rfl
      have v_kids:decide (0 < (a.kids.length:Int))=false:=by rw [e_kids];rfl
      have E_kids:=am e_kids;clear e_kids;by_cases r0:a.reg=0
      ·have u_reg:(a.reg != 0)=false:=by simp [r0]
       have E_reg:=am r0;clear r0
       go_wp2_with (first
       |((with_reducible refine gate_dst (N:=3) rfl ?_);refine box_event rfl (N:=3) rfl (t:=48) (by go_simp<;>rfl) ?_;intro gp hg w1 hbox hb;have BP:=am hbox;have HB:=am hb;have BPc:=zc8 BP.out;clear hbox hb hg)
       |((with_reducible refine gate_dst (N:=5) rfl ?_);refine box_event rfl (N:=5) rfl (t:=108) (by go_simp<;>rfl) ?_;intro ga hg w2 hbox hb;have BA:=am hbox;replace HB:=am (below_step HB.out hb);replace BP:=am (zb8 BP.out hb);clear BPc hbox hb hg;have BPc:=zc8 BP.out;have BAc:=zc8 BA.out))
       go_ret
       have hr:actOk p.cells.length p.bodies.length body a=true:=by
        unfold actOk;rw [if_neg (fun h=>by rcases h with h | h | h;exact (fun h=>h.2 E_deeds.out) h;exact (fun h=>h.2 E_kids.out) h;exact (fun h=>h.2 E_reg.out) h),if_neg (by have:=KK.out;omega),if_neg (by have:=KK.out;omega),if_pos KK.out]
       rw [hr];exact ⟨rfl,HB.out⟩
      ·have u_reg:(a.reg != 0)=true:=by simp [r0]
       have E_reg:=am r0;clear r0
       go_wp2_with (first
       |((with_reducible refine gate_dst (N:=3) rfl ?_);refine box_event rfl (N:=3) rfl (t:=48) (by go_simp<;>rfl) ?_;intro gp hg w1 hbox hb;have BP:=am hbox;have HB:=am hb;have BPc:=zc8 BP.out;clear hbox hb hg)
       |((with_reducible refine gate_dst (N:=5) rfl ?_);refine box_event rfl (N:=5) rfl (t:=108) (by go_simp<;>rfl) ?_;intro ga hg w2 hbox hb;have BA:=am hbox;replace HB:=am (below_step HB.out hb);replace BP:=am (zb8 BP.out hb);clear BPc hbox hb hg;have BPc:=zc8 BP.out;have BAc:=zc8 BA.out))
       go_ret
       have hr:actOk p.cells.length p.bodies.length body a=false:=by
        unfold actOk;rw [if_pos (.inr (.inr ⟨(by have:=KK.out;omega),E_reg.out⟩))]
       rw [hr];exact ⟨rfl,HB.out⟩
     ·have l_kids:=List.length_pos_iff.2 e_kids
      have u_kids:decide (0 < a.kids.length)=true:=decide_eq_true l_kids;have v_kids:decide (0 < (a.kids.length:Int))=true:=decide_eq_true (by omega);have E_kids:=am e_kids;clear e_kids l_kids
      go_wp2_with (first
      |((with_reducible refine gate_dst (N:=3) rfl ?_);refine box_event rfl (N:=3) rfl (t:=48) (by go_simp<;>rfl) ?_;intro gp hg w1 hbox hb;have BP:=am hbox;have HB:=am hb;have BPc:=zc8 BP.out;clear hbox hb hg)
      |((with_reducible refine gate_dst (N:=5) rfl ?_);refine box_event rfl (N:=5) rfl (t:=108) (by go_simp<;>rfl) ?_;intro ga hg w2 hbox hb;have BA:=am hbox;replace HB:=am (below_step HB.out hb);replace BP:=am (zb8 BP.out hb);clear BPc hbox hb hg;have BPc:=zc8 BP.out;have BAc:=zc8 BA.out))
      go_ret
      have hr:actOk p.cells.length p.bodies.length body a=false:=by
       unfold actOk;rw [if_pos (.inr (.inl ⟨(by have:=KK.out;omega),E_kids.out⟩))]
      rw [hr];exact ⟨rfl,HB.out⟩
    ·have l_deeds:=List.length_pos_iff.2 e_deeds
     have u_deeds:decide (0 < a.deeds.length)=true:=decide_eq_true l_deeds;have v_deeds:decide (0 < (a.deeds.length:Int))=true:=decide_eq_true (by omega);have E_deeds:=am e_deeds;clear e_deeds l_deeds
     go_wp2_with (first
     |((with_reducible refine gate_dst (N:=3) rfl ?_);refine box_event rfl (N:=3) rfl (t:=48) (by go_simp<;>rfl) ?_;intro gp hg w1 hbox hb;have BP:=am hbox;have HB:=am hb;have BPc:=zc8 BP.out;clear hbox hb hg)
     |((with_reducible refine gate_dst (N:=5) rfl ?_);refine box_event rfl (N:=5) rfl (t:=108) (by go_simp<;>rfl) ?_;intro ga hg w2 hbox hb;have BA:=am hbox;replace HB:=am (below_step HB.out hb);replace BP:=am (zb8 BP.out hb);clear BPc hbox hb hg;have BPc:=zc8 BP.out;have BAc:=zc8 BA.out))
     go_ret
     have hr:actOk p.cells.length p.bodies.length body a=false:=by
      unfold actOk;rw [if_pos (.inl ⟨(by have:=KK.out;omega),E_deeds.out⟩)]
     rw [hr];exact ⟨rfl,HB.out⟩
   ·have n3:=kk
    clear kk;by_cases kk:a.kind=4
    ·skip
     have z1:(a.kind != 1)=true:=by simp [kk]
     have z2:(a.kind != 2)=true:=by simp [kk]
     have z4:(a.kind != 4)=false:=by simp [kk]
     have y1:(a.kind == 1)=false:=by simp [kk]
     have y2:(a.kind == 2)=false:=by simp [kk]
     have y3:(a.kind == 3)=false:=by simp [kk]
     have y4:(a.kind == 4)=true:=by simp [kk]
     have KK:=am kk;clear kk n1 n2 n3;by_cases e_deeds:a.deeds= []
     ·have u_deeds:decide (0 < a.deeds.length)=false:=by rw [e_deeds];rfl
      have v_deeds:decide (0 < (a.deeds.length:Int))=false:=by rw [e_deeds];rfl
      have E_deeds:=am e_deeds;clear e_deeds;by_cases e_kids:a.kids= []
      ·have u_kids:decide (0 < a.kids.length)=false:=by rw [e_kids];rfl
       have v_kids:decide (0 < (a.kids.length:Int))=false:=by rw [e_kids];rfl
       have E_kids:=am e_kids;clear e_kids;obtain ⟨bz,hbz⟩:∃ b,inB a.reg 0 2=b:=⟨_,rfl⟩;have HI:Aside0 ((decide ((0:Int)<=a.reg) && decide (a.reg<=2))=bz):=⟨hbz⟩;clear hbz
       go_wp2_with (first
       |((with_reducible refine gate_dst (N:=3) rfl ?_);refine box_event rfl (N:=3) rfl (t:=48) (by go_simp<;>rfl) ?_;intro gp hg w1 hbox hb;have BP:=am hbox;have HB:=am hb;have BPc:=zc8 BP.out;clear hbox hb hg)
       |((with_reducible refine gate_dst (N:=5) rfl ?_);refine box_event rfl (N:=5) rfl (t:=108) (by go_simp<;>rfl) ?_;intro ga hg w2 hbox hb;have BA:=am hbox;replace HB:=am (below_step HB.out hb);replace BP:=am (zb8 BP.out hb);clear BPc hbox hb hg;have BPc:=zc8 BP.out;have BAc:=zc8 BA.out)
       |(go_at_call 50;refine (l6In_calls _ _ _ _).mono ?_;(first|rw [HI.out]);rintro e w9 ⟨rfl,rfl⟩))
       go_ret
       have hr:actOk p.cells.length p.bodies.length body a=bz:=by
        unfold actOk;rw [if_neg (fun h=>by rcases h with h | h | h;exact (fun h=>h.2 E_deeds.out) h;exact (fun h=>h.2 E_kids.out) h;exact (fun h=>h.1 KK.out) h),if_neg (by have:=KK.out;omega),if_neg (by have:=KK.out;omega),if_neg (by have:=KK.out;omega),if_pos KK.out];exact HI.out
       rw [hr];exact ⟨rfl,HB.out⟩
      ·have l_kids:=List.length_pos_iff.2 e_kids
       have u_kids:decide (0 < a.kids.length)=true:=decide_eq_true l_kids;have v_kids:decide (0 < (a.kids.length:Int))=true:=decide_eq_true (by omega);have E_kids:=am e_kids;clear e_kids l_kids
       go_wp2_with (first
       |((with_reducible refine gate_dst (N:=3) rfl ?_);refine box_event rfl (N:=3) rfl (t:=48) (by go_simp<;>rfl) ?_;intro gp hg w1 hbox hb;have BP:=am hbox;have HB:=am hb;have BPc:=zc8 BP.out;clear hbox hb hg)
       |((with_reducible refine gate_dst (N:=5) rfl ?_);refine box_event rfl (N:=5) rfl (t:=108) (by go_simp<;>rfl) ?_;intro ga hg w2 hbox hb;have BA:=am hbox;replace HB:=am (below_step HB.out hb);replace BP:=am (zb8 BP.out hb);clear BPc hbox hb hg;have BPc:=zc8 BP.out;have BAc:=zc8 BA.out))
       go_ret
       have hr:actOk p.cells.length p.bodies.length body a=false:=by
        unfold actOk;rw [if_pos (.inr (.inl ⟨(by have:=KK.out;omega),E_kids.out⟩))]
       rw [hr];exact ⟨rfl,HB.out⟩
     ·have l_deeds:=List.length_pos_iff.2 e_deeds
      have u_deeds:decide (0 < a.deeds.length)=true:=decide_eq_true l_deeds;have v_deeds:decide (0 < (a.deeds.length:Int))=true:=decide_eq_true (by omega);have E_deeds:=am e_deeds;clear e_deeds l_deeds
      go_wp2_with (first
      |((with_reducible refine gate_dst (N:=3) rfl ?_);refine box_event rfl (N:=3) rfl (t:=48) (by go_simp<;>rfl) ?_;intro gp hg w1 hbox hb;have BP:=am hbox;have HB:=am hb;have BPc:=zc8 BP.out;clear hbox hb hg)
      |((with_reducible refine gate_dst (N:=5) rfl ?_);refine box_event rfl (N:=5) rfl (t:=108) (by go_simp<;>rfl) ?_;intro ga hg w2 hbox hb;have BA:=am hbox;replace HB:=am (below_step HB.out hb);replace BP:=am (zb8 BP.out hb);clear BPc hbox hb hg;have BPc:=zc8 BP.out;have BAc:=zc8 BA.out))
      go_ret
      have hr:actOk p.cells.length p.bodies.length body a=false:=by
       unfold actOk;rw [if_pos (.inl ⟨(by have:=KK.out;omega),E_deeds.out⟩)]
      rw [hr];exact ⟨rfl,HB.out⟩
    ·have n4:=kk
     clear kk;have N1:=am n1;have N2:=am n2;have N3:=am n3;have N4:=am n4;have z1:(a.kind != 1)=true:=by simp [n1]
     have z2:(a.kind != 2)=true:=by simp [n2]
     have z4:(a.kind != 4)=true:=by simp [n4]
     have y1:(a.kind == 1)=false:=by simp [n1]
     have y2:(a.kind == 2)=false:=by simp [n2]
     have y3:(a.kind == 3)=false:=by simp [n3]
     have y4:(a.kind == 4)=false:=by simp [n4]
     clear n1 n2 n3 n4;by_cases e_deeds:a.deeds= []
     ·have u_deeds:decide (0 < a.deeds.length)=false:=by rw [e_deeds];rfl
      have v_deeds:decide (0 < (a.deeds.length:Int))=false:=by rw [e_deeds];rfl
      have E_deeds:=am e_deeds;clear e_deeds;by_cases e_kids:a.kids= []
      ·have u_kids:decide (0 < a.kids.length)=false:=by rw [e_kids];rfl
       have v_kids:decide (0 < (a.kids.length:Int))=false:=by rw [e_kids];rfl
       have E_kids:=am e_kids;clear e_kids;by_cases r0:a.reg=0
       ·have u_reg:(a.reg != 0)=false:=by simp [r0]
        have E_reg:=am r0;clear r0
        go_wp2_with (first
        |((with_reducible refine gate_dst (N:=3) rfl ?_);refine box_event rfl (N:=3) rfl (t:=48) (by go_simp<;>rfl) ?_;intro gp hg w1 hbox hb;have BP:=am hbox;have HB:=am hb;have BPc:=zc8 BP.out;clear hbox hb hg)
        |((with_reducible refine gate_dst (N:=5) rfl ?_);refine box_event rfl (N:=5) rfl (t:=108) (by go_simp<;>rfl) ?_;intro ga hg w2 hbox hb;have BA:=am hbox;replace HB:=am (below_step HB.out hb);replace BP:=am (zb8 BP.out hb);clear BPc hbox hb hg;have BPc:=zc8 BP.out;have BAc:=zc8 BA.out))
        go_ret
        have hr:actOk p.cells.length p.bodies.length body a=false:=by
         unfold actOk;rw [if_neg (fun h=>by rcases h with h | h | h;exact (fun h=>h.2 E_deeds.out) h;exact (fun h=>h.2 E_kids.out) h;exact (fun h=>h.2 E_reg.out) h),if_neg N1.out,if_neg N2.out,if_neg N3.out,if_neg N4.out]
        rw [hr];exact ⟨rfl,HB.out⟩
       ·have u_reg:(a.reg != 0)=true:=by simp [r0]
        have E_reg:=am r0;clear r0
        go_wp2_with (first
        |((with_reducible refine gate_dst (N:=3) rfl ?_);refine box_event rfl (N:=3) rfl (t:=48) (by go_simp<;>rfl) ?_;intro gp hg w1 hbox hb;have BP:=am hbox;have HB:=am hb;have BPc:=zc8 BP.out;clear hbox hb hg)
        |((with_reducible refine gate_dst (N:=5) rfl ?_);refine box_event rfl (N:=5) rfl (t:=108) (by go_simp<;>rfl) ?_;intro ga hg w2 hbox hb;have BA:=am hbox;replace HB:=am (below_step HB.out hb);replace BP:=am (zb8 BP.out hb);clear BPc hbox hb hg;have BPc:=zc8 BP.out;have BAc:=zc8 BA.out))
        go_ret
        have hr:actOk p.cells.length p.bodies.length body a=false:=by
         unfold actOk;rw [if_pos (.inr (.inr ⟨N4.out,E_reg.out⟩))]
        rw [hr];exact ⟨rfl,HB.out⟩
      ·have l_kids:=List.length_pos_iff.2 e_kids
       have u_kids:decide (0 < a.kids.length)=true:=decide_eq_true l_kids;have v_kids:decide (0 < (a.kids.length:Int))=true:=decide_eq_true (by omega);have E_kids:=am e_kids;clear e_kids l_kids
       go_wp2_with (first
       |((with_reducible refine gate_dst (N:=3) rfl ?_);refine box_event rfl (N:=3) rfl (t:=48) (by go_simp<;>rfl) ?_;intro gp hg w1 hbox hb;have BP:=am hbox;have HB:=am hb;have BPc:=zc8 BP.out;clear hbox hb hg)
       |((with_reducible refine gate_dst (N:=5) rfl ?_);refine box_event rfl (N:=5) rfl (t:=108) (by go_simp<;>rfl) ?_;intro ga hg w2 hbox hb;have BA:=am hbox;replace HB:=am (below_step HB.out hb);replace BP:=am (zb8 BP.out hb);clear BPc hbox hb hg;have BPc:=zc8 BP.out;have BAc:=zc8 BA.out))
       go_ret
       have hr:actOk p.cells.length p.bodies.length body a=false:=by
        unfold actOk;rw [if_pos (.inr (.inl ⟨N2.out,E_kids.out⟩))]
       rw [hr];exact ⟨rfl,HB.out⟩
     ·have l_deeds:=List.length_pos_iff.2 e_deeds
      have u_deeds:decide (0 < a.deeds.length)=true:=decide_eq_true l_deeds;have v_deeds:decide (0 < (a.deeds.length:Int))=true:=decide_eq_true (by omega);have E_deeds:=am e_deeds;clear e_deeds l_deeds
      go_wp2_with (first
      |((with_reducible refine gate_dst (N:=3) rfl ?_);refine box_event rfl (N:=3) rfl (t:=48) (by go_simp<;>rfl) ?_;intro gp hg w1 hbox hb;have BP:=am hbox;have HB:=am hb;have BPc:=zc8 BP.out;clear hbox hb hg)
      |((with_reducible refine gate_dst (N:=5) rfl ?_);refine box_event rfl (N:=5) rfl (t:=108) (by go_simp<;>rfl) ?_;intro ga hg w2 hbox hb;have BA:=am hbox;replace HB:=am (below_step HB.out hb);replace BP:=am (zb8 BP.out hb);clear BPc hbox hb hg;have BPc:=zc8 BP.out;have BAc:=zc8 BA.out))
      go_ret
      have hr:actOk p.cells.length p.bodies.length body a=false:=by
       unfold actOk;rw [if_pos (.inl ⟨N1.out,E_deeds.out⟩)]
      rw [hr];exact ⟨rfl,HB.out⟩
structure ProgSz (p:Prog):Prop where
 cells:p.cells.length<=1048576
 bodies:p.bodies.length<=1048576
 acts:∀ b ∈ p.bodies,b.length<=1048576/\∀ a ∈ b,a.deeds.length<=1048576/\a.kids.length<=1048576
theorem l1Form_calls (p:Prog) (pcs:List Value) (w:World) (hp:kProg.K w p pcs) (hz:ProgSz p):
  Calls Try.prog 89 #[.agg pcs.toArray] w fun e w'=>e= .returned (.bool (formOk p))/\Below w.heap.size w w':=by
 have HPK:=am hp;obtain ⟨Ac,cc,Ab,cb,rfl,-,gc,-,gb⟩:=kProg_open hp;have HCL:=am gc;have HBD:=am gb;have hzc:=hz.cells;have hzb:=hz.bodies;have HZ:=am hz.acts;clear hp gc gb hz;go_enter Try.func89,Try.ntmps89;by_cases c3:p.cells.length<=3
 ·have u3:decide (3 < p.cells.length)=false:=decide_eq_false (by omega)
  have v3:decide ((3:Int) < (p.cells.length:Int))=false:=decide_eq_false (by omega);have C3:=am c3
  cases hbi:inB (p.bodies.length:Int) 1 4 with
  | false=>
   have HI:Aside0 ((decide ((1:Int)<=(p.bodies.length:Int)) && decide ((p.bodies.length:Int)<=4))=false):=⟨hbi⟩;clear hbi
   go_wp2_with (first
   |((with_reducible refine gate_dst (N:=1) rfl ?_);refine box_event rfl (N:=1) rfl (t:=48) (by go_simp<;>rfl) ?_;intro gp hg w1 hbox hb;have BP:=am hbox;have HB:=am hb;have BPc:=zc8 BP.out;clear hbox hb hg)
   |(go_at_call 50;refine (l6In_calls _ _ _ _).mono ?_;(first|rw [HI.out]);rintro e w9 ⟨rfl,rfl⟩))
   go_ret
   have hr:formOk p=false:=by
    unfold formOk;rw [show inB (p.bodies.length:Int) 1 4=false from HI.out,Bool.and_false,Bool.false_and,Bool.false_and]
   rw [hr]
   exact ⟨rfl,HB.out⟩
  | true=>
   have HI:Aside0 ((decide ((1:Int)<=(p.bodies.length:Int)) && decide ((p.bodies.length:Int)<=4))=true):=⟨hbi⟩;have hb4:=(inB_iff.1 hbi).2;clear hbi
   go_wp2_with (first
   |((with_reducible refine gate_dst (N:=1) rfl ?_);refine box_event rfl (N:=1) rfl (t:=48) (by go_simp<;>rfl) ?_;intro gp hg w1 hbox hb;have BP:=am hbox;have HB:=am hb;have BPc:=zc8 BP.out;clear hbox hb hg)
   |(go_at_call 50;refine (l6In_calls _ _ _ _).mono ?_;(first|rw [HI.out]);rintro e w9 ⟨rfl,rfl⟩))
   go_loopw [3] (fun j w'=>∃ k:Nat,k<=p.cells.length/\j= .int .i64 k/\Aside0 (∀ i,i < k->inB (numAt p.cells i) 0 99=true)/\Aside0 (w'.heap[gp]? = some (.cells #[.slice Ac p.cells.length cc,.slice Ab p.bodies.length cb] 48 (0,0)))/\Aside0 (Below w.heap.size w w')) (fun j _=>p.cells.length - (intOf j).toNat)
   case atStart=>exact ⟨0,Nat.zero_le _,rfl,⟨fun i hi=>by omega⟩,BP,HB⟩
   case round=>
    clear BP HB BPc;obtain ⟨k,hk,rfl,HJ,BP,HB⟩:=hrel;have BPc:=zc8 BP.out;by_cases hlt:k < p.cells.length
    ·have q0:(0:Int)<=(k:Int):=by omega
     have q1:(k:Int) < (p.cells.length:Int):=by omega
     obtain ⟨ad,rfl,gx⟩:=Kd.at_int (Kd.C_below HCL.out HB.out) (k:Int) q0 q1;simp only [Int.toNat_natCast] at gx;obtain ⟨x,hxx⟩:∃ x,x=numAt p.cells k:=⟨_,rfl⟩;rw [show rd p.cells (k:Int)=x from hxx.symm] at gx;have HXX:=am hxx;clear hxx
     cases hbx:inB x 0 99 with
     | true=>
      have HX:Aside0 ((decide ((0:Int)<=x) && decide (x<=99))=true):=⟨hbx⟩;clear hbx
      go_wp2_with (first
      |(go_at_call 50;refine (l6In_calls _ _ _ _).mono ?_;(first|rw [HX.out]);rintro e w9 ⟨rfl,rfl⟩))
      go_roundw
      case rel=>exact ⟨k+1,by omega,by go_num,⟨fun i hi=>by rcases Nat.lt_or_ge i k with h | h;exact HJ.out i h;obtain rfl:i=k:=(by omega);rw [<-HXX.out];exact HX.out⟩,BP,HB⟩
      case measure=>simp [intOf];omega
     | false=>
      have HX:Aside0 ((decide ((0:Int)<=x) && decide (x<=99))=false):=⟨hbx⟩;clear hbx
      go_wp2_with (first
      |(go_at_call 50;refine (l6In_calls _ _ _ _).mono ?_;(first|rw [HX.out]);rintro e w9 ⟨rfl,rfl⟩))
      go_ret
      have hr:formOk p=false:=by
       unfold formOk;rw [allB_no (n:=p.cells.length) hlt (by rw [<-HXX.out];exact HX.out),Bool.and_false,Bool.false_and]
      rw [hr];exact ⟨rfl,HB.out⟩
    ·obtain rfl:k=p.cells.length:=by omega
     have HCS:=am (allB_iff.2 HJ.out);clear HJ hlt hk;go_wp2;go_loopw [4] (fun j w'=>∃ k:Nat,k<=p.bodies.length/\j= .int .i64 k/\Aside0 (∀ i,i < k->bodyOk p.cells.length p.bodies.length i (actsAt p.bodies i)=true)/\Aside0 (w'.heap[gp]? = some (.cells #[.slice Ac p.cells.length cc,.slice Ab p.bodies.length cb] 48 (0,0)))/\Aside0 (Below w.heap.size w w')) (fun j _=>p.bodies.length - (intOf j).toNat)
     case atStart=>exact ⟨0,Nat.zero_le _,rfl,⟨fun i hi=>by omega⟩,BP,HB⟩
     case round=>
      clear BP HB BPc;obtain ⟨k,hk,rfl,HJ,BP,HB⟩:=hrel;have BPc:=zc8 BP.out;by_cases hlt:k < p.bodies.length
      ·obtain ⟨bb,ob,cs2,rfl,hcl2,hK2,hcc2,-⟩:=C_field HBD.out ([]:List Act) k hlt (by decide)
       obtain ⟨Aa,ca,rfl,la,ga2⟩:=hK2;have p2:=hcc2 0 _ rfl;simp only [show (Kd.slice 108 kAct).sz=1 from rfl,Nat.mul_one,Nat.add_zero] at p2;have GA2:=am (show kAct.C w Aa (actsAt p.bodies k).length (actsAt p.bodies k) from ga2);rw [show (p.bodies.getD k []).length=(actsAt p.bodies k).length from rfl] at p2;have P2:=am p2;have hmem:actsAt p.bodies k ∈ p.bodies:=by rw [actsAt_eq hlt];exact List.getElem_mem hlt
       have HZk:=am (HZ.out _ hmem);have p2w:=cellB HB.out p2;have q0:(0:Int)<=(k:Int):=by omega
       have q1:(k:Int) < (p.bodies.length:Int):=by omega
       clear hcc2 hcl2 ga2 la p2 hmem;by_cases c4:(actsAt p.bodies k).length<=4
       ·have u4:decide (4 < (actsAt p.bodies k).length)=false:=decide_eq_false (by omega)
        have v4:decide ((4:Int) < ((actsAt p.bodies k).length:Int))=false:=decide_eq_false (by omega);go_wp2;go_loopw [5] (fun j w'=>∃ m:Nat,m<=(actsAt p.bodies k).length/\j= .int .i64 m/\Aside0 (∀ i,i < m->actOk p.cells.length p.bodies.length k (actAt (actsAt p.bodies k) i)=true)/\Aside0 (w'.heap[gp]? = some (.cells #[.slice Ac p.cells.length cc,.slice (some ⟨bb,ob,none⟩) p.bodies.length cb] 48 (0,0)))/\Aside0 (Below w.heap.size w w')) (fun j _=>(actsAt p.bodies k).length - (intOf j).toNat)
        case atStart=>exact ⟨0,Nat.zero_le _,rfl,⟨fun i hi=>by omega⟩,BP,HB⟩
        case round=>
         clear BP HB BPc p2w;obtain ⟨m,hm,rfl,HM,BP,HB⟩:=hrel;have BPc:=zc8 BP.out;have p2w:=cellB HB.out P2.out;by_cases hmt:m < (actsAt p.bodies k).length
         ·obtain ⟨ba,oa,cs3,rfl,hcl3,hK3,hcc3,-⟩:=C_field GA2.out zAct m hmt (by decide)
          obtain ⟨a,hax⟩:∃ x,x=actAt (actsAt p.bodies k) m:=⟨_,rfl⟩;rw [show (actsAt p.bodies k).getD m zAct=a from hax.symm] at hK3;have HK:=am hK3;have AX:=am hax;have SZ:Aside0 _:=⟨HZk.out.2 a (by rw [hax];have h9:actAt (actsAt p.bodies k) m=(actsAt p.bodies k)[m]:=(by simp [actAt,hmt]);rw [h9];exact List.getElem_mem hmt)⟩;obtain ⟨Ad,cd,Ak,ck,rfl,-⟩:=kAct_open hK3;have HC:=am hcc3;have r0:(0:Int)<=(m:Int):=by omega
          have r1:(m:Int) < ((actsAt p.bodies k).length:Int):=by omega
          clear hcc3 hK3 hcl3 hax
          cases hao:actOk p.cells.length p.bodies.length k a with
          | true=>
           have HD:=am hao;clear hao;go_wp2;clear p2w;refine st9 (n:=12) (S:=fun W=>W.heap[gp]? = some (.cells #[.slice Ac p.cells.length cc,.slice (some ⟨bb,ob,none⟩) p.bodies.length cb] 48 (0,0))/\W.cell? ⟨bb,ob+k,none⟩=some (.slice (some ⟨ba,oa,none⟩) (actsAt p.bodies k).length ca)/\∀ j u, [.int .i64 a.kind,.slice Ad a.deeds.length cd,.slice Ak a.kids.length ck,.int .i64 a.reg][j]? = some u->W.cell? ⟨ba,oa+m*4+j,none⟩=some u) (ds:= []) (by kernel_rfl) rfl ⟨blk_drew BP.out,(show wr.cell? ⟨bb,ob+k,none⟩=_ from cellB HB.out P2.out),fun j u hu=>(show wr.cell? ⟨ba,oa+m*4+j,none⟩=_ from cellB HB.out (HC.out j u hu))⟩ (fun hHeld=> ?_);have hb:=below_drew (Below.refl wr.heap.size wr);generalize wr.drew=w7 at hb hHeld ⊢;have HB7:=am (below_step HB.out hb);clear hb HB BP BPc;refine ba9 (fuel:=2) (n:=10) [0,1,2,3,4,5,6,7,8,9] (by kernel_rfl) (fun N _ _ _ _ h=>by cases N <;> exact h) hHeld ?_
           iterate 10 (
            refine stillS_step (v:= ?_) (a':= ?_) rfl (Or.inl ⟨by rfl, ?_⟩) ?_ ?_;rotate_left
            ·rintro W ⟨s0,s2,s3⟩
             have t0:=zc8 s0;have u0:=s3 0 _ rfl;have u1:=s3 1 _ rfl;have u2:=s3 2 _ rfl;have u3:=s3 3 _ rfl;rw [Nat.add_zero] at u0;clear s0 s3;go_simp;with_reducible rfl
            rotate_left
            ·simp only [Act.put,sA,sZ,sS,i64_w]
             rfl)
           refine stillS_nil ?_;refine on9 (i:=10) (N:=some 65) rfl rfl (by kernel_rfl) (by decide) (fun K hK=> ?_);refine goes_ Try.func123 (by kernel_rfl) rfl #[.agg #[.slice Ac p.cells.length cc,.slice (some ⟨bb,ob,none⟩) p.bodies.length cb],.int .i64 k,.agg #[.int .i64 a.kind,.slice Ad a.deeds.length cd,.slice Ak a.kids.length ck,.int .i64 a.reg]] (by rfl) rfl rfl (by (try simp only [List.map_toArray,List.map_cons,List.map_nil]);first | done | rfl) ?_;refine (l1Act_calls p a _ _ (k:Int) _ (kProg.K_below HB7.out HPK.out) (kAct.K_below HB7.out HK.out) (by omega) (by omega) (by omega) (by omega) SZ.out.1 SZ.out.2).mono ?_;rw [HD.out];rintro e wn ⟨rfl,hb⟩;refine ⟨_,rfl, ?_⟩;refine hK.out _ _ ⟨zb8 hHeld.1 hb,cellB hb hHeld.2.1,fun j u hu=>cellB hb (hHeld.2.2 j u hu)⟩ (fun hHeld=> ?_);clear hK K;refine norm_ (a':= ?_) ?_ ?_;rotate_left
           ·show Act.put _ (some 65) _=_
            simp only [Act.put,sA,sZ,sS,i64_w];rfl
           have HB:=am (below_step HB7.out hb);refine ba9 (fuel:=0) (n:=1) [11] (by kernel_rfl) (fun N _ _ _ _ h=>by cases N <;> exact h) hHeld ?_
           iterate 1 (
            refine stillS_step (v:= ?_) (a':= ?_) rfl (Or.inl ⟨by rfl, ?_⟩) ?_ ?_;rotate_left
            ·intro W hW
             go_simp
             with_reducible rfl
            rotate_left
            ·simp only [Act.put,sA,sZ,sS,i64_w]
             rfl)
           refine stillS_nil ?_;have BP:=am hHeld.1;clear hHeld HB7 hb;have BPc:=zc8 BP.out;refine done_ (by kernel_rfl) ?_;go_wp2;go_roundw
           case rel=>exact ⟨m+1,by omega,by go_num,⟨fun i hi=>by rcases Nat.lt_or_ge i m with h | h;exact HM.out i h;obtain rfl:i=m:=(by omega);rw [<-AX.out];exact HD.out⟩,BP,HB⟩
           case measure=>simp [intOf];omega
          | false=>
           have HD:=am hao;clear hao;go_wp2;clear p2w;refine st9 (n:=12) (S:=fun W=>W.heap[gp]? = some (.cells #[.slice Ac p.cells.length cc,.slice (some ⟨bb,ob,none⟩) p.bodies.length cb] 48 (0,0))/\W.cell? ⟨bb,ob+k,none⟩=some (.slice (some ⟨ba,oa,none⟩) (actsAt p.bodies k).length ca)/\∀ j u, [.int .i64 a.kind,.slice Ad a.deeds.length cd,.slice Ak a.kids.length ck,.int .i64 a.reg][j]? = some u->W.cell? ⟨ba,oa+m*4+j,none⟩=some u) (ds:= []) (by kernel_rfl) rfl ⟨blk_drew BP.out,(show wr.cell? ⟨bb,ob+k,none⟩=_ from cellB HB.out P2.out),fun j u hu=>(show wr.cell? ⟨ba,oa+m*4+j,none⟩=_ from cellB HB.out (HC.out j u hu))⟩ (fun hHeld=> ?_);have hb:=below_drew (Below.refl wr.heap.size wr);generalize wr.drew=w7 at hb hHeld ⊢;have HB7:=am (below_step HB.out hb);clear hb HB BP BPc;refine ba9 (fuel:=2) (n:=10) [0,1,2,3,4,5,6,7,8,9] (by kernel_rfl) (fun N _ _ _ _ h=>by cases N <;> exact h) hHeld ?_
           iterate 10 (
            refine stillS_step (v:= ?_) (a':= ?_) rfl (Or.inl ⟨by rfl, ?_⟩) ?_ ?_;rotate_left
            ·rintro W ⟨s0,s2,s3⟩
             have t0:=zc8 s0;have u0:=s3 0 _ rfl;have u1:=s3 1 _ rfl;have u2:=s3 2 _ rfl;have u3:=s3 3 _ rfl;rw [Nat.add_zero] at u0;clear s0 s3;go_simp;with_reducible rfl
            rotate_left
            ·simp only [Act.put,sA,sZ,sS,i64_w]
             rfl)
           refine stillS_nil ?_;refine on9 (i:=10) (N:=some 65) rfl rfl (by kernel_rfl) (by decide) (fun K hK=> ?_);refine goes_ Try.func123 (by kernel_rfl) rfl #[.agg #[.slice Ac p.cells.length cc,.slice (some ⟨bb,ob,none⟩) p.bodies.length cb],.int .i64 k,.agg #[.int .i64 a.kind,.slice Ad a.deeds.length cd,.slice Ak a.kids.length ck,.int .i64 a.reg]] (by rfl) rfl rfl (by (try simp only [List.map_toArray,List.map_cons,List.map_nil]);first | done | rfl) ?_;refine (l1Act_calls p a _ _ (k:Int) _ (kProg.K_below HB7.out HPK.out) (kAct.K_below HB7.out HK.out) (by omega) (by omega) (by omega) (by omega) SZ.out.1 SZ.out.2).mono ?_;rw [HD.out];rintro e wn ⟨rfl,hb⟩;refine ⟨_,rfl, ?_⟩;refine hK.out _ _ ⟨zb8 hHeld.1 hb,cellB hb hHeld.2.1,fun j u hu=>cellB hb (hHeld.2.2 j u hu)⟩ (fun hHeld=> ?_);clear hK K;refine norm_ (a':= ?_) ?_ ?_;rotate_left
           ·show Act.put _ (some 65) _=_
            simp only [Act.put,sA,sZ,sS,i64_w];rfl
           have HB:=am (below_step HB7.out hb);refine ba9 (fuel:=0) (n:=1) [11] (by kernel_rfl) (fun N _ _ _ _ h=>by cases N <;> exact h) hHeld ?_
           iterate 1 (
            refine stillS_step (v:= ?_) (a':= ?_) rfl (Or.inl ⟨by rfl, ?_⟩) ?_ ?_;rotate_left
            ·intro W hW
             go_simp
             with_reducible rfl
            rotate_left
            ·simp only [Act.put,sA,sZ,sS,i64_w]
             rfl)
           refine stillS_nil ?_;have BP:=am hHeld.1;clear hHeld HB7 hb;have BPc:=zc8 BP.out;refine done_ (by kernel_rfl) ?_;go_wp2;go_ret
           have hr:formOk p=false:=by
            unfold formOk;rw [allB_no (n:=p.bodies.length) hlt (by unfold bodyOk;rw [allB_no hmt (by rw [<-AX.out];exact HD.out),Bool.and_false]),Bool.and_false]
           rw [hr];exact ⟨rfl,HB.out⟩
         ·obtain rfl:m=(actsAt p.bodies k).length:=by omega
          go_wp2;go_roundw
          case rel=>exact ⟨k+1,by omega,by go_num,⟨fun i hi=>by rcases Nat.lt_or_ge i k with h | h;exact HJ.out i h;obtain rfl:i=k:=(by omega);unfold bodyOk;rw [allB_iff.2 HM.out,decide_eq_true c4];rfl⟩,BP,HB⟩
          case measure=>simp [intOf];omega
       ·have u4:decide (4 < (actsAt p.bodies k).length)=true:=decide_eq_true (by omega)
        have v4:decide ((4:Int) < ((actsAt p.bodies k).length:Int))=true:=decide_eq_true (by omega);have C4:=am c4;clear c4;go_wp2;go_ret
        have hr:formOk p=false:=by
         unfold formOk;rw [allB_no (n:=p.bodies.length) hlt (by unfold bodyOk;rw [decide_eq_false C4.out,Bool.false_and]),Bool.and_false]
        rw [hr];exact ⟨rfl,HB.out⟩
      ·obtain rfl:k=p.bodies.length:=by omega
       go_wp2;go_ret
       have hr:formOk p=true:=by
        unfold formOk;rw [allB_iff.2 HJ.out,HCS.out,show inB (p.bodies.length:Int) 1 4=true from HI.out,decide_eq_true C3.out];rfl
       rw [hr];exact ⟨rfl,HB.out⟩
 ·have u3:decide (3 < p.cells.length)=true:=decide_eq_true (by omega)
  have v3:decide ((3:Int) < (p.cells.length:Int))=true:=decide_eq_true (by omega);have C3:=am c3;clear c3
  go_wp2_with (first
  |((with_reducible refine gate_dst (N:=1) rfl ?_);refine box_event rfl (N:=1) rfl (t:=48) (by go_simp<;>rfl) ?_;intro gp hg w1 hbox hb;have BP:=am hbox;have HB:=am hb;have BPc:=zc8 BP.out;clear hbox hb hg))
  go_ret
  have hr:formOk p=false:=by
   unfold formOk;rw [decide_eq_false C3.out,Bool.false_and,Bool.false_and,Bool.false_and]
  rw [hr];exact ⟨rfl,HB.out⟩
theorem acc_le {p:Prog} (hf:formOk p=true) {b:Int} (h0:0<=b) (h1:b < p.bodies.length) (k:Nat):sumL (fun a:Act=>sumL (treeOf p) a.kids) ((actsAt p.bodies b.toNat).take k)<=37448:=by
 have h4:=form_acts hf ⟨h0,h1⟩;refine Nat.le_trans (sumL_le (m:=9362) fun a ha=> ?_) ?_
 ·obtain ⟨h2,h3⟩:=kid_behind hf ⟨h0,h1⟩ (List.mem_of_mem_take ha)
  refine Nat.le_trans (sumL_le (m:=4681) fun x hx=>treeOf_le hf (by have:=h3 x hx;omega) (h3 x hx).2) ?_;omega
 ·rw [List.length_take]
  have:min k (actsAt p.bodies b.toNat).length<=4:=by omega
  omega
theorem kid_le {p:Prog} (hf:formOk p=true) {b:Int} (h0:0<=b) (h1:b < p.bodies.length) {a:Act} (ha:a ∈ actsAt p.bodies b.toNat) (m:Nat):sumL (treeOf p) (a.kids.take m)<=9362:=by
 obtain ⟨h2,h3⟩:=kid_behind hf ⟨h0,h1⟩ ha;refine Nat.le_trans (sumL_le (m:=4681) fun x hx=>treeOf_le hf (by have:=h3 x (List.mem_of_mem_take hx);omega) (h3 x (List.mem_of_mem_take hx)).2) ?_;rw [List.length_take];have:min m a.kids.length<=2:=by omega
 omega
theorem l1Tree_calls (p:Prog) (pcs:List Value) (hf:formOk p=true):∀ (n:Nat) (b:Int) (w:World),kProg.K w p pcs->0<=b->b < p.bodies.length->(p.bodies.length:Int) - b<=n->
  Calls Try.prog 90 #[.agg pcs.toArray,.int .i64 b] w fun e w'=>e= .returned (.int .i64 (treeOf p b))/\Below w.heap.size w w':=by
 intro n
 induction n with
 | zero=>intro b w _ h0 h1 hn;omega
 | succ n ih=>
 intro b w hp h0 h1 hn;have IH:=am ih;clear ih;obtain ⟨kb,rfl⟩:=Int.eq_ofNat_of_zero_le h0;have hkb:kb < p.bodies.length:=by omega
 have HAC:Aside0 (∀ k,sumL (fun a:Act=>sumL (treeOf p) a.kids) ((actsAt p.bodies kb).take k)<=37448):=⟨fun k=>acc_le hf h0 h1 k⟩;have HTR:Aside0 (treeOf p (kb:Int)=1+sumL (fun a:Act=>sumL (treeOf p) a.kids) (actsAt p.bodies kb)):=⟨treeOf_eq hf h0 h1⟩;have HPK:=am hp;have HF:=am hf;have hb4:=(form_cells hf).2.2;have ha4:(actsAt p.bodies kb).length<=4:=form_acts hf ⟨h0,h1⟩;obtain ⟨Ac,cc,Ab,cb,rfl,-,gc,-,gb⟩:=kProg_open hp;obtain ⟨bb,ob,cs2,rfl,hcl2,hK2,hcc2,-⟩:=C_field gb ([]:List Act) kb hkb (by decide);obtain ⟨Aa,ca,rfl,la,ga2⟩:=hK2;have p2:=hcc2 0 _ rfl;simp only [show (Kd.slice 108 kAct).sz=1 from rfl,Nat.mul_one,Nat.add_zero] at p2;have GA2:=am (show kAct.C w Aa (actsAt p.bodies kb).length (actsAt p.bodies kb) from ga2);rw [show (p.bodies.getD kb []).length=(actsAt p.bodies kb).length from rfl] at p2;have P2:=am p2;have q0:(0:Int)<=(kb:Int):=by omega
 have q1:(kb:Int) < (p.bodies.length:Int):=by omega
 clear hp hf gc gb hcc2 hcl2 ga2 la p2 h0 h1;go_enter Try.func90,Try.ntmps90
 go_wp2_with (first
 |((with_reducible refine gate_dst (N:=2) rfl ?_);refine box_event rfl (N:=2) rfl (t:=48) (by go_simp<;>rfl) ?_;intro gp hg w1 hbox hb;have BP:=am hbox;have HB:=am hb;have BPc:=zc8 BP.out;clear hbox hb hg))
 go_loopw [5,6] (fun v j w'=>∃ k:Nat,k<=(actsAt p.bodies kb).length/\j= .int .i64 k/\v= .int .i64 ((1+sumL (fun a:Act=>sumL (treeOf p) a.kids) ((actsAt p.bodies kb).take k):Nat))/\Aside0 (w'.heap[gp]? = some (.cells #[.slice Ac p.cells.length cc,.slice (some ⟨bb,ob,none⟩) p.bodies.length cb] 48 (0,0)))/\Aside0 (Below w.heap.size w w')) (fun _ j _=>(actsAt p.bodies kb).length - (intOf j).toNat)
 case atStart=>exact ⟨0,Nat.zero_le _,rfl,by simp [sumL],BP,HB⟩
 case round=>
  clear BP HB BPc;obtain ⟨k,hk,rfl,rfl,BP,HB⟩:=hrel;obtain ⟨acc,hacc⟩:∃ x:Nat,x=(1+sumL (fun a:Act=>sumL (treeOf p) a.kids) ((actsAt p.bodies kb).take k):Nat):=⟨_,rfl⟩;have hacl:acc<=37449:=by have:=HAC.out k;omega
  simp only [<-hacc];have HACC:=am hacc;clear hacc;have BPc:=zc8 BP.out;have p2w:=cellB HB.out P2.out;by_cases hmt:k < (actsAt p.bodies kb).length
  ·obtain ⟨ba,oa,cs3,rfl,hcl3,hK3,hcc3,-⟩:=C_field GA2.out zAct k hmt (by decide)
   obtain ⟨a,hax⟩:∃ x,x=actAt (actsAt p.bodies kb) k:=⟨_,rfl⟩;rw [show (actsAt p.bodies kb).getD k zAct=a from hax.symm] at hK3
   have hmem:a ∈ actsAt p.bodies kb:=by
    have h9:actAt (actsAt p.bodies kb) k=(actsAt p.bodies kb)[k]:=by simp [actAt,hmt]
    rw [hax,h9];exact List.getElem_mem hmt
   have AX:=am hax;have KB:=am (kid_behind HF.out (b:=(kb:Int)) ⟨q0,q1⟩ hmem);have KL:Aside0 (∀ m,sumL (treeOf p) (a.kids.take m)<=9362):=⟨fun m=>kid_le HF.out (b:=(kb:Int)) q0 q1 hmem m⟩;have hk2:a.kids.length<=2:=KB.out.1;obtain ⟨Ad,cd,Ak,ck,rfl,-,-,-,gk⟩:=kAct_open hK3;have HKS:=am gk;have pk:=hcc3 2 _ rfl;simp only [show kAct.sz=4 from rfl] at pk;have PK:=am pk;have pkw:=cellB HB.out pk;have r0:(0:Int)<=(k:Int):=by omega
   have r1:(k:Int) < ((actsAt p.bodies kb).length:Int):=by omega
   clear hcc3 hK3 hcl3 hax hmem pk gk;go_wp2;go_loopw [5,8] (fun v j w'=>∃ m:Nat,m<=a.kids.length/\j= .int .i64 m/\v= .int .i64 ((acc+sumL (treeOf p) (a.kids.take m):Nat):Int)/\Aside0 (w'.heap[gp]? = some (.cells #[.slice Ac p.cells.length cc,.slice (some ⟨bb,ob,none⟩) p.bodies.length cb] 48 (0,0)))/\Aside0 (Below w.heap.size w w')) (fun _ j _=>a.kids.length - (intOf j).toNat)
   case atStart=>exact ⟨0,Nat.zero_le _,rfl,by simp [sumL],BP,HB⟩
   case round=>
    clear BP HB BPc p2w pkw;obtain ⟨m,hm,rfl,rfl,BP,HB⟩:=hrel;obtain ⟨ac2,hac2⟩:∃ x:Nat,x=acc+sumL (treeOf p) (a.kids.take m):=⟨_,rfl⟩;have hac2l:ac2<=50000:=by have:=KL.out m;omega
    simp only [<-hac2];have HAC2:=am hac2;clear hac2;have BPc:=zc8 BP.out;by_cases hlt:m < a.kids.length
    ·have s0:(0:Int)<=(m:Int):=by omega
     have s1:(m:Int) < (a.kids.length:Int):=by omega
     obtain ⟨kid,hkid⟩:∃ x,x=numAt a.kids m:=⟨_,rfl⟩;have hkr:=KB.out.2 kid (by rw [hkid];have h9:numAt a.kids m=a.kids[m]:=(by simp [numAt,hlt]);rw [h9];exact List.getElem_mem hlt);have KR:=am hkr;obtain ⟨tk0,htk⟩:∃ x,x=treeOf p kid:=⟨_,rfl⟩;have htl:tk0<=4681:=by rw [htk];exact treeOf_le HF.out (by omega) hkr.2
     have HTK:=am htk.symm;have HKD:=am hkid;obtain ⟨ad,had,-⟩:=Kd.at_int HKS.out (m:Int) s0 s1;subst had;clear hkid htk hkr;go_wp2;refine st9 (n:=9) (S:=fun W=>W.heap[gp]? = some (.cells #[.slice Ac p.cells.length cc,.slice (some ⟨bb,ob,none⟩) p.bodies.length cb] 48 (0,0))/\(Kd.int .i64).C W (some ad) a.kids.length a.kids) (ds:= []) (by kernel_rfl) rfl ⟨blk_drew BP.out,Kd.C_below (Kd.C_below HKS.out HB.out) (below_drew (Below.refl _ _))⟩ (fun hHeld=> ?_);have hb:=below_drew (Below.refl wr.heap.size wr);generalize wr.drew=w7 at hb hHeld ⊢;have HB7:=am (below_step HB.out hb);clear hb HB BP BPc;refine ba9 (fuel:=3) (n:=6) [0,1,2,3,4,5] (by kernel_rfl) (fun N _ _ _ _ h=>by cases N <;> exact h) hHeld ?_
     iterate 6 (
      refine stillS_step (v:= ?_) (a':= ?_) rfl (Or.inl ⟨by rfl, ?_⟩) ?_ ?_;rotate_left
      ·rintro W ⟨s00,s2⟩
       have t0:=zc8 s00;obtain ⟨ad1,hh,gx⟩:=Kd.at_int s2 (m:Int) s0 s1;cases hh;simp only [Int.toNat_natCast] at gx;rw [show rd a.kids (m:Int)=kid from HKD.out.symm] at gx;clear s00 s2;go_simp;with_reducible rfl
      rotate_left
      ·simp only [Act.put,sA,sZ,sS,i64_w]
       rfl)
     refine stillS_nil ?_;refine on9 (i:=6) (N:=some 40) rfl rfl (by kernel_rfl) (by decide) (fun K hK=> ?_);refine goes_ Try.func90 (by kernel_rfl) rfl #[.agg #[.slice Ac p.cells.length cc,.slice (some ⟨bb,ob,none⟩) p.bodies.length cb],.int .i64 kid] (by rfl) rfl rfl (by (try simp only [List.map_toArray,List.map_cons,List.map_nil]);first | done | rfl) ?_;refine (IH.out kid _ (kProg.K_below HB7.out HPK.out) (by have:=KR.out;omega) KR.out.2 (by have:=KR.out;omega)).mono ?_;rw [HTK.out];rintro e wn ⟨rfl,hb⟩;refine ⟨_,rfl, ?_⟩;refine hK.out _ _ ⟨zb8 hHeld.1 hb,Kd.C_below hHeld.2 hb⟩ (fun hHeld=> ?_);clear hK K;refine norm_ (a':= ?_) ?_ ?_;rotate_left
     ·show Act.put _ (some 40) _=_
      simp only [Act.put,sA,sZ,sS,i64_w];rfl
     have HB:=am (below_step HB7.out hb);refine ba9 (fuel:=0) (n:=2) [7,8] (by kernel_rfl) (fun N _ _ _ _ h=>by cases N <;> exact h) hHeld ?_
     iterate 2 (
      refine stillS_step (v:= ?_) (a':= ?_) rfl (Or.inl ⟨by rfl, ?_⟩) ?_ ?_;rotate_left
      ·intro W hW
       go_simp
       with_reducible rfl
      rotate_left
      ·simp only [Act.put,sA,sZ,sS,i64_w]
       rfl)
     refine stillS_nil ?_;have BP:=am hHeld.1;clear hHeld HB7 hb;have BPc:=zc8 BP.out;refine done_ (by kernel_rfl) ?_;go_wp2;go_roundw
     case rel=>exact ⟨m+1,by omega,by go_num,by rw [show ((acc+sumL (treeOf p) (a.kids.take (m+1)):Nat):Int)=(ac2:Int)+(tk0:Int) by rw [sumL_take (treeOf p) 0 a.kids hlt,show a.kids.getD m 0=kid from HKD.out.symm,HTK.out,HAC2.out];omega,show wrap64 ((ac2:Int)+(tk0:Int))=(ac2:Int)+(tk0:Int) from (by unfold wrap64;omega)],BP,HB⟩
     case measure=>simp [intOf];omega
    ·obtain rfl:m=a.kids.length:=by omega
     have hfin:ac2=(1+sumL (fun a:Act=>sumL (treeOf p) a.kids) ((actsAt p.bodies kb).take (k+1)):Nat):=by
      rw [HAC2.out,List.take_length,HACC.out,sumL_take (fun a:Act=>sumL (treeOf p) a.kids) zAct (actsAt p.bodies kb) hmt,show (actsAt p.bodies kb).getD k zAct=a from AX.out.symm];omega
     have HFIN:=am hfin;clear hfin;go_wp2;go_roundw
     case rel=>exact ⟨k+1,by omega,by go_num,by rw [HFIN.out],BP,HB⟩
     case measure=>simp [intOf];omega
  ·obtain rfl:k=(actsAt p.bodies kb).length:=by omega
   go_wp2;go_ret;have hr:treeOf p (kb:Int)=acc:=by rw [HTR.out,HACC.out,List.take_length]
   rw [hr];exact ⟨rfl,HB.out⟩
theorem progOk_calls (p:Prog) (pcs:List Value) (w:World) (hp:kProg.K w p pcs) (hz:ProgSz p):
  Calls Try.prog 56 #[.agg pcs.toArray] w fun e w'=>e= .returned (.bool (progOk p))/\Below w.heap.size w w':=by
 have HPK:=am hp;obtain ⟨Ac,cc,Ab,cb,rfl,-⟩:=kProg_open hp;have HZ:=am hz;clear hp hz;go_enter Try.func56,Try.ntmps56
 cases hf:formOk p with
 | false=>
  have HF:=am hf;clear hf
  go_wp2_with (first
  |((with_reducible refine gate_dst (N:=1) rfl ?_);refine box_event rfl (N:=1) rfl (t:=48) (by go_simp<;>rfl) ?_;intro gp hg w1 hbox hb;have BP:=am hbox;have HB:=am hb;have BPc:=zc8 BP.out;clear hbox hb hg)
  |(go_at_call 89;refine (l1Form_calls p _ _ (kProg.K_below HB.out HPK.out) HZ.out).mono ?_;rw [HF.out];rintro e w9 ⟨rfl,hb⟩;replace HB:=am (below_step HB.out hb);replace BP:=am (zb8 BP.out hb);clear hb BPc;have BPc:=zc8 BP.out))
  go_ret;have hr:progOk p=false:=by unfold progOk;rw [HF.out,Bool.false_and]
  rw [hr]
  exact ⟨rfl,HB.out⟩
 | true=>
  have HF:=am hf;have hb1:=(form_cells hf).2.1;have HB1:=am hb1;obtain ⟨n,hn⟩:∃ x,x=treeOf p 0:=⟨_,rfl⟩;have HN:=am hn.symm;clear hf hn hb1
  go_wp2_with (first
  |((with_reducible refine gate_dst (N:=1) rfl ?_);refine box_event rfl (N:=1) rfl (t:=48) (by go_simp<;>rfl) ?_;intro gp hg w1 hbox hb;have BP:=am hbox;have HB:=am hb;have BPc:=zc8 BP.out;clear hbox hb hg)
  |(go_at_call 89;refine (l1Form_calls p _ _ (kProg.K_below HB.out HPK.out) HZ.out).mono ?_;rw [HF.out];rintro e w9 ⟨rfl,hb⟩;replace HB:=am (below_step HB.out hb);replace BP:=am (zb8 BP.out hb);clear hb BPc;have BPc:=zc8 BP.out)
  |(go_at_call 90;refine (l1Tree_calls p _ HF.out p.bodies.length 0 _ (kProg.K_below HB.out HPK.out) (by omega) (by have:=HB1.out;omega) (by omega)).mono ?_;rw [HN.out];rintro e w9 ⟨rfl,hb⟩;replace HB:=am (below_step HB.out hb);clear hb BP BPc))
  go_ret
  have hr:progOk p=decide ((n:Int)<=7):=by
   unfold progOk;rw [HF.out,HN.out,Bool.true_and];exact decide_eq_decide.2 (by omega)
  rw [hr];exact ⟨rfl,HB.out⟩
theorem put_cells {w:World} {A:Option Addr} {xs:List Put} (h:kPut.C w A xs.length xs):∃ b o,(0 < xs.length->A=some ⟨b,o,none⟩)/\∀ k,k < xs.length->w.cell? ⟨b,o+k*2,none⟩=some (.int .i64 (putAt xs k).cell)/\w.cell? ⟨b,o+k*2+1,none⟩=some (.int .i64 (putAt xs k).num):=by
 by_cases h0:0 < xs.length
 ·obtain ⟨b,o,cs,rfl,-⟩:=C_field h zPut 0 h0 (by decide)
  refine ⟨b,o,fun _=>rfl,fun k hk=> ?_⟩;obtain ⟨b',o',cs,he,hcl,hK,hcc,-⟩:=C_field h zPut k hk (by decide);cases he;have e:=kPut_open hK;subst e;have p0:=hcc 0 _ rfl;have p1:=hcc 1 _ rfl;simp only [show kPut.sz=2 from rfl,Nat.add_zero] at p0 p1;exact ⟨p0,p1⟩
 ·exact ⟨0,0,fun h=>absurd h h0,fun k hk=>by omega⟩
theorem l12List_calls (A:Option Addr) (c:Nat) (xs:List Put) (cells:Int) (w:World) (hx:kPut.C w A xs.length xs) (hn:xs.length<=1048576) (h0:0<=cells) (h1:cells<=1048576):
  Calls Try.prog 92 #[.slice A xs.length c,.int .i64 cells] w fun e w'=>e= .returned (.bool (listOk xs cells))/\Below w.heap.size w w':=by
 obtain ⟨b,o,hA,hcell⟩:=put_cells hx;have HC:=am hcell;clear hx hcell;go_enter Try.func92,Try.ntmps92;go_wp2;go_loopw [5] (fun j w'=>∃ k:Nat,k<=xs.length/\j= .int .i64 k/\Aside0 (∀ i,i < k->(inB (putAt xs i).cell 0 (cells - 1) && inB (putAt xs i).num 0 99 && (decide (i=0) || decide ((putAt xs (i - 1)).cell < (putAt xs i).cell)))=true)/\Aside0 (Below w.heap.size w w')) (fun j _=>xs.length - (intOf j).toNat)
 case atStart=>exact ⟨0,Nat.zero_le _,rfl,⟨fun i hi=>by omega⟩,⟨Below.refl _ _⟩⟩
 case round=>
  obtain ⟨k,hk,rfl,HJ,HB⟩:=hrel;by_cases hlt:k < xs.length
  ·obtain rfl:=hA (by omega)
   have q0:(0:Int)<=(k:Int):=by omega
   have q1:(k:Int) < (xs.length:Int):=by omega
   obtain ⟨x,hxx⟩:∃ x,x=putAt xs k:=⟨_,rfl⟩;have p0:=cellB HB.out (HC.out k hlt).1;have p1:=cellB HB.out (HC.out k hlt).2;rw [<-hxx] at p0 p1;have HXX:=am hxx;have w1:wrap64 (cells - 1)=cells - 1:=by unfold wrap64;omega
   clear hxx
   cases hb1:inB x.cell 0 (cells - 1) with
   | false=>
    have H1:Aside0 ((decide ((0:Int)<=x.cell) && decide (x.cell<=cells - 1))=false):=⟨hb1⟩;clear hb1;go_wp2;refine st9 (n:=36) (S:=fun W=>W.cell? ⟨b,o+k*2,none⟩=some (.int .i64 x.cell)/\W.cell? ⟨b,o+k*2+1,none⟩=some (.int .i64 x.num)) (ds:= []) (by kernel_rfl) rfl ⟨p0,p1⟩ (fun hHeld=> ?_);have hb:=below_drew (Below.refl wr.heap.size wr);generalize wr.drew=w7 at hb hHeld ⊢;have HB7:=am (below_step HB.out hb);clear hb HB p0 p1;refine ba9 (fuel:=29) (n:=7) [0,1,2,3,4,5,6] (by kernel_rfl) (fun N _ _ _ _ h=>by cases N <;> exact h) hHeld ?_
    iterate 7 (
     refine stillS_step (v:= ?_) (a':= ?_) rfl (Or.inl ⟨by rfl, ?_⟩) ?_ ?_;rotate_left
     ·rintro W ⟨s2,s3⟩
      go_simp
      with_reducible rfl
     rotate_left
     ·simp only [Act.put,sA,sZ,sS,i64_w]
      rfl)
    refine stillS_nil ?_;refine on9 (i:=7) (N:=some 19) rfl rfl (by kernel_rfl) (by decide) (fun K hK=> ?_);refine goes_ Try.func50 (by kernel_rfl) rfl #[.int .i64 x.cell,.int .i64 0,.int .i64 (wrap64 (cells - 1))] (by rfl) rfl rfl (by (try simp only [List.map_toArray,List.map_cons,List.map_nil]);first | done | rfl) ?_;refine (l6In_calls x.cell 0 (wrap64 (cells - 1)) _).mono ?_;rw [w1,H1.out];rintro e wn ⟨rfl,rfl⟩;refine ⟨_,rfl, ?_⟩;refine hK.out _ _ hHeld (fun hHeld=> ?_);clear hK K;refine norm_ (a':= ?_) ?_ ?_;rotate_left
    ·show Act.put _ (some 19) _=_
     simp only [Act.put,sA,sZ,sS,i64_w];rfl
    refine ba9 (fuel:=21) (n:=7) [8,9,10,11,12,13,14] (by kernel_rfl) (fun N _ _ _ _ h=>by cases N <;> exact h) hHeld ?_
    iterate 2 (
     refine stillS_step (v:= ?_) (a':= ?_) rfl (Or.inl ⟨by rfl, ?_⟩) ?_ ?_;rotate_left
     ·rintro W ⟨s2,s3⟩
      go_simp
      with_reducible rfl
     rotate_left
     ·simp only [Act.put,sA,sZ,sS,i64_w]
      rfl)
    iterate 5 (
     refine stillS_step (v:=undef) (a':= ?_) rfl (Or.inr ⟨by rfl,rfl⟩) ?_ ?_;rotate_left
     ·simp only [Act.put,sA,sZ,sS]
      rfl)
    refine stillS_nil ?_;refine on9 (i:=15) (N:=some 27) rfl rfl (by kernel_rfl) (by decide) (fun K hK=> ?_);rw [if_neg (by exact Bool.false_ne_true)];refine hK.out _ _ hHeld (fun hHeld=> ?_);clear hK K;refine norm_ (a':= ?_) ?_ ?_;rotate_left
    ·show Act.put _ (some 27) _=_
     simp only [Act.put,sA,sZ,sS,i64_w];rfl
    refine ba9 (fuel:=0) (n:=20) [16,17,18,19,20,21,22,23,24,25,26,27,28,29,30,31,32,33,34,35] (by kernel_rfl) (fun N _ _ _ _ h=>by cases N <;> exact h) hHeld ?_
    iterate 1 (
     refine stillS_step (v:=undef) (a':= ?_) rfl (Or.inr ⟨by rfl,rfl⟩) ?_ ?_;rotate_left
     ·simp only [Act.put,sA,sZ,sS]
      rfl)
    iterate 2 (
     refine stillS_step (v:= ?_) (a':= ?_) rfl (Or.inl ⟨by rfl, ?_⟩) ?_ ?_;rotate_left
     ·rintro W ⟨s2,s3⟩
      go_simp
      with_reducible rfl
     rotate_left
     ·simp only [Act.put,sA,sZ,sS,i64_w]
      rfl)
    iterate 3 (
     refine stillS_step (v:=undef) (a':= ?_) rfl (Or.inr ⟨by rfl,rfl⟩) ?_ ?_;rotate_left
     ·simp only [Act.put,sA,sZ,sS]
      rfl)
    iterate 12 (
     refine stillS_step (v:=undef) (a':= ?_) rfl (Or.inr ⟨by rfl,rfl⟩) ?_ ?_;rotate_left
     ·simp only [Act.put,sA,sZ,sS]
      rfl)
    iterate 1 (
     refine stillS_step (v:=undef) (a':= ?_) rfl (Or.inr ⟨by rfl,rfl⟩) ?_ ?_;rotate_left
     ·simp only [Act.put,sA,sZ,sS]
      rfl)
    iterate 1 (
     refine stillS_step (v:= ?_) (a':= ?_) rfl (Or.inl ⟨by rfl, ?_⟩) ?_ ?_;rotate_left
     ·rintro W ⟨s2,s3⟩
      go_simp
      with_reducible rfl
     rotate_left
     ·simp only [Act.put,sA,sZ,sS,i64_w]
      rfl)
    refine stillS_nil ?_;refine done_ (by kernel_rfl) ?_;clear hHeld;go_wp2;go_ret
    have hr:listOk xs cells=false:=by
     unfold listOk;exact allB_no hlt (by rw [<-HXX.out,show inB x.cell 0 (cells - 1)=false from H1.out,Bool.false_and,Bool.false_and])
    rw [hr]
    exact ⟨rfl,HB7.out⟩
   | true=>
    have H1:Aside0 ((decide ((0:Int)<=x.cell) && decide (x.cell<=cells - 1))=true):=⟨hb1⟩;clear hb1
    cases hb2:inB x.num 0 99 with
    | false=>
     have H2:Aside0 ((decide ((0:Int)<=x.num) && decide (x.num<=99))=false):=⟨hb2⟩;clear hb2;go_wp2;refine st9 (n:=36) (S:=fun W=>W.cell? ⟨b,o+k*2,none⟩=some (.int .i64 x.cell)/\W.cell? ⟨b,o+k*2+1,none⟩=some (.int .i64 x.num)) (ds:= []) (by kernel_rfl) rfl ⟨p0,p1⟩ (fun hHeld=> ?_);have hb:=below_drew (Below.refl wr.heap.size wr);generalize wr.drew=w7 at hb hHeld ⊢;have HB7:=am (below_step HB.out hb);clear hb HB p0 p1;refine ba9 (fuel:=29) (n:=7) [0,1,2,3,4,5,6] (by kernel_rfl) (fun N _ _ _ _ h=>by cases N <;> exact h) hHeld ?_
     iterate 7 (
      refine stillS_step (v:= ?_) (a':= ?_) rfl (Or.inl ⟨by rfl, ?_⟩) ?_ ?_;rotate_left
      ·rintro W ⟨s2,s3⟩
       go_simp
       with_reducible rfl
      rotate_left
      ·simp only [Act.put,sA,sZ,sS,i64_w]
       rfl)
     refine stillS_nil ?_;refine on9 (i:=7) (N:=some 19) rfl rfl (by kernel_rfl) (by decide) (fun K hK=> ?_);refine goes_ Try.func50 (by kernel_rfl) rfl #[.int .i64 x.cell,.int .i64 0,.int .i64 (wrap64 (cells - 1))] (by rfl) rfl rfl (by (try simp only [List.map_toArray,List.map_cons,List.map_nil]);first | done | rfl) ?_;refine (l6In_calls x.cell 0 (wrap64 (cells - 1)) _).mono ?_;rw [w1,H1.out];rintro e wn ⟨rfl,rfl⟩;refine ⟨_,rfl, ?_⟩;refine hK.out _ _ hHeld (fun hHeld=> ?_);clear hK K;refine norm_ (a':= ?_) ?_ ?_;rotate_left
     ·show Act.put _ (some 19) _=_
      simp only [Act.put,sA,sZ,sS,i64_w];rfl
     refine ba9 (fuel:=21) (n:=7) [8,9,10,11,12,13,14] (by kernel_rfl) (fun N _ _ _ _ h=>by cases N <;> exact h) hHeld ?_
     iterate 2 (
      refine stillS_step (v:= ?_) (a':= ?_) rfl (Or.inl ⟨by rfl, ?_⟩) ?_ ?_;rotate_left
      ·rintro W ⟨s2,s3⟩
       go_simp
       with_reducible rfl
      rotate_left
      ·simp only [Act.put,sA,sZ,sS,i64_w]
       rfl)
     iterate 5 (
      refine stillS_step (v:= ?_) (a':= ?_) rfl (Or.inl ⟨by rfl, ?_⟩) ?_ ?_;rotate_left
      ·rintro W ⟨s2,s3⟩
       go_simp
       with_reducible rfl
      rotate_left
      ·simp only [Act.put,sA,sZ,sS,i64_w]
       rfl)
     refine stillS_nil ?_;refine on9 (i:=15) (N:=some 27) rfl rfl (by kernel_rfl) (by decide) (fun K hK=> ?_);refine goes_ Try.func50 (by kernel_rfl) rfl #[.int .i64 x.num,.int .i64 0,.int .i64 99] (by rfl) rfl rfl (by (try simp only [List.map_toArray,List.map_cons,List.map_nil]);first | done | rfl) ?_;refine (l6In_calls x.num 0 99 _).mono ?_;rw [H2.out];rintro e wn ⟨rfl,rfl⟩;refine ⟨_,rfl, ?_⟩;refine hK.out _ _ hHeld (fun hHeld=> ?_);clear hK K;refine norm_ (a':= ?_) ?_ ?_;rotate_left
     ·show Act.put _ (some 27) _=_
      simp only [Act.put,sA,sZ,sS,i64_w];rfl
     refine ba9 (fuel:=0) (n:=20) [16,17,18,19,20,21,22,23,24,25,26,27,28,29,30,31,32,33,34,35] (by kernel_rfl) (fun N _ _ _ _ h=>by cases N <;> exact h) hHeld ?_
     iterate 1 (
      refine stillS_step (v:= ?_) (a':= ?_) rfl (Or.inl ⟨by rfl, ?_⟩) ?_ ?_;rotate_left
      ·rintro W ⟨s2,s3⟩
       go_simp
       with_reducible rfl
      rotate_left
      ·simp only [Act.put,sA,sZ,sS,i64_w]
       rfl)
     iterate 2 (
      refine stillS_step (v:= ?_) (a':= ?_) rfl (Or.inl ⟨by rfl, ?_⟩) ?_ ?_;rotate_left
      ·rintro W ⟨s2,s3⟩
       go_simp
       with_reducible rfl
      rotate_left
      ·simp only [Act.put,sA,sZ,sS,i64_w]
       rfl)
     iterate 3 (
      refine stillS_step (v:=undef) (a':= ?_) rfl (Or.inr ⟨by rfl,rfl⟩) ?_ ?_;rotate_left
      ·simp only [Act.put,sA,sZ,sS]
       rfl)
     iterate 12 (
      refine stillS_step (v:=undef) (a':= ?_) rfl (Or.inr ⟨by rfl,rfl⟩) ?_ ?_;rotate_left
      ·simp only [Act.put,sA,sZ,sS]
       rfl)
     iterate 1 (
      refine stillS_step (v:=undef) (a':= ?_) rfl (Or.inr ⟨by rfl,rfl⟩) ?_ ?_;rotate_left
      ·simp only [Act.put,sA,sZ,sS]
       rfl)
     iterate 1 (
      refine stillS_step (v:= ?_) (a':= ?_) rfl (Or.inl ⟨by rfl, ?_⟩) ?_ ?_;rotate_left
      ·rintro W ⟨s2,s3⟩
       go_simp
       with_reducible rfl
      rotate_left
      ·simp only [Act.put,sA,sZ,sS,i64_w]
       rfl)
     refine stillS_nil ?_;refine done_ (by kernel_rfl) ?_;clear hHeld;go_wp2;go_ret
     have hr:listOk xs cells=false:=by
      unfold listOk;exact allB_no hlt (by rw [<-HXX.out,show inB x.num 0 99=false from H2.out,Bool.and_false,Bool.false_and])
     rw [hr]
     exact ⟨rfl,HB7.out⟩
    | true=>
     have H2:Aside0 ((decide ((0:Int)<=x.num) && decide (x.num<=99))=true):=⟨hb2⟩;clear hb2;by_cases hk0:k=0
     ·have y0:decide (0 < k)=false:=decide_eq_false (by omega)
      have y0':decide ((0:Int) < (k:Int))=false:=decide_eq_false (by omega);have HK0:=am hk0;clear hk0;go_wp2;refine st9 (n:=36) (S:=fun W=>W.cell? ⟨b,o+k*2,none⟩=some (.int .i64 x.cell)/\W.cell? ⟨b,o+k*2+1,none⟩=some (.int .i64 x.num)) (ds:= []) (by kernel_rfl) rfl ⟨p0,p1⟩ (fun hHeld=> ?_);have hb:=below_drew (Below.refl wr.heap.size wr);generalize wr.drew=w7 at hb hHeld ⊢;have HB7:=am (below_step HB.out hb);clear hb HB p0 p1;refine ba9 (fuel:=29) (n:=7) [0,1,2,3,4,5,6] (by kernel_rfl) (fun N _ _ _ _ h=>by cases N <;> exact h) hHeld ?_
      iterate 7 (
       refine stillS_step (v:= ?_) (a':= ?_) rfl (Or.inl ⟨by rfl, ?_⟩) ?_ ?_;rotate_left
       ·rintro W ⟨s2,s3⟩
        go_simp
        with_reducible rfl
       rotate_left
       ·simp only [Act.put,sA,sZ,sS,i64_w]
        rfl)
      refine stillS_nil ?_;refine on9 (i:=7) (N:=some 19) rfl rfl (by kernel_rfl) (by decide) (fun K hK=> ?_);refine goes_ Try.func50 (by kernel_rfl) rfl #[.int .i64 x.cell,.int .i64 0,.int .i64 (wrap64 (cells - 1))] (by rfl) rfl rfl (by (try simp only [List.map_toArray,List.map_cons,List.map_nil]);first | done | rfl) ?_;refine (l6In_calls x.cell 0 (wrap64 (cells - 1)) _).mono ?_;rw [w1,H1.out];rintro e wn ⟨rfl,rfl⟩;refine ⟨_,rfl, ?_⟩;refine hK.out _ _ hHeld (fun hHeld=> ?_);clear hK K;refine norm_ (a':= ?_) ?_ ?_;rotate_left
      ·show Act.put _ (some 19) _=_
       simp only [Act.put,sA,sZ,sS,i64_w];rfl
      refine ba9 (fuel:=21) (n:=7) [8,9,10,11,12,13,14] (by kernel_rfl) (fun N _ _ _ _ h=>by cases N <;> exact h) hHeld ?_
      iterate 2 (
       refine stillS_step (v:= ?_) (a':= ?_) rfl (Or.inl ⟨by rfl, ?_⟩) ?_ ?_;rotate_left
       ·rintro W ⟨s2,s3⟩
        go_simp
        with_reducible rfl
       rotate_left
       ·simp only [Act.put,sA,sZ,sS,i64_w]
        rfl)
      iterate 5 (
       refine stillS_step (v:= ?_) (a':= ?_) rfl (Or.inl ⟨by rfl, ?_⟩) ?_ ?_;rotate_left
       ·rintro W ⟨s2,s3⟩
        go_simp
        with_reducible rfl
       rotate_left
       ·simp only [Act.put,sA,sZ,sS,i64_w]
        rfl)
      refine stillS_nil ?_;refine on9 (i:=15) (N:=some 27) rfl rfl (by kernel_rfl) (by decide) (fun K hK=> ?_);refine goes_ Try.func50 (by kernel_rfl) rfl #[.int .i64 x.num,.int .i64 0,.int .i64 99] (by rfl) rfl rfl (by (try simp only [List.map_toArray,List.map_cons,List.map_nil]);first | done | rfl) ?_;refine (l6In_calls x.num 0 99 _).mono ?_;rw [H2.out];rintro e wn ⟨rfl,rfl⟩;refine ⟨_,rfl, ?_⟩;refine hK.out _ _ hHeld (fun hHeld=> ?_);clear hK K;refine norm_ (a':= ?_) ?_ ?_;rotate_left
      ·show Act.put _ (some 27) _=_
       simp only [Act.put,sA,sZ,sS,i64_w];rfl
      refine ba9 (fuel:=0) (n:=20) [16,17,18,19,20,21,22,23,24,25,26,27,28,29,30,31,32,33,34,35] (by kernel_rfl) (fun N _ _ _ _ h=>by cases N <;> exact h) hHeld ?_
      iterate 1 (
       refine stillS_step (v:= ?_) (a':= ?_) rfl (Or.inl ⟨by rfl, ?_⟩) ?_ ?_;rotate_left
       ·rintro W ⟨s2,s3⟩
        go_simp
        with_reducible rfl
       rotate_left
       ·simp only [Act.put,sA,sZ,sS,i64_w]
        rfl)
      iterate 2 (
       refine stillS_step (v:= ?_) (a':= ?_) rfl (Or.inl ⟨by rfl, ?_⟩) ?_ ?_;rotate_left
       ·rintro W ⟨s2,s3⟩
        go_simp
        with_reducible rfl
       rotate_left
       ·simp only [Act.put,sA,sZ,sS,i64_w]
        rfl)
      iterate 3 (
       refine stillS_step (v:= ?_) (a':= ?_) rfl (Or.inl ⟨by rfl, ?_⟩) ?_ ?_;rotate_left
       ·rintro W ⟨s2,s3⟩
        go_simp
        with_reducible rfl
       rotate_left
       ·simp only [Act.put,sA,sZ,sS,i64_w]
        rfl)
      iterate 12 (
       refine stillS_step (v:=undef) (a':= ?_) rfl (Or.inr ⟨by rfl,rfl⟩) ?_ ?_;rotate_left
       ·simp only [Act.put,sA,sZ,sS]
        rfl)
      iterate 1 (
       refine stillS_step (v:= ?_) (a':= ?_) rfl (Or.inl ⟨by rfl, ?_⟩) ?_ ?_;rotate_left
       ·rintro W ⟨s2,s3⟩
        go_simp
        with_reducible rfl
       rotate_left
       ·simp only [Act.put,sA,sZ,sS,i64_w]
        rfl)
      iterate 1 (
       refine stillS_step (v:= ?_) (a':= ?_) rfl (Or.inl ⟨by rfl, ?_⟩) ?_ ?_;rotate_left
       ·rintro W ⟨s2,s3⟩
        go_simp
        with_reducible rfl
       rotate_left
       ·simp only [Act.put,sA,sZ,sS,i64_w]
        rfl)
      refine stillS_nil ?_;refine done_ (by kernel_rfl) ?_;clear hHeld;go_wp2;go_roundw
      case rel=>exact ⟨k+1,by omega,by go_num,⟨fun i hi=>by rcases Nat.lt_or_ge i k with h | h;exact HJ.out i h;obtain rfl:i=k:=(by omega);rw [<-HXX.out,show inB x.cell 0 (cells - 1)=true from H1.out,show inB x.num 0 99=true from H2.out,decide_eq_true HK0.out,Bool.true_or];rfl⟩,HB7⟩
      case measure=>simp [intOf];omega
     ·have y0:decide (0 < k)=true:=decide_eq_true (by omega)
      have y0':decide ((0:Int) < (k:Int))=true:=decide_eq_true (by omega);have hk1:k - 1 < xs.length:=by omega
      obtain ⟨xp,hxp⟩:∃ x,x=putAt xs (k - 1):=⟨_,rfl⟩;have r0:=cellB HB.out (HC.out (k - 1) hk1).1;rw [<-hxp] at r0;have HXP:=am hxp;have HK0:=am hk0;have s0:(0:Int)<=(k:Int) - 1:=by omega
      have s1:(k:Int) - 1 < (xs.length:Int):=by omega
      have s4:((k:Int) - 1).toNat=k - 1:=by omega
      have s6:(1:Int)<=(k:Int):=by omega
      have s7:1<=k:=by omega
      have w2:wrap64 ((k:Int) - 1)=(k:Int) - 1:=by unfold wrap64;omega
      clear hxp hk1;by_cases hc:x.cell<=xp.cell
      ·have y1:decide (x.cell<=xp.cell)=true:=decide_eq_true hc
       have HC2:=am hc;clear hc hk0;go_wp2;refine st9 (n:=36) (S:=fun W=>W.cell? ⟨b,o+k*2,none⟩=some (.int .i64 x.cell)/\W.cell? ⟨b,o+k*2+1,none⟩=some (.int .i64 x.num)/\W.cell? ⟨b,o+(k - 1)*2,none⟩=some (.int .i64 xp.cell)) (ds:= []) (by kernel_rfl) rfl ⟨p0,p1,r0⟩ (fun hHeld=> ?_);have hb:=below_drew (Below.refl wr.heap.size wr);generalize wr.drew=w7 at hb hHeld ⊢;have HB7:=am (below_step HB.out hb);clear hb HB p0 p1 r0;refine ba9 (fuel:=29) (n:=7) [0,1,2,3,4,5,6] (by kernel_rfl) (fun N _ _ _ _ h=>by cases N <;> exact h) hHeld ?_
       iterate 7 (
        refine stillS_step (v:= ?_) (a':= ?_) rfl (Or.inl ⟨by rfl, ?_⟩) ?_ ?_;rotate_left
        ·rintro W ⟨s2,s3,s5⟩
         go_simp
         with_reducible rfl
        rotate_left
        ·simp only [Act.put,sA,sZ,sS,i64_w]
         rfl)
       refine stillS_nil ?_;refine on9 (i:=7) (N:=some 19) rfl rfl (by kernel_rfl) (by decide) (fun K hK=> ?_);refine goes_ Try.func50 (by kernel_rfl) rfl #[.int .i64 x.cell,.int .i64 0,.int .i64 (wrap64 (cells - 1))] (by rfl) rfl rfl (by (try simp only [List.map_toArray,List.map_cons,List.map_nil]);first | done | rfl) ?_;refine (l6In_calls x.cell 0 (wrap64 (cells - 1)) _).mono ?_;rw [w1,H1.out];rintro e wn ⟨rfl,rfl⟩;refine ⟨_,rfl, ?_⟩;refine hK.out _ _ hHeld (fun hHeld=> ?_);clear hK K;refine norm_ (a':= ?_) ?_ ?_;rotate_left
       ·show Act.put _ (some 19) _=_
        simp only [Act.put,sA,sZ,sS,i64_w];rfl
       refine ba9 (fuel:=21) (n:=7) [8,9,10,11,12,13,14] (by kernel_rfl) (fun N _ _ _ _ h=>by cases N <;> exact h) hHeld ?_
       iterate 2 (
        refine stillS_step (v:= ?_) (a':= ?_) rfl (Or.inl ⟨by rfl, ?_⟩) ?_ ?_;rotate_left
        ·rintro W ⟨s2,s3,s5⟩
         go_simp
         with_reducible rfl
        rotate_left
        ·simp only [Act.put,sA,sZ,sS,i64_w]
         rfl)
       iterate 5 (
        refine stillS_step (v:= ?_) (a':= ?_) rfl (Or.inl ⟨by rfl, ?_⟩) ?_ ?_;rotate_left
        ·rintro W ⟨s2,s3,s5⟩
         go_simp
         with_reducible rfl
        rotate_left
        ·simp only [Act.put,sA,sZ,sS,i64_w]
         rfl)
       refine stillS_nil ?_;refine on9 (i:=15) (N:=some 27) rfl rfl (by kernel_rfl) (by decide) (fun K hK=> ?_);refine goes_ Try.func50 (by kernel_rfl) rfl #[.int .i64 x.num,.int .i64 0,.int .i64 99] (by rfl) rfl rfl (by (try simp only [List.map_toArray,List.map_cons,List.map_nil]);first | done | rfl) ?_;refine (l6In_calls x.num 0 99 _).mono ?_;rw [H2.out];rintro e wn ⟨rfl,rfl⟩;refine ⟨_,rfl, ?_⟩;refine hK.out _ _ hHeld (fun hHeld=> ?_);clear hK K;refine norm_ (a':= ?_) ?_ ?_;rotate_left
       ·show Act.put _ (some 27) _=_
        simp only [Act.put,sA,sZ,sS,i64_w];rfl
       refine ba9 (fuel:=0) (n:=20) [16,17,18,19,20,21,22,23,24,25,26,27,28,29,30,31,32,33,34,35] (by kernel_rfl) (fun N _ _ _ _ h=>by cases N <;> exact h) hHeld ?_
       iterate 1 (
        refine stillS_step (v:= ?_) (a':= ?_) rfl (Or.inl ⟨by rfl, ?_⟩) ?_ ?_;rotate_left
        ·rintro W ⟨s2,s3,s5⟩
         go_simp
         with_reducible rfl
        rotate_left
        ·simp only [Act.put,sA,sZ,sS,i64_w]
         rfl)
       iterate 2 (
        refine stillS_step (v:= ?_) (a':= ?_) rfl (Or.inl ⟨by rfl, ?_⟩) ?_ ?_;rotate_left
        ·rintro W ⟨s2,s3,s5⟩
         go_simp
         with_reducible rfl
        rotate_left
        ·simp only [Act.put,sA,sZ,sS,i64_w]
         rfl)
       iterate 3 (
        refine stillS_step (v:= ?_) (a':= ?_) rfl (Or.inl ⟨by rfl, ?_⟩) ?_ ?_;rotate_left
        ·rintro W ⟨s2,s3,s5⟩
         go_simp
         with_reducible rfl
        rotate_left
        ·simp only [Act.put,sA,sZ,sS,i64_w]
         rfl)
       iterate 12 (
        refine stillS_step (v:= ?_) (a':= ?_) rfl (Or.inl ⟨by rfl, ?_⟩) ?_ ?_;rotate_left
        ·rintro W ⟨s2,s3,s5⟩
         go_simp
         with_reducible rfl
        rotate_left
        ·simp only [Act.put,sA,sZ,sS,i64_w]
         rfl)
       iterate 1 (
        refine stillS_step (v:= ?_) (a':= ?_) rfl (Or.inl ⟨by rfl, ?_⟩) ?_ ?_;rotate_left
        ·rintro W ⟨s2,s3,s5⟩
         go_simp
         with_reducible rfl
        rotate_left
        ·simp only [Act.put,sA,sZ,sS,i64_w]
         rfl)
       iterate 1 (
        refine stillS_step (v:= ?_) (a':= ?_) rfl (Or.inl ⟨by rfl, ?_⟩) ?_ ?_;rotate_left
        ·rintro W ⟨s2,s3,s5⟩
         go_simp
         with_reducible rfl
        rotate_left
        ·simp only [Act.put,sA,sZ,sS,i64_w]
         rfl)
       refine stillS_nil ?_;refine done_ (by kernel_rfl) ?_;clear hHeld;go_wp2;go_ret
       have hr:listOk xs cells=false:=by
        unfold listOk;exact allB_no hlt (by rw [<-HXX.out,<-HXP.out,decide_eq_false HK0.out,decide_eq_false (show ¬ xp.cell < x.cell from Int.not_lt.2 HC2.out),Bool.false_or,Bool.and_false])
       rw [hr];exact ⟨rfl,HB7.out⟩
      ·have y1:decide (x.cell<=xp.cell)=false:=decide_eq_false hc
       have HC2:=am (Int.not_le.1 hc);clear hc hk0;go_wp2;refine st9 (n:=36) (S:=fun W=>W.cell? ⟨b,o+k*2,none⟩=some (.int .i64 x.cell)/\W.cell? ⟨b,o+k*2+1,none⟩=some (.int .i64 x.num)/\W.cell? ⟨b,o+(k - 1)*2,none⟩=some (.int .i64 xp.cell)) (ds:= []) (by kernel_rfl) rfl ⟨p0,p1,r0⟩ (fun hHeld=> ?_);have hb:=below_drew (Below.refl wr.heap.size wr);generalize wr.drew=w7 at hb hHeld ⊢;have HB7:=am (below_step HB.out hb);clear hb HB p0 p1 r0;refine ba9 (fuel:=29) (n:=7) [0,1,2,3,4,5,6] (by kernel_rfl) (fun N _ _ _ _ h=>by cases N <;> exact h) hHeld ?_
       iterate 7 (
        refine stillS_step (v:= ?_) (a':= ?_) rfl (Or.inl ⟨by rfl, ?_⟩) ?_ ?_;rotate_left
        ·rintro W ⟨s2,s3,s5⟩
         go_simp
         with_reducible rfl
        rotate_left
        ·simp only [Act.put,sA,sZ,sS,i64_w]
         rfl)
       refine stillS_nil ?_;refine on9 (i:=7) (N:=some 19) rfl rfl (by kernel_rfl) (by decide) (fun K hK=> ?_);refine goes_ Try.func50 (by kernel_rfl) rfl #[.int .i64 x.cell,.int .i64 0,.int .i64 (wrap64 (cells - 1))] (by rfl) rfl rfl (by (try simp only [List.map_toArray,List.map_cons,List.map_nil]);first | done | rfl) ?_;refine (l6In_calls x.cell 0 (wrap64 (cells - 1)) _).mono ?_;rw [w1,H1.out];rintro e wn ⟨rfl,rfl⟩;refine ⟨_,rfl, ?_⟩;refine hK.out _ _ hHeld (fun hHeld=> ?_);clear hK K;refine norm_ (a':= ?_) ?_ ?_;rotate_left
       ·show Act.put _ (some 19) _=_
        simp only [Act.put,sA,sZ,sS,i64_w];rfl
       refine ba9 (fuel:=21) (n:=7) [8,9,10,11,12,13,14] (by kernel_rfl) (fun N _ _ _ _ h=>by cases N <;> exact h) hHeld ?_
       iterate 2 (
        refine stillS_step (v:= ?_) (a':= ?_) rfl (Or.inl ⟨by rfl, ?_⟩) ?_ ?_;rotate_left
        ·rintro W ⟨s2,s3,s5⟩
         go_simp
         with_reducible rfl
        rotate_left
        ·simp only [Act.put,sA,sZ,sS,i64_w]
         rfl)
       iterate 5 (
        refine stillS_step (v:= ?_) (a':= ?_) rfl (Or.inl ⟨by rfl, ?_⟩) ?_ ?_;rotate_left
        ·rintro W ⟨s2,s3,s5⟩
         go_simp
         with_reducible rfl
        rotate_left
        ·simp only [Act.put,sA,sZ,sS,i64_w]
         rfl)
       refine stillS_nil ?_;refine on9 (i:=15) (N:=some 27) rfl rfl (by kernel_rfl) (by decide) (fun K hK=> ?_);refine goes_ Try.func50 (by kernel_rfl) rfl #[.int .i64 x.num,.int .i64 0,.int .i64 99] (by rfl) rfl rfl (by (try simp only [List.map_toArray,List.map_cons,List.map_nil]);first | done | rfl) ?_;refine (l6In_calls x.num 0 99 _).mono ?_;rw [H2.out];rintro e wn ⟨rfl,rfl⟩;refine ⟨_,rfl, ?_⟩;refine hK.out _ _ hHeld (fun hHeld=> ?_);clear hK K;refine norm_ (a':= ?_) ?_ ?_;rotate_left
       ·show Act.put _ (some 27) _=_
        simp only [Act.put,sA,sZ,sS,i64_w];rfl
       refine ba9 (fuel:=0) (n:=20) [16,17,18,19,20,21,22,23,24,25,26,27,28,29,30,31,32,33,34,35] (by kernel_rfl) (fun N _ _ _ _ h=>by cases N <;> exact h) hHeld ?_
       iterate 1 (
        refine stillS_step (v:= ?_) (a':= ?_) rfl (Or.inl ⟨by rfl, ?_⟩) ?_ ?_;rotate_left
        ·rintro W ⟨s2,s3,s5⟩
         go_simp
         with_reducible rfl
        rotate_left
        ·simp only [Act.put,sA,sZ,sS,i64_w]
         rfl)
       iterate 2 (
        refine stillS_step (v:= ?_) (a':= ?_) rfl (Or.inl ⟨by rfl, ?_⟩) ?_ ?_;rotate_left
        ·rintro W ⟨s2,s3,s5⟩
         go_simp
         with_reducible rfl
        rotate_left
        ·simp only [Act.put,sA,sZ,sS,i64_w]
         rfl)
       iterate 3 (
        refine stillS_step (v:= ?_) (a':= ?_) rfl (Or.inl ⟨by rfl, ?_⟩) ?_ ?_;rotate_left
        ·rintro W ⟨s2,s3,s5⟩
         go_simp
         with_reducible rfl
        rotate_left
        ·simp only [Act.put,sA,sZ,sS,i64_w]
         rfl)
       iterate 12 (
        refine stillS_step (v:= ?_) (a':= ?_) rfl (Or.inl ⟨by rfl, ?_⟩) ?_ ?_;rotate_left
        ·rintro W ⟨s2,s3,s5⟩
         go_simp
         with_reducible rfl
        rotate_left
        ·simp only [Act.put,sA,sZ,sS,i64_w]
         rfl)
       iterate 1 (
        refine stillS_step (v:= ?_) (a':= ?_) rfl (Or.inl ⟨by rfl, ?_⟩) ?_ ?_;rotate_left
        ·rintro W ⟨s2,s3,s5⟩
         go_simp
         with_reducible rfl
        rotate_left
        ·simp only [Act.put,sA,sZ,sS,i64_w]
         rfl)
       iterate 1 (
        refine stillS_step (v:= ?_) (a':= ?_) rfl (Or.inl ⟨by rfl, ?_⟩) ?_ ?_;rotate_left
        ·rintro W ⟨s2,s3,s5⟩
         go_simp
         with_reducible rfl
        rotate_left
        ·simp only [Act.put,sA,sZ,sS,i64_w]
         rfl)
       refine stillS_nil ?_;refine done_ (by kernel_rfl) ?_;clear hHeld;go_wp2;go_roundw
       case rel=>exact ⟨k+1,by omega,by go_num,⟨fun i hi=>by rcases Nat.lt_or_ge i k with h | h;exact HJ.out i h;obtain rfl:i=k:=(by omega);rw [<-HXX.out,show inB x.cell 0 (cells - 1)=true from H1.out,show inB x.num 0 99=true from H2.out,<-HXP.out,decide_eq_true HC2.out,Bool.or_true];rfl⟩,HB7⟩
       case measure=>simp [intOf];omega
  ·obtain rfl:k=xs.length:=by omega
   go_wp2;go_ret
   have hr:listOk xs cells=true:=by
    unfold listOk;exact allB_iff.2 HJ.out
   rw [hr];exact ⟨rfl,HB.out⟩
theorem l2Nums_calls (A:Option Addr) (c:Nat) (ks:List Int) (size:Int) (w:World) (hx:(Kd.int .i64).C w A ks.length ks) (hn:ks.length<=1048576):
  Calls Try.prog 91 #[.slice A ks.length c,.int .i64 size] w fun e w'=>e= .returned (.bool (numsOk ks size))/\w=w':=by
 have HX:=am hx;clear hx;go_enter Try.func91,Try.ntmps91;go_wp2;go_loopw [5] (fun j w'=>∃ k:Nat,k<=ks.length/\j= .int .i64 k/\Aside0 (∀ i,i < k->inB (numAt ks i) 0 99=true)/\w=w') (fun j _=>ks.length - (intOf j).toNat)
 case atStart=>exact ⟨0,Nat.zero_le _,rfl,⟨fun i hi=>by omega⟩,rfl⟩
 case round=>
  obtain ⟨k,hk,rfl,HJ,rfl⟩:=hrel;by_cases hlt:k < ks.length
  ·have q0:(0:Int)<=(k:Int):=by omega
   have q1:(k:Int) < (ks.length:Int):=by omega
   obtain ⟨ad,rfl,gx⟩:=Kd.at_int HX.out (k:Int) q0 q1;simp only [Int.toNat_natCast] at gx;obtain ⟨x,hxx⟩:∃ x,x=numAt ks k:=⟨_,rfl⟩;rw [show rd ks (k:Int)=x from hxx.symm] at gx;have HXX:=am hxx;clear hxx
   cases hb:inB x 0 99 with
   | true=>
    have HI:Aside0 ((decide ((0:Int)<=x) && decide (x<=99))=true):=⟨hb⟩;clear hb;go_wp2_with (first|(go_at_call 50;refine (l6In_calls _ _ _ _).mono ?_;(first|rw [HI.out]);rintro e w9 ⟨rfl,rfl⟩))
    go_roundw
    case rel=>exact ⟨k+1,by omega,by go_num,⟨fun i hi=>by rcases Nat.lt_or_ge i k with h | h;exact HJ.out i h;obtain rfl:i=k:=(by omega);rw [<-HXX.out];exact HI.out⟩,trivial⟩
    case measure=>simp [intOf];omega
   | false=>
    have HI:Aside0 ((decide ((0:Int)<=x) && decide (x<=99))=false):=⟨hb⟩;clear hb;go_wp2_with (first|(go_at_call 50;refine (l6In_calls _ _ _ _).mono ?_;(first|rw [HI.out]);rintro e w9 ⟨rfl,rfl⟩))
    go_ret
    have hr:numsOk ks size=false:=by
     unfold numsOk;rw [allB_no hlt (by rw [<-HXX.out];exact HI.out),Bool.false_and]
    rw [hr];exact ⟨rfl,rfl⟩
  ·obtain rfl:k=ks.length:=by omega
   go_wp2;go_ret
   have hr:numsOk ks size=((ks.length:Int) == size):=by
    unfold numsOk;rw [allB_iff.2 HJ.out,Bool.true_and];rw [Bool.eq_iff_iff];simp
   rw [hr];exact ⟨rfl,rfl⟩
theorem l12Holds_calls (t:Task) (cs:List Value) (cell:Int) (w:World) (hx:kTask.K w t cs) (hpn:t.puts.length<=1048576):
  Calls Try.prog 96 #[.agg cs.toArray,.int .i64 cell] w fun e w'=>e= .returned (.bool (holds t cell))/\Below w.heap.size w w':=by
 obtain ⟨B3,d3,B8,d8,B9,d9,B10,d10,rfl,-,-,-,-,-,-,-,g10⟩:=kTask_open hx;have C10:=am g10;clear hx g10;go_enter Try.func96,Try.ntmps96
 cases hfd:findP t.puts cell with
 | none=>
  have HF:=am hfd;have HFD:Aside0 (placeOf (findP t.puts cell)= -1):=⟨by rw [hfd];rfl⟩;clear hfd
  go_wp2_with (first
  |((with_reducible refine gate_dst (N:=2) rfl ?_);refine box_event rfl (N:=2) rfl (t:=38) (by go_simp<;>rfl) ?_;intro gt hg w2 hbox hb;have BT:=am hbox;have HB:=am hb;have BTc:=zc8 BT.out;clear hbox hb hg)
  |(go_at_call 126;refine (l11Find_calls B10 d10 t.puts cell _ (Kd.C_below C10.out HB.out) hpn).mono ?_;rw [HFD.out];rintro e w9 ⟨rfl,rfl⟩))
  go_ret
  have hr:holds t cell=false:=by
   unfold holds;rw [HF.out]
  rw [hr]
  exact ⟨rfl,HB.out⟩
 | some kp=>
  have HO:Aside0 (holds t cell=if t.stage=2 then decide ((kp:Int) < t.at_) else if t.stage=3\/t.stage=4 then true else if t.stage=5 then decide (t.at_<=(kp:Int)) else false):=⟨by unfold holds;rw [hfd]⟩;have HFD:Aside0 (placeOf (findP t.puts cell)=(kp:Int)):=⟨by rw [hfd];rfl⟩;clear hfd;by_cases s2:t.stage=2
  ·have y2:(t.stage == 2)=true:=by simp [s2]
   have S2:=am s2;clear s2
   go_wp2_with (first
   |((with_reducible refine gate_dst (N:=2) rfl ?_);refine box_event rfl (N:=2) rfl (t:=38) (by go_simp<;>rfl) ?_;intro gt hg w2 hbox hb;have BT:=am hbox;have HB:=am hb;have BTc:=zc8 BT.out;clear hbox hb hg)
   |(go_at_call 126;refine (l11Find_calls B10 d10 t.puts cell _ (Kd.C_below C10.out HB.out) hpn).mono ?_;rw [HFD.out];rintro e w9 ⟨rfl,rfl⟩))
   go_ret
   have hr:holds t cell=decide ((kp:Int) < t.at_):=by
    rw [HO.out];rw [if_pos S2.out]
   rw [hr];exact ⟨rfl,HB.out⟩
  ·have y2:(t.stage == 2)=false:=by simp [s2]
   have S2:=am s2;clear s2;by_cases s3:t.stage=3
   ·have y3:(t.stage == 3)=true:=by simp [s3]
    have S3:=am s3;clear s3
    go_wp2_with (first
    |((with_reducible refine gate_dst (N:=2) rfl ?_);refine box_event rfl (N:=2) rfl (t:=38) (by go_simp<;>rfl) ?_;intro gt hg w2 hbox hb;have BT:=am hbox;have HB:=am hb;have BTc:=zc8 BT.out;clear hbox hb hg)
    |(go_at_call 126;refine (l11Find_calls B10 d10 t.puts cell _ (Kd.C_below C10.out HB.out) hpn).mono ?_;rw [HFD.out];rintro e w9 ⟨rfl,rfl⟩))
    go_ret
    have hr:holds t cell=true:=by
     rw [HO.out];rw [if_neg S2.out,if_pos (.inl S3.out)]
    rw [hr];exact ⟨rfl,HB.out⟩
   ·have y3:(t.stage == 3)=false:=by simp [s3]
    have S3:=am s3;clear s3;by_cases s4:t.stage=4
    ·have y4:(t.stage == 4)=true:=by simp [s4]
     have S4:=am s4;clear s4
     go_wp2_with (first
     |((with_reducible refine gate_dst (N:=2) rfl ?_);refine box_event rfl (N:=2) rfl (t:=38) (by go_simp<;>rfl) ?_;intro gt hg w2 hbox hb;have BT:=am hbox;have HB:=am hb;have BTc:=zc8 BT.out;clear hbox hb hg)
     |(go_at_call 126;refine (l11Find_calls B10 d10 t.puts cell _ (Kd.C_below C10.out HB.out) hpn).mono ?_;rw [HFD.out];rintro e w9 ⟨rfl,rfl⟩))
     go_ret
     have hr:holds t cell=true:=by
      rw [HO.out];rw [if_neg S2.out,if_pos (.inr S4.out)]
     rw [hr];exact ⟨rfl,HB.out⟩
    ·have y4:(t.stage == 4)=false:=by simp [s4]
     have S4:=am s4;clear s4;by_cases s5:t.stage=5
     ·have y5:(t.stage == 5)=true:=by simp [s5]
      have S5:=am s5;clear s5
      go_wp2_with (first
      |((with_reducible refine gate_dst (N:=2) rfl ?_);refine box_event rfl (N:=2) rfl (t:=38) (by go_simp<;>rfl) ?_;intro gt hg w2 hbox hb;have BT:=am hbox;have HB:=am hb;have BTc:=zc8 BT.out;clear hbox hb hg)
      |(go_at_call 126;refine (l11Find_calls B10 d10 t.puts cell _ (Kd.C_below C10.out HB.out) hpn).mono ?_;rw [HFD.out];rintro e w9 ⟨rfl,rfl⟩))
      go_ret
      have hr:holds t cell=decide (t.at_<=(kp:Int)):=by
       rw [HO.out];rw [if_neg S2.out,if_neg (fun h=>h.elim S3.out S4.out),if_pos S5.out]
      rw [hr];exact ⟨rfl,HB.out⟩
     ·have y5:(t.stage == 5)=false:=by simp [s5]
      have S5:=am s5;clear s5
      go_wp2_with (first
      |((with_reducible refine gate_dst (N:=2) rfl ?_);refine box_event rfl (N:=2) rfl (t:=38) (by go_simp<;>rfl) ?_;intro gt hg w2 hbox hb;have BT:=am hbox;have HB:=am hb;have BTc:=zc8 BT.out;clear hbox hb hg)
      |(go_at_call 126;refine (l11Find_calls B10 d10 t.puts cell _ (Kd.C_below C10.out HB.out) hpn).mono ?_;rw [HFD.out];rintro e w9 ⟨rfl,rfl⟩))
      go_ret
      have hr:holds t cell=false:=by
       rw [HO.out];rw [if_neg S2.out,if_neg (fun h=>h.elim S3.out S4.out),if_neg S5.out]
      rw [hr];exact ⟨rfl,HB.out⟩
theorem l12At_calls (t:Task) (cs:List Value) (deeds:Int) (w:World) (hx:kTask.K w t cs) (hrn:t.reads.length<=1048576) (hpn:t.puts.length<=1048576):
  Calls Try.prog 124 #[.agg cs.toArray,.int .i64 deeds] w fun e w'=>e= .returned (.bool (stOk t deeds))/\Below w.heap.size w w':=by
 obtain ⟨B3,d3,B8,d8,B9,d9,B10,d10,rfl,-⟩:=kTask_open hx;clear hx;go_enter Try.func124,Try.ntmps124;by_cases s0:t.stage=0
 ·have y0:(t.stage == 0)=true:=by simp [s0]
  have S0:=am s0;clear s0;by_cases za:t.at_=0
  ·have y_za:(t.at_ == 0)=true:=by simp [za]
   have Zza:=am za;clear za
   go_wp2_with (first
   |((with_reducible refine gate_dst (N:=2) rfl ?_);refine box_event rfl (N:=2) rfl (t:=38) (by go_simp<;>rfl) ?_;intro gt hg w2 hbox hb;have BT:=am hbox;have HB:=am hb;have BTc:=zc8 BT.out;clear hbox hb hg))
   go_ret
   have hr:stOk t deeds=((t.reads.length:Int)+(t.puts.length:Int) == 0):=by
    unfold stOk;rw [if_pos S0.out];rw [decide_eq_true Zza.out,Bool.true_and,Bool.eq_iff_iff,decide_eq_true_eq,beq_iff_eq];omega
   rw [hr];exact ⟨rfl,HB.out⟩
  ·have y_za:(t.at_ == 0)=false:=by simp [za]
   have Zza:=am za;clear za
   go_wp2_with (first
   |((with_reducible refine gate_dst (N:=2) rfl ?_);refine box_event rfl (N:=2) rfl (t:=38) (by go_simp<;>rfl) ?_;intro gt hg w2 hbox hb;have BT:=am hbox;have HB:=am hb;have BTc:=zc8 BT.out;clear hbox hb hg))
   go_ret
   have hr:stOk t deeds=false:=by
    unfold stOk;rw [if_pos S0.out];rw [decide_eq_false Zza.out,Bool.false_and]
   rw [hr];exact ⟨rfl,HB.out⟩
 ·have y0:(t.stage == 0)=false:=by simp [s0]
  have S0:=am s0;clear s0;by_cases s1:t.stage=1
  ·have y1:(t.stage == 1)=true:=by simp [s1]
   have S1:=am s1;clear s1;obtain ⟨bHI,hbHI⟩:∃ b,inB t.at_ 0 deeds=b:=⟨_,rfl⟩;have HI:Aside0 ((decide ((0:Int)<=t.at_) && decide (t.at_<=deeds))=bHI):=⟨hbHI⟩;clear hbHI
   go_wp2_with (first
   |((with_reducible refine gate_dst (N:=2) rfl ?_);refine box_event rfl (N:=2) rfl (t:=38) (by go_simp<;>rfl) ?_;intro gt hg w2 hbox hb;have BT:=am hbox;have HB:=am hb;have BTc:=zc8 BT.out;clear hbox hb hg)
   |(go_at_call 50;refine (l6In_calls _ _ _ _).mono ?_;(first|rw [HI.out]);rintro e w9 ⟨rfl,rfl⟩))
   go_ret
   have hr:stOk t deeds=bHI:=by
    unfold stOk;rw [if_neg S0.out,if_pos S1.out];exact HI.out
   rw [hr];exact ⟨rfl,HB.out⟩
  ·have y1:(t.stage == 1)=false:=by simp [s1]
   have S1:=am s1;clear s1;by_cases s3:t.stage=3
   ·have y3:(t.stage == 3)=true:=by simp [s3]
    have S3:=am s3;clear s3;by_cases za:t.at_=0
    ·have y_za:(t.at_ == 0)=true:=by simp [za]
     have Zza:=am za;clear za
     go_wp2_with (first
     |((with_reducible refine gate_dst (N:=2) rfl ?_);refine box_event rfl (N:=2) rfl (t:=38) (by go_simp<;>rfl) ?_;intro gt hg w2 hbox hb;have BT:=am hbox;have HB:=am hb;have BTc:=zc8 BT.out;clear hbox hb hg))
     go_ret
     have hr:stOk t deeds=decide (0 < t.puts.length):=by
      unfold stOk;rw [if_neg S0.out,if_neg S1.out,if_pos S3.out];rw [decide_eq_true Zza.out,Bool.true_and]
     rw [hr];exact ⟨rfl,HB.out⟩
    ·have y_za:(t.at_ == 0)=false:=by simp [za]
     have Zza:=am za;clear za
     go_wp2_with (first
     |((with_reducible refine gate_dst (N:=2) rfl ?_);refine box_event rfl (N:=2) rfl (t:=38) (by go_simp<;>rfl) ?_;intro gt hg w2 hbox hb;have BT:=am hbox;have HB:=am hb;have BTc:=zc8 BT.out;clear hbox hb hg))
     go_ret
     have hr:stOk t deeds=false:=by
      unfold stOk;rw [if_neg S0.out,if_neg S1.out,if_pos S3.out];rw [decide_eq_false Zza.out,Bool.false_and]
     rw [hr];exact ⟨rfl,HB.out⟩
   ·have y3:(t.stage == 3)=false:=by simp [s3]
    have S3:=am s3;clear s3;by_cases s4:t.stage=4
    ·have y4:(t.stage == 4)=true:=by simp [s4]
     have S4:=am s4;clear s4;obtain ⟨bHI,hbHI⟩:∃ b,inB t.at_ 0 (t.reads.length:Int)=b:=⟨_,rfl⟩;have HI:Aside0 ((decide ((0:Int)<=t.at_) && decide (t.at_<=(t.reads.length:Int)))=bHI):=⟨hbHI⟩;clear hbHI
     cases bHI with
     | false=>
      go_wp2_with (first
      |((with_reducible refine gate_dst (N:=2) rfl ?_);refine box_event rfl (N:=2) rfl (t:=38) (by go_simp<;>rfl) ?_;intro gt hg w2 hbox hb;have BT:=am hbox;have HB:=am hb;have BTc:=zc8 BT.out;clear hbox hb hg)
      |(go_at_call 50;refine (l6In_calls _ _ _ _).mono ?_;(first|rw [HI.out]);rintro e w9 ⟨rfl,rfl⟩))
      go_ret
      have hr:stOk t deeds=false:=by
       unfold stOk;rw [if_neg S0.out,if_neg S1.out,if_neg S3.out,if_pos S4.out];rw [show inB t.at_ 0 (t.reads.length:Int)=false from HI.out,Bool.false_and]
      rw [hr]
      exact ⟨rfl,HB.out⟩
     | true=>
      go_wp2_with (first
      |((with_reducible refine gate_dst (N:=2) rfl ?_);refine box_event rfl (N:=2) rfl (t:=38) (by go_simp<;>rfl) ?_;intro gt hg w2 hbox hb;have BT:=am hbox;have HB:=am hb;have BTc:=zc8 BT.out;clear hbox hb hg)
      |(go_at_call 50;refine (l6In_calls _ _ _ _).mono ?_;(first|rw [HI.out]);rintro e w9 ⟨rfl,rfl⟩))
      go_ret
      have hr:stOk t deeds=decide (0 < t.puts.length):=by
       unfold stOk;rw [if_neg S0.out,if_neg S1.out,if_neg S3.out,if_pos S4.out];rw [show inB t.at_ 0 (t.reads.length:Int)=true from HI.out,Bool.true_and]
      rw [hr];exact ⟨rfl,HB.out⟩
    ·have y4:(t.stage == 4)=false:=by simp [s4]
     have S4:=am s4;clear s4;obtain ⟨bHI,hbHI⟩:∃ b,inB t.at_ 0 ((t.puts.length:Int) - 1)=b:=⟨_,rfl⟩;have HI:Aside0 ((decide ((0:Int)<=t.at_) && decide (t.at_<=((t.puts.length:Int) - 1)))=bHI):=⟨hbHI⟩;clear hbHI
     go_wp2_with (first
     |((with_reducible refine gate_dst (N:=2) rfl ?_);refine box_event rfl (N:=2) rfl (t:=38) (by go_simp<;>rfl) ?_;intro gt hg w2 hbox hb;have BT:=am hbox;have HB:=am hb;have BTc:=zc8 BT.out;clear hbox hb hg)
     |(go_at_call 50;refine (l6In_calls _ _ _ _).mono ?_;(first|rw [HI.out]);rintro e w9 ⟨rfl,rfl⟩))
     go_ret
     have hr:stOk t deeds=bHI:=by
      unfold stOk;rw [if_neg S0.out,if_neg S1.out,if_neg S3.out,if_neg S4.out];exact HI.out
     rw [hr];exact ⟨rfl,HB.out⟩
theorem l12Times_calls (t:Task) (s:Sys) (cs ss:List Value) (w:World) (hx:kTask.K w t cs) (hs:kSys.K w s ss) (hc0:0<=s.clock) (hc1:s.clock<=200) (hl:s.log.length<=1048576):
  Calls Try.prog 93 #[.agg cs.toArray,.agg ss.toArray] w fun e w'=>e= .returned (.bool (timesOk t s))/\Below w.heap.size w w':=by
 obtain ⟨B3,d3,B8,d8,B9,d9,B10,d10,rfl,-⟩:=kTask_open hx;obtain ⟨A0,c0,A1,c1,A3,c3,rfl,-⟩:=kSys_open hs;clear hx hs;go_enter Try.func93,Try.ntmps93;obtain ⟨bH1,hbH1⟩:∃ b,inB t.since 0 s.clock=b:=⟨_,rfl⟩;have H1:Aside0 ((decide ((0:Int)<=t.since) && decide (t.since<=s.clock))=bH1):=⟨hbH1⟩;clear hbH1
 cases hx1:bH1 with
 | false=>
  subst hx1
  go_wp2_with (first
  |((with_reducible refine gate_dst (N:=2) rfl ?_);refine box_event rfl (N:=2) rfl (t:=38) (by go_simp<;>rfl) ?_;intro gt hg w2 hbox hb;have BT:=am hbox;have HB:=am hb;have BTc:=zc8 BT.out;clear hbox hb hg)
  |((with_reducible refine gate_dst (N:=3) rfl ?_);refine box_event rfl (N:=3) rfl (t:=27) (by go_simp<;>rfl) ?_;intro gs hg w3 hbox hb;have BS:=am hbox;replace HB:=am (below_step HB.out hb);replace BT:=am (zb8 BT.out hb);clear BTc hbox hb hg;have BTc:=zc8 BT.out;have BSc:=zc8 BS.out)
  |(go_at_call 50;refine (l6In_calls _ _ _ _).mono ?_;(first|rw [H1.out]);rintro e w9 ⟨rfl,rfl⟩))
  go_ret
  have hr:timesOk t s=false:=by
   unfold timesOk;rw [show inB t.since 0 s.clock=false from H1.out,Bool.false_and,Bool.false_and]
  rw [hr]
  exact ⟨rfl,HB.out⟩
 | true=>
  subst hx1;have hs01:=inB_iff.1 (show inB t.since 0 s.clock=true from H1.out);have hsA:=hs01.1;have hsB:=hs01.2;clear hs01;obtain ⟨bH2,hbH2⟩:∃ b,inB t.from_ 0 (s.log.length:Int)=b:=⟨_,rfl⟩;have H2:Aside0 ((decide ((0:Int)<=t.from_) && decide (t.from_<=(s.log.length:Int)))=bH2):=⟨hbH2⟩;clear hbH2
  cases hx2:bH2 with
  | false=>
   subst hx2
   go_wp2_with (first
   |((with_reducible refine gate_dst (N:=2) rfl ?_);refine box_event rfl (N:=2) rfl (t:=38) (by go_simp<;>rfl) ?_;intro gt hg w2 hbox hb;have BT:=am hbox;have HB:=am hb;have BTc:=zc8 BT.out;clear hbox hb hg)
   |((with_reducible refine gate_dst (N:=3) rfl ?_);refine box_event rfl (N:=3) rfl (t:=27) (by go_simp<;>rfl) ?_;intro gs hg w3 hbox hb;have BS:=am hbox;replace HB:=am (below_step HB.out hb);replace BT:=am (zb8 BT.out hb);clear BTc hbox hb hg;have BTc:=zc8 BT.out;have BSc:=zc8 BS.out)
   |(go_at_call 50;refine (l6In_calls _ _ _ _).mono ?_;(first|rw [H1.out] | rw [H2.out]);rintro e w9 ⟨rfl,rfl⟩))
   go_ret
   have hr:timesOk t s=false:=by
    unfold timesOk;rw [show inB t.from_ 0 (s.log.length:Int)=false from H2.out,Bool.and_false,Bool.false_and]
   rw [hr]
   exact ⟨rfl,HB.out⟩
  | true=>
   subst hx2;by_cases s0:t.stage=0
   ·have y0:(t.stage == 0)=true:=by simp [s0]
    have S0:=am s0;clear s0;obtain ⟨bHI,hbHI⟩:∃ b,inB t.when_ 0 (s.clock+1)=b:=⟨_,rfl⟩;have HI:Aside0 ((decide ((0:Int)<=t.when_) && decide (t.when_<=(s.clock+1)))=bHI):=⟨hbHI⟩;clear hbHI
    go_wp2_with (first
    |((with_reducible refine gate_dst (N:=2) rfl ?_);refine box_event rfl (N:=2) rfl (t:=38) (by go_simp<;>rfl) ?_;intro gt hg w2 hbox hb;have BT:=am hbox;have HB:=am hb;have BTc:=zc8 BT.out;clear hbox hb hg)
    |((with_reducible refine gate_dst (N:=3) rfl ?_);refine box_event rfl (N:=3) rfl (t:=27) (by go_simp<;>rfl) ?_;intro gs hg w3 hbox hb;have BS:=am hbox;replace HB:=am (below_step HB.out hb);replace BT:=am (zb8 BT.out hb);clear BTc hbox hb hg;have BTc:=zc8 BT.out;have BSc:=zc8 BS.out)
    |(go_at_call 50;refine (l6In_calls _ _ _ _).mono ?_;(first|rw [H1.out] | rw [H2.out] | rw [HI.out]);rintro e w9 ⟨rfl,rfl⟩))
    go_ret
    have hr:timesOk t s=bHI:=by
     unfold timesOk;rw [show inB t.since 0 s.clock=true from H1.out,show inB t.from_ 0 (s.log.length:Int)=true from H2.out,Bool.true_and,Bool.true_and];rw [if_pos S0.out];exact HI.out
    rw [hr];exact ⟨rfl,HB.out⟩
   ·have y0:(t.stage == 0)=false:=by simp [s0]
    have S0:=am s0;clear s0;by_cases s4:t.stage=4
    ·have y4:(t.stage == 4)=true:=by simp [s4]
     have S4:=am s4;clear s4;obtain ⟨bHI,hbHI⟩:∃ b,inB t.when_ (t.since+1) s.clock=b:=⟨_,rfl⟩;have HI:Aside0 ((decide (((t.since+1):Int)<=t.when_) && decide (t.when_<=s.clock))=bHI):=⟨hbHI⟩;clear hbHI
     go_wp2_with (first
     |((with_reducible refine gate_dst (N:=2) rfl ?_);refine box_event rfl (N:=2) rfl (t:=38) (by go_simp<;>rfl) ?_;intro gt hg w2 hbox hb;have BT:=am hbox;have HB:=am hb;have BTc:=zc8 BT.out;clear hbox hb hg)
     |((with_reducible refine gate_dst (N:=3) rfl ?_);refine box_event rfl (N:=3) rfl (t:=27) (by go_simp<;>rfl) ?_;intro gs hg w3 hbox hb;have BS:=am hbox;replace HB:=am (below_step HB.out hb);replace BT:=am (zb8 BT.out hb);clear BTc hbox hb hg;have BTc:=zc8 BT.out;have BSc:=zc8 BS.out)
     |(go_at_call 50;refine (l6In_calls _ _ _ _).mono ?_;(first|rw [H1.out] | rw [H2.out] | rw [HI.out]);rintro e w9 ⟨rfl,rfl⟩))
     go_ret
     have hr:timesOk t s=bHI:=by
      unfold timesOk;rw [show inB t.since 0 s.clock=true from H1.out,show inB t.from_ 0 (s.log.length:Int)=true from H2.out,Bool.true_and,Bool.true_and];rw [if_neg S0.out,if_pos (.inl S4.out)];exact HI.out
     rw [hr];exact ⟨rfl,HB.out⟩
    ·have y4:(t.stage == 4)=false:=by simp [s4]
     have S4:=am s4;clear s4;by_cases s5:t.stage=5
     ·have y5:(t.stage == 5)=true:=by simp [s5]
      have S5:=am s5;clear s5;obtain ⟨bHI,hbHI⟩:∃ b,inB t.when_ (t.since+1) s.clock=b:=⟨_,rfl⟩;have HI:Aside0 ((decide (((t.since+1):Int)<=t.when_) && decide (t.when_<=s.clock))=bHI):=⟨hbHI⟩;clear hbHI
      go_wp2_with (first
      |((with_reducible refine gate_dst (N:=2) rfl ?_);refine box_event rfl (N:=2) rfl (t:=38) (by go_simp<;>rfl) ?_;intro gt hg w2 hbox hb;have BT:=am hbox;have HB:=am hb;have BTc:=zc8 BT.out;clear hbox hb hg)
      |((with_reducible refine gate_dst (N:=3) rfl ?_);refine box_event rfl (N:=3) rfl (t:=27) (by go_simp<;>rfl) ?_;intro gs hg w3 hbox hb;have BS:=am hbox;replace HB:=am (below_step HB.out hb);replace BT:=am (zb8 BT.out hb);clear BTc hbox hb hg;have BTc:=zc8 BT.out;have BSc:=zc8 BS.out)
      |(go_at_call 50;refine (l6In_calls _ _ _ _).mono ?_;(first|rw [H1.out] | rw [H2.out] | rw [HI.out]);rintro e w9 ⟨rfl,rfl⟩))
      go_ret
      have hr:timesOk t s=bHI:=by
       unfold timesOk;rw [show inB t.since 0 s.clock=true from H1.out,show inB t.from_ 0 (s.log.length:Int)=true from H2.out,Bool.true_and,Bool.true_and];rw [if_neg S0.out,if_pos (.inr S5.out)];exact HI.out
      rw [hr];exact ⟨rfl,HB.out⟩
     ·have y5:(t.stage == 5)=false:=by simp [s5]
      have S5:=am s5;clear s5;have HI:=H1
      go_wp2_with (first
      |((with_reducible refine gate_dst (N:=2) rfl ?_);refine box_event rfl (N:=2) rfl (t:=38) (by go_simp<;>rfl) ?_;intro gt hg w2 hbox hb;have BT:=am hbox;have HB:=am hb;have BTc:=zc8 BT.out;clear hbox hb hg)
      |((with_reducible refine gate_dst (N:=3) rfl ?_);refine box_event rfl (N:=3) rfl (t:=27) (by go_simp<;>rfl) ?_;intro gs hg w3 hbox hb;have BS:=am hbox;replace HB:=am (below_step HB.out hb);replace BT:=am (zb8 BT.out hb);clear BTc hbox hb hg;have BTc:=zc8 BT.out;have BSc:=zc8 BS.out)
      |(go_at_call 50;refine (l6In_calls _ _ _ _).mono ?_;(first|rw [H1.out] | rw [H2.out] | rw [HI.out]);rintro e w9 ⟨rfl,rfl⟩))
      go_ret
      have hr:timesOk t s=(t.when_ == 0):=by
       unfold timesOk;rw [show inB t.since 0 s.clock=true from H1.out,show inB t.from_ 0 (s.log.length:Int)=true from H2.out,Bool.true_and,Bool.true_and];rw [if_neg S0.out,if_neg (fun h=>h.elim S4.out S5.out),Bool.eq_iff_iff,decide_eq_true_eq,beq_iff_eq]
      rw [hr];exact ⟨rfl,HB.out⟩
theorem l12Up_calls (s:Sys) (ss:List Value) (i:Nat) (w:World) (hs:kSys.K w s ss) (hi:i < s.tasks.length) (hn:s.tasks.length<=1048576):
  Calls Try.prog 94 #[.agg ss.toArray,.int .i64 i] w fun e w'=>e= .returned (.bool (upsOk s i))/\Below w.heap.size w w':=by
 obtain ⟨A0,c0,A1,c1,A3,c3,rfl,-,-,-,g1,-⟩:=kSys_open hs;have G1:=am g1;obtain ⟨b,o,cs,rfl,hcl,hK,hcc,-⟩:=C_field g1 zTask i hi (by decide);obtain ⟨t,ht⟩:∃ x,x=taskAt s.tasks i:=⟨_,rfl⟩;rw [show s.tasks.getD i zTask=t from ht.symm] at hK;obtain ⟨B3,d3,B8,d8,B9,d9,B10,d10,rfl,-⟩:=kTask_open hK;have HCC:=am hcc;have q0:(0:Int)<=(i:Int):=by omega
 have q1:(i:Int) < (s.tasks.length:Int):=by omega
 have HU:Aside0 (upsOk s i=if i=0 then decide (t.up= -1) else inB t.up 0 (i - 1) && (!isLive t || decide ((taskAt s.tasks t.up.toNat).way=1))):=⟨by rw [ht];rfl⟩;clear hs g1 hcl hK hcc ht;go_enter Try.func94,Try.ntmps94;by_cases h0:i=0
 ·have y0:((i:Int) == 0)=true:=by simp [h0]
  have y0':(i == 0)=true:=by simp [h0]
  have H0:=am h0;clear h0
  go_wp2_with (first
  |((with_reducible refine gate_dst (N:=2) rfl ?_);refine box_event rfl (N:=2) rfl (t:=27) (by go_simp<;>rfl) ?_;intro gs hg w2 hbox hb;have BS:=am hbox;have HB:=am hb;have BSc:=zc8 BS.out;clear hbox hb hg)
  |((with_reducible refine gate_dst (N:=11) rfl ?_);refine wpList_load_mid rfl 38 (.tmp 10) rfl b (o+i*13) rfl _ _ (fun j u hu=>cellB HB.out (HCC.out j u hu)) Try.underlying38 rfl (by kernel_rfl) ?_)|((with_reducible refine gate_dst (N:=5) rfl ?_);refine box_event rfl (N:=5) rfl (t:=38) (by go_simp<;>rfl) ?_;intro gt hg wt hbox hb;have BT0:=am hbox;have GT:=am hg;have HBT:=am hb;clear hbox hb hg)|((with_reducible refine gate_store (t:=38) (p:=5) rfl ?_);refine store_block rfl rfl 38 (.tmp 5) (.tmp 11) rfl rfl rfl BT0.out rfl (by kernel_rfl) (aB rfl) ?_;intro wn hbox hg;have BT:=am hbox;have hbx:=pw_below_grown HBT.out _ HBT.out.size hg (fun z hz=>by cases hz;exact Nat.le_of_eq GT.out.symm);replace BS:=am (zb8 BS.out hbx);replace HB:=am (below_step HB.out hbx);clear BSc BT0 HBT hbx hbox hg;have BSc:=zc8 BS.out;have BTc:=zc8 BT.out))
  go_ret
  have hr:upsOk s i=(t.up == -1):=by
   rw [HU.out];rw [if_pos H0.out,Bool.eq_iff_iff,decide_eq_true_eq,beq_iff_eq]
  rw [hr];exact ⟨rfl,HB.out⟩
 ·have y0:((i:Int) == 0)=false:=by simp [h0]
  have y0':(i == 0)=false:=by simp [h0]
  have H0:=am h0;clear h0
  cases hb1:inB t.up 0 ((i:Int) - 1) with
  | false=>
   have H1:Aside0 ((decide ((0:Int)<=t.up) && decide (t.up<=(i:Int) - 1))=false):=⟨hb1⟩;clear hb1
   go_wp2_with (first
   |((with_reducible refine gate_dst (N:=2) rfl ?_);refine box_event rfl (N:=2) rfl (t:=27) (by go_simp<;>rfl) ?_;intro gs hg w2 hbox hb;have BS:=am hbox;have HB:=am hb;have BSc:=zc8 BS.out;clear hbox hb hg)
   |((with_reducible refine gate_dst (N:=11) rfl ?_);refine wpList_load_mid rfl 38 (.tmp 10) rfl b (o+i*13) rfl _ _ (fun j u hu=>cellB HB.out (HCC.out j u hu)) Try.underlying38 rfl (by kernel_rfl) ?_)|((with_reducible refine gate_dst (N:=5) rfl ?_);refine box_event rfl (N:=5) rfl (t:=38) (by go_simp<;>rfl) ?_;intro gt hg wt hbox hb;have BT0:=am hbox;have GT:=am hg;have HBT:=am hb;clear hbox hb hg)|((with_reducible refine gate_store (t:=38) (p:=5) rfl ?_);refine store_block rfl rfl 38 (.tmp 5) (.tmp 11) rfl rfl rfl BT0.out rfl (by kernel_rfl) (aB rfl) ?_;intro wn hbox hg;have BT:=am hbox;have hbx:=pw_below_grown HBT.out _ HBT.out.size hg (fun z hz=>by cases hz;exact Nat.le_of_eq GT.out.symm);replace BS:=am (zb8 BS.out hbx);replace HB:=am (below_step HB.out hbx);clear BSc BT0 HBT hbx hbox hg;have BSc:=zc8 BS.out;have BTc:=zc8 BT.out)
   |(go_at_call 50;refine (l6In_calls _ _ _ _).mono ?_;(first|rw [H1.out]);rintro e w9 ⟨rfl,rfl⟩))
   go_ret
   have hr:upsOk s i=false:=by
    rw [HU.out];rw [if_neg H0.out,show inB t.up 0 ((i:Int) - 1)=false from H1.out,Bool.false_and]
   rw [hr]
   exact ⟨rfl,HB.out⟩
  | true=>
   have H1:Aside0 ((decide ((0:Int)<=t.up) && decide (t.up<=(i:Int) - 1))=true):=⟨hb1⟩;have hu:=inB_iff.1 hb1;clear hb1;obtain ⟨u,hu0⟩:=Int.eq_ofNat_of_zero_le hu.1;have hul:u < s.tasks.length:=by omega
   have r0:(0:Int)<=t.up:=hu.1;have r1:t.up < (s.tasks.length:Int):=by omega
   have r4:t.up.toNat=u:=by omega
   obtain ⟨b',o',cs',he,hcl,hK,hcc,-⟩:=C_field G1.out zTask u hul (by decide);cases he;obtain ⟨wy,hwy⟩:∃ x,x=(taskAt s.tasks u).way:=⟨_,rfl⟩;rw [show s.tasks.getD u zTask=taskAt s.tasks u from rfl] at hK;obtain ⟨E3,f3,E8,f8,E9,f9,E10,f10,rfl,-⟩:=kTask_open hK;have pw:=hcc 4 _ rfl;simp only [show kTask.sz=13 from rfl] at pw;rw [<-hwy] at pw;have PW:=am pw;have HWY:=am hwy;clear hcl hK hcc pw hwy hu hu0;by_cases w0:t.way=0
   ·have z0:(t.way == 0)=true:=by simp [w0]
    have W0:=am w0;clear w0
    go_wp2_with (first
    |((with_reducible refine gate_dst (N:=2) rfl ?_);refine box_event rfl (N:=2) rfl (t:=27) (by go_simp<;>rfl) ?_;intro gs hg w2 hbox hb;have BS:=am hbox;have HB:=am hb;have BSc:=zc8 BS.out;clear hbox hb hg)
    |((with_reducible refine gate_dst (N:=11) rfl ?_);refine wpList_load_mid rfl 38 (.tmp 10) rfl b (o+i*13) rfl _ _ (fun j u hu=>cellB HB.out (HCC.out j u hu)) Try.underlying38 rfl (by kernel_rfl) ?_)|((with_reducible refine gate_dst (N:=5) rfl ?_);refine box_event rfl (N:=5) rfl (t:=38) (by go_simp<;>rfl) ?_;intro gt hg wt hbox hb;have BT0:=am hbox;have GT:=am hg;have HBT:=am hb;clear hbox hb hg)|((with_reducible refine gate_store (t:=38) (p:=5) rfl ?_);refine store_block rfl rfl 38 (.tmp 5) (.tmp 11) rfl rfl rfl BT0.out rfl (by kernel_rfl) (aB rfl) ?_;intro wn hbox hg;have BT:=am hbox;have hbx:=pw_below_grown HBT.out _ HBT.out.size hg (fun z hz=>by cases hz;exact Nat.le_of_eq GT.out.symm);replace BS:=am (zb8 BS.out hbx);replace HB:=am (below_step HB.out hbx);clear BSc BT0 HBT hbx hbox hg;have BSc:=zc8 BS.out;have BTc:=zc8 BT.out;have pww:=cellB HB.out PW.out)
    |(go_at_call 50;refine (l6In_calls _ _ _ _).mono ?_;(first|rw [H1.out]);rintro e w9 ⟨rfl,rfl⟩))
    go_ret
    have hr:upsOk s i=(wy == 1):=by
     rw [HU.out];rw [if_neg H0.out,show inB t.up 0 ((i:Int) - 1)=true from H1.out,r4,<-HWY.out,show isLive t=true by simp [isLive,W0.out]];rw [Bool.true_and,Bool.not_true,Bool.false_or,Bool.eq_iff_iff,decide_eq_true_eq,beq_iff_eq]
    rw [hr];exact ⟨rfl,HB.out⟩
   ·have z0:(t.way == 0)=false:=by simp [w0]
    by_cases w1:t.way=1
    ·have z1:(t.way == 1)=true:=by simp [w1]
     have W1:=am w1;clear w0 w1
     go_wp2_with (first
     |((with_reducible refine gate_dst (N:=2) rfl ?_);refine box_event rfl (N:=2) rfl (t:=27) (by go_simp<;>rfl) ?_;intro gs hg w2 hbox hb;have BS:=am hbox;have HB:=am hb;have BSc:=zc8 BS.out;clear hbox hb hg)
     |((with_reducible refine gate_dst (N:=11) rfl ?_);refine wpList_load_mid rfl 38 (.tmp 10) rfl b (o+i*13) rfl _ _ (fun j u hu=>cellB HB.out (HCC.out j u hu)) Try.underlying38 rfl (by kernel_rfl) ?_)|((with_reducible refine gate_dst (N:=5) rfl ?_);refine box_event rfl (N:=5) rfl (t:=38) (by go_simp<;>rfl) ?_;intro gt hg wt hbox hb;have BT0:=am hbox;have GT:=am hg;have HBT:=am hb;clear hbox hb hg)|((with_reducible refine gate_store (t:=38) (p:=5) rfl ?_);refine store_block rfl rfl 38 (.tmp 5) (.tmp 11) rfl rfl rfl BT0.out rfl (by kernel_rfl) (aB rfl) ?_;intro wn hbox hg;have BT:=am hbox;have hbx:=pw_below_grown HBT.out _ HBT.out.size hg (fun z hz=>by cases hz;exact Nat.le_of_eq GT.out.symm);replace BS:=am (zb8 BS.out hbx);replace HB:=am (below_step HB.out hbx);clear BSc BT0 HBT hbx hbox hg;have BSc:=zc8 BS.out;have BTc:=zc8 BT.out;have pww:=cellB HB.out PW.out)
     |(go_at_call 50;refine (l6In_calls _ _ _ _).mono ?_;(first|rw [H1.out]);rintro e w9 ⟨rfl,rfl⟩))
     go_ret
     have hr:upsOk s i=(wy == 1):=by
      rw [HU.out];rw [if_neg H0.out,show inB t.up 0 ((i:Int) - 1)=true from H1.out,r4,<-HWY.out,show isLive t=true by simp [isLive,W1.out]];rw [Bool.true_and,Bool.not_true,Bool.false_or,Bool.eq_iff_iff,decide_eq_true_eq,beq_iff_eq]
     rw [hr];exact ⟨rfl,HB.out⟩
    ·have z1:(t.way == 1)=false:=by simp [w1]
     have WN:Aside0 (isLive t=false):=⟨by simp [isLive,w0,w1]⟩;clear w0 w1
     go_wp2_with (first
     |((with_reducible refine gate_dst (N:=2) rfl ?_);refine box_event rfl (N:=2) rfl (t:=27) (by go_simp<;>rfl) ?_;intro gs hg w2 hbox hb;have BS:=am hbox;have HB:=am hb;have BSc:=zc8 BS.out;clear hbox hb hg)
     |((with_reducible refine gate_dst (N:=11) rfl ?_);refine wpList_load_mid rfl 38 (.tmp 10) rfl b (o+i*13) rfl _ _ (fun j u hu=>cellB HB.out (HCC.out j u hu)) Try.underlying38 rfl (by kernel_rfl) ?_)|((with_reducible refine gate_dst (N:=5) rfl ?_);refine box_event rfl (N:=5) rfl (t:=38) (by go_simp<;>rfl) ?_;intro gt hg wt hbox hb;have BT0:=am hbox;have GT:=am hg;have HBT:=am hb;clear hbox hb hg)|((with_reducible refine gate_store (t:=38) (p:=5) rfl ?_);refine store_block rfl rfl 38 (.tmp 5) (.tmp 11) rfl rfl rfl BT0.out rfl (by kernel_rfl) (aB rfl) ?_;intro wn hbox hg;have BT:=am hbox;have hbx:=pw_below_grown HBT.out _ HBT.out.size hg (fun z hz=>by cases hz;exact Nat.le_of_eq GT.out.symm);replace BS:=am (zb8 BS.out hbx);replace HB:=am (below_step HB.out hbx);clear BSc BT0 HBT hbx hbox hg;have BSc:=zc8 BS.out;have BTc:=zc8 BT.out;have pww:=cellB HB.out PW.out)
     |(go_at_call 50;refine (l6In_calls _ _ _ _).mono ?_;(first|rw [H1.out]);rintro e w9 ⟨rfl,rfl⟩))
     go_ret
     have hr:upsOk s i=true:=by
      rw [HU.out];rw [if_neg H0.out,show inB t.up 0 ((i:Int) - 1)=true from H1.out,WN.out];rfl
     rw [hr];exact ⟨rfl,HB.out⟩
theorem l12Cells_calls (s:Sys) (ss:List Value) (w:World) (hs:kSys.K w s ss) (hm:s.cells.length<=1048576) (hn:s.tasks.length<=1048576) (hz:∀ i,i < s.tasks.length->(taskAt s.tasks i).puts.length<=1048576):
  Calls Try.prog 58 #[.agg ss.toArray] w fun e w'=>e= .returned (.bool (cellsOk s))/\Below w.heap.size w w':=by
 obtain ⟨A0,c0,A1,c1,A3,c3,rfl,-,g0,-,g1,-⟩:=kSys_open hs;have G0:=am g0;have G1:=am g1;have HZ:=am hz;clear hs g0 g1 hz;go_enter Try.func58,Try.ntmps58
 go_wp2_with (first
 |((with_reducible refine gate_dst (N:=1) rfl ?_);refine box_event rfl (N:=1) rfl (t:=27) (by go_simp<;>rfl) ?_;intro gs hg w2 hbox hb;have BS:=am hbox;have HB:=am hb;have BSc:=zc8 BS.out;clear hbox hb hg))
 go_loopw [3] (fun j w'=>∃ k:Nat,k<=s.cells.length/\j= .int .i64 k/\Aside0 (∀ i,i < k->(inB (cellAt s.cells i).num 0 99 && inB (cellAt s.cells i).time 0 s.clock && inB (cellAt s.cells i).lock (-1) (s.tasks.length - 1) && allB s.tasks.length fun k=>decide (holds (taskAt s.tasks k) i=decide ((cellAt s.cells i).lock=k)))=true)/\Aside0 (w'.heap[gs]? = some (.cells #[.slice A0 s.cells.length c0,.slice A1 s.tasks.length c1,.int .i64 s.clock,.slice A3 s.log.length c3] 27 (0,0)))/\Aside0 (Below w.heap.size w w')) (fun j _=>s.cells.length - (intOf j).toNat)
 case atStart=>exact ⟨0,Nat.zero_le _,rfl,⟨fun i hi=>by omega⟩,BS,HB⟩
 case round=>
  clear BS HB BSc;obtain ⟨k,hk,rfl,HJ,BS,HB⟩:=hrel;have BSc:=zc8 BS.out;by_cases hlt:k < s.cells.length
  ·obtain ⟨bc,oc,cs,rfl,hcl,hK,hcc,-⟩:=C_field G0.out zCell k hlt (by decide)
   obtain ⟨c,hcx⟩:∃ x,x=cellAt s.cells k:=⟨_,rfl⟩;rw [show s.cells.getD k zCell=c from hcx.symm] at hK;have e:=kCell_open hK;subst e;have HC:=am hcc;have CX:=am hcx;have q0:(0:Int)<=(k:Int):=by omega
   have q1:(k:Int) < (s.cells.length:Int):=by omega
   clear hcl hK hcc hcx;obtain ⟨bH1,hbH1⟩:∃ b,inB c.num 0 99=b:=⟨_,rfl⟩;have H1:Aside0 ((decide ((0:Int)<=c.num) && decide (c.num<=99))=bH1):=⟨hbH1⟩;clear hbH1;obtain ⟨bH2,hbH2⟩:∃ b,inB c.time 0 s.clock=b:=⟨_,rfl⟩;have H2:Aside0 ((decide ((0:Int)<=c.time) && decide (c.time<=s.clock))=bH2):=⟨hbH2⟩;clear hbH2;obtain ⟨bH3,hbH3⟩:∃ b,inB c.lock (-1) ((s.tasks.length:Int) - 1)=b:=⟨_,rfl⟩;have H3:Aside0 ((decide ((-1:Int)<=c.lock) && decide (c.lock<=(s.tasks.length:Int) - 1))=bH3):=⟨hbH3⟩;clear hbH3
   cases bH1 with
   | false=>
    go_wp2_with (first
    |((with_reducible refine gate_dst (N:=17) rfl ?_);refine wpList_load_mid rfl 53 (.tmp 16) rfl bc (oc+k*3) rfl _ _ (fun j u hu=>cellB HB.out (HC.out j u hu)) Try.underlying53 rfl (by kernel_rfl) ?_)|((with_reducible refine gate_dst (N:=4) rfl ?_);refine box_event rfl (N:=4) rfl (t:=53) (by go_simp<;>rfl) ?_;intro gc hg wt hbox hb;have BC0:=am hbox;have GC:=am hg;have HBT:=am hb;clear hbox hb hg)|((with_reducible refine gate_store (t:=53) (p:=4) rfl ?_);refine store_block rfl rfl 53 (.tmp 4) (.tmp 17) rfl rfl rfl BC0.out rfl (by kernel_rfl) (aB rfl) ?_;intro wn hbox hg;have BC:=am hbox;have hbx:=pw_below_grown HBT.out _ HBT.out.size hg (fun z hz=>by cases hz;exact Nat.le_of_eq GC.out.symm);replace BS:=am (zb8 BS.out hbx);replace HB:=am (below_step HB.out hbx);clear BSc BC0 HBT hbx hbox hg;have BSc:=zc8 BS.out;have BCc:=zc8 BC.out)
    |(go_at_call 50;refine (l6In_calls _ _ _ _).mono ?_;(first|rw [H1.out] | rw [H2.out] | rw [H3.out]);rintro e w9 ⟨rfl,rfl⟩))
    go_ret
    have hr:cellsOk s=false:=by
     unfold cellsOk;exact allB_no hlt (by rw [<-CX.out];simp only [];rw [show inB c.num 0 99=false from H1.out,Bool.false_and,Bool.false_and,Bool.false_and])
    rw [hr]
    exact ⟨rfl,HB.out⟩
   | true=>
    cases bH2 with
    | false=>
     go_wp2_with (first
     |((with_reducible refine gate_dst (N:=17) rfl ?_);refine wpList_load_mid rfl 53 (.tmp 16) rfl bc (oc+k*3) rfl _ _ (fun j u hu=>cellB HB.out (HC.out j u hu)) Try.underlying53 rfl (by kernel_rfl) ?_)|((with_reducible refine gate_dst (N:=4) rfl ?_);refine box_event rfl (N:=4) rfl (t:=53) (by go_simp<;>rfl) ?_;intro gc hg wt hbox hb;have BC0:=am hbox;have GC:=am hg;have HBT:=am hb;clear hbox hb hg)|((with_reducible refine gate_store (t:=53) (p:=4) rfl ?_);refine store_block rfl rfl 53 (.tmp 4) (.tmp 17) rfl rfl rfl BC0.out rfl (by kernel_rfl) (aB rfl) ?_;intro wn hbox hg;have BC:=am hbox;have hbx:=pw_below_grown HBT.out _ HBT.out.size hg (fun z hz=>by cases hz;exact Nat.le_of_eq GC.out.symm);replace BS:=am (zb8 BS.out hbx);replace HB:=am (below_step HB.out hbx);clear BSc BC0 HBT hbx hbox hg;have BSc:=zc8 BS.out;have BCc:=zc8 BC.out)
     |(go_at_call 50;refine (l6In_calls _ _ _ _).mono ?_;(first|rw [H1.out] | rw [H2.out] | rw [H3.out]);rintro e w9 ⟨rfl,rfl⟩))
     go_ret
     have hr:cellsOk s=false:=by
      unfold cellsOk;exact allB_no hlt (by rw [<-CX.out];simp only [];rw [show inB c.time 0 s.clock=false from H2.out,Bool.and_false,Bool.false_and,Bool.false_and])
     rw [hr]
     exact ⟨rfl,HB.out⟩
    | true=>
     cases bH3 with
     | false=>
      go_wp2_with (first
      |((with_reducible refine gate_dst (N:=17) rfl ?_);refine wpList_load_mid rfl 53 (.tmp 16) rfl bc (oc+k*3) rfl _ _ (fun j u hu=>cellB HB.out (HC.out j u hu)) Try.underlying53 rfl (by kernel_rfl) ?_)|((with_reducible refine gate_dst (N:=4) rfl ?_);refine box_event rfl (N:=4) rfl (t:=53) (by go_simp<;>rfl) ?_;intro gc hg wt hbox hb;have BC0:=am hbox;have GC:=am hg;have HBT:=am hb;clear hbox hb hg)|((with_reducible refine gate_store (t:=53) (p:=4) rfl ?_);refine store_block rfl rfl 53 (.tmp 4) (.tmp 17) rfl rfl rfl BC0.out rfl (by kernel_rfl) (aB rfl) ?_;intro wn hbox hg;have BC:=am hbox;have hbx:=pw_below_grown HBT.out _ HBT.out.size hg (fun z hz=>by cases hz;exact Nat.le_of_eq GC.out.symm);replace BS:=am (zb8 BS.out hbx);replace HB:=am (below_step HB.out hbx);clear BSc BC0 HBT hbx hbox hg;have BSc:=zc8 BS.out;have BCc:=zc8 BC.out)
      |(go_at_call 50;refine (l6In_calls _ _ _ _).mono ?_;(first|rw [H1.out] | rw [H2.out] | rw [H3.out]);rintro e w9 ⟨rfl,rfl⟩))
      go_ret
      have hr:cellsOk s=false:=by
       unfold cellsOk;exact allB_no hlt (by rw [<-CX.out];simp only [];rw [show inB c.lock (-1) ((s.tasks.length:Int) - 1)=false from H3.out,Bool.and_false,Bool.false_and])
      rw [hr]
      exact ⟨rfl,HB.out⟩
     | true=>
      go_wp2_with (first
      |((with_reducible refine gate_dst (N:=17) rfl ?_);refine wpList_load_mid rfl 53 (.tmp 16) rfl bc (oc+k*3) rfl _ _ (fun j u hu=>cellB HB.out (HC.out j u hu)) Try.underlying53 rfl (by kernel_rfl) ?_)|((with_reducible refine gate_dst (N:=4) rfl ?_);refine box_event rfl (N:=4) rfl (t:=53) (by go_simp<;>rfl) ?_;intro gc hg wt hbox hb;have BC0:=am hbox;have GC:=am hg;have HBT:=am hb;clear hbox hb hg)|((with_reducible refine gate_store (t:=53) (p:=4) rfl ?_);refine store_block rfl rfl 53 (.tmp 4) (.tmp 17) rfl rfl rfl BC0.out rfl (by kernel_rfl) (aB rfl) ?_;intro wn hbox hg;have BC:=am hbox;have hbx:=pw_below_grown HBT.out _ HBT.out.size hg (fun z hz=>by cases hz;exact Nat.le_of_eq GC.out.symm);replace BS:=am (zb8 BS.out hbx);replace HB:=am (below_step HB.out hbx);clear BSc BC0 HBT hbx hbox hg;have BSc:=zc8 BS.out;have BCc:=zc8 BC.out)
      |(go_at_call 50;refine (l6In_calls _ _ _ _).mono ?_;(first|rw [H1.out] | rw [H2.out] | rw [H3.out]);rintro e w9 ⟨rfl,rfl⟩))
      go_loopw [5] (fun j w'=>∃ m:Nat,m<=s.tasks.length/\j= .int .i64 m/\Aside0 (∀ i,i < m->decide (holds (taskAt s.tasks i) k=decide (c.lock=i))=true)/\Aside0 (w'.heap[gs]? = some (.cells #[.slice (some ⟨bc,oc,none⟩) s.cells.length c0,.slice A1 s.tasks.length c1,.int .i64 s.clock,.slice A3 s.log.length c3] 27 (0,0)))/\Aside0 (w'.heap[gc]? = some (.cells #[.int .i64 c.num,.int .i64 c.time,.int .i64 c.lock] 53 (0,0)))/\Aside0 (Below w.heap.size w w')) (fun j _=>s.tasks.length - (intOf j).toNat)
      case atStart=>exact ⟨0,Nat.zero_le _,rfl,⟨fun i hi=>by omega⟩,BS,BC,HB⟩
      case round=>
       clear BS BC HB BSc BCc;obtain ⟨m,hm',rfl,HM,BS,BC,HB⟩:=hrel;have BSc:=zc8 BS.out;have BCc:=zc8 BC.out;by_cases hmt:m < s.tasks.length
       ·obtain ⟨b,o,cs,rfl,hcl,hK,hcc,-⟩:=C_field G1.out zTask m hmt (by decide)
        have HPN:=am (HZ.out m hmt);obtain ⟨t,htx⟩:∃ x,x=taskAt s.tasks m:=⟨_,rfl⟩;rw [<-htx] at HPN;rw [show s.tasks.getD m zTask=t from htx.symm] at hK;have HK:=am hK;have TX:=am htx;obtain ⟨B3,d3,B8,d8,B9,d9,B10,d10,rfl,-⟩:=kTask_open hK;have HT:=am hcc;have r0:(0:Int)<=(m:Int):=by omega
        have r1:(m:Int) < (s.tasks.length:Int):=by omega
        clear hcl hK hcc htx
        cases hbh:holds t (k:Int) with
        | true=>
         have HH:=am hbh;clear hbh;by_cases hl:c.lock=(m:Int)
         ·have yl:(c.lock == (m:Int))=true:=by simp [hl]
          have HL:Aside0 (decide (c.lock=(m:Int))=true):=⟨decide_eq_true hl⟩;clear hl;go_wp2;refine st9 (n:=12) (S:=fun W=>W.heap[gs]? = some (.cells #[.slice (some ⟨bc,oc,none⟩) s.cells.length c0,.slice (some ⟨b,o,none⟩) s.tasks.length c1,.int .i64 s.clock,.slice A3 s.log.length c3] 27 (0,0))/\W.heap[gc]? = some (.cells #[.int .i64 c.num,.int .i64 c.time,.int .i64 c.lock] 53 (0,0))/\∀ j u, [.int .i64 t.body,.int .i64 t.pc,.int .i64 t.up,.slice B3 t.regs.length d3,.int .i64 t.way,.int .i64 t.stage,.int .i64 t.at_,.int .i64 t.since,.slice B8 t.old.length d8,.slice B9 t.reads.length d9,.slice B10 t.puts.length d10,.int .i64 t.when_,.int .i64 t.from_][j]? = some u->W.cell? ⟨b,o+m*13+j,none⟩=some u) (ds:= []) (by kernel_rfl) rfl ⟨blk_drew BS.out,blk_drew BC.out,fun j u hu=>(show wr.cell? ⟨b,o+m*13+j,none⟩=_ from cellB HB.out (HT.out j u hu))⟩ (fun hHeld=> ?_);have hb:=below_drew (Below.refl wr.heap.size wr);generalize wr.drew=w7 at hb hHeld ⊢;have HB7:=am (below_step HB.out hb);clear hb HB BS BC BSc BCc;refine ba9 (fuel:=2) (n:=10) [0,1,2,3,4,5,7,8,9,10] (by kernel_rfl) (fun N _ _ _ _ h=>by cases N <;> exact h) hHeld ?_
          iterate 10 (
           refine stillS_step (v:= ?_) (a':= ?_) rfl (Or.inl ⟨by rfl, ?_⟩) ?_ ?_;rotate_left
           ·rintro W ⟨s0,s2,s3⟩
            have t0:=zc8 s0;have t2:=zc8 s2;have u0:=s3 0 _ rfl;have u1:=s3 1 _ rfl;have u2:=s3 2 _ rfl;have u3:=s3 3 _ rfl;have u4:=s3 4 _ rfl;have u5:=s3 5 _ rfl;have u6:=s3 6 _ rfl;have u7:=s3 7 _ rfl;have u8:=s3 8 _ rfl;have u9:=s3 9 _ rfl;have u10:=s3 10 _ rfl;have u11:=s3 11 _ rfl;have u12:=s3 12 _ rfl;rw [Nat.add_zero] at u0;clear s0 s2 s3;go_simp;with_reducible rfl
           rotate_left
           ·simp only [Act.put,sA,sZ,sS,i64_w]
            rfl)
          refine stillS_nil ?_;refine on9 (i:=6) (N:=some 53) rfl rfl (by kernel_rfl) (by decide) (fun K hK=> ?_);refine goes_ Try.func96 (by kernel_rfl) rfl #[.agg #[.int .i64 t.body,.int .i64 t.pc,.int .i64 t.up,.slice B3 t.regs.length d3,.int .i64 t.way,.int .i64 t.stage,.int .i64 t.at_,.int .i64 t.since,.slice B8 t.old.length d8,.slice B9 t.reads.length d9,.slice B10 t.puts.length d10,.int .i64 t.when_,.int .i64 t.from_],.int .i64 k] (by rfl) rfl rfl (by (try simp only [List.map_toArray,List.map_cons,List.map_nil]);first | done | rfl) ?_;refine (l12Holds_calls t _ (k:Int) _ (kTask.K_below HB7.out HK.out) HPN.out).mono ?_;rw [HH.out];rintro e wn ⟨rfl,hb⟩;refine ⟨_,rfl, ?_⟩;refine hK.out _ _ ⟨zb8 hHeld.1 hb,zb8 hHeld.2.1 hb,fun j u hu=>cellB hb (hHeld.2.2 j u hu)⟩ (fun hHeld=> ?_);clear hK K;refine norm_ (a':= ?_) ?_ ?_;rotate_left
          ·show Act.put _ (some 53) _=_
           simp only [Act.put,sA,sZ,sS,i64_w];rfl
          have HB:=am (below_step HB7.out hb);refine ba9 (fuel:=0) (n:=1) [11] (by kernel_rfl) (fun N _ _ _ _ h=>by cases N <;> exact h) hHeld ?_
          iterate 1 (
           refine stillS_step (v:= ?_) (a':= ?_) rfl (Or.inl ⟨by rfl, ?_⟩) ?_ ?_;rotate_left
           ·intro W hW
            go_simp
            with_reducible rfl
           rotate_left
           ·simp only [Act.put,sA,sZ,sS,i64_w]
            rfl)
          refine stillS_nil ?_;have BS:=am hHeld.1;have BC:=am hHeld.2.1;clear hHeld HB7 hb;have BSc:=zc8 BS.out;have BCc:=zc8 BC.out;refine done_ (by kernel_rfl) ?_;go_wp2;go_roundw
          case rel=>exact ⟨m+1,by omega,by go_num,⟨fun i hi=>by rcases Nat.lt_or_ge i m with h | h;exact HM.out i h;obtain rfl:i=m:=(by omega);rw [<-TX.out,HH.out,HL.out];rfl⟩,BS,BC,HB⟩
          case measure=>simp [intOf];omega
         ·have yl:(c.lock == (m:Int))=false:=by simp [hl]
          have HL:Aside0 (decide (c.lock=(m:Int))=false):=⟨decide_eq_false hl⟩;clear hl;go_wp2;refine st9 (n:=12) (S:=fun W=>W.heap[gs]? = some (.cells #[.slice (some ⟨bc,oc,none⟩) s.cells.length c0,.slice (some ⟨b,o,none⟩) s.tasks.length c1,.int .i64 s.clock,.slice A3 s.log.length c3] 27 (0,0))/\W.heap[gc]? = some (.cells #[.int .i64 c.num,.int .i64 c.time,.int .i64 c.lock] 53 (0,0))/\∀ j u, [.int .i64 t.body,.int .i64 t.pc,.int .i64 t.up,.slice B3 t.regs.length d3,.int .i64 t.way,.int .i64 t.stage,.int .i64 t.at_,.int .i64 t.since,.slice B8 t.old.length d8,.slice B9 t.reads.length d9,.slice B10 t.puts.length d10,.int .i64 t.when_,.int .i64 t.from_][j]? = some u->W.cell? ⟨b,o+m*13+j,none⟩=some u) (ds:= []) (by kernel_rfl) rfl ⟨blk_drew BS.out,blk_drew BC.out,fun j u hu=>(show wr.cell? ⟨b,o+m*13+j,none⟩=_ from cellB HB.out (HT.out j u hu))⟩ (fun hHeld=> ?_);have hb:=below_drew (Below.refl wr.heap.size wr);generalize wr.drew=w7 at hb hHeld ⊢;have HB7:=am (below_step HB.out hb);clear hb HB BS BC BSc BCc;refine ba9 (fuel:=2) (n:=10) [0,1,2,3,4,5,7,8,9,10] (by kernel_rfl) (fun N _ _ _ _ h=>by cases N <;> exact h) hHeld ?_
          iterate 10 (
           refine stillS_step (v:= ?_) (a':= ?_) rfl (Or.inl ⟨by rfl, ?_⟩) ?_ ?_;rotate_left
           ·rintro W ⟨s0,s2,s3⟩
            have t0:=zc8 s0;have t2:=zc8 s2;have u0:=s3 0 _ rfl;have u1:=s3 1 _ rfl;have u2:=s3 2 _ rfl;have u3:=s3 3 _ rfl;have u4:=s3 4 _ rfl;have u5:=s3 5 _ rfl;have u6:=s3 6 _ rfl;have u7:=s3 7 _ rfl;have u8:=s3 8 _ rfl;have u9:=s3 9 _ rfl;have u10:=s3 10 _ rfl;have u11:=s3 11 _ rfl;have u12:=s3 12 _ rfl;rw [Nat.add_zero] at u0;clear s0 s2 s3;go_simp;with_reducible rfl
           rotate_left
           ·simp only [Act.put,sA,sZ,sS,i64_w]
            rfl)
          refine stillS_nil ?_;refine on9 (i:=6) (N:=some 53) rfl rfl (by kernel_rfl) (by decide) (fun K hK=> ?_);refine goes_ Try.func96 (by kernel_rfl) rfl #[.agg #[.int .i64 t.body,.int .i64 t.pc,.int .i64 t.up,.slice B3 t.regs.length d3,.int .i64 t.way,.int .i64 t.stage,.int .i64 t.at_,.int .i64 t.since,.slice B8 t.old.length d8,.slice B9 t.reads.length d9,.slice B10 t.puts.length d10,.int .i64 t.when_,.int .i64 t.from_],.int .i64 k] (by rfl) rfl rfl (by (try simp only [List.map_toArray,List.map_cons,List.map_nil]);first | done | rfl) ?_;refine (l12Holds_calls t _ (k:Int) _ (kTask.K_below HB7.out HK.out) HPN.out).mono ?_;rw [HH.out];rintro e wn ⟨rfl,hb⟩;refine ⟨_,rfl, ?_⟩;refine hK.out _ _ ⟨zb8 hHeld.1 hb,zb8 hHeld.2.1 hb,fun j u hu=>cellB hb (hHeld.2.2 j u hu)⟩ (fun hHeld=> ?_);clear hK K;refine norm_ (a':= ?_) ?_ ?_;rotate_left
          ·show Act.put _ (some 53) _=_
           simp only [Act.put,sA,sZ,sS,i64_w];rfl
          have HB:=am (below_step HB7.out hb);refine ba9 (fuel:=0) (n:=1) [11] (by kernel_rfl) (fun N _ _ _ _ h=>by cases N <;> exact h) hHeld ?_
          iterate 1 (
           refine stillS_step (v:= ?_) (a':= ?_) rfl (Or.inl ⟨by rfl, ?_⟩) ?_ ?_;rotate_left
           ·intro W hW
            go_simp
            with_reducible rfl
           rotate_left
           ·simp only [Act.put,sA,sZ,sS,i64_w]
            rfl)
          refine stillS_nil ?_;have BS:=am hHeld.1;have BC:=am hHeld.2.1;clear hHeld HB7 hb;have BSc:=zc8 BS.out;have BCc:=zc8 BC.out;refine done_ (by kernel_rfl) ?_;go_wp2;go_ret
          have hr:cellsOk s=false:=by
           unfold cellsOk;exact allB_no hlt (by rw [<-CX.out];simp only [];rw [allB_no hmt (by rw [<-TX.out,HH.out,HL.out];rfl),Bool.and_false])
          rw [hr]
          exact ⟨rfl,HB.out⟩
        | false=>
         have HH:=am hbh;clear hbh;by_cases hl:c.lock=(m:Int)
         ·have yl:(c.lock == (m:Int))=true:=by simp [hl]
          have HL:Aside0 (decide (c.lock=(m:Int))=true):=⟨decide_eq_true hl⟩;clear hl;go_wp2;refine st9 (n:=12) (S:=fun W=>W.heap[gs]? = some (.cells #[.slice (some ⟨bc,oc,none⟩) s.cells.length c0,.slice (some ⟨b,o,none⟩) s.tasks.length c1,.int .i64 s.clock,.slice A3 s.log.length c3] 27 (0,0))/\W.heap[gc]? = some (.cells #[.int .i64 c.num,.int .i64 c.time,.int .i64 c.lock] 53 (0,0))/\∀ j u, [.int .i64 t.body,.int .i64 t.pc,.int .i64 t.up,.slice B3 t.regs.length d3,.int .i64 t.way,.int .i64 t.stage,.int .i64 t.at_,.int .i64 t.since,.slice B8 t.old.length d8,.slice B9 t.reads.length d9,.slice B10 t.puts.length d10,.int .i64 t.when_,.int .i64 t.from_][j]? = some u->W.cell? ⟨b,o+m*13+j,none⟩=some u) (ds:= []) (by kernel_rfl) rfl ⟨blk_drew BS.out,blk_drew BC.out,fun j u hu=>(show wr.cell? ⟨b,o+m*13+j,none⟩=_ from cellB HB.out (HT.out j u hu))⟩ (fun hHeld=> ?_);have hb:=below_drew (Below.refl wr.heap.size wr);generalize wr.drew=w7 at hb hHeld ⊢;have HB7:=am (below_step HB.out hb);clear hb HB BS BC BSc BCc;refine ba9 (fuel:=2) (n:=10) [0,1,2,3,4,5,7,8,9,10] (by kernel_rfl) (fun N _ _ _ _ h=>by cases N <;> exact h) hHeld ?_
          iterate 10 (
           refine stillS_step (v:= ?_) (a':= ?_) rfl (Or.inl ⟨by rfl, ?_⟩) ?_ ?_;rotate_left
           ·rintro W ⟨s0,s2,s3⟩
            have t0:=zc8 s0;have t2:=zc8 s2;have u0:=s3 0 _ rfl;have u1:=s3 1 _ rfl;have u2:=s3 2 _ rfl;have u3:=s3 3 _ rfl;have u4:=s3 4 _ rfl;have u5:=s3 5 _ rfl;have u6:=s3 6 _ rfl;have u7:=s3 7 _ rfl;have u8:=s3 8 _ rfl;have u9:=s3 9 _ rfl;have u10:=s3 10 _ rfl;have u11:=s3 11 _ rfl;have u12:=s3 12 _ rfl;rw [Nat.add_zero] at u0;clear s0 s2 s3;go_simp;with_reducible rfl
           rotate_left
           ·simp only [Act.put,sA,sZ,sS,i64_w]
            rfl)
          refine stillS_nil ?_;refine on9 (i:=6) (N:=some 53) rfl rfl (by kernel_rfl) (by decide) (fun K hK=> ?_);refine goes_ Try.func96 (by kernel_rfl) rfl #[.agg #[.int .i64 t.body,.int .i64 t.pc,.int .i64 t.up,.slice B3 t.regs.length d3,.int .i64 t.way,.int .i64 t.stage,.int .i64 t.at_,.int .i64 t.since,.slice B8 t.old.length d8,.slice B9 t.reads.length d9,.slice B10 t.puts.length d10,.int .i64 t.when_,.int .i64 t.from_],.int .i64 k] (by rfl) rfl rfl (by (try simp only [List.map_toArray,List.map_cons,List.map_nil]);first | done | rfl) ?_;refine (l12Holds_calls t _ (k:Int) _ (kTask.K_below HB7.out HK.out) HPN.out).mono ?_;rw [HH.out];rintro e wn ⟨rfl,hb⟩;refine ⟨_,rfl, ?_⟩;refine hK.out _ _ ⟨zb8 hHeld.1 hb,zb8 hHeld.2.1 hb,fun j u hu=>cellB hb (hHeld.2.2 j u hu)⟩ (fun hHeld=> ?_);clear hK K;refine norm_ (a':= ?_) ?_ ?_;rotate_left
          ·show Act.put _ (some 53) _=_
           simp only [Act.put,sA,sZ,sS,i64_w];rfl
          have HB:=am (below_step HB7.out hb);refine ba9 (fuel:=0) (n:=1) [11] (by kernel_rfl) (fun N _ _ _ _ h=>by cases N <;> exact h) hHeld ?_
          iterate 1 (
           refine stillS_step (v:= ?_) (a':= ?_) rfl (Or.inl ⟨by rfl, ?_⟩) ?_ ?_;rotate_left
           ·intro W hW
            go_simp
            with_reducible rfl
           rotate_left
           ·simp only [Act.put,sA,sZ,sS,i64_w]
            rfl)
          refine stillS_nil ?_;have BS:=am hHeld.1;have BC:=am hHeld.2.1;clear hHeld HB7 hb;have BSc:=zc8 BS.out;have BCc:=zc8 BC.out;refine done_ (by kernel_rfl) ?_;go_wp2;go_ret
          have hr:cellsOk s=false:=by
           unfold cellsOk;exact allB_no hlt (by rw [<-CX.out];simp only [];rw [allB_no hmt (by rw [<-TX.out,HH.out,HL.out];rfl),Bool.and_false])
          rw [hr];exact ⟨rfl,HB.out⟩
         ·have yl:(c.lock == (m:Int))=false:=by simp [hl]
          have HL:Aside0 (decide (c.lock=(m:Int))=false):=⟨decide_eq_false hl⟩;clear hl;go_wp2;refine st9 (n:=12) (S:=fun W=>W.heap[gs]? = some (.cells #[.slice (some ⟨bc,oc,none⟩) s.cells.length c0,.slice (some ⟨b,o,none⟩) s.tasks.length c1,.int .i64 s.clock,.slice A3 s.log.length c3] 27 (0,0))/\W.heap[gc]? = some (.cells #[.int .i64 c.num,.int .i64 c.time,.int .i64 c.lock] 53 (0,0))/\∀ j u, [.int .i64 t.body,.int .i64 t.pc,.int .i64 t.up,.slice B3 t.regs.length d3,.int .i64 t.way,.int .i64 t.stage,.int .i64 t.at_,.int .i64 t.since,.slice B8 t.old.length d8,.slice B9 t.reads.length d9,.slice B10 t.puts.length d10,.int .i64 t.when_,.int .i64 t.from_][j]? = some u->W.cell? ⟨b,o+m*13+j,none⟩=some u) (ds:= []) (by kernel_rfl) rfl ⟨blk_drew BS.out,blk_drew BC.out,fun j u hu=>(show wr.cell? ⟨b,o+m*13+j,none⟩=_ from cellB HB.out (HT.out j u hu))⟩ (fun hHeld=> ?_);have hb:=below_drew (Below.refl wr.heap.size wr);generalize wr.drew=w7 at hb hHeld ⊢;have HB7:=am (below_step HB.out hb);clear hb HB BS BC BSc BCc;refine ba9 (fuel:=2) (n:=10) [0,1,2,3,4,5,7,8,9,10] (by kernel_rfl) (fun N _ _ _ _ h=>by cases N <;> exact h) hHeld ?_
          iterate 10 (
           refine stillS_step (v:= ?_) (a':= ?_) rfl (Or.inl ⟨by rfl, ?_⟩) ?_ ?_;rotate_left
           ·rintro W ⟨s0,s2,s3⟩
            have t0:=zc8 s0;have t2:=zc8 s2;have u0:=s3 0 _ rfl;have u1:=s3 1 _ rfl;have u2:=s3 2 _ rfl;have u3:=s3 3 _ rfl;have u4:=s3 4 _ rfl;have u5:=s3 5 _ rfl;have u6:=s3 6 _ rfl;have u7:=s3 7 _ rfl;have u8:=s3 8 _ rfl;have u9:=s3 9 _ rfl;have u10:=s3 10 _ rfl;have u11:=s3 11 _ rfl;have u12:=s3 12 _ rfl;rw [Nat.add_zero] at u0;clear s0 s2 s3;go_simp;with_reducible rfl
           rotate_left
           ·simp only [Act.put,sA,sZ,sS,i64_w]
            rfl)
          refine stillS_nil ?_;refine on9 (i:=6) (N:=some 53) rfl rfl (by kernel_rfl) (by decide) (fun K hK=> ?_);refine goes_ Try.func96 (by kernel_rfl) rfl #[.agg #[.int .i64 t.body,.int .i64 t.pc,.int .i64 t.up,.slice B3 t.regs.length d3,.int .i64 t.way,.int .i64 t.stage,.int .i64 t.at_,.int .i64 t.since,.slice B8 t.old.length d8,.slice B9 t.reads.length d9,.slice B10 t.puts.length d10,.int .i64 t.when_,.int .i64 t.from_],.int .i64 k] (by rfl) rfl rfl (by (try simp only [List.map_toArray,List.map_cons,List.map_nil]);first | done | rfl) ?_;refine (l12Holds_calls t _ (k:Int) _ (kTask.K_below HB7.out HK.out) HPN.out).mono ?_;rw [HH.out];rintro e wn ⟨rfl,hb⟩;refine ⟨_,rfl, ?_⟩;refine hK.out _ _ ⟨zb8 hHeld.1 hb,zb8 hHeld.2.1 hb,fun j u hu=>cellB hb (hHeld.2.2 j u hu)⟩ (fun hHeld=> ?_);clear hK K;refine norm_ (a':= ?_) ?_ ?_;rotate_left
          ·show Act.put _ (some 53) _=_
           simp only [Act.put,sA,sZ,sS,i64_w];rfl
          have HB:=am (below_step HB7.out hb);refine ba9 (fuel:=0) (n:=1) [11] (by kernel_rfl) (fun N _ _ _ _ h=>by cases N <;> exact h) hHeld ?_
          iterate 1 (
           refine stillS_step (v:= ?_) (a':= ?_) rfl (Or.inl ⟨by rfl, ?_⟩) ?_ ?_;rotate_left
           ·intro W hW
            go_simp
            with_reducible rfl
           rotate_left
           ·simp only [Act.put,sA,sZ,sS,i64_w]
            rfl)
          refine stillS_nil ?_;have BS:=am hHeld.1;have BC:=am hHeld.2.1;clear hHeld HB7 hb;have BSc:=zc8 BS.out;have BCc:=zc8 BC.out;refine done_ (by kernel_rfl) ?_;go_wp2;go_roundw
          case rel=>exact ⟨m+1,by omega,by go_num,⟨fun i hi=>by rcases Nat.lt_or_ge i m with h | h;exact HM.out i h;obtain rfl:i=m:=(by omega);rw [<-TX.out,HH.out,HL.out];rfl⟩,BS,BC,HB⟩
          case measure=>simp [intOf];omega
       ·obtain rfl:m=s.tasks.length:=by omega
        go_wp2;go_roundw
        case rel=>exact ⟨k+1,by omega,by go_num,⟨fun i hi=>by rcases Nat.lt_or_ge i k with h | h;exact HJ.out i h;obtain rfl:i=k:=(by omega);rw [<-CX.out,show inB c.num 0 99=true from H1.out,show inB c.time 0 s.clock=true from H2.out,show inB c.lock (-1) ((s.tasks.length:Int) - 1)=true from H3.out,allB_iff.2 HM.out];rfl⟩,BS,HB⟩
        case measure=>simp [intOf];omega
  ·obtain rfl:k=s.cells.length:=by omega
   go_wp2;go_ret
   have hr:cellsOk s=true:=by
    unfold cellsOk;exact allB_iff.2 HJ.out
   rw [hr];exact ⟨rfl,HB.out⟩
theorem l12Log_calls (p:Prog) (ps:List Value) (s:Sys) (ss:List Value) (w:World) (hp:kProg.K w p ps) (hs:kSys.K w s ss) (hz:ProgSz p) (hm:s.cells.length<=1048576) (hn:s.tasks.length<=1048576) (hl:s.log.length<=1048576) (hsz:∀ i,i < s.log.length->(entryAt s.log i).reads.length<=1048576/\(entryAt s.log i).puts.length<=1048576) (hbd:∀ i,i < s.tasks.length->0<=(taskAt s.tasks i).body/\(taskAt s.tasks i).body < p.bodies.length):
  Calls Try.prog 59 #[.agg ps.toArray,.agg ss.toArray] w fun e w'=>e= .returned (.bool (logOk p s))/\Below w.heap.size w w':=by
 obtain ⟨Ac,cc,Ab,cb,rfl,-,-,-,gb⟩:=kProg_open hp;obtain ⟨A0,c0,A1,c1,A3,c3,rfl,-,-,-,g1,-,g3⟩:=kSys_open hs;have GB:=am gb;have G1:=am g1;have G3:=am g3;have HZ:=am hsz;have HBD:=am hbd;have HSZ:Aside0 (∀ k,k < p.bodies.length->(actsAt p.bodies k).length<=1048576):=⟨fun k hk=>by rw [actsAt_eq hk];exact (hz.acts _ (List.getElem_mem hk)).1⟩;have hpb:=hz.bodies;clear hp hs gb g1 g3 hsz hbd hz;go_enter Try.func59,Try.ntmps59
 go_wp2_with (first
 |((with_reducible refine gate_dst (N:=2) rfl ?_);refine box_event rfl (N:=2) rfl (t:=48) (by go_simp<;>rfl) ?_;intro gp hg w2 hbox hb;have BP:=am hbox;clear hbox hg;have HB2:=am hb;clear hb;have HB:=HB2;clear HB2;have BPc:=zc8 BP.out)
 |((with_reducible refine gate_dst (N:=3) rfl ?_);refine box_event rfl (N:=3) rfl (t:=27) (by go_simp<;>rfl) ?_;intro gs hg w3 hbox hb;have BS:=am hbox;clear hbox hg;replace BP:=am (zb8 BP.out hb);replace HB:=am (below_step HB.out hb);clear hb BPc;have BPc:=zc8 BP.out;have BSc:=zc8 BS.out))
 go_loopw [5] (fun j w'=>∃ k:Nat,k<=s.log.length/\j= .int .i64 k/\Aside0 (∀ i,i < k->(inB (entryAt s.log i).task 0 (s.tasks.length - 1) && inB (entryAt s.log i).when_ 0 s.clock && inB (entryAt s.log i).from_ 0 i && listOk (entryAt s.log i).reads s.cells.length && listOk (entryAt s.log i).puts s.cells.length && inB (entryAt s.log i).act 0 ((actsAt p.bodies (taskAt s.tasks (entryAt s.log i).task.toNat).body.toNat).length - 1))=true)/\Aside0 (w'.heap[gp]? = some (.cells #[.slice Ac p.cells.length cc,.slice Ab p.bodies.length cb] 48 (0,0)))/\Aside0 (w'.heap[gs]? = some (.cells #[.slice A0 s.cells.length c0,.slice A1 s.tasks.length c1,.int .i64 s.clock,.slice A3 s.log.length c3] 27 (0,0)))/\Aside0 (Below w.heap.size w w')) (fun j _=>s.log.length - (intOf j).toNat)
 case atStart=>exact ⟨0,Nat.zero_le _,rfl,⟨fun i hi=>by omega⟩,BP,BS,HB⟩
 case round=>
  clear BP BS HB BPc BSc;obtain ⟨k,hk,rfl,HJ,BP,BS,HB⟩:=hrel;have BPc:=zc8 BP.out;have BSc:=zc8 BS.out;by_cases hlt:k < s.log.length
  ·obtain ⟨be,oe,cs,rfl,hcl,hK,hcc,-⟩:=C_field G3.out zEntry k hlt (by decide)
   obtain ⟨e,hex⟩:∃ x,x=entryAt s.log k:=⟨_,rfl⟩;have hz2:=HZ.out k hlt;rw [<-hex] at hz2;rw [show s.log.getD k zEntry=e from hex.symm] at hK;obtain ⟨E3,f3,E4,f4,rfl,-,g3,-,g4⟩:=kEntry_open hK;have R3:=am g3;have R4:=am g4;have HZ1:=am hz2.1;have HZ2:=am hz2.2;have HC:=am hcc;have EX:=am hex;have q0:(0:Int)<=(k:Int):=by omega
   have q1:(k:Int) < (s.log.length:Int):=by omega
   clear hcl hK hcc hex g3 g4 hz2;obtain ⟨bH1,hbH1⟩:∃ b,inB e.task 0 ((s.tasks.length:Int) - 1)=b:=⟨_,rfl⟩;have H1:Aside0 ((decide ((0:Int)<=e.task) && decide (e.task<=((s.tasks.length:Int) - 1)))=bH1):=⟨hbH1⟩;clear hbH1;obtain ⟨bH2,hbH2⟩:∃ b,inB e.when_ 0 s.clock=b:=⟨_,rfl⟩;have H2:Aside0 ((decide ((0:Int)<=e.when_) && decide (e.when_<=s.clock))=bH2):=⟨hbH2⟩;clear hbH2;obtain ⟨bH3,hbH3⟩:∃ b,inB e.from_ 0 (k:Int)=b:=⟨_,rfl⟩;have H3:Aside0 ((decide ((0:Int)<=e.from_) && decide (e.from_<=(k:Int)))=bH3):=⟨hbH3⟩;clear hbH3;obtain ⟨bH4,hbH4⟩:∃ b,listOk e.reads s.cells.length=b:=⟨_,rfl⟩;have H4:=am hbH4;clear hbH4;obtain ⟨bH5,hbH5⟩:∃ b,listOk e.puts s.cells.length=b:=⟨_,rfl⟩;have H5:=am hbH5;clear hbH5
   cases bH1 with
   | false=>
    go_wp2_with (first
    |((with_reducible refine gate_dst (N:=18) rfl ?_);refine wpList_load_mid rfl 119 (.tmp 17) rfl be (oe+k*6) rfl _ _ (fun j u hu=>cellB HB.out (HC.out j u hu)) Try.underlying119 rfl (by kernel_rfl) ?_)|((with_reducible refine gate_dst (N:=6) rfl ?_);refine box_event rfl (N:=6) rfl (t:=119) (by go_simp<;>rfl) ?_;intro ge hg wt hbox hb;have BE0:=am hbox;have GBE:=am hg;have HBT:=am hb;clear hbox hb hg)|((with_reducible refine gate_store (t:=119) (p:=6) rfl ?_);refine store_block rfl rfl 119 (.tmp 6) (.tmp 18) rfl rfl rfl BE0.out rfl (by kernel_rfl) (aB rfl) ?_;intro wn hbox hg;have BE:=am hbox;have hbx:=pw_below_grown HBT.out _ HBT.out.size hg (fun z hz=>by cases hz;exact Nat.le_of_eq GBE.out.symm);clear BE0 HBT hbox hg;replace BP:=am (zb8 BP.out hbx);replace BS:=am (zb8 BS.out hbx);replace HB:=am (below_step HB.out hbx);clear hbx BPc BSc;have BPc:=zc8 BP.out;have BSc:=zc8 BS.out;have BEc:=zc8 BE.out)
    |(go_at_call 50;refine (l6In_calls _ _ _ _).mono ?_;(first|rw [H1.out]);rintro e w9 ⟨rfl,rfl⟩))
    go_ret
    have hr:logOk p s=false:=by
     unfold logOk;exact allB_no hlt (by rw [<-EX.out];simp only [];rw [show inB e.task 0 ((s.tasks.length:Int) - 1)=false from H1.out];simp only [Bool.true_and,Bool.false_and,Bool.and_false])
    rw [hr]
    exact ⟨rfl,HB.out⟩
   | true=>
    cases bH2 with
    | false=>
     go_wp2_with (first
     |((with_reducible refine gate_dst (N:=18) rfl ?_);refine wpList_load_mid rfl 119 (.tmp 17) rfl be (oe+k*6) rfl _ _ (fun j u hu=>cellB HB.out (HC.out j u hu)) Try.underlying119 rfl (by kernel_rfl) ?_)|((with_reducible refine gate_dst (N:=6) rfl ?_);refine box_event rfl (N:=6) rfl (t:=119) (by go_simp<;>rfl) ?_;intro ge hg wt hbox hb;have BE0:=am hbox;have GBE:=am hg;have HBT:=am hb;clear hbox hb hg)|((with_reducible refine gate_store (t:=119) (p:=6) rfl ?_);refine store_block rfl rfl 119 (.tmp 6) (.tmp 18) rfl rfl rfl BE0.out rfl (by kernel_rfl) (aB rfl) ?_;intro wn hbox hg;have BE:=am hbox;have hbx:=pw_below_grown HBT.out _ HBT.out.size hg (fun z hz=>by cases hz;exact Nat.le_of_eq GBE.out.symm);clear BE0 HBT hbox hg;replace BP:=am (zb8 BP.out hbx);replace BS:=am (zb8 BS.out hbx);replace HB:=am (below_step HB.out hbx);clear hbx BPc BSc;have BPc:=zc8 BP.out;have BSc:=zc8 BS.out;have BEc:=zc8 BE.out)
     |(go_at_call 50;refine (l6In_calls _ _ _ _).mono ?_;(first|rw [H1.out] | rw [H2.out]);rintro e w9 ⟨rfl,rfl⟩))
     go_ret
     have hr:logOk p s=false:=by
      unfold logOk;exact allB_no hlt (by rw [<-EX.out];simp only [];rw [show inB e.task 0 ((s.tasks.length:Int) - 1)=true from H1.out,show inB e.when_ 0 s.clock=false from H2.out];simp only [Bool.true_and,Bool.false_and,Bool.and_false])
     rw [hr]
     exact ⟨rfl,HB.out⟩
    | true=>
     cases bH3 with
     | false=>
      go_wp2_with (first
      |((with_reducible refine gate_dst (N:=18) rfl ?_);refine wpList_load_mid rfl 119 (.tmp 17) rfl be (oe+k*6) rfl _ _ (fun j u hu=>cellB HB.out (HC.out j u hu)) Try.underlying119 rfl (by kernel_rfl) ?_)|((with_reducible refine gate_dst (N:=6) rfl ?_);refine box_event rfl (N:=6) rfl (t:=119) (by go_simp<;>rfl) ?_;intro ge hg wt hbox hb;have BE0:=am hbox;have GBE:=am hg;have HBT:=am hb;clear hbox hb hg)|((with_reducible refine gate_store (t:=119) (p:=6) rfl ?_);refine store_block rfl rfl 119 (.tmp 6) (.tmp 18) rfl rfl rfl BE0.out rfl (by kernel_rfl) (aB rfl) ?_;intro wn hbox hg;have BE:=am hbox;have hbx:=pw_below_grown HBT.out _ HBT.out.size hg (fun z hz=>by cases hz;exact Nat.le_of_eq GBE.out.symm);clear BE0 HBT hbox hg;replace BP:=am (zb8 BP.out hbx);replace BS:=am (zb8 BS.out hbx);replace HB:=am (below_step HB.out hbx);clear hbx BPc BSc;have BPc:=zc8 BP.out;have BSc:=zc8 BS.out;have BEc:=zc8 BE.out)
      |(go_at_call 50;refine (l6In_calls _ _ _ _).mono ?_;(first|rw [H1.out] | rw [H2.out] | rw [H3.out]);rintro e w9 ⟨rfl,rfl⟩))
      go_ret
      have hr:logOk p s=false:=by
       unfold logOk;exact allB_no hlt (by rw [<-EX.out];simp only [];rw [show inB e.task 0 ((s.tasks.length:Int) - 1)=true from H1.out,show inB e.when_ 0 s.clock=true from H2.out,show inB e.from_ 0 (k:Int)=false from H3.out];simp only [Bool.true_and,Bool.false_and,Bool.and_false])
      rw [hr]
      exact ⟨rfl,HB.out⟩
     | true=>
      cases bH4 with
      | false=>
       go_wp2_with (first
       |((with_reducible refine gate_dst (N:=18) rfl ?_);refine wpList_load_mid rfl 119 (.tmp 17) rfl be (oe+k*6) rfl _ _ (fun j u hu=>cellB HB.out (HC.out j u hu)) Try.underlying119 rfl (by kernel_rfl) ?_)|((with_reducible refine gate_dst (N:=6) rfl ?_);refine box_event rfl (N:=6) rfl (t:=119) (by go_simp<;>rfl) ?_;intro ge hg wt hbox hb;have BE0:=am hbox;have GBE:=am hg;have HBT:=am hb;clear hbox hb hg)|((with_reducible refine gate_store (t:=119) (p:=6) rfl ?_);refine store_block rfl rfl 119 (.tmp 6) (.tmp 18) rfl rfl rfl BE0.out rfl (by kernel_rfl) (aB rfl) ?_;intro wn hbox hg;have BE:=am hbox;have hbx:=pw_below_grown HBT.out _ HBT.out.size hg (fun z hz=>by cases hz;exact Nat.le_of_eq GBE.out.symm);clear BE0 HBT hbox hg;replace BP:=am (zb8 BP.out hbx);replace BS:=am (zb8 BS.out hbx);replace HB:=am (below_step HB.out hbx);clear hbx BPc BSc;have BPc:=zc8 BP.out;have BSc:=zc8 BS.out;have BEc:=zc8 BE.out)
       |(go_at_call 50;refine (l6In_calls _ _ _ _).mono ?_;(first|rw [H1.out] | rw [H2.out] | rw [H3.out]);rintro e w9 ⟨rfl,rfl⟩)
       |(go_at_call 92;refine (l12List_calls _ _ _ _ _ (by first|exact Kd.C_below R3.out HB.out | exact Kd.C_below R4.out HB.out) (by first|exact HZ1.out | exact HZ2.out) (by omega) (by omega)).mono ?_;(first|rw [H4.out]);rintro e w9 ⟨rfl,hb⟩;replace BP:=am (zb8 BP.out hb);replace BS:=am (zb8 BS.out hb);replace BE:=am (zb8 BE.out hb);replace HB:=am (below_step HB.out hb);clear hb BPc BSc BEc;have BPc:=zc8 BP.out;have BSc:=zc8 BS.out;have BEc:=zc8 BE.out))
       go_ret
       have hr:logOk p s=false:=by
        unfold logOk;exact allB_no hlt (by rw [<-EX.out];simp only [];rw [show inB e.task 0 ((s.tasks.length:Int) - 1)=true from H1.out,show inB e.when_ 0 s.clock=true from H2.out,show inB e.from_ 0 (k:Int)=true from H3.out,show listOk e.reads s.cells.length=false from H4.out];simp only [Bool.true_and,Bool.false_and,Bool.and_false])
       rw [hr]
       exact ⟨rfl,HB.out⟩
      | true=>
       cases bH5 with
       | false=>
        go_wp2_with (first
        |((with_reducible refine gate_dst (N:=18) rfl ?_);refine wpList_load_mid rfl 119 (.tmp 17) rfl be (oe+k*6) rfl _ _ (fun j u hu=>cellB HB.out (HC.out j u hu)) Try.underlying119 rfl (by kernel_rfl) ?_)|((with_reducible refine gate_dst (N:=6) rfl ?_);refine box_event rfl (N:=6) rfl (t:=119) (by go_simp<;>rfl) ?_;intro ge hg wt hbox hb;have BE0:=am hbox;have GBE:=am hg;have HBT:=am hb;clear hbox hb hg)|((with_reducible refine gate_store (t:=119) (p:=6) rfl ?_);refine store_block rfl rfl 119 (.tmp 6) (.tmp 18) rfl rfl rfl BE0.out rfl (by kernel_rfl) (aB rfl) ?_;intro wn hbox hg;have BE:=am hbox;have hbx:=pw_below_grown HBT.out _ HBT.out.size hg (fun z hz=>by cases hz;exact Nat.le_of_eq GBE.out.symm);clear BE0 HBT hbox hg;replace BP:=am (zb8 BP.out hbx);replace BS:=am (zb8 BS.out hbx);replace HB:=am (below_step HB.out hbx);clear hbx BPc BSc;have BPc:=zc8 BP.out;have BSc:=zc8 BS.out;have BEc:=zc8 BE.out)
        |(go_at_call 50;refine (l6In_calls _ _ _ _).mono ?_;(first|rw [H1.out] | rw [H2.out] | rw [H3.out]);rintro e w9 ⟨rfl,rfl⟩)
        |(go_at_call 92;refine (l12List_calls _ _ _ _ _ (by first|exact Kd.C_below R3.out HB.out | exact Kd.C_below R4.out HB.out) (by first|exact HZ1.out | exact HZ2.out) (by omega) (by omega)).mono ?_;(first|rw [H4.out] | rw [H5.out]);rintro e w9 ⟨rfl,hb⟩;replace BP:=am (zb8 BP.out hb);replace BS:=am (zb8 BS.out hb);replace BE:=am (zb8 BE.out hb);replace HB:=am (below_step HB.out hb);clear hb BPc BSc BEc;have BPc:=zc8 BP.out;have BSc:=zc8 BS.out;have BEc:=zc8 BE.out))
        go_ret
        have hr:logOk p s=false:=by
         unfold logOk;exact allB_no hlt (by rw [<-EX.out];simp only [];rw [show inB e.task 0 ((s.tasks.length:Int) - 1)=true from H1.out,show inB e.when_ 0 s.clock=true from H2.out,show inB e.from_ 0 (k:Int)=true from H3.out,show listOk e.reads s.cells.length=true from H4.out,show listOk e.puts s.cells.length=false from H5.out];simp only [Bool.true_and,Bool.false_and,Bool.and_false])
        rw [hr]
        exact ⟨rfl,HB.out⟩
       | true=>
        go_wp2_with (first
        |((with_reducible refine gate_dst (N:=18) rfl ?_);refine wpList_load_mid rfl 119 (.tmp 17) rfl be (oe+k*6) rfl _ _ (fun j u hu=>cellB HB.out (HC.out j u hu)) Try.underlying119 rfl (by kernel_rfl) ?_)|((with_reducible refine gate_dst (N:=6) rfl ?_);refine box_event rfl (N:=6) rfl (t:=119) (by go_simp<;>rfl) ?_;intro ge hg wt hbox hb;have BE0:=am hbox;have GBE:=am hg;have HBT:=am hb;clear hbox hb hg)|((with_reducible refine gate_store (t:=119) (p:=6) rfl ?_);refine store_block rfl rfl 119 (.tmp 6) (.tmp 18) rfl rfl rfl BE0.out rfl (by kernel_rfl) (aB rfl) ?_;intro wn hbox hg;have BE:=am hbox;have hbx:=pw_below_grown HBT.out _ HBT.out.size hg (fun z hz=>by cases hz;exact Nat.le_of_eq GBE.out.symm);clear BE0 HBT hbox hg;replace BP:=am (zb8 BP.out hbx);replace BS:=am (zb8 BS.out hbx);replace HB:=am (below_step HB.out hbx);clear hbx BPc BSc;have BPc:=zc8 BP.out;have BSc:=zc8 BS.out;have BEc:=zc8 BE.out)
        |(go_at_call 50;refine (l6In_calls _ _ _ _).mono ?_;(first|rw [H1.out] | rw [H2.out] | rw [H3.out]);rintro e w9 ⟨rfl,rfl⟩)
        |(go_at_call 92;refine (l12List_calls _ _ _ _ _ (by first|exact Kd.C_below R3.out HB.out | exact Kd.C_below R4.out HB.out) (by first|exact HZ1.out | exact HZ2.out) (by omega) (by omega)).mono ?_;(first|rw [H4.out] | rw [H5.out]);rintro e w9 ⟨rfl,hb⟩;replace BP:=am (zb8 BP.out hb);replace BS:=am (zb8 BS.out hb);replace BE:=am (zb8 BE.out hb);replace HB:=am (below_step HB.out hb);clear hb BPc BSc BEc;have BPc:=zc8 BP.out;have BSc:=zc8 BS.out;have BEc:=zc8 BE.out))
        have hu:=inB_iff.1 (show inB e.task 0 ((s.tasks.length:Int) - 1)=true from H1.out);obtain ⟨u,hu0⟩:=Int.eq_ofNat_of_zero_le hu.1;have hul:u < s.tasks.length:=by omega
        have r0:(0:Int)<=e.task:=hu.1;have r1:e.task < (s.tasks.length:Int):=by omega
        have r4:e.task.toNat=u:=by omega
        obtain ⟨b,o,cs,rfl,hcl,hK,hcc,-⟩:=C_field G1.out zTask u hul (by decide);obtain ⟨tb,htb⟩:∃ x,x=(taskAt s.tasks u).body:=⟨_,rfl⟩;have hbb:=HBD.out u hul;rw [<-htb] at hbb;rw [show s.tasks.getD u zTask=taskAt s.tasks u from rfl] at hK;obtain ⟨E3x,f3x,E8x,f8x,E9x,f9x,E10x,f10x,rfl,-⟩:=kTask_open hK;have pw:=hcc 0 _ rfl;simp only [show kTask.sz=13 from rfl,Nat.add_zero] at pw;rw [<-htb] at pw;have PW:=am pw;have HTB:=am htb;clear hcl hK hcc pw htb hu hu0;obtain ⟨kb,hkb0⟩:=Int.eq_ofNat_of_zero_le hbb.1;have hkb:kb < p.bodies.length:=by omega
        have v0:(0:Int)<=tb:=hbb.1;have v1:tb < (p.bodies.length:Int):=hbb.2;have v4:tb.toNat=kb:=by omega
        obtain ⟨bb,ob,cs2,rfl,hcl2,hK2,hcc2,-⟩:=C_field GB.out ([]:List Act) kb hkb (by decide);obtain ⟨Aa,ca,rfl,la,-⟩:=hK2;have p2:=hcc2 0 _ rfl;simp only [show (Kd.slice 108 kAct).sz=1 from rfl,Nat.mul_one,Nat.add_zero] at p2;rw [show (p.bodies.getD kb []).length=(actsAt p.bodies kb).length from rfl] at p2;have P2:=am p2;obtain ⟨na,hna⟩:∃ x,x=(actsAt p.bodies kb).length:=⟨_,rfl⟩;have hnl:na<=1048576:=by rw [hna];exact HSZ.out kb hkb
        rw [<-hna] at P2;have HNA:=am hna;have w5:wrap64 ((na:Int) - 1)=(na:Int) - 1:=by unfold wrap64;omega
        clear hcl2 hcc2 p2 la hna hbb hkb0;obtain ⟨bH6,hbH6⟩:∃ b,inB e.act 0 ((na:Int) - 1)=b:=⟨_,rfl⟩;have H6:Aside0 ((decide ((0:Int)<=e.act) && decide (e.act<=(na:Int) - 1))=bH6):=⟨hbH6⟩;clear hbH6
        cases bH6 with
        | false=>
         refine st9 (n:=17) (S:=fun W=>W.heap[gp]? = some (.cells #[.slice Ac p.cells.length cc,.slice (some ⟨bb,ob,none⟩) p.bodies.length cb] 48 (0,0))/\W.heap[gs]? = some (.cells #[.slice A0 s.cells.length c0,.slice (some ⟨b,o,none⟩) s.tasks.length c1,.int .i64 s.clock,.slice (some ⟨be,oe,none⟩) s.log.length c3] 27 (0,0))/\W.heap[ge]? = some (.cells #[.int .i64 e.task,.int .i64 e.act,.int .i64 e.when_,.slice E3 e.reads.length f3,.slice E4 e.puts.length f4,.int .i64 e.from_] 119 (0,0))/\W.cell? ⟨b,o+u*13,none⟩=some (.int .i64 tb)/\W.cell? ⟨bb,ob+kb,none⟩=some (.slice Aa na ca)) (ds:= []) (by kernel_rfl) rfl ⟨blk_drew BP.out,blk_drew BS.out,blk_drew BE.out,(show w9.cell? ⟨b,o+u*13,none⟩=_ from cellB HB.out PW.out),(show w9.cell? ⟨bb,ob+kb,none⟩=_ from cellB HB.out P2.out)⟩ (fun hHeld=> ?_);have hb:=below_drew (Below.refl w9.heap.size w9);generalize w9.drew=w7 at hb hHeld ⊢;have HB7:=am (below_step HB.out hb);clear hb HB BP BS BE BPc BSc BEc;refine ba9 (fuel:=2) (n:=15) [0,1,2,3,4,5,6,7,8,9,10,11,12,13,14] (by kernel_rfl) (fun N _ _ _ _ h=>by cases N <;> exact h) hHeld ?_
         iterate 15 (
          refine stillS_step (v:= ?_) (a':= ?_) rfl (Or.inl ⟨by rfl, ?_⟩) ?_ ?_;rotate_left
          ·rintro W ⟨s0,s1,s2,s3,s4⟩
           have t0:=zc8 s0;have t1:=zc8 s1;have t2:=zc8 s2;clear s0 s1 s2;go_simp;with_reducible rfl
          rotate_left
          ·simp only [Act.put,sA,sZ,sS,i64_w]
           rfl)
         refine stillS_nil ?_;refine on9 (i:=15) (N:=some 75) rfl rfl (by kernel_rfl) (by decide) (fun K hK=> ?_);refine goes_ Try.func50 (by kernel_rfl) rfl #[.int .i64 e.act,.int .i64 0,.int .i64 (wrap64 ((na:Int) - 1))] (by rfl) rfl rfl (by (try simp only [List.map_toArray,List.map_cons,List.map_nil]);first | done | rfl) ?_;refine (l6In_calls e.act 0 (wrap64 ((na:Int) - 1)) _).mono ?_;rw [w5,H6.out];rintro e9 wn ⟨rfl,rfl⟩;refine ⟨_,rfl, ?_⟩;refine hK.out _ _ hHeld (fun hHeld=> ?_);clear hK K;refine norm_ (a':= ?_) ?_ ?_;rotate_left
         ·show Act.put _ (some 75) _=_
          simp only [Act.put,sA,sZ,sS,i64_w];rfl
         refine ba9 (fuel:=0) (n:=1) [16] (by kernel_rfl) (fun N _ _ _ _ h=>by cases N <;> exact h) hHeld ?_
         iterate 1 (
          refine stillS_step (v:= ?_) (a':= ?_) rfl (Or.inl ⟨by rfl, ?_⟩) ?_ ?_;rotate_left
          ·rintro W ⟨s0,s1,s2,s3,s4⟩
           have t0:=zc8 s0;have t1:=zc8 s1;have t2:=zc8 s2;clear s0 s1 s2;go_simp;with_reducible rfl
          rotate_left
          ·simp only [Act.put,sA,sZ,sS,i64_w]
           rfl)
         refine stillS_nil ?_;refine done_ (by kernel_rfl) ?_;have BP:=am hHeld.1;have BS:=am hHeld.2.1;have HB:=HB7;clear hHeld HB7;have BPc:=zc8 BP.out;have BSc:=zc8 BS.out;go_wp2;go_ret
         have hr:logOk p s=false:=by
          unfold logOk;exact allB_no hlt (by rw [<-EX.out];(try simp only []);rw [show inB e.task 0 ((s.tasks.length:Int) - 1)=true from H1.out,show inB e.when_ 0 s.clock=true from H2.out,show inB e.from_ 0 (k:Int)=true from H3.out,show listOk e.reads s.cells.length=true from H4.out,show listOk e.puts s.cells.length=true from H5.out,r4,<-HTB.out,v4,<-HNA.out,show inB e.act 0 ((na:Int) - 1)=false from H6.out];simp only [Bool.and_false])
         rw [hr]
         exact ⟨rfl,HB.out⟩
        | true=>
         refine st9 (n:=17) (S:=fun W=>W.heap[gp]? = some (.cells #[.slice Ac p.cells.length cc,.slice (some ⟨bb,ob,none⟩) p.bodies.length cb] 48 (0,0))/\W.heap[gs]? = some (.cells #[.slice A0 s.cells.length c0,.slice (some ⟨b,o,none⟩) s.tasks.length c1,.int .i64 s.clock,.slice (some ⟨be,oe,none⟩) s.log.length c3] 27 (0,0))/\W.heap[ge]? = some (.cells #[.int .i64 e.task,.int .i64 e.act,.int .i64 e.when_,.slice E3 e.reads.length f3,.slice E4 e.puts.length f4,.int .i64 e.from_] 119 (0,0))/\W.cell? ⟨b,o+u*13,none⟩=some (.int .i64 tb)/\W.cell? ⟨bb,ob+kb,none⟩=some (.slice Aa na ca)) (ds:= []) (by kernel_rfl) rfl ⟨blk_drew BP.out,blk_drew BS.out,blk_drew BE.out,(show w9.cell? ⟨b,o+u*13,none⟩=_ from cellB HB.out PW.out),(show w9.cell? ⟨bb,ob+kb,none⟩=_ from cellB HB.out P2.out)⟩ (fun hHeld=> ?_);have hb:=below_drew (Below.refl w9.heap.size w9);generalize w9.drew=w7 at hb hHeld ⊢;have HB7:=am (below_step HB.out hb);clear hb HB BP BS BE BPc BSc BEc;refine ba9 (fuel:=2) (n:=15) [0,1,2,3,4,5,6,7,8,9,10,11,12,13,14] (by kernel_rfl) (fun N _ _ _ _ h=>by cases N <;> exact h) hHeld ?_
         iterate 15 (
          refine stillS_step (v:= ?_) (a':= ?_) rfl (Or.inl ⟨by rfl, ?_⟩) ?_ ?_;rotate_left
          ·rintro W ⟨s0,s1,s2,s3,s4⟩
           have t0:=zc8 s0;have t1:=zc8 s1;have t2:=zc8 s2;clear s0 s1 s2;go_simp;with_reducible rfl
          rotate_left
          ·simp only [Act.put,sA,sZ,sS,i64_w]
           rfl)
         refine stillS_nil ?_;refine on9 (i:=15) (N:=some 75) rfl rfl (by kernel_rfl) (by decide) (fun K hK=> ?_);refine goes_ Try.func50 (by kernel_rfl) rfl #[.int .i64 e.act,.int .i64 0,.int .i64 (wrap64 ((na:Int) - 1))] (by rfl) rfl rfl (by (try simp only [List.map_toArray,List.map_cons,List.map_nil]);first | done | rfl) ?_;refine (l6In_calls e.act 0 (wrap64 ((na:Int) - 1)) _).mono ?_;rw [w5,H6.out];rintro e9 wn ⟨rfl,rfl⟩;refine ⟨_,rfl, ?_⟩;refine hK.out _ _ hHeld (fun hHeld=> ?_);clear hK K;refine norm_ (a':= ?_) ?_ ?_;rotate_left
         ·show Act.put _ (some 75) _=_
          simp only [Act.put,sA,sZ,sS,i64_w];rfl
         refine ba9 (fuel:=0) (n:=1) [16] (by kernel_rfl) (fun N _ _ _ _ h=>by cases N <;> exact h) hHeld ?_
         iterate 1 (
          refine stillS_step (v:= ?_) (a':= ?_) rfl (Or.inl ⟨by rfl, ?_⟩) ?_ ?_;rotate_left
          ·rintro W ⟨s0,s1,s2,s3,s4⟩
           have t0:=zc8 s0;have t1:=zc8 s1;have t2:=zc8 s2;clear s0 s1 s2;go_simp;with_reducible rfl
          rotate_left
          ·simp only [Act.put,sA,sZ,sS,i64_w]
           rfl)
         refine stillS_nil ?_;refine done_ (by kernel_rfl) ?_;have BP:=am hHeld.1;have BS:=am hHeld.2.1;have HB:=HB7;clear hHeld HB7;have BPc:=zc8 BP.out;have BSc:=zc8 BS.out;go_wp2;go_roundw
         case rel=>exact ⟨k+1,by omega,by go_num,⟨fun i hi=>by rcases Nat.lt_or_ge i k with h | h;exact HJ.out i h;obtain rfl:k=i:=(by omega);rw [<-EX.out];(try simp only []);rw [show inB e.task 0 ((s.tasks.length:Int) - 1)=true from H1.out,show inB e.when_ 0 s.clock=true from H2.out,show inB e.from_ 0 (k:Int)=true from H3.out,show listOk e.reads s.cells.length=true from H4.out,show listOk e.puts s.cells.length=true from H5.out,r4,<-HTB.out,v4,<-HNA.out,show inB e.act 0 ((na:Int) - 1)=true from H6.out];rfl⟩,BP,BS,HB⟩
         case measure=>simp [intOf];omega
  ·obtain rfl:k=s.log.length:=by omega
   go_wp2;go_ret
   have hr:logOk p s=true:=by
    unfold logOk;exact allB_iff.2 HJ.out
   rw [hr];exact ⟨rfl,HB.out⟩
theorem kid4_le (n k0 k1 k2 k3:Nat):decide (n<=k0+k1+k2+k3)=decide ((n:Int)<=(k0:Int)+(k1:Int)+(k2:Int)+(k3:Int)):=decide_eq_decide.2 (by omega)
theorem wsum2 {k0 k1:Nat} (h0:k0<=1048576) (h1:k1<=1048576):wrap64 ((k0:Int)+(k1:Int))=(k0:Int)+(k1:Int):=by unfold wrap64;omega
theorem wsum3 {k0 k1 k2:Nat} (h0:k0<=1048576) (h1:k1<=1048576) (h2:k2<=1048576):wrap64 ((k0:Int)+(k1:Int)+(k2:Int))=(k0:Int)+(k1:Int)+(k2:Int):=by unfold wrap64;omega
theorem wsum4 {k0 k1 k2 k3:Nat} (h0:k0<=1048576) (h1:k1<=1048576) (h2:k2<=1048576) (h3:k3<=1048576):wrap64 ((k0:Int)+(k1:Int)+(k2:Int)+(k3:Int))=(k0:Int)+(k1:Int)+(k2:Int)+(k3:Int):=by unfold wrap64;omega
theorem l12Act_calls (p:Prog) (ps:List Value) (s:Sys) (ss:List Value) (i:Nat) (w:World) (hp:kProg.K w p ps) (hs:kSys.K w s ss) (hz:ProgSz p) (hi:i < s.tasks.length) (hn:s.tasks.length<=1048576) (hb0:0<=(taskAt s.tasks i).body) (hb1:(taskAt s.tasks i).body < p.bodies.length) (hp0:0<=(taskAt s.tasks i).pc) (hrn:(taskAt s.tasks i).reads.length<=1048576) (hpn:(taskAt s.tasks i).puts.length<=1048576):
  Calls Try.prog 95 #[.agg ps.toArray,.agg ss.toArray,.int .i64 i] w fun e w'=>e= .returned (.bool (wayOk p s i))/\Below w.heap.size w w':=by
 have HPK:=am hp;have HSK:=am hs;obtain ⟨Ac,cc,Ab,cb,rfl,-,-,-,gb⟩:=kProg_open hp;obtain ⟨A0,c0,A1,c1,A3,c3,rfl,-,-,-,g1,-⟩:=kSys_open hs;obtain ⟨b,o,cs,rfl,hcl,hK,hcc,-⟩:=C_field g1 zTask i hi (by decide);obtain ⟨t,ht⟩:∃ x,x=taskAt s.tasks i:=⟨_,rfl⟩;rw [<-ht] at hb0 hb1 hp0 hrn hpn;rw [show s.tasks.getD i zTask=t from ht.symm] at hK;have HKT0:=am hK;obtain ⟨B3,d3,B8,d8,B9,d9,B10,d10,rfl,-⟩:=kTask_open hK;have HKT:=HKT0;have HC:=am hcc;obtain ⟨kb,hkb0⟩:=Int.eq_ofNat_of_zero_le hb0;have hkb:kb < p.bodies.length:=by omega
 have v4:t.body.toNat=kb:=by omega
 obtain ⟨bb,ob,cs2,rfl,hcl2,hK2,hcc2,-⟩:=C_field gb ([]:List Act) kb hkb (by decide);obtain ⟨Aa,ca,rfl,la,ga2⟩:=hK2;obtain ⟨acts,hacts⟩:∃ x,x=actsAt p.bodies kb:=⟨_,rfl⟩;have hal:acts.length<=1048576:=by rw [hacts,actsAt_eq hkb];exact (hz.acts _ (List.getElem_mem hkb)).1
 have p2:=hcc2 0 _ rfl;simp only [show (Kd.slice 108 kAct).sz=1 from rfl,Nat.mul_one,Nat.add_zero] at p2;rw [show p.bodies.getD kb []=acts from hacts.symm] at p2 ga2;have P2:=am p2;have GA:=am ga2;have HU:Aside0 (wayOk p s i=if t.way=0 then decide (t.stage=0) || (decide (t.pc < acts.length) && decide ((actAt acts t.pc.toNat).kind=1) && stOk t (actAt acts t.pc.toNat).deeds.length) else if t.way=1 then decide (t.pc < acts.length) && decide ((actAt acts t.pc.toNat).kind=2) && decide ((actAt acts t.pc.toNat).kids.length<=kidsN s.tasks i 0+kidsN s.tasks i 1+kidsN s.tasks i 2+kidsN s.tasks i 3) else if t.way=2 then decide (t.pc=acts.length) else true):=⟨by rw [hacts,<-v4,ht];rfl⟩;have q0:(0:Int)<=(i:Int):=by omega
 have q1:(i:Int) < (s.tasks.length:Int):=by omega
 clear hp hs gb g1 hcl hK hcc ht HKT0 hkb0 hcl2 hcc2 la ga2 hacts p2 hz;go_enter Try.func95,Try.ntmps95;by_cases w0x:t.way=0
 ·have yW0:(t.way == 0)=true:=by simp [w0x]
  have W0:=am w0x;clear w0x;by_cases s0x:t.stage=0
  ·have yS0:(t.stage == 0)=true:=by simp [s0x]
   have S0:=am s0x;clear s0x
   go_wp2_with (first
   |((with_reducible refine gate_dst (N:=3) rfl ?_);refine box_event rfl (N:=3) rfl (t:=48) (by go_simp<;>rfl) ?_;intro gp hg w3 hbox hb;have BP:=am hbox;clear hbox hg;have HB2:=am hb;clear hb;have HB:=HB2;clear HB2;have BPc:=zc8 BP.out)
   |((with_reducible refine gate_dst (N:=4) rfl ?_);refine box_event rfl (N:=4) rfl (t:=27) (by go_simp<;>rfl) ?_;intro gs hg w4 hbox hb;have BS:=am hbox;clear hbox hg;replace BP:=am (zb8 BP.out hb);replace HB:=am (below_step HB.out hb);clear hb BPc;have BPc:=zc8 BP.out;have BSc:=zc8 BS.out)
   |((with_reducible refine gate_dst (N:=15) rfl ?_);refine wpList_load_mid rfl 38 (.tmp 14) rfl b (o+i*13) rfl _ _ (fun j u hu=>cellB HB.out (HC.out j u hu)) Try.underlying38 rfl (by kernel_rfl) ?_)|((with_reducible refine gate_dst (N:=7) rfl ?_);refine box_event rfl (N:=7) rfl (t:=38) (by go_simp<;>rfl) ?_;intro gt hg wt hbox hb;have BT0:=am hbox;have GBT:=am hg;have HBT:=am hb;clear hbox hb hg)|((with_reducible refine gate_store (t:=38) (p:=7) rfl ?_);refine store_block rfl rfl 38 (.tmp 7) (.tmp 15) rfl rfl rfl BT0.out rfl (by kernel_rfl) (aB rfl) ?_;intro wn hbox hg;have BT:=am hbox;have hbx:=pw_below_grown HBT.out _ HBT.out.size hg (fun z hz=>by cases hz;exact Nat.le_of_eq GBT.out.symm);clear BT0 HBT hbox hg;replace BP:=am (zb8 BP.out hbx);replace BS:=am (zb8 BS.out hbx);replace HB:=am (below_step HB.out hbx);clear hbx BPc BSc;have BPc:=zc8 BP.out;have BSc:=zc8 BS.out;have BTc:=zc8 BT.out;have p2w:=cellB HB.out P2.out)
   |((with_reducible refine gate_dst (N:=22) rfl ?_);refine wpList_load_mid rfl 48 (.tmp 3) rfl gp 0 rfl _ _ (lC BP.out) Try.underlying48 rfl (by kernel_rfl) ?_)
   |((with_reducible refine gate_dst (N:=23) rfl ?_);refine wpList_load_mid rfl 27 (.tmp 4) rfl gs 0 rfl _ _ (lC BS.out) Try.underlying27 rfl (by kernel_rfl) ?_)
   |((with_reducible refine gate_dst (N:=25) rfl ?_);refine box_event rfl (N:=25) rfl (t:=152) (by go_simp<;>rfl) ?_;intro gg hg w25 hbox hb;have BG:=am hbox;clear hbox hg;replace BP:=am (zb8 BP.out hb);replace BS:=am (zb8 BS.out hb);replace BT:=am (zb8 BT.out hb);replace HB:=am (below_step HB.out hb);clear hb BPc BSc BTc;have BPc:=zc8 BP.out;have BSc:=zc8 BS.out;have BTc:=zc8 BT.out;have BGc:=zc8 BG.out))
   refine st9 (n:=31) (S:=fun W=>W.heap[gt]? = some (.cells #[.int .i64 t.body,.int .i64 t.pc,.int .i64 t.up,.slice B3 t.regs.length d3,.int .i64 t.way,.int .i64 t.stage,.int .i64 t.at_,.int .i64 t.since,.slice B8 t.old.length d8,.slice B9 t.reads.length d9,.slice B10 t.puts.length d10,.int .i64 t.when_,.int .i64 t.from_] 38 (0,0))) (ds:= []) (by kernel_rfl) rfl (by exact blk_drew BT.out) (fun hHeld=> ?_);have hb:=below_drew (Below.refl w25.heap.size w25);generalize w25.drew=w7 at hb hHeld ⊢;have HB7:=am (below_step HB.out hb);clear hb HB BP BS BT BG BPc BSc BTc BGc;refine ba9 (fuel:=4) (n:=27) [0,1,2,3,4,5,6,7,8,9,10,11,12,13,14,15,16,17,18,19,20,21,22,23,24,25,26] (by kernel_rfl) (fun N _ _ _ _ h=>by cases N <;> exact h) hHeld ?_
   iterate 4 (
    refine stillS_step (v:= ?_) (a':= ?_) rfl (Or.inl ⟨by rfl, ?_⟩) ?_ ?_;rotate_left
    ·rintro W s0
     have t0:=zc8 s0;clear s0;go_simp;with_reducible rfl
    rotate_left
    ·simp only [Act.put,sA,sZ,sS,i64_w]
     rfl)
   iterate 23 (
    refine stillS_step (v:=undef) (a':= ?_) rfl (Or.inr ⟨by rfl,rfl⟩) ?_ ?_;rotate_left
    ·simp only [Act.put,sA,sZ,sS]
     rfl)
   refine stillS_nil ?_;refine on9 (i:=27) (N:=some 57) rfl rfl (by kernel_rfl) (by decide) (fun K hK=> ?_);rw [if_neg (by exact Bool.false_ne_true)];refine hK.out _ _ hHeld (fun hHeld=> ?_);clear hK K;refine norm_ (a':= ?_) ?_ ?_;rotate_left
   ·show Act.put _ (some 57) _=_
    simp only [Act.put,sA,sZ,sS,i64_w];rfl
   refine ba9 (fuel:=0) (n:=3) [28,29,30] (by kernel_rfl) (fun N _ _ _ _ h=>by cases N <;> exact h) hHeld ?_
   iterate 1 (
    refine stillS_step (v:=undef) (a':= ?_) rfl (Or.inr ⟨by rfl,rfl⟩) ?_ ?_;rotate_left
    ·simp only [Act.put,sA,sZ,sS]
     rfl)
   iterate 2 (
    refine stillS_step (v:= ?_) (a':= ?_) rfl (Or.inl ⟨by rfl, ?_⟩) ?_ ?_;rotate_left
    ·rintro W s0
     have t0:=zc8 s0;clear s0;go_simp;with_reducible rfl
    rotate_left
    ·simp only [Act.put,sA,sZ,sS,i64_w]
     rfl)
   refine stillS_nil ?_;refine done_ (by kernel_rfl) ?_;have HB:=HB7;clear hHeld HB7;go_wp2;go_ret
   have hr:wayOk p s i=true:=by
    rw [HU.out,if_pos W0.out];rw [decide_eq_true S0.out,Bool.true_or]
   rw [hr];exact ⟨rfl,HB.out⟩
  ·have yS0:(t.stage == 0)=false:=by simp [s0x]
   have S0:=am s0x;clear s0x;by_cases pcx:t.pc < (acts.length:Int)
   ·have yPC:decide (t.pc < (acts.length:Int))=true:=decide_eq_true pcx
    have PC:=am pcx;clear pcx;obtain ⟨ka,hka0⟩:=Int.eq_ofNat_of_zero_le hp0;have hka:ka < acts.length:=by have:=PC.out;omega
    have v5:t.pc.toNat=ka:=by omega
    have v6:t.pc < (acts.length:Int):=PC.out;obtain ⟨ba,oa,cs3,rfl,hcl3,hK3,hcc3,-⟩:=C_field GA.out zAct ka hka (by decide);obtain ⟨a,hax⟩:∃ x,x=actAt acts ka:=⟨_,rfl⟩;rw [show acts.getD ka zAct=a from hax.symm] at hK3;obtain ⟨Ad,cd,Ak,ck,rfl,-⟩:=kAct_open hK3;have HA:=am hcc3;have AX:=am hax;have ua0:=hcc3 0 _ rfl;have ua2:=hcc3 2 _ rfl;simp only [show kAct.sz=4 from rfl,Nat.add_zero] at ua0 ua2;have UA0:=am ua0;have UA2:=am ua2;clear hcl3 hK3 hcc3 hax ua0 ua2 hka0;by_cases kdx:a.kind=1
    ·have yKD:(a.kind == 1)=true:=by simp [kdx]
     have KD:=am kdx;clear kdx;obtain ⟨bst,hst⟩:∃ x,x=stOk t (a.deeds.length:Int):=⟨_,rfl⟩;have ST:=am hst.symm;clear hst
     go_wp2_with (first
     |((with_reducible refine gate_dst (N:=3) rfl ?_);refine box_event rfl (N:=3) rfl (t:=48) (by go_simp<;>rfl) ?_;intro gp hg w3 hbox hb;have BP:=am hbox;clear hbox hg;have HB2:=am hb;clear hb;have HB:=HB2;clear HB2;have BPc:=zc8 BP.out)
     |((with_reducible refine gate_dst (N:=4) rfl ?_);refine box_event rfl (N:=4) rfl (t:=27) (by go_simp<;>rfl) ?_;intro gs hg w4 hbox hb;have BS:=am hbox;clear hbox hg;replace BP:=am (zb8 BP.out hb);replace HB:=am (below_step HB.out hb);clear hb BPc;have BPc:=zc8 BP.out;have BSc:=zc8 BS.out)
     |((with_reducible refine gate_dst (N:=15) rfl ?_);refine wpList_load_mid rfl 38 (.tmp 14) rfl b (o+i*13) rfl _ _ (fun j u hu=>cellB HB.out (HC.out j u hu)) Try.underlying38 rfl (by kernel_rfl) ?_)|((with_reducible refine gate_dst (N:=7) rfl ?_);refine box_event rfl (N:=7) rfl (t:=38) (by go_simp<;>rfl) ?_;intro gt hg wt hbox hb;have BT0:=am hbox;have GBT:=am hg;have HBT:=am hb;clear hbox hb hg)|((with_reducible refine gate_store (t:=38) (p:=7) rfl ?_);refine store_block rfl rfl 38 (.tmp 7) (.tmp 15) rfl rfl rfl BT0.out rfl (by kernel_rfl) (aB rfl) ?_;intro wn hbox hg;have BT:=am hbox;have hbx:=pw_below_grown HBT.out _ HBT.out.size hg (fun z hz=>by cases hz;exact Nat.le_of_eq GBT.out.symm);clear BT0 HBT hbox hg;replace BP:=am (zb8 BP.out hbx);replace BS:=am (zb8 BS.out hbx);replace HB:=am (below_step HB.out hbx);clear hbx BPc BSc;have BPc:=zc8 BP.out;have BSc:=zc8 BS.out;have BTc:=zc8 BT.out;have p2w:=cellB HB.out P2.out)
     |((with_reducible refine gate_dst (N:=22) rfl ?_);refine wpList_load_mid rfl 48 (.tmp 3) rfl gp 0 rfl _ _ (lC BP.out) Try.underlying48 rfl (by kernel_rfl) ?_)
     |((with_reducible refine gate_dst (N:=23) rfl ?_);refine wpList_load_mid rfl 27 (.tmp 4) rfl gs 0 rfl _ _ (lC BS.out) Try.underlying27 rfl (by kernel_rfl) ?_)
     |((with_reducible refine gate_dst (N:=25) rfl ?_);refine box_event rfl (N:=25) rfl (t:=152) (by go_simp<;>rfl) ?_;intro gg hg w25 hbox hb;have BG:=am hbox;clear hbox hg;replace BP:=am (zb8 BP.out hb);replace BS:=am (zb8 BS.out hb);replace BT:=am (zb8 BT.out hb);replace HB:=am (below_step HB.out hb);clear hb BPc BSc BTc;have BPc:=zc8 BP.out;have BSc:=zc8 BS.out;have BTc:=zc8 BT.out;have BGc:=zc8 BG.out))
     refine st9 (n:=31) (S:=fun W=>W.heap[gt]? = some (.cells #[.int .i64 t.body,.int .i64 t.pc,.int .i64 t.up,.slice B3 t.regs.length d3,.int .i64 t.way,.int .i64 t.stage,.int .i64 t.at_,.int .i64 t.since,.slice B8 t.old.length d8,.slice B9 t.reads.length d9,.slice B10 t.puts.length d10,.int .i64 t.when_,.int .i64 t.from_] 38 (0,0))/\∀ j u, [.int .i64 a.kind,.slice Ad a.deeds.length cd,.slice Ak a.kids.length ck,.int .i64 a.reg][j]? = some u->W.cell? ⟨ba,oa+ka*4+j,none⟩=some u) (ds:= []) (by kernel_rfl) rfl ⟨blk_drew BT.out,fun j u hu=>(show w25.cell? ⟨ba,oa+ka*4+j,none⟩=_ from cellB HB.out (HA.out j u hu))⟩ (fun hHeld=> ?_);have hb:=below_drew (Below.refl w25.heap.size w25);generalize w25.drew=w7 at hb hHeld ⊢;have HB7:=am (below_step HB.out hb);clear hb HB BP BS BT BG BPc BSc BTc BGc;refine ba9 (fuel:=4) (n:=27) [0,1,2,3,4,5,6,7,8,9,10,11,12,13,14,15,16,17,18,19,20,21,22,23,24,25,26] (by kernel_rfl) (fun N _ _ _ _ h=>by cases N <;> exact h) hHeld ?_
     iterate 27 (
      refine stillS_step (v:= ?_) (a':= ?_) rfl (Or.inl ⟨by rfl, ?_⟩) ?_ ?_;rotate_left
      ·rintro W ⟨s0,s1⟩
       have t0:=zc8 s0;have u0:=s1 0 _ rfl;have u1:=s1 1 _ rfl;rw [Nat.add_zero] at u0;clear s0 s1;go_simp;with_reducible rfl
      rotate_left
      ·simp only [Act.put,sA,sZ,sS,i64_w]
       rfl)
     refine stillS_nil ?_;refine on9 (i:=27) (N:=some 57) rfl rfl (by kernel_rfl) (by decide) (fun K hK=> ?_);refine goes_ Try.func124 (by kernel_rfl) rfl #[.agg #[.int .i64 t.body,.int .i64 t.pc,.int .i64 t.up,.slice B3 t.regs.length d3,.int .i64 t.way,.int .i64 t.stage,.int .i64 t.at_,.int .i64 t.since,.slice B8 t.old.length d8,.slice B9 t.reads.length d9,.slice B10 t.puts.length d10,.int .i64 t.when_,.int .i64 t.from_],.int .i64 a.deeds.length] (by rfl) rfl rfl (by (try simp only [List.map_toArray,List.map_cons,List.map_nil]);first | done | rfl) ?_;refine (l12At_calls t _ (a.deeds.length:Int) _ (kTask.K_below HB7.out HKT.out) hrn hpn).mono ?_;rw [ST.out];rintro e9 wn ⟨rfl,hb⟩;refine ⟨_,rfl, ?_⟩;refine hK.out _ _ ⟨zb8 hHeld.1 hb,fun j u hu=>cellB hb (hHeld.2 j u hu)⟩ (fun hHeld=> ?_);clear hK K;refine norm_ (a':= ?_) ?_ ?_;rotate_left
     ·show Act.put _ (some 57) _=_
      simp only [Act.put,sA,sZ,sS,i64_w];rfl
     refine ba9 (fuel:=0) (n:=3) [28,29,30] (by kernel_rfl) (fun N _ _ _ _ h=>by cases N <;> exact h) hHeld ?_
     iterate 3 (
      refine stillS_step (v:= ?_) (a':= ?_) rfl (Or.inl ⟨by rfl, ?_⟩) ?_ ?_;rotate_left
      ·rintro W ⟨s0,s1⟩
       have t0:=zc8 s0;have u0:=s1 0 _ rfl;have u1:=s1 1 _ rfl;rw [Nat.add_zero] at u0;clear s0 s1;go_simp;with_reducible rfl
      rotate_left
      ·simp only [Act.put,sA,sZ,sS,i64_w]
       rfl)
     refine stillS_nil ?_;refine done_ (by kernel_rfl) ?_;have HB9:=am (below_step HB7.out hb);clear hb hHeld HB7;have HB:=HB9;go_wp2;go_ret
     have hr:wayOk p s i=bst:=by
      rw [HU.out,if_pos W0.out];rw [decide_eq_false S0.out,decide_eq_true PC.out,v5,<-AX.out,decide_eq_true KD.out,ST.out,Bool.true_and,Bool.true_and,Bool.false_or]
     rw [hr];exact ⟨rfl,HB.out⟩
    ·have yKD:(a.kind == 1)=false:=by simp [kdx]
     have KD:=am kdx;clear kdx
     go_wp2_with (first
     |((with_reducible refine gate_dst (N:=3) rfl ?_);refine box_event rfl (N:=3) rfl (t:=48) (by go_simp<;>rfl) ?_;intro gp hg w3 hbox hb;have BP:=am hbox;clear hbox hg;have HB2:=am hb;clear hb;have HB:=HB2;clear HB2;have BPc:=zc8 BP.out)
     |((with_reducible refine gate_dst (N:=4) rfl ?_);refine box_event rfl (N:=4) rfl (t:=27) (by go_simp<;>rfl) ?_;intro gs hg w4 hbox hb;have BS:=am hbox;clear hbox hg;replace BP:=am (zb8 BP.out hb);replace HB:=am (below_step HB.out hb);clear hb BPc;have BPc:=zc8 BP.out;have BSc:=zc8 BS.out)
     |((with_reducible refine gate_dst (N:=15) rfl ?_);refine wpList_load_mid rfl 38 (.tmp 14) rfl b (o+i*13) rfl _ _ (fun j u hu=>cellB HB.out (HC.out j u hu)) Try.underlying38 rfl (by kernel_rfl) ?_)|((with_reducible refine gate_dst (N:=7) rfl ?_);refine box_event rfl (N:=7) rfl (t:=38) (by go_simp<;>rfl) ?_;intro gt hg wt hbox hb;have BT0:=am hbox;have GBT:=am hg;have HBT:=am hb;clear hbox hb hg)|((with_reducible refine gate_store (t:=38) (p:=7) rfl ?_);refine store_block rfl rfl 38 (.tmp 7) (.tmp 15) rfl rfl rfl BT0.out rfl (by kernel_rfl) (aB rfl) ?_;intro wn hbox hg;have BT:=am hbox;have hbx:=pw_below_grown HBT.out _ HBT.out.size hg (fun z hz=>by cases hz;exact Nat.le_of_eq GBT.out.symm);clear BT0 HBT hbox hg;replace BP:=am (zb8 BP.out hbx);replace BS:=am (zb8 BS.out hbx);replace HB:=am (below_step HB.out hbx);clear hbx BPc BSc;have BPc:=zc8 BP.out;have BSc:=zc8 BS.out;have BTc:=zc8 BT.out;have p2w:=cellB HB.out P2.out)
     |((with_reducible refine gate_dst (N:=22) rfl ?_);refine wpList_load_mid rfl 48 (.tmp 3) rfl gp 0 rfl _ _ (lC BP.out) Try.underlying48 rfl (by kernel_rfl) ?_)
     |((with_reducible refine gate_dst (N:=23) rfl ?_);refine wpList_load_mid rfl 27 (.tmp 4) rfl gs 0 rfl _ _ (lC BS.out) Try.underlying27 rfl (by kernel_rfl) ?_)
     |((with_reducible refine gate_dst (N:=25) rfl ?_);refine box_event rfl (N:=25) rfl (t:=152) (by go_simp<;>rfl) ?_;intro gg hg w25 hbox hb;have BG:=am hbox;clear hbox hg;replace BP:=am (zb8 BP.out hb);replace BS:=am (zb8 BS.out hb);replace BT:=am (zb8 BT.out hb);replace HB:=am (below_step HB.out hb);clear hb BPc BSc BTc;have BPc:=zc8 BP.out;have BSc:=zc8 BS.out;have BTc:=zc8 BT.out;have BGc:=zc8 BG.out))
     refine st9 (n:=31) (S:=fun W=>W.heap[gt]? = some (.cells #[.int .i64 t.body,.int .i64 t.pc,.int .i64 t.up,.slice B3 t.regs.length d3,.int .i64 t.way,.int .i64 t.stage,.int .i64 t.at_,.int .i64 t.since,.slice B8 t.old.length d8,.slice B9 t.reads.length d9,.slice B10 t.puts.length d10,.int .i64 t.when_,.int .i64 t.from_] 38 (0,0))/\∀ j u, [.int .i64 a.kind,.slice Ad a.deeds.length cd,.slice Ak a.kids.length ck,.int .i64 a.reg][j]? = some u->W.cell? ⟨ba,oa+ka*4+j,none⟩=some u) (ds:= []) (by kernel_rfl) rfl ⟨blk_drew BT.out,fun j u hu=>(show w25.cell? ⟨ba,oa+ka*4+j,none⟩=_ from cellB HB.out (HA.out j u hu))⟩ (fun hHeld=> ?_);have hb:=below_drew (Below.refl w25.heap.size w25);generalize w25.drew=w7 at hb hHeld ⊢;have HB7:=am (below_step HB.out hb);clear hb HB BP BS BT BG BPc BSc BTc BGc;refine ba9 (fuel:=4) (n:=27) [0,1,2,3,4,5,6,7,8,9,10,11,12,13,14,15,16,17,18,19,20,21,22,23,24,25,26] (by kernel_rfl) (fun N _ _ _ _ h=>by cases N <;> exact h) hHeld ?_
     iterate 19 (
      refine stillS_step (v:= ?_) (a':= ?_) rfl (Or.inl ⟨by rfl, ?_⟩) ?_ ?_;rotate_left
      ·rintro W ⟨s0,s1⟩
       have t0:=zc8 s0;have u0:=s1 0 _ rfl;have u1:=s1 1 _ rfl;rw [Nat.add_zero] at u0;clear s0 s1;go_simp;with_reducible rfl
      rotate_left
      ·simp only [Act.put,sA,sZ,sS,i64_w]
       rfl)
     iterate 8 (
      refine stillS_step (v:=undef) (a':= ?_) rfl (Or.inr ⟨by rfl,rfl⟩) ?_ ?_;rotate_left
      ·simp only [Act.put,sA,sZ,sS]
       rfl)
     refine stillS_nil ?_;refine on9 (i:=27) (N:=some 57) rfl rfl (by kernel_rfl) (by decide) (fun K hK=> ?_);rw [if_neg (by exact Bool.false_ne_true)];refine hK.out _ _ hHeld (fun hHeld=> ?_);clear hK K;refine norm_ (a':= ?_) ?_ ?_;rotate_left
     ·show Act.put _ (some 57) _=_
      simp only [Act.put,sA,sZ,sS,i64_w];rfl
     refine ba9 (fuel:=0) (n:=3) [28,29,30] (by kernel_rfl) (fun N _ _ _ _ h=>by cases N <;> exact h) hHeld ?_
     iterate 3 (
      refine stillS_step (v:= ?_) (a':= ?_) rfl (Or.inl ⟨by rfl, ?_⟩) ?_ ?_;rotate_left
      ·rintro W ⟨s0,s1⟩
       have t0:=zc8 s0;have u0:=s1 0 _ rfl;have u1:=s1 1 _ rfl;rw [Nat.add_zero] at u0;clear s0 s1;go_simp;with_reducible rfl
      rotate_left
      ·simp only [Act.put,sA,sZ,sS,i64_w]
       rfl)
     refine stillS_nil ?_;refine done_ (by kernel_rfl) ?_;have HB:=HB7;clear hHeld HB7;go_wp2;go_ret
     have hr:wayOk p s i=false:=by
      rw [HU.out,if_pos W0.out];rw [decide_eq_false S0.out,decide_eq_true PC.out,v5,<-AX.out,decide_eq_false KD.out,Bool.and_false,Bool.false_and,Bool.false_or]
     rw [hr];exact ⟨rfl,HB.out⟩
   ·have yPC:decide (t.pc < (acts.length:Int))=false:=decide_eq_false pcx
    have PC:=am pcx;clear pcx
    go_wp2_with (first
    |((with_reducible refine gate_dst (N:=3) rfl ?_);refine box_event rfl (N:=3) rfl (t:=48) (by go_simp<;>rfl) ?_;intro gp hg w3 hbox hb;have BP:=am hbox;clear hbox hg;have HB2:=am hb;clear hb;have HB:=HB2;clear HB2;have BPc:=zc8 BP.out)
    |((with_reducible refine gate_dst (N:=4) rfl ?_);refine box_event rfl (N:=4) rfl (t:=27) (by go_simp<;>rfl) ?_;intro gs hg w4 hbox hb;have BS:=am hbox;clear hbox hg;replace BP:=am (zb8 BP.out hb);replace HB:=am (below_step HB.out hb);clear hb BPc;have BPc:=zc8 BP.out;have BSc:=zc8 BS.out)
    |((with_reducible refine gate_dst (N:=15) rfl ?_);refine wpList_load_mid rfl 38 (.tmp 14) rfl b (o+i*13) rfl _ _ (fun j u hu=>cellB HB.out (HC.out j u hu)) Try.underlying38 rfl (by kernel_rfl) ?_)|((with_reducible refine gate_dst (N:=7) rfl ?_);refine box_event rfl (N:=7) rfl (t:=38) (by go_simp<;>rfl) ?_;intro gt hg wt hbox hb;have BT0:=am hbox;have GBT:=am hg;have HBT:=am hb;clear hbox hb hg)|((with_reducible refine gate_store (t:=38) (p:=7) rfl ?_);refine store_block rfl rfl 38 (.tmp 7) (.tmp 15) rfl rfl rfl BT0.out rfl (by kernel_rfl) (aB rfl) ?_;intro wn hbox hg;have BT:=am hbox;have hbx:=pw_below_grown HBT.out _ HBT.out.size hg (fun z hz=>by cases hz;exact Nat.le_of_eq GBT.out.symm);clear BT0 HBT hbox hg;replace BP:=am (zb8 BP.out hbx);replace BS:=am (zb8 BS.out hbx);replace HB:=am (below_step HB.out hbx);clear hbx BPc BSc;have BPc:=zc8 BP.out;have BSc:=zc8 BS.out;have BTc:=zc8 BT.out;have p2w:=cellB HB.out P2.out)
    |((with_reducible refine gate_dst (N:=22) rfl ?_);refine wpList_load_mid rfl 48 (.tmp 3) rfl gp 0 rfl _ _ (lC BP.out) Try.underlying48 rfl (by kernel_rfl) ?_)
    |((with_reducible refine gate_dst (N:=23) rfl ?_);refine wpList_load_mid rfl 27 (.tmp 4) rfl gs 0 rfl _ _ (lC BS.out) Try.underlying27 rfl (by kernel_rfl) ?_)
    |((with_reducible refine gate_dst (N:=25) rfl ?_);refine box_event rfl (N:=25) rfl (t:=152) (by go_simp<;>rfl) ?_;intro gg hg w25 hbox hb;have BG:=am hbox;clear hbox hg;replace BP:=am (zb8 BP.out hb);replace BS:=am (zb8 BS.out hb);replace BT:=am (zb8 BT.out hb);replace HB:=am (below_step HB.out hb);clear hb BPc BSc BTc;have BPc:=zc8 BP.out;have BSc:=zc8 BS.out;have BTc:=zc8 BT.out;have BGc:=zc8 BG.out))
    refine st9 (n:=31) (S:=fun W=>W.heap[gt]? = some (.cells #[.int .i64 t.body,.int .i64 t.pc,.int .i64 t.up,.slice B3 t.regs.length d3,.int .i64 t.way,.int .i64 t.stage,.int .i64 t.at_,.int .i64 t.since,.slice B8 t.old.length d8,.slice B9 t.reads.length d9,.slice B10 t.puts.length d10,.int .i64 t.when_,.int .i64 t.from_] 38 (0,0))) (ds:= []) (by kernel_rfl) rfl (by exact blk_drew BT.out) (fun hHeld=> ?_);have hb:=below_drew (Below.refl w25.heap.size w25);generalize w25.drew=w7 at hb hHeld ⊢;have HB7:=am (below_step HB.out hb);clear hb HB BP BS BT BG BPc BSc BTc BGc;refine ba9 (fuel:=4) (n:=27) [0,1,2,3,4,5,6,7,8,9,10,11,12,13,14,15,16,17,18,19,20,21,22,23,24,25,26] (by kernel_rfl) (fun N _ _ _ _ h=>by cases N <;> exact h) hHeld ?_
    iterate 10 (
     refine stillS_step (v:= ?_) (a':= ?_) rfl (Or.inl ⟨by rfl, ?_⟩) ?_ ?_;rotate_left
     ·rintro W s0
      have t0:=zc8 s0;clear s0;go_simp;with_reducible rfl
     rotate_left
     ·simp only [Act.put,sA,sZ,sS,i64_w]
      rfl)
    iterate 7 (
     refine stillS_step (v:=undef) (a':= ?_) rfl (Or.inr ⟨by rfl,rfl⟩) ?_ ?_;rotate_left
     ·simp only [Act.put,sA,sZ,sS]
      rfl)
    iterate 2 (
     refine stillS_step (v:= ?_) (a':= ?_) rfl (Or.inl ⟨by rfl, ?_⟩) ?_ ?_;rotate_left
     ·rintro W s0
      have t0:=zc8 s0;clear s0;go_simp;with_reducible rfl
     rotate_left
     ·simp only [Act.put,sA,sZ,sS,i64_w]
      rfl)
    iterate 8 (
     refine stillS_step (v:=undef) (a':= ?_) rfl (Or.inr ⟨by rfl,rfl⟩) ?_ ?_;rotate_left
     ·simp only [Act.put,sA,sZ,sS]
      rfl)
    refine stillS_nil ?_;refine on9 (i:=27) (N:=some 57) rfl rfl (by kernel_rfl) (by decide) (fun K hK=> ?_);rw [if_neg (by exact Bool.false_ne_true)];refine hK.out _ _ hHeld (fun hHeld=> ?_);clear hK K;refine norm_ (a':= ?_) ?_ ?_;rotate_left
    ·show Act.put _ (some 57) _=_
     simp only [Act.put,sA,sZ,sS,i64_w];rfl
    refine ba9 (fuel:=0) (n:=3) [28,29,30] (by kernel_rfl) (fun N _ _ _ _ h=>by cases N <;> exact h) hHeld ?_
    iterate 3 (
     refine stillS_step (v:= ?_) (a':= ?_) rfl (Or.inl ⟨by rfl, ?_⟩) ?_ ?_;rotate_left
     ·rintro W s0
      have t0:=zc8 s0;clear s0;go_simp;with_reducible rfl
     rotate_left
     ·simp only [Act.put,sA,sZ,sS,i64_w]
      rfl)
    refine stillS_nil ?_;refine done_ (by kernel_rfl) ?_;have HB:=HB7;clear hHeld HB7;go_wp2;go_ret
    have hr:wayOk p s i=false:=by
     rw [HU.out,if_pos W0.out];rw [decide_eq_false S0.out,decide_eq_false (show ¬ t.pc < (acts.length:Int) by have:=PC.out;omega),Bool.false_and,Bool.false_and,Bool.false_or]
    rw [hr];exact ⟨rfl,HB.out⟩
 ·have yW0:(t.way == 0)=false:=by simp [w0x]
  have W0:=am w0x;clear w0x;by_cases w1x:t.way=1
  ·have yW1:(t.way == 1)=true:=by simp [w1x]
   have W1:=am w1x;clear w1x;obtain ⟨k0,hk0⟩:∃ x,x=kidsN s.tasks i 0:=⟨_,rfl⟩;have kl0:k0<=1048576:=by rw [hk0];exact Nat.le_trans (cntTo_le _ _) hn
   have K0:=am hk0.symm;clear hk0;obtain ⟨k1,hk1⟩:∃ x,x=kidsN s.tasks i 1:=⟨_,rfl⟩;have kl1:k1<=1048576:=by rw [hk1];exact Nat.le_trans (cntTo_le _ _) hn
   have K1:=am hk1.symm;clear hk1;obtain ⟨k2,hk2⟩:∃ x,x=kidsN s.tasks i 2:=⟨_,rfl⟩;have kl2:k2<=1048576:=by rw [hk2];exact Nat.le_trans (cntTo_le _ _) hn
   have K2:=am hk2.symm;clear hk2;obtain ⟨k3,hk3⟩:∃ x,x=kidsN s.tasks i 3:=⟨_,rfl⟩;have kl3:k3<=1048576:=by rw [hk3];exact Nat.le_trans (cntTo_le _ _) hn
   have K3:=am hk3.symm;clear hk3;have z1:=wsum2 kl0 kl1;have z2:=wsum3 kl0 kl1 kl2;have z3:=wsum4 kl0 kl1 kl2 kl3;clear kl0 kl1 kl2 kl3;by_cases pcx:t.pc < (acts.length:Int)
   ·have yPC:decide (t.pc < (acts.length:Int))=true:=decide_eq_true pcx
    have PC:=am pcx;clear pcx;obtain ⟨ka,hka0⟩:=Int.eq_ofNat_of_zero_le hp0;have hka:ka < acts.length:=by have:=PC.out;omega
    have v5:t.pc.toNat=ka:=by omega
    have v6:t.pc < (acts.length:Int):=PC.out;obtain ⟨ba,oa,cs3,rfl,hcl3,hK3,hcc3,-⟩:=C_field GA.out zAct ka hka (by decide);obtain ⟨a,hax⟩:∃ x,x=actAt acts ka:=⟨_,rfl⟩;rw [show acts.getD ka zAct=a from hax.symm] at hK3;obtain ⟨Ad,cd,Ak,ck,rfl,-⟩:=kAct_open hK3;have HA:=am hcc3;have AX:=am hax;have ua0:=hcc3 0 _ rfl;have ua2:=hcc3 2 _ rfl;simp only [show kAct.sz=4 from rfl,Nat.add_zero] at ua0 ua2;have UA0:=am ua0;have UA2:=am ua2;clear hcl3 hK3 hcc3 hax ua0 ua2 hka0;by_cases kdx:a.kind=2
    ·have yKD:(a.kind == 2)=true:=by simp [kdx]
     have KD:=am kdx;clear kdx
     go_wp2_with (first
     |((with_reducible refine gate_dst (N:=3) rfl ?_);refine box_event rfl (N:=3) rfl (t:=48) (by go_simp<;>rfl) ?_;intro gp hg w3 hbox hb;have BP:=am hbox;clear hbox hg;have HB2:=am hb;clear hb;have HB:=HB2;clear HB2;have BPc:=zc8 BP.out)
     |((with_reducible refine gate_dst (N:=4) rfl ?_);refine box_event rfl (N:=4) rfl (t:=27) (by go_simp<;>rfl) ?_;intro gs hg w4 hbox hb;have BS:=am hbox;clear hbox hg;replace BP:=am (zb8 BP.out hb);replace HB:=am (below_step HB.out hb);clear hb BPc;have BPc:=zc8 BP.out;have BSc:=zc8 BS.out)
     |((with_reducible refine gate_dst (N:=15) rfl ?_);refine wpList_load_mid rfl 38 (.tmp 14) rfl b (o+i*13) rfl _ _ (fun j u hu=>cellB HB.out (HC.out j u hu)) Try.underlying38 rfl (by kernel_rfl) ?_)|((with_reducible refine gate_dst (N:=7) rfl ?_);refine box_event rfl (N:=7) rfl (t:=38) (by go_simp<;>rfl) ?_;intro gt hg wt hbox hb;have BT0:=am hbox;have GBT:=am hg;have HBT:=am hb;clear hbox hb hg)|((with_reducible refine gate_store (t:=38) (p:=7) rfl ?_);refine store_block rfl rfl 38 (.tmp 7) (.tmp 15) rfl rfl rfl BT0.out rfl (by kernel_rfl) (aB rfl) ?_;intro wn hbox hg;have BT:=am hbox;have hbx:=pw_below_grown HBT.out _ HBT.out.size hg (fun z hz=>by cases hz;exact Nat.le_of_eq GBT.out.symm);clear BT0 HBT hbox hg;replace BP:=am (zb8 BP.out hbx);replace BS:=am (zb8 BS.out hbx);replace HB:=am (below_step HB.out hbx);clear hbx BPc BSc;have BPc:=zc8 BP.out;have BSc:=zc8 BS.out;have BTc:=zc8 BT.out;have p2w:=cellB HB.out P2.out)
     |((with_reducible refine gate_dst (N:=22) rfl ?_);refine wpList_load_mid rfl 48 (.tmp 3) rfl gp 0 rfl _ _ (lC BP.out) Try.underlying48 rfl (by kernel_rfl) ?_)
     |((with_reducible refine gate_dst (N:=23) rfl ?_);refine wpList_load_mid rfl 27 (.tmp 4) rfl gs 0 rfl _ _ (lC BS.out) Try.underlying27 rfl (by kernel_rfl) ?_)
     |((with_reducible refine gate_dst (N:=25) rfl ?_);refine box_event rfl (N:=25) rfl (t:=152) (by go_simp<;>rfl) ?_;intro gg hg w25 hbox hb;have BG:=am hbox;clear hbox hg;replace BP:=am (zb8 BP.out hb);replace BS:=am (zb8 BS.out hb);replace BT:=am (zb8 BT.out hb);replace HB:=am (below_step HB.out hb);clear hb BPc BSc BTc;have BPc:=zc8 BP.out;have BSc:=zc8 BS.out;have BTc:=zc8 BT.out;have BGc:=zc8 BG.out;have ua0w:=cellB HB.out UA0.out;have ua2w:=cellB HB.out UA2.out)
     |(go_at_call 125;refine (kids_calls (i:Int) _ _ (⟨BG.out,kProg.K_below HB.out HPK.out,kSys.K_below HB.out HSK.out⟩:RO gg _ _ p s _ _ _ _) hn).mono ?_;(first|rw [K0.out] | rw [K1.out] | rw [K2.out] | rw [K3.out]);rintro e w9 ⟨rfl,rfl⟩))
     go_ret
     have hr:wayOk p s i=decide ((a.kids.length:Int)<=(k0:Int)+(k1:Int)+(k2:Int)+(k3:Int)):=by
      rw [HU.out,if_neg W0.out,if_pos W1.out];rw [decide_eq_true PC.out,v5,<-AX.out,decide_eq_true KD.out,K0.out,K1.out,K2.out,K3.out,Bool.true_and,Bool.true_and];exact kid4_le a.kids.length k0 k1 k2 k3
     rw [hr];exact ⟨rfl,HB.out⟩
    ·have yKD:(a.kind == 2)=false:=by simp [kdx]
     have KD:=am kdx;clear kdx
     go_wp2_with (first
     |((with_reducible refine gate_dst (N:=3) rfl ?_);refine box_event rfl (N:=3) rfl (t:=48) (by go_simp<;>rfl) ?_;intro gp hg w3 hbox hb;have BP:=am hbox;clear hbox hg;have HB2:=am hb;clear hb;have HB:=HB2;clear HB2;have BPc:=zc8 BP.out)
     |((with_reducible refine gate_dst (N:=4) rfl ?_);refine box_event rfl (N:=4) rfl (t:=27) (by go_simp<;>rfl) ?_;intro gs hg w4 hbox hb;have BS:=am hbox;clear hbox hg;replace BP:=am (zb8 BP.out hb);replace HB:=am (below_step HB.out hb);clear hb BPc;have BPc:=zc8 BP.out;have BSc:=zc8 BS.out)
     |((with_reducible refine gate_dst (N:=15) rfl ?_);refine wpList_load_mid rfl 38 (.tmp 14) rfl b (o+i*13) rfl _ _ (fun j u hu=>cellB HB.out (HC.out j u hu)) Try.underlying38 rfl (by kernel_rfl) ?_)|((with_reducible refine gate_dst (N:=7) rfl ?_);refine box_event rfl (N:=7) rfl (t:=38) (by go_simp<;>rfl) ?_;intro gt hg wt hbox hb;have BT0:=am hbox;have GBT:=am hg;have HBT:=am hb;clear hbox hb hg)|((with_reducible refine gate_store (t:=38) (p:=7) rfl ?_);refine store_block rfl rfl 38 (.tmp 7) (.tmp 15) rfl rfl rfl BT0.out rfl (by kernel_rfl) (aB rfl) ?_;intro wn hbox hg;have BT:=am hbox;have hbx:=pw_below_grown HBT.out _ HBT.out.size hg (fun z hz=>by cases hz;exact Nat.le_of_eq GBT.out.symm);clear BT0 HBT hbox hg;replace BP:=am (zb8 BP.out hbx);replace BS:=am (zb8 BS.out hbx);replace HB:=am (below_step HB.out hbx);clear hbx BPc BSc;have BPc:=zc8 BP.out;have BSc:=zc8 BS.out;have BTc:=zc8 BT.out;have p2w:=cellB HB.out P2.out)
     |((with_reducible refine gate_dst (N:=22) rfl ?_);refine wpList_load_mid rfl 48 (.tmp 3) rfl gp 0 rfl _ _ (lC BP.out) Try.underlying48 rfl (by kernel_rfl) ?_)
     |((with_reducible refine gate_dst (N:=23) rfl ?_);refine wpList_load_mid rfl 27 (.tmp 4) rfl gs 0 rfl _ _ (lC BS.out) Try.underlying27 rfl (by kernel_rfl) ?_)
     |((with_reducible refine gate_dst (N:=25) rfl ?_);refine box_event rfl (N:=25) rfl (t:=152) (by go_simp<;>rfl) ?_;intro gg hg w25 hbox hb;have BG:=am hbox;clear hbox hg;replace BP:=am (zb8 BP.out hb);replace BS:=am (zb8 BS.out hb);replace BT:=am (zb8 BT.out hb);replace HB:=am (below_step HB.out hb);clear hb BPc BSc BTc;have BPc:=zc8 BP.out;have BSc:=zc8 BS.out;have BTc:=zc8 BT.out;have BGc:=zc8 BG.out;have ua0w:=cellB HB.out UA0.out;have ua2w:=cellB HB.out UA2.out)
     |(go_at_call 125;refine (kids_calls (i:Int) _ _ (⟨BG.out,kProg.K_below HB.out HPK.out,kSys.K_below HB.out HSK.out⟩:RO gg _ _ p s _ _ _ _) hn).mono ?_;(first|rw [K0.out] | rw [K1.out] | rw [K2.out] | rw [K3.out]);rintro e w9 ⟨rfl,rfl⟩))
     go_ret
     have hr:wayOk p s i=false:=by
      rw [HU.out,if_neg W0.out,if_pos W1.out];rw [decide_eq_true PC.out,v5,<-AX.out,decide_eq_false KD.out,Bool.and_false,Bool.false_and]
     rw [hr];exact ⟨rfl,HB.out⟩
   ·have yPC:decide (t.pc < (acts.length:Int))=false:=decide_eq_false pcx
    have PC:=am pcx;clear pcx
    go_wp2_with (first
    |((with_reducible refine gate_dst (N:=3) rfl ?_);refine box_event rfl (N:=3) rfl (t:=48) (by go_simp<;>rfl) ?_;intro gp hg w3 hbox hb;have BP:=am hbox;clear hbox hg;have HB2:=am hb;clear hb;have HB:=HB2;clear HB2;have BPc:=zc8 BP.out)
    |((with_reducible refine gate_dst (N:=4) rfl ?_);refine box_event rfl (N:=4) rfl (t:=27) (by go_simp<;>rfl) ?_;intro gs hg w4 hbox hb;have BS:=am hbox;clear hbox hg;replace BP:=am (zb8 BP.out hb);replace HB:=am (below_step HB.out hb);clear hb BPc;have BPc:=zc8 BP.out;have BSc:=zc8 BS.out)
    |((with_reducible refine gate_dst (N:=15) rfl ?_);refine wpList_load_mid rfl 38 (.tmp 14) rfl b (o+i*13) rfl _ _ (fun j u hu=>cellB HB.out (HC.out j u hu)) Try.underlying38 rfl (by kernel_rfl) ?_)|((with_reducible refine gate_dst (N:=7) rfl ?_);refine box_event rfl (N:=7) rfl (t:=38) (by go_simp<;>rfl) ?_;intro gt hg wt hbox hb;have BT0:=am hbox;have GBT:=am hg;have HBT:=am hb;clear hbox hb hg)|((with_reducible refine gate_store (t:=38) (p:=7) rfl ?_);refine store_block rfl rfl 38 (.tmp 7) (.tmp 15) rfl rfl rfl BT0.out rfl (by kernel_rfl) (aB rfl) ?_;intro wn hbox hg;have BT:=am hbox;have hbx:=pw_below_grown HBT.out _ HBT.out.size hg (fun z hz=>by cases hz;exact Nat.le_of_eq GBT.out.symm);clear BT0 HBT hbox hg;replace BP:=am (zb8 BP.out hbx);replace BS:=am (zb8 BS.out hbx);replace HB:=am (below_step HB.out hbx);clear hbx BPc BSc;have BPc:=zc8 BP.out;have BSc:=zc8 BS.out;have BTc:=zc8 BT.out;have p2w:=cellB HB.out P2.out)
    |((with_reducible refine gate_dst (N:=22) rfl ?_);refine wpList_load_mid rfl 48 (.tmp 3) rfl gp 0 rfl _ _ (lC BP.out) Try.underlying48 rfl (by kernel_rfl) ?_)
    |((with_reducible refine gate_dst (N:=23) rfl ?_);refine wpList_load_mid rfl 27 (.tmp 4) rfl gs 0 rfl _ _ (lC BS.out) Try.underlying27 rfl (by kernel_rfl) ?_)
    |((with_reducible refine gate_dst (N:=25) rfl ?_);refine box_event rfl (N:=25) rfl (t:=152) (by go_simp<;>rfl) ?_;intro gg hg w25 hbox hb;have BG:=am hbox;clear hbox hg;replace BP:=am (zb8 BP.out hb);replace BS:=am (zb8 BS.out hb);replace BT:=am (zb8 BT.out hb);replace HB:=am (below_step HB.out hb);clear hb BPc BSc BTc;have BPc:=zc8 BP.out;have BSc:=zc8 BS.out;have BTc:=zc8 BT.out;have BGc:=zc8 BG.out)
    |(go_at_call 125;refine (kids_calls (i:Int) _ _ (⟨BG.out,kProg.K_below HB.out HPK.out,kSys.K_below HB.out HSK.out⟩:RO gg _ _ p s _ _ _ _) hn).mono ?_;(first|rw [K0.out] | rw [K1.out] | rw [K2.out] | rw [K3.out]);rintro e w9 ⟨rfl,rfl⟩))
    go_ret
    have hr:wayOk p s i=false:=by
     rw [HU.out,if_neg W0.out,if_pos W1.out];rw [decide_eq_false (show ¬ t.pc < (acts.length:Int) by have:=PC.out;omega),Bool.false_and,Bool.false_and]
    rw [hr];exact ⟨rfl,HB.out⟩
  ·have yW1:(t.way == 1)=false:=by simp [w1x]
   have W1:=am w1x;clear w1x;by_cases w2x:t.way=2
   ·have yW2:(t.way == 2)=true:=by simp [w2x]
    have W2:=am w2x;clear w2x
    go_wp2_with (first
    |((with_reducible refine gate_dst (N:=3) rfl ?_);refine box_event rfl (N:=3) rfl (t:=48) (by go_simp<;>rfl) ?_;intro gp hg w3 hbox hb;have BP:=am hbox;clear hbox hg;have HB2:=am hb;clear hb;have HB:=HB2;clear HB2;have BPc:=zc8 BP.out)
    |((with_reducible refine gate_dst (N:=4) rfl ?_);refine box_event rfl (N:=4) rfl (t:=27) (by go_simp<;>rfl) ?_;intro gs hg w4 hbox hb;have BS:=am hbox;clear hbox hg;replace BP:=am (zb8 BP.out hb);replace HB:=am (below_step HB.out hb);clear hb BPc;have BPc:=zc8 BP.out;have BSc:=zc8 BS.out)
    |((with_reducible refine gate_dst (N:=15) rfl ?_);refine wpList_load_mid rfl 38 (.tmp 14) rfl b (o+i*13) rfl _ _ (fun j u hu=>cellB HB.out (HC.out j u hu)) Try.underlying38 rfl (by kernel_rfl) ?_)|((with_reducible refine gate_dst (N:=7) rfl ?_);refine box_event rfl (N:=7) rfl (t:=38) (by go_simp<;>rfl) ?_;intro gt hg wt hbox hb;have BT0:=am hbox;have GBT:=am hg;have HBT:=am hb;clear hbox hb hg)|((with_reducible refine gate_store (t:=38) (p:=7) rfl ?_);refine store_block rfl rfl 38 (.tmp 7) (.tmp 15) rfl rfl rfl BT0.out rfl (by kernel_rfl) (aB rfl) ?_;intro wn hbox hg;have BT:=am hbox;have hbx:=pw_below_grown HBT.out _ HBT.out.size hg (fun z hz=>by cases hz;exact Nat.le_of_eq GBT.out.symm);clear BT0 HBT hbox hg;replace BP:=am (zb8 BP.out hbx);replace BS:=am (zb8 BS.out hbx);replace HB:=am (below_step HB.out hbx);clear hbx BPc BSc;have BPc:=zc8 BP.out;have BSc:=zc8 BS.out;have BTc:=zc8 BT.out;have p2w:=cellB HB.out P2.out)
    |((with_reducible refine gate_dst (N:=22) rfl ?_);refine wpList_load_mid rfl 48 (.tmp 3) rfl gp 0 rfl _ _ (lC BP.out) Try.underlying48 rfl (by kernel_rfl) ?_)
    |((with_reducible refine gate_dst (N:=23) rfl ?_);refine wpList_load_mid rfl 27 (.tmp 4) rfl gs 0 rfl _ _ (lC BS.out) Try.underlying27 rfl (by kernel_rfl) ?_)
    |((with_reducible refine gate_dst (N:=25) rfl ?_);refine box_event rfl (N:=25) rfl (t:=152) (by go_simp<;>rfl) ?_;intro gg hg w25 hbox hb;have BG:=am hbox;clear hbox hg;replace BP:=am (zb8 BP.out hb);replace BS:=am (zb8 BS.out hb);replace BT:=am (zb8 BT.out hb);replace HB:=am (below_step HB.out hb);clear hb BPc BSc BTc;have BPc:=zc8 BP.out;have BSc:=zc8 BS.out;have BTc:=zc8 BT.out;have BGc:=zc8 BG.out))
    go_ret
    have hr:wayOk p s i=(t.pc == (acts.length:Int)):=by
     rw [HU.out,if_neg W0.out,if_neg W1.out,if_pos W2.out,Bool.eq_iff_iff,decide_eq_true_eq,beq_iff_eq]
    rw [hr];exact ⟨rfl,HB.out⟩
   ·have yW2:(t.way == 2)=false:=by simp [w2x]
    have W2:=am w2x;clear w2x
    go_wp2_with (first
    |((with_reducible refine gate_dst (N:=3) rfl ?_);refine box_event rfl (N:=3) rfl (t:=48) (by go_simp<;>rfl) ?_;intro gp hg w3 hbox hb;have BP:=am hbox;clear hbox hg;have HB2:=am hb;clear hb;have HB:=HB2;clear HB2;have BPc:=zc8 BP.out)
    |((with_reducible refine gate_dst (N:=4) rfl ?_);refine box_event rfl (N:=4) rfl (t:=27) (by go_simp<;>rfl) ?_;intro gs hg w4 hbox hb;have BS:=am hbox;clear hbox hg;replace BP:=am (zb8 BP.out hb);replace HB:=am (below_step HB.out hb);clear hb BPc;have BPc:=zc8 BP.out;have BSc:=zc8 BS.out)
    |((with_reducible refine gate_dst (N:=15) rfl ?_);refine wpList_load_mid rfl 38 (.tmp 14) rfl b (o+i*13) rfl _ _ (fun j u hu=>cellB HB.out (HC.out j u hu)) Try.underlying38 rfl (by kernel_rfl) ?_)|((with_reducible refine gate_dst (N:=7) rfl ?_);refine box_event rfl (N:=7) rfl (t:=38) (by go_simp<;>rfl) ?_;intro gt hg wt hbox hb;have BT0:=am hbox;have GBT:=am hg;have HBT:=am hb;clear hbox hb hg)|((with_reducible refine gate_store (t:=38) (p:=7) rfl ?_);refine store_block rfl rfl 38 (.tmp 7) (.tmp 15) rfl rfl rfl BT0.out rfl (by kernel_rfl) (aB rfl) ?_;intro wn hbox hg;have BT:=am hbox;have hbx:=pw_below_grown HBT.out _ HBT.out.size hg (fun z hz=>by cases hz;exact Nat.le_of_eq GBT.out.symm);clear BT0 HBT hbox hg;replace BP:=am (zb8 BP.out hbx);replace BS:=am (zb8 BS.out hbx);replace HB:=am (below_step HB.out hbx);clear hbx BPc BSc;have BPc:=zc8 BP.out;have BSc:=zc8 BS.out;have BTc:=zc8 BT.out;have p2w:=cellB HB.out P2.out)
    |((with_reducible refine gate_dst (N:=22) rfl ?_);refine wpList_load_mid rfl 48 (.tmp 3) rfl gp 0 rfl _ _ (lC BP.out) Try.underlying48 rfl (by kernel_rfl) ?_)
    |((with_reducible refine gate_dst (N:=23) rfl ?_);refine wpList_load_mid rfl 27 (.tmp 4) rfl gs 0 rfl _ _ (lC BS.out) Try.underlying27 rfl (by kernel_rfl) ?_)
    |((with_reducible refine gate_dst (N:=25) rfl ?_);refine box_event rfl (N:=25) rfl (t:=152) (by go_simp<;>rfl) ?_;intro gg hg w25 hbox hb;have BG:=am hbox;clear hbox hg;replace BP:=am (zb8 BP.out hb);replace BS:=am (zb8 BS.out hb);replace BT:=am (zb8 BT.out hb);replace HB:=am (below_step HB.out hb);clear hb BPc BSc BTc;have BPc:=zc8 BP.out;have BSc:=zc8 BS.out;have BTc:=zc8 BT.out;have BGc:=zc8 BG.out))
    go_ret
    have hr:wayOk p s i=true:=by
     rw [HU.out,if_neg W0.out,if_neg W1.out,if_neg W2.out]
    rw [hr];exact ⟨rfl,HB.out⟩
end Go.Proofs.Ytimamoimphjakaa.Eq
