/- The law FnTreeOk: it returns true whatever the input, and the input reads as it did. No conditions. -/
import Derived.Test.YtimamoimphjakaaRows
import Derived.Test.YtimamoimphjakaaZ6
import Derived.ChangeOld
import Derived.OpenShut
import Derived.ProofKit
import Derived.ShutString
import Derived.SizedLaws
set_option maxHeartbeats 8000000
set_option maxRecDepth 100000
set_option linter.unusedVariables false
set_option linter.unusedSimpArgs false
namespace Go.Proofs.Ytimamoimphjakaa.Eq
open Go.RowKit Go.Proofs.YtimamoimphjakaaW.PrintWords Go.Proofs.YtimamoimphjakaaW.PrintLast Go.Proofs.YtimamoimphjakaaW.PrintMore
theorem specLive_calls (s:Sys) (cs:List Value) (w:World) (hx:kSys.K w s cs) (hn:s.tasks.length<=1048576):
  Calls Try.prog 27 #[.agg cs.toArray] w fun e w'=>∃ v,e= .returned v/\(Kd.int .i64).R 3 w' w.heap.size (fun _=>True) v (liveIn s.tasks)/\Below w.heap.size w w':=by
 obtain ⟨A0,c0,A1,c1,A3,c3,rfl,l0,g0,l1,g1,l3,g3⟩:=kSys_open hx;have G:=am g1;clear g0 g1 g3 l0 l1 l3 hx;go_enter Try.func27,Try.ntmps27;go_wp2_with (first|((with_reducible refine gate_dst (N:=1) rfl ?_);refine box_event rfl (N:=1) rfl (t:=27) (by go_simp<;>rfl) ?_;intro g hg w2 hbox hb;have BK:=am hbox;have HB:=am hb;have GE:=am (show w.heap.size<=g by omega);clear hbox hb hg;have hc:=zc8 BK.out)|((with_reducible refine gate_dst (N:=5) rfl ?_);refine Kd.R_lit (w0:=w) (Kd.int .i64) w.heap.size 3 rfl (N:=5) rfl (xs:=([]:List Int)) (inner:= []) (ok:=fun _=>True) (okp:=fun _=>True) (by go_simp<;>rfl) (Reps.none _ _) (fun _ hk=>hk) trivial HB.out (below_size HB.out) (by simp) ?_;intro v0 w3 ho hb hg _;have BK1:=am (blk_grown BK.out hg (by simp));have HO1:=am ho;have HB1:=am hb;clear ho hb hg HB BK hc;have hc:=zc8 BK1.out))
 go_loopw [3,4] (fun v i w'=>∃ k:Nat,k<=s.tasks.length/\i= .int .i64 k/\Aside0 ((Kd.int .i64).R 3 w' w.heap.size (fun _=>True) v (pickTo (fun i=>isLive (taskAt s.tasks i)) k))/\Aside0 (w'.heap[g]? = some (.cells #[.slice A0 s.cells.length c0,.slice A1 s.tasks.length c1,.int .i64 s.clock,.slice A3 s.log.length c3] 27 (0,0)))/\Aside0 (Below w.heap.size w w')) (fun _ i _=>s.tasks.length - (intOf i).toNat)
 case atStart=>exact ⟨0,Nat.zero_le _,rfl,HO1,BK1,HB1⟩
 case round=>
  clear HO1 BK1 HB1 hc;obtain ⟨k,hk,rfl,HO,BK,HB⟩:=hrel;have hlen:=pickTo_length (fun i=>isLive (taskAt s.tasks i)) k;by_cases hlt:k < s.tasks.length
  · skip
    have BKc:=zc8 BK.out;obtain ⟨b,o,cs,rfl,hcl,hK,hcc,hc0⟩:=C_field (Kd.C_below G.out HB.out) zTask k hlt (by decide);rw [show s.tasks.getD k zTask=taskAt s.tasks k from rfl] at hK;obtain ⟨B3,d3,B8,d8,B9,d9,B10,d10,rfl,_,_,_,_,_,_,_,_⟩:=kTask_open hK;have h_way:=hcc 4 _ rfl;simp only [show kTask.sz=13 from rfl] at h_way;clear hcc hc0 hK hcl;have q0:(0:Int)<=(k:Int):=by omega
    have q1:(k:Int) < (s.tasks.length:Int):=by omega
    by_cases hy:(taskAt s.tasks k).way=0
    ·have y0:((taskAt s.tasks k).way == 0)=true:=by simp [hy]
     have HY:=am (show isLive (taskAt s.tasks k)=true by simp [isLive,hy]);clear hy;go_wp2_with (first|((with_reducible refine gate_builtin (b:=.append) (xs:=#[.tmp 29,.tmp 31]) rfl ?_);at_builtin;refine Kd.R_append (Kd.int .i64) (w0:=w) w.heap.size rfl (.tmp 29) (.tmp 31) 29 3 (.int .i64 0) 8 rfl Try.underlying29 info_int rfl (by decide) (by omega) _ (pickTo (fun i=>isLive (taskAt s.tasks i)) k) (k:Int) [.int .i64 (k:Int)] (fun _=>True) (fun _=>False) rfl rfl rfl (fun _ hk=>hk.elim) (fun _ _=>trivial) HO.out HB.out (below_size HB.out) (by omega) ?_;intro v1 w1 ho hb hg _;have BK1:=am (blk_grown BK.out hg (Kd.R_ne HO.out BK.out (by decide)));have HO1:=am ho;have HB1:=am hb;clear ho hb hg HO HB BK))
     go_roundw
     case rel=>exact ⟨k+1,by omega,by go_num,⟨by rw [pickTo_yes (HY.out)];exact HO1.out⟩,BK1,HB1⟩
     case measure=>simp [intOf];omega
    ·have y0:((taskAt s.tasks k).way == 0)=false:=by simp [hy]
     by_cases hz:(taskAt s.tasks k).way=1
     ·have y1:((taskAt s.tasks k).way == 1)=true:=by simp [hz]
      have HY:=am (show isLive (taskAt s.tasks k)=true by simp [isLive,hz]);clear hy hz;go_wp2_with (first|((with_reducible refine gate_builtin (b:=.append) (xs:=#[.tmp 29,.tmp 31]) rfl ?_);at_builtin;refine Kd.R_append (Kd.int .i64) (w0:=w) w.heap.size rfl (.tmp 29) (.tmp 31) 29 3 (.int .i64 0) 8 rfl Try.underlying29 info_int rfl (by decide) (by omega) _ (pickTo (fun i=>isLive (taskAt s.tasks i)) k) (k:Int) [.int .i64 (k:Int)] (fun _=>True) (fun _=>False) rfl rfl rfl (fun _ hk=>hk.elim) (fun _ _=>trivial) HO.out HB.out (below_size HB.out) (by omega) ?_;intro v1 w1 ho hb hg _;have BK1:=am (blk_grown BK.out hg (Kd.R_ne HO.out BK.out (by decide)));have HO1:=am ho;have HB1:=am hb;clear ho hb hg HO HB BK))
      go_roundw
      case rel=>exact ⟨k+1,by omega,by go_num,⟨by rw [pickTo_yes (HY.out)];exact HO1.out⟩,BK1,HB1⟩
      case measure=>simp [intOf];omega
     ·have y1:((taskAt s.tasks k).way == 1)=false:=by simp [hz]
      have HY:=am (show isLive (taskAt s.tasks k)=false by simp [isLive,hy,hz]);clear hy hz;go_wp2;go_roundw
      case rel=>exact ⟨k+1,by omega,by go_num,⟨by rw [pickTo_no (HY.out)];exact HO.out⟩,BK,HB⟩
      case measure=>simp [intOf];omega
  ·have BKc:=zc8 BK.out
   go_wp2;go_ret;obtain rfl:k=s.tasks.length:=by omega
   exact ⟨_,rfl,HO.out,HB.out⟩
def zeroTask:Array Value:=#[.int .i64 0,.int .i64 0,.int .i64 0,.slice none 0 0,.int .i64 0,.int .i64 0,.int .i64 0,.int .i64 0,.slice none 0 0,.slice none 0 0,.slice none 0 0,.int .i64 0,.int .i64 0]
theorem implLive_calls (s:Sys) (cs:List Value) (w:World) (hx:kSys.K w s cs) (hn:s.tasks.length<=1048576):
  Calls Try.prog 19 #[.agg cs.toArray] w fun e w'=>∃ v,e= .returned v/\(Kd.int .i64).R 3 w' w.heap.size (fun _=>True) v (liveIn s.tasks)/\Below w.heap.size w w':=by
 obtain ⟨A0,c0,A1,c1,A3,c3,rfl,l0,g0,l1,g1,l3,g3⟩:=kSys_open hx;have G:=am g1;clear g0 g1 g3 l0 l1 l3 hx;go_enter Try.func19,Try.ntmps19;go_wp2_with ((with_reducible refine gate_dst (N:=1) rfl ?_);refine box_event rfl (N:=1) rfl (t:=27) (by go_simp<;>rfl) ?_;intro g hg w2 hbox hb;have BK:=am hbox;have HB:=am hb;have GE:=am (show w.heap.size<=g by omega);clear hbox hb hg;have hc:=zc8 BK.out)
 go_loopw [3,9] (fun v i w'=>∃ k:Nat,k<=s.tasks.length/\i= .int .i64 k/\Aside0 ((Kd.int .i64).R 3 w' w.heap.size (fun _=>True) v (pickTo (fun i=>isLive (taskAt s.tasks i)) k))/\Aside0 (w'.heap[g]? = some (.cells #[.slice A0 s.cells.length c0,.slice A1 s.tasks.length c1,.int .i64 s.clock,.slice A3 s.log.length c3] 27 (0,0)))/\Aside0 (Below w.heap.size w w')) (fun _ i _=>s.tasks.length - (intOf i).toNat)
 case atStart=>exact ⟨0,Nat.zero_le _,rfl,⟨Kd.R_nil _ _ _ _ _⟩,BK,HB⟩
 case round=>
  clear BK HB hc;obtain ⟨k,hk,rfl,HO,BK,HB⟩:=hrel;have hlen:=pickTo_length (fun i=>isLive (taskAt s.tasks i)) k;by_cases hlt:k < s.tasks.length
  · skip
    have BKc:=zc8 BK.out;obtain ⟨b,o,cs,rfl,hcl,hK,hcc,hc0⟩:=C_field (Kd.C_below G.out HB.out) zTask k hlt (by decide);rw [show s.tasks.getD k zTask=taskAt s.tasks k from rfl] at hK;have HK:=am hK;have HCC:=am hcc;have q0:(0:Int)<=(k:Int):=by omega
    have q1:(k:Int) < (s.tasks.length:Int):=by omega
    clear hK hcc hc0;by_cases hy:isLive (taskAt s.tasks k)=true
    ·have HY:=am hy
     clear hy;go_wp2_with (first|((with_reducible refine gate_dst (N:=13) rfl ?_);refine wpList_load_mid rfl 38 (.tmp 12) rfl b (o+k*13) rfl cs _ HCC.out Try.underlying38 rfl (by rw [hcl];kernel_rfl) ?_)|((with_reducible refine gate_dst (N:=5) rfl ?_);refine box_event rfl (N:=5) rfl (cs:=zeroTask) (t:=38) (by go_simp<;>rfl) ?_;intro g5 hg w2 hbox hb;have BK5:=am hbox;have G5:=am (show wr.heap.size<=g5 by omega);have HW:=am hb;clear hbox hb hg)|((with_reducible refine gate_store (t:=38) (p:=5) rfl ?_);refine store_block rfl rfl 38 (.tmp 5) (.tmp 13) rfl rfl rfl BK5.out (by rw [hcl];rfl) (by rw [hcl];kernel_rfl) (kTask.K_one HK.out) ?_;intro w3 hbox hg;have BT:=am hbox;have HW3:=am (pw_below_grown HW.out _ HW.out.size hg (fun z hz=>by cases hz;exact G5.out));clear hbox hg BK5 HW)|((with_reducible refine gate_dst (N:=14) rfl ?_);refine load_block rfl 38 (.tmp 5) rfl _ rfl BT.out Try.underlying38 rfl (by rw [hcl];kernel_rfl) ?_)|(go_at_call 46;refine (live_calls _ _ _ (kTask.K_below HW3.out HK.out)).mono ?_;rw [HY.out];rintro e w4 ⟨rfl,hb⟩;have HW4:=am (below_step HW3.out hb);replace HO:=am (Kd.R_below HO.out HW4.out);replace BK:=am (zb8 BK.out HW4.out);replace HB:=am (below_step HB.out HW4.out);clear hb;clear BKc)|((with_reducible refine gate_builtin (b:=.append) (xs:=#[.tmp 16,.tmp 18]) rfl ?_);at_builtin;refine Kd.R_append (Kd.int .i64) (w0:=w) w.heap.size rfl (.tmp 16) (.tmp 18) 29 3 (.int .i64 0) 8 rfl Try.underlying29 info_int rfl (by decide) (by omega) _ (pickTo (fun i=>isLive (taskAt s.tasks i)) k) (k:Int) [.int .i64 (k:Int)] (fun _=>True) (fun _=>False) rfl rfl rfl (fun _ hk=>hk.elim) (fun _ _=>trivial) HO.out HB.out (below_size HB.out) (by omega) ?_;intro v1 w1 ho hb hg _;have BK1:=am (blk_grown BK.out hg (Kd.R_ne HO.out BK.out (by decide)));have HO1:=am ho;have HB1:=am hb;clear ho hb hg HO HB BK))
     go_roundw
     case rel=>exact ⟨k+1,by omega,by go_num,⟨by rw [pickTo_yes (HY.out)];exact HO1.out⟩,BK1,HB1⟩
     case measure=>simp [intOf];omega
    ·have HY:=am (show isLive (taskAt s.tasks k)=false by simpa using hy)
     clear hy;go_wp2_with (first|((with_reducible refine gate_dst (N:=13) rfl ?_);refine wpList_load_mid rfl 38 (.tmp 12) rfl b (o+k*13) rfl cs _ HCC.out Try.underlying38 rfl (by rw [hcl];kernel_rfl) ?_)|((with_reducible refine gate_dst (N:=5) rfl ?_);refine box_event rfl (N:=5) rfl (cs:=zeroTask) (t:=38) (by go_simp<;>rfl) ?_;intro g5 hg w2 hbox hb;have BK5:=am hbox;have G5:=am (show wr.heap.size<=g5 by omega);have HW:=am hb;clear hbox hb hg)|((with_reducible refine gate_store (t:=38) (p:=5) rfl ?_);refine store_block rfl rfl 38 (.tmp 5) (.tmp 13) rfl rfl rfl BK5.out (by rw [hcl];rfl) (by rw [hcl];kernel_rfl) (kTask.K_one HK.out) ?_;intro w3 hbox hg;have BT:=am hbox;have HW3:=am (pw_below_grown HW.out _ HW.out.size hg (fun z hz=>by cases hz;exact G5.out));clear hbox hg BK5 HW)|((with_reducible refine gate_dst (N:=14) rfl ?_);refine load_block rfl 38 (.tmp 5) rfl _ rfl BT.out Try.underlying38 rfl (by rw [hcl];kernel_rfl) ?_)|(go_at_call 46;refine (live_calls _ _ _ (kTask.K_below HW3.out HK.out)).mono ?_;rw [HY.out];rintro e w4 ⟨rfl,hb⟩;have HW4:=am (below_step HW3.out hb);replace HO:=am (Kd.R_below HO.out HW4.out);replace BK:=am (zb8 BK.out HW4.out);replace HB:=am (below_step HB.out HW4.out);clear hb;clear BKc))
     go_roundw
     case rel=>exact ⟨k+1,by omega,by go_num,⟨by rw [pickTo_no (HY.out)];exact HO.out⟩,BK,HB⟩
     case measure=>simp [intOf];omega
  ·have BKc:=zc8 BK.out
   go_wp2;go_ret;obtain rfl:k=s.tasks.length:=by omega
   exact ⟨_,rfl,HO.out,HB.out⟩
end Go.Proofs.Ytimamoimphjakaa.Eq



namespace Go.Proofs.Ytimamoimphjakaa.Eq
open Go.RowKit Go.Proofs.YtimamoimphjakaaW.PrintWords Go.Proofs.YtimamoimphjakaaW.PrintLast Go.Proofs.YtimamoimphjakaaW.PrintMore
def upOk (ts:List Task) (i:Nat):Bool:= !(decide (0<=(taskAt ts i).up) && decide ((taskAt ts i).up < (ts.length:Int))) || decide ((taskAt ts (taskAt ts i).up.toNat).way=1)
def treeOk (ts:List Task):Bool:=decide (∀ i,i < ts.length->isLive (taskAt ts i)=true->upOk ts i=true)
theorem mem_liveIn {ts:List Task} {x:Int}:x ∈ liveIn ts ↔ ∃ i:Nat,i < ts.length/\isLive (taskAt ts i)=true/\x=(i:Int):=by
 simp only [liveIn,pickTo,List.mem_map,List.mem_filter,List.mem_range];constructor
 ·rintro ⟨i,⟨h1,h2⟩,rfl⟩;exact ⟨i,h1,h2,rfl⟩
 ·rintro ⟨i,h1,h2,rfl⟩;exact ⟨i,⟨h1,h2⟩,rfl⟩
theorem implOk_calls (s:Sys) (cs:List Value) (w:World) (hx:kSys.K w s cs) (hn:s.tasks.length<=1048576):
  Calls Try.prog 24 #[.agg cs.toArray] w fun e w'=>e= .returned (.bool (treeOk s.tasks))/\Below w.heap.size w w':=by
 obtain ⟨A0,c0,A1,c1,A3,c3,rfl,l0,g0,l1,g1,l3,g3⟩:=kSys_open hx;have G:=am g1;clear g0 g1 g3 l0 l1 l3 hx;go_enter Try.func24,Try.ntmps24;go_wp2_with ((with_reducible refine gate_dst (N:=1) rfl ?_);refine box_event rfl (N:=1) rfl (t:=27) (by go_simp<;>rfl) ?_;intro g hg w2 hbox hb;have BK:=am hbox;have HB:=am hb;have GE:=am (show w.heap.size<=g by omega);clear hbox hb hg;have hc:=zc8 BK.out)
 go_loopw [8] (fun i w'=>∃ k:Nat,k<=s.tasks.length/\i= .int .i64 k/\Aside0 (∀ j,j < k->isLive (taskAt s.tasks j)=true->upOk s.tasks j=true)/\Aside0 (w'.heap[g]? = some (.cells #[.slice A0 s.cells.length c0,.slice A1 s.tasks.length c1,.int .i64 s.clock,.slice A3 s.log.length c3] 27 (0,0)))/\Aside0 (Below w.heap.size w w')) (fun i _=>s.tasks.length - (intOf i).toNat)
 case atStart=>exact ⟨0,Nat.zero_le _,rfl,⟨fun j hj=>by omega⟩,BK,HB⟩
 case round=>
  clear BK HB hc;obtain ⟨k,hk,rfl,HJ,BK,HB⟩:=hrel;by_cases hlt:k < s.tasks.length
  · skip
    have BKc:=zc8 BK.out;obtain ⟨b,o,cs,rfl,hcl,hK,hcc,hc0⟩:=C_field (Kd.C_below G.out HB.out) zTask k hlt (by decide);rw [show s.tasks.getD k zTask=taskAt s.tasks k from rfl] at hK;have HK:=am hK;have HCC:=am hcc;have q0:(0:Int)<=(k:Int):=by omega
    have q1:(k:Int) < (s.tasks.length:Int):=by omega
    clear hK hcc hc0;obtain ⟨B3,d3,B8,d8,B9,d9,B10,d10,hcs,_,_,_,_,_,_,_,_⟩:=kTask_open HK.out;have e2:cs.toArray[2]? = some (.int .i64 (taskAt s.tasks k).up):=by rw [hcs];rfl
    clear hcs;have HE2:=am e2;clear e2;by_cases hy:isLive (taskAt s.tasks k)=true
    ·have HY:=am hy
     clear hy;by_cases hu:0<=(taskAt s.tasks k).up/\(taskAt s.tasks k).up < (s.tasks.length:Int)
     ·have HU:=am (show (decide (0<=(taskAt s.tasks k).up) && decide ((taskAt s.tasks k).up < (s.tasks.length:Int)))=true by simp;omega)
      obtain ⟨m,hm⟩:=Int.eq_ofNat_of_zero_le hu.1;have hml:m < s.tasks.length:=by omega
      obtain ⟨b',o',ds,he,hdl,hK2,hdd,_⟩:=C_field (Kd.C_below G.out HB.out) zTask m hml (by decide);cases he;rw [show s.tasks.getD m zTask=taskAt s.tasks m from rfl] at hK2;obtain ⟨B3,d3,B8,d8,B9,d9,B10,d10,rfl,_,_,_,_,_,_,_,_⟩:=kTask_open hK2;have h_way:=hdd 4 _ rfl;simp only [show kTask.sz=13 from rfl] at h_way;have HWAY:=am h_way;have HM:=am hm;rw [hm] at HE2 HU;have m0:(0:Int)<=(m:Int):=by omega
      have m1:(m:Int) < (s.tasks.length:Int):=by omega
      clear hu h_way hdd hK2 hdl hm;by_cases hw:(taskAt s.tasks m).way=1
      ·have y1:((taskAt s.tasks m).way != 1)=false:=by simp [hw]
       have HX:=am (show upOk s.tasks k=true by unfold upOk;rw [HM.out];simp [hw]);clear hw;go_wp2_with (first|((with_reducible refine gate_dst (N:=11) rfl ?_);refine wpList_load_mid rfl 38 (.tmp 10) rfl b (o+k*13) rfl cs _ HCC.out Try.underlying38 rfl (by rw [hcl];kernel_rfl) ?_)|((with_reducible refine gate_dst (N:=4) rfl ?_);refine box_event rfl (N:=4) rfl (cs:=zeroTask) (t:=38) (by go_simp<;>rfl) ?_;intro g5 hg w2 hbox hb;have BK5:=am hbox;have G5:=am (show wr.heap.size<=g5 by omega);have HW:=am hb;clear hbox hb hg)|((with_reducible refine gate_store (t:=38) (p:=4) rfl ?_);refine store_block rfl rfl 38 (.tmp 4) (.tmp 11) rfl rfl rfl BK5.out (by rw [hcl];rfl) (by rw [hcl];kernel_rfl) (kTask.K_one HK.out) ?_;intro w3 hbox hg;have BT:=am hbox;have HW3:=am (pw_below_grown HW.out _ HW.out.size hg (fun z hz=>by cases hz;exact G5.out));clear hbox hg BK5 HW)|((with_reducible refine gate_dst (N:=12) rfl ?_);refine load_block rfl 38 (.tmp 4) rfl _ rfl BT.out Try.underlying38 rfl (by rw [hcl];kernel_rfl) ?_)|(go_at_call 46;refine (live_calls _ _ _ (kTask.K_below HW3.out HK.out)).mono ?_;rw [HY.out];rintro e w4 ⟨rfl,hb⟩;have HW4:=am (below_step HW3.out hb);have BT4:=am (zb8 BT.out hb);have BK1:=am (zb8 BK.out HW4.out);have HB1:=am (below_step HB.out HW4.out);have u2:=(zc8 BT4.out 2).trans HE2.out;have w4c:=(HW4.out.cell (World.block_lt_of_cell? _ _ HWAY.out)).trans HWAY.out;clear hb BK HB BKc;have BKd:=zc8 BK1.out)|(go_at_call 51;refine (isPlace_calls _ _ _).mono ?_;rw [HU.out];rintro e w1 ⟨rfl,rfl⟩))
       go_roundw
       case rel=>exact ⟨k+1,by omega,by go_num,⟨fun j hj hl=>by rcases Nat.lt_or_ge j k with h | h;exact HJ.out j h hl;obtain rfl:j=k:=(by omega);exact HX.out⟩,BK1,HB1⟩
       case measure=>simp [intOf];omega
      ·have y1:((taskAt s.tasks m).way != 1)=true:=by simp [hw]
       have HX:=am (show upOk s.tasks k=false by unfold upOk;rw [HM.out];simp [hw];omega);clear hw;go_wp2_with (first|((with_reducible refine gate_dst (N:=11) rfl ?_);refine wpList_load_mid rfl 38 (.tmp 10) rfl b (o+k*13) rfl cs _ HCC.out Try.underlying38 rfl (by rw [hcl];kernel_rfl) ?_)|((with_reducible refine gate_dst (N:=4) rfl ?_);refine box_event rfl (N:=4) rfl (cs:=zeroTask) (t:=38) (by go_simp<;>rfl) ?_;intro g5 hg w2 hbox hb;have BK5:=am hbox;have G5:=am (show wr.heap.size<=g5 by omega);have HW:=am hb;clear hbox hb hg)|((with_reducible refine gate_store (t:=38) (p:=4) rfl ?_);refine store_block rfl rfl 38 (.tmp 4) (.tmp 11) rfl rfl rfl BK5.out (by rw [hcl];rfl) (by rw [hcl];kernel_rfl) (kTask.K_one HK.out) ?_;intro w3 hbox hg;have BT:=am hbox;have HW3:=am (pw_below_grown HW.out _ HW.out.size hg (fun z hz=>by cases hz;exact G5.out));clear hbox hg BK5 HW)|((with_reducible refine gate_dst (N:=12) rfl ?_);refine load_block rfl 38 (.tmp 4) rfl _ rfl BT.out Try.underlying38 rfl (by rw [hcl];kernel_rfl) ?_)|(go_at_call 46;refine (live_calls _ _ _ (kTask.K_below HW3.out HK.out)).mono ?_;rw [HY.out];rintro e w4 ⟨rfl,hb⟩;have HW4:=am (below_step HW3.out hb);have BT4:=am (zb8 BT.out hb);have BK1:=am (zb8 BK.out HW4.out);have HB1:=am (below_step HB.out HW4.out);have u2:=(zc8 BT4.out 2).trans HE2.out;have w4c:=(HW4.out.cell (World.block_lt_of_cell? _ _ HWAY.out)).trans HWAY.out;clear hb BK HB BKc;have BKd:=zc8 BK1.out)|(go_at_call 51;refine (isPlace_calls _ _ _).mono ?_;rw [HU.out];rintro e w1 ⟨rfl,rfl⟩))
       go_ret;exact ⟨ret_bool (decide_eq_false (fun h=>by have:=h k hlt HY.out;rw [HX.out] at this;cases this)).symm,HB1.out⟩
     ·have HU:=am (show (decide (0<=(taskAt s.tasks k).up) && decide ((taskAt s.tasks k).up < (s.tasks.length:Int)))=false by simp;omega)
      have HX:=am (show upOk s.tasks k=true by unfold upOk;rw [HU.out];rfl);clear hu;go_wp2_with (first|((with_reducible refine gate_dst (N:=11) rfl ?_);refine wpList_load_mid rfl 38 (.tmp 10) rfl b (o+k*13) rfl cs _ HCC.out Try.underlying38 rfl (by rw [hcl];kernel_rfl) ?_)|((with_reducible refine gate_dst (N:=4) rfl ?_);refine box_event rfl (N:=4) rfl (cs:=zeroTask) (t:=38) (by go_simp<;>rfl) ?_;intro g5 hg w2 hbox hb;have BK5:=am hbox;have G5:=am (show wr.heap.size<=g5 by omega);have HW:=am hb;clear hbox hb hg)|((with_reducible refine gate_store (t:=38) (p:=4) rfl ?_);refine store_block rfl rfl 38 (.tmp 4) (.tmp 11) rfl rfl rfl BK5.out (by rw [hcl];rfl) (by rw [hcl];kernel_rfl) (kTask.K_one HK.out) ?_;intro w3 hbox hg;have BT:=am hbox;have HW3:=am (pw_below_grown HW.out _ HW.out.size hg (fun z hz=>by cases hz;exact G5.out));clear hbox hg BK5 HW)|((with_reducible refine gate_dst (N:=12) rfl ?_);refine load_block rfl 38 (.tmp 4) rfl _ rfl BT.out Try.underlying38 rfl (by rw [hcl];kernel_rfl) ?_)|(go_at_call 46;refine (live_calls _ _ _ (kTask.K_below HW3.out HK.out)).mono ?_;rw [HY.out];rintro e w4 ⟨rfl,hb⟩;have HW4:=am (below_step HW3.out hb);have BT4:=am (zb8 BT.out hb);have BK1:=am (zb8 BK.out HW4.out);have HB1:=am (below_step HB.out HW4.out);have u2:=(zc8 BT4.out 2).trans HE2.out;clear hb BK HB BKc;have BKd:=zc8 BK1.out)|(go_at_call 51;refine (isPlace_calls _ _ _).mono ?_;rw [HU.out];rintro e w1 ⟨rfl,rfl⟩))
      go_roundw
      case rel=>exact ⟨k+1,by omega,by go_num,⟨fun j hj hl=>by rcases Nat.lt_or_ge j k with h | h;exact HJ.out j h hl;obtain rfl:j=k:=(by omega);exact HX.out⟩,BK1,HB1⟩
      case measure=>simp [intOf];omega
    ·have HY:=am (show isLive (taskAt s.tasks k)=false by simpa using hy)
     clear hy;go_wp2_with (first|((with_reducible refine gate_dst (N:=11) rfl ?_);refine wpList_load_mid rfl 38 (.tmp 10) rfl b (o+k*13) rfl cs _ HCC.out Try.underlying38 rfl (by rw [hcl];kernel_rfl) ?_)|((with_reducible refine gate_dst (N:=4) rfl ?_);refine box_event rfl (N:=4) rfl (cs:=zeroTask) (t:=38) (by go_simp<;>rfl) ?_;intro g5 hg w2 hbox hb;have BK5:=am hbox;have G5:=am (show wr.heap.size<=g5 by omega);have HW:=am hb;clear hbox hb hg)|((with_reducible refine gate_store (t:=38) (p:=4) rfl ?_);refine store_block rfl rfl 38 (.tmp 4) (.tmp 11) rfl rfl rfl BK5.out (by rw [hcl];rfl) (by rw [hcl];kernel_rfl) (kTask.K_one HK.out) ?_;intro w3 hbox hg;have BT:=am hbox;have HW3:=am (pw_below_grown HW.out _ HW.out.size hg (fun z hz=>by cases hz;exact G5.out));clear hbox hg BK5 HW)|((with_reducible refine gate_dst (N:=12) rfl ?_);refine load_block rfl 38 (.tmp 4) rfl _ rfl BT.out Try.underlying38 rfl (by rw [hcl];kernel_rfl) ?_)|(go_at_call 46;refine (live_calls _ _ _ (kTask.K_below HW3.out HK.out)).mono ?_;rw [HY.out];rintro e w4 ⟨rfl,hb⟩;have HW4:=am (below_step HW3.out hb);have BT4:=am (zb8 BT.out hb);have BK1:=am (zb8 BK.out HW4.out);have HB1:=am (below_step HB.out HW4.out);clear hb BK HB BKc))
     go_roundw
     case rel=>exact ⟨k+1,by omega,by go_num,⟨fun j hj hl=>by rcases Nat.lt_or_ge j k with h | h;exact HJ.out j h hl;obtain rfl:j=k:=(by omega);rw [HY.out] at hl;cases hl⟩,BK1,HB1⟩
     case measure=>simp [intOf];omega
  ·have BKc:=zc8 BK.out
   go_wp2;go_ret;exact ⟨ret_bool (decide_eq_true (fun i hi=>HJ.out i (by omega))).symm,HB.out⟩
theorem liveAt {ts:List Task} {k:Nat} (h:k < (liveIn ts).length):∃ m:Nat,m < ts.length/\isLive (taskAt ts m)=true/\rd (liveIn ts) (k:Int)=(m:Int):=by
 obtain ⟨m,h1,h2,h3⟩:=mem_liveIn.1 (List.getElem_mem h);exact ⟨m,h1,h2,by rw [rd,Int.toNat_natCast,List.getD_eq_getElem?_getD,List.getElem?_eq_getElem h,Option.getD_some,h3]⟩
theorem liveOf {ts:List Task} {m:Nat} (h:m < ts.length) (hl:isLive (taskAt ts m)=true):∃ k:Nat,k < (liveIn ts).length/\rd (liveIn ts) (k:Int)=(m:Int):=by
 obtain ⟨k,hk,he⟩:=List.getElem_of_mem (mem_liveIn.2 ⟨m,h,hl,rfl⟩);exact ⟨k,hk,by rw [rd,Int.toNat_natCast,List.getD_eq_getElem?_getD,List.getElem?_eq_getElem hk,Option.getD_some,he]⟩
theorem specOk_calls (s:Sys) (cs:List Value) (w:World) (hx:kSys.K w s cs) (hn:s.tasks.length<=1048576):
  Calls Try.prog 25 #[.agg cs.toArray] w fun e w'=>e= .returned (.bool (treeOk s.tasks))/\Below w.heap.size w w':=by
 obtain ⟨A0,c0,A1,c1,A3,c3,rfl,l0,g0,l1,g1,l3,g3⟩:=kSys_open hx;have G:=am (And.intro g0 (And.intro g1 g3));clear g0 g1 g3 hx;go_enter Try.func25,Try.ntmps25;go_wp2_with (first|((with_reducible refine gate_dst (N:=1) rfl ?_);refine box_event rfl (N:=1) rfl (t:=27) (by go_simp<;>rfl) ?_;intro g hg w2 hbox hb;have BK:=am hbox;have HB:=am hb;have GE:=am (show w.heap.size<=g by omega);clear hbox hb hg;have hc:=zc8 BK.out)|(go_at_call 27;refine (specLive_calls s _ _ (kSys_mk s l0 (Kd.C_below G.out.1 HB.out) l1 (Kd.C_below G.out.2.1 HB.out) l3 (Kd.C_below G.out.2.2 HB.out)) hn).mono ?_;rintro e w1 ⟨v,rfl,ho,hb⟩;have HO:=am (Kd.R_lower (base':=w.heap.size) ho (below_size HB.out));have BK1:=am (zb8 BK.out hb);have HB1:=am (below_step HB.out hb);clear ho hb BK HB hc;have hc:=zc8 BK1.out))
 go_loopw [4] (fun i w'=>∃ k:Nat,k<=(liveIn s.tasks).length/\i= .int .i64 k/\Aside0 (∀ j:Nat,j < k->upOk s.tasks (rd (liveIn s.tasks) (j:Int)).toNat=true)/\Aside0 ((Kd.int .i64).R 3 w' w.heap.size (fun _=>True) v (liveIn s.tasks))/\Aside0 (w'.heap[g]? = some (.cells #[.slice A0 s.cells.length c0,.slice A1 s.tasks.length c1,.int .i64 s.clock,.slice A3 s.log.length c3] 27 (0,0)))/\Aside0 (Below w.heap.size w w')) (fun i _=>(liveIn s.tasks).length - (intOf i).toNat)
 case atStart=>exact ⟨0,Nat.zero_le _,rfl,⟨fun j hj=>by omega⟩,HO,BK1,HB1⟩
 case round=>
  clear HO BK1 HB1 hc;obtain ⟨k,hk,rfl,HJ,HO,BK,HB⟩:=hrel;have hll:(liveIn s.tasks).length<=1048576:=Nat.le_trans (pickTo_length _ _) hn;obtain ⟨Av,cv,rfl⟩:=Kd.R_slice HO.out;have BKc:=zc8 BK.out;by_cases hlt:k < (liveIn s.tasks).length
  ·have q0:(0:Int)<=(k:Int):=by omega
   have q1:(k:Int) < ((liveIn s.tasks).length:Int):=by omega
   obtain ⟨m,hml,hlv,hm⟩:=liveAt hlt;obtain ⟨gl,cap,he,hg1,hg2,hg3⟩:=Kd.R_form HO.out (by omega);cases he;have h_live:=(Kd.R_celln 0 HO.out (k:Int) q0 q1).1;rw [show rdOf 0 (liveIn s.tasks) (k:Int)=(m:Int) from hm,Int.toNat_natCast] at h_live;obtain ⟨b,o,cs,hA,hcl,hK,hcc,hc0⟩:=C_field (Kd.C_below G.out.2.1 HB.out) zTask m hml (by decide);cases hA;rw [show s.tasks.getD m zTask=taskAt s.tasks m from rfl] at hK;obtain ⟨B3,d3,B8,d8,B9,d9,B10,d10,rfl,_,_,_,_,_,_,_,_⟩:=kTask_open hK;have h_up:=hcc 2 _ rfl;simp only [show kTask.sz=13 from rfl] at h_up;have HM:=am hm;have m0:(0:Int)<=(m:Int):=by omega
   have m1:(m:Int) < (s.tasks.length:Int):=by omega
   clear hcc hc0 hK hcl hm hg3;by_cases hu:0<=(taskAt s.tasks m).up/\(taskAt s.tasks m).up < (s.tasks.length:Int)
   ·have HU:=am (show (decide (0<=(taskAt s.tasks m).up) && decide ((taskAt s.tasks m).up<=(s.tasks.length:Int) - 1))=true by simp;omega)
    obtain ⟨u,hu'⟩:=Int.eq_ofNat_of_zero_le hu.1;have hul:u < s.tasks.length:=by omega
    obtain ⟨b',o',ds,hA,hdl,hK2,hdd,_⟩:=C_field (Kd.C_below G.out.2.1 HB.out) zTask u hul (by decide);cases hA;rw [show s.tasks.getD u zTask=taskAt s.tasks u from rfl] at hK2;obtain ⟨B3,d3,B8,d8,B9,d9,B10,d10,rfl,_,_,_,_,_,_,_,_⟩:=kTask_open hK2;have h_way:=hdd 4 _ rfl;simp only [show kTask.sz=13 from rfl] at h_way;have HUU:=am hu';rw [hu'] at h_up HU;have u0:(0:Int)<=(u:Int):=by omega
    have u1:(u:Int) < (s.tasks.length:Int):=by omega
    clear hu hdd hK2 hdl hu';by_cases hw:(taskAt s.tasks u).way=1
    ·have y1:((taskAt s.tasks u).way != 1)=false:=by simp [hw]
     have HX:=am (show upOk s.tasks m=true by unfold upOk;rw [HUU.out];simp [hw]);clear hw;go_wp2;go_quiet (fail);go_wp2_with (first|(go_at_call 50;refine (l6In_calls _ _ _ _).mono ?_;rw [HU.out];rintro e w1 ⟨rfl,rfl⟩))
     go_roundw
     case rel=>exact ⟨k+1,by omega,by go_num,⟨fun j hj=>by rcases Nat.lt_or_ge j k with h | h;exact HJ.out j h;obtain rfl:j=k:=(by omega);rw [HM.out];exact HX.out⟩,⟨Kd.R_drewN HO.out _⟩,⟨blk_drewN BK.out _⟩,⟨pw_below_drewN HB.out _⟩⟩
     case measure=>simp [intOf];omega
    ·have y1:((taskAt s.tasks u).way != 1)=true:=by simp [hw]
     have HX:=am (show upOk s.tasks m=false by unfold upOk;rw [HUU.out];simp [hw];omega);clear hw;go_wp2;go_quiet (fail);go_wp2_with (first|(go_at_call 50;refine (l6In_calls _ _ _ _).mono ?_;rw [HU.out];rintro e w1 ⟨rfl,rfl⟩))
     go_ret;exact ⟨ret_bool (decide_eq_false (fun h=>by have:=h m hml hlv;rw [HX.out] at this;cases this)).symm,pw_below_drewN HB.out _⟩
   ·have HU:=am (show (decide (0<=(taskAt s.tasks m).up) && decide ((taskAt s.tasks m).up<=(s.tasks.length:Int) - 1))=false by simp;omega)
    have HX:=am (show upOk s.tasks m=true by unfold upOk;rw [show (decide (0<=(taskAt s.tasks m).up) && decide ((taskAt s.tasks m).up < (s.tasks.length:Int)))=false by simp;omega];rfl);clear hu;go_wp2;go_quiet (fail);go_wp2_with (first|(go_at_call 50;refine (l6In_calls _ _ _ _).mono ?_;rw [HU.out];rintro e w1 ⟨rfl,rfl⟩))
    go_roundw
    case rel=>exact ⟨k+1,by omega,by go_num,⟨fun j hj=>by rcases Nat.lt_or_ge j k with h | h;exact HJ.out j h;obtain rfl:j=k:=(by omega);rw [HM.out];exact HX.out⟩,⟨Kd.R_drewN HO.out _⟩,⟨blk_drewN BK.out _⟩,⟨pw_below_drewN HB.out _⟩⟩
    case measure=>simp [intOf];omega
  ·go_wp2
   go_ret;exact ⟨ret_bool (decide_eq_true (fun i hi hl=>by obtain ⟨j,hj,he⟩:=liveOf hi hl;have:=HJ.out j (by omega);rw [he] at this;exact this)).symm,HB.out⟩
end Go.Proofs.Ytimamoimphjakaa.Eq

namespace Go.Proofs.Ytimamoimphjakaa.Eq
open Go.RowKit Go.Proofs.YtimamoimphjakaaW.PrintWords Go.Proofs.YtimamoimphjakaaW.PrintLast Go.Proofs.YtimamoimphjakaaW.PrintMore
theorem task_up {W:World} {b o:Nat} {ts:List Task} (h:kTask.C W (some ⟨b,o,none⟩) ts.length ts) {i:Nat} (hi:i < ts.length):W.cell? ⟨b,o+i*13+2,none⟩=some (.int .i64 (taskAt ts i).up):=by
 obtain ⟨b2,o2,cs2,e2,hcl,hK,hcc,hc0⟩:=C_field h zTask i hi (by decide);cases e2;rw [show ts.getD i zTask=taskAt ts i from rfl] at hK;obtain ⟨B3,d3,B8,d8,B9,d9,B10,d10,rfl,_,_,_,_,_,_,_,_⟩:=kTask_open hK;exact hcc 2 _ rfl
theorem task_way {W:World} {b o:Nat} {ts:List Task} (h:kTask.C W (some ⟨b,o,none⟩) ts.length ts) {i:Nat} (hi:i < ts.length):W.cell? ⟨b,o+i*13+4,none⟩=some (.int .i64 (taskAt ts i).way):=by
 obtain ⟨b2,o2,cs2,e2,hcl,hK,hcc,hc0⟩:=C_field h zTask i hi (by decide);cases e2;rw [show ts.getD i zTask=taskAt ts i from rfl] at hK;obtain ⟨B3,d3,B8,d8,B9,d9,B10,d10,rfl,_,_,_,_,_,_,_,_⟩:=kTask_open hK;exact hcc 4 _ rfl
theorem rd_mem {xs:List Int} {k:Nat} (h:k < xs.length):rd xs (k:Int) ∈ xs:=by
 simp [rd,List.getD_eq_getElem?_getD,List.getElem?_eq_getElem h]
def okTo (ts:List Task) (k:Nat):Bool:=decide (∀ j:Nat,j < k->upOk ts (rd (liveIn ts) j).toNat=true)
theorem okTo_next (ts:List Task) (k:Nat):okTo ts (k+1)=(okTo ts k && upOk ts (rd (liveIn ts) k).toNat):=by
 unfold okTo;rw [Bool.eq_iff_iff];simp only [decide_eq_true_eq,Bool.and_eq_true];constructor
 ·intro h
  exact ⟨fun j hj=>h j (by omega),h k (by omega)⟩
 ·rintro ⟨h1,h2⟩ j hj
  rcases Nat.lt_or_ge j k with h | h
  ·exact h1 j h
  ·rw [show j=k by omega]
   exact h2
theorem okTo_all (ts:List Task):okTo ts (liveIn ts).length=treeOk ts:=by
 unfold okTo treeOk;rw [Bool.eq_iff_iff];simp only [decide_eq_true_eq];constructor
 ·intro h i hi hl
  obtain ⟨j,hj,he⟩:=List.getElem_of_mem (mem_liveIn.2 ⟨i,hi,hl,rfl⟩)
  have:=h j hj
  rw [show rd (liveIn ts) (j:Int)=(i:Int) by simp [rd,List.getD_eq_getElem?_getD,List.getElem?_eq_getElem hj,he]] at this;simpa using this
 ·intro h j hj
  obtain ⟨i,hi,hl,he⟩:=mem_liveIn.1 (rd_mem hj);rw [he,Int.toNat_natCast];exact h i hi hl
theorem fnTreeOk_calls (A:Option Addr) (c:Nat) (l:List Int) (w:World) (hC:(Kd.int .u8).C w A l.length l) (hc:l.length<=c) (hb:∀ i:Nat,0<=l.getD i 0/\l.getD i 0<=255):
  Calls Try.prog 6 #[.slice A l.length c] w fun e w'=>e= .returned (.bool true)/\Below w.heap.size w w':=by
 have HC:=am hC;have HL:=am hc;have HY:=am hb;clear hC hc hb;by_cases hbig:(1048576:Int) < (l.length:Int)
 ·have ybig:decide ((1048576:Int) < (l.length:Int))=true:=decide_eq_true hbig
  go_enter Try.func6,Try.ntmps6;go_wp2;go_ret;exact ⟨rfl,Below.refl _ _⟩
 ·have ybig:decide ((1048576:Int) < (l.length:Int))=false:=decide_eq_false hbig
  go_enter Try.func6,Try.ntmps6
  go_wp2_with (first
  |(go_at_call 23;refine (drawTreeOk_calls A c l _ HC.out HL.out HY.out).mono ?_;rintro e wf ⟨s,ss,rfl,hd⟩;obtain ⟨A0,c0,A1,c1,A3,c3,rfl,-,-,-,hg1,-,-⟩:=kSys_open hd.read;obtain ⟨b,o,-,rfl,-⟩:=C_field hg1 zTask 0 hd.pos (by decide);have HB:=am hd.below;have SK:=am hd.read;have G1:=am hg1;have HN:=am (show s.tasks.length<=1048576 from Nat.le_trans hd.few (by decide));have HTL:=am hd.pos;have HLN:=am hd.few;clear hd hg1)
  |((with_reducible refine gate_dst (N:=3) rfl ?_);refine box_event rfl (N:=3) rfl (t:=27) (by go_simp<;>rfl) ?_;intro gs hg wt hbox hb;have BS0:=am hbox;have LBS:=am (Nat.le_of_eq hg.symm);have HBT:=am hb;clear hbox hb hg)
  |((with_reducible refine gate_store (t:=27) (p:=3) rfl ?_);refine store_block rfl rfl 27 (.tmp 3) (.tmp 13) rfl rfl rfl BS0.out rfl (by kernel_rfl) (aB rfl) ?_;intro wn hbox hg;have BS:=am hbox;replace HBT:=am (pw_below_grown HBT.out _ HBT.out.size hg (fun z hz=>by cases hz;exact LBS.out));clear BS0 hbox hg;have hbT:=HBT.out;clear HBT;replace HB:=am (below_step HB.out hbT);replace SK:=am (kSys.K_below hbT SK.out);replace G1:=am (Kd.C_below G1.out hbT);clear hbT;have BSc:=zc8 BS.out)
  |((with_reducible refine gate_dst (N:=14) rfl ?_);refine wpList_load_mid rfl 27 (.tmp 3) rfl gs 0 rfl _ _ (lC BS.out) Try.underlying27 rfl (by kernel_rfl) ?_)
  |(go_at_call 24;refine (implOk_calls s _ _ SK.out HN.out).mono ?_;rintro e wn ⟨rfl,hb⟩;replace HB:=am (below_step HB.out hb);replace SK:=am (kSys.K_below hb SK.out);replace G1:=am (Kd.C_below G1.out hb);replace BS:=am (zb8 BS.out hb);clear BSc hb;have BSc:=zc8 BS.out)
  |((with_reducible refine gate_dst (N:=16) rfl ?_);refine wpList_load_mid rfl 27 (.tmp 3) rfl gs 0 rfl _ _ (lC BS.out) Try.underlying27 rfl (by kernel_rfl) ?_)
  |(go_at_call 19;refine (implLive_calls s _ _ SK.out HN.out).mono ?_;rintro e wn ⟨v,rfl,hv,hb⟩;obtain ⟨Al,cl,ev,-,hcv⟩:=Kd.R_reads hv;subst ev;have LV:=am hcv;clear hv hcv;replace HB:=am (below_step HB.out hb);replace SK:=am (kSys.K_below hb SK.out);replace G1:=am (Kd.C_below G1.out hb);replace BS:=am (zb8 BS.out hb);clear BSc hb;have BSc:=zc8 BS.out))
  go_loopw [6,7] (fun av i w'=>∃ k:Nat,k<=(liveIn s.tasks).length/\av= .bool (okTo s.tasks k)/\i= .int .i64 k/\Aside0 (w'.heap[gs]? = some (.cells #[.slice A0 s.cells.length c0,.slice (some ⟨b,o,none⟩) s.tasks.length c1,.int .i64 s.clock,.slice A3 s.log.length c3] 27 (0,0)))/\Aside0 (kTask.C w' (some ⟨b,o,none⟩) s.tasks.length s.tasks)/\Aside0 (kSys.K w' s [.slice A0 s.cells.length c0,.slice (some ⟨b,o,none⟩) s.tasks.length c1,.int .i64 s.clock,.slice A3 s.log.length c3])/\Aside0 ((Kd.int .i64).C w' Al (liveIn s.tasks).length (liveIn s.tasks))/\Aside0 (Below w.heap.size w w')) (fun _ i _=>(liveIn s.tasks).length - (intOf i).toNat)
  case atStart=>exact ⟨0,Nat.zero_le _,rfl,rfl,BS,G1,SK,LV,HB⟩
  case round=>
   clear BS G1 SK LV HB BSc;obtain ⟨k,hk,rfl,rfl,BS,G1,SK,LV,HB⟩:=hrel;have BSc:=zc8 BS.out;have hll:(liveIn s.tasks).length<=1048576:=Nat.le_trans (pickTo_length _ _) HN.out;by_cases hlt:k < (liveIn s.tasks).length
   ·have q0:(0:Int)<=(k:Int):=by omega
    have q1:(k:Int) < ((liveIn s.tasks).length:Int):=by omega
    obtain ⟨i,hi,hlv,hri⟩:=mem_liveIn.1 (rd_mem hlt);have HON:=am (okTo_next s.tasks k);rw [hri,Int.toNat_natCast] at HON;obtain ⟨al,rfl,gx⟩:=Kd.at_int LV.out (k:Int) q0 q1;rw [hri] at gx;simp only [Int.toNat_natCast] at gx;clear hri hlv;have p0:(0:Int)<=(i:Int):=by omega
    have p1:(i:Int) < (s.tasks.length:Int):=by omega
    have GX:=am gx;have HU:=am (task_up G1.out hi);clear gx;go_wp2;refine st9 (n:=10) (S:=fun W=>W.heap[gs]? = some (.cells #[.slice A0 s.cells.length c0,.slice (some ⟨b,o,none⟩) s.tasks.length c1,.int .i64 s.clock,.slice A3 s.log.length c3] 27 (0,0))/\W.cell? (al.add k)=some (.int .i64 (i:Int))/\W.cell? ⟨b,o+i*13+2,none⟩=some (.int .i64 (taskAt s.tasks i).up)) (ds:= []) (by kernel_rfl) rfl ⟨blk_drew BS.out,GX.out,HU.out⟩ (fun hHeld=> ?_);have hb:=below_drew (Below.refl wr.heap.size wr);generalize wr.drew=w7 at hb hHeld ⊢;clear GX HU;replace HB:=am (below_step HB.out hb);replace SK:=am (kSys.K_below hb SK.out);replace G1:=am (Kd.C_below G1.out hb);replace BS:=am (zb8 BS.out hb);replace LV:=am (Kd.C_below LV.out hb);clear BSc hb;have BSc:=zc8 BS.out;refine ba9 (fuel:=0) (n:=10) [0,1,2,3,4,5,6,7,8,9] (by kernel_rfl) (fun N _ _ _ _ h=>by cases N <;> exact h) hHeld ?_
    iterate 10 (
     refine stillS_step (v:= ?_) (a':= ?_) rfl (Or.inl ⟨by rfl, ?_⟩) ?_ ?_;rotate_left
     ·rintro W ⟨s0,s1,s2⟩
      have t0:=zc8 s0;clear s0;go_simp;with_reducible rfl
     rotate_left
     ·simp only [Act.put,sA,sZ,sS,i64_w]
      rfl)
    refine stillS_nil ?_;refine done_ (by kernel_rfl) ?_;clear hHeld;obtain ⟨u,hu⟩:∃ u,(taskAt s.tasks i).up=u:=⟨_,rfl⟩;have UO:=am (show upOk s.tasks i=(!(decide (0<=u) && decide (u < (s.tasks.length:Int))) || decide ((taskAt s.tasks u.toNat).way=1)) by rw [<-hu];rfl);rw [hu];clear hu;by_cases h0:(0:Int)<=u
    ·have y0:decide ((0:Int)<=u)=true:=decide_eq_true h0
     by_cases h1:u < (s.tasks.length:Int)
     ·have y1:decide (u < (s.tasks.length:Int))=true:=decide_eq_true h1
      obtain ⟨n,rfl⟩:=Int.eq_ofNat_of_zero_le h0;have h_way:=task_way G1.out (i:=n) (by omega);rw [Int.toNat_natCast] at UO;by_cases h2:(taskAt s.tasks n).way=1
      ·have y2:((taskAt s.tasks n).way != 1)=false:=by simp [h2]
       have UV:=am (show upOk s.tasks i=true by rw [UO.out,decide_eq_true h2,Bool.or_true]);clear h2;go_wp2;go_roundw
       case rel=>exact ⟨k+1,by omega,by rw [HON.out,UV.out];simp,by go_num,BS,G1,SK,LV,HB⟩
       case measure=>simp [intOf];omega
      ·have y2:((taskAt s.tasks n).way != 1)=true:=by simp [h2]
       have UV:=am (show upOk s.tasks i=false by rw [UO.out,decide_eq_false h2,y0,y1];rfl);clear h2;go_wp2;go_roundw
       case rel=>exact ⟨k+1,by omega,by rw [HON.out,UV.out];simp,by go_num,BS,G1,SK,LV,HB⟩
       case measure=>simp [intOf];omega
     ·have y1:decide (u < (s.tasks.length:Int))=false:=decide_eq_false h1
      have UV:=am (show upOk s.tasks i=true by rw [UO.out,y1,Bool.and_false];rfl);go_wp2;go_roundw
      case rel=>exact ⟨k+1,by omega,by rw [HON.out,UV.out];simp,by go_num,BS,G1,SK,LV,HB⟩
      case measure=>simp [intOf];omega
    ·have y0:decide ((0:Int)<=u)=false:=decide_eq_false h0
     have UV:=am (show upOk s.tasks i=true by rw [UO.out,y0,Bool.false_and];rfl);go_wp2;go_roundw
     case rel=>exact ⟨k+1,by omega,by rw [HON.out,UV.out];simp,by go_num,BS,G1,SK,LV,HB⟩
     case measure=>simp [intOf];omega
   ·obtain rfl:k=(liveIn s.tasks).length:=by omega
    have q1:¬ ((liveIn s.tasks).length:Int) < ((liveIn s.tasks).length:Int):=by omega
    rw [okTo_all]
    go_wp2_with (first
    |((with_reducible refine gate_dst (N:=52) rfl ?_);refine wpList_load_mid rfl 27 (.tmp 3) rfl gs 0 rfl _ _ (lC BS.out) Try.underlying27 rfl (by kernel_rfl) ?_)
    |(go_at_call 25;refine (specOk_calls s _ _ SK.out HN.out).mono ?_;rintro e wn ⟨rfl,hb⟩;replace HB:=am (below_step HB.out hb);replace SK:=am (kSys.K_below hb SK.out);replace G1:=am (Kd.C_below G1.out hb);replace BS:=am (zb8 BS.out hb);clear BSc hb;have BSc:=zc8 BS.out))
    go_ret;exact ⟨ret_bool (by simp),HB.out⟩
end Go.Proofs.Ytimamoimphjakaa.Eq
namespace Go.Proofs.Ytimamoimphjakaa.fnTreeOk
open Go.ChangeShapes Go.WideShapes Go.ChangeAt Go.RowKit Go.Proofs.YtimamoimphjakaaW.PrintWords
theorem own:ownKnob Try.prog.godebug=none:=by kernel_rfl
theorem laidOut:laidOutB Try.prog=true:=by kernel_rfl
def IsRow (k:IntKind) (w:World) (a:Option Addr) (len cap:Nat) (zs:List Int):Prop:=
 (a=none/\len=0/\cap=0/\zs= [])\/
 ∃ x,a=some x/\len<=cap/\cap<=maxLen/\zs.length=cap/\(∀ i,i < zs.length->w.cell? (x.add i)=some (.int k (zs.getD i 0)))/\∀ n ∈ zs,(Lit.int k n).wf=true
theorem bytes {l:List Int} (h:∀ x ∈ l,(Lit.int .u8 x).wf=true) (i:Nat):0<=l.getD i 0/\l.getD i 0<=255:=by
 have:=range_u8 h i
 rwa [List.getD_eq_getElem?_getD]
theorem lifted (os:Os) (started:os.Started) (H:Type) (enc:TypeId × Value->H):
  ReturnsInHanded {} Try.checked os 6 .any (Rows.fnTreeOkSpec.pre6 enc Try.prog Try.f6 Rows.fnTreeOkRow.domain false) (Rows.fnTreeOkSpec.post enc Try.prog Try.f6 false true false false):=by
 refine returnsInHanded_of_change_sized (C:=Try.checked) own started (by kernel_rfl) Try.func6
  (ChangeSpec.witness6 (enc:=enc) (C:=Try.checked) false ⟨#[],#[.slice none 0 0], []⟩ 8 (by kernel_rfl) (by kernel_rfl) (by kernel_rfl) (by kernel_rfl)) ?_
 intro W base args ds gs before hval0 hW hcnd hsz0 _;have hval:∀ (j:Nat) t v,Try.f6.params[j]? = some t->args[j]? = some v->Value.okWide Try.prog W .any base t v:=hval0;have hW':=hW;obtain ⟨p,q,hA0,hV,rfl,hfz,hnd⟩:=hW;have hA:DataW.TrodAll enc Try.prog W 0 (fun _=>true) true Try.f6.params.toList args.toList ds p:=hA0;rw [Try.params6] at hA hval;obtain ⟨v0,vs0,d0,ds0,p0,q0,hargs,rfl,rfl,h0,r0⟩:=trodAll_cons hA;obtain ⟨rfl,rfl,rfl⟩:=trodAll_nil r0;obtain rfl:args= #[v0]:=by cases args;simp_all
 obtain ⟨rfl,rfl⟩:=trodVars_none hV;obtain ⟨a0,len0,cap0,rfl⟩:=okWide_slice Try.underlying22 (hval 0 22 v0 rfl rfl);have k0:=h0;have lt0:∀ x ∈ p0,x.block < W.heap.size:=by obtain ⟨m,hm⟩:=k0;exact DataW.trod_lt m _ _ _ hm
 obtain ⟨z0,w0⟩:∃ zs,IsRow .u8 W a0 len0 cap0 zs:=by
  obtain ⟨fuel,hf⟩:=h0;rcases open_ints Try.underlying22 Try.underlying5 (by kernel_rfl) hf with ⟨hcs,_⟩ | ⟨x,l,c,zs,hcs,_,hl,hm,hz,_,hcell,hwz⟩
  ·simp [Value.cells] at hcs
   obtain ⟨rfl,rfl,rfl⟩:=hcs;exact ⟨[],.inl ⟨rfl,rfl,rfl,rfl⟩⟩
  ·simp [Value.cells] at hcs
   obtain ⟨rfl,rfl,rfl⟩:=hcs;exact ⟨zs,.inr ⟨_,rfl,hl,hm,by simpa using hz,hcell,hwz⟩⟩
 obtain ⟨l0,rfl,hr0,hm0,hw0,hc0⟩:=ReadsInt.ofRowC w0;refine (Eq.fnTreeOk_calls a0 cap0 l0 W (Kd.C_of_reads (d:=(0:Int)) (h1:=fun _=>rfl) hr0) hc0 (bytes hw0)).mono fun e W' ⟨he,bel⟩=> ?_
 subst he;exact ⟨_,rfl,_,_,_, [],_, [],hW',trodAll_mk1 (shut_bool Try.underlying4 _),(trodAll_cons_mk (Below.trod laidOut (by kernel_rfl) (of_decide_eq_true (by kernel_rfl)) k0 bel lt0) trodAll_mk0),rfl,bel.frame _,fun h=>by cases h⟩
theorem over:Rows.fnTreeOkRow.holds Try.pinned (OpenSpec.ofChange Rows.fnTreeOkSpec):=
 OpenClaim.holds_of_wide 6 Try.f6 rfl rfl rfl rfl rfl rfl rfl ⟨rfl,rfl,rfl,rfl,rfl⟩ rfl rfl rfl rfl rfl (by kernel_rfl) Try.func6 (by kernel_rfl)
  (of_decide_eq_true (by kernel_rfl)) (by unfold Func.isWrapper;first|(rw [if_pos (by decide +kernel)];kernel_rfl)|(rw [if_neg (by decide +kernel)];exact ⟨rfl,rfl⟩))
  (fun os started H enc _=>lifted os started H enc)
theorem proved:Rows.FnTreeOkSaid:=over
end Go.Proofs.Ytimamoimphjakaa.fnTreeOk
namespace Go.Proofs.Ytimamoimphjakaa
theorem fnTreeOk_holds:Rows.FnTreeOkSaid:=fnTreeOk.proved
end Go.Proofs.Ytimamoimphjakaa
