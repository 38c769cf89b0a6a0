/- The law FnTreeLive: it returns true whatever the input, and the input reads as it did. No conditions. -/
import Derived.Test.YtimamoimphjakaaRows
import Derived.Test.YtimamoimphjakaaZ6
import Derived.ChangeOld
import Derived.OpenShut
import Derived.ProofKit
import Derived.ShutString
import Derived.SizedLaws
set_option maxHeartbeats 8000000
set_option maxRecDepth 100000
set_option linter.unusedVariables false
set_option linter.unusedSimpArgs false
namespace Go.Proofs.Ytimamoimphjakaa.Eq
open Go.RowKit Go.Proofs.YtimamoimphjakaaW.PrintWords Go.Proofs.YtimamoimphjakaaW.PrintLast Go.Proofs.YtimamoimphjakaaW.PrintMore
theorem specLive_calls (s:Sys) (cs:List Value) (w:World) (hx:kSys.K w s cs) (hn:s.tasks.length<=1048576):
  Calls Try.prog 27 #[.agg cs.toArray] w fun e w'=>∃ v,e= .returned v/\(Kd.int .i64).R 3 w' w.heap.size (fun _=>True) v (liveIn s.tasks)/\Below w.heap.size w w':=by
 obtain ⟨A0,c0,A1,c1,A3,c3,rfl,l0,g0,l1,g1,l3,g3⟩:=kSys_open hx;have G:=am g1;clear g0 g1 g3 l0 l1 l3 hx;go_enter Try.func27,Try.ntmps27;go_wp2_with (first|((with_reducible refine gate_dst (N:=1) rfl ?_);refine box_event rfl (N:=1) rfl (t:=27) (by go_simp<;>rfl) ?_;intro g hg w2 hbox hb;have BK:=am hbox;have HB:=am hb;have GE:=am (show w.heap.size<=g by omega);clear hbox hb hg;have hc:=zc8 BK.out)|((with_reducible refine gate_dst (N:=5) rfl ?_);refine Kd.R_lit (w0:=w) (Kd.int .i64) w.heap.size 3 rfl (N:=5) rfl (xs:=([]:List Int)) (inner:= []) (ok:=fun _=>True) (okp:=fun _=>True) (by go_simp<;>rfl) (Reps.none _ _) (fun _ hk=>hk) trivial HB.out (below_size HB.out) (by simp) ?_;intro v0 w3 ho hb hg _;have BK1:=am (blk_grown BK.out hg (by simp));have HO1:=am ho;have HB1:=am hb;clear ho hb hg HB BK hc;have hc:=zc8 BK1.out))
 go_loopw [3,4] (fun v i w'=>∃ k:Nat,k<=s.tasks.length/\i= .int .i64 k/\Aside0 ((Kd.int .i64).R 3 w' w.heap.size (fun _=>True) v (pickTo (fun i=>isLive (taskAt s.tasks i)) k))/\Aside0 (w'.heap[g]? = some (.cells #[.slice A0 s.cells.length c0,.slice A1 s.tasks.length c1,.int .i64 s.clock,.slice A3 s.log.length c3] 27 (0,0)))/\Aside0 (Below w.heap.size w w')) (fun _ i _=>s.tasks.length - (intOf i).toNat)
 case atStart=>exact ⟨0,Nat.zero_le _,rfl,HO1,BK1,HB1⟩
 case round=>
  clear HO1 BK1 HB1 hc;obtain ⟨k,hk,rfl,HO,BK,HB⟩:=hrel;have hlen:=pickTo_length (fun i=>isLive (taskAt s.tasks i)) k;by_cases hlt:k < s.tasks.length
  · skip
    have BKc:=zc8 BK.out;obtain ⟨b,o,cs,rfl,hcl,hK,hcc,hc0⟩:=C_field (Kd.C_below G.out HB.out) zTask k hlt (by decide);rw [show s.tasks.getD k zTask=taskAt s.tasks k from rfl] at hK;obtain ⟨B3,d3,B8,d8,B9,d9,B10,d10,rfl,_,_,_,_,_,_,_,_⟩:=kTask_open hK;have h_way:=hcc 4 _ rfl;simp only [show kTask.sz=13 from rfl] at h_way;clear hcc hc0 hK hcl;have q0:(0:Int)<=(k:Int):=by omega
    have q1:(k:Int) < (s.tasks.length:Int):=by omega
    by_cases hy:(taskAt s.tasks k).way=0
    ·have y0:((taskAt s.tasks k).way == 0)=true:=by simp [hy]
     have HY:=am (show isLive (taskAt s.tasks k)=true by simp [isLive,hy]);clear hy;go_wp2_with (first|((with_reducible refine gate_builtin (b:=.append) (xs:=#[.tmp 29,.tmp 31]) rfl ?_);at_builtin;refine Kd.R_append (Kd.int .i64) (w0:=w) w.heap.size rfl (.tmp 29) (.tmp 31) 29 3 (.int .i64 0) 8 rfl Try.underlying29 info_int rfl (by decide) (by omega) _ (pickTo (fun i=>isLive (taskAt s.tasks i)) k) (k:Int) [.int .i64 (k:Int)] (fun _=>True) (fun _=>False) rfl rfl rfl (fun _ hk=>hk.elim) (fun _ _=>trivial) HO.out HB.out (below_size HB.out) (by omega) ?_;intro v1 w1 ho hb hg _;have BK1:=am (blk_grown BK.out hg (Kd.R_ne HO.out BK.out (by decide)));have HO1:=am ho;have HB1:=am hb;clear ho hb hg HO HB BK))
     go_roundw
     case rel=>exact ⟨k+1,by omega,by go_num,⟨by rw [pickTo_yes (HY.out)];exact HO1.out⟩,BK1,HB1⟩
     case measure=>simp [intOf];omega
    ·have y0:((taskAt s.tasks k).way == 0)=false:=by simp [hy]
     by_cases hz:(taskAt s.tasks k).way=1
     ·have y1:((taskAt s.tasks k).way == 1)=true:=by simp [hz]
      have HY:=am (show isLive (taskAt s.tasks k)=true by simp [isLive,hz]);clear hy hz;go_wp2_with (first|((with_reducible refine gate_builtin (b:=.append) (xs:=#[.tmp 29,.tmp 31]) rfl ?_);at_builtin;refine Kd.R_append (Kd.int .i64) (w0:=w) w.heap.size rfl (.tmp 29) (.tmp 31) 29 3 (.int .i64 0) 8 rfl Try.underlying29 info_int rfl (by decide) (by omega) _ (pickTo (fun i=>isLive (taskAt s.tasks i)) k) (k:Int) [.int .i64 (k:Int)] (fun _=>True) (fun _=>False) rfl rfl rfl (fun _ hk=>hk.elim) (fun _ _=>trivial) HO.out HB.out (below_size HB.out) (by omega) ?_;intro v1 w1 ho hb hg _;have BK1:=am (blk_grown BK.out hg (Kd.R_ne HO.out BK.out (by decide)));have HO1:=am ho;have HB1:=am hb;clear ho hb hg HO HB BK))
      go_roundw
      case rel=>exact ⟨k+1,by omega,by go_num,⟨by rw [pickTo_yes (HY.out)];exact HO1.out⟩,BK1,HB1⟩
      case measure=>simp [intOf];omega
     ·have y1:((taskAt s.tasks k).way == 1)=false:=by simp [hz]
      have HY:=am (show isLive (taskAt s.tasks k)=false by simp [isLive,hy,hz]);clear hy hz;go_wp2;go_roundw
      case rel=>exact ⟨k+1,by omega,by go_num,⟨by rw [pickTo_no (HY.out)];exact HO.out⟩,BK,HB⟩
      case measure=>simp [intOf];omega
  ·have BKc:=zc8 BK.out
   go_wp2;go_ret;obtain rfl:k=s.tasks.length:=by omega
   exact ⟨_,rfl,HO.out,HB.out⟩
def zeroTask:Array Value:=#[.int .i64 0,.int .i64 0,.int .i64 0,.slice none 0 0,.int .i64 0,.int .i64 0,.int .i64 0,.int .i64 0,.slice none 0 0,.slice none 0 0,.slice none 0 0,.int .i64 0,.int .i64 0]
theorem implLive_calls (s:Sys) (cs:List Value) (w:World) (hx:kSys.K w s cs) (hn:s.tasks.length<=1048576):
  Calls Try.prog 19 #[.agg cs.toArray] w fun e w'=>∃ v,e= .returned v/\(Kd.int .i64).R 3 w' w.heap.size (fun _=>True) v (liveIn s.tasks)/\Below w.heap.size w w':=by
 obtain ⟨A0,c0,A1,c1,A3,c3,rfl,l0,g0,l1,g1,l3,g3⟩:=kSys_open hx;have G:=am g1;clear g0 g1 g3 l0 l1 l3 hx;go_enter Try.func19,Try.ntmps19;go_wp2_with ((with_reducible refine gate_dst (N:=1) rfl ?_);refine box_event rfl (N:=1) rfl (t:=27) (by go_simp<;>rfl) ?_;intro g hg w2 hbox hb;have BK:=am hbox;have HB:=am hb;have GE:=am (show w.heap.size<=g by omega);clear hbox hb hg;have hc:=zc8 BK.out)
 go_loopw [3,9] (fun v i w'=>∃ k:Nat,k<=s.tasks.length/\i= .int .i64 k/\Aside0 ((Kd.int .i64).R 3 w' w.heap.size (fun _=>True) v (pickTo (fun i=>isLive (taskAt s.tasks i)) k))/\Aside0 (w'.heap[g]? = some (.cells #[.slice A0 s.cells.length c0,.slice A1 s.tasks.length c1,.int .i64 s.clock,.slice A3 s.log.length c3] 27 (0,0)))/\Aside0 (Below w.heap.size w w')) (fun _ i _=>s.tasks.length - (intOf i).toNat)
 case atStart=>exact ⟨0,Nat.zero_le _,rfl,⟨Kd.R_nil _ _ _ _ _⟩,BK,HB⟩
 case round=>
  clear BK HB hc;obtain ⟨k,hk,rfl,HO,BK,HB⟩:=hrel;have hlen:=pickTo_length (fun i=>isLive (taskAt s.tasks i)) k;by_cases hlt:k < s.tasks.length
  · skip
    have BKc:=zc8 BK.out;obtain ⟨b,o,cs,rfl,hcl,hK,hcc,hc0⟩:=C_field (Kd.C_below G.out HB.out) zTask k hlt (by decide);rw [show s.tasks.getD k zTask=taskAt s.tasks k from rfl] at hK;have HK:=am hK;have HCC:=am hcc;have q0:(0:Int)<=(k:Int):=by omega
    have q1:(k:Int) < (s.tasks.length:Int):=by omega
    clear hK hcc hc0;by_cases hy:isLive (taskAt s.tasks k)=true
    ·have HY:=am hy
     clear hy;go_wp2_with (first|((with_reducible refine gate_dst (N:=13) rfl ?_);refine wpList_load_mid rfl 38 (.tmp 12) rfl b (o+k*13) rfl cs _ HCC.out Try.underlying38 rfl (by rw [hcl];kernel_rfl) ?_)|((with_reducible refine gate_dst (N:=5) rfl ?_);refine box_event rfl (N:=5) rfl (cs:=zeroTask) (t:=38) (by go_simp<;>rfl) ?_;intro g5 hg w2 hbox hb;have BK5:=am hbox;have G5:=am (show wr.heap.size<=g5 by omega);have HW:=am hb;clear hbox hb hg)|((with_reducible refine gate_store (t:=38) (p:=5) rfl ?_);refine store_block rfl rfl 38 (.tmp 5) (.tmp 13) rfl rfl rfl BK5.out (by rw [hcl];rfl) (by rw [hcl];kernel_rfl) (kTask.K_one HK.out) ?_;intro w3 hbox hg;have BT:=am hbox;have HW3:=am (pw_below_grown HW.out _ HW.out.size hg (fun z hz=>by cases hz;exact G5.out));clear hbox hg BK5 HW)|((with_reducible refine gate_dst (N:=14) rfl ?_);refine load_block rfl 38 (.tmp 5) rfl _ rfl BT.out Try.underlying38 rfl (by rw [hcl];kernel_rfl) ?_)|(go_at_call 46;refine (live_calls _ _ _ (kTask.K_below HW3.out HK.out)).mono ?_;rw [HY.out];rintro e w4 ⟨rfl,hb⟩;have HW4:=am (below_step HW3.out hb);replace HO:=am (Kd.R_below HO.out HW4.out);replace BK:=am (zb8 BK.out HW4.out);replace HB:=am (below_step HB.out HW4.out);clear hb;clear BKc)|((with_reducible refine gate_builtin (b:=.append) (xs:=#[.tmp 16,.tmp 18]) rfl ?_);at_builtin;refine Kd.R_append (Kd.int .i64) (w0:=w) w.heap.size rfl (.tmp 16) (.tmp 18) 29 3 (.int .i64 0) 8 rfl Try.underlying29 info_int rfl (by decide) (by omega) _ (pickTo (fun i=>isLive (taskAt s.tasks i)) k) (k:Int) [.int .i64 (k:Int)] (fun _=>True) (fun _=>False) rfl rfl rfl (fun _ hk=>hk.elim) (fun _ _=>trivial) HO.out HB.out (below_size HB.out) (by omega) ?_;intro v1 w1 ho hb hg _;have BK1:=am (blk_grown BK.out hg (Kd.R_ne HO.out BK.out (by decide)));have HO1:=am ho;have HB1:=am hb;clear ho hb hg HO HB BK))
     go_roundw
     case rel=>exact ⟨k+1,by omega,by go_num,⟨by rw [pickTo_yes (HY.out)];exact HO1.out⟩,BK1,HB1⟩
     case measure=>simp [intOf];omega
    ·have HY:=am (show isLive (taskAt s.tasks k)=false by simpa using hy)
     clear hy;go_wp2_with (first|((with_reducible refine gate_dst (N:=13) rfl ?_);refine wpList_load_mid rfl 38 (.tmp 12) rfl b (o+k*13) rfl cs _ HCC.out Try.underlying38 rfl (by rw [hcl];kernel_rfl) ?_)|((with_reducible refine gate_dst (N:=5) rfl ?_);refine box_event rfl (N:=5) rfl (cs:=zeroTask) (t:=38) (by go_simp<;>rfl) ?_;intro g5 hg w2 hbox hb;have BK5:=am hbox;have G5:=am (show wr.heap.size<=g5 by omega);have HW:=am hb;clear hbox hb hg)|((with_reducible refine gate_store (t:=38) (p:=5) rfl ?_);refine store_block rfl rfl 38 (.tmp 5) (.tmp 13) rfl rfl rfl BK5.out (by rw [hcl];rfl) (by rw [hcl];kernel_rfl) (kTask.K_one HK.out) ?_;intro w3 hbox hg;have BT:=am hbox;have HW3:=am (pw_below_grown HW.out _ HW.out.size hg (fun z hz=>by cases hz;exact G5.out));clear hbox hg BK5 HW)|((with_reducible refine gate_dst (N:=14) rfl ?_);refine load_block rfl 38 (.tmp 5) rfl _ rfl BT.out Try.underlying38 rfl (by rw [hcl];kernel_rfl) ?_)|(go_at_call 46;refine (live_calls _ _ _ (kTask.K_below HW3.out HK.out)).mono ?_;rw [HY.out];rintro e w4 ⟨rfl,hb⟩;have HW4:=am (below_step HW3.out hb);replace HO:=am (Kd.R_below HO.out HW4.out);replace BK:=am (zb8 BK.out HW4.out);replace HB:=am (below_step HB.out HW4.out);clear hb;clear BKc))
     go_roundw
     case rel=>exact ⟨k+1,by omega,by go_num,⟨by rw [pickTo_no (HY.out)];exact HO.out⟩,BK,HB⟩
     case measure=>simp [intOf];omega
  ·have BKc:=zc8 BK.out
   go_wp2;go_ret;obtain rfl:k=s.tasks.length:=by omega
   exact ⟨_,rfl,HO.out,HB.out⟩
theorem agree_all {α:Type} (xs ys:List α) (hl:xs.length=ys.length) (h:∀ j,j < xs.length->xs[j]? = ys[j]?):xs=ys:=by
 apply List.ext_getElem?;intro j;by_cases hj:j < xs.length
 ·exact h j hj
 ·rw [List.getElem?_eq_none (by omega),List.getElem?_eq_none (by omega)]
theorem agree_step {α:Type} {xs ys:List α} {k:Nat} {z:α} (H:∀ j,j < k->xs[j]? = ys[j]?) (h1:k < xs.length) (h2:k < ys.length) (he:xs.getD k z=ys.getD k z) {j:Nat} (hj:j < k+1):xs[j]? = ys[j]? :=by
 by_cases h:j < k
 ·exact H j h
 ·obtain rfl:j=k:=by omega
  simp only [List.getD_eq_getElem?_getD] at he;rw [List.getElem?_eq_getElem (by omega),List.getElem?_eq_getElem (by omega)] at he ⊢;simpa using he
theorem lqInts_calls (xs ys:List Int) (A B:Option Addr) (c d:Nat) (w:World) (hx:(Kd.int .i64).C w A xs.length xs) (hy:(Kd.int .i64).C w B ys.length ys):
  Calls Try.prog 17 #[.slice A xs.length c,.slice B ys.length d] w fun e w'=>e= .returned (.bool (decide (xs=ys)))/\Drawn0 w w':=by
 have HX:=am hx;have HY:=am hy;have hm:=Kd.C_max hx;clear hx hy;by_cases hl:xs.length=ys.length
 ·have hlb:((xs.length:Int) != (ys.length:Int))=false:=by rw [hl];simp
  have HL:=am hl;clear hl;go_enter Try.func17,Try.ntmps17;go_wp2;have HLB:=am hlb;clear hlb;go_loopw [5] (fun v w'=>∃ k:Nat,k<=xs.length/\v= .int .i64 k/\Aside0 (∀ j,j < k->xs[j]? = ys[j]?)/\Drawn0 w w') (fun v _=>xs.length - (intOf v).toNat)
  case atStart=>exact ⟨0,Nat.zero_le _,rfl,⟨fun j hj=>by omega⟩,Drawn0.refl _⟩
  case round=>
   obtain ⟨k,hk,rfl,HJ,HD⟩:=hrel;obtain ⟨n,rfl⟩:=HD.out;clear HD;by_cases hlt:k < xs.length
   ·have hlt2:k < ys.length:=by rw [<-HL.out];exact hlt
    have h0:(0:Int)<=(k:Int):=by omega
    have h1:(k:Int) < (xs.length:Int):=by omega
    have h2:(k:Int) < (ys.length:Int):=by omega
    obtain ⟨ax,rfl,gx⟩:=Kd.at_int HX.out (k:Int) (by omega) h1;obtain ⟨ay,rfl,gy⟩:=Kd.at_int HY.out (k:Int) (by omega) h2;simp only [Int.toNat_natCast] at gx gy;by_cases he:rd xs k=rd ys k
    ·have heb:(rd xs k != rd ys k)=false:=by simp [he]
     have HE:=am he;clear he;go_wp2;go_quiet (fail);go_wp2;go_roundw
     case rel=>exact ⟨k+1,by omega,by go_num,⟨fun j hj=>agree_step HJ.out hlt hlt2 HE.out hj⟩,⟨⟨_,rfl⟩⟩⟩
     case measure=>simp [intOf];omega
    ·have heb:(rd xs k != rd ys k)=true:=by simp [he]
     have HE:=am he;clear he;go_wp2;go_quiet (fail);go_wp2;go_ret;exact ⟨ret_bool (decide_eq_false (fun h=>HE.out (by rw [h]))).symm,Drawn0.step ⟨⟨n,rfl⟩⟩ _⟩
   ·go_wp2
    go_ret;exact ⟨ret_bool (decide_eq_true (agree_all xs ys HL.out (fun j hj=>HJ.out j (by omega)))).symm,⟨⟨n,rfl⟩⟩⟩
 ·have hlb:((xs.length:Int) != (ys.length:Int))=true:=by simp;omega
  have hlc:(xs.length != ys.length)=true:=by simp;omega
  have hld:(xs.length == ys.length)=false:=by simp;omega
  have HL:=am hl;clear hl;go_enter Try.func17,Try.ntmps17;go_wp2;go_ret;exact ⟨ret_bool (decide_eq_false (fun h=>HL.out (by rw [h]))).symm,Drawn0.refl _⟩
theorem lqHas_calls (xs:List Int) (A:Option Addr) (c:Nat) (n:Int) (w:World) (hx:(Kd.int .i64).C w A xs.length xs):
  Calls Try.prog 28 #[.slice A xs.length c,.int .i64 n] w fun e w'=>e= .returned (.bool (decide (n ∈ xs)))/\Drawn0 w w':=by
 have HX:=am hx;have hm:=Kd.C_max hx;clear hx;go_enter Try.func28,Try.ntmps28;go_wp2;go_loopw [5] (fun v w'=>∃ k:Nat,k<=xs.length/\v= .int .i64 k/\Aside0 (∀ j:Nat,j < k->rd xs j ≠ n)/\Drawn0 w w') (fun v _=>xs.length - (intOf v).toNat)
 case atStart=>exact ⟨0,Nat.zero_le _,rfl,⟨fun j hj=>by omega⟩,Drawn0.refl _⟩
 case round=>
  obtain ⟨k,hk,rfl,HJ,HD⟩:=hrel;obtain ⟨m,rfl⟩:=HD.out;clear HD;by_cases hlt:k < xs.length
  ·have h0:(0:Int)<=(k:Int):=by omega
   have h1:(k:Int) < (xs.length:Int):=by omega
   obtain ⟨ax,rfl,gx⟩:=Kd.at_int HX.out (k:Int) (by omega) h1;simp only [Int.toNat_natCast] at gx;by_cases he:rd xs k=n
   ·have heb:(rd xs k == n)=true:=by simp [he]
    have HE:=am he;clear he;go_wp2;go_ret;exact ⟨ret_bool (decide_eq_true (by rw [<-HE.out];simp [rd,List.getD_eq_getElem?_getD,List.getElem?_eq_getElem hlt])).symm,⟨⟨m,rfl⟩⟩⟩
   ·have heb:(rd xs k == n)=false:=by simp [he]
    have HE:=am he;clear he;go_wp2;go_roundw
    case rel=>exact ⟨k+1,by omega,by go_num,⟨fun j hj=>by rcases Nat.lt_or_ge j k with h | h;exact HJ.out j h;rw [show j=k by omega];exact HE.out⟩,⟨⟨_,rfl⟩⟩⟩
    case measure=>simp [intOf];omega
  ·go_wp2
   go_ret
   exact ⟨ret_bool (decide_eq_false (fun hmem=>by
    obtain ⟨j,hj,he⟩:=List.getElem_of_mem hmem;exact HJ.out j (by omega) (by simp [rd,List.getD_eq_getElem?_getD,List.getElem?_eq_getElem hj,he]))).symm,⟨⟨m,rfl⟩⟩⟩
def upB (xs:List Int):Bool:=decide (∀ j:Nat,j < xs.length->1<=j->rd xs ((j:Int) - 1) < rd xs j)
theorem lqUp_calls (xs:List Int) (A:Option Addr) (c:Nat) (w:World) (hx:(Kd.int .i64).C w A xs.length xs):
  Calls Try.prog 29 #[.slice A xs.length c] w fun e w'=>e= .returned (.bool (upB xs))/\Drawn0 w w':=by
 have HX:=am hx;have hm:=Kd.C_max hx;clear hx;go_enter Try.func29,Try.ntmps29;go_wp2;go_loopw [3] (fun v w'=>∃ k:Nat,1<=k/\k<=xs.length+1/\v= .int .i64 k/\Aside0 (∀ j:Nat,1<=j->j < k->j < xs.length->rd xs ((j:Int) - 1) < rd xs j)/\Drawn0 w w') (fun v _=>xs.length+1 - (intOf v).toNat)
 case atStart=>exact ⟨1,Nat.le_refl _,by omega,rfl,⟨fun j hj=>by omega⟩,Drawn0.refl _⟩
 case round=>
  obtain ⟨k,hk1,hk,rfl,HJ,HD⟩:=hrel;obtain ⟨m,rfl⟩:=HD.out;clear HD;by_cases hlt:k < xs.length
  ·have h0:(0:Int)<=(k:Int):=by omega
   have h1:(k:Int) < (xs.length:Int):=by omega
   obtain ⟨j9,hj9⟩:∃ j:Int,wrap64 ((k:Int) - 1)=j:=⟨_,rfl⟩;have wi:IntKind.i64.wrap ((k:Int) - 1)=j9:=(i64_w _).trans hj9;have J9:=am (show j9=(k:Int) - 1 by rw [<-hj9];unfold wrap64;omega);have g0:(0:Int)<=j9:=by have:=J9.out;omega
   have g1:j9 < (xs.length:Int):=by have:=J9.out;omega
   obtain ⟨ax,rfl,gx⟩:=Kd.at_int HX.out (k:Int) (by omega) h1;obtain ⟨ay,hay,gy⟩:=Kd.at_int HX.out j9 g0 g1;cases hay;simp only [Int.toNat_natCast] at gx;by_cases he:rd xs k<=rd xs j9
   ·have heb:decide (rd xs k<=rd xs j9)=true:=decide_eq_true he
    have HE:=am he;clear he;go_wp2;go_quiet (fail);go_wp2;go_ret;exact ⟨ret_bool (decide_eq_false (fun h=>by have h2:=h k hlt hk1;have:=HE.out;rw [J9.out] at this;omega)).symm,Drawn0.step ⟨⟨m,rfl⟩⟩ _⟩
   ·have heb:decide (rd xs k<=rd xs j9)=false:=decide_eq_false he
    have HE:=am he;clear he;go_wp2;go_quiet (fail);go_wp2;go_roundw
    case rel=>exact ⟨k+1,by omega,by omega,by go_num,⟨fun j j1 j2 j3=>by rcases Nat.lt_or_ge j k with h | h;exact HJ.out j j1 h j3;rw [show j=k by omega];have:=HE.out;rw [J9.out] at this;omega⟩,⟨⟨_,rfl⟩⟩⟩
    case measure=>simp [intOf];omega
  ·have h1:¬ (k:Int) < (xs.length:Int):=by omega
   go_wp2;go_ret;exact ⟨ret_bool (decide_eq_true (fun j j2 j1=>HJ.out j j1 (by omega) j2)).symm,⟨⟨m,rfl⟩⟩⟩
def waysOf (ts:List Task):List Int:=ts.map (·.way)
theorem ways_next {ts:List Task} {k:Nat} (h:k < ts.length):(waysOf ts).take (k+1)=(waysOf ts).take k ++ [(taskAt ts k).way]:=by
 unfold waysOf;rw [List.take_add_one,List.getElem?_map,List.getElem?_eq_getElem h];simp [taskAt,List.getD_eq_getElem?_getD,List.getElem?_eq_getElem h]
theorem ways_take (ts:List Task) (k:Nat):((waysOf ts).take k).length<=k:=by rw [List.length_take];omega
theorem ways_len (ts:List Task):(waysOf ts).length=ts.length:=by simp [waysOf]
theorem implWays_calls (s:Sys) (cs:List Value) (w:World) (hx:kSys.K w s cs) (hn:s.tasks.length<=1048576):
  Calls Try.prog 16 #[.agg cs.toArray] w fun e w'=>∃ v,e= .returned v/\(Kd.int .i64).R 3 w' w.heap.size (fun _=>True) v (waysOf s.tasks)/\Below w.heap.size w w':=by
 obtain ⟨A0,c0,A1,c1,A3,c3,rfl,l0,g0,l1,g1,l3,g3⟩:=kSys_open hx;have G:=am g1;clear g0 g1 g3 l0 l1 l3 hx;go_enter Try.func16,Try.ntmps16;go_wp2_with ((with_reducible refine gate_dst (N:=1) rfl ?_);refine box_event rfl (N:=1) rfl (t:=27) (by go_simp<;>rfl) ?_;intro g hg w2 hbox hb;have BK:=am hbox;have HB:=am hb;have GE:=am (show w.heap.size<=g by omega);clear hbox hb hg;have hc:=zc8 BK.out)
 go_loopw [3,9] (fun v i w'=>∃ k:Nat,k<=s.tasks.length/\i= .int .i64 k/\Aside0 ((Kd.int .i64).R 3 w' w.heap.size (fun _=>True) v ((waysOf s.tasks).take k))/\Aside0 (w'.heap[g]? = some (.cells #[.slice A0 s.cells.length c0,.slice A1 s.tasks.length c1,.int .i64 s.clock,.slice A3 s.log.length c3] 27 (0,0)))/\Aside0 (Below w.heap.size w w')) (fun _ i _=>s.tasks.length - (intOf i).toNat)
 case atStart=>exact ⟨0,Nat.zero_le _,rfl,⟨Kd.R_nil _ _ _ _ _⟩,BK,HB⟩
 case round=>
  clear BK HB hc;obtain ⟨k,hk,rfl,HO,BK,HB⟩:=hrel;have hlen:=ways_take s.tasks k;by_cases hlt:k < s.tasks.length
  · skip
    have BKc:=zc8 BK.out;obtain ⟨b,o,cs,rfl,hcl,hK,hcc,hc0⟩:=C_field (Kd.C_below G.out HB.out) zTask k hlt (by decide);rw [show s.tasks.getD k zTask=taskAt s.tasks k from rfl] at hK;have HK:=am hK;obtain ⟨B3,d3,B8,d8,B9,d9,B10,d10,rfl,_,_,_,_,_,_,_,_⟩:=kTask_open hK;have HCC:=am hcc;have q0:(0:Int)<=(k:Int):=by omega
    have q1:(k:Int) < (s.tasks.length:Int):=by omega
    clear hK hcc hc0;have HW9:=am (ways_next hlt);go_wp2_with (first|((with_reducible refine gate_dst (N:=12) rfl ?_);refine wpList_load_mid rfl 38 (.tmp 11) rfl b (o+k*13) rfl _ _ HCC.out Try.underlying38 rfl (by rw [hcl];kernel_rfl) ?_)|((with_reducible refine gate_dst (N:=5) rfl ?_);refine box_event rfl (N:=5) rfl (cs:=zeroTask) (t:=38) (by go_simp<;>rfl) ?_;intro g5 hg w2 hbox hb;have BK5:=am hbox;have G5:=am (show wr.heap.size<=g5 by omega);have HW:=am hb;clear hbox hb hg)|((with_reducible refine gate_store (t:=38) (p:=5) rfl ?_);refine store_block rfl rfl 38 (.tmp 5) (.tmp 12) rfl rfl rfl BK5.out (by rw [hcl];rfl) (by rw [hcl];kernel_rfl) (kTask.K_one HK.out) ?_;intro w3 hbox hg;have BT:=am hbox;have HW3:=am (pw_below_grown HW.out _ HW.out.size hg (fun z hz=>by cases hz;exact G5.out));clear hbox hg BK5 HW;replace HO:=am (Kd.R_below HO.out HW3.out);replace BK:=am (zb8 BK.out HW3.out);replace HB:=am (below_step HB.out HW3.out);clear BKc;have BTc:=zc8 BT.out)|((with_reducible refine gate_builtin (b:=.append) (xs:=#[.tmp 13,.tmp 16]) rfl ?_);at_builtin;refine Kd.R_append (Kd.int .i64) (w0:=w) w.heap.size rfl (.tmp 13) (.tmp 16) 29 3 (.int .i64 0) 8 rfl Try.underlying29 info_int rfl (by decide) (by omega) _ ((waysOf s.tasks).take k) (taskAt s.tasks k).way [.int .i64 (taskAt s.tasks k).way] (fun _=>True) (fun _=>False) rfl rfl rfl (fun _ hk=>hk.elim) (fun _ _=>trivial) HO.out HB.out (below_size HB.out) (by omega) ?_;intro v1 w1 ho hb hg _;have BK1:=am (blk_grown BK.out hg (Kd.R_ne HO.out BK.out (by decide)));have HO1:=am ho;have HB1:=am hb;clear ho hb hg HO HB BK))
    go_roundw
    case rel=>exact ⟨k+1,by omega,by go_num,⟨by rw [HW9.out];exact HO1.out⟩,BK1,HB1⟩
    case measure=>simp [intOf];omega
  ·have BKc:=zc8 BK.out
   go_wp2;go_ret;obtain rfl:k=s.tasks.length:=by omega
   exact ⟨_,rfl,by have h:=HO.out;rwa [<-ways_len s.tasks,List.take_length] at h,HB.out⟩
end Go.Proofs.Ytimamoimphjakaa.Eq

namespace Go.Proofs.Ytimamoimphjakaa.Eq
open Go.RowKit Go.Proofs.YtimamoimphjakaaW.PrintWords Go.Proofs.YtimamoimphjakaaW.PrintLast Go.Proofs.YtimamoimphjakaaW.PrintMore
theorem mem_liveIn {ts:List Task} {x:Int}:x ∈ liveIn ts ↔ ∃ i:Nat,i < ts.length/\isLive (taskAt ts i)=true/\x=(i:Int):=by
 simp only [liveIn,pickTo,List.mem_map,List.mem_filter,List.mem_range];constructor
 ·rintro ⟨i,⟨h1,h2⟩,rfl⟩;exact ⟨i,h1,h2,rfl⟩
 ·rintro ⟨i,h1,h2,rfl⟩;exact ⟨i,⟨h1,h2⟩,rfl⟩
end Go.Proofs.Ytimamoimphjakaa.Eq




namespace Go.Proofs.Ytimamoimphjakaa.Eq
open Go.RowKit Go.Proofs.YtimamoimphjakaaW.PrintWords Go.Proofs.YtimamoimphjakaaW.PrintLast Go.Proofs.YtimamoimphjakaaW.PrintMore
theorem lqSame_calls (xs:List Int) (A B:Option Addr) (c d:Nat) (w:World) (hx:(Kd.int .i64).C w A xs.length xs) (hy:(Kd.int .i64).C w B xs.length xs):
  Calls Try.prog 17 #[.slice A xs.length c,.slice B xs.length d] w fun e w'=>e= .returned (.bool true)/\Below w.heap.size w w':=by
 refine (lqInts_calls xs xs A B c d w hx hy).mono ?_;rintro e w' ⟨rfl,hd⟩;exact ⟨by rw [decide_eq_true rfl],hd.below⟩
theorem rd_ways {ts:List Task} {k:Nat} (h:k < ts.length):rd (waysOf ts) (k:Int)=(taskAt ts k).way:=by
 simp [rd,waysOf,taskAt,List.getD_eq_getElem?_getD,List.getElem?_eq_getElem h]
theorem pickTo_up (p:Nat->Bool) (n:Nat):upB (pickTo p n)=true:=by
 have hp:(pickTo p n).Pairwise (· < ·):=by
  unfold pickTo;rw [List.pairwise_map];exact (List.Pairwise.filter p (List.pairwise_lt_range (n:=n))).imp (fun h=>by omega)
 unfold upB;rw [decide_eq_true_eq];intro j hj h1;have:=List.pairwise_iff_getElem.1 hp (j - 1) j (by omega) hj (by omega);have e1:rd (pickTo p n) (j:Int)=(pickTo p n)[j]:=by simp [rd,List.getD_eq_getElem?_getD,List.getElem?_eq_getElem hj]
 have e2:rd (pickTo p n) ((j:Int) - 1)=(pickTo p n)[j - 1]:=by
  rw [show (j:Int) - 1=((j - 1:Nat):Int) by omega];simp [rd,List.getD_eq_getElem?_getD,List.getElem?_eq_getElem (show j - 1 < (pickTo p n).length by omega)]
 rw [e1,e2];exact this
theorem has_live {ts:List Task} {k:Nat} (h:k < ts.length):decide ((k:Int) ∈ liveIn ts)=isLive (taskAt ts k):=by
 rw [Bool.eq_iff_iff];simp only [decide_eq_true_eq,mem_liveIn];constructor
 ·rintro ⟨i,_,hl,he⟩
  rw [show k=i by omega];exact hl
 ·intro hl
  exact ⟨k,h,hl,rfl⟩
theorem fnTreeLive_calls (A:Option Addr) (c:Nat) (l:List Int) (w:World) (hC:(Kd.int .u8).C w A l.length l) (hc:l.length<=c) (hb:∀ i:Nat,0<=l.getD i 0/\l.getD i 0<=255):
  Calls Try.prog 7 #[.slice A l.length c] w fun e w'=>e= .returned (.bool true)/\Below w.heap.size w w':=by
 have HC:=am hC;have HL:=am hc;have HY:=am hb;clear hC hc hb;by_cases hbig:(1048576:Int) < (l.length:Int)
 ·have ybig:decide ((1048576:Int) < (l.length:Int))=true:=decide_eq_true hbig
  go_enter Try.func7,Try.ntmps7;go_wp2;go_ret;exact ⟨rfl,Below.refl _ _⟩
 ·have ybig:decide ((1048576:Int) < (l.length:Int))=false:=decide_eq_false hbig
  go_enter Try.func7,Try.ntmps7
  go_wp2_with (first
  |(go_at_call 26;refine (drawTreeLive_calls A c l _ HC.out HL.out HY.out).mono ?_;rintro e wf ⟨s,ss,rfl,hd⟩;obtain ⟨A0,c0,A1,c1,A3,c3,rfl,-,-,-,hg1,-,-⟩:=kSys_open hd.read;obtain ⟨b,o,-,rfl,-⟩:=C_field hg1 zTask 0 hd.pos (by decide);have HB:=am hd.below;have SK:=am hd.read;have G1:=am hg1;have HN:=am (show s.tasks.length<=1048576 from Nat.le_trans hd.few (by decide));have HTL:=am hd.pos;have HLN:=am hd.few;clear hd hg1)
  |((with_reducible refine gate_dst (N:=3) rfl ?_);refine box_event rfl (N:=3) rfl (t:=27) (by go_simp<;>rfl) ?_;intro gs hg wt hbox hb;have BS0:=am hbox;have LBS:=am (Nat.le_of_eq hg.symm);have HBT:=am hb;clear hbox hb hg)
  |((with_reducible refine gate_store (t:=27) (p:=3) rfl ?_);refine store_block rfl rfl 27 (.tmp 3) (.tmp 11) rfl rfl rfl BS0.out rfl (by kernel_rfl) (aB rfl) ?_;intro wn hbox hg;have BS:=am hbox;replace HBT:=am (pw_below_grown HBT.out _ HBT.out.size hg (fun z hz=>by cases hz;exact LBS.out));clear BS0 hbox hg;have hbT:=HBT.out;clear HBT;replace HB:=am (below_step HB.out hbT);replace SK:=am (kSys.K_below hbT SK.out);replace G1:=am (Kd.C_below G1.out hbT);clear hbT;have BSc:=zc8 BS.out)
  |((with_reducible refine gate_dst (N:=12) rfl ?_);refine wpList_load_mid rfl 27 (.tmp 3) rfl gs 0 rfl _ _ (lC BS.out) Try.underlying27 rfl (by kernel_rfl) ?_)
  |(go_at_call 19;refine (implLive_calls s _ _ SK.out HN.out).mono ?_;rintro e wn ⟨v,rfl,hv,hb⟩;obtain ⟨Al,cl,ev,-,hcv⟩:=Kd.R_reads hv;subst ev;have LV:=am hcv;clear hv hcv;replace HB:=am (below_step HB.out hb);replace SK:=am (kSys.K_below hb SK.out);replace G1:=am (Kd.C_below G1.out hb);replace BS:=am (zb8 BS.out hb);clear BSc hb;have BSc:=zc8 BS.out)
  |((with_reducible refine gate_dst (N:=15) rfl ?_);refine wpList_load_mid rfl 27 (.tmp 3) rfl gs 0 rfl _ _ (lC BS.out) Try.underlying27 rfl (by kernel_rfl) ?_)
  |(go_at_call 27;refine (specLive_calls s _ _ SK.out HN.out).mono ?_;rintro e wn ⟨v,rfl,hv,hb⟩;obtain ⟨Av,cv,ev,-,hcv⟩:=Kd.R_reads hv;subst ev;have LU:=am hcv;clear hv hcv;replace HB:=am (below_step HB.out hb);replace SK:=am (kSys.K_below hb SK.out);replace G1:=am (Kd.C_below G1.out hb);replace BS:=am (zb8 BS.out hb);replace LV:=am (Kd.C_below LV.out hb);clear BSc hb;have BSc:=zc8 BS.out)
  |(go_at_call 17;refine (lqSame_calls (liveIn s.tasks) Al Av cl cv _ LV.out LU.out).mono ?_;rintro e wn ⟨rfl,hb⟩;replace HB:=am (below_step HB.out hb);replace SK:=am (kSys.K_below hb SK.out);replace G1:=am (Kd.C_below G1.out hb);replace BS:=am (zb8 BS.out hb);replace LV:=am (Kd.C_below LV.out hb);clear BSc hb;have BSc:=zc8 BS.out)
  |((with_reducible refine gate_dst (N:=19) rfl ?_);refine wpList_load_mid rfl 27 (.tmp 3) rfl gs 0 rfl _ _ (lC BS.out) Try.underlying27 rfl (by kernel_rfl) ?_)
  |(go_at_call 16;refine (implWays_calls s _ _ SK.out HN.out).mono ?_;rintro e wn ⟨v,rfl,hv,hb⟩;obtain ⟨Aw,cw,ev,-,hcv⟩:=Kd.R_reads hv;subst ev;have WV:=am hcv;clear hv hcv;replace HB:=am (below_step HB.out hb);replace SK:=am (kSys.K_below hb SK.out);replace G1:=am (Kd.C_below G1.out hb);replace BS:=am (zb8 BS.out hb);replace LV:=am (Kd.C_below LV.out hb);clear BSc hb;have BSc:=zc8 BS.out))
  have HWL:=am (ways_len s.tasks);clear LU;go_loopw [6] (fun i w'=>∃ k:Nat,k<=s.tasks.length/\i= .int .i64 k/\Aside0 (w'.heap[gs]? = some (.cells #[.slice A0 s.cells.length c0,.slice (some ⟨b,o,none⟩) s.tasks.length c1,.int .i64 s.clock,.slice A3 s.log.length c3] 27 (0,0)))/\Aside0 (kTask.C w' (some ⟨b,o,none⟩) s.tasks.length s.tasks)/\Aside0 (kSys.K w' s [.slice A0 s.cells.length c0,.slice (some ⟨b,o,none⟩) s.tasks.length c1,.int .i64 s.clock,.slice A3 s.log.length c3])/\Aside0 (Below w.heap.size w w')/\Aside0 ((Kd.int .i64).C w' Al (liveIn s.tasks).length (liveIn s.tasks))/\Aside0 ((Kd.int .i64).C w' Aw (waysOf s.tasks).length (waysOf s.tasks))) (fun i _=>s.tasks.length - (intOf i).toNat)
  case atStart=>exact ⟨0,Nat.zero_le _,rfl,BS,G1,SK,HB,LV,WV⟩
  case round=>
   clear BS G1 SK LV WV HB BSc;obtain ⟨k,hk,rfl,BS,G1,SK,HB,LV,WV⟩:=hrel;have BSc:=zc8 BS.out;have hwl:=HWL.out;have hn9:=HN.out;by_cases hlt:k < s.tasks.length
   ·have q0:(0:Int)<=(k:Int):=by omega
    have q1:(k:Int) < ((waysOf s.tasks).length:Int):=by omega
    have HM:=am (has_live hlt);obtain ⟨al,rfl,gx⟩:=Kd.at_int WV.out (k:Int) q0 q1;rw [rd_ways hlt] at gx;simp only [Int.toNat_natCast] at gx;obtain ⟨wy,hwy⟩:∃ x,(taskAt s.tasks k).way=x:=⟨_,rfl⟩;rw [hwy] at gx;have HLV:=am (show isLive (taskAt s.tasks k)=(decide (wy=0) || decide (wy=1)) by unfold isLive;rw [hwy]);have GX:=am gx;clear hwy hwl gx;go_wp2;by_cases h0:wy=0
    ·have y0:(wy == 0)=true:=by simp [h0]
     have H0:=am h0;clear h0;have HL9:=am (show isLive (taskAt s.tasks k)=true by rw [HLV.out];rw [H0.out];rfl);clear HLV;refine st9 (n:=16) (S:=fun W=>W.cell? (al.add k)=some (.int .i64 wy)) (ds:= []) (by kernel_rfl) rfl GX.out (fun hHeld=> ?_);have hb:=below_drew (Below.refl wr.heap.size wr);generalize wr.drew=w7 at hb hHeld ⊢;clear GX;replace HB:=am (below_step HB.out hb);replace SK:=am (kSys.K_below hb SK.out);replace G1:=am (Kd.C_below G1.out hb);replace BS:=am (zb8 BS.out hb);replace LV:=am (Kd.C_below LV.out hb);replace WV:=am (Kd.C_below WV.out hb);clear BSc hb;have BSc:=zc8 BS.out;refine ba9 (fuel:=9) (n:=7) [0,1,3,4,5,6,7] (by kernel_rfl) (fun N _ _ _ _ h=>by cases N <;> exact h) hHeld ?_
     iterate 7 (
      refine stillS_step (v:= ?_) (a':= ?_) rfl (Or.inl ⟨by rfl, ?_⟩) ?_ ?_;rotate_left
      ·intro W s0
       go_simp
       with_reducible rfl
      rotate_left
      ·simp only [Act.put,sA,sZ,sS,i64_w]
       rfl)
     refine stillS_nil ?_;refine on9 (i:=2) (N:=some 29) rfl rfl (by kernel_rfl) (by decide) (fun K hK=> ?_);refine goes_ Try.func28 (by kernel_rfl) rfl #[.slice Al (liveIn s.tasks).length cl,.int .i64 (k:Int)] (by rfl) rfl rfl (by (try simp only [List.map_toArray,List.map_cons,List.map_nil]);first | done | rfl) ?_;refine (lqHas_calls (liveIn s.tasks) Al cl (k:Int) _ LV.out).mono ?_;rintro e wn ⟨rfl,hd⟩;have hb:=hd.below;rw [HM.out,HL9.out];refine ⟨_,rfl, ?_⟩;refine hK.out _ _ (pw_cell_below hb hHeld) (fun hHeld=> ?_);clear hK K;refine norm_ (a':= ?_) ?_ ?_;rotate_left
     ·show Act.put _ (some 29) _=_
      simp only [Act.put,sA,sZ,sS,i64_w];rfl
     replace HB:=am (below_step HB.out hb);replace SK:=am (kSys.K_below hb SK.out);replace G1:=am (Kd.C_below G1.out hb);replace BS:=am (zb8 BS.out hb);replace LV:=am (Kd.C_below LV.out hb);replace WV:=am (Kd.C_below WV.out hb);clear BSc hb;have BSc:=zc8 BS.out;refine ba9 (fuel:=0) (n:=8) [8,9,10,11,12,13,14,15] (by kernel_rfl) (fun N _ _ _ _ h=>by cases N <;> exact h) hHeld ?_
     iterate 1 (
      refine stillS_step (v:= ?_) (a':= ?_) rfl (Or.inl ⟨by rfl, ?_⟩) ?_ ?_;rotate_left
      ·intro W s0
       go_simp
       with_reducible rfl
      rotate_left
      ·simp only [Act.put,sA,sZ,sS,i64_w]
       rfl)
     iterate 5 (
      refine stillS_step (v:=undef) (a':= ?_) rfl (Or.inr ⟨by rfl,rfl⟩) ?_ ?_;rotate_left
      ·simp only [Act.put,sA,sZ,sS]
       rfl)
     iterate 2 (
      refine stillS_step (v:= ?_) (a':= ?_) rfl (Or.inl ⟨by rfl, ?_⟩) ?_ ?_;rotate_left
      ·intro W s0
       go_simp
       with_reducible rfl
      rotate_left
      ·simp only [Act.put,sA,sZ,sS,i64_w]
       rfl)
     refine stillS_nil ?_;refine done_ (by kernel_rfl) ?_;clear hHeld;go_wp2;go_roundw
     case rel=>exact ⟨k+1,by omega,by go_num,BS,G1,SK,HB,LV,WV⟩
     case measure=>simp [intOf];omega
    ·have y0:(wy == 0)=false:=by simp [h0]
     have H0:=am h0;clear h0;by_cases h1:wy=1
     ·have y1:(wy == 1)=true:=by simp [h1]
      have H1:=am h1;clear h1;have HL9:=am (show isLive (taskAt s.tasks k)=true by rw [HLV.out];rw [H1.out];rfl);clear HLV;refine st9 (n:=16) (S:=fun W=>W.cell? (al.add k)=some (.int .i64 wy)) (ds:= []) (by kernel_rfl) rfl GX.out (fun hHeld=> ?_);have hb:=below_drew (Below.refl wr.heap.size wr);generalize wr.drew=w7 at hb hHeld ⊢;clear GX;replace HB:=am (below_step HB.out hb);replace SK:=am (kSys.K_below hb SK.out);replace G1:=am (Kd.C_below G1.out hb);replace BS:=am (zb8 BS.out hb);replace LV:=am (Kd.C_below LV.out hb);replace WV:=am (Kd.C_below WV.out hb);clear BSc hb;have BSc:=zc8 BS.out;refine ba9 (fuel:=9) (n:=7) [0,1,3,4,5,6,7] (by kernel_rfl) (fun N _ _ _ _ h=>by cases N <;> exact h) hHeld ?_
      iterate 7 (
       refine stillS_step (v:= ?_) (a':= ?_) rfl (Or.inl ⟨by rfl, ?_⟩) ?_ ?_;rotate_left
       ·intro W s0
        go_simp
        with_reducible rfl
       rotate_left
       ·simp only [Act.put,sA,sZ,sS,i64_w]
        rfl)
      refine stillS_nil ?_;refine on9 (i:=2) (N:=some 29) rfl rfl (by kernel_rfl) (by decide) (fun K hK=> ?_);refine goes_ Try.func28 (by kernel_rfl) rfl #[.slice Al (liveIn s.tasks).length cl,.int .i64 (k:Int)] (by rfl) rfl rfl (by (try simp only [List.map_toArray,List.map_cons,List.map_nil]);first | done | rfl) ?_;refine (lqHas_calls (liveIn s.tasks) Al cl (k:Int) _ LV.out).mono ?_;rintro e wn ⟨rfl,hd⟩;have hb:=hd.below;rw [HM.out,HL9.out];refine ⟨_,rfl, ?_⟩;refine hK.out _ _ (pw_cell_below hb hHeld) (fun hHeld=> ?_);clear hK K;refine norm_ (a':= ?_) ?_ ?_;rotate_left
      ·show Act.put _ (some 29) _=_
       simp only [Act.put,sA,sZ,sS,i64_w];rfl
      replace HB:=am (below_step HB.out hb);replace SK:=am (kSys.K_below hb SK.out);replace G1:=am (Kd.C_below G1.out hb);replace BS:=am (zb8 BS.out hb);replace LV:=am (Kd.C_below LV.out hb);replace WV:=am (Kd.C_below WV.out hb);clear BSc hb;have BSc:=zc8 BS.out;refine ba9 (fuel:=0) (n:=8) [8,9,10,11,12,13,14,15] (by kernel_rfl) (fun N _ _ _ _ h=>by cases N <;> exact h) hHeld ?_
      iterate 8 (
       refine stillS_step (v:= ?_) (a':= ?_) rfl (Or.inl ⟨by rfl, ?_⟩) ?_ ?_;rotate_left
       ·intro W s0
        go_simp
        with_reducible rfl
       rotate_left
       ·simp only [Act.put,sA,sZ,sS,i64_w]
        rfl)
      refine stillS_nil ?_;refine done_ (by kernel_rfl) ?_;clear hHeld;go_wp2;go_roundw
      case rel=>exact ⟨k+1,by omega,by go_num,BS,G1,SK,HB,LV,WV⟩
      case measure=>simp [intOf];omega
     ·have y1:(wy == 1)=false:=by simp [h1]
      have H1:=am h1;clear h1;have HL9:=am (show isLive (taskAt s.tasks k)=false by rw [HLV.out];rw [decide_eq_false H0.out,decide_eq_false H1.out];rfl);clear HLV;refine st9 (n:=16) (S:=fun W=>W.cell? (al.add k)=some (.int .i64 wy)) (ds:= []) (by kernel_rfl) rfl GX.out (fun hHeld=> ?_);have hb:=below_drew (Below.refl wr.heap.size wr);generalize wr.drew=w7 at hb hHeld ⊢;clear GX;replace HB:=am (below_step HB.out hb);replace SK:=am (kSys.K_below hb SK.out);replace G1:=am (Kd.C_below G1.out hb);replace BS:=am (zb8 BS.out hb);replace LV:=am (Kd.C_below LV.out hb);replace WV:=am (Kd.C_below WV.out hb);clear BSc hb;have BSc:=zc8 BS.out;refine ba9 (fuel:=9) (n:=7) [0,1,3,4,5,6,7] (by kernel_rfl) (fun N _ _ _ _ h=>by cases N <;> exact h) hHeld ?_
      iterate 7 (
       refine stillS_step (v:= ?_) (a':= ?_) rfl (Or.inl ⟨by rfl, ?_⟩) ?_ ?_;rotate_left
       ·intro W s0
        go_simp
        with_reducible rfl
       rotate_left
       ·simp only [Act.put,sA,sZ,sS,i64_w]
        rfl)
      refine stillS_nil ?_;refine on9 (i:=2) (N:=some 29) rfl rfl (by kernel_rfl) (by decide) (fun K hK=> ?_);refine goes_ Try.func28 (by kernel_rfl) rfl #[.slice Al (liveIn s.tasks).length cl,.int .i64 (k:Int)] (by rfl) rfl rfl (by (try simp only [List.map_toArray,List.map_cons,List.map_nil]);first | done | rfl) ?_;refine (lqHas_calls (liveIn s.tasks) Al cl (k:Int) _ LV.out).mono ?_;rintro e wn ⟨rfl,hd⟩;have hb:=hd.below;rw [HM.out,HL9.out];refine ⟨_,rfl, ?_⟩;refine hK.out _ _ (pw_cell_below hb hHeld) (fun hHeld=> ?_);clear hK K;refine norm_ (a':= ?_) ?_ ?_;rotate_left
      ·show Act.put _ (some 29) _=_
       simp only [Act.put,sA,sZ,sS,i64_w];rfl
      replace HB:=am (below_step HB.out hb);replace SK:=am (kSys.K_below hb SK.out);replace G1:=am (Kd.C_below G1.out hb);replace BS:=am (zb8 BS.out hb);replace LV:=am (Kd.C_below LV.out hb);replace WV:=am (Kd.C_below WV.out hb);clear BSc hb;have BSc:=zc8 BS.out;refine ba9 (fuel:=0) (n:=8) [8,9,10,11,12,13,14,15] (by kernel_rfl) (fun N _ _ _ _ h=>by cases N <;> exact h) hHeld ?_
      iterate 8 (
       refine stillS_step (v:= ?_) (a':= ?_) rfl (Or.inl ⟨by rfl, ?_⟩) ?_ ?_;rotate_left
       ·intro W s0
        go_simp
        with_reducible rfl
       rotate_left
       ·simp only [Act.put,sA,sZ,sS,i64_w]
        rfl)
      refine stillS_nil ?_;refine done_ (by kernel_rfl) ?_;clear hHeld;go_wp2;go_roundw
      case rel=>exact ⟨k+1,by omega,by go_num,BS,G1,SK,HB,LV,WV⟩
      case measure=>simp [intOf];omega
   ·obtain rfl:k=s.tasks.length:=by omega
    have q1:¬ (s.tasks.length:Int) < ((waysOf s.tasks).length:Int):=by omega
    go_wp2_with (first
    |(go_at_call 29;refine (lqUp_calls (liveIn s.tasks) Al cl _ LV.out).mono ?_;rintro e wn ⟨rfl,hd⟩;have hb:=hd.below;replace HB:=am (below_step HB.out hb);replace SK:=am (kSys.K_below hb SK.out);replace G1:=am (Kd.C_below G1.out hb);replace BS:=am (zb8 BS.out hb);replace LV:=am (Kd.C_below LV.out hb);replace WV:=am (Kd.C_below WV.out hb);clear BSc hb;have BSc:=zc8 BS.out))
    go_ret;exact ⟨ret_bool (pickTo_up _ _),HB.out⟩
end Go.Proofs.Ytimamoimphjakaa.Eq
namespace Go.Proofs.Ytimamoimphjakaa.fnTreeLive
open Go.ChangeShapes Go.WideShapes Go.ChangeAt Go.RowKit Go.Proofs.YtimamoimphjakaaW.PrintWords
theorem own:ownKnob Try.prog.godebug=none:=by kernel_rfl
theorem laidOut:laidOutB Try.prog=true:=by kernel_rfl
def IsRow (k:IntKind) (w:World) (a:Option Addr) (len cap:Nat) (zs:List Int):Prop:=
 (a=none/\len=0/\cap=0/\zs= [])\/
 ∃ x,a=some x/\len<=cap/\cap<=maxLen/\zs.length=cap/\(∀ i,i < zs.length->w.cell? (x.add i)=some (.int k (zs.getD i 0)))/\∀ n ∈ zs,(Lit.int k n).wf=true
theorem bytes {l:List Int} (h:∀ x ∈ l,(Lit.int .u8 x).wf=true) (i:Nat):0<=l.getD i 0/\l.getD i 0<=255:=by
 have:=range_u8 h i
 rwa [List.getD_eq_getElem?_getD]
theorem lifted (os:Os) (started:os.Started) (H:Type) (enc:TypeId × Value->H):
  ReturnsInHanded {} Try.checked os 7 .any (Rows.fnTreeLiveSpec.pre6 enc Try.prog Try.f7 Rows.fnTreeLiveRow.domain false) (Rows.fnTreeLiveSpec.post enc Try.prog Try.f7 false true false false):=by
 refine returnsInHanded_of_change_sized (C:=Try.checked) own started (by kernel_rfl) Try.func7
  (ChangeSpec.witness6 (enc:=enc) (C:=Try.checked) false ⟨#[],#[.slice none 0 0], []⟩ 8 (by kernel_rfl) (by kernel_rfl) (by kernel_rfl) (by kernel_rfl)) ?_
 intro W base args ds gs before hval0 hW hcnd hsz0 _;have hval:∀ (j:Nat) t v,Try.f7.params[j]? = some t->args[j]? = some v->Value.okWide Try.prog W .any base t v:=hval0;have hW':=hW;obtain ⟨p,q,hA0,hV,rfl,hfz,hnd⟩:=hW;have hA:DataW.TrodAll enc Try.prog W 0 (fun _=>true) true Try.f7.params.toList args.toList ds p:=hA0;rw [Try.params7] at hA hval;obtain ⟨v0,vs0,d0,ds0,p0,q0,hargs,rfl,rfl,h0,r0⟩:=trodAll_cons hA;obtain ⟨rfl,rfl,rfl⟩:=trodAll_nil r0;obtain rfl:args= #[v0]:=by cases args;simp_all
 obtain ⟨rfl,rfl⟩:=trodVars_none hV;obtain ⟨a0,len0,cap0,rfl⟩:=okWide_slice Try.underlying22 (hval 0 22 v0 rfl rfl);have k0:=h0;have lt0:∀ x ∈ p0,x.block < W.heap.size:=by obtain ⟨m,hm⟩:=k0;exact DataW.trod_lt m _ _ _ hm
 obtain ⟨z0,w0⟩:∃ zs,IsRow .u8 W a0 len0 cap0 zs:=by
  obtain ⟨fuel,hf⟩:=h0;rcases open_ints Try.underlying22 Try.underlying5 (by kernel_rfl) hf with ⟨hcs,_⟩ | ⟨x,l,c,zs,hcs,_,hl,hm,hz,_,hcell,hwz⟩
  ·simp [Value.cells] at hcs
   obtain ⟨rfl,rfl,rfl⟩:=hcs;exact ⟨[],.inl ⟨rfl,rfl,rfl,rfl⟩⟩
  ·simp [Value.cells] at hcs
   obtain ⟨rfl,rfl,rfl⟩:=hcs;exact ⟨zs,.inr ⟨_,rfl,hl,hm,by simpa using hz,hcell,hwz⟩⟩
 obtain ⟨l0,rfl,hr0,hm0,hw0,hc0⟩:=ReadsInt.ofRowC w0;refine (Eq.fnTreeLive_calls a0 cap0 l0 W (Kd.C_of_reads (d:=(0:Int)) (h1:=fun _=>rfl) hr0) hc0 (bytes hw0)).mono fun e W' ⟨he,bel⟩=> ?_
 subst he;exact ⟨_,rfl,_,_,_, [],_, [],hW',trodAll_mk1 (shut_bool Try.underlying4 _),(trodAll_cons_mk (Below.trod laidOut (by kernel_rfl) (of_decide_eq_true (by kernel_rfl)) k0 bel lt0) trodAll_mk0),rfl,bel.frame _,fun h=>by cases h⟩
theorem over:Rows.fnTreeLiveRow.holds Try.pinned (OpenSpec.ofChange Rows.fnTreeLiveSpec):=
 OpenClaim.holds_of_wide 7 Try.f7 rfl rfl rfl rfl rfl rfl rfl ⟨rfl,rfl,rfl,rfl,rfl⟩ rfl rfl rfl rfl rfl (by kernel_rfl) Try.func7 (by kernel_rfl)
  (of_decide_eq_true (by kernel_rfl)) (by unfold Func.isWrapper;first|(rw [if_pos (by decide +kernel)];kernel_rfl)|(rw [if_neg (by decide +kernel)];exact ⟨rfl,rfl⟩))
  (fun os started H enc _=>lifted os started H enc)
theorem proved:Rows.FnTreeLiveSaid:=over
end Go.Proofs.Ytimamoimphjakaa.fnTreeLive
namespace Go.Proofs.Ytimamoimphjakaa
theorem fnTreeLive_holds:Rows.FnTreeLiveSaid:=fnTreeLive.proved
end Go.Proofs.Ytimamoimphjakaa
