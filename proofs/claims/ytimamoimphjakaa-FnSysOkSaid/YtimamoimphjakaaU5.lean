import Derived.Test.YtimamoimphjakaaU4
set_option maxHeartbeats 8000000
set_option maxRecDepth 100000
set_option linter.unusedVariables false
set_option linter.unusedSimpArgs false
namespace Go.Proofs.Ytimamoimphjakaa.Eq
open Go.RowKit Go.Proofs.YtimamoimphjakaaW.PrintWords Go.Proofs.YtimamoimphjakaaW.PrintLast Go.Proofs.YtimamoimphjakaaW.PrintMore
structure SysSz (s:Sys):Prop where
 cells:s.cells.length<=1048576
 tasks:s.tasks.length<=1048576
 log:s.log.length<=1048576
 task:∀ i,i < s.tasks.length->(taskAt s.tasks i).regs.length<=1048576/\(taskAt s.tasks i).old.length<=1048576/\(taskAt s.tasks i).reads.length<=1048576/\(taskAt s.tasks i).puts.length<=1048576
 logs:∀ i,i < s.log.length->(entryAt s.log i).reads.length<=1048576/\(entryAt s.log i).puts.length<=1048576
theorem sysOk_calls (p:Prog) (ps:List Value) (s:Sys) (ss:List Value) (w:World) (hp:kProg.K w p ps) (hs:kSys.K w s ss) (hz:ProgSz p) (hsz:SysSz s):
  Calls Try.prog 34 #[.agg ps.toArray,.agg ss.toArray] w fun e w'=>e= .returned (.bool (sysOk p s))/\Below w.heap.size w w':=by
 have HPK:=am hp;have HSK:=am hs;have HPZ:=am hz;have HSZ:=am hsz;obtain ⟨Ac,cc,Ab,cb,rfl,-⟩:=kProg_open hp;obtain ⟨A0,c0,A1,c1,A3,c3,rfl,-⟩:=kSys_open hs;have HU:Aside0 (sysOk p s=(progOk p && decide (s.cells.length=p.cells.length) && inB s.tasks.length 1 7 && inB s.clock 0 200 && allB s.tasks.length (taskOk p s) && cellsOk s && logOk p s)):=⟨rfl⟩;have hn:=hsz.tasks;have hm:=hsz.cells;have hl:=hsz.log;have hpc:=hz.cells;clear hp hs hz hsz;obtain ⟨bH1,hbH1⟩:∃ b,inB (s.tasks.length:Int) 1 7=b:=⟨_,rfl⟩;have H1:Aside0 ((decide ((1:Int)<=(s.tasks.length:Int)) && decide ((s.tasks.length:Int)<=7))=bH1):=⟨hbH1⟩;clear hbH1;obtain ⟨bH2,hbH2⟩:∃ b,inB s.clock 0 200=b:=⟨_,rfl⟩;have H2:Aside0 ((decide ((0:Int)<=s.clock) && decide (s.clock<=200))=bH2):=⟨hbH2⟩;clear hbH2;obtain ⟨bPO,hbPO⟩:∃ x,progOk p=x:=⟨_,rfl⟩;have PO:=am hbPO;clear hbPO;obtain ⟨bCE,hbCE⟩:∃ x,cellsOk s=x:=⟨_,rfl⟩;have CE:=am hbCE;clear hbCE;obtain ⟨bLO,hbLO⟩:∃ x,logOk p s=x:=⟨_,rfl⟩;have LO:=am hbLO;clear hbLO;go_enter Try.func34,Try.ntmps34
 cases bPO with
 | false=>
  go_wp2_with (first
  |((with_reducible refine gate_dst (N:=2) rfl ?_);refine box_event rfl (N:=2) rfl (t:=48) (by go_simp<;>rfl) ?_;intro gp hg w2 hbox hb;have BP:=am hbox;clear hbox hg;have HB2:=am hb;clear hb;have HB:=HB2;clear HB2;have BPc:=zc8 BP.out)
  |((with_reducible refine gate_dst (N:=3) rfl ?_);refine box_event rfl (N:=3) rfl (t:=27) (by go_simp<;>rfl) ?_;intro gs hg w3 hbox hb;have BS:=am hbox;clear hbox hg;replace BP:=am (zb8 BP.out hb);replace HB:=am (below_step HB.out hb);clear hb BPc;have BPc:=zc8 BP.out;have BSc:=zc8 BS.out)
  |((with_reducible refine gate_dst (N:=6) rfl ?_);refine wpList_load_mid rfl 48 (.tmp 2) rfl gp 0 rfl _ _ (lC BP.out) Try.underlying48 rfl (by kernel_rfl) ?_)
  |(go_at_call 56;refine (progOk_calls p _ _ (kProg.K_below HB.out HPK.out) HPZ.out).mono ?_;rw [PO.out];rintro e w9 ⟨rfl,hb⟩;replace BP:=am (zb8 BP.out hb);replace BS:=am (zb8 BS.out hb);replace HB:=am (below_step HB.out hb);clear hb BPc BSc;have BPc:=zc8 BP.out;have BSc:=zc8 BS.out))
  go_ret
  have hr:sysOk p s=false:=by
   rw [HU.out,PO.out];simp only [Bool.true_and,Bool.false_and,Bool.and_false,Bool.and_true,Bool.and_self]
  rw [hr]
  exact ⟨rfl,HB.out⟩
 | true=>
  by_cases clx:s.cells.length=p.cells.length
  ·have ycl:((s.cells.length:Int) != (p.cells.length:Int))=false:=by simp;omega
   have CL:=am (decide_eq_true clx);clear clx
   cases bH1 with
   | false=>
    go_wp2_with (first
    |((with_reducible refine gate_dst (N:=2) rfl ?_);refine box_event rfl (N:=2) rfl (t:=48) (by go_simp<;>rfl) ?_;intro gp hg w2 hbox hb;have BP:=am hbox;clear hbox hg;have HB2:=am hb;clear hb;have HB:=HB2;clear HB2;have BPc:=zc8 BP.out)
    |((with_reducible refine gate_dst (N:=3) rfl ?_);refine box_event rfl (N:=3) rfl (t:=27) (by go_simp<;>rfl) ?_;intro gs hg w3 hbox hb;have BS:=am hbox;clear hbox hg;replace BP:=am (zb8 BP.out hb);replace HB:=am (below_step HB.out hb);clear hb BPc;have BPc:=zc8 BP.out;have BSc:=zc8 BS.out)
    |((with_reducible refine gate_dst (N:=6) rfl ?_);refine wpList_load_mid rfl 48 (.tmp 2) rfl gp 0 rfl _ _ (lC BP.out) Try.underlying48 rfl (by kernel_rfl) ?_)
    |(go_at_call 56;refine (progOk_calls p _ _ (kProg.K_below HB.out HPK.out) HPZ.out).mono ?_;rw [PO.out];rintro e w9 ⟨rfl,hb⟩;replace BP:=am (zb8 BP.out hb);replace BS:=am (zb8 BS.out hb);replace HB:=am (below_step HB.out hb);clear hb BPc BSc;have BPc:=zc8 BP.out;have BSc:=zc8 BS.out)
    |(go_at_call 50;refine (l6In_calls _ _ _ _).mono ?_;(first|rw [H1.out]);rintro e w9 ⟨rfl,rfl⟩))
    go_ret
    have hr:sysOk p s=false:=by
     rw [HU.out,PO.out,CL.out,show inB (s.tasks.length:Int) 1 7=false from H1.out];simp only [Bool.true_and,Bool.false_and,Bool.and_false,Bool.and_true,Bool.and_self]
    rw [hr]
    exact ⟨rfl,HB.out⟩
   | true=>
    cases bH2 with
    | false=>
     go_wp2_with (first
     |((with_reducible refine gate_dst (N:=2) rfl ?_);refine box_event rfl (N:=2) rfl (t:=48) (by go_simp<;>rfl) ?_;intro gp hg w2 hbox hb;have BP:=am hbox;clear hbox hg;have HB2:=am hb;clear hb;have HB:=HB2;clear HB2;have BPc:=zc8 BP.out)
     |((with_reducible refine gate_dst (N:=3) rfl ?_);refine box_event rfl (N:=3) rfl (t:=27) (by go_simp<;>rfl) ?_;intro gs hg w3 hbox hb;have BS:=am hbox;clear hbox hg;replace BP:=am (zb8 BP.out hb);replace HB:=am (below_step HB.out hb);clear hb BPc;have BPc:=zc8 BP.out;have BSc:=zc8 BS.out)
     |((with_reducible refine gate_dst (N:=6) rfl ?_);refine wpList_load_mid rfl 48 (.tmp 2) rfl gp 0 rfl _ _ (lC BP.out) Try.underlying48 rfl (by kernel_rfl) ?_)
     |(go_at_call 56;refine (progOk_calls p _ _ (kProg.K_below HB.out HPK.out) HPZ.out).mono ?_;rw [PO.out];rintro e w9 ⟨rfl,hb⟩;replace BP:=am (zb8 BP.out hb);replace BS:=am (zb8 BS.out hb);replace HB:=am (below_step HB.out hb);clear hb BPc BSc;have BPc:=zc8 BP.out;have BSc:=zc8 BS.out)
     |(go_at_call 50;refine (l6In_calls _ _ _ _).mono ?_;(first|rw [H1.out] | rw [H2.out]);rintro e w9 ⟨rfl,rfl⟩))
     go_ret
     have hr:sysOk p s=false:=by
      rw [HU.out,PO.out,CL.out,show inB (s.tasks.length:Int) 1 7=true from H1.out,show inB s.clock 0 200=false from H2.out];simp only [Bool.true_and,Bool.false_and,Bool.and_false,Bool.and_true,Bool.and_self]
     rw [hr]
     exact ⟨rfl,HB.out⟩
    | true=>
     have hk0:=(inB_iff.1 (show inB s.clock 0 200=true from H2.out)).1;have hk1:=(inB_iff.1 (show inB s.clock 0 200=true from H2.out)).2
     go_wp2_with (first
     |((with_reducible refine gate_dst (N:=2) rfl ?_);refine box_event rfl (N:=2) rfl (t:=48) (by go_simp<;>rfl) ?_;intro gp hg w2 hbox hb;have BP:=am hbox;clear hbox hg;have HB2:=am hb;clear hb;have HB:=HB2;clear HB2;have BPc:=zc8 BP.out)
     |((with_reducible refine gate_dst (N:=3) rfl ?_);refine box_event rfl (N:=3) rfl (t:=27) (by go_simp<;>rfl) ?_;intro gs hg w3 hbox hb;have BS:=am hbox;clear hbox hg;replace BP:=am (zb8 BP.out hb);replace HB:=am (below_step HB.out hb);clear hb BPc;have BPc:=zc8 BP.out;have BSc:=zc8 BS.out)
     |((with_reducible refine gate_dst (N:=6) rfl ?_);refine wpList_load_mid rfl 48 (.tmp 2) rfl gp 0 rfl _ _ (lC BP.out) Try.underlying48 rfl (by kernel_rfl) ?_)
     |(go_at_call 56;refine (progOk_calls p _ _ (kProg.K_below HB.out HPK.out) HPZ.out).mono ?_;rw [PO.out];rintro e w9 ⟨rfl,hb⟩;replace BP:=am (zb8 BP.out hb);replace BS:=am (zb8 BS.out hb);replace HB:=am (below_step HB.out hb);clear hb BPc BSc;have BPc:=zc8 BP.out;have BSc:=zc8 BS.out)
     |(go_at_call 50;refine (l6In_calls _ _ _ _).mono ?_;(first|rw [H1.out] | rw [H2.out]);rintro e w9 ⟨rfl,rfl⟩))
     go_loopw [5] (fun j w'=>∃ k:Nat,k<=s.tasks.length/\j= .int .i64 k/\Aside0 (∀ i,i < k->taskOk p s i=true)/\Aside0 (w'.heap[gp]? = some (.cells #[.slice Ac p.cells.length cc,.slice Ab p.bodies.length cb] 48 (0,0)))/\Aside0 (w'.heap[gs]? = some (.cells #[.slice A0 s.cells.length c0,.slice A1 s.tasks.length c1,.int .i64 s.clock,.slice A3 s.log.length c3] 27 (0,0)))/\Aside0 (Below w.heap.size w w')) (fun j _=>s.tasks.length - (intOf j).toNat)
     case atStart=>exact ⟨0,Nat.zero_le _,rfl,⟨fun i hi=>by omega⟩,BP,BS,HB⟩
     case round=>
      clear BP BS HB BPc BSc;obtain ⟨k,hk,rfl,HJ,BP,BS,HB⟩:=hrel;have BPc:=zc8 BP.out;have BSc:=zc8 BS.out;by_cases hlt:k < s.tasks.length
      ·obtain ⟨bTO,hbTO⟩:∃ x,taskOk p s k=x:=⟨_,rfl⟩
       have TO:=am hbTO;clear hbTO;have q1:(k:Int) < (s.tasks.length:Int):=by omega
       cases bTO with
       | false=>
        go_wp2_with (first
        |((with_reducible refine gate_dst (N:=38) rfl ?_);refine wpList_load_mid rfl 48 (.tmp 2) rfl gp 0 rfl _ _ (lC BP.out) Try.underlying48 rfl (by kernel_rfl) ?_)
        |((with_reducible refine gate_dst (N:=39) rfl ?_);refine wpList_load_mid rfl 27 (.tmp 3) rfl gs 0 rfl _ _ (lC BS.out) Try.underlying27 rfl (by kernel_rfl) ?_)
        |(go_at_call 57;refine (l12Task_calls p _ s _ k _ (kProg.K_below HB.out HPK.out) (kSys.K_below HB.out HSK.out) HPZ.out hlt HSZ.out.tasks HSZ.out.cells HSZ.out.log hk0 hk1 (HSZ.out.task k hlt)).mono ?_;rw [TO.out];rintro e w9 ⟨rfl,hb⟩;replace BP:=am (zb8 BP.out hb);replace BS:=am (zb8 BS.out hb);replace HB:=am (below_step HB.out hb);clear hb BPc BSc;have BPc:=zc8 BP.out;have BSc:=zc8 BS.out))
        go_ret
        have hr:sysOk p s=false:=by
         rw [HU.out,PO.out,CL.out,show inB (s.tasks.length:Int) 1 7=true from H1.out,show inB s.clock 0 200=true from H2.out,allB_no hlt TO.out];simp only [Bool.true_and,Bool.false_and,Bool.and_false,Bool.and_true,Bool.and_self]
        rw [hr]
        exact ⟨rfl,HB.out⟩
       | true=>
        go_wp2_with (first
        |((with_reducible refine gate_dst (N:=38) rfl ?_);refine wpList_load_mid rfl 48 (.tmp 2) rfl gp 0 rfl _ _ (lC BP.out) Try.underlying48 rfl (by kernel_rfl) ?_)
        |((with_reducible refine gate_dst (N:=39) rfl ?_);refine wpList_load_mid rfl 27 (.tmp 3) rfl gs 0 rfl _ _ (lC BS.out) Try.underlying27 rfl (by kernel_rfl) ?_)
        |(go_at_call 57;refine (l12Task_calls p _ s _ k _ (kProg.K_below HB.out HPK.out) (kSys.K_below HB.out HSK.out) HPZ.out hlt HSZ.out.tasks HSZ.out.cells HSZ.out.log hk0 hk1 (HSZ.out.task k hlt)).mono ?_;rw [TO.out];rintro e w9 ⟨rfl,hb⟩;replace BP:=am (zb8 BP.out hb);replace BS:=am (zb8 BS.out hb);replace HB:=am (below_step HB.out hb);clear hb BPc BSc;have BPc:=zc8 BP.out;have BSc:=zc8 BS.out))
        go_roundw
        case rel=>exact ⟨k+1,by omega,by go_num,⟨fun i hi=>by rcases Nat.lt_or_ge i k with h | h;exact HJ.out i h;obtain rfl:k=i:=(by omega);exact TO.out⟩,BP,BS,HB⟩
        case measure=>simp [intOf];omega
      ·obtain rfl:k=s.tasks.length:=by omega
       have AL:=am (allB_iff.2 HJ.out);have HBD:Aside0 (∀ i,i < s.tasks.length->0<=(taskAt s.tasks i).body/\(taskAt s.tasks i).body < p.bodies.length):=⟨fun i hi=>by have h:=HJ.out i hi;simp only [taskOk,Bool.and_eq_true,inB_iff] at h;omega⟩;have q1:¬ (s.tasks.length:Int) < (s.tasks.length:Int):=by omega
       cases bCE with
       | false=>
        go_wp2_with (first
        |((with_reducible refine gate_dst (N:=43) rfl ?_);refine wpList_load_mid rfl 27 (.tmp 3) rfl gs 0 rfl _ _ (lC BS.out) Try.underlying27 rfl (by kernel_rfl) ?_)
        |((with_reducible refine gate_dst (N:=46) rfl ?_);refine wpList_load_mid rfl 48 (.tmp 2) rfl gp 0 rfl _ _ (lC BP.out) Try.underlying48 rfl (by kernel_rfl) ?_)
        |((with_reducible refine gate_dst (N:=47) rfl ?_);refine wpList_load_mid rfl 27 (.tmp 3) rfl gs 0 rfl _ _ (lC BS.out) Try.underlying27 rfl (by kernel_rfl) ?_)
        |(go_at_call 58;refine (l12Cells_calls s _ _ (kSys.K_below HB.out HSK.out) HSZ.out.cells HSZ.out.tasks (fun i hi=>(HSZ.out.task i hi).2.2.2)).mono ?_;rw [CE.out];rintro e w9 ⟨rfl,hb⟩;replace BP:=am (zb8 BP.out hb);replace BS:=am (zb8 BS.out hb);replace HB:=am (below_step HB.out hb);clear hb BPc BSc;have BPc:=zc8 BP.out;have BSc:=zc8 BS.out))
        go_ret
        have hr:sysOk p s=false:=by
         rw [HU.out,PO.out,CL.out,show inB (s.tasks.length:Int) 1 7=true from H1.out,show inB s.clock 0 200=true from H2.out,AL.out,CE.out];simp only [Bool.true_and,Bool.false_and,Bool.and_false,Bool.and_true,Bool.and_self]
        rw [hr]
        exact ⟨rfl,HB.out⟩
       | true=>
        go_wp2_with (first
        |((with_reducible refine gate_dst (N:=43) rfl ?_);refine wpList_load_mid rfl 27 (.tmp 3) rfl gs 0 rfl _ _ (lC BS.out) Try.underlying27 rfl (by kernel_rfl) ?_)
        |((with_reducible refine gate_dst (N:=46) rfl ?_);refine wpList_load_mid rfl 48 (.tmp 2) rfl gp 0 rfl _ _ (lC BP.out) Try.underlying48 rfl (by kernel_rfl) ?_)
        |((with_reducible refine gate_dst (N:=47) rfl ?_);refine wpList_load_mid rfl 27 (.tmp 3) rfl gs 0 rfl _ _ (lC BS.out) Try.underlying27 rfl (by kernel_rfl) ?_)
        |(go_at_call 58;refine (l12Cells_calls s _ _ (kSys.K_below HB.out HSK.out) HSZ.out.cells HSZ.out.tasks (fun i hi=>(HSZ.out.task i hi).2.2.2)).mono ?_;rw [CE.out];rintro e w9 ⟨rfl,hb⟩;replace BP:=am (zb8 BP.out hb);replace BS:=am (zb8 BS.out hb);replace HB:=am (below_step HB.out hb);clear hb BPc BSc;have BPc:=zc8 BP.out;have BSc:=zc8 BS.out)
        |(go_at_call 59;refine (l12Log_calls p _ s _ _ (kProg.K_below HB.out HPK.out) (kSys.K_below HB.out HSK.out) HPZ.out HSZ.out.cells HSZ.out.tasks HSZ.out.log HSZ.out.logs HBD.out).mono ?_;rw [LO.out];rintro e w9 ⟨rfl,hb⟩;replace BP:=am (zb8 BP.out hb);replace BS:=am (zb8 BS.out hb);replace HB:=am (below_step HB.out hb);clear hb BPc BSc;have BPc:=zc8 BP.out;have BSc:=zc8 BS.out))
        go_ret
        have hr:sysOk p s=bLO:=by
         rw [HU.out,PO.out,CL.out,show inB (s.tasks.length:Int) 1 7=true from H1.out,show inB s.clock 0 200=true from H2.out,AL.out,CE.out,LO.out];simp only [Bool.true_and,Bool.false_and,Bool.and_false,Bool.and_true,Bool.and_self]
        rw [hr];exact ⟨rfl,HB.out⟩
  ·have ycl:((s.cells.length:Int) != (p.cells.length:Int))=true:=by simp;omega
   have CL:=am (decide_eq_false clx);clear clx
   go_wp2_with (first
   |((with_reducible refine gate_dst (N:=2) rfl ?_);refine box_event rfl (N:=2) rfl (t:=48) (by go_simp<;>rfl) ?_;intro gp hg w2 hbox hb;have BP:=am hbox;clear hbox hg;have HB2:=am hb;clear hb;have HB:=HB2;clear HB2;have BPc:=zc8 BP.out)
   |((with_reducible refine gate_dst (N:=3) rfl ?_);refine box_event rfl (N:=3) rfl (t:=27) (by go_simp<;>rfl) ?_;intro gs hg w3 hbox hb;have BS:=am hbox;clear hbox hg;replace BP:=am (zb8 BP.out hb);replace HB:=am (below_step HB.out hb);clear hb BPc;have BPc:=zc8 BP.out;have BSc:=zc8 BS.out)
   |((with_reducible refine gate_dst (N:=6) rfl ?_);refine wpList_load_mid rfl 48 (.tmp 2) rfl gp 0 rfl _ _ (lC BP.out) Try.underlying48 rfl (by kernel_rfl) ?_)
   |(go_at_call 56;refine (progOk_calls p _ _ (kProg.K_below HB.out HPK.out) HPZ.out).mono ?_;rw [PO.out];rintro e w9 ⟨rfl,hb⟩;replace BP:=am (zb8 BP.out hb);replace BS:=am (zb8 BS.out hb);replace HB:=am (below_step HB.out hb);clear hb BPc BSc;have BPc:=zc8 BP.out;have BSc:=zc8 BS.out))
   go_ret
   have hr:sysOk p s=false:=by
    rw [HU.out,PO.out,CL.out];simp only [Bool.true_and,Bool.false_and,Bool.and_false,Bool.and_true,Bool.and_self]
   rw [hr];exact ⟨rfl,HB.out⟩
end Go.Proofs.Ytimamoimphjakaa.Eq
namespace Go.Proofs.YtimamoimphjakaaW.PrintWords
theorem Reps.one {α:Type} {R:α->List Value->Prop} {ps:List α} {cs:List Value} {p:α} {v:Value} (hp:R p [v]) (h:Reps R 1 ps cs):Reps R 1 (p :: ps) (v :: cs):=by
 refine ⟨by simp [h.1],fun j q hq=> ?_⟩
 cases j with
 | zero=>
  simp only [List.getElem?_cons_zero,Option.some.injEq] at hq;subst hq
  simpa using hp
 | succ j=>
  simp only [List.getElem?_cons_succ] at hq;have h1:=h.2 j q hq;simpa [Nat.mul_one] using h1
theorem Reps.front {α:Type} {R:α->List Value->Prop} {size:Nat} {ps:List α} {cs c all:List Value} {p:α} (hp:R p c) (hc:c.length=size) (h:Reps R size ps cs) (ha:c ++ cs=all):Reps R size (p :: ps) all:=by
 subst ha;refine ⟨by rw [List.length_append,hc,h.1,List.length_cons,Nat.succ_mul,Nat.add_comm],fun j q hq=> ?_⟩
 cases j with
 | zero=>
  simp only [List.getElem?_cons_zero,Option.some.injEq] at hq;subst hq;rw [Nat.zero_mul,List.drop_zero,List.take_append_of_le_length (by omega),List.take_of_length_le (by omega)]
  exact hp
 | succ j=>
  simp only [List.getElem?_cons_succ] at hq;have h1:=h.2 j q hq;rw [Nat.succ_mul,List.drop_append,List.drop_of_length_le (by rw [hc];exact Nat.le_add_left _ _),List.nil_append,hc,Nat.add_sub_cancel];exact h1
theorem Reps.c3 {α:Type} {R:α->List Value->Prop} {ps:List α} {cs:List Value} {p:α} {va vb vc:Value} (hp:R p [va,vb,vc]) (h:Reps R 3 ps cs):Reps R 3 (p :: ps) (va :: vb :: vc :: cs):=Reps.front hp rfl h rfl
theorem Reps.c4 {α:Type} {R:α->List Value->Prop} {ps:List α} {cs:List Value} {p:α} {va vb vc vd:Value} (hp:R p [va,vb,vc,vd]) (h:Reps R 4 ps cs):Reps R 4 (p :: ps) (va :: vb :: vc :: vd :: cs):=Reps.front hp rfl h rfl
end Go.Proofs.YtimamoimphjakaaW.PrintWords
namespace Go.Proofs.Ytimamoimphjakaa.Eq
open Go.RowKit Go.Proofs.YtimamoimphjakaaW.PrintWords Go.Proofs.YtimamoimphjakaaW.PrintLast Go.Proofs.YtimamoimphjakaaW.PrintMore
theorem R_apart {α:Type} {d:Kd α} {e base g:Nat} {ok:Nat->Prop} {W:World} {v:Value} {xs:List α} {cs:Array Value} {t:TypeId} (h:d.R e W base ok v xs) (hb:W.heap[g]? = some (.cells cs t (0,0))) (ht:∀ q ∈ e :: d.E,q ≠ t):d.R e W base (fun k=>ok k/\k ≠ g) v xs:=by
 refine Kd.R_mono (Kd.R_bound h) (fun k hk=>⟨hk.1,fun he=> ?_⟩);obtain ⟨_,_,_,q,hq,cells,hc⟩:=hk;rw [he,hb] at hc;injection hc with hc;injection hc with _ hc;exact ht q hq hc.symm
theorem R_set {α:Type} {d:Kd α} {e base g:Nat} {ok:Nat->Prop} {W:World} {v:Value} {xs:List α} {cs:Array Value} {t:TypeId} (h:d.R e W base ok v xs) (hb:W.heap[g]? = some (.cells cs t (0,0))) (ht:∀ q ∈ e :: d.E,q ≠ t) (o:Nat) (u:Value):d.R e (W.setCell ⟨g,o,none⟩ u) base ok v xs:=
 Kd.R_mono (Kd.R_far (p:=⟨g,o,none⟩) (R_apart h hb ht) (fun k hk=>hk.2) u) (fun k hk=>hk.1)
theorem R_keepT {α:Type} {d:Kd α} {e base g:Nat} {ok:Nat->Prop} {W W1:World} {v:Value} {xs:List α} {cs:Array Value} {t:TypeId} (h:d.R e W base ok v xs) (hb:W.heap[g]? = some (.cells cs t (0,0))) (ht:∀ q ∈ e :: d.E,q ≠ t) (hk:KeepBut W W1 g none):d.R e W1 base ok v xs:=
 Kd.R_mono (Kd.R_keep (R_apart h hb ht) hk (fun k hk=>hk.2)) (fun k hk=>hk.1)
theorem R_grownT {α:Type} {d:Kd α} {e base g:Nat} {ok:Nat->Prop} {W W1:World} {v:Value} {xs:List α} {cs:Array Value} {t:TypeId} (h:d.R e W base ok v xs) (hb:W.heap[g]? = some (.cells cs t (0,0))) (ht:∀ q ∈ e :: d.E,q ≠ t) (hg:W.grownBy W1 (some g)):d.R e W1 base ok v xs:=
 Kd.R_mono (Kd.R_step (R_apart h hb ht) (fun k hk hl=>hg.block k hl (fun he=>hk.2 (by injection he)))) (fun k hk=>hk.1)
def SysRows (W:World) (base:Nat) (s:Sys) (vc vt vl:Value):Prop:=kCell.R 53 W base (fun _=>True) vc s.cells/\kTask.R 38 W base (fun _=>True) vt s.tasks/\kEntry.R 119 W base (fun _=>True) vl s.log
theorem SysRows.read {W:World} {base:Nat} {s:Sys} {vc vt vl:Value} (h:SysRows W base s vc vt vl):kSys.K W s [vc,vt,.int .i64 s.clock,vl]:=by
 obtain ⟨A0,c0,rfl,l0,g0⟩:=Kd.R_reads h.1;obtain ⟨A1,c1,rfl,l1,g1⟩:=Kd.R_reads h.2.1;obtain ⟨A3,c3,rfl,l3,g3⟩:=Kd.R_reads h.2.2;exact kSys_mk s l0 g0 l1 g1 l3 g3
def NewPost (p:Prog) (b:Bool) (w:World) (e:Ending) (w':World):Prop:=∃ vc vt vl,e= .returned (.tuple #[.agg #[vc,vt,.int .i64 0,vl],.bool b])/\Below w.heap.size w w'/\(b=true->SysRows w' w.heap.size (sysNew p) vc vt vl)/\(b=false->SysRows w' w.heap.size zSys vc vt vl)
theorem take_map_next (l:List Int) {k:Nat} (f:Int->Cell) (h:k < l.length):(l.take (k+1)).map f=(l.take k).map f ++ [f l[k]]:=by
 rw [List.take_add_one,List.getElem?_eq_getElem h,List.map_append];rfl
theorem rd_get {l:List Int} {k:Nat} (h:k < l.length):rd l (k:Int)=l[k]:=by simp [rd,List.getD_eq_getElem?_getD,List.getElem?_eq_getElem h]
theorem sysNew_aux (p:Prog) (ps:List Value) (bPO:Bool) (w:World) (hp:kProg.K w p ps) (hz:ProgSz p) (hbPO:progOk p=bPO):
  Calls Try.prog 117 #[.agg ps.toArray] w fun e w'=>NewPost p bPO w e w':=by
 have HPK:=am hp;have HPZ:=am hz;obtain ⟨Ac,cc,Ab,cb,rfl,-,gc,-⟩:=kProg_open hp;have HCL:=am gc;have hpc:=hz.cells;clear hp hz gc;have PO:=am hbPO;clear hbPO;go_enter Try.func117,Try.ntmps117
 cases bPO with
 | false=>
  go_wp2_with (first
  |((with_reducible refine gate_dst (N:=1) rfl ?_);refine box_event rfl (N:=1) rfl (t:=48) (by go_simp<;>rfl) ?_;intro gp hg w1 hbox hb;have BP:=am hbox;clear hbox hg;have HB2:=am hb;clear hb;have HB:=HB2;clear HB2;have BPc:=zc8 BP.out)
  |((with_reducible refine gate_dst (N:=2) rfl ?_);refine box_event rfl (N:=2) rfl (t:=27) (by go_simp<;>rfl) ?_;intro gr hg w2 hbox hb;have BR:=am hbox;have LR:=am (show w.heap.size<=gr from Nat.le_trans HB.out.size (Nat.le_of_eq hg.symm));clear hbox hg;replace BP:=am (zb8 BP.out hb);replace HB:=am (below_step HB.out hb);clear hb BPc;have BPc:=zc8 BP.out;have BRc:=zc8 BR.out)
  |((with_reducible refine gate_dst (N:=6) rfl ?_);refine wpList_load_mid rfl 48 (.tmp 1) rfl gp 0 rfl _ _ (lC BP.out) Try.underlying48 rfl (by kernel_rfl) ?_)
  |(go_at_call 56;refine (progOk_calls p _ _ (kProg.K_below HB.out HPK.out) HPZ.out).mono ?_;rw [PO.out];rintro e w9 ⟨rfl,hb⟩;replace BP:=am (zb8 BP.out hb);replace BR:=am (zb8 BR.out hb);replace HB:=am (below_step HB.out hb);clear hb BPc BRc;have BPc:=zc8 BP.out;have BRc:=zc8 BR.out)
  |((with_reducible refine gate_store (t:=27) (p:=2) rfl ?_);refine store_block rfl rfl 27 (.tmp 2) (.tmp 9) rfl rfl rfl BR.out rfl (by kernel_rfl) (aB rfl) ?_;intro wz hbox hg;have BZ:=am hbox;have HG:=am hg;have HBz:=am (pw_below_grown HB.out _ HB.out.size hg (fun z hz=>by cases hz;exact LR.out));clear hbox hg))
  exact bodyPost_ret (results_ct Try.results117 _ wz gr 27 #[.slice none 0 0,.slice none 0 0,.int .i64 0,.slice none 0 0] (0,0) _ rfl BZ.out Try.underlying27 rfl (by kernel_rfl)) rfl ⟨_,_,_,rfl,HBz.out,(fun h=>by cases h),fun _=>⟨Kd.R_nil _ _ _ _ _,Kd.R_nil _ _ _ _ _,Kd.R_nil _ _ _ _ _⟩⟩
 | true=>
  go_wp2_with (first
  |((with_reducible refine gate_dst (N:=1) rfl ?_);refine box_event rfl (N:=1) rfl (t:=48) (by go_simp<;>rfl) ?_;intro gp hg w1 hbox hb;have BP:=am hbox;clear hbox hg;have HB2:=am hb;clear hb;have HB:=HB2;clear HB2;have BPc:=zc8 BP.out)
  |((with_reducible refine gate_dst (N:=2) rfl ?_);refine box_event rfl (N:=2) rfl (t:=27) (by go_simp<;>rfl) ?_;intro gr hg w2 hbox hb;have BR:=am hbox;have LR:=am (show w.heap.size<=gr from Nat.le_trans HB.out.size (Nat.le_of_eq hg.symm));clear hbox hg;replace BP:=am (zb8 BP.out hb);replace HB:=am (below_step HB.out hb);clear hb BPc;have BPc:=zc8 BP.out;have BRc:=zc8 BR.out)
  |((with_reducible refine gate_dst (N:=6) rfl ?_);refine wpList_load_mid rfl 48 (.tmp 1) rfl gp 0 rfl _ _ (lC BP.out) Try.underlying48 rfl (by kernel_rfl) ?_)
  |(go_at_call 56;refine (progOk_calls p _ _ (kProg.K_below HB.out HPK.out) HPZ.out).mono ?_;rw [PO.out];rintro e w9 ⟨rfl,hb⟩;replace BP:=am (zb8 BP.out hb);replace BR:=am (zb8 BR.out hb);replace HB:=am (below_step HB.out hb);clear hb BPc BRc;have BPc:=zc8 BP.out;have BRc:=zc8 BR.out)
  |((with_reducible refine gate_dst (N:=10) rfl ?_);refine Kd.R_lit kCell (w0:=w) w.heap.size 53 rfl (N:=10) rfl (xs:=([]:List Cell)) (inner:= []) (ok:=fun _=>True) (okp:=fun _=>False) (by go_simp<;>rfl) (Reps.none _ _) (fun _ hk=>hk.elim) trivial HB.out HB.out.size (by simp) ?_;intro v1 wl hv1 hb1 hg1 _;have hb:=grown_below hg1;clear hb1 hg1;obtain ⟨a0,c0,ev⟩:=Kd.R_slice hv1;subst ev;have VC:=am hv1;clear hv1;replace BP:=am (zb8 BP.out hb);replace BR:=am (zb8 BR.out hb);replace HB:=am (below_step HB.out hb);clear hb BPc BRc;have BPc:=zc8 BP.out;have BRc:=zc8 BR.out)
  |(go_at_call 135;refine (l11Task_calls 0 (-1) _).mono ?_;rintro e wl ⟨v3,v8,v9,v10,rfl,hN4,hb⟩;have hM:kTask.M wl w.heap.size (fun _=>True) (newTask 0 (-1)) [.int .i64 0,.int .i64 0,.int .i64 (-1),v3,.int .i64 0,.int .i64 0,.int .i64 0,.int .i64 0,v8,v9,v10,.int .i64 0,.int .i64 0]:=kTask_mkM (newTask 0 (-1)) (Kd.R_lower hN4.regs HB.out.size) (Kd.R_lower hN4.old HB.out.size) (Kd.R_lower hN4.reads HB.out.size) (Kd.R_lower hN4.puts HB.out.size);have HM:=am hM;clear hM hN4;replace VC:=am (Kd.R_below VC.out hb);replace BP:=am (zb8 BP.out hb);replace BR:=am (zb8 BR.out hb);replace HB:=am (below_step HB.out hb);clear hb BPc BRc;have BPc:=zc8 BP.out;have BRc:=zc8 BR.out)
  |((with_reducible refine gate_dst (N:=12) rfl ?_);refine Kd.R_lit kTask (w0:=w) w.heap.size 38 rfl (N:=12) rfl (xs:= [newTask 0 (-1)]) (inner:= [.int .i64 0,.int .i64 0,.int .i64 (-1),v3,.int .i64 0,.int .i64 0,.int .i64 0,.int .i64 0,v8,v9,v10,.int .i64 0,.int .i64 0]) (ok:=fun _=>True) (okp:=fun _=>True) (by unfold newCells;first|(go_simp;done)|(go_simp;rfl)) (Reps.front HM.out rfl (Reps.none _ _) (by simp)) (fun _ _=>trivial) trivial HB.out HB.out.size (by decide) ?_;intro v1 wl hv1 hb1 hg1 _;have hb:=grown_below hg1;clear hb1 hg1;obtain ⟨a1,c1,ev⟩:=Kd.R_slice hv1;subst ev;have VT:=am hv1;clear hv1 HM;replace VC:=am (Kd.R_below VC.out hb);replace BP:=am (zb8 BP.out hb);replace BR:=am (zb8 BR.out hb);replace HB:=am (below_step HB.out hb);clear hb BPc BRc;have BPc:=zc8 BP.out;have BRc:=zc8 BR.out)
  |((with_reducible refine gate_dst (N:=13) rfl ?_);refine Kd.R_lit kEntry (w0:=w) w.heap.size 119 rfl (N:=13) rfl (xs:=([]:List Entry)) (inner:= []) (ok:=fun _=>True) (okp:=fun _=>False) (by go_simp<;>rfl) (Reps.none _ _) (fun _ hk=>hk.elim) trivial HB.out HB.out.size (by simp) ?_;intro v1 wl hv1 hb1 hg1 _;have hb:=grown_below hg1;clear hb1 hg1;obtain ⟨a3,c3,ev⟩:=Kd.R_slice hv1;subst ev;have VL:=am hv1;clear hv1;replace VC:=am (Kd.R_below VC.out hb);replace VT:=am (Kd.R_below VT.out hb);replace BP:=am (zb8 BP.out hb);replace BR:=am (zb8 BR.out hb);replace HB:=am (below_step HB.out hb);clear hb BPc BRc;have BPc:=zc8 BP.out;have BRc:=zc8 BR.out)
  |((with_reducible refine gate_dst (N:=4) rfl ?_);refine box_event rfl (N:=4) rfl (t:=27) (by go_simp<;>rfl) ?_;intro gs hg wt hbox hb;have BS0:=am hbox;have GS:=am hg;have HBT:=am hb;clear hbox hb hg)
  |((with_reducible refine gate_store (t:=27) (p:=4) rfl ?_);refine store_block rfl rfl 27 (.tmp 4) (.tmp 14) rfl rfl rfl BS0.out rfl (by kernel_rfl) (aB rfl) ?_;intro wn hbox hg;have BS:=am hbox;have hb:=pw_below_grown HBT.out _ HBT.out.size hg (fun z hz=>by cases hz;exact Nat.le_of_eq GS.out.symm);have LS:=am (show w.heap.size<=gs from Nat.le_trans HB.out.size (Nat.le_of_eq GS.out.symm));have NRS:=am (show gr ≠ gs from fun he=>by have:=blk_lt BR.out;rw [GS.out] at he;omega);clear BS0 HBT hbox hg GS;replace VC:=am (Kd.R_below VC.out hb);replace VT:=am (Kd.R_below VT.out hb);replace VL:=am (Kd.R_below VL.out hb);replace BP:=am (zb8 BP.out hb);replace BR:=am (zb8 BR.out hb);replace HB:=am (below_step HB.out hb);clear hb BPc BRc;have BPc:=zc8 BP.out;have BRc:=zc8 BR.out;have BSc:=zc8 BS.out))
  go_loopw [5] (fun j w'=>∃ k:Nat,k<=p.cells.length/\j= .int .i64 k/\∃ vc,Aside0 (kCell.R 53 w' w.heap.size (fun _=>True) vc ((p.cells.take k).map fun n=>(⟨n,0,-1⟩:Cell)))/\Aside0 (kTask.R 38 w' w.heap.size (fun _=>True) (.slice a1 1 c1) [newTask 0 (-1)])/\Aside0 (kEntry.R 119 w' w.heap.size (fun _=>True) (.slice a3 0 c3) [])/\Aside0 (w'.heap[gp]? = some (.cells #[.slice Ac p.cells.length cc,.slice Ab p.bodies.length cb] 48 (0,0)))/\Aside0 (w'.heap[gr]? = some (.cells #[.slice none 0 0,.slice none 0 0,.int .i64 0,.slice none 0 0] 27 (0,0)))/\Aside0 (w'.heap[gs]? = some (.cells #[vc,.slice a1 1 c1,.int .i64 0,.slice a3 0 c3] 27 (0,0)))/\Aside0 (Below w.heap.size w w')) (fun j _=>p.cells.length - (intOf j).toNat)
  case atStart=>exact ⟨0,Nat.zero_le _,rfl,_,VC,VT,VL,BP,BR,BS,HB⟩
  case round=>
   clear VC VT VL BP BR BS HB BPc BRc BSc;obtain ⟨k,hk,rfl,vc,VC,VT,VL,BP,BR,BS,HB⟩:=hrel;obtain ⟨A,cA,ev⟩:=Kd.R_slice VC.out;subst ev;obtain ⟨lk,hlk⟩:∃ x:Nat,x=((p.cells.take k).map fun n=>(⟨n,0,-1⟩:Cell)).length:=⟨_,rfl⟩;rw [<-hlk] at VC BS;have LK:=am hlk;clear hlk;have BPc:=zc8 BP.out;have BRc:=zc8 BR.out;have BSc:=zc8 BS.out;by_cases hlt:k < p.cells.length
   ·have q0:(0:Int)<=(k:Int):=by omega
    have q1:(k:Int) < (p.cells.length:Int):=by omega
    obtain ⟨nk,hnk⟩:∃ x,x=rd p.cells (k:Int):=⟨_,rfl⟩;have NK:=am hnk;clear hnk;obtain ⟨adc,hac,-⟩:=Kd.at_int HCL.out (k:Int) q0 q1;cases hac;go_wp2;refine st9 (n:=12) (S:=fun W=>W.heap[gp]? = some (.cells #[.slice (some adc) p.cells.length cc,.slice Ab p.bodies.length cb] 48 (0,0))/\W.heap[gr]? = some (.cells #[.slice none 0 0,.slice none 0 0,.int .i64 0,.slice none 0 0] 27 (0,0))/\W.heap[gs]? = some (.cells #[.slice A lk cA,.slice a1 1 c1,.int .i64 0,.slice a3 0 c3] 27 (0,0))/\(Kd.int .i64).C W (some adc) p.cells.length p.cells) (ds:= [10,11]) (by kernel_rfl) rfl ⟨blk_drew BP.out,blk_drew BR.out,blk_drew BS.out,Kd.C_below (Kd.C_below HCL.out HB.out) (below_drew (Below.refl _ _))⟩ (fun hHeld=> ?_);have hb:=below_drew (Below.refl wr.heap.size wr);generalize wr.drew=w7 at hb hHeld ⊢;have HB7:=am (below_step HB.out hb);have VC7:=am (Kd.R_below VC.out hb);have VT7:=am (Kd.R_below VT.out hb);have VL7:=am (Kd.R_below VL.out hb);clear hb HB BP BR BS BPc BRc BSc VC VT VL;refine ba9 (fuel:=4) (n:=8) [0,1,2,3,4,5,6,7] (by kernel_rfl) (fun N _ _ _ _ h=>by cases N <;> exact h) hHeld ?_
    iterate 8 (
     refine stillS_step (v:= ?_) (a':= ?_) rfl (Or.inl ⟨by rfl, ?_⟩) ?_ ?_;rotate_left
     ·rintro W ⟨s0,s1,s2,s3⟩
      have t0:=zc8 s0;have t2:=zc8 s2;obtain ⟨ad1,hh,gx⟩:=Kd.at_int s3 (k:Int) q0 q1;cases hh;simp only [Int.toNat_natCast] at gx;rw [<-NK.out] at gx;clear s0 s1 s2 s3;go_simp;with_reducible rfl
     rotate_left
     ·simp only [Act.put,sA,sZ,sS,i64_w]
      rfl)
    refine stillS_nil ?_;refine on9 (i:=8) (N:=some 30) rfl rfl (by kernel_rfl) (by decide) (fun K hK=> ?_);refine value_ (v:=.slice (some ⟨w7.heap.size,0,none⟩) 1 1) (w1:=w7.alloc (.cells #[.int .i64 nk,.int .i64 0,.int .i64 (-1)] 53 (0,0))) (by rfl) rfl (by go_simp<;>rfl) ?_;have hHeld0:=hHeld;refine hK.out _ _ ⟨blk_alloc hHeld.1 _,blk_alloc hHeld.2.1 _,blk_alloc hHeld.2.2.1 _,Kd.C_below hHeld.2.2.2 (below_alloc (Below.refl _ _) _)⟩ (fun hHeld=> ?_);clear hK K;refine norm_ (a':= ?_) ?_ ?_;rotate_left
    ·show Act.put _ (some 30) _=_
     simp only [Act.put,sA,sZ,sS,i64_w];rfl
    refine on9 (i:=9) (N:=some 31) rfl rfl (by kernel_rfl) (by decide) (fun K hK=> ?_);refine Kd.R_append_step kCell (w0:=w) w.heap.size (by rfl) (.tmp 23) (.tmp 30) 23 53 (.agg #[.int .i64 0,.int .i64 0,.int .i64 0]) 24 rfl Try.underlying23 info_cell rfl (by decide) (by decide) (.slice A lk cA) ((p.cells.take k).map fun n=>(⟨n,0,-1⟩:Cell)) (⟨nk,0,-1⟩:Cell) [.int .i64 nk,.int .i64 0,.int .i64 (-1)] (fun _=>True) (fun _=>False) rfl rfl (kCell_mkM (⟨nk,0,-1⟩:Cell)) (fun _ hk=>hk.elim) (fun _ _=>trivial) VC7.out HB7.out HB7.out.size (by rw [List.length_map,List.length_take];omega) ?_;intro v1 w6 hv1 hb6 hg6 hat6;have hgp:some gp ≠ (Value.slice A lk cA).ownBlock:=fun he=>Kd.R_ne VC7.out hHeld0.1 (by decide) he
    have hgr:some gr ≠ (Value.slice A lk cA).ownBlock:=fun he=>Kd.R_ne VC7.out hHeld0.2.1 (by decide) he
    have hgs:some gs ≠ (Value.slice A lk cA).ownBlock:=fun he=>Kd.R_ne VC7.out hHeld0.2.2.1 (by decide) he
    refine hK.out _ _ ⟨blk_grown hHeld0.1 hg6 hgp,blk_grown hHeld0.2.1 hg6 hgr,blk_grown hHeld0.2.2.1 hg6 hgs,Kd.C_below HCL.out hb6⟩ (fun hHeld=> ?_);clear hK K;refine norm_ (a':= ?_) ?_ ?_;rotate_left
    ·show Act.put _ (some 31) _=_
     simp only [Act.put,sA,sZ,sS,i64_w];rfl
    have VT6:=am (R_other VT7.out VC7.out (by decide) hg6);have VL6:=am (R_other VL7.out VC7.out (by decide) hg6);have V:=am hv1;have HB6:=am hb6;have BP:=am hHeld.1;have BR:=am hHeld.2.1;have BS:=am hHeld.2.2.1;clear hHeld hHeld0 hv1 hb6 hg6 hat6 hgp hgr hgs VC7 VT7 VL7 HB7;have BSc:=zc8 BS.out;refine tail_ (fuel:=2) 10 (by kernel_rfl) ?_;simp only [List.drop_succ_cons,List.drop_zero]
    go_wp2_with (first
    |((with_reducible refine gate_store (t:=23) (p:=32) rfl ?_);refine set_ev (u:=v1) rfl rfl _ _ rfl (g:=gs) (off:=0) rfl rfl (R_cells V.out) (R_oneCell V.out) (by kernel_rfl) ⟨⟨_,by rw [zc8 BS.out];rfl⟩,blk_frozen BS.out _⟩ ?_;intro wz hwn;have BSz:=am (show wz.heap[gs]? = some (.cells #[v1,.slice a1 1 c1,.int .i64 0,.slice a3 0 c3] 27 (0,0)) by rw [hwn];exact blk_set BS.out 0 v1);have BPz:=am (show wz.heap[gp]? = some (.cells #[.slice (some adc) p.cells.length cc,.slice Ab p.bodies.length cb] 48 (0,0)) by rw [hwn];exact blk_far (p:=⟨gs,0,none⟩) BP.out (blk_ne BP.out BS.out (by decide)) v1);have BRz:=am (show wz.heap[gr]? = some (.cells #[.slice none 0 0,.slice none 0 0,.int .i64 0,.slice none 0 0] 27 (0,0)) by rw [hwn];exact blk_far (p:=⟨gs,0,none⟩) BR.out NRS.out v1);have VCz:=am (show kCell.R 53 wz w.heap.size (fun _=>True) v1 _ by rw [hwn];exact R_set V.out BS.out (by decide) 0 v1);have VTz:=am (show kTask.R 38 wz w.heap.size (fun _=>True) (.slice a1 1 c1) [newTask 0 (-1)] by rw [hwn];exact R_set VT6.out BS.out (by decide) 0 v1);have VLz:=am (show kEntry.R 119 wz w.heap.size (fun _=>True) (.slice a3 0 c3) [] by rw [hwn];exact R_set VL6.out BS.out (by decide) 0 v1);have HBz:=am (show Below w.heap.size w wz by rw [hwn];exact below_set HB6.out LS.out);clear hwn V VT6 VL6 BP BR BS HB6 BSc))
    go_roundw
    case rel=>exact ⟨k+1,by omega,by go_num,v1,⟨by rw [take_map_next _ _ hlt,<-rd_get hlt,<-NK.out];exact VCz.out⟩,VTz,VLz,BPz,BRz,BSz,HBz⟩
    case measure=>simp [intOf];omega
   ·obtain rfl:k=p.cells.length:=by omega
    have q1:¬ (p.cells.length:Int) < (p.cells.length:Int):=by omega
    go_wp2_with (first
    |((with_reducible refine gate_dst (N:=33) rfl ?_);refine wpList_load_mid rfl 27 (.tmp 4) rfl gs 0 rfl _ _ (lC BS.out) Try.underlying27 rfl (by kernel_rfl) ?_)
    |((with_reducible refine gate_store (t:=27) (p:=2) rfl ?_);refine store_block rfl rfl 27 (.tmp 2) (.tmp 33) rfl rfl rfl BR.out rfl (by kernel_rfl) (aB rfl) ?_;intro wz hbox hg;have BZ:=am hbox;have HG:=am hg;have HBz:=am (pw_below_grown HB.out _ HB.out.size hg (fun z hz=>by cases hz;exact LR.out));clear hbox hg))
    have VCz:=am (R_grownT VC.out BR.out (by decide) HG.out);have VTz:=am (R_grownT VT.out BR.out (by decide) HG.out);have VLz:=am (R_grownT VL.out BR.out (by decide) HG.out);have hc:(p.cells.take p.cells.length).map (fun n=>(⟨n,0,-1⟩:Cell))=(sysNew p).cells:=by rw [List.take_length];rfl
    have hl:lk=(sysNew p).cells.length:=by rw [<-hc];exact LK.out
    rw [hc] at VCz;rw [hl] at VCz BZ;refine bodyPost_ret (results_ct Try.results117 _ wz gr 27 #[.slice A (sysNew p).cells.length cA,.slice a1 1 c1,.int .i64 0,.slice a3 0 c3] (0,0) _ rfl BZ.out Try.underlying27 rfl (by kernel_rfl)) rfl ⟨_,_,_,rfl,HBz.out, ?_⟩;refine ⟨fun _=> ?_,fun h=>by cases h⟩;exact ⟨VCz.out,VTz.out,VLz.out⟩
section
variable {P:Program} {ops:Array Oper} {Q:Exit->Go.Act->World->Prop} {md:Region.Mode} {S:World->Prop} {ds:List Nat}
theorem dead_store {i j fuel:Nat} {N:Option Tmp} {oi oj:Oper} {l:Array Bool} {a:Go.Act} {w w1:World} {v:Value} {a':Go.Act} (hi:ops[i]? = some oi) (hj:ops[j]? = some oj) (hNi:oi.dst=N)
  (hc:(Region.ready md ops l == [i,j] && Region.ready md ops (l.setIfInBounds i true) == [j] && Region.ready md ops (l.setIfInBounds j true) == [i] && Region.ready md ops ((l.setIfInBounds i true).setIfInBounds j true) == [] && Region.ready md ops ((l.setIfInBounds j true).setIfInBounds i true) == [])=true) (hdj:j ∈ ds)
  (hwi:∀ x,Region.wanted oi x=true) (hwj:∀ x,Region.wanted oj x=true) (hri:∀ W,(execOp a.eval oi).run P W= .ok (.value v) W) (ha:a.put N v=a')
  (hj1:∀ K:Go.Act->World->Prop,K a w1->Oper.wp P oj a w K Q) (hj2:∀ K:Go.Act->World->Prop,K a' w1->Oper.wp P oj a' w K Q)
  (h:Q .normal a' w1):wpAnyLast P md ops Q S ds (fuel+1+1) l a w:=by
 subst ha;simp only [Bool.and_eq_true,beq_iff_eq] at hc;obtain ⟨⟨⟨⟨h1,h2⟩,h3⟩,h4⟩,h5⟩:=hc
 have same:∀ {fuel:Nat} {l:Array Bool} {a:Go.Act} {w:World},(∀ W,(execOp a.eval oi).run P W= .ok (.value v) W)->wpAnyLast P md ops Q S ds fuel (l.setIfInBounds i true) (a.put N v) w->wpOp P ops Q i (fun a' w'=>(i ∉ ds->S w->S w')/\wpAnyLast P md ops Q S ds fuel (l.setIfInBounds i true) a' w') a w:=by
  intro fuel l a w hr hn;refine wpOp_step hi (fun K' hK=> ?_);rw [hNi];exact value_ (hwi _) hNi (hr w) (hK _ _ ⟨fun _ h=>h,hn⟩)
 refine wpAnyLast_ready h1 (by simp) (fun q hq=> ?_);rcases List.mem_cons.1 hq with rfl | hq
 ·refine same hri ?_
  refine wpAnyLast_ready h2 (by simp) (AllReadyL.cons_last hj hdj (fun K2 hK2=> ?_) AllReadyL.nil);rw [if_pos (hwj _)];exact hj2 _ (hK2.out _ _ (wpAnyLast_done h4 h fuel))
 ·refine AllReadyL.cons_last hj hdj (fun K' hK=> ?_) AllReadyL.nil q hq
  rw [if_pos (hwj _)];refine hj1 _ (hK.out _ _ ?_);refine wpAnyLast_ready h3 (by simp) (fun q2 hq2=> ?_);rw [List.mem_singleton.1 hq2];exact same hri (wpAnyLast_done h5 h fuel)
end
theorem setCells_blk {W:World} {g:Nat} {c0:Array Value} {e:TypeId} {cs:List Value} (hb:W.heap[g]? = some (.cells c0 e (0,0))) (hl:cs.length=c0.size):(W.setCells g 0 cs).heap[g]? = some (.cells cs.toArray e (0,0))/\W.grownBy (W.setCells g 0 cs) (some g):=by
 obtain ⟨cur,hc,hsz,hcur⟩:=setCells_row cs 0 W c0 hb (by omega);obtain ⟨s1,s2,s3,s4⟩:=setCells_same g cs 0 W
 have e1:cur=cs.toArray:=by
  apply Array.toList_inj.1;rw [hcur,List.take_zero,List.nil_append,List.drop_eq_nil_of_le (by simp;omega),List.append_nil]
 subst e1;exact ⟨hc,⟨s1,s2,s3,by rw [s4];exact Nat.le_refl _,fun i hi hne=>setCells_far cs 0 i (fun he=>hne (by rw [he]))⟩⟩
theorem store_wp {P:Program} {op:Oper} {a:Go.Act} {W:World} {K:Go.Act->World->Prop} {Q:Exit->Go.Act->World->Prop} (hN:op.dst=none) (t:TypeId) (p x:Operand) (ho:op.op= .store t p x) {g:Nat} {c0:Array Value} {e:TypeId} {cs:List Value}
  (hp:a.eval p= .pointer (some ⟨g,0,none⟩)) (hx:a.eval x= .agg cs.toArray) (hb:W.heap[g]? = some (.cells c0 e (0,0))) (hl:cs.length=c0.size) (hi:(P.info? t).map (·.size)=some cs.length) (h1:∀ v ∈ cs,v.oneCell'=true)
  (h:K a (W.setCells g 0 cs)):Oper.wp P op a W K Q:=by
 refine wp_store_mid t p x ho g 0 cs.toArray hp hx (fun j hj=> ?_) (by simpa using hi) (all_oneCell_toArray h1) ?_
 ·rw [Nat.zero_add,zc8 hb j,blk_frozen hb j]
  simp at hj;simp [Array.getElem?_eq_getElem (show j < c0.size by omega)]
 ·rw [hN]
  exact h
def RunPost (p:Prog) (s:Sys) (ks:List Int) (w:World) (e:Ending) (w':World):Prop:=∃ (ss:List Value) (b:Bool),e= .returned (.tuple #[.agg ss.toArray,.bool b])/\Below w.heap.size w w'/\b=(sysOk p s && decide (ks.length<=300))/\(b=true->∃ own vc vt vl,ss= [vc,vt,.int .i64 (turns p s ks).clock,vl]/\Sy w.heap.size own (turns p s ks) vc vt vl w')/\(b=false->kSys.K w' zSys ss)
theorem SysSz.logIn {s:Sys} (h:SysSz s):∀ e ∈ s.log,e.reads.length<=1048576/\e.puts.length<=1048576:=by
 intro e he;obtain ⟨i,hi,rfl⟩:=List.mem_iff_getElem.1 he;have:=h.logs i hi;rwa [show entryAt s.log i=s.log[i] by simp [entryAt,List.getD_eq_getElem?_getD,List.getElem?_eq_getElem hi]] at this
theorem sysRun_calls (p:Prog) (ps:List Value) (s:Sys) (ss:List Value) (ks:List Int) (Ak:Option Addr) (ck:Nat) (w:World) (hp:kProg.K w p ps) (hs:kSys.K w s ss) (hz:ProgSz p) (hsz:SysSz s) (hN:s.log.length+s.tasks.length<=1000000) (hk:(Kd.int .i64).C w Ak ks.length ks):
  Calls Try.prog 55 #[.agg ps.toArray,.agg ss.toArray,.slice Ak ks.length ck] w fun e w'=>RunPost p s ks w e w':=by
 have HPK:=am hp;have HSK:=am hs;have HPZ:=am hz;have HSZ:=am hsz;have LOG:=am hsz.logIn;have HK:=am hk;obtain ⟨Ac,cc,Ab,cb,rfl,-⟩:=kProg_open hp;obtain ⟨A0,c0,A1,c1,A3,c3,rfl,-⟩:=kSys_open hs;obtain ⟨bSO,hbSO⟩:∃ x,sysOk p s=x:=⟨_,rfl⟩;have SO:=am hbSO;clear hp hs hz hsz hk hbSO;go_enter Try.func55,Try.ntmps55
 cases bSO with
 | false=>
  go_wp2_with (first
  |((with_reducible refine gate_dst (N:=3) rfl ?_);refine box_event rfl (N:=3) rfl (t:=48) (by go_simp<;>rfl) ?_;intro gp hg w3 hbox hb;have BP:=am hbox;clear hbox hg;have HB2:=am hb;clear hb;have HB:=HB2;clear HB2;have BPc:=zc8 BP.out)
  |((with_reducible refine gate_dst (N:=4) rfl ?_);refine box_event rfl (N:=4) rfl (t:=27) (by go_simp<;>rfl) ?_;intro gs hg w4 hbox hb;have BS:=am hbox;have LS:=am (show w.heap.size<=gs from Nat.le_trans HB.out.size (Nat.le_of_eq hg.symm));clear hbox hg;replace BP:=am (zb8 BP.out hb);replace HB:=am (below_step HB.out hb);clear hb BPc;have BPc:=zc8 BP.out;have BSc:=zc8 BS.out)
  |((with_reducible refine gate_dst (N:=6) rfl ?_);refine box_event rfl (N:=6) rfl (t:=27) (by go_simp<;>rfl) ?_;intro gr hg w6 hbox hb;have BR:=am hbox;have LR:=am (show w.heap.size<=gr from Nat.le_trans HB.out.size (Nat.le_of_eq hg.symm));have NRS:=am (show gs ≠ gr from fun he=>by have:=blk_lt BS.out;rw [<-he] at hg;omega);clear hbox hg;replace BP:=am (zb8 BP.out hb);replace BS:=am (zb8 BS.out hb);replace HB:=am (below_step HB.out hb);clear hb BPc BSc;have BPc:=zc8 BP.out;have BSc:=zc8 BS.out;have BRc:=zc8 BR.out)
  |((with_reducible refine gate_dst (N:=9) rfl ?_);refine wpList_load_mid rfl 48 (.tmp 3) rfl gp 0 rfl _ _ (lC BP.out) Try.underlying48 rfl (by kernel_rfl) ?_)
  |((with_reducible refine gate_dst (N:=10) rfl ?_);refine wpList_load_mid rfl 27 (.tmp 4) rfl gs 0 rfl _ _ (lC BS.out) Try.underlying27 rfl (by kernel_rfl) ?_)
  |(go_at_call 34;refine (sysOk_calls p _ s _ _ (kProg.K_below HB.out HPK.out) (kSys.K_below HB.out HSK.out) HPZ.out HSZ.out).mono ?_;rw [SO.out];rintro e w9 ⟨rfl,hb⟩;replace BP:=am (zb8 BP.out hb);replace BS:=am (zb8 BS.out hb);replace BR:=am (zb8 BR.out hb);replace HB:=am (below_step HB.out hb);clear hb BPc BSc BRc;have BPc:=zc8 BP.out;have BSc:=zc8 BS.out;have BRc:=zc8 BR.out)
  |((with_reducible refine gate_store (t:=27) (p:=6) rfl ?_);refine store_block rfl rfl 27 (.tmp 6) (.tmp 18) rfl rfl rfl BR.out rfl (by kernel_rfl) (aB rfl) ?_;intro wz hbox hg;have BZ:=am hbox;have HG:=am hg;have HBz:=am (pw_below_grown HB.out _ HB.out.size hg (fun z hz=>by cases hz;exact LR.out));clear hbox hg))
  exact bodyPost_ret (results_ct Try.results55 _ wz gr 27 #[.slice none 0 0,.slice none 0 0,.int .i64 0,.slice none 0 0] (0,0) _ rfl BZ.out Try.underlying27 rfl (by kernel_rfl)) rfl ⟨_,false,rfl,HBz.out,by rw [SO.out];rfl,(fun h=>by cases h),fun _=>kSys_mk zSys (Nat.zero_le _) (C_nil _ _) (Nat.zero_le _) (C_nil _ _) (Nat.zero_le _) (C_nil _ _)⟩
 | true=>
  by_cases hle:ks.length<=300
  ·have yG:decide ((300:Int) < (ks.length:Int))=false:=decide_eq_false (by omega)
   have nG:¬ (300:Int) < (ks.length:Int):=by omega
   have HN:Aside0 (s.log.length+s.tasks.length+2*ks.length<=1048576):=⟨by omega⟩
   go_wp2_with (first
   |((with_reducible refine gate_dst (N:=3) rfl ?_);refine box_event rfl (N:=3) rfl (t:=48) (by go_simp<;>rfl) ?_;intro gp hg w3 hbox hb;have BP:=am hbox;clear hbox hg;have HB2:=am hb;clear hb;have HB:=HB2;clear HB2;have BPc:=zc8 BP.out)
   |((with_reducible refine gate_dst (N:=4) rfl ?_);refine box_event rfl (N:=4) rfl (t:=27) (by go_simp<;>rfl) ?_;intro gs hg w4 hbox hb;have BS:=am hbox;have LS:=am (show w.heap.size<=gs from Nat.le_trans HB.out.size (Nat.le_of_eq hg.symm));clear hbox hg;replace BP:=am (zb8 BP.out hb);replace HB:=am (below_step HB.out hb);clear hb BPc;have BPc:=zc8 BP.out;have BSc:=zc8 BS.out)
   |((with_reducible refine gate_dst (N:=6) rfl ?_);refine box_event rfl (N:=6) rfl (t:=27) (by go_simp<;>rfl) ?_;intro gr hg w6 hbox hb;have BR:=am hbox;have LR:=am (show w.heap.size<=gr from Nat.le_trans HB.out.size (Nat.le_of_eq hg.symm));have NRS:=am (show gs ≠ gr from fun he=>by have:=blk_lt BS.out;rw [<-he] at hg;omega);clear hbox hg;replace BP:=am (zb8 BP.out hb);replace BS:=am (zb8 BS.out hb);replace HB:=am (below_step HB.out hb);clear hb BPc BSc;have BPc:=zc8 BP.out;have BSc:=zc8 BS.out;have BRc:=zc8 BR.out)
   |((with_reducible refine gate_dst (N:=9) rfl ?_);refine wpList_load_mid rfl 48 (.tmp 3) rfl gp 0 rfl _ _ (lC BP.out) Try.underlying48 rfl (by kernel_rfl) ?_)
   |((with_reducible refine gate_dst (N:=10) rfl ?_);refine wpList_load_mid rfl 27 (.tmp 4) rfl gs 0 rfl _ _ (lC BS.out) Try.underlying27 rfl (by kernel_rfl) ?_)
   |(go_at_call 34;refine (sysOk_calls p _ s _ _ (kProg.K_below HB.out HPK.out) (kSys.K_below HB.out HSK.out) HPZ.out HSZ.out).mono ?_;rw [SO.out];rintro e w9 ⟨rfl,hb⟩;replace BP:=am (zb8 BP.out hb);replace BS:=am (zb8 BS.out hb);replace BR:=am (zb8 BR.out hb);replace HB:=am (below_step HB.out hb);clear hb BPc BSc BRc;have BPc:=zc8 BP.out;have BSc:=zc8 BS.out;have BRc:=zc8 BR.out)
   |((with_reducible refine gate_dst (N:=19) rfl ?_);refine wpList_load_mid rfl 27 (.tmp 4) rfl gs 0 rfl _ _ (lC BS.out) Try.underlying27 rfl (by kernel_rfl) ?_)
   |(go_at_call 87;refine (l11Copy_calls s [.slice A0 s.cells.length c0,.slice A1 s.tasks.length c1,.int .i64 s.clock,.slice A3 s.log.length c3] _ (kSys.K_below HB.out HSK.out) HSZ.out.tasks HSZ.out.cells HSZ.out.log HSZ.out.task LOG.out).mono ?_;rintro e wc ⟨own,vc,vt,vl,rfl,hsy,hb⟩;obtain ⟨Vc,kc,e1⟩:=Kd.R_slice hsy.cells;obtain ⟨Vt,kt,e2⟩:=Kd.R_slice hsy.tasks;obtain ⟨Vl,kl,e3⟩:=Kd.R_slice hsy.log;rw [zip_len] at e2;subst e1 e2 e3;have OS:=am (hsy.low gs (blk_lt BS.out));have OR:=am (hsy.low gr (blk_lt BR.out));have HS:=am (hsy.lower HB.out.size);clear hsy;replace BP:=am (zb8 BP.out hb);replace BS:=am (zb8 BS.out hb);replace BR:=am (zb8 BR.out hb);replace HB:=am (below_step HB.out hb);clear hb BPc BSc BRc;have BPc:=zc8 BP.out;have BSc:=zc8 BS.out;have BRc:=zc8 BR.out)
   |((with_reducible refine gate_store (t:=27) (p:=4) rfl ?_);refine store_block rfl rfl 27 (.tmp 4) (.tmp 20) rfl rfl rfl BS.out rfl (by kernel_rfl) (aB rfl) ?_;intro wn hbox hg;have BSn:=am hbox;replace HS:=am (HS.out.move hg.size (fun q hq hl=>hg.block q hl (fun he=>hq (by injection he with he;rw [he];exact OS.out))));replace BP:=am (blk_grown BP.out hg (fun he=>blk_ne BP.out BS.out (by decide) (by injection he)));replace BR:=am (blk_grown BR.out hg (fun he=>NRS.out (by injection he with he;exact he.symm)));replace HB:=am (pw_below_grown HB.out _ HB.out.size hg (fun z hz=>by cases hz;exact LS.out));clear hbox hg BS BPc BSc BRc;have BS:=BSn;clear BSn;have BPc:=zc8 BP.out;have BSc:=zc8 BS.out;have BRc:=zc8 BR.out))
   clear BPc BSc BRc;go_loopw [8] (fun j w'=>∃ k:Nat,k<=ks.length/\j= .int .i64 k/\∃ own vc vt vl,Aside0 (Sy w.heap.size own (turns p s (ks.take k)) vc vt vl w')/\Aside0 (own gs=0)/\Aside0 (own gr=0)/\Aside0 (w'.heap[gp]? = some (.cells #[.slice Ac p.cells.length cc,.slice Ab p.bodies.length cb] 48 (0,0)))/\Aside0 (w'.heap[gr]? = some (.cells #[.slice none 0 0,.slice none 0 0,.int .i64 0,.slice none 0 0] 27 (0,0)))/\Aside0 (w'.heap[gs]? = some (.cells #[vc,vt,.int .i64 (turns p s (ks.take k)).clock,vl] 27 (0,0)))/\Aside0 (Below w.heap.size w w')) (fun j _=>ks.length - (intOf j).toNat)
   case atStart=>exact ⟨0,Nat.zero_le _,rfl,own,_,_,_,HS,OS,OR,BP,BR,BS,HB⟩
   case round=>
    clear HS OS OR BP BR BS HB;clear own;obtain ⟨k,hk,rfl,own,vc,vt,vl,HS,OS,OR,BP,BR,BS,HB⟩:=hrel;have hinv:Inv p (turns p s (ks.take k)) (s.log.length+s.tasks.length+2*(ks.take k).length):=(Inv.ofOk SO.out).turns _;obtain ⟨sk,hsk⟩:∃ x,x=(turns p s (ks.take k)):=⟨_,rfl⟩;rw [<-hsk] at HS BS hinv;have HSKK:=am hsk;have HINV:=am hinv;clear hsk hinv;obtain ⟨Vc,kc,e1⟩:=Kd.R_slice HS.out.cells;obtain ⟨Vt,kt,e2⟩:=Kd.R_slice HS.out.tasks;obtain ⟨Vl,kl,e3⟩:=Kd.R_slice HS.out.log;rw [zip_len] at e2;subst e1 e2 e3;have BPc:=zc8 BP.out;have BSc:=zc8 BS.out;have BRc:=zc8 BR.out;by_cases hlt:k < ks.length
    ·have q0:(0:Int)<=(k:Int):=by omega
     have q1:(k:Int) < (ks.length:Int):=by omega
     obtain ⟨tk0,htk0⟩:∃ x,x=rd ks (k:Int):=⟨_,rfl⟩;have TKX:=am htk0;clear htk0;obtain ⟨adc,hac,-⟩:=Kd.at_int HK.out (k:Int) q0 q1;cases hac;go_wp2;refine st9 (n:=11) (S:=fun W=>W.heap[gp]? = some (.cells #[.slice Ac p.cells.length cc,.slice Ab p.bodies.length cb] 48 (0,0))/\W.heap[gr]? = some (.cells #[.slice none 0 0,.slice none 0 0,.int .i64 0,.slice none 0 0] 27 (0,0))/\W.heap[gs]? = some (.cells #[.slice Vc sk.cells.length kc,.slice Vt sk.tasks.length kt,.int .i64 sk.clock,.slice Vl sk.log.length kl] 27 (0,0))/\(Kd.int .i64).C W (some adc) ks.length ks) (ds:= [10]) (by kernel_rfl) rfl ⟨blk_drew BP.out,blk_drew BR.out,blk_drew BS.out,Kd.C_below (Kd.C_below HK.out HB.out) (below_drew (Below.refl _ _))⟩ (fun hHeld=> ?_);have hb:=below_drew (Below.refl wr.heap.size wr);generalize wr.drew=w7 at hb hHeld ⊢;have HB7:=am (below_step HB.out hb);have HS7:=am (HS.out.grow hb);clear hb HB BP BR BS BPc BRc BSc HS;refine ba9 (fuel:=5) (n:=6) [0,1,2,3,4,5] (by kernel_rfl) (fun N _ _ _ _ h=>by cases N <;> exact h) hHeld ?_
     iterate 6 (
      refine stillS_step (v:= ?_) (a':= ?_) rfl (Or.inl ⟨by rfl, ?_⟩) ?_ ?_;rotate_left
      ·rintro W ⟨s0,s1,s2,s3⟩
       have t0:=zc8 s0;have t2:=zc8 s2;obtain ⟨ad1,hh,gx⟩:=Kd.at_int s3 (k:Int) q0 q1;cases hh;simp only [Int.toNat_natCast] at gx;rw [<-TKX.out] at gx;clear s0 s1 s2 s3;go_simp;with_reducible rfl
      rotate_left
      ·simp only [Act.put,sA,sZ,sS,i64_w]
       rfl)
     refine stillS_nil ?_;refine on9 (i:=6) (N:=some 34) rfl rfl (by kernel_rfl) (by decide) (fun K hK=> ?_);refine goes_ Try.func88 (by kernel_rfl) rfl #[.agg #[.slice Ac p.cells.length cc,.slice Ab p.bodies.length cb],.agg #[.slice Vc sk.cells.length kc,.slice Vt sk.tasks.length kt,.int .i64 sk.clock,.slice Vl sk.log.length kl],.int .i64 tk0] (by rfl) rfl rfl (by (try simp only [List.map_toArray,List.map_cons,List.map_nil]);first | done | rfl) ?_;refine (l11Do_calls p sk _ [.slice Vc sk.cells.length kc,.slice Vt sk.tasks.length kt,.int .i64 sk.clock,.slice Vl sk.log.length kl] tk0 _ (kProg.K_below HB7.out HPK.out) HS7.out.read HINV.out (by have:=HN.out;rw [List.length_take];omega)).mono ?_;rintro e wn ⟨cs2,rfl,hb,hor⟩;obtain ⟨sn,hsn⟩:∃ x,x=turns p s (ks.take (k+1)):=⟨_,rfl⟩;have hstep:sn=turn p sk tk0:=by rw [hsn,turns_next p s ks hlt,<-HSKK.out,TKX.out];rfl
     have hnx:∃ own2 vc2 vt2 vl2,cs2= [vc2,vt2,.int .i64 sn.clock,vl2]/\Sy w.heap.size own2 sn vc2 vt2 vl2 wn/\own2 gs=0/\own2 gr=0:=by
      rcases hor with ⟨h1,h2⟩ | ⟨h1,own2,vc2,vt2,vl2,h2,h3⟩
      ·have he:sn=sk:=by rw [hstep];unfold turn;rw [h1];rfl
       subst he;exact ⟨own,_,_,_,h2,HS7.out.grow hb,OS.out,OR.out⟩
      ·have he:sn=step p sk tk0.toNat:=by rw [hstep];unfold turn;rw [h1];rfl
       rw [<-he] at h2 h3;exact ⟨own2,vc2,vt2,vl2,h2,h3.lower HB7.out.size,h3.low gs (blk_lt hHeld.2.2.1),h3.low gr (blk_lt hHeld.2.1)⟩
     obtain ⟨own2,vc2,vt2,vl2,rfl,hsy2,ho2,hr2⟩:=hnx;clear hor;obtain ⟨Uc,uc,e1⟩:=Kd.R_slice hsy2.cells;obtain ⟨Ut,ut,e2⟩:=Kd.R_slice hsy2.tasks;obtain ⟨Ul,ul,e3⟩:=Kd.R_slice hsy2.log;rw [zip_len] at e2;subst e1 e2 e3;have HSN:=am hsn;have HS2:=am hsy2;have OS2:=am ho2;have OR2:=am hr2;clear hsy2 ho2 hr2 hstep hsn;refine ⟨_,rfl, ?_⟩;refine hK.out _ _ ⟨zb8 hHeld.1 hb,zb8 hHeld.2.1 hb,zb8 hHeld.2.2.1 hb,Kd.C_below hHeld.2.2.2 hb⟩ (fun hHeld=> ?_);clear hK K;have HB9:=am (below_step HB7.out hb);clear hb HS7 HB7;refine norm_ (a':= ?_) ?_ ?_;rotate_left
     ·show Act.put _ (some 34) _=_
      simp only [Act.put,sA,sZ,sS,i64_w];rfl
     refine ba9 (fuel:=2) (n:=2) [7,8] (by kernel_rfl) (fun N _ _ _ _ h=>by cases N <;> exact h) hHeld ?_
     iterate 2 (
      refine stillS_step (v:= ?_) (a':= ?_) rfl (Or.inl ⟨by rfl, ?_⟩) ?_ ?_;rotate_left
      ·intro W hW
       go_simp
       with_reducible rfl
      rotate_left
      ·simp only [Act.put,sA,sZ,sS,i64_w]
       rfl)
     refine stillS_nil ?_;have BSo:=am hHeld.2.2.1;obtain ⟨hblk,hgr⟩:=setCells_blk (cs:= [.slice Uc sn.cells.length uc,.slice Ut sn.tasks.length ut,.int .i64 sn.clock,.slice Ul sn.log.length ul]) BSo.out rfl;refine dead_store (i:=9) (j:=10) (N:=some 36) (fuel:=0) (a':= ?a2) (v:=.bool (canDo sk tk0)) (w1:=wn.setCells gs 0 [.slice Uc sn.cells.length uc,.slice Ut sn.tasks.length ut,.int .i64 sn.clock,.slice Ul sn.log.length ul]) rfl rfl rfl (by kernel_rfl) (by decide) (fun _=>rfl) (fun _=>rfl) (by intro W;first|(go_simp;done)|(go_simp;rfl)) ?ha ?hj1 ?hj2 ?h
     case ha=>
      simp only [Act.put,sA,sZ,sS,i64_w];rfl
     case hj1=>exact fun K hK=>store_wp rfl 27 (.tmp 4) (.tmp 35) rfl rfl rfl BSo.out rfl (by kernel_rfl) (aB rfl) hK
     case hj2=>exact fun K hK=>store_wp rfl 27 (.tmp 4) (.tmp 35) rfl rfl rfl BSo.out rfl (by kernel_rfl) (aB rfl) hK
     case h=>
      have BPn:=am (blk_grown hHeld.1 hgr (fun he=>blk_ne hHeld.1 BSo.out (by decide) (by injection he)));have BRn:=am (blk_grown hHeld.2.1 hgr (fun he=>NRS.out (by injection he with he;exact he.symm)));have HSn:=am (HS2.out.move hgr.size (fun q hq hl=>hgr.block q hl (fun he=>hq (by injection he with he;rw [he];exact OS2.out))));have HBn:=am (pw_below_grown HB9.out _ HB9.out.size hgr (fun z hz=>by cases hz;exact LS.out));have BSn:=am hblk;generalize wn.setCells gs 0 [.slice Uc sn.cells.length uc,.slice Ut sn.tasks.length ut,.int .i64 sn.clock,.slice Ul sn.log.length ul]=wz at BPn BRn HSn HBn BSn ⊢;clear hHeld HB9 HS2 hblk hgr BSo OS OR;have BP:=BPn;have BR:=BRn;have BS:=BSn;have HS:=HSn;have HB:=HBn;have OS:=OS2;have OR:=OR2;clear BPn BRn BSn HSn HBn OS2 OR2;go_wp2;go_roundw
      case rel=>exact ⟨k+1,by omega,by go_num,own2,_,_,_,⟨by rw [<-HSN.out];exact HS.out⟩,OS,OR,BP,BR,⟨by rw [<-HSN.out];exact BS.out⟩,HB⟩
      case measure=>simp [intOf];omega
    ·obtain rfl:k=ks.length:=by omega
     have q1:¬ (ks.length:Int) < (ks.length:Int):=by omega
     go_wp2_with (first
     |((with_reducible refine gate_dst (N:=37) rfl ?_);refine wpList_load_mid rfl 27 (.tmp 4) rfl gs 0 rfl _ _ (lC BS.out) Try.underlying27 rfl (by kernel_rfl) ?_)
     |((with_reducible refine gate_store (t:=27) (p:=6) rfl ?_);refine store_block rfl rfl 27 (.tmp 6) (.tmp 37) rfl rfl rfl BR.out rfl (by kernel_rfl) (aB rfl) ?_;intro wz hbox hg;have BZ:=am hbox;have HG:=am hg;have HBz:=am (pw_below_grown HB.out _ HB.out.size hg (fun z hz=>by cases hz;exact LR.out));clear hbox hg))
     have hfin:sk=turns p s ks:=by rw [HSKK.out,List.take_length]
     have HSz:=HS.out.move HG.out.size (fun q hq hl=>HG.out.block q hl (fun he=>hq (by injection he with he;rw [he];exact OR.out)));rw [hfin] at HSz;rw [hfin] at BZ;exact bodyPost_ret (results_ct Try.results55 _ wz gr 27 #[.slice Vc (turns p s ks).cells.length kc,.slice Vt (turns p s ks).tasks.length kt,.int .i64 (turns p s ks).clock,.slice Vl (turns p s ks).log.length kl] (0,0) _ rfl BZ.out Try.underlying27 rfl (by kernel_rfl)) rfl ⟨_,true,rfl,HBz.out,by rw [SO.out,decide_eq_true hle];rfl,(fun _=>⟨own,_,_,_,rfl,HSz⟩),fun h=>by cases h⟩
  ·have yG:decide ((300:Int) < (ks.length:Int))=true:=decide_eq_true (by omega)
   have nG:(300:Int) < (ks.length:Int):=by omega
   go_wp2_with (first
   |((with_reducible refine gate_dst (N:=3) rfl ?_);refine box_event rfl (N:=3) rfl (t:=48) (by go_simp<;>rfl) ?_;intro gp hg w3 hbox hb;have BP:=am hbox;clear hbox hg;have HB2:=am hb;clear hb;have HB:=HB2;clear HB2;have BPc:=zc8 BP.out)
   |((with_reducible refine gate_dst (N:=4) rfl ?_);refine box_event rfl (N:=4) rfl (t:=27) (by go_simp<;>rfl) ?_;intro gs hg w4 hbox hb;have BS:=am hbox;have LS:=am (show w.heap.size<=gs from Nat.le_trans HB.out.size (Nat.le_of_eq hg.symm));clear hbox hg;replace BP:=am (zb8 BP.out hb);replace HB:=am (below_step HB.out hb);clear hb BPc;have BPc:=zc8 BP.out;have BSc:=zc8 BS.out)
   |((with_reducible refine gate_dst (N:=6) rfl ?_);refine box_event rfl (N:=6) rfl (t:=27) (by go_simp<;>rfl) ?_;intro gr hg w6 hbox hb;have BR:=am hbox;have LR:=am (show w.heap.size<=gr from Nat.le_trans HB.out.size (Nat.le_of_eq hg.symm));have NRS:=am (show gs ≠ gr from fun he=>by have:=blk_lt BS.out;rw [<-he] at hg;omega);clear hbox hg;replace BP:=am (zb8 BP.out hb);replace BS:=am (zb8 BS.out hb);replace HB:=am (below_step HB.out hb);clear hb BPc BSc;have BPc:=zc8 BP.out;have BSc:=zc8 BS.out;have BRc:=zc8 BR.out)
   |((with_reducible refine gate_dst (N:=9) rfl ?_);refine wpList_load_mid rfl 48 (.tmp 3) rfl gp 0 rfl _ _ (lC BP.out) Try.underlying48 rfl (by kernel_rfl) ?_)
   |((with_reducible refine gate_dst (N:=10) rfl ?_);refine wpList_load_mid rfl 27 (.tmp 4) rfl gs 0 rfl _ _ (lC BS.out) Try.underlying27 rfl (by kernel_rfl) ?_)
   |(go_at_call 34;refine (sysOk_calls p _ s _ _ (kProg.K_below HB.out HPK.out) (kSys.K_below HB.out HSK.out) HPZ.out HSZ.out).mono ?_;rw [SO.out];rintro e w9 ⟨rfl,hb⟩;replace BP:=am (zb8 BP.out hb);replace BS:=am (zb8 BS.out hb);replace BR:=am (zb8 BR.out hb);replace HB:=am (below_step HB.out hb);clear hb BPc BSc BRc;have BPc:=zc8 BP.out;have BSc:=zc8 BS.out;have BRc:=zc8 BR.out)
   |((with_reducible refine gate_store (t:=27) (p:=6) rfl ?_);refine store_block rfl rfl 27 (.tmp 6) (.tmp 18) rfl rfl rfl BR.out rfl (by kernel_rfl) (aB rfl) ?_;intro wz hbox hg;have BZ:=am hbox;have HG:=am hg;have HBz:=am (pw_below_grown HB.out _ HB.out.size hg (fun z hz=>by cases hz;exact LR.out));clear hbox hg))
   exact bodyPost_ret (results_ct Try.results55 _ wz gr 27 #[.slice none 0 0,.slice none 0 0,.int .i64 0,.slice none 0 0] (0,0) _ rfl BZ.out Try.underlying27 rfl (by kernel_rfl)) rfl ⟨_,false,rfl,HBz.out,by rw [decide_eq_false hle,Bool.and_false],(fun h=>by cases h),fun _=>kSys_mk zSys (Nat.zero_le _) (C_nil _ _) (Nat.zero_le _) (C_nil _ _) (Nat.zero_le _) (C_nil _ _)⟩
end Go.Proofs.Ytimamoimphjakaa.Eq
namespace Go.Proofs.Ytimamoimphjakaa.Rd
open Go.RowKit Go.Proofs.YtimamoimphjakaaW.PrintWords
open Go.Proofs.Ytimamoimphjakaa.Eq (Deed kDeed kAct)
def IsS101 (w0 W:World) (g:Nat) (b:List Int) (q:Int):Prop:=∃ A0 c0,W.heap[g]? = some (.cells #[.slice A0 b.length c0,.int .i64 q] 101 (0,0))/\w0.heap.size<=g/\(Kd.int .u8).C w0 A0 b.length b
section
variable {w0 W W1:World} {g:Nat} {b:List Int} {q:Int}
theorem IsS101.grown {row:Option Nat} (h:IsS101 w0 W g b q) (hw:W.grownBy W1 row) (hne:some g ≠ row):IsS101 w0 W1 g b q:=by
 obtain ⟨A0,c0,h1,h2,h3⟩:=h;exact ⟨A0,c0,blk_grown h1 hw hne,h2,h3⟩
theorem IsS101.lt (h:IsS101 w0 W g b q):g < W.heap.size:=by
 obtain ⟨A0,c0,h1,h2,h3⟩:=h;exact blk_lt h1
theorem IsS101.ge (h:IsS101 w0 W g b q):w0.heap.size<=g:=by
 obtain ⟨A0,c0,h1,h2,h3⟩:=h;exact h2
theorem IsS101.ne_blk {a:Nat} {cs:Array Value} {t:TypeId} {fr:Nat × Nat} (h:IsS101 w0 W g b q) (hb2:W.heap[a]? = some (.cells cs t fr)) (ht:t ≠ 101):g ≠ a:=by
 obtain ⟨A0,c0,h1,h2,h3⟩:=h;rintro rfl;rw [h1] at hb2;injection hb2 with hb2;injection hb2 with _ ht2;exact ht ht2.symm
end
structure Code (b:List Int):Prop where
 byte:∀ i:Nat,0<=b.getD i 0/\b.getD i 0<=255
 len:b.length<=2000
theorem wrap_in {x:Int} (h0:0<=x) (h1:x<=1099511627776):wrap64 x=x:=by unfold wrap64;omega
theorem xor_nat (a b:Nat) (ha:a < 2 ^ 63) (hb:b < 2 ^ 63):Go.bits .xor .i64 (a:Int) (b:Int)=((a ^^^ b:Nat):Int):=by
 have ha':a % 2 ^ 64=a:=Nat.mod_eq_of_lt (Nat.lt_of_lt_of_le ha (by decide));have hb':b % 2 ^ 64=b:=Nat.mod_eq_of_lt (Nat.lt_of_lt_of_le hb (by decide));have hx:a ^^^ b < 2 ^ 63:=Nat.xor_lt_two_pow ha hb;simp only [Go.bits,BitVec.ofInt_natCast,BitVec.toNat_xor,BitVec.toNat_ofNat,show IntKind.i64.bits=64 from rfl,ha',hb'];rw [IntKind.wrap_i64];omega
theorem xor_pos {x y:Int} (hx:0<=x) (hx1:x<=1099511627776) (hy:0<=y) (hy1:y<=1099511627776):0<=Go.bits .xor .i64 x y:=by
 obtain ⟨a,rfl⟩:=Int.eq_ofNat_of_zero_le hx;obtain ⟨b,rfl⟩:=Int.eq_ofNat_of_zero_le hy;rw [xor_nat a b (by omega) (by omega)];exact Int.natCast_nonneg _
theorem tmod_in {x n:Int} (hx:0<=x) (hn:1<=n):0<=Int.tmod x n/\Int.tmod x n < n:=⟨Int.tmod_nonneg _ hx,Int.tmod_lt_of_pos _ (by omega)⟩
theorem tdiv_in {x n:Int} (hx:0<=x) (hn:1<=n):0<=Int.tdiv x n/\Int.tdiv x n<=x:=⟨Int.tdiv_nonneg hx (by omega),by rw [Int.tdiv_eq_ediv_of_nonneg hx];exact Int.ediv_le_self _ hx⟩
def ActIn (a:Eq.Act):Prop:=a.deeds.length<=5/\a.kids.length<=2
theorem snoc_in {P:Eq.Act->Prop} {l:List Eq.Act} {a:Eq.Act} (h:∀ x ∈ l,P x) (ha:P a):∀ x ∈ l ++ [a],P x:=by
 intro x hx;rcases List.mem_append.1 hx with hx | hx
 ·exact h x hx
 ·rw [List.mem_singleton.1 hx];exact ha
end Go.Proofs.Ytimamoimphjakaa.Rd
namespace Go.Proofs.Ytimamoimphjakaa.Eq
open Go.RowKit Go.Proofs.YtimamoimphjakaaW.PrintWords Go.Proofs.YtimamoimphjakaaW.PrintLast Go.Proofs.YtimamoimphjakaaW.PrintMore
open Go.Proofs.Ytimamoimphjakaa.Rd (IsS101 Code wrap_in)
structure Rds (w0 w:World) (g:Nat) (b:List Int) (q:Int) (W:World):Prop where
 rd:IsS101 w0 W g b q
 below:Below w0.heap.size w0 W
 keep:KeepBut w W g none
 lt:g < w.heap.size
 pos:0<=q
section
variable {w0 w W W1:World} {g:Nat} {b:List Int} {q q2:Int}
theorem Rds.start (hI:IsS101 w0 w g b q) (hB:Below w0.heap.size w0 w) (h0:0<=q):Rds w0 w g b q w:=⟨hI,hB,KeepBut.refl _ _ _,hI.lt,h0⟩
theorem Rds.blk (h:Rds w0 w g b q W):∃ cs,W.heap[g]? = some (.cells cs 101 (0,0)):=by
 obtain ⟨A0,c0,h1,-⟩:=h.rd;exact ⟨_,h1⟩
theorem Rds.low (h:Rds w0 w g b q W):w0.heap.size<=w.heap.size:=Nat.le_of_lt (Nat.lt_of_le_of_lt h.rd.ge h.lt)
theorem Rds.size (h:Rds w0 w g b q W):w.heap.size<=W.heap.size:=h.keep.1
theorem Rds.next (h:Rds w0 w g b q W) (hi:IsS101 w0 W1 g b q2) (hb:Below w0.heap.size w0 W1) (hk:KeepBut W W1 g none) (h0:0<=q2):Rds w0 w g b q2 W1:=⟨hi,hb,h.keep.trans hk (.inl rfl),h.lt,h0⟩
theorem Rds.blkK (h:Rds w0 w g b q W) (hk:KeepBut W W1 g none) {a:Nat} {cs:Array Value} {t:TypeId} (hb:W.heap[a]? = some (.cells cs t (0,0))) (ht:t ≠ 101):W1.heap[a]? = some (.cells cs t (0,0)):=hk.blk hb (Ne.symm (h.rd.ne_blk hb ht)) (by simp)
theorem Rds.rowK (h:Rds w0 w g b q W) (hk:KeepBut W W1 g none) {α:Type} {d:Kd α} {e base:Nat} {ok:Nat->Prop} {v:Value} {xs:List α} (hr:d.R e W base ok v xs) (ht:∀ q ∈ e :: d.E,q ≠ 101):d.R e W1 base ok v xs:=by
 obtain ⟨cs,hb⟩:=h.blk;exact R_keepT hr hb ht hk
theorem Rds.grown (h:Rds w0 w g b q W) {row:Option Nat} (hg:W.grownBy W1 row) (hr:∀ k,row=some k->w.heap.size<=k):Rds w0 w g b q W1:=
 ⟨h.rd.grown hg (fun he=>by have:=hr g he.symm;have:=h.lt;omega),pw_below_grown h.below row h.below.size hg (fun k hk=>Nat.le_trans h.low (hr k hk)),by
  cases row with
  | none=>exact h.keep.trans (KeepBut.of_grown hg g) (.inl rfl)
  | some k=>exact h.keep.trans (KeepBut.of_grown hg g) (.inr ⟨k,rfl,hr k rfl⟩),h.lt,h.pos⟩
theorem Rds.grow (h:Rds w0 w g b q W) (hb:Below W.heap.size W W1):Rds w0 w g b q W1:=h.grown (grown_of_below hb none) (fun _ hk=>by cases hk)
theorem Rds.row (h:Rds w0 w g b q W) {α:Type} {d:Kd α} {e:Nat} {ok:Nat->Prop} {v:Value} {xs:List α} (hr:d.R e W w.heap.size ok v xs) (hg:W.grownBy W1 v.ownBlock):Rds w0 w g b q W1:=h.grown hg (fun k hk=>Kd.R_base hr k hk)
theorem Rds.set (h:Rds w0 w g b q W) {a:Nat} (ha:w.heap.size<=a) (o:Nat) (u:Value):Rds w0 w g b q (W.setCell ⟨a,o,none⟩ u):=
 h.grown (row:=some a) ⟨rfl,rfl,rfl,by simp [World.setCell],fun k _ hne=>Below.heap_setCell W ⟨a,o,none⟩ u k (fun he=>hne (by rw [show k=a from he]))⟩ (fun k hk=>by injection hk with hk;omega)
end
theorem Rds.back {w0 w W W1:World} {g:Nat} {b:List Int} {q q2:Int} (h:Rds w0 w g b q W) (k:Rds w0 W g b q2 W1):Rds w0 w g b q2 W1:=h.next k.rd k.below k.keep k.pos
theorem drawn_sz {p:Prog} (hc:p.cells.length<=4) (hb:p.bodies.length<=4) (ha:∀ b ∈ p.bodies,b.length<=3/\∀ a ∈ b,Rd.ActIn a):ProgSz p:=
 ⟨by omega,by omega,fun b hbm=>⟨by have:=(ha b hbm).1;omega,fun a ham=>by have:=(ha b hbm).2 a ham;exact ⟨by have:=this.1;omega,by have:=this.2;omega⟩⟩⟩
end Go.Proofs.Ytimamoimphjakaa.Eq
namespace Go.Proofs.Ytimamoimphjakaa.Eq
open Go.Proofs.Ytimamoimphjakaa.Rd (IsS101 Code wrap_in tmod_in tdiv_in xor_pos)
open Go.RowKit Go.Proofs.YtimamoimphjakaaW.PrintWords Go.Proofs.YtimamoimphjakaaW.PrintLast Go.Proofs.YtimamoimphjakaaW.PrintMore
theorem one_all {cs:List Value} (h:cs.all (fun v=>v.oneCell')=true):∀ v ∈ cs,v.oneCell'=true:=by simpa using h
section
variable {w0 w W:World} {g:Nat} {b:List Int} {q:Int}
def PickPost (w0 w W:World) (g:Nat) (b:List Int) (q n:Int) (e:Ending) (W':World):Prop:=∃ (x:Nat) (q2:Int),e= .returned (.int .i64 x)/\((x:Int) < n\/x=0)/\q2=q+1/\Rds w0 w g b q2 W'/\KeepBut W W' g none
theorem pick_out {n x:Int} {W1 W':World} (hx:0<=x) (hn:x < n\/x=0) (h:Rds w0 w g b (q+1) W1) (hk:KeepBut W W1 g none) (hb:Below W1.heap.size W1 W'):PickPost w0 w W g b q n (.returned (.int .i64 x)) W':=by
 obtain ⟨m,rfl⟩:=Int.eq_ofNat_of_zero_le hx;exact ⟨m,_,rfl,by rcases hn with h | h;exact .inl h;exact .inr (by omega),rfl,h.grow hb,hk.trans (KeepBut.of_grown (grown_of_below hb none) g) (.inl rfl)⟩
theorem Rds.turn (h:Rds w0 w g b q W) (x:Int) (hx:0<=x):Rds w0 w g b x (W.setCell ⟨g,1,none⟩ (.int .i64 x))/\KeepBut W (W.setCell ⟨g,1,none⟩ (.int .i64 x)) g none:=by
 obtain ⟨A0,c0,h1,h2,h3⟩:=h.rd;have hk:KeepBut W (W.setCell ⟨g,1,none⟩ (.int .i64 x)) g none:=KeepBut.set_ (KeepBut.refl _ _ _) _ _;exact ⟨h.next ⟨A0,c0,by simpa using blk_set h1 1 (.int .i64 x),h2,h3⟩ (below_set h.below h2) hk hx,hk⟩
theorem pick_rds (h:Rds w0 w g b q W) (hc:Rd.Code b) (hq:q<=1000000) (n:Int):
  Calls Try.prog 49 #[.pointer (some ⟨g,0,none⟩),.int .i64 n] W fun e W'=>PickPost w0 w W g b q n e W':=by
 have HD:=am h;have h0:=h.pos;have HQ1:Aside0 (0<=q+1):=⟨by omega⟩;obtain ⟨A0,c0,hblk,hge,hrow⟩:=h.rd;have BK:=am hblk;have BKc:=zc8 hblk;have HR:=am hrow;have w1:wrap64 (q+1)=q+1:=wrap_in (by omega) (by omega);have w2:wrap64 q=q:=wrap_in (by omega) (by omega);have HC:=am hc;have HQ:=am hq;have H0:=am h0;clear h hblk hge hrow hc hq;have hfz:=blk_frozen BK.out 1;go_enter Try.func49,Try.ntmps49;go_upto_region 2 with (fail);obtain ⟨hd,hk⟩:=HD.out.turn (q+1) HQ1.out;have BK2:(W.setCell ⟨g,1,none⟩ (.int .i64 (q+1))).heap[g]? = some (.cells #[.slice A0 b.length c0,.int .i64 (q+1)] 101 (0,0)):=by simpa using blk_set BK.out 1 (.int .i64 (q+1))
 generalize W.setCell ⟨g,1,none⟩ (.int .i64 (q+1))=wz at hd hk BK2 ⊢;clear HD BK BKc hfz;have HD:=am hd;have HK:=am hk;have BKc:=zc8 BK2;clear hd hk BK2;by_cases hn:n < 1
 ·have y0:decide (n < 1)=true:=decide_eq_true hn
  clear hn;go_wp2;go_ret;exact pick_out (Int.le_refl 0) (.inr rfl) HD.out HK.out (Below.refl _ _)
 have y0:decide (n < 1)=false:=decide_eq_false hn;have HN:=am hn;clear hn;by_cases hz:b.length=0
 ·have y1:((b.length:Int) == 0)=true:=by simp [hz]
  clear hz;go_wp2;go_ret;exact pick_out (Int.le_refl 0) (.inr rfl) HD.out HK.out (Below.refl _ _)
 have y1:((b.length:Int) == 0)=false:=by simpa using hz
 have HZ:=am hz;clear hz;have z9:¬ n=0:=by have:=HN.out;omega
 have z0:(n == 0)=false:=beq_eq_false_iff_ne.mpr (by have:=HN.out;omega);have z1:(n != 0)=true:=bne_iff_ne.mpr (by have:=HN.out;omega);by_cases hlt:q < (b.length:Int)
 ·have y2:decide (q < (b.length:Int))=true:=decide_eq_true hlt
  obtain ⟨ad,ed,hx⟩:=Kd.at_int HR.out q h0 hlt;cases ed;obtain ⟨y,hy⟩:∃ y,y=rd b q:=⟨_,rfl⟩;rw [<-hy] at hx;have HY:Aside0 (0<=y/\y<=255):=⟨by rw [hy];exact HC.out.byte _⟩;have wy:wrap64 y=y:=wrap_in HY.out.1 (by have:=HY.out.2;omega);have p0:(0<=q)=True:=eq_true h0;have p1:(q < (b.length:Int))=True:=eq_true hlt;replace hx:=pw_cell_below HD.out.below hx;clear hy h0 hlt;go_wp2;go_ret;have ht:=tmod_in (n:=n) HY.out.1 (by have:=HN.out;omega);exact pick_out ht.1 (.inl ht.2) HD.out HK.out (Below.refl _ _)
 ·have y2:decide (q < (b.length:Int))=false:=decide_eq_false hlt
  have hl:1<=(b.length:Int):=by have:=HZ.out;omega
  have z8:¬ (b.length:Int)=0:=by omega
  have z7:¬ b= []:=fun h=>z8 (by rw [h];rfl)
  have z2:((b.length:Int) != 0)=true:=bne_iff_ne.mpr (by omega);have w7:wrap64 (q*7)=q*7:=wrap_in (by omega) (by have:=HQ.out;omega);have w73:wrap64 (q*7+3)=q*7+3:=wrap_in (by omega) (by have:=HQ.out;omega);obtain ⟨j,hj⟩:∃ j,Int.tmod q (b.length:Int)=j:=⟨_,rfl⟩;obtain ⟨k,hk⟩:∃ k,Int.tmod (q*7+3) (b.length:Int)=k:=⟨_,rfl⟩;obtain ⟨d,hd⟩:∃ d,Int.tdiv q (b.length:Int)=d:=⟨_,rfl⟩;have mj:=tmod_in h0 hl;have mk:=tmod_in (x:=q*7+3) (by omega) hl;have md:=tdiv_in h0 hl;rw [hj] at mj;rw [hk] at mk;rw [hd] at md;obtain ⟨ad,ed,hx⟩:=Kd.at_int HR.out j mj.1 mj.2;obtain ⟨ad2,ed2,hx2⟩:=Kd.at_int HR.out k mk.1 mk.2;cases ed;obtain rfl:ad=ad2:=(by injection ed2);obtain ⟨y,hy⟩:∃ y,y=rd b j:=⟨_,rfl⟩;obtain ⟨z,hz⟩:∃ z,z=rd b k:=⟨_,rfl⟩;rw [<-hy] at hx;rw [<-hz] at hx2;have hY:0<=y/\y<=255:=by rw [hy];exact HC.out.byte _
  have hZ:0<=z/\z<=255:=by rw [hz];exact HC.out.byte _
  have hQ:=HQ.out;have wy:wrap64 y=y:=wrap_in hY.1 (by omega);have wz1:wrap64 z=z:=wrap_in hZ.1 (by omega);have wd:wrap64 d=d:=wrap_in md.1 (by omega);obtain ⟨X,hX⟩:∃ X,y*131+z*1117+q*29+d*53=X:=⟨_,rfl⟩;have hX1:0<=X/\X<=1099511627776:=by omega
  have W1:wrap64 (y*131)=y*131:=wrap_in (by omega) (by omega);have W2:wrap64 (z*1117)=z*1117:=wrap_in (by omega) (by omega);have W3:wrap64 (y*131+z*1117)=y*131+z*1117:=wrap_in (by omega) (by omega);have W4:wrap64 (q*29)=q*29:=wrap_in (by omega) (by omega);have W5:wrap64 (y*131+z*1117+q*29)=y*131+z*1117+q*29:=wrap_in (by omega) (by omega);have W6:wrap64 (d*53)=d*53:=wrap_in (by omega) (by omega);have W8:wrap64 (y*131+z*1117+q*29+d*53)=X:=by rw [hX];exact wrap_in hX1.1 hX1.2
  have d2:=tdiv_in (x:=X) hX1.1 (n:=64) (by decide);have W9:wrap64 (Int.tdiv X 64)=Int.tdiv X 64:=wrap_in d2.1 (by omega);have HXX:=am (xor_pos hX1.1 hX1.2 d2.1 (by omega));have p0:(0<=j)=True:=eq_true mj.1;have p1:(j < (b.length:Int))=True:=eq_true mj.2;have p2:(0<=k)=True:=eq_true mk.1;have p3:(k < (b.length:Int))=True:=eq_true mk.2;clear hy hz h0 hlt hX hX1 d2 mj mk md hY hZ hQ ed2 hl;replace hx:=pw_cell_below HD.out.below hx;replace hx2:=pw_cell_below HD.out.below hx2;go_wp2;go_quiet (fail);rw [W8];go_wp2;go_ret;have ht:=tmod_in (n:=n) HXX.out (by have:=HN.out;omega);exact pick_out ht.1 (.inl ht.2) HD.out HK.out (pw_below_drewN (Below.refl _ _) _)
def DeedPost (w0 w W:World) (g:Nat) (b:List Int) (q:Int) (e:Ending) (W':World):Prop:=∃ (x y z q2:Int),e= .returned (.agg #[.int .i64 x,.int .i64 y,.int .i64 z])/\q<=q2/\q2<=q+3/\Rds w0 w g b q2 W'/\KeepBut W W' g none
theorem deed_rds (h:Rds w0 w g b q W) (hc:Rd.Code b) (hq:q<=900000) (n:Int):
  Calls Try.prog 119 #[.pointer (some ⟨g,0,none⟩),.int .i64 n] W fun e W'=>DeedPost w0 w W g b q e W':=by
 have HD:=am (Rds.start h.rd h.below h.pos);have HC:=am hc;have HE:=am hq;have HH:=am h;clear h hc hq;go_enter Try.func119,Try.ntmps119;by_cases hn:n=0
 ·have y0:(n == 0)=true:=by simp [hn]
  go_wp2_with (first
  |((with_reducible refine gate_dst (N:=4) rfl ?_);refine box_event rfl (N:=4) rfl (t:=111) (by go_simp<;>rfl) ?_;intro gd hg0 wn hbox hb;have BD_0:=am hbox;have LBD:=am (show W.heap.size<=gd from Nat.le_trans HD.out.size (Nat.le_of_eq hg0.symm));clear hbox hg0;replace HD:=am (HD.out.grow hb);clear hb;have BD:=BD_0;clear BD_0;have BDc:=zc8 BD.out)
  |(go_at_call 49;refine (pick_rds HD.out HC.out (by have:=HE.out;omega) _).mono ?_;rintro e wn ⟨x,_,rfl,hx,rfl,hd,hk⟩;replace BD:=am (HD.out.blkK hk BD.out (by decide));replace HD:=am (hd);clear BDc;have BDc:=zc8 BD.out;clear hk hd)
  |((with_reducible refine gate_store (t:=111) (p:=4) rfl ?_);refine store_block rfl rfl 111 (.tmp 4) _ rfl rfl rfl BD.out rfl (by kernel_rfl) (one_all rfl) ?_;intro wn hbox hg;have BF:=am hbox;replace HD:=am (HD.out.grown hg (fun k hk=>by cases hk;exact LBD.out));clear BD BDc hbox hg))
  refine bodyPost_ret (results_single Try.results119 (.cell gd 111 _ (0,0) _ rfl BF.out Try.underlying111 rfl (by kernel_rfl) .nil)) rfl ?_;exact ⟨_,_,_,_,rfl,by omega,by omega,HH.out.back HD.out,HD.out.keep⟩
 have y0:(n == 0)=false:=by simpa using hn
 go_upto_if 14 with (first
 |((with_reducible refine gate_dst (N:=4) rfl ?_);refine box_event rfl (N:=4) rfl (t:=111) (by go_simp<;>rfl) ?_;intro gd hg0 wn hbox hb;have BD_0:=am hbox;have LBD:=am (show W.heap.size<=gd from Nat.le_trans HD.out.size (Nat.le_of_eq hg0.symm));clear hbox hg0;replace HD:=am (HD.out.grow hb);clear hb;have BD:=BD_0;clear BD_0;have BDc:=zc8 BD.out)
 |(go_at_call 49;refine (pick_rds HD.out HC.out (by have:=HE.out;omega) 10).mono ?_;rintro e wn ⟨x,_,rfl,hx,rfl,hd,hk⟩;replace BD:=am (HD.out.blkK hk BD.out (by decide));replace HD:=am (hd);clear BDc;have BDc:=zc8 BD.out;clear hk hd))
 have hx9:x=0\/x=1\/x=2\/x=3\/x=4\/x=5\/x=6\/x=7\/x=8\/x=9:=by omega
 clear hx;rcases hx9 with rfl|rfl|rfl|rfl|rfl|rfl|rfl|rfl|rfl|rfl
 all_goals
  go_wp2_with (first
  |(go_at_call 49;refine (pick_rds HD.out HC.out (by have:=HE.out;omega) _).mono ?_;rintro e wn ⟨x,_,rfl,hx,rfl,hd,hk⟩;replace BD:=am (HD.out.blkK hk BD.out (by decide));replace HD:=am (hd);clear BDc;have BDc:=zc8 BD.out;clear hk hd)
  |((with_reducible refine gate_store (t:=111) (p:=4) rfl ?_);refine store_block rfl rfl 111 (.tmp 4) _ rfl rfl rfl BD.out rfl (by kernel_rfl) (one_all rfl) ?_;intro wn hbox hg;have BF:=am hbox;replace HD:=am (HD.out.grown hg (fun k hk=>by cases hk;exact LBD.out));clear BD BDc hbox hg))
  refine bodyPost_ret (results_single Try.results119 (.cell gd 111 _ (0,0) _ rfl BF.out Try.underlying111 rfl (by kernel_rfl) .nil)) rfl ?_;exact ⟨_,_,_,_,rfl,by omega,by omega,HH.out.back HD.out,HD.out.keep⟩
def DeedsPost (w0 w W:World) (g:Nat) (b:List Int) (q:Int) (e:Ending) (W':World):Prop:=∃ (v:Value) (ds:List Deed) (q2:Int),e= .returned v/\kDeed.R 111 W' W.heap.size (fun _=>True) v ds/\ds.length<=5/\q<=q2/\q2<=q+20/\Rds w0 w g b q2 W'/\KeepBut W W' g none
theorem deeds_rds (h:Rds w0 w g b q W) (hc:Rd.Code b) (hq:q<=800000) (n:Int):
  Calls Try.prog 86 #[.pointer (some ⟨g,0,none⟩),.int .i64 n] W fun e W'=>DeedsPost w0 w W g b q e W':=by
 have HD:=am (Rds.start h.rd h.below h.pos);have HC:=am hc;have HE:=am hq;have HH:=am h;clear h hc hq;go_enter Try.func86,Try.ntmps86;refine (Classical.em (0 < n)).elim (fun h0=> ?gA) (fun h0=> ?gB)
 case' gA=>
  have y0:decide (0 < n)=true:=decide_eq_true h0;clear h0
  go_upto_if 14 with (first
  |(go_at_call 49;refine (pick_rds HD.out HC.out (by have:=HE.out;omega) 3).mono ?_;rintro e wn ⟨x,_,rfl,hx,rfl,hd,hk⟩;replace HD:=am (hd);clear hk hd))
  refine (Classical.em (x=0)).elim (fun hx0=> ?gC) (fun hx0=> ?gD)
  case gC=>
   have y1:((x:Int) == 0)=true:=by simp [hx0]
   have y2:(x == 0)=true:=by simp [hx0]
   have fl:True:=trivial;clear hx hx0
   go_wp2_with (first
   |(go_at_call 49;clear fl;refine (pick_rds HD.out HC.out (by have:=HE.out;omega) n).mono ?_;rintro e wn ⟨c,_,rfl,hc,rfl,hd,hk⟩;replace HD:=am (hd);clear hk hd)
   |(go_at_call 49;refine (pick_rds HD.out HC.out (by have:=HE.out;omega) 4).mono ?_;rintro e wn ⟨y,_,rfl,hy,rfl,hd,hk⟩;replace HD:=am (hd);clear hk hd;have wy:wrap64 (1+(y:Int))=1+(y:Int):=wrap_in (by omega) (by omega))
   |((with_reducible refine gate_dst (N:=27) rfl ?_);refine Kd.R_lit kDeed (w0:=_) W.heap.size 111 rfl (N:=27) rfl (xs:=([⟨1,0,(c:Int)⟩,⟨3,1,1+(y:Int)⟩,⟨4,0,1⟩,⟨2,(c:Int),0⟩]:List Deed)) (inner:= [.int .i64 1,.int .i64 0,.int .i64 (c:Int),.int .i64 3,.int .i64 1,.int .i64 (1+(y:Int)),.int .i64 4,.int .i64 0,.int .i64 1,.int .i64 2,.int .i64 (c:Int),.int .i64 0]) (ok:=(fun _=>True)) (okp:=(fun _=>True)) (by go_simp<;>rfl) (Reps.c3 (kDeed_mkM (⟨1,0,(c:Int)⟩:Deed)) (Reps.c3 (kDeed_mkM (⟨3,1,1+(y:Int)⟩:Deed)) (Reps.c3 (kDeed_mkM (⟨4,0,1⟩:Deed)) (Reps.c3 (kDeed_mkM (⟨2,(c:Int),0⟩:Deed)) (Reps.none _ _))))) (fun _ _=>trivial) trivial (Below.refl _ _) HD.out.size (by simp) ?_;intro v1 wl hv1 hb1 hg hx9;clear hb1 hx9;obtain ⟨A,cA,ev⟩:=Kd.R_slice hv1;subst ev;have VO_0:=am hv1;clear hv1;have hb:=grown_below hg;replace HD:=am (HD.out.grow hb);clear hb;clear hg;have VO:=VO_0;clear VO_0))
   go_ret;exact ⟨_,_,_,rfl,VO.out,by simp,by omega,by omega,HH.out.back HD.out,HD.out.keep⟩
  have y1:((x:Int) == 0)=false:=by simp [hx0]
  have y2:(x == 0)=false:=by simp [hx0]
  clear hx hx0;obtain ⟨q1,hq1,HD1⟩:∃ q1,(q<=q1/\q1<=q+1)/\Aside0 (Rds w0 W g b q1 wn):=⟨_,by omega,HD⟩;clear HD
 case' gB=>
  have y0:decide (0 < n)=false:=decide_eq_false h0;clear h0;obtain ⟨q1,hq1,HD1⟩:∃ q1,(q<=q1/\q1<=q+1)/\Aside0 (Rds w0 W g b q1 W):=⟨_,by omega,HD⟩;clear HD
 all_goals
  have HD:=HD1;clear HD1;have HQ:=am hq1;have HE0:=HE;replace HE:=am (show q1<=900000 by have:=HE.out;omega);clear hq1
  go_wp2_with (first
  |((with_reducible refine gate_dst (N:=28) rfl ?_);refine Kd.R_lit kDeed (w0:=_) W.heap.size 111 rfl (N:=28) rfl (xs:=([]:List Deed)) (inner:= []) (ok:=(fun _=>True)) (okp:=(fun _=>True)) (by go_simp<;>rfl) (Reps.none _ _) (fun _ _=>trivial) trivial (Below.refl _ _) HD.out.size (by simp) ?_;intro v1 wl hv1 hb1 hg hx9;clear hb1 hx9;obtain ⟨A,cA,ev⟩:=Kd.R_slice hv1;subst ev;have VO_0:=am hv1;clear hv1;have hb:=grown_below hg;replace HD:=am (HD.out.grow hb);clear hb;clear hg;have VO:=VO_0;clear VO_0)
  |(go_at_call 49;refine (pick_rds HD.out HC.out (by have:=HE.out;omega) 5).mono ?_;rintro e wn ⟨x,_,rfl,hx,rfl,hd,hk⟩;replace VO:=am (HD.out.rowK hk VO.out (by decide));replace HD:=am (hd);clear hk hd;have bx_:x<=4:=(by omega)))
  obtain ⟨m,hm⟩:∃ m:Nat,(m:Int)=1+(x:Int):=⟨1+x,by omega⟩;rw [<-hm];have HM:=am (show m<=5 by omega);have HE2:=HQ;clear hm bx_ hx;go_loopw [6,7] (fun v j w'=>∃ (m:Nat) (q2:Int) (ds:List Deed),j= .int .i64 m/\ds.length+m<=5/\q<=q2/\q2+3*m<=q+20/\Aside0 (Rds w0 W g b q2 w')/\Aside0 (kDeed.R 111 w' W.heap.size (fun _=>True) v ds)) (fun _ j _=>(intOf j).toNat)
  case atStart=>exact ⟨m,_, [],rfl,by have:=HM.out;simp;omega,by have:=HE2.out;omega,by have:=HE2.out;have:=HM.out;omega,HD,VO⟩
  case round=>
   clear HD VO;obtain ⟨m,q2,ds,rfl,hl,hq3,hq4,HD,VO⟩:=hrel;obtain ⟨A,cA,ev⟩:=Kd.R_slice VO.out;subst ev;by_cases hm:0 < m
   ·have y3:(0:Int) < (m:Int):=by omega
    have wm:wrap64 ((m:Int) - 1)=((m - 1:Nat):Int):=by rw [wrap_in (by omega) (by omega)];omega
    replace HE:=am (show q2<=900000 by have:=HE0.out;omega);have HL:=am hl
    go_wp2_with (first
    |(go_at_call 119;refine (deed_rds HD.out HC.out HE.out n).mono ?_;rintro e wn ⟨x,y,z,q3,rfl,hq5,hq6,hd,hk⟩;replace VO:=am (HD.out.rowK hk VO.out (by decide));replace HD:=am (hd);clear hk hd)
    |((with_reducible refine gate_builtin (b:=.append) (xs:=#[.tmp 36,.tmp 40]) rfl ?_);at_builtin;refine Kd.R_append kDeed (w0:=_) W.heap.size rfl (.tmp 36) (.tmp 40) 106 111 (.agg #[.int .i64 0,.int .i64 0,.int .i64 0]) 24 rfl Try.underlying106 (by kernel_rfl) rfl (by decide) (by decide) _ ds (⟨x,y,z⟩:Deed) [.int .i64 x,.int .i64 y,.int .i64 z] (fun _=>True) (fun _=>False) rfl rfl (kDeed_mkM (⟨x,y,z⟩:Deed)) (fun _ hk=>hk.elim) (fun _ _=>trivial) VO.out (Below.refl _ _) HD.out.size (by have:=HL.out;omega) ?_;intro v1 w1 ho hb hg _;clear hb;have VO_:=am ho;replace HD:=am (HD.out.row VO.out hg);clear ho hg VO;have VO:=VO_;clear VO_))
    go_roundw
    case rel=>exact ⟨m - 1,_,ds ++ [⟨x,y,z⟩],by go_num,by rw [List.length_append];simp only [List.length_singleton];omega,by omega,by omega,HD,VO⟩
    case measure=>simp [intOf];omega
   ·have y3:¬ (0:Int) < (m:Int):=by omega
    go_wp2;go_ret;exact ⟨_,_,_,rfl,VO.out,by omega,hq3,by omega,HH.out.back HD.out,HD.out.keep⟩
def BodyPost (w0 w W:World) (g:Nat) (b:List Int) (q:Int) (e:Ending) (W':World):Prop:=∃ (v:Value) (acts:List Act) (q2:Int),e= .returned v/\kAct.R 108 W' W.heap.size (fun _=>True) v acts/\(acts.length<=3/\∀ a ∈ acts,Rd.ActIn a)/\q<=q2/\q2<=q+91/\Rds w0 w g b q2 W'/\KeepBut W W' g none
theorem body_rds (h:Rds w0 w g b q W) (hc:Rd.Code b) (hq:q<=600000) (bd bs n:Int):
  Calls Try.prog 85 #[.pointer (some ⟨g,0,none⟩),.int .i64 bd,.int .i64 bs,.int .i64 n] W fun e W'=>BodyPost w0 w W g b q e W':=by
 have HD:=am (Rds.start h.rd h.below h.pos);have HC:=am hc;have HE:=am hq;have HH:=am h;clear h hc hq;go_enter Try.func85,Try.ntmps85
 go_wp2_with (first
 |((with_reducible refine gate_dst (N:=12) rfl ?_);refine Kd.R_lit kAct (w0:=_) W.heap.size 108 rfl (N:=12) rfl (xs:=([]:List Act)) (inner:= []) (ok:=(fun _=>True)) (okp:=(fun _=>True)) (by go_simp<;>rfl) (Reps.none _ _) (fun _ _=>trivial) trivial (Below.refl _ _) HD.out.size (by simp) ?_;intro v1 wl hv1 hb1 hg hx9;clear hb1 hx9;obtain ⟨A,cA,ev⟩:=Kd.R_slice hv1;subst ev;have VO_0:=am hv1;clear hv1;have hb:=grown_below hg;replace HD:=am (HD.out.grow hb);clear hb;clear hg;have VO:=VO_0;clear VO_0)
 |(go_at_call 49;refine (pick_rds HD.out HC.out (by have:=HE.out;omega) 3).mono ?_;rintro e wn ⟨x,_,rfl,hx,rfl,hd,hk⟩;replace VO:=am (HD.out.rowK hk VO.out (by decide));replace HD:=am (hd);clear hk hd;have bx_:x<=2:=(by omega)))
 obtain ⟨m,hm⟩:∃ m:Nat,(m:Int)=1+(x:Int):=⟨1+x,by omega⟩;rw [<-hm];have HM:=am (show m<=3 by omega);have HE0:=HE;clear hm bx_ hx;go_loopw [9,10] (fun v j w'=>∃ (m:Nat) (q2:Int) (acts:List Act),j= .int .i64 m/\acts.length+m<=3/\q<=q2/\q2+30*m<=q+91/\Aside0 (∀ a ∈ acts,Rd.ActIn a)/\Aside0 (Rds w0 W g b q2 w')/\Aside0 (kAct.R 108 w' W.heap.size (fun _=>True) v acts)) (fun _ j _=>(intOf j).toNat)
 case atStart=>exact ⟨m,_, [],rfl,by have:=HM.out;simp;omega,by omega,by have:=HM.out;omega,⟨fun _ h=>by cases h⟩,HD,VO⟩
 case round=>
  clear HD VO;obtain ⟨m,q2,acts,rfl,hl,hq3,hq4,HA,HD,VO⟩:=hrel;obtain ⟨A,cA,ev⟩:=Kd.R_slice VO.out;subst ev;by_cases hm:0 < m
  ·have y3:(0:Int) < (m:Int):=by omega
   have wm:wrap64 ((m:Int) - 1)=((m - 1:Nat):Int):=by rw [wrap_in (by omega) (by omega)];omega
   replace HE:=am (show q2<=700000 by have:=HE0.out;omega);have HL:=am hl;have HM:=am hm
   go_upto_if 29 with (first
   |(go_at_call 49;refine (pick_rds HD.out HC.out (by have:=HE.out;omega) _).mono ?_;rintro e wn ⟨x,_,rfl,hx,rfl,hd,hk⟩;replace VO:=am (HD.out.rowK hk VO.out (by decide));replace HD:=am (hd);clear hk hd))
   have hx9:x=0\/x=1\/(x=2\/x=3\/x=4\/x=5)\/6<=x:=by omega
   clear hx;rcases hx9 with rfl|rfl | hx9 | h6
   ·go_upto_if 33 with (first
    |(go_at_call 49;refine (pick_rds HD.out HC.out (by have:=HE.out;omega) _).mono ?_;rintro e wn ⟨y,_,rfl,hy,rfl,hd,hk⟩;replace VO:=am (HD.out.rowK hk VO.out (by decide));replace HD:=am (hd);clear hk hd))
    by_cases hy0:y=0
    ·have y1:((y:Int) == 0)=true:=by simp [hy0]
     have y2:(y == 0)=true:=by simp [hy0]
     clear hy hy0
     go_wp2_with (first
     |((with_reducible refine gate_builtin (b:=.append) (xs:=#[.tmp 34,.tmp 36]) rfl ?_);at_builtin;refine Kd.R_append kAct (w0:=_) W.heap.size rfl (.tmp 34) (.tmp 36) 104 108 (.agg #[.int .i64 0,.slice none 0 0,.slice none 0 0,.int .i64 0]) 64 rfl Try.underlying104 (by kernel_rfl) rfl (by decide) (by decide) _ acts (⟨3, [], [],0⟩:Act) [.int .i64 3,.slice none 0 0,.slice none 0 0,.int .i64 0] (fun _=>True) (fun _=>False) rfl rfl (kAct_mkM (⟨3, [], [],0⟩:Act) (Kd.R_nil _ _ _ _ _) (Kd.R_nil _ _ _ _ _)) (fun _ hk=>hk.elim) (fun _ _=>trivial) VO.out (Below.refl _ _) HD.out.size (by have:=HL.out;omega) ?_;intro v1 w1 ho hb hg _;clear hb;have VO_:=am ho;replace HD:=am (HD.out.row VO.out hg);clear ho hg VO;have VO:=VO_;clear VO_))
     go_roundw
     case rel=>exact ⟨m - 1,_,acts ++ [⟨3, [], [],0⟩],by go_num,by rw [List.length_append];simp only [List.length_singleton];omega,by omega,by omega,⟨Rd.snoc_in HA.out ⟨by simp,by simp⟩⟩,HD,VO⟩
     case measure=>simp [intOf];omega
    ·have y1:((y:Int) == 0)=false:=by simp [hy0]
     have y2:(y == 0)=false:=by simp [hy0]
     clear hy hy0;go_wp2;go_roundw
     case rel=>exact ⟨m - 1,_,acts,by go_num,by omega,by omega,by omega,HA,HD,VO⟩
     case measure=>simp [intOf];omega
   ·go_wp2_with (first
    |(go_at_call 49;refine (pick_rds HD.out HC.out (by have:=HE.out;omega) _).mono ?_;rintro e wn ⟨y,_,rfl,hy,rfl,hd,hk⟩;replace VO:=am (HD.out.rowK hk VO.out (by decide));replace HD:=am (hd);clear hk hd)
    |((with_reducible refine gate_builtin (b:=.append) (xs:=#[.tmp 40,.tmp 44]) rfl ?_);at_builtin;refine Kd.R_append kAct (w0:=_) W.heap.size rfl (.tmp 40) (.tmp 44) 104 108 (.agg #[.int .i64 0,.slice none 0 0,.slice none 0 0,.int .i64 0]) 64 rfl Try.underlying104 (by kernel_rfl) rfl (by decide) (by decide) _ acts (⟨4, [], [],(y:Int)⟩:Act) [.int .i64 4,.slice none 0 0,.slice none 0 0,.int .i64 (y:Int)] (fun _=>True) (fun _=>False) rfl rfl (kAct_mkM (⟨4, [], [],(y:Int)⟩:Act) (Kd.R_nil _ _ _ _ _) (Kd.R_nil _ _ _ _ _)) (fun _ hk=>hk.elim) (fun _ _=>trivial) VO.out (Below.refl _ _) HD.out.size (by have:=HL.out;omega) ?_;intro v1 w1 ho hb hg _;clear hb;have VO_:=am ho;replace HD:=am (HD.out.row VO.out hg);clear ho hg VO;have VO:=VO_;clear VO_))
    go_roundw
    case rel=>exact ⟨m - 1,_,acts ++ [⟨4, [], [],(y:Int)⟩],by go_num,by rw [List.length_append];simp only [List.length_singleton];omega,by omega,by omega,⟨Rd.snoc_in HA.out ⟨by simp,by simp⟩⟩,HD,VO⟩
    case measure=>simp [intOf];omega
   ·rcases hx9 with rfl|rfl|rfl|rfl
    all_goals
     by_cases hlt:wrap64 (bd+1) < bs
     ·have y5:decide (wrap64 (bd+1) < bs)=true:=decide_eq_true hlt
      clear hlt;have fl:True:=trivial
      go_upto_if 67 with (first
      |(go_at_call 49;clear fl;refine (pick_rds HD.out HC.out (by have:=HE.out;omega) _).mono ?_;rintro e wn ⟨z,_,rfl,hz,rfl,hd,hk⟩;replace VO:=am (HD.out.rowK hk VO.out (by decide));replace HD:=am (hd);clear hk hd)
      |((with_reducible refine gate_dst (N:=64) rfl ?_);obtain ⟨z0,hz0⟩:∃ z,z=wn.heap.size:=⟨_,rfl⟩;replace VO:=am (Kd.R_mono (ok':=fun k=>k < z0) (Kd.R_bound VO.out) (fun k hk=>by rw [hz0];exact hk.2.2.1));refine Kd.R_lit (Kd.int .i64) (w0:=_) W.heap.size 3 rfl (N:=64) rfl (xs:=([wrap64 (wrap64 (bd+1)+(z:Int))]:List Int)) (inner:= [.int .i64 (wrap64 (wrap64 (bd+1)+(z:Int)))]) (ok:=(fun k=>some k ≠ (Value.slice A acts.length cA).ownBlock)) (okp:=(fun _=>False)) (by go_simp<;>rfl) (Reps.one rfl (Reps.none _ _)) (fun _ hk=>hk.elim) (fun he=>by have:=Kd.R_lt VO.out _ he.symm;omega) (Below.refl _ _) HD.out.size (by simp) ?_;intro v1 wl hv1 hb1 hg hx9;have LK:=am (show ∀ k,v1.ownBlock=some k->z0<=k from fun k hk=>by obtain ⟨b0,hb0,hle⟩:=hx9;rw [hb0] at hk;cases hk;rw [hz0];exact hle);clear hz0;clear hb1 hx9;obtain ⟨ak,ck,ev⟩:=Kd.R_slice hv1;subst ev;have VK_0:=am hv1;clear hv1;have hb:=grown_below hg;replace VO:=am (Kd.R_below VO.out hb);replace HD:=am (HD.out.grow hb);clear hb;clear hg;have VK:=VK_0;clear VK_0)
      |(go_at_call 49;refine (pick_rds HD.out HC.out (by have:=HE.out;omega) _).mono ?_;rintro e wn ⟨y,_,rfl,hy,rfl,hd,hk⟩;replace VO:=am (HD.out.rowK hk VO.out (by decide));replace VK:=am (HD.out.rowK hk VK.out (by decide));replace HD:=am (hd);clear hk hd))
      by_cases hy0:0 < y
      ·have y6:(0:Int) < (y:Int):=by omega
       clear hy
       go_wp2_with (first
       |(go_at_call 49;refine (pick_rds HD.out HC.out (by have:=HE.out;omega) _).mono ?_;rintro e wn ⟨z2,_,rfl,hz2,rfl,hd,hk⟩;replace VO:=am (HD.out.rowK hk VO.out (by decide));replace VK:=am (HD.out.rowK hk VK.out (by decide));replace HD:=am (hd);clear hk hd)
       |((with_reducible refine gate_builtin (b:=.append) (xs:=#[.tmp 68,.tmp 78]) rfl ?_);at_builtin;refine Kd.R_append (Kd.int .i64) (w0:=_) W.heap.size rfl (.tmp 68) (.tmp 78) 29 3 (.int .i64 0) 8 rfl Try.underlying29 info_int rfl (by decide) (by decide) _ [wrap64 (wrap64 (bd+1)+(z:Int))] (wrap64 (wrap64 (bd+1)+(z2:Int))) [.int .i64 (wrap64 (wrap64 (bd+1)+(z2:Int)))] (fun k=>some k ≠ (Value.slice A acts.length cA).ownBlock) (fun _=>False) rfl rfl rfl (fun _ hk=>hk.elim) (fun k hk he=>by have:=Kd.R_lt VO.out k he.symm;omega) VK.out (Below.refl _ _) HD.out.size (by simp) ?_;intro v1 w1 ho hb hg _;clear hb;have VK_:=am ho;replace HD:=am (HD.out.row VK.out hg);have VKO:=VK;have hgk:=am hg;clear ho hg VK;have VK:=VK_;clear VK_;replace VO:=am (Kd.R_mono (ok':=fun _=>True) (Kd.R_step VO.out (fun k hk hlt=>hgk.out.5 k hlt (fun he=>by have:=LK.out k he.symm;omega))) (fun _ _=>trivial));clear VKO hgk LK;obtain ⟨ak2,ck2,ev⟩:=Kd.R_slice VK.out;subst ev)
       |((with_reducible refine gate_builtin (b:=.append) (xs:=#[.tmp 80,.tmp 83]) rfl ?_);at_builtin;refine Kd.R_append kAct (w0:=_) W.heap.size rfl (.tmp 80) (.tmp 83) 104 108 (.agg #[.int .i64 0,.slice none 0 0,.slice none 0 0,.int .i64 0]) 64 rfl Try.underlying104 (by kernel_rfl) rfl (by decide) (by decide) _ acts (⟨2, [], [wrap64 (wrap64 (bd+1)+(z:Int)),wrap64 (wrap64 (bd+1)+(z2:Int))],0⟩:Act) [.int .i64 2,.slice none 0 0,.slice ak2 2 ck2,.int .i64 0] (fun _=>True) (fun k=>some k ≠ (Value.slice A acts.length cA).ownBlock) rfl rfl (kAct_mkM (⟨2, [], [wrap64 (wrap64 (bd+1)+(z:Int)),wrap64 (wrap64 (bd+1)+(z2:Int))],0⟩:Act) (Kd.R_nil _ _ _ _ _) VK.out) (fun k hk=>⟨trivial,hk⟩) (fun _ _=>trivial) VO.out (Below.refl _ _) HD.out.size (by have:=HL.out;omega) ?_;intro v1 w1 ho hb hg _;clear hb;have VO_:=am ho;replace HD:=am (HD.out.row VO.out hg);clear ho hg VO VK;have VO:=VO_;clear VO_))
       go_roundw
       case rel=>exact ⟨m - 1,_,acts ++ [⟨2, [], [wrap64 (wrap64 (bd+1)+(z:Int)),wrap64 (wrap64 (bd+1)+(z2:Int))],0⟩],by go_num,by rw [List.length_append];simp only [List.length_singleton];omega,by omega,by omega,⟨Rd.snoc_in HA.out ⟨by simp,by simp⟩⟩,HD,VO⟩
       case measure=>simp [intOf];omega
      ·have y6:¬ (0:Int) < (y:Int):=by omega
       replace VO:=am (Kd.R_mono (ok':=fun _=>True) VO.out (fun _ _=>trivial));clear hy LK
       go_wp2_with (first
       |((with_reducible refine gate_builtin (b:=.append) (xs:=#[.tmp 80,.tmp 83]) rfl ?_);at_builtin;refine Kd.R_append kAct (w0:=_) W.heap.size rfl (.tmp 80) (.tmp 83) 104 108 (.agg #[.int .i64 0,.slice none 0 0,.slice none 0 0,.int .i64 0]) 64 rfl Try.underlying104 (by kernel_rfl) rfl (by decide) (by decide) _ acts (⟨2, [], [wrap64 (wrap64 (bd+1)+(z:Int))],0⟩:Act) [.int .i64 2,.slice none 0 0,.slice ak 1 ck,.int .i64 0] (fun _=>True) (fun k=>some k ≠ (Value.slice A acts.length cA).ownBlock) rfl rfl (kAct_mkM (⟨2, [], [wrap64 (wrap64 (bd+1)+(z:Int))],0⟩:Act) (Kd.R_nil _ _ _ _ _) VK.out) (fun k hk=>⟨trivial,hk⟩) (fun _ _=>trivial) VO.out (Below.refl _ _) HD.out.size (by have:=HL.out;omega) ?_;intro v1 w1 ho hb hg _;clear hb;have VO_:=am ho;replace HD:=am (HD.out.row VO.out hg);clear ho hg VO VK;have VO:=VO_;clear VO_))
       go_roundw
       case rel=>exact ⟨m - 1,_,acts ++ [⟨2, [], [wrap64 (wrap64 (bd+1)+(z:Int))],0⟩],by go_num,by rw [List.length_append];simp only [List.length_singleton];omega,by omega,by omega,⟨Rd.snoc_in HA.out ⟨by simp,by simp⟩⟩,HD,VO⟩
       case measure=>simp [intOf];omega
     ·have y5:decide (wrap64 (bd+1) < bs)=false:=decide_eq_false hlt
      clear hlt;go_wp2;go_roundw
      case rel=>exact ⟨m - 1,_,acts,by go_num,by omega,by omega,by omega,HA,HD,VO⟩
      case measure=>simp [intOf];omega
   ·have n0:((x:Int) == 0)=false:=by simp;omega
    have n1:((x:Int) == 1)=false:=by simp;omega
    have n2:((x:Int) == 2)=false:=by simp;omega
    have n3:((x:Int) == 3)=false:=by simp;omega
    have n4:((x:Int) == 4)=false:=by simp;omega
    have n5:((x:Int) == 5)=false:=by simp;omega
    have LB:=am (Kd.R_lt VO.out);have LW:=am HD.out.size
    go_wp2_with (first
    |(go_at_call 86;refine (deeds_rds HD.out HC.out (by have:=HE.out;omega) n).mono ?_;rintro e wd ⟨v,ds,q3,rfl,hv,hds,hq5,hq6,hd,hk⟩;replace VO:=am (HD.out.rowK hk VO.out (by decide));replace HD:=am (hd);clear hk hd;obtain ⟨av,cv,ev⟩:=Kd.R_slice hv;subst ev;have VD:=am hv;have HDS:=am hds;clear hv hds)
    |((with_reducible refine gate_builtin (b:=.append) (xs:=#[.tmp 22,.tmp 27]) rfl ?_);at_builtin;refine Kd.R_append kAct (w0:=_) W.heap.size rfl (.tmp 22) (.tmp 27) 104 108 (.agg #[.int .i64 0,.slice none 0 0,.slice none 0 0,.int .i64 0]) 64 rfl Try.underlying104 (by kernel_rfl) rfl (by decide) (by decide) _ acts (⟨1,ds, [],0⟩:Act) [.int .i64 1,.slice av ds.length cv,.slice none 0 0,.int .i64 0] (fun _=>True) (fun k=>wn.heap.size<=k) rfl rfl (kAct_mkM (⟨1,ds, [],0⟩:Act) (Kd.R_lower (Kd.R_mono (Kd.R_bound VD.out) (fun k hk=>hk.2.1)) LW.out) (Kd.R_nil _ _ _ _ _)) (fun k hk=>⟨trivial,fun he=>by have:=LB.out k he.symm;omega⟩) (fun _ _=>trivial) VO.out (Below.refl _ _) HD.out.size (by have:=HL.out;omega) ?_;intro v1 w1 ho hb hg _;clear hb;have VO_:=am ho;replace HD:=am (HD.out.row VO.out hg);clear ho hg VO VD;have VO:=VO_;clear VO_))
    go_roundw
    case rel=>exact ⟨m - 1,_,acts ++ [⟨1,ds, [],0⟩],by go_num,by rw [List.length_append];simp only [List.length_singleton];omega,by omega,by omega,⟨Rd.snoc_in HA.out ⟨HDS.out,by simp⟩⟩,HD,VO⟩
    case measure=>simp [intOf];omega
  ·have y3:¬ (0:Int) < (m:Int):=by omega
   go_wp2;go_ret;exact ⟨_,_,_,rfl,VO.out,⟨by omega,HA.out⟩,hq3,by omega,HH.out.back HD.out,HD.out.keep⟩
def TurnsPost (w0 w W:World) (g:Nat) (b:List Int) (q:Int) (e:Ending) (W':World):Prop:=∃ (v:Value) (ks:List Int) (q2:Int),e= .returned v/\(Kd.int .i64).R 3 W' W.heap.size (fun _=>True) v ks/\ks.length<=200/\q<=q2/\q2<=q+1000/\Rds w0 w g b q2 W'/\KeepBut W W' g none
def lenOf:Value->Nat
 | .slice _ n _=>n
 | _=>0
theorem turns_rds (h:Rds w0 w g b q W) (hc:Rd.Code b) (hq:q<=600000) {n:Int} (hn0:0<=n) (hn1:n<=190):
  Calls Try.prog 118 #[.pointer (some ⟨g,0,none⟩),.int .i64 n] W fun e W'=>TurnsPost w0 w W g b q e W':=by
 have HD:=am (Rds.start h.rd h.below h.pos);have HC:=am hc;have HE:=am hq;have HH:=am h;clear h hc hq;have N0:=am hn0;have N1:=am hn1;clear hn0 hn1;go_enter Try.func118,Try.ntmps118
 go_wp2_with (first
 |((with_reducible refine gate_dst (N:=8) rfl ?_);refine Kd.R_lit (Kd.int .i64) (w0:=_) W.heap.size 3 rfl (N:=8) rfl (xs:=([]:List Int)) (inner:= []) (ok:=(fun _=>True)) (okp:=(fun _=>True)) (by go_simp<;>rfl) (Reps.none _ _) (fun _ _=>trivial) trivial (Below.refl _ _) HD.out.size (by simp) ?_;intro v1 wl hv1 hb1 hg hx9;clear hb1 hx9;obtain ⟨A,cA,ev⟩:=Kd.R_slice hv1;subst ev;have VO_0:=am hv1;clear hv1;have hb:=grown_below hg;replace HD:=am (HD.out.grow hb);clear hb;clear hg;have VO:=VO_0;clear VO_0))
 have HE0:=HE;go_loopw [5] (fun v w'=>∃ (q2:Int) (ks:List Int),(ks.length:Int)<=n+4/\q<=q2/\q2<=q+3*ks.length/\Aside0 (Rds w0 W g b q2 w')/\Aside0 ((Kd.int .i64).R 3 w' W.heap.size (fun _=>True) v ks)) (fun v _=>(n+5).toNat - lenOf v)
 case atStart=>exact ⟨_, [],by have:=N0.out;simp;omega,by omega,by simp,HD,VO⟩
 case round=>
  clear HD VO;obtain ⟨q2,ks,hl,hq3,hq4,HD,VO⟩:=hrel;obtain ⟨A,cA,ev⟩:=Kd.R_slice VO.out;subst ev;have HL:=am hl;have HQ3:=am hq3;have HQ4:=am hq4;replace HE:=am (show q2<=700000 by have:=HE0.out;have:=N1.out;omega);clear hl hq3 hq4;by_cases hlt:(ks.length:Int) < n
  ·have HLT:=am hlt
   have fl:True:=trivial
   go_wp2_with (first
   |(go_at_call 49;clear fl;refine (pick_rds HD.out HC.out (by have:=HE.out;omega) _).mono ?_;rintro e wn ⟨t,_,rfl,ht,rfl,hd,hk⟩;replace VO:=am (HD.out.rowK hk VO.out (by decide));replace HD:=am (hd);clear hk hd)
   |(go_at_call 49;refine (pick_rds HD.out HC.out (by have:=HE.out;omega) 5).mono ?_;rintro e wn ⟨x,_,rfl,hx,rfl,hd,hk⟩;replace VO:=am (HD.out.rowK hk VO.out (by decide));replace HD:=am (hd);clear hk hd;have bx_:x<=4:=(by omega)))
   obtain ⟨m,hm⟩:∃ m:Nat,(m:Int)=1+(x:Int):=⟨1+x,by omega⟩;rw [<-hm];have HM:=am (show 1<=m/\m<=5 by omega);clear hm bx_ hx ht hlt;go_loopw [5,7] (fun v j w'=>∃ (m2:Nat) (ks2:List Int),j= .int .i64 m2/\ks2.length+m2=ks.length+m/\Aside0 (Rds w0 W g b (q2+1+1) w')/\Aside0 ((Kd.int .i64).R 3 w' W.heap.size (fun _=>True) v ks2)) (fun _ j _=>(intOf j).toNat)
   case atStart=>exact ⟨m,ks,rfl,rfl,HD,VO⟩
   case round=>
    clear HD VO;obtain ⟨m2,ks2,rfl,hl2,HD,VO⟩:=hrel;obtain ⟨A2,cA2,ev⟩:=Kd.R_slice VO.out;subst ev;have HL2:=am hl2;by_cases hm:0 < m2
    ·have y3:(0:Int) < (m2:Int):=by omega
     have wm:wrap64 ((m2:Int) - 1)=((m2 - 1:Nat):Int):=by rw [wrap_in (by omega) (by have:=HM.out;have:=HL.out;have:=N1.out;omega)];omega
     go_wp2_with (first
     |((with_reducible refine gate_builtin (b:=.append) (xs:=#[.tmp 22,.tmp 24]) rfl ?_);at_builtin;refine Kd.R_append (Kd.int .i64) (w0:=_) W.heap.size rfl (.tmp 22) (.tmp 24) 29 3 (.int .i64 0) 8 rfl Try.underlying29 info_int rfl (by decide) (by decide) _ ks2 (t:Int) [.int .i64 (t:Int)] (fun _=>True) (fun _=>False) rfl rfl rfl (fun _ hk=>hk.elim) (fun _ _=>trivial) VO.out (Below.refl _ _) HD.out.size (by have:=HL2.out;have:=HL.out;have:=HM.out;have:=N1.out;omega) ?_;intro v1 w1 ho hb hg _;clear hb;have VO_:=am ho;replace HD:=am (HD.out.row VO.out hg);clear ho hg VO;have VO:=VO_;clear VO_))
     go_roundw
     case rel=>exact ⟨m2 - 1,ks2 ++ [(t:Int)],by go_num,by rw [List.length_append];simp only [List.length_singleton];omega,HD,VO⟩
     case measure=>simp [intOf];omega
    ·have y3:¬ (0:Int) < (m2:Int):=by omega
     have HM2:=am (show m2=0 by omega);clear hl2
     go_upto_if 28 with (first
     |(go_at_call 49;refine (pick_rds HD.out HC.out (by have:=HE.out;omega) 40).mono ?_;rintro e wn ⟨x,_,rfl,hx,rfl,hd,hk⟩;replace VO:=am (HD.out.rowK hk VO.out (by decide));replace HD:=am (hd);clear hk hd))
     have hb2:(ks2.length:Int)=ks.length+m:=by have:=HL2.out;have:=HM2.out;omega
     have b1:=HM.out;have b2:=HL.out;have b3:=HLT.out;have b4:=HQ3.out;have b5:=HQ4.out;have b6:=N1.out;have HB:=am (show ks2.length<=200/\(ks2.length:Int)<=n+4/\q<=q2+1+1+1/\q2+1+1+1<=q+3*ks2.length/\ks.length < ks2.length/\(ks.length:Int) < n by omega);clear hb2 b1 b2 b3 b4 b5 b6 hx;by_cases hx0:x=0
     ·have y1:((x:Int) == 0)=true:=by simp [hx0]
      have y2:(x == 0)=true:=by simp [hx0]
      clear hx0;go_wp2;go_ret;exact ⟨_,_,_,rfl,VO.out,HB.out.1,HB.out.2.2.1,by have:=HB.out;omega,HH.out.back HD.out,HD.out.keep⟩
     ·have y1:((x:Int) == 0)=false:=by simp [hx0]
      have y2:(x == 0)=false:=by simp [hx0]
      clear hx0;go_wp2;go_roundw
      case rel=>exact ⟨_,ks2,HB.out.2.1,HB.out.2.2.1,HB.out.2.2.2.1,HD,VO⟩
      case measure=>have:=HB.out;simp [lenOf];omega
  ·have hle:n<=(ks.length:Int):=by omega
   obtain ⟨i0,hi0,_,hsz,_⟩:=info_parts info_int;have hcut:=cut_to (P:=Try.prog) 29 3 .i64 Try.underlying29 hi0 A ks.length cA n N0.out hle (Kd.R_reads' VO.out).2.1;have hr:=Kd.R_take (m:=n.toNat) VO.out (by omega);obtain ⟨ys,hys⟩:∃ ys,ys=ks.take n.toNat:=⟨_,rfl⟩;have hyl:ys.length=n.toNat:=by rw [hys,List.length_take];omega
   rw [<-hys] at hr;rw [<-hyl] at hr hcut;have p0:(0<=n)=True:=eq_true N0.out;have p1:(n<=(ks.length:Int))=True:=eq_true hle;have VT:=am hr;have HB:=am (show ys.length<=200/\q2<=q+1000 by have:=N1.out;have:=HL.out;have:=HQ4.out;omega);clear hr VO hys hi0 hsz hle hyl;go_wp2;go_ret;exact ⟨_,ys,_,rfl,VT.out,HB.out.1,HQ3.out,HB.out.2,HH.out.back HD.out,HD.out.keep⟩
end
theorem info_u8:(Try.prog.info? 5).map (fun i=>(i.zero,i.size,i.bytes))=some (some (.int .u8 0),1,1):=by kernel_rfl
theorem open_rds (A:Option Addr) (c:Nat) (l:List Int) (w:World) (hC:(Kd.int .u8).C w A l.length l) (hc:l.length<=c) (hb:∀ i:Nat,0<=l.getD i 0/\l.getD i 0<=255):
  Calls Try.prog 47 #[.slice A l.length c] w fun e w'=>∃ g b,e= .returned (.pointer (some ⟨g,0,none⟩))/\Rd.IsS101 w w' g b 0/\Rd.Code b/\Below w.heap.size w w':=by
 have HC:=am hC;have HY:=am hb;go_enter Try.func47,Try.ntmps47;by_cases h:(l.length:Int) > 2000
 ·have y0:decide (2000 < (l.length:Int))=true:=decide_eq_true h
  have y1:decide (2000 < l.length)=true:=decide_eq_true (by omega);obtain ⟨i0,hi0,_,hsz,_⟩:=info_parts info_u8;obtain ⟨hcut,hA,hC4⟩:=print_take_of (P:=Try.prog) (Value.int .u8) 0 22 5 .i64 Try.underlying22 hi0 hsz A c l 2000 (by omega) (by omega) hc;have HR:=am (Kd.C_of_reads (h1:=fun _=>rfl) (hA _ (Kd.reads_of_C HC.out)))
  have p1:(2000<=(l.length:Int))=True:=eq_true (by omega);clear hA hC4 hi0 hsz hb h hC
  go_wp2_with (first
  |((with_reducible refine gate_dst (N:=10) rfl ?_);refine box_event rfl (N:=10) rfl (cs:=(#[.slice A (l.take 2000).length c,.int .i64 0])) (t:=101) (by go_simp<;>rfl) ?_;intro gb hg0 wn hbox hb9;have BK:=am hbox;have HB:=am hb9;have GE:=am (Nat.le_of_eq hg0.symm);clear hbox hg0 hb9))
  go_ret;refine ⟨gb,_,rfl,⟨_,_,BK.out,GE.out,HR.out⟩,⟨fun i=> ?_,by rw [List.length_take];omega⟩,HB.out⟩;by_cases hi:i < 2000
  ·rw [show (l.take 2000).getD i 0=l.getD i 0 by simp [List.getD_eq_getElem?_getD,List.getElem?_take,hi]]
   exact HY.out i
  ·rw [show (l.take 2000).getD i 0=0 by simp [List.getD_eq_getElem?_getD,List.getElem?_take,hi]]
   omega
 ·have y0:decide (2000 < (l.length:Int))=false:=decide_eq_false h
  have y1:decide (2000 < l.length)=false:=decide_eq_false (by omega);have HLL:=am (show l.length<=2000 by omega);clear hC hb h
  go_wp2_with (first
  |((with_reducible refine gate_dst (N:=10) rfl ?_);refine box_event rfl (N:=10) rfl (cs:=(#[.slice A l.length c,.int .i64 0])) (t:=101) (by go_simp<;>rfl) ?_;intro gb hg0 wn hbox hb9;have BK:=am hbox;have HB:=am hb9;have GE:=am (Nat.le_of_eq hg0.symm);clear hbox hg0 hb9))
  go_ret;exact ⟨gb,l,rfl,⟨_,_,BK.out,GE.out,HC.out⟩,⟨HY.out,HLL.out⟩,HB.out⟩
end Go.Proofs.Ytimamoimphjakaa.Eq
namespace Go.Proofs.Ytimamoimphjakaa.Eq
open Go.RowKit Go.Proofs.YtimamoimphjakaaW.PrintWords Go.Proofs.YtimamoimphjakaaW.PrintLast Go.Proofs.YtimamoimphjakaaW.PrintMore
theorem lit_ok:progOk (⟨[1], [[(⟨2, [], [1,1],0⟩:Act)], [(⟨1, [⟨1,0,0⟩,⟨4,0,0⟩,⟨2,0,0⟩], [],0⟩:Act)]]⟩:Prog)=true:=by rfl
theorem lit_sz:ProgSz (⟨[1], [[(⟨2, [], [1,1],0⟩:Act)], [(⟨1, [⟨1,0,0⟩,⟨4,0,0⟩,⟨2,0,0⟩], [],0⟩:Act)]]⟩:Prog):=drawn_sz (by decide) (by decide) (by simp [Rd.ActIn])
theorem wrap_succ {m n:Nat} (h:m < n) (hn:n<=10):wrap64 ((m:Int)+1)=(m:Int)+1:=Rd.wrap_in (by omega) (by omega)
theorem meas1 {n m:Nat} (h:m < n):n - (intOf (.int .i64 ((m:Int)+1))).toNat < n - (intOf (.int .i64 (m:Int))).toNat:=by simp [intOf];omega
theorem meas2 {n m:Nat} (h:m < n) (hw:wrap64 ((m:Int)+1)=(m:Int)+1):n - (intOf (.int .i64 (wrap64 ((m:Int)+1)))).toNat < n - (intOf (.int .i64 (m:Int))).toNat:=by rw [hw];exact meas1 h
section
variable {P:Program} {a:Go.Act} {oi:Oper} {Q:Exit->Go.Act->World->Prop}
theorem lit1_ {N:Option Tmp} {w:World} {e:TypeId} {c:Value} {K:Go.Act->World->Prop} {ys:Nat->Option Bool} (hw:Region.wanted oi ys=true) (hN:oi.dst=N) (hrun:(execOp a.eval oi).run P w= .ok (.value (.slice (some ⟨w.heap.size,0,none⟩) 1 1)) (w.alloc (.cells #[c] e (0,0))))
  (h:K (a.put N (.slice (some ⟨w.heap.size,0,none⟩) 1 1)) (w.alloc (.cells #[c] e (0,0)))):if Region.wanted oi ys=true then Oper.wp P oi a w K Q else K (a.put N undef) w:=by
 rw [if_pos hw];subst hN;unfold Oper.wp;rw [hrun];exact h
end
def ProgPost (w0 w:World) (g:Nat) (b:List Int) (q0:Int) (e:Ending) (w':World):Prop:=∃ (p:Prog) (vc vb:Value) (q:Int),e= .returned (.agg #[vc,vb])/\progOk p=true/\ProgSz p/\1<=p.cells.length/\(Kd.int .i64).R 3 w' w.heap.size (fun _=>True) vc p.cells/\(Kd.slice 108 kAct).R 104 w' w.heap.size (fun _=>True) vb p.bodies/\Rd.IsS101 w0 w' g b q/\q0<=q/\q<=q0+5000/\Below w0.heap.size w0 w'/\KeepBut w w' g none
theorem l71Prog_calls (w0 w:World) (g:Nat) (b:List Int) (q0:Int) (hI:Rd.IsS101 w0 w g b q0) (hB:Below w0.heap.size w0 w) (hc:Rd.Code b) (h0:0<=q0) (h1:q0<=500000):
  Calls Try.prog 53 #[.pointer (some ⟨g,0,none⟩)] w fun e w'=>ProgPost w0 w g b q0 e w':=by
 have HD:=am (Rds.start hI hB h0);have HC:=am hc;have HQ0:=am h1;clear hI hB hc h0 h1;go_enter Try.func53,Try.ntmps53
 go_wp2_with (first
 |((with_reducible refine gate_dst (N:=2) rfl ?_);refine box_event rfl (N:=2) rfl (t:=48) (by go_simp<;>rfl) ?_;intro gz hg0 wn hbox hb;have BZ_0:=am hbox;have LBZ:=am (show w.heap.size<=gz from Nat.le_trans HD.out.size (Nat.le_of_eq hg0.symm));clear hbox hg0;replace HD:=am (HD.out.grow hb);clear hb;have BZ:=BZ_0;clear BZ_0;have BZc:=zc8 BZ.out))
 go_loopw [3] (fun j w'=>∃ i:Nat,i<=10/\j= .int .i64 i/\∃ q,Aside0 (Rds w0 w g b q w')/\Aside0 (q0<=q/\q<=q0+420*(i:Int))/\Aside0 (w'.heap[gz]? = some (.cells #[.slice none 0 0,.slice none 0 0] 48 (0,0)))) (fun j _=>10 - (intOf j).toNat)
 case atStart=>exact ⟨0,by decide,rfl,_,HD,⟨by omega⟩,BZ⟩
 case round=>
  clear HD BZ BZc;obtain ⟨i,hi,rfl,q,HD,HQ,BZ⟩:=hrel;have BZc:=zc8 BZ.out;by_cases hlt:i < 10
  ·have q1:(i:Int) < 10:=by omega
   go_wp2_with (first
   |((with_reducible refine gate_dst (N:=13) rfl ?_);refine Kd.R_lit (Kd.int .i64) (w0:=_) w.heap.size 3 rfl (N:=13) rfl (xs:=([]:List Int)) (inner:= []) (ok:=(fun _=>True)) (okp:=(fun _=>True)) (by go_simp<;>rfl) (Reps.none _ _) (fun _ _=>trivial) trivial (Below.refl _ _) HD.out.size (by simp) ?_;intro v1 wl hv1 hb1 hg hx9;clear hb1 hx9;obtain ⟨a0,c0,ev⟩:=Kd.R_slice hv1;subst ev;have VC_0:=am (show (Kd.int .i64).R 3 wl w.heap.size (fun _=>True) (.slice a0 0 c0) ([]:List Int) from hv1);clear hv1;have hb:=grown_below hg;replace BZ:=am (zb8 BZ.out hb);replace HD:=am (HD.out.grow hb);clear BZc;have BZc:=zc8 BZ.out;clear hb hg;have VC:=VC_0;clear VC_0)
   |((with_reducible refine gate_dst (N:=4) rfl ?_);refine box_event rfl (N:=4) rfl (t:=48) (by go_simp<;>rfl) ?_;intro gq hg0 wn hbox hb;have BQ_0:=am hbox;have LBQ:=am (show w.heap.size<=gq from Nat.le_trans HD.out.size (Nat.le_of_eq hg0.symm));have NZQ:=am (show gz ≠ gq from fun he=>by have:=blk_lt BZ.out;omega);clear hbox hg0;replace VC:=am (Kd.R_below VC.out hb);replace BZ:=am (zb8 BZ.out hb);replace HD:=am (HD.out.grow hb);clear BZc;have BZc:=zc8 BZ.out;clear hb;have BQ:=BQ_0;clear BQ_0;have BQc:=zc8 BQ.out)
   |((with_reducible refine gate_store (t:=48) (p:=4) rfl ?_);refine store_block rfl rfl 48 (.tmp 4) (.tmp 14) rfl rfl rfl BQ.out rfl (by kernel_rfl) (aB rfl) ?_;intro wn hbox hg;have BQ_0:=am hbox;replace VC:=am (R_grownT VC.out BQ.out (by decide) hg);replace BZ:=am (blk_grown BZ.out hg (fun he=>NZQ.out (by injection he)));replace HD:=am (HD.out.grown hg (fun k hk=>by cases hk;exact LBQ.out));clear BQ BQc BZc;have BZc:=zc8 BZ.out;have BQ:=BQ_0;clear BQ_0 hbox hg;have BQc:=zc8 BQ.out)
   |(go_at_call 49;refine (pick_rds HD.out HC.out (by have:=HQ.out;have:=HQ0.out;(try have:=HNX.out);(try have:=HNB.out);omega) 3).mono ?_;rintro e wn ⟨x,q2,rfl,hx,hq2,hd,hk⟩;replace HQ:=am (show q0<=q2/\q2<=q0+420*(i:Int)+2 from by have:=HQ.out;(try have:=HNX.out);(try have:=HNB.out);omega);clear hq2;replace VC:=am (HD.out.rowK hk VC.out (by decide));replace BZ:=am (HD.out.blkK hk BZ.out (by decide));replace BQ:=am (HD.out.blkK hk BQ.out (by decide));replace HD:=am (hd);clear BZc BQc;have BZc:=zc8 BZ.out;have BQc:=zc8 BQ.out;clear hk hd;have bx_:x<=2:=by omega))
   obtain ⟨nx,hnx⟩:∃ y:Nat,(y:Int)=1+(x:Int):=⟨1+x,by omega⟩;rw [<-hnx];have HNX:Aside0 (1<=nx/\nx<=3):=⟨by omega⟩;clear hx hnx bx_;go_loopw [6] (fun j w'=>∃ m:Nat,m<=nx/\j= .int .i64 m/\∃ q vc cs,Aside0 (Rds w0 w g b q w')/\Aside0 (q0<=q/\q<=q0+420*(i:Int)+2+(m:Int))/\Aside0 ((Kd.int .i64).R 3 w' w.heap.size (fun _=>True) vc cs)/\Aside0 (cs.length=m)/\Aside0 (w'.heap[gq]? = some (.cells #[vc,.slice none 0 0] 48 (0,0)))/\Aside0 (w'.heap[gz]? = some (.cells #[.slice none 0 0,.slice none 0 0] 48 (0,0)))) (fun j _=>nx - (intOf j).toNat)
   case atStart=>exact ⟨0,Nat.zero_le _,rfl,_,_, [],HD,⟨by have:=HQ.out;omega⟩,VC,⟨rfl⟩,BQ,BZ⟩
   case round=>
    clear HD HQ VC BQ BZ BQc BZc;clear q;obtain ⟨m,hm,rfl,q,vc,cs,HD,HQ,VC,HLC,BQ,BZ⟩:=hrel;obtain ⟨A,cA,ev⟩:=Kd.R_slice VC.out;subst ev;obtain ⟨lk,hlk⟩:∃ z:Nat,z=cs.length:=⟨_,rfl⟩;rw [<-hlk] at VC BQ;have LK:=am hlk;clear hlk;have BZc:=zc8 BZ.out;have BQc:=zc8 BQ.out;by_cases hlm:m < nx
    ·have q2:(m:Int) < (nx:Int):=by omega
     go_wp2;refine st9 (n:=11) (S:=fun W=>W.heap[gq]? = some (.cells #[.slice A lk cA,.slice none 0 0] 48 (0,0))) (ds:= [9,10]) (by kernel_rfl) rfl (by exact blk_drew BQ.out) (fun hHeld=> ?_);have hb:=below_drew (Below.refl wr.heap.size wr);generalize wr.drew=w7 at hb hHeld ⊢;replace VC:=am (Kd.R_below VC.out hb);replace BZ:=am (zb8 BZ.out hb);replace BQ:=am (zb8 BQ.out hb);replace HD:=am (HD.out.grow hb);clear BZc BQc;have BZc:=zc8 BZ.out;have BQc:=zc8 BQ.out;clear hb;refine ba9 (fuel:=8) (n:=3) [0,1,3] (by kernel_rfl) (fun N _ _ _ _ h=>by cases N <;> exact h) hHeld ?_
     iterate 3 (
      refine stillS_step (v:= ?_) (a':= ?_) rfl (Or.inl ⟨by rfl, ?_⟩) ?_ ?_;rotate_left
      ·intro W s0
       have t0:=zc8 s0;clear s0;go_simp;with_reducible rfl
      rotate_left
      ·simp only [Act.put,sA,sZ,sS,i64_w]
       rfl)
     refine stillS_nil ?_;refine tw9 (i:=2) (j:=4) (Ni:=some 25) (Nj:=some 27) rfl rfl rfl rfl (by kernel_rfl) (by decide) (by decide) (fun K hK=> ?_) (fun K hK=> ?_)
     ·refine Kd.R_lit_step (w0:=_) (Kd.int .i64) w.heap.size 3 (by rfl) (N:=25) rfl (xs:=([0,0,1,5,99]:List Int)) (inner:= [.int .i64 0,.int .i64 0,.int .i64 1,.int .i64 5,.int .i64 99]) (ok:=(fun _=>True)) (okp:=(fun _=>True)) (by go_simp<;>rfl) (Reps.one rfl (Reps.one rfl (Reps.one rfl (Reps.one rfl (Reps.one rfl (Reps.none _ _)))))) (fun _ _=>trivial) trivial (Below.refl _ _) HD.out.size (by simp) ?_
      intro v1 wl hv1 hb1 hg hx9;clear hb1 hx9;obtain ⟨a5,c5,ev⟩:=Kd.R_slice hv1;subst ev;have V5_0:=am (show (Kd.int .i64).R 3 wl w.heap.size (fun _=>True) (.slice a5 5 c5) ([0,0,1,5,99]:List Int) from hv1);refine hK.out _ _ (zb8 hHeld (grown_below hg)) (fun hHeld=> ?_);clear hK K;refine norm_ (a':= ?_) ?_ ?_;rotate_left
      ·show Act.put _ (some 25) _=_
       simp only [Act.put,sA,sZ,sS,i64_w];rfl
      clear hv1;have hb:=grown_below hg;replace VC:=am (Kd.R_below VC.out hb);replace BZ:=am (zb8 BZ.out hb);replace BQ:=am (zb8 BQ.out hb);replace HD:=am (HD.out.grow hb);clear BZc BQc;have BZc:=zc8 BZ.out;have BQc:=zc8 BQ.out;clear hb hg;have V5:=V5_0;clear V5_0;refine on9 (i:=4) (N:=some 27) rfl rfl (by kernel_rfl) (by decide) (fun K hK=> ?_);refine goes_ Try.func49 (by kernel_rfl) rfl #[.pointer (some ⟨g,0,none⟩),.int .i64 5] (by rfl) rfl rfl (by (try simp only [List.map_toArray,List.map_cons,List.map_nil]);first | done | rfl) ?_;refine (pick_rds HD.out HC.out (by have:=HQ.out;have:=HQ0.out;have:=HNX.out;omega) 5).mono ?_;rintro e wn ⟨x,q2,rfl,hx,hq2,hd,hk⟩;refine ⟨_,rfl, ?_⟩;refine hK.out _ _ (HD.out.blkK hk hHeld (by decide)) (fun hHeld=> ?_);clear hK K;refine norm_ (a':= ?_) ?_ ?_;rotate_left
      ·show Act.put _ (some 27) _=_
       simp only [Act.put,sA,sZ,sS,i64_w];rfl
      replace HQ:=am (show q0<=q2/\q2<=q0+420*(i:Int)+3+(m:Int) from by have:=HQ.out;(try have:=HNX.out);(try have:=HNB.out);omega);clear hq2;replace VC:=am (HD.out.rowK hk VC.out (by decide));replace V5:=am (HD.out.rowK hk V5.out (by decide));replace BZ:=am (HD.out.blkK hk BZ.out (by decide));replace BQ:=am (HD.out.blkK hk BQ.out (by decide));replace HD:=am (hd);clear BZc BQc;have BZc:=zc8 BZ.out;have BQc:=zc8 BQ.out;clear hk hd;have hx5:(x:Int) < 5:=by omega
      have hx0:(0:Int)<=(x:Int):=by omega
      obtain ⟨g5,k5,ev5,-⟩:=Kd.R_form V5.out (by decide);injection ev5 with ev5 ev6 ev7;subst ev5;obtain ⟨y,cy⟩:∃ y:Int,wn.cell? ⟨g5,x,none⟩=some (.int .i64 y):=⟨_,by have h:=Kd.R_celln 0 V5.out (x:Int) hx0 hx5;rw [Int.toNat_natCast] at h;exact h.1⟩;clear ev6 ev7;refine on9 (i:=5) (N:=some 28) rfl rfl (by kernel_rfl) (by decide) (fun K hK=> ?_);refine value_ (v:=.pointer (some ⟨g5,x,none⟩)) (w1:=wn) (by rfl) rfl (by go_simp<;>rfl) ?_;refine hK.out _ _ (hHeld) (fun hHeld=> ?_);clear hK K;refine norm_ (a':= ?_) ?_ ?_;rotate_left
      ·show Act.put _ (some 28) _=_
       simp only [Act.put,sA,sZ,sS,i64_w];rfl
      refine on9 (i:=6) (N:=some 29) rfl rfl (by kernel_rfl) (by decide) (fun K hK=> ?_);refine value_ (v:=.int .i64 y) (w1:=wn) (by rfl) rfl (by go_simp<;>rfl) ?_;refine hK.out _ _ (hHeld) (fun hHeld=> ?_);clear hK K;refine norm_ (a':= ?_) ?_ ?_;rotate_left
      ·show Act.put _ (some 29) _=_
       simp only [Act.put,sA,sZ,sS,i64_w];rfl
      clear cy;refine on9 (i:=7) (N:=some 30) rfl rfl (by kernel_rfl) (by decide) (fun K hK=> ?_);refine lit1_ (e:=3) (c:=.int .i64 y) (by rfl) rfl (by go_simp<;>rfl) ?_;have hHeld0:=hHeld;refine hK.out _ _ (blk_alloc hHeld _) (fun hHeld=> ?_);clear hK K;refine norm_ (a':= ?_) ?_ ?_;rotate_left
      ·show Act.put _ (some 30) _=_
       simp only [Act.put,sA,sZ,sS,i64_w];rfl
      refine on9 (i:=8) (N:=some 31) rfl rfl (by kernel_rfl) (by decide) (fun K hK=> ?_);refine Kd.R_append_step (Kd.int .i64) (w0:=_) w.heap.size (by rfl) (.tmp 24) (.tmp 30) 29 3 (.int .i64 0) 8 rfl Try.underlying29 info_int rfl (by decide) (by decide) (.slice A lk cA) cs y [.int .i64 y] (fun _=>True) (fun _=>False) rfl rfl rfl (fun _ hk=>hk.elim) (fun _ _=>trivial) VC.out (Below.refl _ _) HD.out.size (by have:=HLC.out;have:=HNX.out;omega) ?_;intro v1 w6 hv1 hb6 hg hat6;clear hb6 hat6;have hgq:some gq ≠ (Value.slice A lk cA).ownBlock:=fun he=>Kd.R_ne VC.out BQ.out (by decide) he
      have hgz:some gz ≠ (Value.slice A lk cA).ownBlock:=fun he=>Kd.R_ne VC.out BZ.out (by decide) he
      refine hK.out _ _ (blk_grown hHeld0 hg hgq) (fun hHeld=> ?_);clear hK K;refine norm_ (a':= ?_) ?_ ?_;rotate_left
      ·show Act.put _ (some 31) _=_
       simp only [Act.put,sA,sZ,sS,i64_w];rfl
      have VN:=am hv1;replace BQ:=am (blk_grown BQ.out hg hgq);replace BZ:=am (blk_grown BZ.out hg hgz);replace HD:=am (HD.out.row VC.out hg);clear hHeld hHeld0 hv1 hg hgq hgz VC V5 BQc BZc;have BQc:=zc8 BQ.out;refine tail_ (fuel:=2) 9 (by kernel_rfl) ?_;simp only [List.drop_succ_cons,List.drop_zero]
      go_wp2_with (first
      |((with_reducible refine gate_store (t:=29) (p:=32) rfl ?_);refine set_ev (u:=v1) rfl rfl _ _ rfl (g:=gq) (off:=0) rfl rfl (R_cells VN.out) (R_oneCell VN.out) (by kernel_rfl) ⟨⟨_,by rw [zc8 BQ.out];rfl⟩,blk_frozen BQ.out _⟩ ?_;intro wz hwn;have BQ_0:=am (show wz.heap[gq]? = some (.cells #[v1,.slice none 0 0] 48 (0,0)) by rw [hwn];exact blk_set BQ.out 0 v1);replace BZ:=am (show wz.heap[gz]? = some (.cells #[.slice none 0 0,.slice none 0 0] 48 (0,0)) by rw [hwn];exact blk_far (p:=⟨gq,0,none⟩) BZ.out NZQ.out v1);replace HD:=am (show Rds w0 w g b _ wz by rw [hwn];exact HD.out.set LBQ.out 0 v1);replace VN:=am (show (Kd.int .i64).R 3 wz w.heap.size (fun _=>True) v1 _ by rw [hwn];exact R_set VN.out BQ.out (by decide) 0 v1);clear hwn BQ;have BQ:=BQ_0;clear BQ_0))
      have wm:=wrap_succ hlm (Nat.le_trans HNX.out.2 (by decide));go_roundw
      case rel=>exact ⟨m+1,by omega,by go_num,_,v1,cs ++ [y],HD,⟨by have:=HQ.out;omega⟩,VN,⟨by rw [List.length_append,HLC.out];rfl⟩,BQ,BZ⟩
      case measure=>first | exact meas1 hlm | exact meas2 hlm wm
     ·refine goes_ Try.func49 (by kernel_rfl) rfl #[.pointer (some ⟨g,0,none⟩),.int .i64 5] (by rfl) rfl rfl (by (try simp only [List.map_toArray,List.map_cons,List.map_nil]);first | done | rfl) ?_
      refine (pick_rds HD.out HC.out (by have:=HQ.out;have:=HQ0.out;have:=HNX.out;omega) 5).mono ?_;rintro e wn ⟨x,q2,rfl,hx,hq2,hd,hk⟩;refine ⟨_,rfl, ?_⟩;refine hK.out _ _ (HD.out.blkK hk hHeld (by decide)) (fun hHeld=> ?_);clear hK K;refine norm_ (a':= ?_) ?_ ?_;rotate_left
      ·show Act.put _ (some 27) _=_
       simp only [Act.put,sA,sZ,sS,i64_w];rfl
      replace HQ:=am (show q0<=q2/\q2<=q0+420*(i:Int)+3+(m:Int) from by have:=HQ.out;(try have:=HNX.out);(try have:=HNB.out);omega);clear hq2;replace VC:=am (HD.out.rowK hk VC.out (by decide));replace BZ:=am (HD.out.blkK hk BZ.out (by decide));replace BQ:=am (HD.out.blkK hk BQ.out (by decide));replace HD:=am (hd);clear BZc BQc;have BZc:=zc8 BZ.out;have BQc:=zc8 BQ.out;clear hk hd;refine on9 (i:=2) (N:=some 25) rfl rfl (by kernel_rfl) (by decide) (fun K hK=> ?_);refine Kd.R_lit_step (w0:=_) (Kd.int .i64) w.heap.size 3 (by rfl) (N:=25) rfl (xs:=([0,0,1,5,99]:List Int)) (inner:= [.int .i64 0,.int .i64 0,.int .i64 1,.int .i64 5,.int .i64 99]) (ok:=(fun _=>True)) (okp:=(fun _=>True)) (by go_simp<;>rfl) (Reps.one rfl (Reps.one rfl (Reps.one rfl (Reps.one rfl (Reps.one rfl (Reps.none _ _)))))) (fun _ _=>trivial) trivial (Below.refl _ _) HD.out.size (by simp) ?_;intro v1 wl hv1 hb1 hg hx9;clear hb1 hx9;obtain ⟨a5,c5,ev⟩:=Kd.R_slice hv1;subst ev;have V5_0:=am (show (Kd.int .i64).R 3 wl w.heap.size (fun _=>True) (.slice a5 5 c5) ([0,0,1,5,99]:List Int) from hv1);refine hK.out _ _ (zb8 hHeld (grown_below hg)) (fun hHeld=> ?_);clear hK K;refine norm_ (a':= ?_) ?_ ?_;rotate_left
      ·show Act.put _ (some 25) _=_
       simp only [Act.put,sA,sZ,sS,i64_w];rfl
      clear hv1;have hb:=grown_below hg;replace VC:=am (Kd.R_below VC.out hb);replace BZ:=am (zb8 BZ.out hb);replace BQ:=am (zb8 BQ.out hb);replace HD:=am (HD.out.grow hb);clear BZc BQc;have BZc:=zc8 BZ.out;have BQc:=zc8 BQ.out;clear hb hg;have V5:=V5_0;clear V5_0;have hx5:(x:Int) < 5:=by omega
      have hx0:(0:Int)<=(x:Int):=by omega
      obtain ⟨g5,k5,ev5,-⟩:=Kd.R_form V5.out (by decide);injection ev5 with ev5 ev6 ev7;subst ev5;obtain ⟨y,cy⟩:∃ y:Int,wl.cell? ⟨g5,x,none⟩=some (.int .i64 y):=⟨_,by have h:=Kd.R_celln 0 V5.out (x:Int) hx0 hx5;rw [Int.toNat_natCast] at h;exact h.1⟩;clear ev6 ev7;refine on9 (i:=5) (N:=some 28) rfl rfl (by kernel_rfl) (by decide) (fun K hK=> ?_);refine value_ (v:=.pointer (some ⟨g5,x,none⟩)) (w1:=wl) (by rfl) rfl (by go_simp<;>rfl) ?_;refine hK.out _ _ (hHeld) (fun hHeld=> ?_);clear hK K;refine norm_ (a':= ?_) ?_ ?_;rotate_left
      ·show Act.put _ (some 28) _=_
       simp only [Act.put,sA,sZ,sS,i64_w];rfl
      refine on9 (i:=6) (N:=some 29) rfl rfl (by kernel_rfl) (by decide) (fun K hK=> ?_);refine value_ (v:=.int .i64 y) (w1:=wl) (by rfl) rfl (by go_simp<;>rfl) ?_;refine hK.out _ _ (hHeld) (fun hHeld=> ?_);clear hK K;refine norm_ (a':= ?_) ?_ ?_;rotate_left
      ·show Act.put _ (some 29) _=_
       simp only [Act.put,sA,sZ,sS,i64_w];rfl
      clear cy;refine on9 (i:=7) (N:=some 30) rfl rfl (by kernel_rfl) (by decide) (fun K hK=> ?_);refine lit1_ (e:=3) (c:=.int .i64 y) (by rfl) rfl (by go_simp<;>rfl) ?_;have hHeld0:=hHeld;refine hK.out _ _ (blk_alloc hHeld _) (fun hHeld=> ?_);clear hK K;refine norm_ (a':= ?_) ?_ ?_;rotate_left
      ·show Act.put _ (some 30) _=_
       simp only [Act.put,sA,sZ,sS,i64_w];rfl
      refine on9 (i:=8) (N:=some 31) rfl rfl (by kernel_rfl) (by decide) (fun K hK=> ?_);refine Kd.R_append_step (Kd.int .i64) (w0:=_) w.heap.size (by rfl) (.tmp 24) (.tmp 30) 29 3 (.int .i64 0) 8 rfl Try.underlying29 info_int rfl (by decide) (by decide) (.slice A lk cA) cs y [.int .i64 y] (fun _=>True) (fun _=>False) rfl rfl rfl (fun _ hk=>hk.elim) (fun _ _=>trivial) VC.out (Below.refl _ _) HD.out.size (by have:=HLC.out;have:=HNX.out;omega) ?_;intro v1 w6 hv1 hb6 hg hat6;clear hb6 hat6;have hgq:some gq ≠ (Value.slice A lk cA).ownBlock:=fun he=>Kd.R_ne VC.out BQ.out (by decide) he
      have hgz:some gz ≠ (Value.slice A lk cA).ownBlock:=fun he=>Kd.R_ne VC.out BZ.out (by decide) he
      refine hK.out _ _ (blk_grown hHeld0 hg hgq) (fun hHeld=> ?_);clear hK K;refine norm_ (a':= ?_) ?_ ?_;rotate_left
      ·show Act.put _ (some 31) _=_
       simp only [Act.put,sA,sZ,sS,i64_w];rfl
      have VN:=am hv1;replace BQ:=am (blk_grown BQ.out hg hgq);replace BZ:=am (blk_grown BZ.out hg hgz);replace HD:=am (HD.out.row VC.out hg);clear hHeld hHeld0 hv1 hg hgq hgz VC V5 BQc BZc;have BQc:=zc8 BQ.out;refine tail_ (fuel:=2) 9 (by kernel_rfl) ?_;simp only [List.drop_succ_cons,List.drop_zero]
      go_wp2_with (first
      |((with_reducible refine gate_store (t:=29) (p:=32) rfl ?_);refine set_ev (u:=v1) rfl rfl _ _ rfl (g:=gq) (off:=0) rfl rfl (R_cells VN.out) (R_oneCell VN.out) (by kernel_rfl) ⟨⟨_,by rw [zc8 BQ.out];rfl⟩,blk_frozen BQ.out _⟩ ?_;intro wz hwn;have BQ_0:=am (show wz.heap[gq]? = some (.cells #[v1,.slice none 0 0] 48 (0,0)) by rw [hwn];exact blk_set BQ.out 0 v1);replace BZ:=am (show wz.heap[gz]? = some (.cells #[.slice none 0 0,.slice none 0 0] 48 (0,0)) by rw [hwn];exact blk_far (p:=⟨gq,0,none⟩) BZ.out NZQ.out v1);replace HD:=am (show Rds w0 w g b _ wz by rw [hwn];exact HD.out.set LBQ.out 0 v1);replace VN:=am (show (Kd.int .i64).R 3 wz w.heap.size (fun _=>True) v1 _ by rw [hwn];exact R_set VN.out BQ.out (by decide) 0 v1);clear hwn BQ;have BQ:=BQ_0;clear BQ_0))
      have wm:=wrap_succ hlm (Nat.le_trans HNX.out.2 (by decide));go_roundw
      case rel=>exact ⟨m+1,by omega,by go_num,_,v1,cs ++ [y],HD,⟨by have:=HQ.out;omega⟩,VN,⟨by rw [List.length_append,HLC.out];rfl⟩,BQ,BZ⟩
      case measure=>first | exact meas1 hlm | exact meas2 hlm wm
    ·obtain rfl:m=nx:=by omega
     have q2:¬ (m:Int) < (m:Int):=by omega
     go_wp2_with (first
     |(go_at_call 49;refine (pick_rds HD.out HC.out (by have:=HQ.out;have:=HQ0.out;(try have:=HNX.out);(try have:=HNB.out);omega) 3).mono ?_;rintro e wn ⟨y,q2,rfl,hy,hq2,hd,hk⟩;replace HQ:=am (show q0<=q2/\q2<=q0+420*(i:Int)+6 from by have:=HQ.out;(try have:=HNX.out);(try have:=HNB.out);omega);clear hq2;replace VC:=am (HD.out.rowK hk VC.out (by decide));replace BZ:=am (HD.out.blkK hk BZ.out (by decide));replace BQ:=am (HD.out.blkK hk BQ.out (by decide));replace HD:=am (hd);clear BZc BQc;have BZc:=zc8 BZ.out;have BQc:=zc8 BQ.out;clear hk hd;have by_:y<=2:=by omega))
     obtain ⟨nb,hnb⟩:∃ z:Nat,(z:Int)=2+(y:Int):=⟨2+y,by omega⟩;rw [<-hnb];have HNB:Aside0 (2<=nb/\nb<=4):=⟨by omega⟩;clear hy hnb by_;obtain ⟨nx,hnx⟩:∃ z,z=m:=⟨_,rfl⟩;subst hnx;go_loopw [8] (fun j w'=>∃ m:Nat,m<=nb/\j= .int .i64 m/\∃ q vb bs,Aside0 (Rds w0 w g b q w')/\Aside0 (q0<=q/\q<=q0+420*(i:Int)+6+91*(m:Int))/\Aside0 ((Kd.int .i64).R 3 w' w.heap.size (fun _=>True) (.slice A lk cA) cs)/\Aside0 ((Kd.slice 108 kAct).R 104 w' w.heap.size (fun _=>True) vb bs)/\Aside0 (bs.length=m)/\Aside0 (∀ x ∈ bs,x.length<=3/\∀ a ∈ x,Rd.ActIn a)/\Aside0 (w'.heap[gq]? = some (.cells #[.slice A lk cA,vb] 48 (0,0)))/\Aside0 (w'.heap[gz]? = some (.cells #[.slice none 0 0,.slice none 0 0] 48 (0,0)))) (fun j _=>nb - (intOf j).toNat)
     case atStart=>exact ⟨0,Nat.zero_le _,rfl,_,_, [],HD,⟨by have:=HQ.out;have:=HNX.out;omega⟩,VC,⟨Kd.R_nil _ _ _ _ _⟩,⟨rfl⟩,⟨fun _ h=>by cases h⟩,BQ,BZ⟩
     case round=>
      clear HD HQ VC BQ BZ BQc BZc;clear q;obtain ⟨m,hm2,rfl,q,vb,bs,HD,HQ,VC,VB,HLB,HBI,BQ,BZ⟩:=hrel;obtain ⟨B,cB,ev⟩:=Kd.R_slice VB.out;subst ev;obtain ⟨lb,hlb⟩:∃ z:Nat,z=bs.length:=⟨_,rfl⟩;rw [<-hlb] at VB BQ;have HLBB:=am hlb;clear hlb;have BZc:=zc8 BZ.out;have BQc:=zc8 BQ.out;by_cases hlm2:m < nb
      ·have q3:(m:Int) < (nb:Int):=by omega
       go_wp2;refine st9 (n:=11) (S:=fun W=>W.heap[gq]? = some (.cells #[.slice A lk cA,.slice B lb cB] 48 (0,0))) (ds:= [9,10]) (by kernel_rfl) rfl (by exact blk_drew BQ.out) (fun hHeld=> ?_);have hb:=below_drew (Below.refl wr.heap.size wr);generalize wr.drew=w7 at hb hHeld ⊢;replace VC:=am (Kd.R_below VC.out hb);replace VB:=am (Kd.R_below VB.out hb);replace BZ:=am (zb8 BZ.out hb);replace BQ:=am (zb8 BQ.out hb);replace HD:=am (HD.out.grow hb);clear BZc BQc;have BZc:=zc8 BZ.out;have BQc:=zc8 BQ.out;clear hb;refine ba9 (fuel:=5) (n:=6) [0,1,2,3,4,5] (by kernel_rfl) (fun N _ _ _ _ h=>by cases N <;> exact h) hHeld ?_
       iterate 6 (
        refine stillS_step (v:= ?_) (a':= ?_) rfl (Or.inl ⟨by rfl, ?_⟩) ?_ ?_;rotate_left
        ·intro W s0
         have t0:=zc8 s0;clear s0;go_simp;with_reducible rfl
        rotate_left
        ·simp only [Act.put,sA,sZ,sS,i64_w]
         rfl)
       refine stillS_nil ?_;refine on9 (i:=6) (N:=some 47) rfl rfl (by kernel_rfl) (by decide) (fun K hK=> ?_);refine goes_ Try.func85 (by kernel_rfl) rfl #[.pointer (some ⟨g,0,none⟩),.int .i64 m,.int .i64 nb,.int .i64 nx] (by rfl) rfl rfl (by (try simp only [List.map_toArray,List.map_cons,List.map_nil]);first | done | rfl) ?_;refine (body_rds HD.out HC.out (by have:=HQ.out;have:=HQ0.out;have:=HNX.out;have:=HNB.out;omega) (m:Int) (nb:Int) (nx:Int)).mono ?_;rintro e wn ⟨v,acts,q2,rfl,hv,ha,hq2,hq3,hd,hk⟩;refine ⟨_,rfl, ?_⟩;refine hK.out _ _ (HD.out.blkK hk hHeld (by decide)) (fun hHeld=> ?_);clear hK K;refine norm_ (a':= ?_) ?_ ?_;rotate_left
       ·show Act.put _ (some 47) _=_
        simp only [Act.put,sA,sZ,sS,i64_w];rfl
       have LW:=am (show w.heap.size<=w7.heap.size from HD.out.size);have LB:=am (Kd.R_lt VB.out);replace HQ:=am (show q0<=q2/\q2<=q0+420*(i:Int)+6+91*((m:Int)+1) from by have:=HQ.out;(try have:=HNX.out);(try have:=HNB.out);omega);clear hq2 hq3;replace VC:=am (HD.out.rowK hk VC.out (by decide));replace VB:=am (HD.out.rowK hk VB.out (by decide));replace BZ:=am (HD.out.blkK hk BZ.out (by decide));replace BQ:=am (HD.out.blkK hk BQ.out (by decide));replace HD:=am (hd);clear BZc BQc;have BZc:=zc8 BZ.out;have BQc:=zc8 BQ.out;clear hk hd;obtain ⟨av,cv,ev⟩:=Kd.R_slice hv;subst ev;have VA:=am hv;have HA:=am ha;clear hv ha;refine on9 (i:=7) (N:=some 48) rfl rfl (by kernel_rfl) (by decide) (fun K hK=> ?_);refine lit1_ (e:=104) (c:=.slice av acts.length cv) (by rfl) rfl (by go_simp<;>rfl) ?_;have hHeld0:=hHeld;refine hK.out _ _ (blk_alloc hHeld _) (fun hHeld=> ?_);clear hK K;refine norm_ (a':= ?_) ?_ ?_;rotate_left
       ·show Act.put _ (some 48) _=_
        simp only [Act.put,sA,sZ,sS,i64_w];rfl
       refine on9 (i:=8) (N:=some 49) rfl rfl (by kernel_rfl) (by decide) (fun K hK=> ?_);refine Kd.R_append_step (Kd.slice 108 kAct) (w0:=_) w.heap.size (by rfl) (.tmp 42) (.tmp 48) 46 104 (.slice none 0 0) 24 rfl Try.underlying46 (by kernel_rfl) rfl (by decide) (by decide) (.slice B lb cB) bs acts [.slice av acts.length cv] (fun _=>True) (fun k=>w7.heap.size<=k) rfl rfl ⟨_,rfl,Kd.R_lower (Kd.R_mono (Kd.R_bound VA.out) (fun k hk=>hk.2.1)) LW.out⟩ (fun k hk=>⟨trivial,fun he=>by have:=LB.out k he.symm;omega⟩) (fun _ _=>trivial) VB.out (Below.refl _ _) HD.out.size (by have:=HLB.out;have:=HNB.out;omega) ?_;intro v1 w6 hv1 hb6 hg hat6;clear hb6 hat6;have hgq:some gq ≠ (Value.slice B lb cB).ownBlock:=fun he=>Kd.R_ne VB.out BQ.out (by decide) he
       have hgz:some gz ≠ (Value.slice B lb cB).ownBlock:=fun he=>Kd.R_ne VB.out BZ.out (by decide) he
       refine hK.out _ _ (blk_grown hHeld0 hg hgq) (fun hHeld=> ?_);clear hK K;refine norm_ (a':= ?_) ?_ ?_;rotate_left
       ·show Act.put _ (some 49) _=_
        simp only [Act.put,sA,sZ,sS,i64_w];rfl
       have VN:=am hv1;replace VC:=am (Kd.R_over VC.out VB.out (by decide) hg);replace BQ:=am (blk_grown BQ.out hg hgq);replace BZ:=am (blk_grown BZ.out hg hgz);replace HD:=am (HD.out.row VB.out hg);clear hHeld hHeld0 hv1 hg hgq hgz VB VA BQc BZc LB LW;have BQc:=zc8 BQ.out;refine tail_ (fuel:=2) 9 (by kernel_rfl) ?_;simp only [List.drop_succ_cons,List.drop_zero]
       go_wp2_with (first
       |((with_reducible refine gate_store (t:=46) (p:=50) rfl ?_);refine set_ev (u:=v1) rfl rfl _ _ rfl (g:=gq) (off:=1) rfl rfl (R_cells VN.out) (R_oneCell VN.out) (by kernel_rfl) ⟨⟨_,by rw [zc8 BQ.out];rfl⟩,blk_frozen BQ.out _⟩ ?_;intro wz hwn;have BQ_0:=am (show wz.heap[gq]? = some (.cells #[.slice A lk cA,v1] 48 (0,0)) by rw [hwn];exact blk_set BQ.out 1 v1);replace BZ:=am (show wz.heap[gz]? = some (.cells #[.slice none 0 0,.slice none 0 0] 48 (0,0)) by rw [hwn];exact blk_far (p:=⟨gq,1,none⟩) BZ.out NZQ.out v1);replace HD:=am (show Rds w0 w g b _ wz by rw [hwn];exact HD.out.set LBQ.out 1 v1);replace VC:=am (show (Kd.int .i64).R 3 wz w.heap.size (fun _=>True) (.slice A lk cA) _ by rw [hwn];exact R_set VC.out BQ.out (by decide) 1 v1);replace VN:=am (show (Kd.slice 108 kAct).R 104 wz w.heap.size (fun _=>True) v1 _ by rw [hwn];exact R_set VN.out BQ.out (by decide) 1 v1);clear hwn BQ;have BQ:=BQ_0;clear BQ_0))
       have wm:=wrap_succ hlm2 (Nat.le_trans HNB.out.2 (by decide));go_roundw
       case rel=>exact ⟨m+1,by omega,by go_num,_,v1,bs ++ [acts],HD,⟨by have:=HQ.out;omega⟩,VC,VN,⟨by rw [List.length_append,HLB.out];rfl⟩,⟨fun y hy=>by rcases List.mem_append.1 hy with hy | hy;exact HBI.out y hy;rw [List.mem_singleton.1 hy];exact HA.out⟩,BQ,BZ⟩
       case measure=>first | exact meas1 hlm2 | exact meas2 hlm2 wm
      ·obtain rfl:m=nb:=by omega
       have q3:¬ (m:Int) < (m:Int):=by omega
       obtain ⟨nb,hnb⟩:∃ z,z=m:=⟨_,rfl⟩;subst hnb
       go_wp2_with (first
       |(go_at_call 49;refine (pick_rds HD.out HC.out (by have:=HQ.out;have:=HQ0.out;(try have:=HNX.out);(try have:=HNB.out);omega) 4).mono ?_;rintro e wn ⟨z,q2,rfl,hz,hq2,hd,hk⟩;replace HQ:=am (show q0<=q2/\q2<=q0+420*(i:Int)+375 from by have:=HQ.out;(try have:=HNX.out);(try have:=HNB.out);omega);clear hq2;replace VC:=am (HD.out.rowK hk VC.out (by decide));replace VB:=am (HD.out.rowK hk VB.out (by decide));replace BZ:=am (HD.out.blkK hk BZ.out (by decide));replace BQ:=am (HD.out.blkK hk BQ.out (by decide));replace HD:=am (hd);clear BZc BQc;have BZc:=zc8 BZ.out;have BQc:=zc8 BQ.out;clear hk hd))
       ·clear hz
        obtain ⟨gb,kb9,evb,-⟩:=Kd.R_form VB.out (by have:=HLB.out;have:=HNB.out;omega);injection evb with evb evb2 evb3;subst evb;have hlb:(0:Int) < (lb:Int):=by have:=HLB.out;have:=HNB.out;have:=HLBB.out;omega
        have hlbn:0 < lb:=by omega
        clear evb2 evb3;have wnb:wrap64 ((nb:Int) - 1)=(nb:Int) - 1:=Rd.wrap_in (by have:=HNB.out;omega) (by have:=HNB.out;omega);go_wp2;refine st9 (n:=16) (S:=fun W=>W.heap[gq]? = some (.cells #[.slice A lk cA,.slice (some ⟨gb,0,none⟩) lb cB] 48 (0,0))) (ds:= [14,15]) (by kernel_rfl) rfl (by exact blk_drew BQ.out) (fun hHeld=> ?_);have hb:=below_drew (Below.refl wn.heap.size wn);generalize wn.drew=w7 at hb hHeld ⊢;replace VC:=am (Kd.R_below VC.out hb);replace VB:=am (Kd.R_below VB.out hb);replace BZ:=am (zb8 BZ.out hb);replace BQ:=am (zb8 BQ.out hb);replace HD:=am (HD.out.grow hb);clear BZc BQc;have BZc:=zc8 BZ.out;have BQc:=zc8 BQ.out;clear hb;refine ba9 (fuel:=9) (n:=7) [0,1,2,3,4,9,10] (by kernel_rfl) (fun N _ _ _ _ h=>by cases N <;> exact h) hHeld ?_
        iterate 7 (
         refine stillS_step (v:= ?_) (a':= ?_) rfl (Or.inl ⟨by rfl, ?_⟩) ?_ ?_;rotate_left
         ·intro W s0
          have t0:=zc8 s0;clear s0;go_simp;with_reducible rfl
         rotate_left
         ·simp only [Act.put,sA,sZ,sS,i64_w]
          rfl)
        refine stillS_nil ?_;refine on9 (i:=5) (N:=some 59) rfl rfl (by kernel_rfl) (by decide) (fun K hK=> ?_);refine goes_ Try.func49 (by kernel_rfl) rfl #[.pointer (some ⟨g,0,none⟩),.int .i64 (wrap64 ((nb:Int) - 1))] (by rfl) rfl rfl (by (try simp only [List.map_toArray,List.map_cons,List.map_nil]);first | done | rfl) ?_;refine (pick_rds HD.out HC.out (by have:=HQ.out;have:=HQ0.out;have:=HNX.out;have:=HNB.out;omega) (wrap64 ((nb:Int) - 1))).mono ?_;rintro e wn ⟨x,q2,rfl,hx,hq2,hd,hk⟩;refine ⟨_,rfl, ?_⟩;refine hK.out _ _ (HD.out.blkK hk hHeld (by decide)) (fun hHeld=> ?_);clear hK K;refine norm_ (a':= ?_) ?_ ?_;rotate_left
        ·show Act.put _ (some 59) _=_
         simp only [Act.put,sA,sZ,sS,i64_w];rfl
        rw [wnb] at hx;replace HQ:=am (show q0<=q2/\q2<=q0+420*(i:Int)+376 from by have:=HQ.out;(try have:=HNX.out);(try have:=HNB.out);omega);clear hq2;replace VC:=am (HD.out.rowK hk VC.out (by decide));replace VB:=am (HD.out.rowK hk VB.out (by decide));replace BZ:=am (HD.out.blkK hk BZ.out (by decide));replace BQ:=am (HD.out.blkK hk BQ.out (by decide));replace HD:=am (hd);clear BZc BQc;have BZc:=zc8 BZ.out;have BQc:=zc8 BQ.out;clear hk hd;obtain ⟨y,hy⟩:∃ y:Int,y=1+(x:Int):=⟨_,rfl⟩;have wy:wrap64 y=y:=by have:=HNB.out;exact Rd.wrap_in (by omega) (by omega)
        clear hx;refine ba9 (fuel:=7) (n:=1) [6] (by kernel_rfl) (fun N _ _ _ _ h=>by cases N <;> exact h) hHeld ?_;refine stillS_step (v:= ?_) (a':= ?_) rfl (Or.inl ⟨by rfl, ?_⟩) ?_ ?_;rotate_left
        ·intro W s0
         go_simp
         with_reducible rfl
        rotate_left
        ·simp only [Act.put,sA,sZ,sS,i64_w]
         rfl
        refine stillS_nil ?_;rw [<-hy];rw [wy];clear hy wy;refine tw9 (i:=7) (j:=11) (Ni:=some 61) (Nj:=some 65) rfl rfl rfl rfl (by kernel_rfl) (by decide) (by decide) (fun K hK=> ?_) (fun K hK=> ?_)
        ·refine Kd.R_lit_step (w0:=_) (Kd.int .i64) w.heap.size 3 (by rfl) (N:=61) rfl (xs:=([1,y]:List Int)) (inner:= [.int .i64 1,.int .i64 y]) (ok:=(fun _=>True)) (okp:=(fun _=>True)) (by go_simp<;>rfl) (Reps.one rfl (Reps.one rfl (Reps.none _ _))) (fun _ _=>trivial) trivial (Below.refl _ _) HD.out.size (by simp) ?_
         intro v1 wl hv1 hb1 hg hx9;clear hb1 hx9;obtain ⟨a7,c7,ev⟩:=Kd.R_slice hv1;subst ev;have V7_0:=am (show (Kd.int .i64).R 3 wl w.heap.size (fun _=>True) (.slice a7 2 c7) ([1,y]:List Int) from hv1);refine hK.out _ _ (zb8 hHeld (grown_below hg)) (fun hHeld=> ?_);clear hK K;refine norm_ (a':= ?_) ?_ ?_;rotate_left
         ·show Act.put _ (some 61) _=_
          simp only [Act.put,sA,sZ,sS,i64_w];rfl
         clear hv1;have hb:=grown_below hg;replace VC:=am (Kd.R_below VC.out hb);replace VB:=am (Kd.R_below VB.out hb);replace BZ:=am (zb8 BZ.out hb);replace BQ:=am (zb8 BQ.out hb);replace HD:=am (HD.out.grow hb);clear BZc BQc;have BZc:=zc8 BZ.out;have BQc:=zc8 BQ.out;clear hb hg;have V7:=V7_0;clear V7_0;refine ba9 (fuel:=5) (n:=1) [8] (by kernel_rfl) (fun N _ _ _ _ h=>by cases N <;> exact h) hHeld ?_
         iterate 1 (
          refine stillS_step (v:= ?_) (a':= ?_) rfl (Or.inl ⟨by rfl, ?_⟩) ?_ ?_;rotate_left
          ·intro W s0
           go_simp
           with_reducible rfl
          rotate_left
          ·simp only [Act.put,sA,sZ,sS,i64_w]
           rfl)
         refine stillS_nil ?_;refine on9 (i:=11) (N:=some 65) rfl rfl (by kernel_rfl) (by decide) (fun K hK=> ?_);refine goes_ Try.func86 (by kernel_rfl) rfl #[.pointer (some ⟨g,0,none⟩),.int .i64 nx] (by rfl) rfl rfl (by (try simp only [List.map_toArray,List.map_cons,List.map_nil]);first | done | rfl) ?_;refine (deeds_rds HD.out HC.out (by have:=HQ.out;have:=HQ0.out;have:=HNX.out;have:=HNB.out;omega) (nx:Int)).mono ?_;rintro e wn ⟨v,ds,q2,rfl,hv,hds,hq2,hq3,hd,hk⟩;refine ⟨_,rfl, ?_⟩;refine hK.out _ _ (HD.out.blkK hk hHeld (by decide)) (fun hHeld=> ?_);clear hK K;refine norm_ (a':= ?_) ?_ ?_;rotate_left
         ·show Act.put _ (some 65) _=_
          simp only [Act.put,sA,sZ,sS,i64_w];rfl
         have LW:=HD.out.size;replace HQ:=am (show q0<=q2/\q2<=q0+420*(i:Int)+396 from by have:=HQ.out;(try have:=HNX.out);(try have:=HNB.out);omega);clear hq2 hq3;replace VC:=am (HD.out.rowK hk VC.out (by decide));replace VB:=am (HD.out.rowK hk VB.out (by decide));replace V7:=am (HD.out.rowK hk V7.out (by decide));replace BZ:=am (HD.out.blkK hk BZ.out (by decide));replace BQ:=am (HD.out.blkK hk BQ.out (by decide));replace HD:=am (hd);clear BZc BQc;have BZc:=zc8 BZ.out;have BQc:=zc8 BQ.out;clear hk hd;obtain ⟨ad,cd,ev⟩:=Kd.R_slice hv;subst ev;have VD:=am (Kd.R_lower hv LW);have HDS:=am hds;clear hv hds LW;refine ba9 (fuel:=3) (n:=1) [12] (by kernel_rfl) (fun N _ _ _ _ h=>by cases N <;> exact h) hHeld ?_
         iterate 1 (
          refine stillS_step (v:= ?_) (a':= ?_) rfl (Or.inl ⟨by rfl, ?_⟩) ?_ ?_;rotate_left
          ·intro W s0
           go_simp
           with_reducible rfl
          rotate_left
          ·simp only [Act.put,sA,sZ,sS,i64_w]
           rfl)
         refine stillS_nil ?_;refine on9 (i:=13) (N:=some 67) rfl rfl (by kernel_rfl) (by decide) (fun K hK=> ?_);refine Kd.R_lit_step (w0:=_) kAct w.heap.size 108 (by rfl) (N:=67) rfl (xs:=([(⟨2, [], [1,y],0⟩:Act),(⟨1,ds, [],0⟩:Act)]:List Act)) (inner:= [.int .i64 2,.slice none 0 0,.slice a7 2 c7,.int .i64 0,.int .i64 1,.slice ad ds.length cd,.slice none 0 0,.int .i64 0]) (ok:=(fun _=>True)) (okp:=(fun _=>True)) (by go_simp<;>rfl) (Reps.c4 (kAct_mkM (⟨2, [], [1,y],0⟩:Act) (Kd.R_nil _ _ _ _ _) V7.out) (Reps.c4 (kAct_mkM (⟨1,ds, [],0⟩:Act) VD.out (Kd.R_nil _ _ _ _ _)) (Reps.none _ _))) (fun _ _=>trivial) trivial (Below.refl _ _) HD.out.size (by simp) ?_;intro v1 wl hv1 hb1 hg hx9;clear hb1 hx9;obtain ⟨ax,cx,ev⟩:=Kd.R_slice hv1;subst ev;have VX_0:=am (show kAct.R 108 wl w.heap.size (fun _=>True) (.slice ax 2 cx) ([(⟨2, [], [1,y],0⟩:Act),(⟨1,ds, [],0⟩:Act)]:List Act) from hv1);refine hK.out _ _ (zb8 hHeld (grown_below hg)) (fun hHeld=> ?_);clear hK K;refine norm_ (a':= ?_) ?_ ?_;rotate_left
         ·show Act.put _ (some 67) _=_
          simp only [Act.put,sA,sZ,sS,i64_w];rfl
         clear hv1 V7 VD;have hb:=grown_below hg;replace VC:=am (Kd.R_below VC.out hb);replace VB:=am (Kd.R_below VB.out hb);replace BZ:=am (zb8 BZ.out hb);replace BQ:=am (zb8 BQ.out hb);replace HD:=am (HD.out.grow hb);clear BZc BQc;have BZc:=zc8 BZ.out;have BQc:=zc8 BQ.out;clear hb hg;have VX:=VX_0;clear VX_0;have HBI2:Aside0 (∀ z ∈ bs.set 0 [(⟨2, [], [1,y],0⟩:Act),(⟨1,ds, [],0⟩:Act)],z.length<=3/\∀ a ∈ z,Rd.ActIn a):=⟨fun z hz=>by rcases List.mem_or_eq_of_mem_set hz with hz | hz;exact HBI.out z hz;rw [hz];refine ⟨by simp,fun a ha=> ?_⟩;simp only [List.mem_cons,List.not_mem_nil,or_false] at ha;rcases ha with rfl|rfl;exact ⟨by simp,by simp⟩;exact ⟨HDS.out,by simp⟩⟩;clear hHeld HBI;have HBI:=HBI2;clear HBI2;have HLB2:Aside0 ((bs.set 0 [(⟨2, [], [1,y],0⟩:Act),(⟨1,ds, [],0⟩:Act)]).length=nb):=⟨by rw [List.length_set];exact HLB.out⟩;refine tail_ (fuel:=2) 14 (by kernel_rfl) ?_;simp only [List.drop_succ_cons,List.drop_zero]
         go_wp2_with (first
         |((with_reducible refine gate_store (t:=104) (p:=68) rfl ?_);obtain ⟨ce,hce,_,hcc2,_⟩:=Kd.R_elem VB.out [] (0:Int) (Int.le_refl 0) hlb;obtain ⟨cb9,hcb9⟩:=R_type VB.out gb rfl;refine Kd.R_store (w0:=_) (Kd.slice 108 kAct) w.heap.size rfl rfl 104 (.tmp 68) (.tmp 67) rfl 104 (0:Int) 0 bs [(⟨2, [], [1,y],0⟩:Act),(⟨1,ds, [],0⟩:Act)] (.slice ax 2 cx) [.slice ax 2 cx] ce (fun _=>True) (fun k=>k ≠ gb) rfl rfl rfl rfl (by kernel_rfl) (by simp [Value.oneCell']) VB.out (Int.le_refl 0) hlb hce hcc2 (Nat.le_refl _) (by rw [List.take_zero,List.nil_append,List.drop_eq_nil_of_le (by rw [hce];exact Nat.le_refl _),List.append_nil];exact ⟨_,rfl,Kd.R_mono (R_apart VX.out hcb9 (by decide)) (fun k hk=>hk.2)⟩) (fun k hk=>⟨trivial,hk⟩) (Below.refl _ _) ?_;intro wz ho hb6 hg;clear hb6;have VB_0:=am ho;replace HD:=am (HD.out.grown hg (fun k hk=>by cases hk;exact Kd.R_base VB.out gb rfl));replace VC:=am (Kd.R_over VC.out VB.out (by decide) hg);replace BQ:=am (blk_grown BQ.out hg (fun he=>Kd.R_ne VB.out BQ.out (by decide) he));replace BZ:=am (blk_grown BZ.out hg (fun he=>Kd.R_ne VB.out BZ.out (by decide) he));clear ho hg VB VX hcb9 hce hcc2 BQc BZc;have VB:=VB_0;clear VB_0)
         |((with_reducible refine gate_dst (N:=69) rfl ?_);refine wpList_load_mid rfl 48 (.tmp 4) rfl gq 0 rfl _ _ (lC BQ.out) Try.underlying48 rfl (by kernel_rfl) ?_))
         clear HLB;have HLB:=HLB2;clear HLB2;obtain ⟨bs2,hbs2⟩:∃ z,z=bs.set 0 [(⟨2, [], [1,y],0⟩:Act),(⟨1,ds, [],0⟩:Act)]:=⟨_,rfl⟩;rw [show Int.toNat 0=0 from rfl] at VB;rw [<-hbs2] at HLB HBI VB;have BQc:=zc8 BQ.out;have BZc:=zc8 BZ.out;clear hbs2;obtain ⟨l0,m0,g0⟩:=Kd.R_reads' VC.out;obtain ⟨l1,m1,g1⟩:=Kd.R_reads' VB.out;have HPK:Aside0 (kProg.K _ (⟨cs,bs2⟩:Prog) [.slice A lk cA,.slice (some ⟨gb,0,none⟩) lb cB]):=⟨by have h:=kProg_mk (⟨cs,bs2⟩:Prog) (by rw [<-l0];exact m0) g0 (by rw [<-l1];exact m1) g1;rw [show (⟨cs,bs2⟩:Prog).cells.length=lk from l0.symm,show (⟨cs,bs2⟩:Prog).bodies.length=lb from l1.symm] at h;exact h⟩;clear g0 g1 m0 m1;have HSZ:Aside0 (ProgSz (⟨cs,bs2⟩:Prog)):=⟨drawn_sz (by have:=HLC.out;have:=HNX.out;show cs.length<=4;omega) (by have:=HLB.out;have:=HNB.out;show bs2.length<=4;omega) HBI.out⟩;obtain ⟨bOK,hOK⟩:∃ x,progOk (⟨cs,bs2⟩:Prog)=x:=⟨_,rfl⟩;have OK:=am hOK;clear hOK
         cases bOK with
         | false=>
          go_wp2_with (first
          |((with_reducible refine gate_dst (N:=69) rfl ?_);refine wpList_load_mid rfl 48 (.tmp 4) rfl gq 0 rfl _ _ (lC BQ.out) Try.underlying48 rfl (by kernel_rfl) ?_)
          |(go_at_call 56;refine (progOk_calls _ _ _ HPK.out HSZ.out).mono ?_;rw [OK.out];rintro e wn ⟨rfl,hb⟩;clear HPK;replace VC:=am (Kd.R_below VC.out hb);replace VB:=am (Kd.R_below VB.out hb);replace BZ:=am (zb8 BZ.out hb);replace BQ:=am (zb8 BQ.out hb);replace HD:=am (HD.out.grow hb);clear BZc BQc;have BZc:=zc8 BZ.out;have BQc:=zc8 BQ.out;clear hb))
          have wi:=wrap_succ hlt (by decide);go_roundw
          case rel=>exact ⟨i+1,by omega,by go_num,_,HD,⟨by have:=HQ.out;omega⟩,BZ⟩
          case measure=>first | exact meas1 hlt | exact meas2 hlt wi
         | true=>
          go_wp2_with (first
          |((with_reducible refine gate_dst (N:=69) rfl ?_);refine wpList_load_mid rfl 48 (.tmp 4) rfl gq 0 rfl _ _ (lC BQ.out) Try.underlying48 rfl (by kernel_rfl) ?_)
          |(go_at_call 56;refine (progOk_calls _ _ _ HPK.out HSZ.out).mono ?_;rw [OK.out];rintro e wn ⟨rfl,hb⟩;clear HPK;replace VC:=am (Kd.R_below VC.out hb);replace VB:=am (Kd.R_below VB.out hb);replace BZ:=am (zb8 BZ.out hb);replace BQ:=am (zb8 BQ.out hb);replace HD:=am (HD.out.grow hb);clear BZc BQc;have BZc:=zc8 BZ.out;have BQc:=zc8 BQ.out;clear hb)
          |((with_reducible refine gate_dst (N:=71) rfl ?_);refine wpList_load_mid rfl 48 (.tmp 4) rfl gq 0 rfl _ _ (lC BQ.out) Try.underlying48 rfl (by kernel_rfl) ?_)
          |((with_reducible refine gate_store (t:=48) (p:=2) rfl ?_);refine store_block rfl rfl 48 (.tmp 2) (.tmp 71) rfl rfl rfl BZ.out rfl (by kernel_rfl) (aB rfl) ?_;intro wn hbox hg;have BZ_0:=am hbox;replace VC:=am (R_grownT VC.out BZ.out (by decide) hg);replace VB:=am (R_grownT VB.out BZ.out (by decide) hg);replace HD:=am (HD.out.grown hg (fun k hk=>by cases hk;exact LBZ.out));clear BZ BZc;have BZ:=BZ_0;clear BZ_0 hbox hg;have BZc:=zc8 BZ.out))
          refine bodyPost_ret (results_single Try.results53 (.cell gz 48 #[.slice A lk cA,.slice (some ⟨gb,0,none⟩) lb cB] (0,0) _ rfl BZ.out Try.underlying48 rfl (by kernel_rfl) .nil)) rfl ?_;exact ⟨(⟨cs,bs2⟩:Prog),_,_,_,rfl,OK.out,HSZ.out,(by have:=HLC.out;have:=HNX.out;show 1<=cs.length;omega),VC.out,VB.out,HD.out.rd,HQ.out.1,by have:=HQ.out.2;omega,HD.out.below,HD.out.keep⟩
        ·refine goes_ Try.func86 (by kernel_rfl) rfl #[.pointer (some ⟨g,0,none⟩),.int .i64 nx] (by rfl) rfl rfl (by (try simp only [List.map_toArray,List.map_cons,List.map_nil]);first | done | rfl) ?_
         refine (deeds_rds HD.out HC.out (by have:=HQ.out;have:=HQ0.out;have:=HNX.out;have:=HNB.out;omega) (nx:Int)).mono ?_;rintro e wn ⟨v,ds,q2,rfl,hv,hds,hq2,hq3,hd,hk⟩;refine ⟨_,rfl, ?_⟩;refine hK.out _ _ (HD.out.blkK hk hHeld (by decide)) (fun hHeld=> ?_);clear hK K;refine norm_ (a':= ?_) ?_ ?_;rotate_left
         ·show Act.put _ (some 65) _=_
          simp only [Act.put,sA,sZ,sS,i64_w];rfl
         have LW:=HD.out.size;replace HQ:=am (show q0<=q2/\q2<=q0+420*(i:Int)+396 from by have:=HQ.out;(try have:=HNX.out);(try have:=HNB.out);omega);clear hq2 hq3;replace VC:=am (HD.out.rowK hk VC.out (by decide));replace VB:=am (HD.out.rowK hk VB.out (by decide));replace BZ:=am (HD.out.blkK hk BZ.out (by decide));replace BQ:=am (HD.out.blkK hk BQ.out (by decide));replace HD:=am (hd);clear BZc BQc;have BZc:=zc8 BZ.out;have BQc:=zc8 BQ.out;clear hk hd;obtain ⟨ad,cd,ev⟩:=Kd.R_slice hv;subst ev;have VD:=am (Kd.R_lower hv LW);have HDS:=am hds;clear hv hds LW;refine ba9 (fuel:=5) (n:=1) [12] (by kernel_rfl) (fun N _ _ _ _ h=>by cases N <;> exact h) hHeld ?_
         iterate 1 (
          refine stillS_step (v:= ?_) (a':= ?_) rfl (Or.inl ⟨by rfl, ?_⟩) ?_ ?_;rotate_left
          ·intro W s0
           go_simp
           with_reducible rfl
          rotate_left
          ·simp only [Act.put,sA,sZ,sS,i64_w]
           rfl)
         refine stillS_nil ?_;refine on9 (i:=7) (N:=some 61) rfl rfl (by kernel_rfl) (by decide) (fun K hK=> ?_);refine Kd.R_lit_step (w0:=_) (Kd.int .i64) w.heap.size 3 (by rfl) (N:=61) rfl (xs:=([1,y]:List Int)) (inner:= [.int .i64 1,.int .i64 y]) (ok:=(fun _=>True)) (okp:=(fun _=>True)) (by go_simp<;>rfl) (Reps.one rfl (Reps.one rfl (Reps.none _ _))) (fun _ _=>trivial) trivial (Below.refl _ _) HD.out.size (by simp) ?_;intro v1 wl hv1 hb1 hg hx9;clear hb1 hx9;obtain ⟨a7,c7,ev⟩:=Kd.R_slice hv1;subst ev;have V7_0:=am (show (Kd.int .i64).R 3 wl w.heap.size (fun _=>True) (.slice a7 2 c7) ([1,y]:List Int) from hv1);refine hK.out _ _ (zb8 hHeld (grown_below hg)) (fun hHeld=> ?_);clear hK K;refine norm_ (a':= ?_) ?_ ?_;rotate_left
         ·show Act.put _ (some 61) _=_
          simp only [Act.put,sA,sZ,sS,i64_w];rfl
         clear hv1;have hb:=grown_below hg;replace VC:=am (Kd.R_below VC.out hb);replace VB:=am (Kd.R_below VB.out hb);replace VD:=am (Kd.R_below VD.out hb);replace BZ:=am (zb8 BZ.out hb);replace BQ:=am (zb8 BQ.out hb);replace HD:=am (HD.out.grow hb);clear BZc BQc;have BZc:=zc8 BZ.out;have BQc:=zc8 BQ.out;clear hb hg;have V7:=V7_0;clear V7_0;refine ba9 (fuel:=3) (n:=1) [8] (by kernel_rfl) (fun N _ _ _ _ h=>by cases N <;> exact h) hHeld ?_
         iterate 1 (
          refine stillS_step (v:= ?_) (a':= ?_) rfl (Or.inl ⟨by rfl, ?_⟩) ?_ ?_;rotate_left
          ·intro W s0
           go_simp
           with_reducible rfl
          rotate_left
          ·simp only [Act.put,sA,sZ,sS,i64_w]
           rfl)
         refine stillS_nil ?_;refine on9 (i:=13) (N:=some 67) rfl rfl (by kernel_rfl) (by decide) (fun K hK=> ?_);refine Kd.R_lit_step (w0:=_) kAct w.heap.size 108 (by rfl) (N:=67) rfl (xs:=([(⟨2, [], [1,y],0⟩:Act),(⟨1,ds, [],0⟩:Act)]:List Act)) (inner:= [.int .i64 2,.slice none 0 0,.slice a7 2 c7,.int .i64 0,.int .i64 1,.slice ad ds.length cd,.slice none 0 0,.int .i64 0]) (ok:=(fun _=>True)) (okp:=(fun _=>True)) (by go_simp<;>rfl) (Reps.c4 (kAct_mkM (⟨2, [], [1,y],0⟩:Act) (Kd.R_nil _ _ _ _ _) V7.out) (Reps.c4 (kAct_mkM (⟨1,ds, [],0⟩:Act) VD.out (Kd.R_nil _ _ _ _ _)) (Reps.none _ _))) (fun _ _=>trivial) trivial (Below.refl _ _) HD.out.size (by simp) ?_;intro v1 wl hv1 hb1 hg hx9;clear hb1 hx9;obtain ⟨ax,cx,ev⟩:=Kd.R_slice hv1;subst ev;have VX_0:=am (show kAct.R 108 wl w.heap.size (fun _=>True) (.slice ax 2 cx) ([(⟨2, [], [1,y],0⟩:Act),(⟨1,ds, [],0⟩:Act)]:List Act) from hv1);refine hK.out _ _ (zb8 hHeld (grown_below hg)) (fun hHeld=> ?_);clear hK K;refine norm_ (a':= ?_) ?_ ?_;rotate_left
         ·show Act.put _ (some 67) _=_
          simp only [Act.put,sA,sZ,sS,i64_w];rfl
         clear hv1 V7 VD;have hb:=grown_below hg;replace VC:=am (Kd.R_below VC.out hb);replace VB:=am (Kd.R_below VB.out hb);replace BZ:=am (zb8 BZ.out hb);replace BQ:=am (zb8 BQ.out hb);replace HD:=am (HD.out.grow hb);clear BZc BQc;have BZc:=zc8 BZ.out;have BQc:=zc8 BQ.out;clear hb hg;have VX:=VX_0;clear VX_0;have HBI2:Aside0 (∀ z ∈ bs.set 0 [(⟨2, [], [1,y],0⟩:Act),(⟨1,ds, [],0⟩:Act)],z.length<=3/\∀ a ∈ z,Rd.ActIn a):=⟨fun z hz=>by rcases List.mem_or_eq_of_mem_set hz with hz | hz;exact HBI.out z hz;rw [hz];refine ⟨by simp,fun a ha=> ?_⟩;simp only [List.mem_cons,List.not_mem_nil,or_false] at ha;rcases ha with rfl|rfl;exact ⟨by simp,by simp⟩;exact ⟨HDS.out,by simp⟩⟩;clear hHeld HBI;have HBI:=HBI2;clear HBI2;have HLB2:Aside0 ((bs.set 0 [(⟨2, [], [1,y],0⟩:Act),(⟨1,ds, [],0⟩:Act)]).length=nb):=⟨by rw [List.length_set];exact HLB.out⟩;refine tail_ (fuel:=2) 14 (by kernel_rfl) ?_;simp only [List.drop_succ_cons,List.drop_zero]
         go_wp2_with (first
         |((with_reducible refine gate_store (t:=104) (p:=68) rfl ?_);obtain ⟨ce,hce,_,hcc2,_⟩:=Kd.R_elem VB.out [] (0:Int) (Int.le_refl 0) hlb;obtain ⟨cb9,hcb9⟩:=R_type VB.out gb rfl;refine Kd.R_store (w0:=_) (Kd.slice 108 kAct) w.heap.size rfl rfl 104 (.tmp 68) (.tmp 67) rfl 104 (0:Int) 0 bs [(⟨2, [], [1,y],0⟩:Act),(⟨1,ds, [],0⟩:Act)] (.slice ax 2 cx) [.slice ax 2 cx] ce (fun _=>True) (fun k=>k ≠ gb) rfl rfl rfl rfl (by kernel_rfl) (by simp [Value.oneCell']) VB.out (Int.le_refl 0) hlb hce hcc2 (Nat.le_refl _) (by rw [List.take_zero,List.nil_append,List.drop_eq_nil_of_le (by rw [hce];exact Nat.le_refl _),List.append_nil];exact ⟨_,rfl,Kd.R_mono (R_apart VX.out hcb9 (by decide)) (fun k hk=>hk.2)⟩) (fun k hk=>⟨trivial,hk⟩) (Below.refl _ _) ?_;intro wz ho hb6 hg;clear hb6;have VB_0:=am ho;replace HD:=am (HD.out.grown hg (fun k hk=>by cases hk;exact Kd.R_base VB.out gb rfl));replace VC:=am (Kd.R_over VC.out VB.out (by decide) hg);replace BQ:=am (blk_grown BQ.out hg (fun he=>Kd.R_ne VB.out BQ.out (by decide) he));replace BZ:=am (blk_grown BZ.out hg (fun he=>Kd.R_ne VB.out BZ.out (by decide) he));clear ho hg VB VX hcb9 hce hcc2 BQc BZc;have VB:=VB_0;clear VB_0)
         |((with_reducible refine gate_dst (N:=69) rfl ?_);refine wpList_load_mid rfl 48 (.tmp 4) rfl gq 0 rfl _ _ (lC BQ.out) Try.underlying48 rfl (by kernel_rfl) ?_))
         clear HLB;have HLB:=HLB2;clear HLB2;obtain ⟨bs2,hbs2⟩:∃ z,z=bs.set 0 [(⟨2, [], [1,y],0⟩:Act),(⟨1,ds, [],0⟩:Act)]:=⟨_,rfl⟩;rw [show Int.toNat 0=0 from rfl] at VB;rw [<-hbs2] at HLB HBI VB;have BQc:=zc8 BQ.out;have BZc:=zc8 BZ.out;clear hbs2;obtain ⟨l0,m0,g0⟩:=Kd.R_reads' VC.out;obtain ⟨l1,m1,g1⟩:=Kd.R_reads' VB.out;have HPK:Aside0 (kProg.K _ (⟨cs,bs2⟩:Prog) [.slice A lk cA,.slice (some ⟨gb,0,none⟩) lb cB]):=⟨by have h:=kProg_mk (⟨cs,bs2⟩:Prog) (by rw [<-l0];exact m0) g0 (by rw [<-l1];exact m1) g1;rw [show (⟨cs,bs2⟩:Prog).cells.length=lk from l0.symm,show (⟨cs,bs2⟩:Prog).bodies.length=lb from l1.symm] at h;exact h⟩;clear g0 g1 m0 m1;have HSZ:Aside0 (ProgSz (⟨cs,bs2⟩:Prog)):=⟨drawn_sz (by have:=HLC.out;have:=HNX.out;show cs.length<=4;omega) (by have:=HLB.out;have:=HNB.out;show bs2.length<=4;omega) HBI.out⟩;obtain ⟨bOK,hOK⟩:∃ x,progOk (⟨cs,bs2⟩:Prog)=x:=⟨_,rfl⟩;have OK:=am hOK;clear hOK
         cases bOK with
         | false=>
          go_wp2_with (first
          |((with_reducible refine gate_dst (N:=69) rfl ?_);refine wpList_load_mid rfl 48 (.tmp 4) rfl gq 0 rfl _ _ (lC BQ.out) Try.underlying48 rfl (by kernel_rfl) ?_)
          |(go_at_call 56;refine (progOk_calls _ _ _ HPK.out HSZ.out).mono ?_;rw [OK.out];rintro e wn ⟨rfl,hb⟩;clear HPK;replace VC:=am (Kd.R_below VC.out hb);replace VB:=am (Kd.R_below VB.out hb);replace BZ:=am (zb8 BZ.out hb);replace BQ:=am (zb8 BQ.out hb);replace HD:=am (HD.out.grow hb);clear BZc BQc;have BZc:=zc8 BZ.out;have BQc:=zc8 BQ.out;clear hb))
          have wi:=wrap_succ hlt (by decide);go_roundw
          case rel=>exact ⟨i+1,by omega,by go_num,_,HD,⟨by have:=HQ.out;omega⟩,BZ⟩
          case measure=>first | exact meas1 hlt | exact meas2 hlt wi
         | true=>
          go_wp2_with (first
          |((with_reducible refine gate_dst (N:=69) rfl ?_);refine wpList_load_mid rfl 48 (.tmp 4) rfl gq 0 rfl _ _ (lC BQ.out) Try.underlying48 rfl (by kernel_rfl) ?_)
          |(go_at_call 56;refine (progOk_calls _ _ _ HPK.out HSZ.out).mono ?_;rw [OK.out];rintro e wn ⟨rfl,hb⟩;clear HPK;replace VC:=am (Kd.R_below VC.out hb);replace VB:=am (Kd.R_below VB.out hb);replace BZ:=am (zb8 BZ.out hb);replace BQ:=am (zb8 BQ.out hb);replace HD:=am (HD.out.grow hb);clear BZc BQc;have BZc:=zc8 BZ.out;have BQc:=zc8 BQ.out;clear hb)
          |((with_reducible refine gate_dst (N:=71) rfl ?_);refine wpList_load_mid rfl 48 (.tmp 4) rfl gq 0 rfl _ _ (lC BQ.out) Try.underlying48 rfl (by kernel_rfl) ?_)
          |((with_reducible refine gate_store (t:=48) (p:=2) rfl ?_);refine store_block rfl rfl 48 (.tmp 2) (.tmp 71) rfl rfl rfl BZ.out rfl (by kernel_rfl) (aB rfl) ?_;intro wn hbox hg;have BZ_0:=am hbox;replace VC:=am (R_grownT VC.out BZ.out (by decide) hg);replace VB:=am (R_grownT VB.out BZ.out (by decide) hg);replace HD:=am (HD.out.grown hg (fun k hk=>by cases hk;exact LBZ.out));clear BZ BZc;have BZ:=BZ_0;clear BZ_0 hbox hg;have BZc:=zc8 BZ.out))
          refine bodyPost_ret (results_single Try.results53 (.cell gz 48 #[.slice A lk cA,.slice (some ⟨gb,0,none⟩) lb cB] (0,0) _ rfl BZ.out Try.underlying48 rfl (by kernel_rfl) .nil)) rfl ?_;exact ⟨(⟨cs,bs2⟩:Prog),_,_,_,rfl,OK.out,HSZ.out,(by have:=HLC.out;have:=HNX.out;show 1<=cs.length;omega),VC.out,VB.out,HD.out.rd,HQ.out.1,by have:=HQ.out.2;omega,HD.out.below,HD.out.keep⟩
       ·clear hz
        obtain ⟨l0,m0,g0⟩:=Kd.R_reads' VC.out;obtain ⟨l1,m1,g1⟩:=Kd.R_reads' VB.out;have HPK:Aside0 (kProg.K _ (⟨cs,bs⟩:Prog) [.slice A lk cA,.slice B lb cB]):=⟨by have h:=kProg_mk (⟨cs,bs⟩:Prog) (by rw [<-l0];exact m0) g0 (by rw [<-l1];exact m1) g1;rw [show (⟨cs,bs⟩:Prog).cells.length=lk from l0.symm,show (⟨cs,bs⟩:Prog).bodies.length=lb from l1.symm] at h;exact h⟩;clear g0 g1 m0 m1;have HSZ:Aside0 (ProgSz (⟨cs,bs⟩:Prog)):=⟨drawn_sz (by have:=HLC.out;have:=HNX.out;show cs.length<=4;omega) (by have:=HLB.out;have:=HNB.out;show bs.length<=4;omega) HBI.out⟩;obtain ⟨bOK,hOK⟩:∃ x,progOk (⟨cs,bs⟩:Prog)=x:=⟨_,rfl⟩;have OK:=am hOK;clear hOK
        cases bOK with
        | false=>
         go_wp2_with (first
         |((with_reducible refine gate_dst (N:=69) rfl ?_);refine wpList_load_mid rfl 48 (.tmp 4) rfl gq 0 rfl _ _ (lC BQ.out) Try.underlying48 rfl (by kernel_rfl) ?_)
         |(go_at_call 56;refine (progOk_calls _ _ _ HPK.out HSZ.out).mono ?_;rw [OK.out];rintro e wn ⟨rfl,hb⟩;clear HPK;replace VC:=am (Kd.R_below VC.out hb);replace VB:=am (Kd.R_below VB.out hb);replace BZ:=am (zb8 BZ.out hb);replace BQ:=am (zb8 BQ.out hb);replace HD:=am (HD.out.grow hb);clear BZc BQc;have BZc:=zc8 BZ.out;have BQc:=zc8 BQ.out;clear hb))
         have wi:=wrap_succ hlt (by decide);go_roundw
         case rel=>exact ⟨i+1,by omega,by go_num,_,HD,⟨by have:=HQ.out;omega⟩,BZ⟩
         case measure=>first | exact meas1 hlt | exact meas2 hlt wi
        | true=>
         go_wp2_with (first
         |((with_reducible refine gate_dst (N:=69) rfl ?_);refine wpList_load_mid rfl 48 (.tmp 4) rfl gq 0 rfl _ _ (lC BQ.out) Try.underlying48 rfl (by kernel_rfl) ?_)
         |(go_at_call 56;refine (progOk_calls _ _ _ HPK.out HSZ.out).mono ?_;rw [OK.out];rintro e wn ⟨rfl,hb⟩;clear HPK;replace VC:=am (Kd.R_below VC.out hb);replace VB:=am (Kd.R_below VB.out hb);replace BZ:=am (zb8 BZ.out hb);replace BQ:=am (zb8 BQ.out hb);replace HD:=am (HD.out.grow hb);clear BZc BQc;have BZc:=zc8 BZ.out;have BQc:=zc8 BQ.out;clear hb)
         |((with_reducible refine gate_dst (N:=71) rfl ?_);refine wpList_load_mid rfl 48 (.tmp 4) rfl gq 0 rfl _ _ (lC BQ.out) Try.underlying48 rfl (by kernel_rfl) ?_)
         |((with_reducible refine gate_store (t:=48) (p:=2) rfl ?_);refine store_block rfl rfl 48 (.tmp 2) (.tmp 71) rfl rfl rfl BZ.out rfl (by kernel_rfl) (aB rfl) ?_;intro wn hbox hg;have BZ_0:=am hbox;replace VC:=am (R_grownT VC.out BZ.out (by decide) hg);replace VB:=am (R_grownT VB.out BZ.out (by decide) hg);replace HD:=am (HD.out.grown hg (fun k hk=>by cases hk;exact LBZ.out));clear BZ BZc;have BZ:=BZ_0;clear BZ_0 hbox hg;have BZc:=zc8 BZ.out))
         refine bodyPost_ret (results_single Try.results53 (.cell gz 48 #[.slice A lk cA,.slice B lb cB] (0,0) _ rfl BZ.out Try.underlying48 rfl (by kernel_rfl) .nil)) rfl ?_;exact ⟨(⟨cs,bs⟩:Prog),_,_,_,rfl,OK.out,HSZ.out,(by have:=HLC.out;have:=HNX.out;show 1<=cs.length;omega),VC.out,VB.out,HD.out.rd,HQ.out.1,by have:=HQ.out.2;omega,HD.out.below,HD.out.keep⟩
  ·obtain rfl:i=10:=by omega
   go_wp2_with (first
   |((with_reducible refine gate_dst (N:=72) rfl ?_);refine Kd.R_lit (Kd.int .i64) (w0:=_) w.heap.size 3 rfl (N:=72) rfl (xs:=([1]:List Int)) (inner:= [.int .i64 1]) (ok:=(fun _=>True)) (okp:=(fun _=>True)) (by go_simp<;>rfl) (Reps.one rfl (Reps.none _ _)) (fun _ _=>trivial) trivial (Below.refl _ _) HD.out.size (by simp) ?_;intro v1 wl hv1 hb1 hg hx9;clear hb1 hx9;obtain ⟨a72,c72,ev⟩:=Kd.R_slice hv1;subst ev;have VC_0:=am (show (Kd.int .i64).R 3 wl w.heap.size (fun _=>True) (.slice a72 1 c72) ([1]:List Int) from hv1);clear hv1;have hb:=grown_below hg;replace BZ:=am (zb8 BZ.out hb);replace HD:=am (HD.out.grow hb);clear BZc;have BZc:=zc8 BZ.out;clear hb hg;have VC:=VC_0;clear VC_0)
   |((with_reducible refine gate_dst (N:=73) rfl ?_);refine Kd.R_lit (Kd.int .i64) (w0:=_) w.heap.size 3 rfl (N:=73) rfl (xs:=([1,1]:List Int)) (inner:= [.int .i64 1,.int .i64 1]) (ok:=(fun _=>True)) (okp:=(fun _=>True)) (by go_simp<;>rfl) (Reps.one rfl (Reps.one rfl (Reps.none _ _))) (fun _ _=>trivial) trivial (Below.refl _ _) HD.out.size (by simp) ?_;intro v1 wl hv1 hb1 hg hx9;clear hb1 hx9;obtain ⟨a73,c73,ev⟩:=Kd.R_slice hv1;subst ev;have V3_0:=am (show (Kd.int .i64).R 3 wl w.heap.size (fun _=>True) (.slice a73 2 c73) ([1,1]:List Int) from hv1);clear hv1;have hb:=grown_below hg;replace VC:=am (Kd.R_below VC.out hb);replace BZ:=am (zb8 BZ.out hb);replace HD:=am (HD.out.grow hb);clear BZc;have BZc:=zc8 BZ.out;clear hb hg;have V3:=V3_0;clear V3_0)
   |((with_reducible refine gate_dst (N:=75) rfl ?_);refine Kd.R_lit kAct (w0:=_) w.heap.size 108 rfl (N:=75) rfl (xs:=([(⟨2, [], [1,1],0⟩:Act)]:List Act)) (inner:= [.int .i64 2,.slice none 0 0,.slice a73 2 c73,.int .i64 0]) (ok:=(fun _=>True)) (okp:=(fun _=>True)) (by go_simp<;>rfl) (Reps.c4 (kAct_mkM (⟨2, [], [1,1],0⟩:Act) (Kd.R_nil _ _ _ _ _) V3.out) (Reps.none _ _)) (fun _ _=>trivial) trivial (Below.refl _ _) HD.out.size (by simp) ?_;intro v1 wl hv1 hb1 hg hx9;clear hb1 hx9;obtain ⟨a75,c75,ev⟩:=Kd.R_slice hv1;subst ev;have V5_0:=am (show kAct.R 108 wl w.heap.size (fun _=>True) (.slice a75 1 c75) ([(⟨2, [], [1,1],0⟩:Act)]:List Act) from hv1);clear hv1;have hb:=grown_below hg;replace VC:=am (Kd.R_below VC.out hb);replace V3:=am (Kd.R_below V3.out hb);replace BZ:=am (zb8 BZ.out hb);replace HD:=am (HD.out.grow hb);clear BZc;have BZc:=zc8 BZ.out;clear hb hg;have V5:=V5_0;clear V5_0)
   |((with_reducible refine gate_dst (N:=79) rfl ?_);refine Kd.R_lit kDeed (w0:=_) w.heap.size 111 rfl (N:=79) rfl (xs:=([⟨1,0,0⟩,⟨4,0,0⟩,⟨2,0,0⟩]:List Deed)) (inner:= [.int .i64 1,.int .i64 0,.int .i64 0,.int .i64 4,.int .i64 0,.int .i64 0,.int .i64 2,.int .i64 0,.int .i64 0]) (ok:=(fun _=>True)) (okp:=(fun _=>True)) (by go_simp<;>rfl) (Reps.c3 (kDeed_mkM (⟨1,0,0⟩:Deed)) (Reps.c3 (kDeed_mkM (⟨4,0,0⟩:Deed)) (Reps.c3 (kDeed_mkM (⟨2,0,0⟩:Deed)) (Reps.none _ _)))) (fun _ _=>trivial) trivial (Below.refl _ _) HD.out.size (by simp) ?_;intro v1 wl hv1 hb1 hg hx9;clear hb1 hx9;obtain ⟨a79,c79,ev⟩:=Kd.R_slice hv1;subst ev;have V9_0:=am (show kDeed.R 111 wl w.heap.size (fun _=>True) (.slice a79 3 c79) ([⟨1,0,0⟩,⟨4,0,0⟩,⟨2,0,0⟩]:List Deed) from hv1);clear hv1;have hb:=grown_below hg;replace VC:=am (Kd.R_below VC.out hb);replace V5:=am (Kd.R_below V5.out hb);replace BZ:=am (zb8 BZ.out hb);replace HD:=am (HD.out.grow hb);clear BZc;have BZc:=zc8 BZ.out;clear hb hg;have V9:=V9_0;clear V9_0)
   |((with_reducible refine gate_dst (N:=81) rfl ?_);refine Kd.R_lit kAct (w0:=_) w.heap.size 108 rfl (N:=81) rfl (xs:=([(⟨1, [⟨1,0,0⟩,⟨4,0,0⟩,⟨2,0,0⟩], [],0⟩:Act)]:List Act)) (inner:= [.int .i64 1,.slice a79 3 c79,.slice none 0 0,.int .i64 0]) (ok:=(fun _=>True)) (okp:=(fun _=>True)) (by go_simp<;>rfl) (Reps.c4 (kAct_mkM (⟨1, [⟨1,0,0⟩,⟨4,0,0⟩,⟨2,0,0⟩], [],0⟩:Act) V9.out (Kd.R_nil _ _ _ _ _)) (Reps.none _ _)) (fun _ _=>trivial) trivial (Below.refl _ _) HD.out.size (by simp) ?_;intro v1 wl hv1 hb1 hg hx9;clear hb1 hx9;obtain ⟨a81,c81,ev⟩:=Kd.R_slice hv1;subst ev;have V1_0:=am (show kAct.R 108 wl w.heap.size (fun _=>True) (.slice a81 1 c81) ([(⟨1, [⟨1,0,0⟩,⟨4,0,0⟩,⟨2,0,0⟩], [],0⟩:Act)]:List Act) from hv1);clear hv1;have hb:=grown_below hg;replace VC:=am (Kd.R_below VC.out hb);replace V5:=am (Kd.R_below V5.out hb);replace V9:=am (Kd.R_below V9.out hb);replace BZ:=am (zb8 BZ.out hb);replace HD:=am (HD.out.grow hb);clear BZc;have BZc:=zc8 BZ.out;clear hb hg;have V1:=V1_0;clear V1_0)
   |((with_reducible refine gate_dst (N:=82) rfl ?_);refine Kd.R_lit (Kd.slice 108 kAct) (w0:=_) w.heap.size 104 rfl (N:=82) rfl (xs:=([[(⟨2, [], [1,1],0⟩:Act)], [(⟨1, [⟨1,0,0⟩,⟨4,0,0⟩,⟨2,0,0⟩], [],0⟩:Act)]]:List (List Act))) (inner:= [.slice a75 1 c75,.slice a81 1 c81]) (ok:=(fun _=>True)) (okp:=(fun _=>True)) (by go_simp<;>rfl) (Reps.one ⟨_,rfl,V5.out⟩ (Reps.one ⟨_,rfl,V1.out⟩ (Reps.none _ _))) (fun _ _=>trivial) trivial (Below.refl _ _) HD.out.size (by simp) ?_;intro v1 wl hv1 hb1 hg hx9;clear hb1 hx9;obtain ⟨a82,c82,ev⟩:=Kd.R_slice hv1;subst ev;have VB_0:=am (show (Kd.slice 108 kAct).R 104 wl w.heap.size (fun _=>True) (.slice a82 2 c82) ([[(⟨2, [], [1,1],0⟩:Act)], [(⟨1, [⟨1,0,0⟩,⟨4,0,0⟩,⟨2,0,0⟩], [],0⟩:Act)]]:List (List Act)) from hv1);clear hv1;have hb:=grown_below hg;replace VC:=am (Kd.R_below VC.out hb);replace BZ:=am (zb8 BZ.out hb);replace HD:=am (HD.out.grow hb);clear BZc;have BZc:=zc8 BZ.out;clear hb hg;have VB:=VB_0;clear VB_0)
   |((with_reducible refine gate_store (t:=48) (p:=2) rfl ?_);refine store_block rfl rfl 48 (.tmp 2) (.tmp 83) rfl rfl rfl BZ.out rfl (by kernel_rfl) (aB rfl) ?_;intro wn hbox hg;have BZ_0:=am hbox;replace VC:=am (R_grownT VC.out BZ.out (by decide) hg);replace VB:=am (R_grownT VB.out BZ.out (by decide) hg);replace HD:=am (HD.out.grown hg (fun k hk=>by cases hk;exact LBZ.out));clear BZ BZc;have BZ:=BZ_0;clear BZ_0 hbox hg;have BZc:=zc8 BZ.out))
   refine bodyPost_ret (results_single Try.results53 (.cell gz 48 #[.slice a72 1 c72,.slice a82 2 c82] (0,0) _ rfl BZ.out Try.underlying48 rfl (by kernel_rfl) .nil)) rfl ?_;exact ⟨(⟨[1], [[(⟨2, [], [1,1],0⟩:Act)], [(⟨1, [⟨1,0,0⟩,⟨4,0,0⟩,⟨2,0,0⟩], [],0⟩:Act)]]⟩:Prog),_,_,_,rfl,lit_ok,lit_sz,(by decide),VC.out,VB.out,HD.out.rd,HQ.out.1,by have:=HQ.out.2;omega,HD.out.below,HD.out.keep⟩
end Go.Proofs.Ytimamoimphjakaa.Eq
namespace Go.Proofs.Ytimamoimphjakaa.Eq
section
variable {s:Sys} {i:Nat}
theorem way_len (w:Int):(setWay s i w).tasks.length=s.tasks.length:=set_len _ _ _
theorem toStage_len (w:Int):(toStage s i w).tasks.length=s.tasks.length:=set_len _ _ _
theorem done_len (w:Int):(done s i w).tasks.length=s.tasks.length:=set_len _ _ _
theorem load_len (d:Deed):(load s i d).tasks.length=s.tasks.length:=by
 unfold load;simp only [];split
 ·exact set_len _ _ _
 ·split
  ·exact again_len
  ·exact set_len _ _ _
theorem deed_len (ds:List Deed):(deed s i ds).tasks.length=s.tasks.length:=by
 unfold deed;simp only [];split
 ·split
  ·exact done_len _
  ·exact toStage_len _
 ·split
  ·exact load_len _
  ·split
   ·exact set_len _ _ _
   ·split
    ·exact (set_len _ _ _).trans again_len
    ·exact set_len _ _ _
theorem lock_len:(lock s i).tasks.length=s.tasks.length:=by
 unfold lock;simp only [];split
 ·exact again_len
 ·exact set_len _ _ _
theorem check_len:(check s i).tasks.length=s.tasks.length:=by
 unfold check;simp only [];split
 ·exact toStage_len _
 ·split
  ·exact again_len
  ·exact set_len _ _ _
theorem try_len (ds:List Deed):(try_ s i ds).tasks.length=s.tasks.length:=by
 unfold try_;repeat' split
 ·exact set_len _ _ _
 ·exact deed_len _
 ·exact lock_len
 ·exact set_len _ _ _
 ·exact check_len
 ·exact write_len
theorem awaits_len:(awaits s i).tasks.length=s.tasks.length:=by
 unfold awaits;split
 ·exact set_len _ _ _
 ·exact (way_len _).trans offs_len
theorem step_len (p:Prog):s.tasks.length<=(step p s i).tasks.length:=by
 unfold step;simp only [];repeat' split
 ·exact Nat.le_of_eq awaits_len.symm
 ·exact Nat.le_of_eq (way_len _).symm
 ·exact Nat.le_of_eq (try_len _).symm
 ·rw [fork_len];omega
 ·exact Nat.le_of_eq (way_len _).symm
 ·exact Nat.le_of_eq (set_len _ _ _).symm
end
theorem turn_len (p:Prog) (s:Sys) (k:Int):s.tasks.length<=(turn p s k).tasks.length:=by
 unfold turn;split
 ·exact step_len p
 ·exact Nat.le_refl _
theorem turns_len (p:Prog):∀ (ks:List Int) (s:Sys),s.tasks.length<=(turns p s ks).tasks.length
 | [],s=>Nat.le_refl _
 | k :: ks,s=>Nat.le_trans (turn_len p s k) (turns_len p ks _)
theorem Inv.sysSz {p:Prog} {s:Sys} {N:Nat} (h:Inv p s N) (hN:N<=1000000):SysSz s where
 cells:=Nat.le_trans h.cn (by decide)
 tasks:=Nat.le_trans h.many (by omega)
 log:=by have:=h.room;omega
 task:=fun i hi=>⟨by rw [show (taskAt s.tasks i).regs.length=3 from (h.task i hi).regs.len];decide,by rw [show (taskAt s.tasks i).old.length=3 from (h.task i hi).old.len];decide,Nat.le_trans (h.reads hi) (by decide),Nat.le_trans (h.puts hi) (by decide)⟩
 logs:=fun i hi=>by
  have:=h.logs (entryAt s.log i) (by simp [entryAt,List.getD_eq_getElem?_getD,List.getElem?_eq_getElem hi])
  exact ⟨by omega,by omega⟩
end Go.Proofs.Ytimamoimphjakaa.Eq
namespace Go.Proofs.Ytimamoimphjakaa.Eq
open Go.RowKit Go.Proofs.YtimamoimphjakaaW.PrintWords Go.Proofs.YtimamoimphjakaaW.PrintLast Go.Proofs.YtimamoimphjakaaW.PrintMore
theorem prog_K {W:World} {base:Nat} {p:Prog} {vc vb:Value} (h1:(Kd.int .i64).R 3 W base (fun _=>True) vc p.cells) (h2:(Kd.slice 108 kAct).R 104 W base (fun _=>True) vb p.bodies):kProg.K W p [vc,vb]:=by
 obtain ⟨A0,c0,rfl,l0,g0⟩:=Kd.R_reads h1;obtain ⟨A1,c1,rfl,l1,g1⟩:=Kd.R_reads h2;exact kProg_mk p l0 g0 l1 g1
theorem rows_K {W:World} {base:Nat} {p:Prog} {vc vt vl:Value} (h1:kCell.R 53 W base (fun _=>True) vc (sysNew p).cells) (h2:kTask.R 38 W base (fun _=>True) vt (sysNew p).tasks) (h3:kEntry.R 119 W base (fun _=>True) vl (sysNew p).log):kSys.K W (sysNew p) [vc,vt,.int .i64 0,vl]:=SysRows.read ⟨h1,h2,h3⟩
def SysPost (w0 w:World) (g:Nat) (b:List Int) (q0:Int) (e:Ending) (w':World):Prop:=∃ (p:Prog) (s:Sys) (vc vb sc st sl:Value) (own:Nat->Nat) (q:Int) (N:Nat),e= .returned (.tuple #[.agg #[vc,vb],.agg #[sc,st,.int .i64 s.clock,sl]])/\progOk p=true/\ProgSz p/\1<=p.cells.length/\(Kd.int .i64).R 3 w' w.heap.size (fun _=>True) vc p.cells/\(Kd.slice 108 kAct).R 104 w' w.heap.size (fun _=>True) vb p.bodies/\Inv p s N/\N<=500/\1<=s.tasks.length/\Sy w.heap.size own s sc st sl w'/\Rds w0 w g b q w'/\q0<=q/\q<=q0+7000
theorem l71Sys_calls (w0 w:World) (g:Nat) (b:List Int) (q0:Int) (hI:Rd.IsS101 w0 w g b q0) (hB:Below w0.heap.size w0 w) (hc:Rd.Code b) (h0:0<=q0) (h1:q0<=500000):
  Calls Try.prog 84 #[.pointer (some ⟨g,0,none⟩)] w fun e w'=>SysPost w0 w g b q0 e w':=by
 have HD:=am (Rds.start hI hB h0);have HC:=am hc;have HQ0:=am h1;have HQ:=am (show q0<=q0/\q0<=q0 from ⟨Int.le_refl _,Int.le_refl _⟩);clear hI hB hc h0 h1;go_enter Try.func84,Try.ntmps84
 go_wp2_with (first
 |((with_reducible refine gate_dst (N:=2) rfl ?_);refine box_event rfl (N:=2) rfl (t:=48) (by go_simp<;>rfl) ?_;intro gz hg0 wn hbox hb;have BZ_0:=am hbox;have LBZ:=am (show w.heap.size<=gz from Nat.le_trans HD.out.size (Nat.le_of_eq hg0.symm));clear hbox hg0;replace HD:=am (HD.out.grow hb);clear hb;have BZ:=BZ_0;clear BZ_0;have BZc:=zc8 BZ.out)
 |((with_reducible refine gate_dst (N:=3) rfl ?_);refine box_event rfl (N:=3) rfl (t:=27) (by go_simp<;>rfl) ?_;intro gy hg0 wn hbox hb;have BY_0:=am hbox;have LBY:=am (show w.heap.size<=gy from Nat.le_trans HD.out.size (Nat.le_of_eq hg0.symm));have NBZBY:=am (show gz ≠ gy from fun he=>by have:=blk_lt BZ.out;omega);clear hbox hg0;replace BZ:=am (zb8 BZ.out hb);replace HD:=am (HD.out.grow hb);clear BZc;have BZc:=zc8 BZ.out;clear hb;have BY:=BY_0;clear BY_0;have BYc:=zc8 BY.out)
 |(go_at_call 53;refine (l71Prog_calls w0 _ g b q0 HD.out.rd HD.out.below HC.out HD.out.pos HQ0.out).mono ?_;rintro e wn ⟨p,vc,vb,q2,rfl,hok,hsz,hcl,hvc,hvb,hi,hq2,hq3,hbl,hk⟩;replace HQ:=am (show q0<=q2/\q2<=q0+5000 from ⟨hq2,hq3⟩);have hd:=HD.out.next hi hbl hk (Int.le_trans HD.out.pos hq2);have LW:=HD.out.size;clear hi hbl;clear hq2 hq3;replace BZ:=am (HD.out.blkK hk BZ.out (by decide));replace BY:=am (HD.out.blkK hk BY.out (by decide));replace HD:=am (hd);clear BZc BYc;have BZc:=zc8 BZ.out;have BYc:=zc8 BY.out;clear hk hd;obtain ⟨A,cA,ev⟩:=Kd.R_slice hvc;subst ev;obtain ⟨B,cB,ev⟩:=Kd.R_slice hvb;subst ev;obtain ⟨lk,hlk⟩:∃ z:Nat,z=p.cells.length:=⟨_,rfl⟩;obtain ⟨lb,hlb⟩:∃ z:Nat,z=p.bodies.length:=⟨_,rfl⟩;rw [<-hlk] at hvc;rw [<-hlb] at hvb;rw [<-hlk,<-hlb];have VC:=am (Kd.R_lower hvc LW);have VB:=am (Kd.R_lower hvb LW);have LK:=am hlk;have LB:=am hlb;have OK:=am hok;have HSZ:=am hsz;have HCL:=am hcl;clear hvc hvb LW hlk hlb hok hsz hcl)
 |((with_reducible refine gate_dst (N:=4) rfl ?_);refine box_event rfl (N:=4) rfl (t:=48) (by go_simp<;>rfl) ?_;intro gp hg0 wn hbox hb;have BP_0:=am hbox;have LBP:=am (show w.heap.size<=gp from Nat.le_trans HD.out.size (Nat.le_of_eq hg0.symm));have NBZBP:=am (show gz ≠ gp from fun he=>by have:=blk_lt BZ.out;omega);clear hbox hg0;replace VC:=am (Kd.R_below VC.out hb);replace VB:=am (Kd.R_below VB.out hb);replace BZ:=am (zb8 BZ.out hb);replace BY:=am (zb8 BY.out hb);replace HD:=am (HD.out.grow hb);clear BZc BYc;have BZc:=zc8 BZ.out;have BYc:=zc8 BY.out;clear hb;have BP:=BP_0;clear BP_0;have BPc:=zc8 BP.out)
 |((with_reducible refine gate_store (t:=48) (p:=4) rfl ?_);refine store_block rfl rfl 48 (.tmp 4) (.tmp 8) rfl rfl rfl BP.out rfl (by kernel_rfl) (aB rfl) ?_;intro wn hbox hg;have BP_0:=am hbox;replace VC:=am (R_grownT VC.out BP.out (by decide) hg);replace VB:=am (R_grownT VB.out BP.out (by decide) hg);replace BZ:=am (blk_grown BZ.out hg (fun he=>NBZBP.out (by injection he)));replace BY:=am (blk_grown BY.out hg (fun he=>blk_ne BY.out BP.out (by decide) (by injection he)));replace HD:=am (HD.out.grown hg (fun k hk=>by cases hk;exact LBP.out));clear BP BZc BYc BPc;have BP:=BP_0;clear BP_0 hbox hg;have BZc:=zc8 BZ.out;have BYc:=zc8 BY.out;have BPc:=zc8 BP.out)
 |((with_reducible refine gate_dst (N:=10) rfl ?_);refine wpList_load_mid rfl 48 (.tmp 4) rfl gp 0 rfl _ _ (lC BP.out) Try.underlying48 rfl (by kernel_rfl) ?_)
 |(go_at_call 117;refine (sysNew_aux p _ true _ (prog_K VC.out VB.out) HSZ.out OK.out).mono ?_;rintro e wn ⟨nc,nt,nl,rfl,hb,hk1,-⟩;obtain ⟨hw1,hw2,hw3⟩:=hk1 rfl;clear hk1;obtain ⟨Z0,k0,ev⟩:=Kd.R_slice hw1;subst ev;obtain ⟨Z1,k1,ev⟩:=Kd.R_slice hw2;subst ev;obtain ⟨Z3,k3,ev⟩:=Kd.R_slice hw3;subst ev;obtain ⟨z0,hz0⟩:∃ z:Nat,z=(sysNew p).cells.length:=⟨_,rfl⟩;obtain ⟨z1,hz1⟩:∃ z:Nat,z=(sysNew p).tasks.length:=⟨_,rfl⟩;obtain ⟨z3,hz3⟩:∃ z:Nat,z=(sysNew p).log.length:=⟨_,rfl⟩;rw [<-hz0] at hw1;rw [<-hz1] at hw2;rw [<-hz3] at hw3;rw [<-hz0,<-hz1,<-hz3];have LW:=HD.out.size;have WC:=am (Kd.R_lower hw1 LW);have WT:=am (Kd.R_lower hw2 LW);have WL:=am (Kd.R_lower hw3 LW);clear hw1 hw2 hw3 LW hz0 hz1 hz3;replace VC:=am (Kd.R_below VC.out hb);replace VB:=am (Kd.R_below VB.out hb);replace BZ:=am (zb8 BZ.out hb);replace BY:=am (zb8 BY.out hb);replace BP:=am (zb8 BP.out hb);replace HD:=am (HD.out.grow hb);clear BZc BYc BPc;have BZc:=zc8 BZ.out;have BYc:=zc8 BY.out;have BPc:=zc8 BP.out;clear hb)
 |((with_reducible refine gate_dst (N:=5) rfl ?_);refine box_event rfl (N:=5) rfl (t:=27) (by go_simp<;>rfl) ?_;intro gs hg0 wn hbox hb;have BS_0:=am hbox;have LBS:=am (show w.heap.size<=gs from Nat.le_trans HD.out.size (Nat.le_of_eq hg0.symm));have NBYBS:=am (show gy ≠ gs from fun he=>by have:=blk_lt BY.out;omega);clear hbox hg0;replace VC:=am (Kd.R_below VC.out hb);replace VB:=am (Kd.R_below VB.out hb);replace WC:=am (Kd.R_below WC.out hb);replace WT:=am (Kd.R_below WT.out hb);replace WL:=am (Kd.R_below WL.out hb);replace BZ:=am (zb8 BZ.out hb);replace BY:=am (zb8 BY.out hb);replace BP:=am (zb8 BP.out hb);replace HD:=am (HD.out.grow hb);clear BZc BYc BPc;have BZc:=zc8 BZ.out;have BYc:=zc8 BY.out;have BPc:=zc8 BP.out;clear hb;have BS:=BS_0;clear BS_0;have BSc:=zc8 BS.out)
 |((with_reducible refine gate_store (t:=27) (p:=5) rfl ?_);refine store_block rfl rfl 27 (.tmp 5) (.tmp 12) rfl rfl rfl BS.out rfl (by kernel_rfl) (aB rfl) ?_;intro wn hbox hg;have BS_0:=am hbox;replace VC:=am (R_grownT VC.out BS.out (by decide) hg);replace VB:=am (R_grownT VB.out BS.out (by decide) hg);replace WC:=am (R_grownT WC.out BS.out (by decide) hg);replace WT:=am (R_grownT WT.out BS.out (by decide) hg);replace WL:=am (R_grownT WL.out BS.out (by decide) hg);replace BZ:=am (blk_grown BZ.out hg (fun he=>blk_ne BZ.out BS.out (by decide) (by injection he)));replace BY:=am (blk_grown BY.out hg (fun he=>NBYBS.out (by injection he)));replace BP:=am (blk_grown BP.out hg (fun he=>blk_ne BP.out BS.out (by decide) (by injection he)));replace HD:=am (HD.out.grown hg (fun k hk=>by cases hk;exact LBS.out));clear BS BZc BYc BPc BSc;have BS:=BS_0;clear BS_0 hbox hg;have BZc:=zc8 BZ.out;have BYc:=zc8 BY.out;have BPc:=zc8 BP.out;have BSc:=zc8 BS.out))
 refine st9 (n:=12) (S:=fun W=>W.heap[gp]? = some (.cells #[.slice A lk cA,.slice B lb cB] 48 (0,0))/\W.heap[gs]? = some (.cells #[.slice Z0 z0 k0,.slice Z1 z1 k1,.int .i64 0,.slice Z3 z3 k3] 27 (0,0))) (ds:= [11]) (by kernel_rfl) rfl ⟨blk_drew BP.out,blk_drew BS.out⟩ (fun hHeld=> ?_);have hb:=below_drew (Below.refl wn.heap.size wn);generalize wn.drew=w7 at hb hHeld ⊢;replace VC:=am (Kd.R_below VC.out hb);replace VB:=am (Kd.R_below VB.out hb);replace WC:=am (Kd.R_below WC.out hb);replace WT:=am (Kd.R_below WT.out hb);replace WL:=am (Kd.R_below WL.out hb);replace BZ:=am (zb8 BZ.out hb);replace BY:=am (zb8 BY.out hb);replace BP:=am (zb8 BP.out hb);replace BS:=am (zb8 BS.out hb);replace HD:=am (HD.out.grow hb);clear BZc BYc BPc BSc;have BZc:=zc8 BZ.out;have BYc:=zc8 BY.out;have BPc:=zc8 BP.out;have BSc:=zc8 BS.out;clear hb;refine ba9 (fuel:=8) (n:=4) [0,1,2,3] (by kernel_rfl) (fun N _ _ _ _ h=>by cases N <;> exact h) hHeld ?_
 iterate 4 (
  refine stillS_step (v:= ?_) (a':= ?_) rfl (Or.inl ⟨by rfl, ?_⟩) ?_ ?_;rotate_left
  ·rintro W ⟨s0,s1⟩
   have t0:=zc8 s0;have t1:=zc8 s1;clear s0 s1;go_simp;with_reducible rfl
  rotate_left
  ·simp only [Act.put,sA,sZ,sS,i64_w]
   rfl)
 refine stillS_nil ?_;refine on9 (i:=4) (N:=some 19) rfl rfl (by kernel_rfl) (by decide) (fun K hK=> ?_);refine goes_ Try.func49 (by kernel_rfl) rfl #[.pointer (some ⟨g,0,none⟩),.int .i64 120] (by rfl) rfl rfl (by (try simp only [List.map_toArray,List.map_cons,List.map_nil]);first | done | rfl) ?_;refine (pick_rds HD.out HC.out (by have:=HQ.out;have:=HQ0.out;omega) 120).mono ?_;rintro e wa ⟨x,q2,rfl,hx,hq2,hd,hk⟩;refine ⟨_,rfl, ?_⟩;refine hK.out _ _ (⟨HD.out.blkK hk hHeld.1 (by decide),HD.out.blkK hk hHeld.2 (by decide)⟩) (fun hHeld=> ?_);clear hK K;refine norm_ (a':= ?_) ?_ ?_;rotate_left
 ·show Act.put _ (some 19) _=_
  simp only [Act.put,sA,sZ,sS,i64_w];rfl
 replace HQ:=am (show q0<=q2/\q2<=q0+5001 from by have:=HQ.out;(try have:=HNX.out);(try have:=HNB.out);omega);clear hq2;replace VC:=am (HD.out.rowK hk VC.out (by decide));replace VB:=am (HD.out.rowK hk VB.out (by decide));replace WC:=am (HD.out.rowK hk WC.out (by decide));replace WT:=am (HD.out.rowK hk WT.out (by decide));replace WL:=am (HD.out.rowK hk WL.out (by decide));replace BZ:=am (HD.out.blkK hk BZ.out (by decide));replace BY:=am (HD.out.blkK hk BY.out (by decide));replace BP:=am (HD.out.blkK hk BP.out (by decide));replace BS:=am (HD.out.blkK hk BS.out (by decide));replace HD:=am (hd);clear BZc BYc BPc BSc;have BZc:=zc8 BZ.out;have BYc:=zc8 BY.out;have BPc:=zc8 BP.out;have BSc:=zc8 BS.out;clear hk hd;have hx9:x<=119:=by omega
 clear hx;obtain ⟨y,hy⟩:∃ y:Int,y=10+(x:Int):=⟨_,rfl⟩;have wy:wrap64 y=y:=Rd.wrap_in (by omega) (by omega);have hy0:0<=y:=by omega
 have hy1:y<=190:=by omega
 clear hx9;refine ba9 (fuel:=6) (n:=1) [5] (by kernel_rfl) (fun N _ _ _ _ h=>by cases N <;> exact h) hHeld ?_;refine stillS_step (v:= ?_) (a':= ?_) rfl (Or.inl ⟨by rfl, ?_⟩) ?_ ?_;rotate_left
 ·intro W s0
  go_simp
  with_reducible rfl
 rotate_left
 ·simp only [Act.put,sA,sZ,sS,i64_w]
  rfl
 refine stillS_nil ?_;rw [<-hy];rw [wy];clear wy hy;refine on9 (i:=6) (N:=some 21) rfl rfl (by kernel_rfl) (by decide) (fun K hK=> ?_);refine goes_ Try.func118 (by kernel_rfl) rfl #[.pointer (some ⟨g,0,none⟩),.int .i64 y] (by rfl) rfl rfl (by (try simp only [List.map_toArray,List.map_cons,List.map_nil]);first | done | rfl) ?_;refine (turns_rds HD.out HC.out (by have:=HQ.out;have:=HQ0.out;omega) hy0 hy1).mono ?_;rintro e wb ⟨v,ks,q2,rfl,hv,hkl,hq2,hq3,hd,hk⟩;refine ⟨_,rfl, ?_⟩;refine hK.out _ _ (⟨HD.out.blkK hk hHeld.1 (by decide),HD.out.blkK hk hHeld.2 (by decide)⟩) (fun hHeld=> ?_);clear hK K;refine norm_ (a':= ?_) ?_ ?_;rotate_left
 ·show Act.put _ (some 21) _=_
  simp only [Act.put,sA,sZ,sS,i64_w];rfl
 replace HQ:=am (show q0<=q2/\q2<=q0+6001 from by have:=HQ.out;(try have:=HNX.out);(try have:=HNB.out);omega);clear hq2 hq3;replace VC:=am (HD.out.rowK hk VC.out (by decide));replace VB:=am (HD.out.rowK hk VB.out (by decide));replace WC:=am (HD.out.rowK hk WC.out (by decide));replace WT:=am (HD.out.rowK hk WT.out (by decide));replace WL:=am (HD.out.rowK hk WL.out (by decide));replace BZ:=am (HD.out.blkK hk BZ.out (by decide));replace BY:=am (HD.out.blkK hk BY.out (by decide));replace BP:=am (HD.out.blkK hk BP.out (by decide));replace BS:=am (HD.out.blkK hk BS.out (by decide));replace HD:=am (hd);clear BZc BYc BPc BSc;have BZc:=zc8 BZ.out;have BYc:=zc8 BY.out;have BPc:=zc8 BP.out;have BSc:=zc8 BS.out;clear hk hd;obtain ⟨Ak,ck,ev⟩:=Kd.R_slice hv;subst ev;have hKS:=(Kd.R_reads' hv).2.2;clear hv hy0 hy1;refine on9 (i:=7) (N:=some 22) rfl rfl (by kernel_rfl) (by decide) (fun K hK=> ?_);refine goes_ Try.func55 (by kernel_rfl) rfl #[.agg #[.slice A lk cA,.slice B lb cB],.agg #[.slice Z0 z0 k0,.slice Z1 z1 k1,.int .i64 0,.slice Z3 z3 k3],.slice Ak ks.length ck] (by rfl) rfl rfl (by (try simp only [List.map_toArray,List.map_cons,List.map_nil]);first | done | rfl) ?_;have hinv:=Inv.new OK.out;refine (sysRun_calls p _ (sysNew p) [.slice Z0 z0 k0,.slice Z1 z1 k1,.int .i64 0,.slice Z3 z3 k3] ks Ak ck _ (prog_K VC.out VB.out) (rows_K WC.out WT.out WL.out) HSZ.out (hinv.sysSz (by decide)) (by have:=hinv.room;have:=hinv.many;omega) hKS).mono ?_;rintro e wc ⟨ss,bb,rfl,hb,hbb,hyes,-⟩;refine ⟨_,rfl, ?_⟩;have hbt:bb=true:=by rw [hbb,sysOk_new OK.out,decide_eq_true (by omega:ks.length<=300)];rfl
 subst hbt;obtain ⟨own,uc0,ut0,ul0,rfl,hsy⟩:=hyes rfl;clear hyes hbb;have hiv:=hinv.turns ks;have htl:=turns_len p ks (sysNew p);have HN:Aside0 (1+2*ks.length<=500):=⟨by omega⟩;obtain ⟨sn,hsn⟩:∃ z,z=turns p (sysNew p) ks:=⟨_,rfl⟩;rw [<-hsn] at hsy hiv htl;rw [<-hsn];have HIV:=am hiv;have HTL:Aside0 (1<=sn.tasks.length):=⟨htl⟩;obtain ⟨Uc,uc,e1⟩:=Kd.R_slice hsy.cells;obtain ⟨Ut,ut,e2⟩:=Kd.R_slice hsy.tasks;obtain ⟨Ul,ul,e3⟩:=Kd.R_slice hsy.log;rw [zip_len] at e2;subst e1 e2 e3;have OZ:=am (hsy.low gz (blk_lt BZ.out));have OY:=am (hsy.low gy (blk_lt BY.out));have OS:=am (hsy.low gs (blk_lt BS.out));have HS:=am (hsy.lower HD.out.size);clear hsy hiv htl hinv hsn hKS hkl;refine hK.out _ _ (⟨zb8 hHeld.1 hb,zb8 hHeld.2 hb⟩) (fun hHeld=> ?_);clear hK K;refine norm_ (a':= ?_) ?_ ?_;rotate_left
 ·show Act.put _ (some 22) _=_
  simp only [Act.put,sA,sZ,sS,i64_w];rfl
 replace VC:=am (Kd.R_below VC.out hb);replace VB:=am (Kd.R_below VB.out hb);replace BZ:=am (zb8 BZ.out hb);replace BY:=am (zb8 BY.out hb);replace BP:=am (zb8 BP.out hb);replace BS:=am (zb8 BS.out hb);replace HD:=am (HD.out.grow hb);clear BZc BYc BPc BSc;have BZc:=zc8 BZ.out;have BYc:=zc8 BY.out;have BPc:=zc8 BP.out;have BSc:=zc8 BS.out;clear hb;refine ba9 (fuel:=2) (n:=2) [8,9] (by kernel_rfl) (fun N _ _ _ _ h=>by cases N <;> exact h) hHeld ?_
 iterate 2 (
  refine stillS_step (v:= ?_) (a':= ?_) rfl (Or.inl ⟨by rfl, ?_⟩) ?_ ?_;rotate_left
  ·intro W hW
   go_simp
   with_reducible rfl
  rotate_left
  ·simp only [Act.put,sA,sZ,sS,i64_w]
   rfl)
 refine stillS_nil ?_;obtain ⟨hbox,hg⟩:=setCells_blk (cs:= [.slice Uc sn.cells.length uc,.slice Ut sn.tasks.length ut,.int .i64 sn.clock,.slice Ul sn.log.length ul]) BS.out rfl;refine dead_store (i:=10) (j:=11) (N:=some 24) (fuel:=0) (a':= ?a2) (v:=.bool true) (w1:=wc.setCells gs 0 [.slice Uc sn.cells.length uc,.slice Ut sn.tasks.length ut,.int .i64 sn.clock,.slice Ul sn.log.length ul]) rfl rfl rfl (by kernel_rfl) (by decide) (fun _=>rfl) (fun _=>rfl) (by intro W;first|(go_simp;done)|(go_simp;rfl)) ?ha ?hj1 ?hj2 ?h
 case ha=>
  simp only [Act.put,sA,sZ,sS,i64_w];rfl
 case hj1=>exact fun K hK=>store_wp rfl 27 (.tmp 5) (.tmp 23) rfl rfl rfl BS.out rfl (by kernel_rfl) (aB rfl) hK
 case hj2=>exact fun K hK=>store_wp rfl 27 (.tmp 5) (.tmp 23) rfl rfl rfl BS.out rfl (by kernel_rfl) (aB rfl) hK
 case h=>
  clear hHeld;have BS_0:=am hbox;generalize wc.setCells gs 0 [.slice Uc sn.cells.length uc,.slice Ut sn.tasks.length ut,.int .i64 sn.clock,.slice Ul sn.log.length ul]=wz at hg hbox BS_0 ⊢;replace VC:=am (R_grownT VC.out BS.out (by decide) hg);replace VB:=am (R_grownT VB.out BS.out (by decide) hg);replace BZ:=am (blk_grown BZ.out hg (fun he=>blk_ne BZ.out BS.out (by decide) (by injection he)));replace BY:=am (blk_grown BY.out hg (fun he=>NBYBS.out (by injection he)));replace BP:=am (blk_grown BP.out hg (fun he=>blk_ne BP.out BS.out (by decide) (by injection he)));replace HS:=am (HS.out.move hg.size (fun q hq hl=>hg.block q hl (fun he=>hq (by injection he with he;rw [he];exact OS.out))));replace HD:=am (HD.out.grown hg (fun k hk=>by cases hk;exact LBS.out));clear BS BZc BYc BPc BSc;have BS:=BS_0;clear BS_0 hbox hg;have BZc:=zc8 BZ.out;have BYc:=zc8 BY.out;have BPc:=zc8 BP.out;have BSc:=zc8 BS.out;go_wp2;refine st9 (n:=4) (S:=fun W=>W.heap[gp]? = some (.cells #[.slice A lk cA,.slice B lb cB] 48 (0,0))/\W.heap[gs]? = some (.cells #[.slice Uc sn.cells.length uc,.slice Ut sn.tasks.length ut,.int .i64 sn.clock,.slice Ul sn.log.length ul] 27 (0,0))) (ds:= [3]) (by kernel_rfl) rfl ⟨blk_drew BP.out,blk_drew BS.out⟩ (fun hHeld=> ?_);have hb:=below_drew (Below.refl wz.heap.size wz);generalize wz.drew=w7 at hb hHeld ⊢;replace HS:=am (HS.out.grow hb);replace VC:=am (Kd.R_below VC.out hb);replace VB:=am (Kd.R_below VB.out hb);replace BZ:=am (zb8 BZ.out hb);replace BY:=am (zb8 BY.out hb);replace BP:=am (zb8 BP.out hb);replace BS:=am (zb8 BS.out hb);replace HD:=am (HD.out.grow hb);clear BZc BYc BPc BSc;have BZc:=zc8 BZ.out;have BYc:=zc8 BY.out;have BPc:=zc8 BP.out;have BSc:=zc8 BS.out;clear hb;refine ba9 (fuel:=3) (n:=1) [0] (by kernel_rfl) (fun N _ _ _ _ h=>by cases N <;> exact h) hHeld ?_
  iterate 1 (
   refine stillS_step (v:= ?_) (a':= ?_) rfl (Or.inl ⟨by rfl, ?_⟩) ?_ ?_;rotate_left
   ·rintro W ⟨s0,s1⟩
    have t0:=zc8 s0;have t1:=zc8 s1;clear s0 s1;go_simp;with_reducible rfl
   rotate_left
   ·simp only [Act.put,sA,sZ,sS,i64_w]
    rfl)
  refine stillS_nil ?_;refine tw9 (i:=1) (j:=2) (Ni:=some 26) (Nj:=none) rfl rfl rfl rfl (by kernel_rfl) (by decide) (by decide) (fun K hK=> ?_) (fun K hK=> ?_)
  ·have t1:=zc8 hHeld.2
   refine value_ (v:=.agg #[.slice Uc sn.cells.length uc,.slice Ut sn.tasks.length ut,.int .i64 sn.clock,.slice Ul sn.log.length ul]) (w1:=_) (by rfl) rfl (by go_simp<;>rfl) ?_;clear t1;refine hK.out _ _ (hHeld) (fun hHeld=> ?_);clear hK K;refine norm_ (a':= ?_) ?_ ?_;rotate_left
   ·show Act.put _ (some 26) _=_
    simp only [Act.put,sA,sZ,sS,i64_w];rfl
   refine on9 (i:=2) (N:=none) rfl rfl (by kernel_rfl) (by decide) (fun K hK=> ?_);obtain ⟨hbox,hg⟩:=setCells_blk (cs:= [.slice A lk cA,.slice B lb cB]) BZ.out rfl;rw [if_pos (by rfl)];refine store_wp rfl 48 (.tmp 2) (.tmp 25) rfl rfl rfl BZ.out rfl (by kernel_rfl) (aB rfl) ?_;generalize World.setCells _ gz 0 [.slice A lk cA,.slice B lb cB]=wy at hbox hg ⊢;refine hK.out _ _ ⟨blk_grown hHeld.1 hg (fun he=>Ne.symm NBZBP.out (by injection he)),blk_grown hHeld.2 hg (fun he=>blk_ne hHeld.2 BZ.out (by decide) (by injection he))⟩ (fun hHeld=> ?_);clear hK K;have BZ_0:=am hbox;replace VC:=am (R_grownT VC.out BZ.out (by decide) hg);replace VB:=am (R_grownT VB.out BZ.out (by decide) hg);replace BY:=am (blk_grown BY.out hg (fun he=>blk_ne BY.out BZ.out (by decide) (by injection he)));replace BP:=am (blk_grown BP.out hg (fun he=>Ne.symm NBZBP.out (by injection he)));replace BS:=am (blk_grown BS.out hg (fun he=>blk_ne BS.out BZ.out (by decide) (by injection he)));replace HS:=am (HS.out.move hg.size (fun q hq hl=>hg.block q hl (fun he=>hq (by injection he with he;rw [he];exact OZ.out))));replace HD:=am (HD.out.grown hg (fun k hk=>by cases hk;exact LBZ.out));clear BZ BZc BYc BPc BSc;have BZ:=BZ_0;clear BZ_0 hbox hg;have BZc:=zc8 BZ.out;have BYc:=zc8 BY.out;have BPc:=zc8 BP.out;have BSc:=zc8 BS.out;clear hHeld;refine tail_ (fuel:=1) 3 (by kernel_rfl) ?_;simp only [List.drop_succ_cons,List.drop_zero]
   go_wp2_with (first
   |((with_reducible refine gate_store (t:=27) (p:=3) rfl ?_);refine store_block rfl rfl 27 (.tmp 3) (.tmp 26) rfl rfl rfl BY.out rfl (by kernel_rfl) (aB rfl) ?_;intro wn hbox hg;have BY_0:=am hbox;replace VC:=am (R_grownT VC.out BY.out (by decide) hg);replace VB:=am (R_grownT VB.out BY.out (by decide) hg);replace BZ:=am (blk_grown BZ.out hg (fun he=>blk_ne BZ.out BY.out (by decide) (by injection he)));replace BP:=am (blk_grown BP.out hg (fun he=>blk_ne BP.out BY.out (by decide) (by injection he)));replace BS:=am (blk_grown BS.out hg (fun he=>Ne.symm NBYBS.out (by injection he)));replace HS:=am (HS.out.move hg.size (fun q hq hl=>hg.block q hl (fun he=>hq (by injection he with he;rw [he];exact OY.out))));replace HD:=am (HD.out.grown hg (fun k hk=>by cases hk;exact LBY.out));clear BY BZc BYc BPc BSc;have BY:=BY_0;clear BY_0 hbox hg;have BZc:=zc8 BZ.out;have BYc:=zc8 BY.out;have BPc:=zc8 BP.out;have BSc:=zc8 BS.out))
   refine bodyPost_ret (results_list (rs:= [.cell 2 48,.cell 3 27]) rfl (by simp) (.cell gz 48 #[.slice A lk cA,.slice B lb cB] (0,0) _ rfl BZ.out Try.underlying48 rfl (by kernel_rfl) (.cell gy 27 #[.slice Uc sn.cells.length uc,.slice Ut sn.tasks.length ut,.int .i64 sn.clock,.slice Ul sn.log.length ul] (0,0) _ rfl BY.out Try.underlying27 rfl (by kernel_rfl) .nil))) rfl ?_;exact ⟨p,sn,_,_,_,_,_,own,_,_,rfl,OK.out,HSZ.out,HCL.out,VC.out,VB.out,HIV.out,HN.out,HTL.out,HS.out,HD.out,HQ.out.1,by have:=HQ.out.2;omega⟩
  ·obtain ⟨hbox,hg⟩:=setCells_blk (cs:= [.slice A lk cA,.slice B lb cB]) BZ.out rfl
   rw [if_pos (by rfl)];refine store_wp rfl 48 (.tmp 2) (.tmp 25) rfl rfl rfl BZ.out rfl (by kernel_rfl) (aB rfl) ?_;generalize World.setCells _ gz 0 [.slice A lk cA,.slice B lb cB]=wy at hbox hg ⊢;refine hK.out _ _ ⟨blk_grown hHeld.1 hg (fun he=>Ne.symm NBZBP.out (by injection he)),blk_grown hHeld.2 hg (fun he=>blk_ne hHeld.2 BZ.out (by decide) (by injection he))⟩ (fun hHeld=> ?_);clear hK K;have BZ_0:=am hbox;replace VC:=am (R_grownT VC.out BZ.out (by decide) hg);replace VB:=am (R_grownT VB.out BZ.out (by decide) hg);replace BY:=am (blk_grown BY.out hg (fun he=>blk_ne BY.out BZ.out (by decide) (by injection he)));replace BP:=am (blk_grown BP.out hg (fun he=>Ne.symm NBZBP.out (by injection he)));replace BS:=am (blk_grown BS.out hg (fun he=>blk_ne BS.out BZ.out (by decide) (by injection he)));replace HS:=am (HS.out.move hg.size (fun q hq hl=>hg.block q hl (fun he=>hq (by injection he with he;rw [he];exact OZ.out))));replace HD:=am (HD.out.grown hg (fun k hk=>by cases hk;exact LBZ.out));clear BZ BZc BYc BPc BSc;have BZ:=BZ_0;clear BZ_0 hbox hg;have BZc:=zc8 BZ.out;have BYc:=zc8 BY.out;have BPc:=zc8 BP.out;have BSc:=zc8 BS.out;refine on9 (i:=1) (N:=some 26) rfl rfl (by kernel_rfl) (by decide) (fun K hK=> ?_);have t1:=zc8 hHeld.2;refine value_ (v:=.agg #[.slice Uc sn.cells.length uc,.slice Ut sn.tasks.length ut,.int .i64 sn.clock,.slice Ul sn.log.length ul]) (w1:=_) (by rfl) rfl (by go_simp<;>rfl) ?_;clear t1;refine hK.out _ _ (hHeld) (fun hHeld=> ?_);clear hK K;refine norm_ (a':= ?_) ?_ ?_;rotate_left
   ·show Act.put _ (some 26) _=_
    simp only [Act.put,sA,sZ,sS,i64_w];rfl
   clear hHeld;refine tail_ (fuel:=1) 3 (by kernel_rfl) ?_;simp only [List.drop_succ_cons,List.drop_zero]
   go_wp2_with (first
   |((with_reducible refine gate_store (t:=27) (p:=3) rfl ?_);refine store_block rfl rfl 27 (.tmp 3) (.tmp 26) rfl rfl rfl BY.out rfl (by kernel_rfl) (aB rfl) ?_;intro wn hbox hg;have BY_0:=am hbox;replace VC:=am (R_grownT VC.out BY.out (by decide) hg);replace VB:=am (R_grownT VB.out BY.out (by decide) hg);replace BZ:=am (blk_grown BZ.out hg (fun he=>blk_ne BZ.out BY.out (by decide) (by injection he)));replace BP:=am (blk_grown BP.out hg (fun he=>blk_ne BP.out BY.out (by decide) (by injection he)));replace BS:=am (blk_grown BS.out hg (fun he=>Ne.symm NBYBS.out (by injection he)));replace HS:=am (HS.out.move hg.size (fun q hq hl=>hg.block q hl (fun he=>hq (by injection he with he;rw [he];exact OY.out))));replace HD:=am (HD.out.grown hg (fun k hk=>by cases hk;exact LBY.out));clear BY BZc BYc BPc BSc;have BY:=BY_0;clear BY_0 hbox hg;have BZc:=zc8 BZ.out;have BYc:=zc8 BY.out;have BPc:=zc8 BP.out;have BSc:=zc8 BS.out))
   refine bodyPost_ret (results_list (rs:= [.cell 2 48,.cell 3 27]) rfl (by simp) (.cell gz 48 #[.slice A lk cA,.slice B lb cB] (0,0) _ rfl BZ.out Try.underlying48 rfl (by kernel_rfl) (.cell gy 27 #[.slice Uc sn.cells.length uc,.slice Ut sn.tasks.length ut,.int .i64 sn.clock,.slice Ul sn.log.length ul] (0,0) _ rfl BY.out Try.underlying27 rfl (by kernel_rfl) .nil))) rfl ?_;exact ⟨p,sn,_,_,_,_,_,own,_,_,rfl,OK.out,HSZ.out,HCL.out,VC.out,VB.out,HIV.out,HN.out,HTL.out,HS.out,HD.out,HQ.out.1,by have:=HQ.out.2;omega⟩
section
variable {B:Nat} {own:Nat->Nat} {s:Sys} {vc vt vl:Value} {W:World}
theorem Sy.setInt {b cap n:Nat} (h:Sy B own s vc (.slice (some ⟨b,0,none⟩) n cap) vl W) {i:Nat} (hi:i < s.tasks.length) (j:Nat) (hj:j < 13) (u:Int) (x':Task)
  (hx:∀ v3 v8 v9 v10,(cellsT (tk s i) v3 v8 v9 v10).take j ++ [.int .i64 u] ++ (cellsT (tk s i) v3 v8 v9 v10).drop (j+1)=cellsT x' v3 v8 v9 v10)
  (hs:x'.regs=(tk s i).regs/\x'.old=(tk s i).old/\x'.reads=(tk s i).reads/\x'.puts=(tk s i).puts):
  Sy B own (setTask s i x') vc (.slice (some ⟨b,0,none⟩) n cap) vl (W.setCell ⟨b,i*13+j,none⟩ (.int .i64 u))/\own b=3/\B<=b/\(∃ u,W.cell? ⟨b,i*13+j,none⟩=some u)/\W.frozen? ⟨b,i*13+j,none⟩=false:=by
 have hb3:own b=3:=h.town b rfl;have hb0:B<=b:=Nat.le_of_not_lt fun hlt=>by rw [h.low b hlt] at hb3;cases hb3
 have hn:=(Kd.R_reads' h.tasks).1;rw [zip_len] at hn;obtain ⟨c,_,hM,hc,hf⟩:=Kd.R_elem h.tasks (zTask,0) (i:Int) (by omega) (by omega);rw [Int.toNat_natCast] at hM hc hf;rw [zip_get hi] at hM;obtain ⟨u3,u8,u9,u10,rfl,h3,h8,h9,h10⟩:=kTaskO_open hM
 have hM2:(kTaskO own).M W B (fun k=>(own k=3\/8<=own k)/\k ≠ b) (x',i) ((cellsT (tk s i) u3 u8 u9 u10).take j ++ [.int .i64 u] ++ (cellsT (tk s i) u3 u8 u9 u10).drop (j+ [Value.int .i64 u].length)):=by
  rw [List.length_singleton,hx];exact kTaskO_mk x' i (by rw [hs.1];exact h3) (by rw [hs.2.1];exact h8) (by rw [hs.2.2.1];exact h9) (by rw [hs.2.2.2];exact h10)
 obtain ⟨hR,hG⟩:=Kd.R_seg (d:=kTaskO own) h.tasks (i:Int) (by omega) (by omega) (c:=cellsT (tk s i) u3 u8 u9 u10) (seg:= [.int .i64 u]) (j:=j) (x':=(x',i)) rfl (by rw [Int.toNat_natCast];exact hc) (by show j+1<=13;omega) hM2 (fun k hk=>hk);rw [Int.toNat_natCast,<-zip_set] at hR;rw [Int.toNat_natCast] at hG;have hfar:∀ k,own k ≠ 3->k < W.heap.size->(W.setCell ⟨b,i*13+j,none⟩ (.int .i64 u)).heap[k]? = W.heap[k]? :=fun k hk hl=>hG.block k hl (fun he=>hk (by injection he with he;rw [he];exact hb3))
 have h13:(cellsT (tk s i) u3 u8 u9 u10).length=13:=rfl;refine ⟨⟨h.low,fun k hk=>h.new0 k (Nat.le_trans hG.size hk),Kd.R_step h.cells (fun k hk hl=>hfar k (by omega) hl),hR,h.town,Kd.R_step h.log (fun k hk hl=>hfar k (by omega) hl)⟩,hb3,hb0,⟨_,hc j _ (List.getElem?_eq_getElem (by omega))⟩,hf j⟩
theorem Sy.tform (h:Sy B own s vc vt vl W) (hp:0 < s.tasks.length):∃ b cap,vt= .slice (some ⟨b,0,none⟩) s.tasks.length cap:=by
 obtain ⟨b,cap,e,-⟩:=Kd.R_form h.tasks (by rw [zip_len];exact hp);rw [zip_len] at e;exact ⟨b,cap,e⟩
theorem Sy.cform (h:Sy B own s vc vt vl W) (hp:0 < s.cells.length):∃ b cap,vc= .slice (some ⟨b,0,none⟩) s.cells.length cap:=by
 obtain ⟨b,cap,e,-⟩:=Kd.R_form h.cells hp;exact ⟨b,cap,e⟩
theorem Sy.setLock {b cap n:Nat} (h:Sy B own s (.slice (some ⟨b,0,none⟩) n cap) vt vl W) {i:Nat} (hi:i < s.cells.length) (u:Int):
  Sy B own (setCell s i {cellAt s.cells i with lock:=u}) (.slice (some ⟨b,0,none⟩) n cap) vt vl (W.setCell ⟨b,i*3+2,none⟩ (.int .i64 u))/\own b=2/\B<=b/\(∃ u,W.cell? ⟨b,i*3+2,none⟩=some u)/\W.frozen? ⟨b,i*3+2,none⟩=false:=by
 have hb3:own b=2:=h.cells.1 b rfl;have hb0:B<=b:=Nat.le_of_not_lt fun hlt=>by rw [h.low b hlt] at hb3;cases hb3
 have hn:=(Kd.R_reads' h.cells).1;obtain ⟨c,_,hM,hc,hf⟩:=Kd.R_elem h.cells zCell (i:Int) (by omega) (by omega);rw [Int.toNat_natCast] at hM hc hf;obtain rfl:=kCell_openM hM;obtain ⟨hR,hG⟩:=Kd.R_seg (d:=kCell) (okp:=fun _=>False) h.cells (i:Int) (by omega) (by omega) (seg:= [.int .i64 u]) (j:=2) rfl (by rw [Int.toNat_natCast];exact hc) (Nat.le_refl 3) (x':={cellAt s.cells i with lock:=u}) (kCell_mkM {cellAt s.cells i with lock:=u}) (fun k hk=>hk.elim);rw [Int.toNat_natCast] at hR hG;have hfar:∀ k,own k ≠ 2->k < W.heap.size->(W.setCell ⟨b,i*3+2,none⟩ (.int .i64 u)).heap[k]? = W.heap[k]? :=fun k hk hl=>hG.block k hl (fun he=>hk (by injection he with he;rw [he];exact hb3))
 exact ⟨⟨h.low,fun k hk=>h.new0 k (Nat.le_trans hG.size hk),hR,Kd.R_step h.tasks (fun k hk hl=>hfar k (by omega) hl),h.town,Kd.R_step h.log (fun k hk hl=>hfar k (by omega) hl)⟩,hb3,hb0,⟨_,hc 2 _ rfl⟩,hf 2⟩
end
theorem setCell_twice (W:World) (b o:Nat) (u v:Value):(W.setCell ⟨b,o,none⟩ u).setCell ⟨b,o,none⟩ v=W.setCell ⟨b,o,none⟩ v:=by
 unfold World.setCell
 congr 1
 apply Array.ext_getElem?;intro k;simp only [Array.getElem?_modify];by_cases hk:b=k
 ·subst hk
  simp only [if_true]
  cases W.heap[b]? with
  | none=>rfl
  | some x=>
   cases x <;> simp [Array.setIfInBounds_setIfInBounds]
 ·simp [hk]
section
variable {B:Nat} {own:Nat->Nat} {s:Sys} {vc vt vl:Value} {W W1:World}
theorem Sy.seg {b cap n:Nat} (h:Sy B own s vc (.slice (some ⟨b,0,none⟩) n cap) vl W) {i:Nat} (hi:i < s.tasks.length) {c seg:List Value} {j:Nat} {x':Task} (hcl:c.length=13)
  (hcc:∀ j u,c[j]? = some u->W.cell? ⟨b,i*13+j,none⟩=some u) (hj:j+seg.length<=13) (hM:(kTaskO own).M W B (fun k=>8<=own k) (x',i) (c.take j ++ seg ++ c.drop (j+seg.length))):
  Sy B own (setTask s i x') vc (.slice (some ⟨b,0,none⟩) n cap) vl (W.setCells b (i*13+j) seg):=by
 have hb3:own b=3:=h.town b rfl;have hn:=(Kd.R_reads' h.tasks).1;rw [zip_len] at hn;obtain ⟨hR,hG⟩:=Kd.R_seg (okp:=fun k=>8<=own k) h.tasks (i:Int) (by omega) (by omega) hcl (by rw [Int.toNat_natCast];exact hcc) hj hM (fun k hk=>⟨.inr hk,fun he=>by rw [he] at hk;omega⟩);rw [Int.toNat_natCast] at hR hG;have hsz:(W.setCells b (i*13+j) seg).heap.size=W.heap.size:=(setCells_same b seg _ W).2.2.2;have hfar:∀ k,own k ≠ 3->(W.setCells b (i*13+j) seg).heap[k]? = W.heap[k]? :=fun k hk=>setCells_far seg _ k (fun he=>hk (by rw [he];exact hb3))
 refine ⟨h.low,fun k hk=>h.new0 k (by omega),Kd.R_step h.cells (fun k hk _=>hfar k (by omega)), ?_,h.town,Kd.R_step h.log (fun k hk _=>hfar k (by omega))⟩;show (kTaskO own).R _ _ _ _ _ (s.tasks.set i x').zipIdx;rw [zip_set];exact hR
theorem Sy.task' {b cap n:Nat} (h:Sy B own s vc (.slice (some ⟨b,0,none⟩) n cap) vl W) {i:Nat} (hi:i < s.tasks.length):∃ v3 v8 v9 v10,
  (∀ j u,(cellsT (tk s i) v3 v8 v9 v10)[j]? = some u->W.cell? ⟨b,i*13+j,none⟩=some u)/\
  (∀ j,W.frozen? ⟨b,i*13+j,none⟩=false)/\(kTaskO own).M W B (fun k=>8<=own k) (tk s i,i) (cellsT (tk s i) v3 v8 v9 v10):=by
 have hn:=(Kd.R_reads' h.tasks).1;rw [zip_len] at hn;obtain ⟨c,_,hM,hc,hf⟩:=Kd.R_elem h.tasks (zTask,0) (i:Int) (by omega) (by omega);rw [Int.toNat_natCast] at hM hc hf;rw [zip_get hi] at hM;have hM':=kTaskO_ok hM;obtain ⟨v3,v8,v9,v10,rfl,h3,h8,h9,h10⟩:=kTaskO_open hM;exact ⟨v3,v8,v9,v10,hc,hf,hM'⟩
theorem Sy.setPuts {b cap n:Nat} (h:Sy B own s vc (.slice (some ⟨b,0,none⟩) n cap) vl W) {i:Nat} (hi:i < s.tasks.length) {v:Value} {xs:List Put} (hv:kPut.R 103 W B (fun k=>own k=11+8*i\/own k=0) v xs):
  Sy B (tagB own v.ownBlock (11+8*i)) (setTask s i {tk s i with puts:=xs}) vc (.slice (some ⟨b,0,none⟩) n cap) vl (W.setCell ⟨b,i*13+10,none⟩ v)/\∀ k,own k ≠ 0->tagB own v.ownBlock (11+8*i) k=own k:=by
 have hsame:∀ k,own k ≠ 0->tagB own v.ownBlock (11+8*i) k=own k:=fun k hk=>by
  by_cases he:v.ownBlock=some k
  ·rw [tagB_at he]
   rcases (R_in hv k he).1 with h3 | h3
   ·exact h3.symm
   ·exact absurd h3 hk
  ·exact tagB_off he
 have h1:=h.retag (own':=tagB own v.ownBlock (11+8*i))
  (fun k hk=>(tagB_off fun he=>by have:=(R_in hv k he).2.1;omega).trans (h.low k hk))
  (fun k hk=>(tagB_off fun he=>by have:=(R_in hv k he).2.2;omega).trans (h.new0 k hk)) hsame
 have hv1:=R_flat flat_put hv (ok':=fun k=>8<=tagB own v.ownBlock (11+8*i) k/\tagB own v.ownBlock (11+8*i) k=11+8*i) (fun k hk=>by rw [tagB_at hk];omega)
 obtain ⟨v3,v8,v9,v10,hc,_,hM⟩:=h1.task' hi;obtain ⟨u3,u8,u9,u10,he,h3,h8,h9,h10⟩:=kTaskO_open hM;simp only [cellsT,List.cons.injEq,true_and] at he;obtain ⟨rfl,rfl,rfl,rfl,-⟩:=he;exact ⟨h1.seg hi (c:=cellsT (tk s i) v3 v8 v9 v10) (seg:= [v]) (j:=10) (x':={tk s i with puts:=xs}) rfl hc (by simp) (kTaskO_mk {tk s i with puts:=xs} i h3 h8 h9 hv1),hsame⟩
theorem Sy.inner {b cap n:Nat} (h:Sy B own s vc (.slice (some ⟨b,0,none⟩) n cap) vl W) {i:Nat} (hi:i < s.tasks.length) {x':Task} (t:Nat) (ht:8+8*i<=t/\t < 16+8*i) (hm:∀ k,own k ≠ 0->own k ≠ t->W1.heap[k]? = W.heap[k]?)
  (hs:W.heap.size<=W1.heap.size)
  (hx:∀ cs,(∀ j u,cs[j]? = some u->W.cell? ⟨b,i*13+j,none⟩=some u)->(kTaskO own).M W B (fun k=>8<=own k) (tk s i,i) cs->(kTaskO own).M W1 B (fun k=>8<=own k) (x',i) cs):
  Sy B own (setTask s i x') vc (.slice (some ⟨b,0,none⟩) n cap) vl W1:=by
 have hb3:own b=3:=h.town b rfl;have hn:=(Kd.R_reads' h.tasks).1;rw [zip_len] at hn;refine ⟨h.low,fun k hk=>h.new0 k (by omega),Kd.R_step h.cells (fun k hk _=>hm k (by omega) (by omega)), ?_,h.town,Kd.R_step h.log (fun k hk _=>hm k (by omega) (by omega))⟩;show (kTaskO own).R _ _ _ _ _ (s.tasks.set i x').zipIdx;obtain ⟨h0,inner,ho,hr⟩:=h.tasks;rw [zip_set];refine ⟨h0,inner, ?_, ?_⟩
 ·rw [List.length_set]
  exact own_move ho (fun k hk=>hm k (by rw [h.town k hk];decide) (by rw [h.town k hk];omega))
 ·refine ⟨by rw [List.length_set];exact hr.1,fun j y hy=> ?_⟩
  rw [List.getElem?_set] at hy;split at hy
  ·rename_i hij
   subst hij;split at hy
   ·cases hy
    rename_i hlt;have hM:=hr.2 i _ (List.getElem?_eq_getElem hlt);have hz:s.tasks.zipIdx[i]=(tk s i,i):=zip_at (List.getElem?_eq_getElem hlt);rw [hz] at hM;refine (kTaskO own).M_mono (fun k hk=>⟨.inr hk,fun he=> ?_⟩) (hx _ (fun j u hu=> ?_) (kTaskO_ok hM))
    ·have:k=b:=by simpa [Value.ownBlock] using he
     rw [this,hb3] at hk;omega
    ·rw [List.getElem?_take] at hu
     split at hu
     ·rw [List.getElem?_drop] at hu
      have:=ho.cells (g:=b) (by simp [Value.ownBlock]) _ u hu
      rwa [add_plain] at this
     ·cases hu
   ·cases hy
  ·rename_i hij
   have hM:=hr.2 j y hy;obtain rfl:=zip_at hy;exact kTaskO_other hM ht (fun he=>hij he.symm) hm
theorem tk_setP {s:Sys} {i:Nat} (hi:i < s.tasks.length) (x:Task):tk (setTask s i x) i=x:=tk_set hi
theorem setTask_twice (s:Sys) (i:Nat) (x y:Task):setTask (setTask s i x) i y=setTask s i y:=by
 unfold setTask;simp
theorem Sy.putsGrown {b cap n:Nat} (h:Sy B own s vc (.slice (some ⟨b,0,none⟩) n cap) vl W) {i:Nat} (hi:i < s.tasks.length) {v10 v1:Value} {xs:List Put} (hc:W.cell? ⟨b,i*13+10,none⟩=some v10) (hg:W.grownBy W1 v10.ownBlock)
  (hr:kPut.R 103 W1 B (fun k=>own k=11+8*i\/own k=0) v1 xs) (hat:v1.ownBlock=v10.ownBlock\/∃ b,v1.ownBlock=some b/\W.heap.size<=b):
  ∃ own',Sy B own' (setTask s i {tk s i with puts:=xs}) vc (.slice (some ⟨b,0,none⟩) n cap) vl (W1.setCell ⟨b,i*13+10,none⟩ v1)/\(∀ k,k < W.heap.size->own' k=own k):=by
 have hb3:own b=3:=h.town b rfl;obtain ⟨v3,v8,v9,w10,hcc,_,hM⟩:=h.task' hi
 have he:w10=v10:=by
  have:=hcc 10 w10 rfl
  rw [hc] at this;injection this with this;exact this.symm
 subst he
 have h10:∀ k,w10.ownBlock=some k->own k=11+8*i:=fun k hk=>by
  obtain ⟨u3,u8,u9,u10,he,g3,g8,g9,g10⟩:=kTaskO_open hM;simp only [cellsT,List.cons.injEq,true_and] at he;obtain ⟨rfl,rfl,rfl,rfl,-⟩:=he;exact (g10.1 k hk).2
 have hA:=(h.setPuts hi (Kd.R_nil kPut 103 W B (fun k=>own k=11+8*i\/own k=0))).1
 have hnil:tagB own (Value.slice none 0 0).ownBlock (11+8*i)=own:=by
  funext k
  exact tagB_off (by simp [Value.ownBlock])
 rw [hnil] at hA;have hbl:∀ (W:World) (u:Value) (k:Nat),k ≠ b->(W.setCell ⟨b,i*13+10,none⟩ u).heap[k]? = W.heap[k]? :=fun W u k hk=>Below.heap_setCell W ⟨b,i*13+10,none⟩ u k (fun he=>hk he)
 have hlt:∀ k,own k ≠ 0->k < W.heap.size:=fun k hk=>Nat.lt_of_not_le fun hle=>hk (h.new0 k hle)
 have hmv:∀ k,own k ≠ 0->own k ≠ 11+8*i->W1.heap[k]? = W.heap[k]? :=fun k hk hk2=>hg.block k (hlt k hk) (fun he=>hk2 (h10 k he.symm))
 have hm:∀ k,own k ≠ 0->own k ≠ 11+8*i->(W1.setCell ⟨b,i*13+10,none⟩ (.slice none 0 0)).heap[k]? = (W.setCell ⟨b,i*13+10,none⟩ (.slice none 0 0)).heap[k]? :=fun k hk hk2=>by
  by_cases hkb:k=b
  ·subst hkb
   have:=hmv k hk hk2
   unfold World.setCell;simp only [Array.getElem?_modify,this]
  ·rw [hbl _ _ k hkb,hbl _ _ k hkb]
   exact hmv k hk hk2
 have hi2:i < (setTask s i {tk s i with puts:= []}).tasks.length:=by rw [set_len];exact hi
 have hB:=hA.inner (W1:=W1.setCell ⟨b,i*13+10,none⟩ (.slice none 0 0)) hi2 (x':={tk s i with puts:= []}) (11+8*i) ⟨by omega,by omega⟩ hm (by simpa [World.setCell] using hg.size) (fun cs hcs hM2=>by
  rw [tk_setP hi] at hM2;obtain ⟨u3,u8,u9,u10,rfl,g3,g8,g9,g10⟩:=kTaskO_open hM2;refine kTaskO_mk {tk s i with puts:= []} i (Kd.R_step g3 fun k hk _=>hm k (by have:=hk.2;omega) (by have:=hk.2;omega)) (Kd.R_step g8 fun k hk _=>hm k (by have:=hk.2;omega) (by have:=hk.2;omega)) (Kd.R_step g9 fun k hk _=>hm k (by have:=hk.2;omega) (by have:=hk.2;omega)) ?_
  have hu:u10= .slice none 0 0:=by
   have h1:=hcs 10 u10 rfl
   have h2:(W.setCell ⟨b,i*13+10,none⟩ (.slice none 0 0)).cell? ⟨b,i*13+10,none⟩=some (.slice none 0 0):=by
    unfold World.cell? at hc;unfold World.cell? World.setCell;simp only [Array.getElem?_modify,if_true]
    cases hw:W.heap[b]? with
    | none=>simp [hw] at hc
    | some x=>
     cases x <;> simp [hw] at hc ⊢;obtain ⟨hlt,_⟩:=Array.getElem?_eq_some_iff.1 hc;exact Array.getElem?_setIfInBounds_self_of_lt hlt
   rw [h2] at h1;injection h1 with h1;exact h1.symm
  rw [hu];exact Kd.R_nil _ _ _ _ _)
 rw [setTask_twice] at hB;have hr':kPut.R 103 (W1.setCell ⟨b,i*13+10,none⟩ (.slice none 0 0)) B (fun k=>own k=11+8*i\/own k=0) v1 xs:=Kd.R_step hr (fun k hk _=>hbl _ _ k (fun he=>by rw [he,hb3] at hk;omega));obtain ⟨hC,hD⟩:=hB.setPuts hi2 hr';rw [setTask_twice,tk_setP hi,setCell_twice] at hC;refine ⟨_,hC,fun k hk=> ?_⟩;by_cases he:v1.ownBlock=some k
 ·rw [tagB_at he]
  rcases hat with h1 | ⟨q,h1,h2⟩
  ·exact (h10 k (h1 ▸ he)).symm
  ·rw [h1] at he
   injection he with he;omega
 ·exact tagB_off he
theorem Sy.putsAt {b cap n:Nat} (h:Sy B own s vc (.slice (some ⟨b,0,none⟩) n cap) vl W) {i:Nat} (hi:i < s.tasks.length):∃ v10,W.cell? ⟨b,i*13+10,none⟩=some v10/\kPut.R 103 W B (fun k=>own k=11+8*i) v10 (tk s i).puts:=by
 obtain ⟨v3,v8,v9,w10,hcc,_,hM⟩:=h.task' hi;obtain ⟨u3,u8,u9,u10,he,g3,g8,g9,g10⟩:=kTaskO_open hM;simp only [cellsT,List.cons.injEq,true_and] at he;obtain ⟨rfl,rfl,rfl,rfl,-⟩:=he;exact ⟨w10,hcc 10 w10 rfl,Kd.R_mono g10 (fun k hk=>hk.2)⟩
theorem cell_size {W:World} {b o:Nat} {v:Value} (h:W.cell? ⟨b,o,none⟩=some v):b < W.heap.size:=by
 refine Nat.lt_of_not_le fun hle=> ?_
 unfold World.cell? at h;simp only [] at h;rw [Array.getElem?_eq_none hle] at h;cases h
theorem cell_of {W W1:World} {b o:Nat} {v:Value} (h:W.cell? ⟨b,o,none⟩=some v) (he:W1.heap[b]? = W.heap[b]?):W1.cell? ⟨b,o,none⟩=some v:=by
 rw [<-h];unfold World.cell?;simp only [he]
theorem cell_keep {W W1:World} {g b o:Nat} {v:Value} (h:W.cell? ⟨b,o,none⟩=some v) (hk:KeepBut W W1 g none) (hn:b ≠ g):W1.cell? ⟨b,o,none⟩=some v:=cell_of h (hk.2 b (cell_size h) hn (by simp))
theorem cell_grown {W W1:World} {b o:Nat} {v:Value} {row:Option Nat} (h:W.cell? ⟨b,o,none⟩=some v) (hg:W.grownBy W1 row) (hn:some b ≠ row):W1.cell? ⟨b,o,none⟩=some v:=cell_of h (hg.block b (cell_size h) hn)
theorem cell_alloc {W:World} {b o:Nat} {v:Value} (h:W.cell? ⟨b,o,none⟩=some v) (x:Obj):(W.alloc x).cell? ⟨b,o,none⟩=some v:=cell_of h ((below_alloc (Below.refl W.heap.size W) x).block b (cell_size h))
theorem setTask_szP {s:Sys} {k:Nat} {t:Task} (h:SysSz s) (hk:k < s.tasks.length) (h3:t.regs=(tk s k).regs) (h8:t.old=(tk s k).old) (h9:t.reads=(tk s k).reads) (h10:t.puts.length<=1048576):SysSz (setTask s k t) where
 cells:=h.cells
 tasks:=by rw [set_len];exact h.tasks
 log:=h.log
 logs:=h.logs
 task:=fun i hi=>by
  rw [set_len] at hi;show (tk (setTask s k t) i).regs.length<=_/\(tk (setTask s k t) i).old.length<=_/\(tk (setTask s k t) i).reads.length<=_/\(tk (setTask s k t) i).puts.length<=_;by_cases he:i=k
  ·subst he
   rw [tk_set hk,h3,h8,h9]
   have:=h.task i hk
   exact ⟨this.1,this.2.1,this.2.2.1,h10⟩
  ·rw [tk_other he]
   exact h.task i hi
theorem Sy.cellsCut {A:Option Addr} {c:Nat} (h:Sy B own s (.slice A s.cells.length c) vt vl W) (hp:1<=s.cells.length):
  kSys.K W {s with cells:=s.cells.drop 1} [.slice (if c=1 then A else A.map (·.add (1*3))) (s.cells.length - 1) (c - 1),vt,.int .i64 s.clock,vl]:=by
 obtain ⟨A0,c0,e0,l0,g0⟩:=Kd.R_reads h.cells;injection e0 with e1 e2 e3;subst e1 e3;obtain ⟨A1,c1,rfl,l1,g1⟩:=Kd.R_reads h.tasks;obtain ⟨A3,c3,rfl,l3,g3⟩:=Kd.R_reads h.log;rw [zip_len] at l1 g1 ⊢;have hC:=Kd.C_drop (m:=1) g0 hp l0;rw [List.length_drop] at hC;have hK:=kSys_mk {s with cells:=s.cells.drop 1} (A_cells:=if c=1 then A else A.map (·.add (1*3))) (c_cells:=c - 1) (by simp;omega) (by simpa [show kCell.sz=3 from rfl] using hC) l1 (taskO_C g1) l3 g3;simpa using hK
end
end Go.Proofs.Ytimamoimphjakaa.Eq
