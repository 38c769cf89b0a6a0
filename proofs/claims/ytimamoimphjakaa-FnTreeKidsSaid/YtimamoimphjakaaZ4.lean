import Derived.Test.YtimamoimphjakaaZ3
set_option maxHeartbeats 8000000
set_option maxRecDepth 100000
set_option linter.unusedVariables false
set_option linter.unusedSimpArgs false
namespace Go.Proofs.Ytimamoimphjakaa.Eq
open Go.RowKit Go.Proofs.YtimamoimphjakaaW.PrintWords Go.Proofs.YtimamoimphjakaaW.PrintLast Go.Proofs.YtimamoimphjakaaW.PrintMore
theorem l12Holds_calls (t:Task) (cs:List Value) (cell:Int) (w:World) (hx:kTask.K w t cs) (hpn:t.puts.length<=1048576):
  Calls Try.prog 96 #[.agg cs.toArray,.int .i64 cell] w fun e w'=>e= .returned (.bool (holds t cell))/\Below w.heap.size w w':=by
 obtain ⟨B3,d3,B8,d8,B9,d9,B10,d10,rfl,-,-,-,-,-,-,-,g10⟩:=kTask_open hx;have C10:=am g10;clear hx g10;go_enter Try.func96,Try.ntmps96
 cases hfd:findP t.puts cell with
 | none=>
  have HF:=am hfd;have HFD:Aside0 (placeOf (findP t.puts cell)= -1):=⟨by rw [hfd];rfl⟩;clear hfd
  go_wp2_with (first
  |((with_reducible refine gate_dst (N:=2) rfl ?_);refine box_event rfl (N:=2) rfl (t:=38) (by go_simp<;>rfl) ?_;intro gt hg w2 hbox hb;have BT:=am hbox;have HB:=am hb;have BTc:=zc8 BT.out;clear hbox hb hg)
  |(go_at_call 126;refine (l11Find_calls B10 d10 t.puts cell _ (Kd.C_below C10.out HB.out) hpn).mono ?_;rw [HFD.out];rintro e w9 ⟨rfl,rfl⟩))
  go_ret
  have hr:holds t cell=false:=by
   unfold holds;rw [HF.out]
  rw [hr]
  exact ⟨rfl,HB.out⟩
 | some kp=>
  have HO:Aside0 (holds t cell=if t.stage=2 then decide ((kp:Int) < t.at_) else if t.stage=3\/t.stage=4 then true else if t.stage=5 then decide (t.at_<=(kp:Int)) else false):=⟨by unfold holds;rw [hfd]⟩;have HFD:Aside0 (placeOf (findP t.puts cell)=(kp:Int)):=⟨by rw [hfd];rfl⟩;clear hfd;by_cases s2:t.stage=2
  ·have y2:(t.stage == 2)=true:=by simp [s2]
   have S2:=am s2;clear s2
   go_wp2_with (first
   |((with_reducible refine gate_dst (N:=2) rfl ?_);refine box_event rfl (N:=2) rfl (t:=38) (by go_simp<;>rfl) ?_;intro gt hg w2 hbox hb;have BT:=am hbox;have HB:=am hb;have BTc:=zc8 BT.out;clear hbox hb hg)
   |(go_at_call 126;refine (l11Find_calls B10 d10 t.puts cell _ (Kd.C_below C10.out HB.out) hpn).mono ?_;rw [HFD.out];rintro e w9 ⟨rfl,rfl⟩))
   go_ret
   have hr:holds t cell=decide ((kp:Int) < t.at_):=by
    rw [HO.out];rw [if_pos S2.out]
   rw [hr];exact ⟨rfl,HB.out⟩
  ·have y2:(t.stage == 2)=false:=by simp [s2]
   have S2:=am s2;clear s2;by_cases s3:t.stage=3
   ·have y3:(t.stage == 3)=true:=by simp [s3]
    have S3:=am s3;clear s3
    go_wp2_with (first
    |((with_reducible refine gate_dst (N:=2) rfl ?_);refine box_event rfl (N:=2) rfl (t:=38) (by go_simp<;>rfl) ?_;intro gt hg w2 hbox hb;have BT:=am hbox;have HB:=am hb;have BTc:=zc8 BT.out;clear hbox hb hg)
    |(go_at_call 126;refine (l11Find_calls B10 d10 t.puts cell _ (Kd.C_below C10.out HB.out) hpn).mono ?_;rw [HFD.out];rintro e w9 ⟨rfl,rfl⟩))
    go_ret
    have hr:holds t cell=true:=by
     rw [HO.out];rw [if_neg S2.out,if_pos (.inl S3.out)]
    rw [hr];exact ⟨rfl,HB.out⟩
   ·have y3:(t.stage == 3)=false:=by simp [s3]
    have S3:=am s3;clear s3;by_cases s4:t.stage=4
    ·have y4:(t.stage == 4)=true:=by simp [s4]
     have S4:=am s4;clear s4
     go_wp2_with (first
     |((with_reducible refine gate_dst (N:=2) rfl ?_);refine box_event rfl (N:=2) rfl (t:=38) (by go_simp<;>rfl) ?_;intro gt hg w2 hbox hb;have BT:=am hbox;have HB:=am hb;have BTc:=zc8 BT.out;clear hbox hb hg)
     |(go_at_call 126;refine (l11Find_calls B10 d10 t.puts cell _ (Kd.C_below C10.out HB.out) hpn).mono ?_;rw [HFD.out];rintro e w9 ⟨rfl,rfl⟩))
     go_ret
     have hr:holds t cell=true:=by
      rw [HO.out];rw [if_neg S2.out,if_pos (.inr S4.out)]
     rw [hr];exact ⟨rfl,HB.out⟩
    ·have y4:(t.stage == 4)=false:=by simp [s4]
     have S4:=am s4;clear s4;by_cases s5:t.stage=5
     ·have y5:(t.stage == 5)=true:=by simp [s5]
      have S5:=am s5;clear s5
      go_wp2_with (first
      |((with_reducible refine gate_dst (N:=2) rfl ?_);refine box_event rfl (N:=2) rfl (t:=38) (by go_simp<;>rfl) ?_;intro gt hg w2 hbox hb;have BT:=am hbox;have HB:=am hb;have BTc:=zc8 BT.out;clear hbox hb hg)
      |(go_at_call 126;refine (l11Find_calls B10 d10 t.puts cell _ (Kd.C_below C10.out HB.out) hpn).mono ?_;rw [HFD.out];rintro e w9 ⟨rfl,rfl⟩))
      go_ret
      have hr:holds t cell=decide (t.at_<=(kp:Int)):=by
       rw [HO.out];rw [if_neg S2.out,if_neg (fun h=>h.elim S3.out S4.out),if_pos S5.out]
      rw [hr];exact ⟨rfl,HB.out⟩
     ·have y5:(t.stage == 5)=false:=by simp [s5]
      have S5:=am s5;clear s5
      go_wp2_with (first
      |((with_reducible refine gate_dst (N:=2) rfl ?_);refine box_event rfl (N:=2) rfl (t:=38) (by go_simp<;>rfl) ?_;intro gt hg w2 hbox hb;have BT:=am hbox;have HB:=am hb;have BTc:=zc8 BT.out;clear hbox hb hg)
      |(go_at_call 126;refine (l11Find_calls B10 d10 t.puts cell _ (Kd.C_below C10.out HB.out) hpn).mono ?_;rw [HFD.out];rintro e w9 ⟨rfl,rfl⟩))
      go_ret
      have hr:holds t cell=false:=by
       rw [HO.out];rw [if_neg S2.out,if_neg (fun h=>h.elim S3.out S4.out),if_neg S5.out]
      rw [hr];exact ⟨rfl,HB.out⟩
theorem l12At_calls (t:Task) (cs:List Value) (deeds:Int) (w:World) (hx:kTask.K w t cs) (hrn:t.reads.length<=1048576) (hpn:t.puts.length<=1048576):
  Calls Try.prog 124 #[.agg cs.toArray,.int .i64 deeds] w fun e w'=>e= .returned (.bool (stOk t deeds))/\Below w.heap.size w w':=by
 obtain ⟨B3,d3,B8,d8,B9,d9,B10,d10,rfl,-⟩:=kTask_open hx;clear hx;go_enter Try.func124,Try.ntmps124;by_cases s0:t.stage=0
 ·have y0:(t.stage == 0)=true:=by simp [s0]
  have S0:=am s0;clear s0;by_cases za:t.at_=0
  ·have y_za:(t.at_ == 0)=true:=by simp [za]
   have Zza:=am za;clear za
   go_wp2_with (first
   |((with_reducible refine gate_dst (N:=2) rfl ?_);refine box_event rfl (N:=2) rfl (t:=38) (by go_simp<;>rfl) ?_;intro gt hg w2 hbox hb;have BT:=am hbox;have HB:=am hb;have BTc:=zc8 BT.out;clear hbox hb hg))
   go_ret
   have hr:stOk t deeds=((t.reads.length:Int)+(t.puts.length:Int) == 0):=by
    unfold stOk;rw [if_pos S0.out];rw [decide_eq_true Zza.out,Bool.true_and,Bool.eq_iff_iff,decide_eq_true_eq,beq_iff_eq];omega
   rw [hr];exact ⟨rfl,HB.out⟩
  ·have y_za:(t.at_ == 0)=false:=by simp [za]
   have Zza:=am za;clear za
   go_wp2_with (first
   |((with_reducible refine gate_dst (N:=2) rfl ?_);refine box_event rfl (N:=2) rfl (t:=38) (by go_simp<;>rfl) ?_;intro gt hg w2 hbox hb;have BT:=am hbox;have HB:=am hb;have BTc:=zc8 BT.out;clear hbox hb hg))
   go_ret
   have hr:stOk t deeds=false:=by
    unfold stOk;rw [if_pos S0.out];rw [decide_eq_false Zza.out,Bool.false_and]
   rw [hr];exact ⟨rfl,HB.out⟩
 ·have y0:(t.stage == 0)=false:=by simp [s0]
  have S0:=am s0;clear s0;by_cases s1:t.stage=1
  ·have y1:(t.stage == 1)=true:=by simp [s1]
   have S1:=am s1;clear s1;obtain ⟨bHI,hbHI⟩:∃ b,inB t.at_ 0 deeds=b:=⟨_,rfl⟩;have HI:Aside0 ((decide ((0:Int)<=t.at_) && decide (t.at_<=deeds))=bHI):=⟨hbHI⟩;clear hbHI
   go_wp2_with (first
   |((with_reducible refine gate_dst (N:=2) rfl ?_);refine box_event rfl (N:=2) rfl (t:=38) (by go_simp<;>rfl) ?_;intro gt hg w2 hbox hb;have BT:=am hbox;have HB:=am hb;have BTc:=zc8 BT.out;clear hbox hb hg)
   |(go_at_call 50;refine (l6In_calls _ _ _ _).mono ?_;(first|rw [HI.out]);rintro e w9 ⟨rfl,rfl⟩))
   go_ret
   have hr:stOk t deeds=bHI:=by
    unfold stOk;rw [if_neg S0.out,if_pos S1.out];exact HI.out
   rw [hr];exact ⟨rfl,HB.out⟩
  ·have y1:(t.stage == 1)=false:=by simp [s1]
   have S1:=am s1;clear s1;by_cases s3:t.stage=3
   ·have y3:(t.stage == 3)=true:=by simp [s3]
    have S3:=am s3;clear s3;by_cases za:t.at_=0
    ·have y_za:(t.at_ == 0)=true:=by simp [za]
     have Zza:=am za;clear za
     go_wp2_with (first
     |((with_reducible refine gate_dst (N:=2) rfl ?_);refine box_event rfl (N:=2) rfl (t:=38) (by go_simp<;>rfl) ?_;intro gt hg w2 hbox hb;have BT:=am hbox;have HB:=am hb;have BTc:=zc8 BT.out;clear hbox hb hg))
     go_ret
     have hr:stOk t deeds=decide (0 < t.puts.length):=by
      unfold stOk;rw [if_neg S0.out,if_neg S1.out,if_pos S3.out];rw [decide_eq_true Zza.out,Bool.true_and]
     rw [hr];exact ⟨rfl,HB.out⟩
    ·have y_za:(t.at_ == 0)=false:=by simp [za]
     have Zza:=am za;clear za
     go_wp2_with (first
     |((with_reducible refine gate_dst (N:=2) rfl ?_);refine box_event rfl (N:=2) rfl (t:=38) (by go_simp<;>rfl) ?_;intro gt hg w2 hbox hb;have BT:=am hbox;have HB:=am hb;have BTc:=zc8 BT.out;clear hbox hb hg))
     go_ret
     have hr:stOk t deeds=false:=by
      unfold stOk;rw [if_neg S0.out,if_neg S1.out,if_pos S3.out];rw [decide_eq_false Zza.out,Bool.false_and]
     rw [hr];exact ⟨rfl,HB.out⟩
   ·have y3:(t.stage == 3)=false:=by simp [s3]
    have S3:=am s3;clear s3;by_cases s4:t.stage=4
    ·have y4:(t.stage == 4)=true:=by simp [s4]
     have S4:=am s4;clear s4;obtain ⟨bHI,hbHI⟩:∃ b,inB t.at_ 0 (t.reads.length:Int)=b:=⟨_,rfl⟩;have HI:Aside0 ((decide ((0:Int)<=t.at_) && decide (t.at_<=(t.reads.length:Int)))=bHI):=⟨hbHI⟩;clear hbHI
     cases bHI with
     | false=>
      go_wp2_with (first
      |((with_reducible refine gate_dst (N:=2) rfl ?_);refine box_event rfl (N:=2) rfl (t:=38) (by go_simp<;>rfl) ?_;intro gt hg w2 hbox hb;have BT:=am hbox;have HB:=am hb;have BTc:=zc8 BT.out;clear hbox hb hg)
      |(go_at_call 50;refine (l6In_calls _ _ _ _).mono ?_;(first|rw [HI.out]);rintro e w9 ⟨rfl,rfl⟩))
      go_ret
      have hr:stOk t deeds=false:=by
       unfold stOk;rw [if_neg S0.out,if_neg S1.out,if_neg S3.out,if_pos S4.out];rw [show inB t.at_ 0 (t.reads.length:Int)=false from HI.out,Bool.false_and]
      rw [hr]
      exact ⟨rfl,HB.out⟩
     | true=>
      go_wp2_with (first
      |((with_reducible refine gate_dst (N:=2) rfl ?_);refine box_event rfl (N:=2) rfl (t:=38) (by go_simp<;>rfl) ?_;intro gt hg w2 hbox hb;have BT:=am hbox;have HB:=am hb;have BTc:=zc8 BT.out;clear hbox hb hg)
      |(go_at_call 50;refine (l6In_calls _ _ _ _).mono ?_;(first|rw [HI.out]);rintro e w9 ⟨rfl,rfl⟩))
      go_ret
      have hr:stOk t deeds=decide (0 < t.puts.length):=by
       unfold stOk;rw [if_neg S0.out,if_neg S1.out,if_neg S3.out,if_pos S4.out];rw [show inB t.at_ 0 (t.reads.length:Int)=true from HI.out,Bool.true_and]
      rw [hr];exact ⟨rfl,HB.out⟩
    ·have y4:(t.stage == 4)=false:=by simp [s4]
     have S4:=am s4;clear s4;obtain ⟨bHI,hbHI⟩:∃ b,inB t.at_ 0 ((t.puts.length:Int) - 1)=b:=⟨_,rfl⟩;have HI:Aside0 ((decide ((0:Int)<=t.at_) && decide (t.at_<=((t.puts.length:Int) - 1)))=bHI):=⟨hbHI⟩;clear hbHI
     go_wp2_with (first
     |((with_reducible refine gate_dst (N:=2) rfl ?_);refine box_event rfl (N:=2) rfl (t:=38) (by go_simp<;>rfl) ?_;intro gt hg w2 hbox hb;have BT:=am hbox;have HB:=am hb;have BTc:=zc8 BT.out;clear hbox hb hg)
     |(go_at_call 50;refine (l6In_calls _ _ _ _).mono ?_;(first|rw [HI.out]);rintro e w9 ⟨rfl,rfl⟩))
     go_ret
     have hr:stOk t deeds=bHI:=by
      unfold stOk;rw [if_neg S0.out,if_neg S1.out,if_neg S3.out,if_neg S4.out];exact HI.out
     rw [hr];exact ⟨rfl,HB.out⟩
theorem l12Times_calls (t:Task) (s:Sys) (cs ss:List Value) (w:World) (hx:kTask.K w t cs) (hs:kSys.K w s ss) (hc0:0<=s.clock) (hc1:s.clock<=200) (hl:s.log.length<=1048576):
  Calls Try.prog 93 #[.agg cs.toArray,.agg ss.toArray] w fun e w'=>e= .returned (.bool (timesOk t s))/\Below w.heap.size w w':=by
 obtain ⟨B3,d3,B8,d8,B9,d9,B10,d10,rfl,-⟩:=kTask_open hx;obtain ⟨A0,c0,A1,c1,A3,c3,rfl,-⟩:=kSys_open hs;clear hx hs;go_enter Try.func93,Try.ntmps93;obtain ⟨bH1,hbH1⟩:∃ b,inB t.since 0 s.clock=b:=⟨_,rfl⟩;have H1:Aside0 ((decide ((0:Int)<=t.since) && decide (t.since<=s.clock))=bH1):=⟨hbH1⟩;clear hbH1
 cases hx1:bH1 with
 | false=>
  subst hx1
  go_wp2_with (first
  |((with_reducible refine gate_dst (N:=2) rfl ?_);refine box_event rfl (N:=2) rfl (t:=38) (by go_simp<;>rfl) ?_;intro gt hg w2 hbox hb;have BT:=am hbox;have HB:=am hb;have BTc:=zc8 BT.out;clear hbox hb hg)
  |((with_reducible refine gate_dst (N:=3) rfl ?_);refine box_event rfl (N:=3) rfl (t:=27) (by go_simp<;>rfl) ?_;intro gs hg w3 hbox hb;have BS:=am hbox;replace HB:=am (below_step HB.out hb);replace BT:=am (zb8 BT.out hb);clear BTc hbox hb hg;have BTc:=zc8 BT.out;have BSc:=zc8 BS.out)
  |(go_at_call 50;refine (l6In_calls _ _ _ _).mono ?_;(first|rw [H1.out]);rintro e w9 ⟨rfl,rfl⟩))
  go_ret
  have hr:timesOk t s=false:=by
   unfold timesOk;rw [show inB t.since 0 s.clock=false from H1.out,Bool.false_and,Bool.false_and]
  rw [hr]
  exact ⟨rfl,HB.out⟩
 | true=>
  subst hx1;have hs01:=inB_iff.1 (show inB t.since 0 s.clock=true from H1.out);have hsA:=hs01.1;have hsB:=hs01.2;clear hs01;obtain ⟨bH2,hbH2⟩:∃ b,inB t.from_ 0 (s.log.length:Int)=b:=⟨_,rfl⟩;have H2:Aside0 ((decide ((0:Int)<=t.from_) && decide (t.from_<=(s.log.length:Int)))=bH2):=⟨hbH2⟩;clear hbH2
  cases hx2:bH2 with
  | false=>
   subst hx2
   go_wp2_with (first
   |((with_reducible refine gate_dst (N:=2) rfl ?_);refine box_event rfl (N:=2) rfl (t:=38) (by go_simp<;>rfl) ?_;intro gt hg w2 hbox hb;have BT:=am hbox;have HB:=am hb;have BTc:=zc8 BT.out;clear hbox hb hg)
   |((with_reducible refine gate_dst (N:=3) rfl ?_);refine box_event rfl (N:=3) rfl (t:=27) (by go_simp<;>rfl) ?_;intro gs hg w3 hbox hb;have BS:=am hbox;replace HB:=am (below_step HB.out hb);replace BT:=am (zb8 BT.out hb);clear BTc hbox hb hg;have BTc:=zc8 BT.out;have BSc:=zc8 BS.out)
   |(go_at_call 50;refine (l6In_calls _ _ _ _).mono ?_;(first|rw [H1.out] | rw [H2.out]);rintro e w9 ⟨rfl,rfl⟩))
   go_ret
   have hr:timesOk t s=false:=by
    unfold timesOk;rw [show inB t.from_ 0 (s.log.length:Int)=false from H2.out,Bool.and_false,Bool.false_and]
   rw [hr]
   exact ⟨rfl,HB.out⟩
  | true=>
   subst hx2;by_cases s0:t.stage=0
   ·have y0:(t.stage == 0)=true:=by simp [s0]
    have S0:=am s0;clear s0;obtain ⟨bHI,hbHI⟩:∃ b,inB t.when_ 0 (s.clock+1)=b:=⟨_,rfl⟩;have HI:Aside0 ((decide ((0:Int)<=t.when_) && decide (t.when_<=(s.clock+1)))=bHI):=⟨hbHI⟩;clear hbHI
    go_wp2_with (first
    |((with_reducible refine gate_dst (N:=2) rfl ?_);refine box_event rfl (N:=2) rfl (t:=38) (by go_simp<;>rfl) ?_;intro gt hg w2 hbox hb;have BT:=am hbox;have HB:=am hb;have BTc:=zc8 BT.out;clear hbox hb hg)
    |((with_reducible refine gate_dst (N:=3) rfl ?_);refine box_event rfl (N:=3) rfl (t:=27) (by go_simp<;>rfl) ?_;intro gs hg w3 hbox hb;have BS:=am hbox;replace HB:=am (below_step HB.out hb);replace BT:=am (zb8 BT.out hb);clear BTc hbox hb hg;have BTc:=zc8 BT.out;have BSc:=zc8 BS.out)
    |(go_at_call 50;refine (l6In_calls _ _ _ _).mono ?_;(first|rw [H1.out] | rw [H2.out] | rw [HI.out]);rintro e w9 ⟨rfl,rfl⟩))
    go_ret
    have hr:timesOk t s=bHI:=by
     unfold timesOk;rw [show inB t.since 0 s.clock=true from H1.out,show inB t.from_ 0 (s.log.length:Int)=true from H2.out,Bool.true_and,Bool.true_and];rw [if_pos S0.out];exact HI.out
    rw [hr];exact ⟨rfl,HB.out⟩
   ·have y0:(t.stage == 0)=false:=by simp [s0]
    have S0:=am s0;clear s0;by_cases s4:t.stage=4
    ·have y4:(t.stage == 4)=true:=by simp [s4]
     have S4:=am s4;clear s4;obtain ⟨bHI,hbHI⟩:∃ b,inB t.when_ (t.since+1) s.clock=b:=⟨_,rfl⟩;have HI:Aside0 ((decide (((t.since+1):Int)<=t.when_) && decide (t.when_<=s.clock))=bHI):=⟨hbHI⟩;clear hbHI
     go_wp2_with (first
     |((with_reducible refine gate_dst (N:=2) rfl ?_);refine box_event rfl (N:=2) rfl (t:=38) (by go_simp<;>rfl) ?_;intro gt hg w2 hbox hb;have BT:=am hbox;have HB:=am hb;have BTc:=zc8 BT.out;clear hbox hb hg)
     |((with_reducible refine gate_dst (N:=3) rfl ?_);refine box_event rfl (N:=3) rfl (t:=27) (by go_simp<;>rfl) ?_;intro gs hg w3 hbox hb;have BS:=am hbox;replace HB:=am (below_step HB.out hb);replace BT:=am (zb8 BT.out hb);clear BTc hbox hb hg;have BTc:=zc8 BT.out;have BSc:=zc8 BS.out)
     |(go_at_call 50;refine (l6In_calls _ _ _ _).mono ?_;(first|rw [H1.out] | rw [H2.out] | rw [HI.out]);rintro e w9 ⟨rfl,rfl⟩))
     go_ret
     have hr:timesOk t s=bHI:=by
      unfold timesOk;rw [show inB t.since 0 s.clock=true from H1.out,show inB t.from_ 0 (s.log.length:Int)=true from H2.out,Bool.true_and,Bool.true_and];rw [if_neg S0.out,if_pos (.inl S4.out)];exact HI.out
     rw [hr];exact ⟨rfl,HB.out⟩
    ·have y4:(t.stage == 4)=false:=by simp [s4]
     have S4:=am s4;clear s4;by_cases s5:t.stage=5
     ·have y5:(t.stage == 5)=true:=by simp [s5]
      have S5:=am s5;clear s5;obtain ⟨bHI,hbHI⟩:∃ b,inB t.when_ (t.since+1) s.clock=b:=⟨_,rfl⟩;have HI:Aside0 ((decide (((t.since+1):Int)<=t.when_) && decide (t.when_<=s.clock))=bHI):=⟨hbHI⟩;clear hbHI
      go_wp2_with (first
      |((with_reducible refine gate_dst (N:=2) rfl ?_);refine box_event rfl (N:=2) rfl (t:=38) (by go_simp<;>rfl) ?_;intro gt hg w2 hbox hb;have BT:=am hbox;have HB:=am hb;have BTc:=zc8 BT.out;clear hbox hb hg)
      |((with_reducible refine gate_dst (N:=3) rfl ?_);refine box_event rfl (N:=3) rfl (t:=27) (by go_simp<;>rfl) ?_;intro gs hg w3 hbox hb;have BS:=am hbox;replace HB:=am (below_step HB.out hb);replace BT:=am (zb8 BT.out hb);clear BTc hbox hb hg;have BTc:=zc8 BT.out;have BSc:=zc8 BS.out)
      |(go_at_call 50;refine (l6In_calls _ _ _ _).mono ?_;(first|rw [H1.out] | rw [H2.out] | rw [HI.out]);rintro e w9 ⟨rfl,rfl⟩))
      go_ret
      have hr:timesOk t s=bHI:=by
       unfold timesOk;rw [show inB t.since 0 s.clock=true from H1.out,show inB t.from_ 0 (s.log.length:Int)=true from H2.out,Bool.true_and,Bool.true_and];rw [if_neg S0.out,if_pos (.inr S5.out)];exact HI.out
      rw [hr];exact ⟨rfl,HB.out⟩
     ·have y5:(t.stage == 5)=false:=by simp [s5]
      have S5:=am s5;clear s5;have HI:=H1
      go_wp2_with (first
      |((with_reducible refine gate_dst (N:=2) rfl ?_);refine box_event rfl (N:=2) rfl (t:=38) (by go_simp<;>rfl) ?_;intro gt hg w2 hbox hb;have BT:=am hbox;have HB:=am hb;have BTc:=zc8 BT.out;clear hbox hb hg)
      |((with_reducible refine gate_dst (N:=3) rfl ?_);refine box_event rfl (N:=3) rfl (t:=27) (by go_simp<;>rfl) ?_;intro gs hg w3 hbox hb;have BS:=am hbox;replace HB:=am (below_step HB.out hb);replace BT:=am (zb8 BT.out hb);clear BTc hbox hb hg;have BTc:=zc8 BT.out;have BSc:=zc8 BS.out)
      |(go_at_call 50;refine (l6In_calls _ _ _ _).mono ?_;(first|rw [H1.out] | rw [H2.out] | rw [HI.out]);rintro e w9 ⟨rfl,rfl⟩))
      go_ret
      have hr:timesOk t s=(t.when_ == 0):=by
       unfold timesOk;rw [show inB t.since 0 s.clock=true from H1.out,show inB t.from_ 0 (s.log.length:Int)=true from H2.out,Bool.true_and,Bool.true_and];rw [if_neg S0.out,if_neg (fun h=>h.elim S4.out S5.out),Bool.eq_iff_iff,decide_eq_true_eq,beq_iff_eq]
      rw [hr];exact ⟨rfl,HB.out⟩
theorem l12Up_calls (s:Sys) (ss:List Value) (i:Nat) (w:World) (hs:kSys.K w s ss) (hi:i < s.tasks.length) (hn:s.tasks.length<=1048576):
  Calls Try.prog 94 #[.agg ss.toArray,.int .i64 i] w fun e w'=>e= .returned (.bool (upsOk s i))/\Below w.heap.size w w':=by
 obtain ⟨A0,c0,A1,c1,A3,c3,rfl,-,-,-,g1,-⟩:=kSys_open hs;have G1:=am g1;obtain ⟨b,o,cs,rfl,hcl,hK,hcc,-⟩:=C_field g1 zTask i hi (by decide);obtain ⟨t,ht⟩:∃ x,x=taskAt s.tasks i:=⟨_,rfl⟩;rw [show s.tasks.getD i zTask=t from ht.symm] at hK;obtain ⟨B3,d3,B8,d8,B9,d9,B10,d10,rfl,-⟩:=kTask_open hK;have HCC:=am hcc;have q0:(0:Int)<=(i:Int):=by omega
 have q1:(i:Int) < (s.tasks.length:Int):=by omega
 have HU:Aside0 (upsOk s i=if i=0 then decide (t.up= -1) else inB t.up 0 (i - 1) && (!isLive t || decide ((taskAt s.tasks t.up.toNat).way=1))):=⟨by rw [ht];rfl⟩;clear hs g1 hcl hK hcc ht;go_enter Try.func94,Try.ntmps94;by_cases h0:i=0
 ·have y0:((i:Int) == 0)=true:=by simp [h0]
  have y0':(i == 0)=true:=by simp [h0]
  have H0:=am h0;clear h0
  go_wp2_with (first
  |((with_reducible refine gate_dst (N:=2) rfl ?_);refine box_event rfl (N:=2) rfl (t:=27) (by go_simp<;>rfl) ?_;intro gs hg w2 hbox hb;have BS:=am hbox;have HB:=am hb;have BSc:=zc8 BS.out;clear hbox hb hg)
  |((with_reducible refine gate_dst (N:=11) rfl ?_);refine wpList_load_mid rfl 38 (.tmp 10) rfl b (o+i*13) rfl _ _ (fun j u hu=>cellB HB.out (HCC.out j u hu)) Try.underlying38 rfl (by kernel_rfl) ?_)|((with_reducible refine gate_dst (N:=5) rfl ?_);refine box_event rfl (N:=5) rfl (t:=38) (by go_simp<;>rfl) ?_;intro gt hg wt hbox hb;have BT0:=am hbox;have GT:=am hg;have HBT:=am hb;clear hbox hb hg)|((with_reducible refine gate_store (t:=38) (p:=5) rfl ?_);refine store_block rfl rfl 38 (.tmp 5) (.tmp 11) rfl rfl rfl BT0.out rfl (by kernel_rfl) (aB rfl) ?_;intro wn hbox hg;have BT:=am hbox;have hbx:=pw_below_grown HBT.out _ HBT.out.size hg (fun z hz=>by cases hz;exact Nat.le_of_eq GT.out.symm);replace BS:=am (zb8 BS.out hbx);replace HB:=am (below_step HB.out hbx);clear BSc BT0 HBT hbx hbox hg;have BSc:=zc8 BS.out;have BTc:=zc8 BT.out))
  go_ret
  have hr:upsOk s i=(t.up == -1):=by
   rw [HU.out];rw [if_pos H0.out,Bool.eq_iff_iff,decide_eq_true_eq,beq_iff_eq]
  rw [hr];exact ⟨rfl,HB.out⟩
 ·have y0:((i:Int) == 0)=false:=by simp [h0]
  have y0':(i == 0)=false:=by simp [h0]
  have H0:=am h0;clear h0
  cases hb1:inB t.up 0 ((i:Int) - 1) with
  | false=>
   have H1:Aside0 ((decide ((0:Int)<=t.up) && decide (t.up<=(i:Int) - 1))=false):=⟨hb1⟩;clear hb1
   go_wp2_with (first
   |((with_reducible refine gate_dst (N:=2) rfl ?_);refine box_event rfl (N:=2) rfl (t:=27) (by go_simp<;>rfl) ?_;intro gs hg w2 hbox hb;have BS:=am hbox;have HB:=am hb;have BSc:=zc8 BS.out;clear hbox hb hg)
   |((with_reducible refine gate_dst (N:=11) rfl ?_);refine wpList_load_mid rfl 38 (.tmp 10) rfl b (o+i*13) rfl _ _ (fun j u hu=>cellB HB.out (HCC.out j u hu)) Try.underlying38 rfl (by kernel_rfl) ?_)|((with_reducible refine gate_dst (N:=5) rfl ?_);refine box_event rfl (N:=5) rfl (t:=38) (by go_simp<;>rfl) ?_;intro gt hg wt hbox hb;have BT0:=am hbox;have GT:=am hg;have HBT:=am hb;clear hbox hb hg)|((with_reducible refine gate_store (t:=38) (p:=5) rfl ?_);refine store_block rfl rfl 38 (.tmp 5) (.tmp 11) rfl rfl rfl BT0.out rfl (by kernel_rfl) (aB rfl) ?_;intro wn hbox hg;have BT:=am hbox;have hbx:=pw_below_grown HBT.out _ HBT.out.size hg (fun z hz=>by cases hz;exact Nat.le_of_eq GT.out.symm);replace BS:=am (zb8 BS.out hbx);replace HB:=am (below_step HB.out hbx);clear BSc BT0 HBT hbx hbox hg;have BSc:=zc8 BS.out;have BTc:=zc8 BT.out)
   |(go_at_call 50;refine (l6In_calls _ _ _ _).mono ?_;(first|rw [H1.out]);rintro e w9 ⟨rfl,rfl⟩))
   go_ret
   have hr:upsOk s i=false:=by
    rw [HU.out];rw [if_neg H0.out,show inB t.up 0 ((i:Int) - 1)=false from H1.out,Bool.false_and]
   rw [hr]
   exact ⟨rfl,HB.out⟩
  | true=>
   have H1:Aside0 ((decide ((0:Int)<=t.up) && decide (t.up<=(i:Int) - 1))=true):=⟨hb1⟩;have hu:=inB_iff.1 hb1;clear hb1;obtain ⟨u,hu0⟩:=Int.eq_ofNat_of_zero_le hu.1;have hul:u < s.tasks.length:=by omega
   have r0:(0:Int)<=t.up:=hu.1;have r1:t.up < (s.tasks.length:Int):=by omega
   have r4:t.up.toNat=u:=by omega
   obtain ⟨b',o',cs',he,hcl,hK,hcc,-⟩:=C_field G1.out zTask u hul (by decide);cases he;obtain ⟨wy,hwy⟩:∃ x,x=(taskAt s.tasks u).way:=⟨_,rfl⟩;rw [show s.tasks.getD u zTask=taskAt s.tasks u from rfl] at hK;obtain ⟨E3,f3,E8,f8,E9,f9,E10,f10,rfl,-⟩:=kTask_open hK;have pw:=hcc 4 _ rfl;simp only [show kTask.sz=13 from rfl] at pw;rw [<-hwy] at pw;have PW:=am pw;have HWY:=am hwy;clear hcl hK hcc pw hwy hu hu0;by_cases w0:t.way=0
   ·have z0:(t.way == 0)=true:=by simp [w0]
    have W0:=am w0;clear w0
    go_wp2_with (first
    |((with_reducible refine gate_dst (N:=2) rfl ?_);refine box_event rfl (N:=2) rfl (t:=27) (by go_simp<;>rfl) ?_;intro gs hg w2 hbox hb;have BS:=am hbox;have HB:=am hb;have BSc:=zc8 BS.out;clear hbox hb hg)
    |((with_reducible refine gate_dst (N:=11) rfl ?_);refine wpList_load_mid rfl 38 (.tmp 10) rfl b (o+i*13) rfl _ _ (fun j u hu=>cellB HB.out (HCC.out j u hu)) Try.underlying38 rfl (by kernel_rfl) ?_)|((with_reducible refine gate_dst (N:=5) rfl ?_);refine box_event rfl (N:=5) rfl (t:=38) (by go_simp<;>rfl) ?_;intro gt hg wt hbox hb;have BT0:=am hbox;have GT:=am hg;have HBT:=am hb;clear hbox hb hg)|((with_reducible refine gate_store (t:=38) (p:=5) rfl ?_);refine store_block rfl rfl 38 (.tmp 5) (.tmp 11) rfl rfl rfl BT0.out rfl (by kernel_rfl) (aB rfl) ?_;intro wn hbox hg;have BT:=am hbox;have hbx:=pw_below_grown HBT.out _ HBT.out.size hg (fun z hz=>by cases hz;exact Nat.le_of_eq GT.out.symm);replace BS:=am (zb8 BS.out hbx);replace HB:=am (below_step HB.out hbx);clear BSc BT0 HBT hbx hbox hg;have BSc:=zc8 BS.out;have BTc:=zc8 BT.out;have pww:=cellB HB.out PW.out)
    |(go_at_call 50;refine (l6In_calls _ _ _ _).mono ?_;(first|rw [H1.out]);rintro e w9 ⟨rfl,rfl⟩))
    go_ret
    have hr:upsOk s i=(wy == 1):=by
     rw [HU.out];rw [if_neg H0.out,show inB t.up 0 ((i:Int) - 1)=true from H1.out,r4,<-HWY.out,show isLive t=true by simp [isLive,W0.out]];rw [Bool.true_and,Bool.not_true,Bool.false_or,Bool.eq_iff_iff,decide_eq_true_eq,beq_iff_eq]
    rw [hr];exact ⟨rfl,HB.out⟩
   ·have z0:(t.way == 0)=false:=by simp [w0]
    by_cases w1:t.way=1
    ·have z1:(t.way == 1)=true:=by simp [w1]
     have W1:=am w1;clear w0 w1
     go_wp2_with (first
     |((with_reducible refine gate_dst (N:=2) rfl ?_);refine box_event rfl (N:=2) rfl (t:=27) (by go_simp<;>rfl) ?_;intro gs hg w2 hbox hb;have BS:=am hbox;have HB:=am hb;have BSc:=zc8 BS.out;clear hbox hb hg)
     |((with_reducible refine gate_dst (N:=11) rfl ?_);refine wpList_load_mid rfl 38 (.tmp 10) rfl b (o+i*13) rfl _ _ (fun j u hu=>cellB HB.out (HCC.out j u hu)) Try.underlying38 rfl (by kernel_rfl) ?_)|((with_reducible refine gate_dst (N:=5) rfl ?_);refine box_event rfl (N:=5) rfl (t:=38) (by go_simp<;>rfl) ?_;intro gt hg wt hbox hb;have BT0:=am hbox;have GT:=am hg;have HBT:=am hb;clear hbox hb hg)|((with_reducible refine gate_store (t:=38) (p:=5) rfl ?_);refine store_block rfl rfl 38 (.tmp 5) (.tmp 11) rfl rfl rfl BT0.out rfl (by kernel_rfl) (aB rfl) ?_;intro wn hbox hg;have BT:=am hbox;have hbx:=pw_below_grown HBT.out _ HBT.out.size hg (fun z hz=>by cases hz;exact Nat.le_of_eq GT.out.symm);replace BS:=am (zb8 BS.out hbx);replace HB:=am (below_step HB.out hbx);clear BSc BT0 HBT hbx hbox hg;have BSc:=zc8 BS.out;have BTc:=zc8 BT.out;have pww:=cellB HB.out PW.out)
     |(go_at_call 50;refine (l6In_calls _ _ _ _).mono ?_;(first|rw [H1.out]);rintro e w9 ⟨rfl,rfl⟩))
     go_ret
     have hr:upsOk s i=(wy == 1):=by
      rw [HU.out];rw [if_neg H0.out,show inB t.up 0 ((i:Int) - 1)=true from H1.out,r4,<-HWY.out,show isLive t=true by simp [isLive,W1.out]];rw [Bool.true_and,Bool.not_true,Bool.false_or,Bool.eq_iff_iff,decide_eq_true_eq,beq_iff_eq]
     rw [hr];exact ⟨rfl,HB.out⟩
    ·have z1:(t.way == 1)=false:=by simp [w1]
     have WN:Aside0 (isLive t=false):=⟨by simp [isLive,w0,w1]⟩;clear w0 w1
     go_wp2_with (first
     |((with_reducible refine gate_dst (N:=2) rfl ?_);refine box_event rfl (N:=2) rfl (t:=27) (by go_simp<;>rfl) ?_;intro gs hg w2 hbox hb;have BS:=am hbox;have HB:=am hb;have BSc:=zc8 BS.out;clear hbox hb hg)
     |((with_reducible refine gate_dst (N:=11) rfl ?_);refine wpList_load_mid rfl 38 (.tmp 10) rfl b (o+i*13) rfl _ _ (fun j u hu=>cellB HB.out (HCC.out j u hu)) Try.underlying38 rfl (by kernel_rfl) ?_)|((with_reducible refine gate_dst (N:=5) rfl ?_);refine box_event rfl (N:=5) rfl (t:=38) (by go_simp<;>rfl) ?_;intro gt hg wt hbox hb;have BT0:=am hbox;have GT:=am hg;have HBT:=am hb;clear hbox hb hg)|((with_reducible refine gate_store (t:=38) (p:=5) rfl ?_);refine store_block rfl rfl 38 (.tmp 5) (.tmp 11) rfl rfl rfl BT0.out rfl (by kernel_rfl) (aB rfl) ?_;intro wn hbox hg;have BT:=am hbox;have hbx:=pw_below_grown HBT.out _ HBT.out.size hg (fun z hz=>by cases hz;exact Nat.le_of_eq GT.out.symm);replace BS:=am (zb8 BS.out hbx);replace HB:=am (below_step HB.out hbx);clear BSc BT0 HBT hbx hbox hg;have BSc:=zc8 BS.out;have BTc:=zc8 BT.out;have pww:=cellB HB.out PW.out)
     |(go_at_call 50;refine (l6In_calls _ _ _ _).mono ?_;(first|rw [H1.out]);rintro e w9 ⟨rfl,rfl⟩))
     go_ret
     have hr:upsOk s i=true:=by
      rw [HU.out];rw [if_neg H0.out,show inB t.up 0 ((i:Int) - 1)=true from H1.out,WN.out];rfl
     rw [hr];exact ⟨rfl,HB.out⟩
theorem l12Cells_calls (s:Sys) (ss:List Value) (w:World) (hs:kSys.K w s ss) (hm:s.cells.length<=1048576) (hn:s.tasks.length<=1048576) (hz:∀ i,i < s.tasks.length->(taskAt s.tasks i).puts.length<=1048576):
  Calls Try.prog 58 #[.agg ss.toArray] w fun e w'=>e= .returned (.bool (cellsOk s))/\Below w.heap.size w w':=by
 obtain ⟨A0,c0,A1,c1,A3,c3,rfl,-,g0,-,g1,-⟩:=kSys_open hs;have G0:=am g0;have G1:=am g1;have HZ:=am hz;clear hs g0 g1 hz;go_enter Try.func58,Try.ntmps58
 go_wp2_with (first
 |((with_reducible refine gate_dst (N:=1) rfl ?_);refine box_event rfl (N:=1) rfl (t:=27) (by go_simp<;>rfl) ?_;intro gs hg w2 hbox hb;have BS:=am hbox;have HB:=am hb;have BSc:=zc8 BS.out;clear hbox hb hg))
 go_loopw [3] (fun j w'=>∃ k:Nat,k<=s.cells.length/\j= .int .i64 k/\Aside0 (∀ i,i < k->(inB (cellAt s.cells i).num 0 99 && inB (cellAt s.cells i).time 0 s.clock && inB (cellAt s.cells i).lock (-1) (s.tasks.length - 1) && allB s.tasks.length fun k=>decide (holds (taskAt s.tasks k) i=decide ((cellAt s.cells i).lock=k)))=true)/\Aside0 (w'.heap[gs]? = some (.cells #[.slice A0 s.cells.length c0,.slice A1 s.tasks.length c1,.int .i64 s.clock,.slice A3 s.log.length c3] 27 (0,0)))/\Aside0 (Below w.heap.size w w')) (fun j _=>s.cells.length - (intOf j).toNat)
 case atStart=>exact ⟨0,Nat.zero_le _,rfl,⟨fun i hi=>by omega⟩,BS,HB⟩
 case round=>
  clear BS HB BSc;obtain ⟨k,hk,rfl,HJ,BS,HB⟩:=hrel;have BSc:=zc8 BS.out;by_cases hlt:k < s.cells.length
  ·obtain ⟨bc,oc,cs,rfl,hcl,hK,hcc,-⟩:=C_field G0.out zCell k hlt (by decide)
   obtain ⟨c,hcx⟩:∃ x,x=cellAt s.cells k:=⟨_,rfl⟩;rw [show s.cells.getD k zCell=c from hcx.symm] at hK;have e:=kCell_open hK;subst e;have HC:=am hcc;have CX:=am hcx;have q0:(0:Int)<=(k:Int):=by omega
   have q1:(k:Int) < (s.cells.length:Int):=by omega
   clear hcl hK hcc hcx;obtain ⟨bH1,hbH1⟩:∃ b,inB c.num 0 99=b:=⟨_,rfl⟩;have H1:Aside0 ((decide ((0:Int)<=c.num) && decide (c.num<=99))=bH1):=⟨hbH1⟩;clear hbH1;obtain ⟨bH2,hbH2⟩:∃ b,inB c.time 0 s.clock=b:=⟨_,rfl⟩;have H2:Aside0 ((decide ((0:Int)<=c.time) && decide (c.time<=s.clock))=bH2):=⟨hbH2⟩;clear hbH2;obtain ⟨bH3,hbH3⟩:∃ b,inB c.lock (-1) ((s.tasks.length:Int) - 1)=b:=⟨_,rfl⟩;have H3:Aside0 ((decide ((-1:Int)<=c.lock) && decide (c.lock<=(s.tasks.length:Int) - 1))=bH3):=⟨hbH3⟩;clear hbH3
   cases bH1 with
   | false=>
    go_wp2_with (first
    |((with_reducible refine gate_dst (N:=17) rfl ?_);refine wpList_load_mid rfl 53 (.tmp 16) rfl bc (oc+k*3) rfl _ _ (fun j u hu=>cellB HB.out (HC.out j u hu)) Try.underlying53 rfl (by kernel_rfl) ?_)|((with_reducible refine gate_dst (N:=4) rfl ?_);refine box_event rfl (N:=4) rfl (t:=53) (by go_simp<;>rfl) ?_;intro gc hg wt hbox hb;have BC0:=am hbox;have GC:=am hg;have HBT:=am hb;clear hbox hb hg)|((with_reducible refine gate_store (t:=53) (p:=4) rfl ?_);refine store_block rfl rfl 53 (.tmp 4) (.tmp 17) rfl rfl rfl BC0.out rfl (by kernel_rfl) (aB rfl) ?_;intro wn hbox hg;have BC:=am hbox;have hbx:=pw_below_grown HBT.out _ HBT.out.size hg (fun z hz=>by cases hz;exact Nat.le_of_eq GC.out.symm);replace BS:=am (zb8 BS.out hbx);replace HB:=am (below_step HB.out hbx);clear BSc BC0 HBT hbx hbox hg;have BSc:=zc8 BS.out;have BCc:=zc8 BC.out)
    |(go_at_call 50;refine (l6In_calls _ _ _ _).mono ?_;(first|rw [H1.out] | rw [H2.out] | rw [H3.out]);rintro e w9 ⟨rfl,rfl⟩))
    go_ret
    have hr:cellsOk s=false:=by
     unfold cellsOk;exact allB_no hlt (by rw [<-CX.out];simp only [];rw [show inB c.num 0 99=false from H1.out,Bool.false_and,Bool.false_and,Bool.false_and])
    rw [hr]
    exact ⟨rfl,HB.out⟩
   | true=>
    cases bH2 with
    | false=>
     go_wp2_with (first
     |((with_reducible refine gate_dst (N:=17) rfl ?_);refine wpList_load_mid rfl 53 (.tmp 16) rfl bc (oc+k*3) rfl _ _ (fun j u hu=>cellB HB.out (HC.out j u hu)) Try.underlying53 rfl (by kernel_rfl) ?_)|((with_reducible refine gate_dst (N:=4) rfl ?_);refine box_event rfl (N:=4) rfl (t:=53) (by go_simp<;>rfl) ?_;intro gc hg wt hbox hb;have BC0:=am hbox;have GC:=am hg;have HBT:=am hb;clear hbox hb hg)|((with_reducible refine gate_store (t:=53) (p:=4) rfl ?_);refine store_block rfl rfl 53 (.tmp 4) (.tmp 17) rfl rfl rfl BC0.out rfl (by kernel_rfl) (aB rfl) ?_;intro wn hbox hg;have BC:=am hbox;have hbx:=pw_below_grown HBT.out _ HBT.out.size hg (fun z hz=>by cases hz;exact Nat.le_of_eq GC.out.symm);replace BS:=am (zb8 BS.out hbx);replace HB:=am (below_step HB.out hbx);clear BSc BC0 HBT hbx hbox hg;have BSc:=zc8 BS.out;have BCc:=zc8 BC.out)
     |(go_at_call 50;refine (l6In_calls _ _ _ _).mono ?_;(first|rw [H1.out] | rw [H2.out] | rw [H3.out]);rintro e w9 ⟨rfl,rfl⟩))
     go_ret
     have hr:cellsOk s=false:=by
      unfold cellsOk;exact allB_no hlt (by rw [<-CX.out];simp only [];rw [show inB c.time 0 s.clock=false from H2.out,Bool.and_false,Bool.false_and,Bool.false_and])
     rw [hr]
     exact ⟨rfl,HB.out⟩
    | true=>
     cases bH3 with
     | false=>
      go_wp2_with (first
      |((with_reducible refine gate_dst (N:=17) rfl ?_);refine wpList_load_mid rfl 53 (.tmp 16) rfl bc (oc+k*3) rfl _ _ (fun j u hu=>cellB HB.out (HC.out j u hu)) Try.underlying53 rfl (by kernel_rfl) ?_)|((with_reducible refine gate_dst (N:=4) rfl ?_);refine box_event rfl (N:=4) rfl (t:=53) (by go_simp<;>rfl) ?_;intro gc hg wt hbox hb;have BC0:=am hbox;have GC:=am hg;have HBT:=am hb;clear hbox hb hg)|((with_reducible refine gate_store (t:=53) (p:=4) rfl ?_);refine store_block rfl rfl 53 (.tmp 4) (.tmp 17) rfl rfl rfl BC0.out rfl (by kernel_rfl) (aB rfl) ?_;intro wn hbox hg;have BC:=am hbox;have hbx:=pw_below_grown HBT.out _ HBT.out.size hg (fun z hz=>by cases hz;exact Nat.le_of_eq GC.out.symm);replace BS:=am (zb8 BS.out hbx);replace HB:=am (below_step HB.out hbx);clear BSc BC0 HBT hbx hbox hg;have BSc:=zc8 BS.out;have BCc:=zc8 BC.out)
      |(go_at_call 50;refine (l6In_calls _ _ _ _).mono ?_;(first|rw [H1.out] | rw [H2.out] | rw [H3.out]);rintro e w9 ⟨rfl,rfl⟩))
      go_ret
      have hr:cellsOk s=false:=by
       unfold cellsOk;exact allB_no hlt (by rw [<-CX.out];simp only [];rw [show inB c.lock (-1) ((s.tasks.length:Int) - 1)=false from H3.out,Bool.and_false,Bool.false_and])
      rw [hr]
      exact ⟨rfl,HB.out⟩
     | true=>
      go_wp2_with (first
      |((with_reducible refine gate_dst (N:=17) rfl ?_);refine wpList_load_mid rfl 53 (.tmp 16) rfl bc (oc+k*3) rfl _ _ (fun j u hu=>cellB HB.out (HC.out j u hu)) Try.underlying53 rfl (by kernel_rfl) ?_)|((with_reducible refine gate_dst (N:=4) rfl ?_);refine box_event rfl (N:=4) rfl (t:=53) (by go_simp<;>rfl) ?_;intro gc hg wt hbox hb;have BC0:=am hbox;have GC:=am hg;have HBT:=am hb;clear hbox hb hg)|((with_reducible refine gate_store (t:=53) (p:=4) rfl ?_);refine store_block rfl rfl 53 (.tmp 4) (.tmp 17) rfl rfl rfl BC0.out rfl (by kernel_rfl) (aB rfl) ?_;intro wn hbox hg;have BC:=am hbox;have hbx:=pw_below_grown HBT.out _ HBT.out.size hg (fun z hz=>by cases hz;exact Nat.le_of_eq GC.out.symm);replace BS:=am (zb8 BS.out hbx);replace HB:=am (below_step HB.out hbx);clear BSc BC0 HBT hbx hbox hg;have BSc:=zc8 BS.out;have BCc:=zc8 BC.out)
      |(go_at_call 50;refine (l6In_calls _ _ _ _).mono ?_;(first|rw [H1.out] | rw [H2.out] | rw [H3.out]);rintro e w9 ⟨rfl,rfl⟩))
      go_loopw [5] (fun j w'=>∃ m:Nat,m<=s.tasks.length/\j= .int .i64 m/\Aside0 (∀ i,i < m->decide (holds (taskAt s.tasks i) k=decide (c.lock=i))=true)/\Aside0 (w'.heap[gs]? = some (.cells #[.slice (some ⟨bc,oc,none⟩) s.cells.length c0,.slice A1 s.tasks.length c1,.int .i64 s.clock,.slice A3 s.log.length c3] 27 (0,0)))/\Aside0 (w'.heap[gc]? = some (.cells #[.int .i64 c.num,.int .i64 c.time,.int .i64 c.lock] 53 (0,0)))/\Aside0 (Below w.heap.size w w')) (fun j _=>s.tasks.length - (intOf j).toNat)
      case atStart=>exact ⟨0,Nat.zero_le _,rfl,⟨fun i hi=>by omega⟩,BS,BC,HB⟩
      case round=>
       clear BS BC HB BSc BCc;obtain ⟨m,hm',rfl,HM,BS,BC,HB⟩:=hrel;have BSc:=zc8 BS.out;have BCc:=zc8 BC.out;by_cases hmt:m < s.tasks.length
       ·obtain ⟨b,o,cs,rfl,hcl,hK,hcc,-⟩:=C_field G1.out zTask m hmt (by decide)
        have HPN:=am (HZ.out m hmt);obtain ⟨t,htx⟩:∃ x,x=taskAt s.tasks m:=⟨_,rfl⟩;rw [<-htx] at HPN;rw [show s.tasks.getD m zTask=t from htx.symm] at hK;have HK:=am hK;have TX:=am htx;obtain ⟨B3,d3,B8,d8,B9,d9,B10,d10,rfl,-⟩:=kTask_open hK;have HT:=am hcc;have r0:(0:Int)<=(m:Int):=by omega
        have r1:(m:Int) < (s.tasks.length:Int):=by omega
        clear hcl hK hcc htx
        cases hbh:holds t (k:Int) with
        | true=>
         have HH:=am hbh;clear hbh;by_cases hl:c.lock=(m:Int)
         ·have yl:(c.lock == (m:Int))=true:=by simp [hl]
          have HL:Aside0 (decide (c.lock=(m:Int))=true):=⟨decide_eq_true hl⟩;clear hl;go_wp2;refine st9 (n:=12) (S:=fun W=>W.heap[gs]? = some (.cells #[.slice (some ⟨bc,oc,none⟩) s.cells.length c0,.slice (some ⟨b,o,none⟩) s.tasks.length c1,.int .i64 s.clock,.slice A3 s.log.length c3] 27 (0,0))/\W.heap[gc]? = some (.cells #[.int .i64 c.num,.int .i64 c.time,.int .i64 c.lock] 53 (0,0))/\∀ j u, [.int .i64 t.body,.int .i64 t.pc,.int .i64 t.up,.slice B3 t.regs.length d3,.int .i64 t.way,.int .i64 t.stage,.int .i64 t.at_,.int .i64 t.since,.slice B8 t.old.length d8,.slice B9 t.reads.length d9,.slice B10 t.puts.length d10,.int .i64 t.when_,.int .i64 t.from_][j]? = some u->W.cell? ⟨b,o+m*13+j,none⟩=some u) (ds:= []) (by kernel_rfl) rfl ⟨blk_drew BS.out,blk_drew BC.out,fun j u hu=>(show wr.cell? ⟨b,o+m*13+j,none⟩=_ from cellB HB.out (HT.out j u hu))⟩ (fun hHeld=> ?_);have hb:=below_drew (Below.refl wr.heap.size wr);generalize wr.drew=w7 at hb hHeld ⊢;have HB7:=am (below_step HB.out hb);clear hb HB BS BC BSc BCc;refine ba9 (fuel:=2) (n:=10) [0,1,2,3,4,5,7,8,9,10] (by kernel_rfl) (fun N _ _ _ _ h=>by cases N <;> exact h) hHeld ?_
          iterate 10 (
           refine stillS_step (v:= ?_) (a':= ?_) rfl (Or.inl ⟨by rfl, ?_⟩) ?_ ?_;rotate_left
           ·rintro W ⟨s0,s2,s3⟩
            have t0:=zc8 s0;have t2:=zc8 s2;have u0:=s3 0 _ rfl;have u1:=s3 1 _ rfl;have u2:=s3 2 _ rfl;have u3:=s3 3 _ rfl;have u4:=s3 4 _ rfl;have u5:=s3 5 _ rfl;have u6:=s3 6 _ rfl;have u7:=s3 7 _ rfl;have u8:=s3 8 _ rfl;have u9:=s3 9 _ rfl;have u10:=s3 10 _ rfl;have u11:=s3 11 _ rfl;have u12:=s3 12 _ rfl;rw [Nat.add_zero] at u0;clear s0 s2 s3;go_simp;with_reducible rfl
           rotate_left
           ·simp only [Act.put,sA,sZ,sS,i64_w]
            rfl)
          refine stillS_nil ?_;refine on9 (i:=6) (N:=some 53) rfl rfl (by kernel_rfl) (by decide) (fun K hK=> ?_);refine goes_ Try.func96 (by kernel_rfl) rfl #[.agg #[.int .i64 t.body,.int .i64 t.pc,.int .i64 t.up,.slice B3 t.regs.length d3,.int .i64 t.way,.int .i64 t.stage,.int .i64 t.at_,.int .i64 t.since,.slice B8 t.old.length d8,.slice B9 t.reads.length d9,.slice B10 t.puts.length d10,.int .i64 t.when_,.int .i64 t.from_],.int .i64 k] (by rfl) rfl rfl (by (try simp only [List.map_toArray,List.map_cons,List.map_nil]);first | done | rfl) ?_;refine (l12Holds_calls t _ (k:Int) _ (kTask.K_below HB7.out HK.out) HPN.out).mono ?_;rw [HH.out];rintro e wn ⟨rfl,hb⟩;refine ⟨_,rfl, ?_⟩;refine hK.out _ _ ⟨zb8 hHeld.1 hb,zb8 hHeld.2.1 hb,fun j u hu=>cellB hb (hHeld.2.2 j u hu)⟩ (fun hHeld=> ?_);clear hK K;refine norm_ (a':= ?_) ?_ ?_;rotate_left
          ·show Act.put _ (some 53) _=_
           simp only [Act.put,sA,sZ,sS,i64_w];rfl
          have HB:=am (below_step HB7.out hb);refine ba9 (fuel:=0) (n:=1) [11] (by kernel_rfl) (fun N _ _ _ _ h=>by cases N <;> exact h) hHeld ?_
          iterate 1 (
           refine stillS_step (v:= ?_) (a':= ?_) rfl (Or.inl ⟨by rfl, ?_⟩) ?_ ?_;rotate_left
           ·intro W hW
            go_simp
            with_reducible rfl
           rotate_left
           ·simp only [Act.put,sA,sZ,sS,i64_w]
            rfl)
          refine stillS_nil ?_;have BS:=am hHeld.1;have BC:=am hHeld.2.1;clear hHeld HB7 hb;have BSc:=zc8 BS.out;have BCc:=zc8 BC.out;refine done_ (by kernel_rfl) ?_;go_wp2;go_roundw
          case rel=>exact ⟨m+1,by omega,by go_num,⟨fun i hi=>by rcases Nat.lt_or_ge i m with h | h;exact HM.out i h;obtain rfl:i=m:=(by omega);rw [<-TX.out,HH.out,HL.out];rfl⟩,BS,BC,HB⟩
          case measure=>simp [intOf];omega
         ·have yl:(c.lock == (m:Int))=false:=by simp [hl]
          have HL:Aside0 (decide (c.lock=(m:Int))=false):=⟨decide_eq_false hl⟩;clear hl;go_wp2;refine st9 (n:=12) (S:=fun W=>W.heap[gs]? = some (.cells #[.slice (some ⟨bc,oc,none⟩) s.cells.length c0,.slice (some ⟨b,o,none⟩) s.tasks.length c1,.int .i64 s.clock,.slice A3 s.log.length c3] 27 (0,0))/\W.heap[gc]? = some (.cells #[.int .i64 c.num,.int .i64 c.time,.int .i64 c.lock] 53 (0,0))/\∀ j u, [.int .i64 t.body,.int .i64 t.pc,.int .i64 t.up,.slice B3 t.regs.length d3,.int .i64 t.way,.int .i64 t.stage,.int .i64 t.at_,.int .i64 t.since,.slice B8 t.old.length d8,.slice B9 t.reads.length d9,.slice B10 t.puts.length d10,.int .i64 t.when_,.int .i64 t.from_][j]? = some u->W.cell? ⟨b,o+m*13+j,none⟩=some u) (ds:= []) (by kernel_rfl) rfl ⟨blk_drew BS.out,blk_drew BC.out,fun j u hu=>(show wr.cell? ⟨b,o+m*13+j,none⟩=_ from cellB HB.out (HT.out j u hu))⟩ (fun hHeld=> ?_);have hb:=below_drew (Below.refl wr.heap.size wr);generalize wr.drew=w7 at hb hHeld ⊢;have HB7:=am (below_step HB.out hb);clear hb HB BS BC BSc BCc;refine ba9 (fuel:=2) (n:=10) [0,1,2,3,4,5,7,8,9,10] (by kernel_rfl) (fun N _ _ _ _ h=>by cases N <;> exact h) hHeld ?_
          iterate 10 (
           refine stillS_step (v:= ?_) (a':= ?_) rfl (Or.inl ⟨by rfl, ?_⟩) ?_ ?_;rotate_left
           ·rintro W ⟨s0,s2,s3⟩
            have t0:=zc8 s0;have t2:=zc8 s2;have u0:=s3 0 _ rfl;have u1:=s3 1 _ rfl;have u2:=s3 2 _ rfl;have u3:=s3 3 _ rfl;have u4:=s3 4 _ rfl;have u5:=s3 5 _ rfl;have u6:=s3 6 _ rfl;have u7:=s3 7 _ rfl;have u8:=s3 8 _ rfl;have u9:=s3 9 _ rfl;have u10:=s3 10 _ rfl;have u11:=s3 11 _ rfl;have u12:=s3 12 _ rfl;rw [Nat.add_zero] at u0;clear s0 s2 s3;go_simp;with_reducible rfl
           rotate_left
           ·simp only [Act.put,sA,sZ,sS,i64_w]
            rfl)
          refine stillS_nil ?_;refine on9 (i:=6) (N:=some 53) rfl rfl (by kernel_rfl) (by decide) (fun K hK=> ?_);refine goes_ Try.func96 (by kernel_rfl) rfl #[.agg #[.int .i64 t.body,.int .i64 t.pc,.int .i64 t.up,.slice B3 t.regs.length d3,.int .i64 t.way,.int .i64 t.stage,.int .i64 t.at_,.int .i64 t.since,.slice B8 t.old.length d8,.slice B9 t.reads.length d9,.slice B10 t.puts.length d10,.int .i64 t.when_,.int .i64 t.from_],.int .i64 k] (by rfl) rfl rfl (by (try simp only [List.map_toArray,List.map_cons,List.map_nil]);first | done | rfl) ?_;refine (l12Holds_calls t _ (k:Int) _ (kTask.K_below HB7.out HK.out) HPN.out).mono ?_;rw [HH.out];rintro e wn ⟨rfl,hb⟩;refine ⟨_,rfl, ?_⟩;refine hK.out _ _ ⟨zb8 hHeld.1 hb,zb8 hHeld.2.1 hb,fun j u hu=>cellB hb (hHeld.2.2 j u hu)⟩ (fun hHeld=> ?_);clear hK K;refine norm_ (a':= ?_) ?_ ?_;rotate_left
          ·show Act.put _ (some 53) _=_
           simp only [Act.put,sA,sZ,sS,i64_w];rfl
          have HB:=am (below_step HB7.out hb);refine ba9 (fuel:=0) (n:=1) [11] (by kernel_rfl) (fun N _ _ _ _ h=>by cases N <;> exact h) hHeld ?_
          iterate 1 (
           refine stillS_step (v:= ?_) (a':= ?_) rfl (Or.inl ⟨by rfl, ?_⟩) ?_ ?_;rotate_left
           ·intro W hW
            go_simp
            with_reducible rfl
           rotate_left
           ·simp only [Act.put,sA,sZ,sS,i64_w]
            rfl)
          refine stillS_nil ?_;have BS:=am hHeld.1;have BC:=am hHeld.2.1;clear hHeld HB7 hb;have BSc:=zc8 BS.out;have BCc:=zc8 BC.out;refine done_ (by kernel_rfl) ?_;go_wp2;go_ret
          have hr:cellsOk s=false:=by
           unfold cellsOk;exact allB_no hlt (by rw [<-CX.out];simp only [];rw [allB_no hmt (by rw [<-TX.out,HH.out,HL.out];rfl),Bool.and_false])
          rw [hr]
          exact ⟨rfl,HB.out⟩
        | false=>
         have HH:=am hbh;clear hbh;by_cases hl:c.lock=(m:Int)
         ·have yl:(c.lock == (m:Int))=true:=by simp [hl]
          have HL:Aside0 (decide (c.lock=(m:Int))=true):=⟨decide_eq_true hl⟩;clear hl;go_wp2;refine st9 (n:=12) (S:=fun W=>W.heap[gs]? = some (.cells #[.slice (some ⟨bc,oc,none⟩) s.cells.length c0,.slice (some ⟨b,o,none⟩) s.tasks.length c1,.int .i64 s.clock,.slice A3 s.log.length c3] 27 (0,0))/\W.heap[gc]? = some (.cells #[.int .i64 c.num,.int .i64 c.time,.int .i64 c.lock] 53 (0,0))/\∀ j u, [.int .i64 t.body,.int .i64 t.pc,.int .i64 t.up,.slice B3 t.regs.length d3,.int .i64 t.way,.int .i64 t.stage,.int .i64 t.at_,.int .i64 t.since,.slice B8 t.old.length d8,.slice B9 t.reads.length d9,.slice B10 t.puts.length d10,.int .i64 t.when_,.int .i64 t.from_][j]? = some u->W.cell? ⟨b,o+m*13+j,none⟩=some u) (ds:= []) (by kernel_rfl) rfl ⟨blk_drew BS.out,blk_drew BC.out,fun j u hu=>(show wr.cell? ⟨b,o+m*13+j,none⟩=_ from cellB HB.out (HT.out j u hu))⟩ (fun hHeld=> ?_);have hb:=below_drew (Below.refl wr.heap.size wr);generalize wr.drew=w7 at hb hHeld ⊢;have HB7:=am (below_step HB.out hb);clear hb HB BS BC BSc BCc;refine ba9 (fuel:=2) (n:=10) [0,1,2,3,4,5,7,8,9,10] (by kernel_rfl) (fun N _ _ _ _ h=>by cases N <;> exact h) hHeld ?_
          iterate 10 (
           refine stillS_step (v:= ?_) (a':= ?_) rfl (Or.inl ⟨by rfl, ?_⟩) ?_ ?_;rotate_left
           ·rintro W ⟨s0,s2,s3⟩
            have t0:=zc8 s0;have t2:=zc8 s2;have u0:=s3 0 _ rfl;have u1:=s3 1 _ rfl;have u2:=s3 2 _ rfl;have u3:=s3 3 _ rfl;have u4:=s3 4 _ rfl;have u5:=s3 5 _ rfl;have u6:=s3 6 _ rfl;have u7:=s3 7 _ rfl;have u8:=s3 8 _ rfl;have u9:=s3 9 _ rfl;have u10:=s3 10 _ rfl;have u11:=s3 11 _ rfl;have u12:=s3 12 _ rfl;rw [Nat.add_zero] at u0;clear s0 s2 s3;go_simp;with_reducible rfl
           rotate_left
           ·simp only [Act.put,sA,sZ,sS,i64_w]
            rfl)
          refine stillS_nil ?_;refine on9 (i:=6) (N:=some 53) rfl rfl (by kernel_rfl) (by decide) (fun K hK=> ?_);refine goes_ Try.func96 (by kernel_rfl) rfl #[.agg #[.int .i64 t.body,.int .i64 t.pc,.int .i64 t.up,.slice B3 t.regs.length d3,.int .i64 t.way,.int .i64 t.stage,.int .i64 t.at_,.int .i64 t.since,.slice B8 t.old.length d8,.slice B9 t.reads.length d9,.slice B10 t.puts.length d10,.int .i64 t.when_,.int .i64 t.from_],.int .i64 k] (by rfl) rfl rfl (by (try simp only [List.map_toArray,List.map_cons,List.map_nil]);first | done | rfl) ?_;refine (l12Holds_calls t _ (k:Int) _ (kTask.K_below HB7.out HK.out) HPN.out).mono ?_;rw [HH.out];rintro e wn ⟨rfl,hb⟩;refine ⟨_,rfl, ?_⟩;refine hK.out _ _ ⟨zb8 hHeld.1 hb,zb8 hHeld.2.1 hb,fun j u hu=>cellB hb (hHeld.2.2 j u hu)⟩ (fun hHeld=> ?_);clear hK K;refine norm_ (a':= ?_) ?_ ?_;rotate_left
          ·show Act.put _ (some 53) _=_
           simp only [Act.put,sA,sZ,sS,i64_w];rfl
          have HB:=am (below_step HB7.out hb);refine ba9 (fuel:=0) (n:=1) [11] (by kernel_rfl) (fun N _ _ _ _ h=>by cases N <;> exact h) hHeld ?_
          iterate 1 (
           refine stillS_step (v:= ?_) (a':= ?_) rfl (Or.inl ⟨by rfl, ?_⟩) ?_ ?_;rotate_left
           ·intro W hW
            go_simp
            with_reducible rfl
           rotate_left
           ·simp only [Act.put,sA,sZ,sS,i64_w]
            rfl)
          refine stillS_nil ?_;have BS:=am hHeld.1;have BC:=am hHeld.2.1;clear hHeld HB7 hb;have BSc:=zc8 BS.out;have BCc:=zc8 BC.out;refine done_ (by kernel_rfl) ?_;go_wp2;go_ret
          have hr:cellsOk s=false:=by
           unfold cellsOk;exact allB_no hlt (by rw [<-CX.out];simp only [];rw [allB_no hmt (by rw [<-TX.out,HH.out,HL.out];rfl),Bool.and_false])
          rw [hr];exact ⟨rfl,HB.out⟩
         ·have yl:(c.lock == (m:Int))=false:=by simp [hl]
          have HL:Aside0 (decide (c.lock=(m:Int))=false):=⟨decide_eq_false hl⟩;clear hl;go_wp2;refine st9 (n:=12) (S:=fun W=>W.heap[gs]? = some (.cells #[.slice (some ⟨bc,oc,none⟩) s.cells.length c0,.slice (some ⟨b,o,none⟩) s.tasks.length c1,.int .i64 s.clock,.slice A3 s.log.length c3] 27 (0,0))/\W.heap[gc]? = some (.cells #[.int .i64 c.num,.int .i64 c.time,.int .i64 c.lock] 53 (0,0))/\∀ j u, [.int .i64 t.body,.int .i64 t.pc,.int .i64 t.up,.slice B3 t.regs.length d3,.int .i64 t.way,.int .i64 t.stage,.int .i64 t.at_,.int .i64 t.since,.slice B8 t.old.length d8,.slice B9 t.reads.length d9,.slice B10 t.puts.length d10,.int .i64 t.when_,.int .i64 t.from_][j]? = some u->W.cell? ⟨b,o+m*13+j,none⟩=some u) (ds:= []) (by kernel_rfl) rfl ⟨blk_drew BS.out,blk_drew BC.out,fun j u hu=>(show wr.cell? ⟨b,o+m*13+j,none⟩=_ from cellB HB.out (HT.out j u hu))⟩ (fun hHeld=> ?_);have hb:=below_drew (Below.refl wr.heap.size wr);generalize wr.drew=w7 at hb hHeld ⊢;have HB7:=am (below_step HB.out hb);clear hb HB BS BC BSc BCc;refine ba9 (fuel:=2) (n:=10) [0,1,2,3,4,5,7,8,9,10] (by kernel_rfl) (fun N _ _ _ _ h=>by cases N <;> exact h) hHeld ?_
          iterate 10 (
           refine stillS_step (v:= ?_) (a':= ?_) rfl (Or.inl ⟨by rfl, ?_⟩) ?_ ?_;rotate_left
           ·rintro W ⟨s0,s2,s3⟩
            have t0:=zc8 s0;have t2:=zc8 s2;have u0:=s3 0 _ rfl;have u1:=s3 1 _ rfl;have u2:=s3 2 _ rfl;have u3:=s3 3 _ rfl;have u4:=s3 4 _ rfl;have u5:=s3 5 _ rfl;have u6:=s3 6 _ rfl;have u7:=s3 7 _ rfl;have u8:=s3 8 _ rfl;have u9:=s3 9 _ rfl;have u10:=s3 10 _ rfl;have u11:=s3 11 _ rfl;have u12:=s3 12 _ rfl;rw [Nat.add_zero] at u0;clear s0 s2 s3;go_simp;with_reducible rfl
           rotate_left
           ·simp only [Act.put,sA,sZ,sS,i64_w]
            rfl)
          refine stillS_nil ?_;refine on9 (i:=6) (N:=some 53) rfl rfl (by kernel_rfl) (by decide) (fun K hK=> ?_);refine goes_ Try.func96 (by kernel_rfl) rfl #[.agg #[.int .i64 t.body,.int .i64 t.pc,.int .i64 t.up,.slice B3 t.regs.length d3,.int .i64 t.way,.int .i64 t.stage,.int .i64 t.at_,.int .i64 t.since,.slice B8 t.old.length d8,.slice B9 t.reads.length d9,.slice B10 t.puts.length d10,.int .i64 t.when_,.int .i64 t.from_],.int .i64 k] (by rfl) rfl rfl (by (try simp only [List.map_toArray,List.map_cons,List.map_nil]);first | done | rfl) ?_;refine (l12Holds_calls t _ (k:Int) _ (kTask.K_below HB7.out HK.out) HPN.out).mono ?_;rw [HH.out];rintro e wn ⟨rfl,hb⟩;refine ⟨_,rfl, ?_⟩;refine hK.out _ _ ⟨zb8 hHeld.1 hb,zb8 hHeld.2.1 hb,fun j u hu=>cellB hb (hHeld.2.2 j u hu)⟩ (fun hHeld=> ?_);clear hK K;refine norm_ (a':= ?_) ?_ ?_;rotate_left
          ·show Act.put _ (some 53) _=_
           simp only [Act.put,sA,sZ,sS,i64_w];rfl
          have HB:=am (below_step HB7.out hb);refine ba9 (fuel:=0) (n:=1) [11] (by kernel_rfl) (fun N _ _ _ _ h=>by cases N <;> exact h) hHeld ?_
          iterate 1 (
           refine stillS_step (v:= ?_) (a':= ?_) rfl (Or.inl ⟨by rfl, ?_⟩) ?_ ?_;rotate_left
           ·intro W hW
            go_simp
            with_reducible rfl
           rotate_left
           ·simp only [Act.put,sA,sZ,sS,i64_w]
            rfl)
          refine stillS_nil ?_;have BS:=am hHeld.1;have BC:=am hHeld.2.1;clear hHeld HB7 hb;have BSc:=zc8 BS.out;have BCc:=zc8 BC.out;refine done_ (by kernel_rfl) ?_;go_wp2;go_roundw
          case rel=>exact ⟨m+1,by omega,by go_num,⟨fun i hi=>by rcases Nat.lt_or_ge i m with h | h;exact HM.out i h;obtain rfl:i=m:=(by omega);rw [<-TX.out,HH.out,HL.out];rfl⟩,BS,BC,HB⟩
          case measure=>simp [intOf];omega
       ·obtain rfl:m=s.tasks.length:=by omega
        go_wp2;go_roundw
        case rel=>exact ⟨k+1,by omega,by go_num,⟨fun i hi=>by rcases Nat.lt_or_ge i k with h | h;exact HJ.out i h;obtain rfl:i=k:=(by omega);rw [<-CX.out,show inB c.num 0 99=true from H1.out,show inB c.time 0 s.clock=true from H2.out,show inB c.lock (-1) ((s.tasks.length:Int) - 1)=true from H3.out,allB_iff.2 HM.out];rfl⟩,BS,HB⟩
        case measure=>simp [intOf];omega
  ·obtain rfl:k=s.cells.length:=by omega
   go_wp2;go_ret
   have hr:cellsOk s=true:=by
    unfold cellsOk;exact allB_iff.2 HJ.out
   rw [hr];exact ⟨rfl,HB.out⟩
theorem l12Log_calls (p:Prog) (ps:List Value) (s:Sys) (ss:List Value) (w:World) (hp:kProg.K w p ps) (hs:kSys.K w s ss) (hz:ProgSz p) (hm:s.cells.length<=1048576) (hn:s.tasks.length<=1048576) (hl:s.log.length<=1048576) (hsz:∀ i,i < s.log.length->(entryAt s.log i).reads.length<=1048576/\(entryAt s.log i).puts.length<=1048576) (hbd:∀ i,i < s.tasks.length->0<=(taskAt s.tasks i).body/\(taskAt s.tasks i).body < p.bodies.length):
  Calls Try.prog 59 #[.agg ps.toArray,.agg ss.toArray] w fun e w'=>e= .returned (.bool (logOk p s))/\Below w.heap.size w w':=by
 obtain ⟨Ac,cc,Ab,cb,rfl,-,-,-,gb⟩:=kProg_open hp;obtain ⟨A0,c0,A1,c1,A3,c3,rfl,-,-,-,g1,-,g3⟩:=kSys_open hs;have GB:=am gb;have G1:=am g1;have G3:=am g3;have HZ:=am hsz;have HBD:=am hbd;have HSZ:Aside0 (∀ k,k < p.bodies.length->(actsAt p.bodies k).length<=1048576):=⟨fun k hk=>by rw [actsAt_eq hk];exact (hz.acts _ (List.getElem_mem hk)).1⟩;have hpb:=hz.bodies;clear hp hs gb g1 g3 hsz hbd hz;go_enter Try.func59,Try.ntmps59
 go_wp2_with (first
 |((with_reducible refine gate_dst (N:=2) rfl ?_);refine box_event rfl (N:=2) rfl (t:=48) (by go_simp<;>rfl) ?_;intro gp hg w2 hbox hb;have BP:=am hbox;clear hbox hg;have HB2:=am hb;clear hb;have HB:=HB2;clear HB2;have BPc:=zc8 BP.out)
 |((with_reducible refine gate_dst (N:=3) rfl ?_);refine box_event rfl (N:=3) rfl (t:=27) (by go_simp<;>rfl) ?_;intro gs hg w3 hbox hb;have BS:=am hbox;clear hbox hg;replace BP:=am (zb8 BP.out hb);replace HB:=am (below_step HB.out hb);clear hb BPc;have BPc:=zc8 BP.out;have BSc:=zc8 BS.out))
 go_loopw [5] (fun j w'=>∃ k:Nat,k<=s.log.length/\j= .int .i64 k/\Aside0 (∀ i,i < k->(inB (entryAt s.log i).task 0 (s.tasks.length - 1) && inB (entryAt s.log i).when_ 0 s.clock && inB (entryAt s.log i).from_ 0 i && listOk (entryAt s.log i).reads s.cells.length && listOk (entryAt s.log i).puts s.cells.length && inB (entryAt s.log i).act 0 ((actsAt p.bodies (taskAt s.tasks (entryAt s.log i).task.toNat).body.toNat).length - 1))=true)/\Aside0 (w'.heap[gp]? = some (.cells #[.slice Ac p.cells.length cc,.slice Ab p.bodies.length cb] 48 (0,0)))/\Aside0 (w'.heap[gs]? = some (.cells #[.slice A0 s.cells.length c0,.slice A1 s.tasks.length c1,.int .i64 s.clock,.slice A3 s.log.length c3] 27 (0,0)))/\Aside0 (Below w.heap.size w w')) (fun j _=>s.log.length - (intOf j).toNat)
 case atStart=>exact ⟨0,Nat.zero_le _,rfl,⟨fun i hi=>by omega⟩,BP,BS,HB⟩
 case round=>
  clear BP BS HB BPc BSc;obtain ⟨k,hk,rfl,HJ,BP,BS,HB⟩:=hrel;have BPc:=zc8 BP.out;have BSc:=zc8 BS.out;by_cases hlt:k < s.log.length
  ·obtain ⟨be,oe,cs,rfl,hcl,hK,hcc,-⟩:=C_field G3.out zEntry k hlt (by decide)
   obtain ⟨e,hex⟩:∃ x,x=entryAt s.log k:=⟨_,rfl⟩;have hz2:=HZ.out k hlt;rw [<-hex] at hz2;rw [show s.log.getD k zEntry=e from hex.symm] at hK;obtain ⟨E3,f3,E4,f4,rfl,-,g3,-,g4⟩:=kEntry_open hK;have R3:=am g3;have R4:=am g4;have HZ1:=am hz2.1;have HZ2:=am hz2.2;have HC:=am hcc;have EX:=am hex;have q0:(0:Int)<=(k:Int):=by omega
   have q1:(k:Int) < (s.log.length:Int):=by omega
   clear hcl hK hcc hex g3 g4 hz2;obtain ⟨bH1,hbH1⟩:∃ b,inB e.task 0 ((s.tasks.length:Int) - 1)=b:=⟨_,rfl⟩;have H1:Aside0 ((decide ((0:Int)<=e.task) && decide (e.task<=((s.tasks.length:Int) - 1)))=bH1):=⟨hbH1⟩;clear hbH1;obtain ⟨bH2,hbH2⟩:∃ b,inB e.when_ 0 s.clock=b:=⟨_,rfl⟩;have H2:Aside0 ((decide ((0:Int)<=e.when_) && decide (e.when_<=s.clock))=bH2):=⟨hbH2⟩;clear hbH2;obtain ⟨bH3,hbH3⟩:∃ b,inB e.from_ 0 (k:Int)=b:=⟨_,rfl⟩;have H3:Aside0 ((decide ((0:Int)<=e.from_) && decide (e.from_<=(k:Int)))=bH3):=⟨hbH3⟩;clear hbH3;obtain ⟨bH4,hbH4⟩:∃ b,listOk e.reads s.cells.length=b:=⟨_,rfl⟩;have H4:=am hbH4;clear hbH4;obtain ⟨bH5,hbH5⟩:∃ b,listOk e.puts s.cells.length=b:=⟨_,rfl⟩;have H5:=am hbH5;clear hbH5
   cases bH1 with
   | false=>
    go_wp2_with (first
    |((with_reducible refine gate_dst (N:=18) rfl ?_);refine wpList_load_mid rfl 119 (.tmp 17) rfl be (oe+k*6) rfl _ _ (fun j u hu=>cellB HB.out (HC.out j u hu)) Try.underlying119 rfl (by kernel_rfl) ?_)|((with_reducible refine gate_dst (N:=6) rfl ?_);refine box_event rfl (N:=6) rfl (t:=119) (by go_simp<;>rfl) ?_;intro ge hg wt hbox hb;have BE0:=am hbox;have GBE:=am hg;have HBT:=am hb;clear hbox hb hg)|((with_reducible refine gate_store (t:=119) (p:=6) rfl ?_);refine store_block rfl rfl 119 (.tmp 6) (.tmp 18) rfl rfl rfl BE0.out rfl (by kernel_rfl) (aB rfl) ?_;intro wn hbox hg;have BE:=am hbox;have hbx:=pw_below_grown HBT.out _ HBT.out.size hg (fun z hz=>by cases hz;exact Nat.le_of_eq GBE.out.symm);clear BE0 HBT hbox hg;replace BP:=am (zb8 BP.out hbx);replace BS:=am (zb8 BS.out hbx);replace HB:=am (below_step HB.out hbx);clear hbx BPc BSc;have BPc:=zc8 BP.out;have BSc:=zc8 BS.out;have BEc:=zc8 BE.out)
    |(go_at_call 50;refine (l6In_calls _ _ _ _).mono ?_;(first|rw [H1.out]);rintro e w9 ⟨rfl,rfl⟩))
    go_ret
    have hr:logOk p s=false:=by
     unfold logOk;exact allB_no hlt (by rw [<-EX.out];simp only [];rw [show inB e.task 0 ((s.tasks.length:Int) - 1)=false from H1.out];simp only [Bool.true_and,Bool.false_and,Bool.and_false])
    rw [hr]
    exact ⟨rfl,HB.out⟩
   | true=>
    cases bH2 with
    | false=>
     go_wp2_with (first
     |((with_reducible refine gate_dst (N:=18) rfl ?_);refine wpList_load_mid rfl 119 (.tmp 17) rfl be (oe+k*6) rfl _ _ (fun j u hu=>cellB HB.out (HC.out j u hu)) Try.underlying119 rfl (by kernel_rfl) ?_)|((with_reducible refine gate_dst (N:=6) rfl ?_);refine box_event rfl (N:=6) rfl (t:=119) (by go_simp<;>rfl) ?_;intro ge hg wt hbox hb;have BE0:=am hbox;have GBE:=am hg;have HBT:=am hb;clear hbox hb hg)|((with_reducible refine gate_store (t:=119) (p:=6) rfl ?_);refine store_block rfl rfl 119 (.tmp 6) (.tmp 18) rfl rfl rfl BE0.out rfl (by kernel_rfl) (aB rfl) ?_;intro wn hbox hg;have BE:=am hbox;have hbx:=pw_below_grown HBT.out _ HBT.out.size hg (fun z hz=>by cases hz;exact Nat.le_of_eq GBE.out.symm);clear BE0 HBT hbox hg;replace BP:=am (zb8 BP.out hbx);replace BS:=am (zb8 BS.out hbx);replace HB:=am (below_step HB.out hbx);clear hbx BPc BSc;have BPc:=zc8 BP.out;have BSc:=zc8 BS.out;have BEc:=zc8 BE.out)
     |(go_at_call 50;refine (l6In_calls _ _ _ _).mono ?_;(first|rw [H1.out] | rw [H2.out]);rintro e w9 ⟨rfl,rfl⟩))
     go_ret
     have hr:logOk p s=false:=by
      unfold logOk;exact allB_no hlt (by rw [<-EX.out];simp only [];rw [show inB e.task 0 ((s.tasks.length:Int) - 1)=true from H1.out,show inB e.when_ 0 s.clock=false from H2.out];simp only [Bool.true_and,Bool.false_and,Bool.and_false])
     rw [hr]
     exact ⟨rfl,HB.out⟩
    | true=>
     cases bH3 with
     | false=>
      go_wp2_with (first
      |((with_reducible refine gate_dst (N:=18) rfl ?_);refine wpList_load_mid rfl 119 (.tmp 17) rfl be (oe+k*6) rfl _ _ (fun j u hu=>cellB HB.out (HC.out j u hu)) Try.underlying119 rfl (by kernel_rfl) ?_)|((with_reducible refine gate_dst (N:=6) rfl ?_);refine box_event rfl (N:=6) rfl (t:=119) (by go_simp<;>rfl) ?_;intro ge hg wt hbox hb;have BE0:=am hbox;have GBE:=am hg;have HBT:=am hb;clear hbox hb hg)|((with_reducible refine gate_store (t:=119) (p:=6) rfl ?_);refine store_block rfl rfl 119 (.tmp 6) (.tmp 18) rfl rfl rfl BE0.out rfl (by kernel_rfl) (aB rfl) ?_;intro wn hbox hg;have BE:=am hbox;have hbx:=pw_below_grown HBT.out _ HBT.out.size hg (fun z hz=>by cases hz;exact Nat.le_of_eq GBE.out.symm);clear BE0 HBT hbox hg;replace BP:=am (zb8 BP.out hbx);replace BS:=am (zb8 BS.out hbx);replace HB:=am (below_step HB.out hbx);clear hbx BPc BSc;have BPc:=zc8 BP.out;have BSc:=zc8 BS.out;have BEc:=zc8 BE.out)
      |(go_at_call 50;refine (l6In_calls _ _ _ _).mono ?_;(first|rw [H1.out] | rw [H2.out] | rw [H3.out]);rintro e w9 ⟨rfl,rfl⟩))
      go_ret
      have hr:logOk p s=false:=by
       unfold logOk;exact allB_no hlt (by rw [<-EX.out];simp only [];rw [show inB e.task 0 ((s.tasks.length:Int) - 1)=true from H1.out,show inB e.when_ 0 s.clock=true from H2.out,show inB e.from_ 0 (k:Int)=false from H3.out];simp only [Bool.true_and,Bool.false_and,Bool.and_false])
      rw [hr]
      exact ⟨rfl,HB.out⟩
     | true=>
      cases bH4 with
      | false=>
       go_wp2_with (first
       |((with_reducible refine gate_dst (N:=18) rfl ?_);refine wpList_load_mid rfl 119 (.tmp 17) rfl be (oe+k*6) rfl _ _ (fun j u hu=>cellB HB.out (HC.out j u hu)) Try.underlying119 rfl (by kernel_rfl) ?_)|((with_reducible refine gate_dst (N:=6) rfl ?_);refine box_event rfl (N:=6) rfl (t:=119) (by go_simp<;>rfl) ?_;intro ge hg wt hbox hb;have BE0:=am hbox;have GBE:=am hg;have HBT:=am hb;clear hbox hb hg)|((with_reducible refine gate_store (t:=119) (p:=6) rfl ?_);refine store_block rfl rfl 119 (.tmp 6) (.tmp 18) rfl rfl rfl BE0.out rfl (by kernel_rfl) (aB rfl) ?_;intro wn hbox hg;have BE:=am hbox;have hbx:=pw_below_grown HBT.out _ HBT.out.size hg (fun z hz=>by cases hz;exact Nat.le_of_eq GBE.out.symm);clear BE0 HBT hbox hg;replace BP:=am (zb8 BP.out hbx);replace BS:=am (zb8 BS.out hbx);replace HB:=am (below_step HB.out hbx);clear hbx BPc BSc;have BPc:=zc8 BP.out;have BSc:=zc8 BS.out;have BEc:=zc8 BE.out)
       |(go_at_call 50;refine (l6In_calls _ _ _ _).mono ?_;(first|rw [H1.out] | rw [H2.out] | rw [H3.out]);rintro e w9 ⟨rfl,rfl⟩)
       |(go_at_call 92;refine (l12List_calls _ _ _ _ _ (by first|exact Kd.C_below R3.out HB.out | exact Kd.C_below R4.out HB.out) (by first|exact HZ1.out | exact HZ2.out) (by omega) (by omega)).mono ?_;(first|rw [H4.out]);rintro e w9 ⟨rfl,hb⟩;replace BP:=am (zb8 BP.out hb);replace BS:=am (zb8 BS.out hb);replace BE:=am (zb8 BE.out hb);replace HB:=am (below_step HB.out hb);clear hb BPc BSc BEc;have BPc:=zc8 BP.out;have BSc:=zc8 BS.out;have BEc:=zc8 BE.out))
       go_ret
       have hr:logOk p s=false:=by
        unfold logOk;exact allB_no hlt (by rw [<-EX.out];simp only [];rw [show inB e.task 0 ((s.tasks.length:Int) - 1)=true from H1.out,show inB e.when_ 0 s.clock=true from H2.out,show inB e.from_ 0 (k:Int)=true from H3.out,show listOk e.reads s.cells.length=false from H4.out];simp only [Bool.true_and,Bool.false_and,Bool.and_false])
       rw [hr]
       exact ⟨rfl,HB.out⟩
      | true=>
       cases bH5 with
       | false=>
        go_wp2_with (first
        |((with_reducible refine gate_dst (N:=18) rfl ?_);refine wpList_load_mid rfl 119 (.tmp 17) rfl be (oe+k*6) rfl _ _ (fun j u hu=>cellB HB.out (HC.out j u hu)) Try.underlying119 rfl (by kernel_rfl) ?_)|((with_reducible refine gate_dst (N:=6) rfl ?_);refine box_event rfl (N:=6) rfl (t:=119) (by go_simp<;>rfl) ?_;intro ge hg wt hbox hb;have BE0:=am hbox;have GBE:=am hg;have HBT:=am hb;clear hbox hb hg)|((with_reducible refine gate_store (t:=119) (p:=6) rfl ?_);refine store_block rfl rfl 119 (.tmp 6) (.tmp 18) rfl rfl rfl BE0.out rfl (by kernel_rfl) (aB rfl) ?_;intro wn hbox hg;have BE:=am hbox;have hbx:=pw_below_grown HBT.out _ HBT.out.size hg (fun z hz=>by cases hz;exact Nat.le_of_eq GBE.out.symm);clear BE0 HBT hbox hg;replace BP:=am (zb8 BP.out hbx);replace BS:=am (zb8 BS.out hbx);replace HB:=am (below_step HB.out hbx);clear hbx BPc BSc;have BPc:=zc8 BP.out;have BSc:=zc8 BS.out;have BEc:=zc8 BE.out)
        |(go_at_call 50;refine (l6In_calls _ _ _ _).mono ?_;(first|rw [H1.out] | rw [H2.out] | rw [H3.out]);rintro e w9 ⟨rfl,rfl⟩)
        |(go_at_call 92;refine (l12List_calls _ _ _ _ _ (by first|exact Kd.C_below R3.out HB.out | exact Kd.C_below R4.out HB.out) (by first|exact HZ1.out | exact HZ2.out) (by omega) (by omega)).mono ?_;(first|rw [H4.out] | rw [H5.out]);rintro e w9 ⟨rfl,hb⟩;replace BP:=am (zb8 BP.out hb);replace BS:=am (zb8 BS.out hb);replace BE:=am (zb8 BE.out hb);replace HB:=am (below_step HB.out hb);clear hb BPc BSc BEc;have BPc:=zc8 BP.out;have BSc:=zc8 BS.out;have BEc:=zc8 BE.out))
        go_ret
        have hr:logOk p s=false:=by
         unfold logOk;exact allB_no hlt (by rw [<-EX.out];simp only [];rw [show inB e.task 0 ((s.tasks.length:Int) - 1)=true from H1.out,show inB e.when_ 0 s.clock=true from H2.out,show inB e.from_ 0 (k:Int)=true from H3.out,show listOk e.reads s.cells.length=true from H4.out,show listOk e.puts s.cells.length=false from H5.out];simp only [Bool.true_and,Bool.false_and,Bool.and_false])
        rw [hr]
        exact ⟨rfl,HB.out⟩
       | true=>
        go_wp2_with (first
        |((with_reducible refine gate_dst (N:=18) rfl ?_);refine wpList_load_mid rfl 119 (.tmp 17) rfl be (oe+k*6) rfl _ _ (fun j u hu=>cellB HB.out (HC.out j u hu)) Try.underlying119 rfl (by kernel_rfl) ?_)|((with_reducible refine gate_dst (N:=6) rfl ?_);refine box_event rfl (N:=6) rfl (t:=119) (by go_simp<;>rfl) ?_;intro ge hg wt hbox hb;have BE0:=am hbox;have GBE:=am hg;have HBT:=am hb;clear hbox hb hg)|((with_reducible refine gate_store (t:=119) (p:=6) rfl ?_);refine store_block rfl rfl 119 (.tmp 6) (.tmp 18) rfl rfl rfl BE0.out rfl (by kernel_rfl) (aB rfl) ?_;intro wn hbox hg;have BE:=am hbox;have hbx:=pw_below_grown HBT.out _ HBT.out.size hg (fun z hz=>by cases hz;exact Nat.le_of_eq GBE.out.symm);clear BE0 HBT hbox hg;replace BP:=am (zb8 BP.out hbx);replace BS:=am (zb8 BS.out hbx);replace HB:=am (below_step HB.out hbx);clear hbx BPc BSc;have BPc:=zc8 BP.out;have BSc:=zc8 BS.out;have BEc:=zc8 BE.out)
        |(go_at_call 50;refine (l6In_calls _ _ _ _).mono ?_;(first|rw [H1.out] | rw [H2.out] | rw [H3.out]);rintro e w9 ⟨rfl,rfl⟩)
        |(go_at_call 92;refine (l12List_calls _ _ _ _ _ (by first|exact Kd.C_below R3.out HB.out | exact Kd.C_below R4.out HB.out) (by first|exact HZ1.out | exact HZ2.out) (by omega) (by omega)).mono ?_;(first|rw [H4.out] | rw [H5.out]);rintro e w9 ⟨rfl,hb⟩;replace BP:=am (zb8 BP.out hb);replace BS:=am (zb8 BS.out hb);replace BE:=am (zb8 BE.out hb);replace HB:=am (below_step HB.out hb);clear hb BPc BSc BEc;have BPc:=zc8 BP.out;have BSc:=zc8 BS.out;have BEc:=zc8 BE.out))
        have hu:=inB_iff.1 (show inB e.task 0 ((s.tasks.length:Int) - 1)=true from H1.out);obtain ⟨u,hu0⟩:=Int.eq_ofNat_of_zero_le hu.1;have hul:u < s.tasks.length:=by omega
        have r0:(0:Int)<=e.task:=hu.1;have r1:e.task < (s.tasks.length:Int):=by omega
        have r4:e.task.toNat=u:=by omega
        obtain ⟨b,o,cs,rfl,hcl,hK,hcc,-⟩:=C_field G1.out zTask u hul (by decide);obtain ⟨tb,htb⟩:∃ x,x=(taskAt s.tasks u).body:=⟨_,rfl⟩;have hbb:=HBD.out u hul;rw [<-htb] at hbb;rw [show s.tasks.getD u zTask=taskAt s.tasks u from rfl] at hK;obtain ⟨E3x,f3x,E8x,f8x,E9x,f9x,E10x,f10x,rfl,-⟩:=kTask_open hK;have pw:=hcc 0 _ rfl;simp only [show kTask.sz=13 from rfl,Nat.add_zero] at pw;rw [<-htb] at pw;have PW:=am pw;have HTB:=am htb;clear hcl hK hcc pw htb hu hu0;obtain ⟨kb,hkb0⟩:=Int.eq_ofNat_of_zero_le hbb.1;have hkb:kb < p.bodies.length:=by omega
        have v0:(0:Int)<=tb:=hbb.1;have v1:tb < (p.bodies.length:Int):=hbb.2;have v4:tb.toNat=kb:=by omega
        obtain ⟨bb,ob,cs2,rfl,hcl2,hK2,hcc2,-⟩:=C_field GB.out ([]:List Act) kb hkb (by decide);obtain ⟨Aa,ca,rfl,la,-⟩:=hK2;have p2:=hcc2 0 _ rfl;simp only [show (Kd.slice 108 kAct).sz=1 from rfl,Nat.mul_one,Nat.add_zero] at p2;rw [show (p.bodies.getD kb []).length=(actsAt p.bodies kb).length from rfl] at p2;have P2:=am p2;obtain ⟨na,hna⟩:∃ x,x=(actsAt p.bodies kb).length:=⟨_,rfl⟩;have hnl:na<=1048576:=by rw [hna];exact HSZ.out kb hkb
        rw [<-hna] at P2;have HNA:=am hna;have w5:wrap64 ((na:Int) - 1)=(na:Int) - 1:=by unfold wrap64;omega
        clear hcl2 hcc2 p2 la hna hbb hkb0;obtain ⟨bH6,hbH6⟩:∃ b,inB e.act 0 ((na:Int) - 1)=b:=⟨_,rfl⟩;have H6:Aside0 ((decide ((0:Int)<=e.act) && decide (e.act<=(na:Int) - 1))=bH6):=⟨hbH6⟩;clear hbH6
        cases bH6 with
        | false=>
         refine st9 (n:=17) (S:=fun W=>W.heap[gp]? = some (.cells #[.slice Ac p.cells.length cc,.slice (some ⟨bb,ob,none⟩) p.bodies.length cb] 48 (0,0))/\W.heap[gs]? = some (.cells #[.slice A0 s.cells.length c0,.slice (some ⟨b,o,none⟩) s.tasks.length c1,.int .i64 s.clock,.slice (some ⟨be,oe,none⟩) s.log.length c3] 27 (0,0))/\W.heap[ge]? = some (.cells #[.int .i64 e.task,.int .i64 e.act,.int .i64 e.when_,.slice E3 e.reads.length f3,.slice E4 e.puts.length f4,.int .i64 e.from_] 119 (0,0))/\W.cell? ⟨b,o+u*13,none⟩=some (.int .i64 tb)/\W.cell? ⟨bb,ob+kb,none⟩=some (.slice Aa na ca)) (ds:= []) (by kernel_rfl) rfl ⟨blk_drew BP.out,blk_drew BS.out,blk_drew BE.out,(show w9.cell? ⟨b,o+u*13,none⟩=_ from cellB HB.out PW.out),(show w9.cell? ⟨bb,ob+kb,none⟩=_ from cellB HB.out P2.out)⟩ (fun hHeld=> ?_);have hb:=below_drew (Below.refl w9.heap.size w9);generalize w9.drew=w7 at hb hHeld ⊢;have HB7:=am (below_step HB.out hb);clear hb HB BP BS BE BPc BSc BEc;refine ba9 (fuel:=2) (n:=15) [0,1,2,3,4,5,6,7,8,9,10,11,12,13,14] (by kernel_rfl) (fun N _ _ _ _ h=>by cases N <;> exact h) hHeld ?_
         iterate 15 (
          refine stillS_step (v:= ?_) (a':= ?_) rfl (Or.inl ⟨by rfl, ?_⟩) ?_ ?_;rotate_left
          ·rintro W ⟨s0,s1,s2,s3,s4⟩
           have t0:=zc8 s0;have t1:=zc8 s1;have t2:=zc8 s2;clear s0 s1 s2;go_simp;with_reducible rfl
          rotate_left
          ·simp only [Act.put,sA,sZ,sS,i64_w]
           rfl)
         refine stillS_nil ?_;refine on9 (i:=15) (N:=some 75) rfl rfl (by kernel_rfl) (by decide) (fun K hK=> ?_);refine goes_ Try.func50 (by kernel_rfl) rfl #[.int .i64 e.act,.int .i64 0,.int .i64 (wrap64 ((na:Int) - 1))] (by rfl) rfl rfl (by (try simp only [List.map_toArray,List.map_cons,List.map_nil]);first | done | rfl) ?_;refine (l6In_calls e.act 0 (wrap64 ((na:Int) - 1)) _).mono ?_;rw [w5,H6.out];rintro e9 wn ⟨rfl,rfl⟩;refine ⟨_,rfl, ?_⟩;refine hK.out _ _ hHeld (fun hHeld=> ?_);clear hK K;refine norm_ (a':= ?_) ?_ ?_;rotate_left
         ·show Act.put _ (some 75) _=_
          simp only [Act.put,sA,sZ,sS,i64_w];rfl
         refine ba9 (fuel:=0) (n:=1) [16] (by kernel_rfl) (fun N _ _ _ _ h=>by cases N <;> exact h) hHeld ?_
         iterate 1 (
          refine stillS_step (v:= ?_) (a':= ?_) rfl (Or.inl ⟨by rfl, ?_⟩) ?_ ?_;rotate_left
          ·rintro W ⟨s0,s1,s2,s3,s4⟩
           have t0:=zc8 s0;have t1:=zc8 s1;have t2:=zc8 s2;clear s0 s1 s2;go_simp;with_reducible rfl
          rotate_left
          ·simp only [Act.put,sA,sZ,sS,i64_w]
           rfl)
         refine stillS_nil ?_;refine done_ (by kernel_rfl) ?_;have BP:=am hHeld.1;have BS:=am hHeld.2.1;have HB:=HB7;clear hHeld HB7;have BPc:=zc8 BP.out;have BSc:=zc8 BS.out;go_wp2;go_ret
         have hr:logOk p s=false:=by
          unfold logOk;exact allB_no hlt (by rw [<-EX.out];(try simp only []);rw [show inB e.task 0 ((s.tasks.length:Int) - 1)=true from H1.out,show inB e.when_ 0 s.clock=true from H2.out,show inB e.from_ 0 (k:Int)=true from H3.out,show listOk e.reads s.cells.length=true from H4.out,show listOk e.puts s.cells.length=true from H5.out,r4,<-HTB.out,v4,<-HNA.out,show inB e.act 0 ((na:Int) - 1)=false from H6.out];simp only [Bool.and_false])
         rw [hr]
         exact ⟨rfl,HB.out⟩
        | true=>
         refine st9 (n:=17) (S:=fun W=>W.heap[gp]? = some (.cells #[.slice Ac p.cells.length cc,.slice (some ⟨bb,ob,none⟩) p.bodies.length cb] 48 (0,0))/\W.heap[gs]? = some (.cells #[.slice A0 s.cells.length c0,.slice (some ⟨b,o,none⟩) s.tasks.length c1,.int .i64 s.clock,.slice (some ⟨be,oe,none⟩) s.log.length c3] 27 (0,0))/\W.heap[ge]? = some (.cells #[.int .i64 e.task,.int .i64 e.act,.int .i64 e.when_,.slice E3 e.reads.length f3,.slice E4 e.puts.length f4,.int .i64 e.from_] 119 (0,0))/\W.cell? ⟨b,o+u*13,none⟩=some (.int .i64 tb)/\W.cell? ⟨bb,ob+kb,none⟩=some (.slice Aa na ca)) (ds:= []) (by kernel_rfl) rfl ⟨blk_drew BP.out,blk_drew BS.out,blk_drew BE.out,(show w9.cell? ⟨b,o+u*13,none⟩=_ from cellB HB.out PW.out),(show w9.cell? ⟨bb,ob+kb,none⟩=_ from cellB HB.out P2.out)⟩ (fun hHeld=> ?_);have hb:=below_drew (Below.refl w9.heap.size w9);generalize w9.drew=w7 at hb hHeld ⊢;have HB7:=am (below_step HB.out hb);clear hb HB BP BS BE BPc BSc BEc;refine ba9 (fuel:=2) (n:=15) [0,1,2,3,4,5,6,7,8,9,10,11,12,13,14] (by kernel_rfl) (fun N _ _ _ _ h=>by cases N <;> exact h) hHeld ?_
         iterate 15 (
          refine stillS_step (v:= ?_) (a':= ?_) rfl (Or.inl ⟨by rfl, ?_⟩) ?_ ?_;rotate_left
          ·rintro W ⟨s0,s1,s2,s3,s4⟩
           have t0:=zc8 s0;have t1:=zc8 s1;have t2:=zc8 s2;clear s0 s1 s2;go_simp;with_reducible rfl
          rotate_left
          ·simp only [Act.put,sA,sZ,sS,i64_w]
           rfl)
         refine stillS_nil ?_;refine on9 (i:=15) (N:=some 75) rfl rfl (by kernel_rfl) (by decide) (fun K hK=> ?_);refine goes_ Try.func50 (by kernel_rfl) rfl #[.int .i64 e.act,.int .i64 0,.int .i64 (wrap64 ((na:Int) - 1))] (by rfl) rfl rfl (by (try simp only [List.map_toArray,List.map_cons,List.map_nil]);first | done | rfl) ?_;refine (l6In_calls e.act 0 (wrap64 ((na:Int) - 1)) _).mono ?_;rw [w5,H6.out];rintro e9 wn ⟨rfl,rfl⟩;refine ⟨_,rfl, ?_⟩;refine hK.out _ _ hHeld (fun hHeld=> ?_);clear hK K;refine norm_ (a':= ?_) ?_ ?_;rotate_left
         ·show Act.put _ (some 75) _=_
          simp only [Act.put,sA,sZ,sS,i64_w];rfl
         refine ba9 (fuel:=0) (n:=1) [16] (by kernel_rfl) (fun N _ _ _ _ h=>by cases N <;> exact h) hHeld ?_
         iterate 1 (
          refine stillS_step (v:= ?_) (a':= ?_) rfl (Or.inl ⟨by rfl, ?_⟩) ?_ ?_;rotate_left
          ·rintro W ⟨s0,s1,s2,s3,s4⟩
           have t0:=zc8 s0;have t1:=zc8 s1;have t2:=zc8 s2;clear s0 s1 s2;go_simp;with_reducible rfl
          rotate_left
          ·simp only [Act.put,sA,sZ,sS,i64_w]
           rfl)
         refine stillS_nil ?_;refine done_ (by kernel_rfl) ?_;have BP:=am hHeld.1;have BS:=am hHeld.2.1;have HB:=HB7;clear hHeld HB7;have BPc:=zc8 BP.out;have BSc:=zc8 BS.out;go_wp2;go_roundw
         case rel=>exact ⟨k+1,by omega,by go_num,⟨fun i hi=>by rcases Nat.lt_or_ge i k with h | h;exact HJ.out i h;obtain rfl:k=i:=(by omega);rw [<-EX.out];(try simp only []);rw [show inB e.task 0 ((s.tasks.length:Int) - 1)=true from H1.out,show inB e.when_ 0 s.clock=true from H2.out,show inB e.from_ 0 (k:Int)=true from H3.out,show listOk e.reads s.cells.length=true from H4.out,show listOk e.puts s.cells.length=true from H5.out,r4,<-HTB.out,v4,<-HNA.out,show inB e.act 0 ((na:Int) - 1)=true from H6.out];rfl⟩,BP,BS,HB⟩
         case measure=>simp [intOf];omega
  ·obtain rfl:k=s.log.length:=by omega
   go_wp2;go_ret
   have hr:logOk p s=true:=by
    unfold logOk;exact allB_iff.2 HJ.out
   rw [hr];exact ⟨rfl,HB.out⟩
theorem kid4_le (n k0 k1 k2 k3:Nat):decide (n<=k0+k1+k2+k3)=decide ((n:Int)<=(k0:Int)+(k1:Int)+(k2:Int)+(k3:Int)):=decide_eq_decide.2 (by omega)
theorem wsum2 {k0 k1:Nat} (h0:k0<=1048576) (h1:k1<=1048576):wrap64 ((k0:Int)+(k1:Int))=(k0:Int)+(k1:Int):=by unfold wrap64;omega
theorem wsum3 {k0 k1 k2:Nat} (h0:k0<=1048576) (h1:k1<=1048576) (h2:k2<=1048576):wrap64 ((k0:Int)+(k1:Int)+(k2:Int))=(k0:Int)+(k1:Int)+(k2:Int):=by unfold wrap64;omega
theorem wsum4 {k0 k1 k2 k3:Nat} (h0:k0<=1048576) (h1:k1<=1048576) (h2:k2<=1048576) (h3:k3<=1048576):wrap64 ((k0:Int)+(k1:Int)+(k2:Int)+(k3:Int))=(k0:Int)+(k1:Int)+(k2:Int)+(k3:Int):=by unfold wrap64;omega
theorem l12Act_calls (p:Prog) (ps:List Value) (s:Sys) (ss:List Value) (i:Nat) (w:World) (hp:kProg.K w p ps) (hs:kSys.K w s ss) (hz:ProgSz p) (hi:i < s.tasks.length) (hn:s.tasks.length<=1048576) (hb0:0<=(taskAt s.tasks i).body) (hb1:(taskAt s.tasks i).body < p.bodies.length) (hp0:0<=(taskAt s.tasks i).pc) (hrn:(taskAt s.tasks i).reads.length<=1048576) (hpn:(taskAt s.tasks i).puts.length<=1048576):
  Calls Try.prog 95 #[.agg ps.toArray,.agg ss.toArray,.int .i64 i] w fun e w'=>e= .returned (.bool (wayOk p s i))/\Below w.heap.size w w':=by
 have HPK:=am hp;have HSK:=am hs;obtain ⟨Ac,cc,Ab,cb,rfl,-,-,-,gb⟩:=kProg_open hp;obtain ⟨A0,c0,A1,c1,A3,c3,rfl,-,-,-,g1,-⟩:=kSys_open hs;obtain ⟨b,o,cs,rfl,hcl,hK,hcc,-⟩:=C_field g1 zTask i hi (by decide);obtain ⟨t,ht⟩:∃ x,x=taskAt s.tasks i:=⟨_,rfl⟩;rw [<-ht] at hb0 hb1 hp0 hrn hpn;rw [show s.tasks.getD i zTask=t from ht.symm] at hK;have HKT0:=am hK;obtain ⟨B3,d3,B8,d8,B9,d9,B10,d10,rfl,-⟩:=kTask_open hK;have HKT:=HKT0;have HC:=am hcc;obtain ⟨kb,hkb0⟩:=Int.eq_ofNat_of_zero_le hb0;have hkb:kb < p.bodies.length:=by omega
 have v4:t.body.toNat=kb:=by omega
 obtain ⟨bb,ob,cs2,rfl,hcl2,hK2,hcc2,-⟩:=C_field gb ([]:List Act) kb hkb (by decide);obtain ⟨Aa,ca,rfl,la,ga2⟩:=hK2;obtain ⟨acts,hacts⟩:∃ x,x=actsAt p.bodies kb:=⟨_,rfl⟩;have hal:acts.length<=1048576:=by rw [hacts,actsAt_eq hkb];exact (hz.acts _ (List.getElem_mem hkb)).1
 have p2:=hcc2 0 _ rfl;simp only [show (Kd.slice 108 kAct).sz=1 from rfl,Nat.mul_one,Nat.add_zero] at p2;rw [show p.bodies.getD kb []=acts from hacts.symm] at p2 ga2;have P2:=am p2;have GA:=am ga2;have HU:Aside0 (wayOk p s i=if t.way=0 then decide (t.stage=0) || (decide (t.pc < acts.length) && decide ((actAt acts t.pc.toNat).kind=1) && stOk t (actAt acts t.pc.toNat).deeds.length) else if t.way=1 then decide (t.pc < acts.length) && decide ((actAt acts t.pc.toNat).kind=2) && decide ((actAt acts t.pc.toNat).kids.length<=kidsN s.tasks i 0+kidsN s.tasks i 1+kidsN s.tasks i 2+kidsN s.tasks i 3) else if t.way=2 then decide (t.pc=acts.length) else true):=⟨by rw [hacts,<-v4,ht];rfl⟩;have q0:(0:Int)<=(i:Int):=by omega
 have q1:(i:Int) < (s.tasks.length:Int):=by omega
 clear hp hs gb g1 hcl hK hcc ht HKT0 hkb0 hcl2 hcc2 la ga2 hacts p2 hz;go_enter Try.func95,Try.ntmps95;by_cases w0x:t.way=0
 ·have yW0:(t.way == 0)=true:=by simp [w0x]
  have W0:=am w0x;clear w0x;by_cases s0x:t.stage=0
  ·have yS0:(t.stage == 0)=true:=by simp [s0x]
   have S0:=am s0x;clear s0x
   go_wp2_with (first
   |((with_reducible refine gate_dst (N:=3) rfl ?_);refine box_event rfl (N:=3) rfl (t:=48) (by go_simp<;>rfl) ?_;intro gp hg w3 hbox hb;have BP:=am hbox;clear hbox hg;have HB2:=am hb;clear hb;have HB:=HB2;clear HB2;have BPc:=zc8 BP.out)
   |((with_reducible refine gate_dst (N:=4) rfl ?_);refine box_event rfl (N:=4) rfl (t:=27) (by go_simp<;>rfl) ?_;intro gs hg w4 hbox hb;have BS:=am hbox;clear hbox hg;replace BP:=am (zb8 BP.out hb);replace HB:=am (below_step HB.out hb);clear hb BPc;have BPc:=zc8 BP.out;have BSc:=zc8 BS.out)
   |((with_reducible refine gate_dst (N:=15) rfl ?_);refine wpList_load_mid rfl 38 (.tmp 14) rfl b (o+i*13) rfl _ _ (fun j u hu=>cellB HB.out (HC.out j u hu)) Try.underlying38 rfl (by kernel_rfl) ?_)|((with_reducible refine gate_dst (N:=7) rfl ?_);refine box_event rfl (N:=7) rfl (t:=38) (by go_simp<;>rfl) ?_;intro gt hg wt hbox hb;have BT0:=am hbox;have GBT:=am hg;have HBT:=am hb;clear hbox hb hg)|((with_reducible refine gate_store (t:=38) (p:=7) rfl ?_);refine store_block rfl rfl 38 (.tmp 7) (.tmp 15) rfl rfl rfl BT0.out rfl (by kernel_rfl) (aB rfl) ?_;intro wn hbox hg;have BT:=am hbox;have hbx:=pw_below_grown HBT.out _ HBT.out.size hg (fun z hz=>by cases hz;exact Nat.le_of_eq GBT.out.symm);clear BT0 HBT hbox hg;replace BP:=am (zb8 BP.out hbx);replace BS:=am (zb8 BS.out hbx);replace HB:=am (below_step HB.out hbx);clear hbx BPc BSc;have BPc:=zc8 BP.out;have BSc:=zc8 BS.out;have BTc:=zc8 BT.out;have p2w:=cellB HB.out P2.out)
   |((with_reducible refine gate_dst (N:=22) rfl ?_);refine wpList_load_mid rfl 48 (.tmp 3) rfl gp 0 rfl _ _ (lC BP.out) Try.underlying48 rfl (by kernel_rfl) ?_)
   |((with_reducible refine gate_dst (N:=23) rfl ?_);refine wpList_load_mid rfl 27 (.tmp 4) rfl gs 0 rfl _ _ (lC BS.out) Try.underlying27 rfl (by kernel_rfl) ?_)
   |((with_reducible refine gate_dst (N:=25) rfl ?_);refine box_event rfl (N:=25) rfl (t:=152) (by go_simp<;>rfl) ?_;intro gg hg w25 hbox hb;have BG:=am hbox;clear hbox hg;replace BP:=am (zb8 BP.out hb);replace BS:=am (zb8 BS.out hb);replace BT:=am (zb8 BT.out hb);replace HB:=am (below_step HB.out hb);clear hb BPc BSc BTc;have BPc:=zc8 BP.out;have BSc:=zc8 BS.out;have BTc:=zc8 BT.out;have BGc:=zc8 BG.out))
   refine st9 (n:=31) (S:=fun W=>W.heap[gt]? = some (.cells #[.int .i64 t.body,.int .i64 t.pc,.int .i64 t.up,.slice B3 t.regs.length d3,.int .i64 t.way,.int .i64 t.stage,.int .i64 t.at_,.int .i64 t.since,.slice B8 t.old.length d8,.slice B9 t.reads.length d9,.slice B10 t.puts.length d10,.int .i64 t.when_,.int .i64 t.from_] 38 (0,0))) (ds:= []) (by kernel_rfl) rfl (by exact blk_drew BT.out) (fun hHeld=> ?_);have hb:=below_drew (Below.refl w25.heap.size w25);generalize w25.drew=w7 at hb hHeld ⊢;have HB7:=am (below_step HB.out hb);clear hb HB BP BS BT BG BPc BSc BTc BGc;refine ba9 (fuel:=4) (n:=27) [0,1,2,3,4,5,6,7,8,9,10,11,12,13,14,15,16,17,18,19,20,21,22,23,24,25,26] (by kernel_rfl) (fun N _ _ _ _ h=>by cases N <;> exact h) hHeld ?_
   iterate 4 (
    refine stillS_step (v:= ?_) (a':= ?_) rfl (Or.inl ⟨by rfl, ?_⟩) ?_ ?_;rotate_left
    ·rintro W s0
     have t0:=zc8 s0;clear s0;go_simp;with_reducible rfl
    rotate_left
    ·simp only [Act.put,sA,sZ,sS,i64_w]
     rfl)
   iterate 23 (
    refine stillS_step (v:=undef) (a':= ?_) rfl (Or.inr ⟨by rfl,rfl⟩) ?_ ?_;rotate_left
    ·simp only [Act.put,sA,sZ,sS]
     rfl)
   refine stillS_nil ?_;refine on9 (i:=27) (N:=some 57) rfl rfl (by kernel_rfl) (by decide) (fun K hK=> ?_);rw [if_neg (by exact Bool.false_ne_true)];refine hK.out _ _ hHeld (fun hHeld=> ?_);clear hK K;refine norm_ (a':= ?_) ?_ ?_;rotate_left
   ·show Act.put _ (some 57) _=_
    simp only [Act.put,sA,sZ,sS,i64_w];rfl
   refine ba9 (fuel:=0) (n:=3) [28,29,30] (by kernel_rfl) (fun N _ _ _ _ h=>by cases N <;> exact h) hHeld ?_
   iterate 1 (
    refine stillS_step (v:=undef) (a':= ?_) rfl (Or.inr ⟨by rfl,rfl⟩) ?_ ?_;rotate_left
    ·simp only [Act.put,sA,sZ,sS]
     rfl)
   iterate 2 (
    refine stillS_step (v:= ?_) (a':= ?_) rfl (Or.inl ⟨by rfl, ?_⟩) ?_ ?_;rotate_left
    ·rintro W s0
     have t0:=zc8 s0;clear s0;go_simp;with_reducible rfl
    rotate_left
    ·simp only [Act.put,sA,sZ,sS,i64_w]
     rfl)
   refine stillS_nil ?_;refine done_ (by kernel_rfl) ?_;have HB:=HB7;clear hHeld HB7;go_wp2;go_ret
   have hr:wayOk p s i=true:=by
    rw [HU.out,if_pos W0.out];rw [decide_eq_true S0.out,Bool.true_or]
   rw [hr];exact ⟨rfl,HB.out⟩
  ·have yS0:(t.stage == 0)=false:=by simp [s0x]
   have S0:=am s0x;clear s0x;by_cases pcx:t.pc < (acts.length:Int)
   ·have yPC:decide (t.pc < (acts.length:Int))=true:=decide_eq_true pcx
    have PC:=am pcx;clear pcx;obtain ⟨ka,hka0⟩:=Int.eq_ofNat_of_zero_le hp0;have hka:ka < acts.length:=by have:=PC.out;omega
    have v5:t.pc.toNat=ka:=by omega
    have v6:t.pc < (acts.length:Int):=PC.out;obtain ⟨ba,oa,cs3,rfl,hcl3,hK3,hcc3,-⟩:=C_field GA.out zAct ka hka (by decide);obtain ⟨a,hax⟩:∃ x,x=actAt acts ka:=⟨_,rfl⟩;rw [show acts.getD ka zAct=a from hax.symm] at hK3;obtain ⟨Ad,cd,Ak,ck,rfl,-⟩:=kAct_open hK3;have HA:=am hcc3;have AX:=am hax;have ua0:=hcc3 0 _ rfl;have ua2:=hcc3 2 _ rfl;simp only [show kAct.sz=4 from rfl,Nat.add_zero] at ua0 ua2;have UA0:=am ua0;have UA2:=am ua2;clear hcl3 hK3 hcc3 hax ua0 ua2 hka0;by_cases kdx:a.kind=1
    ·have yKD:(a.kind == 1)=true:=by simp [kdx]
     have KD:=am kdx;clear kdx;obtain ⟨bst,hst⟩:∃ x,x=stOk t (a.deeds.length:Int):=⟨_,rfl⟩;have ST:=am hst.symm;clear hst
     go_wp2_with (first
     |((with_reducible refine gate_dst (N:=3) rfl ?_);refine box_event rfl (N:=3) rfl (t:=48) (by go_simp<;>rfl) ?_;intro gp hg w3 hbox hb;have BP:=am hbox;clear hbox hg;have HB2:=am hb;clear hb;have HB:=HB2;clear HB2;have BPc:=zc8 BP.out)
     |((with_reducible refine gate_dst (N:=4) rfl ?_);refine box_event rfl (N:=4) rfl (t:=27) (by go_simp<;>rfl) ?_;intro gs hg w4 hbox hb;have BS:=am hbox;clear hbox hg;replace BP:=am (zb8 BP.out hb);replace HB:=am (below_step HB.out hb);clear hb BPc;have BPc:=zc8 BP.out;have BSc:=zc8 BS.out)
     |((with_reducible refine gate_dst (N:=15) rfl ?_);refine wpList_load_mid rfl 38 (.tmp 14) rfl b (o+i*13) rfl _ _ (fun j u hu=>cellB HB.out (HC.out j u hu)) Try.underlying38 rfl (by kernel_rfl) ?_)|((with_reducible refine gate_dst (N:=7) rfl ?_);refine box_event rfl (N:=7) rfl (t:=38) (by go_simp<;>rfl) ?_;intro gt hg wt hbox hb;have BT0:=am hbox;have GBT:=am hg;have HBT:=am hb;clear hbox hb hg)|((with_reducible refine gate_store (t:=38) (p:=7) rfl ?_);refine store_block rfl rfl 38 (.tmp 7) (.tmp 15) rfl rfl rfl BT0.out rfl (by kernel_rfl) (aB rfl) ?_;intro wn hbox hg;have BT:=am hbox;have hbx:=pw_below_grown HBT.out _ HBT.out.size hg (fun z hz=>by cases hz;exact Nat.le_of_eq GBT.out.symm);clear BT0 HBT hbox hg;replace BP:=am (zb8 BP.out hbx);replace BS:=am (zb8 BS.out hbx);replace HB:=am (below_step HB.out hbx);clear hbx BPc BSc;have BPc:=zc8 BP.out;have BSc:=zc8 BS.out;have BTc:=zc8 BT.out;have p2w:=cellB HB.out P2.out)
     |((with_reducible refine gate_dst (N:=22) rfl ?_);refine wpList_load_mid rfl 48 (.tmp 3) rfl gp 0 rfl _ _ (lC BP.out) Try.underlying48 rfl (by kernel_rfl) ?_)
     |((with_reducible refine gate_dst (N:=23) rfl ?_);refine wpList_load_mid rfl 27 (.tmp 4) rfl gs 0 rfl _ _ (lC BS.out) Try.underlying27 rfl (by kernel_rfl) ?_)
     |((with_reducible refine gate_dst (N:=25) rfl ?_);refine box_event rfl (N:=25) rfl (t:=152) (by go_simp<;>rfl) ?_;intro gg hg w25 hbox hb;have BG:=am hbox;clear hbox hg;replace BP:=am (zb8 BP.out hb);replace BS:=am (zb8 BS.out hb);replace BT:=am (zb8 BT.out hb);replace HB:=am (below_step HB.out hb);clear hb BPc BSc BTc;have BPc:=zc8 BP.out;have BSc:=zc8 BS.out;have BTc:=zc8 BT.out;have BGc:=zc8 BG.out))
     refine st9 (n:=31) (S:=fun W=>W.heap[gt]? = some (.cells #[.int .i64 t.body,.int .i64 t.pc,.int .i64 t.up,.slice B3 t.regs.length d3,.int .i64 t.way,.int .i64 t.stage,.int .i64 t.at_,.int .i64 t.since,.slice B8 t.old.length d8,.slice B9 t.reads.length d9,.slice B10 t.puts.length d10,.int .i64 t.when_,.int .i64 t.from_] 38 (0,0))/\∀ j u, [.int .i64 a.kind,.slice Ad a.deeds.length cd,.slice Ak a.kids.length ck,.int .i64 a.reg][j]? = some u->W.cell? ⟨ba,oa+ka*4+j,none⟩=some u) (ds:= []) (by kernel_rfl) rfl ⟨blk_drew BT.out,fun j u hu=>(show w25.cell? ⟨ba,oa+ka*4+j,none⟩=_ from cellB HB.out (HA.out j u hu))⟩ (fun hHeld=> ?_);have hb:=below_drew (Below.refl w25.heap.size w25);generalize w25.drew=w7 at hb hHeld ⊢;have HB7:=am (below_step HB.out hb);clear hb HB BP BS BT BG BPc BSc BTc BGc;refine ba9 (fuel:=4) (n:=27) [0,1,2,3,4,5,6,7,8,9,10,11,12,13,14,15,16,17,18,19,20,21,22,23,24,25,26] (by kernel_rfl) (fun N _ _ _ _ h=>by cases N <;> exact h) hHeld ?_
     iterate 27 (
      refine stillS_step (v:= ?_) (a':= ?_) rfl (Or.inl ⟨by rfl, ?_⟩) ?_ ?_;rotate_left
      ·rintro W ⟨s0,s1⟩
       have t0:=zc8 s0;have u0:=s1 0 _ rfl;have u1:=s1 1 _ rfl;rw [Nat.add_zero] at u0;clear s0 s1;go_simp;with_reducible rfl
      rotate_left
      ·simp only [Act.put,sA,sZ,sS,i64_w]
       rfl)
     refine stillS_nil ?_;refine on9 (i:=27) (N:=some 57) rfl rfl (by kernel_rfl) (by decide) (fun K hK=> ?_);refine goes_ Try.func124 (by kernel_rfl) rfl #[.agg #[.int .i64 t.body,.int .i64 t.pc,.int .i64 t.up,.slice B3 t.regs.length d3,.int .i64 t.way,.int .i64 t.stage,.int .i64 t.at_,.int .i64 t.since,.slice B8 t.old.length d8,.slice B9 t.reads.length d9,.slice B10 t.puts.length d10,.int .i64 t.when_,.int .i64 t.from_],.int .i64 a.deeds.length] (by rfl) rfl rfl (by (try simp only [List.map_toArray,List.map_cons,List.map_nil]);first | done | rfl) ?_;refine (l12At_calls t _ (a.deeds.length:Int) _ (kTask.K_below HB7.out HKT.out) hrn hpn).mono ?_;rw [ST.out];rintro e9 wn ⟨rfl,hb⟩;refine ⟨_,rfl, ?_⟩;refine hK.out _ _ ⟨zb8 hHeld.1 hb,fun j u hu=>cellB hb (hHeld.2 j u hu)⟩ (fun hHeld=> ?_);clear hK K;refine norm_ (a':= ?_) ?_ ?_;rotate_left
     ·show Act.put _ (some 57) _=_
      simp only [Act.put,sA,sZ,sS,i64_w];rfl
     refine ba9 (fuel:=0) (n:=3) [28,29,30] (by kernel_rfl) (fun N _ _ _ _ h=>by cases N <;> exact h) hHeld ?_
     iterate 3 (
      refine stillS_step (v:= ?_) (a':= ?_) rfl (Or.inl ⟨by rfl, ?_⟩) ?_ ?_;rotate_left
      ·rintro W ⟨s0,s1⟩
       have t0:=zc8 s0;have u0:=s1 0 _ rfl;have u1:=s1 1 _ rfl;rw [Nat.add_zero] at u0;clear s0 s1;go_simp;with_reducible rfl
      rotate_left
      ·simp only [Act.put,sA,sZ,sS,i64_w]
       rfl)
     refine stillS_nil ?_;refine done_ (by kernel_rfl) ?_;have HB9:=am (below_step HB7.out hb);clear hb hHeld HB7;have HB:=HB9;go_wp2;go_ret
     have hr:wayOk p s i=bst:=by
      rw [HU.out,if_pos W0.out];rw [decide_eq_false S0.out,decide_eq_true PC.out,v5,<-AX.out,decide_eq_true KD.out,ST.out,Bool.true_and,Bool.true_and,Bool.false_or]
     rw [hr];exact ⟨rfl,HB.out⟩
    ·have yKD:(a.kind == 1)=false:=by simp [kdx]
     have KD:=am kdx;clear kdx
     go_wp2_with (first
     |((with_reducible refine gate_dst (N:=3) rfl ?_);refine box_event rfl (N:=3) rfl (t:=48) (by go_simp<;>rfl) ?_;intro gp hg w3 hbox hb;have BP:=am hbox;clear hbox hg;have HB2:=am hb;clear hb;have HB:=HB2;clear HB2;have BPc:=zc8 BP.out)
     |((with_reducible refine gate_dst (N:=4) rfl ?_);refine box_event rfl (N:=4) rfl (t:=27) (by go_simp<;>rfl) ?_;intro gs hg w4 hbox hb;have BS:=am hbox;clear hbox hg;replace BP:=am (zb8 BP.out hb);replace HB:=am (below_step HB.out hb);clear hb BPc;have BPc:=zc8 BP.out;have BSc:=zc8 BS.out)
     |((with_reducible refine gate_dst (N:=15) rfl ?_);refine wpList_load_mid rfl 38 (.tmp 14) rfl b (o+i*13) rfl _ _ (fun j u hu=>cellB HB.out (HC.out j u hu)) Try.underlying38 rfl (by kernel_rfl) ?_)|((with_reducible refine gate_dst (N:=7) rfl ?_);refine box_event rfl (N:=7) rfl (t:=38) (by go_simp<;>rfl) ?_;intro gt hg wt hbox hb;have BT0:=am hbox;have GBT:=am hg;have HBT:=am hb;clear hbox hb hg)|((with_reducible refine gate_store (t:=38) (p:=7) rfl ?_);refine store_block rfl rfl 38 (.tmp 7) (.tmp 15) rfl rfl rfl BT0.out rfl (by kernel_rfl) (aB rfl) ?_;intro wn hbox hg;have BT:=am hbox;have hbx:=pw_below_grown HBT.out _ HBT.out.size hg (fun z hz=>by cases hz;exact Nat.le_of_eq GBT.out.symm);clear BT0 HBT hbox hg;replace BP:=am (zb8 BP.out hbx);replace BS:=am (zb8 BS.out hbx);replace HB:=am (below_step HB.out hbx);clear hbx BPc BSc;have BPc:=zc8 BP.out;have BSc:=zc8 BS.out;have BTc:=zc8 BT.out;have p2w:=cellB HB.out P2.out)
     |((with_reducible refine gate_dst (N:=22) rfl ?_);refine wpList_load_mid rfl 48 (.tmp 3) rfl gp 0 rfl _ _ (lC BP.out) Try.underlying48 rfl (by kernel_rfl) ?_)
     |((with_reducible refine gate_dst (N:=23) rfl ?_);refine wpList_load_mid rfl 27 (.tmp 4) rfl gs 0 rfl _ _ (lC BS.out) Try.underlying27 rfl (by kernel_rfl) ?_)
     |((with_reducible refine gate_dst (N:=25) rfl ?_);refine box_event rfl (N:=25) rfl (t:=152) (by go_simp<;>rfl) ?_;intro gg hg w25 hbox hb;have BG:=am hbox;clear hbox hg;replace BP:=am (zb8 BP.out hb);replace BS:=am (zb8 BS.out hb);replace BT:=am (zb8 BT.out hb);replace HB:=am (below_step HB.out hb);clear hb BPc BSc BTc;have BPc:=zc8 BP.out;have BSc:=zc8 BS.out;have BTc:=zc8 BT.out;have BGc:=zc8 BG.out))
     refine st9 (n:=31) (S:=fun W=>W.heap[gt]? = some (.cells #[.int .i64 t.body,.int .i64 t.pc,.int .i64 t.up,.slice B3 t.regs.length d3,.int .i64 t.way,.int .i64 t.stage,.int .i64 t.at_,.int .i64 t.since,.slice B8 t.old.length d8,.slice B9 t.reads.length d9,.slice B10 t.puts.length d10,.int .i64 t.when_,.int .i64 t.from_] 38 (0,0))/\∀ j u, [.int .i64 a.kind,.slice Ad a.deeds.length cd,.slice Ak a.kids.length ck,.int .i64 a.reg][j]? = some u->W.cell? ⟨ba,oa+ka*4+j,none⟩=some u) (ds:= []) (by kernel_rfl) rfl ⟨blk_drew BT.out,fun j u hu=>(show w25.cell? ⟨ba,oa+ka*4+j,none⟩=_ from cellB HB.out (HA.out j u hu))⟩ (fun hHeld=> ?_);have hb:=below_drew (Below.refl w25.heap.size w25);generalize w25.drew=w7 at hb hHeld ⊢;have HB7:=am (below_step HB.out hb);clear hb HB BP BS BT BG BPc BSc BTc BGc;refine ba9 (fuel:=4) (n:=27) [0,1,2,3,4,5,6,7,8,9,10,11,12,13,14,15,16,17,18,19,20,21,22,23,24,25,26] (by kernel_rfl) (fun N _ _ _ _ h=>by cases N <;> exact h) hHeld ?_
     iterate 19 (
      refine stillS_step (v:= ?_) (a':= ?_) rfl (Or.inl ⟨by rfl, ?_⟩) ?_ ?_;rotate_left
      ·rintro W ⟨s0,s1⟩
       have t0:=zc8 s0;have u0:=s1 0 _ rfl;have u1:=s1 1 _ rfl;rw [Nat.add_zero] at u0;clear s0 s1;go_simp;with_reducible rfl
      rotate_left
      ·simp only [Act.put,sA,sZ,sS,i64_w]
       rfl)
     iterate 8 (
      refine stillS_step (v:=undef) (a':= ?_) rfl (Or.inr ⟨by rfl,rfl⟩) ?_ ?_;rotate_left
      ·simp only [Act.put,sA,sZ,sS]
       rfl)
     refine stillS_nil ?_;refine on9 (i:=27) (N:=some 57) rfl rfl (by kernel_rfl) (by decide) (fun K hK=> ?_);rw [if_neg (by exact Bool.false_ne_true)];refine hK.out _ _ hHeld (fun hHeld=> ?_);clear hK K;refine norm_ (a':= ?_) ?_ ?_;rotate_left
     ·show Act.put _ (some 57) _=_
      simp only [Act.put,sA,sZ,sS,i64_w];rfl
     refine ba9 (fuel:=0) (n:=3) [28,29,30] (by kernel_rfl) (fun N _ _ _ _ h=>by cases N <;> exact h) hHeld ?_
     iterate 3 (
      refine stillS_step (v:= ?_) (a':= ?_) rfl (Or.inl ⟨by rfl, ?_⟩) ?_ ?_;rotate_left
      ·rintro W ⟨s0,s1⟩
       have t0:=zc8 s0;have u0:=s1 0 _ rfl;have u1:=s1 1 _ rfl;rw [Nat.add_zero] at u0;clear s0 s1;go_simp;with_reducible rfl
      rotate_left
      ·simp only [Act.put,sA,sZ,sS,i64_w]
       rfl)
     refine stillS_nil ?_;refine done_ (by kernel_rfl) ?_;have HB:=HB7;clear hHeld HB7;go_wp2;go_ret
     have hr:wayOk p s i=false:=by
      rw [HU.out,if_pos W0.out];rw [decide_eq_false S0.out,decide_eq_true PC.out,v5,<-AX.out,decide_eq_false KD.out,Bool.and_false,Bool.false_and,Bool.false_or]
     rw [hr];exact ⟨rfl,HB.out⟩
   ·have yPC:decide (t.pc < (acts.length:Int))=false:=decide_eq_false pcx
    have PC:=am pcx;clear pcx
    go_wp2_with (first
    |((with_reducible refine gate_dst (N:=3) rfl ?_);refine box_event rfl (N:=3) rfl (t:=48) (by go_simp<;>rfl) ?_;intro gp hg w3 hbox hb;have BP:=am hbox;clear hbox hg;have HB2:=am hb;clear hb;have HB:=HB2;clear HB2;have BPc:=zc8 BP.out)
    |((with_reducible refine gate_dst (N:=4) rfl ?_);refine box_event rfl (N:=4) rfl (t:=27) (by go_simp<;>rfl) ?_;intro gs hg w4 hbox hb;have BS:=am hbox;clear hbox hg;replace BP:=am (zb8 BP.out hb);replace HB:=am (below_step HB.out hb);clear hb BPc;have BPc:=zc8 BP.out;have BSc:=zc8 BS.out)
    |((with_reducible refine gate_dst (N:=15) rfl ?_);refine wpList_load_mid rfl 38 (.tmp 14) rfl b (o+i*13) rfl _ _ (fun j u hu=>cellB HB.out (HC.out j u hu)) Try.underlying38 rfl (by kernel_rfl) ?_)|((with_reducible refine gate_dst (N:=7) rfl ?_);refine box_event rfl (N:=7) rfl (t:=38) (by go_simp<;>rfl) ?_;intro gt hg wt hbox hb;have BT0:=am hbox;have GBT:=am hg;have HBT:=am hb;clear hbox hb hg)|((with_reducible refine gate_store (t:=38) (p:=7) rfl ?_);refine store_block rfl rfl 38 (.tmp 7) (.tmp 15) rfl rfl rfl BT0.out rfl (by kernel_rfl) (aB rfl) ?_;intro wn hbox hg;have BT:=am hbox;have hbx:=pw_below_grown HBT.out _ HBT.out.size hg (fun z hz=>by cases hz;exact Nat.le_of_eq GBT.out.symm);clear BT0 HBT hbox hg;replace BP:=am (zb8 BP.out hbx);replace BS:=am (zb8 BS.out hbx);replace HB:=am (below_step HB.out hbx);clear hbx BPc BSc;have BPc:=zc8 BP.out;have BSc:=zc8 BS.out;have BTc:=zc8 BT.out;have p2w:=cellB HB.out P2.out)
    |((with_reducible refine gate_dst (N:=22) rfl ?_);refine wpList_load_mid rfl 48 (.tmp 3) rfl gp 0 rfl _ _ (lC BP.out) Try.underlying48 rfl (by kernel_rfl) ?_)
    |((with_reducible refine gate_dst (N:=23) rfl ?_);refine wpList_load_mid rfl 27 (.tmp 4) rfl gs 0 rfl _ _ (lC BS.out) Try.underlying27 rfl (by kernel_rfl) ?_)
    |((with_reducible refine gate_dst (N:=25) rfl ?_);refine box_event rfl (N:=25) rfl (t:=152) (by go_simp<;>rfl) ?_;intro gg hg w25 hbox hb;have BG:=am hbox;clear hbox hg;replace BP:=am (zb8 BP.out hb);replace BS:=am (zb8 BS.out hb);replace BT:=am (zb8 BT.out hb);replace HB:=am (below_step HB.out hb);clear hb BPc BSc BTc;have BPc:=zc8 BP.out;have BSc:=zc8 BS.out;have BTc:=zc8 BT.out;have BGc:=zc8 BG.out))
    refine st9 (n:=31) (S:=fun W=>W.heap[gt]? = some (.cells #[.int .i64 t.body,.int .i64 t.pc,.int .i64 t.up,.slice B3 t.regs.length d3,.int .i64 t.way,.int .i64 t.stage,.int .i64 t.at_,.int .i64 t.since,.slice B8 t.old.length d8,.slice B9 t.reads.length d9,.slice B10 t.puts.length d10,.int .i64 t.when_,.int .i64 t.from_] 38 (0,0))) (ds:= []) (by kernel_rfl) rfl (by exact blk_drew BT.out) (fun hHeld=> ?_);have hb:=below_drew (Below.refl w25.heap.size w25);generalize w25.drew=w7 at hb hHeld ⊢;have HB7:=am (below_step HB.out hb);clear hb HB BP BS BT BG BPc BSc BTc BGc;refine ba9 (fuel:=4) (n:=27) [0,1,2,3,4,5,6,7,8,9,10,11,12,13,14,15,16,17,18,19,20,21,22,23,24,25,26] (by kernel_rfl) (fun N _ _ _ _ h=>by cases N <;> exact h) hHeld ?_
    iterate 10 (
     refine stillS_step (v:= ?_) (a':= ?_) rfl (Or.inl ⟨by rfl, ?_⟩) ?_ ?_;rotate_left
     ·rintro W s0
      have t0:=zc8 s0;clear s0;go_simp;with_reducible rfl
     rotate_left
     ·simp only [Act.put,sA,sZ,sS,i64_w]
      rfl)
    iterate 7 (
     refine stillS_step (v:=undef) (a':= ?_) rfl (Or.inr ⟨by rfl,rfl⟩) ?_ ?_;rotate_left
     ·simp only [Act.put,sA,sZ,sS]
      rfl)
    iterate 2 (
     refine stillS_step (v:= ?_) (a':= ?_) rfl (Or.inl ⟨by rfl, ?_⟩) ?_ ?_;rotate_left
     ·rintro W s0
      have t0:=zc8 s0;clear s0;go_simp;with_reducible rfl
     rotate_left
     ·simp only [Act.put,sA,sZ,sS,i64_w]
      rfl)
    iterate 8 (
     refine stillS_step (v:=undef) (a':= ?_) rfl (Or.inr ⟨by rfl,rfl⟩) ?_ ?_;rotate_left
     ·simp only [Act.put,sA,sZ,sS]
      rfl)
    refine stillS_nil ?_;refine on9 (i:=27) (N:=some 57) rfl rfl (by kernel_rfl) (by decide) (fun K hK=> ?_);rw [if_neg (by exact Bool.false_ne_true)];refine hK.out _ _ hHeld (fun hHeld=> ?_);clear hK K;refine norm_ (a':= ?_) ?_ ?_;rotate_left
    ·show Act.put _ (some 57) _=_
     simp only [Act.put,sA,sZ,sS,i64_w];rfl
    refine ba9 (fuel:=0) (n:=3) [28,29,30] (by kernel_rfl) (fun N _ _ _ _ h=>by cases N <;> exact h) hHeld ?_
    iterate 3 (
     refine stillS_step (v:= ?_) (a':= ?_) rfl (Or.inl ⟨by rfl, ?_⟩) ?_ ?_;rotate_left
     ·rintro W s0
      have t0:=zc8 s0;clear s0;go_simp;with_reducible rfl
     rotate_left
     ·simp only [Act.put,sA,sZ,sS,i64_w]
      rfl)
    refine stillS_nil ?_;refine done_ (by kernel_rfl) ?_;have HB:=HB7;clear hHeld HB7;go_wp2;go_ret
    have hr:wayOk p s i=false:=by
     rw [HU.out,if_pos W0.out];rw [decide_eq_false S0.out,decide_eq_false (show ¬ t.pc < (acts.length:Int) by have:=PC.out;omega),Bool.false_and,Bool.false_and,Bool.false_or]
    rw [hr];exact ⟨rfl,HB.out⟩
 ·have yW0:(t.way == 0)=false:=by simp [w0x]
  have W0:=am w0x;clear w0x;by_cases w1x:t.way=1
  ·have yW1:(t.way == 1)=true:=by simp [w1x]
   have W1:=am w1x;clear w1x;obtain ⟨k0,hk0⟩:∃ x,x=kidsN s.tasks i 0:=⟨_,rfl⟩;have kl0:k0<=1048576:=by rw [hk0];exact Nat.le_trans (cntTo_le _ _) hn
   have K0:=am hk0.symm;clear hk0;obtain ⟨k1,hk1⟩:∃ x,x=kidsN s.tasks i 1:=⟨_,rfl⟩;have kl1:k1<=1048576:=by rw [hk1];exact Nat.le_trans (cntTo_le _ _) hn
   have K1:=am hk1.symm;clear hk1;obtain ⟨k2,hk2⟩:∃ x,x=kidsN s.tasks i 2:=⟨_,rfl⟩;have kl2:k2<=1048576:=by rw [hk2];exact Nat.le_trans (cntTo_le _ _) hn
   have K2:=am hk2.symm;clear hk2;obtain ⟨k3,hk3⟩:∃ x,x=kidsN s.tasks i 3:=⟨_,rfl⟩;have kl3:k3<=1048576:=by rw [hk3];exact Nat.le_trans (cntTo_le _ _) hn
   have K3:=am hk3.symm;clear hk3;have z1:=wsum2 kl0 kl1;have z2:=wsum3 kl0 kl1 kl2;have z3:=wsum4 kl0 kl1 kl2 kl3;clear kl0 kl1 kl2 kl3;by_cases pcx:t.pc < (acts.length:Int)
   ·have yPC:decide (t.pc < (acts.length:Int))=true:=decide_eq_true pcx
    have PC:=am pcx;clear pcx;obtain ⟨ka,hka0⟩:=Int.eq_ofNat_of_zero_le hp0;have hka:ka < acts.length:=by have:=PC.out;omega
    have v5:t.pc.toNat=ka:=by omega
    have v6:t.pc < (acts.length:Int):=PC.out;obtain ⟨ba,oa,cs3,rfl,hcl3,hK3,hcc3,-⟩:=C_field GA.out zAct ka hka (by decide);obtain ⟨a,hax⟩:∃ x,x=actAt acts ka:=⟨_,rfl⟩;rw [show acts.getD ka zAct=a from hax.symm] at hK3;obtain ⟨Ad,cd,Ak,ck,rfl,-⟩:=kAct_open hK3;have HA:=am hcc3;have AX:=am hax;have ua0:=hcc3 0 _ rfl;have ua2:=hcc3 2 _ rfl;simp only [show kAct.sz=4 from rfl,Nat.add_zero] at ua0 ua2;have UA0:=am ua0;have UA2:=am ua2;clear hcl3 hK3 hcc3 hax ua0 ua2 hka0;by_cases kdx:a.kind=2
    ·have yKD:(a.kind == 2)=true:=by simp [kdx]
     have KD:=am kdx;clear kdx
     go_wp2_with (first
     |((with_reducible refine gate_dst (N:=3) rfl ?_);refine box_event rfl (N:=3) rfl (t:=48) (by go_simp<;>rfl) ?_;intro gp hg w3 hbox hb;have BP:=am hbox;clear hbox hg;have HB2:=am hb;clear hb;have HB:=HB2;clear HB2;have BPc:=zc8 BP.out)
     |((with_reducible refine gate_dst (N:=4) rfl ?_);refine box_event rfl (N:=4) rfl (t:=27) (by go_simp<;>rfl) ?_;intro gs hg w4 hbox hb;have BS:=am hbox;clear hbox hg;replace BP:=am (zb8 BP.out hb);replace HB:=am (below_step HB.out hb);clear hb BPc;have BPc:=zc8 BP.out;have BSc:=zc8 BS.out)
     |((with_reducible refine gate_dst (N:=15) rfl ?_);refine wpList_load_mid rfl 38 (.tmp 14) rfl b (o+i*13) rfl _ _ (fun j u hu=>cellB HB.out (HC.out j u hu)) Try.underlying38 rfl (by kernel_rfl) ?_)|((with_reducible refine gate_dst (N:=7) rfl ?_);refine box_event rfl (N:=7) rfl (t:=38) (by go_simp<;>rfl) ?_;intro gt hg wt hbox hb;have BT0:=am hbox;have GBT:=am hg;have HBT:=am hb;clear hbox hb hg)|((with_reducible refine gate_store (t:=38) (p:=7) rfl ?_);refine store_block rfl rfl 38 (.tmp 7) (.tmp 15) rfl rfl rfl BT0.out rfl (by kernel_rfl) (aB rfl) ?_;intro wn hbox hg;have BT:=am hbox;have hbx:=pw_below_grown HBT.out _ HBT.out.size hg (fun z hz=>by cases hz;exact Nat.le_of_eq GBT.out.symm);clear BT0 HBT hbox hg;replace BP:=am (zb8 BP.out hbx);replace BS:=am (zb8 BS.out hbx);replace HB:=am (below_step HB.out hbx);clear hbx BPc BSc;have BPc:=zc8 BP.out;have BSc:=zc8 BS.out;have BTc:=zc8 BT.out;have p2w:=cellB HB.out P2.out)
     |((with_reducible refine gate_dst (N:=22) rfl ?_);refine wpList_load_mid rfl 48 (.tmp 3) rfl gp 0 rfl _ _ (lC BP.out) Try.underlying48 rfl (by kernel_rfl) ?_)
     |((with_reducible refine gate_dst (N:=23) rfl ?_);refine wpList_load_mid rfl 27 (.tmp 4) rfl gs 0 rfl _ _ (lC BS.out) Try.underlying27 rfl (by kernel_rfl) ?_)
     |((with_reducible refine gate_dst (N:=25) rfl ?_);refine box_event rfl (N:=25) rfl (t:=152) (by go_simp<;>rfl) ?_;intro gg hg w25 hbox hb;have BG:=am hbox;clear hbox hg;replace BP:=am (zb8 BP.out hb);replace BS:=am (zb8 BS.out hb);replace BT:=am (zb8 BT.out hb);replace HB:=am (below_step HB.out hb);clear hb BPc BSc BTc;have BPc:=zc8 BP.out;have BSc:=zc8 BS.out;have BTc:=zc8 BT.out;have BGc:=zc8 BG.out;have ua0w:=cellB HB.out UA0.out;have ua2w:=cellB HB.out UA2.out)
     |(go_at_call 125;refine (kids_calls (i:Int) _ _ (⟨BG.out,kProg.K_below HB.out HPK.out,kSys.K_below HB.out HSK.out⟩:RO gg _ _ p s _ _ _ _) hn).mono ?_;(first|rw [K0.out] | rw [K1.out] | rw [K2.out] | rw [K3.out]);rintro e w9 ⟨rfl,rfl⟩))
     go_ret
     have hr:wayOk p s i=decide ((a.kids.length:Int)<=(k0:Int)+(k1:Int)+(k2:Int)+(k3:Int)):=by
      rw [HU.out,if_neg W0.out,if_pos W1.out];rw [decide_eq_true PC.out,v5,<-AX.out,decide_eq_true KD.out,K0.out,K1.out,K2.out,K3.out,Bool.true_and,Bool.true_and];exact kid4_le a.kids.length k0 k1 k2 k3
     rw [hr];exact ⟨rfl,HB.out⟩
    ·have yKD:(a.kind == 2)=false:=by simp [kdx]
     have KD:=am kdx;clear kdx
     go_wp2_with (first
     |((with_reducible refine gate_dst (N:=3) rfl ?_);refine box_event rfl (N:=3) rfl (t:=48) (by go_simp<;>rfl) ?_;intro gp hg w3 hbox hb;have BP:=am hbox;clear hbox hg;have HB2:=am hb;clear hb;have HB:=HB2;clear HB2;have BPc:=zc8 BP.out)
     |((with_reducible refine gate_dst (N:=4) rfl ?_);refine box_event rfl (N:=4) rfl (t:=27) (by go_simp<;>rfl) ?_;intro gs hg w4 hbox hb;have BS:=am hbox;clear hbox hg;replace BP:=am (zb8 BP.out hb);replace HB:=am (below_step HB.out hb);clear hb BPc;have BPc:=zc8 BP.out;have BSc:=zc8 BS.out)
     |((with_reducible refine gate_dst (N:=15) rfl ?_);refine wpList_load_mid rfl 38 (.tmp 14) rfl b (o+i*13) rfl _ _ (fun j u hu=>cellB HB.out (HC.out j u hu)) Try.underlying38 rfl (by kernel_rfl) ?_)|((with_reducible refine gate_dst (N:=7) rfl ?_);refine box_event rfl (N:=7) rfl (t:=38) (by go_simp<;>rfl) ?_;intro gt hg wt hbox hb;have BT0:=am hbox;have GBT:=am hg;have HBT:=am hb;clear hbox hb hg)|((with_reducible refine gate_store (t:=38) (p:=7) rfl ?_);refine store_block rfl rfl 38 (.tmp 7) (.tmp 15) rfl rfl rfl BT0.out rfl (by kernel_rfl) (aB rfl) ?_;intro wn hbox hg;have BT:=am hbox;have hbx:=pw_below_grown HBT.out _ HBT.out.size hg (fun z hz=>by cases hz;exact Nat.le_of_eq GBT.out.symm);clear BT0 HBT hbox hg;replace BP:=am (zb8 BP.out hbx);replace BS:=am (zb8 BS.out hbx);replace HB:=am (below_step HB.out hbx);clear hbx BPc BSc;have BPc:=zc8 BP.out;have BSc:=zc8 BS.out;have BTc:=zc8 BT.out;have p2w:=cellB HB.out P2.out)
     |((with_reducible refine gate_dst (N:=22) rfl ?_);refine wpList_load_mid rfl 48 (.tmp 3) rfl gp 0 rfl _ _ (lC BP.out) Try.underlying48 rfl (by kernel_rfl) ?_)
     |((with_reducible refine gate_dst (N:=23) rfl ?_);refine wpList_load_mid rfl 27 (.tmp 4) rfl gs 0 rfl _ _ (lC BS.out) Try.underlying27 rfl (by kernel_rfl) ?_)
     |((with_reducible refine gate_dst (N:=25) rfl ?_);refine box_event rfl (N:=25) rfl (t:=152) (by go_simp<;>rfl) ?_;intro gg hg w25 hbox hb;have BG:=am hbox;clear hbox hg;replace BP:=am (zb8 BP.out hb);replace BS:=am (zb8 BS.out hb);replace BT:=am (zb8 BT.out hb);replace HB:=am (below_step HB.out hb);clear hb BPc BSc BTc;have BPc:=zc8 BP.out;have BSc:=zc8 BS.out;have BTc:=zc8 BT.out;have BGc:=zc8 BG.out;have ua0w:=cellB HB.out UA0.out;have ua2w:=cellB HB.out UA2.out)
     |(go_at_call 125;refine (kids_calls (i:Int) _ _ (⟨BG.out,kProg.K_below HB.out HPK.out,kSys.K_below HB.out HSK.out⟩:RO gg _ _ p s _ _ _ _) hn).mono ?_;(first|rw [K0.out] | rw [K1.out] | rw [K2.out] | rw [K3.out]);rintro e w9 ⟨rfl,rfl⟩))
     go_ret
     have hr:wayOk p s i=false:=by
      rw [HU.out,if_neg W0.out,if_pos W1.out];rw [decide_eq_true PC.out,v5,<-AX.out,decide_eq_false KD.out,Bool.and_false,Bool.false_and]
     rw [hr];exact ⟨rfl,HB.out⟩
   ·have yPC:decide (t.pc < (acts.length:Int))=false:=decide_eq_false pcx
    have PC:=am pcx;clear pcx
    go_wp2_with (first
    |((with_reducible refine gate_dst (N:=3) rfl ?_);refine box_event rfl (N:=3) rfl (t:=48) (by go_simp<;>rfl) ?_;intro gp hg w3 hbox hb;have BP:=am hbox;clear hbox hg;have HB2:=am hb;clear hb;have HB:=HB2;clear HB2;have BPc:=zc8 BP.out)
    |((with_reducible refine gate_dst (N:=4) rfl ?_);refine box_event rfl (N:=4) rfl (t:=27) (by go_simp<;>rfl) ?_;intro gs hg w4 hbox hb;have BS:=am hbox;clear hbox hg;replace BP:=am (zb8 BP.out hb);replace HB:=am (below_step HB.out hb);clear hb BPc;have BPc:=zc8 BP.out;have BSc:=zc8 BS.out)
    |((with_reducible refine gate_dst (N:=15) rfl ?_);refine wpList_load_mid rfl 38 (.tmp 14) rfl b (o+i*13) rfl _ _ (fun j u hu=>cellB HB.out (HC.out j u hu)) Try.underlying38 rfl (by kernel_rfl) ?_)|((with_reducible refine gate_dst (N:=7) rfl ?_);refine box_event rfl (N:=7) rfl (t:=38) (by go_simp<;>rfl) ?_;intro gt hg wt hbox hb;have BT0:=am hbox;have GBT:=am hg;have HBT:=am hb;clear hbox hb hg)|((with_reducible refine gate_store (t:=38) (p:=7) rfl ?_);refine store_block rfl rfl 38 (.tmp 7) (.tmp 15) rfl rfl rfl BT0.out rfl (by kernel_rfl) (aB rfl) ?_;intro wn hbox hg;have BT:=am hbox;have hbx:=pw_below_grown HBT.out _ HBT.out.size hg (fun z hz=>by cases hz;exact Nat.le_of_eq GBT.out.symm);clear BT0 HBT hbox hg;replace BP:=am (zb8 BP.out hbx);replace BS:=am (zb8 BS.out hbx);replace HB:=am (below_step HB.out hbx);clear hbx BPc BSc;have BPc:=zc8 BP.out;have BSc:=zc8 BS.out;have BTc:=zc8 BT.out;have p2w:=cellB HB.out P2.out)
    |((with_reducible refine gate_dst (N:=22) rfl ?_);refine wpList_load_mid rfl 48 (.tmp 3) rfl gp 0 rfl _ _ (lC BP.out) Try.underlying48 rfl (by kernel_rfl) ?_)
    |((with_reducible refine gate_dst (N:=23) rfl ?_);refine wpList_load_mid rfl 27 (.tmp 4) rfl gs 0 rfl _ _ (lC BS.out) Try.underlying27 rfl (by kernel_rfl) ?_)
    |((with_reducible refine gate_dst (N:=25) rfl ?_);refine box_event rfl (N:=25) rfl (t:=152) (by go_simp<;>rfl) ?_;intro gg hg w25 hbox hb;have BG:=am hbox;clear hbox hg;replace BP:=am (zb8 BP.out hb);replace BS:=am (zb8 BS.out hb);replace BT:=am (zb8 BT.out hb);replace HB:=am (below_step HB.out hb);clear hb BPc BSc BTc;have BPc:=zc8 BP.out;have BSc:=zc8 BS.out;have BTc:=zc8 BT.out;have BGc:=zc8 BG.out)
    |(go_at_call 125;refine (kids_calls (i:Int) _ _ (⟨BG.out,kProg.K_below HB.out HPK.out,kSys.K_below HB.out HSK.out⟩:RO gg _ _ p s _ _ _ _) hn).mono ?_;(first|rw [K0.out] | rw [K1.out] | rw [K2.out] | rw [K3.out]);rintro e w9 ⟨rfl,rfl⟩))
    go_ret
    have hr:wayOk p s i=false:=by
     rw [HU.out,if_neg W0.out,if_pos W1.out];rw [decide_eq_false (show ¬ t.pc < (acts.length:Int) by have:=PC.out;omega),Bool.false_and,Bool.false_and]
    rw [hr];exact ⟨rfl,HB.out⟩
  ·have yW1:(t.way == 1)=false:=by simp [w1x]
   have W1:=am w1x;clear w1x;by_cases w2x:t.way=2
   ·have yW2:(t.way == 2)=true:=by simp [w2x]
    have W2:=am w2x;clear w2x
    go_wp2_with (first
    |((with_reducible refine gate_dst (N:=3) rfl ?_);refine box_event rfl (N:=3) rfl (t:=48) (by go_simp<;>rfl) ?_;intro gp hg w3 hbox hb;have BP:=am hbox;clear hbox hg;have HB2:=am hb;clear hb;have HB:=HB2;clear HB2;have BPc:=zc8 BP.out)
    |((with_reducible refine gate_dst (N:=4) rfl ?_);refine box_event rfl (N:=4) rfl (t:=27) (by go_simp<;>rfl) ?_;intro gs hg w4 hbox hb;have BS:=am hbox;clear hbox hg;replace BP:=am (zb8 BP.out hb);replace HB:=am (below_step HB.out hb);clear hb BPc;have BPc:=zc8 BP.out;have BSc:=zc8 BS.out)
    |((with_reducible refine gate_dst (N:=15) rfl ?_);refine wpList_load_mid rfl 38 (.tmp 14) rfl b (o+i*13) rfl _ _ (fun j u hu=>cellB HB.out (HC.out j u hu)) Try.underlying38 rfl (by kernel_rfl) ?_)|((with_reducible refine gate_dst (N:=7) rfl ?_);refine box_event rfl (N:=7) rfl (t:=38) (by go_simp<;>rfl) ?_;intro gt hg wt hbox hb;have BT0:=am hbox;have GBT:=am hg;have HBT:=am hb;clear hbox hb hg)|((with_reducible refine gate_store (t:=38) (p:=7) rfl ?_);refine store_block rfl rfl 38 (.tmp 7) (.tmp 15) rfl rfl rfl BT0.out rfl (by kernel_rfl) (aB rfl) ?_;intro wn hbox hg;have BT:=am hbox;have hbx:=pw_below_grown HBT.out _ HBT.out.size hg (fun z hz=>by cases hz;exact Nat.le_of_eq GBT.out.symm);clear BT0 HBT hbox hg;replace BP:=am (zb8 BP.out hbx);replace BS:=am (zb8 BS.out hbx);replace HB:=am (below_step HB.out hbx);clear hbx BPc BSc;have BPc:=zc8 BP.out;have BSc:=zc8 BS.out;have BTc:=zc8 BT.out;have p2w:=cellB HB.out P2.out)
    |((with_reducible refine gate_dst (N:=22) rfl ?_);refine wpList_load_mid rfl 48 (.tmp 3) rfl gp 0 rfl _ _ (lC BP.out) Try.underlying48 rfl (by kernel_rfl) ?_)
    |((with_reducible refine gate_dst (N:=23) rfl ?_);refine wpList_load_mid rfl 27 (.tmp 4) rfl gs 0 rfl _ _ (lC BS.out) Try.underlying27 rfl (by kernel_rfl) ?_)
    |((with_reducible refine gate_dst (N:=25) rfl ?_);refine box_event rfl (N:=25) rfl (t:=152) (by go_simp<;>rfl) ?_;intro gg hg w25 hbox hb;have BG:=am hbox;clear hbox hg;replace BP:=am (zb8 BP.out hb);replace BS:=am (zb8 BS.out hb);replace BT:=am (zb8 BT.out hb);replace HB:=am (below_step HB.out hb);clear hb BPc BSc BTc;have BPc:=zc8 BP.out;have BSc:=zc8 BS.out;have BTc:=zc8 BT.out;have BGc:=zc8 BG.out))
    go_ret
    have hr:wayOk p s i=(t.pc == (acts.length:Int)):=by
     rw [HU.out,if_neg W0.out,if_neg W1.out,if_pos W2.out,Bool.eq_iff_iff,decide_eq_true_eq,beq_iff_eq]
    rw [hr];exact ⟨rfl,HB.out⟩
   ·have yW2:(t.way == 2)=false:=by simp [w2x]
    have W2:=am w2x;clear w2x
    go_wp2_with (first
    |((with_reducible refine gate_dst (N:=3) rfl ?_);refine box_event rfl (N:=3) rfl (t:=48) (by go_simp<;>rfl) ?_;intro gp hg w3 hbox hb;have BP:=am hbox;clear hbox hg;have HB2:=am hb;clear hb;have HB:=HB2;clear HB2;have BPc:=zc8 BP.out)
    |((with_reducible refine gate_dst (N:=4) rfl ?_);refine box_event rfl (N:=4) rfl (t:=27) (by go_simp<;>rfl) ?_;intro gs hg w4 hbox hb;have BS:=am hbox;clear hbox hg;replace BP:=am (zb8 BP.out hb);replace HB:=am (below_step HB.out hb);clear hb BPc;have BPc:=zc8 BP.out;have BSc:=zc8 BS.out)
    |((with_reducible refine gate_dst (N:=15) rfl ?_);refine wpList_load_mid rfl 38 (.tmp 14) rfl b (o+i*13) rfl _ _ (fun j u hu=>cellB HB.out (HC.out j u hu)) Try.underlying38 rfl (by kernel_rfl) ?_)|((with_reducible refine gate_dst (N:=7) rfl ?_);refine box_event rfl (N:=7) rfl (t:=38) (by go_simp<;>rfl) ?_;intro gt hg wt hbox hb;have BT0:=am hbox;have GBT:=am hg;have HBT:=am hb;clear hbox hb hg)|((with_reducible refine gate_store (t:=38) (p:=7) rfl ?_);refine store_block rfl rfl 38 (.tmp 7) (.tmp 15) rfl rfl rfl BT0.out rfl (by kernel_rfl) (aB rfl) ?_;intro wn hbox hg;have BT:=am hbox;have hbx:=pw_below_grown HBT.out _ HBT.out.size hg (fun z hz=>by cases hz;exact Nat.le_of_eq GBT.out.symm);clear BT0 HBT hbox hg;replace BP:=am (zb8 BP.out hbx);replace BS:=am (zb8 BS.out hbx);replace HB:=am (below_step HB.out hbx);clear hbx BPc BSc;have BPc:=zc8 BP.out;have BSc:=zc8 BS.out;have BTc:=zc8 BT.out;have p2w:=cellB HB.out P2.out)
    |((with_reducible refine gate_dst (N:=22) rfl ?_);refine wpList_load_mid rfl 48 (.tmp 3) rfl gp 0 rfl _ _ (lC BP.out) Try.underlying48 rfl (by kernel_rfl) ?_)
    |((with_reducible refine gate_dst (N:=23) rfl ?_);refine wpList_load_mid rfl 27 (.tmp 4) rfl gs 0 rfl _ _ (lC BS.out) Try.underlying27 rfl (by kernel_rfl) ?_)
    |((with_reducible refine gate_dst (N:=25) rfl ?_);refine box_event rfl (N:=25) rfl (t:=152) (by go_simp<;>rfl) ?_;intro gg hg w25 hbox hb;have BG:=am hbox;clear hbox hg;replace BP:=am (zb8 BP.out hb);replace BS:=am (zb8 BS.out hb);replace BT:=am (zb8 BT.out hb);replace HB:=am (below_step HB.out hb);clear hb BPc BSc BTc;have BPc:=zc8 BP.out;have BSc:=zc8 BS.out;have BTc:=zc8 BT.out;have BGc:=zc8 BG.out))
    go_ret
    have hr:wayOk p s i=true:=by
     rw [HU.out,if_neg W0.out,if_neg W1.out,if_neg W2.out]
    rw [hr];exact ⟨rfl,HB.out⟩
theorem l12Task_bad (p:Prog) (ps:List Value) (s:Sys) (ss:List Value) (i:Nat) (w:World) (hp:kProg.K w p ps) (hs:kSys.K w s ss) (hz:ProgSz p) (hi:i < s.tasks.length) (hn:s.tasks.length<=1048576) (hm:s.cells.length<=1048576) (hl:s.log.length<=1048576) (hc0:0<=s.clock) (hc1:s.clock<=200) (hsz:(taskAt s.tasks i).regs.length<=1048576/\(taskAt s.tasks i).old.length<=1048576/\(taskAt s.tasks i).reads.length<=1048576/\(taskAt s.tasks i).puts.length<=1048576) (hx:(inB (taskAt s.tasks i).body 0 ((p.bodies.length:Int) - 1) && inB (taskAt s.tasks i).pc 0 ((actsAt p.bodies (taskAt s.tasks i).body.toNat).length) && inB (taskAt s.tasks i).way 0 4 && inB (taskAt s.tasks i).stage 0 5)=false):
  Calls Try.prog 57 #[.agg ps.toArray,.agg ss.toArray,.int .i64 i] w fun e w'=>e= .returned (.bool (taskOk p s i))/\Below w.heap.size w w':=by
 have HPK:=am hp;have HSK:=am hs;have HPZ:=am hz;obtain ⟨Ac,cc,Ab,cb,rfl,-,-,-,gb⟩:=kProg_open hp;obtain ⟨A0,c0,A1,c1,A3,c3,rfl,-,-,-,g1,-⟩:=kSys_open hs;have GB:=am gb;obtain ⟨b,o,cs,rfl,hcl,hK,hcc,-⟩:=C_field g1 zTask i hi (by decide);obtain ⟨t,ht⟩:∃ x,x=taskAt s.tasks i:=⟨_,rfl⟩;rw [<-ht] at hsz hx;rw [show s.tasks.getD i zTask=t from ht.symm] at hK;have HKT0:=am hK;obtain ⟨B3,d3,B8,d8,B9,d9,B10,d10,rfl,-,g3,-,g8,-,g9,-,g10⟩:=kTask_open hK;have HKT:=HKT0;have HC:=am hcc;have R3:=am g3;have R8:=am g8;have R9:=am g9;have R10:=am g10;have HZ3:=am hsz.1;have HZ8:=am hsz.2.1;have HZ9:=am hsz.2.2.1;have HZ10:=am hsz.2.2.2;have TX:=am ht;have HU:Aside0 (taskOk p s i=(inB t.body 0 (p.bodies.length - 1) && inB t.pc 0 (actsAt p.bodies t.body.toNat).length && inB t.way 0 4 && inB t.stage 0 5 && (decide (t.way=0) || decide (t.stage=0)) && numsOk t.regs 3 && numsOk t.old 3 && listOk t.reads s.cells.length && listOk t.puts s.cells.length && (!decide (t.stage=0) || (decide (t.at_=0) && decide (t.reads.length+t.puts.length=0))) && timesOk t s && upsOk s i && wayOk p s i)):=⟨by rw [ht];rfl⟩;have q0:(0:Int)<=(i:Int):=by omega
 have q1:(i:Int) < (s.tasks.length:Int):=by omega
 have w5:wrap64 ((p.bodies.length:Int) - 1)=(p.bodies.length:Int) - 1:=by have:=hz.bodies;unfold wrap64;omega
 clear hp hs gb g1 g3 g8 g9 g10 hcl hK hcc ht HKT0 hz hsz;obtain ⟨bH1,hbH1⟩:∃ b,inB t.body 0 ((p.bodies.length:Int) - 1)=b:=⟨_,rfl⟩;have H1:Aside0 ((decide ((0:Int)<=t.body) && decide (t.body<=((p.bodies.length:Int) - 1)))=bH1):=⟨hbH1⟩;clear hbH1;obtain ⟨bH3,hbH3⟩:∃ b,inB t.way 0 4=b:=⟨_,rfl⟩;have H3:Aside0 ((decide ((0:Int)<=t.way) && decide (t.way<=4))=bH3):=⟨hbH3⟩;clear hbH3;obtain ⟨bH4,hbH4⟩:∃ b,inB t.stage 0 5=b:=⟨_,rfl⟩;have H4:Aside0 ((decide ((0:Int)<=t.stage) && decide (t.stage<=5))=bH4):=⟨hbH4⟩;clear hbH4;go_enter Try.func57,Try.ntmps57
 cases bH1 with
 | false=>
  clear hx
  go_wp2_with (first
  |((with_reducible refine gate_dst (N:=3) rfl ?_);refine box_event rfl (N:=3) rfl (t:=48) (by go_simp<;>rfl) ?_;intro gp hg w3 hbox hb;have BP:=am hbox;clear hbox hg;have HB2:=am hb;clear hb;have HB:=HB2;clear HB2;have BPc:=zc8 BP.out)
  |((with_reducible refine gate_dst (N:=4) rfl ?_);refine box_event rfl (N:=4) rfl (t:=27) (by go_simp<;>rfl) ?_;intro gs hg w4 hbox hb;have BS:=am hbox;clear hbox hg;replace BP:=am (zb8 BP.out hb);replace HB:=am (below_step HB.out hb);clear hb BPc;have BPc:=zc8 BP.out;have BSc:=zc8 BS.out)
  |((with_reducible refine gate_dst (N:=13) rfl ?_);refine wpList_load_mid rfl 38 (.tmp 12) rfl b (o+i*13) rfl _ _ (fun j u hu=>cellB HB.out (HC.out j u hu)) Try.underlying38 rfl (by kernel_rfl) ?_)|((with_reducible refine gate_dst (N:=7) rfl ?_);refine box_event rfl (N:=7) rfl (t:=38) (by go_simp<;>rfl) ?_;intro gt hg wt hbox hb;have BT0:=am hbox;have GBT:=am hg;have HBT:=am hb;clear hbox hb hg)|((with_reducible refine gate_store (t:=38) (p:=7) rfl ?_);refine store_block rfl rfl 38 (.tmp 7) (.tmp 13) rfl rfl rfl BT0.out rfl (by kernel_rfl) (aB rfl) ?_;intro wn hbox hg;have BT:=am hbox;have hbx:=pw_below_grown HBT.out _ HBT.out.size hg (fun z hz=>by cases hz;exact Nat.le_of_eq GBT.out.symm);clear BT0 HBT hbox hg;replace BP:=am (zb8 BP.out hbx);replace BS:=am (zb8 BS.out hbx);replace HB:=am (below_step HB.out hbx);clear hbx BPc BSc;have BPc:=zc8 BP.out;have BSc:=zc8 BS.out;have BTc:=zc8 BT.out))
  refine st9 (n:=33) (S:=fun W=>W.heap[gp]? = some (.cells #[.slice Ac p.cells.length cc,.slice Ab p.bodies.length cb] 48 (0,0))/\W.heap[gs]? = some (.cells #[.slice A0 s.cells.length c0,.slice (some ⟨b,o,none⟩) s.tasks.length c1,.int .i64 s.clock,.slice A3 s.log.length c3] 27 (0,0))/\W.heap[gt]? = some (.cells #[.int .i64 t.body,.int .i64 t.pc,.int .i64 t.up,.slice B3 t.regs.length d3,.int .i64 t.way,.int .i64 t.stage,.int .i64 t.at_,.int .i64 t.since,.slice B8 t.old.length d8,.slice B9 t.reads.length d9,.slice B10 t.puts.length d10,.int .i64 t.when_,.int .i64 t.from_] 38 (0,0))) (ds:= []) (by kernel_rfl) rfl ⟨blk_drew BP.out,blk_drew BS.out,blk_drew BT.out⟩ (fun hHeld=> ?_);have hb:=below_drew (Below.refl wn.heap.size wn);generalize wn.drew=w7 at hb hHeld ⊢;have HB7:=am (below_step HB.out hb);clear hb HB BP BS BT BPc BSc BTc;refine ba9 (fuel:=27) (n:=6) [0,1,2,3,4,5] (by kernel_rfl) (fun N _ _ _ _ h=>by cases N <;> exact h) hHeld ?_
  iterate 6 (
   refine stillS_step (v:= ?_) (a':= ?_) rfl (Or.inl ⟨by rfl, ?_⟩) ?_ ?_;rotate_left
   ·rintro W ⟨s0,s1,s2⟩
    have t0:=zc8 s0;have t1:=zc8 s1;have t2:=zc8 s2;clear s0 s1 s2;go_simp;with_reducible rfl
   rotate_left
   ·simp only [Act.put,sA,sZ,sS,i64_w]
    rfl)
  refine stillS_nil ?_;refine on9 (i:=6) (N:=some 20) rfl rfl (by kernel_rfl) (by decide) (fun K hK=> ?_);refine goes_ Try.func50 (by kernel_rfl) rfl #[.int .i64 t.body,.int .i64 0,.int .i64 (wrap64 ((p.bodies.length:Int) - 1))] (by rfl) rfl rfl (by (try simp only [List.map_toArray,List.map_cons,List.map_nil]);first | done | rfl) ?_;refine (l6In_calls t.body 0 (wrap64 ((p.bodies.length:Int) - 1)) _).mono ?_;rw [w5,H1.out];rintro e9 wn ⟨rfl,rfl⟩;refine ⟨_,rfl, ?_⟩;refine hK.out _ _ hHeld (fun hHeld=> ?_);clear hK K;refine norm_ (a':= ?_) ?_ ?_;rotate_left
  ·show Act.put _ (some 20) _=_
   simp only [Act.put,sA,sZ,sS,i64_w];rfl
  refine ba9 (fuel:=15) (n:=11) [7,8,9,10,11,12,13,14,15,16,17] (by kernel_rfl) (fun N _ _ _ _ h=>by cases N <;> exact h) hHeld ?_
  iterate 2 (
   refine stillS_step (v:= ?_) (a':= ?_) rfl (Or.inl ⟨by rfl, ?_⟩) ?_ ?_;rotate_left
   ·rintro W ⟨s0,s1,s2⟩
    have t0:=zc8 s0;have t1:=zc8 s1;have t2:=zc8 s2;clear s0 s1 s2;go_simp;with_reducible rfl
   rotate_left
   ·simp only [Act.put,sA,sZ,sS,i64_w]
    rfl)
  iterate 9 (
   refine stillS_step (v:=undef) (a':= ?_) rfl (Or.inr ⟨by rfl,rfl⟩) ?_ ?_;rotate_left
   ·simp only [Act.put,sA,sZ,sS]
    rfl)
  refine stillS_nil ?_;refine on9 (i:=18) (N:=some 32) rfl rfl (by kernel_rfl) (by decide) (fun K hK=> ?_);rw [if_neg (by exact Bool.false_ne_true)];refine hK.out _ _ hHeld (fun hHeld=> ?_);clear hK K;refine norm_ (a':= ?_) ?_ ?_;rotate_left
  ·show Act.put _ (some 32) _=_
   simp only [Act.put,sA,sZ,sS,i64_w];rfl
  refine ba9 (fuel:=9) (n:=5) [19,20,21,22,23] (by kernel_rfl) (fun N _ _ _ _ h=>by cases N <;> exact h) hHeld ?_
  iterate 1 (
   refine stillS_step (v:=undef) (a':= ?_) rfl (Or.inr ⟨by rfl,rfl⟩) ?_ ?_;rotate_left
   ·simp only [Act.put,sA,sZ,sS]
    rfl)
  iterate 2 (
   refine stillS_step (v:= ?_) (a':= ?_) rfl (Or.inl ⟨by rfl, ?_⟩) ?_ ?_;rotate_left
   ·rintro W ⟨s0,s1,s2⟩
    have t0:=zc8 s0;have t1:=zc8 s1;have t2:=zc8 s2;clear s0 s1 s2;go_simp;with_reducible rfl
   rotate_left
   ·simp only [Act.put,sA,sZ,sS,i64_w]
    rfl)
  iterate 2 (
   refine stillS_step (v:=undef) (a':= ?_) rfl (Or.inr ⟨by rfl,rfl⟩) ?_ ?_;rotate_left
   ·simp only [Act.put,sA,sZ,sS]
    rfl)
  refine stillS_nil ?_;refine on9 (i:=24) (N:=some 38) rfl rfl (by kernel_rfl) (by decide) (fun K hK=> ?_);rw [if_neg (by exact Bool.false_ne_true)];refine hK.out _ _ hHeld (fun hHeld=> ?_);clear hK K;refine norm_ (a':= ?_) ?_ ?_;rotate_left
  ·show Act.put _ (some 38) _=_
   simp only [Act.put,sA,sZ,sS,i64_w];rfl
  refine ba9 (fuel:=3) (n:=5) [25,26,27,28,29] (by kernel_rfl) (fun N _ _ _ _ h=>by cases N <;> exact h) hHeld ?_
  iterate 1 (
   refine stillS_step (v:=undef) (a':= ?_) rfl (Or.inr ⟨by rfl,rfl⟩) ?_ ?_;rotate_left
   ·simp only [Act.put,sA,sZ,sS]
    rfl)
  iterate 2 (
   refine stillS_step (v:= ?_) (a':= ?_) rfl (Or.inl ⟨by rfl, ?_⟩) ?_ ?_;rotate_left
   ·rintro W ⟨s0,s1,s2⟩
    have t0:=zc8 s0;have t1:=zc8 s1;have t2:=zc8 s2;clear s0 s1 s2;go_simp;with_reducible rfl
   rotate_left
   ·simp only [Act.put,sA,sZ,sS,i64_w]
    rfl)
  iterate 2 (
   refine stillS_step (v:=undef) (a':= ?_) rfl (Or.inr ⟨by rfl,rfl⟩) ?_ ?_;rotate_left
   ·simp only [Act.put,sA,sZ,sS]
    rfl)
  refine stillS_nil ?_;refine on9 (i:=30) (N:=some 44) rfl rfl (by kernel_rfl) (by decide) (fun K hK=> ?_);rw [if_neg (by exact Bool.false_ne_true)];refine hK.out _ _ hHeld (fun hHeld=> ?_);clear hK K;refine norm_ (a':= ?_) ?_ ?_;rotate_left
  ·show Act.put _ (some 44) _=_
   simp only [Act.put,sA,sZ,sS,i64_w];rfl
  refine ba9 (fuel:=0) (n:=2) [31,32] (by kernel_rfl) (fun N _ _ _ _ h=>by cases N <;> exact h) hHeld ?_
  iterate 1 (
   refine stillS_step (v:=undef) (a':= ?_) rfl (Or.inr ⟨by rfl,rfl⟩) ?_ ?_;rotate_left
   ·simp only [Act.put,sA,sZ,sS]
    rfl)
  iterate 1 (
   refine stillS_step (v:= ?_) (a':= ?_) rfl (Or.inl ⟨by rfl, ?_⟩) ?_ ?_;rotate_left
   ·rintro W ⟨s0,s1,s2⟩
    have t0:=zc8 s0;have t1:=zc8 s1;have t2:=zc8 s2;clear s0 s1 s2;go_simp;with_reducible rfl
   rotate_left
   ·simp only [Act.put,sA,sZ,sS,i64_w]
    rfl)
  refine stillS_nil ?_;refine done_ (by kernel_rfl) ?_;have BP:=am hHeld.1;have BS:=am hHeld.2.1;have BT:=am hHeld.2.2;have HB:=HB7;clear hHeld HB7;have BPc:=zc8 BP.out;have BSc:=zc8 BS.out;have BTc:=zc8 BT.out;go_wp2;go_ret
  have hr:taskOk p s i=false:=by
   rw [HU.out,show inB t.body 0 ((p.bodies.length:Int) - 1)=false from H1.out];simp only [Bool.true_and,Bool.false_and,Bool.and_false,Bool.or_true,Bool.true_or,Bool.or_false,Bool.false_or,Bool.not_true,Bool.not_false,Bool.and_self,Bool.and_true,Bool.or_self]
  rw [hr]
  exact ⟨rfl,HB.out⟩
 | true=>
  have hbb:=inB_iff.1 (show inB t.body 0 ((p.bodies.length:Int) - 1)=true from H1.out);have hb0:0<=t.body:=hbb.1;have hb1:t.body < p.bodies.length:=by omega
  clear hbb;obtain ⟨kb,hkb0⟩:=Int.eq_ofNat_of_zero_le hb0;have hkb:kb < p.bodies.length:=by omega
  have v4:t.body.toNat=kb:=by omega
  obtain ⟨bb,ob,cs2,rfl,hcl2,hK2,hcc2,-⟩:=C_field GB.out ([]:List Act) kb hkb (by decide);obtain ⟨Aa,ca,rfl,la,-⟩:=hK2;have p2:=hcc2 0 _ rfl;simp only [show (Kd.slice 108 kAct).sz=1 from rfl,Nat.mul_one,Nat.add_zero] at p2;rw [show (p.bodies.getD kb []).length=(actsAt p.bodies kb).length from rfl] at p2;have P2:=am p2;obtain ⟨na,hna⟩:∃ x,x=(actsAt p.bodies kb).length:=⟨_,rfl⟩;have hnl:na<=1048576:=by rw [hna,actsAt_eq hkb];exact (HPZ.out.acts _ (List.getElem_mem hkb)).1
  rw [<-hna] at P2;have HNA:=am hna;clear hcl2 hcc2 p2 la hna hkb0;obtain ⟨bH2,hbH2⟩:∃ b,inB t.pc 0 (na:Int)=b:=⟨_,rfl⟩;have H2:Aside0 ((decide ((0:Int)<=t.pc) && decide (t.pc<=(na:Int)))=bH2):=⟨hbH2⟩;clear hbH2
  have hx2:((true && bH2) && bH3 && bH4)=false:=by
   rw [<-hx,v4,<-HNA.out,show inB t.body 0 ((p.bodies.length:Int) - 1)=true from H1.out,show inB t.pc 0 (na:Int)=bH2 from H2.out,show inB t.way 0 4=bH3 from H3.out,show inB t.stage 0 5=bH4 from H4.out]
  clear hx
  cases bH2 with
  | false=>
   clear hx2
   go_wp2_with (first
   |((with_reducible refine gate_dst (N:=3) rfl ?_);refine box_event rfl (N:=3) rfl (t:=48) (by go_simp<;>rfl) ?_;intro gp hg w3 hbox hb;have BP:=am hbox;clear hbox hg;have HB2:=am hb;clear hb;have HB:=HB2;clear HB2;have BPc:=zc8 BP.out)
   |((with_reducible refine gate_dst (N:=4) rfl ?_);refine box_event rfl (N:=4) rfl (t:=27) (by go_simp<;>rfl) ?_;intro gs hg w4 hbox hb;have BS:=am hbox;clear hbox hg;replace BP:=am (zb8 BP.out hb);replace HB:=am (below_step HB.out hb);clear hb BPc;have BPc:=zc8 BP.out;have BSc:=zc8 BS.out)
   |((with_reducible refine gate_dst (N:=13) rfl ?_);refine wpList_load_mid rfl 38 (.tmp 12) rfl b (o+i*13) rfl _ _ (fun j u hu=>cellB HB.out (HC.out j u hu)) Try.underlying38 rfl (by kernel_rfl) ?_)|((with_reducible refine gate_dst (N:=7) rfl ?_);refine box_event rfl (N:=7) rfl (t:=38) (by go_simp<;>rfl) ?_;intro gt hg wt hbox hb;have BT0:=am hbox;have GBT:=am hg;have HBT:=am hb;clear hbox hb hg)|((with_reducible refine gate_store (t:=38) (p:=7) rfl ?_);refine store_block rfl rfl 38 (.tmp 7) (.tmp 13) rfl rfl rfl BT0.out rfl (by kernel_rfl) (aB rfl) ?_;intro wn hbox hg;have BT:=am hbox;have hbx:=pw_below_grown HBT.out _ HBT.out.size hg (fun z hz=>by cases hz;exact Nat.le_of_eq GBT.out.symm);clear BT0 HBT hbox hg;replace BP:=am (zb8 BP.out hbx);replace BS:=am (zb8 BS.out hbx);replace HB:=am (below_step HB.out hbx);clear hbx BPc BSc;have BPc:=zc8 BP.out;have BSc:=zc8 BS.out;have BTc:=zc8 BT.out))
   refine st9 (n:=33) (S:=fun W=>W.heap[gp]? = some (.cells #[.slice Ac p.cells.length cc,.slice (some ⟨bb,ob,none⟩) p.bodies.length cb] 48 (0,0))/\W.heap[gs]? = some (.cells #[.slice A0 s.cells.length c0,.slice (some ⟨b,o,none⟩) s.tasks.length c1,.int .i64 s.clock,.slice A3 s.log.length c3] 27 (0,0))/\W.heap[gt]? = some (.cells #[.int .i64 t.body,.int .i64 t.pc,.int .i64 t.up,.slice B3 t.regs.length d3,.int .i64 t.way,.int .i64 t.stage,.int .i64 t.at_,.int .i64 t.since,.slice B8 t.old.length d8,.slice B9 t.reads.length d9,.slice B10 t.puts.length d10,.int .i64 t.when_,.int .i64 t.from_] 38 (0,0))/\W.cell? ⟨bb,ob+kb,none⟩=some (.slice Aa na ca)) (ds:= []) (by kernel_rfl) rfl ⟨blk_drew BP.out,blk_drew BS.out,blk_drew BT.out,(show wn.cell? ⟨bb,ob+kb,none⟩=_ from cellB HB.out P2.out)⟩ (fun hHeld=> ?_);have hb:=below_drew (Below.refl wn.heap.size wn);generalize wn.drew=w7 at hb hHeld ⊢;have HB7:=am (below_step HB.out hb);clear hb HB BP BS BT BPc BSc BTc;refine ba9 (fuel:=27) (n:=6) [0,1,2,3,4,5] (by kernel_rfl) (fun N _ _ _ _ h=>by cases N <;> exact h) hHeld ?_
   iterate 6 (
    refine stillS_step (v:= ?_) (a':= ?_) rfl (Or.inl ⟨by rfl, ?_⟩) ?_ ?_;rotate_left
    ·rintro W ⟨s0,s1,s2,s3⟩
     have t0:=zc8 s0;have t1:=zc8 s1;have t2:=zc8 s2;clear s0 s1 s2;go_simp;with_reducible rfl
    rotate_left
    ·simp only [Act.put,sA,sZ,sS,i64_w]
     rfl)
   refine stillS_nil ?_;refine on9 (i:=6) (N:=some 20) rfl rfl (by kernel_rfl) (by decide) (fun K hK=> ?_);refine goes_ Try.func50 (by kernel_rfl) rfl #[.int .i64 t.body,.int .i64 0,.int .i64 (wrap64 ((p.bodies.length:Int) - 1))] (by rfl) rfl rfl (by (try simp only [List.map_toArray,List.map_cons,List.map_nil]);first | done | rfl) ?_;refine (l6In_calls t.body 0 (wrap64 ((p.bodies.length:Int) - 1)) _).mono ?_;rw [w5,H1.out];rintro e9 wn ⟨rfl,rfl⟩;refine ⟨_,rfl, ?_⟩;refine hK.out _ _ hHeld (fun hHeld=> ?_);clear hK K;refine norm_ (a':= ?_) ?_ ?_;rotate_left
   ·show Act.put _ (some 20) _=_
    simp only [Act.put,sA,sZ,sS,i64_w];rfl
   refine ba9 (fuel:=15) (n:=11) [7,8,9,10,11,12,13,14,15,16,17] (by kernel_rfl) (fun N _ _ _ _ h=>by cases N <;> exact h) hHeld ?_
   iterate 11 (
    refine stillS_step (v:= ?_) (a':= ?_) rfl (Or.inl ⟨by rfl, ?_⟩) ?_ ?_;rotate_left
    ·rintro W ⟨s0,s1,s2,s3⟩
     have t0:=zc8 s0;have t1:=zc8 s1;have t2:=zc8 s2;clear s0 s1 s2;go_simp;with_reducible rfl
    rotate_left
    ·simp only [Act.put,sA,sZ,sS,i64_w]
     rfl)
   refine stillS_nil ?_;refine on9 (i:=18) (N:=some 32) rfl rfl (by kernel_rfl) (by decide) (fun K hK=> ?_);refine goes_ Try.func50 (by kernel_rfl) rfl #[.int .i64 t.pc,.int .i64 0,.int .i64 (na:Int)] (by rfl) rfl rfl (by (try simp only [List.map_toArray,List.map_cons,List.map_nil]);first | done | rfl) ?_;refine (l6In_calls t.pc 0 (na:Int) _).mono ?_;rw [H2.out];rintro e9 wn ⟨rfl,rfl⟩;refine ⟨_,rfl, ?_⟩;refine hK.out _ _ hHeld (fun hHeld=> ?_);clear hK K;refine norm_ (a':= ?_) ?_ ?_;rotate_left
   ·show Act.put _ (some 32) _=_
    simp only [Act.put,sA,sZ,sS,i64_w];rfl
   refine ba9 (fuel:=9) (n:=5) [19,20,21,22,23] (by kernel_rfl) (fun N _ _ _ _ h=>by cases N <;> exact h) hHeld ?_
   iterate 3 (
    refine stillS_step (v:= ?_) (a':= ?_) rfl (Or.inl ⟨by rfl, ?_⟩) ?_ ?_;rotate_left
    ·rintro W ⟨s0,s1,s2,s3⟩
     have t0:=zc8 s0;have t1:=zc8 s1;have t2:=zc8 s2;clear s0 s1 s2;go_simp;with_reducible rfl
    rotate_left
    ·simp only [Act.put,sA,sZ,sS,i64_w]
     rfl)
   iterate 2 (
    refine stillS_step (v:=undef) (a':= ?_) rfl (Or.inr ⟨by rfl,rfl⟩) ?_ ?_;rotate_left
    ·simp only [Act.put,sA,sZ,sS]
     rfl)
   refine stillS_nil ?_;refine on9 (i:=24) (N:=some 38) rfl rfl (by kernel_rfl) (by decide) (fun K hK=> ?_);rw [if_neg (by exact Bool.false_ne_true)];refine hK.out _ _ hHeld (fun hHeld=> ?_);clear hK K;refine norm_ (a':= ?_) ?_ ?_;rotate_left
   ·show Act.put _ (some 38) _=_
    simp only [Act.put,sA,sZ,sS,i64_w];rfl
   refine ba9 (fuel:=3) (n:=5) [25,26,27,28,29] (by kernel_rfl) (fun N _ _ _ _ h=>by cases N <;> exact h) hHeld ?_
   iterate 1 (
    refine stillS_step (v:=undef) (a':= ?_) rfl (Or.inr ⟨by rfl,rfl⟩) ?_ ?_;rotate_left
    ·simp only [Act.put,sA,sZ,sS]
     rfl)
   iterate 2 (
    refine stillS_step (v:= ?_) (a':= ?_) rfl (Or.inl ⟨by rfl, ?_⟩) ?_ ?_;rotate_left
    ·rintro W ⟨s0,s1,s2,s3⟩
     have t0:=zc8 s0;have t1:=zc8 s1;have t2:=zc8 s2;clear s0 s1 s2;go_simp;with_reducible rfl
    rotate_left
    ·simp only [Act.put,sA,sZ,sS,i64_w]
     rfl)
   iterate 2 (
    refine stillS_step (v:=undef) (a':= ?_) rfl (Or.inr ⟨by rfl,rfl⟩) ?_ ?_;rotate_left
    ·simp only [Act.put,sA,sZ,sS]
     rfl)
   refine stillS_nil ?_;refine on9 (i:=30) (N:=some 44) rfl rfl (by kernel_rfl) (by decide) (fun K hK=> ?_);rw [if_neg (by exact Bool.false_ne_true)];refine hK.out _ _ hHeld (fun hHeld=> ?_);clear hK K;refine norm_ (a':= ?_) ?_ ?_;rotate_left
   ·show Act.put _ (some 44) _=_
    simp only [Act.put,sA,sZ,sS,i64_w];rfl
   refine ba9 (fuel:=0) (n:=2) [31,32] (by kernel_rfl) (fun N _ _ _ _ h=>by cases N <;> exact h) hHeld ?_
   iterate 1 (
    refine stillS_step (v:=undef) (a':= ?_) rfl (Or.inr ⟨by rfl,rfl⟩) ?_ ?_;rotate_left
    ·simp only [Act.put,sA,sZ,sS]
     rfl)
   iterate 1 (
    refine stillS_step (v:= ?_) (a':= ?_) rfl (Or.inl ⟨by rfl, ?_⟩) ?_ ?_;rotate_left
    ·rintro W ⟨s0,s1,s2,s3⟩
     have t0:=zc8 s0;have t1:=zc8 s1;have t2:=zc8 s2;clear s0 s1 s2;go_simp;with_reducible rfl
    rotate_left
    ·simp only [Act.put,sA,sZ,sS,i64_w]
     rfl)
   refine stillS_nil ?_;refine done_ (by kernel_rfl) ?_;have BP:=am hHeld.1;have BS:=am hHeld.2.1;have BT:=am hHeld.2.2.1;have HB:=HB7;clear hHeld HB7;have BPc:=zc8 BP.out;have BSc:=zc8 BS.out;have BTc:=zc8 BT.out;go_wp2;go_ret
   have hr:taskOk p s i=false:=by
    rw [HU.out,show inB t.body 0 ((p.bodies.length:Int) - 1)=true from H1.out,v4,<-HNA.out,show inB t.pc 0 (na:Int)=false from H2.out];simp only [Bool.true_and,Bool.false_and,Bool.and_false,Bool.or_true,Bool.true_or,Bool.or_false,Bool.false_or,Bool.not_true,Bool.not_false,Bool.and_self,Bool.and_true,Bool.or_self]
   rw [hr]
   exact ⟨rfl,HB.out⟩
  | true=>
   cases bH3 with
   | false=>
    clear hx2
    go_wp2_with (first
    |((with_reducible refine gate_dst (N:=3) rfl ?_);refine box_event rfl (N:=3) rfl (t:=48) (by go_simp<;>rfl) ?_;intro gp hg w3 hbox hb;have BP:=am hbox;clear hbox hg;have HB2:=am hb;clear hb;have HB:=HB2;clear HB2;have BPc:=zc8 BP.out)
    |((with_reducible refine gate_dst (N:=4) rfl ?_);refine box_event rfl (N:=4) rfl (t:=27) (by go_simp<;>rfl) ?_;intro gs hg w4 hbox hb;have BS:=am hbox;clear hbox hg;replace BP:=am (zb8 BP.out hb);replace HB:=am (below_step HB.out hb);clear hb BPc;have BPc:=zc8 BP.out;have BSc:=zc8 BS.out)
    |((with_reducible refine gate_dst (N:=13) rfl ?_);refine wpList_load_mid rfl 38 (.tmp 12) rfl b (o+i*13) rfl _ _ (fun j u hu=>cellB HB.out (HC.out j u hu)) Try.underlying38 rfl (by kernel_rfl) ?_)|((with_reducible refine gate_dst (N:=7) rfl ?_);refine box_event rfl (N:=7) rfl (t:=38) (by go_simp<;>rfl) ?_;intro gt hg wt hbox hb;have BT0:=am hbox;have GBT:=am hg;have HBT:=am hb;clear hbox hb hg)|((with_reducible refine gate_store (t:=38) (p:=7) rfl ?_);refine store_block rfl rfl 38 (.tmp 7) (.tmp 13) rfl rfl rfl BT0.out rfl (by kernel_rfl) (aB rfl) ?_;intro wn hbox hg;have BT:=am hbox;have hbx:=pw_below_grown HBT.out _ HBT.out.size hg (fun z hz=>by cases hz;exact Nat.le_of_eq GBT.out.symm);clear BT0 HBT hbox hg;replace BP:=am (zb8 BP.out hbx);replace BS:=am (zb8 BS.out hbx);replace HB:=am (below_step HB.out hbx);clear hbx BPc BSc;have BPc:=zc8 BP.out;have BSc:=zc8 BS.out;have BTc:=zc8 BT.out))
    refine st9 (n:=33) (S:=fun W=>W.heap[gp]? = some (.cells #[.slice Ac p.cells.length cc,.slice (some ⟨bb,ob,none⟩) p.bodies.length cb] 48 (0,0))/\W.heap[gs]? = some (.cells #[.slice A0 s.cells.length c0,.slice (some ⟨b,o,none⟩) s.tasks.length c1,.int .i64 s.clock,.slice A3 s.log.length c3] 27 (0,0))/\W.heap[gt]? = some (.cells #[.int .i64 t.body,.int .i64 t.pc,.int .i64 t.up,.slice B3 t.regs.length d3,.int .i64 t.way,.int .i64 t.stage,.int .i64 t.at_,.int .i64 t.since,.slice B8 t.old.length d8,.slice B9 t.reads.length d9,.slice B10 t.puts.length d10,.int .i64 t.when_,.int .i64 t.from_] 38 (0,0))/\W.cell? ⟨bb,ob+kb,none⟩=some (.slice Aa na ca)) (ds:= []) (by kernel_rfl) rfl ⟨blk_drew BP.out,blk_drew BS.out,blk_drew BT.out,(show wn.cell? ⟨bb,ob+kb,none⟩=_ from cellB HB.out P2.out)⟩ (fun hHeld=> ?_);have hb:=below_drew (Below.refl wn.heap.size wn);generalize wn.drew=w7 at hb hHeld ⊢;have HB7:=am (below_step HB.out hb);clear hb HB BP BS BT BPc BSc BTc;refine ba9 (fuel:=27) (n:=6) [0,1,2,3,4,5] (by kernel_rfl) (fun N _ _ _ _ h=>by cases N <;> exact h) hHeld ?_
    iterate 6 (
     refine stillS_step (v:= ?_) (a':= ?_) rfl (Or.inl ⟨by rfl, ?_⟩) ?_ ?_;rotate_left
     ·rintro W ⟨s0,s1,s2,s3⟩
      have t0:=zc8 s0;have t1:=zc8 s1;have t2:=zc8 s2;clear s0 s1 s2;go_simp;with_reducible rfl
     rotate_left
     ·simp only [Act.put,sA,sZ,sS,i64_w]
      rfl)
    refine stillS_nil ?_;refine on9 (i:=6) (N:=some 20) rfl rfl (by kernel_rfl) (by decide) (fun K hK=> ?_);refine goes_ Try.func50 (by kernel_rfl) rfl #[.int .i64 t.body,.int .i64 0,.int .i64 (wrap64 ((p.bodies.length:Int) - 1))] (by rfl) rfl rfl (by (try simp only [List.map_toArray,List.map_cons,List.map_nil]);first | done | rfl) ?_;refine (l6In_calls t.body 0 (wrap64 ((p.bodies.length:Int) - 1)) _).mono ?_;rw [w5,H1.out];rintro e9 wn ⟨rfl,rfl⟩;refine ⟨_,rfl, ?_⟩;refine hK.out _ _ hHeld (fun hHeld=> ?_);clear hK K;refine norm_ (a':= ?_) ?_ ?_;rotate_left
    ·show Act.put _ (some 20) _=_
     simp only [Act.put,sA,sZ,sS,i64_w];rfl
    refine ba9 (fuel:=15) (n:=11) [7,8,9,10,11,12,13,14,15,16,17] (by kernel_rfl) (fun N _ _ _ _ h=>by cases N <;> exact h) hHeld ?_
    iterate 11 (
     refine stillS_step (v:= ?_) (a':= ?_) rfl (Or.inl ⟨by rfl, ?_⟩) ?_ ?_;rotate_left
     ·rintro W ⟨s0,s1,s2,s3⟩
      have t0:=zc8 s0;have t1:=zc8 s1;have t2:=zc8 s2;clear s0 s1 s2;go_simp;with_reducible rfl
     rotate_left
     ·simp only [Act.put,sA,sZ,sS,i64_w]
      rfl)
    refine stillS_nil ?_;refine on9 (i:=18) (N:=some 32) rfl rfl (by kernel_rfl) (by decide) (fun K hK=> ?_);refine goes_ Try.func50 (by kernel_rfl) rfl #[.int .i64 t.pc,.int .i64 0,.int .i64 (na:Int)] (by rfl) rfl rfl (by (try simp only [List.map_toArray,List.map_cons,List.map_nil]);first | done | rfl) ?_;refine (l6In_calls t.pc 0 (na:Int) _).mono ?_;rw [H2.out];rintro e9 wn ⟨rfl,rfl⟩;refine ⟨_,rfl, ?_⟩;refine hK.out _ _ hHeld (fun hHeld=> ?_);clear hK K;refine norm_ (a':= ?_) ?_ ?_;rotate_left
    ·show Act.put _ (some 32) _=_
     simp only [Act.put,sA,sZ,sS,i64_w];rfl
    refine ba9 (fuel:=9) (n:=5) [19,20,21,22,23] (by kernel_rfl) (fun N _ _ _ _ h=>by cases N <;> exact h) hHeld ?_
    iterate 5 (
     refine stillS_step (v:= ?_) (a':= ?_) rfl (Or.inl ⟨by rfl, ?_⟩) ?_ ?_;rotate_left
     ·rintro W ⟨s0,s1,s2,s3⟩
      have t0:=zc8 s0;have t1:=zc8 s1;have t2:=zc8 s2;clear s0 s1 s2;go_simp;with_reducible rfl
     rotate_left
     ·simp only [Act.put,sA,sZ,sS,i64_w]
      rfl)
    refine stillS_nil ?_;refine on9 (i:=24) (N:=some 38) rfl rfl (by kernel_rfl) (by decide) (fun K hK=> ?_);refine goes_ Try.func50 (by kernel_rfl) rfl #[.int .i64 t.way,.int .i64 0,.int .i64 4] (by rfl) rfl rfl (by (try simp only [List.map_toArray,List.map_cons,List.map_nil]);first | done | rfl) ?_;refine (l6In_calls t.way 0 4 _).mono ?_;rw [H3.out];rintro e9 wn ⟨rfl,rfl⟩;refine ⟨_,rfl, ?_⟩;refine hK.out _ _ hHeld (fun hHeld=> ?_);clear hK K;refine norm_ (a':= ?_) ?_ ?_;rotate_left
    ·show Act.put _ (some 38) _=_
     simp only [Act.put,sA,sZ,sS,i64_w];rfl
    refine ba9 (fuel:=3) (n:=5) [25,26,27,28,29] (by kernel_rfl) (fun N _ _ _ _ h=>by cases N <;> exact h) hHeld ?_
    iterate 3 (
     refine stillS_step (v:= ?_) (a':= ?_) rfl (Or.inl ⟨by rfl, ?_⟩) ?_ ?_;rotate_left
     ·rintro W ⟨s0,s1,s2,s3⟩
      have t0:=zc8 s0;have t1:=zc8 s1;have t2:=zc8 s2;clear s0 s1 s2;go_simp;with_reducible rfl
     rotate_left
     ·simp only [Act.put,sA,sZ,sS,i64_w]
      rfl)
    iterate 2 (
     refine stillS_step (v:=undef) (a':= ?_) rfl (Or.inr ⟨by rfl,rfl⟩) ?_ ?_;rotate_left
     ·simp only [Act.put,sA,sZ,sS]
      rfl)
    refine stillS_nil ?_;refine on9 (i:=30) (N:=some 44) rfl rfl (by kernel_rfl) (by decide) (fun K hK=> ?_);rw [if_neg (by exact Bool.false_ne_true)];refine hK.out _ _ hHeld (fun hHeld=> ?_);clear hK K;refine norm_ (a':= ?_) ?_ ?_;rotate_left
    ·show Act.put _ (some 44) _=_
     simp only [Act.put,sA,sZ,sS,i64_w];rfl
    refine ba9 (fuel:=0) (n:=2) [31,32] (by kernel_rfl) (fun N _ _ _ _ h=>by cases N <;> exact h) hHeld ?_
    iterate 1 (
     refine stillS_step (v:=undef) (a':= ?_) rfl (Or.inr ⟨by rfl,rfl⟩) ?_ ?_;rotate_left
     ·simp only [Act.put,sA,sZ,sS]
      rfl)
    iterate 1 (
     refine stillS_step (v:= ?_) (a':= ?_) rfl (Or.inl ⟨by rfl, ?_⟩) ?_ ?_;rotate_left
     ·rintro W ⟨s0,s1,s2,s3⟩
      have t0:=zc8 s0;have t1:=zc8 s1;have t2:=zc8 s2;clear s0 s1 s2;go_simp;with_reducible rfl
     rotate_left
     ·simp only [Act.put,sA,sZ,sS,i64_w]
      rfl)
    refine stillS_nil ?_;refine done_ (by kernel_rfl) ?_;have BP:=am hHeld.1;have BS:=am hHeld.2.1;have BT:=am hHeld.2.2.1;have HB:=HB7;clear hHeld HB7;have BPc:=zc8 BP.out;have BSc:=zc8 BS.out;have BTc:=zc8 BT.out;go_wp2;go_ret
    have hr:taskOk p s i=false:=by
     rw [HU.out,show inB t.body 0 ((p.bodies.length:Int) - 1)=true from H1.out,v4,<-HNA.out,show inB t.pc 0 (na:Int)=true from H2.out,show inB t.way 0 4=false from H3.out];simp only [Bool.true_and,Bool.false_and,Bool.and_false,Bool.or_true,Bool.true_or,Bool.or_false,Bool.false_or,Bool.not_true,Bool.not_false,Bool.and_self,Bool.and_true,Bool.or_self]
    rw [hr]
    exact ⟨rfl,HB.out⟩
   | true=>
    cases bH4 with
    | false=>
     clear hx2
     go_wp2_with (first
     |((with_reducible refine gate_dst (N:=3) rfl ?_);refine box_event rfl (N:=3) rfl (t:=48) (by go_simp<;>rfl) ?_;intro gp hg w3 hbox hb;have BP:=am hbox;clear hbox hg;have HB2:=am hb;clear hb;have HB:=HB2;clear HB2;have BPc:=zc8 BP.out)
     |((with_reducible refine gate_dst (N:=4) rfl ?_);refine box_event rfl (N:=4) rfl (t:=27) (by go_simp<;>rfl) ?_;intro gs hg w4 hbox hb;have BS:=am hbox;clear hbox hg;replace BP:=am (zb8 BP.out hb);replace HB:=am (below_step HB.out hb);clear hb BPc;have BPc:=zc8 BP.out;have BSc:=zc8 BS.out)
     |((with_reducible refine gate_dst (N:=13) rfl ?_);refine wpList_load_mid rfl 38 (.tmp 12) rfl b (o+i*13) rfl _ _ (fun j u hu=>cellB HB.out (HC.out j u hu)) Try.underlying38 rfl (by kernel_rfl) ?_)|((with_reducible refine gate_dst (N:=7) rfl ?_);refine box_event rfl (N:=7) rfl (t:=38) (by go_simp<;>rfl) ?_;intro gt hg wt hbox hb;have BT0:=am hbox;have GBT:=am hg;have HBT:=am hb;clear hbox hb hg)|((with_reducible refine gate_store (t:=38) (p:=7) rfl ?_);refine store_block rfl rfl 38 (.tmp 7) (.tmp 13) rfl rfl rfl BT0.out rfl (by kernel_rfl) (aB rfl) ?_;intro wn hbox hg;have BT:=am hbox;have hbx:=pw_below_grown HBT.out _ HBT.out.size hg (fun z hz=>by cases hz;exact Nat.le_of_eq GBT.out.symm);clear BT0 HBT hbox hg;replace BP:=am (zb8 BP.out hbx);replace BS:=am (zb8 BS.out hbx);replace HB:=am (below_step HB.out hbx);clear hbx BPc BSc;have BPc:=zc8 BP.out;have BSc:=zc8 BS.out;have BTc:=zc8 BT.out))
     refine st9 (n:=33) (S:=fun W=>W.heap[gp]? = some (.cells #[.slice Ac p.cells.length cc,.slice (some ⟨bb,ob,none⟩) p.bodies.length cb] 48 (0,0))/\W.heap[gs]? = some (.cells #[.slice A0 s.cells.length c0,.slice (some ⟨b,o,none⟩) s.tasks.length c1,.int .i64 s.clock,.slice A3 s.log.length c3] 27 (0,0))/\W.heap[gt]? = some (.cells #[.int .i64 t.body,.int .i64 t.pc,.int .i64 t.up,.slice B3 t.regs.length d3,.int .i64 t.way,.int .i64 t.stage,.int .i64 t.at_,.int .i64 t.since,.slice B8 t.old.length d8,.slice B9 t.reads.length d9,.slice B10 t.puts.length d10,.int .i64 t.when_,.int .i64 t.from_] 38 (0,0))/\W.cell? ⟨bb,ob+kb,none⟩=some (.slice Aa na ca)) (ds:= []) (by kernel_rfl) rfl ⟨blk_drew BP.out,blk_drew BS.out,blk_drew BT.out,(show wn.cell? ⟨bb,ob+kb,none⟩=_ from cellB HB.out P2.out)⟩ (fun hHeld=> ?_);have hb:=below_drew (Below.refl wn.heap.size wn);generalize wn.drew=w7 at hb hHeld ⊢;have HB7:=am (below_step HB.out hb);clear hb HB BP BS BT BPc BSc BTc;refine ba9 (fuel:=27) (n:=6) [0,1,2,3,4,5] (by kernel_rfl) (fun N _ _ _ _ h=>by cases N <;> exact h) hHeld ?_
     iterate 6 (
      refine stillS_step (v:= ?_) (a':= ?_) rfl (Or.inl ⟨by rfl, ?_⟩) ?_ ?_;rotate_left
      ·rintro W ⟨s0,s1,s2,s3⟩
       have t0:=zc8 s0;have t1:=zc8 s1;have t2:=zc8 s2;clear s0 s1 s2;go_simp;with_reducible rfl
      rotate_left
      ·simp only [Act.put,sA,sZ,sS,i64_w]
       rfl)
     refine stillS_nil ?_;refine on9 (i:=6) (N:=some 20) rfl rfl (by kernel_rfl) (by decide) (fun K hK=> ?_);refine goes_ Try.func50 (by kernel_rfl) rfl #[.int .i64 t.body,.int .i64 0,.int .i64 (wrap64 ((p.bodies.length:Int) - 1))] (by rfl) rfl rfl (by (try simp only [List.map_toArray,List.map_cons,List.map_nil]);first | done | rfl) ?_;refine (l6In_calls t.body 0 (wrap64 ((p.bodies.length:Int) - 1)) _).mono ?_;rw [w5,H1.out];rintro e9 wn ⟨rfl,rfl⟩;refine ⟨_,rfl, ?_⟩;refine hK.out _ _ hHeld (fun hHeld=> ?_);clear hK K;refine norm_ (a':= ?_) ?_ ?_;rotate_left
     ·show Act.put _ (some 20) _=_
      simp only [Act.put,sA,sZ,sS,i64_w];rfl
     refine ba9 (fuel:=15) (n:=11) [7,8,9,10,11,12,13,14,15,16,17] (by kernel_rfl) (fun N _ _ _ _ h=>by cases N <;> exact h) hHeld ?_
     iterate 11 (
      refine stillS_step (v:= ?_) (a':= ?_) rfl (Or.inl ⟨by rfl, ?_⟩) ?_ ?_;rotate_left
      ·rintro W ⟨s0,s1,s2,s3⟩
       have t0:=zc8 s0;have t1:=zc8 s1;have t2:=zc8 s2;clear s0 s1 s2;go_simp;with_reducible rfl
      rotate_left
      ·simp only [Act.put,sA,sZ,sS,i64_w]
       rfl)
     refine stillS_nil ?_;refine on9 (i:=18) (N:=some 32) rfl rfl (by kernel_rfl) (by decide) (fun K hK=> ?_);refine goes_ Try.func50 (by kernel_rfl) rfl #[.int .i64 t.pc,.int .i64 0,.int .i64 (na:Int)] (by rfl) rfl rfl (by (try simp only [List.map_toArray,List.map_cons,List.map_nil]);first | done | rfl) ?_;refine (l6In_calls t.pc 0 (na:Int) _).mono ?_;rw [H2.out];rintro e9 wn ⟨rfl,rfl⟩;refine ⟨_,rfl, ?_⟩;refine hK.out _ _ hHeld (fun hHeld=> ?_);clear hK K;refine norm_ (a':= ?_) ?_ ?_;rotate_left
     ·show Act.put _ (some 32) _=_
      simp only [Act.put,sA,sZ,sS,i64_w];rfl
     refine ba9 (fuel:=9) (n:=5) [19,20,21,22,23] (by kernel_rfl) (fun N _ _ _ _ h=>by cases N <;> exact h) hHeld ?_
     iterate 5 (
      refine stillS_step (v:= ?_) (a':= ?_) rfl (Or.inl ⟨by rfl, ?_⟩) ?_ ?_;rotate_left
      ·rintro W ⟨s0,s1,s2,s3⟩
       have t0:=zc8 s0;have t1:=zc8 s1;have t2:=zc8 s2;clear s0 s1 s2;go_simp;with_reducible rfl
      rotate_left
      ·simp only [Act.put,sA,sZ,sS,i64_w]
       rfl)
     refine stillS_nil ?_;refine on9 (i:=24) (N:=some 38) rfl rfl (by kernel_rfl) (by decide) (fun K hK=> ?_);refine goes_ Try.func50 (by kernel_rfl) rfl #[.int .i64 t.way,.int .i64 0,.int .i64 4] (by rfl) rfl rfl (by (try simp only [List.map_toArray,List.map_cons,List.map_nil]);first | done | rfl) ?_;refine (l6In_calls t.way 0 4 _).mono ?_;rw [H3.out];rintro e9 wn ⟨rfl,rfl⟩;refine ⟨_,rfl, ?_⟩;refine hK.out _ _ hHeld (fun hHeld=> ?_);clear hK K;refine norm_ (a':= ?_) ?_ ?_;rotate_left
     ·show Act.put _ (some 38) _=_
      simp only [Act.put,sA,sZ,sS,i64_w];rfl
     refine ba9 (fuel:=3) (n:=5) [25,26,27,28,29] (by kernel_rfl) (fun N _ _ _ _ h=>by cases N <;> exact h) hHeld ?_
     iterate 5 (
      refine stillS_step (v:= ?_) (a':= ?_) rfl (Or.inl ⟨by rfl, ?_⟩) ?_ ?_;rotate_left
      ·rintro W ⟨s0,s1,s2,s3⟩
       have t0:=zc8 s0;have t1:=zc8 s1;have t2:=zc8 s2;clear s0 s1 s2;go_simp;with_reducible rfl
      rotate_left
      ·simp only [Act.put,sA,sZ,sS,i64_w]
       rfl)
     refine stillS_nil ?_;refine on9 (i:=30) (N:=some 44) rfl rfl (by kernel_rfl) (by decide) (fun K hK=> ?_);refine goes_ Try.func50 (by kernel_rfl) rfl #[.int .i64 t.stage,.int .i64 0,.int .i64 5] (by rfl) rfl rfl (by (try simp only [List.map_toArray,List.map_cons,List.map_nil]);first | done | rfl) ?_;refine (l6In_calls t.stage 0 5 _).mono ?_;rw [H4.out];rintro e9 wn ⟨rfl,rfl⟩;refine ⟨_,rfl, ?_⟩;refine hK.out _ _ hHeld (fun hHeld=> ?_);clear hK K;refine norm_ (a':= ?_) ?_ ?_;rotate_left
     ·show Act.put _ (some 44) _=_
      simp only [Act.put,sA,sZ,sS,i64_w];rfl
     refine ba9 (fuel:=0) (n:=2) [31,32] (by kernel_rfl) (fun N _ _ _ _ h=>by cases N <;> exact h) hHeld ?_
     iterate 2 (
      refine stillS_step (v:= ?_) (a':= ?_) rfl (Or.inl ⟨by rfl, ?_⟩) ?_ ?_;rotate_left
      ·rintro W ⟨s0,s1,s2,s3⟩
       have t0:=zc8 s0;have t1:=zc8 s1;have t2:=zc8 s2;clear s0 s1 s2;go_simp;with_reducible rfl
      rotate_left
      ·simp only [Act.put,sA,sZ,sS,i64_w]
       rfl)
     refine stillS_nil ?_;refine done_ (by kernel_rfl) ?_;have BP:=am hHeld.1;have BS:=am hHeld.2.1;have BT:=am hHeld.2.2.1;have HB:=HB7;clear hHeld HB7;have BPc:=zc8 BP.out;have BSc:=zc8 BS.out;have BTc:=zc8 BT.out;go_wp2;go_ret
     have hr:taskOk p s i=false:=by
      rw [HU.out,show inB t.body 0 ((p.bodies.length:Int) - 1)=true from H1.out,v4,<-HNA.out,show inB t.pc 0 (na:Int)=true from H2.out,show inB t.way 0 4=true from H3.out,show inB t.stage 0 5=false from H4.out];simp only [Bool.true_and,Bool.false_and,Bool.and_false,Bool.or_true,Bool.true_or,Bool.or_false,Bool.false_or,Bool.not_true,Bool.not_false,Bool.and_self,Bool.and_true,Bool.or_self]
     rw [hr]
     exact ⟨rfl,HB.out⟩
    | true=>
     cases hx2
theorem l12Task_yy (p:Prog) (ps:List Value) (s:Sys) (ss:List Value) (i:Nat) (w:World) (hp:kProg.K w p ps) (hs:kSys.K w s ss) (hz:ProgSz p) (hi:i < s.tasks.length) (hn:s.tasks.length<=1048576) (hm:s.cells.length<=1048576) (hl:s.log.length<=1048576) (hc0:0<=s.clock) (hc1:s.clock<=200) (hsz:(taskAt s.tasks i).regs.length<=1048576/\(taskAt s.tasks i).old.length<=1048576/\(taskAt s.tasks i).reads.length<=1048576/\(taskAt s.tasks i).puts.length<=1048576) (hx:(inB (taskAt s.tasks i).body 0 ((p.bodies.length:Int) - 1) && inB (taskAt s.tasks i).pc 0 ((actsAt p.bodies (taskAt s.tasks i).body.toNat).length) && inB (taskAt s.tasks i).way 0 4 && inB (taskAt s.tasks i).stage 0 5)=true) (wayx:(taskAt s.tasks i).way=0) (stx:(taskAt s.tasks i).stage=0):
  Calls Try.prog 57 #[.agg ps.toArray,.agg ss.toArray,.int .i64 i] w fun e w'=>e= .returned (.bool (taskOk p s i))/\Below w.heap.size w w':=by
 have HPK:=am hp;have HSK:=am hs;have HPZ:=am hz;obtain ⟨Ac,cc,Ab,cb,rfl,-,-,-,gb⟩:=kProg_open hp;obtain ⟨A0,c0,A1,c1,A3,c3,rfl,-,-,-,g1,-⟩:=kSys_open hs;have GB:=am gb;obtain ⟨b,o,cs,rfl,hcl,hK,hcc,-⟩:=C_field g1 zTask i hi (by decide);obtain ⟨t,ht⟩:∃ x,x=taskAt s.tasks i:=⟨_,rfl⟩;rw [<-ht] at hsz hx wayx stx;rw [show s.tasks.getD i zTask=t from ht.symm] at hK;have HKT0:=am hK;obtain ⟨B3,d3,B8,d8,B9,d9,B10,d10,rfl,-,g3,-,g8,-,g9,-,g10⟩:=kTask_open hK;have HKT:=HKT0;have HC:=am hcc;have R3:=am g3;have R8:=am g8;have R9:=am g9;have R10:=am g10;have HZ3:=am hsz.1;have HZ8:=am hsz.2.1;have HZ9:=am hsz.2.2.1;have HZ10:=am hsz.2.2.2;have TX:=am ht;have HU:Aside0 (taskOk p s i=(inB t.body 0 (p.bodies.length - 1) && inB t.pc 0 (actsAt p.bodies t.body.toNat).length && inB t.way 0 4 && inB t.stage 0 5 && (decide (t.way=0) || decide (t.stage=0)) && numsOk t.regs 3 && numsOk t.old 3 && listOk t.reads s.cells.length && listOk t.puts s.cells.length && (!decide (t.stage=0) || (decide (t.at_=0) && decide (t.reads.length+t.puts.length=0))) && timesOk t s && upsOk s i && wayOk p s i)):=⟨by rw [ht];rfl⟩;have q0:(0:Int)<=(i:Int):=by omega
 have q1:(i:Int) < (s.tasks.length:Int):=by omega
 have w5:wrap64 ((p.bodies.length:Int) - 1)=(p.bodies.length:Int) - 1:=by have:=hz.bodies;unfold wrap64;omega
 clear hp hs gb g1 g3 g8 g9 g10 hcl hK hcc ht HKT0 hz hsz;simp only [Bool.and_eq_true] at hx;have H1:Aside0 ((decide ((0:Int)<=t.body) && decide (t.body<=((p.bodies.length:Int) - 1)))=true):=⟨hx.1.1.1⟩;have H3:Aside0 ((decide ((0:Int)<=t.way) && decide (t.way<=4))=true):=⟨hx.1.2⟩;have H4:Aside0 ((decide ((0:Int)<=t.stage) && decide (t.stage<=5))=true):=⟨hx.2⟩;obtain ⟨bN3,hbN3⟩:∃ x,numsOk t.regs 3=x:=⟨_,rfl⟩;have N3:=am hbN3;clear hbN3;obtain ⟨bN8,hbN8⟩:∃ x,numsOk t.old 3=x:=⟨_,rfl⟩;have N8:=am hbN8;clear hbN8;obtain ⟨bL9,hbL9⟩:∃ x,listOk t.reads s.cells.length=x:=⟨_,rfl⟩;have L9:=am hbL9;clear hbL9;obtain ⟨bL10,hbL10⟩:∃ x,listOk t.puts s.cells.length=x:=⟨_,rfl⟩;have L10:=am hbL10;clear hbL10;obtain ⟨bTM,hbTM⟩:∃ x,timesOk t s=x:=⟨_,rfl⟩;have TM:=am hbTM;clear hbTM;obtain ⟨bUP,hbUP⟩:∃ x,upsOk s i=x:=⟨_,rfl⟩;have UP:=am hbUP;clear hbUP;obtain ⟨bAC,hbAC⟩:∃ x,wayOk p s i=x:=⟨_,rfl⟩;have AC:=am hbAC;clear hbAC;have hbb:=inB_iff.1 (show inB t.body 0 ((p.bodies.length:Int) - 1)=true from H1.out);have hb0:0<=t.body:=hbb.1;have hb1:t.body < p.bodies.length:=by omega
 clear hbb;obtain ⟨kb,hkb0⟩:=Int.eq_ofNat_of_zero_le hb0;have hkb:kb < p.bodies.length:=by omega
 have v4:t.body.toNat=kb:=by omega
 obtain ⟨bb,ob,cs2,rfl,hcl2,hK2,hcc2,-⟩:=C_field GB.out ([]:List Act) kb hkb (by decide);obtain ⟨Aa,ca,rfl,la,-⟩:=hK2;have p2:=hcc2 0 _ rfl;simp only [show (Kd.slice 108 kAct).sz=1 from rfl,Nat.mul_one,Nat.add_zero] at p2;rw [show (p.bodies.getD kb []).length=(actsAt p.bodies kb).length from rfl] at p2;have P2:=am p2;obtain ⟨na,hna⟩:∃ x,x=(actsAt p.bodies kb).length:=⟨_,rfl⟩;have hnl:na<=1048576:=by rw [hna,actsAt_eq hkb];exact (HPZ.out.acts _ (List.getElem_mem hkb)).1
 rw [<-hna] at P2;have HNA:=am hna;clear hcl2 hcc2 p2 la hna hkb0;have h2:inB t.pc 0 (na:Int)=true:=by rw [HNA.out,<-v4];exact hx.1.1.2
 have hp0:0<=t.pc:=(inB_iff.1 h2).1;have H2:Aside0 ((decide ((0:Int)<=t.pc) && decide (t.pc<=(na:Int)))=true):=⟨h2⟩;clear h2 hx;have yway:(t.way != 0)=false:=by simp [wayx]
 have WY:=am (decide_eq_true wayx);clear wayx;have SX0:=am stx;clear stx;go_enter Try.func57,Try.ntmps57
 go_wp2_with (first
 |((with_reducible refine gate_dst (N:=3) rfl ?_);refine box_event rfl (N:=3) rfl (t:=48) (by go_simp<;>rfl) ?_;intro gp hg w3 hbox hb;have BP:=am hbox;clear hbox hg;have HB2:=am hb;clear hb;have HB:=HB2;clear HB2;have BPc:=zc8 BP.out)
 |((with_reducible refine gate_dst (N:=4) rfl ?_);refine box_event rfl (N:=4) rfl (t:=27) (by go_simp<;>rfl) ?_;intro gs hg w4 hbox hb;have BS:=am hbox;clear hbox hg;replace BP:=am (zb8 BP.out hb);replace HB:=am (below_step HB.out hb);clear hb BPc;have BPc:=zc8 BP.out;have BSc:=zc8 BS.out)
 |((with_reducible refine gate_dst (N:=13) rfl ?_);refine wpList_load_mid rfl 38 (.tmp 12) rfl b (o+i*13) rfl _ _ (fun j u hu=>cellB HB.out (HC.out j u hu)) Try.underlying38 rfl (by kernel_rfl) ?_)|((with_reducible refine gate_dst (N:=7) rfl ?_);refine box_event rfl (N:=7) rfl (t:=38) (by go_simp<;>rfl) ?_;intro gt hg wt hbox hb;have BT0:=am hbox;have GBT:=am hg;have HBT:=am hb;clear hbox hb hg)|((with_reducible refine gate_store (t:=38) (p:=7) rfl ?_);refine store_block rfl rfl 38 (.tmp 7) (.tmp 13) rfl rfl rfl BT0.out rfl (by kernel_rfl) (aB rfl) ?_;intro wn hbox hg;have BT:=am hbox;have hbx:=pw_below_grown HBT.out _ HBT.out.size hg (fun z hz=>by cases hz;exact Nat.le_of_eq GBT.out.symm);clear BT0 HBT hbox hg;replace BP:=am (zb8 BP.out hbx);replace BS:=am (zb8 BS.out hbx);replace HB:=am (below_step HB.out hbx);clear hbx BPc BSc;have BPc:=zc8 BP.out;have BSc:=zc8 BS.out;have BTc:=zc8 BT.out))
 refine st9 (n:=33) (S:=fun W=>W.heap[gp]? = some (.cells #[.slice Ac p.cells.length cc,.slice (some ⟨bb,ob,none⟩) p.bodies.length cb] 48 (0,0))/\W.heap[gs]? = some (.cells #[.slice A0 s.cells.length c0,.slice (some ⟨b,o,none⟩) s.tasks.length c1,.int .i64 s.clock,.slice A3 s.log.length c3] 27 (0,0))/\W.heap[gt]? = some (.cells #[.int .i64 t.body,.int .i64 t.pc,.int .i64 t.up,.slice B3 t.regs.length d3,.int .i64 t.way,.int .i64 t.stage,.int .i64 t.at_,.int .i64 t.since,.slice B8 t.old.length d8,.slice B9 t.reads.length d9,.slice B10 t.puts.length d10,.int .i64 t.when_,.int .i64 t.from_] 38 (0,0))/\W.cell? ⟨bb,ob+kb,none⟩=some (.slice Aa na ca)) (ds:= []) (by kernel_rfl) rfl ⟨blk_drew BP.out,blk_drew BS.out,blk_drew BT.out,(show wn.cell? ⟨bb,ob+kb,none⟩=_ from cellB HB.out P2.out)⟩ (fun hHeld=> ?_);have hb:=below_drew (Below.refl wn.heap.size wn);generalize wn.drew=w7 at hb hHeld ⊢;have HB7:=am (below_step HB.out hb);clear hb HB BP BS BT BPc BSc BTc;refine ba9 (fuel:=27) (n:=6) [0,1,2,3,4,5] (by kernel_rfl) (fun N _ _ _ _ h=>by cases N <;> exact h) hHeld ?_
 iterate 6 (
  refine stillS_step (v:= ?_) (a':= ?_) rfl (Or.inl ⟨by rfl, ?_⟩) ?_ ?_;rotate_left
  ·rintro W ⟨s0,s1,s2,s3⟩
   have t0:=zc8 s0;have t1:=zc8 s1;have t2:=zc8 s2;clear s0 s1 s2;go_simp;with_reducible rfl
  rotate_left
  ·simp only [Act.put,sA,sZ,sS,i64_w]
   rfl)
 refine stillS_nil ?_;refine on9 (i:=6) (N:=some 20) rfl rfl (by kernel_rfl) (by decide) (fun K hK=> ?_);refine goes_ Try.func50 (by kernel_rfl) rfl #[.int .i64 t.body,.int .i64 0,.int .i64 (wrap64 ((p.bodies.length:Int) - 1))] (by rfl) rfl rfl (by (try simp only [List.map_toArray,List.map_cons,List.map_nil]);first | done | rfl) ?_;refine (l6In_calls t.body 0 (wrap64 ((p.bodies.length:Int) - 1)) _).mono ?_;rw [w5,H1.out];rintro e9 wn ⟨rfl,rfl⟩;refine ⟨_,rfl, ?_⟩;refine hK.out _ _ hHeld (fun hHeld=> ?_);clear hK K;refine norm_ (a':= ?_) ?_ ?_;rotate_left
 ·show Act.put _ (some 20) _=_
  simp only [Act.put,sA,sZ,sS,i64_w];rfl
 refine ba9 (fuel:=15) (n:=11) [7,8,9,10,11,12,13,14,15,16,17] (by kernel_rfl) (fun N _ _ _ _ h=>by cases N <;> exact h) hHeld ?_
 iterate 11 (
  refine stillS_step (v:= ?_) (a':= ?_) rfl (Or.inl ⟨by rfl, ?_⟩) ?_ ?_;rotate_left
  ·rintro W ⟨s0,s1,s2,s3⟩
   have t0:=zc8 s0;have t1:=zc8 s1;have t2:=zc8 s2;clear s0 s1 s2;go_simp;with_reducible rfl
  rotate_left
  ·simp only [Act.put,sA,sZ,sS,i64_w]
   rfl)
 refine stillS_nil ?_;refine on9 (i:=18) (N:=some 32) rfl rfl (by kernel_rfl) (by decide) (fun K hK=> ?_);refine goes_ Try.func50 (by kernel_rfl) rfl #[.int .i64 t.pc,.int .i64 0,.int .i64 (na:Int)] (by rfl) rfl rfl (by (try simp only [List.map_toArray,List.map_cons,List.map_nil]);first | done | rfl) ?_;refine (l6In_calls t.pc 0 (na:Int) _).mono ?_;rw [H2.out];rintro e9 wn ⟨rfl,rfl⟩;refine ⟨_,rfl, ?_⟩;refine hK.out _ _ hHeld (fun hHeld=> ?_);clear hK K;refine norm_ (a':= ?_) ?_ ?_;rotate_left
 ·show Act.put _ (some 32) _=_
  simp only [Act.put,sA,sZ,sS,i64_w];rfl
 refine ba9 (fuel:=9) (n:=5) [19,20,21,22,23] (by kernel_rfl) (fun N _ _ _ _ h=>by cases N <;> exact h) hHeld ?_
 iterate 5 (
  refine stillS_step (v:= ?_) (a':= ?_) rfl (Or.inl ⟨by rfl, ?_⟩) ?_ ?_;rotate_left
  ·rintro W ⟨s0,s1,s2,s3⟩
   have t0:=zc8 s0;have t1:=zc8 s1;have t2:=zc8 s2;clear s0 s1 s2;go_simp;with_reducible rfl
  rotate_left
  ·simp only [Act.put,sA,sZ,sS,i64_w]
   rfl)
 refine stillS_nil ?_;refine on9 (i:=24) (N:=some 38) rfl rfl (by kernel_rfl) (by decide) (fun K hK=> ?_);refine goes_ Try.func50 (by kernel_rfl) rfl #[.int .i64 t.way,.int .i64 0,.int .i64 4] (by rfl) rfl rfl (by (try simp only [List.map_toArray,List.map_cons,List.map_nil]);first | done | rfl) ?_;refine (l6In_calls t.way 0 4 _).mono ?_;rw [H3.out];rintro e9 wn ⟨rfl,rfl⟩;refine ⟨_,rfl, ?_⟩;refine hK.out _ _ hHeld (fun hHeld=> ?_);clear hK K;refine norm_ (a':= ?_) ?_ ?_;rotate_left
 ·show Act.put _ (some 38) _=_
  simp only [Act.put,sA,sZ,sS,i64_w];rfl
 refine ba9 (fuel:=3) (n:=5) [25,26,27,28,29] (by kernel_rfl) (fun N _ _ _ _ h=>by cases N <;> exact h) hHeld ?_
 iterate 5 (
  refine stillS_step (v:= ?_) (a':= ?_) rfl (Or.inl ⟨by rfl, ?_⟩) ?_ ?_;rotate_left
  ·rintro W ⟨s0,s1,s2,s3⟩
   have t0:=zc8 s0;have t1:=zc8 s1;have t2:=zc8 s2;clear s0 s1 s2;go_simp;with_reducible rfl
  rotate_left
  ·simp only [Act.put,sA,sZ,sS,i64_w]
   rfl)
 refine stillS_nil ?_;refine on9 (i:=30) (N:=some 44) rfl rfl (by kernel_rfl) (by decide) (fun K hK=> ?_);refine goes_ Try.func50 (by kernel_rfl) rfl #[.int .i64 t.stage,.int .i64 0,.int .i64 5] (by rfl) rfl rfl (by (try simp only [List.map_toArray,List.map_cons,List.map_nil]);first | done | rfl) ?_;refine (l6In_calls t.stage 0 5 _).mono ?_;rw [H4.out];rintro e9 wn ⟨rfl,rfl⟩;refine ⟨_,rfl, ?_⟩;refine hK.out _ _ hHeld (fun hHeld=> ?_);clear hK K;refine norm_ (a':= ?_) ?_ ?_;rotate_left
 ·show Act.put _ (some 44) _=_
  simp only [Act.put,sA,sZ,sS,i64_w];rfl
 refine ba9 (fuel:=0) (n:=2) [31,32] (by kernel_rfl) (fun N _ _ _ _ h=>by cases N <;> exact h) hHeld ?_
 iterate 2 (
  refine stillS_step (v:= ?_) (a':= ?_) rfl (Or.inl ⟨by rfl, ?_⟩) ?_ ?_;rotate_left
  ·rintro W ⟨s0,s1,s2,s3⟩
   have t0:=zc8 s0;have t1:=zc8 s1;have t2:=zc8 s2;clear s0 s1 s2;go_simp;with_reducible rfl
  rotate_left
  ·simp only [Act.put,sA,sZ,sS,i64_w]
   rfl)
 refine stillS_nil ?_;refine done_ (by kernel_rfl) ?_;have BP:=am hHeld.1;have BS:=am hHeld.2.1;have BT:=am hHeld.2.2.1;have HB:=HB7;clear hHeld HB7;have BPc:=zc8 BP.out;have BSc:=zc8 BS.out;have BTc:=zc8 BT.out;have stx:=SX0.out;clear SX0;have yst:(t.stage != 0)=false:=by simp [stx]
 have WS:Aside0 ((decide (t.way=0) || decide (t.stage=0))=true):=⟨by simp [stx]⟩;have SX:=am (decide_eq_true stx);clear stx
 cases bN3 with
 | false=>
  go_wp2_with (first
  |(go_at_call 91;refine (l2Nums_calls _ _ _ 3 _ (by first|exact Kd.C_below R3.out HB.out | exact Kd.C_below R8.out HB.out) (by first|exact HZ3.out | exact HZ8.out)).mono ?_;(first|rw [N3.out]);rintro e w9 ⟨rfl,rfl⟩))
  go_ret
  have hr:taskOk p s i=false:=by
   rw [HU.out,show inB t.body 0 ((p.bodies.length:Int) - 1)=true from H1.out,v4,<-HNA.out,show inB t.pc 0 (na:Int)=true from H2.out,show inB t.way 0 4=true from H3.out,show inB t.stage 0 5=true from H4.out,WS.out,N3.out];simp only [Bool.true_and,Bool.false_and,Bool.and_false,Bool.or_true,Bool.true_or,Bool.or_false,Bool.false_or,Bool.not_true,Bool.not_false,Bool.and_self,Bool.and_true,Bool.or_self]
  rw [hr]
  exact ⟨rfl,HB.out⟩
 | true=>
  cases bN8 with
  | false=>
   go_wp2_with (first
   |(go_at_call 91;refine (l2Nums_calls _ _ _ 3 _ (by first|exact Kd.C_below R3.out HB.out | exact Kd.C_below R8.out HB.out) (by first|exact HZ3.out | exact HZ8.out)).mono ?_;(first|rw [N3.out] | rw [N8.out]);rintro e w9 ⟨rfl,rfl⟩))
   go_ret
   have hr:taskOk p s i=false:=by
    rw [HU.out,show inB t.body 0 ((p.bodies.length:Int) - 1)=true from H1.out,v4,<-HNA.out,show inB t.pc 0 (na:Int)=true from H2.out,show inB t.way 0 4=true from H3.out,show inB t.stage 0 5=true from H4.out,WS.out,N3.out,N8.out];simp only [Bool.true_and,Bool.false_and,Bool.and_false,Bool.or_true,Bool.true_or,Bool.or_false,Bool.false_or,Bool.not_true,Bool.not_false,Bool.and_self,Bool.and_true,Bool.or_self]
   rw [hr]
   exact ⟨rfl,HB.out⟩
  | true=>
   cases bL9 with
   | false=>
    go_wp2_with (first
    |(go_at_call 91;refine (l2Nums_calls _ _ _ 3 _ (by first|exact Kd.C_below R3.out HB.out | exact Kd.C_below R8.out HB.out) (by first|exact HZ3.out | exact HZ8.out)).mono ?_;(first|rw [N3.out] | rw [N8.out]);rintro e w9 ⟨rfl,rfl⟩)
    |(go_at_call 92;refine (l12List_calls _ _ _ _ _ (by first|exact Kd.C_below R9.out HB.out | exact Kd.C_below R10.out HB.out) (by first|exact HZ9.out | exact HZ10.out) (by omega) (by omega)).mono ?_;(first|rw [L9.out]);rintro e w9 ⟨rfl,hb⟩;replace BP:=am (zb8 BP.out hb);replace BS:=am (zb8 BS.out hb);replace BT:=am (zb8 BT.out hb);replace HB:=am (below_step HB.out hb);clear hb BPc BSc BTc;have BPc:=zc8 BP.out;have BSc:=zc8 BS.out;have BTc:=zc8 BT.out))
    go_ret
    have hr:taskOk p s i=false:=by
     rw [HU.out,show inB t.body 0 ((p.bodies.length:Int) - 1)=true from H1.out,v4,<-HNA.out,show inB t.pc 0 (na:Int)=true from H2.out,show inB t.way 0 4=true from H3.out,show inB t.stage 0 5=true from H4.out,WS.out,N3.out,N8.out,L9.out];simp only [Bool.true_and,Bool.false_and,Bool.and_false,Bool.or_true,Bool.true_or,Bool.or_false,Bool.false_or,Bool.not_true,Bool.not_false,Bool.and_self,Bool.and_true,Bool.or_self]
    rw [hr]
    exact ⟨rfl,HB.out⟩
   | true=>
    cases bL10 with
    | false=>
     go_wp2_with (first
     |(go_at_call 91;refine (l2Nums_calls _ _ _ 3 _ (by first|exact Kd.C_below R3.out HB.out | exact Kd.C_below R8.out HB.out) (by first|exact HZ3.out | exact HZ8.out)).mono ?_;(first|rw [N3.out] | rw [N8.out]);rintro e w9 ⟨rfl,rfl⟩)
     |(go_at_call 92;refine (l12List_calls _ _ _ _ _ (by first|exact Kd.C_below R9.out HB.out | exact Kd.C_below R10.out HB.out) (by first|exact HZ9.out | exact HZ10.out) (by omega) (by omega)).mono ?_;(first|rw [L9.out] | rw [L10.out]);rintro e w9 ⟨rfl,hb⟩;replace BP:=am (zb8 BP.out hb);replace BS:=am (zb8 BS.out hb);replace BT:=am (zb8 BT.out hb);replace HB:=am (below_step HB.out hb);clear hb BPc BSc BTc;have BPc:=zc8 BP.out;have BSc:=zc8 BS.out;have BTc:=zc8 BT.out))
     go_ret
     have hr:taskOk p s i=false:=by
      rw [HU.out,show inB t.body 0 ((p.bodies.length:Int) - 1)=true from H1.out,v4,<-HNA.out,show inB t.pc 0 (na:Int)=true from H2.out,show inB t.way 0 4=true from H3.out,show inB t.stage 0 5=true from H4.out,WS.out,N3.out,N8.out,L9.out,L10.out];simp only [Bool.true_and,Bool.false_and,Bool.and_false,Bool.or_true,Bool.true_or,Bool.or_false,Bool.false_or,Bool.not_true,Bool.not_false,Bool.and_self,Bool.and_true,Bool.or_self]
     rw [hr]
     exact ⟨rfl,HB.out⟩
    | true=>
     by_cases atx:t.at_=0
     ·have yat:(t.at_ == 0)=true:=by simp [atx]
      have AT:=am (decide_eq_true atx);clear atx;have zz:wrap64 ((t.reads.length:Int)+(t.puts.length:Int))=(t.reads.length:Int)+(t.puts.length:Int):=by have:=HZ9.out;have:=HZ10.out;unfold wrap64;omega
      by_cases sux:t.reads.length+t.puts.length=0
      ·have ysu:((t.reads.length:Int)+(t.puts.length:Int) == 0)=true:=by simp;omega
       have SU:=am (decide_eq_true sux);clear sux
       cases bTM with
       | false=>
        go_wp2_with (first
        |(go_at_call 91;refine (l2Nums_calls _ _ _ 3 _ (by first|exact Kd.C_below R3.out HB.out | exact Kd.C_below R8.out HB.out) (by first|exact HZ3.out | exact HZ8.out)).mono ?_;(first|rw [N3.out] | rw [N8.out]);rintro e w9 ⟨rfl,rfl⟩)
        |(go_at_call 92;refine (l12List_calls _ _ _ _ _ (by first|exact Kd.C_below R9.out HB.out | exact Kd.C_below R10.out HB.out) (by first|exact HZ9.out | exact HZ10.out) (by omega) (by omega)).mono ?_;(first|rw [L9.out] | rw [L10.out]);rintro e w9 ⟨rfl,hb⟩;replace BP:=am (zb8 BP.out hb);replace BS:=am (zb8 BS.out hb);replace BT:=am (zb8 BT.out hb);replace HB:=am (below_step HB.out hb);clear hb BPc BSc BTc;have BPc:=zc8 BP.out;have BSc:=zc8 BS.out;have BTc:=zc8 BT.out)
        |((with_reducible refine gate_dst (N:=105) rfl ?_);refine wpList_load_mid rfl 38 (.tmp 7) rfl gt 0 rfl _ _ (lC BT.out) Try.underlying38 rfl (by kernel_rfl) ?_)
        |((with_reducible refine gate_dst (N:=106) rfl ?_);refine wpList_load_mid rfl 27 (.tmp 4) rfl gs 0 rfl _ _ (lC BS.out) Try.underlying27 rfl (by kernel_rfl) ?_)
        |((with_reducible refine gate_dst (N:=110) rfl ?_);refine wpList_load_mid rfl 27 (.tmp 4) rfl gs 0 rfl _ _ (lC BS.out) Try.underlying27 rfl (by kernel_rfl) ?_)
        |((with_reducible refine gate_dst (N:=115) rfl ?_);refine wpList_load_mid rfl 48 (.tmp 3) rfl gp 0 rfl _ _ (lC BP.out) Try.underlying48 rfl (by kernel_rfl) ?_)
        |((with_reducible refine gate_dst (N:=116) rfl ?_);refine wpList_load_mid rfl 27 (.tmp 4) rfl gs 0 rfl _ _ (lC BS.out) Try.underlying27 rfl (by kernel_rfl) ?_)
        |(go_at_call 93;refine (l12Times_calls t s _ _ _ (kTask.K_below HB.out HKT.out) (kSys.K_below HB.out HSK.out) hc0 hc1 hl).mono ?_;rw [TM.out];rintro e w9 ⟨rfl,hb⟩;replace BP:=am (zb8 BP.out hb);replace BS:=am (zb8 BS.out hb);replace BT:=am (zb8 BT.out hb);replace HB:=am (below_step HB.out hb);clear hb BPc BSc BTc;have BPc:=zc8 BP.out;have BSc:=zc8 BS.out;have BTc:=zc8 BT.out))
        go_ret
        have hr:taskOk p s i=false:=by
         rw [HU.out,show inB t.body 0 ((p.bodies.length:Int) - 1)=true from H1.out,v4,<-HNA.out,show inB t.pc 0 (na:Int)=true from H2.out,show inB t.way 0 4=true from H3.out,show inB t.stage 0 5=true from H4.out,WS.out,N3.out,N8.out,L9.out,L10.out,SX.out,AT.out,SU.out,TM.out];simp only [Bool.true_and,Bool.false_and,Bool.and_false,Bool.or_true,Bool.true_or,Bool.or_false,Bool.false_or,Bool.not_true,Bool.not_false,Bool.and_self,Bool.and_true,Bool.or_self]
        rw [hr]
        exact ⟨rfl,HB.out⟩
       | true=>
        cases bUP with
        | false=>
         go_wp2_with (first
         |(go_at_call 91;refine (l2Nums_calls _ _ _ 3 _ (by first|exact Kd.C_below R3.out HB.out | exact Kd.C_below R8.out HB.out) (by first|exact HZ3.out | exact HZ8.out)).mono ?_;(first|rw [N3.out] | rw [N8.out]);rintro e w9 ⟨rfl,rfl⟩)
         |(go_at_call 92;refine (l12List_calls _ _ _ _ _ (by first|exact Kd.C_below R9.out HB.out | exact Kd.C_below R10.out HB.out) (by first|exact HZ9.out | exact HZ10.out) (by omega) (by omega)).mono ?_;(first|rw [L9.out] | rw [L10.out]);rintro e w9 ⟨rfl,hb⟩;replace BP:=am (zb8 BP.out hb);replace BS:=am (zb8 BS.out hb);replace BT:=am (zb8 BT.out hb);replace HB:=am (below_step HB.out hb);clear hb BPc BSc BTc;have BPc:=zc8 BP.out;have BSc:=zc8 BS.out;have BTc:=zc8 BT.out)
         |((with_reducible refine gate_dst (N:=105) rfl ?_);refine wpList_load_mid rfl 38 (.tmp 7) rfl gt 0 rfl _ _ (lC BT.out) Try.underlying38 rfl (by kernel_rfl) ?_)
         |((with_reducible refine gate_dst (N:=106) rfl ?_);refine wpList_load_mid rfl 27 (.tmp 4) rfl gs 0 rfl _ _ (lC BS.out) Try.underlying27 rfl (by kernel_rfl) ?_)
         |((with_reducible refine gate_dst (N:=110) rfl ?_);refine wpList_load_mid rfl 27 (.tmp 4) rfl gs 0 rfl _ _ (lC BS.out) Try.underlying27 rfl (by kernel_rfl) ?_)
         |((with_reducible refine gate_dst (N:=115) rfl ?_);refine wpList_load_mid rfl 48 (.tmp 3) rfl gp 0 rfl _ _ (lC BP.out) Try.underlying48 rfl (by kernel_rfl) ?_)
         |((with_reducible refine gate_dst (N:=116) rfl ?_);refine wpList_load_mid rfl 27 (.tmp 4) rfl gs 0 rfl _ _ (lC BS.out) Try.underlying27 rfl (by kernel_rfl) ?_)
         |(go_at_call 93;refine (l12Times_calls t s _ _ _ (kTask.K_below HB.out HKT.out) (kSys.K_below HB.out HSK.out) hc0 hc1 hl).mono ?_;rw [TM.out];rintro e w9 ⟨rfl,hb⟩;replace BP:=am (zb8 BP.out hb);replace BS:=am (zb8 BS.out hb);replace BT:=am (zb8 BT.out hb);replace HB:=am (below_step HB.out hb);clear hb BPc BSc BTc;have BPc:=zc8 BP.out;have BSc:=zc8 BS.out;have BTc:=zc8 BT.out)
         |(go_at_call 94;refine (l12Up_calls s _ i _ (kSys.K_below HB.out HSK.out) hi hn).mono ?_;rw [UP.out];rintro e w9 ⟨rfl,hb⟩;replace BP:=am (zb8 BP.out hb);replace BS:=am (zb8 BS.out hb);replace BT:=am (zb8 BT.out hb);replace HB:=am (below_step HB.out hb);clear hb BPc BSc BTc;have BPc:=zc8 BP.out;have BSc:=zc8 BS.out;have BTc:=zc8 BT.out))
         go_ret
         have hr:taskOk p s i=false:=by
          rw [HU.out,show inB t.body 0 ((p.bodies.length:Int) - 1)=true from H1.out,v4,<-HNA.out,show inB t.pc 0 (na:Int)=true from H2.out,show inB t.way 0 4=true from H3.out,show inB t.stage 0 5=true from H4.out,WS.out,N3.out,N8.out,L9.out,L10.out,SX.out,AT.out,SU.out,TM.out,UP.out];simp only [Bool.true_and,Bool.false_and,Bool.and_false,Bool.or_true,Bool.true_or,Bool.or_false,Bool.false_or,Bool.not_true,Bool.not_false,Bool.and_self,Bool.and_true,Bool.or_self]
         rw [hr]
         exact ⟨rfl,HB.out⟩
        | true=>
         go_wp2_with (first
         |(go_at_call 91;refine (l2Nums_calls _ _ _ 3 _ (by first|exact Kd.C_below R3.out HB.out | exact Kd.C_below R8.out HB.out) (by first|exact HZ3.out | exact HZ8.out)).mono ?_;(first|rw [N3.out] | rw [N8.out]);rintro e w9 ⟨rfl,rfl⟩)
         |(go_at_call 92;refine (l12List_calls _ _ _ _ _ (by first|exact Kd.C_below R9.out HB.out | exact Kd.C_below R10.out HB.out) (by first|exact HZ9.out | exact HZ10.out) (by omega) (by omega)).mono ?_;(first|rw [L9.out] | rw [L10.out]);rintro e w9 ⟨rfl,hb⟩;replace BP:=am (zb8 BP.out hb);replace BS:=am (zb8 BS.out hb);replace BT:=am (zb8 BT.out hb);replace HB:=am (below_step HB.out hb);clear hb BPc BSc BTc;have BPc:=zc8 BP.out;have BSc:=zc8 BS.out;have BTc:=zc8 BT.out)
         |((with_reducible refine gate_dst (N:=105) rfl ?_);refine wpList_load_mid rfl 38 (.tmp 7) rfl gt 0 rfl _ _ (lC BT.out) Try.underlying38 rfl (by kernel_rfl) ?_)
         |((with_reducible refine gate_dst (N:=106) rfl ?_);refine wpList_load_mid rfl 27 (.tmp 4) rfl gs 0 rfl _ _ (lC BS.out) Try.underlying27 rfl (by kernel_rfl) ?_)
         |((with_reducible refine gate_dst (N:=110) rfl ?_);refine wpList_load_mid rfl 27 (.tmp 4) rfl gs 0 rfl _ _ (lC BS.out) Try.underlying27 rfl (by kernel_rfl) ?_)
         |((with_reducible refine gate_dst (N:=115) rfl ?_);refine wpList_load_mid rfl 48 (.tmp 3) rfl gp 0 rfl _ _ (lC BP.out) Try.underlying48 rfl (by kernel_rfl) ?_)
         |((with_reducible refine gate_dst (N:=116) rfl ?_);refine wpList_load_mid rfl 27 (.tmp 4) rfl gs 0 rfl _ _ (lC BS.out) Try.underlying27 rfl (by kernel_rfl) ?_)
         |(go_at_call 93;refine (l12Times_calls t s _ _ _ (kTask.K_below HB.out HKT.out) (kSys.K_below HB.out HSK.out) hc0 hc1 hl).mono ?_;rw [TM.out];rintro e w9 ⟨rfl,hb⟩;replace BP:=am (zb8 BP.out hb);replace BS:=am (zb8 BS.out hb);replace BT:=am (zb8 BT.out hb);replace HB:=am (below_step HB.out hb);clear hb BPc BSc BTc;have BPc:=zc8 BP.out;have BSc:=zc8 BS.out;have BTc:=zc8 BT.out)
         |(go_at_call 94;refine (l12Up_calls s _ i _ (kSys.K_below HB.out HSK.out) hi hn).mono ?_;rw [UP.out];rintro e w9 ⟨rfl,hb⟩;replace BP:=am (zb8 BP.out hb);replace BS:=am (zb8 BS.out hb);replace BT:=am (zb8 BT.out hb);replace HB:=am (below_step HB.out hb);clear hb BPc BSc BTc;have BPc:=zc8 BP.out;have BSc:=zc8 BS.out;have BTc:=zc8 BT.out)
         |(go_at_call 95;refine (l12Act_calls p _ s _ i _ (kProg.K_below HB.out HPK.out) (kSys.K_below HB.out HSK.out) HPZ.out hi hn (by rw [<-TX.out];exact hb0) (by rw [<-TX.out];exact hb1) (by rw [<-TX.out];exact hp0) (by rw [<-TX.out];exact HZ9.out) (by rw [<-TX.out];exact HZ10.out)).mono ?_;rw [AC.out];rintro e w9 ⟨rfl,hb⟩;replace BP:=am (zb8 BP.out hb);replace BS:=am (zb8 BS.out hb);replace BT:=am (zb8 BT.out hb);replace HB:=am (below_step HB.out hb);clear hb BPc BSc BTc;have BPc:=zc8 BP.out;have BSc:=zc8 BS.out;have BTc:=zc8 BT.out))
         go_ret
         have hr:taskOk p s i=bAC:=by
          rw [HU.out,show inB t.body 0 ((p.bodies.length:Int) - 1)=true from H1.out,v4,<-HNA.out,show inB t.pc 0 (na:Int)=true from H2.out,show inB t.way 0 4=true from H3.out,show inB t.stage 0 5=true from H4.out,WS.out,N3.out,N8.out,L9.out,L10.out,SX.out,AT.out,SU.out,TM.out,UP.out,AC.out];simp only [Bool.true_and,Bool.false_and,Bool.and_false,Bool.or_true,Bool.true_or,Bool.or_false,Bool.false_or,Bool.not_true,Bool.not_false,Bool.and_self,Bool.and_true,Bool.or_self]
         rw [hr];exact ⟨rfl,HB.out⟩
      ·have ysu:((t.reads.length:Int)+(t.puts.length:Int) == 0)=false:=by simp;omega
       have SU:=am (decide_eq_false sux);clear sux
       go_wp2_with (first
       |(go_at_call 91;refine (l2Nums_calls _ _ _ 3 _ (by first|exact Kd.C_below R3.out HB.out | exact Kd.C_below R8.out HB.out) (by first|exact HZ3.out | exact HZ8.out)).mono ?_;(first|rw [N3.out] | rw [N8.out]);rintro e w9 ⟨rfl,rfl⟩)
       |(go_at_call 92;refine (l12List_calls _ _ _ _ _ (by first|exact Kd.C_below R9.out HB.out | exact Kd.C_below R10.out HB.out) (by first|exact HZ9.out | exact HZ10.out) (by omega) (by omega)).mono ?_;(first|rw [L9.out] | rw [L10.out]);rintro e w9 ⟨rfl,hb⟩;replace BP:=am (zb8 BP.out hb);replace BS:=am (zb8 BS.out hb);replace BT:=am (zb8 BT.out hb);replace HB:=am (below_step HB.out hb);clear hb BPc BSc BTc;have BPc:=zc8 BP.out;have BSc:=zc8 BS.out;have BTc:=zc8 BT.out))
       go_ret
       have hr:taskOk p s i=false:=by
        rw [HU.out,show inB t.body 0 ((p.bodies.length:Int) - 1)=true from H1.out,v4,<-HNA.out,show inB t.pc 0 (na:Int)=true from H2.out,show inB t.way 0 4=true from H3.out,show inB t.stage 0 5=true from H4.out,WS.out,N3.out,N8.out,L9.out,L10.out,SX.out,AT.out,SU.out];simp only [Bool.true_and,Bool.false_and,Bool.and_false,Bool.or_true,Bool.true_or,Bool.or_false,Bool.false_or,Bool.not_true,Bool.not_false,Bool.and_self,Bool.and_true,Bool.or_self]
       rw [hr];exact ⟨rfl,HB.out⟩
     ·have yat:(t.at_ == 0)=false:=by simp [atx]
      have AT:=am (decide_eq_false atx);clear atx
      go_wp2_with (first
      |(go_at_call 91;refine (l2Nums_calls _ _ _ 3 _ (by first|exact Kd.C_below R3.out HB.out | exact Kd.C_below R8.out HB.out) (by first|exact HZ3.out | exact HZ8.out)).mono ?_;(first|rw [N3.out] | rw [N8.out]);rintro e w9 ⟨rfl,rfl⟩)
      |(go_at_call 92;refine (l12List_calls _ _ _ _ _ (by first|exact Kd.C_below R9.out HB.out | exact Kd.C_below R10.out HB.out) (by first|exact HZ9.out | exact HZ10.out) (by omega) (by omega)).mono ?_;(first|rw [L9.out] | rw [L10.out]);rintro e w9 ⟨rfl,hb⟩;replace BP:=am (zb8 BP.out hb);replace BS:=am (zb8 BS.out hb);replace BT:=am (zb8 BT.out hb);replace HB:=am (below_step HB.out hb);clear hb BPc BSc BTc;have BPc:=zc8 BP.out;have BSc:=zc8 BS.out;have BTc:=zc8 BT.out))
      go_ret
      have hr:taskOk p s i=false:=by
       rw [HU.out,show inB t.body 0 ((p.bodies.length:Int) - 1)=true from H1.out,v4,<-HNA.out,show inB t.pc 0 (na:Int)=true from H2.out,show inB t.way 0 4=true from H3.out,show inB t.stage 0 5=true from H4.out,WS.out,N3.out,N8.out,L9.out,L10.out,SX.out,AT.out];simp only [Bool.true_and,Bool.false_and,Bool.and_false,Bool.or_true,Bool.true_or,Bool.or_false,Bool.false_or,Bool.not_true,Bool.not_false,Bool.and_self,Bool.and_true,Bool.or_self]
      rw [hr];exact ⟨rfl,HB.out⟩
theorem l12Task_yn (p:Prog) (ps:List Value) (s:Sys) (ss:List Value) (i:Nat) (w:World) (hp:kProg.K w p ps) (hs:kSys.K w s ss) (hz:ProgSz p) (hi:i < s.tasks.length) (hn:s.tasks.length<=1048576) (hm:s.cells.length<=1048576) (hl:s.log.length<=1048576) (hc0:0<=s.clock) (hc1:s.clock<=200) (hsz:(taskAt s.tasks i).regs.length<=1048576/\(taskAt s.tasks i).old.length<=1048576/\(taskAt s.tasks i).reads.length<=1048576/\(taskAt s.tasks i).puts.length<=1048576) (hx:(inB (taskAt s.tasks i).body 0 ((p.bodies.length:Int) - 1) && inB (taskAt s.tasks i).pc 0 ((actsAt p.bodies (taskAt s.tasks i).body.toNat).length) && inB (taskAt s.tasks i).way 0 4 && inB (taskAt s.tasks i).stage 0 5)=true) (wayx:(taskAt s.tasks i).way=0) (stx:¬ (taskAt s.tasks i).stage=0):
  Calls Try.prog 57 #[.agg ps.toArray,.agg ss.toArray,.int .i64 i] w fun e w'=>e= .returned (.bool (taskOk p s i))/\Below w.heap.size w w':=by
 have HPK:=am hp;have HSK:=am hs;have HPZ:=am hz;obtain ⟨Ac,cc,Ab,cb,rfl,-,-,-,gb⟩:=kProg_open hp;obtain ⟨A0,c0,A1,c1,A3,c3,rfl,-,-,-,g1,-⟩:=kSys_open hs;have GB:=am gb;obtain ⟨b,o,cs,rfl,hcl,hK,hcc,-⟩:=C_field g1 zTask i hi (by decide);obtain ⟨t,ht⟩:∃ x,x=taskAt s.tasks i:=⟨_,rfl⟩;rw [<-ht] at hsz hx wayx stx;rw [show s.tasks.getD i zTask=t from ht.symm] at hK;have HKT0:=am hK;obtain ⟨B3,d3,B8,d8,B9,d9,B10,d10,rfl,-,g3,-,g8,-,g9,-,g10⟩:=kTask_open hK;have HKT:=HKT0;have HC:=am hcc;have R3:=am g3;have R8:=am g8;have R9:=am g9;have R10:=am g10;have HZ3:=am hsz.1;have HZ8:=am hsz.2.1;have HZ9:=am hsz.2.2.1;have HZ10:=am hsz.2.2.2;have TX:=am ht;have HU:Aside0 (taskOk p s i=(inB t.body 0 (p.bodies.length - 1) && inB t.pc 0 (actsAt p.bodies t.body.toNat).length && inB t.way 0 4 && inB t.stage 0 5 && (decide (t.way=0) || decide (t.stage=0)) && numsOk t.regs 3 && numsOk t.old 3 && listOk t.reads s.cells.length && listOk t.puts s.cells.length && (!decide (t.stage=0) || (decide (t.at_=0) && decide (t.reads.length+t.puts.length=0))) && timesOk t s && upsOk s i && wayOk p s i)):=⟨by rw [ht];rfl⟩;have q0:(0:Int)<=(i:Int):=by omega
 have q1:(i:Int) < (s.tasks.length:Int):=by omega
 have w5:wrap64 ((p.bodies.length:Int) - 1)=(p.bodies.length:Int) - 1:=by have:=hz.bodies;unfold wrap64;omega
 clear hp hs gb g1 g3 g8 g9 g10 hcl hK hcc ht HKT0 hz hsz;simp only [Bool.and_eq_true] at hx;have H1:Aside0 ((decide ((0:Int)<=t.body) && decide (t.body<=((p.bodies.length:Int) - 1)))=true):=⟨hx.1.1.1⟩;have H3:Aside0 ((decide ((0:Int)<=t.way) && decide (t.way<=4))=true):=⟨hx.1.2⟩;have H4:Aside0 ((decide ((0:Int)<=t.stage) && decide (t.stage<=5))=true):=⟨hx.2⟩;obtain ⟨bN3,hbN3⟩:∃ x,numsOk t.regs 3=x:=⟨_,rfl⟩;have N3:=am hbN3;clear hbN3;obtain ⟨bN8,hbN8⟩:∃ x,numsOk t.old 3=x:=⟨_,rfl⟩;have N8:=am hbN8;clear hbN8;obtain ⟨bL9,hbL9⟩:∃ x,listOk t.reads s.cells.length=x:=⟨_,rfl⟩;have L9:=am hbL9;clear hbL9;obtain ⟨bL10,hbL10⟩:∃ x,listOk t.puts s.cells.length=x:=⟨_,rfl⟩;have L10:=am hbL10;clear hbL10;obtain ⟨bTM,hbTM⟩:∃ x,timesOk t s=x:=⟨_,rfl⟩;have TM:=am hbTM;clear hbTM;obtain ⟨bUP,hbUP⟩:∃ x,upsOk s i=x:=⟨_,rfl⟩;have UP:=am hbUP;clear hbUP;obtain ⟨bAC,hbAC⟩:∃ x,wayOk p s i=x:=⟨_,rfl⟩;have AC:=am hbAC;clear hbAC;have hbb:=inB_iff.1 (show inB t.body 0 ((p.bodies.length:Int) - 1)=true from H1.out);have hb0:0<=t.body:=hbb.1;have hb1:t.body < p.bodies.length:=by omega
 clear hbb;obtain ⟨kb,hkb0⟩:=Int.eq_ofNat_of_zero_le hb0;have hkb:kb < p.bodies.length:=by omega
 have v4:t.body.toNat=kb:=by omega
 obtain ⟨bb,ob,cs2,rfl,hcl2,hK2,hcc2,-⟩:=C_field GB.out ([]:List Act) kb hkb (by decide);obtain ⟨Aa,ca,rfl,la,-⟩:=hK2;have p2:=hcc2 0 _ rfl;simp only [show (Kd.slice 108 kAct).sz=1 from rfl,Nat.mul_one,Nat.add_zero] at p2;rw [show (p.bodies.getD kb []).length=(actsAt p.bodies kb).length from rfl] at p2;have P2:=am p2;obtain ⟨na,hna⟩:∃ x,x=(actsAt p.bodies kb).length:=⟨_,rfl⟩;have hnl:na<=1048576:=by rw [hna,actsAt_eq hkb];exact (HPZ.out.acts _ (List.getElem_mem hkb)).1
 rw [<-hna] at P2;have HNA:=am hna;clear hcl2 hcc2 p2 la hna hkb0;have h2:inB t.pc 0 (na:Int)=true:=by rw [HNA.out,<-v4];exact hx.1.1.2
 have hp0:0<=t.pc:=(inB_iff.1 h2).1;have H2:Aside0 ((decide ((0:Int)<=t.pc) && decide (t.pc<=(na:Int)))=true):=⟨h2⟩;clear h2 hx;have yway:(t.way != 0)=false:=by simp [wayx]
 have WY:=am (decide_eq_true wayx);clear wayx;have SX0:=am stx;clear stx;go_enter Try.func57,Try.ntmps57
 go_wp2_with (first
 |((with_reducible refine gate_dst (N:=3) rfl ?_);refine box_event rfl (N:=3) rfl (t:=48) (by go_simp<;>rfl) ?_;intro gp hg w3 hbox hb;have BP:=am hbox;clear hbox hg;have HB2:=am hb;clear hb;have HB:=HB2;clear HB2;have BPc:=zc8 BP.out)
 |((with_reducible refine gate_dst (N:=4) rfl ?_);refine box_event rfl (N:=4) rfl (t:=27) (by go_simp<;>rfl) ?_;intro gs hg w4 hbox hb;have BS:=am hbox;clear hbox hg;replace BP:=am (zb8 BP.out hb);replace HB:=am (below_step HB.out hb);clear hb BPc;have BPc:=zc8 BP.out;have BSc:=zc8 BS.out)
 |((with_reducible refine gate_dst (N:=13) rfl ?_);refine wpList_load_mid rfl 38 (.tmp 12) rfl b (o+i*13) rfl _ _ (fun j u hu=>cellB HB.out (HC.out j u hu)) Try.underlying38 rfl (by kernel_rfl) ?_)|((with_reducible refine gate_dst (N:=7) rfl ?_);refine box_event rfl (N:=7) rfl (t:=38) (by go_simp<;>rfl) ?_;intro gt hg wt hbox hb;have BT0:=am hbox;have GBT:=am hg;have HBT:=am hb;clear hbox hb hg)|((with_reducible refine gate_store (t:=38) (p:=7) rfl ?_);refine store_block rfl rfl 38 (.tmp 7) (.tmp 13) rfl rfl rfl BT0.out rfl (by kernel_rfl) (aB rfl) ?_;intro wn hbox hg;have BT:=am hbox;have hbx:=pw_below_grown HBT.out _ HBT.out.size hg (fun z hz=>by cases hz;exact Nat.le_of_eq GBT.out.symm);clear BT0 HBT hbox hg;replace BP:=am (zb8 BP.out hbx);replace BS:=am (zb8 BS.out hbx);replace HB:=am (below_step HB.out hbx);clear hbx BPc BSc;have BPc:=zc8 BP.out;have BSc:=zc8 BS.out;have BTc:=zc8 BT.out))
 refine st9 (n:=33) (S:=fun W=>W.heap[gp]? = some (.cells #[.slice Ac p.cells.length cc,.slice (some ⟨bb,ob,none⟩) p.bodies.length cb] 48 (0,0))/\W.heap[gs]? = some (.cells #[.slice A0 s.cells.length c0,.slice (some ⟨b,o,none⟩) s.tasks.length c1,.int .i64 s.clock,.slice A3 s.log.length c3] 27 (0,0))/\W.heap[gt]? = some (.cells #[.int .i64 t.body,.int .i64 t.pc,.int .i64 t.up,.slice B3 t.regs.length d3,.int .i64 t.way,.int .i64 t.stage,.int .i64 t.at_,.int .i64 t.since,.slice B8 t.old.length d8,.slice B9 t.reads.length d9,.slice B10 t.puts.length d10,.int .i64 t.when_,.int .i64 t.from_] 38 (0,0))/\W.cell? ⟨bb,ob+kb,none⟩=some (.slice Aa na ca)) (ds:= []) (by kernel_rfl) rfl ⟨blk_drew BP.out,blk_drew BS.out,blk_drew BT.out,(show wn.cell? ⟨bb,ob+kb,none⟩=_ from cellB HB.out P2.out)⟩ (fun hHeld=> ?_);have hb:=below_drew (Below.refl wn.heap.size wn);generalize wn.drew=w7 at hb hHeld ⊢;have HB7:=am (below_step HB.out hb);clear hb HB BP BS BT BPc BSc BTc;refine ba9 (fuel:=27) (n:=6) [0,1,2,3,4,5] (by kernel_rfl) (fun N _ _ _ _ h=>by cases N <;> exact h) hHeld ?_
 iterate 6 (
  refine stillS_step (v:= ?_) (a':= ?_) rfl (Or.inl ⟨by rfl, ?_⟩) ?_ ?_;rotate_left
  ·rintro W ⟨s0,s1,s2,s3⟩
   have t0:=zc8 s0;have t1:=zc8 s1;have t2:=zc8 s2;clear s0 s1 s2;go_simp;with_reducible rfl
  rotate_left
  ·simp only [Act.put,sA,sZ,sS,i64_w]
   rfl)
 refine stillS_nil ?_;refine on9 (i:=6) (N:=some 20) rfl rfl (by kernel_rfl) (by decide) (fun K hK=> ?_);refine goes_ Try.func50 (by kernel_rfl) rfl #[.int .i64 t.body,.int .i64 0,.int .i64 (wrap64 ((p.bodies.length:Int) - 1))] (by rfl) rfl rfl (by (try simp only [List.map_toArray,List.map_cons,List.map_nil]);first | done | rfl) ?_;refine (l6In_calls t.body 0 (wrap64 ((p.bodies.length:Int) - 1)) _).mono ?_;rw [w5,H1.out];rintro e9 wn ⟨rfl,rfl⟩;refine ⟨_,rfl, ?_⟩;refine hK.out _ _ hHeld (fun hHeld=> ?_);clear hK K;refine norm_ (a':= ?_) ?_ ?_;rotate_left
 ·show Act.put _ (some 20) _=_
  simp only [Act.put,sA,sZ,sS,i64_w];rfl
 refine ba9 (fuel:=15) (n:=11) [7,8,9,10,11,12,13,14,15,16,17] (by kernel_rfl) (fun N _ _ _ _ h=>by cases N <;> exact h) hHeld ?_
 iterate 11 (
  refine stillS_step (v:= ?_) (a':= ?_) rfl (Or.inl ⟨by rfl, ?_⟩) ?_ ?_;rotate_left
  ·rintro W ⟨s0,s1,s2,s3⟩
   have t0:=zc8 s0;have t1:=zc8 s1;have t2:=zc8 s2;clear s0 s1 s2;go_simp;with_reducible rfl
  rotate_left
  ·simp only [Act.put,sA,sZ,sS,i64_w]
   rfl)
 refine stillS_nil ?_;refine on9 (i:=18) (N:=some 32) rfl rfl (by kernel_rfl) (by decide) (fun K hK=> ?_);refine goes_ Try.func50 (by kernel_rfl) rfl #[.int .i64 t.pc,.int .i64 0,.int .i64 (na:Int)] (by rfl) rfl rfl (by (try simp only [List.map_toArray,List.map_cons,List.map_nil]);first | done | rfl) ?_;refine (l6In_calls t.pc 0 (na:Int) _).mono ?_;rw [H2.out];rintro e9 wn ⟨rfl,rfl⟩;refine ⟨_,rfl, ?_⟩;refine hK.out _ _ hHeld (fun hHeld=> ?_);clear hK K;refine norm_ (a':= ?_) ?_ ?_;rotate_left
 ·show Act.put _ (some 32) _=_
  simp only [Act.put,sA,sZ,sS,i64_w];rfl
 refine ba9 (fuel:=9) (n:=5) [19,20,21,22,23] (by kernel_rfl) (fun N _ _ _ _ h=>by cases N <;> exact h) hHeld ?_
 iterate 5 (
  refine stillS_step (v:= ?_) (a':= ?_) rfl (Or.inl ⟨by rfl, ?_⟩) ?_ ?_;rotate_left
  ·rintro W ⟨s0,s1,s2,s3⟩
   have t0:=zc8 s0;have t1:=zc8 s1;have t2:=zc8 s2;clear s0 s1 s2;go_simp;with_reducible rfl
  rotate_left
  ·simp only [Act.put,sA,sZ,sS,i64_w]
   rfl)
 refine stillS_nil ?_;refine on9 (i:=24) (N:=some 38) rfl rfl (by kernel_rfl) (by decide) (fun K hK=> ?_);refine goes_ Try.func50 (by kernel_rfl) rfl #[.int .i64 t.way,.int .i64 0,.int .i64 4] (by rfl) rfl rfl (by (try simp only [List.map_toArray,List.map_cons,List.map_nil]);first | done | rfl) ?_;refine (l6In_calls t.way 0 4 _).mono ?_;rw [H3.out];rintro e9 wn ⟨rfl,rfl⟩;refine ⟨_,rfl, ?_⟩;refine hK.out _ _ hHeld (fun hHeld=> ?_);clear hK K;refine norm_ (a':= ?_) ?_ ?_;rotate_left
 ·show Act.put _ (some 38) _=_
  simp only [Act.put,sA,sZ,sS,i64_w];rfl
 refine ba9 (fuel:=3) (n:=5) [25,26,27,28,29] (by kernel_rfl) (fun N _ _ _ _ h=>by cases N <;> exact h) hHeld ?_
 iterate 5 (
  refine stillS_step (v:= ?_) (a':= ?_) rfl (Or.inl ⟨by rfl, ?_⟩) ?_ ?_;rotate_left
  ·rintro W ⟨s0,s1,s2,s3⟩
   have t0:=zc8 s0;have t1:=zc8 s1;have t2:=zc8 s2;clear s0 s1 s2;go_simp;with_reducible rfl
  rotate_left
  ·simp only [Act.put,sA,sZ,sS,i64_w]
   rfl)
 refine stillS_nil ?_;refine on9 (i:=30) (N:=some 44) rfl rfl (by kernel_rfl) (by decide) (fun K hK=> ?_);refine goes_ Try.func50 (by kernel_rfl) rfl #[.int .i64 t.stage,.int .i64 0,.int .i64 5] (by rfl) rfl rfl (by (try simp only [List.map_toArray,List.map_cons,List.map_nil]);first | done | rfl) ?_;refine (l6In_calls t.stage 0 5 _).mono ?_;rw [H4.out];rintro e9 wn ⟨rfl,rfl⟩;refine ⟨_,rfl, ?_⟩;refine hK.out _ _ hHeld (fun hHeld=> ?_);clear hK K;refine norm_ (a':= ?_) ?_ ?_;rotate_left
 ·show Act.put _ (some 44) _=_
  simp only [Act.put,sA,sZ,sS,i64_w];rfl
 refine ba9 (fuel:=0) (n:=2) [31,32] (by kernel_rfl) (fun N _ _ _ _ h=>by cases N <;> exact h) hHeld ?_
 iterate 2 (
  refine stillS_step (v:= ?_) (a':= ?_) rfl (Or.inl ⟨by rfl, ?_⟩) ?_ ?_;rotate_left
  ·rintro W ⟨s0,s1,s2,s3⟩
   have t0:=zc8 s0;have t1:=zc8 s1;have t2:=zc8 s2;clear s0 s1 s2;go_simp;with_reducible rfl
  rotate_left
  ·simp only [Act.put,sA,sZ,sS,i64_w]
   rfl)
 refine stillS_nil ?_;refine done_ (by kernel_rfl) ?_;have BP:=am hHeld.1;have BS:=am hHeld.2.1;have BT:=am hHeld.2.2.1;have HB:=HB7;clear hHeld HB7;have BPc:=zc8 BP.out;have BSc:=zc8 BS.out;have BTc:=zc8 BT.out;have stx:=SX0.out;clear SX0;have yst:(t.stage != 0)=true:=by simp [stx]
 have WS:Aside0 ((decide (t.way=0) || decide (t.stage=0))=true):=⟨by rw [WY.out];rfl⟩;have SX:=am (decide_eq_false stx);clear stx
 cases bN3 with
 | false=>
  go_wp2_with (first
  |(go_at_call 91;refine (l2Nums_calls _ _ _ 3 _ (by first|exact Kd.C_below R3.out HB.out | exact Kd.C_below R8.out HB.out) (by first|exact HZ3.out | exact HZ8.out)).mono ?_;(first|rw [N3.out]);rintro e w9 ⟨rfl,rfl⟩))
  go_ret
  have hr:taskOk p s i=false:=by
   rw [HU.out,show inB t.body 0 ((p.bodies.length:Int) - 1)=true from H1.out,v4,<-HNA.out,show inB t.pc 0 (na:Int)=true from H2.out,show inB t.way 0 4=true from H3.out,show inB t.stage 0 5=true from H4.out,WS.out,N3.out];simp only [Bool.true_and,Bool.false_and,Bool.and_false,Bool.or_true,Bool.true_or,Bool.or_false,Bool.false_or,Bool.not_true,Bool.not_false,Bool.and_self,Bool.and_true,Bool.or_self]
  rw [hr]
  exact ⟨rfl,HB.out⟩
 | true=>
  cases bN8 with
  | false=>
   go_wp2_with (first
   |(go_at_call 91;refine (l2Nums_calls _ _ _ 3 _ (by first|exact Kd.C_below R3.out HB.out | exact Kd.C_below R8.out HB.out) (by first|exact HZ3.out | exact HZ8.out)).mono ?_;(first|rw [N3.out] | rw [N8.out]);rintro e w9 ⟨rfl,rfl⟩))
   go_ret
   have hr:taskOk p s i=false:=by
    rw [HU.out,show inB t.body 0 ((p.bodies.length:Int) - 1)=true from H1.out,v4,<-HNA.out,show inB t.pc 0 (na:Int)=true from H2.out,show inB t.way 0 4=true from H3.out,show inB t.stage 0 5=true from H4.out,WS.out,N3.out,N8.out];simp only [Bool.true_and,Bool.false_and,Bool.and_false,Bool.or_true,Bool.true_or,Bool.or_false,Bool.false_or,Bool.not_true,Bool.not_false,Bool.and_self,Bool.and_true,Bool.or_self]
   rw [hr]
   exact ⟨rfl,HB.out⟩
  | true=>
   cases bL9 with
   | false=>
    go_wp2_with (first
    |(go_at_call 91;refine (l2Nums_calls _ _ _ 3 _ (by first|exact Kd.C_below R3.out HB.out | exact Kd.C_below R8.out HB.out) (by first|exact HZ3.out | exact HZ8.out)).mono ?_;(first|rw [N3.out] | rw [N8.out]);rintro e w9 ⟨rfl,rfl⟩)
    |(go_at_call 92;refine (l12List_calls _ _ _ _ _ (by first|exact Kd.C_below R9.out HB.out | exact Kd.C_below R10.out HB.out) (by first|exact HZ9.out | exact HZ10.out) (by omega) (by omega)).mono ?_;(first|rw [L9.out]);rintro e w9 ⟨rfl,hb⟩;replace BP:=am (zb8 BP.out hb);replace BS:=am (zb8 BS.out hb);replace BT:=am (zb8 BT.out hb);replace HB:=am (below_step HB.out hb);clear hb BPc BSc BTc;have BPc:=zc8 BP.out;have BSc:=zc8 BS.out;have BTc:=zc8 BT.out))
    go_ret
    have hr:taskOk p s i=false:=by
     rw [HU.out,show inB t.body 0 ((p.bodies.length:Int) - 1)=true from H1.out,v4,<-HNA.out,show inB t.pc 0 (na:Int)=true from H2.out,show inB t.way 0 4=true from H3.out,show inB t.stage 0 5=true from H4.out,WS.out,N3.out,N8.out,L9.out];simp only [Bool.true_and,Bool.false_and,Bool.and_false,Bool.or_true,Bool.true_or,Bool.or_false,Bool.false_or,Bool.not_true,Bool.not_false,Bool.and_self,Bool.and_true,Bool.or_self]
    rw [hr]
    exact ⟨rfl,HB.out⟩
   | true=>
    cases bL10 with
    | false=>
     go_wp2_with (first
     |(go_at_call 91;refine (l2Nums_calls _ _ _ 3 _ (by first|exact Kd.C_below R3.out HB.out | exact Kd.C_below R8.out HB.out) (by first|exact HZ3.out | exact HZ8.out)).mono ?_;(first|rw [N3.out] | rw [N8.out]);rintro e w9 ⟨rfl,rfl⟩)
     |(go_at_call 92;refine (l12List_calls _ _ _ _ _ (by first|exact Kd.C_below R9.out HB.out | exact Kd.C_below R10.out HB.out) (by first|exact HZ9.out | exact HZ10.out) (by omega) (by omega)).mono ?_;(first|rw [L9.out] | rw [L10.out]);rintro e w9 ⟨rfl,hb⟩;replace BP:=am (zb8 BP.out hb);replace BS:=am (zb8 BS.out hb);replace BT:=am (zb8 BT.out hb);replace HB:=am (below_step HB.out hb);clear hb BPc BSc BTc;have BPc:=zc8 BP.out;have BSc:=zc8 BS.out;have BTc:=zc8 BT.out))
     go_ret
     have hr:taskOk p s i=false:=by
      rw [HU.out,show inB t.body 0 ((p.bodies.length:Int) - 1)=true from H1.out,v4,<-HNA.out,show inB t.pc 0 (na:Int)=true from H2.out,show inB t.way 0 4=true from H3.out,show inB t.stage 0 5=true from H4.out,WS.out,N3.out,N8.out,L9.out,L10.out];simp only [Bool.true_and,Bool.false_and,Bool.and_false,Bool.or_true,Bool.true_or,Bool.or_false,Bool.false_or,Bool.not_true,Bool.not_false,Bool.and_self,Bool.and_true,Bool.or_self]
     rw [hr]
     exact ⟨rfl,HB.out⟩
    | true=>
     cases bTM with
     | false=>
      go_wp2_with (first
      |(go_at_call 91;refine (l2Nums_calls _ _ _ 3 _ (by first|exact Kd.C_below R3.out HB.out | exact Kd.C_below R8.out HB.out) (by first|exact HZ3.out | exact HZ8.out)).mono ?_;(first|rw [N3.out] | rw [N8.out]);rintro e w9 ⟨rfl,rfl⟩)
      |(go_at_call 92;refine (l12List_calls _ _ _ _ _ (by first|exact Kd.C_below R9.out HB.out | exact Kd.C_below R10.out HB.out) (by first|exact HZ9.out | exact HZ10.out) (by omega) (by omega)).mono ?_;(first|rw [L9.out] | rw [L10.out]);rintro e w9 ⟨rfl,hb⟩;replace BP:=am (zb8 BP.out hb);replace BS:=am (zb8 BS.out hb);replace BT:=am (zb8 BT.out hb);replace HB:=am (below_step HB.out hb);clear hb BPc BSc BTc;have BPc:=zc8 BP.out;have BSc:=zc8 BS.out;have BTc:=zc8 BT.out)
      |((with_reducible refine gate_dst (N:=105) rfl ?_);refine wpList_load_mid rfl 38 (.tmp 7) rfl gt 0 rfl _ _ (lC BT.out) Try.underlying38 rfl (by kernel_rfl) ?_)
      |((with_reducible refine gate_dst (N:=106) rfl ?_);refine wpList_load_mid rfl 27 (.tmp 4) rfl gs 0 rfl _ _ (lC BS.out) Try.underlying27 rfl (by kernel_rfl) ?_)
      |((with_reducible refine gate_dst (N:=110) rfl ?_);refine wpList_load_mid rfl 27 (.tmp 4) rfl gs 0 rfl _ _ (lC BS.out) Try.underlying27 rfl (by kernel_rfl) ?_)
      |((with_reducible refine gate_dst (N:=115) rfl ?_);refine wpList_load_mid rfl 48 (.tmp 3) rfl gp 0 rfl _ _ (lC BP.out) Try.underlying48 rfl (by kernel_rfl) ?_)
      |((with_reducible refine gate_dst (N:=116) rfl ?_);refine wpList_load_mid rfl 27 (.tmp 4) rfl gs 0 rfl _ _ (lC BS.out) Try.underlying27 rfl (by kernel_rfl) ?_)
      |(go_at_call 93;refine (l12Times_calls t s _ _ _ (kTask.K_below HB.out HKT.out) (kSys.K_below HB.out HSK.out) hc0 hc1 hl).mono ?_;rw [TM.out];rintro e w9 ⟨rfl,hb⟩;replace BP:=am (zb8 BP.out hb);replace BS:=am (zb8 BS.out hb);replace BT:=am (zb8 BT.out hb);replace HB:=am (below_step HB.out hb);clear hb BPc BSc BTc;have BPc:=zc8 BP.out;have BSc:=zc8 BS.out;have BTc:=zc8 BT.out))
      go_ret
      have hr:taskOk p s i=false:=by
       rw [HU.out,show inB t.body 0 ((p.bodies.length:Int) - 1)=true from H1.out,v4,<-HNA.out,show inB t.pc 0 (na:Int)=true from H2.out,show inB t.way 0 4=true from H3.out,show inB t.stage 0 5=true from H4.out,WS.out,N3.out,N8.out,L9.out,L10.out,SX.out,TM.out];simp only [Bool.true_and,Bool.false_and,Bool.and_false,Bool.or_true,Bool.true_or,Bool.or_false,Bool.false_or,Bool.not_true,Bool.not_false,Bool.and_self,Bool.and_true,Bool.or_self]
      rw [hr]
      exact ⟨rfl,HB.out⟩
     | true=>
      cases bUP with
      | false=>
       go_wp2_with (first
       |(go_at_call 91;refine (l2Nums_calls _ _ _ 3 _ (by first|exact Kd.C_below R3.out HB.out | exact Kd.C_below R8.out HB.out) (by first|exact HZ3.out | exact HZ8.out)).mono ?_;(first|rw [N3.out] | rw [N8.out]);rintro e w9 ⟨rfl,rfl⟩)
       |(go_at_call 92;refine (l12List_calls _ _ _ _ _ (by first|exact Kd.C_below R9.out HB.out | exact Kd.C_below R10.out HB.out) (by first|exact HZ9.out | exact HZ10.out) (by omega) (by omega)).mono ?_;(first|rw [L9.out] | rw [L10.out]);rintro e w9 ⟨rfl,hb⟩;replace BP:=am (zb8 BP.out hb);replace BS:=am (zb8 BS.out hb);replace BT:=am (zb8 BT.out hb);replace HB:=am (below_step HB.out hb);clear hb BPc BSc BTc;have BPc:=zc8 BP.out;have BSc:=zc8 BS.out;have BTc:=zc8 BT.out)
       |((with_reducible refine gate_dst (N:=105) rfl ?_);refine wpList_load_mid rfl 38 (.tmp 7) rfl gt 0 rfl _ _ (lC BT.out) Try.underlying38 rfl (by kernel_rfl) ?_)
       |((with_reducible refine gate_dst (N:=106) rfl ?_);refine wpList_load_mid rfl 27 (.tmp 4) rfl gs 0 rfl _ _ (lC BS.out) Try.underlying27 rfl (by kernel_rfl) ?_)
       |((with_reducible refine gate_dst (N:=110) rfl ?_);refine wpList_load_mid rfl 27 (.tmp 4) rfl gs 0 rfl _ _ (lC BS.out) Try.underlying27 rfl (by kernel_rfl) ?_)
       |((with_reducible refine gate_dst (N:=115) rfl ?_);refine wpList_load_mid rfl 48 (.tmp 3) rfl gp 0 rfl _ _ (lC BP.out) Try.underlying48 rfl (by kernel_rfl) ?_)
       |((with_reducible refine gate_dst (N:=116) rfl ?_);refine wpList_load_mid rfl 27 (.tmp 4) rfl gs 0 rfl _ _ (lC BS.out) Try.underlying27 rfl (by kernel_rfl) ?_)
       |(go_at_call 93;refine (l12Times_calls t s _ _ _ (kTask.K_below HB.out HKT.out) (kSys.K_below HB.out HSK.out) hc0 hc1 hl).mono ?_;rw [TM.out];rintro e w9 ⟨rfl,hb⟩;replace BP:=am (zb8 BP.out hb);replace BS:=am (zb8 BS.out hb);replace BT:=am (zb8 BT.out hb);replace HB:=am (below_step HB.out hb);clear hb BPc BSc BTc;have BPc:=zc8 BP.out;have BSc:=zc8 BS.out;have BTc:=zc8 BT.out)
       |(go_at_call 94;refine (l12Up_calls s _ i _ (kSys.K_below HB.out HSK.out) hi hn).mono ?_;rw [UP.out];rintro e w9 ⟨rfl,hb⟩;replace BP:=am (zb8 BP.out hb);replace BS:=am (zb8 BS.out hb);replace BT:=am (zb8 BT.out hb);replace HB:=am (below_step HB.out hb);clear hb BPc BSc BTc;have BPc:=zc8 BP.out;have BSc:=zc8 BS.out;have BTc:=zc8 BT.out))
       go_ret
       have hr:taskOk p s i=false:=by
        rw [HU.out,show inB t.body 0 ((p.bodies.length:Int) - 1)=true from H1.out,v4,<-HNA.out,show inB t.pc 0 (na:Int)=true from H2.out,show inB t.way 0 4=true from H3.out,show inB t.stage 0 5=true from H4.out,WS.out,N3.out,N8.out,L9.out,L10.out,SX.out,TM.out,UP.out];simp only [Bool.true_and,Bool.false_and,Bool.and_false,Bool.or_true,Bool.true_or,Bool.or_false,Bool.false_or,Bool.not_true,Bool.not_false,Bool.and_self,Bool.and_true,Bool.or_self]
       rw [hr]
       exact ⟨rfl,HB.out⟩
      | true=>
       go_wp2_with (first
       |(go_at_call 91;refine (l2Nums_calls _ _ _ 3 _ (by first|exact Kd.C_below R3.out HB.out | exact Kd.C_below R8.out HB.out) (by first|exact HZ3.out | exact HZ8.out)).mono ?_;(first|rw [N3.out] | rw [N8.out]);rintro e w9 ⟨rfl,rfl⟩)
       |(go_at_call 92;refine (l12List_calls _ _ _ _ _ (by first|exact Kd.C_below R9.out HB.out | exact Kd.C_below R10.out HB.out) (by first|exact HZ9.out | exact HZ10.out) (by omega) (by omega)).mono ?_;(first|rw [L9.out] | rw [L10.out]);rintro e w9 ⟨rfl,hb⟩;replace BP:=am (zb8 BP.out hb);replace BS:=am (zb8 BS.out hb);replace BT:=am (zb8 BT.out hb);replace HB:=am (below_step HB.out hb);clear hb BPc BSc BTc;have BPc:=zc8 BP.out;have BSc:=zc8 BS.out;have BTc:=zc8 BT.out)
       |((with_reducible refine gate_dst (N:=105) rfl ?_);refine wpList_load_mid rfl 38 (.tmp 7) rfl gt 0 rfl _ _ (lC BT.out) Try.underlying38 rfl (by kernel_rfl) ?_)
       |((with_reducible refine gate_dst (N:=106) rfl ?_);refine wpList_load_mid rfl 27 (.tmp 4) rfl gs 0 rfl _ _ (lC BS.out) Try.underlying27 rfl (by kernel_rfl) ?_)
       |((with_reducible refine gate_dst (N:=110) rfl ?_);refine wpList_load_mid rfl 27 (.tmp 4) rfl gs 0 rfl _ _ (lC BS.out) Try.underlying27 rfl (by kernel_rfl) ?_)
       |((with_reducible refine gate_dst (N:=115) rfl ?_);refine wpList_load_mid rfl 48 (.tmp 3) rfl gp 0 rfl _ _ (lC BP.out) Try.underlying48 rfl (by kernel_rfl) ?_)
       |((with_reducible refine gate_dst (N:=116) rfl ?_);refine wpList_load_mid rfl 27 (.tmp 4) rfl gs 0 rfl _ _ (lC BS.out) Try.underlying27 rfl (by kernel_rfl) ?_)
       |(go_at_call 93;refine (l12Times_calls t s _ _ _ (kTask.K_below HB.out HKT.out) (kSys.K_below HB.out HSK.out) hc0 hc1 hl).mono ?_;rw [TM.out];rintro e w9 ⟨rfl,hb⟩;replace BP:=am (zb8 BP.out hb);replace BS:=am (zb8 BS.out hb);replace BT:=am (zb8 BT.out hb);replace HB:=am (below_step HB.out hb);clear hb BPc BSc BTc;have BPc:=zc8 BP.out;have BSc:=zc8 BS.out;have BTc:=zc8 BT.out)
       |(go_at_call 94;refine (l12Up_calls s _ i _ (kSys.K_below HB.out HSK.out) hi hn).mono ?_;rw [UP.out];rintro e w9 ⟨rfl,hb⟩;replace BP:=am (zb8 BP.out hb);replace BS:=am (zb8 BS.out hb);replace BT:=am (zb8 BT.out hb);replace HB:=am (below_step HB.out hb);clear hb BPc BSc BTc;have BPc:=zc8 BP.out;have BSc:=zc8 BS.out;have BTc:=zc8 BT.out)
       |(go_at_call 95;refine (l12Act_calls p _ s _ i _ (kProg.K_below HB.out HPK.out) (kSys.K_below HB.out HSK.out) HPZ.out hi hn (by rw [<-TX.out];exact hb0) (by rw [<-TX.out];exact hb1) (by rw [<-TX.out];exact hp0) (by rw [<-TX.out];exact HZ9.out) (by rw [<-TX.out];exact HZ10.out)).mono ?_;rw [AC.out];rintro e w9 ⟨rfl,hb⟩;replace BP:=am (zb8 BP.out hb);replace BS:=am (zb8 BS.out hb);replace BT:=am (zb8 BT.out hb);replace HB:=am (below_step HB.out hb);clear hb BPc BSc BTc;have BPc:=zc8 BP.out;have BSc:=zc8 BS.out;have BTc:=zc8 BT.out))
       go_ret
       have hr:taskOk p s i=bAC:=by
        rw [HU.out,show inB t.body 0 ((p.bodies.length:Int) - 1)=true from H1.out,v4,<-HNA.out,show inB t.pc 0 (na:Int)=true from H2.out,show inB t.way 0 4=true from H3.out,show inB t.stage 0 5=true from H4.out,WS.out,N3.out,N8.out,L9.out,L10.out,SX.out,TM.out,UP.out,AC.out];simp only [Bool.true_and,Bool.false_and,Bool.and_false,Bool.or_true,Bool.true_or,Bool.or_false,Bool.false_or,Bool.not_true,Bool.not_false,Bool.and_self,Bool.and_true,Bool.or_self]
       rw [hr];exact ⟨rfl,HB.out⟩
theorem l12Task_ny (p:Prog) (ps:List Value) (s:Sys) (ss:List Value) (i:Nat) (w:World) (hp:kProg.K w p ps) (hs:kSys.K w s ss) (hz:ProgSz p) (hi:i < s.tasks.length) (hn:s.tasks.length<=1048576) (hm:s.cells.length<=1048576) (hl:s.log.length<=1048576) (hc0:0<=s.clock) (hc1:s.clock<=200) (hsz:(taskAt s.tasks i).regs.length<=1048576/\(taskAt s.tasks i).old.length<=1048576/\(taskAt s.tasks i).reads.length<=1048576/\(taskAt s.tasks i).puts.length<=1048576) (hx:(inB (taskAt s.tasks i).body 0 ((p.bodies.length:Int) - 1) && inB (taskAt s.tasks i).pc 0 ((actsAt p.bodies (taskAt s.tasks i).body.toNat).length) && inB (taskAt s.tasks i).way 0 4 && inB (taskAt s.tasks i).stage 0 5)=true) (wayx:¬ (taskAt s.tasks i).way=0) (stx:(taskAt s.tasks i).stage=0):
  Calls Try.prog 57 #[.agg ps.toArray,.agg ss.toArray,.int .i64 i] w fun e w'=>e= .returned (.bool (taskOk p s i))/\Below w.heap.size w w':=by
 have HPK:=am hp;have HSK:=am hs;have HPZ:=am hz;obtain ⟨Ac,cc,Ab,cb,rfl,-,-,-,gb⟩:=kProg_open hp;obtain ⟨A0,c0,A1,c1,A3,c3,rfl,-,-,-,g1,-⟩:=kSys_open hs;have GB:=am gb;obtain ⟨b,o,cs,rfl,hcl,hK,hcc,-⟩:=C_field g1 zTask i hi (by decide);obtain ⟨t,ht⟩:∃ x,x=taskAt s.tasks i:=⟨_,rfl⟩;rw [<-ht] at hsz hx wayx stx;rw [show s.tasks.getD i zTask=t from ht.symm] at hK;have HKT0:=am hK;obtain ⟨B3,d3,B8,d8,B9,d9,B10,d10,rfl,-,g3,-,g8,-,g9,-,g10⟩:=kTask_open hK;have HKT:=HKT0;have HC:=am hcc;have R3:=am g3;have R8:=am g8;have R9:=am g9;have R10:=am g10;have HZ3:=am hsz.1;have HZ8:=am hsz.2.1;have HZ9:=am hsz.2.2.1;have HZ10:=am hsz.2.2.2;have TX:=am ht;have HU:Aside0 (taskOk p s i=(inB t.body 0 (p.bodies.length - 1) && inB t.pc 0 (actsAt p.bodies t.body.toNat).length && inB t.way 0 4 && inB t.stage 0 5 && (decide (t.way=0) || decide (t.stage=0)) && numsOk t.regs 3 && numsOk t.old 3 && listOk t.reads s.cells.length && listOk t.puts s.cells.length && (!decide (t.stage=0) || (decide (t.at_=0) && decide (t.reads.length+t.puts.length=0))) && timesOk t s && upsOk s i && wayOk p s i)):=⟨by rw [ht];rfl⟩;have q0:(0:Int)<=(i:Int):=by omega
 have q1:(i:Int) < (s.tasks.length:Int):=by omega
 have w5:wrap64 ((p.bodies.length:Int) - 1)=(p.bodies.length:Int) - 1:=by have:=hz.bodies;unfold wrap64;omega
 clear hp hs gb g1 g3 g8 g9 g10 hcl hK hcc ht HKT0 hz hsz;simp only [Bool.and_eq_true] at hx;have H1:Aside0 ((decide ((0:Int)<=t.body) && decide (t.body<=((p.bodies.length:Int) - 1)))=true):=⟨hx.1.1.1⟩;have H3:Aside0 ((decide ((0:Int)<=t.way) && decide (t.way<=4))=true):=⟨hx.1.2⟩;have H4:Aside0 ((decide ((0:Int)<=t.stage) && decide (t.stage<=5))=true):=⟨hx.2⟩;obtain ⟨bN3,hbN3⟩:∃ x,numsOk t.regs 3=x:=⟨_,rfl⟩;have N3:=am hbN3;clear hbN3;obtain ⟨bN8,hbN8⟩:∃ x,numsOk t.old 3=x:=⟨_,rfl⟩;have N8:=am hbN8;clear hbN8;obtain ⟨bL9,hbL9⟩:∃ x,listOk t.reads s.cells.length=x:=⟨_,rfl⟩;have L9:=am hbL9;clear hbL9;obtain ⟨bL10,hbL10⟩:∃ x,listOk t.puts s.cells.length=x:=⟨_,rfl⟩;have L10:=am hbL10;clear hbL10;obtain ⟨bTM,hbTM⟩:∃ x,timesOk t s=x:=⟨_,rfl⟩;have TM:=am hbTM;clear hbTM;obtain ⟨bUP,hbUP⟩:∃ x,upsOk s i=x:=⟨_,rfl⟩;have UP:=am hbUP;clear hbUP;obtain ⟨bAC,hbAC⟩:∃ x,wayOk p s i=x:=⟨_,rfl⟩;have AC:=am hbAC;clear hbAC;have hbb:=inB_iff.1 (show inB t.body 0 ((p.bodies.length:Int) - 1)=true from H1.out);have hb0:0<=t.body:=hbb.1;have hb1:t.body < p.bodies.length:=by omega
 clear hbb;obtain ⟨kb,hkb0⟩:=Int.eq_ofNat_of_zero_le hb0;have hkb:kb < p.bodies.length:=by omega
 have v4:t.body.toNat=kb:=by omega
 obtain ⟨bb,ob,cs2,rfl,hcl2,hK2,hcc2,-⟩:=C_field GB.out ([]:List Act) kb hkb (by decide);obtain ⟨Aa,ca,rfl,la,-⟩:=hK2;have p2:=hcc2 0 _ rfl;simp only [show (Kd.slice 108 kAct).sz=1 from rfl,Nat.mul_one,Nat.add_zero] at p2;rw [show (p.bodies.getD kb []).length=(actsAt p.bodies kb).length from rfl] at p2;have P2:=am p2;obtain ⟨na,hna⟩:∃ x,x=(actsAt p.bodies kb).length:=⟨_,rfl⟩;have hnl:na<=1048576:=by rw [hna,actsAt_eq hkb];exact (HPZ.out.acts _ (List.getElem_mem hkb)).1
 rw [<-hna] at P2;have HNA:=am hna;clear hcl2 hcc2 p2 la hna hkb0;have h2:inB t.pc 0 (na:Int)=true:=by rw [HNA.out,<-v4];exact hx.1.1.2
 have hp0:0<=t.pc:=(inB_iff.1 h2).1;have H2:Aside0 ((decide ((0:Int)<=t.pc) && decide (t.pc<=(na:Int)))=true):=⟨h2⟩;clear h2 hx;have yway:(t.way != 0)=true:=by simp [wayx]
 have WY:=am (decide_eq_false wayx);clear wayx;have SX0:=am stx;clear stx;go_enter Try.func57,Try.ntmps57
 go_wp2_with (first
 |((with_reducible refine gate_dst (N:=3) rfl ?_);refine box_event rfl (N:=3) rfl (t:=48) (by go_simp<;>rfl) ?_;intro gp hg w3 hbox hb;have BP:=am hbox;clear hbox hg;have HB2:=am hb;clear hb;have HB:=HB2;clear HB2;have BPc:=zc8 BP.out)
 |((with_reducible refine gate_dst (N:=4) rfl ?_);refine box_event rfl (N:=4) rfl (t:=27) (by go_simp<;>rfl) ?_;intro gs hg w4 hbox hb;have BS:=am hbox;clear hbox hg;replace BP:=am (zb8 BP.out hb);replace HB:=am (below_step HB.out hb);clear hb BPc;have BPc:=zc8 BP.out;have BSc:=zc8 BS.out)
 |((with_reducible refine gate_dst (N:=13) rfl ?_);refine wpList_load_mid rfl 38 (.tmp 12) rfl b (o+i*13) rfl _ _ (fun j u hu=>cellB HB.out (HC.out j u hu)) Try.underlying38 rfl (by kernel_rfl) ?_)|((with_reducible refine gate_dst (N:=7) rfl ?_);refine box_event rfl (N:=7) rfl (t:=38) (by go_simp<;>rfl) ?_;intro gt hg wt hbox hb;have BT0:=am hbox;have GBT:=am hg;have HBT:=am hb;clear hbox hb hg)|((with_reducible refine gate_store (t:=38) (p:=7) rfl ?_);refine store_block rfl rfl 38 (.tmp 7) (.tmp 13) rfl rfl rfl BT0.out rfl (by kernel_rfl) (aB rfl) ?_;intro wn hbox hg;have BT:=am hbox;have hbx:=pw_below_grown HBT.out _ HBT.out.size hg (fun z hz=>by cases hz;exact Nat.le_of_eq GBT.out.symm);clear BT0 HBT hbox hg;replace BP:=am (zb8 BP.out hbx);replace BS:=am (zb8 BS.out hbx);replace HB:=am (below_step HB.out hbx);clear hbx BPc BSc;have BPc:=zc8 BP.out;have BSc:=zc8 BS.out;have BTc:=zc8 BT.out))
 refine st9 (n:=33) (S:=fun W=>W.heap[gp]? = some (.cells #[.slice Ac p.cells.length cc,.slice (some ⟨bb,ob,none⟩) p.bodies.length cb] 48 (0,0))/\W.heap[gs]? = some (.cells #[.slice A0 s.cells.length c0,.slice (some ⟨b,o,none⟩) s.tasks.length c1,.int .i64 s.clock,.slice A3 s.log.length c3] 27 (0,0))/\W.heap[gt]? = some (.cells #[.int .i64 t.body,.int .i64 t.pc,.int .i64 t.up,.slice B3 t.regs.length d3,.int .i64 t.way,.int .i64 t.stage,.int .i64 t.at_,.int .i64 t.since,.slice B8 t.old.length d8,.slice B9 t.reads.length d9,.slice B10 t.puts.length d10,.int .i64 t.when_,.int .i64 t.from_] 38 (0,0))/\W.cell? ⟨bb,ob+kb,none⟩=some (.slice Aa na ca)) (ds:= []) (by kernel_rfl) rfl ⟨blk_drew BP.out,blk_drew BS.out,blk_drew BT.out,(show wn.cell? ⟨bb,ob+kb,none⟩=_ from cellB HB.out P2.out)⟩ (fun hHeld=> ?_);have hb:=below_drew (Below.refl wn.heap.size wn);generalize wn.drew=w7 at hb hHeld ⊢;have HB7:=am (below_step HB.out hb);clear hb HB BP BS BT BPc BSc BTc;refine ba9 (fuel:=27) (n:=6) [0,1,2,3,4,5] (by kernel_rfl) (fun N _ _ _ _ h=>by cases N <;> exact h) hHeld ?_
 iterate 6 (
  refine stillS_step (v:= ?_) (a':= ?_) rfl (Or.inl ⟨by rfl, ?_⟩) ?_ ?_;rotate_left
  ·rintro W ⟨s0,s1,s2,s3⟩
   have t0:=zc8 s0;have t1:=zc8 s1;have t2:=zc8 s2;clear s0 s1 s2;go_simp;with_reducible rfl
  rotate_left
  ·simp only [Act.put,sA,sZ,sS,i64_w]
   rfl)
 refine stillS_nil ?_;refine on9 (i:=6) (N:=some 20) rfl rfl (by kernel_rfl) (by decide) (fun K hK=> ?_);refine goes_ Try.func50 (by kernel_rfl) rfl #[.int .i64 t.body,.int .i64 0,.int .i64 (wrap64 ((p.bodies.length:Int) - 1))] (by rfl) rfl rfl (by (try simp only [List.map_toArray,List.map_cons,List.map_nil]);first | done | rfl) ?_;refine (l6In_calls t.body 0 (wrap64 ((p.bodies.length:Int) - 1)) _).mono ?_;rw [w5,H1.out];rintro e9 wn ⟨rfl,rfl⟩;refine ⟨_,rfl, ?_⟩;refine hK.out _ _ hHeld (fun hHeld=> ?_);clear hK K;refine norm_ (a':= ?_) ?_ ?_;rotate_left
 ·show Act.put _ (some 20) _=_
  simp only [Act.put,sA,sZ,sS,i64_w];rfl
 refine ba9 (fuel:=15) (n:=11) [7,8,9,10,11,12,13,14,15,16,17] (by kernel_rfl) (fun N _ _ _ _ h=>by cases N <;> exact h) hHeld ?_
 iterate 11 (
  refine stillS_step (v:= ?_) (a':= ?_) rfl (Or.inl ⟨by rfl, ?_⟩) ?_ ?_;rotate_left
  ·rintro W ⟨s0,s1,s2,s3⟩
   have t0:=zc8 s0;have t1:=zc8 s1;have t2:=zc8 s2;clear s0 s1 s2;go_simp;with_reducible rfl
  rotate_left
  ·simp only [Act.put,sA,sZ,sS,i64_w]
   rfl)
 refine stillS_nil ?_;refine on9 (i:=18) (N:=some 32) rfl rfl (by kernel_rfl) (by decide) (fun K hK=> ?_);refine goes_ Try.func50 (by kernel_rfl) rfl #[.int .i64 t.pc,.int .i64 0,.int .i64 (na:Int)] (by rfl) rfl rfl (by (try simp only [List.map_toArray,List.map_cons,List.map_nil]);first | done | rfl) ?_;refine (l6In_calls t.pc 0 (na:Int) _).mono ?_;rw [H2.out];rintro e9 wn ⟨rfl,rfl⟩;refine ⟨_,rfl, ?_⟩;refine hK.out _ _ hHeld (fun hHeld=> ?_);clear hK K;refine norm_ (a':= ?_) ?_ ?_;rotate_left
 ·show Act.put _ (some 32) _=_
  simp only [Act.put,sA,sZ,sS,i64_w];rfl
 refine ba9 (fuel:=9) (n:=5) [19,20,21,22,23] (by kernel_rfl) (fun N _ _ _ _ h=>by cases N <;> exact h) hHeld ?_
 iterate 5 (
  refine stillS_step (v:= ?_) (a':= ?_) rfl (Or.inl ⟨by rfl, ?_⟩) ?_ ?_;rotate_left
  ·rintro W ⟨s0,s1,s2,s3⟩
   have t0:=zc8 s0;have t1:=zc8 s1;have t2:=zc8 s2;clear s0 s1 s2;go_simp;with_reducible rfl
  rotate_left
  ·simp only [Act.put,sA,sZ,sS,i64_w]
   rfl)
 refine stillS_nil ?_;refine on9 (i:=24) (N:=some 38) rfl rfl (by kernel_rfl) (by decide) (fun K hK=> ?_);refine goes_ Try.func50 (by kernel_rfl) rfl #[.int .i64 t.way,.int .i64 0,.int .i64 4] (by rfl) rfl rfl (by (try simp only [List.map_toArray,List.map_cons,List.map_nil]);first | done | rfl) ?_;refine (l6In_calls t.way 0 4 _).mono ?_;rw [H3.out];rintro e9 wn ⟨rfl,rfl⟩;refine ⟨_,rfl, ?_⟩;refine hK.out _ _ hHeld (fun hHeld=> ?_);clear hK K;refine norm_ (a':= ?_) ?_ ?_;rotate_left
 ·show Act.put _ (some 38) _=_
  simp only [Act.put,sA,sZ,sS,i64_w];rfl
 refine ba9 (fuel:=3) (n:=5) [25,26,27,28,29] (by kernel_rfl) (fun N _ _ _ _ h=>by cases N <;> exact h) hHeld ?_
 iterate 5 (
  refine stillS_step (v:= ?_) (a':= ?_) rfl (Or.inl ⟨by rfl, ?_⟩) ?_ ?_;rotate_left
  ·rintro W ⟨s0,s1,s2,s3⟩
   have t0:=zc8 s0;have t1:=zc8 s1;have t2:=zc8 s2;clear s0 s1 s2;go_simp;with_reducible rfl
  rotate_left
  ·simp only [Act.put,sA,sZ,sS,i64_w]
   rfl)
 refine stillS_nil ?_;refine on9 (i:=30) (N:=some 44) rfl rfl (by kernel_rfl) (by decide) (fun K hK=> ?_);refine goes_ Try.func50 (by kernel_rfl) rfl #[.int .i64 t.stage,.int .i64 0,.int .i64 5] (by rfl) rfl rfl (by (try simp only [List.map_toArray,List.map_cons,List.map_nil]);first | done | rfl) ?_;refine (l6In_calls t.stage 0 5 _).mono ?_;rw [H4.out];rintro e9 wn ⟨rfl,rfl⟩;refine ⟨_,rfl, ?_⟩;refine hK.out _ _ hHeld (fun hHeld=> ?_);clear hK K;refine norm_ (a':= ?_) ?_ ?_;rotate_left
 ·show Act.put _ (some 44) _=_
  simp only [Act.put,sA,sZ,sS,i64_w];rfl
 refine ba9 (fuel:=0) (n:=2) [31,32] (by kernel_rfl) (fun N _ _ _ _ h=>by cases N <;> exact h) hHeld ?_
 iterate 2 (
  refine stillS_step (v:= ?_) (a':= ?_) rfl (Or.inl ⟨by rfl, ?_⟩) ?_ ?_;rotate_left
  ·rintro W ⟨s0,s1,s2,s3⟩
   have t0:=zc8 s0;have t1:=zc8 s1;have t2:=zc8 s2;clear s0 s1 s2;go_simp;with_reducible rfl
  rotate_left
  ·simp only [Act.put,sA,sZ,sS,i64_w]
   rfl)
 refine stillS_nil ?_;refine done_ (by kernel_rfl) ?_;have BP:=am hHeld.1;have BS:=am hHeld.2.1;have BT:=am hHeld.2.2.1;have HB:=HB7;clear hHeld HB7;have BPc:=zc8 BP.out;have BSc:=zc8 BS.out;have BTc:=zc8 BT.out;have stx:=SX0.out;clear SX0;have yst:(t.stage != 0)=false:=by simp [stx]
 have WS:Aside0 ((decide (t.way=0) || decide (t.stage=0))=true):=⟨by simp [stx]⟩;have SX:=am (decide_eq_true stx);clear stx
 cases bN3 with
 | false=>
  go_wp2_with (first
  |(go_at_call 91;refine (l2Nums_calls _ _ _ 3 _ (by first|exact Kd.C_below R3.out HB.out | exact Kd.C_below R8.out HB.out) (by first|exact HZ3.out | exact HZ8.out)).mono ?_;(first|rw [N3.out]);rintro e w9 ⟨rfl,rfl⟩))
  go_ret
  have hr:taskOk p s i=false:=by
   rw [HU.out,show inB t.body 0 ((p.bodies.length:Int) - 1)=true from H1.out,v4,<-HNA.out,show inB t.pc 0 (na:Int)=true from H2.out,show inB t.way 0 4=true from H3.out,show inB t.stage 0 5=true from H4.out,WS.out,N3.out];simp only [Bool.true_and,Bool.false_and,Bool.and_false,Bool.or_true,Bool.true_or,Bool.or_false,Bool.false_or,Bool.not_true,Bool.not_false,Bool.and_self,Bool.and_true,Bool.or_self]
  rw [hr]
  exact ⟨rfl,HB.out⟩
 | true=>
  cases bN8 with
  | false=>
   go_wp2_with (first
   |(go_at_call 91;refine (l2Nums_calls _ _ _ 3 _ (by first|exact Kd.C_below R3.out HB.out | exact Kd.C_below R8.out HB.out) (by first|exact HZ3.out | exact HZ8.out)).mono ?_;(first|rw [N3.out] | rw [N8.out]);rintro e w9 ⟨rfl,rfl⟩))
   go_ret
   have hr:taskOk p s i=false:=by
    rw [HU.out,show inB t.body 0 ((p.bodies.length:Int) - 1)=true from H1.out,v4,<-HNA.out,show inB t.pc 0 (na:Int)=true from H2.out,show inB t.way 0 4=true from H3.out,show inB t.stage 0 5=true from H4.out,WS.out,N3.out,N8.out];simp only [Bool.true_and,Bool.false_and,Bool.and_false,Bool.or_true,Bool.true_or,Bool.or_false,Bool.false_or,Bool.not_true,Bool.not_false,Bool.and_self,Bool.and_true,Bool.or_self]
   rw [hr]
   exact ⟨rfl,HB.out⟩
  | true=>
   cases bL9 with
   | false=>
    go_wp2_with (first
    |(go_at_call 91;refine (l2Nums_calls _ _ _ 3 _ (by first|exact Kd.C_below R3.out HB.out | exact Kd.C_below R8.out HB.out) (by first|exact HZ3.out | exact HZ8.out)).mono ?_;(first|rw [N3.out] | rw [N8.out]);rintro e w9 ⟨rfl,rfl⟩)
    |(go_at_call 92;refine (l12List_calls _ _ _ _ _ (by first|exact Kd.C_below R9.out HB.out | exact Kd.C_below R10.out HB.out) (by first|exact HZ9.out | exact HZ10.out) (by omega) (by omega)).mono ?_;(first|rw [L9.out]);rintro e w9 ⟨rfl,hb⟩;replace BP:=am (zb8 BP.out hb);replace BS:=am (zb8 BS.out hb);replace BT:=am (zb8 BT.out hb);replace HB:=am (below_step HB.out hb);clear hb BPc BSc BTc;have BPc:=zc8 BP.out;have BSc:=zc8 BS.out;have BTc:=zc8 BT.out))
    go_ret
    have hr:taskOk p s i=false:=by
     rw [HU.out,show inB t.body 0 ((p.bodies.length:Int) - 1)=true from H1.out,v4,<-HNA.out,show inB t.pc 0 (na:Int)=true from H2.out,show inB t.way 0 4=true from H3.out,show inB t.stage 0 5=true from H4.out,WS.out,N3.out,N8.out,L9.out];simp only [Bool.true_and,Bool.false_and,Bool.and_false,Bool.or_true,Bool.true_or,Bool.or_false,Bool.false_or,Bool.not_true,Bool.not_false,Bool.and_self,Bool.and_true,Bool.or_self]
    rw [hr]
    exact ⟨rfl,HB.out⟩
   | true=>
    cases bL10 with
    | false=>
     go_wp2_with (first
     |(go_at_call 91;refine (l2Nums_calls _ _ _ 3 _ (by first|exact Kd.C_below R3.out HB.out | exact Kd.C_below R8.out HB.out) (by first|exact HZ3.out | exact HZ8.out)).mono ?_;(first|rw [N3.out] | rw [N8.out]);rintro e w9 ⟨rfl,rfl⟩)
     |(go_at_call 92;refine (l12List_calls _ _ _ _ _ (by first|exact Kd.C_below R9.out HB.out | exact Kd.C_below R10.out HB.out) (by first|exact HZ9.out | exact HZ10.out) (by omega) (by omega)).mono ?_;(first|rw [L9.out] | rw [L10.out]);rintro e w9 ⟨rfl,hb⟩;replace BP:=am (zb8 BP.out hb);replace BS:=am (zb8 BS.out hb);replace BT:=am (zb8 BT.out hb);replace HB:=am (below_step HB.out hb);clear hb BPc BSc BTc;have BPc:=zc8 BP.out;have BSc:=zc8 BS.out;have BTc:=zc8 BT.out))
     go_ret
     have hr:taskOk p s i=false:=by
      rw [HU.out,show inB t.body 0 ((p.bodies.length:Int) - 1)=true from H1.out,v4,<-HNA.out,show inB t.pc 0 (na:Int)=true from H2.out,show inB t.way 0 4=true from H3.out,show inB t.stage 0 5=true from H4.out,WS.out,N3.out,N8.out,L9.out,L10.out];simp only [Bool.true_and,Bool.false_and,Bool.and_false,Bool.or_true,Bool.true_or,Bool.or_false,Bool.false_or,Bool.not_true,Bool.not_false,Bool.and_self,Bool.and_true,Bool.or_self]
     rw [hr]
     exact ⟨rfl,HB.out⟩
    | true=>
     by_cases atx:t.at_=0
     ·have yat:(t.at_ == 0)=true:=by simp [atx]
      have AT:=am (decide_eq_true atx);clear atx;have zz:wrap64 ((t.reads.length:Int)+(t.puts.length:Int))=(t.reads.length:Int)+(t.puts.length:Int):=by have:=HZ9.out;have:=HZ10.out;unfold wrap64;omega
      by_cases sux:t.reads.length+t.puts.length=0
      ·have ysu:((t.reads.length:Int)+(t.puts.length:Int) == 0)=true:=by simp;omega
       have SU:=am (decide_eq_true sux);clear sux
       cases bTM with
       | false=>
        go_wp2_with (first
        |(go_at_call 91;refine (l2Nums_calls _ _ _ 3 _ (by first|exact Kd.C_below R3.out HB.out | exact Kd.C_below R8.out HB.out) (by first|exact HZ3.out | exact HZ8.out)).mono ?_;(first|rw [N3.out] | rw [N8.out]);rintro e w9 ⟨rfl,rfl⟩)
        |(go_at_call 92;refine (l12List_calls _ _ _ _ _ (by first|exact Kd.C_below R9.out HB.out | exact Kd.C_below R10.out HB.out) (by first|exact HZ9.out | exact HZ10.out) (by omega) (by omega)).mono ?_;(first|rw [L9.out] | rw [L10.out]);rintro e w9 ⟨rfl,hb⟩;replace BP:=am (zb8 BP.out hb);replace BS:=am (zb8 BS.out hb);replace BT:=am (zb8 BT.out hb);replace HB:=am (below_step HB.out hb);clear hb BPc BSc BTc;have BPc:=zc8 BP.out;have BSc:=zc8 BS.out;have BTc:=zc8 BT.out)
        |((with_reducible refine gate_dst (N:=105) rfl ?_);refine wpList_load_mid rfl 38 (.tmp 7) rfl gt 0 rfl _ _ (lC BT.out) Try.underlying38 rfl (by kernel_rfl) ?_)
        |((with_reducible refine gate_dst (N:=106) rfl ?_);refine wpList_load_mid rfl 27 (.tmp 4) rfl gs 0 rfl _ _ (lC BS.out) Try.underlying27 rfl (by kernel_rfl) ?_)
        |((with_reducible refine gate_dst (N:=110) rfl ?_);refine wpList_load_mid rfl 27 (.tmp 4) rfl gs 0 rfl _ _ (lC BS.out) Try.underlying27 rfl (by kernel_rfl) ?_)
        |((with_reducible refine gate_dst (N:=115) rfl ?_);refine wpList_load_mid rfl 48 (.tmp 3) rfl gp 0 rfl _ _ (lC BP.out) Try.underlying48 rfl (by kernel_rfl) ?_)
        |((with_reducible refine gate_dst (N:=116) rfl ?_);refine wpList_load_mid rfl 27 (.tmp 4) rfl gs 0 rfl _ _ (lC BS.out) Try.underlying27 rfl (by kernel_rfl) ?_)
        |(go_at_call 93;refine (l12Times_calls t s _ _ _ (kTask.K_below HB.out HKT.out) (kSys.K_below HB.out HSK.out) hc0 hc1 hl).mono ?_;rw [TM.out];rintro e w9 ⟨rfl,hb⟩;replace BP:=am (zb8 BP.out hb);replace BS:=am (zb8 BS.out hb);replace BT:=am (zb8 BT.out hb);replace HB:=am (below_step HB.out hb);clear hb BPc BSc BTc;have BPc:=zc8 BP.out;have BSc:=zc8 BS.out;have BTc:=zc8 BT.out))
        go_ret
        have hr:taskOk p s i=false:=by
         rw [HU.out,show inB t.body 0 ((p.bodies.length:Int) - 1)=true from H1.out,v4,<-HNA.out,show inB t.pc 0 (na:Int)=true from H2.out,show inB t.way 0 4=true from H3.out,show inB t.stage 0 5=true from H4.out,WS.out,N3.out,N8.out,L9.out,L10.out,SX.out,AT.out,SU.out,TM.out];simp only [Bool.true_and,Bool.false_and,Bool.and_false,Bool.or_true,Bool.true_or,Bool.or_false,Bool.false_or,Bool.not_true,Bool.not_false,Bool.and_self,Bool.and_true,Bool.or_self]
        rw [hr]
        exact ⟨rfl,HB.out⟩
       | true=>
        cases bUP with
        | false=>
         go_wp2_with (first
         |(go_at_call 91;refine (l2Nums_calls _ _ _ 3 _ (by first|exact Kd.C_below R3.out HB.out | exact Kd.C_below R8.out HB.out) (by first|exact HZ3.out | exact HZ8.out)).mono ?_;(first|rw [N3.out] | rw [N8.out]);rintro e w9 ⟨rfl,rfl⟩)
         |(go_at_call 92;refine (l12List_calls _ _ _ _ _ (by first|exact Kd.C_below R9.out HB.out | exact Kd.C_below R10.out HB.out) (by first|exact HZ9.out | exact HZ10.out) (by omega) (by omega)).mono ?_;(first|rw [L9.out] | rw [L10.out]);rintro e w9 ⟨rfl,hb⟩;replace BP:=am (zb8 BP.out hb);replace BS:=am (zb8 BS.out hb);replace BT:=am (zb8 BT.out hb);replace HB:=am (below_step HB.out hb);clear hb BPc BSc BTc;have BPc:=zc8 BP.out;have BSc:=zc8 BS.out;have BTc:=zc8 BT.out)
         |((with_reducible refine gate_dst (N:=105) rfl ?_);refine wpList_load_mid rfl 38 (.tmp 7) rfl gt 0 rfl _ _ (lC BT.out) Try.underlying38 rfl (by kernel_rfl) ?_)
         |((with_reducible refine gate_dst (N:=106) rfl ?_);refine wpList_load_mid rfl 27 (.tmp 4) rfl gs 0 rfl _ _ (lC BS.out) Try.underlying27 rfl (by kernel_rfl) ?_)
         |((with_reducible refine gate_dst (N:=110) rfl ?_);refine wpList_load_mid rfl 27 (.tmp 4) rfl gs 0 rfl _ _ (lC BS.out) Try.underlying27 rfl (by kernel_rfl) ?_)
         |((with_reducible refine gate_dst (N:=115) rfl ?_);refine wpList_load_mid rfl 48 (.tmp 3) rfl gp 0 rfl _ _ (lC BP.out) Try.underlying48 rfl (by kernel_rfl) ?_)
         |((with_reducible refine gate_dst (N:=116) rfl ?_);refine wpList_load_mid rfl 27 (.tmp 4) rfl gs 0 rfl _ _ (lC BS.out) Try.underlying27 rfl (by kernel_rfl) ?_)
         |(go_at_call 93;refine (l12Times_calls t s _ _ _ (kTask.K_below HB.out HKT.out) (kSys.K_below HB.out HSK.out) hc0 hc1 hl).mono ?_;rw [TM.out];rintro e w9 ⟨rfl,hb⟩;replace BP:=am (zb8 BP.out hb);replace BS:=am (zb8 BS.out hb);replace BT:=am (zb8 BT.out hb);replace HB:=am (below_step HB.out hb);clear hb BPc BSc BTc;have BPc:=zc8 BP.out;have BSc:=zc8 BS.out;have BTc:=zc8 BT.out)
         |(go_at_call 94;refine (l12Up_calls s _ i _ (kSys.K_below HB.out HSK.out) hi hn).mono ?_;rw [UP.out];rintro e w9 ⟨rfl,hb⟩;replace BP:=am (zb8 BP.out hb);replace BS:=am (zb8 BS.out hb);replace BT:=am (zb8 BT.out hb);replace HB:=am (below_step HB.out hb);clear hb BPc BSc BTc;have BPc:=zc8 BP.out;have BSc:=zc8 BS.out;have BTc:=zc8 BT.out))
         go_ret
         have hr:taskOk p s i=false:=by
          rw [HU.out,show inB t.body 0 ((p.bodies.length:Int) - 1)=true from H1.out,v4,<-HNA.out,show inB t.pc 0 (na:Int)=true from H2.out,show inB t.way 0 4=true from H3.out,show inB t.stage 0 5=true from H4.out,WS.out,N3.out,N8.out,L9.out,L10.out,SX.out,AT.out,SU.out,TM.out,UP.out];simp only [Bool.true_and,Bool.false_and,Bool.and_false,Bool.or_true,Bool.true_or,Bool.or_false,Bool.false_or,Bool.not_true,Bool.not_false,Bool.and_self,Bool.and_true,Bool.or_self]
         rw [hr]
         exact ⟨rfl,HB.out⟩
        | true=>
         go_wp2_with (first
         |(go_at_call 91;refine (l2Nums_calls _ _ _ 3 _ (by first|exact Kd.C_below R3.out HB.out | exact Kd.C_below R8.out HB.out) (by first|exact HZ3.out | exact HZ8.out)).mono ?_;(first|rw [N3.out] | rw [N8.out]);rintro e w9 ⟨rfl,rfl⟩)
         |(go_at_call 92;refine (l12List_calls _ _ _ _ _ (by first|exact Kd.C_below R9.out HB.out | exact Kd.C_below R10.out HB.out) (by first|exact HZ9.out | exact HZ10.out) (by omega) (by omega)).mono ?_;(first|rw [L9.out] | rw [L10.out]);rintro e w9 ⟨rfl,hb⟩;replace BP:=am (zb8 BP.out hb);replace BS:=am (zb8 BS.out hb);replace BT:=am (zb8 BT.out hb);replace HB:=am (below_step HB.out hb);clear hb BPc BSc BTc;have BPc:=zc8 BP.out;have BSc:=zc8 BS.out;have BTc:=zc8 BT.out)
         |((with_reducible refine gate_dst (N:=105) rfl ?_);refine wpList_load_mid rfl 38 (.tmp 7) rfl gt 0 rfl _ _ (lC BT.out) Try.underlying38 rfl (by kernel_rfl) ?_)
         |((with_reducible refine gate_dst (N:=106) rfl ?_);refine wpList_load_mid rfl 27 (.tmp 4) rfl gs 0 rfl _ _ (lC BS.out) Try.underlying27 rfl (by kernel_rfl) ?_)
         |((with_reducible refine gate_dst (N:=110) rfl ?_);refine wpList_load_mid rfl 27 (.tmp 4) rfl gs 0 rfl _ _ (lC BS.out) Try.underlying27 rfl (by kernel_rfl) ?_)
         |((with_reducible refine gate_dst (N:=115) rfl ?_);refine wpList_load_mid rfl 48 (.tmp 3) rfl gp 0 rfl _ _ (lC BP.out) Try.underlying48 rfl (by kernel_rfl) ?_)
         |((with_reducible refine gate_dst (N:=116) rfl ?_);refine wpList_load_mid rfl 27 (.tmp 4) rfl gs 0 rfl _ _ (lC BS.out) Try.underlying27 rfl (by kernel_rfl) ?_)
         |(go_at_call 93;refine (l12Times_calls t s _ _ _ (kTask.K_below HB.out HKT.out) (kSys.K_below HB.out HSK.out) hc0 hc1 hl).mono ?_;rw [TM.out];rintro e w9 ⟨rfl,hb⟩;replace BP:=am (zb8 BP.out hb);replace BS:=am (zb8 BS.out hb);replace BT:=am (zb8 BT.out hb);replace HB:=am (below_step HB.out hb);clear hb BPc BSc BTc;have BPc:=zc8 BP.out;have BSc:=zc8 BS.out;have BTc:=zc8 BT.out)
         |(go_at_call 94;refine (l12Up_calls s _ i _ (kSys.K_below HB.out HSK.out) hi hn).mono ?_;rw [UP.out];rintro e w9 ⟨rfl,hb⟩;replace BP:=am (zb8 BP.out hb);replace BS:=am (zb8 BS.out hb);replace BT:=am (zb8 BT.out hb);replace HB:=am (below_step HB.out hb);clear hb BPc BSc BTc;have BPc:=zc8 BP.out;have BSc:=zc8 BS.out;have BTc:=zc8 BT.out)
         |(go_at_call 95;refine (l12Act_calls p _ s _ i _ (kProg.K_below HB.out HPK.out) (kSys.K_below HB.out HSK.out) HPZ.out hi hn (by rw [<-TX.out];exact hb0) (by rw [<-TX.out];exact hb1) (by rw [<-TX.out];exact hp0) (by rw [<-TX.out];exact HZ9.out) (by rw [<-TX.out];exact HZ10.out)).mono ?_;rw [AC.out];rintro e w9 ⟨rfl,hb⟩;replace BP:=am (zb8 BP.out hb);replace BS:=am (zb8 BS.out hb);replace BT:=am (zb8 BT.out hb);replace HB:=am (below_step HB.out hb);clear hb BPc BSc BTc;have BPc:=zc8 BP.out;have BSc:=zc8 BS.out;have BTc:=zc8 BT.out))
         go_ret
         have hr:taskOk p s i=bAC:=by
          rw [HU.out,show inB t.body 0 ((p.bodies.length:Int) - 1)=true from H1.out,v4,<-HNA.out,show inB t.pc 0 (na:Int)=true from H2.out,show inB t.way 0 4=true from H3.out,show inB t.stage 0 5=true from H4.out,WS.out,N3.out,N8.out,L9.out,L10.out,SX.out,AT.out,SU.out,TM.out,UP.out,AC.out];simp only [Bool.true_and,Bool.false_and,Bool.and_false,Bool.or_true,Bool.true_or,Bool.or_false,Bool.false_or,Bool.not_true,Bool.not_false,Bool.and_self,Bool.and_true,Bool.or_self]
         rw [hr];exact ⟨rfl,HB.out⟩
      ·have ysu:((t.reads.length:Int)+(t.puts.length:Int) == 0)=false:=by simp;omega
       have SU:=am (decide_eq_false sux);clear sux
       go_wp2_with (first
       |(go_at_call 91;refine (l2Nums_calls _ _ _ 3 _ (by first|exact Kd.C_below R3.out HB.out | exact Kd.C_below R8.out HB.out) (by first|exact HZ3.out | exact HZ8.out)).mono ?_;(first|rw [N3.out] | rw [N8.out]);rintro e w9 ⟨rfl,rfl⟩)
       |(go_at_call 92;refine (l12List_calls _ _ _ _ _ (by first|exact Kd.C_below R9.out HB.out | exact Kd.C_below R10.out HB.out) (by first|exact HZ9.out | exact HZ10.out) (by omega) (by omega)).mono ?_;(first|rw [L9.out] | rw [L10.out]);rintro e w9 ⟨rfl,hb⟩;replace BP:=am (zb8 BP.out hb);replace BS:=am (zb8 BS.out hb);replace BT:=am (zb8 BT.out hb);replace HB:=am (below_step HB.out hb);clear hb BPc BSc BTc;have BPc:=zc8 BP.out;have BSc:=zc8 BS.out;have BTc:=zc8 BT.out))
       go_ret
       have hr:taskOk p s i=false:=by
        rw [HU.out,show inB t.body 0 ((p.bodies.length:Int) - 1)=true from H1.out,v4,<-HNA.out,show inB t.pc 0 (na:Int)=true from H2.out,show inB t.way 0 4=true from H3.out,show inB t.stage 0 5=true from H4.out,WS.out,N3.out,N8.out,L9.out,L10.out,SX.out,AT.out,SU.out];simp only [Bool.true_and,Bool.false_and,Bool.and_false,Bool.or_true,Bool.true_or,Bool.or_false,Bool.false_or,Bool.not_true,Bool.not_false,Bool.and_self,Bool.and_true,Bool.or_self]
       rw [hr];exact ⟨rfl,HB.out⟩
     ·have yat:(t.at_ == 0)=false:=by simp [atx]
      have AT:=am (decide_eq_false atx);clear atx
      go_wp2_with (first
      |(go_at_call 91;refine (l2Nums_calls _ _ _ 3 _ (by first|exact Kd.C_below R3.out HB.out | exact Kd.C_below R8.out HB.out) (by first|exact HZ3.out | exact HZ8.out)).mono ?_;(first|rw [N3.out] | rw [N8.out]);rintro e w9 ⟨rfl,rfl⟩)
      |(go_at_call 92;refine (l12List_calls _ _ _ _ _ (by first|exact Kd.C_below R9.out HB.out | exact Kd.C_below R10.out HB.out) (by first|exact HZ9.out | exact HZ10.out) (by omega) (by omega)).mono ?_;(first|rw [L9.out] | rw [L10.out]);rintro e w9 ⟨rfl,hb⟩;replace BP:=am (zb8 BP.out hb);replace BS:=am (zb8 BS.out hb);replace BT:=am (zb8 BT.out hb);replace HB:=am (below_step HB.out hb);clear hb BPc BSc BTc;have BPc:=zc8 BP.out;have BSc:=zc8 BS.out;have BTc:=zc8 BT.out))
      go_ret
      have hr:taskOk p s i=false:=by
       rw [HU.out,show inB t.body 0 ((p.bodies.length:Int) - 1)=true from H1.out,v4,<-HNA.out,show inB t.pc 0 (na:Int)=true from H2.out,show inB t.way 0 4=true from H3.out,show inB t.stage 0 5=true from H4.out,WS.out,N3.out,N8.out,L9.out,L10.out,SX.out,AT.out];simp only [Bool.true_and,Bool.false_and,Bool.and_false,Bool.or_true,Bool.true_or,Bool.or_false,Bool.false_or,Bool.not_true,Bool.not_false,Bool.and_self,Bool.and_true,Bool.or_self]
      rw [hr];exact ⟨rfl,HB.out⟩
theorem l12Task_nn (p:Prog) (ps:List Value) (s:Sys) (ss:List Value) (i:Nat) (w:World) (hp:kProg.K w p ps) (hs:kSys.K w s ss) (hz:ProgSz p) (hi:i < s.tasks.length) (hn:s.tasks.length<=1048576) (hm:s.cells.length<=1048576) (hl:s.log.length<=1048576) (hc0:0<=s.clock) (hc1:s.clock<=200) (hsz:(taskAt s.tasks i).regs.length<=1048576/\(taskAt s.tasks i).old.length<=1048576/\(taskAt s.tasks i).reads.length<=1048576/\(taskAt s.tasks i).puts.length<=1048576) (hx:(inB (taskAt s.tasks i).body 0 ((p.bodies.length:Int) - 1) && inB (taskAt s.tasks i).pc 0 ((actsAt p.bodies (taskAt s.tasks i).body.toNat).length) && inB (taskAt s.tasks i).way 0 4 && inB (taskAt s.tasks i).stage 0 5)=true) (wayx:¬ (taskAt s.tasks i).way=0) (stx:¬ (taskAt s.tasks i).stage=0):
  Calls Try.prog 57 #[.agg ps.toArray,.agg ss.toArray,.int .i64 i] w fun e w'=>e= .returned (.bool (taskOk p s i))/\Below w.heap.size w w':=by
 have HPK:=am hp;have HSK:=am hs;have HPZ:=am hz;obtain ⟨Ac,cc,Ab,cb,rfl,-,-,-,gb⟩:=kProg_open hp;obtain ⟨A0,c0,A1,c1,A3,c3,rfl,-,-,-,g1,-⟩:=kSys_open hs;have GB:=am gb;obtain ⟨b,o,cs,rfl,hcl,hK,hcc,-⟩:=C_field g1 zTask i hi (by decide);obtain ⟨t,ht⟩:∃ x,x=taskAt s.tasks i:=⟨_,rfl⟩;rw [<-ht] at hsz hx wayx stx;rw [show s.tasks.getD i zTask=t from ht.symm] at hK;have HKT0:=am hK;obtain ⟨B3,d3,B8,d8,B9,d9,B10,d10,rfl,-,g3,-,g8,-,g9,-,g10⟩:=kTask_open hK;have HKT:=HKT0;have HC:=am hcc;have R3:=am g3;have R8:=am g8;have R9:=am g9;have R10:=am g10;have HZ3:=am hsz.1;have HZ8:=am hsz.2.1;have HZ9:=am hsz.2.2.1;have HZ10:=am hsz.2.2.2;have TX:=am ht;have HU:Aside0 (taskOk p s i=(inB t.body 0 (p.bodies.length - 1) && inB t.pc 0 (actsAt p.bodies t.body.toNat).length && inB t.way 0 4 && inB t.stage 0 5 && (decide (t.way=0) || decide (t.stage=0)) && numsOk t.regs 3 && numsOk t.old 3 && listOk t.reads s.cells.length && listOk t.puts s.cells.length && (!decide (t.stage=0) || (decide (t.at_=0) && decide (t.reads.length+t.puts.length=0))) && timesOk t s && upsOk s i && wayOk p s i)):=⟨by rw [ht];rfl⟩;have q0:(0:Int)<=(i:Int):=by omega
 have q1:(i:Int) < (s.tasks.length:Int):=by omega
 have w5:wrap64 ((p.bodies.length:Int) - 1)=(p.bodies.length:Int) - 1:=by have:=hz.bodies;unfold wrap64;omega
 clear hp hs gb g1 g3 g8 g9 g10 hcl hK hcc ht HKT0 hz hsz;simp only [Bool.and_eq_true] at hx;have H1:Aside0 ((decide ((0:Int)<=t.body) && decide (t.body<=((p.bodies.length:Int) - 1)))=true):=⟨hx.1.1.1⟩;have H3:Aside0 ((decide ((0:Int)<=t.way) && decide (t.way<=4))=true):=⟨hx.1.2⟩;have H4:Aside0 ((decide ((0:Int)<=t.stage) && decide (t.stage<=5))=true):=⟨hx.2⟩;obtain ⟨bN3,hbN3⟩:∃ x,numsOk t.regs 3=x:=⟨_,rfl⟩;have N3:=am hbN3;clear hbN3;obtain ⟨bN8,hbN8⟩:∃ x,numsOk t.old 3=x:=⟨_,rfl⟩;have N8:=am hbN8;clear hbN8;obtain ⟨bL9,hbL9⟩:∃ x,listOk t.reads s.cells.length=x:=⟨_,rfl⟩;have L9:=am hbL9;clear hbL9;obtain ⟨bL10,hbL10⟩:∃ x,listOk t.puts s.cells.length=x:=⟨_,rfl⟩;have L10:=am hbL10;clear hbL10;obtain ⟨bTM,hbTM⟩:∃ x,timesOk t s=x:=⟨_,rfl⟩;have TM:=am hbTM;clear hbTM;obtain ⟨bUP,hbUP⟩:∃ x,upsOk s i=x:=⟨_,rfl⟩;have UP:=am hbUP;clear hbUP;obtain ⟨bAC,hbAC⟩:∃ x,wayOk p s i=x:=⟨_,rfl⟩;have AC:=am hbAC;clear hbAC;have hbb:=inB_iff.1 (show inB t.body 0 ((p.bodies.length:Int) - 1)=true from H1.out);have hb0:0<=t.body:=hbb.1;have hb1:t.body < p.bodies.length:=by omega
 clear hbb;obtain ⟨kb,hkb0⟩:=Int.eq_ofNat_of_zero_le hb0;have hkb:kb < p.bodies.length:=by omega
 have v4:t.body.toNat=kb:=by omega
 obtain ⟨bb,ob,cs2,rfl,hcl2,hK2,hcc2,-⟩:=C_field GB.out ([]:List Act) kb hkb (by decide);obtain ⟨Aa,ca,rfl,la,-⟩:=hK2;have p2:=hcc2 0 _ rfl;simp only [show (Kd.slice 108 kAct).sz=1 from rfl,Nat.mul_one,Nat.add_zero] at p2;rw [show (p.bodies.getD kb []).length=(actsAt p.bodies kb).length from rfl] at p2;have P2:=am p2;obtain ⟨na,hna⟩:∃ x,x=(actsAt p.bodies kb).length:=⟨_,rfl⟩;have hnl:na<=1048576:=by rw [hna,actsAt_eq hkb];exact (HPZ.out.acts _ (List.getElem_mem hkb)).1
 rw [<-hna] at P2;have HNA:=am hna;clear hcl2 hcc2 p2 la hna hkb0;have h2:inB t.pc 0 (na:Int)=true:=by rw [HNA.out,<-v4];exact hx.1.1.2
 have hp0:0<=t.pc:=(inB_iff.1 h2).1;have H2:Aside0 ((decide ((0:Int)<=t.pc) && decide (t.pc<=(na:Int)))=true):=⟨h2⟩;clear h2 hx;have yway:(t.way != 0)=true:=by simp [wayx]
 have WY:=am (decide_eq_false wayx);clear wayx;have SX0:=am stx;clear stx;go_enter Try.func57,Try.ntmps57
 go_wp2_with (first
 |((with_reducible refine gate_dst (N:=3) rfl ?_);refine box_event rfl (N:=3) rfl (t:=48) (by go_simp<;>rfl) ?_;intro gp hg w3 hbox hb;have BP:=am hbox;clear hbox hg;have HB2:=am hb;clear hb;have HB:=HB2;clear HB2;have BPc:=zc8 BP.out)
 |((with_reducible refine gate_dst (N:=4) rfl ?_);refine box_event rfl (N:=4) rfl (t:=27) (by go_simp<;>rfl) ?_;intro gs hg w4 hbox hb;have BS:=am hbox;clear hbox hg;replace BP:=am (zb8 BP.out hb);replace HB:=am (below_step HB.out hb);clear hb BPc;have BPc:=zc8 BP.out;have BSc:=zc8 BS.out)
 |((with_reducible refine gate_dst (N:=13) rfl ?_);refine wpList_load_mid rfl 38 (.tmp 12) rfl b (o+i*13) rfl _ _ (fun j u hu=>cellB HB.out (HC.out j u hu)) Try.underlying38 rfl (by kernel_rfl) ?_)|((with_reducible refine gate_dst (N:=7) rfl ?_);refine box_event rfl (N:=7) rfl (t:=38) (by go_simp<;>rfl) ?_;intro gt hg wt hbox hb;have BT0:=am hbox;have GBT:=am hg;have HBT:=am hb;clear hbox hb hg)|((with_reducible refine gate_store (t:=38) (p:=7) rfl ?_);refine store_block rfl rfl 38 (.tmp 7) (.tmp 13) rfl rfl rfl BT0.out rfl (by kernel_rfl) (aB rfl) ?_;intro wn hbox hg;have BT:=am hbox;have hbx:=pw_below_grown HBT.out _ HBT.out.size hg (fun z hz=>by cases hz;exact Nat.le_of_eq GBT.out.symm);clear BT0 HBT hbox hg;replace BP:=am (zb8 BP.out hbx);replace BS:=am (zb8 BS.out hbx);replace HB:=am (below_step HB.out hbx);clear hbx BPc BSc;have BPc:=zc8 BP.out;have BSc:=zc8 BS.out;have BTc:=zc8 BT.out))
 refine st9 (n:=33) (S:=fun W=>W.heap[gp]? = some (.cells #[.slice Ac p.cells.length cc,.slice (some ⟨bb,ob,none⟩) p.bodies.length cb] 48 (0,0))/\W.heap[gs]? = some (.cells #[.slice A0 s.cells.length c0,.slice (some ⟨b,o,none⟩) s.tasks.length c1,.int .i64 s.clock,.slice A3 s.log.length c3] 27 (0,0))/\W.heap[gt]? = some (.cells #[.int .i64 t.body,.int .i64 t.pc,.int .i64 t.up,.slice B3 t.regs.length d3,.int .i64 t.way,.int .i64 t.stage,.int .i64 t.at_,.int .i64 t.since,.slice B8 t.old.length d8,.slice B9 t.reads.length d9,.slice B10 t.puts.length d10,.int .i64 t.when_,.int .i64 t.from_] 38 (0,0))/\W.cell? ⟨bb,ob+kb,none⟩=some (.slice Aa na ca)) (ds:= []) (by kernel_rfl) rfl ⟨blk_drew BP.out,blk_drew BS.out,blk_drew BT.out,(show wn.cell? ⟨bb,ob+kb,none⟩=_ from cellB HB.out P2.out)⟩ (fun hHeld=> ?_);have hb:=below_drew (Below.refl wn.heap.size wn);generalize wn.drew=w7 at hb hHeld ⊢;have HB7:=am (below_step HB.out hb);clear hb HB BP BS BT BPc BSc BTc;refine ba9 (fuel:=27) (n:=6) [0,1,2,3,4,5] (by kernel_rfl) (fun N _ _ _ _ h=>by cases N <;> exact h) hHeld ?_
 iterate 6 (
  refine stillS_step (v:= ?_) (a':= ?_) rfl (Or.inl ⟨by rfl, ?_⟩) ?_ ?_;rotate_left
  ·rintro W ⟨s0,s1,s2,s3⟩
   have t0:=zc8 s0;have t1:=zc8 s1;have t2:=zc8 s2;clear s0 s1 s2;go_simp;with_reducible rfl
  rotate_left
  ·simp only [Act.put,sA,sZ,sS,i64_w]
   rfl)
 refine stillS_nil ?_;refine on9 (i:=6) (N:=some 20) rfl rfl (by kernel_rfl) (by decide) (fun K hK=> ?_);refine goes_ Try.func50 (by kernel_rfl) rfl #[.int .i64 t.body,.int .i64 0,.int .i64 (wrap64 ((p.bodies.length:Int) - 1))] (by rfl) rfl rfl (by (try simp only [List.map_toArray,List.map_cons,List.map_nil]);first | done | rfl) ?_;refine (l6In_calls t.body 0 (wrap64 ((p.bodies.length:Int) - 1)) _).mono ?_;rw [w5,H1.out];rintro e9 wn ⟨rfl,rfl⟩;refine ⟨_,rfl, ?_⟩;refine hK.out _ _ hHeld (fun hHeld=> ?_);clear hK K;refine norm_ (a':= ?_) ?_ ?_;rotate_left
 ·show Act.put _ (some 20) _=_
  simp only [Act.put,sA,sZ,sS,i64_w];rfl
 refine ba9 (fuel:=15) (n:=11) [7,8,9,10,11,12,13,14,15,16,17] (by kernel_rfl) (fun N _ _ _ _ h=>by cases N <;> exact h) hHeld ?_
 iterate 11 (
  refine stillS_step (v:= ?_) (a':= ?_) rfl (Or.inl ⟨by rfl, ?_⟩) ?_ ?_;rotate_left
  ·rintro W ⟨s0,s1,s2,s3⟩
   have t0:=zc8 s0;have t1:=zc8 s1;have t2:=zc8 s2;clear s0 s1 s2;go_simp;with_reducible rfl
  rotate_left
  ·simp only [Act.put,sA,sZ,sS,i64_w]
   rfl)
 refine stillS_nil ?_;refine on9 (i:=18) (N:=some 32) rfl rfl (by kernel_rfl) (by decide) (fun K hK=> ?_);refine goes_ Try.func50 (by kernel_rfl) rfl #[.int .i64 t.pc,.int .i64 0,.int .i64 (na:Int)] (by rfl) rfl rfl (by (try simp only [List.map_toArray,List.map_cons,List.map_nil]);first | done | rfl) ?_;refine (l6In_calls t.pc 0 (na:Int) _).mono ?_;rw [H2.out];rintro e9 wn ⟨rfl,rfl⟩;refine ⟨_,rfl, ?_⟩;refine hK.out _ _ hHeld (fun hHeld=> ?_);clear hK K;refine norm_ (a':= ?_) ?_ ?_;rotate_left
 ·show Act.put _ (some 32) _=_
  simp only [Act.put,sA,sZ,sS,i64_w];rfl
 refine ba9 (fuel:=9) (n:=5) [19,20,21,22,23] (by kernel_rfl) (fun N _ _ _ _ h=>by cases N <;> exact h) hHeld ?_
 iterate 5 (
  refine stillS_step (v:= ?_) (a':= ?_) rfl (Or.inl ⟨by rfl, ?_⟩) ?_ ?_;rotate_left
  ·rintro W ⟨s0,s1,s2,s3⟩
   have t0:=zc8 s0;have t1:=zc8 s1;have t2:=zc8 s2;clear s0 s1 s2;go_simp;with_reducible rfl
  rotate_left
  ·simp only [Act.put,sA,sZ,sS,i64_w]
   rfl)
 refine stillS_nil ?_;refine on9 (i:=24) (N:=some 38) rfl rfl (by kernel_rfl) (by decide) (fun K hK=> ?_);refine goes_ Try.func50 (by kernel_rfl) rfl #[.int .i64 t.way,.int .i64 0,.int .i64 4] (by rfl) rfl rfl (by (try simp only [List.map_toArray,List.map_cons,List.map_nil]);first | done | rfl) ?_;refine (l6In_calls t.way 0 4 _).mono ?_;rw [H3.out];rintro e9 wn ⟨rfl,rfl⟩;refine ⟨_,rfl, ?_⟩;refine hK.out _ _ hHeld (fun hHeld=> ?_);clear hK K;refine norm_ (a':= ?_) ?_ ?_;rotate_left
 ·show Act.put _ (some 38) _=_
  simp only [Act.put,sA,sZ,sS,i64_w];rfl
 refine ba9 (fuel:=3) (n:=5) [25,26,27,28,29] (by kernel_rfl) (fun N _ _ _ _ h=>by cases N <;> exact h) hHeld ?_
 iterate 5 (
  refine stillS_step (v:= ?_) (a':= ?_) rfl (Or.inl ⟨by rfl, ?_⟩) ?_ ?_;rotate_left
  ·rintro W ⟨s0,s1,s2,s3⟩
   have t0:=zc8 s0;have t1:=zc8 s1;have t2:=zc8 s2;clear s0 s1 s2;go_simp;with_reducible rfl
  rotate_left
  ·simp only [Act.put,sA,sZ,sS,i64_w]
   rfl)
 refine stillS_nil ?_;refine on9 (i:=30) (N:=some 44) rfl rfl (by kernel_rfl) (by decide) (fun K hK=> ?_);refine goes_ Try.func50 (by kernel_rfl) rfl #[.int .i64 t.stage,.int .i64 0,.int .i64 5] (by rfl) rfl rfl (by (try simp only [List.map_toArray,List.map_cons,List.map_nil]);first | done | rfl) ?_;refine (l6In_calls t.stage 0 5 _).mono ?_;rw [H4.out];rintro e9 wn ⟨rfl,rfl⟩;refine ⟨_,rfl, ?_⟩;refine hK.out _ _ hHeld (fun hHeld=> ?_);clear hK K;refine norm_ (a':= ?_) ?_ ?_;rotate_left
 ·show Act.put _ (some 44) _=_
  simp only [Act.put,sA,sZ,sS,i64_w];rfl
 refine ba9 (fuel:=0) (n:=2) [31,32] (by kernel_rfl) (fun N _ _ _ _ h=>by cases N <;> exact h) hHeld ?_
 iterate 2 (
  refine stillS_step (v:= ?_) (a':= ?_) rfl (Or.inl ⟨by rfl, ?_⟩) ?_ ?_;rotate_left
  ·rintro W ⟨s0,s1,s2,s3⟩
   have t0:=zc8 s0;have t1:=zc8 s1;have t2:=zc8 s2;clear s0 s1 s2;go_simp;with_reducible rfl
  rotate_left
  ·simp only [Act.put,sA,sZ,sS,i64_w]
   rfl)
 refine stillS_nil ?_;refine done_ (by kernel_rfl) ?_;have BP:=am hHeld.1;have BS:=am hHeld.2.1;have BT:=am hHeld.2.2.1;have HB:=HB7;clear hHeld HB7;have BPc:=zc8 BP.out;have BSc:=zc8 BS.out;have BTc:=zc8 BT.out;have stx:=SX0.out;clear SX0;have yst:(t.stage != 0)=true:=by simp [stx]
 have WS:Aside0 ((decide (t.way=0) || decide (t.stage=0))=false):=⟨by rw [WY.out];simp [stx]⟩;clear stx;go_wp2;go_ret
 have hr:taskOk p s i=false:=by
  rw [HU.out,show inB t.body 0 ((p.bodies.length:Int) - 1)=true from H1.out,v4,<-HNA.out,show inB t.pc 0 (na:Int)=true from H2.out,show inB t.way 0 4=true from H3.out,show inB t.stage 0 5=true from H4.out,WS.out];simp only [Bool.true_and,Bool.false_and,Bool.and_false,Bool.or_true,Bool.true_or,Bool.or_false,Bool.false_or,Bool.not_true,Bool.not_false,Bool.and_self,Bool.and_true,Bool.or_self]
 rw [hr];exact ⟨rfl,HB.out⟩
theorem l12Task_calls (p:Prog) (ps:List Value) (s:Sys) (ss:List Value) (i:Nat) (w:World) (hp:kProg.K w p ps) (hs:kSys.K w s ss) (hz:ProgSz p) (hi:i < s.tasks.length) (hn:s.tasks.length<=1048576) (hm:s.cells.length<=1048576) (hl:s.log.length<=1048576) (hc0:0<=s.clock) (hc1:s.clock<=200) (hsz:(taskAt s.tasks i).regs.length<=1048576/\(taskAt s.tasks i).old.length<=1048576/\(taskAt s.tasks i).reads.length<=1048576/\(taskAt s.tasks i).puts.length<=1048576):
  Calls Try.prog 57 #[.agg ps.toArray,.agg ss.toArray,.int .i64 i] w fun e w'=>e= .returned (.bool (taskOk p s i))/\Below w.heap.size w w':=by
 cases hx:(inB (taskAt s.tasks i).body 0 ((p.bodies.length:Int) - 1) && inB (taskAt s.tasks i).pc 0 ((actsAt p.bodies (taskAt s.tasks i).body.toNat).length) && inB (taskAt s.tasks i).way 0 4 && inB (taskAt s.tasks i).stage 0 5) with
 | false=>exact l12Task_bad p ps s ss i w hp hs hz hi hn hm hl hc0 hc1 hsz hx
 | true=>
  by_cases wayx:(taskAt s.tasks i).way=0
  ·by_cases stx:(taskAt s.tasks i).stage=0
   ·exact l12Task_yy p ps s ss i w hp hs hz hi hn hm hl hc0 hc1 hsz hx wayx stx
   ·exact l12Task_yn p ps s ss i w hp hs hz hi hn hm hl hc0 hc1 hsz hx wayx stx
  ·by_cases stx:(taskAt s.tasks i).stage=0
   ·exact l12Task_ny p ps s ss i w hp hs hz hi hn hm hl hc0 hc1 hsz hx wayx stx
   ·exact l12Task_nn p ps s ss i w hp hs hz hi hn hm hl hc0 hc1 hsz hx wayx stx
structure SysSz (s:Sys):Prop where
 cells:s.cells.length<=1048576
 tasks:s.tasks.length<=1048576
 log:s.log.length<=1048576
 task:∀ i,i < s.tasks.length->(taskAt s.tasks i).regs.length<=1048576/\(taskAt s.tasks i).old.length<=1048576/\(taskAt s.tasks i).reads.length<=1048576/\(taskAt s.tasks i).puts.length<=1048576
 logs:∀ i,i < s.log.length->(entryAt s.log i).reads.length<=1048576/\(entryAt s.log i).puts.length<=1048576
theorem sysOk_calls (p:Prog) (ps:List Value) (s:Sys) (ss:List Value) (w:World) (hp:kProg.K w p ps) (hs:kSys.K w s ss) (hz:ProgSz p) (hsz:SysSz s):
  Calls Try.prog 34 #[.agg ps.toArray,.agg ss.toArray] w fun e w'=>e= .returned (.bool (sysOk p s))/\Below w.heap.size w w':=by
 have HPK:=am hp;have HSK:=am hs;have HPZ:=am hz;have HSZ:=am hsz;obtain ⟨Ac,cc,Ab,cb,rfl,-⟩:=kProg_open hp;obtain ⟨A0,c0,A1,c1,A3,c3,rfl,-⟩:=kSys_open hs;have HU:Aside0 (sysOk p s=(progOk p && decide (s.cells.length=p.cells.length) && inB s.tasks.length 1 7 && inB s.clock 0 200 && allB s.tasks.length (taskOk p s) && cellsOk s && logOk p s)):=⟨rfl⟩;have hn:=hsz.tasks;have hm:=hsz.cells;have hl:=hsz.log;have hpc:=hz.cells;clear hp hs hz hsz;obtain ⟨bH1,hbH1⟩:∃ b,inB (s.tasks.length:Int) 1 7=b:=⟨_,rfl⟩;have H1:Aside0 ((decide ((1:Int)<=(s.tasks.length:Int)) && decide ((s.tasks.length:Int)<=7))=bH1):=⟨hbH1⟩;clear hbH1;obtain ⟨bH2,hbH2⟩:∃ b,inB s.clock 0 200=b:=⟨_,rfl⟩;have H2:Aside0 ((decide ((0:Int)<=s.clock) && decide (s.clock<=200))=bH2):=⟨hbH2⟩;clear hbH2;obtain ⟨bPO,hbPO⟩:∃ x,progOk p=x:=⟨_,rfl⟩;have PO:=am hbPO;clear hbPO;obtain ⟨bCE,hbCE⟩:∃ x,cellsOk s=x:=⟨_,rfl⟩;have CE:=am hbCE;clear hbCE;obtain ⟨bLO,hbLO⟩:∃ x,logOk p s=x:=⟨_,rfl⟩;have LO:=am hbLO;clear hbLO;go_enter Try.func34,Try.ntmps34
 cases bPO with
 | false=>
  go_wp2_with (first
  |((with_reducible refine gate_dst (N:=2) rfl ?_);refine box_event rfl (N:=2) rfl (t:=48) (by go_simp<;>rfl) ?_;intro gp hg w2 hbox hb;have BP:=am hbox;clear hbox hg;have HB2:=am hb;clear hb;have HB:=HB2;clear HB2;have BPc:=zc8 BP.out)
  |((with_reducible refine gate_dst (N:=3) rfl ?_);refine box_event rfl (N:=3) rfl (t:=27) (by go_simp<;>rfl) ?_;intro gs hg w3 hbox hb;have BS:=am hbox;clear hbox hg;replace BP:=am (zb8 BP.out hb);replace HB:=am (below_step HB.out hb);clear hb BPc;have BPc:=zc8 BP.out;have BSc:=zc8 BS.out)
  |((with_reducible refine gate_dst (N:=6) rfl ?_);refine wpList_load_mid rfl 48 (.tmp 2) rfl gp 0 rfl _ _ (lC BP.out) Try.underlying48 rfl (by kernel_rfl) ?_)
  |(go_at_call 56;refine (progOk_calls p _ _ (kProg.K_below HB.out HPK.out) HPZ.out).mono ?_;rw [PO.out];rintro e w9 ⟨rfl,hb⟩;replace BP:=am (zb8 BP.out hb);replace BS:=am (zb8 BS.out hb);replace HB:=am (below_step HB.out hb);clear hb BPc BSc;have BPc:=zc8 BP.out;have BSc:=zc8 BS.out))
  go_ret
  have hr:sysOk p s=false:=by
   rw [HU.out,PO.out];simp only [Bool.true_and,Bool.false_and,Bool.and_false,Bool.and_true,Bool.and_self]
  rw [hr]
  exact ⟨rfl,HB.out⟩
 | true=>
  by_cases clx:s.cells.length=p.cells.length
  ·have ycl:((s.cells.length:Int) != (p.cells.length:Int))=false:=by simp;omega
   have CL:=am (decide_eq_true clx);clear clx
   cases bH1 with
   | false=>
    go_wp2_with (first
    |((with_reducible refine gate_dst (N:=2) rfl ?_);refine box_event rfl (N:=2) rfl (t:=48) (by go_simp<;>rfl) ?_;intro gp hg w2 hbox hb;have BP:=am hbox;clear hbox hg;have HB2:=am hb;clear hb;have HB:=HB2;clear HB2;have BPc:=zc8 BP.out)
    |((with_reducible refine gate_dst (N:=3) rfl ?_);refine box_event rfl (N:=3) rfl (t:=27) (by go_simp<;>rfl) ?_;intro gs hg w3 hbox hb;have BS:=am hbox;clear hbox hg;replace BP:=am (zb8 BP.out hb);replace HB:=am (below_step HB.out hb);clear hb BPc;have BPc:=zc8 BP.out;have BSc:=zc8 BS.out)
    |((with_reducible refine gate_dst (N:=6) rfl ?_);refine wpList_load_mid rfl 48 (.tmp 2) rfl gp 0 rfl _ _ (lC BP.out) Try.underlying48 rfl (by kernel_rfl) ?_)
    |(go_at_call 56;refine (progOk_calls p _ _ (kProg.K_below HB.out HPK.out) HPZ.out).mono ?_;rw [PO.out];rintro e w9 ⟨rfl,hb⟩;replace BP:=am (zb8 BP.out hb);replace BS:=am (zb8 BS.out hb);replace HB:=am (below_step HB.out hb);clear hb BPc BSc;have BPc:=zc8 BP.out;have BSc:=zc8 BS.out)
    |(go_at_call 50;refine (l6In_calls _ _ _ _).mono ?_;(first|rw [H1.out]);rintro e w9 ⟨rfl,rfl⟩))
    go_ret
    have hr:sysOk p s=false:=by
     rw [HU.out,PO.out,CL.out,show inB (s.tasks.length:Int) 1 7=false from H1.out];simp only [Bool.true_and,Bool.false_and,Bool.and_false,Bool.and_true,Bool.and_self]
    rw [hr]
    exact ⟨rfl,HB.out⟩
   | true=>
    cases bH2 with
    | false=>
     go_wp2_with (first
     |((with_reducible refine gate_dst (N:=2) rfl ?_);refine box_event rfl (N:=2) rfl (t:=48) (by go_simp<;>rfl) ?_;intro gp hg w2 hbox hb;have BP:=am hbox;clear hbox hg;have HB2:=am hb;clear hb;have HB:=HB2;clear HB2;have BPc:=zc8 BP.out)
     |((with_reducible refine gate_dst (N:=3) rfl ?_);refine box_event rfl (N:=3) rfl (t:=27) (by go_simp<;>rfl) ?_;intro gs hg w3 hbox hb;have BS:=am hbox;clear hbox hg;replace BP:=am (zb8 BP.out hb);replace HB:=am (below_step HB.out hb);clear hb BPc;have BPc:=zc8 BP.out;have BSc:=zc8 BS.out)
     |((with_reducible refine gate_dst (N:=6) rfl ?_);refine wpList_load_mid rfl 48 (.tmp 2) rfl gp 0 rfl _ _ (lC BP.out) Try.underlying48 rfl (by kernel_rfl) ?_)
     |(go_at_call 56;refine (progOk_calls p _ _ (kProg.K_below HB.out HPK.out) HPZ.out).mono ?_;rw [PO.out];rintro e w9 ⟨rfl,hb⟩;replace BP:=am (zb8 BP.out hb);replace BS:=am (zb8 BS.out hb);replace HB:=am (below_step HB.out hb);clear hb BPc BSc;have BPc:=zc8 BP.out;have BSc:=zc8 BS.out)
     |(go_at_call 50;refine (l6In_calls _ _ _ _).mono ?_;(first|rw [H1.out] | rw [H2.out]);rintro e w9 ⟨rfl,rfl⟩))
     go_ret
     have hr:sysOk p s=false:=by
      rw [HU.out,PO.out,CL.out,show inB (s.tasks.length:Int) 1 7=true from H1.out,show inB s.clock 0 200=false from H2.out];simp only [Bool.true_and,Bool.false_and,Bool.and_false,Bool.and_true,Bool.and_self]
     rw [hr]
     exact ⟨rfl,HB.out⟩
    | true=>
     have hk0:=(inB_iff.1 (show inB s.clock 0 200=true from H2.out)).1;have hk1:=(inB_iff.1 (show inB s.clock 0 200=true from H2.out)).2
     go_wp2_with (first
     |((with_reducible refine gate_dst (N:=2) rfl ?_);refine box_event rfl (N:=2) rfl (t:=48) (by go_simp<;>rfl) ?_;intro gp hg w2 hbox hb;have BP:=am hbox;clear hbox hg;have HB2:=am hb;clear hb;have HB:=HB2;clear HB2;have BPc:=zc8 BP.out)
     |((with_reducible refine gate_dst (N:=3) rfl ?_);refine box_event rfl (N:=3) rfl (t:=27) (by go_simp<;>rfl) ?_;intro gs hg w3 hbox hb;have BS:=am hbox;clear hbox hg;replace BP:=am (zb8 BP.out hb);replace HB:=am (below_step HB.out hb);clear hb BPc;have BPc:=zc8 BP.out;have BSc:=zc8 BS.out)
     |((with_reducible refine gate_dst (N:=6) rfl ?_);refine wpList_load_mid rfl 48 (.tmp 2) rfl gp 0 rfl _ _ (lC BP.out) Try.underlying48 rfl (by kernel_rfl) ?_)
     |(go_at_call 56;refine (progOk_calls p _ _ (kProg.K_below HB.out HPK.out) HPZ.out).mono ?_;rw [PO.out];rintro e w9 ⟨rfl,hb⟩;replace BP:=am (zb8 BP.out hb);replace BS:=am (zb8 BS.out hb);replace HB:=am (below_step HB.out hb);clear hb BPc BSc;have BPc:=zc8 BP.out;have BSc:=zc8 BS.out)
     |(go_at_call 50;refine (l6In_calls _ _ _ _).mono ?_;(first|rw [H1.out] | rw [H2.out]);rintro e w9 ⟨rfl,rfl⟩))
     go_loopw [5] (fun j w'=>∃ k:Nat,k<=s.tasks.length/\j= .int .i64 k/\Aside0 (∀ i,i < k->taskOk p s i=true)/\Aside0 (w'.heap[gp]? = some (.cells #[.slice Ac p.cells.length cc,.slice Ab p.bodies.length cb] 48 (0,0)))/\Aside0 (w'.heap[gs]? = some (.cells #[.slice A0 s.cells.length c0,.slice A1 s.tasks.length c1,.int .i64 s.clock,.slice A3 s.log.length c3] 27 (0,0)))/\Aside0 (Below w.heap.size w w')) (fun j _=>s.tasks.length - (intOf j).toNat)
     case atStart=>exact ⟨0,Nat.zero_le _,rfl,⟨fun i hi=>by omega⟩,BP,BS,HB⟩
     case round=>
      clear BP BS HB BPc BSc;obtain ⟨k,hk,rfl,HJ,BP,BS,HB⟩:=hrel;have BPc:=zc8 BP.out;have BSc:=zc8 BS.out;by_cases hlt:k < s.tasks.length
      ·obtain ⟨bTO,hbTO⟩:∃ x,taskOk p s k=x:=⟨_,rfl⟩
       have TO:=am hbTO;clear hbTO;have q1:(k:Int) < (s.tasks.length:Int):=by omega
       cases bTO with
       | false=>
        go_wp2_with (first
        |((with_reducible refine gate_dst (N:=38) rfl ?_);refine wpList_load_mid rfl 48 (.tmp 2) rfl gp 0 rfl _ _ (lC BP.out) Try.underlying48 rfl (by kernel_rfl) ?_)
        |((with_reducible refine gate_dst (N:=39) rfl ?_);refine wpList_load_mid rfl 27 (.tmp 3) rfl gs 0 rfl _ _ (lC BS.out) Try.underlying27 rfl (by kernel_rfl) ?_)
        |(go_at_call 57;refine (l12Task_calls p _ s _ k _ (kProg.K_below HB.out HPK.out) (kSys.K_below HB.out HSK.out) HPZ.out hlt HSZ.out.tasks HSZ.out.cells HSZ.out.log hk0 hk1 (HSZ.out.task k hlt)).mono ?_;rw [TO.out];rintro e w9 ⟨rfl,hb⟩;replace BP:=am (zb8 BP.out hb);replace BS:=am (zb8 BS.out hb);replace HB:=am (below_step HB.out hb);clear hb BPc BSc;have BPc:=zc8 BP.out;have BSc:=zc8 BS.out))
        go_ret
        have hr:sysOk p s=false:=by
         rw [HU.out,PO.out,CL.out,show inB (s.tasks.length:Int) 1 7=true from H1.out,show inB s.clock 0 200=true from H2.out,allB_no hlt TO.out];simp only [Bool.true_and,Bool.false_and,Bool.and_false,Bool.and_true,Bool.and_self]
        rw [hr]
        exact ⟨rfl,HB.out⟩
       | true=>
        go_wp2_with (first
        |((with_reducible refine gate_dst (N:=38) rfl ?_);refine wpList_load_mid rfl 48 (.tmp 2) rfl gp 0 rfl _ _ (lC BP.out) Try.underlying48 rfl (by kernel_rfl) ?_)
        |((with_reducible refine gate_dst (N:=39) rfl ?_);refine wpList_load_mid rfl 27 (.tmp 3) rfl gs 0 rfl _ _ (lC BS.out) Try.underlying27 rfl (by kernel_rfl) ?_)
        |(go_at_call 57;refine (l12Task_calls p _ s _ k _ (kProg.K_below HB.out HPK.out) (kSys.K_below HB.out HSK.out) HPZ.out hlt HSZ.out.tasks HSZ.out.cells HSZ.out.log hk0 hk1 (HSZ.out.task k hlt)).mono ?_;rw [TO.out];rintro e w9 ⟨rfl,hb⟩;replace BP:=am (zb8 BP.out hb);replace BS:=am (zb8 BS.out hb);replace HB:=am (below_step HB.out hb);clear hb BPc BSc;have BPc:=zc8 BP.out;have BSc:=zc8 BS.out))
        go_roundw
        case rel=>exact ⟨k+1,by omega,by go_num,⟨fun i hi=>by rcases Nat.lt_or_ge i k with h | h;exact HJ.out i h;obtain rfl:k=i:=(by omega);exact TO.out⟩,BP,BS,HB⟩
        case measure=>simp [intOf];omega
      ·obtain rfl:k=s.tasks.length:=by omega
       have AL:=am (allB_iff.2 HJ.out);have HBD:Aside0 (∀ i,i < s.tasks.length->0<=(taskAt s.tasks i).body/\(taskAt s.tasks i).body < p.bodies.length):=⟨fun i hi=>by have h:=HJ.out i hi;simp only [taskOk,Bool.and_eq_true,inB_iff] at h;omega⟩;have q1:¬ (s.tasks.length:Int) < (s.tasks.length:Int):=by omega
       cases bCE with
       | false=>
        go_wp2_with (first
        |((with_reducible refine gate_dst (N:=43) rfl ?_);refine wpList_load_mid rfl 27 (.tmp 3) rfl gs 0 rfl _ _ (lC BS.out) Try.underlying27 rfl (by kernel_rfl) ?_)
        |((with_reducible refine gate_dst (N:=46) rfl ?_);refine wpList_load_mid rfl 48 (.tmp 2) rfl gp 0 rfl _ _ (lC BP.out) Try.underlying48 rfl (by kernel_rfl) ?_)
        |((with_reducible refine gate_dst (N:=47) rfl ?_);refine wpList_load_mid rfl 27 (.tmp 3) rfl gs 0 rfl _ _ (lC BS.out) Try.underlying27 rfl (by kernel_rfl) ?_)
        |(go_at_call 58;refine (l12Cells_calls s _ _ (kSys.K_below HB.out HSK.out) HSZ.out.cells HSZ.out.tasks (fun i hi=>(HSZ.out.task i hi).2.2.2)).mono ?_;rw [CE.out];rintro e w9 ⟨rfl,hb⟩;replace BP:=am (zb8 BP.out hb);replace BS:=am (zb8 BS.out hb);replace HB:=am (below_step HB.out hb);clear hb BPc BSc;have BPc:=zc8 BP.out;have BSc:=zc8 BS.out))
        go_ret
        have hr:sysOk p s=false:=by
         rw [HU.out,PO.out,CL.out,show inB (s.tasks.length:Int) 1 7=true from H1.out,show inB s.clock 0 200=true from H2.out,AL.out,CE.out];simp only [Bool.true_and,Bool.false_and,Bool.and_false,Bool.and_true,Bool.and_self]
        rw [hr]
        exact ⟨rfl,HB.out⟩
       | true=>
        go_wp2_with (first
        |((with_reducible refine gate_dst (N:=43) rfl ?_);refine wpList_load_mid rfl 27 (.tmp 3) rfl gs 0 rfl _ _ (lC BS.out) Try.underlying27 rfl (by kernel_rfl) ?_)
        |((with_reducible refine gate_dst (N:=46) rfl ?_);refine wpList_load_mid rfl 48 (.tmp 2) rfl gp 0 rfl _ _ (lC BP.out) Try.underlying48 rfl (by kernel_rfl) ?_)
        |((with_reducible refine gate_dst (N:=47) rfl ?_);refine wpList_load_mid rfl 27 (.tmp 3) rfl gs 0 rfl _ _ (lC BS.out) Try.underlying27 rfl (by kernel_rfl) ?_)
        |(go_at_call 58;refine (l12Cells_calls s _ _ (kSys.K_below HB.out HSK.out) HSZ.out.cells HSZ.out.tasks (fun i hi=>(HSZ.out.task i hi).2.2.2)).mono ?_;rw [CE.out];rintro e w9 ⟨rfl,hb⟩;replace BP:=am (zb8 BP.out hb);replace BS:=am (zb8 BS.out hb);replace HB:=am (below_step HB.out hb);clear hb BPc BSc;have BPc:=zc8 BP.out;have BSc:=zc8 BS.out)
        |(go_at_call 59;refine (l12Log_calls p _ s _ _ (kProg.K_below HB.out HPK.out) (kSys.K_below HB.out HSK.out) HPZ.out HSZ.out.cells HSZ.out.tasks HSZ.out.log HSZ.out.logs HBD.out).mono ?_;rw [LO.out];rintro e w9 ⟨rfl,hb⟩;replace BP:=am (zb8 BP.out hb);replace BS:=am (zb8 BS.out hb);replace HB:=am (below_step HB.out hb);clear hb BPc BSc;have BPc:=zc8 BP.out;have BSc:=zc8 BS.out))
        go_ret
        have hr:sysOk p s=bLO:=by
         rw [HU.out,PO.out,CL.out,show inB (s.tasks.length:Int) 1 7=true from H1.out,show inB s.clock 0 200=true from H2.out,AL.out,CE.out,LO.out];simp only [Bool.true_and,Bool.false_and,Bool.and_false,Bool.and_true,Bool.and_self]
        rw [hr];exact ⟨rfl,HB.out⟩
  ·have ycl:((s.cells.length:Int) != (p.cells.length:Int))=true:=by simp;omega
   have CL:=am (decide_eq_false clx);clear clx
   go_wp2_with (first
   |((with_reducible refine gate_dst (N:=2) rfl ?_);refine box_event rfl (N:=2) rfl (t:=48) (by go_simp<;>rfl) ?_;intro gp hg w2 hbox hb;have BP:=am hbox;clear hbox hg;have HB2:=am hb;clear hb;have HB:=HB2;clear HB2;have BPc:=zc8 BP.out)
   |((with_reducible refine gate_dst (N:=3) rfl ?_);refine box_event rfl (N:=3) rfl (t:=27) (by go_simp<;>rfl) ?_;intro gs hg w3 hbox hb;have BS:=am hbox;clear hbox hg;replace BP:=am (zb8 BP.out hb);replace HB:=am (below_step HB.out hb);clear hb BPc;have BPc:=zc8 BP.out;have BSc:=zc8 BS.out)
   |((with_reducible refine gate_dst (N:=6) rfl ?_);refine wpList_load_mid rfl 48 (.tmp 2) rfl gp 0 rfl _ _ (lC BP.out) Try.underlying48 rfl (by kernel_rfl) ?_)
   |(go_at_call 56;refine (progOk_calls p _ _ (kProg.K_below HB.out HPK.out) HPZ.out).mono ?_;rw [PO.out];rintro e w9 ⟨rfl,hb⟩;replace BP:=am (zb8 BP.out hb);replace BS:=am (zb8 BS.out hb);replace HB:=am (below_step HB.out hb);clear hb BPc BSc;have BPc:=zc8 BP.out;have BSc:=zc8 BS.out))
   go_ret
   have hr:sysOk p s=false:=by
    rw [HU.out,PO.out,CL.out];simp only [Bool.true_and,Bool.false_and,Bool.and_false,Bool.and_true,Bool.and_self]
   rw [hr];exact ⟨rfl,HB.out⟩
end Go.Proofs.Ytimamoimphjakaa.Eq
namespace Go.Proofs.YtimamoimphjakaaW.PrintWords
theorem Reps.one {α:Type} {R:α->List Value->Prop} {ps:List α} {cs:List Value} {p:α} {v:Value} (hp:R p [v]) (h:Reps R 1 ps cs):Reps R 1 (p :: ps) (v :: cs):=by
 refine ⟨by simp [h.1],fun j q hq=> ?_⟩
 cases j with
 | zero=>
  simp only [List.getElem?_cons_zero,Option.some.injEq] at hq;subst hq
  simpa using hp
 | succ j=>
  simp only [List.getElem?_cons_succ] at hq;have h1:=h.2 j q hq;simpa [Nat.mul_one] using h1
theorem Reps.front {α:Type} {R:α->List Value->Prop} {size:Nat} {ps:List α} {cs c all:List Value} {p:α} (hp:R p c) (hc:c.length=size) (h:Reps R size ps cs) (ha:c ++ cs=all):Reps R size (p :: ps) all:=by
 subst ha;refine ⟨by rw [List.length_append,hc,h.1,List.length_cons,Nat.succ_mul,Nat.add_comm],fun j q hq=> ?_⟩
 cases j with
 | zero=>
  simp only [List.getElem?_cons_zero,Option.some.injEq] at hq;subst hq;rw [Nat.zero_mul,List.drop_zero,List.take_append_of_le_length (by omega),List.take_of_length_le (by omega)]
  exact hp
 | succ j=>
  simp only [List.getElem?_cons_succ] at hq;have h1:=h.2 j q hq;rw [Nat.succ_mul,List.drop_append,List.drop_of_length_le (by rw [hc];exact Nat.le_add_left _ _),List.nil_append,hc,Nat.add_sub_cancel];exact h1
theorem Reps.c3 {α:Type} {R:α->List Value->Prop} {ps:List α} {cs:List Value} {p:α} {va vb vc:Value} (hp:R p [va,vb,vc]) (h:Reps R 3 ps cs):Reps R 3 (p :: ps) (va :: vb :: vc :: cs):=Reps.front hp rfl h rfl
theorem Reps.c4 {α:Type} {R:α->List Value->Prop} {ps:List α} {cs:List Value} {p:α} {va vb vc vd:Value} (hp:R p [va,vb,vc,vd]) (h:Reps R 4 ps cs):Reps R 4 (p :: ps) (va :: vb :: vc :: vd :: cs):=Reps.front hp rfl h rfl
end Go.Proofs.YtimamoimphjakaaW.PrintWords
namespace Go.Proofs.Ytimamoimphjakaa.Eq
open Go.RowKit Go.Proofs.YtimamoimphjakaaW.PrintWords Go.Proofs.YtimamoimphjakaaW.PrintLast Go.Proofs.YtimamoimphjakaaW.PrintMore
theorem R_apart {α:Type} {d:Kd α} {e base g:Nat} {ok:Nat->Prop} {W:World} {v:Value} {xs:List α} {cs:Array Value} {t:TypeId} (h:d.R e W base ok v xs) (hb:W.heap[g]? = some (.cells cs t (0,0))) (ht:∀ q ∈ e :: d.E,q ≠ t):d.R e W base (fun k=>ok k/\k ≠ g) v xs:=by
 refine Kd.R_mono (Kd.R_bound h) (fun k hk=>⟨hk.1,fun he=> ?_⟩);obtain ⟨_,_,_,q,hq,cells,hc⟩:=hk;rw [he,hb] at hc;injection hc with hc;injection hc with _ hc;exact ht q hq hc.symm
theorem R_set {α:Type} {d:Kd α} {e base g:Nat} {ok:Nat->Prop} {W:World} {v:Value} {xs:List α} {cs:Array Value} {t:TypeId} (h:d.R e W base ok v xs) (hb:W.heap[g]? = some (.cells cs t (0,0))) (ht:∀ q ∈ e :: d.E,q ≠ t) (o:Nat) (u:Value):d.R e (W.setCell ⟨g,o,none⟩ u) base ok v xs:=
 Kd.R_mono (Kd.R_far (p:=⟨g,o,none⟩) (R_apart h hb ht) (fun k hk=>hk.2) u) (fun k hk=>hk.1)
theorem R_keepT {α:Type} {d:Kd α} {e base g:Nat} {ok:Nat->Prop} {W W1:World} {v:Value} {xs:List α} {cs:Array Value} {t:TypeId} (h:d.R e W base ok v xs) (hb:W.heap[g]? = some (.cells cs t (0,0))) (ht:∀ q ∈ e :: d.E,q ≠ t) (hk:KeepBut W W1 g none):d.R e W1 base ok v xs:=
 Kd.R_mono (Kd.R_keep (R_apart h hb ht) hk (fun k hk=>hk.2)) (fun k hk=>hk.1)
theorem R_grownT {α:Type} {d:Kd α} {e base g:Nat} {ok:Nat->Prop} {W W1:World} {v:Value} {xs:List α} {cs:Array Value} {t:TypeId} (h:d.R e W base ok v xs) (hb:W.heap[g]? = some (.cells cs t (0,0))) (ht:∀ q ∈ e :: d.E,q ≠ t) (hg:W.grownBy W1 (some g)):d.R e W1 base ok v xs:=
 Kd.R_mono (Kd.R_step (R_apart h hb ht) (fun k hk hl=>hg.block k hl (fun he=>hk.2 (by injection he)))) (fun k hk=>hk.1)
def SysRows (W:World) (base:Nat) (s:Sys) (vc vt vl:Value):Prop:=kCell.R 53 W base (fun _=>True) vc s.cells/\kTask.R 38 W base (fun _=>True) vt s.tasks/\kEntry.R 119 W base (fun _=>True) vl s.log
theorem SysRows.read {W:World} {base:Nat} {s:Sys} {vc vt vl:Value} (h:SysRows W base s vc vt vl):kSys.K W s [vc,vt,.int .i64 s.clock,vl]:=by
 obtain ⟨A0,c0,rfl,l0,g0⟩:=Kd.R_reads h.1;obtain ⟨A1,c1,rfl,l1,g1⟩:=Kd.R_reads h.2.1;obtain ⟨A3,c3,rfl,l3,g3⟩:=Kd.R_reads h.2.2;exact kSys_mk s l0 g0 l1 g1 l3 g3
def NewPost (p:Prog) (b:Bool) (w:World) (e:Ending) (w':World):Prop:=∃ vc vt vl,e= .returned (.tuple #[.agg #[vc,vt,.int .i64 0,vl],.bool b])/\Below w.heap.size w w'/\(b=true->SysRows w' w.heap.size (sysNew p) vc vt vl)/\(b=false->SysRows w' w.heap.size zSys vc vt vl)
theorem take_map_next (l:List Int) {k:Nat} (f:Int->Cell) (h:k < l.length):(l.take (k+1)).map f=(l.take k).map f ++ [f l[k]]:=by
 rw [List.take_add_one,List.getElem?_eq_getElem h,List.map_append];rfl
theorem rd_get {l:List Int} {k:Nat} (h:k < l.length):rd l (k:Int)=l[k]:=by simp [rd,List.getD_eq_getElem?_getD,List.getElem?_eq_getElem h]
theorem sysNew_aux (p:Prog) (ps:List Value) (bPO:Bool) (w:World) (hp:kProg.K w p ps) (hz:ProgSz p) (hbPO:progOk p=bPO):
  Calls Try.prog 117 #[.agg ps.toArray] w fun e w'=>NewPost p bPO w e w':=by
 have HPK:=am hp;have HPZ:=am hz;obtain ⟨Ac,cc,Ab,cb,rfl,-,gc,-⟩:=kProg_open hp;have HCL:=am gc;have hpc:=hz.cells;clear hp hz gc;have PO:=am hbPO;clear hbPO;go_enter Try.func117,Try.ntmps117
 cases bPO with
 | false=>
  go_wp2_with (first
  |((with_reducible refine gate_dst (N:=1) rfl ?_);refine box_event rfl (N:=1) rfl (t:=48) (by go_simp<;>rfl) ?_;intro gp hg w1 hbox hb;have BP:=am hbox;clear hbox hg;have HB2:=am hb;clear hb;have HB:=HB2;clear HB2;have BPc:=zc8 BP.out)
  |((with_reducible refine gate_dst (N:=2) rfl ?_);refine box_event rfl (N:=2) rfl (t:=27) (by go_simp<;>rfl) ?_;intro gr hg w2 hbox hb;have BR:=am hbox;have LR:=am (show w.heap.size<=gr from Nat.le_trans HB.out.size (Nat.le_of_eq hg.symm));clear hbox hg;replace BP:=am (zb8 BP.out hb);replace HB:=am (below_step HB.out hb);clear hb BPc;have BPc:=zc8 BP.out;have BRc:=zc8 BR.out)
  |((with_reducible refine gate_dst (N:=6) rfl ?_);refine wpList_load_mid rfl 48 (.tmp 1) rfl gp 0 rfl _ _ (lC BP.out) Try.underlying48 rfl (by kernel_rfl) ?_)
  |(go_at_call 56;refine (progOk_calls p _ _ (kProg.K_below HB.out HPK.out) HPZ.out).mono ?_;rw [PO.out];rintro e w9 ⟨rfl,hb⟩;replace BP:=am (zb8 BP.out hb);replace BR:=am (zb8 BR.out hb);replace HB:=am (below_step HB.out hb);clear hb BPc BRc;have BPc:=zc8 BP.out;have BRc:=zc8 BR.out)
  |((with_reducible refine gate_store (t:=27) (p:=2) rfl ?_);refine store_block rfl rfl 27 (.tmp 2) (.tmp 9) rfl rfl rfl BR.out rfl (by kernel_rfl) (aB rfl) ?_;intro wz hbox hg;have BZ:=am hbox;have HG:=am hg;have HBz:=am (pw_below_grown HB.out _ HB.out.size hg (fun z hz=>by cases hz;exact LR.out));clear hbox hg))
  exact bodyPost_ret (results_ct Try.results117 _ wz gr 27 #[.slice none 0 0,.slice none 0 0,.int .i64 0,.slice none 0 0] (0,0) _ rfl BZ.out Try.underlying27 rfl (by kernel_rfl)) rfl ⟨_,_,_,rfl,HBz.out,(fun h=>by cases h),fun _=>⟨Kd.R_nil _ _ _ _ _,Kd.R_nil _ _ _ _ _,Kd.R_nil _ _ _ _ _⟩⟩
 | true=>
  go_wp2_with (first
  |((with_reducible refine gate_dst (N:=1) rfl ?_);refine box_event rfl (N:=1) rfl (t:=48) (by go_simp<;>rfl) ?_;intro gp hg w1 hbox hb;have BP:=am hbox;clear hbox hg;have HB2:=am hb;clear hb;have HB:=HB2;clear HB2;have BPc:=zc8 BP.out)
  |((with_reducible refine gate_dst (N:=2) rfl ?_);refine box_event rfl (N:=2) rfl (t:=27) (by go_simp<;>rfl) ?_;intro gr hg w2 hbox hb;have BR:=am hbox;have LR:=am (show w.heap.size<=gr from Nat.le_trans HB.out.size (Nat.le_of_eq hg.symm));clear hbox hg;replace BP:=am (zb8 BP.out hb);replace HB:=am (below_step HB.out hb);clear hb BPc;have BPc:=zc8 BP.out;have BRc:=zc8 BR.out)
  |((with_reducible refine gate_dst (N:=6) rfl ?_);refine wpList_load_mid rfl 48 (.tmp 1) rfl gp 0 rfl _ _ (lC BP.out) Try.underlying48 rfl (by kernel_rfl) ?_)
  |(go_at_call 56;refine (progOk_calls p _ _ (kProg.K_below HB.out HPK.out) HPZ.out).mono ?_;rw [PO.out];rintro e w9 ⟨rfl,hb⟩;replace BP:=am (zb8 BP.out hb);replace BR:=am (zb8 BR.out hb);replace HB:=am (below_step HB.out hb);clear hb BPc BRc;have BPc:=zc8 BP.out;have BRc:=zc8 BR.out)
  |((with_reducible refine gate_dst (N:=10) rfl ?_);refine Kd.R_lit kCell (w0:=w) w.heap.size 53 rfl (N:=10) rfl (xs:=([]:List Cell)) (inner:= []) (ok:=fun _=>True) (okp:=fun _=>False) (by go_simp<;>rfl) (Reps.none _ _) (fun _ hk=>hk.elim) trivial HB.out HB.out.size (by simp) ?_;intro v1 wl hv1 hb1 hg1 _;have hb:=grown_below hg1;clear hb1 hg1;obtain ⟨a0,c0,ev⟩:=Kd.R_slice hv1;subst ev;have VC:=am hv1;clear hv1;replace BP:=am (zb8 BP.out hb);replace BR:=am (zb8 BR.out hb);replace HB:=am (below_step HB.out hb);clear hb BPc BRc;have BPc:=zc8 BP.out;have BRc:=zc8 BR.out)
  |(go_at_call 135;refine (l11Task_calls 0 (-1) _).mono ?_;rintro e wl ⟨v3,v8,v9,v10,rfl,hN4,hb⟩;have hM:kTask.M wl w.heap.size (fun _=>True) (newTask 0 (-1)) [.int .i64 0,.int .i64 0,.int .i64 (-1),v3,.int .i64 0,.int .i64 0,.int .i64 0,.int .i64 0,v8,v9,v10,.int .i64 0,.int .i64 0]:=kTask_mkM (newTask 0 (-1)) (Kd.R_lower hN4.regs HB.out.size) (Kd.R_lower hN4.old HB.out.size) (Kd.R_lower hN4.reads HB.out.size) (Kd.R_lower hN4.puts HB.out.size);have HM:=am hM;clear hM hN4;replace VC:=am (Kd.R_below VC.out hb);replace BP:=am (zb8 BP.out hb);replace BR:=am (zb8 BR.out hb);replace HB:=am (below_step HB.out hb);clear hb BPc BRc;have BPc:=zc8 BP.out;have BRc:=zc8 BR.out)
  |((with_reducible refine gate_dst (N:=12) rfl ?_);refine Kd.R_lit kTask (w0:=w) w.heap.size 38 rfl (N:=12) rfl (xs:= [newTask 0 (-1)]) (inner:= [.int .i64 0,.int .i64 0,.int .i64 (-1),v3,.int .i64 0,.int .i64 0,.int .i64 0,.int .i64 0,v8,v9,v10,.int .i64 0,.int .i64 0]) (ok:=fun _=>True) (okp:=fun _=>True) (by unfold newCells;first|(go_simp;done)|(go_simp;rfl)) (Reps.front HM.out rfl (Reps.none _ _) (by simp)) (fun _ _=>trivial) trivial HB.out HB.out.size (by decide) ?_;intro v1 wl hv1 hb1 hg1 _;have hb:=grown_below hg1;clear hb1 hg1;obtain ⟨a1,c1,ev⟩:=Kd.R_slice hv1;subst ev;have VT:=am hv1;clear hv1 HM;replace VC:=am (Kd.R_below VC.out hb);replace BP:=am (zb8 BP.out hb);replace BR:=am (zb8 BR.out hb);replace HB:=am (below_step HB.out hb);clear hb BPc BRc;have BPc:=zc8 BP.out;have BRc:=zc8 BR.out)
  |((with_reducible refine gate_dst (N:=13) rfl ?_);refine Kd.R_lit kEntry (w0:=w) w.heap.size 119 rfl (N:=13) rfl (xs:=([]:List Entry)) (inner:= []) (ok:=fun _=>True) (okp:=fun _=>False) (by go_simp<;>rfl) (Reps.none _ _) (fun _ hk=>hk.elim) trivial HB.out HB.out.size (by simp) ?_;intro v1 wl hv1 hb1 hg1 _;have hb:=grown_below hg1;clear hb1 hg1;obtain ⟨a3,c3,ev⟩:=Kd.R_slice hv1;subst ev;have VL:=am hv1;clear hv1;replace VC:=am (Kd.R_below VC.out hb);replace VT:=am (Kd.R_below VT.out hb);replace BP:=am (zb8 BP.out hb);replace BR:=am (zb8 BR.out hb);replace HB:=am (below_step HB.out hb);clear hb BPc BRc;have BPc:=zc8 BP.out;have BRc:=zc8 BR.out)
  |((with_reducible refine gate_dst (N:=4) rfl ?_);refine box_event rfl (N:=4) rfl (t:=27) (by go_simp<;>rfl) ?_;intro gs hg wt hbox hb;have BS0:=am hbox;have GS:=am hg;have HBT:=am hb;clear hbox hb hg)
  |((with_reducible refine gate_store (t:=27) (p:=4) rfl ?_);refine store_block rfl rfl 27 (.tmp 4) (.tmp 14) rfl rfl rfl BS0.out rfl (by kernel_rfl) (aB rfl) ?_;intro wn hbox hg;have BS:=am hbox;have hb:=pw_below_grown HBT.out _ HBT.out.size hg (fun z hz=>by cases hz;exact Nat.le_of_eq GS.out.symm);have LS:=am (show w.heap.size<=gs from Nat.le_trans HB.out.size (Nat.le_of_eq GS.out.symm));have NRS:=am (show gr ≠ gs from fun he=>by have:=blk_lt BR.out;rw [GS.out] at he;omega);clear BS0 HBT hbox hg GS;replace VC:=am (Kd.R_below VC.out hb);replace VT:=am (Kd.R_below VT.out hb);replace VL:=am (Kd.R_below VL.out hb);replace BP:=am (zb8 BP.out hb);replace BR:=am (zb8 BR.out hb);replace HB:=am (below_step HB.out hb);clear hb BPc BRc;have BPc:=zc8 BP.out;have BRc:=zc8 BR.out;have BSc:=zc8 BS.out))
  go_loopw [5] (fun j w'=>∃ k:Nat,k<=p.cells.length/\j= .int .i64 k/\∃ vc,Aside0 (kCell.R 53 w' w.heap.size (fun _=>True) vc ((p.cells.take k).map fun n=>(⟨n,0,-1⟩:Cell)))/\Aside0 (kTask.R 38 w' w.heap.size (fun _=>True) (.slice a1 1 c1) [newTask 0 (-1)])/\Aside0 (kEntry.R 119 w' w.heap.size (fun _=>True) (.slice a3 0 c3) [])/\Aside0 (w'.heap[gp]? = some (.cells #[.slice Ac p.cells.length cc,.slice Ab p.bodies.length cb] 48 (0,0)))/\Aside0 (w'.heap[gr]? = some (.cells #[.slice none 0 0,.slice none 0 0,.int .i64 0,.slice none 0 0] 27 (0,0)))/\Aside0 (w'.heap[gs]? = some (.cells #[vc,.slice a1 1 c1,.int .i64 0,.slice a3 0 c3] 27 (0,0)))/\Aside0 (Below w.heap.size w w')) (fun j _=>p.cells.length - (intOf j).toNat)
  case atStart=>exact ⟨0,Nat.zero_le _,rfl,_,VC,VT,VL,BP,BR,BS,HB⟩
  case round=>
   clear VC VT VL BP BR BS HB BPc BRc BSc;obtain ⟨k,hk,rfl,vc,VC,VT,VL,BP,BR,BS,HB⟩:=hrel;obtain ⟨A,cA,ev⟩:=Kd.R_slice VC.out;subst ev;obtain ⟨lk,hlk⟩:∃ x:Nat,x=((p.cells.take k).map fun n=>(⟨n,0,-1⟩:Cell)).length:=⟨_,rfl⟩;rw [<-hlk] at VC BS;have LK:=am hlk;clear hlk;have BPc:=zc8 BP.out;have BRc:=zc8 BR.out;have BSc:=zc8 BS.out;by_cases hlt:k < p.cells.length
   ·have q0:(0:Int)<=(k:Int):=by omega
    have q1:(k:Int) < (p.cells.length:Int):=by omega
    obtain ⟨nk,hnk⟩:∃ x,x=rd p.cells (k:Int):=⟨_,rfl⟩;have NK:=am hnk;clear hnk;obtain ⟨adc,hac,-⟩:=Kd.at_int HCL.out (k:Int) q0 q1;cases hac;go_wp2;refine st9 (n:=12) (S:=fun W=>W.heap[gp]? = some (.cells #[.slice (some adc) p.cells.length cc,.slice Ab p.bodies.length cb] 48 (0,0))/\W.heap[gr]? = some (.cells #[.slice none 0 0,.slice none 0 0,.int .i64 0,.slice none 0 0] 27 (0,0))/\W.heap[gs]? = some (.cells #[.slice A lk cA,.slice a1 1 c1,.int .i64 0,.slice a3 0 c3] 27 (0,0))/\(Kd.int .i64).C W (some adc) p.cells.length p.cells) (ds:= [10,11]) (by kernel_rfl) rfl ⟨blk_drew BP.out,blk_drew BR.out,blk_drew BS.out,Kd.C_below (Kd.C_below HCL.out HB.out) (below_drew (Below.refl _ _))⟩ (fun hHeld=> ?_);have hb:=below_drew (Below.refl wr.heap.size wr);generalize wr.drew=w7 at hb hHeld ⊢;have HB7:=am (below_step HB.out hb);have VC7:=am (Kd.R_below VC.out hb);have VT7:=am (Kd.R_below VT.out hb);have VL7:=am (Kd.R_below VL.out hb);clear hb HB BP BR BS BPc BRc BSc VC VT VL;refine ba9 (fuel:=4) (n:=8) [0,1,2,3,4,5,6,7] (by kernel_rfl) (fun N _ _ _ _ h=>by cases N <;> exact h) hHeld ?_
    iterate 8 (
     refine stillS_step (v:= ?_) (a':= ?_) rfl (Or.inl ⟨by rfl, ?_⟩) ?_ ?_;rotate_left
     ·rintro W ⟨s0,s1,s2,s3⟩
      have t0:=zc8 s0;have t2:=zc8 s2;obtain ⟨ad1,hh,gx⟩:=Kd.at_int s3 (k:Int) q0 q1;cases hh;simp only [Int.toNat_natCast] at gx;rw [<-NK.out] at gx;clear s0 s1 s2 s3;go_simp;with_reducible rfl
     rotate_left
     ·simp only [Act.put,sA,sZ,sS,i64_w]
      rfl)
    refine stillS_nil ?_;refine on9 (i:=8) (N:=some 30) rfl rfl (by kernel_rfl) (by decide) (fun K hK=> ?_);refine value_ (v:=.slice (some ⟨w7.heap.size,0,none⟩) 1 1) (w1:=w7.alloc (.cells #[.int .i64 nk,.int .i64 0,.int .i64 (-1)] 53 (0,0))) (by rfl) rfl (by go_simp<;>rfl) ?_;have hHeld0:=hHeld;refine hK.out _ _ ⟨blk_alloc hHeld.1 _,blk_alloc hHeld.2.1 _,blk_alloc hHeld.2.2.1 _,Kd.C_below hHeld.2.2.2 (below_alloc (Below.refl _ _) _)⟩ (fun hHeld=> ?_);clear hK K;refine norm_ (a':= ?_) ?_ ?_;rotate_left
    ·show Act.put _ (some 30) _=_
     simp only [Act.put,sA,sZ,sS,i64_w];rfl
    refine on9 (i:=9) (N:=some 31) rfl rfl (by kernel_rfl) (by decide) (fun K hK=> ?_);refine Kd.R_append_step kCell (w0:=w) w.heap.size (by rfl) (.tmp 23) (.tmp 30) 23 53 (.agg #[.int .i64 0,.int .i64 0,.int .i64 0]) 24 rfl Try.underlying23 info_cell rfl (by decide) (by decide) (.slice A lk cA) ((p.cells.take k).map fun n=>(⟨n,0,-1⟩:Cell)) (⟨nk,0,-1⟩:Cell) [.int .i64 nk,.int .i64 0,.int .i64 (-1)] (fun _=>True) (fun _=>False) rfl rfl (kCell_mkM (⟨nk,0,-1⟩:Cell)) (fun _ hk=>hk.elim) (fun _ _=>trivial) VC7.out HB7.out HB7.out.size (by rw [List.length_map,List.length_take];omega) ?_;intro v1 w6 hv1 hb6 hg6 hat6;have hgp:some gp ≠ (Value.slice A lk cA).ownBlock:=fun he=>Kd.R_ne VC7.out hHeld0.1 (by decide) he
    have hgr:some gr ≠ (Value.slice A lk cA).ownBlock:=fun he=>Kd.R_ne VC7.out hHeld0.2.1 (by decide) he
    have hgs:some gs ≠ (Value.slice A lk cA).ownBlock:=fun he=>Kd.R_ne VC7.out hHeld0.2.2.1 (by decide) he
    refine hK.out _ _ ⟨blk_grown hHeld0.1 hg6 hgp,blk_grown hHeld0.2.1 hg6 hgr,blk_grown hHeld0.2.2.1 hg6 hgs,Kd.C_below HCL.out hb6⟩ (fun hHeld=> ?_);clear hK K;refine norm_ (a':= ?_) ?_ ?_;rotate_left
    ·show Act.put _ (some 31) _=_
     simp only [Act.put,sA,sZ,sS,i64_w];rfl
    have VT6:=am (R_other VT7.out VC7.out (by decide) hg6);have VL6:=am (R_other VL7.out VC7.out (by decide) hg6);have V:=am hv1;have HB6:=am hb6;have BP:=am hHeld.1;have BR:=am hHeld.2.1;have BS:=am hHeld.2.2.1;clear hHeld hHeld0 hv1 hb6 hg6 hat6 hgp hgr hgs VC7 VT7 VL7 HB7;have BSc:=zc8 BS.out;refine tail_ (fuel:=2) 10 (by kernel_rfl) ?_;simp only [List.drop_succ_cons,List.drop_zero]
    go_wp2_with (first
    |((with_reducible refine gate_store (t:=23) (p:=32) rfl ?_);refine set_ev (u:=v1) rfl rfl _ _ rfl (g:=gs) (off:=0) rfl rfl (R_cells V.out) (R_oneCell V.out) (by kernel_rfl) ⟨⟨_,by rw [zc8 BS.out];rfl⟩,blk_frozen BS.out _⟩ ?_;intro wz hwn;have BSz:=am (show wz.heap[gs]? = some (.cells #[v1,.slice a1 1 c1,.int .i64 0,.slice a3 0 c3] 27 (0,0)) by rw [hwn];exact blk_set BS.out 0 v1);have BPz:=am (show wz.heap[gp]? = some (.cells #[.slice (some adc) p.cells.length cc,.slice Ab p.bodies.length cb] 48 (0,0)) by rw [hwn];exact blk_far (p:=⟨gs,0,none⟩) BP.out (blk_ne BP.out BS.out (by decide)) v1);have BRz:=am (show wz.heap[gr]? = some (.cells #[.slice none 0 0,.slice none 0 0,.int .i64 0,.slice none 0 0] 27 (0,0)) by rw [hwn];exact blk_far (p:=⟨gs,0,none⟩) BR.out NRS.out v1);have VCz:=am (show kCell.R 53 wz w.heap.size (fun _=>True) v1 _ by rw [hwn];exact R_set V.out BS.out (by decide) 0 v1);have VTz:=am (show kTask.R 38 wz w.heap.size (fun _=>True) (.slice a1 1 c1) [newTask 0 (-1)] by rw [hwn];exact R_set VT6.out BS.out (by decide) 0 v1);have VLz:=am (show kEntry.R 119 wz w.heap.size (fun _=>True) (.slice a3 0 c3) [] by rw [hwn];exact R_set VL6.out BS.out (by decide) 0 v1);have HBz:=am (show Below w.heap.size w wz by rw [hwn];exact below_set HB6.out LS.out);clear hwn V VT6 VL6 BP BR BS HB6 BSc))
    go_roundw
    case rel=>exact ⟨k+1,by omega,by go_num,v1,⟨by rw [take_map_next _ _ hlt,<-rd_get hlt,<-NK.out];exact VCz.out⟩,VTz,VLz,BPz,BRz,BSz,HBz⟩
    case measure=>simp [intOf];omega
   ·obtain rfl:k=p.cells.length:=by omega
    have q1:¬ (p.cells.length:Int) < (p.cells.length:Int):=by omega
    go_wp2_with (first
    |((with_reducible refine gate_dst (N:=33) rfl ?_);refine wpList_load_mid rfl 27 (.tmp 4) rfl gs 0 rfl _ _ (lC BS.out) Try.underlying27 rfl (by kernel_rfl) ?_)
    |((with_reducible refine gate_store (t:=27) (p:=2) rfl ?_);refine store_block rfl rfl 27 (.tmp 2) (.tmp 33) rfl rfl rfl BR.out rfl (by kernel_rfl) (aB rfl) ?_;intro wz hbox hg;have BZ:=am hbox;have HG:=am hg;have HBz:=am (pw_below_grown HB.out _ HB.out.size hg (fun z hz=>by cases hz;exact LR.out));clear hbox hg))
    have VCz:=am (R_grownT VC.out BR.out (by decide) HG.out);have VTz:=am (R_grownT VT.out BR.out (by decide) HG.out);have VLz:=am (R_grownT VL.out BR.out (by decide) HG.out);have hc:(p.cells.take p.cells.length).map (fun n=>(⟨n,0,-1⟩:Cell))=(sysNew p).cells:=by rw [List.take_length];rfl
    have hl:lk=(sysNew p).cells.length:=by rw [<-hc];exact LK.out
    rw [hc] at VCz;rw [hl] at VCz BZ;refine bodyPost_ret (results_ct Try.results117 _ wz gr 27 #[.slice A (sysNew p).cells.length cA,.slice a1 1 c1,.int .i64 0,.slice a3 0 c3] (0,0) _ rfl BZ.out Try.underlying27 rfl (by kernel_rfl)) rfl ⟨_,_,_,rfl,HBz.out, ?_⟩;refine ⟨fun _=> ?_,fun h=>by cases h⟩;exact ⟨VCz.out,VTz.out,VLz.out⟩
end Go.Proofs.Ytimamoimphjakaa.Eq
